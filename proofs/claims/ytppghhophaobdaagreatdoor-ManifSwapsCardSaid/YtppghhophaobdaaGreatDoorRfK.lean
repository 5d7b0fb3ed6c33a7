/- The reference's disk: Append. -/
import Derived.Test.YtppghhophaobdaaGreatDoorRfJ
import Derived.Lib.QuietBelow
namespace Go.Proofs.YtppghhophaobdaaGreatDoor
open Go.RowKit Go.Maps Go.Sort

set_option maxRecDepth 100000 in
set_option maxHeartbeats 8000000 in
theorem rf_append (w : World) (x g c : Nat) (st : DkSt) (h : IsRf w x g c st) (n y : ByteArray) (hy : y.size ≤ 1099511627776) :
    Calls Tryz.prog 71 #[.pointer (some ⟨x, 0, none⟩), .string n, .string y] w fun e w' => RfOp x g (dkAppend st n.data.toList y.data.toList) w e w' := by
  have H0 := Lib.hid h
  have hle := h.le
  obtain ⟨r, hr⟩ : ∃ r, r = dkAppend st n.data.toList y.data.toList := ⟨_, rfl⟩
  rw [← hr]
  have HR := Lib.hid hr
  have HC := Lib.hid (rf_cases h.ok.fs.sorted n.data.toList)
  clear h hr
  go_enter Tryz.func71, Tryz.ntmps71
  go_wp2_with fail
  refine (rf_find w x g c st H0.out n).mono ?_
  rintro e w1 ⟨rfl, q, hq⟩
  have hb1 : Below w.heap.size w w1 := by rw [hq]; exact rf_drewN (Below.refl _ _) q
  have H1 := Lib.hid (H0.out.pure hb1)
  have B1 := Lib.hid hb1
  clear hq hb1
  cases hd : st.dark
  · rcases HC.out with ⟨hi, hg⟩ | ⟨hi, hlt, hg, hnm⟩
    · have HF := Lib.hid (show r = (st, 5) by rw [HR.out]; unfold dkAppend; rw [if_neg (by simp [hd]), hg])
      rw [rfFind_none hd hi]
      clear hi hg hd
      go_wp2
      go_ret
      exact ⟨ret_int (by rw [HF.out]), by rw [HF.out]; exact RfTo.pure H0.out B1.out⟩
    · have HDL := Lib.hid (del_lt H0.out.ok.fs hg)
      have HNM := Lib.hid (show n.data.toList.length ≤ 24 by rw [← hnm]; exact H0.out.ok.fs.names _ (List.getElem_mem hlt))
      have HSM := Lib.hid (H0.out.ok.fs.small _ (List.getElem_mem hlt))
      have HRR := Lib.hid (show r = if (1048576 : Int) - ((st.fs[atN st.fs n.data.toList].firm.length + st.fs[atN st.fs n.data.toList].pend.length : Nat) : Int) < (y.data.toList.length : Int) ∨ st.cap - (used st.fs : Int) < (y.data.toList.length : Int) then (st, 44)
        else if st.left = 0 then ({ st with dark := true, fs := fsPut st.fs ⟨n.data.toList, st.fs[atN st.fs n.data.toList].firm, st.fs[atN st.fs n.data.toList].pend ++ y.data.toList⟩ }, 45) else ({ st with left := dec st.left, fs := fsPut st.fs ⟨n.data.toList, st.fs[atN st.fs n.data.toList].firm, st.fs[atN st.fs n.data.toList].pend ++ y.data.toList⟩ }, 0) by
        rw [HR.out]; unfold dkAppend; rw [if_neg (by simp [hd]), hg])
      have HAT := Lib.hid (fun (W : World) (st2 : DkSt) (hfs : st2.fs = st.fs) (H : IsRf W x g c st2) => show ∃ a b d : ByteArray, b.data.toList = st.fs[atN st.fs n.data.toList].firm ∧ d.data.toList = st.fs[atN st.fs n.data.toList].pend ∧ W.cell? ⟨g, atN st.fs n.data.toList * 3, none⟩ = some (.string a) ∧ W.cell? ⟨g, atN st.fs n.data.toList * 3 + 1, none⟩ = some (.string b) ∧ W.cell? ⟨g, atN st.fs n.data.toList * 3 + 2, none⟩ = some (.string d) from by
        obtain ⟨a, b, d, _, e2, e3, h1, h2, h3⟩ := H.at (atN st.fs n.data.toList) (by rw [hfs]; exact hlt)
        simp only [hfs] at e2 e3
        exact ⟨a, b, d, e2, e3, h1, h2, h3⟩)
      rw [rfFind_some hd hi]
      generalize hF : st.fs[atN st.fs n.data.toList].firm = F at *
      generalize hP : st.fs[atN st.fs n.data.toList].pend = P at *
      clear hF hP hnm hi hg
      obtain ⟨k0, k1, _, _⟩ := H1.out.cs
      obtain ⟨a, b, d, e2, e3, g1, g2, g3⟩ := HAT.out w1 st rfl H1.out
      have HB2 := Lib.hid e2
      have HD2 := Lib.hid e3
      have HBL := Lib.hid (show b.size = F.length from size_of_list e2)
      have HDE := Lib.hid (show d.size = P.length from size_of_list e3)
      have HYL := Lib.hid (show y.size = y.data.toList.length from (size_toList y).symm)
      have hcap := H0.out.ok.cap1
      have hcap0 := H0.out.ok.cap0
      have hfit := H0.out.ok.fits
      have hsm : b.size + d.size ≤ 1048576 := by have h1 := HSM.out; have h2 := HBL.out; have h3 := HDE.out; omega
      clear e2 e3 g1
      generalize hi0 : atN st.fs n.data.toList = i at *
      clear hi0
      have hii : ((i : Nat) : Int) < ((st.fs.length : Nat) : Int) := by omega
      have hi0 : (0 : Int) ≤ (i : Int) := by omega
      have HWD := Lib.hid hd
      clear hd
      generalize hU : used st.fs = U at *
      have HU := Lib.hid hU
      clear hU
      have q1 : ∀ dd os, Calls Tryz.prog 139 #[.pointer (some ⟨x, 0, none⟩)] (grow (redrawn w1 dd) os) fun e w'' => e = .returned (.int .i64 (U : Int)) ∧ ∃ p : Regrown, w'' = grow (redrawn w1 p.d) p.os := fun dd os => Calls.regrown_of ((rf_used _ x g c st (H1.out.pure (below_regrown w1 dd os))).mono (by rintro e w' ⟨rfl, q, rfl⟩; exact ⟨by rw [HU.out], rf_drewN (Below.refl _ _) q⟩))
      have m0 := cell_regrown k0
      have m1 := cell_regrown k1
      have m2 := cell_regrown g2
      have m3 := cell_regrown g3
      have w1e : IntKind.i64.wrap ((b.size : Int) + (d.size : Int)) = (b.size : Int) + (d.size : Int) := IntWalk.i64_in _ (by omega)
      have w2e : IntKind.i64.wrap ((b.size : Int) + (d.size : Int) + (y.size : Int)) = (b.size : Int) + (d.size : Int) + (y.size : Int) := IntWalk.i64_in _ (by omega)
      have hul : U ≤ 64 * 1048576 := by
        have := used_le H0.out.ok.fs
        have := HU.out
        omega
      have w3e : IntKind.i64.wrap ((U : Int) + (y.size : Int)) = (U : Int) + (y.size : Int) := IntWalk.i64_in _ (by omega)
      by_cases cA : (1048576 : Int) < (b.size : Int) + (d.size : Int) + (y.size : Int)
      · have dA : decide ((1048576 : Int) < (b.size : Int) + (d.size : Int) + (y.size : Int)) = true := by simpa using cA
        have HF := Lib.hid (show r = (st, 44) by rw [HRR.out, if_pos (.inl (by have hb1 := HBL.out; have hb2 := HDE.out; have hb3 := HYL.out; omega))])
        go_wp2_with fail
        refine wp_region_quiet_below (by kernel_rfl) (by kernel_rfl) ?_
        repeat (go_big_quiet_step (first | exact q1 _ _))
        refine wpQuiet_nil ?_
        intro _ hw'
        obtain ⟨⟨dq, osq⟩, hw''⟩ := hw'
        subst hw''
        have HB3 := Lib.hid (below_regrown w1 dq osq)
        have B3 := Lib.hid (B1.out.trans (HB3.out.mono B1.out.size))
        clear q1 m0 m1 m2 m3 k0 k1 g2 g3
        generalize grow (redrawn w1 dq) osq = w3 at *
        go_wp2
        go_ret
        exact ⟨ret_int (by rw [HF.out]), by rw [HF.out]; exact RfTo.pure H0.out B3.out⟩
      · have dA : decide ((1048576 : Int) < (b.size : Int) + (d.size : Int) + (y.size : Int)) = false := by simpa using cA
        by_cases cB : st.cap < (U : Int) + (y.size : Int)
        · have dB : decide (st.cap < (U : Int) + (y.size : Int)) = true := by simpa using cB
          have HF := Lib.hid (show r = (st, 44) by rw [HRR.out, if_pos (.inr (by have hb1 := HBL.out; have hb2 := HDE.out; have hb3 := HYL.out; omega))])
          go_wp2_with fail
          refine wp_region_quiet_below (by kernel_rfl) (by kernel_rfl) ?_
          repeat (go_big_quiet_step (first | exact q1 _ _))
          refine wpQuiet_nil ?_
          intro _ hw'
          obtain ⟨⟨dq, osq⟩, hw''⟩ := hw'
          subst hw''
          have HB3 := Lib.hid (below_regrown w1 dq osq)
          have B3 := Lib.hid (B1.out.trans (HB3.out.mono B1.out.size))
          clear q1 m0 m1 m2 m3 k0 k1 g2 g3
          generalize grow (redrawn w1 dq) osq = w3 at *
          go_wp2
          go_ret
          exact ⟨ret_int (by rw [HF.out]), by rw [HF.out]; exact RfTo.pure H0.out B3.out⟩
        · have dB : decide (st.cap < (U : Int) + (y.size : Int)) = false := by simpa using cB
          have HF := Lib.hid (HRR.out.trans (if_neg (by have hb1 := HBL.out; have hb2 := HDE.out; have hb3 := HYL.out; omega)))
          have HDY := Lib.hid (show (d ++ y).data.toList = P ++ y.data.toList by rw [append_toList, HD2.out])
          have HSZ := Lib.hid (show b.data.toList.length + (d ++ y).data.toList.length ≤ 1048576 by rw [size_toList, HDY.out, List.length_append]; have hb1 := HBL.out; have hb2 := HDE.out; have hb3 := HYL.out; omega)
          have HUS := Lib.hid (show ((used (fsPut st.fs ⟨n.data.toList, b.data.toList, (d ++ y).data.toList⟩) : Nat) : Int) ≤ st.cap by
            rw [used_put]
            show ((b.data.toList.length + (d ++ y).data.toList.length + used (fsDel st.fs n.data.toList) : Nat) : Int) ≤ st.cap
            rw [size_toList, HDY.out, List.length_append]
            have h1 := HDL.out.2
            have h2 := HU.out
            have hb1 := HBL.out; have hb2 := HDE.out; have hb3 := HYL.out; omega)
          have hdy : d.size + y.size ≤ 1048576 := by omega
          go_wp2_with fail
          refine wp_region_quiet_below (by kernel_rfl) (by kernel_rfl) ?_
          repeat (go_big_quiet_step (first | exact q1 _ _))
          refine wpQuiet_nil ?_
          intro _ hw'
          obtain ⟨⟨dq, osq⟩, hw''⟩ := hw'
          subst hw''
          have HB3 := Lib.hid (below_regrown w1 dq osq)
          have B3 := Lib.hid (B1.out.trans (HB3.out.mono B1.out.size))
          clear q1 m0 m1 m2 m3 k0 k1 g2 g3
          generalize grow (redrawn w1 dq) osq = w3 at *
          go_wp2_with fail
          refine (rf_goes w3 x g c st (H1.out.pure HB3.out)).mono ?_
          rintro e w4 ⟨rfl, h4, hf2⟩
          have HF2 := Lib.hid hf2
          clear hf2
          by_cases hl : st.left = 0
          · rw [rfGoes_dark hl] at h4 ⊢
            have H4 := Lib.hid h4
            have HF4 := Lib.hid (show r = ({ { st with dark := true } with fs := fsPut st.fs ⟨n.data.toList, b.data.toList, (d ++ y).data.toList⟩ }, 45) by rw [HF.out, if_pos hl, HDY.out, HB2.out])
            clear h4 hl
            have HOK := Lib.hid (show DkOk { { st with dark := true } with fs := fsPut st.fs ⟨n.data.toList, b.data.toList, (d ++ y).data.toList⟩ } from okPut (st := { st with dark := true }) H4.out.ok ⟨n.data.toList, b.data.toList, (d ++ y).data.toList⟩ HDL.out.1 HSZ.out HNM.out HUS.out)
            obtain ⟨k0, _, _, _⟩ := H4.out.cs
            obtain ⟨a, b', d', e2, e3, g1, g2, g3⟩ := HAT.out w4 { st with dark := true } rfl H4.out
            obtain rfl : b' = b := str_ext (by rw [e2, HB2.out])
            obtain rfl : d' = d := str_ext (by rw [e3, HD2.out])
            clear e2 e3 g1 w1e w2e
            have HDR := Lib.hid (show Below w4.heap.size w4 w4.drew from (Below.refl _ _).drew)
            have R2 := Lib.hid (show RfTo x g w { st with dark := true } w4.drew from ⟨g, c, H4.out.pure HDR.out, .inl rfl, ((Fr.pure B3.out).then HF2.out (fun _ _ e => .inl e)).andPure HDR.out⟩)
            go_wp2_with fail
            go_region_with (go_at_call 138; refine (rf_put w4.drew x g c { st with dark := true } (H4.out.pure HDR.out) n b' (d' ++ y) HOK.out).mono ?_; rintro e w5 ⟨rfl, h5⟩; have H5 := Lib.hid h5; clear h5)
            all_goals
              go_wp2
              go_ret
              exact ⟨ret_int (by rw [HF4.out]), by rw [HF4.out]; exact R2.out.trans2 H5.out⟩
          · rw [rfGoes_goes hl] at h4 ⊢
            have H4 := Lib.hid h4
            have HF4 := Lib.hid (show r = ({ { st with left := dec st.left } with fs := fsPut st.fs ⟨n.data.toList, b.data.toList, (d ++ y).data.toList⟩ }, 0) by rw [HF.out, if_neg hl, HDY.out, HB2.out])
            clear h4 hl
            have HOK := Lib.hid (show DkOk { { st with left := dec st.left } with fs := fsPut st.fs ⟨n.data.toList, b.data.toList, (d ++ y).data.toList⟩ } from okPut (st := { st with left := dec st.left }) H4.out.ok ⟨n.data.toList, b.data.toList, (d ++ y).data.toList⟩ HDL.out.1 HSZ.out HNM.out HUS.out)
            obtain ⟨k0, _, _, _⟩ := H4.out.cs
            obtain ⟨a, b', d', e2, e3, g1, g2, g3⟩ := HAT.out w4 { st with left := dec st.left } rfl H4.out
            obtain rfl : b' = b := str_ext (by rw [e2, HB2.out])
            obtain rfl : d' = d := str_ext (by rw [e3, HD2.out])
            clear e2 e3 g1 w1e w2e
            have HDR := Lib.hid (show Below w4.heap.size w4 w4.drew from (Below.refl _ _).drew)
            have R2 := Lib.hid (show RfTo x g w { st with left := dec st.left } w4.drew from ⟨g, c, H4.out.pure HDR.out, .inl rfl, ((Fr.pure B3.out).then HF2.out (fun _ _ e => .inl e)).andPure HDR.out⟩)
            go_wp2_with fail
            go_region_with (go_at_call 138; refine (rf_put w4.drew x g c { st with left := dec st.left } (H4.out.pure HDR.out) n b' (d' ++ y) HOK.out).mono ?_; rintro e w5 ⟨rfl, h5⟩; have H5 := Lib.hid h5; clear h5)
            all_goals
              go_wp2
              go_ret
              exact ⟨ret_int (by rw [HF4.out]), by rw [HF4.out]; exact R2.out.trans2 H5.out⟩
  · have HF := Lib.hid (show r = (st, 45) by rw [HR.out]; unfold dkAppend; rw [if_pos hd])
    rw [rfFind_dark hd]
    clear hd
    go_wp2
    go_ret
    exact ⟨ret_int (by rw [HF.out]), by rw [HF.out]; exact RfTo.pure H0.out B1.out⟩
end Go.Proofs.YtppghhophaobdaaGreatDoor

/- The reference's disk: Sync, Append, Rename. -/
import Derived.Test.YtppghhophaobdaaGreatDoorRfI
import Derived.Test.YtppghhophaobdaaGreatDoorDk9
import Derived.StillTailTactics
namespace Go.Proofs.YtppghhophaobdaaGreatDoor
open Go.RowKit Go.Maps Go.Sort

theorem del_lt {fs : Fs} (h : FsOk fs) {n : List UInt8} {f : FileS} (hg : fsGet fs n = some f) : (fsDel fs n).length < 64 ∧ used (fsDel fs n) + (f.firm.length + f.pend.length) = used fs := by
  obtain ⟨h1, h2⟩ := used_del_some (fs_apart h) hg
  have := h.few
  exact ⟨by omega, h1⟩

set_option maxRecDepth 100000 in
set_option maxHeartbeats 4000000 in
theorem rf_sync (w : World) (x g c : Nat) (st : DkSt) (h : IsRf w x g c st) (n : ByteArray) :
    Calls Tryz.prog 72 #[.pointer (some ⟨x, 0, none⟩), .string n] w fun e w' => RfOp x g (dkSync st n.data.toList) w e w' := by
  have H0 := Lib.hid h
  have hle := h.le
  obtain ⟨r, hr⟩ : ∃ r, r = dkSync st n.data.toList := ⟨_, rfl⟩
  rw [← hr]
  have HR := Lib.hid hr
  have HC := Lib.hid (rf_cases h.ok.fs.sorted n.data.toList)
  clear h hr
  go_enter Tryz.func72, Tryz.ntmps72
  go_wp2_with fail
  refine (rf_find w x g c st H0.out n).mono ?_
  rintro e w1 ⟨rfl, q, hq⟩
  have hb1 : Below w.heap.size w w1 := by rw [hq]; exact rf_drewN (Below.refl _ _) q
  have H1 := Lib.hid (H0.out.pure hb1)
  have B1 := Lib.hid hb1
  clear hq hb1
  cases hd : st.dark
  · rcases HC.out with ⟨hi, hg⟩ | ⟨hi, hlt, hg, hnm⟩
    · have HF := Lib.hid (show r = (st, 5) by rw [HR.out]; unfold dkSync; rw [if_neg (by simp [hd]), hg])
      rw [rfFind_none hd hi]
      clear hi hg hd
      go_wp2
      go_ret
      exact ⟨ret_int (by rw [HF.out]), by rw [HF.out]; exact RfTo.pure H0.out B1.out⟩
    · have HF := Lib.hid (show r = doing st (fsPut st.fs ⟨n.data.toList, st.fs[atN st.fs n.data.toList].firm ++ st.fs[atN st.fs n.data.toList].pend, []⟩) by rw [HR.out]; unfold dkSync; rw [if_neg (by simp [hd]), hg])
      have HDL := Lib.hid (del_lt H0.out.ok.fs hg)
      have HSM := Lib.hid (H0.out.ok.fs.small _ (List.getElem_mem hlt))
      have HNM := Lib.hid (show n.data.toList.length ≤ 24 by rw [← hnm]; exact H0.out.ok.fs.names _ (List.getElem_mem hlt))
      have HAT := Lib.hid (fun (W : World) (st2 : DkSt) (hfs : st2.fs = st.fs) (H : IsRf W x g c st2) => show ∃ a b d : ByteArray, b.data.toList = st.fs[atN st.fs n.data.toList].firm ∧ d.data.toList = st.fs[atN st.fs n.data.toList].pend ∧ W.cell? ⟨g, atN st.fs n.data.toList * 3, none⟩ = some (.string a) ∧ W.cell? ⟨g, atN st.fs n.data.toList * 3 + 1, none⟩ = some (.string b) ∧ W.cell? ⟨g, atN st.fs n.data.toList * 3 + 2, none⟩ = some (.string d) from by
        obtain ⟨a, b, d, _, e2, e3, h1, h2, h3⟩ := H.at (atN st.fs n.data.toList) (by rw [hfs]; exact hlt)
        simp only [hfs] at e2 e3
        exact ⟨a, b, d, e2, e3, h1, h2, h3⟩)
      rw [rfFind_some hd hi]
      have HLT := Lib.hid hlt
      generalize hF : st.fs[atN st.fs n.data.toList].firm = F at *
      generalize hP : st.fs[atN st.fs n.data.toList].pend = P at *
      clear hF hP hnm hi hg hd
      go_wp2_with fail
      refine (rf_goes w1 x g c st H1.out).mono ?_
      rintro e w2 ⟨rfl, h2, hf2⟩
      have HF2 := Lib.hid hf2
      clear hf2
      by_cases hl : st.left = 0
      · rw [rfGoes_dark hl] at h2 ⊢
        have H2 := Lib.hid h2
        have HF3 := Lib.hid (HF.out.trans (doing_dark hl _))
        clear h2 hl
        go_wp2
        go_ret
        exact ⟨ret_int (by rw [HF3.out]), by rw [HF3.out]; exact ⟨g, c, H2.out, .inl rfl, (Fr.pure B1.out).then HF2.out (fun _ _ e => .inl e)⟩⟩
      · rw [rfGoes_goes hl] at h2 ⊢
        have H2 := Lib.hid h2
        have HF3 := Lib.hid (HF.out.trans (doing_goes hl _))
        clear h2 hl
        obtain ⟨k0, _, _, _⟩ := H2.out.cs
        obtain ⟨a, b, d, e2, e3, g1, g2, g3⟩ := HAT.out w2 { st with left := dec st.left } rfl H2.out
        have HOK := Lib.hid (show DkOk { st with left := dec st.left, fs := fsPut st.fs ⟨n.data.toList, F ++ P, []⟩ } from okPut (st := { st with left := dec st.left }) H2.out.ok ⟨n.data.toList, F ++ P, []⟩ HDL.out.1 (by have := HSM.out; simp; omega) HNM.out (by
          rw [used_put]
          show (((F ++ P).length + 0 + used (fsDel st.fs n.data.toList) : Nat) : Int) ≤ st.cap
          have h1 := HDL.out.2
          have h2 := H0.out.ok.fits
          rw [List.length_append]; omega))
        have hbs : b.size + d.size ≤ 1048576 := by rw [size_of_list e2, size_of_list e3]; exact HSM.out
        have HBD := Lib.hid (show (b ++ d).data.toList = F ++ P by rw [append_toList, e2, e3])
        clear e2 e3 g1
        generalize hi0 : atN st.fs n.data.toList = i at *
        clear hi0
        have hii : ((i : Nat) : Int) < ((st.fs.length : Nat) : Int) := by omega
        have hi0 : (0 : Int) ≤ (i : Int) := by omega
        go_wp2_with fail
        have HOK2 := Lib.hid (show DkOk { st with left := dec st.left, fs := fsPut st.fs ⟨n.data.toList, (b ++ d).data.toList, (⟨#[]⟩ : ByteArray).data.toList⟩ } by rw [HBD.out]; exact HOK.out)
        have HF4 := Lib.hid (show r = ({ st with left := dec st.left, fs := fsPut st.fs ⟨n.data.toList, (b ++ d).data.toList, (⟨#[]⟩ : ByteArray).data.toList⟩ }, 0) by rw [HBD.out]; exact HF3.out)
        have HD2 := Lib.hid (show Below w2.heap.size w2 w2.drew from (Below.refl _ _).drew)
        have R2 := Lib.hid (show RfTo x g w { st with left := dec st.left } w2.drew from ⟨g, c, H2.out.pure HD2.out, .inl rfl, ((Fr.pure B1.out).then HF2.out (fun _ _ e => .inl e)).andPure HD2.out⟩)
        go_region_with (go_at_call 138; refine (rf_put w2.drew x g c { st with left := dec st.left } (H2.out.pure HD2.out) n (b ++ d) ⟨#[]⟩ HOK2.out).mono ?_; rintro e w3 ⟨rfl, h3⟩; have H3 := Lib.hid h3; clear h3)
        all_goals
          go_wp2
          go_ret
          exact ⟨ret_int (by rw [HF4.out]), by rw [HF4.out]; exact R2.out.trans2 H3.out⟩
  · have HF := Lib.hid (show r = (st, 45) by rw [HR.out]; unfold dkSync; rw [if_pos hd])
    rw [rfFind_dark hd]
    clear hd
    go_wp2
    go_ret
    exact ⟨ret_int (by rw [HF.out]), by rw [HF.out]; exact RfTo.pure H0.out B1.out⟩
end Go.Proofs.YtppghhophaobdaaGreatDoor

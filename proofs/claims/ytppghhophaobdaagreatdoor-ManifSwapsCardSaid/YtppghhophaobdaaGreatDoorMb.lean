/- The reference's disk: Rename. -/
import Derived.Test.YtppghhophaobdaaGreatDoorRfJ
import Derived.Test.YtppghhophaobdaaGreatDoorMa
import Derived.Test.YtppghhophaobdaaGreatDoorRfM
import Derived.Test.YtppghhophaobdaaGreatDoorSw2
import Derived.Test.YtppghhophaobdaaGreatDoorManP
import Derived.Test.YtppghhophaobdaaGreatDoorRfK
import Derived.Deep.DeepCutAuto
import Derived.BigRegion
import Derived.Test.YtppghhophaobdaaGreatDoorWhP
import Derived.Test.YtppghhophaobdaaGreatDoorMc
namespace Go.Proofs.YtppghhophaobdaaGreatDoor
open Go.RowKit Go.Maps Go.Sort

theorem RfTo.from {w w1 w2 : World} {x g g1 : Nat} {st' : DkSt} (hg1 : g1 = g ∨ w.heap.size ≤ g1) (hf1 : Fr (fun k => k = x ∨ k = g) w w1) (k : RfTo x g1 w1 st' w2) : RfTo x g w st' w2 := by
  obtain ⟨g2, c2, h2, hg2, hf2⟩ := k
  refine ⟨g2, c2, h2, ?_, hf1.then hf2 (fun i hi e => ?_)⟩
  · rcases hg2 with e | e
    · rw [e]; exact hg1
    · exact .inr (Nat.le_trans hf1.size e)
  · rcases e with e | e
    · exact .inl e
    · rcases hg1 with e2 | e2
      · exact .inr (e.trans e2)
      · omega

set_option maxRecDepth 100000 in
set_option maxHeartbeats 4000000 in
theorem rf_rename (w : World) (x g c : Nat) (st : DkSt) (h : IsRf w x g c st) (n m : ByteArray) (hm : m.size ≤ 1000) :
    Calls Tryz.prog 73 #[.pointer (some ⟨x, 0, none⟩), .string n, .string m] w fun e w' => RfOp x g (dkRename st n.data.toList m.data.toList) w e w' := by
  have H0 := Lib.hid h
  have hle := h.le
  obtain ⟨r, hr⟩ : ∃ r, r = dkRename st n.data.toList m.data.toList := ⟨_, rfl⟩
  rw [← hr]
  have HR := Lib.hid hr
  have HC := Lib.hid (rf_cases h.ok.fs.sorted n.data.toList)
  clear h hr
  go_enter Tryz.func73, Tryz.ntmps73
  go_wp2_with fail
  refine (rf_find w x g c st H0.out n).mono ?_
  rintro e w1 ⟨rfl, q, hq⟩
  have hb1 : Below w.heap.size w w1 := by rw [hq]; exact rf_drewN (Below.refl _ _) q
  have H1 := Lib.hid (H0.out.pure hb1)
  have B1 := Lib.hid hb1
  clear hq hb1
  cases hd : st.dark
  · rcases HC.out with ⟨hi, hg⟩ | ⟨hi, hlt, hg, hnm⟩
    · have HF := Lib.hid (show r = (st, 5) by rw [HR.out]; unfold dkRename; rw [if_neg (by simp [hd]), hg])
      rw [rfFind_none hd hi]
      clear hi hg hd
      go_wp2
      go_ret
      exact ⟨ret_int (by rw [HF.out]), by rw [HF.out]; exact RfTo.pure H0.out B1.out⟩
    · have HRR := Lib.hid (show r = if !mayName m.data.toList then (st, 4) else if n.data.toList = m.data.toList then (st, 1) else doing st (fsPut (fsDel st.fs n.data.toList) ⟨m.data.toList, st.fs[atN st.fs n.data.toList].firm, st.fs[atN st.fs n.data.toList].pend⟩) by
        rw [HR.out]; unfold dkRename; rw [if_neg (by simp [hd]), hg])
      have HDL := Lib.hid (del_lt H0.out.ok.fs hg)
      have HSM := Lib.hid (H0.out.ok.fs.small _ (List.getElem_mem hlt))
      have HAT := Lib.hid (fun (W : World) (st2 : DkSt) (hfs : st2.fs = st.fs) (H : IsRf W x g c st2) => show ∃ a b d : ByteArray, b.data.toList = st.fs[atN st.fs n.data.toList].firm ∧ d.data.toList = st.fs[atN st.fs n.data.toList].pend ∧ W.cell? ⟨g, atN st.fs n.data.toList * 3, none⟩ = some (.string a) ∧ W.cell? ⟨g, atN st.fs n.data.toList * 3 + 1, none⟩ = some (.string b) ∧ W.cell? ⟨g, atN st.fs n.data.toList * 3 + 2, none⟩ = some (.string d) from by
        obtain ⟨a, b, d, _, e2, e3, h1, h2, h3⟩ := H.at (atN st.fs n.data.toList) (by rw [hfs]; exact hlt)
        simp only [hfs] at e2 e3
        exact ⟨a, b, d, e2, e3, h1, h2, h3⟩)
      rw [rfFind_some hd hi]
      generalize hF : st.fs[atN st.fs n.data.toList].firm = F at *
      generalize hP : st.fs[atN st.fs n.data.toList].pend = P at *
      have hlt0 := hlt
      clear hF hP hnm hi hg hd
      go_wp2_with fail
      refine (rf_mayName w1 m (by omega)).mono ?_
      rintro e w' ⟨rfl, rfl⟩
      cases hmn : mayName m.data.toList
      · have HF := Lib.hid (show r = (st, 4) by rw [HRR.out, if_pos (by simp [hmn])])
        clear hmn
        go_wp2
        go_ret
        exact ⟨ret_int (by rw [HF.out]), by rw [HF.out]; exact RfTo.pure H0.out B1.out⟩
      · have HMN := Lib.hid (mayName_len hmn)
        by_cases heq : n.data.toList = m.data.toList
        · have HF := Lib.hid (show r = (st, 1) by rw [HRR.out, if_neg (by simp [hmn]), if_pos heq])
          have hbe : (n.toList == m.toList) = true := str_eq_true heq
          clear hmn heq
          go_wp2
          go_ret
          exact ⟨ret_int (by rw [HF.out]), by rw [HF.out]; exact RfTo.pure H0.out B1.out⟩
        · have HF := Lib.hid (show r = doing st (fsPut (fsDel st.fs n.data.toList) ⟨m.data.toList, F, P⟩) by rw [HRR.out, if_neg (by simp [hmn]), if_neg heq])
          have hbe : (n.toList == m.toList) = false := str_eq_false heq
          clear hmn heq
          go_wp2_with fail
          refine (rf_goes w1 x g c st H1.out).mono ?_
          rintro e w2 ⟨rfl, h2, hf2⟩
          have HF2 := Lib.hid hf2
          clear hf2
          by_cases hl : st.left = 0
          · rw [rfGoes_dark hl] at h2 ⊢
            have H2 := Lib.hid h2
            have HF3 := Lib.hid (HF.out.trans (doing_dark hl _))
            clear h2 hl
            go_wp2
            go_ret
            exact ⟨ret_int (by rw [HF3.out]), by rw [HF3.out]; exact ⟨g, c, H2.out, .inl rfl, (Fr.pure B1.out).then HF2.out (fun _ _ e => .inl e)⟩⟩
          · rw [rfGoes_goes hl] at h2 ⊢
            have H2 := Lib.hid h2
            have HF3 := Lib.hid (HF.out.trans (doing_goes hl _))
            clear h2 hl
            obtain ⟨k0, _, _, _⟩ := H2.out.cs
            obtain ⟨a, b, d, e2, e3, g1, g2, g3⟩ := HAT.out w2 { st with left := dec st.left } rfl H2.out
            have HBB := Lib.hid e2
            have HDD := Lib.hid e3
            have R2 := Lib.hid (show RfTo x g w { st with left := dec st.left } w2 from ⟨g, c, H2.out, .inl rfl, (Fr.pure B1.out).then HF2.out (fun _ _ e => .inl e)⟩)
            clear e2 e3
            generalize hi0 : atN st.fs n.data.toList = i at *
            clear hi0
            have hii : ((i : Nat) : Int) < ((st.fs.length : Nat) : Int) := by omega
            have hi0 : (0 : Int) ≤ (i : Int) := by omega
            go_wp2_with fail
            have hbz := box_bz w2 (.cells #[.string a, .string b, .string d] 91)
            have hbx : (w2.alloc (.cells #[.string a, .string b, .string d] 91)).heap[w2.heap.size]? = some (.cells #[.string a, .string b, .string d] 91 (0, 0)) := alloc_at_top _ _ rfl
            have H3 := Lib.hid (H2.out.pure hbz)
            have R3 := Lib.hid (show RfTo x g w2 { st with left := dec st.left } (w2.alloc (.cells #[.string a, .string b, .string d] 91)) from RfTo.pure H2.out hbz)
            have hx2 := H2.out.lt
            have hg2 := H2.out.ltg
            have hsz3 := hbz.size
            have hwl : w.heap.size ≤ w2.heap.size := Nat.le_trans B1.out.size HF2.out.size
            have HBX := Lib.hid hbx
            clear hbz hbx k0 g1 g2 g3
            generalize hw3 : (w2.alloc (.cells #[.string a, .string b, .string d] 91)) = w3 at *
            clear hw3
            generalize hfb : w2.heap.size = fb at *
            have HFB := Lib.hid hfb
            clear hfb
            refine (rf_drop w3 x g c { st with left := dec st.left } H3.out n).mono ?_
            rintro e w4 ⟨rfl, h4⟩
            obtain ⟨g4, c4, h4, hg4, hf4⟩ := h4
            have hbl3 := lt_of_block HBX.out
            have hbx4 := hf4.heapAt HBX.out (fun e => by rcases e with e | e <;> omega)
            have H4 := Lib.hid h4
            have HF4 := Lib.hid hf4
            have hs34 := hf4.size
            clear h4 hf4
            have c40 : w4.cell? ⟨fb, 0, none⟩ = some (.string a) := by rw [cell_of_row _ _ _ _ _ _ hbx4]; rfl
            have c41 : w4.cell? ⟨fb, 1, none⟩ = some (.string b) := by rw [cell_of_row _ _ _ _ _ _ hbx4]; rfl
            have c42 : w4.cell? ⟨fb, 2, none⟩ = some (.string d) := by rw [cell_of_row _ _ _ _ _ _ hbx4]; rfl
            have z40 : w4.frozen? ⟨fb, 0, none⟩ = false := frozen_of_row _ _ _ _ _ hbx4
            have hfx : fb ≠ x := by omega
            have hfg : fb ≠ g4 := by rcases hg4 with e | e <;> omega
            have hbl4 := lt_of_block hbx4
            clear hbx4
            go_wp2_with fail
            have HW4 := Lib.hid (show Fr (fun k => k = x ∨ k = g) w w4 from by
              obtain ⟨_, _, _, _, f1⟩ := R2.out
              obtain ⟨_, _, _, _, f2⟩ := R3.out
              exact (f1.trans f2).trans HF4.out)
            have HW5 := Lib.hid (show Fr (fun k => k = x ∨ k = g) w (w4.setCell ⟨fb, 0, none⟩ (.string m)) from HW4.out.setCell ⟨fb, 0, none⟩ (fun h => by have h2 : fb < w.heap.size := h; have := HFB.out; omega) _)
            have H5 := Lib.hid (show IsRf (w4.setCell ⟨fb, 0, none⟩ (.string m)) x g4 c4 { st with left := dec st.left, fs := fsDel st.fs n.data.toList } from H4.out.kept (setCell_fr (w := w4) ⟨fb, 0, none⟩ _) (fun e => hfx (show fb = x from (show x = fb from e).symm)) (fun e => hfg (show fb = g4 from (show g4 = fb from e).symm)))
            have HOK := Lib.hid (show DkOk { st with left := dec st.left, fs := fsPut (fsDel st.fs n.data.toList) ⟨m.data.toList, b.data.toList, d.data.toList⟩ } from okPut (st := { st with left := dec st.left, fs := fsDel st.fs n.data.toList }) H5.out.ok ⟨m.data.toList, b.data.toList, d.data.toList⟩ (by
                have h1 := length_del (fsDel st.fs n.data.toList) m.data.toList
                have h2 := HDL.out.1
                show (fsDel (fsDel st.fs n.data.toList) m.data.toList).length < 64
                omega) (by rw [HBB.out, HDD.out]; exact HSM.out) HMN.out (by
                rw [used_put]
                show ((b.data.toList.length + d.data.toList.length + used (fsDel (fsDel st.fs n.data.toList) m.data.toList) : Nat) : Int) ≤ st.cap
                rw [HBB.out, HDD.out]
                have h1 := used_del (fsDel st.fs n.data.toList) m.data.toList
                have h2 := HDL.out.2
                have h3 := H0.out.ok.fits
                omega))
            have HF5 := Lib.hid (show r = ({ st with left := dec st.left, fs := fsPut (fsDel st.fs n.data.toList) ⟨m.data.toList, b.data.toList, d.data.toList⟩ }, 0) by rw [HBB.out, HDD.out]; exact HF3.out)
            have HG4 := Lib.hid (show g4 = g ∨ w.heap.size ≤ g4 from hg4.imp id (fun e => by omega))
            clear c40 c41 c42 z40
            generalize (w4.setCell ⟨fb, 0, none⟩ (.string m)) = w5 at *
            refine (rf_put w5 x g4 c4 { st with left := dec st.left, fs := fsDel st.fs n.data.toList } H5.out m b d HOK.out).mono ?_
            rintro e w6 ⟨rfl, h6⟩
            have H6 := Lib.hid h6
            clear h6
            go_wp2
            go_ret
            exact ⟨ret_int (by rw [HF5.out]), by rw [HF5.out]; exact RfTo.from HG4.out HW5.out H6.out⟩
  · have HF := Lib.hid (show r = (st, 45) by rw [HR.out]; unfold dkRename; rw [if_pos hd])
    rw [rfFind_dark hd]
    clear hd
    go_wp2
    go_ret
    exact ⟨ret_int (by rw [HF.out]), by rw [HF.out]; exact RfTo.pure H0.out B1.out⟩
end Go.Proofs.YtppghhophaobdaaGreatDoor

/- The walks of soukref13.Make. -/
namespace Go.Proofs.YtppghhophaobdaaGreatDoor
open Go.RowKit Go.Sort

set_option maxHeartbeats 1000000 in
theorem rf_make_bad (w : World) (g : Int) (sv : Value) (l : Segs) (hs : SegsAt w sv l) (hl : l.length ≤ 1099511627776) (hm : mayB g l = false) :
    Calls Tryz.prog 68 #[.agg #[.int .i64 g, sv]] w fun e w' => e = .returned (.tuple #[.string ⟨#[]⟩, .int .i64 4]) ∧ Below w.heap.size w w' := by
  obtain ⟨a, c, rfl⟩ := hs.shape
  have HS := Lib.hid hs
  have HM := Lib.hid hm
  clear hs hm
  go_enter Tryz.func68, Tryz.ntmps68
  go_wp2_with fail
  refine (rf_may _ g _ l (HS.out.pure ((Below.refl _ _).alloc (Nat.le_refl _) _)) hl).mono ?_
  rintro e w1 ⟨rfl, hb1⟩
  rw [HM.out]
  go_wp2
  go_ret2
  exact ⟨rfl, below_box (hb1.mono (by simp))⟩

/-- A fixed number, as a drawn region's step takes it. -/
theorem rf_fixed_q (k n : Nat) (hn : n < 18446744073709551616) (hk : k ≤ 1000) (x y : Int) (hx : x = (n : Int)) (hy : y = (k : Int)) (w : World) :
    ∀ d os, Calls Tryz.prog 132 #[.int .u64 x, .int .i64 y] (grow (redrawn w d) os) fun e w'' => e = .returned (.string ⟨(be k n).toArray⟩) ∧ ∃ p : Regrown, w'' = grow (redrawn w p.d) p.os :=
  fun d os => by subst hx hy; exact Calls.regrown_of (rf_fixed k n _ hn hk)

set_option maxRecDepth 100000 in
set_option maxHeartbeats 1000000 in
theorem rf_make_ok (w : World) (g : Int) (sv : Value) (l : Segs) (hs : SegsAt w sv l) (hm : mayB g l = true) :
    Calls Tryz.prog 68 #[.agg #[.int .i64 g, sv]] w fun e w' => ∃ r : ByteArray, r.data.toList = Crc.seal_ (manBytes g l) ∧ e = .returned (.tuple #[.string r, .int .i64 0]) ∧ Below w.heap.size w w' := by
  obtain ⟨a, c, rfl⟩ := hs.shape
  obtain ⟨hg0, hg1, hl0, hl1, hall⟩ := mayB_all hm
  obtain ⟨G, rfl⟩ := Int.eq_ofNat_of_zero_le hg0
  have HA := Lib.hid hall
  have HS := Lib.hid hs
  have HM := Lib.hid hm
  clear hs hm hall
  go_enter Tryz.func68, Tryz.ntmps68
  go_wp2_with fail
  refine (rf_may _ (G : Int) _ l (HS.out.pure ((Below.refl _ _).alloc (Nat.le_refl _) _)) (by omega)).mono ?_
  rintro e w1 ⟨rfl, hb1⟩
  rw [HM.out]
  have hsz1 := hb1.size
  simp at hsz1
  have hd0 : w1.cell? ⟨w.heap.size, 0, none⟩ = some (.int .i64 (G : Int)) := by rw [hb1.cell (by simp), World.cell?_alloc_at _ _ _ _ rfl]; rfl
  have hd1 : w1.cell? ⟨w.heap.size, 1, none⟩ = some (.slice a l.length c) := by rw [hb1.cell (by simp), World.cell?_alloc_at _ _ _ _ rfl]; rfl
  have B1 := Lib.hid (below_box (hb1.mono (by simp)))
  have HS1 := Lib.hid (HS.out.pure B1.out)
  have hw1 : w.heap.size < w1.heap.size := by omega
  clear hb1 hsz1
  go_wp2_with fail
  have k0 := cell_regrown hd0
  have k1 := cell_regrown hd1
  have e1 : IntKind.u64.wrap (G : Int) = (G : Int) := IntWalk.u64_in _ (by omega)
  have e2 : IntKind.u64.wrap ((l.length : Nat) : Int) = ((l.length : Nat) : Int) := IntWalk.u64_in _ (by omega)
  have q1 := rf_fixed_q 8 G (by omega) (by omega) (G : Int) 8 rfl rfl w1
  have q2 := rf_fixed_q 2 l.length (by omega) (by omega) ((l.length : Nat) : Int) 2 rfl rfl w1
  obtain ⟨x1, hx1, hxe1⟩ := str_ex (be 8 G)
  obtain ⟨x2, hx2, hxe2⟩ := str_ex (be 2 l.length)
  rw [hxe1] at q1
  rw [hxe2] at q2
  have X1 := Lib.hid hx1
  have X2 := Lib.hid hx2
  have s1 : x1.size ≤ 8 := by rw [size_of_list hx1, be_length]; omega
  have s2 : x2.size ≤ 2 := by rw [size_of_list hx2, be_length]; omega
  clear hx1 hx2 hxe1 hxe2
  refine wp_region_quiet_below (by kernel_rfl) (by kernel_rfl) ?_
  repeat (go_big_quiet_step (first | (with_reducible exact q1 _ _) | (with_reducible exact q2 _ _)))
  refine wpQuiet_nil ?_
  intro _ hw'
  obtain ⟨⟨dq, osq⟩, hw''⟩ := hw'
  subst hw''
  have hb2 := below_regrown w1 dq osq
  have c0 := (hb2.cell (p := ⟨w.heap.size, 0, none⟩) hw1).trans hd0
  have c1 := (hb2.cell (p := ⟨w.heap.size, 1, none⟩) hw1).trans hd1
  have B2 := Lib.hid (B1.out.trans (hb2.mono B1.out.size))
  have HS2 := Lib.hid (HS1.out.pure hb2)
  have hw2 : w.heap.size < (grow (redrawn w1 dq) osq).heap.size := by have := hb2.size; omega
  clear k0 k1 q1 q2 hb2 hd0 hd1 hw1 e1 e2
  generalize grow (redrawn w1 dq) osq = w2 at *
  go_wp2_with fail
  have hq0 : ((⟨#[109, 97, 110, 49]⟩ : ByteArray) ++ x1 ++ x2).data.toList = man1 ++ be 8 G ++ be 2 l.length := by rw [append_toList, append_toList, X1.out, X2.out]; rfl
  generalize hQ0 : ((⟨#[109, 97, 110, 49]⟩ : ByteArray) ++ x1 ++ x2) = Q0 at *
  have HQ0 := Lib.hid hq0
  clear hq0 hQ0
  go_loopw [4, 5] (fun v i wr => ∃ (k : Nat) (q : ByteArray), k ≤ l.length ∧ i = .int .i64 k ∧ v = .string q ∧ q.data.toList = man1 ++ be 8 G ++ be 2 l.length ++ (l.take k).flatMap entBytes ∧ Below w2.heap.size w2 wr) (fun _ i _ => l.length - (intOf i).toNat)
  case atStart => exact ⟨0, Q0, by omega, rfl, rfl, by rw [HQ0.out]; simp, Below.refl _ _⟩
  case round =>
    obtain ⟨k, q, hk, rfl, rfl, hq, hb⟩ := hrel
    have HQ := Lib.hid hq
    have B3 := Lib.hid (B2.out.trans (hb.mono B2.out.size))
    have HS3 := Lib.hid (HS2.out.pure hb)
    have d0 := (hb.cell (p := ⟨w.heap.size, 0, none⟩) hw2).trans c0
    have d1 := (hb.cell (p := ⟨w.heap.size, 1, none⟩) hw2).trans c1
    have hqs : q.size ≤ 1100 := by
      rw [size_of_list hq]
      simp only [List.length_append, be_length, entBytes_length, List.length_take]
      show man1.length + 8 + 2 + _ ≤ _
      have : man1.length = 4 := rfl
      omega
    have HB := Lib.hid hb
    have hw3 : w.heap.size < wr.heap.size := by have := hb.size; omega
    clear hq hb
    by_cases hlt : k < l.length
    · obtain ⟨b, o, rfl, h1, h2, hbl⟩ := HS3.out.at k hlt
      obtain ⟨ha0, ha1, hf0, hf1⟩ := HA.out k hlt
      have HMB := Lib.hid (manBytes_take (G : Int) l k hlt)
      generalize l[k].1 = A at *
      generalize l[k].2 = F at *
      obtain ⟨A, rfl⟩ := Int.eq_ofNat_of_zero_le ha0
      obtain ⟨F, rfl⟩ := Int.eq_ofNat_of_zero_le hf0
      have e1 : IntKind.u64.wrap (A : Int) = (A : Int) := IntWalk.u64_in _ (by omega)
      have e2 : IntKind.u64.wrap (F : Int) = (F : Int) := IntWalk.u64_in _ (by omega)
      have q1 := rf_fixed_q 8 A (by omega) (by omega) (A : Int) 8 rfl rfl wr
      have q2 := rf_fixed_q 8 F (by omega) (by omega) (F : Int) 8 rfl rfl wr
      obtain ⟨x3, hx3, hxe3⟩ := str_ex (be 8 A)
      obtain ⟨x4, hx4, hxe4⟩ := str_ex (be 8 F)
      rw [hxe3] at q1
      rw [hxe4] at q2
      have X3 := Lib.hid hx3
      have X4 := Lib.hid hx4
      have s3 : x3.size ≤ 8 := by rw [size_of_list hx3, be_length]; omega
      have s4 : x4.size ≤ 8 := by rw [size_of_list hx4, be_length]; omega
      clear hx3 hx4 hxe3 hxe4 ha0 hf0
      have k1 := cell_regrown d1
      have k2 := cell_regrown h1
      have k3 := cell_regrown h2
      go_wp2_with fail
      refine wp_region_quiet_below (by kernel_rfl) (by kernel_rfl) ?_
      repeat (go_big_quiet_step (first | (with_reducible exact q1 _ _) | (with_reducible exact q2 _ _)))
      refine wpQuiet_nil ?_
      intro _ hw'
      obtain ⟨⟨dq, osq⟩, hw''⟩ := hw'
      subst hw''
      have hb4 := below_regrown wr dq osq
      have B4 := Lib.hid (HB.out.trans (hb4.mono HB.out.size))
      clear k1 k2 k3 q1 q2 hb4 e1 e2
      generalize grow (redrawn wr dq) osq = w4 at *
      go_wp2
      go_roundw
      case rel => exact ⟨k + 1, _, by omega, by go_num, rfl, by rw [append_toList, append_toList, HQ.out, X3.out, X4.out]; exact HMB.out, B4.out⟩
      case measure => simp [intOf]; omega
    · obtain rfl : k = l.length := by omega
      go_wp2_with fail
      refine (rf_seal q wr (by unfold maxLen; omega)).mono ?_
      rintro e w5 ⟨r, hr, rfl, hb5⟩
      have HR := Lib.hid hr
      have B5 := Lib.hid (B3.out.trans (hb5.mono B3.out.size))
      clear hr hb5
      go_wp2
      go_ret2
      refine ⟨r, ?_, rfl, B5.out⟩
      rw [HR.out, HQ.out, List.take_length]; rfl
end Go.Proofs.YtppghhophaobdaaGreatDoor

/- The walk of soukref13.number; and what its Read comes to, plain. -/
namespace Go.Proofs.YtppghhophaobdaaGreatDoor
open Go.RowKit Go.Sort

set_option maxRecDepth 100000 in
set_option maxHeartbeats 1000000 in
theorem rf_number (s : ByteArray) (w : World) (hs : s.size ≤ 8) :
    Calls Tryz.prog 143 #[.string s] w fun e w' => e = .returned (.int .i64 (i64 (val s.data.toList))) ∧ w = w' := by
  go_enter Tryz.func143, Tryz.ntmps143
  go_wp2
  go_loop [3, 4] (fun v i => ∃ (k n : Nat), k ≤ s.size ∧ i = .int .i64 k ∧ v = .int .u64 (n : Int) ∧ n = val (s.data.toList.take k)) (fun _ i => s.size - (intOf i).toNat)
  case atStart => exact ⟨0, 0, by omega, rfl, rfl, rfl⟩
  case round =>
    obtain ⟨k, n, hk, rfl, rfl, hn⟩ := hrel
    by_cases hlt : k < s.size
    · have hb7 : n < 72057594037927936 := by rw [hn]; exact val_lt7 (by rw [List.length_take]; omega)
      have HO := Lib.hid (or_byte n s[k] hb7)
      have HN := Lib.hid hn
      clear hn
      go_wp2
      go_round
      case rel => exact ⟨k + 1, n * 256 + s[k].toNat, by omega, by go_num, by rw [HO.out], by rw [val_take_succ s k hlt, HN.out]⟩
      case measure => simp [intOf]; omega
    · have HN := Lib.hid hn
      clear hn
      go_wp2
      go_ret
      exact ⟨ret_int (by rw [HN.out, List.take_of_length_le (by rw [size_toList]; omega)]; unfold i64; rw [← wrapI]), rfl⟩

/-- The segments as the reference cuts them out of bytes. -/
def posEnts (t : List UInt8) : Nat → Nat → Segs
  | 0, _ => []
  | n + 1, i => (i64 (val ((t.drop i).take 8)), i64 (val ((t.drop (i + 8)).take 8))) :: posEnts t n (i + 16)
def posGen (t : List UInt8) : Int := i64 (val ((t.drop 4).take 8))
def posSegs (t : List UInt8) : Segs := posEnts t ((t.length - 14) / 16) 14
theorem posEnts_snoc (t : List UInt8) (n i : Nat) : posEnts t (n + 1) i = posEnts t n i ++ [(i64 (val ((t.drop (i + 16 * n)).take 8)), i64 (val ((t.drop (i + 16 * n + 8)).take 8)))] := by
  induction n generalizing i with
  | zero => simp [posEnts]
  | succ n ih =>
    rw [posEnts, ih (i + 16), posEnts]
    simp only [List.cons_append]
    rw [show i + 16 + 16 * n = i + 16 * (n + 1) from by omega]
theorem posEnts_at {t : List UInt8} : ∀ {l : Segs} {i : Nat} {rest : List UInt8}, Small l → t.drop i = l.flatMap entBytes ++ rest → posEnts t l.length i = l
  | [], _, _, _, _ => rfl
  | (x, y) :: l, i, rest, hs, ht => by
    have h0 := hs 0 (by simp)
    simp only [List.getElem_cons_zero] at h0
    obtain ⟨hx0, hx1, hy0, hy1⟩ := h0
    obtain ⟨x, rfl⟩ := Int.eq_ofNat_of_zero_le hx0
    obtain ⟨y, rfl⟩ := Int.eq_ofNat_of_zero_le hy0
    have e1 : t.drop i = be 8 x ++ (be 8 y ++ (l.flatMap entBytes ++ rest)) := by rw [ht]; simp [entBytes, List.append_assoc]
    have e2 : t.drop (i + 8) = be 8 y ++ (l.flatMap entBytes ++ rest) := by rw [← List.drop_drop, e1, List.drop_left' (be_length 8 x)]
    have e3 : t.drop (i + 16) = l.flatMap entBytes ++ rest := by rw [show i + 16 = i + 8 + 8 from rfl, ← List.drop_drop, e2, List.drop_left' (be_length 8 y)]
    rw [List.length_cons, posEnts, e1, e2, List.take_left' (be_length 8 x), List.take_left' (be_length 8 y), val_be 8 x (by omega), val_be 8 y (by omega), i64_of (by omega), i64_of (by omega), posEnts_at hs.tail e3]
theorem pos_of_make {g : Int} {l : Segs} (h : mayB g l = true) : posGen (manBytes g l) = g ∧ posSegs (manBytes g l) = l ∧ (manBytes g l).length = 14 + 16 * l.length := by
  obtain ⟨hg0, hg1, hl0, hl1, hall⟩ := mayB_all h
  obtain ⟨g, rfl⟩ := Int.eq_ofNat_of_zero_le hg0
  have hlen : (manBytes (g : Int) l).length = 14 + 16 * l.length := manBytes_length _ _
  refine ⟨?_, ?_, hlen⟩
  · unfold posGen
    have e : (manBytes (g : Int) l).drop 4 = be 8 g ++ (be 2 l.length ++ l.flatMap entBytes) := by unfold manBytes man1; simp
    rw [e, List.take_left' (be_length 8 g), val_be 8 g (by omega), i64_of (by omega)]
  · unfold posSegs
    rw [hlen, show (14 + 16 * l.length - 14) / 16 = l.length from by omega]
    refine posEnts_at (rest := []) (small_of_may h) ?_
    have e : manBytes (g : Int) l = (man1 ++ be 8 g ++ be 2 l.length) ++ l.flatMap entBytes := rfl
    rw [e, List.append_nil]
    exact List.drop_left' (by simp [man1, be_length])
/-- What the reference's Read tells of bytes that are sealed: just what the program's does. -/
theorem pos_parse (t : List UInt8) : parseMan t = if t.length < 14 ∨ (t.length - 14) % 16 ≠ 0 then none else if mayB (posGen t) (posSegs t) = true ∧ manBytes (posGen t) (posSegs t) = t then some (posGen t, posSegs t) else none := by
  cases hp : parseMan t with
  | some r =>
    obtain ⟨g, l⟩ := r
    obtain ⟨hm, hb⟩ := make_parse hp
    obtain ⟨h1, h2, h3⟩ := pos_of_make hm
    rw [hb] at h1 h2 h3
    rw [if_neg (by omega), h1, h2, if_pos ⟨hm, hb⟩]
  | none =>
    split
    · rfl
    · split
      · rename_i hc
        obtain ⟨hm, hb⟩ := hc
        have := parse_make hm
        rw [hb, hp] at this
        cases this
      · rfl
theorem seal_inj {a b : List UInt8} (h : Crc.seal_ a = Crc.seal_ b) : a = b := by
  have hl : a.length = b.length := by have := congrArg List.length h; rw [Crc.seal_length, Crc.seal_length] at this; omega
  unfold Crc.seal_ at h
  exact (List.append_inj h hl).1
end Go.Proofs.YtppghhophaobdaaGreatDoor

/- The walk of soukref13.Swap. -/
namespace Go.Proofs.YtppghhophaobdaaGreatDoor
open Go.RowKit Go.Maps Go.Sort

/-- What the reference's Swap does with a disk, from each step on. -/
def rfA4 (st : DkSt) : DkSt × Int := if (dkSync st freshN).2 ≠ 0 then dkSync st freshN else dkRename (dkSync st freshN).1 freshN fileN
def rfFull (st : DkSt) : DkSt × Int := if (dkDelete st freshN).2 ≠ 0 then dkDelete st freshN else ((dkDelete st freshN).1, 44)
def rfA3 (s : List UInt8) (st : DkSt) : DkSt × Int := if (dkAppend st freshN s).2 = 44 then rfFull (dkAppend st freshN s).1 else if (dkAppend st freshN s).2 ≠ 0 then dkAppend st freshN s else rfA4 (dkAppend st freshN s).1
def rfA2 (s : List UInt8) (st : DkSt) : DkSt × Int := if (dkCreate st freshN).2 ≠ 0 then dkCreate st freshN else rfA3 s (dkCreate st freshN).1
def rfSwapF (s : List UInt8) (st : DkSt) : DkSt × Int := if (dkDelete st freshN).2 ≠ 0 ∧ (dkDelete st freshN).2 ≠ 5 then dkDelete st freshN else rfA2 s (dkDelete st freshN).1
def rfSwap (st : DkSt) (g : Int) (l : Segs) : DkSt × Int := if mayB g l then rfSwapF (Crc.seal_ (manBytes g l)) st else (st, 4)

theorem RfOp.from {w w1 : World} {x g g1 : Nat} {r : DkSt × Int} {e : Ending} {w' : World} (hg1 : g1 = g ∨ w.heap.size ≤ g1) (hf1 : Fr (fun k => k = x ∨ k = g) w w1) (k : RfOp x g1 r w1 e w') : RfOp x g r w e w' := ⟨k.1, RfTo.from hg1 hf1 k.2⟩
/-- How far a way has come: where the files lie now. -/
structure RfAt (x g : Nat) (w w1 : World) (g1 : Nat) : Prop where
  gg : g1 = g ∨ w.heap.size ≤ g1
  fr : Fr (fun k => k = x ∨ k = g) w w1
theorem RfAt.next {x g g1 : Nat} {w w1 w2 : World} {st : DkSt} (h : RfAt x g w w1 g1) (k : RfTo x g1 w1 st w2) : ∃ g2 c2, IsRf w2 x g2 c2 st ∧ RfAt x g w w2 g2 := by
  obtain ⟨g2, c2, h2, hg2, hf2⟩ := k
  have := RfTo.from h.gg h.fr ⟨g2, c2, h2, hg2, hf2⟩
  refine ⟨g2, c2, h2, ?_, h.fr.then hf2 (fun i hi e => ?_)⟩
  · rcases hg2 with e | e
    · rw [e]; exact h.gg
    · exact .inr (Nat.le_trans h.fr.size e)
  · rcases e with e | e
    · exact .inl e
    · rcases h.gg with e2 | e2
      · exact .inr (e.trans e2)
      · omega
theorem RfAt.to {x g g1 c1 : Nat} {w w1 : World} {st : DkSt} (h : RfAt x g w w1 g1) (k : IsRf w1 x g1 c1 st) : RfTo x g w st w1 := ⟨g1, c1, k, h.gg, h.fr⟩

set_option maxRecDepth 100000 in
set_option maxHeartbeats 4000000 in
theorem rf_swap (w : World) (x g c : Nat) (st : DkSt) (h : IsRf w x g c st) (G : Int) (sv : Value) (l : Segs) (hs : SegsAt w sv l) (hl : l.length ≤ 1099511627776) :
    Calls Tryz.prog 16 #[.pointer (some ⟨x, 0, none⟩), .agg #[.int .i64 G, sv]] w fun e w' => RfOp x g (rfSwap st G l) w e w' := by
  have hbz : Below w.heap.size w (w.alloc (.cells #[.int .i64 G, sv] 25)) := (Below.refl _ _).alloc (Nat.le_refl _) _
  have H0 := Lib.hid h
  have HS := Lib.hid (hs.pure hbz)
  have B0 := Lib.hid hbz
  obtain ⟨r, hr⟩ : ∃ r, r = rfSwap st G l := ⟨_, rfl⟩
  rw [← hr]
  have HR := Lib.hid hr
  clear h hs hbz hr
  cases hm : mayB G l
  · have HF := Lib.hid (show r = (st, 4) by rw [HR.out]; unfold rfSwap; rw [hm]; rfl)
    have HM := Lib.hid hm
    clear hm
    go_enter Tryz.func16, Tryz.ntmps16
    go_wp2_with fail
    refine (rf_make_bad _ G sv l HS.out hl HM.out).mono ?_
    rintro e w1 ⟨rfl, hb1⟩
    have B1 := Lib.hid (B0.out.trans (hb1.mono B0.out.size))
    clear hb1
    go_wp2
    go_ret
    exact ⟨ret_int (by rw [HF.out]), by rw [HF.out]; exact RfTo.pure H0.out B1.out⟩
  · have HF := Lib.hid (show r = rfSwapF (Crc.seal_ (manBytes G l)) st by rw [HR.out]; unfold rfSwap; rw [hm]; rfl)
    have HM := Lib.hid hm
    have hl64 := (mayB_all hm).2.2.2.1
    clear hm
    go_enter Tryz.func16, Tryz.ntmps16
    go_wp2_with fail
    refine (rf_make_ok _ G sv l HS.out HM.out).mono ?_
    rintro e w1 ⟨s, hsd, rfl, hb1⟩
    have B1 := Lib.hid (B0.out.trans (hb1.mono B0.out.size))
    have H1 := Lib.hid (H0.out.pure B1.out)
    have A1 := Lib.hid (show RfAt x g w w1 g from ⟨.inl rfl, Fr.pure B1.out⟩)
    have hss : s.size ≤ 2000 := by rw [size_of_list hsd, Crc.seal_length, manBytes_length]; omega
    rw [← hsd] at HF
    clear hb1 hsd
    go_wp2_with fail
    refine (show Calls Tryz.prog 69 #[.pointer (some ⟨x, 0, none⟩), .string ⟨#[77, 65, 78, 73, 70, 69, 83, 84, 46, 110, 101, 119]⟩] w1 fun e w' => RfOp x g (dkDelete st freshN) w1 e w' from rf_delete w1 x g c st H1.out _).mono ?_
    rintro e w2 ⟨rfl, h2⟩
    obtain ⟨g2, c2, h2, a2⟩ := A1.out.next h2
    have H2 := Lib.hid h2
    have A2 := Lib.hid a2
    clear h2 a2
    by_cases k5 : (dkDelete st freshN).2 ≠ 0 ∧ (dkDelete st freshN).2 ≠ 5
    · have HF2 := Lib.hid (HF.out.trans (show rfSwapF s.data.toList st = dkDelete st freshN from if_pos k5))
      obtain ⟨q0, q5⟩ := k5
      generalize dkDelete st freshN = r1 at *
      have b0 : (r1.2 == 0) = false := by simpa using q0
      have b5 : (r1.2 == 5) = false := by simpa using q5
      have b0' : (r1.2 != 0) = true := by simpa using q0
      have b5' : (r1.2 != 5) = true := by simpa using q5
      go_wp2
      go_ret
      exact ⟨ret_int (by rw [HF2.out]), by rw [HF2.out]; exact A2.out.to H2.out⟩
    · have HF2 := Lib.hid (HF.out.trans (show rfSwapF s.data.toList st = rfA2 s.data.toList (dkDelete st freshN).1 from if_neg k5))
      have q05 : (dkDelete st freshN).2 = 0 ∨ (dkDelete st freshN).2 = 5 := by omega
      generalize dkDelete st freshN = r1 at *
      obtain ⟨s1, code1⟩ := r1
      simp only at q05 H2 HF2 ⊢
      clear k5
      rcases q05 with rfl | rfl
      all_goals
        go_wp2_with fail
        refine (show Calls Tryz.prog 70 #[.pointer (some ⟨x, 0, none⟩), .string ⟨#[77, 65, 78, 73, 70, 69, 83, 84, 46, 110, 101, 119]⟩] w2 fun e w' => RfOp x g2 (dkCreate s1 freshN) w2 e w' from rf_create w2 x g2 c2 s1 H2.out _ (by decide)).mono ?_
        rintro e w3 ⟨rfl, h3⟩
        obtain ⟨g3, c3, h3, a3⟩ := A2.out.next h3
        have H3 := Lib.hid h3
        have A3 := Lib.hid a3
        clear h3 a3
        by_cases k0 : (dkCreate s1 freshN).2 ≠ 0
        · have HF3 := Lib.hid (HF2.out.trans (show rfA2 s.data.toList s1 = dkCreate s1 freshN from if_pos k0))
          generalize dkCreate s1 freshN = r2 at *
          have b0 : (r2.2 == 0) = false := by simpa using k0
          go_wp2
          go_ret
          exact ⟨ret_int (by rw [HF3.out]), by rw [HF3.out]; exact A3.out.to H3.out⟩
        · have HF3 := Lib.hid (HF2.out.trans (show rfA2 s.data.toList s1 = rfA3 s.data.toList (dkCreate s1 freshN).1 from if_neg k0))
          have q0 : (dkCreate s1 freshN).2 = 0 := by omega
          rw [q0]
          generalize (dkCreate s1 freshN).1 = s2 at *
          clear k0 q0
          go_wp2_with fail
          refine (show Calls Tryz.prog 71 #[.pointer (some ⟨x, 0, none⟩), .string ⟨#[77, 65, 78, 73, 70, 69, 83, 84, 46, 110, 101, 119]⟩, .string s] w3 fun e w' => RfOp x g3 (dkAppend s2 freshN s.data.toList) w3 e w' from rf_append w3 x g3 c3 s2 H3.out _ s (by omega)).mono ?_
          rintro e w4 ⟨rfl, h4⟩
          obtain ⟨g4, c4, h4, a4⟩ := A3.out.next h4
          have H4 := Lib.hid h4
          have A4 := Lib.hid a4
          clear h4 a4
          by_cases k44 : (dkAppend s2 freshN s.data.toList).2 = 44
          · have HF4 := Lib.hid (HF3.out.trans (show rfA3 s.data.toList s2 = rfFull (dkAppend s2 freshN s.data.toList).1 from if_pos k44))
            rw [k44]
            generalize (dkAppend s2 freshN s.data.toList).1 = s3 at *
            clear k44
            go_wp2_with fail
            refine (show Calls Tryz.prog 69 #[.pointer (some ⟨x, 0, none⟩), .string ⟨#[77, 65, 78, 73, 70, 69, 83, 84, 46, 110, 101, 119]⟩] w4 fun e w' => RfOp x g4 (dkDelete s3 freshN) w4 e w' from rf_delete w4 x g4 c4 s3 H4.out _).mono ?_
            rintro e w5 ⟨rfl, h5⟩
            obtain ⟨g5, c5, h5, a5⟩ := A4.out.next h5
            have H5 := Lib.hid h5
            have A5 := Lib.hid a5
            clear h5 a5
            by_cases k0 : (dkDelete s3 freshN).2 ≠ 0
            · have HF5 := Lib.hid (HF4.out.trans (show rfFull s3 = dkDelete s3 freshN from if_pos k0))
              generalize dkDelete s3 freshN = r4 at *
              have b0 : (r4.2 == 0) = false := by simpa using k0
              go_wp2
              go_ret
              exact ⟨ret_int (by rw [HF5.out]), by rw [HF5.out]; exact A5.out.to H5.out⟩
            · have HF5 := Lib.hid (HF4.out.trans (show rfFull s3 = ((dkDelete s3 freshN).1, 44) from if_neg k0))
              have q0 : (dkDelete s3 freshN).2 = 0 := by omega
              rw [q0]
              generalize (dkDelete s3 freshN).1 = s4 at *
              clear k0 q0
              go_wp2
              go_ret
              exact ⟨ret_int (by rw [HF5.out]), by rw [HF5.out]; exact A5.out.to H5.out⟩
          · by_cases k0 : (dkAppend s2 freshN s.data.toList).2 ≠ 0
            · have HF4 := Lib.hid (HF3.out.trans (show rfA3 s.data.toList s2 = dkAppend s2 freshN s.data.toList from (if_neg k44).trans (if_pos k0)))
              generalize dkAppend s2 freshN s.data.toList = r3 at *
              have b0 : (r3.2 == 0) = false := by simpa using k0
              have b4 : (r3.2 == 44) = false := by simpa using k44
              go_wp2
              go_ret
              exact ⟨ret_int (by rw [HF4.out]), by rw [HF4.out]; exact A4.out.to H4.out⟩
            · have HF4 := Lib.hid (HF3.out.trans (show rfA3 s.data.toList s2 = rfA4 (dkAppend s2 freshN s.data.toList).1 from (if_neg k44).trans (if_neg k0)))
              have q0 : (dkAppend s2 freshN s.data.toList).2 = 0 := by omega
              rw [q0]
              generalize (dkAppend s2 freshN s.data.toList).1 = s3 at *
              clear k0 q0 k44
              go_wp2_with fail
              refine (show Calls Tryz.prog 72 #[.pointer (some ⟨x, 0, none⟩), .string ⟨#[77, 65, 78, 73, 70, 69, 83, 84, 46, 110, 101, 119]⟩] w4 fun e w' => RfOp x g4 (dkSync s3 freshN) w4 e w' from rf_sync w4 x g4 c4 s3 H4.out _).mono ?_
              rintro e w5 ⟨rfl, h5⟩
              obtain ⟨g5, c5, h5, a5⟩ := A4.out.next h5
              have H5 := Lib.hid h5
              have A5 := Lib.hid a5
              clear h5 a5
              by_cases k0 : (dkSync s3 freshN).2 ≠ 0
              · have HF5 := Lib.hid (HF4.out.trans (show rfA4 s3 = dkSync s3 freshN from if_pos k0))
                generalize dkSync s3 freshN = r4 at *
                have b0 : (r4.2 == 0) = false := by simpa using k0
                go_wp2
                go_ret
                exact ⟨ret_int (by rw [HF5.out]), by rw [HF5.out]; exact A5.out.to H5.out⟩
              · have HF5 := Lib.hid (HF4.out.trans (show rfA4 s3 = dkRename (dkSync s3 freshN).1 freshN fileN from if_neg k0))
                have q0 : (dkSync s3 freshN).2 = 0 := by omega
                rw [q0]
                generalize (dkSync s3 freshN).1 = s4 at *
                clear k0 q0
                go_wp2_with fail
                refine (show Calls Tryz.prog 73 #[.pointer (some ⟨x, 0, none⟩), .string ⟨#[77, 65, 78, 73, 70, 69, 83, 84, 46, 110, 101, 119]⟩, .string ⟨#[77, 65, 78, 73, 70, 69, 83, 84]⟩] w5 fun e w' => RfOp x g5 (dkRename s4 freshN fileN) w5 e w' from rf_rename w5 x g5 c5 s4 H5.out _ _ (by decide)).mono ?_
                rintro e w6 ⟨rfl, h6⟩
                obtain ⟨g6, c6, h6, a6⟩ := A5.out.next h6
                have H6 := Lib.hid h6
                have A6 := Lib.hid a6
                clear h6 a6
                generalize dkRename s4 freshN fileN = r5 at *
                go_wp2
                go_ret
                exact ⟨ret_int (by rw [HF5.out]), by rw [HF5.out]; exact A6.out.to H6.out⟩
end Go.Proofs.YtppghhophaobdaaGreatDoor

/- The walks of soukref13.Read and Load. -/
namespace Go.Proofs.YtppghhophaobdaaGreatDoor
open Go.RowKit Go.Maps Go.Sort

/-- What a Read tells: the manifest of bytes. -/
def readF (s : List UInt8) : Int × Segs × Int := if s.length < 4 then (0, [], 8) else if Crc.seal_ (s.take (s.length - 4)) = s then (match parseMan (s.take (s.length - 4)) with | some (g, l) => (g, l, 0) | none => (0, [], 4)) else (0, [], 42)
def RfRead (r : Int × Segs × Int) (w : World) (e : Ending) (w' : World) : Prop := Below w.heap.size w w' ∧ ∃ v, e = .returned (.tuple #[.agg #[.int .i64 r.1, v], .int .i64 r.2.2]) ∧ OwnSegs w' v r.2.1 ∧ ∀ j, v.ownBlock = some j → w.heap.size ≤ j
theorem own_nil (w : World) : OwnSegs w (.slice none 0 0) [] := World.ownsRow_nil _ _ _ _
theorem rfRead_no {w w' : World} {e : Ending} (c : Int) (h : e = .returned (.tuple #[noMan, .int .i64 c])) (hb : Below w.heap.size w w') : RfRead (0, [], c) w e w' := ⟨hb, .slice none 0 0, h, own_nil _, fun j e => by simp [Value.ownBlock] at e⟩

/-- The program's Read, told so. -/
theorem man_read (s : ByteArray) (w : World) (hs : s.size ≤ 1099511627776) : Calls Tryz.prog 53 #[.string s] w fun e w' => RfRead (readF s.data.toList) w e w' := by
  by_cases h4 : s.size < 4
  · have e1 : readF s.data.toList = (0, [], 8) := if_pos (by rw [size_toList]; exact h4)
    rw [e1]
    exact (read_short s w h4).mono fun e w' h => rfRead_no 8 h.1 h.2
  · by_cases hS : Sealed s.data.toList
    · have e1 : readF s.data.toList = (match parseMan (s.data.toList.take (s.data.toList.length - 4)) with | some (g, l) => (g, l, 0) | none => (0, [], 4)) := (if_neg (by rw [size_toList]; exact h4)).trans (if_pos hS.2)
      refine (read_any s w hs hS _ rfl).mono ?_
      intro e w' h
      unfold ReadPost at h
      obtain ⟨hb, h⟩ := h
      rw [e1, size_toList]
      cases hp : parseMan (s.data.toList.take (s.size - 4)) with
      | none => rw [hp] at h; exact rfRead_no 4 h hb
      | some q =>
        obtain ⟨g, l⟩ := q
        rw [hp] at h
        obtain ⟨v, hv, hvb, he⟩ := h
        exact ⟨hb, v, he, hv, hvb⟩
    · have e1 : readF s.data.toList = (0, [], 42) := (if_neg (by rw [size_toList]; exact h4)).trans (if_neg (fun h => hS ⟨by rw [size_toList]; omega, h⟩))
      rw [e1]
      exact (read_sum s w (by omega) (by unfold maxLen; omega) hS).mono fun e w' h => rfRead_no 42 h.1 h.2

/-- The same, of the reference's. -/
def RfReadM (r : Int × Segs × Int) (w : World) (e : Ending) (w' : World) : Prop := Below w.heap.size w w' ∧ ∃ v, e = .returned (.tuple #[.agg #[.int .i64 r.1, v], .int .i64 r.2.2]) ∧ SegsAt w' v r.2.1 ∧ ∀ j, v.ownBlock = some j → w.heap.size ≤ j
theorem rfReadM_no {w w' : World} {e : Ending} (c : Int) (h : e = .returned (.tuple #[noMan, .int .i64 c])) (hb : Below w.heap.size w w') : RfReadM (0, [], c) w e w' := ⟨hb, .slice none 0 0, h, ⟨none, 0, rfl, .inl rfl⟩, fun j e => by simp [Value.ownBlock] at e⟩
theorem Tryz.infoREntry : (Tryz.prog.info? 117).map (fun i => (i.zero, i.size, i.bytes)) = some (some (.agg #[.int .i64 0, .int .i64 0]), 2, 16) := by kernel_rfl
theorem ents_at {w : World} {b e : Nat} {v : Value} {l : Segs} (h : w.ownsRow b e 2 v l.length (segCells l)) : SegsAt w v l := by
  rcases h.2 with ⟨hv, hn⟩ | ⟨g, cap, cur, hv, hh⟩
  · exact ⟨none, 0, by rw [hv, hn], .inl (List.eq_nil_of_length_eq_zero hn)⟩
  · subst hv
    refine ⟨_, cap, rfl, .inr ⟨g, 0, rfl, fun i hi => ?_⟩⟩
    obtain ⟨h1, h2⟩ := segCells_get l i hi
    rw [Nat.zero_add, World.ownsRow.cellAt h (i * 2) (by omega), World.ownsRow.cellAt h (i * 2 + 1) (by omega)]
    exact ⟨h1, h2⟩
theorem posEnts_length (t : List UInt8) (n i : Nat) : (posEnts t n i).length = n := by
  induction n generalizing i with
  | zero => rfl
  | succ n ih => simp [posEnts, ih]

set_option maxRecDepth 100000 in
set_option maxHeartbeats 8000000 in
theorem rf_readM (s : ByteArray) (w : World) (hs : s.size ≤ 1099511627776) : Calls Tryz.prog 76 #[.string s] w fun e w' => RfReadM (readF s.data.toList) w e w' := by
  have hbz := box_bz w (.cells #[.int .i64 0, .slice none 0 0] 25)
  have hbox : (w.alloc (.cells #[.int .i64 0, .slice none 0 0] 25)).heap[w.heap.size]? = some (.cells #[.int .i64 0, .slice none 0 0] 25 (0, 0)) := alloc_at_top _ _ rfl
  obtain ⟨r, hr⟩ : ∃ r, r = readF s.data.toList := ⟨_, rfl⟩
  rw [← hr]
  have HR := Lib.hid hr
  have HB0 := Lib.hid hbz
  have HX0 := Lib.hid hbox
  clear hr hbz hbox
  by_cases h4 : s.size < 4
  · have HF := Lib.hid (show r = (0, [], 8) by rw [HR.out]; exact if_pos (by rw [size_toList]; exact h4))
    go_enter Tryz.func76, Tryz.ntmps76
    go_wp2_with fail
    refine (rf_open_short s _ h4).mono ?_
    rintro e w1 ⟨rfl, rfl⟩
    go_wp2
    refine bodyPost_ret (v := .tuple #[noMan, .int .i64 8]) (by simp [results, Tryz.results76, go_sem]; rfl) rfl ?_
    rw [HF.out]
    exact rfReadM_no 8 rfl HB0.out
  · have hbo : ∃ bo : Bool, (bo = true ↔ Sealed s.data.toList) := by
      by_cases h : Sealed s.data.toList
      · exact ⟨true, by simp [h]⟩
      · exact ⟨false, by simp [h]⟩
    obtain ⟨bo, hbo⟩ := hbo
    have HBO := Lib.hid hbo
    go_enter Tryz.func76, Tryz.ntmps76
    go_wp2_with fail
    refine (rf_open s _ (by omega) (by unfold maxLen; omega) bo HBO.out).mono ?_
    rintro e w1 ⟨⟨t, ht, rfl⟩, hb1⟩
    have hbx1 := (hb1.block _ (by simp)).trans HX0.out
    have z0 : w1.frozen? ⟨w.heap.size, 0, none⟩ = false := frozen_of_row _ _ _ _ _ hbx1
    have z1 : w1.frozen? ⟨w.heap.size, 1, none⟩ = false := frozen_of_row _ _ _ _ _ hbx1
    have n0 : w1.cell? ⟨w.heap.size, 0, none⟩ = some (.int .i64 0) := by rw [cell_of_row _ _ _ _ _ _ hbx1]; rfl
    have n1 : w1.cell? ⟨w.heap.size, 1, none⟩ = some (.slice none 0 0) := by rw [cell_of_row _ _ _ _ _ _ hbx1]; rfl
    have B1 := Lib.hid (HB0.out.trans (hb1.mono HB0.out.size))
    have HX1 := Lib.hid hbx1
    clear hb1 hbx1 hbo
    cases bo
    · have HF := Lib.hid (show r = (0, [], 42) by
        rw [HR.out]
        refine (if_neg (by rw [size_toList]; exact h4)).trans (if_neg (fun h => ?_))
        have := HBO.out.2 ⟨by rw [size_toList]; omega, h⟩
        cases this)
      clear ht
      go_wp2
      refine bodyPost_ret (v := .tuple #[noMan, .int .i64 42]) (by simp [results, Tryz.results76, go_sem, n0, n1]; rfl) rfl ?_
      rw [HF.out]
      exact rfReadM_no 42 rfl ((B1.out.setCell (p := ⟨w.heap.size, 0, none⟩) (Nat.le_refl _) _).setCell (p := ⟨w.heap.size, 1, none⟩) (Nat.le_refl _) _)
    · have hse := HBO.out.1 rfl
      have HF := Lib.hid (show r = (match parseMan t.data.toList with | some (g, l) => (g, l, 0) | none => (0, [], 4)) by
        rw [HR.out]
        refine (if_neg (by rw [size_toList]; exact h4)).trans ((if_pos hse.2).trans ?_)
        rw [show t.data.toList = s.data.toList.take (s.data.toList.length - 4) from by rw [size_toList]; exact ht])
      have HS := Lib.hid (show Crc.seal_ t.data.toList = s.data.toList by
        rw [show t.data.toList = s.data.toList.take (s.data.toList.length - 4) from by rw [size_toList]; exact ht]; exact hse.2)
      have hts : t.size ≤ 1099511627776 := by
        have := size_of_list ht
        simp only [if_true] at this
        rw [List.length_take, size_toList] at this
        omega
      have HPP := Lib.hid (pos_parse t.data.toList)
      clear ht hse
      by_cases hlen : t.size < 14 ∨ (t.size - 14) % 16 ≠ 0
      · have HF2 := Lib.hid (show r = (0, [], 4) by rw [HF.out, HPP.out, if_pos (by rw [size_toList]; exact hlen)])
        by_cases h14 : t.size < 14
        · clear hlen
          go_wp2
          refine bodyPost_ret (v := .tuple #[noMan, .int .i64 4]) (by simp [results, Tryz.results76, go_sem, n0, n1]; rfl) rfl ?_
          rw [HF2.out]
          exact rfReadM_no 4 rfl ((B1.out.setCell (p := ⟨w.heap.size, 0, none⟩) (Nat.le_refl _) _).setCell (p := ⟨w.heap.size, 1, none⟩) (Nat.le_refl _) _)
        · have hmod : (((t.size : Int) - 14) % 16 == 0) = false := by
            have : ((t.size : Int) - 14) % 16 ≠ 0 := by omega
            simpa using this
          have hmod2 : (((t.size : Int) - 14) % 16 != 0) = true := by
            have : ((t.size : Int) - 14) % 16 ≠ 0 := by omega
            simpa using this
          clear hlen
          go_wp2
          refine bodyPost_ret (v := .tuple #[noMan, .int .i64 4]) (by simp [results, Tryz.results76, go_sem, n0, n1]; rfl) rfl ?_
          rw [HF2.out]
          exact rfReadM_no 4 rfl ((B1.out.setCell (p := ⟨w.heap.size, 0, none⟩) (Nat.le_refl _) _).setCell (p := ⟨w.heap.size, 1, none⟩) (Nat.le_refl _) _)
      · have h14 : 14 ≤ t.size := by omega
        have hmod : (((t.size : Int) - 14) % 16 == 0) = true := by
          have : ((t.size : Int) - 14) % 16 = 0 := by omega
          simpa using this
        have hmod2 : (((t.size : Int) - 14) % 16 != 0) = false := by
          have : ((t.size : Int) - 14) % 16 = 0 := by omega
          simpa using this
        have HLEN := Lib.hid hlen
        clear hlen
        have HG := Lib.hid (show i64 (val (t.extract 4 12).data.toList) = posGen t.data.toList by rw [cut_list]; rfl)
        go_wp2_with fail
        refine (rf_number (t.extract 4 12) w1 (by rw [cut_size _ _ _ (by omega) (by omega)]; decide)).mono ?_
        rintro e w' ⟨rfl, rfl⟩
        rw [HG.out]
        generalize hgen : posGen t.data.toList = G at *
        obtain ⟨N, hN⟩ : ∃ N, N = (t.size - 14) / 16 := ⟨_, rfl⟩
        have hNs : 14 + 16 * N = t.size := by have := HLEN.out; omega
        have HPS := Lib.hid (show posSegs t.data.toList = posEnts t.data.toList N 14 by unfold posSegs; rw [size_toList, hN])
        clear hgen hN
        go_wp2_with fail
        obtain ⟨m, hm⟩ : ∃ m, m = w1.heap.size := ⟨_, rfl⟩
        have hbz := box_bz w1 (.cells #[.int .i64 G, .slice none 0 0] 25)
        have hmx : (w1.alloc (.cells #[.int .i64 G, .slice none 0 0] 25)).heap[m]? = some (.cells #[.int .i64 G, .slice none 0 0] 25 (0, 0)) := alloc_at_top _ _ hm
        have B2 := Lib.hid (B1.out.trans (hbz.mono B1.out.size))
        have HX2 := Lib.hid ((hbz.block _ (lt_of_block HX1.out)).trans HX1.out)
        have hmw : w.heap.size < m := by rw [hm]; exact lt_of_block HX1.out
        have HMX := Lib.hid hmx
        rw [← hm]
        clear hbz hm hmx n0 n1 z0 z1
        generalize (w1.alloc (.cells #[.int .i64 G, .slice none 0 0] 25)) = w2 at *
        go_loopw [7] (fun i wr => ∃ (k : Nat) (v : Value), i = .int .i64 ((14 + 16 * k : Nat) : Int) ∧ k ≤ N ∧ wr.heap[m]? = some (.cells #[.int .i64 G, v] 25 (0, 0)) ∧ wr.ownsRow (m + 1) 117 2 v k (segCells (posEnts t.data.toList k 14)) ∧ Below m w2 wr) (fun i _ => t.size - (intOf i).toNat)
        case atStart => exact ⟨0, .slice none 0 0, rfl, by omega, HMX.out, World.ownsRow_nil _ _ _ _, Below.refl _ _⟩
        case round =>
          obtain ⟨k, v, rfl, hk, hbox, hown, hb⟩ := hrel
          have hml : m < wr.heap.size := lt_of_block hbox
          obtain ⟨a0, n0, c0, rfl⟩ := own_shape hown
          have q1 : wr.cell? ⟨m, 1, none⟩ = some (.slice a0 n0 c0) := by rw [cell_of_row _ _ _ _ _ _ hbox]; rfl
          have q0 : wr.cell? ⟨m, 0, none⟩ = some (.int .i64 G) := by rw [cell_of_row _ _ _ _ _ _ hbox]; rfl
          have z1 : wr.frozen? ⟨m, 1, none⟩ = false := frozen_of_row _ _ _ _ _ hbox
          have HBX := Lib.hid hbox
          have HO := Lib.hid hown
          have HB := Lib.hid hb
          have HFAR := Lib.hid (show ∀ j, (Value.slice a0 n0 c0).ownBlock = some j → m + 1 ≤ j from fun j e => own_ge hown e)
          clear hbox hown hb
          by_cases hlt : k < N
          · obtain ⟨I, hI⟩ : ∃ I, I = 14 + 16 * k := ⟨_, rfl⟩
            rw [← hI]
            have hIle : I + 16 ≤ t.size := by omega
            have HIK := Lib.hid hI
            have HSN := Lib.hid (posEnts_snoc t.data.toList k 14)
            clear hI
            have HX := Lib.hid (show i64 (val (t.extract I (I + 8)).data.toList) = i64 (val ((t.data.toList.drop (14 + 16 * k)).take 8)) by rw [cut_list, ← HIK.out, show I + 8 - I = 8 from by omega])
            have HY := Lib.hid (show i64 (val (t.extract (I + 8) (I + 16)).data.toList) = i64 (val ((t.data.toList.drop (14 + 16 * k + 8)).take 8)) by rw [cut_list, ← HIK.out, show I + 16 - (I + 8) = 8 from by omega])
            have HXS := Lib.hid (show (t.extract I (I + 8)).size ≤ 8 by rw [cut_size _ _ _ (by omega) (by omega)]; omega)
            have HYS := Lib.hid (show (t.extract (I + 8) (I + 16)).size ≤ 8 by rw [cut_size _ _ _ (by omega) (by omega)]; omega)
            have hi0 : (0 : Int) ≤ (I : Int) := by omega
            have hi8 : IntKind.i64.wrap ((I : Int) + 8) = (I : Int) + 8 := IntWalk.i64_in _ (by omega)
            have hi16 : IntKind.i64.wrap ((I : Int) + 16) = (I : Int) + 16 := IntWalk.i64_in _ (by omega)
            have hn8 : ((I : Int) + 8).toNat = I + 8 := by omega
            have hn16 : ((I : Int) + 16).toNat = I + 16 := by omega
            have hp8 : (0 : Int) ≤ (I : Int) + 8 := by omega
            have hle8 : (I : Int) + 8 ≤ (t.size : Int) := by omega
            have hle16 : (I : Int) + 16 ≤ (t.size : Int) := by omega
            have hlt0 : (I : Int) < (t.size : Int) := by omega
            have hII8 : (I : Int) ≤ (I : Int) + 8 := by omega
            have h816 : (I : Int) + 8 ≤ (I : Int) + 16 := by omega
            have hp16 : (0 : Int) ≤ (I : Int) + 16 := by omega
            obtain ⟨i0, hi, hz0, hz1, hz2⟩ := info_parts Tryz.infoREntry
            have HI := Lib.hid hi
            have HZ0 := Lib.hid hz0
            have HZ1 := Lib.hid hz1
            have HZ2 := Lib.hid hz2
            have HN64 := Lib.hid (show k ≤ 1000000000000 by omega)
            clear hi hz0 hz1 hz2
            go_wp2_with fail
            obtain ⟨X, hX⟩ : ∃ X, X = i64 (val (t.extract I (I + 8)).data.toList) := ⟨_, rfl⟩
            obtain ⟨Y, hY⟩ : ∃ Y, Y = i64 (val (t.extract (I + 8) (I + 16)).data.toList) := ⟨_, rfl⟩
            have HCX := Lib.hid (show ∀ W, Calls Tryz.prog 143 #[.string (t.extract I (I + 8))] W fun e w' => e = .returned (.int .i64 X) ∧ W = w' from fun W => by rw [hX]; exact rf_number _ W HXS.out)
            have HCY := Lib.hid (show ∀ W, Calls Tryz.prog 143 #[.string (t.extract (I + 8) (I + 16))] W fun e w' => e = .returned (.int .i64 Y) ∧ W = w' from fun W => by rw [hY]; exact rf_number _ W HYS.out)
            have HSN2 := Lib.hid (show segCells (posEnts t.data.toList (k + 1) 14) = segCells (posEnts t.data.toList k 14) ++ [.int .i64 X, .int .i64 Y] by rw [HSN.out, segCells_snoc, hX, hY, HX.out, HY.out])
            clear hX hY
            have HO1 := Lib.hid ((World.ownsRow.drew HO.out).alloc (.cells #[.int .i64 X, .int .i64 Y] 117))
            have HBX1 := Lib.hid ((Below.heap_alloc wr.drew (.cells #[.int .i64 X, .int .i64 Y] 117) _ hml).trans HBX.out)
            go_region_law (first
              | (go_simp; go_at_call 143; with_reducible refine (HCX.out _).mono ?_; rintro e w' ⟨rfl, rfl⟩)
              | (go_simp; go_at_call 143; with_reducible refine (HCY.out _).mono ?_; rintro e w' ⟨rfl, rfl⟩)
              | (refine step_append_lies _ (by rfl) _ _ _ (by rfl) (m + 1) 117 i0 _ 2 16 Tryz.underlying23 HI.out HZ0.out HZ1.out HZ2.out rfl (by omega) _ k _ (by rfl) HO1.out ⟨wr.heap.size, 0, none⟩ 1 1 [.int .i64 X, .int .i64 Y] (by rfl) (by rfl) (cells_new rfl rfl) (by simp [Value.oneCell']) (by omega) (by unfold maxLen; omega) (by omega) (by simp; omega) (wr.heap.size + 1) (by simp) ?_; intro gg cap w8 hown8 hgrow8 hat8 hlt8; have hbx8 := (hgrow8.block m (by simp; omega) (fun e => by have := HFAR.out _ e.symm; omega)).trans HBX1.out; have HBX8 := Lib.hid hbx8; have hc8 : w8.cell? ⟨m, 1, none⟩ = some (.slice a0 n0 c0) := (cell_of_row w8 _ 1 _ _ _ hbx8).trans rfl; have hf8 := frozen_of_row w8 _ 1 _ _ hbx8; clear hbx8)
              | fail)
            all_goals go_wp2
            all_goals
              go_roundw
              case rel =>
                have hge := own_ge hown8 (g := gg) rfl
                refine ⟨k + 1, _, by rw [show ((14 + 16 * (k + 1) : Nat) : Int) = (I : Int) + 16 from by have := HIK.out; omega], by omega, heap_setCell_same w8 _ 1 _ _ _ HBX8.out, ?_, ?_⟩
                · refine ownsRow_setCell_other ?_ (by show some gg ≠ some m; intro e; cases e; omega) _
                  rw [HSN2.out]; exact hown8
                · exact (((HB.out.drew).alloc (by simp; omega) _).grown hgrow8 (by simp; omega) (fun j e => by have := HFAR.out j e; omega)).setCell (Nat.le_refl _) _
              case measure => simp [intOf]; omega
          · have hkN : k = N := by omega
            have hko : ¬ ((14 + 16 * k : Nat) : Int) < (t.size : Int) := by omega
            have HSA := Lib.hid (show SegsAt wr (.slice a0 n0 c0) (posSegs t.data.toList) from by
              rw [HPS.out, ← hkN]
              exact ents_at (by rw [posEnts_length]; exact HO.out))
            have HLN := Lib.hid (show (posSegs t.data.toList).length ≤ 1099511627776 by rw [HPS.out, posEnts_length]; omega)
            have hbw : Below w.heap.size w wr := B2.out.trans (HB.out.mono (by omega))
            have hbx := (HB.out.block _ hmw).trans HX2.out
            have BW := Lib.hid hbw
            have HXW := Lib.hid hbx
            have hwl := lt_of_block hbx
            clear hkN hbw hbx
            generalize posSegs t.data.toList = L at *
            obtain ⟨a0', c0', e0⟩ := HSA.out.shape
            cases e0
            cases hmay : mayB G L
            · have HF2 := Lib.hid (show r = (0, [], 4) by rw [HF.out, HPP.out, if_neg (by rw [size_toList]; exact HLEN.out), if_neg (by rw [hmay]; simp)])
              have HMY := Lib.hid hmay
              clear hmay
              go_wp2_with fail
              refine (rf_make_bad wr G (.slice a0 L.length c0) L HSA.out HLN.out HMY.out).mono ?_
              rintro e w5 ⟨rfl, hb5⟩
              have hx5 := (hb5.block _ hwl).trans HXW.out
              have z0 : w5.frozen? ⟨w.heap.size, 0, none⟩ = false := frozen_of_row _ _ _ _ _ hx5
              have z1 : w5.frozen? ⟨w.heap.size, 1, none⟩ = false := frozen_of_row _ _ _ _ _ hx5
              have n0 : w5.cell? ⟨w.heap.size, 0, none⟩ = some (.int .i64 0) := by rw [cell_of_row _ _ _ _ _ _ hx5]; rfl
              have n1 : w5.cell? ⟨w.heap.size, 1, none⟩ = some (.slice none 0 0) := by rw [cell_of_row _ _ _ _ _ _ hx5]; rfl
              have B5 := Lib.hid (BW.out.trans (hb5.mono BW.out.size))
              clear hb5 hx5
              go_wp2
              refine bodyPost_ret (v := .tuple #[noMan, .int .i64 4]) (by simp [results, Tryz.results76, go_sem, n0, n1]; rfl) rfl ?_
              rw [HF2.out]
              exact rfReadM_no 4 rfl ((B5.out.setCell (p := ⟨w.heap.size, 0, none⟩) (Nat.le_refl _) _).setCell (p := ⟨w.heap.size, 1, none⟩) (Nat.le_refl _) _)
            · have HMY := Lib.hid hmay
              clear hmay
              go_wp2_with fail
              refine (rf_make_ok wr G (.slice a0 L.length c0) L HSA.out HMY.out).mono ?_
              rintro e w5 ⟨u, hu, rfl, hb5⟩
              have hx5 := (hb5.block _ hwl).trans HXW.out
              have hm5 := (hb5.block _ hml).trans HBX.out
              have z0 : w5.frozen? ⟨w.heap.size, 0, none⟩ = false := frozen_of_row _ _ _ _ _ hx5
              have z1 : w5.frozen? ⟨w.heap.size, 1, none⟩ = false := frozen_of_row _ _ _ _ _ hx5
              have n0 : w5.cell? ⟨w.heap.size, 0, none⟩ = some (.int .i64 0) := by rw [cell_of_row _ _ _ _ _ _ hx5]; rfl
              have n1 : w5.cell? ⟨w.heap.size, 1, none⟩ = some (.slice none 0 0) := by rw [cell_of_row _ _ _ _ _ _ hx5]; rfl
              have m0 : w5.cell? ⟨m, 0, none⟩ = some (.int .i64 G) := by rw [cell_of_row _ _ _ _ _ _ hm5]; rfl
              have m1 : w5.cell? ⟨m, 1, none⟩ = some (.slice a0 L.length c0) := by rw [cell_of_row _ _ _ _ _ _ hm5]; rfl
              have B5 := Lib.hid (BW.out.trans (hb5.mono BW.out.size))
              have HS5 := Lib.hid (HSA.out.pure hb5)
              have hw5 := lt_of_block hx5
              clear hb5 hx5 hm5
              by_cases hsame : manBytes G L = t.data.toList
              · have HF2 := Lib.hid (show r = (G, L, 0) by rw [HF.out, HPP.out, if_neg (by rw [size_toList]; exact HLEN.out), if_pos ⟨HMY.out, hsame⟩])
                have hcmp : (u.toList == s.toList) = true := str_eq_true (by rw [hu, hsame, HS.out])
                have hcmp2 : (u.toList != s.toList) = false := by rw [bne, hcmp]; rfl
                clear hu hsame
                go_wp2
                refine bodyPost_ret (v := .tuple #[.agg #[.int .i64 G, .slice a0 L.length c0], .int .i64 0]) (by simp [results, Tryz.results76, go_sem, n0, n1]) rfl ?_
                rw [HF2.out]
                refine ⟨(B5.out.setCell (p := ⟨w.heap.size, 0, none⟩) (Nat.le_refl _) _).setCell (p := ⟨w.heap.size, 1, none⟩) (Nat.le_refl _) _, _, rfl, ?_, fun j e => by have := HFAR.out j e; omega⟩
                exact HS5.out.kept (((Fr.refl (fun k => k = w.heap.size) w5).setCell ⟨w.heap.size, 0, none⟩ (fun _ => rfl) _).setCell ⟨w.heap.size, 1, none⟩ (fun _ => rfl) _) (fun j e e2 => by have := HFAR.out j e; omega)
              · have HF2 := Lib.hid (show r = (0, [], 4) by rw [HF.out, HPP.out, if_neg (by rw [size_toList]; exact HLEN.out), if_neg (fun h => hsame h.2)])
                have hcmp : (u.toList == s.toList) = false := str_eq_false (by rw [hu, ← HS.out]; exact fun h => hsame (seal_inj h))
                have hcmp2 : (u.toList != s.toList) = true := by rw [bne, hcmp]; rfl
                clear hu hsame
                go_wp2
                refine bodyPost_ret (v := .tuple #[noMan, .int .i64 4]) (by simp [results, Tryz.results76, go_sem, n0, n1]; rfl) rfl ?_
                rw [HF2.out]
                exact rfReadM_no 4 rfl ((B5.out.setCell (p := ⟨w.heap.size, 0, none⟩) (Nat.le_refl _) _).setCell (p := ⟨w.heap.size, 1, none⟩) (Nat.le_refl _) _)

end Go.Proofs.YtppghhophaobdaaGreatDoor

/- manif.Load and soukref13.Load, told as one function of the disk; souklaw13.is. -/
namespace Go.Proofs.YtppghhophaobdaaGreatDoor
open Go.RowKit Go.Maps Go.Sort

/-- What Load tells of a disk. -/
def loadF (st : DkSt) : Int × Segs × Int := if (dkRead st fileN).2 ≠ 0 then (0, [], (dkRead st fileN).2) else readF (dkRead st fileN).1

theorem dkRead_len {st : DkSt} (h : DkOk st) (n : List UInt8) : (dkRead st n).1.length ≤ 1048576 := by
  unfold dkRead
  split
  · simp
  · cases hg : fsGet st.fs n with
    | none => simp
    | some f =>
      show (f.firm ++ f.pend).length ≤ _
      rw [List.length_append]
      exact h.fs.small f (List.mem_of_find?_eq_some hg)

theorem man_load (w : World) (p b : Nat) (st : DkSt) (h : IsDk w p b st) :
    Calls Tryz.prog 20 #[.pointer (some ⟨p, 0, none⟩)] w fun e w' => RfRead (loadF st) w e w' := by
  refine (load_any w p b st h (fun g l c => (g, l, c) = loadF st) (fun h0 s W hs => ?_) (fun h0 => ?_)).mono ?_
  · have e1 : loadF st = readF s.data.toList := by unfold loadF; rw [if_neg (fun h => h h0), hs]
    rw [e1]
    refine (man_read s W (by rw [size_of_list hs]; have := dkRead_len h.ok fileN; omega)).mono ?_
    rintro e w' ⟨hb, v, he, hv, hvb⟩
    exact ⟨hb, _, _, _, v, rfl, hv, hvb, he⟩
  · unfold loadF; rw [if_pos h0]
  · rintro e w' ⟨hb, c, g, l, v, hP, hv, hvb, he⟩
    rw [← hP]
    exact ⟨hb, v, he, hv, hvb⟩

set_option maxRecDepth 100000 in
set_option maxHeartbeats 2000000 in
theorem rf_loadM (w : World) (x g c : Nat) (st : DkSt) (h : IsRf w x g c st) :
    Calls Tryz.prog 21 #[.pointer (some ⟨x, 0, none⟩)] w fun e w' => RfReadM (loadF st) w e w' := by
  have hbz := box_bz w (.cells #[.int .i64 0, .slice none 0 0] 25)
  have hbox : (w.alloc (.cells #[.int .i64 0, .slice none 0 0] 25)).heap[w.heap.size]? = some (.cells #[.int .i64 0, .slice none 0 0] 25 (0, 0)) := alloc_at_top _ _ rfl
  obtain ⟨r, hr⟩ : ∃ r, r = loadF st := ⟨_, rfl⟩
  rw [← hr]
  have HR := Lib.hid hr
  have HB0 := Lib.hid hbz
  have HX0 := Lib.hid hbox
  have H0 := Lib.hid (h.pure hbz)
  have HL := Lib.hid (dkRead_len h.ok fileN)
  clear hr hbz hbox h
  go_enter Tryz.func21, Tryz.ntmps21
  go_wp2_with fail
  refine (show Calls Tryz.prog 75 #[.pointer (some ⟨x, 0, none⟩), .string ⟨#[77, 65, 78, 73, 70, 69, 83, 84]⟩] _ fun e w' => TextPost (dkRead st fileN) _ e w' from rf_read _ x g c st H0.out _).mono ?_
  rintro e w1 ⟨⟨s, hs, rfl⟩, hb1⟩
  have hbx1 := (hb1.block _ (by simp)).trans HX0.out
  have z0 : w1.frozen? ⟨w.heap.size, 0, none⟩ = false := frozen_of_row _ _ _ _ _ hbx1
  have z1 : w1.frozen? ⟨w.heap.size, 1, none⟩ = false := frozen_of_row _ _ _ _ _ hbx1
  have n0 : w1.cell? ⟨w.heap.size, 0, none⟩ = some (.int .i64 0) := by rw [cell_of_row _ _ _ _ _ _ hbx1]; rfl
  have n1 : w1.cell? ⟨w.heap.size, 1, none⟩ = some (.slice none 0 0) := by rw [cell_of_row _ _ _ _ _ _ hbx1]; rfl
  have B1 := Lib.hid (HB0.out.trans (hb1.mono HB0.out.size))
  have HX1 := Lib.hid hbx1
  clear hb1 hbx1
  by_cases h0 : (dkRead st fileN).2 ≠ 0
  · have HF := Lib.hid (show r = (0, [], (dkRead st fileN).2) by rw [HR.out]; exact if_pos h0)
    generalize (dkRead st fileN).2 = cd at *
    have hc : (cd == 0) = false := by simpa using h0
    clear hs
    go_wp2
    refine bodyPost_ret (v := .tuple #[noMan, .int .i64 cd]) (by simp [results, Tryz.results21, go_sem, n0, n1]; rfl) rfl ?_
    rw [HF.out]
    exact rfReadM_no cd rfl ((B1.out.setCell (p := ⟨w.heap.size, 0, none⟩) (Nat.le_refl _) _).setCell (p := ⟨w.heap.size, 1, none⟩) (Nat.le_refl _) _)
  · have HF := Lib.hid (show r = readF s.data.toList by rw [HR.out, hs]; exact if_neg h0)
    have q0 : (dkRead st fileN).2 = 0 := by omega
    have hss : s.size ≤ 1099511627776 := by rw [size_of_list hs]; have := HL.out; omega
    rw [q0]
    clear hs h0 q0
    go_wp2_with fail
    refine (rf_readM s w1 hss).mono ?_
    rintro e w2 ⟨hb2, v, rfl, hv, hvb⟩
    rw [← HF.out] at hv ⊢
    have hbx2 := (hb2.block _ (lt_of_block HX1.out)).trans HX1.out
    have z0 : w2.frozen? ⟨w.heap.size, 0, none⟩ = false := frozen_of_row _ _ _ _ _ hbx2
    have z1 : w2.frozen? ⟨w.heap.size, 1, none⟩ = false := frozen_of_row _ _ _ _ _ hbx2
    have n0 : w2.cell? ⟨w.heap.size, 0, none⟩ = some (.int .i64 0) := by rw [cell_of_row _ _ _ _ _ _ hbx2]; rfl
    have n1 : w2.cell? ⟨w.heap.size, 1, none⟩ = some (.slice none 0 0) := by rw [cell_of_row _ _ _ _ _ _ hbx2]; rfl
    have B2 := Lib.hid (B1.out.trans (hb2.mono B1.out.size))
    obtain ⟨a, cc, rfl⟩ := hv.shape
    have HV := Lib.hid hv
    have HVB := Lib.hid hvb
    have hw1 := lt_of_block HX1.out
    clear hb2 hbx2 hv hvb
    go_wp2
    refine bodyPost_ret (v := .tuple #[.agg #[.int .i64 r.1, .slice a r.2.1.length cc], .int .i64 r.2.2]) (by simp [results, Tryz.results21, go_sem, n0, n1]) rfl ?_
    refine ⟨(B2.out.setCell (p := ⟨w.heap.size, 0, none⟩) (Nat.le_refl _) _).setCell (p := ⟨w.heap.size, 1, none⟩) (Nat.le_refl _) _, _, rfl, ?_, fun j e => by have := HVB.out j e; omega⟩
    exact HV.out.kept (((Fr.refl (fun k => k = w.heap.size) w2).setCell ⟨w.heap.size, 0, none⟩ (fun _ => rfl) _).setCell ⟨w.heap.size, 1, none⟩ (fun _ => rfl) _) (fun j e e2 => by have := HVB.out j e; omega)
end Go.Proofs.YtppghhophaobdaaGreatDoor

/- souklaw13.is, at a manifest and itself. -/
namespace Go.Proofs.YtppghhophaobdaaGreatDoor
open Go.RowKit Go.Maps Go.Sort

set_option maxRecDepth 100000 in
set_option maxHeartbeats 4000000 in
theorem is_same (w : World) (G : Int) (v u : Value) (l : Segs) (hv : OwnSegs w v l) (hu : SegsAt w u l) (hne : ∀ j, v.ownBlock = some j → u.ownBlock ≠ some j) (hl : l.length ≤ 1000000) :
    Calls Tryz.prog 22 #[.agg #[.int .i64 G, v], .agg #[.int .i64 G, u]] w fun e w' => e = .returned (.bool true) ∧ Fr (fun k => v.ownBlock = some k) w w' := by
  obtain ⟨a, c, rfl⟩ := hu.shape
  have hfr0 : Fr (fun k => v.ownBlock = some k) w ((w.alloc (.cells #[.int .i64 G, v] 40)).alloc (.cells #[.int .i64 G, .slice a l.length c] 25)) := ((Fr.refl _ w).alloc _).alloc _
  rcases hv.2 with ⟨rfl, hn⟩ | ⟨g, cap, cur, rfl, _, hg, _⟩
  · have hl0 : l = [] := List.eq_nil_of_length_eq_zero hn
    subst hl0
    have HFR := Lib.hid hfr0
    clear hfr0 hv hu hne hn
    go_enter Tryz.func22, Tryz.ntmps22
    go_wp2
    go_loop [5] (fun i => i = .int .i64 0) (fun _ => 0)
    case atStart => rfl
    case round =>
      subst hrel
      go_wp2
      go_ret
      exact ⟨rfl, HFR.out⟩
  · have hgl := lt_of_block hg
    have hcl : ∀ j (h : j < l.length), w.cell? ⟨g, j * 2, none⟩ = some (.int .i64 l[j].1) ∧ w.cell? ⟨g, j * 2 + 1, none⟩ = some (.int .i64 l[j].2) := fun j hj => by
      obtain ⟨h1, h2⟩ := segCells_get l j hj
      rw [World.ownsRow.cellAt hv (j * 2) (by omega), World.ownsRow.cellAt hv (j * 2 + 1) (by omega)]
      exact ⟨h1, h2⟩
    have hfz : ∀ j, w.frozen? ⟨g, j, none⟩ = false := fun j => frozen_of_row _ _ _ _ _ hg
    have HC := Lib.hid hcl
    have HZ := Lib.hid hfz
    have HU := Lib.hid hu
    have HNE := Lib.hid (show ∀ b o, a = some ⟨b, o, none⟩ → b ≠ g from fun b o e e2 => by
      have := hne g rfl
      rw [e, e2] at this
      exact this rfl)
    have HFR := Lib.hid hfr0
    have HX := Lib.hid (show ((w.alloc (.cells #[.int .i64 G, .slice (some ⟨g, 0, none⟩) l.length cap] 40)).alloc (.cells #[.int .i64 G, .slice a l.length c] 25)).heap[w.heap.size]? = some (.cells #[.int .i64 G, .slice (some ⟨g, 0, none⟩) l.length cap] 40 (0, 0)) from (Below.heap_alloc _ _ _ (by simp)).trans (alloc_at_top _ _ rfl))
    have HY := Lib.hid (show ((w.alloc (.cells #[.int .i64 G, .slice (some ⟨g, 0, none⟩) l.length cap] 40)).alloc (.cells #[.int .i64 G, .slice a l.length c] 25)).heap[w.heap.size + 1]? = some (.cells #[.int .i64 G, .slice a l.length c] 25 (0, 0)) from alloc_at_top _ _ (by simp))
    clear hfr0 hv hu hne hg hcl hfz
    go_enter Tryz.func22, Tryz.ntmps22
    go_wp2
    have B0 := Lib.hid (show Below w.heap.size w ((w.alloc (.cells #[.int .i64 G, .slice (some ⟨g, 0, none⟩) l.length cap] 40)).alloc (.cells #[.int .i64 G, .slice a l.length c] 25)) from ((Below.refl _ _).alloc (Nat.le_refl _) _).alloc (by simp) _)
    generalize ((w.alloc (.cells #[.int .i64 G, .slice (some ⟨g, 0, none⟩) l.length cap] 40)).alloc (.cells #[.int .i64 G, .slice a l.length c] 25)) = w2 at *
    go_loopw [5] (fun i wr => ∃ k : Nat, i = .int .i64 k ∧ k ≤ l.length ∧ (∀ j (h : j < l.length), k ≤ j → wr.cell? ⟨g, j * 2, none⟩ = some (.int .i64 l[j].1) ∧ wr.cell? ⟨g, j * 2 + 1, none⟩ = some (.int .i64 l[j].2)) ∧ (∀ j, wr.frozen? ⟨g, j, none⟩ = false) ∧ Fr (fun k => k = g) w2 wr) (fun i _ => l.length - (intOf i).toNat)
    case atStart => exact ⟨0, rfl, by omega, fun j hj _ => ⟨(B0.out.cell (p := ⟨g, j * 2, none⟩) hgl).trans (HC.out j hj).1, (B0.out.cell (p := ⟨g, j * 2 + 1, none⟩) hgl).trans (HC.out j hj).2⟩, fun j => (B0.out.frozen (p := ⟨g, j, none⟩) hgl).trans (HZ.out j), Fr.refl _ _⟩
    case round =>
      obtain ⟨k, rfl, hk, hcell, hfz, hf⟩ := hrel
      have hx := hf.heapAt HX.out (by omega)
      have hy := hf.heapAt HY.out (by omega)
      have x1 : wr.cell? ⟨w.heap.size, 1, none⟩ = some (.slice (some ⟨g, 0, none⟩) l.length cap) := by rw [cell_of_row _ _ _ _ _ _ hx]; rfl
      have y1 : wr.cell? ⟨w.heap.size + 1, 1, none⟩ = some (.slice a l.length c) := by rw [cell_of_row _ _ _ _ _ _ hy]; rfl
      have HCL := Lib.hid hcell
      have HFZ := Lib.hid hfz
      have HF := Lib.hid hf
      clear hx hy hcell hfz hf
      by_cases hlt : k < l.length
      · obtain ⟨b, o, rfl, h1, h2, hbl⟩ := HU.out.at k hlt
        have hbg := HNE.out b o rfl
        have u1 := HF.out.cellAt ((B0.out.cell (p := ⟨b, o + k * 2, none⟩) hbl).trans h1) hbg
        have u2 := HF.out.cellAt ((B0.out.cell (p := ⟨b, o + k * 2 + 1, none⟩) hbl).trans h2) hbg
        obtain ⟨g1, g2⟩ := HCL.out k hlt (Nat.le_refl _)
        have z2 := HFZ.out (k * 2 + 1)
        clear h1 h2
        go_wp2_with fail
        go_quiet (fail)
        go_wp2
        go_roundw
        case rel =>
          refine ⟨k + 1, by go_num, by omega, fun j hj hjk => ⟨?_, ?_⟩, fun j => ?_, ?_⟩
          · rw [World.cell?_setCell_other _ _ _ _ (fun e => by have e2 := congrArg Addr.off e; simp at e2; omega)]
            exact (HCL.out j hj (by omega)).1
          · rw [World.cell?_setCell_other _ _ _ _ (fun e => by have e2 := congrArg Addr.off e; simp at e2; omega)]
            exact (HCL.out j hj (by omega)).2
          · rw [World.frozen?_setCell]; exact HFZ.out j
          · exact (HF.out.drewN _).setCell ⟨g, k * 2 + 1, none⟩ (fun _ => rfl) _
        case measure => simp [intOf]; omega
      · go_wp2
        go_ret
        refine ⟨rfl, ?_⟩
        exact HFR.out.then (HF.out.mono (fun _ _ e => e)) (fun _ _ e => by rw [e]; rfl)
end Go.Proofs.YtppghhophaobdaaGreatDoor

/- soukref09.Files at one list; soukref09.Load. -/
namespace Go.Proofs.YtppghhophaobdaaGreatDoor
open Go.RowKit Go.Maps Go.Sort

set_option maxRecDepth 100000 in
set_option maxHeartbeats 2000000 in
theorem rf_files_same (w : World) (sa sb : Value) (l : Fs) (ha : FilesAt w sa l) (hb : FilesAt w sb l) (hl : l.length ≤ 1000000) :
    Calls Tryz.prog 17 #[sa, sb] w fun e w' => e = .returned (.bool true) ∧ Below w.heap.size w w' := by
  obtain ⟨a, c, rfl⟩ := ha.shape
  obtain ⟨a2, c2, rfl⟩ := hb.shape
  have HA := Lib.hid ha
  have HB := Lib.hid hb
  clear ha hb
  go_enter Tryz.func17, Tryz.ntmps17
  go_wp2
  go_loopw [5] (fun i wr => ∃ k : Nat, i = .int .i64 k ∧ k ≤ l.length ∧ Below w.heap.size w wr) (fun i _ => l.length - (intOf i).toNat)
  case atStart => exact ⟨0, rfl, by omega, Below.refl _ _⟩
  case round =>
    obtain ⟨k, rfl, hk, hb⟩ := hrel
    have B := Lib.hid hb
    have A1 := Lib.hid (HA.out.pure hb)
    have A2 := Lib.hid (HB.out.pure hb)
    clear hb
    by_cases hlt : k < l.length
    · obtain ⟨b, o, rfl, hbl, x, y, z, e1, e2, e3, h1, h2, h3⟩ := A1.out.at k hlt
      obtain ⟨b', o', rfl, hbl', x', y', z', e1', e2', e3', h1', h2', h3'⟩ := A2.out.at k hlt
      obtain rfl : x' = x := str_ext (by rw [e1, e1'])
      obtain rfl : y' = y := str_ext (by rw [e2, e2'])
      obtain rfl : z' = z := str_ext (by rw [e3, e3'])
      clear e1 e2 e3 e1' e2' e3'
      go_wp2_with fail
      go_quiet (fail)
      go_wp2
      go_roundw
      case rel => exact ⟨k + 1, by go_num, by omega, rf_drewN B.out _⟩
      case measure => simp [intOf]; omega
    · go_wp2
      go_ret
      exact ⟨rfl, B.out⟩

/-- What Load tells of the reference. -/
def RfLoadPost (cap : Int) (l : Fs) (w : World) (e : Ending) (w' : World) : Prop :=
  Below w.heap.size w w' ∧ match dkLoad cap l with
    | (some st, c) => ∃ x g d, w.heap.size ≤ x ∧ w.heap.size ≤ g ∧ e = .returned (.tuple #[.pointer (some ⟨x, 0, none⟩), .int .i64 c]) ∧ IsRf w' x g d st
    | (none, c) => e = .returned (.tuple #[.pointer none, .int .i64 c])
end Go.Proofs.YtppghhophaobdaaGreatDoor

/- The walk of soukref09.Load. -/
namespace Go.Proofs.YtppghhophaobdaaGreatDoor
open Go.RowKit Go.Maps Go.Sort

/-- The name ahead of place k. -/
def nameAt (l : Fs) (k : Nat) : List UInt8 := if h : 0 < k ∧ k - 1 < l.length then (l[k - 1]'h.2).name else []
theorem nameAt_zero (l : Fs) : nameAt l 0 = [] := by unfold nameAt; rw [dif_neg (by omega)]
theorem nameAt_succ (l : Fs) (k : Nat) (h : k < l.length) : nameAt l (k + 1) = l[k].name := by unfold nameAt; rw [dif_pos ⟨by omega, by omega⟩]; rfl
theorem empty_before {n : List UInt8} (h : mayName n = true) : bytesBefore [] n = true := by
  cases n with
  | nil => simp [mayName] at h
  | cons a r => rfl

set_option maxRecDepth 100000 in
set_option maxHeartbeats 8000000 in
theorem rf_load (w : World) (cp : Int) (sv : Value) (l : Fs) (hv : FilesAt w sv l) (hlen : l.length ≤ 4398046511104) (hsz : ∀ f ∈ l, f.name.length ≤ 140737488355328 ∧ f.firm.length ≤ 140737488355328 ∧ f.pend.length ≤ 140737488355328) (hcp : cp ≤ 9223372036854775807) :
    Calls Tryz.prog 11 #[.int .i64 cp, sv] w fun e w' => RfLoadPost cp l w e w' := by
  obtain ⟨a, c, rfl⟩ := hv.shape
  have HV := Lib.hid hv
  have HSZ := Lib.hid hsz
  clear hv hsz
  by_cases h0 : cp < 0
  · have HF := Lib.hid (show dkLoad cp l = (none, 1) from if_pos h0)
    go_enter Tryz.func11, Tryz.ntmps11
    go_wp2
    go_ret2
    refine ⟨Below.refl _ _, ?_⟩
    rw [HF.out]; rfl
  · have HF0 := Lib.hid (show dkLoad cp l = if !ldGo l.length [] l then (none, 4) else if cp < (used l : Int) then (none, 44) else (some ⟨l, cp, -1, false⟩, 0) from if_neg h0)
    go_enter Tryz.func11, Tryz.ntmps11
    go_wp2
    go_loopw [6, 7] (fun v i wr => ∃ (k : Nat), i = .int .i64 k ∧ k ≤ l.length ∧ v = .int .i64 ((used (l.take k) : Nat) : Int) ∧ (0 < k → l.length ≤ 64) ∧ LdInv l k (nameAt l k) ∧ Below w.heap.size w wr) (fun _ i _ => l.length - (intOf i).toNat)
    case atStart => exact ⟨0, rfl, by omega, rfl, by omega, by rw [nameAt_zero]; exact LdInv.start l, Below.refl _ _⟩
    case round =>
      obtain ⟨k, rfl, hk, rfl, h64, hinv, hb⟩ := hrel
      have B := Lib.hid hb
      have HI := Lib.hid hinv
      have H64 := Lib.hid h64
      have A1 := Lib.hid (HV.out.pure hb)
      clear hb hinv h64
      by_cases hlt : k < l.length
      · obtain ⟨b, o, rfl, hbl, x, y, z, e1, e2, e3, h1, h2, h3⟩ := A1.out.at k hlt
        have hsm := HSZ.out _ (List.getElem_mem hlt)
        have HE := Lib.hid (And.intro e1 (And.intro e2 e3))
        have hyz : y.size + z.size ≤ 281474976710656 := by rw [size_of_list e2, size_of_list e3]; omega
        have hxs : x.size ≤ 140737488355328 := by rw [size_of_list e1]; omega
        have w1e : IntKind.i64.wrap ((y.size : Int) + (z.size : Int)) = (y.size : Int) + (z.size : Int) := IntWalk.i64_in _ (by omega)
        clear e1 e2 e3 hsm
        go_wp2_with fail
        go_quiet (fail)
        go_wp2_with fail
        have hb3 : Below wr.heap.size wr (wr.drewN nq) := rf_drewN (Below.refl _ _) nq
        have h1 : (wr.drewN nq).cell? ⟨b, o + k * 3, none⟩ = some (.string x) := h1
        have h2 : (wr.drewN nq).cell? ⟨b, o + k * 3 + 1, none⟩ = some (.string y) := h2
        have h3 : (wr.drewN nq).cell? ⟨b, o + k * 3 + 2, none⟩ = some (.string z) := h3
        have B3 := Lib.hid (B.out.trans (hb3.mono B.out.size))
        have A3 := Lib.hid (A1.out.pure hb3)
        clear hb3
        generalize (wr.drewN nq) = w3 at *
        have q1 : ∀ dd os, Calls Tryz.prog 58 #[.string x] (grow (redrawn w3 dd) os) fun e w'' => e = .returned (.bool (mayName l[k].name)) ∧ ∃ p : Regrown, w'' = grow (redrawn w3 p.d) p.os := fun dd os => Calls.regrown_of ((rf_mayName (grow (redrawn w3 dd) os) x (by omega)).mono (by rintro e w' ⟨rfl, rfl⟩; exact ⟨by rw [HE.out.1], Below.refl _ _⟩))
        have m1 := cell_regrown h1
        have m2 := cell_regrown h2
        have m3 := cell_regrown h3
        cases hm : mayName l[k].name
        · rw [hm] at q1
          have HBAD := Lib.hid (show dkLoad cp l = (none, 4) by rw [HF0.out, HI.out.bad hlt (by rw [hm]; rfl)]; rfl)
          clear hm
          refine wp_region_quiet_below (by kernel_rfl) (by kernel_rfl) ?_
          repeat (go_big_quiet_step (first | exact q1 _ _))
          refine wpQuiet_nil ?_
          intro _ hw'
          obtain ⟨⟨dq, osq⟩, hw''⟩ := hw'
          subst hw''
          have HB4 := Lib.hid (below_regrown w3 dq osq)
          have B4 := Lib.hid (B3.out.trans (HB4.out.mono B3.out.size))
          clear q1 m1 m2 m3 h1 h2 h3
          generalize grow (redrawn w3 dq) osq = w4 at *
          go_wp2
          go_ret2
          refine ⟨B4.out, ?_⟩
          rw [HBAD.out]; rfl
        · rw [hm] at q1
          have HM := Lib.hid hm
          clear hm
          by_cases hk0 : 0 < k
          · have dk : decide ((0 : Int) < (k : Int)) = true := by simpa using hk0
            obtain ⟨b0, o0, eb, _, x0, _, _, e0, _, _, g0, _, _⟩ := A3.out.at (k - 1) (by omega)
            cases eb
            have hkw : IntKind.i64.wrap ((k : Int) - 1) = ((k - 1 : Nat) : Int) := by rw [IntWalk.i64_in _ (by omega)]; omega
            have hk1 : ((k - 1 : Nat) : Int) < ((l.length : Nat) : Int) := by omega
            have hk2 : (0 : Int) ≤ ((k - 1 : Nat) : Int) := by omega
            have m0 := cell_regrown g0
            have HNA := Lib.hid (show nameAt l k = x0.data.toList by rw [e0, ← nameAt_succ l (k - 1) (by omega), show k - 1 + 1 = k from by omega])
            have hleq : (Op.bytesLess x.toList x0.toList || x.toList == x0.toList) = !bytesBefore (nameAt l k) l[k].name := by rw [ByteArray.toList_eq, ByteArray.toList_eq, leq_before, HNA.out, HE.out.1]
            clear e0 g0
            cases hB : bytesBefore (nameAt l k) l[k].name
            · rw [hB] at hleq
              have HBAD := Lib.hid (show dkLoad cp l = (none, 4) by rw [HF0.out, HI.out.bad hlt (by rw [hB, HM.out]; rfl)]; rfl)
              clear hB
              refine wp_region_quiet_below (by kernel_rfl) (by kernel_rfl) ?_
              repeat (go_big_quiet_step (first | exact q1 _ _))
              refine wpQuiet_nil ?_
              intro _ hw'
              obtain ⟨⟨dq, osq⟩, hw''⟩ := hw'
              subst hw''
              have HB4 := Lib.hid (below_regrown w3 dq osq)
              have B4 := Lib.hid (B3.out.trans (HB4.out.mono B3.out.size))
              clear q1 m1 m2 m3 h1 h2 h3
              generalize grow (redrawn w3 dq) osq = w4 at *
              go_wp2
              go_ret2
              refine ⟨B4.out, ?_⟩
              rw [HBAD.out]; rfl
            · rw [hB] at hleq
              have HBF := Lib.hid hB
              have hl1 : Op.bytesLess x.toList x0.toList = false := (Bool.or_eq_false_iff.1 hleq).1
              have hl2 : (x.toList == x0.toList) = false := (Bool.or_eq_false_iff.1 hleq).2
              clear hB
              by_cases c1 : (1048576 : Int) < (y.size : Int) + (z.size : Int)
              · have d1 : decide ((1048576 : Int) < (y.size : Int) + (z.size : Int)) = true := by simpa using c1
                have HBAD := Lib.hid (show dkLoad cp l = (none, 4) by rw [HF0.out, HI.out.bad hlt (by have e1 := size_of_list HE.out.2.1; have e2 := size_of_list HE.out.2.2; rw [decide_eq_false (show ¬ l[k].firm.length + l[k].pend.length ≤ 1048576 by omega)]; simp)]; rfl)
                refine wp_region_quiet_below (by kernel_rfl) (by kernel_rfl) ?_
                repeat (go_big_quiet_step (first | exact q1 _ _))
                refine wpQuiet_nil ?_
                intro _ hw'
                obtain ⟨⟨dq, osq⟩, hw''⟩ := hw'
                subst hw''
                have HB4 := Lib.hid (below_regrown w3 dq osq)
                have B4 := Lib.hid (B3.out.trans (HB4.out.mono B3.out.size))
                clear q1 m1 m2 m3 h1 h2 h3
                generalize grow (redrawn w3 dq) osq = w4 at *
                go_wp2
                go_ret2
                refine ⟨B4.out, ?_⟩
                rw [HBAD.out]; rfl
              · have d1 : decide ((1048576 : Int) < (y.size : Int) + (z.size : Int)) = false := by simpa using c1
                by_cases c2 : 64 < l.length
                · have d2 : decide ((64 : Int) < ((l.length : Nat) : Int)) = true := by rw [decide_eq_true_iff]; omega
                  have HBAD := Lib.hid (show dkLoad cp l = (none, 4) by rw [HF0.out, HI.out.bad hlt (by rw [decide_eq_false (show ¬ l.length ≤ 64 by omega)]; simp)]; rfl)
                  refine wp_region_quiet_below (by kernel_rfl) (by kernel_rfl) ?_
                  repeat (go_big_quiet_step (first | exact q1 _ _))
                  refine wpQuiet_nil ?_
                  intro _ hw'
                  obtain ⟨⟨dq, osq⟩, hw''⟩ := hw'
                  subst hw''
                  have HB4 := Lib.hid (below_regrown w3 dq osq)
                  have B4 := Lib.hid (B3.out.trans (HB4.out.mono B3.out.size))
                  clear q1 m1 m2 m3 h1 h2 h3
                  generalize grow (redrawn w3 dq) osq = w4 at *
                  go_wp2
                  go_ret2
                  refine ⟨B4.out, ?_⟩
                  rw [HBAD.out]; rfl
                · have d2 : decide ((64 : Int) < ((l.length : Nat) : Int)) = false := by rw [decide_eq_false_iff_not]; omega
                  refine wp_region_quiet_below (by kernel_rfl) (by kernel_rfl) ?_
                  repeat (go_big_quiet_step (first | exact q1 _ _))
                  refine wpQuiet_nil ?_
                  intro _ hw'
                  obtain ⟨⟨dq, osq⟩, hw''⟩ := hw'
                  subst hw''
                  have HB4 := Lib.hid (below_regrown w3 dq osq)
                  have B4 := Lib.hid (B3.out.trans (HB4.out.mono B3.out.size))
                  clear q1 m1 m2 m3 h1 h2 h3
                  generalize grow (redrawn w3 dq) osq = w4 at *
                  have HN := Lib.hid (HI.out.next hlt HM.out HBF.out (by have e1 := size_of_list HE.out.2.1; have e2 := size_of_list HE.out.2.2; omega) (by omega))
                  have HU := Lib.hid (used_take_succ l k hlt)
                  have hub := used_le (show FsOk (l.take (k + 1)) from ⟨HN.out.sorted, HN.out.keep.few, HN.out.keep.small, HN.out.keep.names⟩)
                  have HUS := Lib.hid (show used (l.take (k + 1)) = used (l.take k) + (y.size + z.size) by rw [HU.out, size_of_list HE.out.2.1, size_of_list HE.out.2.2]; omega)
                  have hub2 : used (l.take k) + (y.size + z.size) ≤ 67108864 := by have := HUS.out; omega
                  clear hub
                  go_wp2
                  go_roundw
                  case rel => exact ⟨k + 1, by go_num, by omega, by rw [HUS.out]; go_num, fun _ => by omega, by rw [nameAt_succ l k hlt]; exact HN.out, B4.out⟩
                  case measure => simp [intOf]; omega
          · have dk : decide ((0 : Int) < (k : Int)) = false := by simpa using hk0
            have HBF := Lib.hid (show bytesBefore (nameAt l k) l[k].name = true by
              have : k = 0 := by omega
              subst this
              rw [nameAt_zero]; exact empty_before HM.out)
            by_cases c1 : (1048576 : Int) < (y.size : Int) + (z.size : Int)
            · have d1 : decide ((1048576 : Int) < (y.size : Int) + (z.size : Int)) = true := by simpa using c1
              have HBAD := Lib.hid (show dkLoad cp l = (none, 4) by rw [HF0.out, HI.out.bad hlt (by have e1 := size_of_list HE.out.2.1; have e2 := size_of_list HE.out.2.2; rw [decide_eq_false (show ¬ l[k].firm.length + l[k].pend.length ≤ 1048576 by omega)]; simp)]; rfl)
              refine wp_region_quiet_below (by kernel_rfl) (by kernel_rfl) ?_
              repeat (go_big_quiet_step (first | exact q1 _ _))
              refine wpQuiet_nil ?_
              intro _ hw'
              obtain ⟨⟨dq, osq⟩, hw''⟩ := hw'
              subst hw''
              have HB4 := Lib.hid (below_regrown w3 dq osq)
              have B4 := Lib.hid (B3.out.trans (HB4.out.mono B3.out.size))
              clear q1 m1 m2 m3 h1 h2 h3
              generalize grow (redrawn w3 dq) osq = w4 at *
              go_wp2
              go_ret2
              refine ⟨B4.out, ?_⟩
              rw [HBAD.out]; rfl
            · have d1 : decide ((1048576 : Int) < (y.size : Int) + (z.size : Int)) = false := by simpa using c1
              by_cases c2 : 64 < l.length
              · have d2 : decide ((64 : Int) < ((l.length : Nat) : Int)) = true := by rw [decide_eq_true_iff]; omega
                have HBAD := Lib.hid (show dkLoad cp l = (none, 4) by rw [HF0.out, HI.out.bad hlt (by rw [decide_eq_false (show ¬ l.length ≤ 64 by omega)]; simp)]; rfl)
                refine wp_region_quiet_below (by kernel_rfl) (by kernel_rfl) ?_
                repeat (go_big_quiet_step (first | exact q1 _ _))
                refine wpQuiet_nil ?_
                intro _ hw'
                obtain ⟨⟨dq, osq⟩, hw''⟩ := hw'
                subst hw''
                have HB4 := Lib.hid (below_regrown w3 dq osq)
                have B4 := Lib.hid (B3.out.trans (HB4.out.mono B3.out.size))
                clear q1 m1 m2 m3 h1 h2 h3
                generalize grow (redrawn w3 dq) osq = w4 at *
                go_wp2
                go_ret2
                refine ⟨B4.out, ?_⟩
                rw [HBAD.out]; rfl
              · have d2 : decide ((64 : Int) < ((l.length : Nat) : Int)) = false := by rw [decide_eq_false_iff_not]; omega
                refine wp_region_quiet_below (by kernel_rfl) (by kernel_rfl) ?_
                repeat (go_big_quiet_step (first | exact q1 _ _))
                refine wpQuiet_nil ?_
                intro _ hw'
                obtain ⟨⟨dq, osq⟩, hw''⟩ := hw'
                subst hw''
                have HB4 := Lib.hid (below_regrown w3 dq osq)
                have B4 := Lib.hid (B3.out.trans (HB4.out.mono B3.out.size))
                clear q1 m1 m2 m3 h1 h2 h3
                generalize grow (redrawn w3 dq) osq = w4 at *
                have HN := Lib.hid (HI.out.next hlt HM.out HBF.out (by have e1 := size_of_list HE.out.2.1; have e2 := size_of_list HE.out.2.2; omega) (by omega))
                have HU := Lib.hid (used_take_succ l k hlt)
                have hub := used_le (show FsOk (l.take (k + 1)) from ⟨HN.out.sorted, HN.out.keep.few, HN.out.keep.small, HN.out.keep.names⟩)
                have HUS := Lib.hid (show used (l.take (k + 1)) = used (l.take k) + (y.size + z.size) by rw [HU.out, size_of_list HE.out.2.1, size_of_list HE.out.2.2]; omega)
                have hub2 : used (l.take k) + (y.size + z.size) ≤ 67108864 := by have := HUS.out; omega
                clear hub
                go_wp2
                go_roundw
                case rel => exact ⟨k + 1, by go_num, by omega, by rw [HUS.out]; go_num, fun _ => by omega, by rw [nameAt_succ l k hlt]; exact HN.out, B4.out⟩
                case measure => simp [intOf]; omega
      · have hkl : k = l.length := by omega
        have hld : ldGo l.length [] l = true := by rw [HI.out.eq, List.drop_eq_nil_of_le (by omega)]; rfl
        have htk : l.take k = l := List.take_of_length_le (by omega)
        have hiv := HI.out
        have HS := Lib.hid (show FsOk l from ⟨by have := hiv.sorted; rwa [htk] at this, by have := hiv.keep.few; rwa [htk] at this, by have := hiv.keep.small; rwa [htk] at this, by have := hiv.keep.names; rwa [htk] at this⟩)
        have HF1 := Lib.hid (show dkLoad cp l = if cp < (used l : Int) then (none, 44) else (some ⟨l, cp, -1, false⟩, 0) by rw [HF0.out, hld]; rfl)
        rw [htk]
        clear hiv hkl hld htk
        by_cases hc : cp < (used l : Int)
        · have HF2 := Lib.hid (HF1.out.trans (if_pos hc))
          have dc : decide (cp < ((used l : Nat) : Int)) = true := by simpa using hc
          have hko : ¬ ((k : Nat) : Int) < ((l.length : Nat) : Int) := by omega
          go_wp2
          go_ret2
          refine ⟨B.out, ?_⟩
          rw [HF2.out]; rfl
        · have HF2 := Lib.hid (HF1.out.trans (if_neg hc))
          have dc : decide (cp < ((used l : Nat) : Int)) = false := by simpa using hc
          have hko : ¬ ((k : Nat) : Int) < ((l.length : Nat) : Int) := by omega
          have hf64 := HS.out.few
          have OE := Lib.hid (own_none' wr wr.heap.size rfl)
          have SE := Lib.hid (A1.out.more (.cells #[] 91))
          go_wp2_with (at_builtin; refine wpList_rfrow rfl _ _ rfl wr.heap.size 0 0 [] rfl rfl OE.out a l.length c l rfl rfl SE.out (by simp; omega) ?_; intro g4 c4 w4 hown4 hc4 hgrow4 hat4 hlt4; have HO4 := Lib.hid hown4; have HG4 := Lib.hid hgrow4; have HC4 := Lib.hid hc4; have HAT4 := Lib.hid hat4; clear hown4 hgrow4 hc4 hat4)
          go_ret2
          have hb4 : Below w.heap.size w w4 := (B.out.alloc B.out.size _).grown HG4.out (by simp; have := B.out.size; omega) (fun j e => by have e2 := Option.some.inj e; have := B.out.size; omega)
          have hg4 : w.heap.size ≤ g4 := by
            have := B.out.size
            rcases HAT4.out with e | e
            · omega
            · rw [e]; simp; omega
          refine ⟨hb4.alloc hb4.size _, ?_⟩
          rw [HF2.out]
          refine ⟨w4.heap.size, g4, c4, hb4.size, hg4, rfl, ?_⟩
          exact ⟨alloc_at_top _ _ rfl, World.ownsRow.alloc HO4.out _, HC4.out, by omega, ⟨HS.out, by show 0 ≤ cp; omega, hcp, by show ((used l : Nat) : Int) ≤ cp; omega, by show (-1 : Int) ≤ -1; omega, by show (-1 : Int) ≤ 9223372036854775807; omega⟩⟩
end Go.Proofs.YtppghhophaobdaaGreatDoor

/- Plain, for soukref09.Crash: files one by one; and a file that is stored among others. -/
namespace Go.Proofs.YtppghhophaobdaaGreatDoor
open Go.RowKit Go.Maps

/-- How far a crash has come: P are the first files, as they are then; t of the numbers are used up. -/
structure CrAt (ks : List Int) (l P : Fs) (k t : Nat) : Prop where
  eq : crashFs ks l = P ++ crashFs (ks.drop t) (l.drop k)
  len : P.length = k
  le : t ≤ k
theorem CrAt.start (ks : List Int) (l : Fs) : CrAt ks l [] 0 0 := ⟨rfl, rfl, Nat.le_refl _⟩
/-- What becomes of a file that has something pending. -/
def crashOne (ks : List Int) (t : Nat) (f : FileS) : FileS := ⟨f.name, f.firm ++ f.pend.take (if h : t < ks.length then kept ks[t] f.pend.length else 0), []⟩
theorem crash_keep (ks : List Int) {f : FileS} (r : Fs) (h : f.pend = []) : crashFs ks (f :: r) = f :: crashFs ks r := by cases ks <;> simp [crashFs, h]
theorem CrAt.keep {ks : List Int} {l P : Fs} {k t : Nat} (h : CrAt ks l P k t) (hk : k < l.length) (hp : l[k].pend = []) : CrAt ks l (P ++ [l[k]]) (k + 1) t := by
  refine ⟨?_, by simp [h.len], by have := h.le; omega⟩
  rw [h.eq, List.drop_eq_getElem_cons hk, crash_keep _ _ hp, List.append_assoc]; rfl
theorem CrAt.turn {ks : List Int} {l P : Fs} {k t : Nat} (h : CrAt ks l P k t) (hk : k < l.length) (hp : l[k].pend ≠ []) : CrAt ks l (P ++ [crashOne ks t l[k]]) (k + 1) (t + 1) := by
  refine ⟨?_, by simp [h.len], by have := h.le; omega⟩
  rw [h.eq, List.drop_eq_getElem_cons hk, List.append_assoc]
  by_cases ht : t < ks.length
  · rw [List.drop_eq_getElem_cons ht, crashFs, if_neg hp]
    unfold crashOne
    rw [dif_pos ht]; rfl
  · rw [show ks.drop t = [] from List.drop_eq_nil_of_le (by omega), show ks.drop (t + 1) = [] from List.drop_eq_nil_of_le (by omega), crashFs, if_neg hp]
    unfold crashOne
    rw [dif_neg ht]; simp
theorem CrAt.end_ {ks : List Int} {l P : Fs} {t : Nat} (h : CrAt ks l P l.length t) : crashFs ks l = P := by
  rw [h.eq, List.drop_length]; cases ks.drop t <;> simp [crashFs]

theorem fileCells_append (A B : Fs) : fileCells (A ++ B) = fileCells A ++ fileCells B := by simp [fileCells]
theorem fileCells_set (A B : Fs) (f h : FileS) : (((fileCells (A ++ f :: B)).set (A.length * 3) (encStr h.name)).set (A.length * 3 + 1) (encStr h.firm)).set (A.length * 3 + 2) (encStr h.pend) = fileCells (A ++ h :: B) := by
  rw [fileCells_append, fileCells_append, ← fileCells_length A]
  show (((fileCells A ++ encStr f.name :: encStr f.firm :: encStr f.pend :: fileCells B).set _ _).set _ _).set _ _ = fileCells A ++ encStr h.name :: encStr h.firm :: encStr h.pend :: fileCells B
  rw [List.set_append_right _ _ (Nat.le_refl _), List.set_append_right _ _ (by omega), List.set_append_right _ _ (by omega)]
  simp
end Go.Proofs.YtppghhophaobdaaGreatDoor

/- The walk of soukref09.Crash. -/
namespace Go.Proofs.YtppghhophaobdaaGreatDoor
open Go.RowKit Go.Maps Go.Sort

/-- A file of an own row is stored anew, cell by cell. -/
theorem crash_row {wr : World} {g c : Nat} (P r : Fs) (f f' : FileS) (n1 m n3 : ByteArray) (h : OwnFiles wr (.slice (some ⟨g, 0, none⟩) (P ++ f :: r).length c) (P ++ f :: r)) (k : Nat) (hk : P.length = k)
    (e1 : n1.data.toList = f'.name) (e2 : m.data.toList = f'.firm) (e3 : n3.data.toList = f'.pend) (L : Fs) (hL : L = P ++ f' :: r) :
    OwnFiles (((wr.setCell ⟨g, k * 3, none⟩ (.string n1)).setCell ⟨g, k * 3 + 1, none⟩ (.string m)).setCell ⟨g, k * 3 + 2, none⟩ (.string n3)) (.slice (some ⟨g, 0, none⟩) L.length c) L := by
  subst hk
  subst hL
  have q := (World.ownsRow.stored (World.ownsRow.stored (World.ownsRow.stored h (P.length * 3) (encStr f'.name)).1 (P.length * 3 + 1) (encStr f'.firm)).1 (P.length * 3 + 2) (encStr f'.pend)).1
  rw [fileCells_set] at q
  have en : ∀ (b : ByteArray) (l : List UInt8), b.data.toList = l → Value.string b = encStr l := fun b l e => by unfold encStr; rw [str_ext (a := b) (b := ⟨l.toArray⟩) (by rw [e])]
  rw [en _ _ e1, en _ _ e2, en _ _ e3]
  have hl : (P ++ f :: r).length = (P ++ f' :: r).length := by simp
  rw [hl] at q
  exact q

set_option maxRecDepth 100000 in
set_option maxHeartbeats 8000000 in
theorem rf_crash (w : World) (x g c : Nat) (st : DkSt) (h : IsRf w x g c st) (kv : Value) (ks : List Int) (hk : IntsAt w kv ks) (_ : ks.length ≤ 1000) (hkb : ∀ j, kv.ownBlock = some j → j ≠ g ∧ j ≠ x) (hok : DkOk (dkCrash st ks)) :
    Calls Tryz.prog 24 #[.pointer (some ⟨x, 0, none⟩), kv] w fun e w' => e = .returned (.tuple #[]) ∧ RfTo x g w (dkCrash st ks) w' := by
  obtain ⟨a, cc, rfl, hcc, hki⟩ := hk
  have H0 := Lib.hid h
  have HK := Lib.hid hki
  have HKB := Lib.hid hkb
  have hle := h.le
  have hf64 := h.ok.fs.few
  clear h hki hkb
  go_enter Tryz.func24, Tryz.ntmps24
  go_wp2
  go_loopw [4, 5] (fun tv i wr => ∃ (k t : Nat) (P : Fs), i = .int .i64 k ∧ tv = .int .i64 t ∧ k ≤ st.fs.length ∧ CrAt ks st.fs P k t ∧ OwnFiles wr (.slice (some ⟨g, 0, none⟩) (P ++ st.fs.drop k).length c) (P ++ st.fs.drop k) ∧ Fr (fun j => j = g) w wr) (fun _ i _ => st.fs.length - (intOf i).toNat)
  case atStart => exact ⟨0, 0, [], rfl, rfl, by omega, CrAt.start _ _, H0.out.own, Fr.refl _ _⟩
  case round =>
    obtain ⟨k, t, P, rfl, rfl, hk, hcr, hown, hf⟩ := hrel
    have hx := hf.heapAt H0.out.cell (fun e => H0.out.ne e.symm)
    have x0 : wr.cell? ⟨x, 0, none⟩ = some (.slice (some ⟨g, 0, none⟩) st.fs.length c) := by rw [cell_of_row _ _ _ _ _ _ hx]; rfl
    have x2 : wr.cell? ⟨x, 2, none⟩ = some (.int .i64 st.left) := by rw [cell_of_row _ _ _ _ _ _ hx]; rfl
    have x3 : wr.cell? ⟨x, 3, none⟩ = some (.bool st.dark) := by rw [cell_of_row _ _ _ _ _ _ hx]; rfl
    have hz : ∀ j, wr.frozen? ⟨x, j, none⟩ = false := fun j => frozen_of_row _ _ _ _ _ hx
    have HX := Lib.hid hx
    have HC := Lib.hid hcr
    have HO := Lib.hid hown
    have HF := Lib.hid hf
    clear hx hcr hown hf
    by_cases hlt : k < st.fs.length
    · have hpl := HC.out.len
      have hlt2 : k < (P ++ st.fs.drop k).length := by rw [List.length_append, hpl, List.length_drop]; omega
      obtain ⟨h1, h2, h3⟩ := fileCells_get (P ++ st.fs.drop k) k hlt2
      have hget : (P ++ st.fs.drop k)[k]'hlt2 = st.fs[k] := by
        rw [List.getElem_append_right (by omega)]
        simp [hpl]
      rw [hget] at h1 h2 h3
      rw [← World.ownsRow.cellAt HO.out (k * 3) (by omega)] at h1
      rw [← World.ownsRow.cellAt HO.out (k * 3 + 1) (by omega)] at h2
      rw [← World.ownsRow.cellAt HO.out (k * 3 + 2) (by omega)] at h3
      have zf : ∀ j, wr.frozen? ⟨g, j, none⟩ = false := fun j => World.ownsRow.frozenAt HO.out j
      unfold encStr at h1 h2 h3
      obtain ⟨n1, e1, q1⟩ := str_ex st.fs[k].name
      obtain ⟨n2, e2, q2⟩ := str_ex st.fs[k].firm
      obtain ⟨n3, e3, q3⟩ := str_ex st.fs[k].pend
      rw [q1] at h1
      rw [q2] at h2
      rw [q3] at h3
      have HE := Lib.hid (And.intro e1 (And.intro e2 e3))
      have HG := Lib.hid hget
      have hsm := H0.out.ok.fs.small _ (List.getElem_mem hlt)
      have hszs : n2.size + n3.size ≤ 1048576 := by rw [size_of_list e2, size_of_list e3]; exact hsm
      clear q1 q2 q3 hget hsm
      by_cases hp : st.fs[k].pend = []
      · have hem : n3.toList.isEmpty = true := by rw [ByteArray.toList_eq, e3, hp]; rfl
        have HN := Lib.hid (HC.out.keep hlt hp)
        have HEQ := Lib.hid (show (P ++ [st.fs[k]]) ++ st.fs.drop (k + 1) = P ++ st.fs.drop k by rw [List.append_assoc, List.drop_eq_getElem_cons hlt]; rfl)
        clear e1 e2 e3 hp
        go_wp2
        go_roundw
        case rel => exact ⟨k + 1, t, _, by go_num, rfl, by omega, HN.out, by rw [HEQ.out]; exact HO.out, HF.out⟩
        case measure => simp [intOf]; omega
      · have HN := Lib.hid (HC.out.turn hlt hp)
        have HP := Lib.hid hp
        have hem : n3.toList.isEmpty = false := by
          rw [ByteArray.toList_eq, e3]; cases hfp : st.fs[k].pend with
          | nil => exact absurd hfp hp
          | cons => rfl
        have ht64 : t ≤ 64 := by have := HC.out.le; omega
        have hw1 : IntKind.i64.wrap ((t : Int) + 1) = (t : Int) + 1 := IntWalk.i64_in _ (by omega)
        have hw2 : IntKind.i64.wrap ((n3.size : Int) + 1) = (n3.size : Int) + 1 := IntWalk.i64_in _ (by omega)
        clear e1 e2 e3 hp
        by_cases hts : t < ks.length
        · obtain hk0 | ⟨kb, o, rfl, hkc⟩ := HK.out
          · rw [hk0] at hts; exact absurd hts (Nat.not_lt_zero _)
          have hkt := hkc t hts
          have hkg : kb ≠ g := (HKB.out kb rfl).1
          have hk1 : wr.cell? ⟨kb, o + t, none⟩ = some (.int .i64 ks[t]) := by
            exact HF.out.cellAt hkt hkg
          obtain ⟨mm, hmm, hml, hmk⟩ : ∃ mm : Nat, (IntKind.u64.wrap ks[t]).tmod ((n3.size : Int) + 1) = (mm : Int) ∧ mm ≤ n3.size ∧ mm = kept ks[t] st.fs[k].pend.length := by
            have e1 : IntKind.u64.wrap ks[t] = ks[t] % 18446744073709551616 := rfl
            have e0 : 0 ≤ ks[t] % 18446744073709551616 := Int.emod_nonneg _ (by decide)
            have e2 : 0 ≤ ks[t] % 18446744073709551616 % ((n3.size : Int) + 1) := Int.emod_nonneg _ (by omega)
            have e3 : ks[t] % 18446744073709551616 % ((n3.size : Int) + 1) < (n3.size : Int) + 1 := Int.emod_lt_of_pos _ (by omega)
            refine ⟨(ks[t] % 18446744073709551616 % ((n3.size : Int) + 1)).toNat, ?_, by omega, ?_⟩
            · rw [e1, Int.tmod_eq_emod_of_nonneg e0, Int.toNat_of_nonneg e2]
            · unfold kept; rw [← size_of_list HE.out.2.2]
          have hcl : (n3.extract 0 mm).data.toList = st.fs[k].pend.take mm := by rw [cut_list, HE.out.2.2]; simp
          have hcs := cut_size n3 0 mm hml (Nat.zero_le _)
          have hsz2 : n2.size + (n3.extract 0 mm).size ≤ 9223372036854775807 := by omega
          have HMK := Lib.hid (And.intro hmk hcl)
          clear hkt hkc hmk hcl
          go_wp2
          go_region
          go_wp2
          go_roundw
          case rel =>
            have q := HO.out
            rw [List.drop_eq_getElem_cons hlt] at q
            refine ⟨k + 1, t + 1, _, by go_num, by go_num, by omega, HN.out, OwnFiles.drew (crash_row P (st.fs.drop (k + 1)) _ (crashOne ks t st.fs[k]) n1 (n2 ++ n3.extract 0 mm) ⟨#[]⟩ q k hpl HE.out.1 (by unfold crashOne; rw [dif_pos hts]; simp [HE.out.2.1, HE.out.2.2, ← HMK.out.1]) rfl _ (by rw [List.append_assoc]; rfl)), (((HF.out.setCell ⟨g, k * 3, none⟩ (fun _ => rfl) _).setCell ⟨g, k * 3 + 1, none⟩ (fun _ => rfl) _).setCell ⟨g, k * 3 + 2, none⟩ (fun _ => rfl) _).drew⟩
          case measure => simp [intOf]; omega
        · go_wp2
          go_region
          go_wp2
          go_roundw
          case rel =>
            have q := HO.out
            rw [List.drop_eq_getElem_cons hlt] at q
            refine ⟨k + 1, t + 1, _, by go_num, by go_num, by omega, HN.out, OwnFiles.drew (crash_row P (st.fs.drop (k + 1)) _ (crashOne ks t st.fs[k]) n1 n2 ⟨#[]⟩ q k hpl HE.out.1 (by unfold crashOne; rw [dif_neg hts]; simp [HE.out.2.1]) rfl _ (by rw [List.append_assoc]; rfl)), (((HF.out.setCell ⟨g, k * 3, none⟩ (fun _ => rfl) _).setCell ⟨g, k * 3 + 1, none⟩ (fun _ => rfl) _).setCell ⟨g, k * 3 + 2, none⟩ (fun _ => rfl) _).drew⟩
          case measure => simp [intOf]; omega
    · have hkk : k = st.fs.length := by omega
      subst hkk
      have HE := Lib.hid HC.out.end_
      go_wp2
      go_end0
      refine ⟨rfl, g, c, ?_, .inl rfl, ?_⟩
      · have e1 : P ++ st.fs.drop st.fs.length = P := by simp
        have hown := HO.out
        rw [e1] at hown
        have hPl : P.length = st.fs.length := HC.out.len
        have hst : dkCrash st ks = { st with fs := P, left := -1, dark := false } := by unfold dkCrash; rw [HE.out]
        rw [hst] at hok ⊢
        refine ⟨?_, ?_, ?_, H0.out.ne, hok⟩
        · have q := heap_setCell_same _ x 3 _ _ (.bool false) (heap_setCell_same wr x 2 _ _ (.int .i64 (-1)) HX.out)
          rw [hPl]; exact q
        · exact ownsRow_setCell_other (a := ⟨x, 3, none⟩) (ownsRow_setCell_other (a := ⟨x, 2, none⟩) hown (fun e => H0.out.ne (Option.some.inj (show some g = some x from e))) _) (fun e => H0.out.ne (Option.some.inj (show some g = some x from e))) _
        · rw [hPl]; exact hle
      · exact ((HF.out.mono (T := fun k => k = x ∨ k = g) (fun _ _ e => .inr e)).setCell ⟨x, 2, none⟩ (fun _ => .inl rfl) _).setCell ⟨x, 3, none⟩ (fun _ => .inl rfl) _
end Go.Proofs.YtppghhophaobdaaGreatDoor

/- Plain: the reference's Swap does what the program's does. -/
namespace Go.Proofs.YtppghhophaobdaaGreatDoor
open Go.RowKit Go.Maps

theorem doing_code (st : DkSt) (fs' : Fs) : (doing st fs').2 = 0 ∨ (doing st fs').2 = 45 := by unfold doing; split <;> simp
theorem doing_fs {st : DkSt} {fs' : Fs} (h : (doing st fs').2 = 0) : (doing st fs').1.fs = fs' ∧ (doing st fs').1.dark = st.dark := by
  unfold doing at h ⊢
  split
  · rename_i hl; rw [if_pos hl] at h; cases h
  · exact ⟨rfl, rfl⟩
theorem swapEnd_other {e : Int} (st : DkSt) (h : e ≠ 44) : swapEnd e st = (st, e) := if_neg h
theorem swapEnd_self {r : DkSt × Int} (h : r.2 ≠ 44) : swapEnd r.2 r.1 = r := swapEnd_other _ h
/-- What Delete leaves where it tells 0 or 5. -/
theorem delete_gone {st : DkSt} (n : List UInt8) (h : (dkDelete st n).2 = 0 ∨ (dkDelete st n).2 = 5) : (dkDelete st n).1.dark = false ∧ fsGet (dkDelete st n).1.fs n = none := by
  unfold dkDelete at h ⊢
  cases hd : st.dark
  · rw [hd, if_neg (by simp)] at h
    rw [if_neg (by simp)]
    cases hg : fsGet st.fs n with
    | none => exact ⟨hd, hg⟩
    | some f =>
      rw [hg] at h
      simp only at h ⊢
      rcases h with h | h
      · obtain ⟨h1, h2⟩ := doing_fs h
        rw [h1, h2]; exact ⟨hd, get_del_eq _ _⟩
      · rcases doing_code st (fsDel st.fs n) with h2 | h2 <;> rw [h2] at h <;> cases h
  · rw [hd, if_pos rfl] at h
    rcases h with h | h <;> cases h
theorem delete_none {st : DkSt} {n : List UInt8} (hd : st.dark = false) (hg : fsGet st.fs n = none) : dkDelete st n = (st, 5) := by unfold dkDelete; rw [hd, if_neg (by simp), hg]
theorem create_44 {st : DkSt} {n : List UInt8} (h : (dkCreate st n).2 = 44) : (dkCreate st n).1 = st := by
  unfold dkCreate at h ⊢
  split
  · rfl
  · rename_i h1; rw [if_neg h1] at h
    split
    · rfl
    · rename_i h2; rw [if_neg h2] at h
      split
      · rfl
      · rename_i h3; rw [if_neg h3] at h
        split
        · rfl
        · rename_i h4; rw [if_neg h4] at h
          rcases doing_code st (fsPut st.fs ⟨n, [], []⟩) with h5 | h5 <;> rw [h5] at h <;> cases h
theorem create_0 {st : DkSt} {n : List UInt8} (h : (dkCreate st n).2 = 0) : (dkCreate st n).1.dark = false ∧ (fsGet (dkCreate st n).1.fs n).isSome = true := by
  unfold dkCreate at h ⊢
  split
  · rename_i h1; rw [if_pos h1] at h; cases h
  · rename_i h1; rw [if_neg h1] at h
    split
    · rename_i h2; rw [if_pos h2] at h; cases h
    · rename_i h2; rw [if_neg h2] at h
      split
      · rename_i h3; rw [if_pos h3] at h; cases h
      · rename_i h3; rw [if_neg h3] at h
        split
        · rename_i h4; rw [if_pos h4] at h; cases h
        · rename_i h4; rw [if_neg h4] at h
          obtain ⟨e1, e2⟩ := doing_fs h
          rw [e1, e2]
          exact ⟨by simpa using h1, by have := get_put_eq ⟨n, [], []⟩ st.fs; rw [show (⟨n, [], []⟩ : FileS).name = n from rfl] at this; rw [this]; rfl⟩
theorem append_44 {st : DkSt} {n x : List UInt8} (h : (dkAppend st n x).2 = 44) : (dkAppend st n x).1 = st := by
  unfold dkAppend at h ⊢
  split
  · rfl
  · rename_i h1; rw [if_neg h1] at h
    cases hg : fsGet st.fs n with
    | none => rfl
    | some f =>
      rw [hg] at h
      simp only at h ⊢
      split
      · rfl
      · rename_i h2; rw [if_neg h2] at h
        split
        · rename_i h3; rw [if_pos h3] at h; cases h
        · rename_i h3; rw [if_neg h3] at h; cases h
theorem sync_ne (st : DkSt) (n : List UInt8) : (dkSync st n).2 ≠ 44 := by
  unfold dkSync
  split
  · simp
  · split
    · simp
    · rename_i f _
      rcases doing_code st (fsPut st.fs ⟨n, f.firm ++ f.pend, []⟩) with h | h <;> rw [h] <;> decide
theorem rename_ne (st : DkSt) (a c : List UInt8) : (dkRename st a c).2 ≠ 44 := by
  unfold dkRename
  split
  · simp
  · split
    · simp
    · rename_i f _
      split
      · simp
      · split
        · simp
        · rcases doing_code st (fsPut (fsDel st.fs a) ⟨c, f.firm, f.pend⟩) with h | h <;> rw [h] <;> decide

theorem swapL_stop {s : List UInt8} {k : Nat} {r : List Nat} {st : DkSt} (h : (stepF s k st).2 ≠ 0) (hk : ¬ (k = 0 ∧ (stepF s k st).2 = 5)) : swapL s (k :: r) st = stepF s k st := if_pos ⟨h, hk⟩
theorem swapL_go {s : List UInt8} {k : Nat} {r : List Nat} {st : DkSt} (h : ¬ ((stepF s k st).2 ≠ 0 ∧ ¬ (k = 0 ∧ (stepF s k st).2 = 5))) : swapL s (k :: r) st = swapL s r (stepF s k st).1 := if_neg h

theorem rfSwapF_eq (s : List UInt8) (st : DkSt) : rfSwapF s st = swapEnd (swapL s [0, 1, 2, 3, 4] st).2 (swapL s [0, 1, 2, 3, 4] st).1 := by
  unfold rfSwapF
  by_cases h5 : (dkDelete st freshN).2 ≠ 0 ∧ (dkDelete st freshN).2 ≠ 5
  · rw [if_pos h5, swapL_stop (k := 0) h5.1 (fun h => h5.2 h.2)]
    exact (swapEnd_self (by rcases delete_code st freshN with h | h | h <;> (show (dkDelete st freshN).2 ≠ 44; rw [h]; decide))).symm
  · rw [if_neg h5, swapL_go (k := 0) (fun h => h5 ⟨h.1, fun e => h.2 ⟨rfl, e⟩⟩)]
    have h05 : (dkDelete st freshN).2 = 0 ∨ (dkDelete st freshN).2 = 5 := by omega
    obtain ⟨hd1, hg1⟩ := delete_gone freshN h05
    show rfA2 s (dkDelete st freshN).1 = swapEnd (swapL s [1, 2, 3, 4] (dkDelete st freshN).1).2 (swapL s [1, 2, 3, 4] (dkDelete st freshN).1).1
    generalize (dkDelete st freshN).1 = s1 at *
    unfold rfA2
    by_cases hc : (dkCreate s1 freshN).2 ≠ 0
    · rw [if_pos hc, swapL_stop (k := 1) hc (fun h => by cases h.1)]
      show dkCreate s1 freshN = swapEnd (dkCreate s1 freshN).2 (dkCreate s1 freshN).1
      by_cases h44 : (dkCreate s1 freshN).2 = 44
      · have e1 := create_44 h44
        have e2 : dkCreate s1 freshN = (s1, 44) := Prod.ext e1 h44
        rw [e2]
        show (s1, (44 : Int)) = swapEnd 44 s1
        unfold swapEnd
        rw [delete_none hd1 hg1]; rfl
      · exact (swapEnd_self h44).symm
    · have hc0 : (dkCreate s1 freshN).2 = 0 := by omega
      rw [if_neg hc, swapL_go (k := 1) (fun h => h.1 hc0)]
      obtain ⟨hd2, hg2⟩ := create_0 hc0
      show rfA3 s (dkCreate s1 freshN).1 = swapEnd (swapL s [2, 3, 4] (dkCreate s1 freshN).1).2 (swapL s [2, 3, 4] (dkCreate s1 freshN).1).1
      generalize (dkCreate s1 freshN).1 = s2 at *
      unfold rfA3
      by_cases ha44 : (dkAppend s2 freshN s).2 = 44
      · rw [if_pos ha44, swapL_stop (k := 2) (by show (dkAppend s2 freshN s).2 ≠ 0; rw [ha44]; decide) (fun h => by cases h.1)]
        show rfFull (dkAppend s2 freshN s).1 = swapEnd (dkAppend s2 freshN s).2 (dkAppend s2 freshN s).1
        rw [ha44, append_44 ha44]
        unfold rfFull swapEnd
        rw [if_pos rfl]
        have hn5 : (dkDelete s2 freshN).2 ≠ 5 := by
          unfold dkDelete
          rw [hd2, if_neg (by simp)]
          cases hg : fsGet s2.fs freshN with
          | none => rw [hg] at hg2; cases hg2
          | some f => simp only; rcases doing_code s2 (fsDel s2.fs freshN) with h | h <;> rw [h] <;> decide
        by_cases h0 : (dkDelete s2 freshN).2 = 0
        · rw [if_neg (fun h => h h0), if_pos (.inl h0)]
        · rw [if_pos h0, if_neg (fun h => h.elim h0 hn5)]
      · rw [if_neg ha44]
        by_cases ha : (dkAppend s2 freshN s).2 ≠ 0
        · rw [if_pos ha, swapL_stop (k := 2) ha (fun h => by cases h.1)]
          exact (swapEnd_self (r := dkAppend s2 freshN s) ha44).symm
        · have ha0 : (dkAppend s2 freshN s).2 = 0 := by omega
          rw [if_neg ha, swapL_go (k := 2) (fun h => h.1 ha0)]
          show rfA4 (dkAppend s2 freshN s).1 = swapEnd (swapL s [3, 4] (dkAppend s2 freshN s).1).2 (swapL s [3, 4] (dkAppend s2 freshN s).1).1
          generalize (dkAppend s2 freshN s).1 = s3 at *
          unfold rfA4
          by_cases hs : (dkSync s3 freshN).2 ≠ 0
          · rw [if_pos hs, swapL_stop (k := 3) hs (fun h => by cases h.1)]
            exact (swapEnd_self (r := dkSync s3 freshN) (sync_ne _ _)).symm
          · have hs0 : (dkSync s3 freshN).2 = 0 := by omega
            rw [if_neg hs, swapL_go (k := 3) (fun h => h.1 hs0)]
            show dkRename (dkSync s3 freshN).1 freshN fileN = swapEnd (swapL s [4] (dkSync s3 freshN).1).2 (swapL s [4] (dkSync s3 freshN).1).1
            generalize (dkSync s3 freshN).1 = s4 at *
            by_cases hr : (dkRename s4 freshN fileN).2 ≠ 0
            · rw [swapL_stop (k := 4) hr (fun h => by cases h.1)]
              exact (swapEnd_self (r := dkRename s4 freshN fileN) (rename_ne _ _ _)).symm
            · have hr0 : (dkRename s4 freshN fileN).2 = 0 := by omega
              rw [swapL_go (k := 4) (fun h => h.1 hr0)]
              show dkRename s4 freshN fileN = swapEnd 0 (dkRename s4 freshN fileN).1
              rw [swapEnd_other _ (by decide), ← hr0]
theorem rfSwap_eq (st : DkSt) (g : Int) (l : Segs) : rfSwap st g l = dkSwap st g l := by
  unfold rfSwap dkSwap
  split
  · exact rfSwapF_eq _ _
  · rfl
end Go.Proofs.YtppghhophaobdaaGreatDoor

/- ManifSwaps: both disks beside each other in one memory. -/
namespace Go.Proofs.YtppghhophaobdaaGreatDoor
open Go.RowKit Go.Maps Go.Sort

/-- Where the law stands: the program's disk (p, b), the reference's (x, g), and the law's two boxes, behind all that came in. -/
structure SwAt (w wr : World) (p b x g c : Nat) (sd sr : DkSt) (G : Int) (sv : Value) (H : Int) (tv : Value) : Prop where
  dk : IsDk wr p b sd
  rf : IsRf wr x g c sr
  bm : wr.heap[w.heap.size]? = some (.cells #[.int .i64 G, sv] 25 (0, 0))
  bn : wr.heap[w.heap.size + 1]? = some (.cells #[.int .i64 H, tv] 25 (0, 0))
  fp : w.heap.size + 2 ≤ p
  fb : w.heap.size + 2 ≤ b
  fx : w.heap.size + 2 ≤ x
  fg : w.heap.size + 2 ≤ g
  px : p ≠ x
  pg : p ≠ g
  bx : b ≠ x
  bg : b ≠ g
  below : Below w.heap.size w wr

theorem SwAt.pure {w wr w' : World} {p b x g c : Nat} {sd sr : DkSt} {G H : Int} {sv tv : Value} (h : SwAt w wr p b x g c sd sr G sv H tv) (hb : Below wr.heap.size wr w') : SwAt w w' p b x g c sd sr G sv H tv :=
  ⟨h.dk.pure hb, h.rf.pure hb, (hb.block _ (lt_of_block h.bm)).trans h.bm, (hb.block _ (lt_of_block h.bn)).trans h.bn, h.fp, h.fb, h.fx, h.fg, h.px, h.pg, h.bx, h.bg, h.below.trans (hb.mono h.below.size)⟩
theorem SwAt.dkTo {w wr w' : World} {p b x g c : Nat} {sd sr sd' : DkSt} {G H : Int} {sv tv : Value} (h : SwAt w wr p b x g c sd sr G sv H tv) (hd : IsDk w' p b sd') (hf : DFr p b wr w') : SwAt w w' p b x g c sd' sr G sv H tv := by
  have h1 := h.fp
  have h2 := h.fb
  refine ⟨hd, h.rf.kept hf (fun e => e.elim (fun e => h.px e.symm) (fun e => h.bx e.symm)) (fun e => e.elim (fun e => h.pg e.symm) (fun e => h.bg e.symm)), hf.heapAt h.bm (fun e => by rcases e with e | e <;> omega), hf.heapAt h.bn (fun e => by rcases e with e | e <;> omega), h.fp, h.fb, h.fx, h.fg, h.px, h.pg, h.bx, h.bg, h.below.trans (hf.below h.below.size (fun k hk e => by rcases e with e | e <;> omega))⟩
theorem SwAt.rfTo {w wr w' : World} {p b x g c : Nat} {sd sr sr' : DkSt} {G H : Int} {sv tv : Value} (h : SwAt w wr p b x g c sd sr G sv H tv) (hr : RfTo x g wr sr' w') : ∃ g' c', SwAt w w' p b x g' c' sd sr' G sv H tv := by
  obtain ⟨g', c', h1, h2, hf⟩ := hr
  have q1 := h.fx
  have q2 := h.fg
  have q3 := h.below.size
  have q4 := h.dk.lt
  have q5 := h.dk.own.lt
  have q6 := lt_of_block h.bn
  have hfg : w.heap.size + 2 ≤ g' := by rcases h2 with e | e <;> omega
  have hpg : p ≠ g' := by rcases h2 with e | e; rw [e]; exact h.pg; omega
  have hbg : b ≠ g' := by rcases h2 with e | e; rw [e]; exact h.bg; omega
  exact ⟨g', c', h.dk.kept hf (fun e => e.elim h.px h.pg) (fun e => e.elim h.bx h.bg), h1, hf.heapAt h.bm (fun e => by rcases e with e | e <;> omega), hf.heapAt h.bn (fun e => by rcases e with e | e <;> omega), h.fp, h.fb, h.fx, hfg, h.px, hpg, h.bx, hbg, h.below.trans (hf.below h.below.size (fun k hk e => by rcases e with e | e <;> omega))⟩
/-- The box m takes another. -/
theorem SwAt.turn {w wr : World} {p b x g c : Nat} {sd sr : DkSt} {G H : Int} {sv tv : Value} (h : SwAt w wr p b x g c sd sr G sv H tv) :
    SwAt w ((wr.setCell ⟨w.heap.size, 0, none⟩ (.int .i64 H)).setCell ⟨w.heap.size, 1, none⟩ tv) p b x g c sd sr H tv H tv := by
  have h1 := h.fp
  have h2 := h.fb
  have h3 := h.fx
  have h4 := h.fg
  have hf : Fr (fun k => k = w.heap.size) wr ((wr.setCell ⟨w.heap.size, 0, none⟩ (.int .i64 H)).setCell ⟨w.heap.size, 1, none⟩ tv) := ((Fr.refl (fun k => k = w.heap.size) wr).setCell ⟨w.heap.size, 0, none⟩ (fun _ => rfl) _).setCell ⟨w.heap.size, 1, none⟩ (fun _ => rfl) _
  refine ⟨h.dk.kept hf (by omega) (by omega), h.rf.kept hf (by omega) (by omega), ?_, hf.heapAt h.bn (by omega), h.fp, h.fb, h.fx, h.fg, h.px, h.pg, h.bx, h.bg, h.below.trans (hf.below h.below.size (fun k hk e => by omega))⟩
  exact heap_setCell_same _ _ 1 _ _ tv (heap_setCell_same wr _ 0 _ _ (.int .i64 H) h.bm)
end Go.Proofs.YtppghhophaobdaaGreatDoor

/- The reference's disk: Create, Delete, Read, Cut. -/
import Derived.Test.YtppghhophaobdaaGreatDoorRfH
import Derived.Test.YtppghhophaobdaaGreatDoorDk3
namespace Go.Proofs.YtppghhophaobdaaGreatDoor
open Go.RowKit Go.Maps Go.Sort

theorem isN_get {fs : Fs} (hs : Sorted fs) (n : List UInt8) : isN fs n = (fsGet fs n).isSome := by
  cases h : isN fs n
  · rw [((at_all hs n).2 h).1]; rfl
  · obtain ⟨_, _, h2, _⟩ := (at_all hs n).1 h
    rw [h2]; rfl
theorem okPut {st : DkSt} (h : DkOk st) (f : FileS) (hl : (fsDel st.fs f.name).length < 64) (hs : f.firm.length + f.pend.length ≤ 1048576) (hn : f.name.length ≤ 24) (hu : ((used (fsPut st.fs f) : Nat) : Int) ≤ st.cap) : DkOk { st with fs := fsPut st.fs f } :=
  ⟨h.fs.put hl hs hn, h.cap0, h.cap1, hu, h.left0, h.left1⟩
/-- What an op of the reference's disk leaves, and tells. -/
def RfOp (x g : Nat) (r : DkSt × Int) (w : World) (e : Ending) (w' : World) : Prop := e = .returned (.int .i64 r.2) ∧ RfTo x g w r.1 w'
/-- One thing behind another, where the files lay still in the one block. -/
theorem RfTo.trans2 {w w1 w2 : World} {x g : Nat} {st st' : DkSt} (h : RfTo x g w st w1) (k : RfTo x g w1 st' w2) : RfTo x g w st' w2 := by
  obtain ⟨g1, c1, h1, hg1, hf1⟩ := h
  obtain ⟨g2, c2, h2, hg2, hf2⟩ := k
  exact ⟨g2, c2, h2, hg2.imp id (fun e => Nat.le_trans hf1.size e), hf1.then hf2 (fun _ _ e => e)⟩
theorem rfGoes_dark {st : DkSt} (h : st.left = 0) : rfGoes st = ({ st with dark := true }, false) := by unfold rfGoes; rw [if_pos h]
theorem rfGoes_goes {st : DkSt} (h : st.left ≠ 0) : rfGoes st = ({ st with left := dec st.left }, true) := by unfold rfGoes; rw [if_neg h]
theorem doing_dark {st : DkSt} (h : st.left = 0) (fs' : Fs) : doing st fs' = ({ st with dark := true }, 45) := by unfold doing; rw [if_pos h]
theorem doing_goes {st : DkSt} (h : st.left ≠ 0) (fs' : Fs) : doing st fs' = ({ st with left := dec st.left, fs := fs' }, 0) := by unfold doing; rw [if_neg h]
theorem IsRf.goesTo {w w1 : World} {x g c : Nat} {st st1 : DkSt} (_ : IsRf w x g c st) (h1 : IsRf w1 x g c st1) (hf : Fr (fun k => k = x) w w1) : RfTo x g w st1 w1 := ⟨g, c, h1, .inl rfl, hf.mono (fun _ _ e => .inl e)⟩

set_option maxRecDepth 100000 in
set_option maxHeartbeats 4000000 in
theorem rf_create (w : World) (x g c : Nat) (st : DkSt) (h : IsRf w x g c st) (n : ByteArray) (hn : n.size ≤ 1000) :
    Calls Tryz.prog 70 #[.pointer (some ⟨x, 0, none⟩), .string n] w fun e w' => RfOp x g (dkCreate st n.data.toList) w e w' := by
  have H0 := Lib.hid h
  obtain ⟨_, _, _, c3⟩ := h.cs
  have hf64 := h.ok.fs.few
  obtain ⟨r, hr⟩ : ∃ r, r = dkCreate st n.data.toList := ⟨_, rfl⟩
  rw [← hr]
  have HR := Lib.hid hr
  clear h hr
  cases hd : st.dark
  · rw [hd] at c3
    have HD := Lib.hid hd
    clear hd
    go_enter Tryz.func70, Tryz.ntmps70
    go_wp2_with fail
    refine (rf_at w x g c st H0.out n).mono ?_
    rintro e w1 ⟨rfl, q, hq⟩
    have hb1 : Below w.heap.size w w1 := by rw [hq]; exact rf_drewN (Below.refl _ _) q
    have H1 := Lib.hid (H0.out.pure hb1)
    have B1 := Lib.hid hb1
    have HG := Lib.hid (isN_get H0.out.ok.fs.sorted n.data.toList)
    clear hq hb1 c3
    go_wp2_with fail
    refine (rf_mayName w1 n (by omega)).mono ?_
    rintro e w' ⟨rfl, rfl⟩
    cases hm : mayName n.data.toList
    · have HF := Lib.hid (show r = (st, 4) by rw [HR.out]; unfold dkCreate; rw [if_neg (by simp [HD.out]), if_pos (by simp [hm])])
      clear hm
      go_wp2
      go_ret
      exact ⟨ret_int (by rw [HF.out]), by rw [HF.out]; exact RfTo.pure H0.out B1.out⟩
    · have HM := Lib.hid hm
      clear hm
      cases hi : isN st.fs n.data.toList
      · have HI := Lib.hid hi
        clear hi
        obtain ⟨k0, _, _, _⟩ := H1.out.cs
        by_cases h64 : 64 ≤ st.fs.length
        · have HF := Lib.hid (show r = (st, 44) by rw [HR.out]; unfold dkCreate; rw [if_neg (by simp [HD.out]), if_neg (by simp [HM.out]), if_neg (by rw [← HG.out, HI.out]; simp), if_pos h64])
          go_wp2
          go_ret
          exact ⟨ret_int (by rw [HF.out]), by rw [HF.out]; exact RfTo.pure H0.out B1.out⟩
        · have HF := Lib.hid (show r = doing st (fsPut st.fs ⟨n.data.toList, [], []⟩) by rw [HR.out]; unfold dkCreate; rw [if_neg (by simp [HD.out]), if_neg (by simp [HM.out]), if_neg (by rw [← HG.out, HI.out]; simp), if_neg h64])
          go_wp2_with fail
          refine (rf_goes w1 x g c st H1.out).mono ?_
          rintro e w2 ⟨rfl, h2, hf2⟩
          have HF2 := Lib.hid hf2
          clear hf2 k0
          by_cases hl : st.left = 0
          · rw [rfGoes_dark hl] at h2 ⊢
            have H2 := Lib.hid h2
            have HF3 := Lib.hid (HF.out.trans (doing_dark hl _))
            clear h2 hl
            go_wp2
            go_ret
            exact ⟨ret_int (by rw [HF3.out]), by rw [HF3.out]; exact ⟨g, c, H2.out, .inl rfl, (Fr.pure B1.out).then HF2.out (fun _ _ e => .inl e)⟩⟩
          · rw [rfGoes_goes hl] at h2 ⊢
            have H2 := Lib.hid h2
            have HF3 := Lib.hid (HF.out.trans (doing_goes hl _))
            clear h2 hl
            have HOK := Lib.hid (show DkOk { st with left := dec st.left, fs := fsPut st.fs ⟨n.data.toList, [], []⟩ } from okPut (st := { st with left := dec st.left }) H2.out.ok ⟨n.data.toList, [], []⟩ (by rw [((at_all H0.out.ok.fs.sorted n.data.toList).2 HI.out).2.1]; show st.fs.length < 64; omega) (by simp) (mayName_len HM.out) (by
              rw [used_put]
              show ((0 + 0 + used (fsDel st.fs n.data.toList) : Nat) : Int) ≤ st.cap
              have := used_del st.fs n.data.toList
              have := H0.out.ok.fits
              omega))
            go_wp2_with fail
            refine (rf_put w2 x g c { st with left := dec st.left } H2.out n ⟨#[]⟩ ⟨#[]⟩ HOK.out).mono ?_
            rintro e w3 ⟨rfl, h3⟩
            have H3 := Lib.hid h3
            clear h3
            go_wp2
            go_ret
            refine ⟨ret_int (by rw [HF3.out]), ?_⟩
            rw [HF3.out]
            exact (show RfTo x g w { st with left := dec st.left } w2 from ⟨g, c, H2.out, .inl rfl, (Fr.pure B1.out).then HF2.out (fun _ _ e => .inl e)⟩).trans2 H3.out
      · have HF := Lib.hid (show r = (st, 6) by rw [HR.out]; unfold dkCreate; rw [if_neg (by simp [HD.out]), if_neg (by simp [HM.out]), if_pos (by rw [← HG.out, hi])])
        clear hi
        go_wp2
        go_ret
        exact ⟨ret_int (by rw [HF.out]), by rw [HF.out]; exact RfTo.pure H0.out B1.out⟩
  · rw [hd] at c3
    have HF := Lib.hid (show r = (st, 45) by rw [HR.out]; unfold dkCreate; rw [if_pos hd])
    clear hd
    go_enter Tryz.func70, Tryz.ntmps70
    go_wp2
    go_ret
    exact ⟨ret_int (by rw [HF.out]), by rw [HF.out]; exact RfTo.refl H0.out⟩

/-- The cases of a file that is asked for. -/
theorem rf_cases {fs : Fs} (hs : Sorted fs) (n : List UInt8) : (isN fs n = false ∧ fsGet fs n = none) ∨ (isN fs n = true ∧ ∃ h : atN fs n < fs.length, fsGet fs n = some fs[atN fs n] ∧ fs[atN fs n].name = n) := by
  cases h : isN fs n
  · exact .inl ⟨rfl, ((at_all hs n).2 h).1⟩
  · obtain ⟨h1, h2, h3, _⟩ := (at_all hs n).1 h
    exact .inr ⟨rfl, h1, h3, h2⟩

set_option maxRecDepth 100000 in
set_option maxHeartbeats 4000000 in
theorem rf_delete (w : World) (x g c : Nat) (st : DkSt) (h : IsRf w x g c st) (n : ByteArray) :
    Calls Tryz.prog 69 #[.pointer (some ⟨x, 0, none⟩), .string n] w fun e w' => RfOp x g (dkDelete st n.data.toList) w e w' := by
  have H0 := Lib.hid h
  obtain ⟨r, hr⟩ : ∃ r, r = dkDelete st n.data.toList := ⟨_, rfl⟩
  rw [← hr]
  have HR := Lib.hid hr
  have HC := Lib.hid (rf_cases h.ok.fs.sorted n.data.toList)
  clear h hr
  go_enter Tryz.func69, Tryz.ntmps69
  go_wp2_with fail
  refine (rf_find w x g c st H0.out n).mono ?_
  rintro e w1 ⟨rfl, q, hq⟩
  have hb1 : Below w.heap.size w w1 := by rw [hq]; exact rf_drewN (Below.refl _ _) q
  have H1 := Lib.hid (H0.out.pure hb1)
  have B1 := Lib.hid hb1
  clear hq hb1
  cases hd : st.dark
  · rcases HC.out with ⟨hi, hg⟩ | ⟨hi, hlt, hg, hnm⟩
    · have HF := Lib.hid (show r = (st, 5) by rw [HR.out]; unfold dkDelete; rw [if_neg (by simp [hd]), hg])
      rw [rfFind_none hd hi]
      clear hi hg hd
      go_wp2
      go_ret
      exact ⟨ret_int (by rw [HF.out]), by rw [HF.out]; exact RfTo.pure H0.out B1.out⟩
    · have HF := Lib.hid (show r = doing st (fsDel st.fs n.data.toList) by rw [HR.out]; unfold dkDelete; rw [if_neg (by simp [hd]), hg])
      rw [rfFind_some hd hi]
      clear hnm hi hg hd hlt
      go_wp2_with fail
      refine (rf_goes w1 x g c st H1.out).mono ?_
      rintro e w2 ⟨rfl, h2, hf2⟩
      have HF2 := Lib.hid hf2
      clear hf2
      by_cases hl : st.left = 0
      · rw [rfGoes_dark hl] at h2 ⊢
        have H2 := Lib.hid h2
        have HF3 := Lib.hid (HF.out.trans (doing_dark hl _))
        clear h2 hl
        go_wp2
        go_ret
        exact ⟨ret_int (by rw [HF3.out]), by rw [HF3.out]; exact ⟨g, c, H2.out, .inl rfl, (Fr.pure B1.out).then HF2.out (fun _ _ e => .inl e)⟩⟩
      · rw [rfGoes_goes hl] at h2 ⊢
        have H2 := Lib.hid h2
        have HF3 := Lib.hid (HF.out.trans (doing_goes hl _))
        clear h2 hl
        go_wp2_with fail
        refine (rf_drop w2 x g c { st with left := dec st.left } H2.out n).mono ?_
        rintro e w3 ⟨rfl, h3⟩
        have H3 := Lib.hid h3
        clear h3
        go_wp2
        go_ret
        refine ⟨ret_int (by rw [HF3.out]), ?_⟩
        rw [HF3.out]
        exact (show RfTo x g w { st with left := dec st.left } w2 from ⟨g, c, H2.out, .inl rfl, (Fr.pure B1.out).then HF2.out (fun _ _ e => .inl e)⟩).trans2 H3.out
  · have HF := Lib.hid (show r = (st, 45) by rw [HR.out]; unfold dkDelete; rw [if_pos hd])
    rw [rfFind_dark hd]
    clear hd
    go_wp2
    go_ret
    exact ⟨ret_int (by rw [HF.out]), by rw [HF.out]; exact RfTo.pure H0.out B1.out⟩

set_option maxRecDepth 100000 in
set_option maxHeartbeats 4000000 in
theorem rf_read (w : World) (x g c : Nat) (st : DkSt) (h : IsRf w x g c st) (n : ByteArray) :
    Calls Tryz.prog 75 #[.pointer (some ⟨x, 0, none⟩), .string n] w fun e w' => TextPost (dkRead st n.data.toList) w e w' := by
  have H0 := Lib.hid h
  have hle := h.le
  obtain ⟨r, hr⟩ : ∃ r, r = dkRead st n.data.toList := ⟨_, rfl⟩
  rw [← hr]
  have HR := Lib.hid hr
  have HC := Lib.hid (rf_cases h.ok.fs.sorted n.data.toList)
  clear h hr
  go_enter Tryz.func75, Tryz.ntmps75
  go_wp2_with fail
  refine (rf_find w x g c st H0.out n).mono ?_
  rintro e w1 ⟨rfl, q, hq⟩
  have hb1 : Below w.heap.size w w1 := by rw [hq]; exact rf_drewN (Below.refl _ _) q
  have H1 := Lib.hid (H0.out.pure hb1)
  have B1 := Lib.hid hb1
  clear hq hb1
  cases hd : st.dark
  · rcases HC.out with ⟨hi, hg⟩ | ⟨hi, hlt, hg, hnm⟩
    · have HF := Lib.hid (show r = ([], 5) by rw [HR.out]; unfold dkRead; rw [if_neg (by simp [hd]), hg])
      rw [rfFind_none hd hi]
      clear hi hg hd
      go_wp2
      go_ret2
      exact ⟨⟨⟨#[]⟩, by rw [HF.out], by rw [HF.out]; rfl⟩, B1.out⟩
    · obtain ⟨a, b, d, e1, e2, e3, h1, h2, h3⟩ := H1.out.at _ hlt
      have HF := Lib.hid (show r = (st.fs[atN st.fs n.data.toList].firm ++ st.fs[atN st.fs n.data.toList].pend, 0) by rw [HR.out]; unfold dkRead; rw [if_neg (by simp [hd]), hg])
      have HE := Lib.hid (And.intro e2 e3)
      have hsm := H0.out.ok.fs.small _ (List.getElem_mem hlt)
      have hbs : b.size + d.size ≤ 1048576 := by rw [size_of_list e2, size_of_list e3]; exact hsm
      obtain ⟨k0, _, _, _⟩ := H1.out.cs
      rw [rfFind_some hd hi]
      clear hnm hi hg hd e1 e2 e3 h1 hsm
      generalize hi0 : atN st.fs n.data.toList = i at *
      clear hi0
      have hii : ((i : Nat) : Int) < ((st.fs.length : Nat) : Int) := by omega
      have hi0 : (0 : Int) ≤ (i : Int) := by omega
      go_wp2_with fail
      go_quiet (fail)
      go_wp2
      go_ret2
      exact ⟨⟨b ++ d, by rw [append_toList, HE.out.1, HE.out.2, HF.out], by rw [HF.out]; rfl⟩, rf_drewN B1.out _⟩
  · have HF := Lib.hid (show r = ([], 45) by rw [HR.out]; unfold dkRead; rw [if_pos hd])
    rw [rfFind_dark hd]
    clear hd
    go_wp2
    go_ret2
    exact ⟨⟨⟨#[]⟩, by rw [HF.out], by rw [HF.out]; rfl⟩, B1.out⟩

set_option maxRecDepth 100000 in
set_option maxHeartbeats 1000000 in
theorem rf_cut (w : World) (x g c : Nat) (st : DkSt) (h : IsRf w x g c st) (k : Int) (hk1 : k ≤ 9223372036854775807) :
    Calls Tryz.prog 13 #[.pointer (some ⟨x, 0, none⟩), .int .i64 k] w fun e w' => RfOp x g (dkCut st k) w e w' := by
  have H0 := Lib.hid h
  obtain ⟨_, _, _, c3⟩ := h.cs
  have z2 := h.fz 2
  have hl2 := h.cs.2.2.1
  obtain ⟨r, hr⟩ : ∃ r, r = dkCut st k := ⟨_, rfl⟩
  rw [← hr]
  have HR := Lib.hid hr
  clear h hr
  cases hd : st.dark
  · rw [hd] at c3
    by_cases hk : k < 0
    · have HF := Lib.hid (show r = (st, 1) by rw [HR.out]; unfold dkCut; rw [if_neg (by simp [hd]), if_pos hk])
      clear hd
      go_enter Tryz.func13, Tryz.ntmps13
      go_wp2
      go_ret
      exact ⟨ret_int (by rw [HF.out]), by rw [HF.out]; exact RfTo.refl H0.out⟩
    · have HF := Lib.hid (show r = ({ st with left := k }, 0) by rw [HR.out]; unfold dkCut; rw [if_neg (by simp [hd]), if_neg hk])
      clear hd
      go_enter Tryz.func13, Tryz.ntmps13
      go_wp2
      go_ret
      exact ⟨ret_int (by rw [HF.out]), by rw [HF.out]; exact ⟨g, c, H0.out.left k (by omega) hk1, .inl rfl, (setCell_fr (w := w) ⟨x, 2, none⟩ _).mono (fun _ _ e => .inl e)⟩⟩
  · rw [hd] at c3
    have HF := Lib.hid (show r = (st, 45) by rw [HR.out]; unfold dkCut; rw [if_pos hd])
    clear hd
    go_enter Tryz.func13, Tryz.ntmps13
    go_wp2
    go_ret
    exact ⟨ret_int (by rw [HF.out]), by rw [HF.out]; exact RfTo.refl H0.out⟩
end Go.Proofs.YtppghhophaobdaaGreatDoor

/- The walk of Rename. -/
import Derived.Test.YtppghhophaobdaaGreatDoorDk5
namespace Go.Proofs.YtppghhophaobdaaGreatDoor
open Go.RowKit Go.Maps

theorem box3_below (w : World) (o1 o2 o3 : Obj) : Below w.heap.size w (((w.alloc o1).alloc o2).alloc o3) := (box2_below w o1 o2).alloc (by simp; omega) _
theorem box3_fr (w : World) (o1 o2 o3 : Obj) {w1 : World} (h : Below ((((w.alloc o1).alloc o2).alloc o3).heap.size) (((w.alloc o1).alloc o2).alloc o3) w1) : Below w.heap.size w w1 := (box3_below w o1 o2 o3).trans (h.mono (by simp; omega))
theorem box3_capt {w w' : World} {p : Nat} {n m : ByteArray} {t1 t2 t3 : TypeId} (h : Fr (fun _ => False) (((w.alloc (.cells #[.pointer (some ⟨p, 0, none⟩)] t1)).alloc (.cells #[.string n] t2)).alloc (.cells #[.string m] t3)) w') : Capt w' w.heap.size (w.heap.size + 1) p n ∧ w'.cell? ⟨w.heap.size + 2, 0, none⟩ = some (.string m) :=
  ⟨⟨h.cellAt (by rw [World.cell?_alloc_past _ _ _ (by simp; omega), World.cell?_alloc_past _ _ _ (by simp), World.cell?_alloc_at _ _ _ _ rfl]; rfl) (fun h => h), h.cellAt (by rw [World.cell?_alloc_past _ _ _ (by simp), World.cell?_alloc_at _ _ _ _ (by simp)]; rfl) (fun h => h)⟩, h.cellAt (by rw [World.cell?_alloc_at _ _ _ _ (by simp)]; rfl) (fun h => h)⟩

set_option maxRecDepth 100000 in
set_option maxHeartbeats 2500000 in
theorem dk_rename (w : World) (p b : Nat) (st : DkSt) (h : IsDk w p b st) (n m : ByteArray) (hn : n.size ≤ maxLen) (hm : m.size ≤ 9223372036854775807) :
    Calls Tryz.prog 67 #[.pointer (some ⟨p, 0, none⟩), .string n, .string m] w fun e w' => OpPost p b (dkRename st n.data.toList m.data.toList) w e w' := by
  have hmf : ∀ (fn : Fn) (first cap : Array Value) (w : World), (Instr.makeFunc fn first cap).run Tryz.prog w = .ok (.func fn first cap) w := fun _ _ _ _ => rfl
  have hp := h.lt
  have hbl := h.own.lt
  have H := Lib.hid h
  have H1 := Lib.hid (h.pure (box3_below w (.cells #[.pointer (some ⟨p, 0, none⟩)] 29) (.cells #[.string n] 9) (.cells #[.string m] 9)))
  clear h
  go_enter Tryz.func67, Tryz.ntmps67
  go_wp2_with fail
  refine (dk_find _ p b st H1.out n hn).mono ?_
  intro e w1 hf
  cases hd : st.dark
  · cases hg : fsGet st.fs n.data.toList with
    | none =>
      obtain ⟨hb1, rfl⟩ := find_none hf hd hg
      have HD := Lib.hid hd
      have HG := Lib.hid hg
      have hb6 := Lib.hid (((box3_fr w _ _ _ hb1).alloc (by have := hb1.size; simp at this; omega) (.cells #[.string ⟨#[]⟩, .string ⟨#[]⟩] 113)))
      clear hd hg hf hb1
      go_wp2
      go_ret
      have e1 : dkRename st n.data.toList m.data.toList = (st, 5) := by unfold dkRename; rw [if_neg (by rw [HD.out]; simp), HG.out]
      rw [e1]
      exact ⟨rfl, H.out.pure hb6.out, Fr.pure hb6.out⟩
    | some f =>
      obtain ⟨hb1, f1, f2, hf1, hf2, rfl⟩ := find_some hf hd hg
      have HD := Lib.hid hd
      have HG := Lib.hid hg
      have HF := Lib.hid (And.intro hf1 hf2)
      have hs1 := hb1.size
      simp at hs1
      have HB := Lib.hid (((box3_fr w _ _ _ hb1).alloc (by omega) (.cells #[.string f1, .string f2] 113)))
      have HC := Lib.hid (box3_capt (((Fr.refl _ _).andPure hb1).alloc (.cells #[.string f1, .string f2] 113)))
      have HX := Lib.hid (box_at (Fr.refl (fun _ => False) _) : BoxAt (w1.alloc (.cells #[.string f1, .string f2] 113)) w1.heap.size f1 f2)
      clear hd hg hf hb1 hf1 hf2
      have hx1 := HC.out.1.cq
      have hx2 := HC.out.1.cr
      have hx3 := HC.out.2
      go_wp2_with fail
      refine (mayName_any m _ hm).mono ?_
      rintro e w3 ⟨rfl, hb3⟩
      have hs3 := hb3.size
      simp at hs3
      have HB3 := Lib.hid (HB.out.trans (hb3.mono (by simp; omega)))
      have HC3 := Lib.hid (And.intro (HC.out.1.fr (Fr.pure (S := fun _ => False) hb3) (fun h => h) (fun h => h)) ((Fr.pure (S := fun _ => False) hb3).cellAt HC.out.2 (fun h => h)))
      have HX3 := Lib.hid (HX.out.fr (Fr.pure (S := fun _ => False) hb3) (fun h => h))
      clear hb3 hx1 hx2 hx3
      have hx1 := HC3.out.1.cq
      have hx2 := HC3.out.1.cr
      have hx3 := HC3.out.2
      cases hmn : mayName m.data.toList
      · have HM := Lib.hid hmn
        clear hmn
        go_wp2
        go_ret
        have e1 : dkRename st n.data.toList m.data.toList = (st, 4) := by unfold dkRename; rw [if_neg (by rw [HD.out]; simp), HG.out, HM.out]; rfl
        rw [e1]
        exact ⟨rfl, H.out.pure HB3.out, Fr.pure HB3.out⟩
      · have HM := Lib.hid hmn
        clear hmn
        by_cases hnm : n = m
        · have HNM := Lib.hid hnm
          have htr := str_eq_true (show n.data.toList = m.data.toList from by rw [hnm])
          clear hnm
          go_wp2
          go_ret
          have e1 : dkRename st n.data.toList m.data.toList = (st, 1) := by unfold dkRename; rw [if_neg (by rw [HD.out]; simp), HG.out, HM.out]; show (if (!true) = true then _ else if _ = _ then _ else _) = _; rw [if_neg (by simp), if_pos (by rw [HNM.out])]
          rw [e1]
          exact ⟨rfl, H.out.pure HB3.out, Fr.pure HB3.out⟩
        · have HNM := Lib.hid hnm
          have htr := str_eq_false (show n.data.toList ≠ m.data.toList from fun e => hnm (str_ext e))
          clear hnm
          go_wp2_with fail
          refine (dk_do 130 _ _ p b st (H.out.pure HB3.out) (enters_of Tryz.func130 (by kernel_rfl) rfl) (fun w2 => IsDk w2 p b { st with left := dec st.left, fs := fsPut (fsDel st.fs n.data.toList) ⟨m.data.toList, f.firm, f.pend⟩ } ∧ DFr p b w3 w2)
            (fun _ w4 hf1 hs1 hd1 => (rename_act w4 _ _ _ _ p b { st with left := dec st.left } n m f1 f2 (HC3.out.1.fr hf1 (by omega) (by omega)) (hf1.cellAt HC3.out.2 (by omega)) (HX3.out.fr hf1 (by omega)) hd1 hn (by have := mayName_len HM.out; rw [size_toList] at this; exact this) f HG.out HF.out.1 HF.out.2).mono (fun e w2 h2 => ⟨h2.1, h2.2.1, hf1.toD1.trans h2.2.2⟩))).mono ?_
          rintro e w7 (⟨h0, rfl, hf7, hd7⟩ | ⟨h0, rfl, hd7, hf7⟩)
          · have H7 := Lib.hid hd7
            have F7 := Lib.hid hf7
            have H0 := Lib.hid h0
            clear hd7 hf7 h0
            go_wp2
            go_ret
            have e1 : dkRename st n.data.toList m.data.toList = ({ st with dark := true }, 45) := by unfold dkRename; rw [if_neg (by rw [HD.out]; simp), HG.out, HM.out]; show (if (!true) = true then _ else if _ = _ then _ else _) = _; rw [if_neg (by simp), if_neg (fun e => HNM.out (str_ext e))]; exact if_pos H0.out
            rw [e1]
            exact ⟨rfl, H7.out, (Fr.pure HB3.out).trans F7.out.toD1⟩
          · have H7 := Lib.hid hd7
            have F7 := Lib.hid hf7
            have H0 := Lib.hid h0
            clear hd7 hf7 h0
            go_wp2
            go_ret
            have e1 : dkRename st n.data.toList m.data.toList = ({ st with left := dec st.left, fs := fsPut (fsDel st.fs n.data.toList) ⟨m.data.toList, f.firm, f.pend⟩ }, 0) := by unfold dkRename; rw [if_neg (by rw [HD.out]; simp), HG.out, HM.out]; show (if (!true) = true then _ else if _ = _ then _ else _) = _; rw [if_neg (by simp), if_neg (fun e => HNM.out (str_ext e))]; exact if_neg H0.out
            rw [e1]
            exact ⟨rfl, H7.out, (Fr.pure HB3.out).trans F7.out⟩
  · obtain ⟨hb1, rfl⟩ := find_dark hf hd
    have HD := Lib.hid hd
    have hb6 := Lib.hid (((box3_fr w _ _ _ hb1).alloc (by have := hb1.size; simp at this; omega) (.cells #[.string ⟨#[]⟩, .string ⟨#[]⟩] 113)))
    clear hd hf hb1
    go_wp2
    go_ret
    have e1 : dkRename st n.data.toList m.data.toList = (st, 45) := by unfold dkRename; rw [if_pos HD.out]
    rw [e1]
    exact ⟨rfl, H.out.pure hb6.out, Fr.pure hb6.out⟩

end Go.Proofs.YtppghhophaobdaaGreatDoor

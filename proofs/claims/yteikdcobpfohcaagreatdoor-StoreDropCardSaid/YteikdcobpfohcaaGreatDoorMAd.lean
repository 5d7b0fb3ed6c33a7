/- The walk of Rename. -/
import Derived.Test.YteikdcobpfohcaaGreatDoorMAc
import Derived.Lib.QuietBelow
namespace Go.Proofs.YteikdcobpfohcaaGreatDoor
open Go.RowKit Go.Maps

theorem box3_below (w : World) (o1 o2 o3 : Obj) : Below w.heap.size w (((w.alloc o1).alloc o2).alloc o3) := (box2_below w o1 o2).alloc (by simp; omega) _
theorem box3_fr (w : World) (o1 o2 o3 : Obj) {w1 : World} (h : Below ((((w.alloc o1).alloc o2).alloc o3).heap.size) (((w.alloc o1).alloc o2).alloc o3) w1) : Below w.heap.size w w1 := (box3_below w o1 o2 o3).trans (h.mono (by simp; omega))
theorem box3_capt {w w' : World} {p : Nat} {n m : ByteArray} {t1 t2 t3 : TypeId} (h : Fr (fun _ => False) (((w.alloc (.cells #[.pointer (some ⟨p, 0, none⟩)] t1)).alloc (.cells #[.string n] t2)).alloc (.cells #[.string m] t3)) w') : Capt w' w.heap.size (w.heap.size + 1) p n ∧ w'.cell? ⟨w.heap.size + 2, 0, none⟩ = some (.string m) :=
  ⟨⟨h.cellAt (by rw [World.cell?_alloc_past _ _ _ (by simp; omega), World.cell?_alloc_past _ _ _ (by simp), World.cell?_alloc_at _ _ _ _ rfl]; rfl) (fun h => h), h.cellAt (by rw [World.cell?_alloc_past _ _ _ (by simp), World.cell?_alloc_at _ _ _ _ (by simp)]; rfl) (fun h => h)⟩, h.cellAt (by rw [World.cell?_alloc_at _ _ _ _ (by simp)]; rfl) (fun h => h)⟩

set_option maxRecDepth 100000 in
set_option maxHeartbeats 2500000 in
theorem dk_rename (w : World) (p b : Nat) (st : DkSt) (h : IsDk w p b st) (n m : ByteArray) (hn : n.size ≤ maxLen) (hm : m.size ≤ 9223372036854775807) :
    Calls Tryz.prog 36 #[.pointer (some ⟨p, 0, none⟩), .string n, .string m] w fun e w' => OpPost p b (dkRename st n.data.toList m.data.toList) w e w' := by
  have hmf : ∀ (fn : Fn) (first cap : Array Value) (w : World), (Instr.makeFunc fn first cap).run Tryz.prog w = .ok (.func fn first cap) w := fun _ _ _ _ => rfl
  have hp := h.lt
  have hbl := h.own.lt
  have H := Lib.hid h
  have H1 := Lib.hid (h.pure (box3_below w (.cells #[.pointer (some ⟨p, 0, none⟩)] 48) (.cells #[.string n] 9) (.cells #[.string m] 9)))
  clear h
  go_enter Tryz.func36, Tryz.ntmps36
  go_wp2_with fail
  refine (dk_find _ p b st H1.out n hn).mono ?_
  intro e w1 hf
  cases hd : st.dark
  · cases hg : fsGet st.fs n.data.toList with
    | none =>
      obtain ⟨hb1, rfl⟩ := find_none hf hd hg
      have HD := Lib.hid hd
      have HG := Lib.hid hg
      have hb6 := Lib.hid (((box3_fr w _ _ _ hb1).alloc (by have := hb1.size; simp at this; omega) (.cells #[.string ⟨#[]⟩, .string ⟨#[]⟩] 93)))
      clear hd hg hf hb1
      go_wp2
      go_ret
      have e1 : dkRename st n.data.toList m.data.toList = (st, 5) := by unfold dkRename; rw [if_neg (by rw [HD.out]; simp), HG.out]
      rw [e1]
      exact ⟨rfl, H.out.pure hb6.out, Fr.pure hb6.out⟩
    | some f =>
      obtain ⟨hb1, f1, f2, hf1, hf2, rfl⟩ := find_some hf hd hg
      have HD := Lib.hid hd
      have HG := Lib.hid hg
      have HF := Lib.hid (And.intro hf1 hf2)
      have hs1 := hb1.size
      simp at hs1
      have HB := Lib.hid (((box3_fr w _ _ _ hb1).alloc (by omega) (.cells #[.string f1, .string f2] 93)))
      have HC := Lib.hid (box3_capt (((Fr.refl _ _).andPure hb1).alloc (.cells #[.string f1, .string f2] 93)))
      have HX := Lib.hid (box_at (Fr.refl (fun _ => False) _) : BoxAt (w1.alloc (.cells #[.string f1, .string f2] 93)) w1.heap.size f1 f2)
      clear hd hg hf hb1 hf1 hf2
      have hx1 := HC.out.1.cq
      have hx2 := HC.out.1.cr
      have hx3 := HC.out.2
      go_wp2_with fail
      refine (mayName_any m _ hm).mono ?_
      rintro e w3 ⟨rfl, hb3⟩
      have hs3 := hb3.size
      simp at hs3
      have HB3 := Lib.hid (HB.out.trans (hb3.mono (by simp; omega)))
      have HC3 := Lib.hid (And.intro (HC.out.1.fr (Fr.pure (S := fun _ => False) hb3) (fun h => h) (fun h => h)) ((Fr.pure (S := fun _ => False) hb3).cellAt HC.out.2 (fun h => h)))
      have HX3 := Lib.hid (HX.out.fr (Fr.pure (S := fun _ => False) hb3) (fun h => h))
      clear hb3 hx1 hx2 hx3
      have hx1 := HC3.out.1.cq
      have hx2 := HC3.out.1.cr
      have hx3 := HC3.out.2
      cases hmn : mayName m.data.toList
      · have HM := Lib.hid hmn
        clear hmn
        go_wp2
        go_ret
        have e1 : dkRename st n.data.toList m.data.toList = (st, 4) := by unfold dkRename; rw [if_neg (by rw [HD.out]; simp), HG.out, HM.out]; rfl
        rw [e1]
        exact ⟨rfl, H.out.pure HB3.out, Fr.pure HB3.out⟩
      · have HM := Lib.hid hmn
        clear hmn
        by_cases hnm : n = m
        · have HNM := Lib.hid hnm
          have htr := str_eq_true (show n.data.toList = m.data.toList from by rw [hnm])
          clear hnm
          go_wp2
          go_ret
          have e1 : dkRename st n.data.toList m.data.toList = (st, 1) := by unfold dkRename; rw [if_neg (by rw [HD.out]; simp), HG.out, HM.out]; show (if (!true) = true then _ else if _ = _ then _ else _) = _; rw [if_neg (by simp), if_pos (by rw [HNM.out])]
          rw [e1]
          exact ⟨rfl, H.out.pure HB3.out, Fr.pure HB3.out⟩
        · have HNM := Lib.hid hnm
          have htr := str_eq_false (show n.data.toList ≠ m.data.toList from fun e => hnm (str_ext e))
          clear hnm
          go_wp2_with fail
          refine (dk_do 73 _ _ p b st (H.out.pure HB3.out) (enters_of Tryz.func73 (by kernel_rfl) rfl) (fun w2 => IsDk w2 p b { st with left := dec st.left, fs := fsPut (fsDel st.fs n.data.toList) ⟨m.data.toList, f.firm, f.pend⟩ } ∧ DFr p b w3 w2)
            (fun _ w4 hf1 hs1 hd1 => (rename_act w4 _ _ _ _ p b { st with left := dec st.left } n m f1 f2 (HC3.out.1.fr hf1 (by omega) (by omega)) (hf1.cellAt HC3.out.2 (by omega)) (HX3.out.fr hf1 (by omega)) hd1 hn (by have := mayName_len HM.out; rw [size_toList] at this; exact this) f HG.out HF.out.1 HF.out.2).mono (fun e w2 h2 => ⟨h2.1, h2.2.1, hf1.toD1.trans h2.2.2⟩))).mono ?_
          rintro e w7 (⟨h0, rfl, hf7, hd7⟩ | ⟨h0, rfl, hd7, hf7⟩)
          · have H7 := Lib.hid hd7
            have F7 := Lib.hid hf7
            have H0 := Lib.hid h0
            clear hd7 hf7 h0
            go_wp2
            go_ret
            have e1 : dkRename st n.data.toList m.data.toList = ({ st with dark := true }, 45) := by unfold dkRename; rw [if_neg (by rw [HD.out]; simp), HG.out, HM.out]; show (if (!true) = true then _ else if _ = _ then _ else _) = _; rw [if_neg (by simp), if_neg (fun e => HNM.out (str_ext e))]; exact if_pos H0.out
            rw [e1]
            exact ⟨rfl, H7.out, (Fr.pure HB3.out).trans F7.out.toD1⟩
          · have H7 := Lib.hid hd7
            have F7 := Lib.hid hf7
            have H0 := Lib.hid h0
            clear hd7 hf7 h0
            go_wp2
            go_ret
            have e1 : dkRename st n.data.toList m.data.toList = ({ st with left := dec st.left, fs := fsPut (fsDel st.fs n.data.toList) ⟨m.data.toList, f.firm, f.pend⟩ }, 0) := by unfold dkRename; rw [if_neg (by rw [HD.out]; simp), HG.out, HM.out]; show (if (!true) = true then _ else if _ = _ then _ else _) = _; rw [if_neg (by simp), if_neg (fun e => HNM.out (str_ext e))]; exact if_neg H0.out
            rw [e1]
            exact ⟨rfl, H7.out, (Fr.pure HB3.out).trans F7.out⟩
  · obtain ⟨hb1, rfl⟩ := find_dark hf hd
    have HD := Lib.hid hd
    have hb6 := Lib.hid (((box3_fr w _ _ _ hb1).alloc (by have := hb1.size; simp at this; omega) (.cells #[.string ⟨#[]⟩, .string ⟨#[]⟩] 93)))
    clear hd hf hb1
    go_wp2
    go_ret
    have e1 : dkRename st n.data.toList m.data.toList = (st, 45) := by unfold dkRename; rw [if_pos HD.out]
    rw [e1]
    exact ⟨rfl, H.out.pure hb6.out, Fr.pure hb6.out⟩

end Go.Proofs.YteikdcobpfohcaaGreatDoor

/- The walk of Append. -/
namespace Go.Proofs.YteikdcobpfohcaaGreatDoor
open Go.RowKit Go.Maps Go.Sort

def dkAppend (st : DkSt) (n x : List UInt8) : DkSt × Int :=
  if st.dark then (st, 45) else match fsGet st.fs n with
    | none => (st, 5)
    | some f => if (1048576 : Int) - ((f.firm.length + f.pend.length : Nat) : Int) < (x.length : Int) ∨ st.cap - (used st.fs : Int) < (x.length : Int) then (st, 44)
      else if st.left = 0 then ({ st with dark := true, fs := fsPut st.fs ⟨n, f.firm, f.pend ++ x⟩ }, 45) else ({ st with left := dec st.left, fs := fsPut st.fs ⟨n, f.firm, f.pend ++ x⟩ }, 0)

theorem append_act (w : World) : Calls Tryz.prog 71 #[] w fun e w' => e = .returned (.tuple #[]) ∧ w = w' := by
  go_enter Tryz.func71, Tryz.ntmps71
  go_wp2
  go_end0
  exact ⟨rfl, rfl⟩

/-- A file put in the place of its elder. -/
theorem put_store (w : World) (p b : Nat) (st : DkSt) (h : IsDk w p b st) (n f1 f3 : ByteArray) (hn : n.size ≤ maxLen) (f : FileS) (hg : fsGet st.fs n.data.toList = some f) (firm pend : List UInt8) (h1 : f1.data.toList = firm) (h3 : f3.data.toList = pend)
    (hsm : firm.length + pend.length ≤ 1048576) (hft : (used st.fs : Int) + ((firm.length + pend.length : Nat) : Int) ≤ st.cap + ((f.firm.length + f.pend.length : Nat) : Int)) :
    ∃ w6, (Instr.mapUpdate 88 (.map (some b)) (.string n) (.agg #[.string f1, .string f3])).run Tryz.prog w.drew = .ok () w6 ∧ IsDk w6 p b { st with fs := fsPut st.fs ⟨n.data.toList, firm, pend⟩ } ∧ Fr (fun k => k = b) w w6 := by
  obtain ⟨w6, hrun, hown, hturn⟩ := h.drew.own.store (t := 88) (e := 93) Tryz.strKey Tryz.underlying88 h.fewer (key := .string n) (val := .agg #[.string f1, .string f3]) (WideMaps.keyOf_string_mk Tryz.underlying9 hn) (fileElem_mk _ _)
  have hud := used_del_some (fs_apart h.ok.fs) hg
  refine ⟨w6, hrun, h.drew.turned (n := st.fs.length + 1) (fs' := fsPut st.fs ⟨n.data.toList, firm, pend⟩) ?_ hturn ?_ ?_, (Fr.refl _ w).drew.trans (turned_fr hturn)⟩
  · rw [← put_fs]
    show w6.ownsMap Tryz.prog 9 fileElem b _ ((fsD st.fs).put (.string n.data.toList) (.agg [.lit (.string firm), .lit (.string pend)]))
    rw [← h1, ← h3]; exact hown
  · exact h.ok.fs.keep.put (by show (fsDel st.fs n.data.toList).length < 64; have := h.ok.fs.few; omega) hsm (by show n.data.toList.length ≤ 24; rw [← (get_name hg).1]; exact h.ok.fs.names f (get_name hg).2)
  · rw [used_put]
    show (((firm.length + pend.length) + used (fsDel st.fs n.data.toList) : Nat) : Int) ≤ st.cap
    omega

set_option maxRecDepth 100000 in
set_option maxHeartbeats 2500000 in
theorem dk_append (w : World) (p b : Nat) (st : DkSt) (h : IsDk w p b st) (n x : ByteArray) (hn : n.size ≤ maxLen) (hx : x.size ≤ 140737488355328) :
    Calls Tryz.prog 34 #[.pointer (some ⟨p, 0, none⟩), .string n, .string x] w fun e w' => OpPost p b (dkAppend st n.data.toList x.data.toList) w e w' := by
  have hmf : ∀ (fn : Fn) (first cap : Array Value) (w : World), (Instr.makeFunc fn first cap).run Tryz.prog w = .ok (.func fn first cap) w := fun _ _ _ _ => rfl
  have hp := h.lt
  have hbl := h.own.lt
  have H := Lib.hid h
  clear h
  go_enter Tryz.func34, Tryz.ntmps34
  go_wp2_with fail
  refine (dk_find _ p b st H.out n hn).mono ?_
  intro e w1 hf
  cases hd : st.dark
  · cases hg : fsGet st.fs n.data.toList with
    | none =>
      obtain ⟨hb1, rfl⟩ := find_none hf hd hg
      have HD := Lib.hid hd
      have HG := Lib.hid hg
      have hb6 := Lib.hid (hb1.alloc hb1.size (.cells #[.string ⟨#[]⟩, .string ⟨#[]⟩] 93))
      clear hd hg hf hb1
      go_wp2
      go_ret
      have e1 : dkAppend st n.data.toList x.data.toList = (st, 5) := by unfold dkAppend; rw [if_neg (by rw [HD.out]; simp), HG.out]
      rw [e1]
      exact ⟨rfl, H.out.pure hb6.out, Fr.pure hb6.out⟩
    | some f =>
      obtain ⟨hb1, f1, f2, hf1, hf2, rfl⟩ := find_some hf hd hg
      have HD := Lib.hid hd
      have HG := Lib.hid hg
      have HF := Lib.hid (And.intro hf1 hf2)
      have hs1 := hb1.size
      have HB := Lib.hid (hb1.alloc hb1.size (.cells #[.string f1, .string f2] 93))
      have hsm := H.out.ok.fs.small f (get_name hg).2
      have hsz : f1.size + f2.size ≤ 1048576 := by rw [size_of_list hf1, size_of_list hf2]; omega
      have HX := Lib.hid (box_at (Fr.refl (fun _ => False) _) : BoxAt (w1.alloc (.cells #[.string f1, .string f2] 93)) w1.heap.size f1 f2)
      have hs2 : w1.heap.size < (w1.alloc (.cells #[.string f1, .string f2] 93)).heap.size := by simp
      have hz2 : ∀ w', Below (w1.alloc (.cells #[.string f1, .string f2] 93)).heap.size (w1.alloc (.cells #[.string f1, .string f2] 93)) w' → w'.frozen? ⟨w1.heap.size, 1, none⟩ = false := fun w' hb => (hb.frozen (by simp)).trans (World.frozen?_alloc_at _ _ _ _ rfl)
      have H2 := Lib.hid (H.out.pure HB.out)
      have hul := used_le H.out.ok.fs
      have hcap0 := H.out.ok.cap0
      have hcap1 := H.out.ok.cap1
      have w1e : IntKind.i64.wrap ((1048576 : Int) - ((f1.size : Int) + (f2.size : Int))) = (1048576 : Int) - ((f1.size : Int) + (f2.size : Int)) := IntWalk.i64_in _ (by omega)
      have w2e : IntKind.i64.wrap (st.cap - (used st.fs : Int)) = st.cap - (used st.fs : Int) := IntWalk.i64_in _ (by omega)
      clear hd hg hf hb1 hf1 hf2
      go_wp2_with fail
      generalize w1.alloc (.cells #[.string f1, .string f2] 93) = w2 at *
      generalize w1.heap.size = g at *
      obtain ⟨c0, c1, c2, c3⟩ := H2.out.cs
      have k1 := cell_regrown c1
      have k2 := cell_regrown HX.out.c0
      have k3 := cell_regrown HX.out.c1
      have q1 : ∀ d os, Calls Tryz.prog 70 #[.agg #[.string f1, .string f2]] (grow (redrawn w2 d) os) fun e w'' => e = .returned (.int .i64 ((f1.size + f2.size : Nat) : Int)) ∧ ∃ p : Regrown, w'' = grow (redrawn w2 p.d) p.os := fun d os => Calls.regrown_of (file_size _ f1 f2 (by omega))
      have q2 : ∀ d os, Calls Tryz.prog 40 #[.pointer (some ⟨p, 0, none⟩)] (grow (redrawn w2 d) os) fun e w'' => e = .returned (.int .i64 (used st.fs : Int)) ∧ ∃ p : Regrown, w'' = grow (redrawn w2 p.d) p.os := fun d os => Calls.regrown_of (dk_used _ p b st (H2.out.pure (below_regrown w2 d os)))
      by_cases hb1 : (1048576 : Int) - ((f1.size : Int) + (f2.size : Int)) < (x.size : Int)
      · have hd1 : decide (IntKind.i64.wrap (1048576 - ((f1.size : Int) + (f2.size : Int))) < (x.size : Int)) = true := by rw [w1e]; simpa using hb1
        clear w1e w2e
        refine wp_region_quiet_below (by kernel_rfl) (by kernel_rfl) ?_
        repeat (go_big_quiet_step (first | exact q1 _ _ | exact q2 _ _))
        refine wpQuiet_nil ?_
        intro _ hw'
        obtain ⟨⟨dq, osq⟩, hw''⟩ := hw'
        subst hw''
        have HB3 := Lib.hid (HB.out.trans ((below_regrown w2 dq osq).mono (by omega)))
        generalize grow (redrawn w2 dq) osq = w3 at *
        go_wp2
        go_ret
        have e1 : dkAppend st n.data.toList x.data.toList = (st, 44) := by
          unfold dkAppend; rw [if_neg (by rw [HD.out]; simp), HG.out]
          show (if _ then _ else _) = _
          rw [if_pos (.inl (by rw [← HF.out.1, ← HF.out.2, size_toList, size_toList, size_toList]; omega))]
        rw [e1]
        exact ⟨rfl, H.out.pure HB3.out, Fr.pure HB3.out⟩
      · have hd1 : decide (IntKind.i64.wrap (1048576 - ((f1.size : Int) + (f2.size : Int))) < (x.size : Int)) = false := by rw [w1e]; simpa using hb1
        by_cases hb2 : st.cap - (used st.fs : Int) < (x.size : Int)
        · have hd2 : decide (IntKind.i64.wrap (st.cap - (used st.fs : Int)) < (x.size : Int)) = true := by rw [w2e]; simpa using hb2
          clear w1e w2e
          refine wp_region_quiet_below (by kernel_rfl) (by kernel_rfl) ?_
          repeat (go_big_quiet_step (first | exact q1 _ _ | exact q2 _ _))
          refine wpQuiet_nil ?_
          intro _ hw'
          obtain ⟨⟨dq, osq⟩, hw''⟩ := hw'
          subst hw''
          have HB3 := Lib.hid (HB.out.trans ((below_regrown w2 dq osq).mono (by omega)))
          generalize grow (redrawn w2 dq) osq = w3 at *
          go_wp2
          go_ret
          have e1 : dkAppend st n.data.toList x.data.toList = (st, 44) := by
            unfold dkAppend; rw [if_neg (by rw [HD.out]; simp), HG.out]
            show (if _ then _ else _) = _
            rw [if_pos (.inr (by rw [size_toList]; omega))]
          rw [e1]
          exact ⟨rfl, H.out.pure HB3.out, Fr.pure HB3.out⟩
        · have hd2 : decide (IntKind.i64.wrap (st.cap - (used st.fs : Int)) < (x.size : Int)) = false := by rw [w2e]; simpa using hb2
          clear w1e w2e
          have HNB := Lib.hid (show ¬ ((1048576 : Int) - ((f.firm.length + f.pend.length : Nat) : Int) < (x.data.toList.length : Int) ∨ st.cap - (used st.fs : Int) < (x.data.toList.length : Int)) from by
            rw [← HF.out.1, ← HF.out.2, size_toList, size_toList, size_toList]; omega)
          have HL := Lib.hid (show f.firm.length + (f.pend.length + x.data.toList.length) ≤ 1048576 ∧ (used st.fs : Int) + ((f.firm.length + (f.pend.length + x.data.toList.length) : Nat) : Int) ≤ st.cap + ((f.firm.length + f.pend.length : Nat) : Int) from by
            rw [← HF.out.1, ← HF.out.2, size_toList, size_toList, size_toList]; omega)
          have hsx : f2.size + x.size ≤ 9223372036854775807 := by omega
          refine wp_region_quiet_below (by kernel_rfl) (by kernel_rfl) ?_
          repeat (go_big_quiet_step (first | exact q1 _ _ | exact q2 _ _))
          refine wpQuiet_nil ?_
          intro _ hw'
          obtain ⟨⟨dq, osq⟩, hw''⟩ := hw'
          subst hw''
          have hb3 := below_regrown w2 dq osq
          have HB3 := Lib.hid (HB.out.trans (hb3.mono (by omega)))
          have hz3 := hz2 _ hb3
          have HX3 := Lib.hid (HX.out.fr (Fr.pure (S := fun _ => False) hb3) (fun h => h))
          have hs3 := hb3.size
          clear hb3 q1 q2 k1 k2 k3 c0 c1 c2 c3 hd1 hd2 hz2
          generalize grow (redrawn w2 dq) osq = w3 at *
          have y1 := HX3.out.c0
          have y2 := HX3.out.c1
          have hf4 := setCell_fr (w := w3) ⟨g, 1, none⟩ (.string (f2 ++ x))
          have H4 := Lib.hid ((H.out.pure HB3.out).kept hf4 (by show ¬ p = g; omega) (by show ¬ b = g; omega))
          have HX4 := Lib.hid (show BoxAt (w3.setCell ⟨g, 1, none⟩ (.string (f2 ++ x))) g f1 (f2 ++ x) from ⟨by rw [World.cell?_setCell_other _ _ _ _ (by simp)]; exact HX3.out.c0, World.cell?_setCell_same _ _ _ HX3.out.c1⟩)
          go_wp2_with fail
          refine (dk_do 71 #[] _ p b st H4.out (enters_of Tryz.func71 (by kernel_rfl) rfl) (fun w2 => IsDk w2 p b { st with left := dec st.left } ∧ Fr (fun k => k = p) (w3.setCell ⟨g, 1, none⟩ (.string (f2 ++ x))) w2) (fun _ w5 hf1 hs1 hd1 => (append_act w5).mono (fun e w2 h2 => ⟨h2.1, by rw [← h2.2]; exact ⟨hd1, hf1⟩⟩))).mono ?_
          rintro e w5 (⟨h0, rfl, hf5, hd5⟩ | ⟨h0, rfl, hd5, hf5⟩)
          · have H0 := Lib.hid h0
            obtain ⟨w6, hrun, hd6, hf6⟩ := put_store w5 p b _ hd5 n f1 (f2 ++ x) hn f HG.out f.firm (f.pend ++ x.data.toList) HF.out.1 (by rw [bytes_append, HF.out.2]) (by rw [List.length_append]; exact HL.out.1) (by rw [List.length_append]; exact HL.out.2)
            have hx5 := HX4.out.fr hf5 (by omega)
            have y1 := hx5.c0
            have y2 := hx5.c1
            obtain ⟨e0, e1, e2, e3⟩ := hd5.cs
            have H6 := Lib.hid hd6
            have F6 := Lib.hid ((((Fr.pure (S := fun k => k = p ∨ k = b) HB3.out).then hf4 (fun i hi e => absurd (show i = g from e) (by omega)))).trans (hf5.toD1.trans hf6.toD))
            clear h0 hx5 hd5 hf5 hd6 hf6
            go_wp2_with fail
            go_region
            go_wp2
            go_ret
            have e1 : dkAppend st n.data.toList x.data.toList = ({ st with dark := true, fs := fsPut st.fs ⟨n.data.toList, f.firm, f.pend ++ x.data.toList⟩ }, 45) := by unfold dkAppend; rw [if_neg (by rw [HD.out]; simp), HG.out]; show (if _ then _ else _) = _; rw [if_neg HNB.out, if_pos H0.out]
            rw [e1]
            exact ⟨rfl, H6.out, F6.out⟩
          · have H0 := Lib.hid h0
            obtain ⟨w6, hrun, hd6, hf6⟩ := put_store w5 p b _ hd5 n f1 (f2 ++ x) hn f HG.out f.firm (f.pend ++ x.data.toList) HF.out.1 (by rw [bytes_append, HF.out.2]) (by rw [List.length_append]; exact HL.out.1) (by rw [List.length_append]; exact HL.out.2)
            have hx5 := HX4.out.fr hf5 (by omega)
            have y1 := hx5.c0
            have y2 := hx5.c1
            obtain ⟨e0, e1, e2, e3⟩ := hd5.cs
            have H6 := Lib.hid hd6
            have F6 := Lib.hid ((((Fr.pure (S := fun k => k = p ∨ k = b) HB3.out).then hf4 (fun i hi e => absurd (show i = g from e) (by omega)))).trans (hf5.toD1.trans hf6.toD))
            clear h0 hx5 hd5 hf5 hd6 hf6
            go_wp2_with fail
            go_region
            go_wp2
            go_ret
            have e1 : dkAppend st n.data.toList x.data.toList = ({ st with left := dec st.left, fs := fsPut st.fs ⟨n.data.toList, f.firm, f.pend ++ x.data.toList⟩ }, 0) := by unfold dkAppend; rw [if_neg (by rw [HD.out]; simp), HG.out]; show (if _ then _ else _) = _; rw [if_neg HNB.out, if_neg H0.out]
            rw [e1]
            exact ⟨rfl, H6.out, F6.out⟩
  · obtain ⟨hb1, rfl⟩ := find_dark hf hd
    have HD := Lib.hid hd
    have hb6 := Lib.hid (hb1.alloc hb1.size (.cells #[.string ⟨#[]⟩, .string ⟨#[]⟩] 93))
    clear hd hf hb1
    go_wp2
    go_ret
    have e1 : dkAppend st n.data.toList x.data.toList = (st, 45) := by unfold dkAppend; rw [if_pos HD.out]
    rw [e1]
    exact ⟨rfl, H.out.pure hb6.out, Fr.pure hb6.out⟩

end Go.Proofs.YteikdcobpfohcaaGreatDoor

/- Files as they are handed in; the walk of Load. -/
namespace Go.Proofs.YteikdcobpfohcaaGreatDoor
open Go.RowKit Go.Maps Go.Sort

/-- A slice of files that holds l. -/
def FilesAt (w : World) (sv : Value) (l : Fs) : Prop :=
  ∃ a c, sv = .slice a l.length c ∧ (l = [] ∨ ∃ b o, a = some ⟨b, o, none⟩ ∧ ∀ i (h : i < l.length), ∃ x y z : ByteArray, x.data.toList = l[i].name ∧ y.data.toList = l[i].firm ∧ z.data.toList = l[i].pend ∧
    w.cell? ⟨b, o + i * 3, none⟩ = some (.string x) ∧ w.cell? ⟨b, o + i * 3 + 1, none⟩ = some (.string y) ∧ w.cell? ⟨b, o + i * 3 + 2, none⟩ = some (.string z))
theorem FilesAt.shape {w : World} {sv : Value} {l : Fs} (h : FilesAt w sv l) : ∃ a c, sv = .slice a l.length c := by obtain ⟨a, c, h, _⟩ := h; exact ⟨a, c, h⟩
theorem FilesAt.at {w : World} {a : Option Addr} {c n : Nat} {l : Fs} (h : FilesAt w (.slice a n c) l) (k : Nat) (hk : k < l.length) :
    ∃ b o, a = some ⟨b, o, none⟩ ∧ b < w.heap.size ∧ ∃ x y z : ByteArray, x.data.toList = l[k].name ∧ y.data.toList = l[k].firm ∧ z.data.toList = l[k].pend ∧
      w.cell? ⟨b, o + k * 3, none⟩ = some (.string x) ∧ w.cell? ⟨b, o + k * 3 + 1, none⟩ = some (.string y) ∧ w.cell? ⟨b, o + k * 3 + 2, none⟩ = some (.string z) := by
  obtain ⟨a', c', he, h | ⟨b, o, rfl, h⟩⟩ := h
  · subst h; simp at hk
  · cases he
    obtain ⟨x, y, z, h1, h2, h3, h4, h5, h6⟩ := h k hk
    exact ⟨b, o, rfl, ltOfCell h4, x, y, z, h1, h2, h3, h4, h5, h6⟩

def ldGo (cnt : Nat) : List UInt8 → Fs → Bool
  | _, [] => true
  | last, f :: r => (mayName f.name && bytesBefore last f.name && decide (f.firm.length + f.pend.length ≤ 1048576) && decide (cnt ≤ 64)) && ldGo cnt f.name r
/-- What Load tells. -/
def dkLoad (cap : Int) (l : Fs) : Option DkSt × Int :=
  if cap < 0 then (none, 1) else if !ldGo l.length [] l then (none, 4) else if cap < (used l : Int) then (none, 44) else (some ⟨l, cap, -1, false⟩, 0)

structure LdInv (l : Fs) (k : Nat) (last : List UInt8) : Prop where
  eq : ldGo l.length [] l = ldGo l.length last (l.drop k)
  sorted : (l.take k).Pairwise (fun f g => bytesBefore f.name g.name = true)
  upto : ∀ g ∈ l.take k, g.name = last ∨ bytesBefore g.name last = true
  keep : FsKeep (l.take k)

theorem ins_last {fs : Fs} {f : FileS} (h : ∀ g ∈ fs, bytesBefore g.name f.name = true) : fsPut fs f = fs ++ [f] := by
  have hd : fsDel fs f.name = fs := by
    unfold fsDel; rw [List.filter_eq_self]; intro g hg
    have := bytesBefore_ne (h g hg); simpa using this
  unfold fsPut; rw [hd]
  clear hd
  induction fs with
  | nil => rfl
  | cons g r ih =>
    have hg := h g (by simp)
    have hn : bytesBefore f.name g.name = false := by
      cases e : bytesBefore f.name g.name
      · rfl
      · have := WideShapes.bytes_trans _ _ _ hg e; rw [WideAt.bytes_irrefl] at this; cases this
    unfold fsIns; rw [hn, ih (fun x hx => h x (by simp [hx]))]; rfl

theorem LdInv.start (l : Fs) : LdInv l 0 [] := ⟨rfl, by simp, by simp, ⟨by simp, by simp, by simp⟩⟩
theorem ldGo_step {l : Fs} {k : Nat} {last : List UInt8} (hk : k < l.length) : ldGo l.length last (l.drop k) = ((mayName l[k].name && bytesBefore last l[k].name && decide (l[k].firm.length + l[k].pend.length ≤ 1048576) && decide (l.length ≤ 64)) && ldGo l.length l[k].name (l.drop (k + 1))) := by
  rw [List.drop_eq_getElem_cons hk]; rfl
theorem LdInv.bad {l : Fs} {k : Nat} {last : List UInt8} (h : LdInv l k last) (hk : k < l.length) (hc : (mayName l[k].name && bytesBefore last l[k].name && decide (l[k].firm.length + l[k].pend.length ≤ 1048576) && decide (l.length ≤ 64)) = false) : ldGo l.length [] l = false := by
  rw [h.eq, ldGo_step hk, hc]; rfl
theorem LdInv.before {l : Fs} {k : Nat} {last : List UInt8} (h : LdInv l k last) (hk : k < l.length) (hb : bytesBefore last l[k].name = true) : ∀ g ∈ l.take k, bytesBefore g.name l[k].name = true := by
  intro g hg
  rcases h.upto g hg with e | e
  · rw [e]; exact hb
  · exact WideShapes.bytes_trans _ _ _ e hb
theorem LdInv.put {l : Fs} {k : Nat} {last : List UInt8} (h : LdInv l k last) (hk : k < l.length) (hb : bytesBefore last l[k].name = true) : fsPut (l.take k) l[k] = l.take (k + 1) := by
  rw [ins_last (h.before hk hb), List.take_succ_eq_append_getElem hk]
theorem LdInv.next {l : Fs} {k : Nat} {last : List UInt8} (h : LdInv l k last) (hk : k < l.length) (h1 : mayName l[k].name = true) (h2 : bytesBefore last l[k].name = true) (h3 : l[k].firm.length + l[k].pend.length ≤ 1048576) (h4 : l.length ≤ 64) : LdInv l (k + 1) l[k].name := by
  have ht : l.take (k + 1) = l.take k ++ [l[k]] := List.take_succ_eq_append_getElem hk
  refine ⟨by rw [h.eq, ldGo_step hk, h1, h2, decide_eq_true h3, decide_eq_true h4]; rfl, ?_, ?_, ?_, ?_, ?_⟩
  · rw [ht, List.pairwise_append]
    exact ⟨h.sorted, by simp, fun a ha b hb => by rw [List.mem_singleton] at hb; subst hb; exact h.before hk h2 a ha⟩
  · intro g hg
    rw [ht, List.mem_append, List.mem_singleton] at hg
    rcases hg with hg | rfl
    · exact .inr (h.before hk h2 g hg)
    · exact .inl rfl
  · rw [List.length_take]; omega
  · intro g hg
    rw [ht, List.mem_append, List.mem_singleton] at hg
    rcases hg with hg | rfl
    · exact h.keep.small g hg
    · exact h3
  · intro g hg
    rw [ht, List.mem_append, List.mem_singleton] at hg
    rcases hg with hg | rfl
    · exact h.keep.names g hg
    · exact mayName_len h1
theorem LdInv.ok {l : Fs} {k : Nat} {last : List UInt8} (h : LdInv l k last) (hk : k = l.length) : ldGo l.length [] l = true ∧ FsOk l := by
  subst hk
  have e := h.eq
  have h1 := h.sorted
  have h2 := h.keep
  rw [List.drop_length] at e
  rw [List.take_length] at h1 h2
  exact ⟨e, h1, h2.few, h2.small, h2.names⟩

theorem bytesLess_before : ∀ (a b : List UInt8), Op.bytesLess a b = bytesBefore a b
  | [], [] => rfl
  | [], _ :: _ => rfl
  | _ :: _, [] => rfl
  | a :: r, b :: s => by unfold Op.bytesLess bytesBefore; rw [bytesLess_before r s]
theorem leq_before (a b : List UInt8) : (Op.bytesLess a b || a == b) = !bytesBefore b a := by
  rw [bytesLess_before]
  by_cases h : a = b
  · subst h; rw [WideAt.bytes_irrefl]; simp
  · rw [show (a == b) = false from by simpa using h, Bool.or_false]
    rcases WideAt.bytes_total a b h with e | e
    · rw [e]
      cases e2 : bytesBefore b a
      · rfl
      · have := WideShapes.bytes_trans _ _ _ e e2; rw [WideAt.bytes_irrefl] at this; cases this
    · rw [e]
      cases e2 : bytesBefore a b
      · rfl
      · have := WideShapes.bytes_trans _ _ _ e e2; rw [WideAt.bytes_irrefl] at this; cases this

end Go.Proofs.YteikdcobpfohcaaGreatDoor

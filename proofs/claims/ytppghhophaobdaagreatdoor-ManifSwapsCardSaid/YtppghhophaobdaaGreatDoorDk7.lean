/- The walk of Append. -/
import Derived.Test.YtppghhophaobdaaGreatDoorDk6
import Derived.Lib.QuietBelow
namespace Go.Proofs.YtppghhophaobdaaGreatDoor
open Go.RowKit Go.Maps Go.Sort

def dkAppend (st : DkSt) (n x : List UInt8) : DkSt × Int :=
  if st.dark then (st, 45) else match fsGet st.fs n with
    | none => (st, 5)
    | some f => if (1048576 : Int) - ((f.firm.length + f.pend.length : Nat) : Int) < (x.length : Int) ∨ st.cap - (used st.fs : Int) < (x.length : Int) then (st, 44)
      else if st.left = 0 then ({ st with dark := true, fs := fsPut st.fs ⟨n, f.firm, f.pend ++ x⟩ }, 45) else ({ st with left := dec st.left, fs := fsPut st.fs ⟨n, f.firm, f.pend ++ x⟩ }, 0)

theorem append_act (w : World) : Calls Tryz.prog 107 #[] w fun e w' => e = .returned (.tuple #[]) ∧ w = w' := by
  go_enter Tryz.func107, Tryz.ntmps107
  go_wp2
  go_end0
  exact ⟨rfl, rfl⟩

/-- A file put in the place of its elder. -/
theorem put_store (w : World) (p b : Nat) (st : DkSt) (h : IsDk w p b st) (n f1 f3 : ByteArray) (hn : n.size ≤ maxLen) (f : FileS) (hg : fsGet st.fs n.data.toList = some f) (firm pend : List UInt8) (h1 : f1.data.toList = firm) (h3 : f3.data.toList = pend)
    (hsm : firm.length + pend.length ≤ 1048576) (hft : (used st.fs : Int) + ((firm.length + pend.length : Nat) : Int) ≤ st.cap + ((f.firm.length + f.pend.length : Nat) : Int)) :
    ∃ w6, (Instr.mapUpdate 108 (.map (some b)) (.string n) (.agg #[.string f1, .string f3])).run Tryz.prog w.drew = .ok () w6 ∧ IsDk w6 p b { st with fs := fsPut st.fs ⟨n.data.toList, firm, pend⟩ } ∧ Fr (fun k => k = b) w w6 := by
  obtain ⟨w6, hrun, hown, hturn⟩ := h.drew.own.store (t := 108) (e := 113) Tryz.strKey Tryz.underlying108 h.fewer (key := .string n) (val := .agg #[.string f1, .string f3]) (WideMaps.keyOf_string_mk Tryz.underlying9 hn) (fileElem_mk _ _)
  have hud := used_del_some (fs_apart h.ok.fs) hg
  refine ⟨w6, hrun, h.drew.turned (n := st.fs.length + 1) (fs' := fsPut st.fs ⟨n.data.toList, firm, pend⟩) ?_ hturn ?_ ?_, (Fr.refl _ w).drew.trans (turned_fr hturn)⟩
  · rw [← put_fs]
    show w6.ownsMap Tryz.prog 9 fileElem b _ ((fsD st.fs).put (.string n.data.toList) (.agg [.lit (.string firm), .lit (.string pend)]))
    rw [← h1, ← h3]; exact hown
  · exact h.ok.fs.keep.put (by show (fsDel st.fs n.data.toList).length < 64; have := h.ok.fs.few; omega) hsm (by show n.data.toList.length ≤ 24; rw [← (get_name hg).1]; exact h.ok.fs.names f (get_name hg).2)
  · rw [used_put]
    show (((firm.length + pend.length) + used (fsDel st.fs n.data.toList) : Nat) : Int) ≤ st.cap
    omega

set_option maxRecDepth 100000 in
set_option maxHeartbeats 2500000 in
theorem dk_append (w : World) (p b : Nat) (st : DkSt) (h : IsDk w p b st) (n x : ByteArray) (hn : n.size ≤ maxLen) (hx : x.size ≤ 140737488355328) :
    Calls Tryz.prog 41 #[.pointer (some ⟨p, 0, none⟩), .string n, .string x] w fun e w' => OpPost p b (dkAppend st n.data.toList x.data.toList) w e w' := by
  have hmf : ∀ (fn : Fn) (first cap : Array Value) (w : World), (Instr.makeFunc fn first cap).run Tryz.prog w = .ok (.func fn first cap) w := fun _ _ _ _ => rfl
  have hp := h.lt
  have hbl := h.own.lt
  have H := Lib.hid h
  clear h
  go_enter Tryz.func41, Tryz.ntmps41
  go_wp2_with fail
  refine (dk_find _ p b st H.out n hn).mono ?_
  intro e w1 hf
  cases hd : st.dark
  · cases hg : fsGet st.fs n.data.toList with
    | none =>
      obtain ⟨hb1, rfl⟩ := find_none hf hd hg
      have HD := Lib.hid hd
      have HG := Lib.hid hg
      have hb6 := Lib.hid (hb1.alloc hb1.size (.cells #[.string ⟨#[]⟩, .string ⟨#[]⟩] 113))
      clear hd hg hf hb1
      go_wp2
      go_ret
      have e1 : dkAppend st n.data.toList x.data.toList = (st, 5) := by unfold dkAppend; rw [if_neg (by rw [HD.out]; simp), HG.out]
      rw [e1]
      exact ⟨rfl, H.out.pure hb6.out, Fr.pure hb6.out⟩
    | some f =>
      obtain ⟨hb1, f1, f2, hf1, hf2, rfl⟩ := find_some hf hd hg
      have HD := Lib.hid hd
      have HG := Lib.hid hg
      have HF := Lib.hid (And.intro hf1 hf2)
      have hs1 := hb1.size
      have HB := Lib.hid (hb1.alloc hb1.size (.cells #[.string f1, .string f2] 113))
      have hsm := H.out.ok.fs.small f (get_name hg).2
      have hsz : f1.size + f2.size ≤ 1048576 := by rw [size_of_list hf1, size_of_list hf2]; omega
      have HX := Lib.hid (box_at (Fr.refl (fun _ => False) _) : BoxAt (w1.alloc (.cells #[.string f1, .string f2] 113)) w1.heap.size f1 f2)
      have hs2 : w1.heap.size < (w1.alloc (.cells #[.string f1, .string f2] 113)).heap.size := by simp
      have hz2 : ∀ w', Below (w1.alloc (.cells #[.string f1, .string f2] 113)).heap.size (w1.alloc (.cells #[.string f1, .string f2] 113)) w' → w'.frozen? ⟨w1.heap.size, 1, none⟩ = false := fun w' hb => (hb.frozen (by simp)).trans (World.frozen?_alloc_at _ _ _ _ rfl)
      have H2 := Lib.hid (H.out.pure HB.out)
      have hul := used_le H.out.ok.fs
      have hcap0 := H.out.ok.cap0
      have hcap1 := H.out.ok.cap1
      have w1e : IntKind.i64.wrap ((1048576 : Int) - ((f1.size : Int) + (f2.size : Int))) = (1048576 : Int) - ((f1.size : Int) + (f2.size : Int)) := IntWalk.i64_in _ (by omega)
      have w2e : IntKind.i64.wrap (st.cap - (used st.fs : Int)) = st.cap - (used st.fs : Int) := IntWalk.i64_in _ (by omega)
      clear hd hg hf hb1 hf1 hf2
      go_wp2_with fail
      generalize w1.alloc (.cells #[.string f1, .string f2] 113) = w2 at *
      generalize w1.heap.size = g at *
      obtain ⟨c0, c1, c2, c3⟩ := H2.out.cs
      have k1 := cell_regrown c1
      have k2 := cell_regrown HX.out.c0
      have k3 := cell_regrown HX.out.c1
      have q1 : ∀ d os, Calls Tryz.prog 98 #[.agg #[.string f1, .string f2]] (grow (redrawn w2 d) os) fun e w'' => e = .returned (.int .i64 ((f1.size + f2.size : Nat) : Int)) ∧ ∃ p : Regrown, w'' = grow (redrawn w2 p.d) p.os := fun d os => Calls.regrown_of (file_size _ f1 f2 (by omega))
      have q2 : ∀ d os, Calls Tryz.prog 33 #[.pointer (some ⟨p, 0, none⟩)] (grow (redrawn w2 d) os) fun e w'' => e = .returned (.int .i64 (used st.fs : Int)) ∧ ∃ p : Regrown, w'' = grow (redrawn w2 p.d) p.os := fun d os => Calls.regrown_of (dk_used _ p b st (H2.out.pure (below_regrown w2 d os)))
      by_cases hb1 : (1048576 : Int) - ((f1.size : Int) + (f2.size : Int)) < (x.size : Int)
      · have hd1 : decide (IntKind.i64.wrap (1048576 - ((f1.size : Int) + (f2.size : Int))) < (x.size : Int)) = true := by rw [w1e]; simpa using hb1
        clear w1e w2e
        refine wp_region_quiet_below (by kernel_rfl) (by kernel_rfl) ?_
        repeat (go_big_quiet_step (first | exact q1 _ _ | exact q2 _ _))
        refine wpQuiet_nil ?_
        intro _ hw'
        obtain ⟨⟨dq, osq⟩, hw''⟩ := hw'
        subst hw''
        have HB3 := Lib.hid (HB.out.trans ((below_regrown w2 dq osq).mono (by omega)))
        generalize grow (redrawn w2 dq) osq = w3 at *
        go_wp2
        go_ret
        have e1 : dkAppend st n.data.toList x.data.toList = (st, 44) := by
          unfold dkAppend; rw [if_neg (by rw [HD.out]; simp), HG.out]
          show (if _ then _ else _) = _
          rw [if_pos (.inl (by rw [← HF.out.1, ← HF.out.2, size_toList, size_toList, size_toList]; omega))]
        rw [e1]
        exact ⟨rfl, H.out.pure HB3.out, Fr.pure HB3.out⟩
      · have hd1 : decide (IntKind.i64.wrap (1048576 - ((f1.size : Int) + (f2.size : Int))) < (x.size : Int)) = false := by rw [w1e]; simpa using hb1
        by_cases hb2 : st.cap - (used st.fs : Int) < (x.size : Int)
        · have hd2 : decide (IntKind.i64.wrap (st.cap - (used st.fs : Int)) < (x.size : Int)) = true := by rw [w2e]; simpa using hb2
          clear w1e w2e
          refine wp_region_quiet_below (by kernel_rfl) (by kernel_rfl) ?_
          repeat (go_big_quiet_step (first | exact q1 _ _ | exact q2 _ _))
          refine wpQuiet_nil ?_
          intro _ hw'
          obtain ⟨⟨dq, osq⟩, hw''⟩ := hw'
          subst hw''
          have HB3 := Lib.hid (HB.out.trans ((below_regrown w2 dq osq).mono (by omega)))
          generalize grow (redrawn w2 dq) osq = w3 at *
          go_wp2
          go_ret
          have e1 : dkAppend st n.data.toList x.data.toList = (st, 44) := by
            unfold dkAppend; rw [if_neg (by rw [HD.out]; simp), HG.out]
            show (if _ then _ else _) = _
            rw [if_pos (.inr (by rw [size_toList]; omega))]
          rw [e1]
          exact ⟨rfl, H.out.pure HB3.out, Fr.pure HB3.out⟩
        · have hd2 : decide (IntKind.i64.wrap (st.cap - (used st.fs : Int)) < (x.size : Int)) = false := by rw [w2e]; simpa using hb2
          clear w1e w2e
          have HNB := Lib.hid (show ¬ ((1048576 : Int) - ((f.firm.length + f.pend.length : Nat) : Int) < (x.data.toList.length : Int) ∨ st.cap - (used st.fs : Int) < (x.data.toList.length : Int)) from by
            rw [← HF.out.1, ← HF.out.2, size_toList, size_toList, size_toList]; omega)
          have HL := Lib.hid (show f.firm.length + (f.pend.length + x.data.toList.length) ≤ 1048576 ∧ (used st.fs : Int) + ((f.firm.length + (f.pend.length + x.data.toList.length) : Nat) : Int) ≤ st.cap + ((f.firm.length + f.pend.length : Nat) : Int) from by
            rw [← HF.out.1, ← HF.out.2, size_toList, size_toList, size_toList]; omega)
          have hsx : f2.size + x.size ≤ 9223372036854775807 := by omega
          refine wp_region_quiet_below (by kernel_rfl) (by kernel_rfl) ?_
          repeat (go_big_quiet_step (first | exact q1 _ _ | exact q2 _ _))
          refine wpQuiet_nil ?_
          intro _ hw'
          obtain ⟨⟨dq, osq⟩, hw''⟩ := hw'
          subst hw''
          have hb3 := below_regrown w2 dq osq
          have HB3 := Lib.hid (HB.out.trans (hb3.mono (by omega)))
          have hz3 := hz2 _ hb3
          have HX3 := Lib.hid (HX.out.fr (Fr.pure (S := fun _ => False) hb3) (fun h => h))
          have hs3 := hb3.size
          clear hb3 q1 q2 k1 k2 k3 c0 c1 c2 c3 hd1 hd2 hz2
          generalize grow (redrawn w2 dq) osq = w3 at *
          have y1 := HX3.out.c0
          have y2 := HX3.out.c1
          have hf4 := setCell_fr (w := w3) ⟨g, 1, none⟩ (.string (f2 ++ x))
          have H4 := Lib.hid ((H.out.pure HB3.out).kept hf4 (by show ¬ p = g; omega) (by show ¬ b = g; omega))
          have HX4 := Lib.hid (show BoxAt (w3.setCell ⟨g, 1, none⟩ (.string (f2 ++ x))) g f1 (f2 ++ x) from ⟨by rw [World.cell?_setCell_other _ _ _ _ (by simp)]; exact HX3.out.c0, World.cell?_setCell_same _ _ _ HX3.out.c1⟩)
          go_wp2_with fail
          refine (dk_do 107 #[] _ p b st H4.out (enters_of Tryz.func107 (by kernel_rfl) rfl) (fun w2 => IsDk w2 p b { st with left := dec st.left } ∧ Fr (fun k => k = p) (w3.setCell ⟨g, 1, none⟩ (.string (f2 ++ x))) w2) (fun _ w5 hf1 hs1 hd1 => (append_act w5).mono (fun e w2 h2 => ⟨h2.1, by rw [← h2.2]; exact ⟨hd1, hf1⟩⟩))).mono ?_
          rintro e w5 (⟨h0, rfl, hf5, hd5⟩ | ⟨h0, rfl, hd5, hf5⟩)
          · have H0 := Lib.hid h0
            obtain ⟨w6, hrun, hd6, hf6⟩ := put_store w5 p b _ hd5 n f1 (f2 ++ x) hn f HG.out f.firm (f.pend ++ x.data.toList) HF.out.1 (by rw [bytes_append, HF.out.2]) (by rw [List.length_append]; exact HL.out.1) (by rw [List.length_append]; exact HL.out.2)
            have hx5 := HX4.out.fr hf5 (by omega)
            have y1 := hx5.c0
            have y2 := hx5.c1
            obtain ⟨e0, e1, e2, e3⟩ := hd5.cs
            have H6 := Lib.hid hd6
            have F6 := Lib.hid ((((Fr.pure (S := fun k => k = p ∨ k = b) HB3.out).then hf4 (fun i hi e => absurd (show i = g from e) (by omega)))).trans (hf5.toD1.trans hf6.toD))
            clear h0 hx5 hd5 hf5 hd6 hf6
            go_wp2_with fail
            go_region
            go_wp2
            go_ret
            have e1 : dkAppend st n.data.toList x.data.toList = ({ st with dark := true, fs := fsPut st.fs ⟨n.data.toList, f.firm, f.pend ++ x.data.toList⟩ }, 45) := by unfold dkAppend; rw [if_neg (by rw [HD.out]; simp), HG.out]; show (if _ then _ else _) = _; rw [if_neg HNB.out, if_pos H0.out]
            rw [e1]
            exact ⟨rfl, H6.out, F6.out⟩
          · have H0 := Lib.hid h0
            obtain ⟨w6, hrun, hd6, hf6⟩ := put_store w5 p b _ hd5 n f1 (f2 ++ x) hn f HG.out f.firm (f.pend ++ x.data.toList) HF.out.1 (by rw [bytes_append, HF.out.2]) (by rw [List.length_append]; exact HL.out.1) (by rw [List.length_append]; exact HL.out.2)
            have hx5 := HX4.out.fr hf5 (by omega)
            have y1 := hx5.c0
            have y2 := hx5.c1
            obtain ⟨e0, e1, e2, e3⟩ := hd5.cs
            have H6 := Lib.hid hd6
            have F6 := Lib.hid ((((Fr.pure (S := fun k => k = p ∨ k = b) HB3.out).then hf4 (fun i hi e => absurd (show i = g from e) (by omega)))).trans (hf5.toD1.trans hf6.toD))
            clear h0 hx5 hd5 hf5 hd6 hf6
            go_wp2_with fail
            go_region
            go_wp2
            go_ret
            have e1 : dkAppend st n.data.toList x.data.toList = ({ st with left := dec st.left, fs := fsPut st.fs ⟨n.data.toList, f.firm, f.pend ++ x.data.toList⟩ }, 0) := by unfold dkAppend; rw [if_neg (by rw [HD.out]; simp), HG.out]; show (if _ then _ else _) = _; rw [if_neg HNB.out, if_neg H0.out]
            rw [e1]
            exact ⟨rfl, H6.out, F6.out⟩
  · obtain ⟨hb1, rfl⟩ := find_dark hf hd
    have HD := Lib.hid hd
    have hb6 := Lib.hid (hb1.alloc hb1.size (.cells #[.string ⟨#[]⟩, .string ⟨#[]⟩] 113))
    clear hd hf hb1
    go_wp2
    go_ret
    have e1 : dkAppend st n.data.toList x.data.toList = (st, 45) := by unfold dkAppend; rw [if_pos HD.out]
    rw [e1]
    exact ⟨rfl, H.out.pure hb6.out, Fr.pure hb6.out⟩

end Go.Proofs.YtppghhophaobdaaGreatDoor

/- The walks of the empty state, and of at, of the laws of snapshots' files. -/
import Derived.Test.YteikdcobpfohcaaGreatDoorMkStR
import Derived.Test.YteikdcobpfohcaaGreatDoorMAe
namespace Go.Proofs.YteikdcobpfohcaaGreatDoor
open Go.RowKit

set_option maxRecDepth 100000 in
set_option maxHeartbeats 1000000 in
theorem empty_any (w : World) : Calls Tryz.prog 44 #[] w fun e w' => e = .returned (stV 0 0 1 1) ∧ Below w.heap.size w w' := by
  go_enter Tryz.func44, Tryz.ntmps44
  go_wp2
  obtain ⟨W0, hW0⟩ : ∃ W0, W0 = w.alloc (.cells #[.int .i64 0, .int .i64 0, .int .i64 1, .int .i64 1, .slice none 0 0, .slice none 0 0, .slice none 0 0, .slice none 0 0, .slice none 0 0] 36) := ⟨_, rfl⟩
  have hbel : Below w.heap.size w W0 := by rw [hW0]; exact (Below.refl _ _).alloc (Nat.le_refl _) _
  have k0 : W0.heap[w.heap.size]? = some (.cells #[.int .i64 0, .int .i64 0, .int .i64 1, .int .i64 1, .slice none 0 0, .slice none 0 0, .slice none 0 0, .slice none 0 0, .slice none 0 0] 36 (0, 0)) := by rw [hW0]; exact heap_alloc_new _ _
  rw [← hW0]
  have o0 := (cell_of_row _ w.heap.size 0 _ _ _ (k0)).trans (show _ = some (.int .i64 0) from rfl)
  have o1 := (cell_of_row _ w.heap.size 1 _ _ _ (k0)).trans (show _ = some (.int .i64 0) from rfl)
  have o2 := (cell_of_row _ w.heap.size 2 _ _ _ (k0)).trans (show _ = some (.int .i64 1) from rfl)
  have o3 := (cell_of_row _ w.heap.size 3 _ _ _ (k0)).trans (show _ = some (.int .i64 1) from rfl)
  have o4 := (cell_of_row _ w.heap.size 4 _ _ _ (k0)).trans (show _ = some (.slice none 0 0) from rfl)
  have o5 := (cell_of_row _ w.heap.size 5 _ _ _ (k0)).trans (show _ = some (.slice none 0 0) from rfl)
  have o6 := (cell_of_row _ w.heap.size 6 _ _ _ (k0)).trans (show _ = some (.slice none 0 0) from rfl)
  have o7 := (cell_of_row _ w.heap.size 7 _ _ _ (k0)).trans (show _ = some (.slice none 0 0) from rfl)
  have o8 := (cell_of_row _ w.heap.size 8 _ _ _ (k0)).trans (show _ = some (.slice none 0 0) from rfl)
  exact bodyPost_ret (v := .agg #[.int .i64 0, .int .i64 0, .int .i64 1, .int .i64 1, .slice none 0 0, .slice none 0 0, .slice none 0 0, .slice none 0 0, .slice none 0 0]) (by simp [results, Tryz.results44, go_sem, o0, o1, o2, o3, o4, o5, o6, o7, o8]) rfl ⟨rfl, hbel⟩

set_option maxRecDepth 100000 in
set_option maxHeartbeats 1000000 in
theorem rempty_any (w : World) : Calls Tryz.prog 10 #[] w fun e w' => e = .returned (stV 0 0 1 1) ∧ Below w.heap.size w w' := by
  go_enter Tryz.func10, Tryz.ntmps10
  go_wp2
  obtain ⟨W0, hW0⟩ : ∃ W0, W0 = w.alloc (.cells #[.int .i64 0, .int .i64 0, .int .i64 1, .int .i64 1, .slice none 0 0, .slice none 0 0, .slice none 0 0, .slice none 0 0, .slice none 0 0] 36) := ⟨_, rfl⟩
  have hbel : Below w.heap.size w W0 := by rw [hW0]; exact (Below.refl _ _).alloc (Nat.le_refl _) _
  have k0 : W0.heap[w.heap.size]? = some (.cells #[.int .i64 0, .int .i64 0, .int .i64 1, .int .i64 1, .slice none 0 0, .slice none 0 0, .slice none 0 0, .slice none 0 0, .slice none 0 0] 36 (0, 0)) := by rw [hW0]; exact heap_alloc_new _ _
  rw [← hW0]
  have o0 := (cell_of_row _ w.heap.size 0 _ _ _ (k0)).trans (show _ = some (.int .i64 0) from rfl)
  have o1 := (cell_of_row _ w.heap.size 1 _ _ _ (k0)).trans (show _ = some (.int .i64 0) from rfl)
  have o2 := (cell_of_row _ w.heap.size 2 _ _ _ (k0)).trans (show _ = some (.int .i64 1) from rfl)
  have o3 := (cell_of_row _ w.heap.size 3 _ _ _ (k0)).trans (show _ = some (.int .i64 1) from rfl)
  have o4 := (cell_of_row _ w.heap.size 4 _ _ _ (k0)).trans (show _ = some (.slice none 0 0) from rfl)
  have o5 := (cell_of_row _ w.heap.size 5 _ _ _ (k0)).trans (show _ = some (.slice none 0 0) from rfl)
  have o6 := (cell_of_row _ w.heap.size 6 _ _ _ (k0)).trans (show _ = some (.slice none 0 0) from rfl)
  have o7 := (cell_of_row _ w.heap.size 7 _ _ _ (k0)).trans (show _ = some (.slice none 0 0) from rfl)
  have o8 := (cell_of_row _ w.heap.size 8 _ _ _ (k0)).trans (show _ = some (.slice none 0 0) from rfl)
  exact bodyPost_ret (v := .agg #[.int .i64 0, .int .i64 0, .int .i64 1, .int .i64 1, .slice none 0 0, .slice none 0 0, .slice none 0 0, .slice none 0 0, .slice none 0 0]) (by simp [results, Tryz.results10, go_sem, o0, o1, o2, o3, o4, o5, o6, o7, o8]) rfl ⟨rfl, hbel⟩

set_option maxRecDepth 100000 in
set_option maxHeartbeats 2000000 in
theorem at_any (c : Int) (w : World) : Calls Tryz.prog 20 #[.int .i64 c] w fun e w' => e = .returned (stV c 0 1 1) ∧ Below w.heap.size w w' := by
  go_enter Tryz.func20, Tryz.ntmps20
  go_wp2_with fail
  refine (empty_any _).mono ?_
  rintro e w1 ⟨rfl, hb1⟩
  obtain ⟨n, hn⟩ : ∃ n, n = w.heap.size := ⟨_, rfl⟩
  have k0 : w1.heap[n]? = some (.cells #[.int .i64 0, .int .i64 0, .int .i64 0, .int .i64 0, .slice none 0 0, .slice none 0 0, .slice none 0 0, .slice none 0 0, .slice none 0 0] 36 (0, 0)) := by rw [hn]; exact (hb1.block _ (by simp)).trans (heap_alloc_new _ _)
  have K0 := Lib.hid k0
  have HB := Lib.hid (box_below hb1)
  have hlt : n < w1.heap.size := lt_of_block k0
  have HN := Lib.hid hn
  rw [← hn]
  clear hb1 hn k0
  have p0 := (cell_of_row _ n 0 _ _ _ (K0.out)).trans (show _ = some (.int .i64 0) from rfl)
  have pf0 := frozen_of_row _ n 0 _ _ (K0.out)
  have p1 := (cell_of_row _ n 1 _ _ _ (K0.out)).trans (show _ = some (.int .i64 0) from rfl)
  have pf1 := frozen_of_row _ n 1 _ _ (K0.out)
  have p2 := (cell_of_row _ n 2 _ _ _ (K0.out)).trans (show _ = some (.int .i64 0) from rfl)
  have pf2 := frozen_of_row _ n 2 _ _ (K0.out)
  have p3 := (cell_of_row _ n 3 _ _ _ (K0.out)).trans (show _ = some (.int .i64 0) from rfl)
  have pf3 := frozen_of_row _ n 3 _ _ (K0.out)
  have p4 := (cell_of_row _ n 4 _ _ _ (K0.out)).trans (show _ = some (.slice none 0 0) from rfl)
  have pf4 := frozen_of_row _ n 4 _ _ (K0.out)
  have p5 := (cell_of_row _ n 5 _ _ _ (K0.out)).trans (show _ = some (.slice none 0 0) from rfl)
  have pf5 := frozen_of_row _ n 5 _ _ (K0.out)
  have p6 := (cell_of_row _ n 6 _ _ _ (K0.out)).trans (show _ = some (.slice none 0 0) from rfl)
  have pf6 := frozen_of_row _ n 6 _ _ (K0.out)
  have p7 := (cell_of_row _ n 7 _ _ _ (K0.out)).trans (show _ = some (.slice none 0 0) from rfl)
  have pf7 := frozen_of_row _ n 7 _ _ (K0.out)
  have p8 := (cell_of_row _ n 8 _ _ _ (K0.out)).trans (show _ = some (.slice none 0 0) from rfl)
  have pf8 := frozen_of_row _ n 8 _ _ (K0.out)
  unfold stV
  go_wp2
  obtain ⟨Wa, hWa⟩ : ∃ Wa, Wa = set9 w1 n (.int .i64 c) (.int .i64 0) (.int .i64 1) (.int .i64 1) (.slice none 0 0) (.slice none 0 0) (.slice none 0 0) (.slice none 0 0) (.slice none 0 0) := ⟨_, rfl⟩
  have fa : Fr (fun k => k = n) w1 Wa := by rw [hWa]; exact set9_fr w1 n (.int .i64 c) (.int .i64 0) (.int .i64 1) (.int .i64 1) (.slice none 0 0) (.slice none 0 0) (.slice none 0 0) (.slice none 0 0) (.slice none 0 0)
  have ra : Wa.heap[n]? = some (.cells #[.int .i64 c, .int .i64 0, .int .i64 1, .int .i64 1, .slice none 0 0, .slice none 0 0, .slice none 0 0, .slice none 0 0, .slice none 0 0] 36 (0, 0)) := by rw [hWa]; exact set9_row (.int .i64 c) (.int .i64 0) (.int .i64 1) (.int .i64 1) (.slice none 0 0) (.slice none 0 0) (.slice none 0 0) (.slice none 0 0) (.slice none 0 0) K0.out
  obtain ⟨Wf, hWf⟩ : ∃ Wf, Wf = Wa.alloc (.cells #[.int .i64 c, .int .i64 0, .int .i64 1, .int .i64 1, .slice none 0 0, .slice none 0 0, .slice none 0 0, .slice none 0 0, .slice none 0 0] 36) := ⟨_, rfl⟩
  have rf : Wf.heap[n]? = some (.cells #[.int .i64 c, .int .i64 0, .int .i64 1, .int .i64 1, .slice none 0 0, .slice none 0 0, .slice none 0 0, .slice none 0 0, .slice none 0 0] 36 (0, 0)) := by rw [hWf]; exact (Below.heap_alloc _ _ _ (lt_of_block ra)).trans ra
  have ff : Fr (fun k => k = n) w1 Wf := by rw [hWf]; exact fa.alloc _
  clear fa ra
  have o0 := (cell_of_row _ n 0 _ _ _ (rf)).trans (show _ = some (.int .i64 c) from rfl)
  have o1 := (cell_of_row _ n 1 _ _ _ (rf)).trans (show _ = some (.int .i64 0) from rfl)
  have o2 := (cell_of_row _ n 2 _ _ _ (rf)).trans (show _ = some (.int .i64 1) from rfl)
  have o3 := (cell_of_row _ n 3 _ _ _ (rf)).trans (show _ = some (.int .i64 1) from rfl)
  have o4 := (cell_of_row _ n 4 _ _ _ (rf)).trans (show _ = some (.slice none 0 0) from rfl)
  have o5 := (cell_of_row _ n 5 _ _ _ (rf)).trans (show _ = some (.slice none 0 0) from rfl)
  have o6 := (cell_of_row _ n 6 _ _ _ (rf)).trans (show _ = some (.slice none 0 0) from rfl)
  have o7 := (cell_of_row _ n 7 _ _ _ (rf)).trans (show _ = some (.slice none 0 0) from rfl)
  have o8 := (cell_of_row _ n 8 _ _ _ (rf)).trans (show _ = some (.slice none 0 0) from rfl)
  unfold set9 at hWa
  rw [← hWa, ← hWf]
  clear hWa hWf
  refine bodyPost_ret (v := .agg #[.int .i64 c, .int .i64 0, .int .i64 1, .int .i64 1, .slice none 0 0, .slice none 0 0, .slice none 0 0, .slice none 0 0, .slice none 0 0]) (by simp [results, Tryz.results20, go_sem, o0, o1, o2, o3, o4, o5, o6, o7, o8]) rfl ⟨rfl, ?_⟩
  have hnw := HN.out
  exact HB.out.trans (ff.below (B := w.heap.size) HB.out.size (fun k hk e => by omega))
end Go.Proofs.YteikdcobpfohcaaGreatDoor

/- disk.New. -/
namespace Go.Proofs.YteikdcobpfohcaaGreatDoor
open Go.RowKit Go.Maps Go.Sort

theorem load_cases (cp : Int) (l : Fs) : (∃ c, (c == 0) = false ∧ c ≠ 0 ∧ dkLoad cp l = (none, c)) ∨ (dkLoad cp l = (some ⟨l, cp, -1, false⟩, 0)) := by
  unfold dkLoad
  split
  · exact .inl ⟨1, by decide, by decide, rfl⟩
  · split
    · exact .inl ⟨4, by decide, by decide, rfl⟩
    · split
      · exact .inl ⟨44, by decide, by decide, rfl⟩
      · exact .inr rfl

set_option maxRecDepth 100000 in
set_option maxHeartbeats 1000000 in
theorem dk_new (w : World) (cap : Int) (hc : cap ≤ 9223372036854775807) :
    Calls Tryz.prog 11 #[.int .i64 cap] w fun e w' => LoadPost cap [] w e w' := by
  go_enter Tryz.func11, Tryz.ntmps11
  go_wp2_with fail
  refine (dk_load w cap (.slice none 0 0) [] ⟨none, 0, rfl, .inl rfl⟩ (by simp) (by simp) hc).mono ?_
  rintro e w1 ⟨hb, h⟩
  have HB := Lib.hid hb
  rcases load_cases cap [] with ⟨c, hcf, hc0, hld⟩ | hld
  · rw [hld] at h
    simp only at h
    subst h
    have HL := Lib.hid hld
    clear hld hb
    go_wp2
    refine bodyPost_ret (v := .tuple #[.pointer none, .int .i64 c]) (by simp [results, Tryz.results11, go_sem]) rfl ⟨HB.out, ?_⟩
    rw [HL.out]
  · rw [hld] at h
    obtain ⟨p, b, hpg, hbg, rfl, hd⟩ := h
    have HL := Lib.hid (And.intro hld (And.intro hpg (And.intro hbg hd)))
    clear hld hb hd hpg hbg
    go_wp2
    refine bodyPost_ret (v := .tuple #[.pointer (some ⟨p, 0, none⟩), .int .i64 0]) (by simp [results, Tryz.results11, go_sem]) rfl ⟨HB.out, ?_⟩
    rw [HL.out.1]
    exact ⟨p, b, HL.out.2.1, HL.out.2.2.1, rfl, HL.out.2.2.2⟩
end Go.Proofs.YteikdcobpfohcaaGreatDoor

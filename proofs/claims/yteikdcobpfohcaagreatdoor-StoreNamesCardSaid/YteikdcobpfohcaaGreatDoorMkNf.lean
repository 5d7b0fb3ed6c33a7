/- What is refused: Newest of nobody's disk; File, and Write, of what may not be; Write to nobody's disk. -/
import Derived.Test.YteikdcobpfohcaaGreatDoorMkNl
import Derived.Test.YteikdcobpfohcaaGreatDoorMkStW
namespace Go.Proofs.YteikdcobpfohcaaGreatDoor
open Go.RowKit Go.Maps Go.Sort Go.Shelf
attribute [local go_sem] Oper.semAt_some

structure NwN (w W : World) (b : Nat) : Prop where
  d : W.heap[b]? = some (.cells #[.pointer none] 48 (0, 0))
  q : W.heap[b + 1]? = some (.cells #[.int .i64 0] 2 (0, 0))
  s : W.heap[b + 1 + 1]? = some (.cells zC 36 (0, 0))
  v : W.heap[b + 1 + 1 + 1]? = some (.cells zV 42 (0, 0))
  i : W.heap[b + 1 + 1 + 1 + 1]? = some (.cells #[.bool false] 4 (0, 0))
  e : W.heap[b + 1 + 1 + 1 + 1 + 1]? = some (.cells #[.int .i64 0] 27 (0, 0))
  below : Below b w W
set_option maxRecDepth 100000 in
set_option maxHeartbeats 4000000 in
theorem newest_nil (w : World) (f t : Int) : Calls Tryz.prog 9 #[.pointer none, .int .i64 f, .int .i64 t] w fun e w' => e = .returned (.tuple #[.int .i64 0, stZ, viewsV, .bool false, .int .i64 2]) ∧ Below w.heap.size w w' := by
  refine (callsIn_wide (n := 6)).1 ?_
  refine callsIn_of_wp_marks Tryz.func9 rfl trivial ?_ rfl
  simp only [Tryz.ntmps9, List.size_toArray, List.length_cons, List.length_nil, Nat.reduceAdd, Nat.reduceSub, Array.replicate_succ, Array.replicate_zero, List.push_toArray, List.append_toArray, List.nil_append, List.cons_append]
  gi_wp2_with fail
  obtain ⟨b, hb⟩ : ∃ b, b = w.heap.size := ⟨_, rfl⟩
  obtain ⟨W0, hW0⟩ : ∃ W0, W0 = (((((w.alloc (.cells #[.pointer none] 48)).alloc (.cells #[.int .i64 0] 2)).alloc (.cells #[.int .i64 0, .int .i64 0, .int .i64 0, .int .i64 0, .slice none 0 0, .slice none 0 0, .slice none 0 0, .slice none 0 0, .slice none 0 0] 36)).alloc (.cells #[.slice none 0 0, .slice none 0 0, .slice none 0 0, .slice none 0 0] 42)).alloc (.cells #[.bool false] 4)).alloc (.cells #[.int .i64 0] 27) := ⟨_, rfl⟩
  have hbel : Below b w W0 := by rw [hW0, hb]; exact ((((((Below.refl _ _).alloc (Nat.le_refl _) _).alloc (by simp) _).alloc (by simp <;> omega) _).alloc (by simp <;> omega) _).alloc (by simp <;> omega) _).alloc (by simp <;> omega) _
  have n0 : NwN w W0 b := ⟨by rw [hW0, hb]; exact (Below.heap_alloc _ _ _ (by simp <;> omega)).trans ((Below.heap_alloc _ _ _ (by simp <;> omega)).trans ((Below.heap_alloc _ _ _ (by simp <;> omega)).trans ((Below.heap_alloc _ _ _ (by simp <;> omega)).trans ((Below.heap_alloc _ _ _ (by simp <;> omega)).trans (heap_alloc_new _ _))))), by rw [hW0, hb]; exact (Below.heap_alloc _ _ _ (by simp <;> omega)).trans ((Below.heap_alloc _ _ _ (by simp <;> omega)).trans ((Below.heap_alloc _ _ _ (by simp <;> omega)).trans ((Below.heap_alloc _ _ _ (by simp <;> omega)).trans (alloc_topY _ _ (by simp))))), by rw [hW0, hb]; exact (Below.heap_alloc _ _ _ (by simp <;> omega)).trans ((Below.heap_alloc _ _ _ (by simp <;> omega)).trans ((Below.heap_alloc _ _ _ (by simp <;> omega)).trans (alloc_topY _ _ (by simp)))), by rw [hW0, hb]; exact (Below.heap_alloc _ _ _ (by simp <;> omega)).trans ((Below.heap_alloc _ _ _ (by simp <;> omega)).trans (alloc_topY _ _ (by simp))), by rw [hW0, hb]; exact (Below.heap_alloc _ _ _ (by simp <;> omega)).trans (alloc_topY _ _ (by simp)), by rw [hW0, hb]; exact alloc_topY _ _ (by simp), hbel⟩
  rw [← hW0, ← hb]
  have N0 := Lib.hid n0
  have HB := Lib.hid hb
  clear hW0 hbel n0 hb
  refine ⟨trivial, ?_⟩
  refine (callsIn_wide.2 (slist_nil W0)).mono ?_
  rintro e w1 ⟨rfl, rfl⟩
  have q0 := (cell_of_row _ (b + 1) 0 _ _ _ (N0.out.q)).trans (show _ = some (.int .i64 0) from rfl)
  have qf0 := frozen_of_row _ (b + 1) 0 _ _ (N0.out.q)
  have s0 := (cell_of_row _ (b + 1 + 1) 0 _ _ _ (N0.out.s)).trans (show _ = some (.int .i64 0) from rfl)
  have sf0 := frozen_of_row _ (b + 1 + 1) 0 _ _ (N0.out.s)
  have s1 := (cell_of_row _ (b + 1 + 1) 1 _ _ _ (N0.out.s)).trans (show _ = some (.int .i64 0) from rfl)
  have sf1 := frozen_of_row _ (b + 1 + 1) 1 _ _ (N0.out.s)
  have s2 := (cell_of_row _ (b + 1 + 1) 2 _ _ _ (N0.out.s)).trans (show _ = some (.int .i64 0) from rfl)
  have sf2 := frozen_of_row _ (b + 1 + 1) 2 _ _ (N0.out.s)
  have s3 := (cell_of_row _ (b + 1 + 1) 3 _ _ _ (N0.out.s)).trans (show _ = some (.int .i64 0) from rfl)
  have sf3 := frozen_of_row _ (b + 1 + 1) 3 _ _ (N0.out.s)
  have s4 := (cell_of_row _ (b + 1 + 1) 4 _ _ _ (N0.out.s)).trans (show _ = some (.slice none 0 0) from rfl)
  have sf4 := frozen_of_row _ (b + 1 + 1) 4 _ _ (N0.out.s)
  have s5 := (cell_of_row _ (b + 1 + 1) 5 _ _ _ (N0.out.s)).trans (show _ = some (.slice none 0 0) from rfl)
  have sf5 := frozen_of_row _ (b + 1 + 1) 5 _ _ (N0.out.s)
  have s6 := (cell_of_row _ (b + 1 + 1) 6 _ _ _ (N0.out.s)).trans (show _ = some (.slice none 0 0) from rfl)
  have sf6 := frozen_of_row _ (b + 1 + 1) 6 _ _ (N0.out.s)
  have s7 := (cell_of_row _ (b + 1 + 1) 7 _ _ _ (N0.out.s)).trans (show _ = some (.slice none 0 0) from rfl)
  have sf7 := frozen_of_row _ (b + 1 + 1) 7 _ _ (N0.out.s)
  have s8 := (cell_of_row _ (b + 1 + 1) 8 _ _ _ (N0.out.s)).trans (show _ = some (.slice none 0 0) from rfl)
  have sf8 := frozen_of_row _ (b + 1 + 1) 8 _ _ (N0.out.s)
  have v0 := (cell_of_row _ (b + 1 + 1 + 1) 0 _ _ _ (N0.out.v)).trans (show _ = some (.slice none 0 0) from rfl)
  have vf0 := frozen_of_row _ (b + 1 + 1 + 1) 0 _ _ (N0.out.v)
  have v1 := (cell_of_row _ (b + 1 + 1 + 1) 1 _ _ _ (N0.out.v)).trans (show _ = some (.slice none 0 0) from rfl)
  have vf1 := frozen_of_row _ (b + 1 + 1 + 1) 1 _ _ (N0.out.v)
  have v2 := (cell_of_row _ (b + 1 + 1 + 1) 2 _ _ _ (N0.out.v)).trans (show _ = some (.slice none 0 0) from rfl)
  have vf2 := frozen_of_row _ (b + 1 + 1 + 1) 2 _ _ (N0.out.v)
  have v3 := (cell_of_row _ (b + 1 + 1 + 1) 3 _ _ _ (N0.out.v)).trans (show _ = some (.slice none 0 0) from rfl)
  have vf3 := frozen_of_row _ (b + 1 + 1 + 1) 3 _ _ (N0.out.v)
  have i0 := (cell_of_row _ (b + 1 + 1 + 1 + 1) 0 _ _ _ (N0.out.i)).trans (show _ = some (.bool false) from rfl)
  have if0 := frozen_of_row _ (b + 1 + 1 + 1 + 1) 0 _ _ (N0.out.i)
  have e0 := (cell_of_row _ (b + 1 + 1 + 1 + 1 + 1) 0 _ _ _ (N0.out.e)).trans (show _ = some (.int .i64 0) from rfl)
  have ef0 := frozen_of_row _ (b + 1 + 1 + 1 + 1 + 1) 0 _ _ (N0.out.e)
  gi_wp2
  gi_region
  gi_wp2
  obtain ⟨Wz, hWz⟩ : ∃ Wz, Wz = W0.setCell ⟨b + 1 + 1 + 1 + 1 + 1, 0, none⟩ (.int .i64 2) := ⟨_, rfl⟩
  obtain ⟨Wa, hWa⟩ : ∃ Wa, Wa = Wz.setCell ⟨b + 1, 0, none⟩ (.int .i64 0) := ⟨_, rfl⟩
  obtain ⟨Wb, hWb⟩ : ∃ Wb, Wb = set9 Wa (b + 1 + 1) (.int .i64 0) (.int .i64 0) (.int .i64 0) (.int .i64 0) (.slice none 0 0) (.slice none 0 0) (.slice none 0 0) (.slice none 0 0) (.slice none 0 0) := ⟨_, rfl⟩
  obtain ⟨Wc, hWc⟩ : ∃ Wc, Wc = set4 Wb (b + 1 + 1 + 1) (.slice none 0 0) (.slice none 0 0) (.slice none 0 0) (.slice none 0 0) := ⟨_, rfl⟩
  obtain ⟨Wd, hWd⟩ : ∃ Wd, Wd = Wc.setCell ⟨b + 1 + 1 + 1 + 1, 0, none⟩ (.bool false) := ⟨_, rfl⟩
  obtain ⟨We, hWe⟩ : ∃ We, We = Wd.setCell ⟨b + 1 + 1 + 1 + 1 + 1, 0, none⟩ (.int .i64 2) := ⟨_, rfl⟩
  obtain ⟨Wf, hWf⟩ : ∃ Wf, Wf = We.drew := ⟨_, rfl⟩
  have fz : Fr (fun k => k = b + 1 + 1 + 1 + 1 + 1) W0 Wz := by rw [hWz]; exact setCell_fr (w := W0) ⟨b + 1 + 1 + 1 + 1 + 1, 0, none⟩ _
  have fa : Fr (fun k => k = b + 1) Wz Wa := by rw [hWa]; exact setCell_fr (w := Wz) ⟨b + 1, 0, none⟩ _
  have fb : Fr (fun k => k = b + 1 + 1) Wa Wb := by rw [hWb]; exact set9_fr Wa (b + 1 + 1) (.int .i64 0) (.int .i64 0) (.int .i64 0) (.int .i64 0) (.slice none 0 0) (.slice none 0 0) (.slice none 0 0) (.slice none 0 0) (.slice none 0 0)
  have fc : Fr (fun k => k = b + 1 + 1 + 1) Wb Wc := by rw [hWc]; exact set4_fr Wb (b + 1 + 1 + 1) (.slice none 0 0) (.slice none 0 0) (.slice none 0 0) (.slice none 0 0)
  have fd : Fr (fun k => k = b + 1 + 1 + 1 + 1) Wc Wd := by rw [hWd]; exact setCell_fr (w := Wc) ⟨b + 1 + 1 + 1 + 1, 0, none⟩ _
  have fe : Fr (fun k => k = b + 1 + 1 + 1 + 1 + 1) Wd We := by rw [hWe]; exact setCell_fr (w := Wd) ⟨b + 1 + 1 + 1 + 1 + 1, 0, none⟩ _
  have ra : Wa.heap[b + 1]? = some (.cells #[.int .i64 0] 2 (0, 0)) := by rw [hWa]; exact one_setCell (fz.heapAt N0.out.q (by omega))
  have rb : Wb.heap[b + 1 + 1]? = some (.cells #[.int .i64 0, .int .i64 0, .int .i64 0, .int .i64 0, .slice none 0 0, .slice none 0 0, .slice none 0 0, .slice none 0 0, .slice none 0 0] 36 (0, 0)) := by rw [hWb]; exact set9_row (.int .i64 0) (.int .i64 0) (.int .i64 0) (.int .i64 0) (.slice none 0 0) (.slice none 0 0) (.slice none 0 0) (.slice none 0 0) (.slice none 0 0) (fa.heapAt (fz.heapAt N0.out.s (by omega)) (by omega))
  have rc : Wc.heap[b + 1 + 1 + 1]? = some (.cells #[.slice none 0 0, .slice none 0 0, .slice none 0 0, .slice none 0 0] 42 (0, 0)) := by rw [hWc]; exact set4_row (.slice none 0 0) (.slice none 0 0) (.slice none 0 0) (.slice none 0 0) (fb.heapAt (fa.heapAt (fz.heapAt N0.out.v (by omega)) (by omega)) (by omega))
  have rd : Wd.heap[b + 1 + 1 + 1 + 1]? = some (.cells #[.bool false] 4 (0, 0)) := by rw [hWd]; exact one_setCell (fc.heapAt (fb.heapAt (fa.heapAt (fz.heapAt N0.out.i (by omega)) (by omega)) (by omega)) (by omega))
  have rz : Wz.heap[b + 1 + 1 + 1 + 1 + 1]? = some (.cells #[.int .i64 2] 27 (0, 0)) := by rw [hWz]; exact one_setCell N0.out.e
  have re : We.heap[b + 1 + 1 + 1 + 1 + 1]? = some (.cells #[.int .i64 2] 27 (0, 0)) := by rw [hWe]; exact one_setCell (fd.heapAt (fc.heapAt (fb.heapAt (fa.heapAt rz (by omega)) (by omega)) (by omega)) (by omega))
  have hfr : Fr (fun k => b + 1 ≤ k ∧ k ≤ b + 1 + 1 + 1 + 1 + 1) W0 Wf := by
    rw [hWf]
    exact ((((((fz.mono (fun _ _ e => by omega)).trans (fa.mono (fun _ _ e => by omega))).trans (fb.mono (fun _ _ e => by omega))).trans (fc.mono (fun _ _ e => by omega))).trans (fd.mono (fun _ _ e => by omega))).trans (fe.mono (fun _ _ e => by omega))).drew
  have gq : Wf.heap[b + 1]? = some (.cells #[.int .i64 0] 2 (0, 0)) := by rw [hWf]; exact fe.heapAt (fd.heapAt (fc.heapAt (fb.heapAt ra (by omega)) (by omega)) (by omega)) (by omega)
  have gs : Wf.heap[b + 1 + 1]? = some (.cells #[.int .i64 0, .int .i64 0, .int .i64 0, .int .i64 0, .slice none 0 0, .slice none 0 0, .slice none 0 0, .slice none 0 0, .slice none 0 0] 36 (0, 0)) := by rw [hWf]; exact fe.heapAt (fd.heapAt (fc.heapAt rb (by omega)) (by omega)) (by omega)
  have gv : Wf.heap[b + 1 + 1 + 1]? = some (.cells #[.slice none 0 0, .slice none 0 0, .slice none 0 0, .slice none 0 0] 42 (0, 0)) := by rw [hWf]; exact fe.heapAt (fd.heapAt rc (by omega)) (by omega)
  have gi : Wf.heap[b + 1 + 1 + 1 + 1]? = some (.cells #[.bool false] 4 (0, 0)) := by rw [hWf]; exact fe.heapAt rd (by omega)
  have ge : Wf.heap[b + 1 + 1 + 1 + 1 + 1]? = some (.cells #[.int .i64 2] 27 (0, 0)) := by rw [hWf]; exact re
  clear fz fa fb fc fd fe ra rb rc rd rz re q0 qf0 i0 if0 e0 ef0
  have o0 := (cell_of_row _ (b + 1) 0 _ _ _ (gq)).trans (show _ = some (.int .i64 0) from rfl)
  have s0 := (cell_of_row _ (b + 1 + 1) 0 _ _ _ (gs)).trans (show _ = some (.int .i64 0) from rfl)
  have s1 := (cell_of_row _ (b + 1 + 1) 1 _ _ _ (gs)).trans (show _ = some (.int .i64 0) from rfl)
  have s2 := (cell_of_row _ (b + 1 + 1) 2 _ _ _ (gs)).trans (show _ = some (.int .i64 0) from rfl)
  have s3 := (cell_of_row _ (b + 1 + 1) 3 _ _ _ (gs)).trans (show _ = some (.int .i64 0) from rfl)
  have s4 := (cell_of_row _ (b + 1 + 1) 4 _ _ _ (gs)).trans (show _ = some (.slice none 0 0) from rfl)
  have s5 := (cell_of_row _ (b + 1 + 1) 5 _ _ _ (gs)).trans (show _ = some (.slice none 0 0) from rfl)
  have s6 := (cell_of_row _ (b + 1 + 1) 6 _ _ _ (gs)).trans (show _ = some (.slice none 0 0) from rfl)
  have s7 := (cell_of_row _ (b + 1 + 1) 7 _ _ _ (gs)).trans (show _ = some (.slice none 0 0) from rfl)
  have s8 := (cell_of_row _ (b + 1 + 1) 8 _ _ _ (gs)).trans (show _ = some (.slice none 0 0) from rfl)
  have v0 := (cell_of_row _ (b + 1 + 1 + 1) 0 _ _ _ (gv)).trans (show _ = some (.slice none 0 0) from rfl)
  have v1 := (cell_of_row _ (b + 1 + 1 + 1) 1 _ _ _ (gv)).trans (show _ = some (.slice none 0 0) from rfl)
  have v2 := (cell_of_row _ (b + 1 + 1 + 1) 2 _ _ _ (gv)).trans (show _ = some (.slice none 0 0) from rfl)
  have v3 := (cell_of_row _ (b + 1 + 1 + 1) 3 _ _ _ (gv)).trans (show _ = some (.slice none 0 0) from rfl)
  have i0 := (cell_of_row _ (b + 1 + 1 + 1 + 1) 0 _ _ _ (gi)).trans (show _ = some (.bool false) from rfl)
  have e0 := (cell_of_row _ (b + 1 + 1 + 1 + 1 + 1) 0 _ _ _ (ge)).trans (show _ = some (.int .i64 2) from rfl)
  unfold set9 at hWb
  unfold set4 at hWc
  rw [← hWz, ← hWa, ← hWb, ← hWc, ← hWd, ← hWe, ← hWf]
  have hnw := HB.out
  exact ⟨.tuple #[.int .i64 0, .agg #[.int .i64 0, .int .i64 0, .int .i64 0, .int .i64 0, .slice none 0 0, .slice none 0 0, .slice none 0 0, .slice none 0 0, .slice none 0 0], .agg #[.slice none 0 0, .slice none 0 0, .slice none 0 0, .slice none 0 0], .bool false, .int .i64 2], by simp [results, Tryz.results9, go_sem, o0, s0, s1, s2, s3, s4, s5, s6, s7, s8, v0, v1, v2, v3, i0, e0], rfl, by rw [← hnw]; exact N0.out.below.trans (hfr.below (B := b) (by have := lt_of_block N0.out.d; omega) (fun k hk e => by omega))⟩

set_option maxRecDepth 100000 in
set_option maxHeartbeats 1000000 in
theorem file_arg (w : World) (q s0 s1 s2 s3 : Int) (hq : q < 0) : Calls Tryz.prog 32 #[.int .i64 q, stV s0 s1 s2 s3, viewsV] w fun e w' => (∃ r : ByteArray, r.data.toList = [] ∧ e = .returned (.tuple #[.string r, .int .i64 1])) ∧ Below w.heap.size w w' := by
  unfold stV viewsV
  go_enter Tryz.func32, Tryz.ntmps32
  go_wp2
  go_ret2
  exact ⟨⟨⟨#[]⟩, rfl, rfl⟩, ((Below.refl _ _).alloc (Nat.le_refl _) _).alloc (by simp) _⟩

set_option maxRecDepth 100000 in
set_option maxHeartbeats 2000000 in
theorem check_zero (w : World) : Calls Tryz.prog 158 #[stV 0 0 0 0] w fun e w' => e = .returned (.string ⟨#[110, 117, 109, 98, 101, 114, 115]⟩) ∧ Below w.heap.size w w' := by
  unfold stV
  go_enter Tryz.func158, Tryz.ntmps158
  go_wp2_with fail
  refine (rules_any _).mono ?_
  rintro e w1 ⟨rfl, rfl⟩
  obtain ⟨b, hb⟩ : ∃ b, b = w.heap.size := ⟨_, rfl⟩
  obtain ⟨W0, hW0⟩ : ∃ W0, W0 = (w.alloc (.cells #[.int .i64 0, .int .i64 0, .int .i64 0, .int .i64 0, .slice none 0 0, .slice none 0 0, .slice none 0 0, .slice none 0 0, .slice none 0 0] 36)).alloc (.cells ruleCells 286) := ⟨_, rfl⟩
  have hsz : W0.heap.size = b + 2 := by rw [hW0, hb]; simp
  have k0 : W0.heap[b]? = some (.cells (stC 0 0 0 0) 36 (0, 0)) := by rw [hW0, hb]; exact (Below.heap_alloc _ _ _ (by simp)).trans (heap_alloc_new _ _)
  have k1 : W0.heap[b + 1]? = some (.cells ruleCells 286 (0, 0)) := by rw [hW0, hb]; exact alloc_topY _ _ (by simp)
  have hbel : Below w.heap.size w W0 := by rw [hW0]; exact ((Below.refl _ _).alloc (Nat.le_refl _) _).alloc (by simp) _
  have K0 := Lib.hid k0
  have K1 := Lib.hid k1
  have HB := Lib.hid hbel
  try simp only [World.size_alloc]
  rw [← hW0, ← hb]
  have HBS := Lib.hid hb
  clear hW0 hb k0 k1 hbel
  go_wp2
  go_loopw [7] (fun i wr => i = .int .i64 0 ∧ Hid (Below W0.heap.size W0 wr)) (fun _ _ => 0)
  case atStart => exact ⟨rfl, Lib.hid (Below.refl _ _)⟩
  case round =>
    obtain ⟨rfl, HF⟩ := hrel
    have he : ∀ (args : Array Value) (w : World), (callFunc 242 args).run Tryz.prog w = .ok (.enter 242 args) w := enters_of Tryz.func242 (by kernel_rfl) rfl
    have r1 := (HF.out.block _ (lt_of_block K1.out)).trans K1.out
    have r0 := (HF.out.block _ (lt_of_block K0.out)).trans K0.out
    have g1 : wr.cell? ⟨b + 1, 0, none⟩ = some (.string ⟨#[110, 117, 109, 98, 101, 114, 115]⟩) := (cell_of_row _ _ _ _ _ _ r1).trans rfl
    have g2 : wr.cell? ⟨b + 1, 1, none⟩ = some (.func (.func 242) #[] #[]) := (cell_of_row _ _ _ _ _ _ r1).trans rfl
    have HX := Lib.hid (fun j v (h : (stC 0 0 0 0)[j]? = some v) => ((cell_of_row _ _ _ _ _ _ r0).trans h : wr.cell? ⟨b, j, none⟩ = some v))
    have x0 := HX.out 0 _ rfl
    have x1 := HX.out 1 _ rfl
    have x2 := HX.out 2 _ rfl
    have x3 := HX.out 3 _ rfl
    have x4 := HX.out 4 _ rfl
    have x5 := HX.out 5 _ rfl
    have x6 := HX.out 6 _ rfl
    have x7 := HX.out 7 _ rfl
    have x8 := HX.out 8 _ rfl
    have hwz : W0.heap.size ≤ wr.heap.size := HF.out.size
    have hbl : b < wr.heap.size := ltOfCell x0
    have hbl1 : b + 1 < wr.heap.size := ltOfCell g1
    clear r0 r1
    go_wp2_with fail
    refine (show Calls Tryz.prog 242 #[.agg #[.int .i64 0, .int .i64 0, .int .i64 0, .int .i64 0, .slice none 0 0, .slice none 0 0, .slice none 0 0, .slice none 0 0, .slice none 0 0]] _ _ from stnumbers_zero _).mono ?_
    rintro e w4 ⟨rfl, hb4⟩
    have n0 : w4.cell? ⟨wr.heap.size, 0, none⟩ = some (.string ⟨#[110, 117, 109, 98, 101, 114, 115]⟩) := by rw [hb4.cell (by simp), World.cell?_alloc_at _ _ _ _ rfl]; rfl
    have HF4 := Lib.hid ((HF.out.alloc hwz _).trans (hb4.mono (by simp; omega)))
    clear hb4
    go_wp2
    go_ret
    exact ⟨rfl, HB.out.trans (HF4.out.mono (by have := HBS.out; omega))⟩

set_option maxRecDepth 100000 in
set_option maxHeartbeats 1000000 in
theorem stmay_zero (w : World) : Calls Tryz.prog 97 #[stV 0 0 0 0] w fun e w' => e = .returned (.bool false) ∧ Below w.heap.size w w' := by
  unfold stV
  go_enter Tryz.func97, Tryz.ntmps97
  go_wp2_with fail
  refine (show Calls Tryz.prog 158 #[.agg #[.int .i64 0, .int .i64 0, .int .i64 0, .int .i64 0, .slice none 0 0, .slice none 0 0, .slice none 0 0, .slice none 0 0, .slice none 0 0]] _ _ from check_zero _).mono ?_
  rintro e w1 ⟨rfl, hb1⟩
  have HB := Lib.hid (box_below hb1)
  clear hb1
  go_wp2
  go_ret
  exact ⟨rfl, HB.out⟩
set_option maxRecDepth 100000 in
set_option maxHeartbeats 1000000 in
theorem body_zero (w : World) : Calls Tryz.prog 64 #[stV 0 0 0 0, viewsV] w fun e w' => e = .returned (.tuple #[.string ⟨#[]⟩, .int .i64 4]) ∧ Below w.heap.size w w' := by
  unfold stV viewsV
  go_enter Tryz.func64, Tryz.ntmps64
  go_wp2_with fail
  refine (show Calls Tryz.prog 97 #[.agg #[.int .i64 0, .int .i64 0, .int .i64 0, .int .i64 0, .slice none 0 0, .slice none 0 0, .slice none 0 0, .slice none 0 0, .slice none 0 0]] _ _ from stmay_zero _).mono ?_
  rintro e w1 ⟨rfl, hb1⟩
  have HB := Lib.hid (((Below.refl w.heap.size w).alloc (Nat.le_refl _) _).alloc (by simp) _ |>.trans (hb1.mono (by simp; omega)))
  clear hb1
  go_wp2
  go_ret2
  exact ⟨rfl, HB.out⟩
set_option maxRecDepth 100000 in
set_option maxHeartbeats 1000000 in
theorem file_zero (w : World) : Calls Tryz.prog 32 #[.int .i64 0, stV 0 0 0 0, viewsV] w fun e w' => (∃ r : ByteArray, r.data.toList = [] ∧ e = .returned (.tuple #[.string r, .int .i64 4])) ∧ Below w.heap.size w w' := by
  unfold stV viewsV
  go_enter Tryz.func32, Tryz.ntmps32
  go_wp2_with fail
  refine (show Calls Tryz.prog 64 #[.agg #[.int .i64 0, .int .i64 0, .int .i64 0, .int .i64 0, .slice none 0 0, .slice none 0 0, .slice none 0 0, .slice none 0 0, .slice none 0 0], .agg #[.slice none 0 0, .slice none 0 0, .slice none 0 0, .slice none 0 0]] _ _ from body_zero _).mono ?_
  rintro e w1 ⟨rfl, hb1⟩
  have HB := Lib.hid (((Below.refl w.heap.size w).alloc (Nat.le_refl _) _).alloc (by simp) _ |>.trans (hb1.mono (by simp; omega)))
  clear hb1
  go_wp2
  go_ret2
  exact ⟨⟨⟨#[]⟩, rfl, rfl⟩, HB.out⟩

/-- Where a write that touches no disk stands. -/
structure WNo (w W : World) (dv : Value) (n : Nat) (code : Int) : Prop where
  q : W.cell? ⟨n, 0, none⟩ = some dv
  c : W.heap[n + 1 + 1 + 1]? = some (.cells #[.int .i64 code] 27 (0, 0))
  below : Below n w W
set_option maxRecDepth 100000 in
set_option maxHeartbeats 2000000 in
theorem write_refused (w : World) (p0 : Option Addr) (seq s0 s1 s2 s3 : Int) (D : List UInt8) (code : Int) (hc : code ≠ 0) (hF : FileTells w seq (stV s0 s1 s2 s3) viewsV D code) :
    Calls Tryz.prog 13 #[.pointer p0, .int .i64 seq, stV s0 s1 s2 s3, viewsV] w fun e w' => e = .returned (.int .i64 code) ∧ Below w.heap.size w w' := by
  have HFT := Lib.hid hF
  have hcf : (code == 0) = false := by simpa using hc
  have hct : (code != 0) = true := by simpa using hc
  clear hF
  unfold stV viewsV
  go_enter_defers Tryz.func13, Tryz.ntmps13
  go_wp2_with fail
  obtain ⟨n, hn⟩ : ∃ n, n = w.heap.size := ⟨_, rfl⟩
  obtain ⟨W0, hW0⟩ : ∃ W0, W0 = (((w.alloc (.cells #[.pointer p0] 48)).alloc (.cells #[.int .i64 s0, .int .i64 s1, .int .i64 s2, .int .i64 s3, .slice none 0 0, .slice none 0 0, .slice none 0 0, .slice none 0 0, .slice none 0 0] 36)).alloc (.cells #[.slice none 0 0, .slice none 0 0, .slice none 0 0, .slice none 0 0] 42)).alloc (.cells #[.int .i64 0] 27) := ⟨_, rfl⟩
  have hbel : Below w.heap.size w W0 := by rw [hW0]; exact ((((Below.refl _ _).alloc (Nat.le_refl _) _).alloc (by simp) _).alloc (by simp <;> omega) _).alloc (by simp <;> omega) _
  have k0 : W0.cell? ⟨n, 0, none⟩ = some (.pointer p0) := by rw [hW0, hn, World.cell?_alloc_past _ _ _ (by simp <;> omega), World.cell?_alloc_past _ _ _ (by simp <;> omega), World.cell?_alloc_past _ _ _ (by simp), World.cell?_alloc_at _ _ _ _ rfl]; rfl
  have k3 : W0.heap[n + 1 + 1 + 1]? = some (.cells #[.int .i64 0] 27 (0, 0)) := by rw [hW0, hn]; exact alloc_topY _ _ (by simp)
  have HBL := Lib.hid hbel
  have K3 := Lib.hid k3
  have HN := Lib.hid hn
  rw [← hW0]
  try rw [← hn]
  clear hW0 k0 k3 hbel hn
  refine (show Calls Tryz.prog 32 #[.int .i64 seq, .agg #[.int .i64 s0, .int .i64 s1, .int .i64 s2, .int .i64 s3, .slice none 0 0, .slice none 0 0, .slice none 0 0, .slice none 0 0, .slice none 0 0], .agg #[.slice none 0 0, .slice none 0 0, .slice none 0 0, .slice none 0 0]] W0 _ from HFT.out W0 HBL.out).mono ?_
  rintro e w1 ⟨⟨r, hr, rfl⟩, hb1⟩
  have r3 := (hb1.block _ (lt_of_block K3.out)).trans K3.out
  have c1 : w1.cell? ⟨n + 1 + 1 + 1, 0, none⟩ = some (.int .i64 0) := (cell_of_row _ _ _ _ _ _ r3).trans rfl
  have z1 : w1.frozen? ⟨n + 1 + 1 + 1, 0, none⟩ = false := frozen_of_row _ _ 0 _ _ r3
  have B1 := Lib.hid (HBL.out.trans (hb1.mono HBL.out.size))
  clear hb1 hr r3
  go_wp2
  refine ⟨.int .i64 code, ?_, rfl, ?_⟩
  · simp [results, Tryz.results13, go_sem]
    rw [World.cell?_setCell_same' _ _ _ (by rw [World.cell?_setCell_same' _ _ _ (by rw [c1]; rfl)]; rfl)]
  · have hnw := HN.out
    exact (B1.out.setCell (by show w.heap.size ≤ n + 1 + 1 + 1; omega) _).setCell (by show w.heap.size ≤ n + 1 + 1 + 1; omega) _

theorem deferred_calm (w : World) (c q : Nat) (code : Int) (u : FrameMode) (hc : w.heap[c]? = some (.cells #[.int .i64 code] 27 (0, 0))) (h44 : code ≠ 44) :
    CallsD Tryz.prog 33 #[.pointer (some ⟨c, 0, none⟩), .pointer (some ⟨q, 0, none⟩)] u w fun e u' w' => u' = u ∧ e = .returned (.tuple #[]) ∧ w = w' := by
  have hc0 : w.cell? ⟨c, 0, none⟩ = some (.int .i64 code) := by rw [cell_of_row w c 0 _ _ _ hc]; rfl
  go_enter_d Tryz.func33, Tryz.ntmps33
  go_wp2
  go_end0
  exact ⟨rfl, rfl⟩
theorem door_calm (wd : World) (c q : Nat) (code : Int) (tmps : Array Value) (ht : tmps[8]?.getD undef = .pointer (some ⟨c, 0, none⟩)) (hc : wd.heap[c]? = some (.cells #[.int .i64 code] 27 (0, 0))) (h44 : code ≠ 44) (R : Ending → World → Prop) (hR : R (.returned (.int .i64 code)) wd) :
    bodyPostD Tryz.prog Tryz.f13 R Exit.ret { tmps := tmps, defers := [{ target := Target.fn (Fn.func 33) #[.pointer (some ⟨c, 0, none⟩), .pointer (some ⟨q, 0, none⟩)], args := #[] }] } wd := by
  refine leaves_cons (f := 33) (args := #[.pointer (some ⟨c, 0, none⟩), .pointer (some ⟨q, 0, none⟩)]) (by simp) (by simp [go_sem]) ?_
  refine (deferred_calm wd c q code .returning hc h44).mono ?_
  rintro e u' w'' ⟨rfl, rfl, rfl⟩
  exact ⟨_, wres_cell tmps wd c _ code ht ((cell_of_row _ _ _ _ _ _ hc).trans rfl) rfl, hR⟩
set_option maxRecDepth 100000 in
set_option maxHeartbeats 2000000 in
theorem write_nil (w : World) (seq s0 s1 s2 s3 : Int) (D : List UInt8) (hF : FileTells w seq (stV s0 s1 s2 s3) viewsV D 0) :
    Calls Tryz.prog 13 #[.pointer none, .int .i64 seq, stV s0 s1 s2 s3, viewsV] w fun e w' => e = .returned (.int .i64 2) ∧ Below w.heap.size w w' := by
  have hmf : ∀ (fn : Fn) (first cap : Array Value) (w : World), (Instr.makeFunc fn first cap).run Tryz.prog w = .ok (.func fn first cap) w := fun _ _ _ _ => rfl
  have HFT := Lib.hid hF
  clear hF
  unfold stV viewsV
  go_enter_defers Tryz.func13, Tryz.ntmps13
  go_wp2_with fail
  obtain ⟨n, hn⟩ : ∃ n, n = w.heap.size := ⟨_, rfl⟩
  obtain ⟨W0, hW0⟩ : ∃ W0, W0 = (((w.alloc (.cells #[.pointer none] 48)).alloc (.cells #[.int .i64 s0, .int .i64 s1, .int .i64 s2, .int .i64 s3, .slice none 0 0, .slice none 0 0, .slice none 0 0, .slice none 0 0, .slice none 0 0] 36)).alloc (.cells #[.slice none 0 0, .slice none 0 0, .slice none 0 0, .slice none 0 0] 42)).alloc (.cells #[.int .i64 0] 27) := ⟨_, rfl⟩
  have hbel : Below w.heap.size w W0 := by rw [hW0]; exact ((((Below.refl _ _).alloc (Nat.le_refl _) _).alloc (by simp) _).alloc (by simp <;> omega) _).alloc (by simp <;> omega) _
  have k0 : W0.cell? ⟨n, 0, none⟩ = some (.pointer none) := by rw [hW0, hn, World.cell?_alloc_past _ _ _ (by simp <;> omega), World.cell?_alloc_past _ _ _ (by simp <;> omega), World.cell?_alloc_past _ _ _ (by simp), World.cell?_alloc_at _ _ _ _ rfl]; rfl
  have k3 : W0.heap[n + 1 + 1 + 1]? = some (.cells #[.int .i64 0] 27 (0, 0)) := by rw [hW0, hn]; exact alloc_topY _ _ (by simp)
  have HBL := Lib.hid hbel
  have Q0 := Lib.hid k0
  have K3 := Lib.hid k3
  have HN := Lib.hid hn
  rw [← hW0]
  try rw [← hn]
  clear hW0 k0 k3 hbel hn
  refine (show Calls Tryz.prog 32 #[.int .i64 seq, .agg #[.int .i64 s0, .int .i64 s1, .int .i64 s2, .int .i64 s3, .slice none 0 0, .slice none 0 0, .slice none 0 0, .slice none 0 0, .slice none 0 0], .agg #[.slice none 0 0, .slice none 0 0, .slice none 0 0, .slice none 0 0]] W0 _ from HFT.out W0 HBL.out).mono ?_
  rintro e w1 ⟨⟨r, hr, rfl⟩, hb1⟩
  have r3 := (hb1.block _ (lt_of_block K3.out)).trans K3.out
  have q1 := (hb1.cell (p := ⟨n, 0, none⟩) (ltOfCell Q0.out)).trans Q0.out
  have c1 : w1.cell? ⟨n + 1 + 1 + 1, 0, none⟩ = some (.int .i64 0) := (cell_of_row _ _ _ _ _ _ r3).trans rfl
  have z1 : w1.frozen? ⟨n + 1 + 1 + 1, 0, none⟩ = false := frozen_of_row _ _ 0 _ _ r3
  have B1 := Lib.hid (HBL.out.trans (hb1.mono HBL.out.size))
  have R3 := Lib.hid r3
  clear hb1 hr r3
  go_wp2_with fail
  refine (delete_nil _ ⟨#[83, 78, 65, 80, 83, 72, 79, 84, 46, 110, 101, 119]⟩).mono ?_
  rintro e w2 ⟨rfl, hb2⟩
  have B2 := Lib.hid ((B1.out.setCell (p := ⟨n + 1 + 1 + 1, 0, none⟩) (by have := HN.out; show w.heap.size ≤ n + 1 + 1 + 1; omega) (.int .i64 0)).trans (hb2.mono (by simp; exact B1.out.size)))
  have r2 := (hb2.block _ (by simp; exact lt_of_block R3.out)).trans (one_setCell (u := .int .i64 0) R3.out)
  have c2 : w2.cell? ⟨n + 1 + 1 + 1, 0, none⟩ = some (.int .i64 0) := (cell_of_row _ _ _ _ _ _ r2).trans rfl
  have z2 : w2.frozen? ⟨n + 1 + 1 + 1, 0, none⟩ = false := frozen_of_row _ _ 0 _ _ r2
  have R2 := Lib.hid r2
  clear hb2 r2 c1 z1 q1
  go_wp2
  have r5 := one_setCell (u := .int .i64 2) (one_setCell (u := .int .i64 2) R2.out)
  refine door_calm _ (n + 1 + 1 + 1) n 2 _ (by rfl) r5 (by decide) _ ⟨rfl, ?_⟩
  exact (B2.out.setCell (by have := HN.out; show w.heap.size ≤ n + 1 + 1 + 1; omega) _).setCell (by have := HN.out; show w.heap.size ≤ n + 1 + 1 + 1; omega) _
end Go.Proofs.YteikdcobpfohcaaGreatDoor

/- The walks of snap.Read and Open, at an empty market's snapshot. -/
import Derived.Test.YteikdcobpfohcaaGreatDoorMkSnG
import Derived.Test.YteikdcobpfohcaaGreatDoorMFj
namespace Go.Proofs.YteikdcobpfohcaaGreatDoor
open Go.RowKit

set_option maxRecDepth 100000 in
set_option maxHeartbeats 4000000 in
theorem read0 (c : Nat) (hc : c < 128) (w : World) (s : ByteArray) (hs : s.data.toList = emptyB c) :
    Calls Tryz.prog 60 #[.string s] w fun e w' => e = .returned (.tuple #[stV (c : Int) 0 1 1, viewsV, .int .i64 0]) ∧ Below w.heap.size w w' := by
  have hz : s.size = 13 := by rw [size_of_list hs]; rfl
  have HS := Lib.hid hs
  clear hs
  go_enter Tryz.func60, Tryz.ntmps60
  go_wp2_with fail
  obtain ⟨n, hn⟩ : ∃ n, n = w.heap.size := ⟨_, rfl⟩
  obtain ⟨W0, hW0⟩ : ∃ W0, W0 = (w.alloc (.cells #[.int .i64 0, .int .i64 0, .int .i64 0, .int .i64 0, .slice none 0 0, .slice none 0 0, .slice none 0 0, .slice none 0 0, .slice none 0 0] 36)).alloc (.cells #[.slice none 0 0, .slice none 0 0, .slice none 0 0, .slice none 0 0] 42) := ⟨_, rfl⟩
  have hbel : Below w.heap.size w W0 := by rw [hW0]; exact ((Below.refl _ _).alloc (Nat.le_refl _) _).alloc (by simp) _
  have k0 : W0.heap[n]? = some (.cells #[.int .i64 0, .int .i64 0, .int .i64 0, .int .i64 0, .slice none 0 0, .slice none 0 0, .slice none 0 0, .slice none 0 0, .slice none 0 0] 36 (0, 0)) := by rw [hW0, hn]; exact (Below.heap_alloc _ _ _ (by simp <;> omega)).trans (heap_alloc_new _ _)
  have k1 : W0.heap[n + 1]? = some (.cells #[.slice none 0 0, .slice none 0 0, .slice none 0 0, .slice none 0 0] 42 (0, 0)) := by rw [hW0, hn]; exact alloc_topY _ _ (by simp)
  have K0 := Lib.hid k0
  have K1 := Lib.hid k1
  have HB := Lib.hid hbel
  have HN := Lib.hid hn
  rw [← hW0, ← hn]
  clear hW0 hn k0 k1 hbel
  refine (rd_new s W0 (by omega)).mono ?_
  rintro e w1 ⟨rfl, hr1, hb1⟩
  obtain ⟨p, hp⟩ : ∃ p, p = W0.heap.size := ⟨_, rfl⟩
  rw [← hp] at hr1 ⊢
  have hpl := hr1.lt
  have R1 := Lib.hid hr1
  have B1 := Lib.hid hb1
  clear hr1 hb1
  go_wp2_with fail
  obtain ⟨q, hq⟩ : ∃ q, q = w1.heap.size := ⟨_, rfl⟩
  -- more
  rw [← hp]
  obtain ⟨W2, hW2⟩ : ∃ W2, W2 = w1.alloc (.cells #[.pointer (some ⟨p, 0, none⟩), .int .i64 13, .bool false] 157) := ⟨_, rfl⟩
  have b2 : Below w1.heap.size w1 W2 := by rw [hW2]; exact (Below.refl _ _).alloc (Nat.le_refl _) _
  have g : RdrAt W2 q p s ⟨0, 0, 0⟩ := ⟨by rw [hW2, hq, hz]; exact heap_alloc_new _ _, R1.out.kept (Fr.pure (S := fun _ => False) b2) (fun h => h), by omega⟩
  have B2 := Lib.hid (below_on B1.out b2)
  rw [← hW2, ← hq]
  have hql := lt_of_block g.cell
  have hpn : n + 1 < p := by have := lt_of_block K1.out; omega
  have hpq : p < q := by omega
  have G := Lib.hid g
  clear hW2 b2 g hp hq hpl hql
  refine (get0 c hc W2 q p s G.out HS.out).mono ?_
  rintro e w3 ⟨rfl, r3, f3⟩
  have R3 := Lib.hid r3
  have F3 := Lib.hid (show Fr (fun k => k = p) W0 w3 from (Fr.pure B2.out).then f3 (fun _ _ e => e))
  have hl3 := lt_of_block r3.cell
  clear r3 f3 G
  unfold stV
  go_wp2_with fail
  obtain ⟨W4, hW4⟩ : ∃ W4, W4 = w3.alloc (.cells #[.int .i64 (c : Int), .int .i64 0, .int .i64 1, .int .i64 1, .slice none 0 0, .slice none 0 0, .slice none 0 0, .slice none 0 0, .slice none 0 0] 36) := ⟨_, rfl⟩
  have b4 : Below w3.heap.size w3 W4 := by rw [hW4]; exact (Below.refl _ _).alloc (Nat.le_refl _) _
  have R4 := Lib.hid (R3.out.pure b4)
  have F4 := Lib.hid (F3.out.andPure b4)
  have K4 := Lib.hid (show W4.heap[w3.heap.size]? = some (.cells #[.int .i64 (c : Int), .int .i64 0, .int .i64 1, .int .i64 1, .slice none 0 0, .slice none 0 0, .slice none 0 0, .slice none 0 0, .slice none 0 0] 36 (0, 0)) from by rw [hW4]; exact heap_alloc_new _ _)
  rw [← hW4]
  clear hW4 b4 R3 F3
  refine (views0 c hc W4 q p s R4.out HS.out).mono ?_
  rintro e w5 ⟨rfl, r5, f5⟩
  have R5 := Lib.hid r5
  have hl5 := lt_of_block r5.cell
  have F5 := Lib.hid (F4.out.trans f5)
  have hmp : w3.heap.size ≠ p := by omega
  have K5 := Lib.hid (f5.heapAt K4.out hmp)
  have hlm := lt_of_block K5.out
  obtain ⟨x0, x1, x2⟩ := r5.cs
  clear r5 f5 R4 F4 K4
  unfold viewsV
  go_wp2_with fail
  obtain ⟨W6, hW6⟩ : ∃ W6, W6 = w5.alloc (.cells #[.slice none 0 0, .slice none 0 0, .slice none 0 0, .slice none 0 0] 42) := ⟨_, rfl⟩
  have b6 : Below w5.heap.size w5 W6 := by rw [hW6]; exact (Below.refl _ _).alloc (Nat.le_refl _) _
  have R6 := Lib.hid (R5.out.pure b6)
  have F6 := Lib.hid (F5.out.andPure b6)
  have K6 := Lib.hid ((b6.block _ hlm).trans K5.out)
  have V6 := Lib.hid (show W6.heap[w5.heap.size]? = some (.cells #[.slice none 0 0, .slice none 0 0, .slice none 0 0, .slice none 0 0] 42 (0, 0)) from by rw [hW6]; exact heap_alloc_new _ _)
  rw [← hW6]
  clear hW6 b6 R5 F5 K5 x0 x1 x2
  refine (rd_end W6 p s _ R6.out.rd).mono ?_
  rintro e w7 ⟨rfl, nn, rfl⟩
  rw [show RdSt.ended ⟨13, 0, 0⟩ s.size = 0 from by unfold RdSt.ended; rw [if_neg (by rw [hz]; decide)]]
  obtain ⟨W7, hW7⟩ : ∃ W7, W7 = W6.drewN nn := ⟨_, rfl⟩
  have R7 := Lib.hid (show RdrAt W7 q p s ⟨13, 0, 0⟩ from by rw [hW7]; exact ⟨R6.out.cell, R6.out.rd, R6.out.ne⟩)
  have F7 := Lib.hid (show Fr (fun k => k = p) W0 W7 from by rw [hW7]; exact F6.out.drewN nn)
  have K7 := Lib.hid (show W7.heap[w3.heap.size]? = some (.cells #[.int .i64 (c : Int), .int .i64 0, .int .i64 1, .int .i64 1, .slice none 0 0, .slice none 0 0, .slice none 0 0, .slice none 0 0, .slice none 0 0] 36 (0, 0)) from by rw [hW7]; exact K6.out)
  have V7 := Lib.hid (show W7.heap[w5.heap.size]? = some (.cells #[.slice none 0 0, .slice none 0 0, .slice none 0 0, .slice none 0 0] 42 (0, 0)) from by rw [hW7]; exact V6.out)
  rw [← hW7]
  obtain ⟨_, _, x2⟩ := R7.out.cs
  clear hW7 R6 F6 K6 V6
  have x0 := (cell_of_row _ w3.heap.size 0 _ _ _ (K7.out)).trans (show _ = some (.int .i64 (c : Int)) from rfl)
  have x1 := (cell_of_row _ w3.heap.size 1 _ _ _ (K7.out)).trans (show _ = some (.int .i64 0) from rfl)
  have xx2 := (cell_of_row _ w3.heap.size 2 _ _ _ (K7.out)).trans (show _ = some (.int .i64 1) from rfl)
  have x3 := (cell_of_row _ w3.heap.size 3 _ _ _ (K7.out)).trans (show _ = some (.int .i64 1) from rfl)
  have x4 := (cell_of_row _ w3.heap.size 4 _ _ _ (K7.out)).trans (show _ = some (.slice none 0 0) from rfl)
  have x5 := (cell_of_row _ w3.heap.size 5 _ _ _ (K7.out)).trans (show _ = some (.slice none 0 0) from rfl)
  have x6 := (cell_of_row _ w3.heap.size 6 _ _ _ (K7.out)).trans (show _ = some (.slice none 0 0) from rfl)
  have x7 := (cell_of_row _ w3.heap.size 7 _ _ _ (K7.out)).trans (show _ = some (.slice none 0 0) from rfl)
  have x8 := (cell_of_row _ w3.heap.size 8 _ _ _ (K7.out)).trans (show _ = some (.slice none 0 0) from rfl)
  go_wp2_with fail
  refine (show Calls Tryz.prog 97 #[.agg #[.int .i64 (c : Int), .int .i64 0, .int .i64 1, .int .i64 1, .slice none 0 0, .slice none 0 0, .slice none 0 0, .slice none 0 0, .slice none 0 0]] W7 _ from stmay_ok W7 (c : Int) (by omega) (by omega)).mono ?_
  rintro e w8 ⟨rfl, hb8⟩
  have B8 := Lib.hid hb8
  clear hb8 x2 x0 x1 xx2 x3 x4 x5 x6 x7 x8
  have V8 := Lib.hid ((B8.out.block _ (lt_of_block V7.out)).trans V7.out)
  have y0 := (cell_of_row _ w5.heap.size 0 _ _ _ (V8.out)).trans (show _ = some (.slice none 0 0) from rfl)
  have y1 := (cell_of_row _ w5.heap.size 1 _ _ _ (V8.out)).trans (show _ = some (.slice none 0 0) from rfl)
  have y2 := (cell_of_row _ w5.heap.size 2 _ _ _ (V8.out)).trans (show _ = some (.slice none 0 0) from rfl)
  have y3 := (cell_of_row _ w5.heap.size 3 _ _ _ (V8.out)).trans (show _ = some (.slice none 0 0) from rfl)
  go_wp2_with fail
  refine (show Calls Tryz.prog 98 #[.agg #[.slice none 0 0, .slice none 0 0, .slice none 0 0, .slice none 0 0]] w8 _ from viewsMay0 w8).mono ?_
  rintro e w9 ⟨rfl, hb9⟩
  have B9 := Lib.hid (below_on B8.out hb9)
  clear hb9 y0 y1 y2 y3
  have K9 := Lib.hid ((B9.out.block _ (lt_of_block K7.out)).trans K7.out)
  have V9 := Lib.hid ((B9.out.block _ (lt_of_block V7.out)).trans V7.out)
  have F9 := Lib.hid (F7.out.andPure B9.out)
  have P9 := Lib.hid (F9.out.heapAt K0.out (by omega))
  have Q9 := Lib.hid (F9.out.heapAt K1.out (by omega))
  have x0 := (cell_of_row _ w3.heap.size 0 _ _ _ (K9.out)).trans (show _ = some (.int .i64 (c : Int)) from rfl)
  have x1 := (cell_of_row _ w3.heap.size 1 _ _ _ (K9.out)).trans (show _ = some (.int .i64 0) from rfl)
  have x2 := (cell_of_row _ w3.heap.size 2 _ _ _ (K9.out)).trans (show _ = some (.int .i64 1) from rfl)
  have x3 := (cell_of_row _ w3.heap.size 3 _ _ _ (K9.out)).trans (show _ = some (.int .i64 1) from rfl)
  have x4 := (cell_of_row _ w3.heap.size 4 _ _ _ (K9.out)).trans (show _ = some (.slice none 0 0) from rfl)
  have x5 := (cell_of_row _ w3.heap.size 5 _ _ _ (K9.out)).trans (show _ = some (.slice none 0 0) from rfl)
  have x6 := (cell_of_row _ w3.heap.size 6 _ _ _ (K9.out)).trans (show _ = some (.slice none 0 0) from rfl)
  have x7 := (cell_of_row _ w3.heap.size 7 _ _ _ (K9.out)).trans (show _ = some (.slice none 0 0) from rfl)
  have x8 := (cell_of_row _ w3.heap.size 8 _ _ _ (K9.out)).trans (show _ = some (.slice none 0 0) from rfl)
  have y0 := (cell_of_row _ w5.heap.size 0 _ _ _ (V9.out)).trans (show _ = some (.slice none 0 0) from rfl)
  have y1 := (cell_of_row _ w5.heap.size 1 _ _ _ (V9.out)).trans (show _ = some (.slice none 0 0) from rfl)
  have y2 := (cell_of_row _ w5.heap.size 2 _ _ _ (V9.out)).trans (show _ = some (.slice none 0 0) from rfl)
  have y3 := (cell_of_row _ w5.heap.size 3 _ _ _ (V9.out)).trans (show _ = some (.slice none 0 0) from rfl)
  have p0 := (cell_of_row _ n 0 _ _ _ (P9.out)).trans (show _ = some (.int .i64 0) from rfl)
  have pf0 := frozen_of_row _ n 0 _ _ (P9.out)
  have p1 := (cell_of_row _ n 1 _ _ _ (P9.out)).trans (show _ = some (.int .i64 0) from rfl)
  have pf1 := frozen_of_row _ n 1 _ _ (P9.out)
  have p2 := (cell_of_row _ n 2 _ _ _ (P9.out)).trans (show _ = some (.int .i64 0) from rfl)
  have pf2 := frozen_of_row _ n 2 _ _ (P9.out)
  have p3 := (cell_of_row _ n 3 _ _ _ (P9.out)).trans (show _ = some (.int .i64 0) from rfl)
  have pf3 := frozen_of_row _ n 3 _ _ (P9.out)
  have p4 := (cell_of_row _ n 4 _ _ _ (P9.out)).trans (show _ = some (.slice none 0 0) from rfl)
  have pf4 := frozen_of_row _ n 4 _ _ (P9.out)
  have p5 := (cell_of_row _ n 5 _ _ _ (P9.out)).trans (show _ = some (.slice none 0 0) from rfl)
  have pf5 := frozen_of_row _ n 5 _ _ (P9.out)
  have p6 := (cell_of_row _ n 6 _ _ _ (P9.out)).trans (show _ = some (.slice none 0 0) from rfl)
  have pf6 := frozen_of_row _ n 6 _ _ (P9.out)
  have p7 := (cell_of_row _ n 7 _ _ _ (P9.out)).trans (show _ = some (.slice none 0 0) from rfl)
  have pf7 := frozen_of_row _ n 7 _ _ (P9.out)
  have p8 := (cell_of_row _ n 8 _ _ _ (P9.out)).trans (show _ = some (.slice none 0 0) from rfl)
  have pf8 := frozen_of_row _ n 8 _ _ (P9.out)
  have q0 := (cell_of_row _ (n + 1) 0 _ _ _ (Q9.out)).trans (show _ = some (.slice none 0 0) from rfl)
  have qf0 := frozen_of_row _ (n + 1) 0 _ _ (Q9.out)
  have q1 := (cell_of_row _ (n + 1) 1 _ _ _ (Q9.out)).trans (show _ = some (.slice none 0 0) from rfl)
  have qf1 := frozen_of_row _ (n + 1) 1 _ _ (Q9.out)
  have q2 := (cell_of_row _ (n + 1) 2 _ _ _ (Q9.out)).trans (show _ = some (.slice none 0 0) from rfl)
  have qf2 := frozen_of_row _ (n + 1) 2 _ _ (Q9.out)
  have q3 := (cell_of_row _ (n + 1) 3 _ _ _ (Q9.out)).trans (show _ = some (.slice none 0 0) from rfl)
  have qf3 := frozen_of_row _ (n + 1) 3 _ _ (Q9.out)
  have hmn : n + 1 < w3.heap.size := by omega
  have hmn2 : n + 1 < w5.heap.size := by omega
  clear R7
  go_wp2
  go_region
  go_wp2
  obtain ⟨Wa, hWa⟩ : ∃ Wa, Wa = set9 w9 n (.int .i64 (c : Int)) (.int .i64 0) (.int .i64 1) (.int .i64 1) (.slice none 0 0) (.slice none 0 0) (.slice none 0 0) (.slice none 0 0) (.slice none 0 0) := ⟨_, rfl⟩
  obtain ⟨Wb, hWb⟩ : ∃ Wb, Wb = set4 Wa (n + 1) (.slice none 0 0) (.slice none 0 0) (.slice none 0 0) (.slice none 0 0) := ⟨_, rfl⟩
  have fa : Fr (fun k => k = n) w9 Wa := by rw [hWa]; exact set9_fr w9 n (.int .i64 (c : Int)) (.int .i64 0) (.int .i64 1) (.int .i64 1) (.slice none 0 0) (.slice none 0 0) (.slice none 0 0) (.slice none 0 0) (.slice none 0 0)
  have fb : Fr (fun k => k = n + 1) Wa Wb := by rw [hWb]; exact set4_fr Wa (n + 1) (.slice none 0 0) (.slice none 0 0) (.slice none 0 0) (.slice none 0 0)
  have ra : Wa.heap[n]? = some (.cells #[.int .i64 (c : Int), .int .i64 0, .int .i64 1, .int .i64 1, .slice none 0 0, .slice none 0 0, .slice none 0 0, .slice none 0 0, .slice none 0 0] 36 (0, 0)) := by rw [hWa]; exact set9_row (.int .i64 (c : Int)) (.int .i64 0) (.int .i64 1) (.int .i64 1) (.slice none 0 0) (.slice none 0 0) (.slice none 0 0) (.slice none 0 0) (.slice none 0 0) P9.out
  have rb : Wb.heap[n + 1]? = some (.cells #[.slice none 0 0, .slice none 0 0, .slice none 0 0, .slice none 0 0] 42 (0, 0)) := by rw [hWb]; exact set4_row (.slice none 0 0) (.slice none 0 0) (.slice none 0 0) (.slice none 0 0) (fa.heapAt Q9.out (by omega))
  obtain ⟨Wf, hWf⟩ : ∃ Wf, Wf = Wb.drew := ⟨_, rfl⟩
  have rowS : Wf.heap[n]? = some (.cells #[.int .i64 (c : Int), .int .i64 0, .int .i64 1, .int .i64 1, .slice none 0 0, .slice none 0 0, .slice none 0 0, .slice none 0 0, .slice none 0 0] 36 (0, 0)) := by rw [hWf]; exact fb.heapAt ra (by omega)
  have rowV : Wf.heap[n + 1]? = some (.cells #[.slice none 0 0, .slice none 0 0, .slice none 0 0, .slice none 0 0] 42 (0, 0)) := by rw [hWf]; exact rb
  have hfr : Fr (fun k => k = n ∨ k = n + 1) w9 Wf := by rw [hWf]; exact ((fa.mono (fun _ _ e => .inl e)).trans (fb.mono (fun _ _ e => .inr e))).drew
  clear fa fb ra rb
  have o0 := (cell_of_row _ n 0 _ _ _ (rowS)).trans (show _ = some (.int .i64 (c : Int)) from rfl)
  have o1 := (cell_of_row _ n 1 _ _ _ (rowS)).trans (show _ = some (.int .i64 0) from rfl)
  have o2 := (cell_of_row _ n 2 _ _ _ (rowS)).trans (show _ = some (.int .i64 1) from rfl)
  have o3 := (cell_of_row _ n 3 _ _ _ (rowS)).trans (show _ = some (.int .i64 1) from rfl)
  have o4 := (cell_of_row _ n 4 _ _ _ (rowS)).trans (show _ = some (.slice none 0 0) from rfl)
  have o5 := (cell_of_row _ n 5 _ _ _ (rowS)).trans (show _ = some (.slice none 0 0) from rfl)
  have o6 := (cell_of_row _ n 6 _ _ _ (rowS)).trans (show _ = some (.slice none 0 0) from rfl)
  have o7 := (cell_of_row _ n 7 _ _ _ (rowS)).trans (show _ = some (.slice none 0 0) from rfl)
  have o8 := (cell_of_row _ n 8 _ _ _ (rowS)).trans (show _ = some (.slice none 0 0) from rfl)
  have u0 := (cell_of_row _ (n + 1) 0 _ _ _ (rowV)).trans (show _ = some (.slice none 0 0) from rfl)
  have u1 := (cell_of_row _ (n + 1) 1 _ _ _ (rowV)).trans (show _ = some (.slice none 0 0) from rfl)
  have u2 := (cell_of_row _ (n + 1) 2 _ _ _ (rowV)).trans (show _ = some (.slice none 0 0) from rfl)
  have u3 := (cell_of_row _ (n + 1) 3 _ _ _ (rowV)).trans (show _ = some (.slice none 0 0) from rfl)
  unfold set9 at hWa
  unfold set4 at hWb
  rw [← hWa, ← hWb, ← hWf]
  clear hWa hWb hWf
  refine bodyPost_ret (v := .tuple #[.agg #[.int .i64 (c : Int), .int .i64 0, .int .i64 1, .int .i64 1, .slice none 0 0, .slice none 0 0, .slice none 0 0, .slice none 0 0, .slice none 0 0], .agg #[.slice none 0 0, .slice none 0 0, .slice none 0 0, .slice none 0 0], .int .i64 0]) (by simp [results, Tryz.results60, go_sem, o0, o1, o2, o3, o4, o5, o6, o7, o8, u0, u1, u2, u3]) rfl ⟨rfl, ?_⟩
  have hnw := HN.out
  exact HB.out.trans ((F9.out.below (B := w.heap.size) HB.out.size (fun k hk e => by omega)).trans (hfr.below (B := w.heap.size) (by have := HB.out.size; have := F9.out.size; omega) (fun k hk e => by omega)))
end Go.Proofs.YteikdcobpfohcaaGreatDoor

/- ManifNames' table of manifests that may not be. Printed by gen/nsb.py. -/
import Derived.Test.YtljmekdilhphaaaGreatDoorNsE
namespace Go.Proofs.YtljmekdilhphaaaGreatDoor
open Go.RowKit Go.Sort

theorem segs_two (w : World) (x y x2 y2 : Int) : SegsAt (w.alloc (.cells #[.int .i64 x, .int .i64 y, .int .i64 x2, .int .i64 y2] 72)) (.slice (some ⟨w.heap.size, 0, none⟩) 2 2) [(x, y), (x2, y2)] :=
  ⟨_, 2, rfl, .inr ⟨w.heap.size, 0, rfl, fun i hi => by
    rw [World.cell?_alloc_at _ _ _ _ rfl, World.cell?_alloc_at _ _ _ _ rfl]
    have hi : i < 2 := hi
    match i, hi with
    | 0, _ => exact ⟨rfl, rfl⟩
    | 1, _ => exact ⟨rfl, rfl⟩⟩⟩

/-- A table of ten manifests, none of which may be. -/
def BadTab (W : World) (tb : Nat) : Prop := ∀ i : Nat, i < 10 → ∃ (g : Int) (a : Option Addr) (l : Segs) (c : Nat), W.cell? ⟨tb, i * 2, none⟩ = some (.int .i64 g) ∧ W.cell? ⟨tb, i * 2 + 1, none⟩ = some (.slice a l.length c) ∧ SegsAt W (.slice a l.length c) l ∧ l.length ≤ 65 ∧ mayB g l = false
theorem BadTab.pure {w w' : World} {tb : Nat} (h : BadTab w tb) (hb : Below w.heap.size w w') : BadTab w' tb := fun i hi => by
  obtain ⟨g, a, l, c, h1, h2, h3, h4, h5⟩ := h i hi
  exact ⟨g, a, l, c, (hb.cell (p := ⟨tb, i * 2, none⟩) (ltOfCell h1)).trans h1, (hb.cell (p := ⟨tb, i * 2 + 1, none⟩) (ltOfCell h2)).trans h2, h3.pure hb, h4, h5⟩
def moreL : Segs := (List.range 64).map (fun i : Nat => ((0 : Int), (i : Int))) ++ [(0, 99)]
theorem more_bad : mayB 0 moreL = false := by decide +kernel
theorem more_len : moreL.length = 65 := by decide +kernel

set_option maxRecDepth 100000 in
theorem tab_new (w0 : World) (a : Option Addr) (c : Nat) (h0 : SegsAt w0 (.slice a 65 c) moreL) :
    BadTab (((((((((w0.alloc (.cells #[.int .i64 0, .int .i64 0] 72)).alloc (.cells #[.int .i64 0, .int .i64 0] 72)).alloc (.cells #[.int .i64 1, .int .i64 0] 72)).alloc (.cells #[.int .i64 (-1), .int .i64 0] 72)).alloc (.cells #[.int .i64 0, .int .i64 (-1)] 72)).alloc (.cells #[.int .i64 0, .int .i64 1048577] 72)).alloc (.cells #[.int .i64 0, .int .i64 7, .int .i64 0, .int .i64 7] 72)).alloc (.cells #[.int .i64 0, .int .i64 8, .int .i64 0, .int .i64 7] 72)).alloc (.cells #[.int .i64 0, .slice none 0 0, .int .i64 0, .slice a 65 c, .int .i64 (-1), .slice (some ⟨w0.heap.size, 0, none⟩) 1 1, .int .i64 100000000, .slice (some ⟨w0.heap.size + 1, 0, none⟩) 1 1, .int .i64 0, .slice (some ⟨w0.heap.size + 1 + 1, 0, none⟩) 1 1, .int .i64 0, .slice (some ⟨w0.heap.size + 1 + 1 + 1, 0, none⟩) 1 1, .int .i64 0, .slice (some ⟨w0.heap.size + 1 + 1 + 1 + 1, 0, none⟩) 1 1, .int .i64 0, .slice (some ⟨w0.heap.size + 1 + 1 + 1 + 1 + 1, 0, none⟩) 1 1, .int .i64 0, .slice (some ⟨w0.heap.size + 1 + 1 + 1 + 1 + 1 + 1, 0, none⟩) 2 2, .int .i64 0, .slice (some ⟨w0.heap.size + 1 + 1 + 1 + 1 + 1 + 1 + 1, 0, none⟩) 2 2] 32)) (w0.heap.size + 8) ∧ Below w0.heap.size w0 (((((((((w0.alloc (.cells #[.int .i64 0, .int .i64 0] 72)).alloc (.cells #[.int .i64 0, .int .i64 0] 72)).alloc (.cells #[.int .i64 1, .int .i64 0] 72)).alloc (.cells #[.int .i64 (-1), .int .i64 0] 72)).alloc (.cells #[.int .i64 0, .int .i64 (-1)] 72)).alloc (.cells #[.int .i64 0, .int .i64 1048577] 72)).alloc (.cells #[.int .i64 0, .int .i64 7, .int .i64 0, .int .i64 7] 72)).alloc (.cells #[.int .i64 0, .int .i64 8, .int .i64 0, .int .i64 7] 72)).alloc (.cells #[.int .i64 0, .slice none 0 0, .int .i64 0, .slice a 65 c, .int .i64 (-1), .slice (some ⟨w0.heap.size, 0, none⟩) 1 1, .int .i64 100000000, .slice (some ⟨w0.heap.size + 1, 0, none⟩) 1 1, .int .i64 0, .slice (some ⟨w0.heap.size + 1 + 1, 0, none⟩) 1 1, .int .i64 0, .slice (some ⟨w0.heap.size + 1 + 1 + 1, 0, none⟩) 1 1, .int .i64 0, .slice (some ⟨w0.heap.size + 1 + 1 + 1 + 1, 0, none⟩) 1 1, .int .i64 0, .slice (some ⟨w0.heap.size + 1 + 1 + 1 + 1 + 1, 0, none⟩) 1 1, .int .i64 0, .slice (some ⟨w0.heap.size + 1 + 1 + 1 + 1 + 1 + 1, 0, none⟩) 2 2, .int .i64 0, .slice (some ⟨w0.heap.size + 1 + 1 + 1 + 1 + 1 + 1 + 1, 0, none⟩) 2 2] 32)) := by
  have b1 := box_bz w0 (.cells #[.int .i64 0, .int .i64 0] 72)
  have s1 := segs_one w0 0 0
  have z1 : (w0.alloc (.cells #[.int .i64 0, .int .i64 0] 72)).heap.size = w0.heap.size + 1 := by simp
  generalize (w0.alloc (.cells #[.int .i64 0, .int .i64 0] 72)) = w1 at *
  have b2 := box_bz w1 (.cells #[.int .i64 0, .int .i64 0] 72)
  have s2 := segs_one w1 0 0
  have z2 : (w1.alloc (.cells #[.int .i64 0, .int .i64 0] 72)).heap.size = w1.heap.size + 1 := by simp
  generalize (w1.alloc (.cells #[.int .i64 0, .int .i64 0] 72)) = w2 at *
  have b3 := box_bz w2 (.cells #[.int .i64 1, .int .i64 0] 72)
  have s3 := segs_one w2 1 0
  have z3 : (w2.alloc (.cells #[.int .i64 1, .int .i64 0] 72)).heap.size = w2.heap.size + 1 := by simp
  generalize (w2.alloc (.cells #[.int .i64 1, .int .i64 0] 72)) = w3 at *
  have b4 := box_bz w3 (.cells #[.int .i64 (-1), .int .i64 0] 72)
  have s4 := segs_one w3 (-1) 0
  have z4 : (w3.alloc (.cells #[.int .i64 (-1), .int .i64 0] 72)).heap.size = w3.heap.size + 1 := by simp
  generalize (w3.alloc (.cells #[.int .i64 (-1), .int .i64 0] 72)) = w4 at *
  have b5 := box_bz w4 (.cells #[.int .i64 0, .int .i64 (-1)] 72)
  have s5 := segs_one w4 0 (-1)
  have z5 : (w4.alloc (.cells #[.int .i64 0, .int .i64 (-1)] 72)).heap.size = w4.heap.size + 1 := by simp
  generalize (w4.alloc (.cells #[.int .i64 0, .int .i64 (-1)] 72)) = w5 at *
  have b6 := box_bz w5 (.cells #[.int .i64 0, .int .i64 1048577] 72)
  have s6 := segs_one w5 0 1048577
  have z6 : (w5.alloc (.cells #[.int .i64 0, .int .i64 1048577] 72)).heap.size = w5.heap.size + 1 := by simp
  generalize (w5.alloc (.cells #[.int .i64 0, .int .i64 1048577] 72)) = w6 at *
  have b7 := box_bz w6 (.cells #[.int .i64 0, .int .i64 7, .int .i64 0, .int .i64 7] 72)
  have s7 := segs_two w6 0 7 0 7
  have z7 : (w6.alloc (.cells #[.int .i64 0, .int .i64 7, .int .i64 0, .int .i64 7] 72)).heap.size = w6.heap.size + 1 := by simp
  generalize (w6.alloc (.cells #[.int .i64 0, .int .i64 7, .int .i64 0, .int .i64 7] 72)) = w7 at *
  have b8 := box_bz w7 (.cells #[.int .i64 0, .int .i64 8, .int .i64 0, .int .i64 7] 72)
  have s8 := segs_two w7 0 8 0 7
  have z8 : (w7.alloc (.cells #[.int .i64 0, .int .i64 8, .int .i64 0, .int .i64 7] 72)).heap.size = w7.heap.size + 1 := by simp
  generalize (w7.alloc (.cells #[.int .i64 0, .int .i64 8, .int .i64 0, .int .i64 7] 72)) = w8 at *
  have y1 : w1.heap.size = w0.heap.size + 1 := by omega
  have y2 : w2.heap.size = w0.heap.size + 1 + 1 := by omega
  have y3 : w3.heap.size = w0.heap.size + 1 + 1 + 1 := by omega
  have y4 : w4.heap.size = w0.heap.size + 1 + 1 + 1 + 1 := by omega
  have y5 : w5.heap.size = w0.heap.size + 1 + 1 + 1 + 1 + 1 := by omega
  have y6 : w6.heap.size = w0.heap.size + 1 + 1 + 1 + 1 + 1 + 1 := by omega
  have y7 : w7.heap.size = w0.heap.size + 1 + 1 + 1 + 1 + 1 + 1 + 1 := by omega
  have y8 : w8.heap.size = w0.heap.size + 1 + 1 + 1 + 1 + 1 + 1 + 1 + 1 := by omega
  have b9 := box_bz w8 (.cells #[.int .i64 0, .slice none 0 0, .int .i64 0, .slice a 65 c, .int .i64 (-1), .slice (some ⟨w0.heap.size, 0, none⟩) 1 1, .int .i64 100000000, .slice (some ⟨w0.heap.size + 1, 0, none⟩) 1 1, .int .i64 0, .slice (some ⟨w0.heap.size + 1 + 1, 0, none⟩) 1 1, .int .i64 0, .slice (some ⟨w0.heap.size + 1 + 1 + 1, 0, none⟩) 1 1, .int .i64 0, .slice (some ⟨w0.heap.size + 1 + 1 + 1 + 1, 0, none⟩) 1 1, .int .i64 0, .slice (some ⟨w0.heap.size + 1 + 1 + 1 + 1 + 1, 0, none⟩) 1 1, .int .i64 0, .slice (some ⟨w0.heap.size + 1 + 1 + 1 + 1 + 1 + 1, 0, none⟩) 2 2, .int .i64 0, .slice (some ⟨w0.heap.size + 1 + 1 + 1 + 1 + 1 + 1 + 1, 0, none⟩) 2 2] 32)
  have ht : ∀ j : Nat, (w8.alloc (.cells #[.int .i64 0, .slice none 0 0, .int .i64 0, .slice a 65 c, .int .i64 (-1), .slice (some ⟨w0.heap.size, 0, none⟩) 1 1, .int .i64 100000000, .slice (some ⟨w0.heap.size + 1, 0, none⟩) 1 1, .int .i64 0, .slice (some ⟨w0.heap.size + 1 + 1, 0, none⟩) 1 1, .int .i64 0, .slice (some ⟨w0.heap.size + 1 + 1 + 1, 0, none⟩) 1 1, .int .i64 0, .slice (some ⟨w0.heap.size + 1 + 1 + 1 + 1, 0, none⟩) 1 1, .int .i64 0, .slice (some ⟨w0.heap.size + 1 + 1 + 1 + 1 + 1, 0, none⟩) 1 1, .int .i64 0, .slice (some ⟨w0.heap.size + 1 + 1 + 1 + 1 + 1 + 1, 0, none⟩) 2 2, .int .i64 0, .slice (some ⟨w0.heap.size + 1 + 1 + 1 + 1 + 1 + 1 + 1, 0, none⟩) 2 2] 32)).cell? ⟨w0.heap.size + 8, j, none⟩ = (#[.int .i64 0, .slice none 0 0, .int .i64 0, .slice a 65 c, .int .i64 (-1), .slice (some ⟨w0.heap.size, 0, none⟩) 1 1, .int .i64 100000000, .slice (some ⟨w0.heap.size + 1, 0, none⟩) 1 1, .int .i64 0, .slice (some ⟨w0.heap.size + 1 + 1, 0, none⟩) 1 1, .int .i64 0, .slice (some ⟨w0.heap.size + 1 + 1 + 1, 0, none⟩) 1 1, .int .i64 0, .slice (some ⟨w0.heap.size + 1 + 1 + 1 + 1, 0, none⟩) 1 1, .int .i64 0, .slice (some ⟨w0.heap.size + 1 + 1 + 1 + 1 + 1, 0, none⟩) 1 1, .int .i64 0, .slice (some ⟨w0.heap.size + 1 + 1 + 1 + 1 + 1 + 1, 0, none⟩) 2 2, .int .i64 0, .slice (some ⟨w0.heap.size + 1 + 1 + 1 + 1 + 1 + 1 + 1, 0, none⟩) 2 2] : Array Value)[j]? := fun j => by rw [World.cell?_alloc_at _ _ _ _ (by omega)]
  generalize (w8.alloc (.cells #[.int .i64 0, .slice none 0 0, .int .i64 0, .slice a 65 c, .int .i64 (-1), .slice (some ⟨w0.heap.size, 0, none⟩) 1 1, .int .i64 100000000, .slice (some ⟨w0.heap.size + 1, 0, none⟩) 1 1, .int .i64 0, .slice (some ⟨w0.heap.size + 1 + 1, 0, none⟩) 1 1, .int .i64 0, .slice (some ⟨w0.heap.size + 1 + 1 + 1, 0, none⟩) 1 1, .int .i64 0, .slice (some ⟨w0.heap.size + 1 + 1 + 1 + 1, 0, none⟩) 1 1, .int .i64 0, .slice (some ⟨w0.heap.size + 1 + 1 + 1 + 1 + 1, 0, none⟩) 1 1, .int .i64 0, .slice (some ⟨w0.heap.size + 1 + 1 + 1 + 1 + 1 + 1, 0, none⟩) 2 2, .int .i64 0, .slice (some ⟨w0.heap.size + 1 + 1 + 1 + 1 + 1 + 1 + 1, 0, none⟩) 2 2] 32)) = w9 at *
  refine ⟨fun i hi => ?_, (b1.trans ((b2.trans ((b3.trans ((b4.trans ((b5.trans ((b6.trans ((b7.trans ((b8.trans (b9.mono b8.size)).mono b7.size)).mono b6.size)).mono b5.size)).mono b4.size)).mono b3.size)).mono b2.size)).mono b1.size))⟩
  match i, hi with
  | 0, _ => exact ⟨0, none, [], 0, (ht 0).trans rfl, (ht 1).trans rfl, ⟨none, 0, rfl, .inl rfl⟩, by decide, by decide⟩
  | 1, _ => exact ⟨0, a, moreL, c, (ht 2).trans rfl, (ht 3).trans rfl, h0.pure (b1.trans ((b2.trans ((b3.trans ((b4.trans ((b5.trans ((b6.trans ((b7.trans ((b8.trans (b9.mono b8.size)).mono b7.size)).mono b6.size)).mono b5.size)).mono b4.size)).mono b3.size)).mono b2.size)).mono b1.size)), by decide, more_bad⟩
  | 2, _ => exact ⟨(-1), some ⟨w0.heap.size, 0, none⟩, [(0, 0)], 1, (ht 4).trans rfl, (ht 5).trans rfl, show SegsAt _ _ _ from (s1.pure (b2.trans ((b3.trans ((b4.trans ((b5.trans ((b6.trans ((b7.trans ((b8.trans (b9.mono b8.size)).mono b7.size)).mono b6.size)).mono b5.size)).mono b4.size)).mono b3.size)).mono b2.size))), by decide, by decide⟩
  | 3, _ => exact ⟨100000000, some ⟨w0.heap.size + 1, 0, none⟩, [(0, 0)], 1, (ht 6).trans rfl, (ht 7).trans rfl, y1 ▸ (s2.pure (b3.trans ((b4.trans ((b5.trans ((b6.trans ((b7.trans ((b8.trans (b9.mono b8.size)).mono b7.size)).mono b6.size)).mono b5.size)).mono b4.size)).mono b3.size))), by decide, by decide⟩
  | 4, _ => exact ⟨0, some ⟨w0.heap.size + 1 + 1, 0, none⟩, [(1, 0)], 1, (ht 8).trans rfl, (ht 9).trans rfl, y2 ▸ (s3.pure (b4.trans ((b5.trans ((b6.trans ((b7.trans ((b8.trans (b9.mono b8.size)).mono b7.size)).mono b6.size)).mono b5.size)).mono b4.size))), by decide, by decide⟩
  | 5, _ => exact ⟨0, some ⟨w0.heap.size + 1 + 1 + 1, 0, none⟩, [((-1), 0)], 1, (ht 10).trans rfl, (ht 11).trans rfl, y3 ▸ (s4.pure (b5.trans ((b6.trans ((b7.trans ((b8.trans (b9.mono b8.size)).mono b7.size)).mono b6.size)).mono b5.size))), by decide, by decide⟩
  | 6, _ => exact ⟨0, some ⟨w0.heap.size + 1 + 1 + 1 + 1, 0, none⟩, [(0, (-1))], 1, (ht 12).trans rfl, (ht 13).trans rfl, y4 ▸ (s5.pure (b6.trans ((b7.trans ((b8.trans (b9.mono b8.size)).mono b7.size)).mono b6.size))), by decide, by decide⟩
  | 7, _ => exact ⟨0, some ⟨w0.heap.size + 1 + 1 + 1 + 1 + 1, 0, none⟩, [(0, 1048577)], 1, (ht 14).trans rfl, (ht 15).trans rfl, y5 ▸ (s6.pure (b7.trans ((b8.trans (b9.mono b8.size)).mono b7.size))), by decide, by decide⟩
  | 8, _ => exact ⟨0, some ⟨w0.heap.size + 1 + 1 + 1 + 1 + 1 + 1, 0, none⟩, [(0, 7), (0, 7)], 2, (ht 16).trans rfl, (ht 17).trans rfl, y6 ▸ (s7.pure (b8.trans (b9.mono b8.size))), by decide, by decide⟩
  | 9, _ => exact ⟨0, some ⟨w0.heap.size + 1 + 1 + 1 + 1 + 1 + 1 + 1, 0, none⟩, [(0, 8), (0, 7)], 2, (ht 18).trans rfl, (ht 19).trans rfl, y7 ▸ (s8.pure b9), by decide, by decide⟩

end Go.Proofs.YtljmekdilhphaaaGreatDoor

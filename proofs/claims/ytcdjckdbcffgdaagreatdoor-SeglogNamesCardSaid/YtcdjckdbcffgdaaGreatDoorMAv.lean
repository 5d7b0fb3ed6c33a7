/- The walks of index.mark, Add, Next, First, Good, Build. -/
import Derived.Test.YtcdjckdbcffgdaaGreatDoorMAu
import Derived.Deep.QuietTactic
import Derived.BigQuiet
import Derived.Deep.RegionLawGrows
import Derived.Test.YtcdjckdbcffgdaaGreatDoorMAm
namespace Go.Proofs.YtcdjckdbcffgdaaGreatDoor
open Go.RowKit

theorem IsIx.ne {w : World} {x ev q nx g : Nat} {sv : Value} {l : Segs} (h : IsIx w x ev q nx g sv l) : sv.ownBlock ≠ some x := by
  intro e
  rcases h.own.2 with ⟨rfl, _⟩ | ⟨g2, cp, cu, rfl, _, hg2, _⟩
  · cases e
  · obtain rfl := Option.some.inj e
    have := h.cell.symm.trans hg2
    cases this
def markL (ev q nx a : Nat) (l : Segs) : Segs := if (nx - q) % ev = 0 then l ++ [((nx : Int), (a : Int))] else l
/-- What an index is behind a mark. -/
def MarkPost (x ev q nx g : Nat) (sv : Value) (l : Segs) (w : World) (e : Ending) (w' : World) : Prop :=
  e = .returned (.tuple #[]) ∧ ∃ sv', IsIx w' x ev q nx g sv' l ∧ Went w sv sv' ∧ Fr (fun k => k = x) w w'

set_option maxRecDepth 100000 in
set_option maxHeartbeats 4000000 in
theorem ix_mark (w : World) (x ev q nx g a : Nat) (sv : Value) (l : Segs) (h : IsIx w x ev q nx g sv l) (hev : 1 ≤ ev) (hev2 : ev ≤ 64) (hq : q ≤ nx) (hnx : nx ≤ 2097152) (hl : l.length ≤ 2097152) :
    Calls Tryz.prog 100 #[.pointer (some ⟨x, 0, none⟩), .int .i64 (a : Int)] w fun e w' => MarkPost x ev q (nx + 1) g sv (markL ev q nx a l) w e w' := by
  obtain ⟨c0, c1, c2, c3, c4⟩ := h.cs
  have z := h.fz
  obtain ⟨a0, n0, k0, rfl⟩ := own_shape h.own
  have hn0 : n0 = l.length := by
    rcases h.own.2 with ⟨e, h0⟩ | ⟨_, _, _, e, _⟩
    · cases e; exact h0.symm
    · cases e; rfl
  have hk0 : n0 ≤ k0 := by
    rcases h.own.2 with ⟨e, h0⟩ | ⟨_, _, _, e, _, _, hc, _⟩
    · cases e; exact Nat.le_refl _
    · cases e; exact hc
  have hnone : a0 = none → n0 = 0 := fun e => by
    rcases h.own.2 with ⟨e2, h0⟩ | ⟨_, _, _, e2, _⟩
    · cases e2; rfl
    · cases e2; cases e
  have holds : ∀ (b : Addr), a0 = some b → ∀ j u, (segCells l)[j]? = some u → w.cell? (b.add j) = some u := fun b e => by
    rcases h.own.2 with ⟨e2, h0⟩ | ⟨g, _, _, e2, _⟩
    · cases e2; cases e
    · cases e2; cases e; exact h.own.cells (g := g) rfl
  subst hn0
  have H := Lib.hid h
  have HN := Lib.hid hnone
  have HO := Lib.hid holds
  have hxl := h.lt
  clear h hnone holds
  have e1 : IntKind.i64.wrap ((nx : Int) - (q : Int)) = ((nx - q : Nat) : Int) := by rw [IntWalk.i64_in _ (by omega)]; omega
  by_cases hr : (nx - q) % ev = 0
  · have hrb : (((nx - q : Nat) : Int) % (ev : Int) == 0) = true := by rw [beq_iff_eq]; omega
    have HL := Lib.hid (show markL ev q nx a l = l ++ [((nx : Int), (a : Int))] from by unfold markL; rw [if_pos hr])
    clear hr
    obtain ⟨i0, hi, hz0, hz1, hz2⟩ := info_parts Tryz.infoMark
    have HI := Lib.hid hi
    have HZ0 := Lib.hid hz0
    have HZ1 := Lib.hid hz1
    have HZ2 := Lib.hid hz2
    clear hi hz0 hz1 hz2
    go_enter Tryz.func100, Tryz.ntmps100
    go_wp2
    go_quiet (fail)
    obtain ⟨w1, hw1⟩ : ∃ w1, w1 = w.drewN nq := ⟨_, rfl⟩
    have hc : ∀ p, w1.cell? p = w.cell? p := fun p => by rw [hw1]; simp
    have hf : ∀ p, w1.frozen? p = w.frozen? p := fun p => by rw [hw1]; simp
    rw [← hc] at c0 c1 c2 c3 c4
    have z1 : ∀ j : Nat, w1.frozen? ⟨x, j, none⟩ = false := fun j => (hf _).trans (z j)
    have hs1 : w1.heap.size = w.heap.size := by rw [hw1]; rfl
    have hx1 : x < w1.heap.size := by omega
    rw [← hw1]
    have HS1 := Lib.hid hs1
    have HX1 := Lib.hid (show w1.heap[x]? = some (.cells #[.int .i64 (ev : Int), .int .i64 (q : Int), .int .i64 (nx : Int), .int .i64 (g : Int), .slice a0 l.length k0] 147 (0, 0)) from by rw [hw1]; exact H.out.cell)
    have HW1 := Lib.hid hw1
    have HC := Lib.hid hc
    clear hw1 hc hf z e1 hrb hs1 c0 c1 c3 hev hev2 hq
    clear hxl
    go_wp2
    refine wp_region_z (S := (fun w' : World => w'.cell? ⟨x, 4, none⟩ = some (.slice a0 l.length k0) ∧ w'.cell? ⟨x, 2, none⟩ = some (.int .i64 (nx : Int)))) 26 (by kernel_rfl) ?_
    have hHeld : (fun w' : World => w'.cell? ⟨x, 4, none⟩ = some (.slice a0 l.length k0) ∧ w'.cell? ⟨x, 2, none⟩ = some (.int .i64 (nx : Int))) w1.drew := ⟨c4, c2⟩
    refine wpAnyZ_take (i := 0) (oi := _) (v := ?_) (by simp only [List.getElem?_toArray, List.getElem?_cons_zero]; rfl) (by kernel_rfl) (by kernel_rfl) (by kernel_rfl) (by kernel_rfl) (by exact fun _ _ _ h => h) (Or.inl ⟨by rfl, ?_⟩) (by assumption) ?_
    rotate_left
    · (intro w hSw; (try dsimp only at hSw); go_simp; try with_reducible rfl)
    simp only [Act.put, List.setIfInBounds_toArray, List.set_cons_zero, List.set_cons_succ]
    refine wpAnyZ_take (i := 1) (oi := _) (v := ?_) (by simp only [List.getElem?_toArray, List.getElem?_cons_succ, List.getElem?_cons_zero]; rfl) (by kernel_rfl) (by kernel_rfl) (by kernel_rfl) (by kernel_rfl) (by exact fun _ _ _ h => h) (Or.inl ⟨by rfl, ?_⟩) (by assumption) ?_
    rotate_left
    · (intro w hSw; (try dsimp only at hSw); go_simp; try with_reducible rfl)
    simp only [Act.put, List.setIfInBounds_toArray, List.set_cons_zero, List.set_cons_succ]
    refine wpAnyZ_take (i := 2) (oi := _) (v := ?_) (by simp only [List.getElem?_toArray, List.getElem?_cons_succ, List.getElem?_cons_zero]; rfl) (by kernel_rfl) (by kernel_rfl) (by kernel_rfl) (by kernel_rfl) (by exact fun _ _ _ h => h) (Or.inl ⟨by rfl, ?_⟩) (by assumption) ?_
    rotate_left
    · (intro w hSw; (try dsimp only at hSw); go_simp; try with_reducible rfl)
    simp only [Act.put, List.setIfInBounds_toArray, List.set_cons_zero, List.set_cons_succ]
    refine wpAnyZ_take (i := 3) (oi := _) (v := ?_) (by simp only [List.getElem?_toArray, List.getElem?_cons_succ, List.getElem?_cons_zero]; rfl) (by kernel_rfl) (by kernel_rfl) (by kernel_rfl) (by kernel_rfl) (by exact fun _ _ _ h => h) (Or.inl ⟨by rfl, ?_⟩) (by assumption) ?_
    rotate_left
    · (intro w hSw; (try dsimp only at hSw); go_simp; try with_reducible rfl)
    simp only [Act.put, List.setIfInBounds_toArray, List.set_cons_zero, List.set_cons_succ]
    refine wpAnyZ_take (i := 4) (oi := _) (v := ?_) (by simp only [List.getElem?_toArray, List.getElem?_cons_succ, List.getElem?_cons_zero]; rfl) (by kernel_rfl) (by kernel_rfl) (by kernel_rfl) (by kernel_rfl) (by exact fun _ _ _ h => h) (Or.inl ⟨by rfl, ?_⟩) (by assumption) ?_
    rotate_left
    · (intro w hSw; (try dsimp only at hSw); go_simp; try with_reducible rfl)
    simp only [Act.put, List.setIfInBounds_toArray, List.set_cons_zero, List.set_cons_succ]
    refine wpAnyZ_take (i := 5) (oi := _) (v := ?_) (by simp only [List.getElem?_toArray, List.getElem?_cons_succ, List.getElem?_cons_zero]; rfl) (by kernel_rfl) (by kernel_rfl) (by kernel_rfl) (by kernel_rfl) (by exact fun _ _ _ h => h) (Or.inl ⟨by rfl, ?_⟩) (by assumption) ?_
    rotate_left
    · (intro w hSw; (try dsimp only at hSw); go_simp; try with_reducible rfl)
    simp only [Act.put, List.setIfInBounds_toArray, List.set_cons_zero, List.set_cons_succ]
    refine wpAnyZ_take (i := 6) (oi := _) (v := ?_) (by simp only [List.getElem?_toArray, List.getElem?_cons_succ, List.getElem?_cons_zero]; rfl) (by kernel_rfl) (by kernel_rfl) (by kernel_rfl) (by kernel_rfl) (by exact fun _ _ _ h => h) (Or.inl ⟨by rfl, ?_⟩) (by assumption) ?_
    rotate_left
    · (intro w hSw; (try dsimp only at hSw); go_simp; try with_reducible rfl)
    simp only [Act.put, List.setIfInBounds_toArray, List.set_cons_zero, List.set_cons_succ]
    refine wpAnyZ_take (i := 7) (oi := _) (v := ?_) (by simp only [List.getElem?_toArray, List.getElem?_cons_succ, List.getElem?_cons_zero]; rfl) (by kernel_rfl) (by kernel_rfl) (by kernel_rfl) (by kernel_rfl) (by exact fun _ _ _ h => h) (Or.inl ⟨by rfl, ?_⟩) (by assumption) ?_
    rotate_left
    · (intro w hSw; (try dsimp only at hSw); go_simp; try with_reducible rfl)
    simp only [Act.put, List.setIfInBounds_toArray, List.set_cons_zero, List.set_cons_succ]
    refine wpAnyZ_take (i := 8) (oi := _) (v := ?_) (by simp only [List.getElem?_toArray, List.getElem?_cons_succ, List.getElem?_cons_zero]; rfl) (by kernel_rfl) (by kernel_rfl) (by kernel_rfl) (by kernel_rfl) (by exact fun _ _ _ h => h) (Or.inl ⟨by rfl, ?_⟩) (by assumption) ?_
    rotate_left
    · (intro w hSw; (try dsimp only at hSw); go_simp; try with_reducible rfl)
    simp only [Act.put, List.setIfInBounds_toArray, List.set_cons_zero, List.set_cons_succ]
    refine wpAnyZ_take (i := 9) (oi := _) (v := ?_) (by simp only [List.getElem?_toArray, List.getElem?_cons_succ, List.getElem?_cons_zero]; rfl) (by kernel_rfl) (by kernel_rfl) (by kernel_rfl) (by kernel_rfl) (by exact fun _ _ _ h => h) (Or.inl ⟨by rfl, ?_⟩) (by assumption) ?_
    rotate_left
    · (intro w hSw; (try dsimp only at hSw); go_simp; try with_reducible rfl)
    simp only [Act.put, List.setIfInBounds_toArray, List.set_cons_zero, List.set_cons_succ]
    refine wpAnyZ_take (i := 10) (oi := _) (v := ?_) (by simp only [List.getElem?_toArray, List.getElem?_cons_succ, List.getElem?_cons_zero]; rfl) (by kernel_rfl) (by kernel_rfl) (by kernel_rfl) (by kernel_rfl) (by exact fun _ _ _ h => h) (Or.inl ⟨by rfl, ?_⟩) (by assumption) ?_
    rotate_left
    · (intro w hSw; (try dsimp only at hSw); go_simp; try with_reducible rfl)
    simp only [Act.put, List.setIfInBounds_toArray, List.set_cons_zero, List.set_cons_succ]
    refine wpAnyZ_take (i := 11) (oi := _) (v := ?_) (by simp only [List.getElem?_toArray, List.getElem?_cons_succ, List.getElem?_cons_zero]; rfl) (by kernel_rfl) (by kernel_rfl) (by kernel_rfl) (by kernel_rfl) (by exact fun _ _ _ h => h) (Or.inl ⟨by rfl, ?_⟩) (by assumption) ?_
    rotate_left
    · (intro w hSw; (try dsimp only at hSw); go_simp; try with_reducible rfl)
    simp only [Act.put, List.setIfInBounds_toArray, List.set_cons_zero, List.set_cons_succ]
    refine wpAnyZ_take (i := 12) (oi := _) (v := ?_) (by simp only [List.getElem?_toArray, List.getElem?_cons_succ, List.getElem?_cons_zero]; rfl) (by kernel_rfl) (by kernel_rfl) (by kernel_rfl) (by kernel_rfl) (by exact fun _ _ _ h => h) (Or.inl ⟨by rfl, ?_⟩) (by assumption) ?_
    rotate_left
    · (intro w hSw; (try dsimp only at hSw); go_simp; try with_reducible rfl)
    simp only [Act.put, List.setIfInBounds_toArray, List.set_cons_zero, List.set_cons_succ]
    refine wpAnyZ_take (i := 13) (oi := _) (v := ?_) (by simp only [List.getElem?_toArray, List.getElem?_cons_succ, List.getElem?_cons_zero]; rfl) (by kernel_rfl) (by kernel_rfl) (by kernel_rfl) (by kernel_rfl) (by exact fun _ _ _ h => h) (Or.inl ⟨by rfl, ?_⟩) (by assumption) ?_
    rotate_left
    · (intro w hSw; (try dsimp only at hSw); go_simp; try with_reducible rfl)
    simp only [Act.put, List.setIfInBounds_toArray, List.set_cons_zero, List.set_cons_succ]
    refine wpAnyZ_take (i := 14) (oi := _) (v := ?_) (by simp only [List.getElem?_toArray, List.getElem?_cons_succ, List.getElem?_cons_zero]; rfl) (by kernel_rfl) (by kernel_rfl) (by kernel_rfl) (by kernel_rfl) (by exact fun _ _ _ h => h) (Or.inl ⟨by rfl, ?_⟩) (by assumption) ?_
    rotate_left
    · (intro w hSw; (try dsimp only at hSw); go_simp; try with_reducible rfl)
    simp only [Act.put, List.setIfInBounds_toArray, List.set_cons_zero, List.set_cons_succ]
    refine wpAnyZ_take (i := 15) (oi := _) (v := ?_) (by simp only [List.getElem?_toArray, List.getElem?_cons_succ, List.getElem?_cons_zero]; rfl) (by kernel_rfl) (by kernel_rfl) (by kernel_rfl) (by kernel_rfl) (by exact fun _ _ _ h => h) (Or.inl ⟨by rfl, ?_⟩) (by assumption) ?_
    rotate_left
    · (intro w hSw; (try dsimp only at hSw); go_simp; try with_reducible rfl)
    simp only [Act.put, List.setIfInBounds_toArray, List.set_cons_zero, List.set_cons_succ]
    refine wpAnyZ_take (i := 16) (oi := _) (v := ?_) (by simp only [List.getElem?_toArray, List.getElem?_cons_succ, List.getElem?_cons_zero]; rfl) (by kernel_rfl) (by kernel_rfl) (by kernel_rfl) (by kernel_rfl) (by exact fun _ _ _ h => h) (Or.inl ⟨by rfl, ?_⟩) (by assumption) ?_
    rotate_left
    · (intro w hSw; (try dsimp only at hSw); go_simp; try with_reducible rfl)
    simp only [Act.put, List.setIfInBounds_toArray, List.set_cons_zero, List.set_cons_succ]
    refine wpAnyZ_take (i := 17) (oi := _) (v := ?_) (by simp only [List.getElem?_toArray, List.getElem?_cons_succ, List.getElem?_cons_zero]; rfl) (by kernel_rfl) (by kernel_rfl) (by kernel_rfl) (by kernel_rfl) (by exact fun _ _ _ h => h) (Or.inl ⟨by rfl, ?_⟩) (by assumption) ?_
    rotate_left
    · (intro w hSw; (try dsimp only at hSw); go_simp; try with_reducible rfl)
    simp only [Act.put, List.setIfInBounds_toArray, List.set_cons_zero, List.set_cons_succ]
    refine wpAnyZ_take (i := 18) (oi := _) (v := ?_) (by simp only [List.getElem?_toArray, List.getElem?_cons_succ, List.getElem?_cons_zero]; rfl) (by kernel_rfl) (by kernel_rfl) (by kernel_rfl) (by kernel_rfl) (by exact fun _ _ _ h => h) (Or.inl ⟨by rfl, ?_⟩) (by assumption) ?_
    rotate_left
    · (intro w hSw; (try dsimp only at hSw); go_simp; try with_reducible rfl)
    simp only [Act.put, List.setIfInBounds_toArray, List.set_cons_zero, List.set_cons_succ]
    refine wpAnyZ_take (i := 19) (oi := _) (v := ?_) (by simp only [List.getElem?_toArray, List.getElem?_cons_succ, List.getElem?_cons_zero]; rfl) (by kernel_rfl) (by kernel_rfl) (by kernel_rfl) (by kernel_rfl) (by exact fun _ _ _ h => h) (Or.inl ⟨by rfl, ?_⟩) (by assumption) ?_
    rotate_left
    · (intro w hSw; (try dsimp only at hSw); go_simp; try with_reducible rfl)
    simp only [Act.put, List.setIfInBounds_toArray, List.set_cons_zero, List.set_cons_succ]
    refine wpAnyZ_take (i := 20) (oi := _) (v := ?_) (by simp only [List.getElem?_toArray, List.getElem?_cons_succ, List.getElem?_cons_zero]; rfl) (by kernel_rfl) (by kernel_rfl) (by kernel_rfl) (by kernel_rfl) (by exact fun _ _ _ h => h) (Or.inl ⟨by rfl, ?_⟩) (by assumption) ?_
    rotate_left
    · (intro w hSw; (try dsimp only at hSw); go_simp; try with_reducible rfl)
    simp only [Act.put, List.setIfInBounds_toArray, List.set_cons_zero, List.set_cons_succ]
    refine wpAnyZ_take (i := 21) (oi := _) (v := ?_) (by simp only [List.getElem?_toArray, List.getElem?_cons_succ, List.getElem?_cons_zero]; rfl) (by kernel_rfl) (by kernel_rfl) (by kernel_rfl) (by kernel_rfl) (by exact fun _ _ _ h => h) (Or.inl ⟨by rfl, ?_⟩) (by assumption) ?_
    rotate_left
    · (intro w hSw; (try dsimp only at hSw); go_simp; try with_reducible rfl)
    simp only [Act.put, List.setIfInBounds_toArray, List.set_cons_zero, List.set_cons_succ]
    refine wpAnyZ_one (i := 22) (o := _) (by simp only [List.getElem?_toArray, List.getElem?_cons_succ, List.getElem?_cons_zero]; rfl) (by kernel_rfl) (fun K hK => ?_)
    go_simp
    refine hK.out _ _ (fun _ => ⟨cell_allocX _ c4, cell_allocX _ c2⟩) ?_
    clear hK K
    (try simp only [Act.put, List.setIfInBounds_toArray, List.set_cons_zero, List.set_cons_succ])
    refine wpAnyZ_one (i := 23) (o := _) (by simp only [List.getElem?_toArray, List.getElem?_cons_succ, List.getElem?_cons_zero]; rfl) (by kernel_rfl) (fun K hK => ?_)
    refine step_append_grows (by rfl) _ _ _ (by rfl) 190 i0 _ 2 16 Tryz.underlying145 HI.out HZ0.out HZ1.out HZ2.out rfl (by omega) a0 l.length l.length (segCells l) (by rfl) (fun e => ⟨HN.out e, HN.out e⟩) (segCells_length l) (fun b e j u hu => by first | (rw [World.cell?_drew]; exact cell_allocX _ ((HC.out _).trans (HO.out b e j u hu))) | exact cell_allocX _ ((HC.out _).trans (HO.out b e j u hu))) ⟨w1.heap.size, 0, none⟩ 1 1 [.int .i64 (nx : Int), .int .i64 (a : Int)] (by rfl) (by rfl) (fun j u hu => by first | (rw [World.cell?_drew]; exact cells_new rfl rfl j u hu) | exact cells_new rfl rfl j u hu) (by simp [Value.oneCell']) (by omega) (by unfold maxLen; omega) (by omega) ?_
    intro v' w2 hown2 hgr2
    obtain ⟨g', cap', rfl⟩ := ownsRow_succ hown2
    have HO2 := Lib.hid hown2
    have HG2 := Lib.hid hgr2
    have hb2 : w2.heap[x]? = _ := (hgr2.block x (show x < (w1.alloc _).heap.size by rw [World.size_alloc]; omega) (by simp)).trans ((Below.heap_alloc w1 _ x hx1).trans HX1.out)
    have HB2 := Lib.hid hb2
    have d4 : w2.cell? ⟨x, 4, none⟩ = some (.slice a0 l.length k0) := (cell_of_row _ _ _ _ _ _ hb2).trans rfl
    have d2 : w2.cell? ⟨x, 2, none⟩ = some (.int .i64 (nx : Int)) := (cell_of_row _ _ _ _ _ _ hb2).trans rfl
    have y4 : ∀ j : Nat, w2.frozen? ⟨x, j, none⟩ = false := fun j => frozen_of_row _ _ _ _ _ hb2
    clear hb2 hown2 hgr2 hHeld
    refine hK.out _ _ (fun _ => ⟨d4, d2⟩) ?_
    clear hK K
    (try simp only [Act.put, List.setIfInBounds_toArray, List.set_cons_zero, List.set_cons_succ])
    refine wpAnyZ_one (i := 24) (o := _) (by simp only [List.getElem?_toArray, List.getElem?_cons_succ, List.getElem?_cons_zero]; rfl) (by kernel_rfl) (fun K hK => ?_)
    go_simp
    refine hK.out _ _ (fun _ => ⟨d4, d2⟩) ?_
    clear hK K
    (try simp only [Act.put, List.setIfInBounds_toArray, List.set_cons_zero, List.set_cons_succ])
    refine wpAnyZ_one (i := 25) (o := _) (by simp only [List.getElem?_toArray, List.getElem?_cons_succ, List.getElem?_cons_zero]; rfl) (by kernel_rfl) (fun K hK => ?_)
    go_simp
    refine hK.out _ _ (fun _ => ⟨d4, d2⟩) ?_
    clear hK K
    (try simp only [Act.put, List.setIfInBounds_toArray, List.set_cons_zero, List.set_cons_succ])
    refine wpAnyZ_one (i := 26) (o := _) (by simp only [List.getElem?_toArray, List.getElem?_cons_succ, List.getElem?_cons_zero]; rfl) (by kernel_rfl) (fun K hK => ?_)
    go_simp
    refine hK.out _ _ (fun h => absurd rfl h) ?_
    clear hK K
    (try simp only [Act.put, List.setIfInBounds_toArray, List.set_cons_zero, List.set_cons_succ])
    refine wpAnyZ_done (by kernel_rfl) ?_ _
    go_wp2
    go_end0
    have hg : w1.heap.size ≤ g' := by have := own_geX HO2.out rfl; exact Nat.le_trans (by rw [show (w1.alloc _).drew.heap.size = (w1.alloc _).heap.size from rfl, World.size_alloc]; omega) this
    have hgx : g' ≠ x := by omega
    have hf : Fr (fun k => k = x) w ((w2.setCell ⟨x, 4, none⟩ (.slice (some ⟨g', 0, none⟩) (l.length + 1) cap')).setCell ⟨x, 2, none⟩ (.int .i64 ((nx : Int) + 1))) := by
      have h1 : Fr (fun k => k = x) w w1 := by rw [HW1.out]; exact (Fr.refl _ _).drewN nq
      exact ((((h1.alloc _).drew).grown HG2.out (fun k _ e => by cases e)).setCell ⟨x, 4, none⟩ (fun _ => rfl) _).setCell ⟨x, 2, none⟩ (fun _ => rfl) _
    refine ⟨rfl, .slice (some ⟨g', 0, none⟩) (l.length + 1) cap', ⟨?_, ?_⟩, .inr ⟨g', rfl, by rw [← HS1.out]; exact hg⟩, hf⟩
    · exact (heap_setCell_same _ x 2 _ _ _ (heap_setCell_same w2 x 4 _ _ _ HB2.out))
    · rw [HL.out, segCells_snoc, List.length_append, List.length_singleton]
      exact ownsRow_base (ownsRow_setCell_other (ownsRow_setCell_other HO2.out (by intro e; have e2 := Option.some.inj e; simp at e2; omega) _) (by intro e; have e2 := Option.some.inj e; simp at e2; omega) _) (fun _ _ => Nat.zero_le _)
  · have hrb : (((nx - q : Nat) : Int) % (ev : Int) == 0) = false := by rw [beq_eq_false_iff_ne]; omega
    have HL := Lib.hid (show markL ev q nx a l = l from by unfold markL; rw [if_neg hr])
    clear hr
    go_enter Tryz.func100, Tryz.ntmps100
    go_wp2
    go_quiet (fail)
    obtain ⟨w1, hw1⟩ : ∃ w1, w1 = w.drewN nq := ⟨_, rfl⟩
    have HX1 := Lib.hid (show w1.heap[x]? = some (.cells #[.int .i64 (ev : Int), .int .i64 (q : Int), .int .i64 (nx : Int), .int .i64 (g : Int), .slice a0 l.length k0] 147 (0, 0)) from by rw [hw1]; exact H.out.cell)
    have d2 : w1.cell? ⟨x, 2, none⟩ = some (.int .i64 (nx : Int)) := (cell_of_row _ _ _ _ _ _ HX1.out).trans rfl
    have y4 : ∀ j : Nat, w1.frozen? ⟨x, j, none⟩ = false := fun j => frozen_of_row _ _ _ _ _ HX1.out
    rw [← hw1]
    have HW1 := Lib.hid hw1
    clear hw1 z e1 hrb c0 c1 c2 c3 c4
    go_wp2
    go_end0
    have hf : Fr (fun k => k = x) w (w1.setCell ⟨x, 2, none⟩ (.int .i64 ((nx : Int) + 1))) := by
      have h1 : Fr (fun k => k = x) w w1 := by rw [HW1.out]; exact (Fr.refl _ _).drewN nq
      exact h1.setCell ⟨x, 2, none⟩ (fun _ => rfl) _
    refine ⟨rfl, .slice a0 l.length k0, ⟨heap_setCell_same w1 x 2 _ _ _ HX1.out, ?_⟩, .inl rfl, hf⟩
    rw [HL.out]
    refine ownsRow_setCell_other (by rw [HW1.out]; exact H.out.own) (fun e => ?_) _
    exact H.out.ne e

/-- What Add leaves. -/
def AddPost (x ev q nx g n : Nat) (sv : Value) (l : Segs) (w : World) (e : Ending) (w' : World) : Prop :=
  e = .returned (.tuple #[.int .i64 (g : Int), .int .i64 0]) ∧ ∃ sv', IsIx w' x ev q (nx + 1) (g + 16 + n) sv' (markL ev q nx g l) ∧ Went w sv sv' ∧ Fr (fun k => k = x) w w'
set_option maxRecDepth 100000 in
set_option maxHeartbeats 4000000 in
theorem ix_add (w : World) (x ev q nx g n : Nat) (sv : Value) (l : Segs) (h : IsIx w x ev q nx g sv l) (hev : 1 ≤ ev) (hev2 : ev ≤ 64) (hq : q ≤ nx) (hnx : nx < 1048576) (hl : l.length ≤ 2097152) (hg : g ≤ 1073741824) (hn1 : 1 ≤ n) (hn2 : n ≤ 4096) :
    Calls Tryz.prog 59 #[.pointer (some ⟨x, 0, none⟩), .int .i64 (n : Int)] w fun e w' => AddPost x ev q nx g n sv l w e w' := by
  obtain ⟨c0, c1, c2, c3, c4⟩ := h.cs
  have H := Lib.hid h
  have HN := Lib.hid (show frSize (n : Int) = 16 + (n : Int) from by unfold frSize payB; rw [if_pos (by simp; omega)])
  have hz : ((16 : Int) + (n : Int) == 0) = false := by rw [beq_eq_false_iff_ne]; omega
  have hnd : decide ((1048576 : Int) ≤ (nx : Int)) = false := by rw [decide_eq_false_iff_not]; omega
  have hni : (nx : Int) < 1048576 := by omega
  have HNX := Lib.hid hnx
  clear h hnx
  go_enter Tryz.func59, Tryz.ntmps59
  go_wp2_with fail
  refine (frsize_any (n : Int) _).mono ?_
  rintro e w' ⟨rfl, rfl⟩
  rw [HN.out]
  go_wp2_with fail
  refine (ix_mark _ x ev q nx g g sv l H.out hev hev2 hq (by have := HNX.out; omega) hl).mono ?_
  rintro e w2 ⟨rfl, sv', h2, hw2, hf2⟩
  have d3 : w2.cell? ⟨x, 3, none⟩ = some (.int .i64 (g : Int)) := h2.cs.2.2.2.1
  have y : ∀ j : Nat, w2.frozen? ⟨x, j, none⟩ = false := h2.fz
  have H2 := Lib.hid h2
  have HW2 := Lib.hid (And.intro hw2 hf2)
  clear h2 hw2 hf2 c0 c1 c2 c3 c4
  go_wp2
  refine wp_region_z (S := (fun w' : World => w'.cell? ⟨x, 3, none⟩ = some (.int .i64 (g : Int)))) 9 (by kernel_rfl) ?_
  have hHeld : (fun w' : World => w'.cell? ⟨x, 3, none⟩ = some (.int .i64 (g : Int))) w2.drew := d3
  refine wpAnyZ_take (i := 0) (oi := _) (v := ?_) (by simp only [List.getElem?_toArray, List.getElem?_cons_zero]; rfl) (by kernel_rfl) (by kernel_rfl) (by kernel_rfl) (by kernel_rfl) (by exact fun _ _ _ h => h) (Or.inl ⟨by rfl, ?_⟩) (by assumption) ?_
  rotate_left
  · (intro w hSw; (try dsimp only at hSw); go_simp; try with_reducible rfl)
  simp only [Act.put, List.setIfInBounds_toArray, List.set_cons_zero, List.set_cons_succ]
  refine wpAnyZ_take (i := 1) (oi := _) (v := ?_) (by simp only [List.getElem?_toArray, List.getElem?_cons_succ, List.getElem?_cons_zero]; rfl) (by kernel_rfl) (by kernel_rfl) (by kernel_rfl) (by kernel_rfl) (by exact fun _ _ _ h => h) (Or.inl ⟨by rfl, ?_⟩) (by assumption) ?_
  rotate_left
  · (intro w hSw; (try dsimp only at hSw); go_simp; try with_reducible rfl)
  simp only [Act.put, List.setIfInBounds_toArray, List.set_cons_zero, List.set_cons_succ]
  refine wpAnyZ_take (i := 2) (oi := _) (v := ?_) (by simp only [List.getElem?_toArray, List.getElem?_cons_succ, List.getElem?_cons_zero]; rfl) (by kernel_rfl) (by kernel_rfl) (by kernel_rfl) (by kernel_rfl) (by exact fun _ _ _ h => h) (Or.inl ⟨by rfl, ?_⟩) (by assumption) ?_
  rotate_left
  · (intro w hSw; (try dsimp only at hSw); go_simp; try with_reducible rfl)
  simp only [Act.put, List.setIfInBounds_toArray, List.set_cons_zero, List.set_cons_succ]
  refine wpAnyZ_take (i := 3) (oi := _) (v := ?_) (by simp only [List.getElem?_toArray, List.getElem?_cons_succ, List.getElem?_cons_zero]; rfl) (by kernel_rfl) (by kernel_rfl) (by kernel_rfl) (by kernel_rfl) (by exact fun _ _ _ h => h) (Or.inl ⟨by rfl, ?_⟩) (by assumption) ?_
  rotate_left
  · (intro w hSw; (try dsimp only at hSw); go_simp; try with_reducible rfl)
  simp only [Act.put, List.setIfInBounds_toArray, List.set_cons_zero, List.set_cons_succ]
  refine wpAnyZ_take (i := 4) (oi := _) (v := ?_) (by simp only [List.getElem?_toArray, List.getElem?_cons_succ, List.getElem?_cons_zero]; rfl) (by kernel_rfl) (by kernel_rfl) (by kernel_rfl) (by kernel_rfl) (by exact fun _ _ _ h => h) (Or.inl ⟨by rfl, ?_⟩) (by assumption) ?_
  rotate_left
  · (intro w hSw; (try dsimp only at hSw); go_simp; try with_reducible rfl)
  simp only [Act.put, List.setIfInBounds_toArray, List.set_cons_zero, List.set_cons_succ]
  refine wpAnyZ_one (i := 5) (o := _) (by simp only [List.getElem?_toArray, List.getElem?_cons_succ, List.getElem?_cons_zero]; rfl) (by kernel_rfl) (fun K hK => ?_)
  go_simp
  refine (frsize_any (n : Int) _).mono ?_
  rintro e w3 ⟨rfl, rfl⟩
  rw [HN.out]
  refine hK.out _ _ (fun _ => d3) ?_
  clear hK K
  (try simp only [Act.put, List.setIfInBounds_toArray, List.set_cons_zero, List.set_cons_succ])
  refine wpAnyZ_take (i := 6) (oi := _) (v := ?_) (by simp only [List.getElem?_toArray, List.getElem?_cons_succ, List.getElem?_cons_zero]; rfl) (by kernel_rfl) (by kernel_rfl) (by kernel_rfl) (by kernel_rfl) (by exact fun _ _ _ h => h) (Or.inl ⟨by rfl, ?_⟩) (by assumption) ?_
  rotate_left
  · (intro w hSw; (try dsimp only at hSw); go_simp; try with_reducible rfl)
  simp only [Act.put, List.setIfInBounds_toArray, List.set_cons_zero, List.set_cons_succ]
  refine wpAnyZ_one (i := 7) (o := _) (by simp only [List.getElem?_toArray, List.getElem?_cons_succ, List.getElem?_cons_zero]; rfl) (by kernel_rfl) (fun K hK => ?_)
  go_simp
  refine hK.out _ _ (fun _ => d3) ?_
  clear hK K
  (try simp only [Act.put, List.setIfInBounds_toArray, List.set_cons_zero, List.set_cons_succ])
  refine wpAnyZ_one (i := 8) (o := _) (by simp only [List.getElem?_toArray, List.getElem?_cons_succ, List.getElem?_cons_zero]; rfl) (by kernel_rfl) (fun K hK => ?_)
  go_simp
  refine hK.out _ _ (fun _ => d3) ?_
  clear hK K
  (try simp only [Act.put, List.setIfInBounds_toArray, List.set_cons_zero, List.set_cons_succ])
  refine wpAnyZ_one (i := 9) (o := _) (by simp only [List.getElem?_toArray, List.getElem?_cons_succ, List.getElem?_cons_zero]; rfl) (by kernel_rfl) (fun K hK => ?_)
  go_simp
  refine hK.out _ _ (fun h => absurd rfl h) ?_
  clear hK K
  (try simp only [Act.put, List.setIfInBounds_toArray, List.set_cons_zero, List.set_cons_succ])
  refine wpAnyZ_done (by kernel_rfl) ?_ _
  go_wp2
  have hw : IntKind.i64.wrap ((g : Int) + (16 + (n : Int))) = ((g + 16 + n : Nat) : Int) := by rw [IntWalk.i64_in _ (by omega)]; omega
  rw [hw]
  go_ret2
  have hf : Fr (fun k => k = x) w ((w2.setCell ⟨x, 3, none⟩ (.int .i64 ((g + 16 + n : Nat) : Int))).drew) := (HW2.out.2.setCell ⟨x, 3, none⟩ (fun _ => rfl) _).drew
  exact ⟨rfl, sv', ⟨heap_setCell_same w2 x 3 _ _ _ H2.out.cell, ownsRow_setCell_other H2.out.own H2.out.ne _⟩, HW2.out.1, hf⟩
end Go.Proofs.YtcdjckdbcffgdaaGreatDoor

/- The walks of cmp.Compare, slices.BinarySearchFunc at an index's marks, index.from. -/
namespace Go.Proofs.YtcdjckdbcffgdaaGreatDoor
open Go.RowKit

theorem add_plainX (g j : Nat) : (⟨g, 0, none⟩ : Addr).add j = ⟨g, j, none⟩ := by unfold Addr.add; split <;> simp_all
def cmpI (a b : Int) : Int := if a < b then -1 else if b < a then 1 else 0
set_option maxHeartbeats 400000 in
theorem nan_int (a : Int) (w : World) : Calls Tryz.prog 227 #[.int .i64 a] w fun e w' => e = .returned (.bool false) ∧ w = w' := by
  have h1 : (a != a) = false := by simp
  go_enter Tryz.func227, Tryz.ntmps227
  go_wp2
  go_ret
  exact ⟨rfl, rfl⟩
set_option maxHeartbeats 400000 in
theorem cmp_int (a b : Int) (w : World) : Calls Tryz.prog 185 #[.int .i64 a, .int .i64 b] w fun e w' => e = .returned (.int .i64 (cmpI a b)) ∧ w = w' := by
  by_cases h1 : a < b
  · have HC := Lib.hid (show cmpI a b = -1 from by unfold cmpI; rw [if_pos h1])
    go_enter Tryz.func185, Tryz.ntmps185
    go_wp2_with (go_at_call 227; refine (nan_int _ _).mono ?_; rintro e w' ⟨rfl, rfl⟩)
    go_ret
    exact ⟨ret_int HC.out.symm, rfl⟩
  · by_cases h2 : b < a
    · have HC := Lib.hid (show cmpI a b = 1 from by unfold cmpI; rw [if_neg h1, if_pos h2])
      go_enter Tryz.func185, Tryz.ntmps185
      go_wp2_with (go_at_call 227; refine (nan_int _ _).mono ?_; rintro e w' ⟨rfl, rfl⟩)
      go_ret
      exact ⟨ret_int HC.out.symm, rfl⟩
    · have HC := Lib.hid (show cmpI a b = 0 from by unfold cmpI; rw [if_neg h1, if_neg h2])
      go_enter Tryz.func185, Tryz.ntmps185
      go_wp2_with (go_at_call 227; refine (nan_int _ _).mono ?_; rintro e w' ⟨rfl, rfl⟩)
      go_ret
      exact ⟨ret_int HC.out.symm, rfl⟩

set_option maxHeartbeats 400000 in
theorem from_cmp (q a t : Int) (w : World) : Calls Tryz.prog 184 #[.agg #[.int .i64 q, .int .i64 a], .int .i64 t] w fun e w' => e = .returned (.int .i64 (cmpI q t)) ∧ Below w.heap.size w w' := by
  go_enter Tryz.func184, Tryz.ntmps184
  go_wp2_with (go_at_call 185; refine (cmp_int _ _ _).mono ?_; rintro e w' ⟨rfl, rfl⟩)
  go_ret
  exact ⟨rfl, (Below.refl _ _).alloc (Nat.le_refl _) _⟩

theorem cmp_lt (a b : Int) : (cmpI a b < 0) ↔ a < b := by
  unfold cmpI
  by_cases h1 : a < b
  · rw [if_pos h1]; omega
  · by_cases h2 : b < a
    · rw [if_neg h1, if_pos h2]; omega
    · rw [if_neg h1, if_neg h2]; omega
theorem cmp_eq (a b : Int) : (cmpI a b = 0) ↔ a = b := by
  unfold cmpI
  by_cases h1 : a < b
  · rw [if_pos h1]; omega
  · by_cases h2 : b < a
    · rw [if_neg h1, if_pos h2]; omega
    · rw [if_neg h1, if_neg h2]; omega

set_option maxRecDepth 100000 in
set_option maxHeartbeats 2000000 in
theorem bsearch_any (w : World) (sv : Value) (l : Segs) (hs : SegsAt w sv l) (t : Int) (m : Nat) (hm : m ≤ l.length) (hl : l.length ≤ 1073741824) (hP : ∀ j (h : j < l.length), l[j].1 < t ↔ j < m) :
    Calls Tryz.prog 183 #[sv, .int .i64 t, .func (.func 184) #[] #[]] w fun e w' =>
      (∃ fb : Bool, (∀ h : m < l.length, fb = decide (l[m].1 = t)) ∧ (l.length ≤ m → fb = false) ∧ e = .returned (.tuple #[.int .i64 (m : Int), .bool fb])) ∧ Below w.heap.size w w' := by
  obtain ⟨a, c, rfl⟩ := hs.shape
  have hent : Enters Tryz.prog 184 := enters_of Tryz.func184 (by kernel_rfl) rfl
  have he : ∀ (args : Array Value) (w : World), (callFunc 184 args).run Tryz.prog w = .ok (.enter 184 args) w := hent
  have HS := Lib.hid hs
  have HP := Lib.hid hP
  clear hs hP hent
  go_enter Tryz.func183, Tryz.ntmps183
  go_wp2
  go_loopw [9, 10] (fun i j wr => ∃ x y : Nat, x ≤ m ∧ m ≤ y ∧ y ≤ l.length ∧ i = .int .i64 (x : Int) ∧ j = .int .i64 (y : Int) ∧ Below w.heap.size w wr) (fun i j _ => (intOf j).toNat - (intOf i).toNat)
  case atStart => exact ⟨0, l.length, by omega, hm, Nat.le_refl _, rfl, rfl, Below.refl _ _⟩
  case round =>
    obtain ⟨x, y, hx, hy, hyl, rfl, rfl, hb⟩ := hrel
    have HB := Lib.hid hb
    clear hb
    by_cases hlt : x < y
    · obtain ⟨h, hh⟩ : ∃ h, h = (x + y) / 2 := ⟨_, rfl⟩
      have hxh : x ≤ h := by omega
      have hhy : h < y := by omega
      have hmid : h < l.length := by omega
      have hhi : ((x : Int) + (y : Int)) / 2 = (h : Int) := by omega
      obtain ⟨bb, o, rfl, h1, h2, hbl⟩ := (HS.out.pure HB.out).at h hmid
      have hp := HP.out h hmid
      generalize l[h].1 = Q at *
      generalize l[h].2 = A at *
      have hlc := cmp_lt Q t
      clear hh
      by_cases hQ : Q < t
      · have hm1 := hp.1 hQ
        have hc := hlc.2 hQ
        clear hp hlc hQ
        go_wp2_with fail
        refine (from_cmp Q A t _).mono ?_
        rintro e w2 ⟨rfl, hb2⟩
        have HB2 := Lib.hid (HB.out.trans (hb2.mono HB.out.size))
        clear hb2 h1 h2
        go_wp2
        go_roundw
        case rel => exact ⟨h + 1, y, by omega, hy, hyl, by go_num, rfl, HB2.out⟩
        case measure => simp [intOf]; omega
      · have hm1 : ¬ h < m := fun e => hQ (hp.2 e)
        have hc : ¬ cmpI Q t < 0 := fun e => hQ (hlc.1 e)
        clear hp hlc hQ
        go_wp2_with fail
        refine (from_cmp Q A t _).mono ?_
        rintro e w2 ⟨rfl, hb2⟩
        have HB2 := Lib.hid (HB.out.trans (hb2.mono HB.out.size))
        clear hb2 h1 h2
        go_wp2
        go_roundw
        case rel => exact ⟨x, h, hx, by omega, by omega, rfl, rfl, HB2.out⟩
        case measure => simp [intOf]; omega
    · obtain rfl : x = m := by omega
      obtain rfl : y = x := by omega
      clear hlt hx hy
      by_cases hml : y < l.length
      · obtain ⟨bb, o, rfl, h1, h2, hbl⟩ := (HS.out.pure HB.out).at y hml
        have hE := cmp_eq l[y].1 t
        obtain ⟨Q, hQ⟩ : ∃ Q, Q = l[y].1 := ⟨_, rfl⟩
        rw [← hQ] at h1 hE
        have HQ := Lib.hid hQ
        generalize l[y].2 = A at *
        clear hQ
        go_wp2_with fail
        refine (from_cmp Q A t _).mono ?_
        rintro e w2 ⟨rfl, hb2⟩
        have HB2 := Lib.hid (HB.out.trans (hb2.mono HB.out.size))
        clear hb2 h1 h2
        go_wp2
        go_ret2
        exact ⟨⟨_, fun _ => (by rw [← HQ.out, Bool.eq_iff_iff, beq_iff_eq, decide_eq_true_iff]; exact hE), fun h => absurd hml (by omega), rfl⟩, HB2.out⟩
      · go_wp2
        go_ret2
        exact ⟨⟨false, fun h => absurd h hml, fun _ => rfl, rfl⟩, HB.out⟩

set_option maxRecDepth 100000 in
set_option maxHeartbeats 1000000 in
theorem ix_from_out (w : World) (x ev q nx g : Nat) (sv : Value) (l : Segs) (h : IsIx w x ev q nx g sv l) (t : Int) (ht : t < (q : Int) ∨ (nx : Int) ≤ t) :
    Calls Tryz.prog 148 #[.pointer (some ⟨x, 0, none⟩), .int .i64 t] w fun e w' => e = .returned (.tuple #[.agg #[.int .i64 0, .int .i64 0], .bool false]) ∧ Below w.heap.size w w' := by
  obtain ⟨c0, c1, c2, c3, c4⟩ := h.cs
  have hxl := h.lt
  clear h
  by_cases h1 : t < (q : Int)
  · go_enter Tryz.func148, Tryz.ntmps148
    go_wp2
    exact bodyPost_ret (v := .tuple #[.agg #[.int .i64 0, .int .i64 0], .bool false]) (by simp [results, Tryz.results148, go_sem]) rfl ⟨rfl, (Below.refl _ _).alloc (Nat.le_refl _) _⟩
  · have h2 : (nx : Int) ≤ t := by omega
    clear ht
    go_enter Tryz.func148, Tryz.ntmps148
    go_wp2
    exact bodyPost_ret (v := .tuple #[.agg #[.int .i64 0, .int .i64 0], .bool false]) (by simp [results, Tryz.results148, go_sem]) rfl ⟨rfl, (Below.refl _ _).alloc (Nat.le_refl _) _⟩
theorem own_marks {w : World} {e : TypeId} {sv : Value} {l : Segs} (h : w.ownsRow 0 e 2 sv l.length (segCells l)) : SegsAt w sv l := by
  rcases h.2 with ⟨rfl, h0⟩ | ⟨g, cap, cur, rfl, hbg, hg, hnc, hcm, hcs, htake⟩
  · have : l = [] := List.eq_nil_of_length_eq_zero h0
    subst this
    exact ⟨none, 0, rfl, .inl rfl⟩
  · refine ⟨_, cap, rfl, .inr ⟨g, 0, rfl, fun i hi => ?_⟩⟩
    have hc := h.cells (g := g) rfl
    obtain ⟨h1, h2⟩ := segCells_get l i hi
    have a1 := hc (i * 2) _ h1
    have a2 := hc (i * 2 + 1) _ h2
    rw [add_plainX] at a1 a2
    exact ⟨by rw [Nat.zero_add]; exact a1, by rw [Nat.zero_add]; exact a2⟩
/-- Where a frame that is there is read from. -/
def mkAt (ev q : Nat) (ps : List (List UInt8)) (k : Nat) : Int × Int := markAt ev q ps (k / ev)
theorem mark_found {ev : Nat} (h : 0 < ev) (q : Nat) (ps : List (List UInt8)) (k : Nat) (hm : markN ev k < (marks ev q ps).length) : ((marks ev q ps)[markN ev k].1 = ((q + k : Nat) : Int)) ↔ k % ev = 0 := by
  rw [marks_get]
  unfold markAt
  show ((q + markN ev k * ev : Nat) : Int) = ((q + k : Nat) : Int) ↔ _
  rw [markN_div h]
  have := Nat.div_add_mod k ev
  constructor
  · intro e
    by_cases h0 : k % ev = 0
    · exact h0
    · rw [if_neg h0, Nat.add_mul, Nat.mul_comm (k / ev)] at e
      have := Nat.mod_lt k h
      omega
  · intro h0
    rw [if_pos h0, Nat.add_zero, Nat.mul_comm]
    omega
set_option maxRecDepth 100000 in
set_option maxHeartbeats 2000000 in
theorem ix_from_in (w : World) (x ev q nx g : Nat) (sv : Value) (ps : List (List UInt8)) (h : IsIx w x ev q nx g sv (marks ev q ps)) (hev : 1 ≤ ev) (hn : nx = q + ps.length) (hnx : nx ≤ 2097152) (k : Nat) (hk : k < ps.length) :
    Calls Tryz.prog 148 #[.pointer (some ⟨x, 0, none⟩), .int .i64 ((q + k : Nat) : Int)] w fun e w' => e = .returned (.tuple #[.agg #[.int .i64 (mkAt ev q ps k).1, .int .i64 (mkAt ev q ps k).2], .bool true]) ∧ Below w.heap.size w w' := by
  obtain ⟨c0, c1, c2, c3, c4⟩ := h.cs
  have hxl := h.lt
  have hs := own_marks h.own
  have hml := marks_length ev q ps
  have hmk := mark_at hev hk
  have hmn := markN_div hev k
  have hmm : markN ev k ≤ (marks ev q ps).length := by rw [hml, hmn]; split <;> omega
  obtain ⟨a0, k0, rfl⟩ := hs.shape
  have hP : ∀ j (hj : j < (marks ev q ps).length), (marks ev q ps)[j].1 < ((q + k : Nat) : Int) ↔ j < markN ev k := fun j hj => by rw [marks_get]; exact mark_before hev q ps j k
  have hfd := fun hm => mark_found hev q ps k hm
  have hlen : (marks ev q ps).length ≤ 2097153 := by
    rw [hml, markN_div hev]
    have := Nat.div_le_self ps.length ev
    split <;> omega
  have HF := Lib.hid hfd
  have HS := Lib.hid hs
  have HP := Lib.hid hP
  have HML := Lib.hid hml
  have HMK := Lib.hid hmk
  have HMN := Lib.hid hmn
  have hb : Below w.heap.size w (w.alloc (.cells #[.int .i64 0, .int .i64 0] 190)) := (Below.refl _ _).alloc (Nat.le_refl _) _
  have HB := Lib.hid hb
  clear h hs hP hml hmk hmn hb hfd
  obtain ⟨T, hT⟩ : ∃ T : Int, T = ((q + k : Nat) : Int) := ⟨_, rfl⟩
  rw [← hT]
  have ht1 : (q : Int) ≤ T := by omega
  have ht2 : T < (nx : Int) := by omega
  have HT := Lib.hid hT
  clear hT
  go_enter Tryz.func148, Tryz.ntmps148
  go_wp2_with fail
  refine (bsearch_any _ _ _ (HS.out.pure HB.out) T (markN ev k) hmm (by omega) (by rw [HT.out]; exact HP.out)).mono ?_
  rintro e w2 ⟨⟨fb, hf1, hf2, rfl⟩, hb2⟩
  obtain ⟨J, hJ⟩ : ∃ J, J = k / ev := ⟨_, rfl⟩
  have hJl : J < (marks ev q ps).length := by rw [hJ, HML.out]; exact HMK.out
  have HB2 := Lib.hid (HB.out.trans (hb2.mono HB.out.size))
  have hs2 := HS.out.pure HB2.out
  obtain ⟨bb, o, rfl, g1, g2, hbl⟩ := hs2.at J hJl
  have d4 : w2.cell? ⟨x, 4, none⟩ = some (.slice (some ⟨bb, o, none⟩) (marks ev q ps).length k0) := (HB2.out.cell (p := ⟨x, 4, none⟩) hxl).trans c4
  have hbx : w2.heap[w.heap.size]? = some (.cells #[.int .i64 0, .int .i64 0] 190 (0, 0)) := (hb2.block _ (by simp)).trans (heap_alloc_new _ _)
  have r0 : w2.cell? ⟨w.heap.size, 0, none⟩ = some (.int .i64 0) := (cell_of_row _ _ _ _ _ _ hbx).trans rfl
  have r1 : w2.cell? ⟨w.heap.size, 1, none⟩ = some (.int .i64 0) := (cell_of_row _ _ _ _ _ _ hbx).trans rfl
  have z0 : ∀ j : Nat, w2.frozen? ⟨w.heap.size, j, none⟩ = false := fun j => frozen_of_row _ _ _ _ _ hbx
  have hA1 : (marks ev q ps)[J].1 = (mkAt ev q ps k).1 := by rw [marks_get, hJ]; rfl
  have hA2 : (marks ev q ps)[J].2 = (mkAt ev q ps k).2 := by rw [marks_get, hJ]; rfl
  rw [hA1] at g1
  rw [hA2] at g2
  obtain ⟨L, hL⟩ : ∃ L, L = (marks ev q ps).length := ⟨_, rfl⟩
  rw [← hL] at hJl d4 hlen
  have hend : ∀ W, W = (w2.setCell ⟨w.heap.size, 0, none⟩ (.int .i64 (mkAt ev q ps k).1)).setCell ⟨w.heap.size, 1, none⟩ (.int .i64 (mkAt ev q ps k).2) → Below w.heap.size w W := fun W e => by
    rw [e]; exact (HB2.out.setCell (p := ⟨w.heap.size, 0, none⟩) (Nat.le_refl _) _).setCell (p := ⟨w.heap.size, 1, none⟩) (Nat.le_refl _) _
  have HE := Lib.hid hend
  have HJ := Lib.hid hJ
  have HL := Lib.hid hL
  clear hend hJ hL hs2 hb2 hbx c0 c1 c2 c3 c4 hA1 hA2 hn
  by_cases h0 : k % ev = 0
  · have hmJ : markN ev k = J := by rw [HMN.out, if_pos h0, HJ.out]; rfl
    have hfb : fb = true := by
      have hlt : markN ev k < (marks ev q ps).length := by rw [hmJ, ← HL.out]; exact hJl
      rw [hf1 hlt, decide_eq_true_iff, HT.out]; exact (HF.out hlt).2 h0
    subst hfb
    rw [hmJ]
    clear hmJ hf1 hf2 h0 hmm
    go_wp2
    exact bodyPost_ret (v := .tuple #[.agg #[.int .i64 (mkAt ev q ps k).1, .int .i64 (mkAt ev q ps k).2], .bool true]) (by simp [results, Tryz.results148, go_sem, r0, r1]) rfl ⟨rfl, HE.out _ rfl⟩
  · have hmJ : markN ev k = J + 1 := by rw [HMN.out, if_neg h0, HJ.out]
    have hfb : fb = false := by
      by_cases hlt : markN ev k < (marks ev q ps).length
      · rw [hf1 hlt, decide_eq_false_iff_not, HT.out]; exact fun e => h0 ((HF.out hlt).1 e)
      · exact hf2 (by omega)
    subst hfb
    rw [hmJ]
    have hi : ((J + 1 : Nat) : Int) - 1 = (J : Int) := by omega
    clear hmJ hf1 hf2 h0 hmm
    go_wp2
    exact bodyPost_ret (v := .tuple #[.agg #[.int .i64 (mkAt ev q ps k).1, .int .i64 (mkAt ev q ps k).2], .bool true]) (by simp [results, Tryz.results148, go_sem, r0, r1]) rfl ⟨rfl, HE.out _ rfl⟩
end Go.Proofs.YtcdjckdbcffgdaaGreatDoor

/- The walk of index.Build. -/
namespace Go.Proofs.YtcdjckdbcffgdaaGreatDoor
open Go.RowKit

/-- The payloads of frames. -/
def payl (xs : List FrX) : List (List UInt8) := xs.map fun x => x.p.data.toList
theorem chain_end {s : List UInt8} : ∀ {xs : List FrX} {a q : Nat}, frChain s a q xs → frEnd a xs = a + (frames q (payl xs)).length := by
  intro xs
  induction xs with
  | nil => intro a q _; simp [frEnd, payl, frames]
  | cons x r ih =>
    intro a q h
    obtain ⟨h1, h2, h3, h4⟩ := h
    show frEnd x.next r = _
    rw [ih h4]
    unfold FrX.next
    simp only [payl, List.map_cons, frames, List.length_append, frBytes_length, size_toList]
    omega
theorem chain_at {s : List UInt8} : ∀ {xs : List FrX} {a q : Nat}, frChain s a q xs → ∀ k (hk : k < xs.length), xs[k].a = a + (frames q ((payl xs).take k)).length ∧ xs[k].q = q + k := by
  intro xs
  induction xs with
  | nil => intro a q _ k hk; simp at hk
  | cons x r ih =>
    intro a q h k hk
    obtain ⟨h1, h2, h3, h4⟩ := h
    cases k with
    | zero => exact ⟨by simp [frames, h1], by simp [h2]⟩
    | succ k =>
      obtain ⟨g1, g2⟩ := ih h4 k (by simpa using hk)
      refine ⟨?_, by simp [g2]; omega⟩
      simp only [List.getElem_cons_succ, g1]
      unfold FrX.next
      simp only [payl, List.map_cons, List.take_succ_cons, frames, List.length_append, frBytes_length, size_toList]
      omega
/-- What a scan has found is 'scanF'. -/
theorem chain_scan {s : List UInt8} : ∀ {xs : List FrX} {a q : Nat} {n : Nat}, frChain s a q xs → ¬ ((frRead (s.drop (frEnd a xs))).1 = 0 ∧ (frRead (s.drop (frEnd a xs))).2.1 = q + xs.length) → xs.length ≤ n → scanF n q (s.drop a) = payl xs := by
  intro xs
  induction xs with
  | nil => intro a q n _ h _; exact scan_stop h
  | cons x r ih =>
    intro a q n h hn hl
    obtain ⟨h1, h2, h3, h4⟩ := h
    obtain ⟨n, rfl⟩ : ∃ m, n = m + 1 := ⟨n - 1, by simp at hl; omega⟩
    rw [scanF, h3, if_pos ⟨rfl, rfl⟩, List.drop_drop]
    have e : a + (16 + x.p.data.toList.length) = x.next := by unfold FrX.next; rw [size_toList]; omega
    show x.p.data.toList :: scanF n (q + 1) (s.drop (a + (16 + x.p.data.toList.length))) = _
    rw [e, ih h4 (by rw [show q + 1 + r.length = q + (x :: r).length from by simp; omega]; exact hn) (by simpa using hl)]
    rfl
theorem mark_next {ev q a : Nat} (hev : 0 < ev) {ps : List (List UInt8)} {k : Nat} (hk : k < ps.length) (ha : a = 16 + (frames q (ps.take k)).length) : markL ev q (q + k) a (marks ev q (ps.take k)) = marks ev q (ps.take (k + 1)) := by
  rw [List.take_succ_eq_append_getElem hk, marks_snoc hev]
  unfold markL
  rw [Nat.add_sub_cancel_left, List.length_take, Nat.min_eq_left (Nat.le_of_lt hk), ha]
  split <;> simp
theorem chain_le {s : List UInt8} : ∀ {xs : List FrX} {a q : Nat}, frChain s a q xs → a ≤ s.length → frEnd a xs ≤ s.length ∧ a + xs.length ≤ frEnd a xs ∧ (xs = [] ∨ q + xs.length ≤ 1048576) := by
  intro xs
  induction xs with
  | nil => intro a q _ h; exact ⟨h, Nat.le_refl _, .inl rfl⟩
  | cons x r ih =>
    intro a q h ha
    obtain ⟨h1, h2, h3, h4⟩ := h
    have hl := frRead_le h3
    rw [List.length_drop, size_toList] at hl
    have hx : x.next = a + 16 + x.p.size := by unfold FrX.next; rw [h1]
    obtain ⟨g1, g2, g3⟩ := ih h4 (by omega)
    refine ⟨g1, ?_, .inr ?_⟩
    · show a + (r.length + 1) ≤ frEnd x.next r; omega
    · rcases g3 with rfl | g3
      · simp; omega
      · simp; omega

theorem IsIx.kept {S : Nat → Prop} {w w' : World} {x ev q nx g : Nat} {sv : Value} {l : Segs} (h : IsIx w x ev q nx g sv l) (hf : Fr S w w') (hx : ¬ S x) (hs : ∀ b, sv.ownBlock = some b → ¬ S b) : IsIx w' x ev q nx g sv l :=
  ⟨hf.heapAt h.cell hx, hf.ownsRow h.own hs⟩
theorem IsIx.pure {w w' : World} {x ev q nx g : Nat} {sv : Value} {l : Segs} (h : IsIx w x ev q nx g sv l) (hb : Below w.heap.size w w') : IsIx w' x ev q nx g sv l := h.kept (Fr.pure (S := fun _ => False) hb) (fun h => h) (fun _ _ h => h)
theorem marks_le {ev : Nat} (h : 1 ≤ ev) (q : Nat) (ps : List (List UInt8)) : (marks ev q ps).length ≤ ps.length := by
  rw [marks_length]
  unfold markN
  rcases Nat.eq_zero_or_pos ps.length with h0 | h0
  · rw [h0, Nat.zero_add, Nat.div_eq_of_lt (by omega)]; exact Nat.le_refl _
  · refine Nat.le_of_lt_succ ((Nat.div_lt_iff_lt_mul (by omega)).2 ?_)
    have : ps.length * 1 ≤ ps.length * ev := Nat.mul_le_mul_left _ h
    rw [Nat.succ_mul]
    omega
/-- What Build leaves of a segment's bytes. -/
def BuildPost (s : ByteArray) (ev : Nat) (w : World) (e : Ending) (w' : World) : Prop :=
  Below w.heap.size w w' ∧ ((sgScan s.data.toList).1 ≠ 0 ∧ e = .returned (.tuple #[.pointer none, .int .i64 (sgScan s.data.toList).1]) ∨
    (sgScan s.data.toList).1 = 0 ∧ ∃ (x : Nat) (sv : Value), w.heap.size ≤ x ∧ (∀ b, sv.ownBlock = some b → w.heap.size ≤ b) ∧
      IsIx w' x ev (sgScan s.data.toList).2.1 (sgScan s.data.toList).2.next (sgScan s.data.toList).2.good sv (marks ev (sgScan s.data.toList).2.1 (sgScan s.data.toList).2.2) ∧
      e = .returned (.tuple #[.pointer (some ⟨x, 0, none⟩), .int .i64 0]))

theorem frames_at {w : World} {v : Value} {xs : List FrX} (h : OwnFrames w v xs) (k : Nat) (hk : k < xs.length) : ∃ g c, v = .slice (some ⟨g, 0, none⟩) xs.length c ∧ w.cell? ⟨g, k * 3, none⟩ = some (.int .i64 (xs[k].q : Int)) ∧ w.cell? ⟨g, k * 3 + 1, none⟩ = some (.string xs[k].p) ∧ w.cell? ⟨g, k * 3 + 2, none⟩ = some (.int .i64 (xs[k].a : Int)) := by
  have hc := fun g hv => World.ownsRow.cells (g := g) h hv
  obtain ⟨h1, h2⟩ := h
  rcases h2 with ⟨_, h0⟩ | ⟨g, cap, cur, rfl, hbg, hg, hnc, hcm, hcs, htake⟩
  · omega
  · refine ⟨g, cap, rfl, ?_⟩
    have hcc := hc g rfl
    have get : ∀ (l : List FrX) (k : Nat) (hk : k < l.length), (frCells l)[k * 3]? = some (.int .i64 (l[k].q : Int)) ∧ (frCells l)[k * 3 + 1]? = some (.string l[k].p) ∧ (frCells l)[k * 3 + 2]? = some (.int .i64 (l[k].a : Int)) := by
      intro l
      induction l with
      | nil => intro k hk; simp at hk
      | cons y r ih =>
        intro k hk
        cases k with
        | zero => exact ⟨rfl, rfl, rfl⟩
        | succ k =>
          obtain ⟨a1, a2, a3⟩ := ih k (by simpa using hk)
          have e : frCells (y :: r) = .int .i64 (y.q : Int) :: .string y.p :: .int .i64 (y.a : Int) :: frCells r := rfl
          rw [e, show (k + 1) * 3 = k * 3 + 3 from by omega]
          exact ⟨a1, a2, a3⟩
    obtain ⟨a1, a2, a3⟩ := get xs k hk
    have b1 := hcc _ _ a1
    have b2 := hcc _ _ a2
    have b3 := hcc _ _ a3
    rw [add_plainX] at b1 b2 b3
    exact ⟨b1, b2, b3⟩
theorem frames_shape {w : World} {v : Value} {xs : List FrX} (h : OwnFrames w v xs) : ∃ a c, v = .slice a xs.length c := by
  rcases h.2 with ⟨rfl, h0⟩ | ⟨g, cap, cur, rfl, _⟩
  · exact ⟨none, 0, by rw [h0]⟩
  · exact ⟨_, cap, rfl⟩

set_option maxRecDepth 100000 in
set_option maxHeartbeats 4000000 in
theorem build_any (s : ByteArray) (ev : Nat) (w : World) (hs : s.size ≤ 1048576) (h1 : 1 ≤ ev) (h2 : ev ≤ 64) :
    Calls Tryz.prog 48 #[.string s, .int .i64 (ev : Int)] w fun e w' => BuildPost s ev w e w' := by
  go_enter Tryz.func48, Tryz.ntmps48
  go_wp2_with fail
  refine (segscan_any s w hs).mono ?_
  rintro e w1 ⟨hb1, hpost⟩
  by_cases hc : (segFirst s.data.toList).1 = 0
  · rw [if_neg (by simpa using hc)] at hpost
    obtain ⟨xs, v, hd, hown, hfr, rfl⟩ := hpost
    obtain ⟨q, hq⟩ : ∃ q, q = (segFirst s.data.toList).2 := ⟨_, rfl⟩
    rw [← hq] at hd ⊢
    obtain ⟨a0, c0, rfl⟩ := frames_shape hown
    have hfo := first_ok hc
    obtain ⟨hl1, hl2, hl3⟩ := chain_le hd.1 hfo.1
    rw [size_toList] at hl1
    have HD := Lib.hid hd
    have HO := Lib.hid hown
    have HFR := Lib.hid hfr
    have HB1 := Lib.hid hb1
    have HQ := Lib.hid hq
    have HC := Lib.hid hc
    have hq2 : q ≤ 1048576 := by rw [hq]; exact hfo.2
    have HFO := Lib.hid hfo
    have HL3 := Lib.hid hl3
    clear hd hown hfr hb1 hq hc hfo hl3
    go_wp2
    obtain ⟨W1, hW1⟩ : ∃ W1, W1 = (w1.alloc (.cells #[.int .i64 (q : Int), .slice a0 xs.length c0, .int .i64 (frEnd 16 xs : Int), .bool (decide (frEnd 16 xs = s.size))] 72)).alloc (.cells #[.int .i64 (ev : Int), .int .i64 (q : Int), .int .i64 (q : Int), .int .i64 (frEnd 16 xs : Int), .slice none 0 0] 147) := ⟨_, rfl⟩
    obtain ⟨x, hx⟩ : ∃ x, x = w1.heap.size + 1 := ⟨_, rfl⟩
    have hix : IsIx W1 x ev q q (frEnd 16 xs) (.slice none 0 0) (marks ev q ((payl xs).take 0)) := ⟨by rw [hW1, hx]; exact alloc_topX _ _ (by simp), by rw [List.take_zero, marks_nil (by omega)]; exact World.ownsRow_nil _ _ _ _⟩
    have hbw : Below w1.heap.size w1 W1 := by rw [hW1]; exact ((Below.refl _ _).alloc (Nat.le_refl _) _).alloc (by simp) _
    have hfr1 : ∀ {S : Nat → Prop}, Fr S w1 W1 := Fr.pure hbw
    have hO1 := Lib.hid (show OwnFrames W1 (.slice a0 xs.length c0) xs from (hfr1 (S := fun _ => False)).ownsRow HO.out (fun _ _ h => h))
    have hvlt : ∀ g, (Value.slice a0 xs.length c0).ownBlock = some g → g < w1.heap.size := fun g e => (HO.out.lt g e).2
    rw [← hW1, ← hx]
    have HW1 := Lib.hid (And.intro hbw (And.intro hx hvlt))
    have HIX := Lib.hid hix
    have hzl := Lib.hid (show xs.length = (payl xs).length from by simp [payl])
    clear hW1 hx hix hbw hvlt hfr1
    go_loopw [37] (fun i wr => ∃ (k : Nat) (sv : Value), i = .int .i64 (k : Int) ∧ k ≤ xs.length ∧ IsIx wr x ev q (q + k) (frEnd 16 xs) sv (marks ev q ((payl xs).take k)) ∧ (∀ b, sv.ownBlock = some b → w1.heap.size ≤ b) ∧ Fr (fun k => k = x) W1 wr) (fun i _ => xs.length - (intOf i).toNat)
    case atStart => exact ⟨0, _, rfl, Nat.zero_le _, HIX.out, (fun b e => by cases e), Fr.refl _ _⟩
    case round =>
      obtain ⟨k, sv, rfl, hk, hi, hsv, hf⟩ := hrel
      have HI := Lib.hid hi
      have HSV := Lib.hid hsv
      have HF := Lib.hid hf
      clear hi hsv hf
      by_cases hlt : k < xs.length
      · have how : OwnFrames wr (.slice a0 xs.length c0) xs := HF.out.ownsRow hO1.out (fun g e h => by have := HW1.out.2.2 g e; have := HW1.out.2.1; omega)
        obtain ⟨g, c, hgc, f1, f2, f3⟩ := frames_at how k hlt
        cases hgc
        obtain ⟨hxa, hxq⟩ := chain_at HD.out.1 k hlt
        have HXA := Lib.hid hxa
        generalize xs[k].a = A at *
        generalize xs[k].q = Q at *
        generalize xs[k].p = Pp at *
        clear hxa hxq how
        go_wp2_with fail
        have hq3 : q + k ≤ 2097152 := by rcases HL3.out with h | h; (rw [h] at hlt; simp at hlt); omega
        have hml : (marks ev q ((payl xs).take k)).length ≤ 2097152 := by have := marks_le h1 q ((payl xs).take k); rw [List.length_take] at this; have := hl2; omega
        have HI2 := Lib.hid (HI.out.pure ((Below.refl wr.heap.size wr).alloc (Nat.le_refl _) (.cells #[.int .i64 (Q : Int), .string Pp, .int .i64 (A : Int)] 149)))
        refine (ix_mark _ x ev q (q + k) (frEnd 16 xs) A sv (marks ev q ((payl xs).take k)) HI2.out h1 h2 (by omega) hq3 hml).mono ?_
        rintro e w4 ⟨rfl, sv', hi4, hw4, hf4⟩
        rw [mark_next (by omega) (by rw [← hzl.out]; exact hlt) HXA.out] at hi4
        have HI4 := Lib.hid hi4
        have hs4 : ∀ b, sv'.ownBlock = some b → w1.heap.size ≤ b := fun b e => by
          rcases hw4 with h | ⟨g2, h, hg2⟩
          · exact HSV.out b (h ▸ e)
          · rw [h] at e; cases e; rw [World.size_alloc] at hg2; have := HF.out.size; have := HW1.out.1.size; omega
        have HS4 := Lib.hid hs4
        have HF4 := Lib.hid ((HF.out.alloc (.cells #[.int .i64 (Q : Int), .string Pp, .int .i64 (A : Int)] 149)).trans hf4)
        clear hi4 hw4 hf4 hs4 f1 f2 f3 hq3 hml
        go_wp2
        go_roundw
        case rel => exact ⟨k + 1, sv', by go_num, by omega, HI4.out, HS4.out, HF4.out⟩
        case measure => simp [intOf]; omega
      · have hkn : k = xs.length := by omega
        subst hkn
        go_wp2
        go_ret2
        have hn : ¬ ((frRead (s.data.toList.drop (frEnd 16 xs))).1 = 0 ∧ (frRead (s.data.toList.drop (frEnd 16 xs))).2.1 = q + xs.length) := HD.out.2
        have hsc : sgScan s.data.toList = (0, (q, payl xs)) := by
          unfold sgScan
          rw [if_neg (by rw [HC.out]; simp), ← HQ.out, chain_scan HD.out.1 hn (by rw [size_toList]; omega)]
        have hgd : SgIx.good (q, payl xs) = frEnd 16 xs := by
          unfold SgIx.good
          rw [segBytes_length, chain_end HD.out.1]
        have hb : Below w.heap.size w wr := (HB1.out.trans (HW1.out.1.mono HB1.out.size)).trans (HF.out.below (B := w.heap.size) (by have := HB1.out.size; have := HW1.out.1.size; omega) (fun i hi e => by have := HB1.out.size; have := HW1.out.2.1; omega))
        refine ⟨hb, .inr ⟨by rw [hsc], x, sv, ?_, fun b e => ?_, ?_, rfl⟩⟩
        · have := HB1.out.size; have := HW1.out.2.1; omega
        · have := HSV.out b e; have := HB1.out.size; omega
        · rw [hsc]
          show IsIx wr x ev q (q + (payl xs).length) (SgIx.good (q, payl xs)) sv (marks ev q (payl xs))
          rw [hgd, ← hzl.out]
          have := HI.out
          rw [List.take_of_length_le (by rw [← hzl.out]; exact Nat.le_refl _)] at this
          exact this
  · rw [if_pos hc] at hpost
    obtain ⟨c, hcd⟩ : ∃ c, c = (segFirst s.data.toList).1 := ⟨_, rfl⟩
    rw [← hcd] at hpost hc
    subst hpost
    have hsc : (sgScan s.data.toList).1 = c := by unfold sgScan; rw [if_pos (by rw [← hcd]; exact hc)]; exact hcd.symm
    have HSC := Lib.hid hsc
    have HB1 := Lib.hid hb1
    have hcb : (c == 0) = false := by simpa using hc
    have hcn : (c != 0) = true := by simpa using hc
    have HNE := Lib.hid hc
    clear hsc hb1 hc hcd
    go_wp2
    go_ret2
    exact ⟨HB1.out.alloc HB1.out.size _, .inl ⟨by rw [HSC.out]; exact HNE.out, by rw [HSC.out]; rfl⟩⟩
end Go.Proofs.YtcdjckdbcffgdaaGreatDoor

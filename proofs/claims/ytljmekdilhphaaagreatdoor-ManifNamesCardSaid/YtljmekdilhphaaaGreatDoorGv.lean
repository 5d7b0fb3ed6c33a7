/- The walk of given. -/
import Derived.Test.YtljmekdilhphaaaGreatDoorNms
import Derived.Test.YtljmekdilhphaaaGreatDoorRead
namespace Go.Proofs.YtljmekdilhphaaaGreatDoor
open Go.RowKit Go.Sort

set_option maxRecDepth 100000 in
set_option maxHeartbeats 2000000 in
theorem given_any (w : World) (g : Int) (sv : Value) (l : Segs) (hs : SegsAt w sv l) (hl : l.length ≤ 1000000) :
    Calls Tryz.prog 12 #[.agg #[.int .i64 g, sv]] w fun e w' => ∃ v, e = .returned (.agg #[.int .i64 g, v]) ∧ OwnSegs w' v l ∧ (∀ b, v.ownBlock = some b → w.heap.size ≤ b) ∧ Below w.heap.size w w' := by
  obtain ⟨a, c, rfl⟩ := hs.shape
  have HS := Lib.hid hs
  clear hs
  go_enter Tryz.func12, Tryz.ntmps12
  go_wp2
  go_loopw [4] (fun i wr => ∃ (k : Nat) (v : Value), i = .int .i64 k ∧ k ≤ l.length ∧ wr.heap[w.heap.size + 1 + 1]? = some (.cells #[.int .i64 g, v] 32 (0, 0)) ∧ wr.ownsRow (w.heap.size + 1 + 1 + 1) 72 2 v k (segCells (l.take k)) ∧
    Below (w.heap.size + 1 + 1) (((w.alloc (.cells #[.int .i64 g, .slice a l.length c] 24)).alloc (.cells #[.int .i64 0, .slice none 0 0] 32)).alloc (.cells #[.int .i64 g, .slice none 0 0] 32)) wr) (fun i _ => l.length - (intOf i).toNat)
  case atStart => exact ⟨0, .slice none 0 0, rfl, by omega, alloc_at_top _ _ (by simp), World.ownsRow_nil _ _ _ _, Below.refl _ _⟩
  case round =>
    obtain ⟨k, v, rfl, hk, hbox, hown, hb⟩ := hrel
    have hsz := hb.size
    simp at hsz
    have hszl : w.heap.size + 1 + 1 < wr.heap.size := by omega
    have m1 : wr.cell? ⟨w.heap.size, 1, none⟩ = some (.slice a l.length c) := by rw [hb.cell (by show w.heap.size < _; omega), World.cell?_alloc_past _ _ _ (by simp; omega), World.cell?_alloc_past _ _ _ (by simp), World.cell?_alloc_at _ _ _ _ rfl]; rfl
    have hrb : wr.heap[w.heap.size + 1]? = some (.cells #[.int .i64 0, .slice none 0 0] 32 (0, 0)) := (hb.block _ (by omega)).trans ((Below.heap_alloc _ _ _ (by simp)).trans (alloc_at_top _ _ (by simp)))
    have r0 : wr.cell? ⟨w.heap.size + 1, 0, none⟩ = some (.int .i64 0) := by rw [cell_of_row _ _ _ _ _ _ hrb]; rfl
    have r1 : wr.cell? ⟨w.heap.size + 1, 1, none⟩ = some (.slice none 0 0) := by rw [cell_of_row _ _ _ _ _ _ hrb]; rfl
    have zr0 : wr.frozen? ⟨w.heap.size + 1, 0, none⟩ = false := frozen_of_row _ _ _ _ _ hrb
    have zr1 : wr.frozen? ⟨w.heap.size + 1, 1, none⟩ = false := frozen_of_row _ _ _ _ _ hrb
    obtain ⟨a0, n0, c0, rfl⟩ := own_shape hown
    have q1 : wr.cell? ⟨w.heap.size + 1 + 1, 1, none⟩ = some (.slice a0 n0 c0) := by rw [cell_of_row _ _ _ _ _ _ hbox]; rfl
    have q0 : wr.cell? ⟨w.heap.size + 1 + 1, 0, none⟩ = some (.int .i64 g) := by rw [cell_of_row _ _ _ _ _ _ hbox]; rfl
    have z1 : wr.frozen? ⟨w.heap.size + 1 + 1, 1, none⟩ = false := frozen_of_row _ _ _ _ _ hbox
    have HBX := Lib.hid hbox
    have HO := Lib.hid hown
    clear hbox hown
    by_cases hlt : k < l.length
    · clear hrb r0 r1 zr0 zr1
      obtain ⟨b, o, rfl, h1, h2, hbl⟩ := HS.out.at k hlt
      have hc1 : wr.cell? ⟨b, o + k * 2, none⟩ = some (.int .i64 l[k].1) := by rw [hb.cell (by show b < _; omega), World.cell?_alloc_past _ _ _ (by simp; omega), World.cell?_alloc_past _ _ _ (by simp; omega), World.cell?_alloc_past _ _ _ hbl]; exact h1
      have hc2 : wr.cell? ⟨b, o + k * 2 + 1, none⟩ = some (.int .i64 l[k].2) := by rw [hb.cell (by show b < _; omega), World.cell?_alloc_past _ _ _ (by simp; omega), World.cell?_alloc_past _ _ _ (by simp; omega), World.cell?_alloc_past _ _ _ hbl]; exact h2
      clear h1 h2
      have hfar : ∀ j, (Value.slice a0 n0 c0).ownBlock = some j → w.heap.size + 1 + 1 + 1 ≤ j := fun j e => own_ge HO.out e
      obtain ⟨i0, hi, hz0, hz1, hz2⟩ := info_parts Tryz.infoEntry
      have HI := Lib.hid hi
      have HZ0 := Lib.hid hz0
      have HZ1 := Lib.hid hz1
      have HZ2 := Lib.hid hz2
      clear hi hz0 hz1 hz2
      have HO1 := Lib.hid ((World.ownsRow.drew HO.out).alloc (.cells #[.int .i64 l[k].1, .int .i64 l[k].2] 72))
      have hbx1 := (Below.heap_alloc wr.drew (.cells #[.int .i64 l[k].1, .int .i64 l[k].2] 72) _ hszl).trans HBX.out
      have HBX1 := Lib.hid hbx1
      clear hbx1
      go_wp2_with fail
      go_region_law (refine step_append_lies _ (by rfl) _ _ _ (by rfl) (w.heap.size + 1 + 1 + 1) 72 i0 _ 2 16 Tryz.underlying30 HI.out HZ0.out HZ1.out HZ2.out rfl (by omega) _ k _ (by rfl) HO1.out ⟨wr.heap.size, 0, none⟩ 1 1 [.int .i64 l[k].1, .int .i64 l[k].2] (by rfl) (by rfl) (cells_new rfl rfl) (by simp [Value.oneCell']) (by omega) (by unfold maxLen; omega) (by omega) (by simp; omega) (wr.heap.size + 1) (by simp) ?_; intro gg cap w8 hown8 hgrow8 hat8 hlt8; have hbx8 := (hgrow8.block _ (by simp; omega) (fun e => by have := hfar _ e.symm; omega)).trans HBX1.out; have HBX8 := Lib.hid hbx8; have hc8 : w8.cell? ⟨w.heap.size + 1 + 1, 1, none⟩ = some (.slice a0 n0 c0) := (cell_of_row w8 _ 1 _ _ _ hbx8).trans rfl; have hf8 := frozen_of_row w8 _ 1 _ _ hbx8; clear hbx8)
      all_goals go_wp2
      all_goals
        go_roundw
        case rel =>
          have hge := own_ge hown8 (g := gg) rfl
          refine ⟨k + 1, _, by go_num, by omega, heap_setCell_same w8 _ 1 _ _ _ HBX8.out, ?_, ?_⟩
          · refine ownsRow_setCell_other ?_ (by show some gg ≠ some (w.heap.size + 1 + 1); intro e; cases e; omega) _
            rw [List.take_succ_eq_append_getElem hlt]
            have := segCells_snoc (l.take k) l[k].1 l[k].2
            rw [show (l[k].1, l[k].2) = l[k] from rfl] at this
            rw [this]; exact hown8
          · exact (((hb.drew).alloc (by simp; omega) _).grown hgrow8 (by simp; omega) (fun j e => by have := hfar j e; omega)).setCell (Nat.le_refl _) _
        case measure => simp [intOf]; omega
    · have hkl : k = l.length := by omega
      subst hkl
      rw [List.take_length] at HO
      go_wp2
      have HB0 : Below w.heap.size w wr := (((((Below.refl w.heap.size w).alloc (Nat.le_refl _) _).alloc (by simp) _).alloc (by simp; omega) _)).trans (hb.mono (by omega))
      have s0 : ((wr.setCell ⟨w.heap.size + 1, 0, none⟩ (.int .i64 g)).setCell ⟨w.heap.size + 1, 1, none⟩ (.slice a0 n0 c0)).cell? ⟨w.heap.size + 1, 0, none⟩ = some (.int .i64 g) := by
        rw [World.cell?_setCell_other _ _ _ _ (by simp), World.cell?_setCell_same _ _ _ r0]
      have s1 : ((wr.setCell ⟨w.heap.size + 1, 0, none⟩ (.int .i64 g)).setCell ⟨w.heap.size + 1, 1, none⟩ (.slice a0 n0 c0)).cell? ⟨w.heap.size + 1, 1, none⟩ = some (.slice a0 n0 c0) :=
        World.cell?_setCell_same _ _ _ ((World.cell?_setCell_other _ _ _ _ (by simp)).trans r1)
      have hfar : ∀ j, (Value.slice a0 n0 c0).ownBlock = some j → w.heap.size + 1 + 1 + 1 ≤ j := fun j e => own_ge HO.out e
      refine bodyPost_ret (v := .agg #[.int .i64 g, .slice a0 n0 c0]) (by simp [results, Tryz.results12, go_sem, s0, s1]) rfl ⟨_, rfl, ?_, fun j e => by have := hfar j e; omega, (HB0.setCell (by show w.heap.size ≤ w.heap.size + 1; omega) _).setCell (by show w.heap.size ≤ w.heap.size + 1; omega) _⟩
      unfold OwnSegs
      exact ownsRow_setCell_other (ownsRow_setCell_other (ownsRow_base HO.out (fun _ _ => Nat.zero_le _)) (fun e => by have := hfar _ e; simp at this; omega) _) (fun e => by have := hfar _ e; simp at this; omega) _

end Go.Proofs.YtljmekdilhphaaaGreatDoor

/- The walk of Segs. -/
import Derived.Test.YtcdjckdbcffgdaaGreatDoorMAw
import Derived.Test.YtcdjckdbcffgdaaGreatDoorMkWi
import Derived.Deep.RegionHeld3
namespace Go.Proofs.YtcdjckdbcffgdaaGreatDoor
open Go.RowKit Go.Sort

set_option maxRecDepth 100000 in
set_option maxHeartbeats 2000000 in
theorem lg_segs (w : World) (S : Nat → Prop) (g p : Nat) (l : LgSt) (h : IsLg w S g p l) (hb : l.segs.length ≤ 64) (h0 : 0 < l.segs.length) :
    Calls Tryz.prog 13 #[.pointer (some ⟨g, 0, none⟩)] w fun e w' => ∃ v, e = .returned (.agg #[.int .i64 l.gen, v]) ∧ OwnSegs w' v l.segs ∧ (∀ b, v.ownBlock = some b → w.heap.size ≤ b) ∧ Below w.heap.size w w' := by
  obtain ⟨sv, iv, xs, S1, h, _, _, _⟩ := h
  obtain ⟨a, c, rfl⟩ := h.segs.shape
  obtain ⟨_, _, _, _, c4, c5, _⟩ := h.cs
  have hgl := h.gl
  have HS := Lib.hid h.segs
  clear h
  go_enter Tryz.func13, Tryz.ntmps13
  go_wp2_with fail
  have d4 : (w.alloc (.cells #[.int .i64 0, .slice none 0 0] 38)).cell? ⟨g, 4, none⟩ = some (.int .i64 l.gen) := (World.cell?_alloc_past _ _ _ hgl).trans c4
  have d5 : (w.alloc (.cells #[.int .i64 0, .slice none 0 0] 38)).cell? ⟨g, 5, none⟩ = some (.slice a l.segs.length c) := (World.cell?_alloc_past _ _ _ hgl).trans c5
  have hbox : (w.alloc (.cells #[.int .i64 0, .slice none 0 0] 38)).heap[w.heap.size]? = some (.cells #[.int .i64 0, .slice none 0 0] 38 (0, 0)) := alloc_at_top _ _ rfl
  have HB0 := Lib.hid ((Below.refl w.heap.size w).alloc (Nat.le_refl _) (.cells #[.int .i64 0, .slice none 0 0] 38))
  have hz0 : w.heap.size < (w.alloc (.cells #[.int .i64 0, .slice none 0 0] 38)).heap.size := by simp
  have hgB : g ≠ w.heap.size := by omega
  have hgl0 : g < (w.alloc (.cells #[.int .i64 0, .slice none 0 0] 38)).heap.size := by simp; omega
  have HS0 := Lib.hid (HS.out.pure HB0.out)
  generalize w.alloc (.cells #[.int .i64 0, .slice none 0 0] 38) = w0 at *
  have HBX := Lib.hid hbox
  have HCON := Lib.hid (fun W (hb : Below w0.heap.size w0 W) => clone_segs W (.slice a l.segs.length c) l.segs (HS0.out.pure hb) h0 (by omega))
  clear hbox
  go_region_held3 (fun w' => w'.cell? ⟨g, 4, none⟩ = some (.int .i64 l.gen) ∧ w'.cell? ⟨g, 5, none⟩ = some (.slice a l.segs.length c)) (first | exact ⟨d4, d5⟩ | exact ⟨e4, e5⟩ | (refine ⟨?_, ?_⟩ <;> ((repeat rw [World.cell?_setCell_other _ _ _ _ (by intro e; have e2 := congrArg Addr.block e; simp at e2; omega)]); first | exact e4 | exact e5)) | go_keep) (first
    | (go_at_call 52; refine (HCON.out _ (by first | exact Below.refl _ _ | exact (Below.refl _ _).drew)).mono ?_; rintro e W1 ⟨v1, rfl, hv1, hvb1, hb1⟩; obtain ⟨g1, c1, rfl⟩ := own_some hv1 h0; have hg1 := hvb1 g1 rfl; have BW := Below.trans (show Below w0.heap.size w0 _ from (by first | exact Below.refl _ _ | exact (Below.refl _ _).drew)) hb1; have e4 := (BW.cell (p := ⟨g, 4, none⟩) hgl0).trans d4; have e5 := (BW.cell (p := ⟨g, 5, none⟩) hgl0).trans d5; have bx := (BW.block _ hz0).trans HBX.out; have x0 : W1.cell? ⟨w.heap.size, 0, none⟩ = some (.int .i64 0) := (cell_of_row _ _ _ _ _ _ bx).trans rfl; have x1 : W1.cell? ⟨w.heap.size, 1, none⟩ = some (.slice none 0 0) := (cell_of_row _ _ _ _ _ _ bx).trans rfl; have z0 : ∀ j : Nat, W1.frozen? ⟨w.heap.size, j, none⟩ = false := fun j => frozen_of_row _ _ _ _ _ bx; have BX := Lib.hid bx; have HV := Lib.hid hv1; have HB1 := Lib.hid BW; clear hv1 hvb1 hb1 BW bx))
  go_wp2
  simp at hg1
  have hq := heap_setCell_same _ _ 1 _ _ (.slice (some ⟨g1, 0, none⟩) l.segs.length c1) (heap_setCell_same W1 _ 0 _ _ (.int .i64 l.gen) BX.out)
  have r0 : ((W1.setCell ⟨w.heap.size, 0, none⟩ (.int .i64 l.gen)).setCell ⟨w.heap.size, 1, none⟩ (.slice (some ⟨g1, 0, none⟩) l.segs.length c1)).cell? ⟨w.heap.size, 0, none⟩ = some (.int .i64 l.gen) := (cell_of_row _ _ _ _ _ _ hq).trans rfl
  have r1 : ((W1.setCell ⟨w.heap.size, 0, none⟩ (.int .i64 l.gen)).setCell ⟨w.heap.size, 1, none⟩ (.slice (some ⟨g1, 0, none⟩) l.segs.length c1)).cell? ⟨w.heap.size, 1, none⟩ = some (.slice (some ⟨g1, 0, none⟩) l.segs.length c1) := (cell_of_row _ _ _ _ _ _ hq).trans rfl
  have hnb : some g1 ≠ some w.heap.size := fun e => by have := Option.some.inj e; omega
  refine bodyPost_ret (v := .agg #[.int .i64 l.gen, .slice (some ⟨g1, 0, none⟩) l.segs.length c1]) (by simp [results, Tryz.results13, go_sem, r0, r1]) rfl ?_
  refine ⟨_, rfl, ownsRow_setCell_other (a := ⟨w.heap.size, 1, none⟩) (ownsRow_setCell_other (a := ⟨w.heap.size, 0, none⟩) HV.out hnb _) hnb _, fun b e => by have := Option.some.inj e; simp at this; omega, ?_⟩
  exact ((HB0.out.trans (HB1.out.mono HB0.out.size)).setCell (Nat.le_refl _) _).setCell (Nat.le_refl _) _
end Go.Proofs.YtcdjckdbcffgdaaGreatDoor

/- The walk of manif.With. -/
import Derived.Test.YtcdjckdbcffgdaaGreatDoorMAl
import Derived.Deep.DeepCutAuto
import Derived.Deep.RegionHeld3
namespace Go.Proofs.YtcdjckdbcffgdaaGreatDoor
open Go.RowKit Go.Sort

theorem bcell {W w1 : World} (hb : Below W.heap.size W w1) : (∀ b o, b < W.heap.size → w1.cell? ⟨b, o, none⟩ = W.cell? ⟨b, o, none⟩) ∧ (∀ b o, b < W.heap.size → w1.frozen? ⟨b, o, none⟩ = W.frozen? ⟨b, o, none⟩) :=
  ⟨fun b o h => hb.cell (p := ⟨b, o, none⟩) h, fun b o h => hb.frozen (p := ⟨b, o, none⟩) h⟩
theorem heap_drew (w : World) : w.drew.heap = w.heap := rfl
theorem own_snoc {w : World} {v : Value} {l : Segs} {x y : Int} (h : w.ownsRow 0 76 2 v (l.length + 1) (segCells l ++ [.int .i64 x, .int .i64 y])) : OwnSegs w v (l ++ [(x, y)]) := by
  unfold OwnSegs
  rw [segCells_snoc, List.length_append]; exact h
theorem at_of {a b c : Nat} (h : some a = some b ∨ b = c) : b = a ∨ b = c := h.imp (fun e => (Option.some.inj e).symm) id
theorem two_of {p q : Value} {j : Nat} {u : Value} (h : [p, q][j]? = some u) : j = 0 ∧ u = p ∨ j = 1 ∧ u = q := by
  rcases j with _ | _ | j
  · exact .inl ⟨rfl, by simpa [eq_comm] using h⟩
  · exact .inr ⟨rfl, by simpa [eq_comm] using h⟩
  · simp at h
theorem add_at (n j : Nat) : (⟨n, 0, none⟩ : Addr).add j = ⟨n, j, none⟩ := by unfold Addr.add; split <;> simp_all
theorem own_some {w : World} {v : Value} {l : Segs} (h : OwnSegs w v l) (h0 : 0 < l.length) : ∃ g c, v = .slice (some ⟨g, 0, none⟩) l.length c := by
  rcases h.2 with ⟨_, hn⟩ | ⟨g, cap, cur, hv, _⟩
  · omega
  · exact ⟨g, cap, hv⟩
theorem own_top {w : World} {g n c : Nat} {l : Segs} (h : OwnSegs w (.slice (some ⟨g, 0, none⟩) n c) l) : g < w.heap.size := by
  rcases h.2 with ⟨hv, _⟩ | ⟨g', cap, cur, hv, _, hh, _⟩
  · cases hv
  · cases hv; exact lt_of_block hh
/-- What With tells of a manifest that may be. -/
def WithPost (g : Int) (l : Segs) (x y : Int) (w : World) (e : Ending) (w' : World) : Prop :=
  Below w.heap.size w w' ∧ if mayB g (l ++ [(x, y)]) then ∃ v, OwnSegs w' v (l ++ [(x, y)]) ∧ (∀ b, v.ownBlock = some b → w.heap.size ≤ b) ∧ e = .returned (.tuple #[.agg #[.int .i64 g, v], .int .i64 0]) else e = .returned (.tuple #[noMan, .int .i64 4])

set_option maxRecDepth 100000 in
set_option maxHeartbeats 2000000 in
theorem with_ok (w : World) (g : Int) (sv : Value) (l : Segs) (hs : SegsAt w sv l) (hm : mayB g l = true) (x y : Int) :
    Calls Tryz.prog 106 #[.agg #[.int .i64 g, sv], .agg #[.int .i64 x, .int .i64 y]] w fun e w' => WithPost g l x y w e w' := by
  obtain ⟨a, c, rfl⟩ := hs.shape
  obtain ⟨_, _, hl0, hl1, _⟩ := mayB_all hm
  have HS := Lib.hid hs
  have HM := Lib.hid hm
  clear hs hm
  go_enter Tryz.func106, Tryz.ntmps106
  go_wp2_with fail
  have hbz : Below w.heap.size w (((w.alloc (.cells #[.int .i64 g, .slice a l.length c] 38)).alloc (.cells #[.int .i64 x, .int .i64 y] 76)).alloc (.cells #[.int .i64 0, .slice none 0 0] 38)) := ((((Below.refl _ _).alloc (Nat.le_refl _) _).alloc (by simp) _).alloc (by simp; omega) _)
  have b0 : (((w.alloc (.cells #[.int .i64 g, .slice a l.length c] 38)).alloc (.cells #[.int .i64 x, .int .i64 y] 76)).alloc (.cells #[.int .i64 0, .slice none 0 0] 38)).heap[w.heap.size]? = some (.cells #[.int .i64 g, .slice a l.length c] 38 (0, 0)) := (Below.heap_alloc _ _ _ (by simp; omega)).trans ((Below.heap_alloc _ _ _ (by simp)).trans (alloc_at_top _ _ rfl))
  have b1 : (((w.alloc (.cells #[.int .i64 g, .slice a l.length c] 38)).alloc (.cells #[.int .i64 x, .int .i64 y] 76)).alloc (.cells #[.int .i64 0, .slice none 0 0] 38)).heap[w.heap.size + 1]? = some (.cells #[.int .i64 x, .int .i64 y] 76 (0, 0)) := (Below.heap_alloc _ _ _ (by simp)).trans (alloc_at_top _ _ (by simp))
  have b2 : (((w.alloc (.cells #[.int .i64 g, .slice a l.length c] 38)).alloc (.cells #[.int .i64 x, .int .i64 y] 76)).alloc (.cells #[.int .i64 0, .slice none 0 0] 38)).heap[w.heap.size + 1 + 1]? = some (.cells #[.int .i64 0, .slice none 0 0] 38 (0, 0)) := alloc_at_top _ _ (by simp)
  have hsz : w.heap.size + 3 = (((w.alloc (.cells #[.int .i64 g, .slice a l.length c] 38)).alloc (.cells #[.int .i64 x, .int .i64 y] 76)).alloc (.cells #[.int .i64 0, .slice none 0 0] 38)).heap.size := by simp
  generalize (((w.alloc (.cells #[.int .i64 g, .slice a l.length c] 38)).alloc (.cells #[.int .i64 x, .int .i64 y] 76)).alloc (.cells #[.int .i64 0, .slice none 0 0] 38)) = w0 at *
  have hsz1 : w.heap.size + 1 + 1 < w0.heap.size := by omega
  have hszB : w.heap.size + 1 < w0.heap.size := by omega
  have hszA : w.heap.size < w0.heap.size := by omega
  have HBZ := Lib.hid hbz
  have HB0 := Lib.hid b0
  have HB1 := Lib.hid b1
  have HB2 := Lib.hid b2
  have HCON := Lib.hid (show ∀ W, Below w0.heap.size w0 W → Calls Tryz.prog 52 #[.slice a l.length c] W fun e W' => ∃ v, e = .returned v ∧ OwnSegs W' v l ∧ (∀ b, v.ownBlock = some b → W.heap.size ≤ b) ∧ Below W.heap.size W W' from fun W hW => clone_segs W _ l (HS.out.pure (hbz.trans (hW.mono hbz.size))) hl0 (by omega))
  clear hbz b0 b1 b2 hsz
  have m0 : w0.cell? ⟨w.heap.size, 0, none⟩ = some (.int .i64 g) := by rw [cell_of_row _ _ _ _ _ _ HB0.out]; rfl
  have m1 : w0.cell? ⟨w.heap.size, 1, none⟩ = some (.slice a l.length c) := by rw [cell_of_row _ _ _ _ _ _ HB0.out]; rfl
  have x0 : w0.cell? ⟨w.heap.size + 1, 0, none⟩ = some (.int .i64 x) := by rw [cell_of_row _ _ _ _ _ _ HB1.out]; rfl
  have x1 : w0.cell? ⟨w.heap.size + 1, 1, none⟩ = some (.int .i64 y) := by rw [cell_of_row _ _ _ _ _ _ HB1.out]; rfl
  have hD : Below w0.heap.size w0 w0.drew := (Below.refl _ _).drew
  have hE : Below w0.heap.size w0 (w0.drew.alloc (.cells #[.int .i64 x, .int .i64 y] 76)) := hD.alloc (Nat.le_refl _) _
  have HD := Lib.hid hD
  have HE := Lib.hid hE
  clear hD hE
  obtain ⟨i0, hi, hz0, hz1, hz2⟩ := info_parts Tryz.infoEntry
  have HI := Lib.hid hi
  have HZ0 := Lib.hid hz0
  have HZ1 := Lib.hid hz1
  have HZ2 := Lib.hid hz2
  clear hi hz0 hz1 hz2
  go_cut [6] (fun s wx => ∃ q v, s = .pointer (some ⟨q, 0, none⟩) ∧ wx.heap[q]? = some (.cells #[.int .i64 g, v] 38 (0, 0)) ∧ w0.heap.size ≤ q ∧ OwnSegs wx v (l ++ [(x, y)]) ∧ (∀ j, v.ownBlock = some j → w0.heap.size ≤ j) ∧ Below w0.heap.size w0 wx)
  case first =>
    go_region_held3 (fun w' => w'.cell? ⟨w.heap.size, 0, none⟩ = some (.int .i64 g) ∧ w'.cell? ⟨w.heap.size, 1, none⟩ = some (.slice a l.length c) ∧ w'.cell? ⟨w.heap.size + 1, 0, none⟩ = some (.int .i64 x) ∧ w'.cell? ⟨w.heap.size + 1, 1, none⟩ = some (.int .i64 y)) (first | exact ⟨m0, m1, x0, x1⟩ | exact ⟨q0, q1, q2, q3⟩ | exact ⟨y0, y9, y1, y2⟩ | (simp; exact ⟨m0, m1, x0, x1⟩) | (refine ⟨?_, ?_, ?_, ?_⟩ <;> ((repeat rw [World.cell?_setCell_other _ _ _ _ (by intro e; have e2 := congrArg Addr.block e; simp at e2; omega)]); first | exact q0 | exact q1 | exact q2 | exact q3)) | go_keep) (first
      | (go_at_call 52; refine (HCON.out _ (by repeat (first | exact HD.out | exact Below.refl _ _ | refine Below.drew ?_ | refine Below.alloc ?_ (by first | (simp; done) | (simp; omega) | omega) _))).mono ?_; rintro e W1 ⟨v1, rfl, hv1, hvb1, hb1⟩; obtain ⟨g1, c1, rfl⟩ := own_some hv1 hl0; have hg1 := hvb1 g1 rfl; have hg2 := own_top hv1; have hz1 := hb1.size; have BW := Below.trans (show Below w0.heap.size w0 _ from (by repeat (first | exact HD.out | exact Below.refl _ _ | refine Below.drew ?_ | refine Below.alloc ?_ (by first | (simp; done) | (simp; omega) | omega) _))) (hb1.mono (by first | (simp; done) | (simp; omega) | omega)); have y0 := (BW.cell (p := ⟨w.heap.size, 0, none⟩) hszA).trans m0; have y9 := (BW.cell (p := ⟨w.heap.size, 1, none⟩) hszA).trans m1; have y1 := (BW.cell (p := ⟨w.heap.size + 1, 0, none⟩) hszB).trans x0; have y2 := (BW.cell (p := ⟨w.heap.size + 1, 1, none⟩) hszB).trans x1; have HK := Lib.hid (fun (b o : Nat) (v : Value) (h : World.cell? _ ⟨b, o, none⟩ = some v) => (hb1.cell (p := ⟨b, o, none⟩) (ltOfCell h)).trans h); have HKB := Lib.hid (fun (b : Nat) (o : Obj) (h : (World.heap _)[b]? = some o) => (hb1.block b (lt_of_block h)).trans h); simp at hg1 hz1; have hlA : w.heap.size < W1.heap.size := (by omega); have hlB : w.heap.size + 1 < W1.heap.size := (by omega); have HV := Lib.hid hv1; have HB1 := Lib.hid BW; clear hv1 hvb1 hb1 BW)
      | (refine step_append_lies _ (by rfl) _ _ _ (by rfl) 0 76 i0 _ 2 16 Tryz.underlying36 HI.out HZ0.out HZ1.out HZ2.out rfl (by omega) _ l.length (segCells l) (by rfl) (by repeat (first | exact HV.out | refine World.ownsRow.alloc ?_ _)) _ 1 1 [.int .i64 x, .int .i64 y] (by rfl) (by rfl) (by intro j u hj; have hj2 : j = 0 ∧ u = .int .i64 x ∨ j = 1 ∧ u = .int .i64 y := two_of hj; rcases hj2 with ⟨rfl, rfl⟩ | ⟨rfl, rfl⟩ <;> (rw [add_at]; ((try rw [World.cell?_drew]); (repeat rw [World.cell?_alloc_past _ _ _ (by first | (simp; done) | (simp; omega) | omega)])); first | (rw [World.cell?_alloc_at _ _ _ _ (by first | (simp; done) | (simp; omega) | omega)]; rfl) | (refine HK.out _ _ _ ?_; ((try rw [World.cell?_drew]); (repeat rw [World.cell?_alloc_past _ _ _ (by first | (simp; done) | (simp; omega) | omega)])); (rw [World.cell?_alloc_at _ _ _ _ (by first | (simp; done) | (simp; omega) | omega)]; rfl)))) (by simp [Value.oneCell']) (by omega) (by unfold maxLen; omega) (by omega) (Nat.zero_le _) _ (by rfl) ?_; intro gg cap w8 hown8 hgrow8 hat8 hlt8; have BW8 := Below.grown (show Below w0.heap.size w0 _ from (by repeat (first | exact HB1.out | refine Below.drew ?_ | refine Below.alloc ?_ (by first | (simp; done) | (simp; omega) | omega) _))) hgrow8 (by first | (simp; done) | (simp; omega) | omega) (fun k e => by have e2 := Option.some.inj (show some g1 = some k from e); omega); have q0 := (BW8.cell (p := ⟨w.heap.size, 0, none⟩) hszA).trans m0; have q1 := (BW8.cell (p := ⟨w.heap.size, 1, none⟩) hszA).trans m1; have q2 := (BW8.cell (p := ⟨w.heap.size + 1, 0, none⟩) hszB).trans x0; have q3 := (BW8.cell (p := ⟨w.heap.size + 1, 1, none⟩) hszB).trans x1; (first | (have z8 : w8.heap[W1.heap.size]? = some (.cells #[.int .i64 0, .slice none 0 0] 38 (0, 0)) := (hgrow8.block _ (by first | (simp; done) | (simp; omega) | omega) (fun e => by have e2 := Option.some.inj (show some (W1.heap.size) = some g1 from e); omega)).trans (by ((try rw [heap_drew]); (repeat rw [Below.heap_alloc _ _ _ (by first | (simp; done) | (simp; omega) | omega)])); first | exact alloc_at_top _ _ (by first | (simp; done) | (simp; omega) | omega) | (refine HKB.out _ _ ?_; ((try rw [heap_drew]); (repeat rw [Below.heap_alloc _ _ _ (by first | (simp; done) | (simp; omega) | omega)])); exact alloc_at_top _ _ (by first | (simp; done) | (simp; omega) | omega))); have c8 : w8.cell? ⟨W1.heap.size, 0, none⟩ = some (.int .i64 0) := (cell_of_row w8 _ 0 _ _ _ z8).trans rfl; have c9 : w8.cell? ⟨W1.heap.size, 1, none⟩ = some (.slice none 0 0) := (cell_of_row w8 _ 1 _ _ _ z8).trans rfl; have f8 : w8.frozen? ⟨W1.heap.size, 0, none⟩ = false := frozen_of_row w8 _ 0 _ _ z8; have f9 : w8.frozen? ⟨W1.heap.size, 1, none⟩ = false := frozen_of_row w8 _ 1 _ _ z8; have HZ8 := Lib.hid z8; clear z8) | (have z8 : w8.heap[W1.heap.size + 1]? = some (.cells #[.int .i64 0, .slice none 0 0] 38 (0, 0)) := (hgrow8.block _ (by first | (simp; done) | (simp; omega) | omega) (fun e => by have e2 := Option.some.inj (show some (W1.heap.size + 1) = some g1 from e); omega)).trans (by ((try rw [heap_drew]); (repeat rw [Below.heap_alloc _ _ _ (by first | (simp; done) | (simp; omega) | omega)])); first | exact alloc_at_top _ _ (by first | (simp; done) | (simp; omega) | omega) | (refine HKB.out _ _ ?_; ((try rw [heap_drew]); (repeat rw [Below.heap_alloc _ _ _ (by first | (simp; done) | (simp; omega) | omega)])); exact alloc_at_top _ _ (by first | (simp; done) | (simp; omega) | omega))); have c8 : w8.cell? ⟨W1.heap.size + 1, 0, none⟩ = some (.int .i64 0) := (cell_of_row w8 _ 0 _ _ _ z8).trans rfl; have c9 : w8.cell? ⟨W1.heap.size + 1, 1, none⟩ = some (.slice none 0 0) := (cell_of_row w8 _ 1 _ _ _ z8).trans rfl; have f8 : w8.frozen? ⟨W1.heap.size + 1, 0, none⟩ = false := frozen_of_row w8 _ 0 _ _ z8; have f9 : w8.frozen? ⟨W1.heap.size + 1, 1, none⟩ = false := frozen_of_row w8 _ 1 _ _ z8; have HZ8 := Lib.hid z8; clear z8) | (have z8 : w8.heap[w0.heap.size]? = some (.cells #[.int .i64 0, .slice none 0 0] 38 (0, 0)) := (hgrow8.block _ (by first | (simp; done) | (simp; omega) | omega) (fun e => by have e2 := Option.some.inj (show some (w0.heap.size) = some g1 from e); omega)).trans (by ((try rw [heap_drew]); (repeat rw [Below.heap_alloc _ _ _ (by first | (simp; done) | (simp; omega) | omega)])); first | exact alloc_at_top _ _ (by first | (simp; done) | (simp; omega) | omega) | (refine HKB.out _ _ ?_; ((try rw [heap_drew]); (repeat rw [Below.heap_alloc _ _ _ (by first | (simp; done) | (simp; omega) | omega)])); exact alloc_at_top _ _ (by first | (simp; done) | (simp; omega) | omega))); have c8 : w8.cell? ⟨w0.heap.size, 0, none⟩ = some (.int .i64 0) := (cell_of_row w8 _ 0 _ _ _ z8).trans rfl; have c9 : w8.cell? ⟨w0.heap.size, 1, none⟩ = some (.slice none 0 0) := (cell_of_row w8 _ 1 _ _ _ z8).trans rfl; have f8 : w8.frozen? ⟨w0.heap.size, 0, none⟩ = false := frozen_of_row w8 _ 0 _ _ z8; have f9 : w8.frozen? ⟨w0.heap.size, 1, none⟩ = false := frozen_of_row w8 _ 1 _ _ z8; have HZ8 := Lib.hid z8; clear z8) | (have z8 : w8.heap[w0.heap.size + 1]? = some (.cells #[.int .i64 0, .slice none 0 0] 38 (0, 0)) := (hgrow8.block _ (by first | (simp; done) | (simp; omega) | omega) (fun e => by have e2 := Option.some.inj (show some (w0.heap.size + 1) = some g1 from e); omega)).trans (by ((try rw [heap_drew]); (repeat rw [Below.heap_alloc _ _ _ (by first | (simp; done) | (simp; omega) | omega)])); first | exact alloc_at_top _ _ (by first | (simp; done) | (simp; omega) | omega) | (refine HKB.out _ _ ?_; ((try rw [heap_drew]); (repeat rw [Below.heap_alloc _ _ _ (by first | (simp; done) | (simp; omega) | omega)])); exact alloc_at_top _ _ (by first | (simp; done) | (simp; omega) | omega))); have c8 : w8.cell? ⟨w0.heap.size + 1, 0, none⟩ = some (.int .i64 0) := (cell_of_row w8 _ 0 _ _ _ z8).trans rfl; have c9 : w8.cell? ⟨w0.heap.size + 1, 1, none⟩ = some (.slice none 0 0) := (cell_of_row w8 _ 1 _ _ _ z8).trans rfl; have f8 : w8.frozen? ⟨w0.heap.size + 1, 0, none⟩ = false := frozen_of_row w8 _ 0 _ _ z8; have f9 : w8.frozen? ⟨w0.heap.size + 1, 1, none⟩ = false := frozen_of_row w8 _ 1 _ _ z8; have HZ8 := Lib.hid z8; clear z8) | skip); have HB8 := Lib.hid BW8; have HO8 := Lib.hid (own_snoc hown8); have hgg := at_of (show some g1 = some gg ∨ gg = _ from hat8); (try simp at hgg); clear BW8 hown8 hgrow8 hat8))
    all_goals (go_wp2_with fail; go_meet; first | exact ⟨w8.heap.size, _, rfl, alloc_at_top _ _ rfl, HB8.out.size, World.ownsRow.alloc HO8.out _, (fun j e => by have e2 := Option.some.inj e; simp at e2; omega), HB8.out.alloc HB8.out.size _⟩ | exact ⟨(W1.heap.size), _, rfl, heap_setCell_same _ _ 1 _ _ _ (heap_setCell_same w8 _ 0 _ _ _ HZ8.out), (by first | (simp; done) | (simp; omega) | omega), ownsRow_setCell_other (ownsRow_setCell_other HO8.out (fun e => by have e2 := Option.some.inj e; simp at e2; omega) _) (fun e => by have e2 := Option.some.inj e; simp at e2; omega) _, (fun j e => by have e2 := Option.some.inj e; simp at e2; omega), (HB8.out.setCell (by first | (simp; done) | (simp; omega) | omega) _).setCell (by first | (simp; done) | (simp; omega) | omega) _⟩ | exact ⟨(W1.heap.size + 1), _, rfl, heap_setCell_same _ _ 1 _ _ _ (heap_setCell_same w8 _ 0 _ _ _ HZ8.out), (by first | (simp; done) | (simp; omega) | omega), ownsRow_setCell_other (ownsRow_setCell_other HO8.out (fun e => by have e2 := Option.some.inj e; simp at e2; omega) _) (fun e => by have e2 := Option.some.inj e; simp at e2; omega) _, (fun j e => by have e2 := Option.some.inj e; simp at e2; omega), (HB8.out.setCell (by first | (simp; done) | (simp; omega) | omega) _).setCell (by first | (simp; done) | (simp; omega) | omega) _⟩ | exact ⟨(w0.heap.size), _, rfl, heap_setCell_same _ _ 1 _ _ _ (heap_setCell_same w8 _ 0 _ _ _ HZ8.out), (by first | (simp; done) | (simp; omega) | omega), ownsRow_setCell_other (ownsRow_setCell_other HO8.out (fun e => by have e2 := Option.some.inj e; simp at e2; omega) _) (fun e => by have e2 := Option.some.inj e; simp at e2; omega) _, (fun j e => by have e2 := Option.some.inj e; simp at e2; omega), (HB8.out.setCell (by first | (simp; done) | (simp; omega) | omega) _).setCell (by first | (simp; done) | (simp; omega) | omega) _⟩ | exact ⟨(w0.heap.size + 1), _, rfl, heap_setCell_same _ _ 1 _ _ _ (heap_setCell_same w8 _ 0 _ _ _ HZ8.out), (by first | (simp; done) | (simp; omega) | omega), ownsRow_setCell_other (ownsRow_setCell_other HO8.out (fun e => by have e2 := Option.some.inj e; simp at e2; omega) _) (fun e => by have e2 := Option.some.inj e; simp at e2; omega) _, (fun j e => by have e2 := Option.some.inj e; simp at e2; omega), (HB8.out.setCell (by first | (simp; done) | (simp; omega) | omega) _).setCell (by first | (simp; done) | (simp; omega) | omega) _⟩)
  case rest =>
    obtain ⟨q, v, rfl, hq, hqg, hv, hvb, hbw⟩ := hcut
    obtain ⟨a2, n2, c2, rfl⟩ := own_shape hv
    have HV := Lib.hid hv
    have BC := Lib.hid (HBZ.out.trans (hbw.mono HBZ.out.size))
    have b0 := (hbw.block _ hszA).trans HB0.out
    have b2 := (hbw.block _ hsz1).trans HB2.out
    have m0 : wc.cell? ⟨w.heap.size, 0, none⟩ = some (.int .i64 g) := by rw [cell_of_row _ _ _ _ _ _ b0]; rfl
    have m1 : wc.cell? ⟨w.heap.size, 1, none⟩ = some (.slice a l.length c) := by rw [cell_of_row _ _ _ _ _ _ b0]; rfl
    have HBC := Lib.hid (And.intro hq b2)
    have hwc := hbw.size
    have hql := lt_of_block hq
    have hll : (l ++ [(x, y)]).length ≤ 65 := by rw [List.length_append]; simp; omega
    clear hq hv hbw b0 b2 x0 x1
    go_wp2_with fail
    refine (may_any wc g (.slice a l.length c) l (HS.out.pure BC.out) (by omega)).mono ?_
    rintro e w2 ⟨rfl, hb2⟩
    rw [HM.out]
    have B2 := Lib.hid (BC.out.trans (hb2.mono BC.out.size))
    have HV2 := Lib.hid ((Fr.pure (S := fun _ => False) hb2).ownsRow HV.out (fun _ _ h => h))
    have bq := (hb2.block _ hql).trans HBC.out.1
    have q0 : w2.cell? ⟨q, 0, none⟩ = some (.int .i64 g) := by rw [cell_of_row _ _ _ _ _ _ bq]; rfl
    have q1 : w2.cell? ⟨q, 1, none⟩ = some (.slice a2 n2 c2) := by rw [cell_of_row _ _ _ _ _ _ bq]; rfl
    have HB2 := Lib.hid (And.intro bq ((hb2.block _ (by omega)).trans HBC.out.2))
    have hs2 := hb2.size
    clear hb2 bq
    go_wp2_with fail
    refine (may_any w2 g (.slice a2 n2 c2) (l ++ [(x, y)]) (OwnSegs.at HV2.out) (by omega)).mono ?_
    rintro e w3 ⟨rfl, hb3⟩
    have B3 := Lib.hid (B2.out.trans (hb3.mono B2.out.size))
    have HV3 := Lib.hid ((Fr.pure (S := fun _ => False) hb3).ownsRow HV2.out (fun _ _ h => h))
    have bq := (hb3.block _ (by omega)).trans HB2.out.1
    have br := (hb3.block _ (by omega)).trans HB2.out.2
    have q0 : w3.cell? ⟨q, 0, none⟩ = some (.int .i64 g) := by rw [cell_of_row _ _ _ _ _ _ bq]; rfl
    have q1 : w3.cell? ⟨q, 1, none⟩ = some (.slice a2 n2 c2) := by rw [cell_of_row _ _ _ _ _ _ bq]; rfl
    have r0 : w3.cell? ⟨w.heap.size + 1 + 1, 0, none⟩ = some (.int .i64 0) := by rw [cell_of_row _ _ _ _ _ _ br]; rfl
    have r1 : w3.cell? ⟨w.heap.size + 1 + 1, 1, none⟩ = some (.slice none 0 0) := by rw [cell_of_row _ _ _ _ _ _ br]; rfl
    have z : ∀ j : Nat, w3.frozen? ⟨w.heap.size + 1 + 1, j, none⟩ = false := fun j => frozen_of_row _ _ _ _ _ br
    have hs3 := hb3.size
    clear hb3 bq br
    cases hm2 : mayB g (l ++ [(x, y)])
    · have HM2 := Lib.hid hm2
      clear hm2
      go_wp2
      refine bodyPost_ret (v := .tuple #[noMan, .int .i64 4]) (by simp [results, Tryz.results106, go_sem, r0, r1]; rfl) rfl ⟨?_, ?_⟩
      · exact (B3.out.setCell (p := ⟨w.heap.size + 1 + 1, 0, none⟩) (by show w.heap.size ≤ w.heap.size + 1 + 1; omega) _).setCell (p := ⟨w.heap.size + 1 + 1, 1, none⟩) (by show w.heap.size ≤ w.heap.size + 1 + 1; omega) _
      · rw [HM2.out]; rfl
    · have HM2 := Lib.hid hm2
      clear hm2
      go_wp2
      refine bodyPost_ret (v := .tuple #[.agg #[.int .i64 g, .slice a2 n2 c2], .int .i64 0]) (by simp [results, Tryz.results106, go_sem, r0, r1]) rfl ⟨?_, ?_⟩
      · exact (B3.out.setCell (p := ⟨w.heap.size + 1 + 1, 0, none⟩) (by show w.heap.size ≤ w.heap.size + 1 + 1; omega) _).setCell (p := ⟨w.heap.size + 1 + 1, 1, none⟩) (by show w.heap.size ≤ w.heap.size + 1 + 1; omega) _
      · rw [HM2.out]
        refine ⟨_, ?_, fun j e => by have := hvb j e; omega, rfl⟩
        exact ownsRow_setCell_other (ownsRow_setCell_other HV3.out (fun e => by have := hvb _ e; simp at this; omega) _) (fun e => by have := hvb _ e; simp at this; omega) _

end Go.Proofs.YtcdjckdbcffgdaaGreatDoor

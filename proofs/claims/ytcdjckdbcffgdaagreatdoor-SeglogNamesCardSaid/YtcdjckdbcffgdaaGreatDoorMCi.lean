/- The walk of frame.Scan. -/
import Derived.Test.YtcdjckdbcffgdaaGreatDoorMCd
import Derived.Maps.AppendAt
import Derived.RangeFuncBox
import Derived.Test.YtcdjckdbcffgdaaGreatDoorShelfC
import Derived.Test.YtcdjckdbcffgdaaGreatDoorMCe
namespace Go.Proofs.YtcdjckdbcffgdaaGreatDoor
open Go.RowKit Go.Shelf
attribute [local go_sem] Oper.semAt_some

/-- Frames as cells. -/
def frCells (l : List FrX) : List Value := l.flatMap fun x => [.int .i64 (x.q : Int), .string x.p, .int .i64 (x.a : Int)]
theorem frCells_length (l : List FrX) : (frCells l).length = l.length * 3 := by unfold frCells; rw [List.length_flatMap]; induction l with
  | nil => rfl
  | cons x r ih => simp at ih ⊢; omega
theorem frCells_snoc (l : List FrX) (x : FrX) : frCells (l ++ [x]) = frCells l ++ [.int .i64 (x.q : Int), .string x.p, .int .i64 (x.a : Int)] := by unfold frCells; simp
/-- A slice that the call owns, and that holds frames. -/
def OwnFrames (w : World) (v : Value) (l : List FrX) : Prop := w.ownsRow 0 149 3 v l.length (frCells l)
theorem Tryz.infoFrame : (Tryz.prog.info? 149).map (fun i => (i.zero, i.size, i.bytes)) = some (some (.agg #[.int .i64 0, .string ⟨#[]⟩, .int .i64 0]), 3, 32) := by kernel_rfl

theorem frames_any (s : ByteArray) (a q : Int) (w : World) :
    Calls Tryz.prog 135 #[.string s, .int .i64 a, .int .i64 q] w fun e w' => e = .returned (.func (.func 169) #[] #[.pointer (some ⟨w.heap.size, 0, none⟩), .pointer (some ⟨w.heap.size + 1, 0, none⟩), .pointer (some ⟨w.heap.size + 2, 0, none⟩)]) ∧
      w' = ((w.alloc (.cells #[.string s] 9)).alloc (.cells #[.int .i64 a] 3)).alloc (.cells #[.int .i64 q] 2) := by
  have hmf : ∀ (fn : Fn) (first cap : Array Value) (w : World), (Instr.makeFunc fn first cap).run Tryz.prog w = .ok (.func fn first cap) w := fun _ _ _ _ => rfl
  go_enter Tryz.func135, Tryz.ntmps135
  go_wp2
  go_ret
  exact ⟨by simp, rfl⟩

/-- What Scan tells: the frames that stand in their row, and where they end. -/
def ScanPost (s : List UInt8) (a q : Nat) (w : World) (e : Ending) (w' : World) : Prop :=
  Below w.heap.size w w' ∧ ∃ xs v, FsDone s a q xs ∧ OwnFrames w' v xs ∧ (∀ g, v.ownBlock = some g → w.heap.size ≤ g) ∧ e = .returned (.tuple #[v, .int .i64 (frEnd a xs : Int)])

/-- The two boxes of Scan's results. -/
structure ScAt (w W : World) (b : Nat) (a : Nat) (pre : List FrX) : Prop where
  box : ∃ v, W.heap[b]? = some (.cells #[v] 70 (0, 0)) ∧ W.ownsRow (b + 7) 149 3 v pre.length (frCells pre)
  good : W.heap[b + 1]? = some (.cells #[.int .i64 (frEnd a pre : Int)] 3 (0, 0))
  below : Below b w W
theorem alloc_topX {n : Nat} (w : World) (o : Obj) (h : n = w.heap.size) : (w.alloc o).heap[n]? = some o := by subst h; exact heap_alloc_new _ _
theorem own_geX {w : World} {base : Nat} {e : TypeId} {size : Nat} {v : Value} {n : Nat} {xs : List Value} (h : w.ownsRow base e size v n xs) {g : Nat} (hg : v.ownBlock = some g) : base ≤ g := by
  rcases h.2 with ⟨rfl, _⟩ | ⟨k, cap, cur, rfl, hb, _⟩
  · cases hg
  · cases hg; exact hb
theorem ScAt.bears (w : World) (b a : Nat) (hb : b = w.heap.size) : Bears (fun k => (k = b + 3 ∨ k = b + 4) ∨ k = b + 5 ∨ k = b + 6) (fun pre W => ScAt w W b a pre) := fun pre A B h hf => by
  obtain ⟨⟨v, h1, h2⟩, h4, h5⟩ := h
  refine ⟨⟨v, hf.heapAt h1 (by omega), hf.ownsRow h2 (fun g e => by have := own_geX h2 e; omega)⟩, hf.heapAt h4 (by omega), ?_⟩
  exact h5.trans (hf.below (B := b) (by have := lt_of_block h4; omega) (fun k hk => by omega))

set_option maxRecDepth 100000 in
set_option maxHeartbeats 4000000 in
theorem frscan_any (s : ByteArray) (a q : Nat) (w : World) (hs : s.size ≤ 1048576) (ha : a ≤ s.size) (hq : q ≤ 1048576) :
    Calls Tryz.prog 82 #[.string s, .int .i64 (a : Int), .int .i64 (q : Int)] w fun e w' => ScanPost s.data.toList a q w e w' := by
  have hmf : ∀ (fn : Fn) (first cap : Array Value) (w : World), (Instr.makeFunc fn first cap).run Tryz.prog w = .ok (.func fn first cap) w := fun _ _ _ _ => rfl
  refine (callsIn_wide (n := 6)).1 ?_
  refine callsIn_of_wp_marks Tryz.func82 rfl trivial ?_ rfl
  simp only [Tryz.ntmps82, List.size_toArray, List.length_cons, List.length_nil, Nat.reduceAdd, Nat.reduceSub, Array.replicate_succ, Array.replicate_zero, List.push_toArray, List.append_toArray, List.nil_append, List.cons_append]
  gi_wp2_with fail
  refine ⟨trivial, ?_⟩
  refine (callsIn_wide.2 (frames_any s (a : Int) (q : Int) _)).mono ?_
  rintro e w1 ⟨rfl, rfl⟩
  gi_wp2
  obtain ⟨W0, hW0⟩ : ∃ W0, W0 = ((((w.alloc (.cells #[.slice none 0 0] 70)).alloc (.cells #[.int .i64 (a : Int)] 3)).alloc (.cells #[.string s] 9)).alloc (.cells #[.int .i64 (a : Int)] 3)).alloc (.cells #[.int .i64 (q : Int)] 2) := ⟨_, rfl⟩
  obtain ⟨b, hb⟩ : ∃ b, b = w.heap.size := ⟨_, rfl⟩
  have hsz : W0.heap.size = b + 5 := by rw [hW0, hb]; simp
  have hbel : Below b w W0 := by rw [hW0, hb]; exact (((((Below.refl _ _).alloc (Nat.le_refl _) _).alloc (by simp) _).alloc (by simp; omega) _).alloc (by simp; omega) _).alloc (by simp; omega) _
  have k0 : W0.heap[b]? = some (.cells #[.slice none 0 0] 70 (0, 0)) := by
    rw [hW0, hb]; exact (Below.heap_alloc _ _ _ (by simp; omega)).trans ((Below.heap_alloc _ _ _ (by simp; omega)).trans ((Below.heap_alloc _ _ _ (by simp; omega)).trans ((Below.heap_alloc _ _ _ (by simp)).trans (heap_alloc_new _ _))))
  have k1 : W0.heap[b + 1]? = some (.cells #[.int .i64 (a : Int)] 3 (0, 0)) := by
    rw [hW0, hb]; exact (Below.heap_alloc _ _ _ (by simp)).trans ((Below.heap_alloc _ _ _ (by simp)).trans ((Below.heap_alloc _ _ _ (by simp)).trans (alloc_topX _ _ (by simp))))
  have k2 : W0.heap[b + 1 + 1]? = some (.cells #[.string s] 9 (0, 0)) := by
    rw [hW0, hb]; exact (Below.heap_alloc _ _ _ (by simp)).trans ((Below.heap_alloc _ _ _ (by simp)).trans (alloc_topX _ _ (by simp)))
  have k3 : W0.heap[b + 1 + 1 + 1]? = some (.cells #[.int .i64 (a : Int)] 3 (0, 0)) := by
    rw [hW0, hb]; exact (Below.heap_alloc _ _ _ (by simp)).trans (alloc_topX _ _ (by simp))
  have k4 : W0.heap[b + 1 + 1 + 2]? = some (.cells #[.int .i64 (q : Int)] 2 (0, 0)) := by
    rw [hW0, hb]; exact alloc_topX _ _ (by simp)
  have hat : FsAt W0 (b + 1 + 1) (b + 1 + 1 + 1) (b + 1 + 1 + 2) s a q := ⟨k2, k3, k4⟩
  have hsc : ScAt w W0 b a [] := ⟨⟨_, k0, World.ownsRow_nil _ _ _ _⟩, k1, hbel⟩
  rw [← hW0, ← hb]
  have HB := Lib.hid hb
  clear hW0 hb k0 k1 k2 k3 k4 hbel hmf
  obtain ⟨i0, hi, hz0, hz1, hz2⟩ := info_parts Tryz.infoFrame
  have HI := Lib.hid hi
  have HZ0 := Lib.hid hz0
  have HZ1 := Lib.hid hz1
  have HZ2 := Lib.hid hz2
  clear hi hz0 hz1 hz2
  refine wpIn_range_own (n := 6) rfl (by omega) (gf := 169) rfl trivial (enters_of Tryz.func169 (by kernel_rfl) rfl)
    (frames_seq W0 (b + 1 + 1) (b + 1 + 1 + 1) (b + 1 + 1 + 2) s a q (by omega) (by omega) (by omega) (by omega) ha hq hat (s.size + 1) (by omega))
    (fun k hk => by omega) (fun h k => ⟨Nat.le_trans h.1 k.1, k.2.1.trans h.2.1, k.2.2.1.trans h.2.2.1, k.2.2.2.trans h.2.2.2⟩)
    (fun W o h => ⟨by rw [World.putObj_size]; exact Nat.le_refl _, World.putObj_heap_other (by omega), World.putObj_heap_other (by omega), World.putObj_heap_other (by omega)⟩) (fun _ => rfl)
    (fun pre W => ScAt w W b a pre) (fun _ _ _ => False) ?bears (fun _ _ _ _ h _ => h) hsc
    (fun pre x a' W => ScAt w W b a pre ∧ ∃ Bx, b + 7 ≤ Bx ∧ W.heap[Bx]? = some (.cells #[.int .i64 (x.q : Int), .string x.p, .int .i64 (x.a : Int)] 149 (0, 0)) ∧
      a' = { tmps := #[.string s, .int .i64 (a : Int), .int .i64 (q : Int), undef, undef, undef, .pointer (some ⟨b, 0, none⟩), .pointer (some ⟨b + 1, 0, none⟩), .int .i64 (x.next : Int), .pointer (some ⟨Bx, 0, none⟩), .int .i64 (a : Int), .bool (decide ((a : Int) < 0)), .bool (decide ((a : Int) < 0)), .int .i64 (a : Int), .string s, .int .i64 (s.size : Int), .bool false, .bool (decide ((a : Int) < 0)), .int .i64 (a : Int), .string s, .int .i64 (a : Int), .int .i64 (q : Int),
        .func (.func 169) #[] #[.pointer (some ⟨b + 1 + 1, 0, none⟩), .pointer (some ⟨b + 1 + 1 + 1, 0, none⟩), .pointer (some ⟨b + 1 + 1 + 2, 0, none⟩)], .int .i64 (x.next : Int), .agg #[.int .i64 (x.q : Int), .string x.p, .int .i64 (x.a : Int)], undef, undef, undef, undef, undef, undef, undef], defers := [] })
    ?hA ?assign ?body ?done ?stop
  case bears => exact fun pre A B h hf => ScAt.bears w b a HB.out pre A B h (hf.mono (fun i _ e => by omega))
  case hA =>
    rintro pre x a' W o hlt ⟨h1, Bx, h2, h3, h4⟩
    exact ⟨ScAt.bears w b a HB.out pre _ _ h1 ((Fr.refl _ W).putObj _ (fun _ => by omega) o), Bx, h2, (World.putObj_heap_other (by omega)).trans h3, h4⟩
  case assign =>
    intro pre x W K hlt hI hK
    have HI := Lib.hid hI
    have HK := Lib.hid hK
    clear hI hK
    unfold frEnc
    gi_wp2
    refine HK.out _ _ ⟨ScAt.bears w b a HB.out pre _ _ HI.out ((Fr.refl _ W).alloc _), W.heap.size, by omega, heap_alloc_new _ _, rfl⟩ ?_ (by simp) ?_
    · exact RgIn.fr ((Fr.refl (fun _ => False) W).alloc _) hlt (fun h => h) (fun h => h)
    · exact ⟨by simp, Below.heap_alloc _ _ _ (by omega), Below.heap_alloc _ _ _ (by omega), Below.heap_alloc _ _ _ (by omega)⟩
  case body =>
    rintro pre x a' W hlt ⟨hI, Bx, hBx, hbx, rfl⟩ hlen
    obtain ⟨⟨v, hv, hrow⟩, hgood, hbel⟩ := hI
    have c0 : W.cell? ⟨b, 0, none⟩ = some v := (cell_of_row _ _ _ _ _ _ hv).trans rfl
    have z0 : W.frozen? ⟨b, 0, none⟩ = false := frozen_of_row _ _ 0 _ _ hv
    have c1 : W.cell? ⟨b + 1, 0, none⟩ = some (.int .i64 (frEnd a pre : Int)) := (cell_of_row _ _ _ _ _ _ hgood).trans rfl
    have z1 : W.frozen? ⟨b + 1, 0, none⟩ = false := frozen_of_row _ _ 0 _ _ hgood
    have d0 : W.cell? ⟨Bx, 0, none⟩ = some (.int .i64 (x.q : Int)) := (cell_of_row _ _ _ _ _ _ hbx).trans rfl
    have d1 : W.cell? ⟨Bx, 1, none⟩ = some (.string x.p) := (cell_of_row _ _ _ _ _ _ hbx).trans rfl
    have d2 : W.cell? ⟨Bx, 2, none⟩ = some (.int .i64 (x.a : Int)) := (cell_of_row _ _ _ _ _ _ hbx).trans rfl
    have HR := Lib.hid hrow
    have HV := Lib.hid hv
    have HG := Lib.hid hgood
    have HBL := Lib.hid hbel
    have hbW : b + 1 < W.heap.size := by omega
    clear hrow hv hgood hbel hbx
    have hrne : ∀ k, k < b + 7 → some k ≠ v.ownBlock := fun k hk e => by have := own_geX HR.out e.symm; omega
    have HRNE := Lib.hid hrne
    clear hrne
    gi_wp2_with (gi_at_builtin; refine wpListIn_append_own _ rfl _ _ 70 rfl (b + 7) 149 i0 _ 3 32 Tryz.underlying70 HI.out HZ0.out HZ1.out HZ2.out rfl (by decide) _ _ _ rfl (HR.out.alloc _) ⟨W.heap.size, 0, none⟩ 1 1 [.int .i64 (x.q : Int), .string x.p, .int .i64 (x.a : Int)] rfl rfl ?_ ?_ ?_ ?_ ?_ ?_; exact cells_new rfl rfl; simp [Value.oneCell']; (unfold maxLen; omega); omega; (rw [World.size_alloc]; omega); intro v' w1 hown' hgrow0 _; have hgrow : (W.alloc (.cells #[.int .i64 (x.q : Int), .string x.p, .int .i64 (x.a : Int)] 149)).grownBy w1 v.ownBlock := hgrow0; clear hgrow0; obtain ⟨g', cap', rfl⟩ := ownsRow_succ hown'; have hv1 := (hgrow.block b (by simp; omega) (HRNE.out b (by omega))).trans ((Below.heap_alloc _ _ _ (by omega)).trans HV.out); have hg1 := (hgrow.block (b + 1) (by simp; omega) (HRNE.out (b + 1) (by omega))).trans ((Below.heap_alloc _ _ _ (by omega)).trans HG.out); have c0 : w1.cell? ⟨b, 0, none⟩ = some v := (cell_of_row _ _ _ _ _ _ hv1).trans rfl; have z0 := frozen_of_row _ _ 0 _ _ hv1; have c1 : w1.cell? ⟨b + 1, 0, none⟩ = some (.int .i64 (frEnd a pre : Int)) := (cell_of_row _ _ _ _ _ _ hg1).trans rfl; have z1 := frozen_of_row _ _ 0 _ _ hg1; have HV1 := Lib.hid hv1; have HG1 := Lib.hid hg1; have HO := Lib.hid hown'; have HGR := Lib.hid hgrow; clear hv1 hg1 hown' hgrow)
    have hgb : b + 7 ≤ g' := own_geX HO.out rfl
    have hf1 : Fr (fun k => v.ownBlock = some k) W w1 := ((Fr.refl (fun k => v.ownBlock = some k) W).alloc _).grown HGR.out (fun k _ e => e)
    have hf : Fr (fun k => k = b ∨ k = b + 1 ∨ v.ownBlock = some k) W ((w1.setCell ⟨b, 0, none⟩ (.slice (some ⟨g', 0, none⟩) (pre.length + 1) cap')).setCell ⟨b + 1, 0, none⟩ (.int .i64 (x.next : Int))) :=
      ((hf1.mono (fun i _ e => .inr (.inr e))).setCell ⟨b, 0, none⟩ (fun _ => .inl rfl) _).setCell ⟨b + 1, 0, none⟩ (fun _ => .inr (.inl rfl)) _
    have hno : ∀ k, b + 2 ≤ k → k < b + 7 → ¬ (k = b ∨ k = b + 1 ∨ v.ownBlock = some k) := fun k h1 h2 e => by
      rcases e with e | e | e
      · omega
      · omega
      · exact HRNE.out k h2 e.symm
    refine ⟨RgIn.fr hf hlt (hno _ (by omega) (by omega)) (hno _ (by omega) (by omega)), ⟨hf.size, hf.block _ (by omega) (hno _ (by omega) (by omega)), hf.block _ (by omega) (hno _ (by omega) (by omega)), hf.block _ (by omega) (hno _ (by omega) (by omega))⟩, ⟨⟨_, (Below.heap_setCell _ _ _ _ (by simp)).trans (one_setCell HV1.out), ?_⟩, ?_, ?_⟩⟩
    · rw [frCells_snoc, List.length_append, List.length_singleton]
      exact ownsRow_setCell_other (ownsRow_setCell_other HO.out (by simp [Value.ownBlock]; omega) _) (by simp [Value.ownBlock]; omega) _
    · rw [frEnd_snoc]
      exact one_setCell ((Below.heap_setCell _ _ _ _ (by simp)).trans HG1.out)
    · exact HBL.out.trans (hf.below (B := b) (by omega) (fun k hk e => by rcases e with e | e | e; omega; omega; exact HRNE.out k (by omega) e.symm))
  case done =>
    intro xs W hS hI hK
    have HS := Lib.hid hS
    have HKW := Lib.hid hK
    obtain ⟨⟨v, hv, hrow⟩, hgood, hbel⟩ := hI
    obtain ⟨a0, n0, k0, rfl⟩ := own_shape hrow
    have c0 : W.cell? ⟨b, 0, none⟩ = some (.slice a0 n0 k0) := (cell_of_row _ _ _ _ _ _ hv).trans rfl
    have z0 : W.frozen? ⟨b, 0, none⟩ = false := frozen_of_row _ _ 0 _ _ hv
    have c1 : W.cell? ⟨b + 1, 0, none⟩ = some (.int .i64 (frEnd a xs : Int)) := (cell_of_row _ _ _ _ _ _ hgood).trans rfl
    have z1 : W.frozen? ⟨b + 1, 0, none⟩ = false := frozen_of_row _ _ 0 _ _ hgood
    have HR := Lib.hid hrow
    have HV := Lib.hid hv
    have HG := Lib.hid hgood
    have HBL := Lib.hid hbel
    clear hS hK hrow hv hgood hbel
    gi_wp2
    gi_region
    gi_wp2
    obtain ⟨W2, hW2⟩ : ∃ W2, W2 = ((W.setCell ⟨b, 0, none⟩ (.slice a0 n0 k0)).setCell ⟨b + 1, 0, none⟩ (.int .i64 (frEnd a xs : Int))).drew := ⟨_, rfl⟩
    have hf : Fr (fun k => k = b ∨ k = b + 1) W W2 := by rw [hW2]; exact (((Fr.refl (fun k => k = b ∨ k = b + 1) W).setCell ⟨b, 0, none⟩ (fun _ => .inl rfl) _).setCell ⟨b + 1, 0, none⟩ (fun _ => .inr rfl) _).drew
    have hK2 : W2.heap[W0.heap.size]? = some (.deferred (some [])) := hf.heapAt HKW.out (by omega)
    have hv2 : W2.heap[b]? = some (.cells #[.slice a0 n0 k0] 70 (0, 0)) := by rw [hW2]; exact (Below.heap_setCell _ _ _ _ (by simp)).trans (one_setCell HV.out)
    have hg2 : W2.heap[b + 1]? = some (.cells #[.int .i64 (frEnd a xs : Int)] 3 (0, 0)) := by rw [hW2]; exact one_setCell ((Below.heap_setCell _ _ _ _ (by simp)).trans HG.out)
    rw [← hW2]
    refine ⟨by simp, .inl ⟨_, _, rfl, run_takeDeferred hK2, ?_⟩⟩
    have hf3 : Fr (fun k => k = b ∨ k = b + 1 ∨ k = W0.heap.size) W (W2.putObj W0.heap.size (.deferred none)) := (hf.mono (fun i _ e => by omega)).putObj _ (fun _ => .inr (.inr rfl)) _
    have r0 : (W2.putObj W0.heap.size (.deferred none)).cell? ⟨b, 0, none⟩ = some (.slice a0 n0 k0) := (cell_of_row _ _ _ _ _ _ ((World.putObj_heap_other (by omega)).trans hv2)).trans rfl
    have r1 : (W2.putObj W0.heap.size (.deferred none)).cell? ⟨b + 1, 0, none⟩ = some (.int .i64 (frEnd a xs : Int)) := (cell_of_row _ _ _ _ _ _ ((World.putObj_heap_other (by omega)).trans hg2)).trans rfl
    refine ⟨.tuple #[.slice a0 n0 k0, .int .i64 (frEnd a xs : Int)], by simp [results, Tryz.results82, go_sem, r0, r1], ?_, xs, _, HS.out, ?_, ?_, rfl⟩
    · rw [← HB.out]; exact HBL.out.trans (hf3.below (B := b) (by have := lt_of_block HV.out; omega) (fun k hk e => by omega))
    · exact ownsRow_base (hf3.ownsRow HR.out (fun g e => by have := own_geX HR.out e; omega)) (fun g _ => Nat.zero_le g)
    · intro g e; have := own_geX HR.out e; have := HB.out; omega
  case stop =>
    rintro c pre W _ h _
    exact h.elim
end Go.Proofs.YtcdjckdbcffgdaaGreatDoor

/- The walks of seg.header, Header, First, Scan, Fits. -/
namespace Go.Proofs.YtcdjckdbcffgdaaGreatDoor
open Go.RowKit

set_option maxRecDepth 100000 in
set_option maxHeartbeats 1000000 in
theorem header_any (q : Nat) (w : World) (hq : q < 9223372036854775808) :
    Calls Tryz.prog 84 #[.int .i64 (q : Int)] w fun e w' => (∃ r : ByteArray, r.data.toList = segHead q ∧ e = .returned (.string r)) ∧ Below w.heap.size w w' := by
  go_enter Tryz.func84, Tryz.ntmps84
  have HF := Lib.hid (IsWr.fresh w)
  go_wp2_with fail
  obtain ⟨wa, hwa⟩ : ∃ wa, wa = w.alloc (.cells #[.slice none 0 0] 162) := ⟨_, rfl⟩
  have HA := Lib.hid (show Below w.heap.size w wa from by rw [hwa]; exact (Below.refl _ _).alloc (Nat.le_refl _) _)
  rw [← hwa] at HF ⊢
  clear hwa
  refine (wr_raw ⟨#[115, 101, 103, 49]⟩ w.heap.size _ [] _ HF.out (by decide)).mono ?_
  rintro e w1 ⟨rfl, v1, h1⟩
  have H1 := Lib.hid h1
  clear h1
  go_wp2_with fail
  refine (wr_u64 q w.heap.size _ _ _ (by omega) H1.out.is (by decide)).mono ?_
  rintro e w2 ⟨rfl, v2, h2⟩
  have H2 := Lib.hid (H1.out.trans h2)
  clear h2
  go_wp2_with fail
  refine (wr_bytes w.heap.size v2 _ _ H2.out.is).mono ?_
  rintro e w2' ⟨r, hr, rfl, rfl⟩
  have hrs : r.size ≤ 100 := by rw [size_of_list hr]; simp [be_length]
  have HR := Lib.hid hr
  clear hr
  go_wp2_with fail
  refine (seal_any r _ (by unfold maxLen; omega)).mono ?_
  rintro e w3 ⟨u, hu, rfl, hb3⟩
  have HU := Lib.hid (And.intro hu hb3)
  clear hu hb3
  go_wp2
  go_ret
  refine ⟨⟨u, ?_, rfl⟩, ?_⟩
  · rw [HU.out.1, HR.out]; rfl
  · exact (HA.out.trans (H2.out.fr.below HA.out.size (fun k hk e => e.elim (by omega) (by simp [Value.ownBlock])))).trans (HU.out.2.mono (by have := HA.out.size; have := H2.out.fr.size; omega))

/-- What Header tells. -/
def hdF (f : Int) : List UInt8 × Int := if numberB f then (segHead f.toNat, 0) else ([], 1)
set_option maxHeartbeats 400000 in
theorem Header_any (f : Int) (w : World) : Calls Tryz.prog 38 #[.int .i64 f] w fun e w' => TextP (hdF f) w e w' := by
  cases hb : numberB f
  · have HH := Lib.hid (show hdF f = ([], 1) from by unfold hdF; rw [hb]; rfl)
    have HB := Lib.hid hb
    clear hb
    go_enter Tryz.func38, Tryz.ntmps38
    go_wp2_with (go_at_call 83; refine (number_any _ f).mono ?_; rintro e w' ⟨rfl, rfl⟩; rw [HB.out])
    go_ret2
    exact ⟨⟨⟨#[]⟩, by rw [HH.out], by rw [HH.out]; rfl⟩, Below.refl _ _⟩
  · have hn : 0 ≤ f ∧ f ≤ 1048576 := by unfold numberB at hb; simpa using hb
    obtain ⟨Q, rfl⟩ := Int.eq_ofNat_of_zero_le hn.1
    have HH := Lib.hid (show hdF (Q : Int) = (segHead Q, 0) from by unfold hdF; rw [hb]; rfl)
    have HB := Lib.hid hb
    have hq : Q < 9223372036854775808 := by omega
    clear hb hn
    go_enter Tryz.func38, Tryz.ntmps38
    go_wp2_with (first | (go_at_call 83; refine (number_any _ _).mono ?_; rintro e w' ⟨rfl, rfl⟩; rw [HB.out]) | fail)
    refine (header_any Q _ hq).mono ?_
    rintro e w1 ⟨⟨r, hr, rfl⟩, hb1⟩
    have HR := Lib.hid (And.intro hr hb1)
    clear hr hb1
    go_wp2
    go_ret2
    exact ⟨⟨r, by rw [HH.out]; exact HR.out.1, by rw [HH.out]; rfl⟩, HR.out.2⟩

set_option maxHeartbeats 400000 in
theorem fits_any (size n most : Int) (w : World) (h1 : 16 ≤ size) (h2 : size ≤ 1073741824) (h3 : 0 < most) (h4 : most ≤ 1073741824) (fb : Bool) (hfb : fb = (payB n && (decide (size = 16) || decide (size ≤ most - (16 + n))))) :
    Calls Tryz.prog 53 #[.int .i64 size, .int .i64 n, .int .i64 most] w fun e w' => e = .returned (.bool fb) ∧ w = w' := by
  cases hp : payB n
  · have HF := Lib.hid (show fb = false from by rw [hfb, hp]; rfl)
    have HS := Lib.hid (show frSize n = 0 from by unfold frSize; rw [hp]; rfl)
    clear hfb hp
    go_enter Tryz.func53, Tryz.ntmps53
    go_wp2_with (go_at_call 103; refine (frsize_any n _).mono ?_; rintro e w' ⟨rfl, rfl⟩; rw [HS.out])
    go_ret
    exact ⟨ret_bool HF.out.symm, rfl⟩
  · have hn : 1 ≤ n ∧ n ≤ 4096 := by unfold payB at hp; simpa using hp
    have hn1 := hn.1
    have hn2 := hn.2
    have HS := Lib.hid (show frSize n = 16 + n from by unfold frSize; rw [hp]; rfl)
    have hz : (16 + n == 0) = false := by rw [beq_eq_false_iff_ne]; omega
    by_cases h16 : size = 16
    · have HF := Lib.hid (show fb = true from by rw [hfb, hp]; simp [h16])
      subst h16
      clear hfb hp hn
      go_enter Tryz.func53, Tryz.ntmps53
      go_wp2_with (go_at_call 103; refine (frsize_any n _).mono ?_; rintro e w' ⟨rfl, rfl⟩; rw [HS.out])
      go_ret
      exact ⟨ret_bool HF.out.symm, rfl⟩
    · have HF := Lib.hid (show fb = decide (size ≤ most - (16 + n)) from by rw [hfb, hp]; simp [h16])
      have h16b : (size == 16) = false := by simpa using h16
      clear hfb hp hn h16
      go_enter Tryz.func53, Tryz.ntmps53
      go_wp2_with (go_at_call 103; refine (frsize_any n _).mono ?_; rintro e w' ⟨rfl, rfl⟩; rw [HS.out])
      go_ret
      exact ⟨ret_bool HF.out.symm, rfl⟩
end Go.Proofs.YtcdjckdbcffgdaaGreatDoor

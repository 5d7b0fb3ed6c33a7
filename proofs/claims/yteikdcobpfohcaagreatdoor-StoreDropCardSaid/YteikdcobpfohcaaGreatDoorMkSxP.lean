/- The walks of state.parts, and held, where there are no rows, orders, auctions. -/
import Derived.RangeFuncBound
import Derived.RangeFuncCalls
import Derived.Shelf.Abstract
import Derived.Shelf.RegionOpen
import Derived.OwnWalkIn
import Derived.TacticsInMore
import Derived.LoopNIn
import Derived.LoopIn
import Derived.BigRegionIn
import Derived.Sort.CutIn
import Derived.Maps.OwnSet
import Derived.Carry
import Derived.Test.YteikdcobpfohcaaGreatDoorMkRg2
import Derived.Test.YteikdcobpfohcaaGreatDoorMkSxC
namespace Go.Proofs.YteikdcobpfohcaaGreatDoor
open Go.RowKit Go.Shelf
attribute [local go_sem] Oper.semAt_some

def stC (c f a b : Int) : Array Value := #[.int .i64 c, .int .i64 f, .int .i64 a, .int .i64 b, .slice none 0 0, .slice none 0 0, .slice none 0 0, .slice none 0 0, .slice none 0 0]
theorem parts_any (c f a b : Int) (w : World) :
    Calls Tryz.prog 286 #[stV c f a b] w fun e w' => e = .returned (.func (.func 319) #[] #[.pointer (some ⟨w.heap.size, 0, none⟩)]) ∧ w' = w.alloc (.cells (stC c f a b) 36) := by
  unfold stV stC
  have hmf : ∀ (fn : Fn) (first cap : Array Value) (w : World), (Instr.makeFunc fn first cap).run Tryz.prog w = .ok (.func fn first cap) w := fun _ _ _ _ => rfl
  go_enter Tryz.func286, Tryz.ntmps286
  go_wp2
  go_ret
  exact ⟨rfl, rfl⟩

/-- A part, and how much of it. -/
def partEnc (x : Int × Int × Int) : Array Value := #[.agg #[.int .i64 x.1, .int .i64 x.2.1], .int .i64 x.2.2]
set_option maxRecDepth 100000 in
set_option maxHeartbeats 2000000 in
theorem parts_seq (w : World) (sB : Nat) (c f a b : Int) (hs : w.heap[sB]? = some (.cells (stC c f a b) 36 (0, 0))) :
    SeqOwnX (fun _ => True) Fence.wide 5 Tryz.prog 319 #[.pointer (some ⟨sB, 0, none⟩)] partEnc (fun _ => False) (fun _ _ => True) (fun _ _ => True) (fun xs => xs = []) (fun _ => False) 0 w := by
  intro y J Jx W hW _ hJ hJx hY h0
  have hs2 := (hW.block _ (lt_of_block hs)).trans hs
  have c7 : W.cell? ⟨sB, 7, none⟩ = some (.slice none 0 0) := (cell_of_row _ _ _ _ _ _ hs2).trans rfl
  have c8 : W.cell? ⟨sB, 8, none⟩ = some (.slice none 0 0) := (cell_of_row _ _ _ _ _ _ hs2).trans rfl
  have HH := Lib.hid h0
  clear hW hs hJ hJx hY h0 hs2
  refine callsIn_of_wp Tryz.func319 rfl trivial ?_ rfl
  simp only [Tryz.ntmps319, List.size_toArray, List.length_cons, List.length_nil, Nat.reduceAdd, Nat.reduceSub, Array.replicate_succ, Array.replicate_zero, List.push_toArray, List.append_toArray, List.nil_append, List.cons_append]
  gi_wp2
  gi_loopw [14] (fun i wr => i = .int .i64 0 ∧ wr = W) (fun _ _ => 0)
  case atStart => exact ⟨rfl, rfl⟩
  case round =>
    obtain ⟨rfl, rfl⟩ := hrel
    gi_wp2
    gi_loopw [39] (fun i wr2 => i = .int .i64 0 ∧ wr2 = wr) (fun _ _ => 0)
    case atStart => exact ⟨rfl, rfl⟩
    case round =>
      obtain ⟨rfl, rfl⟩ := hrel
      gi_wp2
      go_end0
      exact ⟨⟨_, rfl⟩, .inl ⟨[], rfl, HH.out⟩⟩

theorem len_map0 {w : World} {b : Nat} (h : w.heap[b]? = some (.map #[] 0)) (ty : TypeId) : (Builtin.len_ #[356] ty #[.map (some b)]).run Tryz.prog w = .ok (.int .i64 0) w := by
  simp [Builtin.len_, run_underlying Tryz.underlying356, MapKept.run_getObj_map h, goInt, Result.andThen]

/-- What stands while held goes over the parts. -/
structure HeldAt (w W : World) (b : Nat) (c f a d : Int) : Prop where
  st : W.heap[b]? = some (.cells (stC c f a d) 36 (0, 0))
  mp : W.heap[b + 1]? = some (.map #[] 0)
  box : W.heap[b + 2]? = some (.cells #[.map (some (b + 1))] 356 (0, 0))
  below : Below b w W
theorem HeldAt.fr {w W W' : World} {b : Nat} {c f a d : Int} {S : Nat → Prop} (h : HeldAt w W b c f a d) (hf : Fr S W W') (hS : ∀ k, k < b + 3 → ¬ S k) : HeldAt w W' b c f a d :=
  ⟨hf.heapAt h.st (hS _ (by omega)), hf.heapAt h.mp (hS _ (by omega)), hf.heapAt h.box (hS _ (by omega)), h.below.trans (hf.below (B := b) (by have := lt_of_block h.st; omega) (fun k hk => hS k (by omega)))⟩

set_option maxRecDepth 100000 in
set_option maxHeartbeats 4000000 in
theorem held0 (w : World) (c f a d : Int) : Calls Tryz.prog 248 #[stV c f a d] w fun e w' => e = .returned (.bool true) ∧ Below w.heap.size w w' := by
  have hst : stV c f a d = .agg (stC c f a d) := rfl
  have hmm := @run_makeMap Tryz.prog
  refine (callsIn_wide (n := 6)).1 ?_
  unfold stV
  refine callsIn_of_wp_marks Tryz.func248 rfl trivial ?_ rfl
  simp only [Tryz.ntmps248, List.size_toArray, List.length_cons, List.length_nil, Nat.reduceAdd, Nat.reduceSub, Array.replicate_succ, Array.replicate_zero, List.push_toArray, List.append_toArray, List.nil_append, List.cons_append]
  gi_wp2_with fail
  refine ⟨trivial, ?_⟩
  refine (callsIn_wide.2 (parts_any c f a d _)).mono ?_
  rintro e w1 ⟨rfl, rfl⟩
  gi_wp2
  obtain ⟨b, hb⟩ : ∃ b, b = w.heap.size := ⟨_, rfl⟩
  obtain ⟨W0, hW0⟩ : ∃ W0, W0 = (((w.alloc (.cells #[.int .i64 c, .int .i64 f, .int .i64 a, .int .i64 d, .slice none 0 0, .slice none 0 0, .slice none 0 0, .slice none 0 0, .slice none 0 0] 36)).alloc (.map #[] 0)).alloc (.cells #[.map (some (w.heap.size + 1))] 356)).alloc (.cells (stC c f a d) 36) := ⟨_, rfl⟩
  have hsz : W0.heap.size = b + 4 := by rw [hW0, hb]; simp
  have k0 : W0.heap[b]? = some (.cells (stC c f a d) 36 (0, 0)) := by rw [hW0, hb]; exact (Below.heap_alloc _ _ _ (by simp <;> omega)).trans ((Below.heap_alloc _ _ _ (by simp <;> omega)).trans ((Below.heap_alloc _ _ _ (by simp <;> omega)).trans (heap_alloc_new _ _)))
  have k1 : W0.heap[b + 1]? = some (.map #[] 0) := by rw [hW0, hb]; exact (Below.heap_alloc _ _ _ (by simp <;> omega)).trans ((Below.heap_alloc _ _ _ (by simp <;> omega)).trans (alloc_topY _ _ (by simp)))
  have k2 : W0.heap[b + 1 + 1]? = some (.cells #[.map (some (b + 1))] 356 (0, 0)) := by rw [hW0, hb]; exact (Below.heap_alloc _ _ _ (by simp <;> omega)).trans (alloc_topY _ _ (by simp))
  have k3 : W0.heap[b + 1 + 1 + 1]? = some (.cells (stC c f a d) 36 (0, 0)) := by rw [hW0, hb]; exact alloc_topY _ _ (by simp)
  have hbel : Below b w W0 := by rw [hW0, hb]; exact ((((Below.refl _ _).alloc (Nat.le_refl _) _).alloc (by simp) _).alloc (by simp <;> omega) _).alloc (by simp <;> omega) _
  have hat : HeldAt w W0 b c f a d := ⟨k0, k1, k2, hbel⟩
  have K3 := Lib.hid k3
  have HAT := Lib.hid hat
  have HB := Lib.hid hb
  rw [← hW0, ← hb]
  clear hW0 hb k0 k1 k2 k3 hbel hat hmm hst
  refine wpIn_range_ownX (n := 6) rfl (by omega) (gf := 319) rfl trivial (enters_of Tryz.func319 (by kernel_rfl) rfl) (parts_seq W0 (b + 1 + 1 + 1) c f a d K3.out) ⟨fun h => h, fun h => h⟩ (fun _ _ => trivial) (fun _ _ _ => trivial) (fun _ _ => trivial) (fun _ _ _ _ => trivial) (fun _ => rfl)
    (fun pre W => pre = [] ∧ HeldAt w W b c f a d) (fun _ _ _ => False) ?bears (fun _ _ _ _ h _ => h) ⟨rfl, HAT.out⟩ (fun _ _ _ _ => True) (fun _ _ _ _ _ _ _ => trivial) ?assign ?body ?done ?stop
  case bears => exact fun pre A B h hf => ⟨h.1, h.2.fr hf (fun k hk e => by rcases e with e | e | e; exact e; omega; omega)⟩
  case assign =>
    intro pre x W K _ hlt hI hK
    have HK := Lib.hid hK
    clear hI hK
    unfold partEnc
    gi_wp2
    exact HK.out _ _ trivial (RgIn.fr ((Fr.refl (fun _ => False) W).alloc _) hlt (fun h => h) (fun h => h)) (by simp) trivial
  case body => exact fun _ _ _ _ _ _ _ h => absurd h (Nat.not_lt_zero _)
  case done =>
    rintro xs W _ ⟨_, hat⟩ hK
    have x6 : W.cell? ⟨b, 6, none⟩ = some (.slice none 0 0) := (cell_of_row _ _ _ _ _ _ hat.st).trans rfl
    have m0 : W.cell? ⟨b + 1 + 1, 0, none⟩ = some (.map (some (b + 1))) := (cell_of_row _ _ _ _ _ _ hat.box).trans rfl
    have hl := fun ty => len_map0 hat.mp ty
    have HK := Lib.hid hK
    have HA := Lib.hid hat
    clear hK hat
    gi_wp2
    gi_loopw [24] (fun i wr => i = .int .i64 0 ∧ wr = W) (fun _ _ => 0)
    case atStart => exact ⟨rfl, rfl⟩
    case round =>
      obtain ⟨rfl, rfl⟩ := hrel
      gi_wp2
      refine ⟨by simp, .inl ⟨_, _, rfl, run_takeDeferred HK.out, ?_⟩⟩
      refine ⟨_, results_tmp rfl _ _ _, rfl, ?_⟩
      have hlt := lt_of_block HA.out.st
      rw [← HB.out]
      exact HA.out.below.trans (((Fr.refl (fun k => k = W0.heap.size) wr).putObj _ (fun _ => rfl) _).below (B := b) (by omega) (fun k hk e => by omega))
  case stop =>
    rintro c pre W _ h _
    exact h.elim
end Go.Proofs.YteikdcobpfohcaaGreatDoor

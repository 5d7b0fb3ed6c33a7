/- The walk of crc.Table: it makes the table, and turns nothing that was there. -/
import Derived.Test.YtppghhophaobdaaGreatDoorStep
import Derived.Deep.LoopGhost
import Derived.Deep.Light
import Derived.Laws.CopyOwn
namespace Go.Proofs.YtppghhophaobdaaGreatDoor
open Go.RowKit

def u32v (c : BitVec 32) : Value := .int .u32 (c.toNat : Int)

/-- The cells of the table, as far as they are made. -/
def TabCells (k : Nat) (c : Array Value) : Prop := c.size = 256 ∧ ∀ i, i < k → c[i]? = some (u32v (Crc.tab (BitVec.ofNat 8 i)))

def TabRel (w : World) (v : Value) (wr : World) : Prop :=
  ∃ (k : Nat) (c : Array Value), k ≤ 256 ∧ v = .int .i64 k ∧ TabCells k c ∧ wr = (w.alloc (.cells Tryz.zeroCells271 271)).alloc (.cells c 271)

def TabRel2 (w : World) (k : Nat) (v : Value) (wr : World) : Prop :=
  ∃ (j : Nat) (c : Array Value) (x : BitVec 32), j ≤ 8 ∧ v = .int .i64 j ∧ TabCells k c ∧ c[k]? = some (u32v x) ∧ x = Crc.steps j (BitVec.ofNat 32 k) ∧ wr = (w.alloc (.cells Tryz.zeroCells271 271)).alloc (.cells c 271)

theorem tab_start {k : Nat} {c : Array Value} (hk : k < 256) (h : TabCells k c) : TabCells k (c.setIfInBounds k (.int .u32 (k : Int))) ∧ (c.setIfInBounds k (.int .u32 (k : Int)))[k]? = some (u32v (Crc.steps 0 (BitVec.ofNat 32 k))) := by
  obtain ⟨h1, h2⟩ := h
  refine ⟨⟨by simp [h1], fun i hi => ?_⟩, ?_⟩
  · rw [Array.getElem?_setIfInBounds_ne (by omega)]; exact h2 i hi
  · rw [Array.getElem?_setIfInBounds_self_of_lt (by omega)]
    simp [u32v, Crc.steps, BitVec.toNat_ofNat, Nat.mod_eq_of_lt (show k < 4294967296 from by omega)]

theorem tab_step {k j : Nat} {c : Array Value} {x : BitVec 32} (hk : k < 256) (h : TabCells k c) (hx : x = Crc.steps j (BitVec.ofNat 32 k)) :
    TabCells k (c.setIfInBounds k (.int .u32 ((Crc.step x).toNat : Int))) ∧ (c.setIfInBounds k (.int .u32 ((Crc.step x).toNat : Int)))[k]? = some (u32v (Crc.step x)) ∧ Crc.step x = Crc.steps (j + 1) (BitVec.ofNat 32 k) := by
  obtain ⟨h1, h2⟩ := h
  refine ⟨⟨by simp [h1], fun i hi => ?_⟩, ?_, ?_⟩
  · rw [Array.getElem?_setIfInBounds_ne (by omega)]; exact h2 i hi
  · rw [Array.getElem?_setIfInBounds_self_of_lt (by omega)]; rfl
  · rw [Crc.steps_succ', hx]

theorem tab_next {k : Nat} {c : Array Value} (hk : k < 256) (h : TabCells k c) (hx : c[k]? = some (u32v (Crc.steps 8 (BitVec.ofNat 32 k)))) : TabCells (k + 1) c := by
  refine ⟨h.1, fun i hi => ?_⟩
  by_cases e : i = k
  · subst e
    rw [hx]
    have : (BitVec.ofNat 8 i).zeroExtend 32 = BitVec.ofNat 32 i := by
      apply BitVec.eq_of_toNat_eq; simp; omega
    simp only [Crc.tab, this]
  · exact h.2 i (by omega)

theorem tab_one {c : Array Value} (h : TabCells 256 c) : c.all (·.oneCell') = true := by
  rw [Array.all_eq_true]
  intro i hi
  have h2 := h.2 i (by have := h.1; omega)
  rw [Array.getElem?_eq_getElem hi] at h2
  rw [Option.some.inj h2]; rfl

theorem Tryz.info256 : (Tryz.prog.info? 271).map (·.size) = some 256 := by kernel_rfl
theorem Tryz.zero256 : Tryz.zeroCells271.size = 256 := by kernel_rfl

set_option maxRecDepth 100000 in
set_option maxHeartbeats 800000 in
theorem table_any (w : World) :
    Calls Tryz.prog 227 #[] w fun e w' => ∃ c, TabCells 256 c ∧ e = .returned (.agg c) ∧ Below w.heap.size w w' := by
  go_enter Tryz.func227, Tryz.ntmps227
  go_wp2
  go_loopw [3] (fun v wr => TabRel w v wr) (fun v _ => 256 - (intOf v).toNat)
  case atStart => exact ⟨0, _, by omega, rfl, ⟨Tryz.zero256, fun i hi => by omega⟩, rfl⟩
  case round =>
    obtain ⟨k, c, hk, rfl, hc, rfl⟩ := hrel
    have HC := Lib.hid hc
    clear hc
    by_cases hlt : k < 256
    · obtain ⟨v0, hv0⟩ : ∃ v, c[k]? = some v := ⟨c[k]'(by rw [HC.out.1]; exact hlt), Array.getElem?_eq_getElem _⟩
      have hd4 : decide ((k : Int) < 256) = true := by rw [decide_eq_true_iff]; omega
      go_wp2
      go_loopw [10] (fun v wr => TabRel2 w k v wr) (fun v _ => 8 - (intOf v).toNat)
      case atStart => exact ⟨0, _, _, by omega, rfl, (tab_start hlt HC.out).1, (tab_start hlt HC.out).2, rfl, rfl⟩
      case round =>
        obtain ⟨j, c2, x, hj, rfl, hc2, hx, hxe, rfl⟩ := hrel
        have HC2 := Lib.hid hc2
        have HX := Lib.hid hx
        have HXE := Lib.hid hxe
        clear hc2 hxe
        unfold u32v at hx
        by_cases hlt2 : j < 8
        · go_wp2_with (go_at_call 267; refine (step_any x _).mono ?_; rintro e w' ⟨rfl, rfl⟩)
          go_roundw
          case rel =>
            have h := tab_step hlt HC2.out HXE.out
            exact ⟨j + 1, _, _, by omega, by go_num, h.1, h.2.1, h.2.2, rfl⟩
          case measure => simp [intOf]; omega
        · obtain rfl : j = 8 := by omega
          clear hx
          go_wp2
          go_roundw
          case rel => exact ⟨k + 1, _, by omega, by go_num, tab_next hlt HC2.out (by rw [← HXE.out]; exact HX.out), rfl⟩
          case measure => simp [intOf]; omega
    · obtain rfl : k = 256 := by omega
      have h1 := Lib.hid HC.out.1
      go_wp2_with (first
        | (with_reducible refine wpList_load_row rfl 271 _ rfl (w.heap.size + 1) rfl 271 c (0, 0) _ (heap_alloc2_new _ _ _) Tryz.underlying271 rfl (by rw [Tryz.info256, h1.out]) ?_)
        | (with_reducible refine wpList_store_row rfl 271 _ _ rfl w.heap.size c rfl rfl 271 Tryz.zeroCells271 (heap_alloc2_old _ _ _) (by rw [Tryz.info256, h1.out]) (by rw [Tryz.zero256, h1.out]) (tab_one HC.out) ?_))
      exact bodyPost_ret (v := .agg c) (results_cell_row Tryz.results227 _ _ w.heap.size 271 c (0, 0) _ rfl (setRow_heap _ _ _ _ _ _ (heap_alloc2_old _ _ _)) Tryz.underlying271 rfl (by rw [Tryz.info256, h1.out])) rfl ⟨c, HC.out, rfl, below_setRow (((Below.refl _ _).alloc (Nat.le_refl _) _).alloc (by simp) _) (Nat.le_refl _) _⟩
end Go.Proofs.YtppghhophaobdaaGreatDoor

/- The walk of crc.step. -/
import Derived.Test.YtcdjckdbcffgdaaGreatDoorChecked
import Derived.Test.YtcdjckdbcffgdaaGreatDoorMCa
import Derived.Test.YtcdjckdbcffgdaaGreatDoorMAa
import Derived.Deep.LoopGhost
import Derived.Deep.Light
import Derived.Laws.CopyOwn
namespace Go.Proofs.YtcdjckdbcffgdaaGreatDoor
open Go.RowKit

theorem step_bit (c : BitVec 32) : bits BinOp.and IntKind.u32 (c.toNat : Int) 1 = if c.getLsbD 0 then 1 else 0 := by
  have h := bits_and32 c 1#32
  rw [show ((1#32).toNat : Int) = 1 from rfl] at h
  rw [h]
  rw [BitVec.and_one_eq_setWidth_ofBool_getLsbD]
  cases c.getLsbD 0 <;> rfl

theorem step_xorp (c : BitVec 32) : bits BinOp.xor IntKind.u32 ((c.toNat : Int) / 2) 3988292384 = ((c >>> 1 ^^^ Crc.poly).toNat : Int) := by
  have h := bits_xor32 (c >>> 1) Crc.poly
  rw [shr_toNat] at h
  exact h

set_option maxHeartbeats 400000 in
theorem step_any (c : BitVec 32) (w : World) :
    Calls Tryz.prog 226 #[.int .u32 (c.toNat : Int)] w fun e w' => e = .returned (.int .u32 ((Crc.step c).toNat : Int)) ∧ w = w' := by
  have hb := step_bit c
  have HX := Lib.hid (step_xorp c)
  cases h0 : c.getLsbD 0
  · rw [h0] at hb
    have HS : Hid ((Crc.step c).toNat = (c >>> 1).toNat) := by unfold Crc.step; rw [h0]; rfl
    clear h0
    go_enter Tryz.func226, Tryz.ntmps226
    go_wp2
    go_ret
    exact ⟨ret_int (by rw [HS.out, shr_toNat]; rfl), rfl⟩
  · rw [h0] at hb
    have HS : Hid ((Crc.step c).toNat = (c >>> 1 ^^^ Crc.poly).toNat) := by unfold Crc.step; rw [h0]; rfl
    clear h0
    go_enter Tryz.func226, Tryz.ntmps226
    go_wp2
    go_ret
    exact ⟨ret_int (by rw [HS.out, HX.out]), rfl⟩
end Go.Proofs.YtcdjckdbcffgdaaGreatDoor

/- The walk of crc.Table: it makes the table, and turns nothing that was there. -/
namespace Go.Proofs.YtcdjckdbcffgdaaGreatDoor
open Go.RowKit

def u32v (c : BitVec 32) : Value := .int .u32 (c.toNat : Int)

/-- The cells of the table, as far as they are made. -/
def TabCells (k : Nat) (c : Array Value) : Prop := c.size = 256 ∧ ∀ i, i < k → c[i]? = some (u32v (Crc.tab (BitVec.ofNat 8 i)))

def TabRel (w : World) (v : Value) (wr : World) : Prop :=
  ∃ (k : Nat) (c : Array Value), k ≤ 256 ∧ v = .int .i64 k ∧ TabCells k c ∧ wr = (w.alloc (.cells Tryz.zeroCells234 234)).alloc (.cells c 234)

def TabRel2 (w : World) (k : Nat) (v : Value) (wr : World) : Prop :=
  ∃ (j : Nat) (c : Array Value) (x : BitVec 32), j ≤ 8 ∧ v = .int .i64 j ∧ TabCells k c ∧ c[k]? = some (u32v x) ∧ x = Crc.steps j (BitVec.ofNat 32 k) ∧ wr = (w.alloc (.cells Tryz.zeroCells234 234)).alloc (.cells c 234)

theorem tab_start {k : Nat} {c : Array Value} (hk : k < 256) (h : TabCells k c) : TabCells k (c.setIfInBounds k (.int .u32 (k : Int))) ∧ (c.setIfInBounds k (.int .u32 (k : Int)))[k]? = some (u32v (Crc.steps 0 (BitVec.ofNat 32 k))) := by
  obtain ⟨h1, h2⟩ := h
  refine ⟨⟨by simp [h1], fun i hi => ?_⟩, ?_⟩
  · rw [Array.getElem?_setIfInBounds_ne (by omega)]; exact h2 i hi
  · rw [Array.getElem?_setIfInBounds_self_of_lt (by omega)]
    simp [u32v, Crc.steps, BitVec.toNat_ofNat, Nat.mod_eq_of_lt (show k < 4294967296 from by omega)]

theorem tab_step {k j : Nat} {c : Array Value} {x : BitVec 32} (hk : k < 256) (h : TabCells k c) (hx : x = Crc.steps j (BitVec.ofNat 32 k)) :
    TabCells k (c.setIfInBounds k (.int .u32 ((Crc.step x).toNat : Int))) ∧ (c.setIfInBounds k (.int .u32 ((Crc.step x).toNat : Int)))[k]? = some (u32v (Crc.step x)) ∧ Crc.step x = Crc.steps (j + 1) (BitVec.ofNat 32 k) := by
  obtain ⟨h1, h2⟩ := h
  refine ⟨⟨by simp [h1], fun i hi => ?_⟩, ?_, ?_⟩
  · rw [Array.getElem?_setIfInBounds_ne (by omega)]; exact h2 i hi
  · rw [Array.getElem?_setIfInBounds_self_of_lt (by omega)]; rfl
  · rw [Crc.steps_succ', hx]

theorem tab_next {k : Nat} {c : Array Value} (hk : k < 256) (h : TabCells k c) (hx : c[k]? = some (u32v (Crc.steps 8 (BitVec.ofNat 32 k)))) : TabCells (k + 1) c := by
  refine ⟨h.1, fun i hi => ?_⟩
  by_cases e : i = k
  · subst e
    rw [hx]
    have : (BitVec.ofNat 8 i).zeroExtend 32 = BitVec.ofNat 32 i := by
      apply BitVec.eq_of_toNat_eq; simp; omega
    simp only [Crc.tab, this]
  · exact h.2 i (by omega)

theorem tab_one {c : Array Value} (h : TabCells 256 c) : c.all (·.oneCell') = true := by
  rw [Array.all_eq_true]
  intro i hi
  have h2 := h.2 i (by have := h.1; omega)
  rw [Array.getElem?_eq_getElem hi] at h2
  rw [Option.some.inj h2]; rfl

theorem Tryz.info256 : (Tryz.prog.info? 234).map (·.size) = some 256 := by kernel_rfl
theorem Tryz.zero256 : Tryz.zeroCells234.size = 256 := by kernel_rfl

set_option maxRecDepth 100000 in
set_option maxHeartbeats 800000 in
theorem table_any (w : World) :
    Calls Tryz.prog 182 #[] w fun e w' => ∃ c, TabCells 256 c ∧ e = .returned (.agg c) ∧ Below w.heap.size w w' := by
  go_enter Tryz.func182, Tryz.ntmps182
  go_wp2
  go_loopw [3] (fun v wr => TabRel w v wr) (fun v _ => 256 - (intOf v).toNat)
  case atStart => exact ⟨0, _, by omega, rfl, ⟨Tryz.zero256, fun i hi => by omega⟩, rfl⟩
  case round =>
    obtain ⟨k, c, hk, rfl, hc, rfl⟩ := hrel
    have HC := Lib.hid hc
    clear hc
    by_cases hlt : k < 256
    · obtain ⟨v0, hv0⟩ : ∃ v, c[k]? = some v := ⟨c[k]'(by rw [HC.out.1]; exact hlt), Array.getElem?_eq_getElem _⟩
      have hd4 : decide ((k : Int) < 256) = true := by rw [decide_eq_true_iff]; omega
      go_wp2
      go_loopw [10] (fun v wr => TabRel2 w k v wr) (fun v _ => 8 - (intOf v).toNat)
      case atStart => exact ⟨0, _, _, by omega, rfl, (tab_start hlt HC.out).1, (tab_start hlt HC.out).2, rfl, rfl⟩
      case round =>
        obtain ⟨j, c2, x, hj, rfl, hc2, hx, hxe, rfl⟩ := hrel
        have HC2 := Lib.hid hc2
        have HX := Lib.hid hx
        have HXE := Lib.hid hxe
        clear hc2 hxe
        unfold u32v at hx
        by_cases hlt2 : j < 8
        · go_wp2_with (go_at_call 226; refine (step_any x _).mono ?_; rintro e w' ⟨rfl, rfl⟩)
          go_roundw
          case rel =>
            have h := tab_step hlt HC2.out HXE.out
            exact ⟨j + 1, _, _, by omega, by go_num, h.1, h.2.1, h.2.2, rfl⟩
          case measure => simp [intOf]; omega
        · obtain rfl : j = 8 := by omega
          clear hx
          go_wp2
          go_roundw
          case rel => exact ⟨k + 1, _, by omega, by go_num, tab_next hlt HC2.out (by rw [← HXE.out]; exact HX.out), rfl⟩
          case measure => simp [intOf]; omega
    · obtain rfl : k = 256 := by omega
      have h1 := Lib.hid HC.out.1
      go_wp2_with (first
        | (with_reducible refine wpList_load_row rfl 234 _ rfl (w.heap.size + 1) rfl 234 c (0, 0) _ (heap_alloc2_new _ _ _) Tryz.underlying234 rfl (by rw [Tryz.info256, h1.out]) ?_)
        | (with_reducible refine wpList_store_row rfl 234 _ _ rfl w.heap.size c rfl rfl 234 Tryz.zeroCells234 (heap_alloc2_old _ _ _) (by rw [Tryz.info256, h1.out]) (by rw [Tryz.zero256, h1.out]) (tab_one HC.out) ?_))
      exact bodyPost_ret (v := .agg c) (results_cell_row Tryz.results182 _ _ w.heap.size 234 c (0, 0) _ rfl (setRow_heap _ _ _ _ _ _ (heap_alloc2_old _ _ _)) Tryz.underlying234 rfl (by rw [Tryz.info256, h1.out])) rfl ⟨c, HC.out, rfl, below_setRow (((Below.refl _ _).alloc (Nat.le_refl _) _).alloc (by simp) _) (Nat.le_refl _) _⟩
end Go.Proofs.YtcdjckdbcffgdaaGreatDoor

/- The walks of crc.run at a string, crc.Add, crc.Of, crc.bytes, crc.Seal, crc.Open. -/
namespace Go.Proofs.YtcdjckdbcffgdaaGreatDoor
open Go.RowKit

theorem run_index (x : BitVec 32) (b : UInt8) : bits .xor .u8 ((x.toNat : Int) % 256) (b.toNat : Int) = ((x.truncate 8 ^^^ Crc.bv b).toNat : Int) := by
  rw [← bits_xor8]
  congr 1

theorem run_snoc_at (x0 : BitVec 32) (s : ByteArray) (k : Nat) (h : k < s.size) : Crc.run x0 (s.data.toList.take (k + 1)) = Crc.over (Crc.run x0 (s.data.toList.take k)) (Crc.bv s[k]) := by
  rw [List.take_succ_eq_append_getElem (by simpa using h), Crc.run_snoc]; rfl

theorem run_word (y x : BitVec 32) : bits .xor .u32 (y.toNat : Int) ((x.toNat : Int) / 256) = ((y ^^^ x >>> 8).toNat : Int) := by
  rw [← bits_xor32, shr_toNat]; rfl

set_option maxRecDepth 100000 in
set_option maxHeartbeats 800000 in
theorem run_any (c : Array Value) (x0 : BitVec 32) (s : ByteArray) (w : World) (hc : TabCells 256 c) (hs : s.size ≤ maxLen) :
    Calls Tryz.prog 181 #[.agg c, .int .u32 (x0.toNat : Int), .string s] w fun e w' => e = .returned (.int .u32 ((Crc.run x0 s.data.toList).toNat : Int)) ∧ Below w.heap.size w w' := by
  unfold maxLen at hs
  have HC := Lib.hid hc
  clear hc
  go_enter Tryz.func181, Tryz.ntmps181
  go_wp2
  go_loop [1, 10] (fun v i => ∃ (k : Nat) (x : BitVec 32), k ≤ s.size ∧ i = .int .i64 k ∧ v = .int .u32 (x.toNat : Int) ∧ x = Crc.run x0 (s.data.toList.take k)) (fun _ i => s.size - (intOf i).toNat)
  case atStart => exact ⟨0, x0, by omega, rfl, rfl, rfl⟩
  case round =>
    obtain ⟨k, x, hk, rfl, rfl, hx⟩ := hrel
    have HX := Lib.hid hx
    clear hx
    by_cases hlt : k < s.size
    · obtain ⟨t, ht⟩ : ∃ t : BitVec 8, t = x.truncate 8 ^^^ Crc.bv s[k] := ⟨_, rfl⟩
      obtain ⟨y, hy⟩ : ∃ y : BitVec 32, y = Crc.tab t := ⟨_, rfl⟩
      have hI := run_index x s[k]
      rw [← ht] at hI
      have htl := t.isLt
      have hcell : c[t.toNat]? = some (.int .u32 (y.toNat : Int)) := by
        rw [HC.out.2 t.toNat (by omega), hy]; unfold u32v; simp
      have HW := Lib.hid (run_word y x)
      have HT := Lib.hid ht
      have HY := Lib.hid hy
      clear ht hy
      go_wp2
      go_round
      case rel =>
        refine ⟨k + 1, y ^^^ x >>> 8, by omega, by go_num, by rw [HW.out], ?_⟩
        rw [run_snoc_at x0 s k hlt, ← HX.out, HY.out, HT.out]; rfl
      case measure => simp [intOf]; omega
    · go_wp2
      go_ret
      exact ⟨ret_int (by rw [HX.out, List.take_of_length_le (by simp; omega)]), (Below.refl _ _).alloc (Nat.le_refl _) _⟩

theorem not32 (x : BitVec 32) : bits .xor .u32 IntKind.u32.max (x.toNat : Int) = ((~~~ x).toNat : Int) := by
  have h := bits_xor32 (~~~ 0#32) x
  have e : (((~~~ 0#32 : BitVec 32).toNat : Nat) : Int) = IntKind.u32.max := by decide
  rw [e] at h
  rw [h, Crc.ones, BitVec.allOnes_xor]

set_option maxHeartbeats 800000 in
theorem add_any (x0 : BitVec 32) (s : ByteArray) (w : World) (hs : s.size ≤ maxLen) :
    Calls Tryz.prog 147 #[.int .u32 (x0.toNat : Int), .string s] w fun e w' => e = .returned (.int .u32 ((Crc.add x0 s.data.toList).toNat : Int)) ∧ Below w.heap.size w w' := by
  unfold Crc.add
  obtain ⟨y, hy⟩ : ∃ y : BitVec 32, y = ~~~ x0 := ⟨_, rfl⟩
  have hn := not32 x0
  rw [← hy] at hn ⊢
  have HY := Lib.hid hy
  clear hy
  go_enter Tryz.func147, Tryz.ntmps147
  go_wp2_with fail
  refine (table_any _).mono ?_
  rintro e w1 ⟨c, hc, rfl, hb1⟩
  go_wp2_with fail
  refine (run_any c y s _ hc hs).mono ?_
  rintro e w2 ⟨rfl, hb2⟩
  have HN := Lib.hid (not32 (Crc.run y s.data.toList))
  go_wp2
  go_ret
  exact ⟨ret_int HN.out, hb1.trans (hb2.mono hb1.size)⟩

set_option maxHeartbeats 800000 in
theorem of_any (s : ByteArray) (w : World) (hs : s.size ≤ maxLen) :
    Calls Tryz.prog 112 #[.string s] w fun e w' => e = .returned (.int .u32 ((Crc.of s.data.toList).toNat : Int)) ∧ Below w.heap.size w w' := by
  go_enter Tryz.func112, Tryz.ntmps112
  go_wp2_with fail
  refine (add_any 0#32 s _ hs).mono ?_
  rintro e w1 ⟨rfl, hb1⟩
  go_wp2
  go_ret
  exact ⟨rfl, hb1⟩

theorem four_cells (c : BitVec 32) : #[Value.int .u8 ((c.toNat : Int) % 256), .int .u8 ((c.toNat : Int) / 256 % 256), .int .u8 ((c.toNat : Int) / 65536 % 256), .int .u8 ((c.toNat : Int) / 16777216)] = byteCells (Crc.four c) := by
  have h := c.isLt
  have e0 : ((UInt8.ofBitVec (c.truncate 8)).toNat : Int) = (c.toNat : Int) % 256 := by
    show (((c.truncate 8).toNat : Nat) : Int) = _
    rw [BitVec.truncate_eq_setWidth, BitVec.toNat_setWidth]; omega
  have e1 : ((UInt8.ofBitVec ((c >>> 8).truncate 8)).toNat : Int) = (c.toNat : Int) / 256 % 256 := by
    show ((((c >>> 8).truncate 8).toNat : Nat) : Int) = _
    rw [BitVec.truncate_eq_setWidth, BitVec.toNat_setWidth, BitVec.toNat_ushiftRight, Nat.shiftRight_eq_div_pow]; omega
  have e2 : ((UInt8.ofBitVec ((c >>> 16).truncate 8)).toNat : Int) = (c.toNat : Int) / 65536 % 256 := by
    show ((((c >>> 16).truncate 8).toNat : Nat) : Int) = _
    rw [BitVec.truncate_eq_setWidth, BitVec.toNat_setWidth, BitVec.toNat_ushiftRight, Nat.shiftRight_eq_div_pow]; omega
  have e3 : ((UInt8.ofBitVec ((c >>> 24).truncate 8)).toNat : Int) = (c.toNat : Int) / 16777216 := by
    show ((((c >>> 24).truncate 8).toNat : Nat) : Int) = _
    rw [BitVec.truncate_eq_setWidth, BitVec.toNat_setWidth, BitVec.toNat_ushiftRight, Nat.shiftRight_eq_div_pow]; omega
  simp only [byteCells, Crc.four, List.map_cons, List.map_nil, u8v, e0, e1, e2, e3]

set_option maxHeartbeats 800000 in
theorem bytes_any (c : BitVec 32) (w : World) :
    Calls Tryz.prog 171 #[.int .u32 (c.toNat : Int)] w fun e w' => ∃ C, C = byteCells (Crc.four c) ∧ e = .returned (.slice (some ⟨w.heap.size, 0, none⟩) 4 4) ∧ w' = w.alloc (.cells C 5) := by
  go_enter Tryz.func171, Tryz.ntmps171
  go_wp2
  go_ret
  exact ⟨_, rfl, rfl, by rw [← four_cells]⟩

set_option maxHeartbeats 800000 in
theorem seal_any (s : ByteArray) (w : World) (hs : s.size + 4 ≤ maxLen) :
    Calls Tryz.prog 136 #[.string s] w fun e w' => ∃ r : ByteArray, r.data.toList = Crc.seal_ s.data.toList ∧ e = .returned (.string r) ∧ Below w.heap.size w w' := by
  unfold maxLen at hs
  go_enter Tryz.func136, Tryz.ntmps136
  go_wp2_with fail
  refine (of_any s _ (by unfold maxLen; omega)).mono ?_
  rintro e w1 ⟨rfl, hb1⟩
  go_wp2_with fail
  refine (bytes_any _ _).mono ?_
  rintro e w2 ⟨C, hC, rfl, rfl⟩
  have hconv := conv_bytes (P := Tryz.prog) (w1.alloc (.cells C 5)) 121 9 5 Tryz.underlying121 Tryz.underlying5 Tryz.underlying9 w1.heap.size 0 4 4 (Crc.four (Crc.of s.data.toList)) rfl (fun i h => by
    rw [World.cell?_alloc_at C 5 _ _ rfl, hC, Nat.zero_add, byteCells_get _ _ h])
  obtain ⟨q, hq, eq⟩ := str_ex (Crc.four (Crc.of s.data.toList))
  rw [eq] at hconv
  have HQ := Lib.hid hq
  have hqs : q.size ≤ 4 := by rw [← size_toList, hq]; exact Nat.le_refl _
  clear hq eq hC
  go_wp2
  go_ret
  refine ⟨s ++ q, ?_, rfl, ?_⟩
  · rw [append_toList, HQ.out]; rfl
  · exact hb1.alloc hb1.size _

set_option maxHeartbeats 800000 in
theorem open_short (s : ByteArray) (w : World) (hs : s.size < 4) :
    Calls Tryz.prog 132 #[.string s] w fun e w' => e = .returned (.tuple #[.string ByteArray.empty, .int .i64 8]) ∧ w = w' := by
  go_enter Tryz.func132, Tryz.ntmps132
  go_wp2
  go_ret2
  exact ⟨rfl, rfl⟩

/-- 'It is a sealed text'. -/
def Sealed (l : List UInt8) : Prop := 4 ≤ l.length ∧ Crc.seal_ (l.take (l.length - 4)) = l

set_option maxHeartbeats 800000 in
theorem open_sealed (s : ByteArray) (w : World) (hs : s.size ≤ maxLen) (h : Sealed s.data.toList) :
    Calls Tryz.prog 132 #[.string s] w fun e w' => ∃ t : ByteArray, t.data.toList = s.data.toList.take (s.size - 4) ∧ e = .returned (.tuple #[.string t, .int .i64 0]) ∧ Below w.heap.size w w' := by
  unfold maxLen at hs
  have h4 : 4 ≤ s.size := by rw [← size_toList]; exact h.1
  have H := Lib.hid h.2
  clear h
  go_enter Tryz.func132, Tryz.ntmps132
  go_wp2_with fail
  refine (seal_any _ _ (by rw [cut_size s 0 (s.size - 4) (by omega) (by omega)]; unfold maxLen; omega)).mono ?_
  rintro e w1 ⟨r, hr, rfl, hb1⟩
  have hcmp : (r.toList == s.toList) = true := str_eq_true (by rw [hr, cut_list, List.drop_zero, Nat.sub_zero, ← size_toList]; exact H.out)
  clear hr
  go_wp2
  go_ret2
  exact ⟨_, by rw [cut_list, List.drop_zero, Nat.sub_zero], rfl, hb1⟩

set_option maxHeartbeats 800000 in
theorem open_wrong (s : ByteArray) (w : World) (h4 : 4 ≤ s.size) (hs : s.size ≤ maxLen) (h : ¬ Sealed s.data.toList) :
    Calls Tryz.prog 132 #[.string s] w fun e w' => e = .returned (.tuple #[.string ⟨#[]⟩, .int .i64 42]) ∧ Below w.heap.size w w' := by
  unfold maxLen at hs
  have H : Hid (Crc.seal_ (s.data.toList.take (s.data.toList.length - 4)) ≠ s.data.toList) := fun e => h ⟨by rw [size_toList]; exact h4, e⟩
  clear h
  go_enter Tryz.func132, Tryz.ntmps132
  go_wp2_with fail
  refine (seal_any _ _ (by rw [cut_size s 0 (s.size - 4) (by omega) (by omega)]; unfold maxLen; omega)).mono ?_
  rintro e w1 ⟨r, hr, rfl, hb1⟩
  have hcmp : (r.toList == s.toList) = false := str_eq_false (by rw [hr, cut_list, List.drop_zero, Nat.sub_zero, ← size_toList]; exact H.out)
  clear hr
  go_wp2
  go_ret2
  exact ⟨rfl, hb1⟩
end Go.Proofs.YtcdjckdbcffgdaaGreatDoor

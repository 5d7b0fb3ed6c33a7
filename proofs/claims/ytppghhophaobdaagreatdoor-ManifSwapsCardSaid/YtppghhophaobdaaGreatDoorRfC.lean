/- The walks of soukref01: the checksum bit by bit. -/
import Derived.Test.YtppghhophaobdaaGreatDoorRun
import Derived.Test.YtppghhophaobdaaGreatDoorBurstP
import Derived.Lib.ConvBytes
import Derived.Deep.QuietTactic
import Derived.BigQuiet
import Derived.Deep.RegionHeld3
import Derived.Lib.QuietBelow
namespace Go.Proofs.YtppghhophaobdaaGreatDoor
open Go.RowKit Go.Sort

namespace Crc
/-- A step by the reference: the number's lowest bit against the text's. -/
def rshift (c : BitVec 32) (t : Bool) : BitVec 32 := if c.getLsbD 0 != t then c >>> 1 ^^^ poly else c >>> 1
def one (t : Bool) : BitVec 32 := if t then 1#32 else 0#32
theorem one_bit (t : Bool) (i : Nat) : (one t).getLsbD i = (t && decide (i = 0)) := by
  unfold one
  cases t
  · simp
  · simp [BitVec.getLsbD_one]
theorem rshift_step (c : BitVec 32) (t : Bool) : rshift c t = step (c ^^^ one t) := by
  have h0 : (c ^^^ one t).getLsbD 0 = (c.getLsbD 0 != t) := by
    rw [BitVec.getLsbD_xor, one_bit]; cases c.getLsbD 0 <;> cases t <;> rfl
  have h1 : (c ^^^ one t) >>> 1 = c >>> 1 := by
    apply BitVec.eq_of_getLsbD_eq
    intro i _
    rw [BitVec.getLsbD_ushiftRight, BitVec.getLsbD_ushiftRight, BitVec.getLsbD_xor, one_bit]
    simp
  unfold rshift step
  rw [h0, h1]
def rover (c b : BitVec 32) : Nat → BitVec 32
  | 0 => c
  | i + 1 => rshift (rover c b i) (b.getLsbD i)
theorem rover_steps (c b : BitVec 32) (n : Nat) : steps n (c ^^^ b) = rover c b n ^^^ b >>> n := by
  induction n with
  | zero => simp [steps, rover]
  | succ n ih =>
    rw [steps_succ', ih, rover, rshift_step]
    have e : b >>> n = one (b.getLsbD n) ^^^ (b >>> (n + 1)) <<< 1 := by
      apply BitVec.eq_of_getLsbD_eq
      intro i hi
      rw [BitVec.getLsbD_xor, one_bit, BitVec.getLsbD_ushiftRight, BitVec.getLsbD_shiftLeft, BitVec.getLsbD_ushiftRight]
      by_cases h : i = 0
      · subst h; simp
      · have : n + 1 + (i - 1) = n + i := by omega
        rw [this]; simp [h, hi]
    have e0 : ((b >>> (n + 1)) <<< 1).getLsbD 0 = false := by rw [BitVec.getLsbD_shiftLeft]; simp
    have e1 : ((b >>> (n + 1)) <<< 1) >>> 1 = b >>> (n + 1) := by
      apply BitVec.eq_of_getLsbD_eq
      intro i hi
      rw [BitVec.getLsbD_ushiftRight, BitVec.getLsbD_shiftLeft, BitVec.getLsbD_ushiftRight]
      by_cases h : 1 + i < 32
      · simp [h]
      · have hi2 : i = 31 := by omega
        subst hi2
        have : b.getLsbD (n + 1 + 31) = false := BitVec.getLsbD_of_ge _ _ (by omega)
        rw [this]; simp
    have e2 : step ((b >>> (n + 1)) <<< 1) = b >>> (n + 1) := by unfold step; rw [e0, e1]; rfl
    rw [e, ← BitVec.xor_assoc, step_xor, e2]
theorem rover_eq (c : BitVec 32) (b : BitVec 8) : rover c (b.zeroExtend 32) 8 = over c b := by
  rw [over_eq, rover_steps]
  have : b.zeroExtend 32 >>> 8 = 0#32 := by
    apply BitVec.eq_of_getLsbD_eq
    intro i _
    rw [BitVec.getLsbD_ushiftRight]; simp
  rw [this]; simp
end Crc

theorem bit_val (p : BitVec 32) (i : Nat) : bits BinOp.and IntKind.u32 ((p.toNat : Int) / 2 ^ i) 1 = if p.getLsbD i then 1 else 0 := by
  have h1 : ((p.toNat : Int) / 2 ^ i) = ((p >>> i).toNat : Int) := by rw [shr_toNat]; congr 1
  rw [h1, step_bit (p >>> i), BitVec.getLsbD_ushiftRight, Nat.add_zero]

theorem ref_xorp (c : BitVec 32) : bits BinOp.xor IntKind.u32 ((c.toNat : Int) / 2) 3988292384 = ((c >>> 1 ^^^ Crc.poly).toNat : Int) := step_xorp c

set_option maxHeartbeats 400000 in
theorem rf_shift (c : BitVec 32) (x : Int) (t : Bool) (hx : x = if t then 1 else 0) (w : World) :
    Calls Tryz.prog 275 #[.int .u32 (c.toNat : Int), .int .u32 x] w fun e w' => e = .returned (.int .u32 ((Crc.rshift c t).toNat : Int)) ∧ w = w' := by
  have hb := step_bit c
  have HX := Lib.hid (ref_xorp c)
  cases h0 : c.getLsbD 0 <;> cases t
  all_goals
    obtain rfl := hx
    rw [h0] at hb
  · have HS : Hid ((Crc.rshift c false).toNat = (c >>> 1).toNat) := by unfold Crc.rshift; rw [h0]; rfl
    clear h0
    go_enter Tryz.func275, Tryz.ntmps275
    go_wp2
    go_ret
    exact ⟨ret_int (by rw [HS.out, shr_toNat]; rfl), rfl⟩
  · have HS : Hid ((Crc.rshift c true).toNat = (c >>> 1 ^^^ Crc.poly).toNat) := by unfold Crc.rshift; rw [h0]; rfl
    clear h0
    go_enter Tryz.func275, Tryz.ntmps275
    go_wp2
    go_ret
    exact ⟨ret_int (by rw [HS.out, HX.out]), rfl⟩
  · have HS : Hid ((Crc.rshift c false).toNat = (c >>> 1 ^^^ Crc.poly).toNat) := by unfold Crc.rshift; rw [h0]; rfl
    clear h0
    go_enter Tryz.func275, Tryz.ntmps275
    go_wp2
    go_ret
    exact ⟨ret_int (by rw [HS.out, HX.out]), rfl⟩
  · have HS : Hid ((Crc.rshift c true).toNat = (c >>> 1).toNat) := by unfold Crc.rshift; rw [h0]; rfl
    clear h0
    go_enter Tryz.func275, Tryz.ntmps275
    go_wp2
    go_ret
    exact ⟨ret_int (by rw [HS.out, shr_toNat]; rfl), rfl⟩

set_option maxHeartbeats 800000 in
theorem rf_over (c : BitVec 32) (b : BitVec 8) (w : World) :
    Calls Tryz.prog 247 #[.int .u32 (c.toNat : Int), .int .u8 (b.toNat : Int)] w fun e w' => e = .returned (.int .u32 ((Crc.over c b).toNat : Int)) ∧ w = w' := by
  have hbl := b.isLt
  rw [← Crc.rover_eq]
  obtain ⟨z, hz⟩ : ∃ z : BitVec 32, z = b.zeroExtend 32 := ⟨_, rfl⟩
  have HB := Lib.hid (show (z.toNat : Int) = (b.toNat : Int) by rw [hz, BitVec.zeroExtend, BitVec.toNat_setWidth, Nat.mod_eq_of_lt (by omega)])
  rw [← hz]
  clear hz
  go_enter Tryz.func247, Tryz.ntmps247
  go_wp2
  go_loop [0, 5] (fun v i => ∃ (k : Nat) (x : BitVec 32), k ≤ 8 ∧ i = .int .i64 k ∧ v = .int .u32 (x.toNat : Int) ∧ x = Crc.rover c z k) (fun _ i => 8 - (intOf i).toNat)
  case atStart => exact ⟨0, c, by omega, rfl, rfl, rfl⟩
  case round =>
    obtain ⟨k, x, hk, rfl, rfl, hx⟩ := hrel
    have HX := Lib.hid hx
    clear hx
    by_cases hlt : k < 8
    · have hv := bit_val z k
      rw [HB.out] at hv
      have HV := Lib.hid hv
      clear hv
      go_wp2_with fail
      refine (rf_shift x _ (z.getLsbD k) HV.out _).mono ?_
      rintro e w' ⟨rfl, rfl⟩
      have HE := Lib.hid (show Crc.rshift x (z.getLsbD k) = Crc.rover c z (k + 1) by rw [Crc.rover, HX.out])
      generalize Crc.rshift x (z.getLsbD k) = y at *
      go_wp2
      go_round
      case rel => exact ⟨k + 1, y, by omega, by go_num, rfl, HE.out⟩
      case measure => simp [intOf]; omega
    · obtain rfl : k = 8 := by omega
      go_wp2
      go_ret
      exact ⟨ret_int (by rw [HX.out]), rfl⟩

theorem bv_nat (b : UInt8) : (Crc.bv b).toNat = b.toNat := rfl

set_option maxHeartbeats 800000 in
theorem rf_add (x0 : BitVec 32) (s : ByteArray) (w : World) (hs : s.size ≤ maxLen) :
    Calls Tryz.prog 216 #[.int .u32 (x0.toNat : Int), .string s] w fun e w' => e = .returned (.int .u32 ((Crc.add x0 s.data.toList).toNat : Int)) ∧ w = w' := by
  unfold maxLen at hs
  unfold Crc.add
  obtain ⟨y, hy⟩ : ∃ y : BitVec 32, y = ~~~ x0 := ⟨_, rfl⟩
  have hn := not32 x0
  rw [← hy] at hn ⊢
  have HY := Lib.hid hy
  clear hy
  go_enter Tryz.func216, Tryz.ntmps216
  go_wp2
  go_loop [0, 5] (fun v i => ∃ (k : Nat) (x : BitVec 32), k ≤ s.size ∧ i = .int .i64 k ∧ v = .int .u32 (x.toNat : Int) ∧ x = Crc.run y (s.data.toList.take k)) (fun _ i => s.size - (intOf i).toNat)
  case atStart => exact ⟨0, y, by omega, rfl, rfl, rfl⟩
  case round =>
    obtain ⟨k, x, hk, rfl, rfl, hx⟩ := hrel
    have HX := Lib.hid hx
    clear hx hn
    by_cases hlt : k < s.size
    · go_wp2_with fail
      refine (rf_over x (Crc.bv s[k]) _).mono ?_
      rintro e w' ⟨rfl, rfl⟩
      have HE := Lib.hid (show Crc.over x (Crc.bv s[k]) = Crc.run y (s.data.toList.take (k + 1)) by rw [run_snoc_at y s k hlt, HX.out])
      generalize Crc.over x (Crc.bv s[k]) = z at *
      go_wp2
      go_round
      case rel => exact ⟨k + 1, z, by omega, by go_num, rfl, HE.out⟩
      case measure => simp [intOf]; omega
    · have HN := Lib.hid (not32 x)
      have hx2 := HX.out
      rw [List.take_of_length_le (by simp; omega)] at hx2
      have HX2 := Lib.hid hx2
      clear hx2
      go_wp2
      go_ret
      exact ⟨ret_int (by rw [HN.out, HX2.out, BitVec.toNat_not]), rfl⟩

set_option maxHeartbeats 800000 in
theorem rf_of (s : ByteArray) (w : World) (hs : s.size ≤ maxLen) :
    Calls Tryz.prog 190 #[.string s] w fun e w' => e = .returned (.int .u32 ((Crc.of s.data.toList).toNat : Int)) ∧ w = w' := by
  go_enter Tryz.func190, Tryz.ntmps190
  go_wp2_with fail
  refine (rf_add 0#32 s _ hs).mono ?_
  rintro e w1 ⟨rfl, rfl⟩
  go_wp2
  go_ret
  exact ⟨rfl, rfl⟩

set_option maxHeartbeats 800000 in
theorem rf_four (c : BitVec 32) (w : World) :
    Calls Tryz.prog 189 #[.int .u32 (c.toNat : Int)] w fun e w' => e = .returned (.string ⟨(Crc.four c).toArray⟩) ∧ Below w.heap.size w w' := by
  have hconv := conv_bytes (P := Tryz.prog) (w.alloc (.cells #[Value.int .u8 ((c.toNat : Int) % 256), .int .u8 ((c.toNat : Int) / 256 % 256), .int .u8 ((c.toNat : Int) / 65536 % 256), .int .u8 ((c.toNat : Int) / 16777216)] 5)) 149 9 5 Tryz.underlying149 Tryz.underlying5 Tryz.underlying9 w.heap.size 0 4 4 (Crc.four c) rfl (fun i h => by
    rw [World.cell?_alloc_at _ _ _ _ rfl, four_cells, Nat.zero_add, byteCells_get _ _ h])
  generalize hq : (⟨(Crc.four c).toArray⟩ : ByteArray) = q at *
  have HQ := Lib.hid hq
  clear hq
  go_enter Tryz.func189, Tryz.ntmps189
  go_wp2
  go_ret
  exact ⟨rfl, (Below.refl _ _).alloc (Nat.le_refl _) _⟩

set_option maxHeartbeats 800000 in
theorem rf_seal (s : ByteArray) (w : World) (hs : s.size + 4 ≤ maxLen) :
    Calls Tryz.prog 133 #[.string s] w fun e w' => ∃ r : ByteArray, r.data.toList = Crc.seal_ s.data.toList ∧ e = .returned (.string r) ∧ Below w.heap.size w w' := by
  unfold maxLen at hs
  go_enter Tryz.func133, Tryz.ntmps133
  go_wp2_with fail
  refine (rf_of s _ (by unfold maxLen; omega)).mono ?_
  rintro e w1 ⟨rfl, rfl⟩
  go_wp2_with fail
  refine (rf_four _ _).mono ?_
  rintro e w2 ⟨rfl, hb⟩
  obtain ⟨q, hq, hqe⟩ := str_ex (Crc.four (Crc.of s.data.toList))
  rw [hqe]
  have HQ := Lib.hid hq
  have hqs : q.size ≤ 4 := by rw [← size_toList, hq]; exact Nat.le_refl _
  clear hq hqe
  go_wp2
  go_ret
  exact ⟨s ++ q, by rw [append_toList, HQ.out]; rfl, rfl, hb⟩

set_option maxHeartbeats 800000 in
theorem rf_open_short (s : ByteArray) (w : World) (hs : s.size < 4) :
    Calls Tryz.prog 142 #[.string s] w fun e w' => e = .returned (.tuple #[.string ⟨#[]⟩, .int .i64 8]) ∧ w = w' := by
  go_enter Tryz.func142, Tryz.ntmps142
  go_wp2
  go_ret2
  exact ⟨rfl, rfl⟩

theorem seal_iff (l : List UInt8) (h4 : 4 ≤ l.length) : Crc.seal_ (l.take (l.length - 4)) = l ↔ Crc.four (Crc.of (l.take (l.length - 4))) = l.drop (l.length - 4) := by
  unfold Crc.seal_
  constructor
  · intro h
    have h2 := congrArg (List.drop (l.length - 4)) h
    rwa [List.drop_append_of_le_length (by rw [List.length_take]; omega), List.drop_of_length_le (by rw [List.length_take]; omega), List.nil_append] at h2
  · intro h
    rw [h, List.take_append_drop]

set_option maxRecDepth 100000 in
set_option maxHeartbeats 1600000 in
theorem rf_open (s : ByteArray) (w : World) (h4 : 4 ≤ s.size) (hs : s.size ≤ maxLen) (bo : Bool) (hbo : bo = true ↔ Sealed s.data.toList) :
    Calls Tryz.prog 142 #[.string s] w fun e w' => (∃ t : ByteArray, t.data.toList = (if bo then s.data.toList.take (s.size - 4) else []) ∧ e = .returned (.tuple #[.string t, .int .i64 (if bo then 0 else 42)])) ∧ Below w.heap.size w w' := by
  unfold maxLen at hs
  have hw4 : IntKind.i64.wrap ((s.size : Int) - 4) = ((s.size - 4 : Nat) : Int) := by rw [IntWalk.i64_in _ (by omega)]; omega
  obtain ⟨n, hn⟩ : ∃ n, n = s.size - 4 := ⟨_, rfl⟩
  rw [← hn] at hw4
  have hns : n + 4 = s.size := by omega
  have hnle : ((n : Nat) : Int) ≤ (s.size : Int) := by omega
  have hn0 : (0 : Int) ≤ (n : Int) := by omega
  have HA := Lib.hid (show (s.extract 0 n).data.toList = s.data.toList.take n by rw [cut_list, List.drop_zero, Nat.sub_zero])
  have HAS := Lib.hid (show (s.extract 0 n).size = n by rw [cut_size _ _ _ (by omega) (by omega)]; omega)
  have HZ := Lib.hid (show (s.extract n s.size).data.toList = s.data.toList.drop n by rw [cut_list, List.take_of_length_le (by rw [List.length_drop, size_toList]; omega)])
  have hcmp : (((⟨(Crc.four (Crc.of (s.data.toList.take n))).toArray⟩ : ByteArray)).toList == (s.extract n s.size).toList) = bo := by
    have e : Sealed s.data.toList ↔ Crc.four (Crc.of (s.data.toList.take n)) = s.data.toList.drop n := by
      unfold Sealed
      rw [size_toList, ← hn]
      constructor
      · rintro ⟨h1, h2⟩
        have := (seal_iff s.data.toList (by rw [size_toList]; omega)).1 (by rw [size_toList, ← hn]; exact h2)
        rwa [size_toList, ← hn] at this
      · intro h
        have := (seal_iff s.data.toList (by rw [size_toList]; omega)).2 (by rw [size_toList, ← hn]; exact h)
        rw [size_toList, ← hn] at this
        exact ⟨h4, this⟩
    rw [e] at hbo
    rw [ByteArray.toList_eq, ByteArray.toList_eq, HZ.out]
    rw [Bool.eq_iff_iff, hbo, beq_iff_eq]
  have HN := Lib.hid hn
  clear hbo hn
  go_enter Tryz.func142, Tryz.ntmps142
  go_wp2_with fail
  have q1 : ∀ d os, Calls Tryz.prog 190 #[.string (s.extract 0 n)] (grow (redrawn w d) os) fun e w'' => e = .returned (.int .u32 ((Crc.of (s.data.toList.take n)).toNat : Int)) ∧ ∃ p : Regrown, w'' = grow (redrawn w p.d) p.os := fun d os => (rf_of (s.extract 0 n) (grow (redrawn w d) os) (by rw [HAS.out]; unfold maxLen; omega)).mono (by rintro e w' ⟨rfl, rfl⟩; exact ⟨by rw [HA.out], ⟨d, os⟩, rfl⟩)
  have q2 : ∀ d os, Calls Tryz.prog 189 #[.int .u32 ((Crc.of (s.data.toList.take n)).toNat : Int)] (grow (redrawn w d) os) fun e w'' => e = .returned (.string ⟨(Crc.four (Crc.of (s.data.toList.take n))).toArray⟩) ∧ ∃ p : Regrown, w'' = grow (redrawn w p.d) p.os := fun d os => Calls.regrown_of (rf_four _ _)
  generalize hQ : (⟨(Crc.four (Crc.of (s.data.toList.take n))).toArray⟩ : ByteArray) = Q at *
  generalize (Crc.of (s.data.toList.take n)) = C at *
  clear hQ
  refine wp_region_quiet_below (by kernel_rfl) (by kernel_rfl) ?_
  repeat (go_big_quiet_step (first | exact q1 _ _ | exact q2 _ _))
  refine wpQuiet_nil ?_
  intro _ hw'
  obtain ⟨⟨dq, osq⟩, hw''⟩ := hw'
  subst hw''
  clear q1 q2
  have HB := Lib.hid (below_regrown w dq osq)
  generalize grow (redrawn w dq) osq = w2 at *
  cases bo
  · go_wp2
    go_ret2
    exact ⟨⟨_, rfl, rfl⟩, HB.out⟩
  · go_wp2
    go_ret2
    exact ⟨⟨_, by rw [HA.out, HN.out], rfl⟩, HB.out⟩
end Go.Proofs.YtppghhophaobdaaGreatDoor

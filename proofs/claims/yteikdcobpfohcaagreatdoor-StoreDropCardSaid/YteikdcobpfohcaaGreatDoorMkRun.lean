/- The walks of crc.run at a string, crc.Add, crc.Of, crc.bytes, crc.Seal, crc.Open. -/
import Derived.Test.YteikdcobpfohcaaGreatDoorMFi
namespace Go.Proofs.YteikdcobpfohcaaGreatDoor
open Go.RowKit

theorem run_index (x : BitVec 32) (b : UInt8) : bits .xor .u8 ((x.toNat : Int) % 256) (b.toNat : Int) = ((x.truncate 8 ^^^ Crc.bv b).toNat : Int) := by
  rw [← bits_xor8]
  congr 1

theorem run_snoc_at (x0 : BitVec 32) (s : ByteArray) (k : Nat) (h : k < s.size) : Crc.run x0 (s.data.toList.take (k + 1)) = Crc.over (Crc.run x0 (s.data.toList.take k)) (Crc.bv s[k]) := by
  rw [List.take_succ_eq_append_getElem (by simpa using h), Crc.run_snoc]; rfl

theorem run_word (y x : BitVec 32) : bits .xor .u32 (y.toNat : Int) ((x.toNat : Int) / 256) = ((y ^^^ x >>> 8).toNat : Int) := by
  rw [← bits_xor32, shr_toNat]; rfl

set_option maxRecDepth 100000 in
set_option maxHeartbeats 800000 in
theorem run_any (c : Array Value) (x0 : BitVec 32) (s : ByteArray) (w : World) (hc : TabCells 256 c) (hs : s.size ≤ maxLen) :
    Calls Tryz.prog 224 #[.agg c, .int .u32 (x0.toNat : Int), .string s] w fun e w' => e = .returned (.int .u32 ((Crc.run x0 s.data.toList).toNat : Int)) ∧ Below w.heap.size w w' := by
  unfold maxLen at hs
  have HC := Lib.hid hc
  clear hc
  go_enter Tryz.func224, Tryz.ntmps224
  go_wp2
  go_loop [1, 10] (fun v i => ∃ (k : Nat) (x : BitVec 32), k ≤ s.size ∧ i = .int .i64 k ∧ v = .int .u32 (x.toNat : Int) ∧ x = Crc.run x0 (s.data.toList.take k)) (fun _ i => s.size - (intOf i).toNat)
  case atStart => exact ⟨0, x0, by omega, rfl, rfl, rfl⟩
  case round =>
    obtain ⟨k, x, hk, rfl, rfl, hx⟩ := hrel
    have HX := Lib.hid hx
    clear hx
    by_cases hlt : k < s.size
    · obtain ⟨t, ht⟩ : ∃ t : BitVec 8, t = x.truncate 8 ^^^ Crc.bv s[k] := ⟨_, rfl⟩
      obtain ⟨y, hy⟩ : ∃ y : BitVec 32, y = Crc.tab t := ⟨_, rfl⟩
      have hI := run_index x s[k]
      rw [← ht] at hI
      have htl := t.isLt
      have hcell : c[t.toNat]? = some (.int .u32 (y.toNat : Int)) := by
        rw [HC.out.2 t.toNat (by omega), hy]; unfold u32v; simp
      have HW := Lib.hid (run_word y x)
      have HT := Lib.hid ht
      have HY := Lib.hid hy
      clear ht hy
      go_wp2
      go_round
      case rel =>
        refine ⟨k + 1, y ^^^ x >>> 8, by omega, by go_num, by rw [HW.out], ?_⟩
        rw [run_snoc_at x0 s k hlt, ← HX.out, HY.out, HT.out]; rfl
      case measure => simp [intOf]; omega
    · go_wp2
      go_ret
      exact ⟨ret_int (by rw [HX.out, List.take_of_length_le (by simp; omega)]), (Below.refl _ _).alloc (Nat.le_refl _) _⟩

theorem not32 (x : BitVec 32) : bits .xor .u32 IntKind.u32.max (x.toNat : Int) = ((~~~ x).toNat : Int) := by
  have h := bits_xor32 (~~~ 0#32) x
  have e : (((~~~ 0#32 : BitVec 32).toNat : Nat) : Int) = IntKind.u32.max := by decide
  rw [e] at h
  rw [h, Crc.ones, BitVec.allOnes_xor]

set_option maxHeartbeats 800000 in
theorem add_any (x0 : BitVec 32) (s : ByteArray) (w : World) (hs : s.size ≤ maxLen) :
    Calls Tryz.prog 187 #[.int .u32 (x0.toNat : Int), .string s] w fun e w' => e = .returned (.int .u32 ((Crc.add x0 s.data.toList).toNat : Int)) ∧ Below w.heap.size w w' := by
  unfold Crc.add
  obtain ⟨y, hy⟩ : ∃ y : BitVec 32, y = ~~~ x0 := ⟨_, rfl⟩
  have hn := not32 x0
  rw [← hy] at hn ⊢
  have HY := Lib.hid hy
  clear hy
  go_enter Tryz.func187, Tryz.ntmps187
  go_wp2_with fail
  refine (table_any _).mono ?_
  rintro e w1 ⟨c, hc, rfl, hb1⟩
  go_wp2_with fail
  refine (run_any c y s _ hc hs).mono ?_
  rintro e w2 ⟨rfl, hb2⟩
  have HN := Lib.hid (not32 (Crc.run y s.data.toList))
  go_wp2
  go_ret
  exact ⟨ret_int HN.out, hb1.trans (hb2.mono hb1.size)⟩

set_option maxHeartbeats 800000 in
theorem of_any (s : ByteArray) (w : World) (hs : s.size ≤ maxLen) :
    Calls Tryz.prog 105 #[.string s] w fun e w' => e = .returned (.int .u32 ((Crc.of s.data.toList).toNat : Int)) ∧ Below w.heap.size w w' := by
  go_enter Tryz.func105, Tryz.ntmps105
  go_wp2_with fail
  refine (add_any 0#32 s _ hs).mono ?_
  rintro e w1 ⟨rfl, hb1⟩
  go_wp2
  go_ret
  exact ⟨rfl, hb1⟩

theorem four_cells (c : BitVec 32) : #[Value.int .u8 ((c.toNat : Int) % 256), .int .u8 ((c.toNat : Int) / 256 % 256), .int .u8 ((c.toNat : Int) / 65536 % 256), .int .u8 ((c.toNat : Int) / 16777216)] = byteCells (Crc.four c) := by
  have h := c.isLt
  have e0 : ((UInt8.ofBitVec (c.truncate 8)).toNat : Int) = (c.toNat : Int) % 256 := by
    show (((c.truncate 8).toNat : Nat) : Int) = _
    rw [BitVec.truncate_eq_setWidth, BitVec.toNat_setWidth]; omega
  have e1 : ((UInt8.ofBitVec ((c >>> 8).truncate 8)).toNat : Int) = (c.toNat : Int) / 256 % 256 := by
    show ((((c >>> 8).truncate 8).toNat : Nat) : Int) = _
    rw [BitVec.truncate_eq_setWidth, BitVec.toNat_setWidth, BitVec.toNat_ushiftRight, Nat.shiftRight_eq_div_pow]; omega
  have e2 : ((UInt8.ofBitVec ((c >>> 16).truncate 8)).toNat : Int) = (c.toNat : Int) / 65536 % 256 := by
    show ((((c >>> 16).truncate 8).toNat : Nat) : Int) = _
    rw [BitVec.truncate_eq_setWidth, BitVec.toNat_setWidth, BitVec.toNat_ushiftRight, Nat.shiftRight_eq_div_pow]; omega
  have e3 : ((UInt8.ofBitVec ((c >>> 24).truncate 8)).toNat : Int) = (c.toNat : Int) / 16777216 := by
    show ((((c >>> 24).truncate 8).toNat : Nat) : Int) = _
    rw [BitVec.truncate_eq_setWidth, BitVec.toNat_setWidth, BitVec.toNat_ushiftRight, Nat.shiftRight_eq_div_pow]; omega
  simp only [byteCells, Crc.four, List.map_cons, List.map_nil, u8v, e0, e1, e2, e3]

set_option maxHeartbeats 800000 in
theorem bytes_any (c : BitVec 32) (w : World) :
    Calls Tryz.prog 104 #[.int .u32 (c.toNat : Int)] w fun e w' => ∃ C, C = byteCells (Crc.four c) ∧ e = .returned (.slice (some ⟨w.heap.size, 0, none⟩) 4 4) ∧ w' = w.alloc (.cells C 5) := by
  go_enter Tryz.func104, Tryz.ntmps104
  go_wp2
  go_ret
  exact ⟨_, rfl, rfl, by rw [← four_cells]⟩

set_option maxHeartbeats 800000 in
theorem seal_any (s : ByteArray) (w : World) (hs : s.size + 4 ≤ maxLen) :
    Calls Tryz.prog 68 #[.string s] w fun e w' => ∃ r : ByteArray, r.data.toList = Crc.seal_ s.data.toList ∧ e = .returned (.string r) ∧ Below w.heap.size w w' := by
  unfold maxLen at hs
  go_enter Tryz.func68, Tryz.ntmps68
  go_wp2_with fail
  refine (of_any s _ (by unfold maxLen; omega)).mono ?_
  rintro e w1 ⟨rfl, hb1⟩
  go_wp2_with fail
  refine (bytes_any _ _).mono ?_
  rintro e w2 ⟨C, hC, rfl, rfl⟩
  have hconv := conv_bytes (P := Tryz.prog) (w1.alloc (.cells C 5)) 120 9 5 Tryz.underlying120 Tryz.underlying5 Tryz.underlying9 w1.heap.size 0 4 4 (Crc.four (Crc.of s.data.toList)) rfl (fun i h => by
    rw [World.cell?_alloc_at C 5 _ _ rfl, hC, Nat.zero_add, byteCells_get _ _ h])
  obtain ⟨q, hq, eq⟩ := str_ex (Crc.four (Crc.of s.data.toList))
  rw [eq] at hconv
  have HQ := Lib.hid hq
  have hqs : q.size ≤ 4 := by rw [← size_toList, hq]; exact Nat.le_refl _
  clear hq eq hC
  go_wp2
  go_ret
  refine ⟨s ++ q, ?_, rfl, ?_⟩
  · rw [append_toList, HQ.out]; rfl
  · exact hb1.alloc hb1.size _

set_option maxHeartbeats 800000 in
theorem open_short (s : ByteArray) (w : World) (hs : s.size < 4) :
    Calls Tryz.prog 53 #[.string s] w fun e w' => e = .returned (.tuple #[.string ByteArray.empty, .int .i64 8]) ∧ w = w' := by
  go_enter Tryz.func53, Tryz.ntmps53
  go_wp2
  go_ret2
  exact ⟨rfl, rfl⟩

/-- 'It is a sealed text'. -/
def Sealed (l : List UInt8) : Prop := 4 ≤ l.length ∧ Crc.seal_ (l.take (l.length - 4)) = l

set_option maxHeartbeats 800000 in
theorem open_sealed (s : ByteArray) (w : World) (hs : s.size ≤ maxLen) (h : Sealed s.data.toList) :
    Calls Tryz.prog 53 #[.string s] w fun e w' => ∃ t : ByteArray, t.data.toList = s.data.toList.take (s.size - 4) ∧ e = .returned (.tuple #[.string t, .int .i64 0]) ∧ Below w.heap.size w w' := by
  unfold maxLen at hs
  have h4 : 4 ≤ s.size := by rw [← size_toList]; exact h.1
  have H := Lib.hid h.2
  clear h
  go_enter Tryz.func53, Tryz.ntmps53
  go_wp2_with fail
  refine (seal_any _ _ (by rw [cut_size s 0 (s.size - 4) (by omega) (by omega)]; unfold maxLen; omega)).mono ?_
  rintro e w1 ⟨r, hr, rfl, hb1⟩
  have hcmp : (r.toList == s.toList) = true := str_eq_true (by rw [hr, cut_list, List.drop_zero, Nat.sub_zero, ← size_toList]; exact H.out)
  clear hr
  go_wp2
  go_ret2
  exact ⟨_, by rw [cut_list, List.drop_zero, Nat.sub_zero], rfl, hb1⟩

set_option maxHeartbeats 800000 in
theorem open_wrong (s : ByteArray) (w : World) (h4 : 4 ≤ s.size) (hs : s.size ≤ maxLen) (h : ¬ Sealed s.data.toList) :
    Calls Tryz.prog 53 #[.string s] w fun e w' => e = .returned (.tuple #[.string ⟨#[]⟩, .int .i64 42]) ∧ Below w.heap.size w w' := by
  unfold maxLen at hs
  have H : Hid (Crc.seal_ (s.data.toList.take (s.data.toList.length - 4)) ≠ s.data.toList) := fun e => h ⟨by rw [size_toList]; exact h4, e⟩
  clear h
  go_enter Tryz.func53, Tryz.ntmps53
  go_wp2_with fail
  refine (seal_any _ _ (by rw [cut_size s 0 (s.size - 4) (by omega) (by omega)]; unfold maxLen; omega)).mono ?_
  rintro e w1 ⟨r, hr, rfl, hb1⟩
  have hcmp : (r.toList == s.toList) = false := str_eq_false (by rw [hr, cut_list, List.drop_zero, Nat.sub_zero, ← size_toList]; exact H.out)
  clear hr
  go_wp2
  go_ret2
  exact ⟨rfl, hb1⟩
end Go.Proofs.YteikdcobpfohcaaGreatDoor

/- The walk's spelling of operations on bits, told as operations on BitVec. No program of this seat. -/
import Derived.WalkKit
import Derived.WalkSpells
import Derived.WalkLawsBesides
import Derived.Lib.Hide
import Derived.Laws.BytesArg
import Derived.Lib.Strings
namespace Go.Proofs.YtppghhophaobdaaGreatDoor
open Go.RowKit

theorem ret_int {k : IntKind} {a b : Int} (h : a = b) : Ending.returned (.int k a) = .returned (.int k b) := by rw [h]

theorem ofInt_toNat {n : Nat} (a : BitVec n) : BitVec.ofInt n (a.toNat : Int) = a := by
  rw [BitVec.ofInt_natCast]; simp

theorem bits_and32 (a b : BitVec 32) : bits .and .u32 (a.toNat : Int) (b.toNat : Int) = ((a &&& b).toNat : Int) := by
  show IntKind.u32.wrap ((BitVec.ofInt 32 (a.toNat : Int) &&& BitVec.ofInt 32 (b.toNat : Int)).toNat : Int) = _
  rw [ofInt_toNat, ofInt_toNat, IntKind.wrap_u32]; have := (a &&& b).isLt; omega
theorem bits_or32 (a b : BitVec 32) : bits .or .u32 (a.toNat : Int) (b.toNat : Int) = ((a ||| b).toNat : Int) := by
  show IntKind.u32.wrap ((BitVec.ofInt 32 (a.toNat : Int) ||| BitVec.ofInt 32 (b.toNat : Int)).toNat : Int) = _
  rw [ofInt_toNat, ofInt_toNat, IntKind.wrap_u32]; have := (a ||| b).isLt; omega
theorem bits_xor32 (a b : BitVec 32) : bits .xor .u32 (a.toNat : Int) (b.toNat : Int) = ((a ^^^ b).toNat : Int) := by
  show IntKind.u32.wrap ((BitVec.ofInt 32 (a.toNat : Int) ^^^ BitVec.ofInt 32 (b.toNat : Int)).toNat : Int) = _
  rw [ofInt_toNat, ofInt_toNat, IntKind.wrap_u32]; have := (a ^^^ b).isLt; omega
theorem bits_xor8 (a b : BitVec 8) : bits .xor .u8 (a.toNat : Int) (b.toNat : Int) = ((a ^^^ b).toNat : Int) := by
  show IntKind.u8.wrap ((BitVec.ofInt 8 (a.toNat : Int) ^^^ BitVec.ofInt 8 (b.toNat : Int)).toNat : Int) = _
  rw [ofInt_toNat, ofInt_toNat, IntKind.wrap_u8]; have := (a ^^^ b).isLt; omega
theorem bits_or64 (a b : BitVec 64) : bits .or .u64 (a.toNat : Int) (b.toNat : Int) = ((a ||| b).toNat : Int) := by
  show IntKind.u64.wrap ((BitVec.ofInt 64 (a.toNat : Int) ||| BitVec.ofInt 64 (b.toNat : Int)).toNat : Int) = _
  rw [ofInt_toNat, ofInt_toNat, IntKind.wrap_u64]; have := (a ||| b).isLt; omega
theorem bits_and64 (a b : BitVec 64) : bits .and .u64 (a.toNat : Int) (b.toNat : Int) = ((a &&& b).toNat : Int) := by
  show IntKind.u64.wrap ((BitVec.ofInt 64 (a.toNat : Int) &&& BitVec.ofInt 64 (b.toNat : Int)).toNat : Int) = _
  rw [ofInt_toNat, ofInt_toNat, IntKind.wrap_u64]; have := (a &&& b).isLt; omega

theorem shr_toNat {n : Nat} (a : BitVec n) (k : Nat) : ((a >>> k).toNat : Int) = (a.toNat : Int) / (2 ^ k : Nat) := by
  rw [BitVec.toNat_ushiftRight, Nat.shiftRight_eq_div_pow]; rfl

/-- A byte as a value. -/
def u8v (b : UInt8) : Value := .int .u8 (b.toNat : Int)
def byteCells (l : List UInt8) : Array Value := (l.map u8v).toArray
theorem byteCells_size (l : List UInt8) : (byteCells l).size = l.length := by simp [byteCells]
theorem byteCells_get (l : List UInt8) (i : Nat) (h : i < l.length) : (byteCells l)[i]? = some (u8v l[i]) := by simp [byteCells, h]

/-- string(b) of bytes that lie in memory. -/
theorem conv_bytes {P : Program} (w : World) (src dst e : TypeId) (hs : P.underlying src = some (.slice e)) (he : P.underlying e = some (.int .u8)) (hd : P.underlying dst = some .string) (b off len cap : Nat) (l : List UInt8) (hlen : l.length = len)
    (hcell : ∀ i (h : i < l.length), w.cell? ⟨b, off + i, none⟩ = some (u8v l[i])) :
    (convert src dst (.slice (some ⟨b, off, none⟩) len cap)).run P w = .ok (.string ⟨l.toArray⟩) w := by
  have h := run_convert_bytes_arg (P := P) w src e hs he b off len cap (l.map fun x => (x.toNat : Int)) (by simp [hlen]) (fun i hi => by
    rw [hcell i (by omega)]
    simp [u8v, show i < l.length from by omega]) dst hd
  rw [h]
  congr 3
  unfold strOfNums
  congr 2
  rw [List.map_map]
  conv => rhs; rw [← List.map_id l]
  apply List.map_congr_left
  intro x _
  simp

/-- A string whose bytes are told apart from it. -/
theorem str_ex (l : List UInt8) : ∃ q : ByteArray, q.data.toList = l ∧ (⟨l.toArray⟩ : ByteArray) = q := ⟨⟨l.toArray⟩, rfl, rfl⟩
theorem size_toList (q : ByteArray) : q.data.toList.length = q.size := Array.length_toList
theorem append_toList (a b : ByteArray) : (a ++ b).data.toList = a.data.toList ++ b.data.toList := by rw [ByteArray.data_append, Array.toList_append]
theorem str_ext {a b : ByteArray} (h : a.data.toList = b.data.toList) : a = b := by
  apply ByteArray.ext
  exact Array.ext' h

theorem size_of_list {q : ByteArray} {l : List UInt8} (h : q.data.toList = l) : q.size = l.length := by rw [← h, size_toList]
theorem cut_list (s : ByteArray) (a b : Nat) : (s.extract a b).data.toList = (s.data.toList.drop a).take (b - a) := Lib.extract_data s a b
theorem cut_size (s : ByteArray) (a b : Nat) (h : b ≤ s.size) (h2 : a ≤ b) : (s.extract a b).size = b - a := by
  rw [size_of_list (cut_list s a b), List.length_take, List.length_drop, size_toList]; omega
theorem str_eq_true {a b : ByteArray} (h : a.data.toList = b.data.toList) : (a.toList == b.toList) = true := by rw [ByteArray.toList_eq, ByteArray.toList_eq, h]; simp
theorem str_eq_false {a b : ByteArray} (h : a.data.toList ≠ b.data.toList) : (a.toList == b.toList) = false := by rw [ByteArray.toList_eq, ByteArray.toList_eq]; simpa using h

theorem ret_str {a b : ByteArray} (h : a.data.toList = b.data.toList) : Ending.returned (.string a) = .returned (.string b) := by rw [str_ext h]

end Go.Proofs.YtppghhophaobdaaGreatDoor

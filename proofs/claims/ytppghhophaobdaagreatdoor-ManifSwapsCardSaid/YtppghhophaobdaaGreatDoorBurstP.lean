/- Bits of a burst, plain. -/
import Derived.Test.YtppghhophaobdaaGreatDoorBv
import Derived.Test.YtppghhophaobdaaGreatDoorCrcP
namespace Go.Proofs.YtppghhophaobdaaGreatDoor
open Go.RowKit

theorem bit_test (p : BitVec 32) (i : Nat) : (bits BinOp.and IntKind.u32 ((p.toNat : Int) / 2 ^ i) 1 == 1) = p.getLsbD i := by
  have h1 : ((p.toNat : Int) / 2 ^ i) = ((p >>> i).toNat : Int) := by rw [shr_toNat]; congr 1
  have h2 := bits_and32 (p >>> i) 1#32
  rw [h1]
  have h3 : bits BinOp.and IntKind.u32 ((p >>> i).toNat : Int) 1 = (((p >>> i) &&& 1#32).toNat : Int) := h2
  rw [h3]
  have h4 : ((p >>> i) &&& 1#32) = if p.getLsbD i then 1#32 else 0#32 := by
    apply BitVec.eq_of_getLsbD_eq
    intro j hj
    rw [BitVec.getLsbD_and, BitVec.getLsbD_ushiftRight]
    by_cases h0 : j = 0
    · subst h0; cases p.getLsbD i <;> simp
    · have : (1#32).getLsbD j = false := by simp [BitVec.getLsbD_one, h0]
      rw [this]
      cases p.getLsbD i
      · simp
      · simp [h0]
  rw [h4]
  cases p.getLsbD i <;> rfl

theorem xor_flip (B : UInt8) (m : Nat) : bits BinOp.xor IntKind.u8 (B.toNat : Int) (2 ^ m % 256) = ((B ^^^ UInt8.ofBitVec (1#8 <<< m)).toNat : Int) := by
  have h1 : ((2 : Int) ^ m % 256) = ((1#8 <<< m).toNat : Int) := by
    rw [BitVec.toNat_shiftLeft, Nat.shiftLeft_eq]; simp
  rw [h1]
  exact bits_xor8 B.toBitVec (1#8 <<< m)
end Go.Proofs.YtppghhophaobdaaGreatDoor

/- The walk of crc.step. -/
import Derived.Test.YtppghhophaobdaaGreatDoorChecked
import Derived.Test.YtppghhophaobdaaGreatDoorCrcP
import Derived.Test.YtppghhophaobdaaGreatDoorBv
namespace Go.Proofs.YtppghhophaobdaaGreatDoor
open Go.RowKit

theorem step_bit (c : BitVec 32) : bits BinOp.and IntKind.u32 (c.toNat : Int) 1 = if c.getLsbD 0 then 1 else 0 := by
  have h := bits_and32 c 1#32
  rw [show ((1#32).toNat : Int) = 1 from rfl] at h
  rw [h]
  rw [BitVec.and_one_eq_setWidth_ofBool_getLsbD]
  cases c.getLsbD 0 <;> rfl

theorem step_xorp (c : BitVec 32) : bits BinOp.xor IntKind.u32 ((c.toNat : Int) / 2) 3988292384 = ((c >>> 1 ^^^ Crc.poly).toNat : Int) := by
  have h := bits_xor32 (c >>> 1) Crc.poly
  rw [shr_toNat] at h
  exact h

set_option maxHeartbeats 400000 in
theorem step_any (c : BitVec 32) (w : World) :
    Calls Tryz.prog 267 #[.int .u32 (c.toNat : Int)] w fun e w' => e = .returned (.int .u32 ((Crc.step c).toNat : Int)) ∧ w = w' := by
  have hb := step_bit c
  have HX := Lib.hid (step_xorp c)
  cases h0 : c.getLsbD 0
  · rw [h0] at hb
    have HS : Hid ((Crc.step c).toNat = (c >>> 1).toNat) := by unfold Crc.step; rw [h0]; rfl
    clear h0
    go_enter Tryz.func267, Tryz.ntmps267
    go_wp2
    go_ret
    exact ⟨ret_int (by rw [HS.out, shr_toNat]; rfl), rfl⟩
  · rw [h0] at hb
    have HS : Hid ((Crc.step c).toNat = (c >>> 1 ^^^ Crc.poly).toNat) := by unfold Crc.step; rw [h0]; rfl
    clear h0
    go_enter Tryz.func267, Tryz.ntmps267
    go_wp2
    go_ret
    exact ⟨ret_int (by rw [HS.out, HX.out]), rfl⟩
end Go.Proofs.YtppghhophaobdaaGreatDoor

/- The chapter's example, reckoned. -/
import Derived.Test.YtljmekdilhphaaaGreatDoorSw2
import Derived.Test.YtljmekdilhphaaaGreatDoorManP
import Derived.Test.YtljmekdilhphaaaGreatDoorNms
namespace Go.Proofs.YtljmekdilhphaaaGreatDoor

def exL : Segs := [(1, 0), (2, 7)]
def exS : List UInt8 := Crc.seal_ (manBytes 2 exL)
def oldS : List UInt8 := [111, 108, 100]
/-- The disk that each round begins with. -/
def awSt (cut : Int) : DkSt := ⟨[⟨fileN, oldS, []⟩], 200, cut, false⟩
theorem ex_may : mayB 2 exL = true := by decide
theorem ex_len : exS.length = 50 := by unfold exS; rw [Crc.seal_length, manBytes_length]; rfl
theorem ex_head : exS.take 14 = [109, 97, 110, 49, 0, 0, 0, 0, 0, 0, 0, 2, 0, 2] := by
  unfold exS Crc.seal_
  rw [List.take_append_of_le_length (by rw [manBytes_length]; decide)]
  decide
theorem ex_load : dkLoad 200 [⟨fileN, oldS, []⟩] = (some (awSt (-1)), 0) := by kernel_rfl
theorem aw2 : (dkSwap (awSt 2) 2 exL).2 = 45 ∧ dkRead (dkCrash (dkSwap (awSt 2) 2 exL).1 [99]) fileN = (oldS, 0) := by decide +kernel
theorem aw3 : (dkSwap (awSt 3) 2 exL).2 = 45 ∧ dkRead (dkCrash (dkSwap (awSt 3) 2 exL).1 [99]) fileN = (oldS, 0) := by decide +kernel
theorem aw4 : (dkSwap (awSt 4) 2 exL).2 = 0 ∧ dkRead (dkCrash (dkSwap (awSt 4) 2 exL).1 [99]) fileN = (exS, 0) := by decide +kernel
theorem ex_names : nameOf (2, 7) = [115, 48, 48, 48, 48, 48, 48, 48, 50, 45, 48, 48, 48, 48, 48, 48, 48, 48, 48, 55] := by decide +kernel
end Go.Proofs.YtljmekdilhphaaaGreatDoor

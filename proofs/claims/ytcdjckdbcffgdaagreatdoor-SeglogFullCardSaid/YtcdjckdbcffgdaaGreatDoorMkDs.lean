/- A body behind its first statements. -/
import Derived.Test.YtcdjckdbcffgdaaGreatDoorMAa
namespace Go.Proofs.YtcdjckdbcffgdaaGreatDoor

/-- What is left of a body behind its first statements. -/
def dropS : Nat → Code → Code
  | n + 1, .seq _ b => dropS n b
  | _, c => c
end Go.Proofs.YtcdjckdbcffgdaaGreatDoor

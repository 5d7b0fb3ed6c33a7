/-
  DERIVED. GIVEN WITH THE SEED: THE CARDS: each row of YthjjgcfdhkhelaaGreatDoorRows.lean that lists a variable, with what it lists TIED to the program's text (the seventh form; the later family's looks); each row that meets fmt, with fmt's text TOLD by the authors' own Lean function (tested against real Go, not proved from fmt's source: count such statements apart). THE CARD IS WHAT COUNTS. Prove the row's statement (the work); the ties are given (YthjjgcfdhkhelaaGreatDoorTie.lean); close each card by the builder's one call (the guide's Derived/Test/ToyasCard.lean, 'card_holds'). Laid BY PROGRAM, IN A SANDBOX (cutbox-door.mjs). By AI agents, Wed Nov 11 2026. No macro, syntax, notation, axiom, sorry.
-/
import Derived.Test.YthjjgcfdhkhelaaGreatDoorRows
import GoSem.ClaimSeven
namespace Go.Proofs.YthjjgcfdhkhelaaGreatDoor
namespace Rows

/-- THE TIED CARD OF 'souklaw29.MaintNames'. -/
def maintNamesCard : Claim7 := { stood := { row := maintNamesRow, standIns := [], harness := (true, "68f93889ce7d39776192ce6c15f10f06377167f0ddf2f2357846b995d410c74b"), looks := true }, kinds := [], alts := [], laidByText := true, laidKinds := [.pinned, .data, .data, .data, .data, .data, .sentinel, .sentinel], laidTests := true, laidLooks := .later }
def MaintNamesCardSaid : Prop := Claim7.holds Tryz.pinned (.plain (OpenSpec.ofChange maintNamesSpec)) maintNamesCard

/-- THE SECOND FORM's CARD OF 'souklaw29.MaintNames'. -/
def maintNamesUptoCard : Claim7 := { stood := { row := maintNamesUptoRow, standIns := [], harness := (true, "68f93889ce7d39776192ce6c15f10f06377167f0ddf2f2357846b995d410c74b"), looks := true }, kinds := [], alts := [], laidByText := true, laidKinds := [.pinned, .data, .data, .data, .data, .data, .sentinel, .sentinel], laidTests := true, laidLooks := .later }
def MaintNamesUptoCardSaid : Prop := Claim7.holds Tryz.pinned (.plain (OpenSpec.upto maintNamesSpec)) maintNamesUptoCard
end Rows
end Go.Proofs.YthjjgcfdhkhelaaGreatDoor

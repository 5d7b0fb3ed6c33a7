/-
  DERIVED. GIVEN WITH THE SEED: THE CARDS: each row of YteikdcobpfohcaaGreatDoorRows.lean that lists a variable, with what it lists TIED to the program's text (the seventh form; the later family's looks); each row that meets fmt, with fmt's text TOLD by the authors' own Lean function (tested against real Go, not proved from fmt's source: count such statements apart). THE CARD IS WHAT COUNTS. Prove the row's statement (the work); the ties are given (YteikdcobpfohcaaGreatDoorTie.lean); close each card by the builder's one call (the guide's Derived/Test/ToyasCard.lean, 'card_holds'). Laid BY PROGRAM, IN A SANDBOX (cutbox-door.mjs). By AI agents, Wed Nov 11 2026. No macro, syntax, notation, axiom, sorry.
-/
import Derived.Test.YteikdcobpfohcaaGreatDoorRows
import GoSem.ClaimSeven
namespace Go.Proofs.YteikdcobpfohcaaGreatDoor
namespace Rows

/-- THE TIED CARD OF 'souklaw27.StoreNames'. -/
def storeNamesCard : Claim7 := { stood := { row := storeNamesRow, standIns := [], harness := (true, "3ec73a1a74c798d7bfec1c1dc63670152964b81ca62cf30f42c4c2c93d343e78"), looks := true }, kinds := [], alts := [], laidByText := true, laidKinds := [.data, .data, .data, .data, .sentinel, .sentinel, .pinned], laidTests := true, laidLooks := .later }
def StoreNamesCardSaid : Prop := Claim7.holds Tryz.pinned (.plain (OpenSpec.ofChange storeNamesSpec)) storeNamesCard

/-- THE TIED CARD OF 'souklaw27.StoreDrop'. -/
def storeDropCard : Claim7 := { stood := { row := storeDropRow, standIns := [], harness := (true, "3ec73a1a74c798d7bfec1c1dc63670152964b81ca62cf30f42c4c2c93d343e78"), looks := true }, kinds := [], alts := [], laidByText := true, laidKinds := [.data, .data, .data, .data, .sentinel, .sentinel, .pinned], laidTests := true, laidLooks := .later }
def StoreDropCardSaid : Prop := Claim7.holds Tryz.pinned (.plain (OpenSpec.ofChange storeDropSpec)) storeDropCard

/-- THE SECOND FORM's CARD OF 'souklaw27.StoreNames'. -/
def storeNamesUptoCard : Claim7 := { stood := { row := storeNamesUptoRow, standIns := [], harness := (true, "3ec73a1a74c798d7bfec1c1dc63670152964b81ca62cf30f42c4c2c93d343e78"), looks := true }, kinds := [], alts := [], laidByText := true, laidKinds := [.data, .data, .data, .data, .sentinel, .sentinel, .pinned], laidTests := true, laidLooks := .later }
def StoreNamesUptoCardSaid : Prop := Claim7.holds Tryz.pinned (.plain (OpenSpec.upto storeNamesSpec)) storeNamesUptoCard

/-- THE SECOND FORM's CARD OF 'souklaw27.StoreDrop'. -/
def storeDropUptoCard : Claim7 := { stood := { row := storeDropUptoRow, standIns := [], harness := (true, "3ec73a1a74c798d7bfec1c1dc63670152964b81ca62cf30f42c4c2c93d343e78"), looks := true }, kinds := [], alts := [], laidByText := true, laidKinds := [.data, .data, .data, .data, .sentinel, .sentinel, .pinned], laidTests := true, laidLooks := .later }
def StoreDropUptoCardSaid : Prop := Claim7.holds Tryz.pinned (.plain (OpenSpec.upto storeDropSpec)) storeDropUptoCard
end Rows
end Go.Proofs.YteikdcobpfohcaaGreatDoor

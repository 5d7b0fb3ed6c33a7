/-
  DERIVED. GIVEN WITH THE SEED: THE CARDS: each row of YtcdjckdbcffgdaaGreatDoorRows.lean that lists a variable, with what it lists TIED to the program's text (the seventh form; the later family's looks); each row that meets fmt, with fmt's text TOLD by the authors' own Lean function (tested against real Go, not proved from fmt's source: count such statements apart). THE CARD IS WHAT COUNTS. Prove the row's statement (the work); the ties are given (YtcdjckdbcffgdaaGreatDoorTie.lean); close each card by the builder's one call (the guide's Derived/Test/ToyasCard.lean, 'card_holds'). Laid BY PROGRAM, IN A SANDBOX (cutbox-door.mjs). By AI agents, Wed Nov 11 2026. No macro, syntax, notation, axiom, sorry.
-/
import Derived.Test.YtcdjckdbcffgdaaGreatDoorRows
import GoSem.ClaimSeven
namespace Go.Proofs.YtcdjckdbcffgdaaGreatDoor
namespace Rows

/-- THE TIED CARD OF 'souklaw14.SeglogFull'. -/
def seglogFullCard : Claim7 := { stood := { row := seglogFullRow, standIns := [], harness := (true, "9ff6d9fc08a4f778abeb5c4d99d1a7fae5f47e652d23bf2fd8575f9fdbe96a04"), looks := true }, kinds := [], alts := [], laidByText := true, laidKinds := [.data, .data, .data, .data, .pinned], laidTests := true, laidLooks := .later }
def SeglogFullCardSaid : Prop := Claim7.holds Tryz.pinned (.plain (OpenSpec.ofChange seglogFullSpec)) seglogFullCard

/-- THE TIED CARD OF 'souklaw14.SeglogNames'. -/
def seglogNamesCard : Claim7 := { stood := { row := seglogNamesRow, standIns := [], harness := (true, "9ff6d9fc08a4f778abeb5c4d99d1a7fae5f47e652d23bf2fd8575f9fdbe96a04"), looks := true }, kinds := [], alts := [], laidByText := true, laidKinds := [.data, .data, .data, .data, .sentinel, .sentinel, .pinned], laidTests := true, laidLooks := .later }
def SeglogNamesCardSaid : Prop := Claim7.holds Tryz.pinned (.plain (OpenSpec.ofChange seglogNamesSpec)) seglogNamesCard

/-- THE TIED CARD OF 'souklaw14.SeglogParted'. -/
def seglogPartedCard : Claim7 := { stood := { row := seglogPartedRow, standIns := [], harness := (true, "9ff6d9fc08a4f778abeb5c4d99d1a7fae5f47e652d23bf2fd8575f9fdbe96a04"), looks := true }, kinds := [], alts := [], laidByText := true, laidKinds := [.data, .data, .data, .data, .sentinel, .sentinel, .pinned], laidTests := true, laidLooks := .later }
def SeglogPartedCardSaid : Prop := Claim7.holds Tryz.pinned (.plain (OpenSpec.ofChange seglogPartedSpec)) seglogPartedCard

/-- THE TIED CARD OF 'souklaw14.SeglogKept'. -/
def seglogKeptCard : Claim7 := { stood := { row := seglogKeptRow, standIns := [], harness := (true, "9ff6d9fc08a4f778abeb5c4d99d1a7fae5f47e652d23bf2fd8575f9fdbe96a04"), looks := true }, kinds := [], alts := [], laidByText := true, laidKinds := [.data, .data, .data, .data, .sentinel, .sentinel, .pinned], laidTests := true, laidLooks := .later }
def SeglogKeptCardSaid : Prop := Claim7.holds Tryz.pinned (.plain (OpenSpec.ofChange seglogKeptSpec)) seglogKeptCard

/-- THE SECOND FORM's CARD OF 'souklaw14.SeglogFull'. -/
def seglogFullUptoCard : Claim7 := { stood := { row := seglogFullUptoRow, standIns := [], harness := (true, "9ff6d9fc08a4f778abeb5c4d99d1a7fae5f47e652d23bf2fd8575f9fdbe96a04"), looks := true }, kinds := [], alts := [], laidByText := true, laidKinds := [.data, .data, .data, .data, .pinned], laidTests := true, laidLooks := .later }
def SeglogFullUptoCardSaid : Prop := Claim7.holds Tryz.pinned (.plain (OpenSpec.upto seglogFullSpec)) seglogFullUptoCard

/-- THE SECOND FORM's CARD OF 'souklaw14.SeglogNames'. -/
def seglogNamesUptoCard : Claim7 := { stood := { row := seglogNamesUptoRow, standIns := [], harness := (true, "9ff6d9fc08a4f778abeb5c4d99d1a7fae5f47e652d23bf2fd8575f9fdbe96a04"), looks := true }, kinds := [], alts := [], laidByText := true, laidKinds := [.data, .data, .data, .data, .sentinel, .sentinel, .pinned], laidTests := true, laidLooks := .later }
def SeglogNamesUptoCardSaid : Prop := Claim7.holds Tryz.pinned (.plain (OpenSpec.upto seglogNamesSpec)) seglogNamesUptoCard

/-- THE SECOND FORM's CARD OF 'souklaw14.SeglogParted'. -/
def seglogPartedUptoCard : Claim7 := { stood := { row := seglogPartedUptoRow, standIns := [], harness := (true, "9ff6d9fc08a4f778abeb5c4d99d1a7fae5f47e652d23bf2fd8575f9fdbe96a04"), looks := true }, kinds := [], alts := [], laidByText := true, laidKinds := [.data, .data, .data, .data, .sentinel, .sentinel, .pinned], laidTests := true, laidLooks := .later }
def SeglogPartedUptoCardSaid : Prop := Claim7.holds Tryz.pinned (.plain (OpenSpec.upto seglogPartedSpec)) seglogPartedUptoCard

/-- THE SECOND FORM's CARD OF 'souklaw14.SeglogKept'. -/
def seglogKeptUptoCard : Claim7 := { stood := { row := seglogKeptUptoRow, standIns := [], harness := (true, "9ff6d9fc08a4f778abeb5c4d99d1a7fae5f47e652d23bf2fd8575f9fdbe96a04"), looks := true }, kinds := [], alts := [], laidByText := true, laidKinds := [.data, .data, .data, .data, .sentinel, .sentinel, .pinned], laidTests := true, laidLooks := .later }
def SeglogKeptUptoCardSaid : Prop := Claim7.holds Tryz.pinned (.plain (OpenSpec.upto seglogKeptSpec)) seglogKeptUptoCard
end Rows
end Go.Proofs.YtcdjckdbcffgdaaGreatDoor

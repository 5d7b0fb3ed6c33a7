/-
  DERIVED. GIVEN WITH THE SEED: THE CARDS: each row of YtppghhophaobdaaGreatDoorRows.lean that lists a variable, with what it lists TIED to the program's text (the seventh form; the later family's looks); each row that meets fmt, with fmt's text TOLD by the authors' own Lean function (tested against real Go, not proved from fmt's source: count such statements apart). THE CARD IS WHAT COUNTS. Prove the row's statement (the work); the ties are given (YtppghhophaobdaaGreatDoorTie.lean); close each card by the builder's one call (the guide's Derived/Test/ToyasCard.lean, 'card_holds'). Laid BY PROGRAM, IN A SANDBOX (cutbox-door.mjs). By AI agents, Wed Nov 11 2026. No macro, syntax, notation, axiom, sorry.
-/
import Derived.Test.YtppghhophaobdaaGreatDoorRows
import GoSem.ClaimSeven
namespace Go.Proofs.YtppghhophaobdaaGreatDoor
namespace Rows

/-- THE TIED CARD OF 'souklaw13.ManifSwaps'. -/
def manifSwapsCard : Claim7 := { stood := { row := manifSwapsRow, standIns := [], harness := (true, "a9cfd7c70369ce96790dcff1455a6c18b1a0b7292d658d6d929f530e5768783b"), looks := true }, kinds := [], alts := [], laidByText := true, laidKinds := [.data, .data, .data, .data, .pinned], laidTests := true, laidLooks := .later }
def ManifSwapsCardSaid : Prop := Claim7.holds Tryz.pinned (.plain (OpenSpec.ofChange manifSwapsSpec)) manifSwapsCard

/-- THE TIED CARD OF 'souklaw14.SeglogFull'. -/
def seglogFullCard : Claim7 := { stood := { row := seglogFullRow, standIns := [], harness := (true, "a9cfd7c70369ce96790dcff1455a6c18b1a0b7292d658d6d929f530e5768783b"), looks := true }, kinds := [], alts := [], laidByText := true, laidKinds := [.data, .data, .data, .data, .pinned], laidTests := true, laidLooks := .later }
def SeglogFullCardSaid : Prop := Claim7.holds Tryz.pinned (.plain (OpenSpec.ofChange seglogFullSpec)) seglogFullCard

/-- THE TIED CARD OF 'souklaw14.SeglogNames'. -/
def seglogNamesCard : Claim7 := { stood := { row := seglogNamesRow, standIns := [], harness := (true, "a9cfd7c70369ce96790dcff1455a6c18b1a0b7292d658d6d929f530e5768783b"), looks := true }, kinds := [], alts := [], laidByText := true, laidKinds := [.data, .data, .data, .data, .sentinel, .sentinel, .pinned], laidTests := true, laidLooks := .later }
def SeglogNamesCardSaid : Prop := Claim7.holds Tryz.pinned (.plain (OpenSpec.ofChange seglogNamesSpec)) seglogNamesCard

/-- THE TIED CARD OF 'souklaw14.SeglogParted'. -/
def seglogPartedCard : Claim7 := { stood := { row := seglogPartedRow, standIns := [], harness := (true, "a9cfd7c70369ce96790dcff1455a6c18b1a0b7292d658d6d929f530e5768783b"), looks := true }, kinds := [], alts := [], laidByText := true, laidKinds := [.data, .data, .data, .data, .sentinel, .sentinel, .pinned], laidTests := true, laidLooks := .later }
def SeglogPartedCardSaid : Prop := Claim7.holds Tryz.pinned (.plain (OpenSpec.ofChange seglogPartedSpec)) seglogPartedCard

/-- THE TIED CARD OF 'souklaw14.SeglogKept'. -/
def seglogKeptCard : Claim7 := { stood := { row := seglogKeptRow, standIns := [], harness := (true, "a9cfd7c70369ce96790dcff1455a6c18b1a0b7292d658d6d929f530e5768783b"), looks := true }, kinds := [], alts := [], laidByText := true, laidKinds := [.data, .data, .data, .data, .sentinel, .sentinel, .pinned], laidTests := true, laidLooks := .later }
def SeglogKeptCardSaid : Prop := Claim7.holds Tryz.pinned (.plain (OpenSpec.ofChange seglogKeptSpec)) seglogKeptCard

/-- THE SECOND FORM's CARD OF 'souklaw13.ManifSwaps'. -/
def manifSwapsUptoCard : Claim7 := { stood := { row := manifSwapsUptoRow, standIns := [], harness := (true, "a9cfd7c70369ce96790dcff1455a6c18b1a0b7292d658d6d929f530e5768783b"), looks := true }, kinds := [], alts := [], laidByText := true, laidKinds := [.data, .data, .data, .data, .pinned], laidTests := true, laidLooks := .later }
def ManifSwapsUptoCardSaid : Prop := Claim7.holds Tryz.pinned (.plain (OpenSpec.upto manifSwapsSpec)) manifSwapsUptoCard

/-- THE SECOND FORM's CARD OF 'souklaw14.SeglogFull'. -/
def seglogFullUptoCard : Claim7 := { stood := { row := seglogFullUptoRow, standIns := [], harness := (true, "a9cfd7c70369ce96790dcff1455a6c18b1a0b7292d658d6d929f530e5768783b"), looks := true }, kinds := [], alts := [], laidByText := true, laidKinds := [.data, .data, .data, .data, .pinned], laidTests := true, laidLooks := .later }
def SeglogFullUptoCardSaid : Prop := Claim7.holds Tryz.pinned (.plain (OpenSpec.upto seglogFullSpec)) seglogFullUptoCard

/-- THE SECOND FORM's CARD OF 'souklaw14.SeglogNames'. -/
def seglogNamesUptoCard : Claim7 := { stood := { row := seglogNamesUptoRow, standIns := [], harness := (true, "a9cfd7c70369ce96790dcff1455a6c18b1a0b7292d658d6d929f530e5768783b"), looks := true }, kinds := [], alts := [], laidByText := true, laidKinds := [.data, .data, .data, .data, .sentinel, .sentinel, .pinned], laidTests := true, laidLooks := .later }
def SeglogNamesUptoCardSaid : Prop := Claim7.holds Tryz.pinned (.plain (OpenSpec.upto seglogNamesSpec)) seglogNamesUptoCard

/-- THE SECOND FORM's CARD OF 'souklaw14.SeglogParted'. -/
def seglogPartedUptoCard : Claim7 := { stood := { row := seglogPartedUptoRow, standIns := [], harness := (true, "a9cfd7c70369ce96790dcff1455a6c18b1a0b7292d658d6d929f530e5768783b"), looks := true }, kinds := [], alts := [], laidByText := true, laidKinds := [.data, .data, .data, .data, .sentinel, .sentinel, .pinned], laidTests := true, laidLooks := .later }
def SeglogPartedUptoCardSaid : Prop := Claim7.holds Tryz.pinned (.plain (OpenSpec.upto seglogPartedSpec)) seglogPartedUptoCard

/-- THE SECOND FORM's CARD OF 'souklaw14.SeglogKept'. -/
def seglogKeptUptoCard : Claim7 := { stood := { row := seglogKeptUptoRow, standIns := [], harness := (true, "a9cfd7c70369ce96790dcff1455a6c18b1a0b7292d658d6d929f530e5768783b"), looks := true }, kinds := [], alts := [], laidByText := true, laidKinds := [.data, .data, .data, .data, .sentinel, .sentinel, .pinned], laidTests := true, laidLooks := .later }
def SeglogKeptUptoCardSaid : Prop := Claim7.holds Tryz.pinned (.plain (OpenSpec.upto seglogKeptSpec)) seglogKeptUptoCard
end Rows
end Go.Proofs.YtppghhophaobdaaGreatDoor

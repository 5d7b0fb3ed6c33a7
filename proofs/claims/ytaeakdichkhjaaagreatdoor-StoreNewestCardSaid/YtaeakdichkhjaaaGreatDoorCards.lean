/-
  DERIVED. GIVEN WITH THE SEED: THE CARDS: each row of YtaeakdichkhjaaaGreatDoorRows.lean that lists a variable, with what it lists TIED to the program's text (the seventh form; the later family's looks); each row that meets fmt, with fmt's text TOLD by the authors' own Lean function (tested against real Go, not proved from fmt's source: count such statements apart). THE CARD IS WHAT COUNTS. Prove the row's statement (the work); the ties are given (YtaeakdichkhjaaaGreatDoorTie.lean); close each card by the builder's one call (the guide's Derived/Test/ToyasCard.lean, 'card_holds'). Laid BY PROGRAM, IN A SANDBOX (cutbox-door.mjs). By AI agents, Wed Nov 11 2026. No macro, syntax, notation, axiom, sorry.
-/
import Derived.Test.YtaeakdichkhjaaaGreatDoorRows
import GoSem.ClaimSeven
namespace Go.Proofs.YtaeakdichkhjaaaGreatDoor
namespace Rows

/-- THE TIED CARD OF 'souklaw27.StoreNewest'. -/
def storeNewestCard : Claim7 := { stood := { row := storeNewestRow, standIns := [], harness := (true, "100d26905bc959f4a533b59b55353b10c4c247f5009342b61ad6eb94f9687280"), looks := true }, kinds := [], alts := [], laidByText := true, laidKinds := [.data, .data, .data, .data, .sentinel, .sentinel, .pinned], laidTests := true, laidLooks := .later }
def StoreNewestCardSaid : Prop := Claim7.holds Tryz.pinned (.plain (OpenSpec.ofChange storeNewestSpec)) storeNewestCard

/-- THE TIED CARD OF 'souklaw27.StoreWhole'. -/
def storeWholeCard : Claim7 := { stood := { row := storeWholeRow, standIns := [], harness := (true, "100d26905bc959f4a533b59b55353b10c4c247f5009342b61ad6eb94f9687280"), looks := true }, kinds := [], alts := [], laidByText := true, laidKinds := [.data, .data, .data, .data, .sentinel, .sentinel, .pinned], laidTests := true, laidLooks := .later }
def StoreWholeCardSaid : Prop := Claim7.holds Tryz.pinned (.plain (OpenSpec.ofChange storeWholeSpec)) storeWholeCard

/-- THE SECOND FORM's CARD OF 'souklaw27.StoreNewest'. -/
def storeNewestUptoCard : Claim7 := { stood := { row := storeNewestUptoRow, standIns := [], harness := (true, "100d26905bc959f4a533b59b55353b10c4c247f5009342b61ad6eb94f9687280"), looks := true }, kinds := [], alts := [], laidByText := true, laidKinds := [.data, .data, .data, .data, .sentinel, .sentinel, .pinned], laidTests := true, laidLooks := .later }
def StoreNewestUptoCardSaid : Prop := Claim7.holds Tryz.pinned (.plain (OpenSpec.upto storeNewestSpec)) storeNewestUptoCard

/-- THE SECOND FORM's CARD OF 'souklaw27.StoreWhole'. -/
def storeWholeUptoCard : Claim7 := { stood := { row := storeWholeUptoRow, standIns := [], harness := (true, "100d26905bc959f4a533b59b55353b10c4c247f5009342b61ad6eb94f9687280"), looks := true }, kinds := [], alts := [], laidByText := true, laidKinds := [.data, .data, .data, .data, .sentinel, .sentinel, .pinned], laidTests := true, laidLooks := .later }
def StoreWholeUptoCardSaid : Prop := Claim7.holds Tryz.pinned (.plain (OpenSpec.upto storeWholeSpec)) storeWholeUptoCard
end Rows
end Go.Proofs.YtaeakdichkhjaaaGreatDoor

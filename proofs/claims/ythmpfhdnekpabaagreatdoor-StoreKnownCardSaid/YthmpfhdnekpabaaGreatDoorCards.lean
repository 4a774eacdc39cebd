/-
  DERIVED. GIVEN WITH THE SEED: THE CARDS: each row of YthmpfhdnekpabaaGreatDoorRows.lean that lists a variable, with what it lists TIED to the program's text (the seventh form; the later family's looks); each row that meets fmt, with fmt's text TOLD by the authors' own Lean function (tested against real Go, not proved from fmt's source: count such statements apart). THE CARD IS WHAT COUNTS. Prove the row's statement (the work); the ties are given (YthmpfhdnekpabaaGreatDoorTie.lean); close each card by the builder's one call (the guide's Derived/Test/ToyasCard.lean, 'card_holds'). Laid BY PROGRAM, IN A SANDBOX (cutbox-door.mjs). By AI agents, Wed Nov 11 2026. No macro, syntax, notation, axiom, sorry.
-/
import Derived.Test.YthmpfhdnekpabaaGreatDoorRows
import GoSem.ClaimSeven
namespace Go.Proofs.YthmpfhdnekpabaaGreatDoor
namespace Rows

/-- THE TIED CARD OF 'lecternlaw27.StoreKnown'. -/
def storeKnownCard : Claim7 := { stood := { row := storeKnownRow, standIns := [], harness := (true, "1756cfa25cf59159bf7e7be13e41a823015f52c8307cb7ca1c8ead5c15feb2e5"), looks := true }, kinds := [], alts := [], laidByText := true, laidKinds := [.data, .data, .data, .data, .sentinel, .sentinel, .pinned], laidTests := true, laidLooks := .later }
def StoreKnownCardSaid : Prop := Claim7.holds Tryz.pinned (.plain (OpenSpec.ofChange storeKnownSpec)) storeKnownCard

/-- THE SECOND FORM's CARD OF 'lecternlaw27.StoreKnown'. -/
def storeKnownUptoCard : Claim7 := { stood := { row := storeKnownUptoRow, standIns := [], harness := (true, "1756cfa25cf59159bf7e7be13e41a823015f52c8307cb7ca1c8ead5c15feb2e5"), looks := true }, kinds := [], alts := [], laidByText := true, laidKinds := [.data, .data, .data, .data, .sentinel, .sentinel, .pinned], laidTests := true, laidLooks := .later }
def StoreKnownUptoCardSaid : Prop := Claim7.holds Tryz.pinned (.plain (OpenSpec.upto storeKnownSpec)) storeKnownUptoCard
end Rows
end Go.Proofs.YthmpfhdnekpabaaGreatDoor

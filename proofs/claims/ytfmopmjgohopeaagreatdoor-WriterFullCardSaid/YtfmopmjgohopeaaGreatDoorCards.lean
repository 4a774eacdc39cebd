/-
  DERIVED. GIVEN WITH THE SEED: THE CARDS: each row of YtfmopmjgohopeaaGreatDoorRows.lean that lists a variable, with what it lists TIED to the program's text (the seventh form; the later family's looks); each row that meets fmt, with fmt's text TOLD by the authors' own Lean function (tested against real Go, not proved from fmt's source: count such statements apart). THE CARD IS WHAT COUNTS. Prove the row's statement (the work); the ties are given (YtfmopmjgohopeaaGreatDoorTie.lean); close each card by the builder's one call (the guide's Derived/Test/ToyasCard.lean, 'card_holds'). Laid BY PROGRAM, IN A SANDBOX (cutbox-door.mjs). By AI agents, Wed Nov 11 2026. No macro, syntax, notation, axiom, sorry.
-/
import Derived.Test.YtfmopmjgohopeaaGreatDoorRows
import GoSem.ClaimSeven
namespace Go.Proofs.YtfmopmjgohopeaaGreatDoor
namespace Rows

/-- THE TIED CARD OF 'lecternlaw26.WriterFull'. -/
def writerFullCard : Claim7 := { stood := { row := writerFullRow, standIns := [], harness := (true, "6b4a74a5235fee80bbbe72f8581f5d470b07d4e0f242071a5bdfa6f2f0ccd501"), looks := true }, kinds := [], alts := [], laidByText := true, laidKinds := [.data, .data, .data, .data, .sentinel, .sentinel, .pinned], laidTests := true, laidLooks := .later }
def WriterFullCardSaid : Prop := Claim7.holds Tryz.pinned (.plain (OpenSpec.ofChange writerFullSpec)) writerFullCard

/-- THE SECOND FORM's CARD OF 'lecternlaw26.WriterFull'. -/
def writerFullUptoCard : Claim7 := { stood := { row := writerFullUptoRow, standIns := [], harness := (true, "6b4a74a5235fee80bbbe72f8581f5d470b07d4e0f242071a5bdfa6f2f0ccd501"), looks := true }, kinds := [], alts := [], laidByText := true, laidKinds := [.data, .data, .data, .data, .sentinel, .sentinel, .pinned], laidTests := true, laidLooks := .later }
def WriterFullUptoCardSaid : Prop := Claim7.holds Tryz.pinned (.plain (OpenSpec.upto writerFullSpec)) writerFullUptoCard
end Rows
end Go.Proofs.YtfmopmjgohopeaaGreatDoor

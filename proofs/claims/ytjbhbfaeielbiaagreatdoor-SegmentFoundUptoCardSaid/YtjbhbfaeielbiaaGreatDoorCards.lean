/-
  DERIVED. GIVEN WITH THE SEED: THE CARDS: each row of YtjbhbfaeielbiaaGreatDoorRows.lean that lists a variable, with what it lists TIED to the program's text (the seventh form; the later family's looks); each row that meets fmt, with fmt's text TOLD by the authors' own Lean function (tested against real Go, not proved from fmt's source: count such statements apart). THE CARD IS WHAT COUNTS. Prove the row's statement (the work); the ties are given (YtjbhbfaeielbiaaGreatDoorTie.lean); close each card by the builder's one call (the guide's Derived/Test/ToyasCard.lean, 'card_holds'). Laid BY PROGRAM, IN A SANDBOX (cutbox-door.mjs). By AI agents, Wed Nov 11 2026. No macro, syntax, notation, axiom, sorry.
-/
import Derived.Test.YtjbhbfaeielbiaaGreatDoorRows
import GoSem.ClaimSeven
namespace Go.Proofs.YtjbhbfaeielbiaaGreatDoor
namespace Rows

/-- THE TIED CARD OF 'lecternlaw16.SegmentFound'. -/
def segmentFoundCard : Claim7 := { stood := { row := segmentFoundRow, standIns := [], harness := (true, "f017f3c1bf931a095882f8ea4c7599dac00e2a1f3f4b28c4ddaa625bcbcc2c38"), looks := true }, kinds := [], alts := [], laidByText := true, laidKinds := [.data, .data, .data, .data, .sentinel, .sentinel, .pinned], laidTests := true, laidLooks := .later }
def SegmentFoundCardSaid : Prop := Claim7.holds Tryz.pinned (.plain (OpenSpec.ofChange segmentFoundSpec)) segmentFoundCard

/-- THE TIED CARD OF 'lecternlaw16.SegmentBack'. -/
def segmentBackCard : Claim7 := { stood := { row := segmentBackRow, standIns := [], harness := (true, "f017f3c1bf931a095882f8ea4c7599dac00e2a1f3f4b28c4ddaa625bcbcc2c38"), looks := true }, kinds := [], alts := [], laidByText := true, laidKinds := [.data, .data, .data, .data, .sentinel, .sentinel, .pinned], laidTests := true, laidLooks := .later }
def SegmentBackCardSaid : Prop := Claim7.holds Tryz.pinned (.plain (OpenSpec.ofChange segmentBackSpec)) segmentBackCard

/-- THE TIED CARD OF 'lecternlaw16.SegmentBursts'. -/
def segmentBurstsCard : Claim7 := { stood := { row := segmentBurstsRow, standIns := [], harness := (true, "f017f3c1bf931a095882f8ea4c7599dac00e2a1f3f4b28c4ddaa625bcbcc2c38"), looks := true }, kinds := [], alts := [], laidByText := true, laidKinds := [.data, .data, .data, .data, .sentinel, .sentinel, .pinned], laidTests := true, laidLooks := .later }
def SegmentBurstsCardSaid : Prop := Claim7.holds Tryz.pinned (.plain (OpenSpec.ofChange segmentBurstsSpec)) segmentBurstsCard

/-- THE SECOND FORM's CARD OF 'lecternlaw16.SegmentFound'. -/
def segmentFoundUptoCard : Claim7 := { stood := { row := segmentFoundUptoRow, standIns := [], harness := (true, "f017f3c1bf931a095882f8ea4c7599dac00e2a1f3f4b28c4ddaa625bcbcc2c38"), looks := true }, kinds := [], alts := [], laidByText := true, laidKinds := [.data, .data, .data, .data, .sentinel, .sentinel, .pinned], laidTests := true, laidLooks := .later }
def SegmentFoundUptoCardSaid : Prop := Claim7.holds Tryz.pinned (.plain (OpenSpec.upto segmentFoundSpec)) segmentFoundUptoCard

/-- THE SECOND FORM's CARD OF 'lecternlaw16.SegmentBack'. -/
def segmentBackUptoCard : Claim7 := { stood := { row := segmentBackUptoRow, standIns := [], harness := (true, "f017f3c1bf931a095882f8ea4c7599dac00e2a1f3f4b28c4ddaa625bcbcc2c38"), looks := true }, kinds := [], alts := [], laidByText := true, laidKinds := [.data, .data, .data, .data, .sentinel, .sentinel, .pinned], laidTests := true, laidLooks := .later }
def SegmentBackUptoCardSaid : Prop := Claim7.holds Tryz.pinned (.plain (OpenSpec.upto segmentBackSpec)) segmentBackUptoCard

/-- THE SECOND FORM's CARD OF 'lecternlaw16.SegmentBursts'. -/
def segmentBurstsUptoCard : Claim7 := { stood := { row := segmentBurstsUptoRow, standIns := [], harness := (true, "f017f3c1bf931a095882f8ea4c7599dac00e2a1f3f4b28c4ddaa625bcbcc2c38"), looks := true }, kinds := [], alts := [], laidByText := true, laidKinds := [.data, .data, .data, .data, .sentinel, .sentinel, .pinned], laidTests := true, laidLooks := .later }
def SegmentBurstsUptoCardSaid : Prop := Claim7.holds Tryz.pinned (.plain (OpenSpec.upto segmentBurstsSpec)) segmentBurstsUptoCard
end Rows
end Go.Proofs.YtjbhbfaeielbiaaGreatDoor

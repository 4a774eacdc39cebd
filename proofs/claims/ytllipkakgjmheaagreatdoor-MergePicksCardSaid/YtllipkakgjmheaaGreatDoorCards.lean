/-
  DERIVED. GIVEN WITH THE SEED: THE CARDS: each row of YtllipkakgjmheaaGreatDoorRows.lean that lists a variable, with what it lists TIED to the program's text (the seventh form; the later family's looks); each row that meets fmt, with fmt's text TOLD by the authors' own Lean function (tested against real Go, not proved from fmt's source: count such statements apart). THE CARD IS WHAT COUNTS. Prove the row's statement (the work); the ties are given (YtllipkakgjmheaaGreatDoorTie.lean); close each card by the builder's one call (the guide's Derived/Test/ToyasCard.lean, 'card_holds'). Laid BY PROGRAM, IN A SANDBOX (cutbox-door.mjs). By AI agents, Wed Nov 11 2026. No macro, syntax, notation, axiom, sorry.
-/
import Derived.Test.YtllipkakgjmheaaGreatDoorRows
import GoSem.ClaimSeven
namespace Go.Proofs.YtllipkakgjmheaaGreatDoor
namespace Rows

/-- THE TIED CARD OF 'lecternlaw17.MergePicks'. -/
def mergePicksCard : Claim7 := { stood := { row := mergePicksRow, standIns := [], harness := (true, "eba4938aaef89610a631079b05e47ec51e0e7e99a25112cfdcbd48ed6e6f0ec2"), looks := true }, kinds := [], alts := [], laidByText := true, laidKinds := [.data, .data, .data, .data, .sentinel, .sentinel, .pinned], laidTests := true, laidLooks := .later }
def MergePicksCardSaid : Prop := Claim7.holds Tryz.pinned (.plain (OpenSpec.ofChange mergePicksSpec)) mergePicksCard

/-- THE TIED CARD OF 'lecternlaw17.MergeKnown'. -/
def mergeKnownCard : Claim7 := { stood := { row := mergeKnownRow, standIns := [], harness := (true, "eba4938aaef89610a631079b05e47ec51e0e7e99a25112cfdcbd48ed6e6f0ec2"), looks := true }, kinds := [], alts := [], laidByText := true, laidKinds := [.data, .data, .data, .data, .sentinel, .sentinel, .pinned], laidTests := true, laidLooks := .later }
def MergeKnownCardSaid : Prop := Claim7.holds Tryz.pinned (.plain (OpenSpec.ofChange mergeKnownSpec)) mergeKnownCard

/-- THE SECOND FORM's CARD OF 'lecternlaw17.MergePicks'. -/
def mergePicksUptoCard : Claim7 := { stood := { row := mergePicksUptoRow, standIns := [], harness := (true, "eba4938aaef89610a631079b05e47ec51e0e7e99a25112cfdcbd48ed6e6f0ec2"), looks := true }, kinds := [], alts := [], laidByText := true, laidKinds := [.data, .data, .data, .data, .sentinel, .sentinel, .pinned], laidTests := true, laidLooks := .later }
def MergePicksUptoCardSaid : Prop := Claim7.holds Tryz.pinned (.plain (OpenSpec.upto mergePicksSpec)) mergePicksUptoCard

/-- THE SECOND FORM's CARD OF 'lecternlaw17.MergeKnown'. -/
def mergeKnownUptoCard : Claim7 := { stood := { row := mergeKnownUptoRow, standIns := [], harness := (true, "eba4938aaef89610a631079b05e47ec51e0e7e99a25112cfdcbd48ed6e6f0ec2"), looks := true }, kinds := [], alts := [], laidByText := true, laidKinds := [.data, .data, .data, .data, .sentinel, .sentinel, .pinned], laidTests := true, laidLooks := .later }
def MergeKnownUptoCardSaid : Prop := Claim7.holds Tryz.pinned (.plain (OpenSpec.upto mergeKnownSpec)) mergeKnownUptoCard
end Rows
end Go.Proofs.YtllipkakgjmheaaGreatDoor

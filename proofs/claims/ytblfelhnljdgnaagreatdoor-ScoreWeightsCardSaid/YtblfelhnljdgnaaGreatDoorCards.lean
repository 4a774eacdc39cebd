/-
  DERIVED. GIVEN WITH THE SEED: THE CARDS: each row of YtblfelhnljdgnaaGreatDoorRows.lean that lists a variable, with what it lists TIED to the program's text (the seventh form; the later family's looks); each row that meets fmt, with fmt's text TOLD by the authors' own Lean function (tested against real Go, not proved from fmt's source: count such statements apart). THE CARD IS WHAT COUNTS. Prove the row's statement (the work); the ties are given (YtblfelhnljdgnaaGreatDoorTie.lean); close each card by the builder's one call (the guide's Derived/Test/ToyasCard.lean, 'card_holds'). Laid BY PROGRAM, IN A SANDBOX (cutbox-door.mjs). By AI agents, Wed Nov 11 2026. No macro, syntax, notation, axiom, sorry.
-/
import Derived.Test.YtblfelhnljdgnaaGreatDoorRows
import GoSem.ClaimSeven
namespace Go.Proofs.YtblfelhnljdgnaaGreatDoor
namespace Rows

/-- THE TIED CARD OF 'lecternlaw21.ScoreWeights'. -/
def scoreWeightsCard : Claim7 := { stood := { row := scoreWeightsRow, standIns := [], harness := (true, "763eabac8125be6e0bfd570a49bbb8ee9313a91718cf42fc50c5288e8b631911"), looks := true }, kinds := [], alts := [], laidByText := true, laidKinds := [.data, .data, .data, .data, .sentinel, .sentinel, .pinned], laidTests := true, laidLooks := .later }
def ScoreWeightsCardSaid : Prop := Claim7.holds Tryz.pinned (.plain (OpenSpec.ofChange scoreWeightsSpec)) scoreWeightsCard

/-- THE TIED CARD OF 'lecternlaw21.ScoreHeld'. -/
def scoreHeldCard : Claim7 := { stood := { row := scoreHeldRow, standIns := [], harness := (true, "763eabac8125be6e0bfd570a49bbb8ee9313a91718cf42fc50c5288e8b631911"), looks := true }, kinds := [], alts := [], laidByText := true, laidKinds := [.data, .data, .data, .data, .sentinel, .sentinel, .pinned], laidTests := true, laidLooks := .later }
def ScoreHeldCardSaid : Prop := Claim7.holds Tryz.pinned (.plain (OpenSpec.ofChange scoreHeldSpec)) scoreHeldCard

/-- THE SECOND FORM's CARD OF 'lecternlaw21.ScoreWeights'. -/
def scoreWeightsUptoCard : Claim7 := { stood := { row := scoreWeightsUptoRow, standIns := [], harness := (true, "763eabac8125be6e0bfd570a49bbb8ee9313a91718cf42fc50c5288e8b631911"), looks := true }, kinds := [], alts := [], laidByText := true, laidKinds := [.data, .data, .data, .data, .sentinel, .sentinel, .pinned], laidTests := true, laidLooks := .later }
def ScoreWeightsUptoCardSaid : Prop := Claim7.holds Tryz.pinned (.plain (OpenSpec.upto scoreWeightsSpec)) scoreWeightsUptoCard

/-- THE SECOND FORM's CARD OF 'lecternlaw21.ScoreHeld'. -/
def scoreHeldUptoCard : Claim7 := { stood := { row := scoreHeldUptoRow, standIns := [], harness := (true, "763eabac8125be6e0bfd570a49bbb8ee9313a91718cf42fc50c5288e8b631911"), looks := true }, kinds := [], alts := [], laidByText := true, laidKinds := [.data, .data, .data, .data, .sentinel, .sentinel, .pinned], laidTests := true, laidLooks := .later }
def ScoreHeldUptoCardSaid : Prop := Claim7.holds Tryz.pinned (.plain (OpenSpec.upto scoreHeldSpec)) scoreHeldUptoCard
end Rows
end Go.Proofs.YtblfelhnljdgnaaGreatDoor

/-
  DERIVED. GIVEN WITH THE SEED: THE CARDS: each row of YtajgoffeahfmfaaDoorRows.lean that lists a variable, with what it lists TIED to the program's text (the seventh form; the later family's looks); each row that meets fmt, with fmt's text TOLD by the authors' own Lean function (tested against real Go, not proved from fmt's source: count such statements apart). THE CARD IS WHAT COUNTS. Prove the row's statement (the work); the ties are given (YtajgoffeahfmfaaDoorTie.lean); close each card by the builder's one call (the guide's Derived/Test/ToyasCard.lean, 'card_holds'). Laid BY PROGRAM, IN A SANDBOX (cutbox-door.mjs). By AI agents, Wed Nov 11 2026. No macro, syntax, notation, axiom, sorry.
-/
import Derived.Test.YtajgoffeahfmfaaDoorRows
import GoSem.ClaimSeven
namespace Go.Proofs.YtajgoffeahfmfaaDoor
namespace Rows

/-- THE TIED CARD OF 'lecternlaw20.IterateWords'. -/
def iterateWordsCard : Claim7 := { stood := { row := iterateWordsRow, standIns := [], harness := (true, "a39e697dbfb67d67078ce67fb2f636fa2284fc0ca59056a1ae723345f7d3f862"), looks := false }, kinds := [], alts := [], laidByText := true, laidKinds := [.data, .pinned], laidTests := true, laidLooks := .later }
def IterateWordsCardSaid : Prop := Claim7.holds Tryd.pinned (.plain (OpenSpec.ofChange iterateWordsSpec)) iterateWordsCard

/-- THE SECOND FORM's CARD OF 'lecternlaw20.IterateWords'. -/
def iterateWordsUptoCard : Claim7 := { stood := { row := iterateWordsUptoRow, standIns := [], harness := (true, "a39e697dbfb67d67078ce67fb2f636fa2284fc0ca59056a1ae723345f7d3f862"), looks := false }, kinds := [], alts := [], laidByText := true, laidKinds := [.data, .pinned], laidTests := true, laidLooks := .later }
def IterateWordsUptoCardSaid : Prop := Claim7.holds Tryd.pinned (.plain (OpenSpec.upto iterateWordsSpec)) iterateWordsUptoCard
end Rows
end Go.Proofs.YtajgoffeahfmfaaDoor

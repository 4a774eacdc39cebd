/- The texts St26 of StoreKnown, joined by program (tools/merge.py): walks of the functions that the law reaches, and plain facts; no condition. -/
import Derived.Test.YthmpfhdnekpabaaGreatDoorPart30
import Derived.Test.YthmpfhdnekpabaaGreatDoorPart10
import Derived.KernelRfl
set_option linter.unusedVariables false
set_option linter.unusedSimpArgs false

/-
  Pieces of a closed run, printed by a program; the kernel runs them.
-/
set_option linter.unusedVariables false
set_option linter.unusedSimpArgs false
set_option linter.constructorNameAsVariable false
namespace Go.Proofs.YthmpfhdnekpabaaGreatDoor.St
open Go Go.Proofs.YthmpfhdnekpabaaGreatDoor.Ev
set_option maxRecDepth 1000000
set_option maxHeartbeats 0
theorem p26 : piece LK 5 185 [] s26 = some s27 := by kernel_rfl
end Go.Proofs.YthmpfhdnekpabaaGreatDoor.St

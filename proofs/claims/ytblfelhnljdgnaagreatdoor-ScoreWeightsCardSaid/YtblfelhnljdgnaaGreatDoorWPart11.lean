/- The texts Kn1 of ScoreWeights, joined by program (tools/merge.py): walks of the functions that the law reaches, and plain facts; no condition. -/
import Derived.Test.YtblfelhnljdgnaaGreatDoorWPart08
import Derived.Test.YtblfelhnljdgnaaGreatDoorWPart09
import Derived.KernelRfl
set_option linter.unusedVariables false
set_option linter.unusedSimpArgs false

/-
  Pieces of a closed run, printed by a program; the kernel runs them.
-/
set_option linter.unusedVariables false
set_option linter.unusedSimpArgs false
set_option linter.constructorNameAsVariable false
namespace Go.Proofs.YtblfelhnljdgnaaGreatDoor.Kn
open Go Go.Proofs.YtblfelhnljdgnaaGreatDoor.Ev
set_option maxRecDepth 1000000
set_option maxHeartbeats 0
theorem p1 : piece LK 3 35293 [] s1 = some s2 := by kernel_rfl
end Go.Proofs.YtblfelhnljdgnaaGreatDoor.Kn

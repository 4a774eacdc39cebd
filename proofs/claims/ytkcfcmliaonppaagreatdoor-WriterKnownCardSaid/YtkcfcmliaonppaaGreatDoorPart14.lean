/- The texts Wr3 of WriterKnown, joined by program (tools/merge.py): walks of the functions that the law reaches, and plain facts; no condition. -/
import Derived.Test.YtkcfcmliaonppaaGreatDoorPart09
import Derived.Test.YtkcfcmliaonppaaGreatDoorPart10
import Derived.KernelRfl
set_option linter.unusedVariables false
set_option linter.unusedSimpArgs false

/-
  Pieces of a closed run, printed by a program; the kernel runs them.
-/
set_option linter.unusedVariables false
set_option linter.unusedSimpArgs false
set_option linter.constructorNameAsVariable false
namespace Go.Proofs.YtkcfcmliaonppaaGreatDoor.Wr
open Go Go.Proofs.YtkcfcmliaonppaaGreatDoor.Ev
set_option maxRecDepth 1000000
set_option maxHeartbeats 0
theorem p3 : piece LK 1 30000 [0, 1774, 1775, 1776, 1777, 1778, 1779, 1780, 1789, 1790, 1791, 1792, 1799, 1800] s3 = some s4 := by kernel_rfl
end Go.Proofs.YtkcfcmliaonppaaGreatDoor.Wr

/- The texts Wr1 of WriterKnown, joined by program (tools/merge.py): walks of the functions that the law reaches, and plain facts; no condition. -/
import Derived.Test.YtkcfcmliaonppaaGreatDoorPart09
import Derived.Test.YtkcfcmliaonppaaGreatDoorPart10
import Derived.KernelRfl
set_option linter.unusedVariables false
set_option linter.unusedSimpArgs false

/-
  Pieces of a closed run, printed by a program; the kernel runs them.
-/
set_option linter.unusedVariables false
set_option linter.unusedSimpArgs false
set_option linter.constructorNameAsVariable false
namespace Go.Proofs.YtkcfcmliaonppaaGreatDoor.Wr
open Go Go.Proofs.YtkcfcmliaonppaaGreatDoor.Ev
set_option maxRecDepth 1000000
set_option maxHeartbeats 0
theorem p1 : piece LK 1 30000 [0, 2, 250, 251, 253, 284, 290, 321, 323, 325, 335, 336, 364, 366, 367, 368, 369, 370, 371, 372, 373, 385, 421, 432, 435, 467, 470, 473, 481, 484, 486, 505, 518, 520, 522, 524, 853, 854, 877, 882, 887, 892, 897, 899, 900, 902, 903, 904, 905] s1 = some s2 := by kernel_rfl
end Go.Proofs.YtkcfcmliaonppaaGreatDoor.Wr

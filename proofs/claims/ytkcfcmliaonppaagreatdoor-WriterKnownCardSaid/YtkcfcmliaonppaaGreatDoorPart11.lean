/- The texts Wr0 of WriterKnown, joined by program (tools/merge.py): walks of the functions that the law reaches, and plain facts; no condition. -/
import Derived.Test.YtkcfcmliaonppaaGreatDoorPart09
import Derived.Test.YtkcfcmliaonppaaGreatDoorPart10
import Derived.KernelRfl
set_option linter.unusedVariables false
set_option linter.unusedSimpArgs false

/-
  Pieces of a closed run, printed by a program; the kernel runs them.
-/
set_option linter.unusedVariables false
set_option linter.unusedSimpArgs false
set_option linter.constructorNameAsVariable false
namespace Go.Proofs.YtkcfcmliaonppaaGreatDoor.Wr
open Go Go.Proofs.YtkcfcmliaonppaaGreatDoor.Ev
set_option maxRecDepth 1000000
set_option maxHeartbeats 0
noncomputable def s0 : AM := st0 LK 1 3 [(0, (by8 [0, 1, 56, 2, 57, 49, 28, 3, 61, 58, 42, 50, 38, 29, 17, 4, 62, 47, 59, 36, 45, 43, 51, 22, 53, 39, 33, 30, 24, 18, 12, 5, 63, 55, 48, 27, 60, 41, 37, 16, 46, 35, 44, 21, 52, 32, 23, 11, 54, 26, 40, 15, 34, 20, 31, 10, 25, 14, 19, 9, 13, 8, 7, 6]))]
theorem p0 : pieceS noSum LK 1 (.go 26753 (.go 0 (.fork (.alt (.go 308 .stop) (.alt (.go 333 .stop) .nil))))) [0, 2, 250, 251, 253, 284, 290, 321, 323, 325, 335, 336, 364, 366, 367, 368, 369, 370, 371, 372, 373, 374, 385, 386, 387, 388, 421, 432, 433, 435, 438, 465, 466, 467, 470, 472, 473, 474, 477, 481, 482, 484, 486, 487, 488, 496] s0 = some (List.replicate 2 s1) := by kernel_rfl
end Go.Proofs.YtkcfcmliaonppaaGreatDoor.Wr

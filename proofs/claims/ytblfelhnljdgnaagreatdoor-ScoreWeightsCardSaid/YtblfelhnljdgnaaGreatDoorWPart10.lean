/- The texts Kn0 of ScoreWeights, joined by program (tools/merge.py): walks of the functions that the law reaches, and plain facts; no condition. -/
import Derived.Test.YtblfelhnljdgnaaGreatDoorWPart08
import Derived.Test.YtblfelhnljdgnaaGreatDoorWPart09
import Derived.KernelRfl
set_option linter.unusedVariables false
set_option linter.unusedSimpArgs false

/-
  Pieces of a closed run, printed by a program; the kernel runs them.
-/
set_option linter.unusedVariables false
set_option linter.unusedSimpArgs false
set_option linter.constructorNameAsVariable false
namespace Go.Proofs.YtblfelhnljdgnaaGreatDoor.Kn
open Go Go.Proofs.YtblfelhnljdgnaaGreatDoor.Ev
set_option maxRecDepth 1000000
set_option maxHeartbeats 0
noncomputable def s0 : AM := st0 LK 3 5 [(2, (by8 [0, 1, 56, 2, 57, 49, 28, 3, 61, 58, 42, 50, 38, 29, 17, 4, 62, 47, 59, 36, 45, 43, 51, 22, 53, 39, 33, 30, 24, 18, 12, 5, 63, 55, 48, 27, 60, 41, 37, 16, 46, 35, 44, 21, 52, 32, 23, 11, 54, 26, 40, 15, 34, 20, 31, 10, 25, 14, 19, 9, 13, 8, 7, 6]))]
theorem p0 : piece LK 3 36001 [2, 3, 4, 5, 6, 7, 8, 9, 10, 21, 66, 69, 72, 105, 107, 124, 126, 128, 130, 313, 314, 337, 342, 347, 352, 357, 359, 360, 362, 363, 368, 379, 383, 385, 387, 395, 405, 408, 483, 484, 485, 486, 487, 488, 494, 502, 504, 506, 517, 518, 521, 526, 529, 530, 531, 542] s0 = some s1 := by kernel_rfl
end Go.Proofs.YtblfelhnljdgnaaGreatDoor.Kn

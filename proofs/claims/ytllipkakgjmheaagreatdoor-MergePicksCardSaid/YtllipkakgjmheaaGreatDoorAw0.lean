/-
  Pieces of a closed run, printed by a program; the kernel runs them.
-/
import Derived.Test.YtllipkakgjmheaaGreatDoorAwS0
import Derived.KernelRfl
set_option linter.unusedVariables false
set_option linter.unusedSimpArgs false
set_option linter.constructorNameAsVariable false
namespace Go.Proofs.YtllipkakgjmheaaGreatDoor.Aw
open Go Go.Proofs.YtllipkakgjmheaaGreatDoor.Ev
set_option maxRecDepth 1000000
set_option maxHeartbeats 0
noncomputable def s0 : AM := st0 LK 1 9 [(0, (by8 [0, 1, 56, 2, 57, 49, 28, 3, 61, 58, 42, 50, 38, 29, 17, 4, 62, 47, 59, 36, 45, 43, 51, 22, 53, 39, 33, 30, 24, 18, 12, 5, 63, 55, 48, 27, 60, 41, 37, 16, 46, 35, 44, 21, 52, 32, 23, 11, 54, 26, 40, 15, 34, 20, 31, 10, 25, 14, 19, 9, 13, 8, 7, 6]))]
theorem p0 : pieceS noSum LK 1 (.go 4135 (.go 0 (.fork (.alt (.go 308 .stop) (.alt (.go 333 .stop) .nil))))) [0, 1, 2, 4, 5, 7, 11, 12, 13, 15, 16, 17, 18, 19, 30, 31, 32, 33, 66, 77, 78, 80, 83, 110, 111, 112, 115, 117, 118, 119, 122, 126, 127, 129, 131, 132, 133, 141] s0 = some (List.replicate 2 s1) := by kernel_rfl
theorem p1 : piece LK 1 20000 [0, 1, 2, 4, 5, 7, 11, 12, 13, 15, 16, 17, 18, 30, 66, 77, 80, 112, 115, 118, 126, 129, 131, 150, 163, 165, 167, 169, 170, 175, 176, 177, 178, 180, 192, 193, 245, 246, 247, 373, 396, 456, 458, 459, 460, 461, 462, 466, 482, 486, 492, 493, 494, 496] s1 = some s2 := by kernel_rfl
end Go.Proofs.YtllipkakgjmheaaGreatDoor.Aw

/- The texts Sk1 of SegmentKnown, joined by program (tools/merge.py): walks of the functions that the law reaches, and plain facts; no condition. -/
import Derived.Test.YthjhakiagbdhlaaGreatDoorPart09
import Derived.Test.YthjhakiagbdhlaaGreatDoorPart11
import Derived.KernelRfl
set_option linter.unusedVariables false
set_option linter.unusedSimpArgs false

/-
  Pieces of a closed run, printed by a program; the kernel runs them.
-/
set_option linter.unusedVariables false
set_option linter.unusedSimpArgs false
set_option linter.constructorNameAsVariable false
namespace Go.Proofs.YthjhakiagbdhlaaGreatDoor.Sk
open Go Go.Proofs.YthjhakiagbdhlaaGreatDoor.Ev
set_option maxRecDepth 1000000
set_option maxHeartbeats 0
theorem p3 : pieceS foldSum LK 8 (.go 59 (.sum .stop)) [3, 4, 7, 9, 10, 11, 12, 13, 14, 15, 16, 33, 34, 35, 36, 37, 38, 39, 110, 111, 112, 115, 118, 119, 120, 123, 126, 141, 155, 158, 159, 160, 161] s3 = some (List.replicate 1 s4) := by kernel_rfl
theorem p4 : pieceS foldSum LK 8 (.go 1048 (.go 0 (.fork (.alt (.go 333 .stop) (.alt (.go 308 .stop) .nil))))) [3, 4, 7, 9, 10, 11, 12, 13, 14, 15, 16, 33, 34, 35, 36, 37, 38, 39, 110, 111, 112, 115, 118, 119, 171, 173, 175, 177, 179, 180, 183, 189, 190, 192, 194, 195, 196, 204] s4 = some (List.replicate 2 s5) := by kernel_rfl
theorem p5 : piece LK 8 30003 [3, 4, 7, 9, 10, 11, 12, 13, 14, 15, 33, 112, 115, 119, 173, 177, 179, 189, 192, 194, 213, 226, 228, 230, 249, 251, 253, 255, 663, 664, 665, 667] s5 = some s6 := by kernel_rfl
end Go.Proofs.YthjhakiagbdhlaaGreatDoor.Sk

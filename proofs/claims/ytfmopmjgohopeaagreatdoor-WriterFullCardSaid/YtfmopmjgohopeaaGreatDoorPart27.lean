/- The texts Wf13 of WriterFull, joined by program (tools/merge.py): walks of the functions that the law reaches, and plain facts; no condition. -/
import Derived.Test.YtfmopmjgohopeaaGreatDoorPart22
import Derived.Test.YtfmopmjgohopeaaGreatDoorPart12
import Derived.KernelRfl
set_option linter.unusedVariables false
set_option linter.unusedSimpArgs false

/-
  A piece of a closed run, printed by a program; the kernel runs them.
-/
set_option linter.unusedVariables false
set_option linter.unusedSimpArgs false
set_option linter.constructorNameAsVariable false
namespace Go.Proofs.YtfmopmjgohopeaaGreatDoor.Wf
open Go Go.Proofs.YtfmopmjgohopeaaGreatDoor Go.Proofs.YtfmopmjgohopeaaGreatDoor.Ev
set_option maxRecDepth 1000000
set_option maxHeartbeats 0
theorem p13 : piece LK 8 22021 [3, 4, 7, 8, 9, 10, 200, 202, 203, 204, 391, 392, 393, 1355, 1368, 1369, 1401, 1414, 1415, 1444, 1446, 1447, 1448, 1449, 1450, 1451, 1452, 1453, 1466, 2433, 3078, 3114, 3139, 3172, 3175, 3178, 3200, 3202, 3223, 3236, 3249, 3251, 3253, 3255, 4668, 4669, 4690, 4695, 4700, 4705, 4710, 4712, 4713, 4715, 4716, 4721, 4737, 4741, 4743, 4745, 4746, 4747, 4749, 4750, 4753, 4756, 4773, 4776, 4777, 4780, 4782, 5358, 5360, 5378, 5379, 5380, 5396, 5397, 5398, 5399, 5400, 5402, 5403, 5635, 5638, 5639, 5642, 5643] s13 = some s14 := by kernel_rfl
end Go.Proofs.YtfmopmjgohopeaaGreatDoor.Wf

/- The texts Wf9 of WriterFull, joined by program (tools/merge.py): walks of the functions that the law reaches, and plain facts; no condition. -/
import Derived.Test.YtfmopmjgohopeaaGreatDoorPart09
import Derived.Test.YtfmopmjgohopeaaGreatDoorPart22
import Derived.Test.YtfmopmjgohopeaaGreatDoorPart12
import Derived.KernelRfl
set_option linter.unusedVariables false
set_option linter.unusedSimpArgs false

/-
  A piece of a closed run, printed by a program; the kernel runs them.
-/
set_option linter.unusedVariables false
set_option linter.unusedSimpArgs false
set_option linter.constructorNameAsVariable false
namespace Go.Proofs.YtfmopmjgohopeaaGreatDoor.Wf
open Go Go.Proofs.YtfmopmjgohopeaaGreatDoor Go.Proofs.YtfmopmjgohopeaaGreatDoor.Ev
set_option maxRecDepth 1000000
set_option maxHeartbeats 0
theorem p9 : pieceS (toldS wfT) LK 8 (.go 20390 (.sum (.go 296 (.sum (.go 1313 .stop))))) [3, 4, 7, 8, 9, 10, 200, 202, 203, 204, 391, 392, 393, 1355, 1368, 1369, 1401, 1414, 1415, 1444, 1446, 1447, 1448, 1449, 1450, 1451, 1452, 1453, 1466, 2433, 3078, 3114, 3139, 3172, 3175, 3178, 3200, 3202, 3223, 3236, 3249, 3251, 3253, 3255, 3256, 3265, 3266, 3267, 3268, 3270, 3282, 3283, 4254, 4255, 4256, 4257, 4258, 4569, 4609, 4610, 4611, 4612, 4613, 4614, 4615, 4616, 4617, 4618] s9 = some (List.replicate 1 s10) := by kernel_rfl
end Go.Proofs.YtfmopmjgohopeaaGreatDoor.Wf

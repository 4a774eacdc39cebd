/- The texts Wf6 of WriterFull, joined by program (tools/merge.py): walks of the functions that the law reaches, and plain facts; no condition. -/
import Derived.Test.YtfmopmjgohopeaaGreatDoorPart09
import Derived.Test.YtfmopmjgohopeaaGreatDoorPart12
import Derived.KernelRfl
set_option linter.unusedVariables false
set_option linter.unusedSimpArgs false

/-
  A piece of a closed run, printed by a program; the kernel runs them.
-/
set_option linter.unusedVariables false
set_option linter.unusedSimpArgs false
set_option linter.constructorNameAsVariable false
namespace Go.Proofs.YtfmopmjgohopeaaGreatDoor.Wf
open Go Go.Proofs.YtfmopmjgohopeaaGreatDoor Go.Proofs.YtfmopmjgohopeaaGreatDoor.Ev
set_option maxRecDepth 1000000
set_option maxHeartbeats 0
theorem p6 : pieceS (toldS wfT) LK 8 (.go 49 (.sum (.go 282 (.sum (.go 282 (.sum (.go 282 (.sum (.go 282 (.sum (.go 282 (.sum (.go 282 (.sum (.go 4566 (.sum (.go 1058 (.sum (.go 1270 (.sum (.go 1058 (.sum (.go 352 (.go 0 (.fork (.alt (.go 39 (.fork (.alt (.go 402 .stop) (.alt (.go 462 .stop) .nil)))) (.alt (.go 39 (.fork (.alt (.go 377 .stop) (.alt (.go 437 .stop) .nil)))) (.alt (.go 39 (.fork (.alt (.go 487 .stop) (.alt (.go 462 .stop) .nil)))) .nil)))))))))))))))))))))))))))) [3, 4, 7, 8, 9, 10, 200, 202, 203, 204, 391, 392, 393, 1355, 1368, 1369, 1401, 1414, 1415, 1444, 1446, 1447, 1448, 1449, 1450, 1451, 1452, 1453, 1454, 1466, 1467, 1468, 1469, 2433, 2890, 3078, 3114, 3137, 3139, 3142, 3170, 3171, 3172, 3175, 3177, 3178, 3179, 3182, 3198, 3200, 3202, 3203, 3204, 3214] s6 = some (List.replicate 6 s7) := by kernel_rfl
end Go.Proofs.YtfmopmjgohopeaaGreatDoor.Wf

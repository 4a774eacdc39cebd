/- The texts Wf19 of WriterFull, joined by program (tools/merge.py): walks of the functions that the law reaches, and plain facts; no condition. -/
import Derived.Test.YtfmopmjgohopeaaGreatDoorPart32
import Derived.Test.YtfmopmjgohopeaaGreatDoorPart12
import Derived.KernelRfl
set_option linter.unusedVariables false
set_option linter.unusedSimpArgs false

/-
  A piece of a closed run, printed by a program; the kernel runs them.
-/
set_option linter.unusedVariables false
set_option linter.unusedSimpArgs false
set_option linter.constructorNameAsVariable false
namespace Go.Proofs.YtfmopmjgohopeaaGreatDoor.Wf
open Go Go.Proofs.YtfmopmjgohopeaaGreatDoor Go.Proofs.YtfmopmjgohopeaaGreatDoor.Ev
set_option maxRecDepth 1000000
set_option maxHeartbeats 0
theorem p19 : pieceS (toldS wfT) LK 8 (.go 15342 (.sum (.go 1167 (.sum (.go 580 (.sum (.go 4911 .stop))))))) [3, 4, 7, 8, 9, 10, 200, 202, 203, 204, 391, 392, 393, 1355, 1368, 1369, 1401, 1414, 1415, 1444, 1446, 1447, 1448, 1449, 1450, 1451, 1452, 1453, 1466, 2433, 3078, 3114, 3139, 3172, 3175, 3178, 3200, 3202, 3223, 3236, 3249, 3251, 3253, 3255, 4668, 4669, 4690, 4695, 4700, 4705, 4710, 4712, 4713, 4715, 4716, 4721, 4737, 4741, 4743, 4745, 4753, 4777, 4780, 5358, 5378, 6987, 6992, 6993, 6994, 6995, 6996, 7002, 7018, 7020, 7022, 7045, 7053, 7095, 7181, 7189, 7480, 7668, 7669, 7688, 7689, 7692, 7697, 7700, 7701, 7702, 7713, 7724, 7726, 7727, 7730, 7732, 7733] s19 = some (List.replicate 1 s20) := by kernel_rfl
end Go.Proofs.YtfmopmjgohopeaaGreatDoor.Wf

/- The texts Wf3 of WriterFull, joined by program (tools/merge.py): walks of the functions that the law reaches, and plain facts; no condition. -/
import Derived.Test.YtfmopmjgohopeaaGreatDoorPart09
import Derived.Test.YtfmopmjgohopeaaGreatDoorPart12
import Derived.KernelRfl
set_option linter.unusedVariables false
set_option linter.unusedSimpArgs false

/-
  A piece of a closed run, printed by a program; the kernel runs them.
-/
set_option linter.unusedVariables false
set_option linter.unusedSimpArgs false
set_option linter.constructorNameAsVariable false
namespace Go.Proofs.YtfmopmjgohopeaaGreatDoor.Wf
open Go Go.Proofs.YtfmopmjgohopeaaGreatDoor Go.Proofs.YtfmopmjgohopeaaGreatDoor.Ev
set_option maxRecDepth 1000000
set_option maxHeartbeats 0
theorem p3 : pieceS (toldS wfT) LK 8 (.go 419 (.sum (.go 700 (.sum (.go 700 (.sum (.go 700 (.sum (.go 700 (.sum (.go 700 (.sum (.go 700 (.sum (.go 700 (.sum (.go 700 (.sum (.go 700 (.sum (.go 700 (.sum (.go 700 (.sum (.go 700 (.sum (.go 700 (.sum (.go 700 (.sum (.go 700 (.sum (.go 700 (.sum (.go 700 (.sum (.go 700 (.sum (.go 700 (.sum (.go 700 (.sum (.go 700 (.sum (.go 700 (.sum (.go 700 (.sum (.go 700 (.sum (.go 700 (.sum (.go 700 (.sum (.go 700 (.sum (.go 700 (.sum (.go 700 (.sum (.go 700 (.sum (.go 551 .stop))))))))))))))))))))))))))))))))))))))))))))))))))))))))))))))) [3, 4, 7, 8, 9, 10, 200, 202, 203, 204, 391, 392, 393, 1355, 1368, 1369, 1401, 1414, 1415, 1444, 1446, 1447, 1448, 1449, 1450, 1451, 1452, 1453, 1454, 1466, 1467, 1468, 1469, 1470, 1471, 1472, 1480, 1481, 1482, 1483, 1992, 1993, 1994, 1998, 1999, 2000, 2001, 2002] s3 = some (List.replicate 1 s4) := by kernel_rfl
end Go.Proofs.YtfmopmjgohopeaaGreatDoor.Wf

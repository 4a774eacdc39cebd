/- The texts Wf1 of WriterFull, joined by program (tools/merge.py): walks of the functions that the law reaches, and plain facts; no condition. -/
import Derived.Test.YtfmopmjgohopeaaGreatDoorPart09
import Derived.Test.YtfmopmjgohopeaaGreatDoorPart12
import Derived.KernelRfl
set_option linter.unusedVariables false
set_option linter.unusedSimpArgs false

/-
  A piece of a closed run, printed by a program; the kernel runs them.
-/
set_option linter.unusedVariables false
set_option linter.unusedSimpArgs false
set_option linter.constructorNameAsVariable false
namespace Go.Proofs.YtfmopmjgohopeaaGreatDoor.Wf
open Go Go.Proofs.YtfmopmjgohopeaaGreatDoor Go.Proofs.YtfmopmjgohopeaaGreatDoor.Ev
set_option maxRecDepth 1000000
set_option maxHeartbeats 0
theorem p1 : pieceS (toldS wfT) LK 8 (.go 335 (.sum (.go 700 (.sum (.go 700 (.sum (.go 700 (.sum (.go 700 (.sum (.go 700 (.sum (.go 700 (.sum (.go 700 (.sum (.go 700 (.sum (.go 700 (.sum (.go 700 (.sum (.go 700 (.sum (.go 700 (.sum (.go 700 (.sum (.go 700 (.sum (.go 700 (.sum (.go 700 (.sum (.go 700 (.sum (.go 700 (.sum (.go 700 (.sum (.go 700 (.sum (.go 700 (.sum (.go 700 (.sum (.go 700 (.sum (.go 700 (.sum (.go 700 (.sum (.go 700 (.sum (.go 700 (.sum (.go 700 (.sum (.go 700 (.sum (.go 700 (.sum (.go 635 .stop))))))))))))))))))))))))))))))))))))))))))))))))))))))))))))))) [3, 4, 7, 8, 9, 10, 200, 202, 203, 204, 391, 392, 393, 394, 395, 396, 404, 405, 406, 407, 1096, 1097, 1098, 1102, 1103, 1104, 1105, 1106, 1108, 1109] s1 = some (List.replicate 1 s2) := by kernel_rfl
end Go.Proofs.YtfmopmjgohopeaaGreatDoor.Wf

/- The texts Wf20 of WriterFull, joined by program (tools/merge.py): walks of the functions that the law reaches, and plain facts; no condition. -/
import Derived.Test.YtfmopmjgohopeaaGreatDoorPart32
import Derived.Test.YtfmopmjgohopeaaGreatDoorPart12
import Derived.KernelRfl
set_option linter.unusedVariables false
set_option linter.unusedSimpArgs false

/-
  A piece of a closed run, printed by a program; the kernel runs them.
-/
set_option linter.unusedVariables false
set_option linter.unusedSimpArgs false
set_option linter.constructorNameAsVariable false
namespace Go.Proofs.YtfmopmjgohopeaaGreatDoor.Wf
open Go Go.Proofs.YtfmopmjgohopeaaGreatDoor Go.Proofs.YtfmopmjgohopeaaGreatDoor.Ev
set_option maxRecDepth 1000000
set_option maxHeartbeats 0
theorem p20 : pieceS (toldS wfT) LK 8 (.go 3152 (.sum (.go 6462 (.sum (.go 148 (.sum (.go 4472 (.sum (.go 3118 (.sum (.go 4651 .stop))))))))))) [3, 4, 7, 8, 9, 10, 200, 202, 203, 204, 391, 392, 393, 1368, 1369, 1414, 1450, 4741, 4743, 4745, 4753, 4777, 4780, 5358, 5378, 6987, 6993, 7002, 7018, 7020, 7022, 7045, 7053, 7095, 7181, 7189, 7480, 7692, 7700, 7742, 7805, 7821, 7823, 7825, 7826, 7828, 7838, 7839, 7841, 8085, 8086, 8088, 8119, 8125, 8156, 8158, 8160, 8170, 8171, 8199, 8201, 8202, 8203, 8204, 8205, 8206, 8207, 8208, 8209, 8210, 8211, 8212, 8216, 8217] s20 = some (List.replicate 1 s21) := by kernel_rfl
end Go.Proofs.YtfmopmjgohopeaaGreatDoor.Wf

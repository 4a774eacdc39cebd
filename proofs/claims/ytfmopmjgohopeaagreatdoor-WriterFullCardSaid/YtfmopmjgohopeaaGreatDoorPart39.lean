/- The texts Wf24 of WriterFull, joined by program (tools/merge.py): walks of the functions that the law reaches, and plain facts; no condition. -/
import Derived.Test.YtfmopmjgohopeaaGreatDoorPart32
import Derived.Test.YtfmopmjgohopeaaGreatDoorPart12
import Derived.KernelRfl
set_option linter.unusedVariables false
set_option linter.unusedSimpArgs false

/-
  A piece of a closed run, printed by a program; the kernel runs them.
-/
set_option linter.unusedVariables false
set_option linter.unusedSimpArgs false
set_option linter.constructorNameAsVariable false
namespace Go.Proofs.YtfmopmjgohopeaaGreatDoor.Wf
open Go Go.Proofs.YtfmopmjgohopeaaGreatDoor Go.Proofs.YtfmopmjgohopeaaGreatDoor.Ev
set_option maxRecDepth 1000000
set_option maxHeartbeats 0
theorem p24 : pieceS (toldS wfT) LK 8 (.go 4344 (.sum (.go 8918 (.sum (.go 4106 (.sum (.go 1683 (.sum (.go 2945 .stop))))))))) [3, 4, 7, 8, 9, 10, 200, 202, 203, 204, 391, 392, 393, 1368, 1369, 1414, 1450, 4741, 4743, 4745, 4753, 4777, 4780, 5358, 5378, 6987, 6993, 7002, 7018, 7020, 7022, 7045, 7053, 7095, 7181, 7189, 7480, 7692, 7700, 7742, 7805, 7821, 7823, 7825, 7826, 7828, 7838, 7839, 8085, 8086, 8156, 8158, 8160, 8205, 8757, 8759, 8767, 8777, 8780, 8896, 8900, 8909, 8921, 8923, 8925, 8944, 8952, 8994, 9076, 9084, 9126, 9189, 9190, 9204, 9237, 9251, 9324, 9326, 9327, 9329, 9341, 9345, 9346, 9347, 9419, 9457, 9458, 9459, 9470, 9481] s24 = some (List.replicate 1 s25) := by kernel_rfl
end Go.Proofs.YtfmopmjgohopeaaGreatDoor.Wf

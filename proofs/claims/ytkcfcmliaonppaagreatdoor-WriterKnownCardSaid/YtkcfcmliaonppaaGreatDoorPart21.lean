/- The texts Wr9 of WriterKnown, joined by program (tools/merge.py): walks of the functions that the law reaches, and plain facts; no condition. -/
import Derived.Test.YtkcfcmliaonppaaGreatDoorPart09
import Derived.Test.YtkcfcmliaonppaaGreatDoorPart20
import Derived.Test.YtkcfcmliaonppaaGreatDoorPart10
import Derived.KernelRfl
set_option linter.unusedVariables false
set_option linter.unusedSimpArgs false

/-
  Pieces of a closed run, printed by a program; the kernel runs them.
-/
set_option linter.unusedVariables false
set_option linter.unusedSimpArgs false
set_option linter.constructorNameAsVariable false
namespace Go.Proofs.YtkcfcmliaonppaaGreatDoor.Wr
open Go Go.Proofs.YtkcfcmliaonppaaGreatDoor.Ev
set_option maxRecDepth 1000000
set_option maxHeartbeats 0
theorem p9 : pieceS noSum LK 1 (.go 21872 (.go 0 (.fork (.alt (.go 308 .stop) (.alt (.go 333 .stop) .nil))))) [0, 2022, 2023, 2097, 2142, 2698, 2700, 2708, 2718, 2721, 2837, 2841, 2850, 2862, 2864, 2866, 2885, 2893, 2935, 3017, 3025, 3067, 3130, 3131, 3145, 3178, 3192, 3265, 3267, 3268, 3821, 3823, 3831, 3841, 3844, 3919, 3921, 3930, 3938, 3940, 3942, 3957, 3965, 4007, 4070, 4071, 4081, 4110, 4121, 4173, 4175, 4176, 4178, 4182, 4183, 4189, 4190, 4191, 4192, 4197, 4198, 4199, 4200, 4201, 4202, 4203, 4276, 4300, 4303, 4336, 4337, 4338, 4339, 4340, 4341, 4342, 4353, 4354, 4355, 4356, 4389, 4400, 4401, 4403, 4406, 4433, 4434, 4435, 4438, 4440, 4441, 4442, 4445, 4449, 4450, 4452, 4454, 4455, 4456, 4464] s9 = some (List.replicate 2 s10) := by kernel_rfl
end Go.Proofs.YtkcfcmliaonppaaGreatDoor.Wr

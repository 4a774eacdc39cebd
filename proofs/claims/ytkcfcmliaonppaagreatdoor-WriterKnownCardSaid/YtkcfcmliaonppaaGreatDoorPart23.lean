/- The texts Wr11 of WriterKnown, joined by program (tools/merge.py): walks of the functions that the law reaches, and plain facts; no condition. -/
import Derived.Test.YtkcfcmliaonppaaGreatDoorPart20
import Derived.Test.YtkcfcmliaonppaaGreatDoorPart10
import Derived.KernelRfl
set_option linter.unusedVariables false
set_option linter.unusedSimpArgs false

/-
  Pieces of a closed run, printed by a program; the kernel runs them.
-/
set_option linter.unusedVariables false
set_option linter.unusedSimpArgs false
set_option linter.constructorNameAsVariable false
namespace Go.Proofs.YtkcfcmliaonppaaGreatDoor.Wr
open Go Go.Proofs.YtkcfcmliaonppaaGreatDoor.Ev
set_option maxRecDepth 1000000
set_option maxHeartbeats 0
theorem p11 : piece LK 1 30001 [0, 2022, 2023, 2097, 2142, 2698, 2700, 2708, 2718, 2721, 2837, 2841, 2850, 2862, 2864, 2866, 2885, 2893, 2935, 3017, 3025, 3067, 3130, 3131, 3145, 3178, 3192, 3265, 3267, 3268, 3821, 3823, 3831, 3841, 3844, 3919, 3921, 3930, 3938, 3940, 3942, 3957, 3965, 4007, 4070, 4071, 4081, 4110, 4121, 4173, 4175, 4176, 4178, 4182, 4183, 4189, 4190, 4191, 4192, 4197, 4198, 4199, 4200, 4201, 4202, 4203, 4276, 4300, 4303, 4336, 4337, 4338, 4339, 4340, 4341, 4353, 4389, 4400, 4403, 4435, 4438, 4441, 4449, 4452, 4454, 4473, 4486, 4488, 4490, 4492, 4821, 4822, 4845, 4850, 4855, 4860, 4865, 4867, 4868, 4870, 4871, 4876, 4890, 4894, 4896, 4904, 4914, 4917, 5033, 5036, 5037, 5038, 5039, 5040, 5046, 5058, 5060, 5062, 5081, 5089, 5131, 5193, 5194, 5209, 5210, 5213, 5218, 5221, 5259, 5261, 5262, 5263, 5264, 5267, 5268, 5269, 5270, 5271, 5272, 5273, 5274, 5275, 5276, 5277, 5278, 5279, 5280, 5290, 5300, 5301, 5302, 5303, 5304, 5305, 5306] s11 = some s12 := by kernel_rfl
end Go.Proofs.YtkcfcmliaonppaaGreatDoor.Wr

/- The texts Wr13 of WriterKnown, joined by program (tools/merge.py): walks of the functions that the law reaches, and plain facts; no condition. -/
import Derived.Test.YtkcfcmliaonppaaGreatDoorPart20
import Derived.Test.YtkcfcmliaonppaaGreatDoorPart10
import Derived.KernelRfl
set_option linter.unusedVariables false
set_option linter.unusedSimpArgs false

/-
  Pieces of a closed run, printed by a program; the kernel runs them.
-/
set_option linter.unusedVariables false
set_option linter.unusedSimpArgs false
set_option linter.constructorNameAsVariable false
namespace Go.Proofs.YtkcfcmliaonppaaGreatDoor.Wr
open Go Go.Proofs.YtkcfcmliaonppaaGreatDoor.Ev
set_option maxRecDepth 1000000
set_option maxHeartbeats 0
theorem p13 : piece LK 1 30002 [0, 2022, 2023, 2097, 2142, 2698, 2700, 2708, 2718, 2721, 2837, 2841, 2850, 2862, 2864, 2866, 2885, 2893, 2935, 3017, 3025, 3067, 3130, 3131, 3145, 3178, 3192, 3265, 3267, 3268, 3821, 3823, 3831, 3841, 3844, 3919, 3921, 3930, 3938, 3940, 3942, 3957, 3965, 4007, 4070, 4071, 4081, 4110, 4121, 4173, 4175, 4176, 4182, 4183, 4189, 4190, 4894, 4896, 4904, 4914, 4917, 5033, 5037, 5046, 5058, 5060, 5062, 5081, 5089, 5131, 5213, 5221, 5263, 5326, 5327, 5341, 5374, 5388, 5461, 5538, 5542, 5544, 5548, 5728, 5730, 5732, 5733, 5735, 5736, 5741, 5743, 5744, 5745, 5746, 5748, 5780, 5786, 5814, 5821, 6066, 6067, 6068, 6069, 6070, 6071, 6081, 6092, 6174, 6175, 6176, 6179, 6181, 6182, 6185, 6186, 6187] s13 = some s14 := by kernel_rfl
end Go.Proofs.YtkcfcmliaonppaaGreatDoor.Wr

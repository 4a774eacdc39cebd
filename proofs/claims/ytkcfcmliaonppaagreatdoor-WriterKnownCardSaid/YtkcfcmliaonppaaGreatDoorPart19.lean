/- The texts Wr8 of WriterKnown, joined by program (tools/merge.py): walks of the functions that the law reaches, and plain facts; no condition. -/
import Derived.Test.YtkcfcmliaonppaaGreatDoorPart09
import Derived.Test.YtkcfcmliaonppaaGreatDoorPart10
import Derived.KernelRfl
set_option linter.unusedVariables false
set_option linter.unusedSimpArgs false

/-
  Pieces of a closed run, printed by a program; the kernel runs them.
-/
set_option linter.unusedVariables false
set_option linter.unusedSimpArgs false
set_option linter.constructorNameAsVariable false
namespace Go.Proofs.YtkcfcmliaonppaaGreatDoor.Wr
open Go Go.Proofs.YtkcfcmliaonppaaGreatDoor.Ev
set_option maxRecDepth 1000000
set_option maxHeartbeats 0
theorem p8 : piece LK 1 30002 [0, 2022, 2023, 2093, 2095, 2097, 2142, 2698, 2700, 2708, 2718, 2721, 2837, 2841, 2850, 2862, 2864, 2866, 2885, 2893, 2935, 3017, 3025, 3067, 3130, 3131, 3145, 3178, 3192, 3265, 3267, 3268, 3270, 3446, 3447, 3448, 3459, 3492, 3495, 3498, 3506, 3509, 3511, 3528, 3530, 3532, 3534, 3751, 3752, 3775, 3780, 3785, 3790, 3795, 3797, 3798, 3800, 3801, 3806, 3817, 3821, 3823, 3831, 3841, 3844, 3919, 3920, 3921, 3922, 3923, 3924, 3930, 3938, 3940, 3942, 3953, 3954, 3957, 3962, 3965, 4003, 4005, 4006, 4007, 4008, 4011, 4012, 4013, 4014, 4015, 4016, 4017] s8 = some s9 := by kernel_rfl
end Go.Proofs.YtkcfcmliaonppaaGreatDoor.Wr

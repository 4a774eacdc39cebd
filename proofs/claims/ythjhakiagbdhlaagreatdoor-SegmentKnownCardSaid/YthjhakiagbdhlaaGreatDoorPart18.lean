/- The texts Sk5 of SegmentKnown, joined by program (tools/merge.py): walks of the functions that the law reaches, and plain facts; no condition. -/
import Derived.Test.YthjhakiagbdhlaaGreatDoorPart16
import Derived.Test.YthjhakiagbdhlaaGreatDoorPart11
import Derived.KernelRfl
set_option linter.unusedVariables false
set_option linter.unusedSimpArgs false

/-
  Pieces of a closed run, printed by a program; the kernel runs them.
-/
set_option linter.unusedVariables false
set_option linter.unusedSimpArgs false
set_option linter.constructorNameAsVariable false
namespace Go.Proofs.YthjhakiagbdhlaaGreatDoor.Sk
open Go Go.Proofs.YthjhakiagbdhlaaGreatDoor.Ev
set_option maxRecDepth 1000000
set_option maxHeartbeats 0
theorem p15 : piece LK 8 30000 [3, 4, 7, 2334, 2336, 2338, 2346, 2356, 2359, 2464, 2466, 2475, 2487, 2489, 2491, 2510, 2518, 2560, 2642, 2650, 2692, 2755, 2766, 2777, 2785, 2787, 2789, 2804, 2812, 2854, 2917, 2918, 2928, 2957, 2968, 3020, 3022, 3025, 3026, 3027, 3029, 3030, 3031, 3032, 3033, 3050, 3071, 3072, 3074, 3085, 3086, 3093, 3103, 3109, 3128, 3130, 3131, 3132, 3133, 3134, 3138, 3166, 3170, 3174] s15 = some s16 := by kernel_rfl
theorem p16 : pieceP LK 8 17410 2 28 [3, 4, 7, 2334, 2336, 2338, 2346, 2356, 2359, 2464, 2466, 2475, 2487, 2489, 2491, 2510, 2518, 2560, 2642, 2650, 2692, 2755, 2766, 2777, 2785, 2787, 2789, 2804, 2812, 2854, 2917, 2918, 2928, 2957, 2968, 3020, 3022, 3025, 3026, 3027, 3029, 3030, 3260, 3262, 3264, 3272, 3284, 3293, 3306, 3307, 3351] s16 = some s17 := by kernel_rfl
theorem p17 : piece LK 8 30001 [3, 4, 7, 2334, 2336, 2338, 2346, 2356, 2359, 2464, 2466, 2475, 2487, 2489, 2491, 2510, 2518, 2560, 2642, 2650, 2692, 2755, 2766, 2777, 2785, 2787, 2789, 2804, 2812, 2854, 2917, 2918, 2928, 2957, 2968, 3020, 3022, 3025, 3026, 3027, 3029, 3030, 3260, 3262, 3264, 3272, 3284, 3293, 3306, 3307, 3351, 3360, 3365, 3374, 3375, 3376, 3377, 3378, 3379, 3394, 3423, 3428, 3433, 3438, 3443, 3448, 3453, 3458, 3460, 3461, 3463, 3464, 3469, 3480, 3484, 3486, 3488, 3496, 3506, 3509, 3614, 3615, 3616, 3617, 3618, 3619, 3625, 3637, 3639, 3641, 3656, 3657, 3660, 3665, 3668, 3669, 3670, 3681, 3692, 3694, 3695, 3698, 3700, 3701, 3702, 3703] s17 = some s18 := by kernel_rfl
end Go.Proofs.YthjhakiagbdhlaaGreatDoor.Sk

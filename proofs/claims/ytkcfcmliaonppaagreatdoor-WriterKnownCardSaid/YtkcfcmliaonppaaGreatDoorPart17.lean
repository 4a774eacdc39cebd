/- The texts Wr6 of WriterKnown, joined by program (tools/merge.py): walks of the functions that the law reaches, and plain facts; no condition. -/
import Derived.Test.YtkcfcmliaonppaaGreatDoorPart09
import Derived.Test.YtkcfcmliaonppaaGreatDoorPart10
import Derived.KernelRfl
set_option linter.unusedVariables false
set_option linter.unusedSimpArgs false

/-
  Pieces of a closed run, printed by a program; the kernel runs them.
-/
set_option linter.unusedVariables false
set_option linter.unusedSimpArgs false
set_option linter.constructorNameAsVariable false
namespace Go.Proofs.YtkcfcmliaonppaaGreatDoor.Wr
open Go Go.Proofs.YtkcfcmliaonppaaGreatDoor.Ev
set_option maxRecDepth 1000000
set_option maxHeartbeats 0
theorem p6 : piece LK 1 30001 [0, 1774, 2022, 2023, 2025, 2056, 2062, 2093, 2095, 2097, 2107, 2108, 2136, 2138, 2139, 2140, 2141, 2142, 2143, 2144, 2145, 2157, 2193, 2204, 2207, 2239, 2242, 2245, 2253, 2256, 2258, 2277, 2290, 2292, 2294, 2296, 2625, 2626, 2649, 2654, 2659, 2664, 2669, 2671, 2672, 2674, 2675, 2680, 2694, 2698, 2700, 2708, 2718, 2721, 2837, 2840, 2841, 2842, 2843, 2844, 2850, 2862, 2864, 2866, 2885, 2893, 2935, 2997, 2998, 3013, 3014, 3017, 3022, 3025, 3063, 3065, 3066, 3067, 3068, 3071, 3072, 3073, 3074, 3075, 3076, 3077, 3078, 3079, 3080, 3081, 3082, 3083, 3084, 3094, 3104, 3105, 3106, 3107, 3108, 3109, 3110] s6 = some s7 := by kernel_rfl
end Go.Proofs.YtkcfcmliaonppaaGreatDoor.Wr

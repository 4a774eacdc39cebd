/-
  Pieces of a closed run, printed by a program; the kernel runs them.
-/
import Derived.Test.YtllipkakgjmheaaGreatDoorAwS0
import Derived.KernelRfl
set_option linter.unusedVariables false
set_option linter.unusedSimpArgs false
set_option linter.constructorNameAsVariable false
namespace Go.Proofs.YtllipkakgjmheaaGreatDoor.Aw
open Go Go.Proofs.YtllipkakgjmheaaGreatDoor.Ev
set_option maxRecDepth 1000000
set_option maxHeartbeats 0
theorem p10 : piece LK 1 20003 [0, 1, 2, 4, 5, 571, 573, 581, 591, 594, 710, 714, 723, 735, 737, 739, 758, 766, 808, 890, 898, 940, 1003, 1004, 1018, 1051, 1065, 1138, 1139, 1705, 1707, 1715, 1725, 1728, 1844, 1848, 1857, 1869, 1871, 1873, 1892, 1900, 1942, 2024, 2032, 2074, 2137, 2138, 2152, 2185, 2199, 2272, 2273, 2274, 2275, 2276, 2277, 2357, 2381, 2406, 2409, 2442, 2443, 2444, 2445, 2446, 2447, 2460, 2496, 2507, 2510, 2545, 2556, 2559, 2591, 2594, 2597, 2605, 2608, 2610, 2631, 2644, 2657, 2659, 2661, 2663, 2664, 2673, 2674, 2675, 2676, 2678, 2690, 2691, 2760, 2761, 2762, 2949, 2985, 3058, 3060, 3061, 3062, 3063, 3064, 3068, 3072, 3076] s10 = some s11 := by kernel_rfl
theorem p11 : piece LK 1 20000 [0, 1, 2, 4, 5, 571, 573, 581, 591, 594, 710, 714, 723, 735, 737, 739, 758, 766, 808, 890, 898, 940, 1003, 1004, 1018, 1051, 1065, 1138, 1139, 1705, 1707, 1715, 1725, 1728, 1844, 1848, 1857, 1869, 1871, 1873, 1892, 1900, 1942, 2024, 2032, 2074, 2137, 2138, 2152, 2185, 2199, 2272, 2273, 2274, 2275, 2276, 2277, 2357, 2381, 2406, 2409, 2442, 2443, 2444, 2445, 2446, 2447, 2460, 2496, 2507, 2510, 2545, 2556, 2559, 2591, 2594, 2597, 2605, 2608, 2610, 2631, 2644, 2657, 2659, 2661, 2663, 3100, 3101, 3102, 3105, 3107, 3108, 3111, 3124, 3129, 3134, 3139, 3140, 3141] s11 = some s12 := by kernel_rfl
end Go.Proofs.YtllipkakgjmheaaGreatDoor.Aw

/- The texts St4 of StoreKnown, joined by program (tools/merge.py): walks of the functions that the law reaches, and plain facts; no condition. -/
import Derived.Test.YthmpfhdnekpabaaGreatDoorPart09
import Derived.Test.YthmpfhdnekpabaaGreatDoorPart10
import Derived.KernelRfl
set_option linter.unusedVariables false
set_option linter.unusedSimpArgs false

/-
  Pieces of a closed run, printed by a program; the kernel runs them.
-/
set_option linter.unusedVariables false
set_option linter.unusedSimpArgs false
set_option linter.constructorNameAsVariable false
namespace Go.Proofs.YthmpfhdnekpabaaGreatDoor.St
open Go Go.Proofs.YthmpfhdnekpabaaGreatDoor.Ev
set_option maxRecDepth 1000000
set_option maxHeartbeats 0
theorem p4 : piece LK 5 45000 [4, 5, 7, 9, 256, 257, 258, 656, 658, 666, 676, 679, 754, 756, 765, 773, 775, 777, 792, 800, 842, 905, 906, 916, 945, 956, 1008, 1009, 1010, 1011, 1012, 1031, 1032, 1036, 1049, 1056, 1157, 1165, 1178, 1575, 1577, 1585, 1595, 1598, 1673, 1675, 1684, 1692, 1694, 1696, 1711, 1719, 1761, 1824, 1825, 1835, 1864, 1875, 1927, 1928, 1929, 1930, 1992, 1993, 1994, 1995, 2010, 2028, 2062, 2063, 2064, 2065, 2066, 2067, 2070, 2071, 2073, 2074, 2077, 2078, 2079, 2080, 2081, 2084, 2085, 2088, 2091, 2092, 2095, 2098, 2099, 2101, 2102, 2103, 2104, 2105, 2107, 2109, 2356, 2357, 2358, 2364, 2751, 2753, 2761, 2771, 2774, 2849, 2851, 2860, 2868, 2870, 2872, 2887, 2895, 2937, 3000, 3001, 3011, 3040, 3051, 3103, 3104, 3105, 3106, 3107, 3109, 3110, 3111, 3112, 3113, 3114, 3125, 3158, 3161, 3164, 3172, 3175, 3177, 3194, 3196, 3198, 3200, 3201, 3202, 3203, 3204, 3205, 3207, 3217, 3218, 3253, 3254, 3255, 3256, 3257, 3258, 3259, 3262, 3263, 3264, 3265, 3266, 3267, 3268, 3269, 3270, 3271, 3272, 3273, 3274, 3275, 3285, 3286, 3287, 3288, 3289, 3290, 3291] s4 = some s5 := by kernel_rfl
end Go.Proofs.YthmpfhdnekpabaaGreatDoor.St

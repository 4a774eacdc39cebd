/- The texts St3 of StoreKnown, joined by program (tools/merge.py): walks of the functions that the law reaches, and plain facts; no condition. -/
import Derived.Test.YthmpfhdnekpabaaGreatDoorPart09
import Derived.Test.YthmpfhdnekpabaaGreatDoorPart10
import Derived.KernelRfl
set_option linter.unusedVariables false
set_option linter.unusedSimpArgs false

/-
  Pieces of a closed run, printed by a program; the kernel runs them.
-/
set_option linter.unusedVariables false
set_option linter.unusedSimpArgs false
set_option linter.constructorNameAsVariable false
namespace Go.Proofs.YthmpfhdnekpabaaGreatDoor.St
open Go Go.Proofs.YthmpfhdnekpabaaGreatDoor.Ev
set_option maxRecDepth 1000000
set_option maxHeartbeats 0
theorem p3 : piece LK 5 45002 [4, 5, 7, 9, 256, 257, 258, 656, 658, 666, 676, 679, 754, 756, 765, 773, 775, 777, 792, 800, 842, 905, 906, 916, 945, 956, 1008, 1009, 1010, 1011, 1012, 1031, 1032, 1036, 1049, 1056, 1157, 1165, 1178, 1575, 1577, 1585, 1595, 1598, 1673, 1675, 1684, 1692, 1694, 1696, 1711, 1719, 1761, 1824, 1825, 1835, 1864, 1875, 1927, 1928, 1929, 1930, 1992, 1993, 1994, 1995, 2010, 2028, 2062, 2063, 2064, 2065, 2066, 2067, 2070, 2071, 2073, 2074, 2077, 2078, 2079, 2080, 2081, 2084, 2085, 2088, 2091, 2092, 2095, 2098, 2099, 2101, 2102, 2103, 2104, 2105, 2107, 2109, 2356, 2357, 2358, 2364, 2371, 2373, 2374, 2375, 2376, 2377, 2378, 2389, 2422, 2425, 2428, 2436, 2439, 2441, 2458, 2460, 2462, 2464, 2465, 2466, 2467, 2468, 2469, 2471, 2481, 2482, 2517, 2518, 2519, 2520, 2521, 2584, 2594, 2595, 2596, 2598, 2600, 2602, 2605, 2606, 2607, 2608, 2609, 2611, 2612, 2613, 2614, 2615, 2616, 2617, 2618, 2619, 2620, 2621, 2622] s3 = some s4 := by kernel_rfl
end Go.Proofs.YthmpfhdnekpabaaGreatDoor.St

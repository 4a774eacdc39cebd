/-
  Pieces of a closed run, printed by a program; the kernel runs them.
-/
import Derived.Test.YtllipkakgjmheaaGreatDoorAwS0
import Derived.KernelRfl
set_option linter.unusedVariables false
set_option linter.unusedSimpArgs false
set_option linter.constructorNameAsVariable false
namespace Go.Proofs.YtllipkakgjmheaaGreatDoor.Aw
open Go Go.Proofs.YtllipkakgjmheaaGreatDoor.Ev
set_option maxRecDepth 1000000
set_option maxHeartbeats 0
theorem p8 : piece LK 1 20006 [0, 1, 2, 4, 5, 571, 573, 581, 591, 594, 710, 714, 723, 735, 737, 739, 758, 766, 808, 890, 898, 940, 1003, 1004, 1018, 1051, 1065, 1138, 1139, 1705, 1707, 1715, 1725, 1728, 1844, 1848, 1857, 1869, 1871, 1873, 1892, 1900, 1942, 2024, 2032, 2074, 2137, 2138, 2152, 2185, 2199, 2272, 2273, 2274, 2275, 2276, 2277, 2357, 2381, 2406, 2407, 2408, 2409, 2410, 2411, 2412, 2415, 2416, 2417, 2419, 2420, 2425, 2426] s8 = some s9 := by kernel_rfl
theorem p9 : pieceS noSum LK 1 (.go 7010 (.go 0 (.fork (.alt (.go 39 (.fork (.alt (.go 377 .stop) (.alt (.go 437 .stop) .nil)))) (.alt (.go 39 (.fork (.alt (.go 402 .stop) (.alt (.go 462 .stop) .nil)))) (.alt (.go 39 (.fork (.alt (.go 462 .stop) (.alt (.go 487 .stop) .nil)))) .nil)))))) [0, 1, 2, 4, 5, 571, 573, 581, 591, 594, 710, 714, 723, 735, 737, 739, 758, 766, 808, 890, 898, 940, 1003, 1004, 1018, 1051, 1065, 1138, 1139, 1705, 1707, 1715, 1725, 1728, 1844, 1848, 1857, 1869, 1871, 1873, 1892, 1900, 1942, 2024, 2032, 2074, 2137, 2138, 2152, 2185, 2199, 2272, 2273, 2274, 2275, 2276, 2277, 2357, 2381, 2406, 2409, 2442, 2443, 2444, 2445, 2446, 2447, 2448, 2460, 2461, 2462, 2463, 2496, 2507, 2508, 2510, 2545, 2556, 2557, 2559, 2562, 2589, 2590, 2591, 2594, 2596, 2597, 2598, 2601, 2605, 2606, 2608, 2610, 2611, 2612, 2622] s9 = some (List.replicate 6 s10) := by kernel_rfl
end Go.Proofs.YtllipkakgjmheaaGreatDoor.Aw

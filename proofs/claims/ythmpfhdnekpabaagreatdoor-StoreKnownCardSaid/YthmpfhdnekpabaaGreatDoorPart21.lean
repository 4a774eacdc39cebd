/- The texts St9 of StoreKnown, joined by program (tools/merge.py): walks of the functions that the law reaches, and plain facts; no condition. -/
import Derived.Test.YthmpfhdnekpabaaGreatDoorPart09
import Derived.Test.YthmpfhdnekpabaaGreatDoorPart20
import Derived.Test.YthmpfhdnekpabaaGreatDoorPart10
import Derived.KernelRfl
set_option linter.unusedVariables false
set_option linter.unusedSimpArgs false

/-
  Pieces of a closed run, printed by a program; the kernel runs them.
-/
set_option linter.unusedVariables false
set_option linter.unusedSimpArgs false
set_option linter.constructorNameAsVariable false
namespace Go.Proofs.YthmpfhdnekpabaaGreatDoor.St
open Go Go.Proofs.YthmpfhdnekpabaaGreatDoor.Ev
set_option maxRecDepth 1000000
set_option maxHeartbeats 0
theorem p9 : pieceS noSum LK 5 (.go 18891 (.go 0 (.fork (.alt (.go 39 (.fork (.alt (.go 462 .stop) (.alt (.go 402 .stop) .nil)))) (.alt (.go 39 (.fork (.alt (.go 487 .stop) (.alt (.go 462 .stop) .nil)))) (.alt (.go 39 (.fork (.alt (.go 377 .stop) (.alt (.go 437 .stop) .nil)))) .nil)))))) [4, 5, 7, 9, 256, 257, 258, 656, 658, 666, 676, 679, 754, 756, 765, 773, 775, 777, 792, 800, 842, 905, 906, 916, 945, 956, 1008, 1009, 1010, 1011, 1012, 1031, 1032, 1036, 1049, 1056, 1157, 1165, 1178, 1575, 1577, 1585, 1595, 1598, 1673, 1675, 1684, 1692, 1694, 1696, 1711, 1719, 1761, 1824, 1825, 1835, 1864, 1875, 1927, 1928, 1929, 1930, 1992, 1993, 1994, 1995, 2010, 2028, 2062, 2063, 2064, 2065, 2066, 2067, 2070, 2071, 2073, 2074, 2077, 2078, 2079, 2080, 2081, 2084, 2085, 2088, 2091, 2092, 2095, 2098, 2099, 2101, 2102, 2103, 2104, 2105, 2107, 2109, 2356, 2357, 2358, 2751, 2753, 2761, 2771, 2774, 2849, 2851, 2860, 2868, 2870, 2872, 2887, 2895, 2937, 3000, 3001, 3011, 3040, 3051, 3103, 3104, 3105, 3106, 3487, 3489, 3497, 3507, 3510, 3585, 3587, 3596, 3604, 3606, 3608, 3623, 3631, 3673, 3736, 3737, 3747, 3776, 3787, 3839, 3840, 3841, 3842, 3843, 3880, 3887, 3988, 3996, 4029, 4030, 4031, 4065, 4066, 4072, 4073, 4077, 4091, 4098, 4221, 4229, 4242, 4264, 4268, 4274, 4275, 4440, 4442, 4450, 4462, 4471, 4472, 4516, 4521, 4522, 4523, 4524, 4534] s9 = some (List.replicate 6 s10) := by kernel_rfl
end Go.Proofs.YthmpfhdnekpabaaGreatDoor.St

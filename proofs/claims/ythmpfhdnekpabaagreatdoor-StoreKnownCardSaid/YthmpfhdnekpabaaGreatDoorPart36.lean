/- The texts St23 of StoreKnown, joined by program (tools/merge.py): walks of the functions that the law reaches, and plain facts; no condition. -/
import Derived.Test.YthmpfhdnekpabaaGreatDoorPart30
import Derived.Test.YthmpfhdnekpabaaGreatDoorPart10
import Derived.KernelRfl
set_option linter.unusedVariables false
set_option linter.unusedSimpArgs false

/-
  Pieces of a closed run, printed by a program; the kernel runs them.
-/
set_option linter.unusedVariables false
set_option linter.unusedSimpArgs false
set_option linter.constructorNameAsVariable false
namespace Go.Proofs.YthmpfhdnekpabaaGreatDoor.St
open Go Go.Proofs.YthmpfhdnekpabaaGreatDoor.Ev
set_option maxRecDepth 1000000
set_option maxHeartbeats 0
theorem p23 : pieceS noSum LK 5 (.go 37924 (.go 0 (.fork (.alt (.go 39 (.fork (.alt (.go 377 .stop) (.alt (.go 437 .stop) .nil)))) (.alt (.go 39 (.fork (.alt (.go 402 .stop) (.alt (.go 462 .stop) .nil)))) (.alt (.go 39 (.fork (.alt (.go 462 .stop) (.alt (.go 487 .stop) .nil)))) .nil)))))) [4, 5, 7, 9, 256, 257, 258, 656, 658, 666, 676, 679, 754, 756, 765, 773, 775, 777, 792, 800, 842, 905, 906, 916, 945, 956, 1008, 1009, 1010, 1011, 1012, 1031, 1032, 1036, 1049, 1056, 1157, 1165, 1575, 1577, 1585, 1595, 1598, 1673, 1675, 1684, 1692, 1694, 1696, 1711, 1719, 1761, 1824, 1825, 1835, 1864, 1875, 1927, 1928, 1929, 1930, 1992, 1993, 1994, 1995, 2010, 2028, 2062, 2063, 2064, 2065, 2066, 2067, 2070, 2071, 2073, 2074, 2077, 2078, 2079, 2080, 2081, 2084, 2085, 2088, 2091, 2092, 2095, 2098, 2099, 2101, 2102, 2103, 2104, 7488, 9049, 9067, 9333, 9336, 9337, 9338, 9349, 9601, 9602, 9603, 9768, 9770, 9778, 9790, 9799, 9800, 9844, 9849, 9850, 9851, 9852, 9862] s23 = some (List.replicate 6 s24) := by kernel_rfl
end Go.Proofs.YthmpfhdnekpabaaGreatDoor.St

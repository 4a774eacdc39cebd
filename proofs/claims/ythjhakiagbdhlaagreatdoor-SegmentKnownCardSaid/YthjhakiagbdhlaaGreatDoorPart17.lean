/- The texts Sk4 of SegmentKnown, joined by program (tools/merge.py): walks of the functions that the law reaches, and plain facts; no condition. -/
import Derived.Test.YthjhakiagbdhlaaGreatDoorPart09
import Derived.Test.YthjhakiagbdhlaaGreatDoorPart16
import Derived.Test.YthjhakiagbdhlaaGreatDoorPart11
import Derived.KernelRfl
set_option linter.unusedVariables false
set_option linter.unusedSimpArgs false

/-
  Pieces of a closed run, printed by a program; the kernel runs them.
-/
set_option linter.unusedVariables false
set_option linter.unusedSimpArgs false
set_option linter.constructorNameAsVariable false
namespace Go.Proofs.YthjhakiagbdhlaaGreatDoor.Sk
open Go Go.Proofs.YthjhakiagbdhlaaGreatDoor.Ev
set_option maxRecDepth 1000000
set_option maxHeartbeats 0
theorem p12 : pieceS foldSum LK 8 (.go 1048 (.go 0 (.fork (.alt (.go 333 .stop) (.alt (.go 308 .stop) .nil))))) [3, 4, 7, 1589, 1590, 1591, 1592, 1593, 1594, 1595, 1596, 1613, 1614, 1615, 1616, 1617, 1618, 1619, 1690, 1691, 1692, 1695, 1698, 1699, 1751, 1753, 1755, 1757, 1759, 1760, 1763, 1769, 1770, 1772, 1774, 1775, 1776, 1784] s12 = some (List.replicate 2 s13) := by kernel_rfl
theorem p13 : piece LK 8 30003 [3, 4, 7, 1589, 1590, 1591, 1592, 1593, 1594, 1595, 1613, 1692, 1695, 1699, 1753, 1757, 1759, 1769, 1772, 1774, 1793, 1806, 1808, 1810, 1829, 1831, 1833, 1835, 2243, 2244, 2245, 2247] s13 = some s14 := by kernel_rfl
theorem p14 : piece LK 8 30000 [3, 4, 7, 1589, 1590, 1591, 1592, 1593, 1594, 1595, 1613, 1692, 1695, 1699, 1753, 1757, 1759, 1769, 1772, 1774, 1793, 1806, 1808, 1810, 1829, 1831, 1833, 1835, 2243, 2244, 2273, 2278, 2283, 2288, 2293, 2298, 2303, 2308, 2310, 2311, 2313, 2314, 2319, 2330, 2334, 2336, 2338, 2346, 2356, 2359, 2464, 2465, 2466, 2467, 2468, 2469, 2475, 2487, 2489, 2491, 2510, 2518, 2560, 2622, 2623, 2638, 2639, 2642, 2647, 2650, 2651, 2652, 2654, 2655, 2656] s14 = some s15 := by kernel_rfl
end Go.Proofs.YthjhakiagbdhlaaGreatDoor.Sk

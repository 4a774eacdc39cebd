/- The texts St2 of StoreKnown, joined by program (tools/merge.py): walks of the functions that the law reaches, and plain facts; no condition. -/
import Derived.Test.YthmpfhdnekpabaaGreatDoorPart09
import Derived.Test.YthmpfhdnekpabaaGreatDoorPart10
import Derived.KernelRfl
set_option linter.unusedVariables false
set_option linter.unusedSimpArgs false

/-
  Pieces of a closed run, printed by a program; the kernel runs them.
-/
set_option linter.unusedVariables false
set_option linter.unusedSimpArgs false
set_option linter.constructorNameAsVariable false
namespace Go.Proofs.YthmpfhdnekpabaaGreatDoor.St
open Go Go.Proofs.YthmpfhdnekpabaaGreatDoor.Ev
set_option maxRecDepth 1000000
set_option maxHeartbeats 0
theorem p2 : piece LK 5 45005 [4, 5, 7, 9, 256, 257, 258, 656, 658, 666, 676, 679, 754, 756, 765, 773, 775, 777, 792, 800, 842, 905, 906, 916, 945, 956, 1008, 1009, 1010, 1011, 1012, 1031, 1032, 1036, 1049, 1056, 1157, 1165, 1178, 1195, 1197, 1198, 1199, 1200, 1201, 1202, 1213, 1246, 1249, 1252, 1260, 1263, 1265, 1282, 1284, 1286, 1288, 1505, 1506, 1529, 1534, 1539, 1544, 1549, 1551, 1552, 1554, 1555, 1560, 1571, 1575, 1577, 1585, 1595, 1598, 1673, 1674, 1675, 1676, 1677, 1678, 1684, 1692, 1694, 1696, 1711, 1719, 1761, 1823, 1824, 1825, 1826, 1828, 1829, 1834, 1835, 1838, 1839, 1840, 1842, 1843, 1844, 1845] s2 = some s3 := by kernel_rfl
end Go.Proofs.YthmpfhdnekpabaaGreatDoor.St

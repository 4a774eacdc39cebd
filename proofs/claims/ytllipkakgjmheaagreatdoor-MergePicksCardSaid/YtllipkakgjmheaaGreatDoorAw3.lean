/-
  Pieces of a closed run, printed by a program; the kernel runs them.
-/
import Derived.Test.YtllipkakgjmheaaGreatDoorAwS0
import Derived.KernelRfl
set_option linter.unusedVariables false
set_option linter.unusedSimpArgs false
set_option linter.constructorNameAsVariable false
namespace Go.Proofs.YtllipkakgjmheaaGreatDoor.Aw
open Go Go.Proofs.YtllipkakgjmheaaGreatDoor.Ev
set_option maxRecDepth 1000000
set_option maxHeartbeats 0
theorem p6 : piece LK 1 20000 [0, 1, 2, 4, 5, 571, 573, 581, 591, 594, 710, 714, 723, 735, 737, 739, 758, 766, 808, 890, 898, 940, 1003, 1004, 1018, 1051, 1065, 1138, 1139, 1141, 1145, 1146, 1147, 1149, 1150, 1151, 1152, 1164, 1200, 1211, 1214, 1246, 1249, 1252, 1260, 1263, 1265, 1284, 1297, 1299, 1301, 1303, 1632, 1633, 1656, 1661, 1666, 1671, 1676, 1678, 1679, 1681, 1682, 1687, 1701, 1705, 1707, 1708, 1709, 1711, 1712, 1715, 1718, 1721, 1724, 1725, 1728, 1729, 1730, 1757, 1758, 1759, 1760, 1775, 1788, 1790, 1791] s6 = some s7 := by kernel_rfl
theorem p7 : piece LK 1 20001 [0, 1, 2, 4, 5, 571, 573, 581, 591, 594, 710, 714, 723, 735, 737, 739, 758, 766, 808, 890, 898, 940, 1003, 1004, 1018, 1051, 1065, 1138, 1139, 1141, 1145, 1146, 1147, 1149, 1150, 1151, 1152, 1164, 1200, 1211, 1214, 1246, 1249, 1252, 1260, 1263, 1265, 1284, 1297, 1299, 1301, 1303, 1632, 1633, 1656, 1661, 1666, 1671, 1676, 1678, 1679, 1681, 1682, 1687, 1701, 1705, 1707, 1715, 1725, 1728, 1844, 1847, 1848, 1849, 1850, 1851, 1857, 1869, 1871, 1873, 1892, 1900, 1942, 2004, 2005, 2020, 2021, 2024, 2029, 2032, 2033, 2034, 2045, 2056, 2067] s7 = some s8 := by kernel_rfl
end Go.Proofs.YtllipkakgjmheaaGreatDoor.Aw

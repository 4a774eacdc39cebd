/-
  Pieces of a closed run, printed by a program; the kernel runs them.
-/
import Derived.Test.YtllipkakgjmheaaGreatDoorAwS0
import Derived.KernelRfl
set_option linter.unusedVariables false
set_option linter.unusedSimpArgs false
set_option linter.constructorNameAsVariable false
namespace Go.Proofs.YtllipkakgjmheaaGreatDoor.Aw
open Go Go.Proofs.YtllipkakgjmheaaGreatDoor.Ev
set_option maxRecDepth 1000000
set_option maxHeartbeats 0
theorem p4 : pieceS noSum LK 1 (.go 16719 (.go 0 (.fork (.alt (.go 308 .stop) (.alt (.go 333 .stop) .nil))))) [0, 1, 2, 4, 5, 571, 573, 581, 591, 594, 710, 714, 723, 735, 737, 739, 758, 766, 808, 890, 898, 940, 1003, 1004, 1018, 1051, 1065, 1138, 1139, 1141, 1145, 1146, 1147, 1149, 1150, 1151, 1152, 1153, 1164, 1165, 1166, 1167, 1200, 1211, 1212, 1214, 1217, 1244, 1245, 1246, 1249, 1251, 1252, 1253, 1256, 1260, 1261, 1263, 1265, 1266, 1267, 1275] s4 = some (List.replicate 2 s5) := by kernel_rfl
theorem p5 : piece LK 1 20000 [0, 1, 2, 4, 5, 571, 573, 581, 591, 594, 710, 714, 723, 735, 737, 739, 758, 766, 808, 890, 898, 940, 1003, 1004, 1018, 1051, 1065, 1138, 1139, 1141, 1145, 1146, 1147, 1149, 1150, 1151, 1152, 1164, 1200, 1211, 1214, 1246, 1249, 1252, 1260, 1263, 1265, 1284, 1297, 1299, 1301, 1303, 1304, 1309, 1310, 1311, 1312, 1314, 1326, 1327, 1379, 1380, 1381, 1507, 1530, 1590, 1592, 1593, 1594, 1595, 1596, 1600, 1616, 1620, 1626, 1627, 1628, 1630] s5 = some s6 := by kernel_rfl
end Go.Proofs.YtllipkakgjmheaaGreatDoor.Aw

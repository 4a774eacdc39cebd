/- The texts Sk2 of SegmentKnown, joined by program (tools/merge.py): walks of the functions that the law reaches, and plain facts; no condition. -/
import Derived.Test.YthjhakiagbdhlaaGreatDoorPart09
import Derived.Test.YthjhakiagbdhlaaGreatDoorPart11
import Derived.KernelRfl
set_option linter.unusedVariables false
set_option linter.unusedSimpArgs false

/-
  Pieces of a closed run, printed by a program; the kernel runs them.
-/
set_option linter.unusedVariables false
set_option linter.unusedSimpArgs false
set_option linter.constructorNameAsVariable false
namespace Go.Proofs.YthjhakiagbdhlaaGreatDoor.Sk
open Go Go.Proofs.YthjhakiagbdhlaaGreatDoor.Ev
set_option maxRecDepth 1000000
set_option maxHeartbeats 0
theorem p6 : piece LK 8 30000 [3, 4, 7, 9, 10, 11, 12, 13, 14, 15, 33, 112, 115, 119, 173, 177, 179, 189, 192, 194, 213, 226, 228, 230, 249, 251, 253, 255, 663, 664, 693, 698, 703, 708, 713, 718, 723, 728, 730, 731, 733, 734, 739, 750, 754, 756, 758, 766, 776, 779, 884, 885, 886, 887, 888, 889, 895, 907, 909, 911, 930, 938, 980, 1042, 1043, 1058, 1059, 1062, 1067, 1070, 1071, 1072, 1074, 1075, 1076] s6 = some s7 := by kernel_rfl
theorem p7 : piece LK 8 30000 [3, 4, 7, 754, 756, 758, 766, 776, 779, 884, 886, 895, 907, 909, 911, 930, 938, 980, 1062, 1070, 1112, 1175, 1186, 1197, 1205, 1207, 1209, 1224, 1232, 1274, 1337, 1338, 1348, 1377, 1388, 1440, 1473, 1474, 1475, 1486, 1497] s7 = some s8 := by kernel_rfl
theorem p8 : pieceS foldSum LK 8 (.go 12237 (.sum .stop)) [3, 4, 7, 1589, 1590, 1591, 1592, 1593, 1594, 1595, 1596, 1613, 1614, 1615, 1616, 1617, 1618, 1619, 1620, 1621, 1636, 1637, 1638, 1639, 1640, 1644, 1645, 1646, 1647, 1648, 1650, 1651, 1665, 1666, 1667] s8 = some (List.replicate 1 s9) := by kernel_rfl
end Go.Proofs.YthjhakiagbdhlaaGreatDoor.Sk

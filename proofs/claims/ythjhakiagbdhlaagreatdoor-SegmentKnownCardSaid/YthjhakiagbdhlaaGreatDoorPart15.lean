/- The texts Sk3 of SegmentKnown, joined by program (tools/merge.py): walks of the functions that the law reaches, and plain facts; no condition. -/
import Derived.Test.YthjhakiagbdhlaaGreatDoorPart09
import Derived.Test.YthjhakiagbdhlaaGreatDoorPart11
import Derived.KernelRfl
set_option linter.unusedVariables false
set_option linter.unusedSimpArgs false

/-
  Pieces of a closed run, printed by a program; the kernel runs them.
-/
set_option linter.unusedVariables false
set_option linter.unusedSimpArgs false
set_option linter.constructorNameAsVariable false
namespace Go.Proofs.YthjhakiagbdhlaaGreatDoor.Sk
open Go Go.Proofs.YthjhakiagbdhlaaGreatDoor.Ev
set_option maxRecDepth 1000000
set_option maxHeartbeats 0
theorem p9 : pieceS foldSum LK 8 (.go 59 (.sum .stop)) [3, 4, 7, 1589, 1590, 1591, 1592, 1593, 1594, 1595, 1596, 1613, 1614, 1615, 1616, 1617, 1618, 1619, 1620, 1621, 1636, 1637, 1638, 1639, 1640, 1644, 1645, 1646, 1647, 1648, 1650, 1651, 1665, 1668, 1669, 1670, 1671] s9 = some (List.replicate 1 s10) := by kernel_rfl
theorem p10 : pieceS foldSum LK 8 (.go 4245 (.sum .stop)) [3, 4, 7, 1589, 1590, 1591, 1592, 1593, 1594, 1595, 1596, 1613, 1614, 1615, 1616, 1617, 1618, 1619, 1690, 1691, 1692, 1695, 1698, 1699, 1700, 1703, 1706, 1721, 1735, 1736, 1737] s10 = some (List.replicate 1 s11) := by kernel_rfl
theorem p11 : pieceS foldSum LK 8 (.go 59 (.sum .stop)) [3, 4, 7, 1589, 1590, 1591, 1592, 1593, 1594, 1595, 1596, 1613, 1614, 1615, 1616, 1617, 1618, 1619, 1690, 1691, 1692, 1695, 1698, 1699, 1700, 1703, 1706, 1721, 1735, 1738, 1739, 1740, 1741] s11 = some (List.replicate 1 s12) := by kernel_rfl
end Go.Proofs.YthjhakiagbdhlaaGreatDoor.Sk

/- The texts St19 of StoreKnown, joined by program (tools/merge.py): walks of the functions that the law reaches, and plain facts; no condition. -/
import Derived.Test.YthmpfhdnekpabaaGreatDoorPart30
import Derived.Test.YthmpfhdnekpabaaGreatDoorPart10
import Derived.KernelRfl
set_option linter.unusedVariables false
set_option linter.unusedSimpArgs false

/-
  Pieces of a closed run, printed by a program; the kernel runs them.
-/
set_option linter.unusedVariables false
set_option linter.unusedSimpArgs false
set_option linter.constructorNameAsVariable false
namespace Go.Proofs.YthmpfhdnekpabaaGreatDoor.St
open Go Go.Proofs.YthmpfhdnekpabaaGreatDoor.Ev
set_option maxRecDepth 1000000
set_option maxHeartbeats 0
theorem p19 : piece LK 5 45001 [4, 5, 7, 9, 256, 257, 258, 656, 658, 666, 676, 679, 754, 756, 765, 773, 775, 777, 792, 800, 842, 905, 906, 916, 945, 956, 1008, 1009, 1010, 1011, 1012, 1031, 1032, 1036, 1049, 1056, 1157, 1165, 1178, 1575, 1577, 1585, 1595, 1598, 1673, 1675, 1684, 1692, 1694, 1696, 1711, 1719, 1761, 1824, 1825, 1835, 1864, 1875, 1927, 1928, 1929, 1930, 1992, 1993, 1994, 1995, 2010, 2028, 2062, 2063, 2064, 2065, 2066, 2067, 2070, 2071, 2073, 2074, 2077, 2078, 2079, 2080, 2081, 2084, 2085, 2088, 2091, 2092, 2095, 2098, 2099, 2101, 2102, 2103, 2104, 7488, 7489, 7490, 7655, 7657, 7665, 7677, 7686, 7687, 7731, 7736, 7737, 7738, 7747, 7753, 7821, 7828, 7829, 7834, 7836, 7837, 7846, 7847, 7848, 7849, 7857, 7880, 7885, 7890, 7895, 7900, 7902, 7903, 7905, 7906, 7911, 7922, 7926, 7928, 7936, 7946, 7949, 8024, 8025, 8026, 8027, 8028, 8029, 8035, 8043, 8045, 8047, 8062, 8070, 8112, 8174, 8175, 8176, 8177, 8179, 8180, 8185, 8186, 8189, 8215, 8226, 8230, 8231, 8232, 8233, 8235, 8237, 8239, 8242, 8243, 8244, 8245, 8246, 8248, 8249, 8250, 8251, 8252, 8253, 8254, 8255, 8256, 8257, 8258, 8259] s19 = some s20 := by kernel_rfl
end Go.Proofs.YthmpfhdnekpabaaGreatDoor.St

/- The texts St20 of StoreKnown, joined by program (tools/merge.py): walks of the functions that the law reaches, and plain facts; no condition. -/
import Derived.Test.YthmpfhdnekpabaaGreatDoorPart30
import Derived.Test.YthmpfhdnekpabaaGreatDoorPart10
import Derived.KernelRfl
set_option linter.unusedVariables false
set_option linter.unusedSimpArgs false

/-
  Pieces of a closed run, printed by a program; the kernel runs them.
-/
set_option linter.unusedVariables false
set_option linter.unusedSimpArgs false
set_option linter.constructorNameAsVariable false
namespace Go.Proofs.YthmpfhdnekpabaaGreatDoor.St
open Go Go.Proofs.YthmpfhdnekpabaaGreatDoor.Ev
set_option maxRecDepth 1000000
set_option maxHeartbeats 0
theorem p20 : piece LK 5 45001 [4, 5, 7, 9, 256, 257, 258, 656, 658, 666, 676, 679, 754, 756, 765, 773, 775, 777, 792, 800, 842, 905, 906, 916, 945, 956, 1008, 1009, 1010, 1011, 1012, 1031, 1032, 1036, 1049, 1056, 1157, 1165, 1178, 1575, 1577, 1585, 1595, 1598, 1673, 1675, 1684, 1692, 1694, 1696, 1711, 1719, 1761, 1824, 1825, 1835, 1864, 1875, 1927, 1928, 1929, 1930, 1992, 1993, 1994, 1995, 2010, 2028, 2062, 2063, 2064, 2065, 2066, 2067, 2070, 2071, 2073, 2074, 2077, 2078, 2079, 2080, 2081, 2084, 2085, 2088, 2091, 2092, 2095, 2098, 2099, 2101, 2102, 2103, 2104, 7488, 7489, 7490, 7655, 7657, 7665, 7677, 7686, 7687, 7731, 7736, 7737, 7738, 7747, 7753, 7821, 7828, 7829, 7834, 7836, 7837, 7846, 7847, 7848, 7849, 7926, 7928, 7936, 7946, 7949, 8024, 8026, 8035, 8043, 8045, 8047, 8062, 8070, 8112, 8175, 8176, 8186, 8215, 8226, 8278, 8279, 8301, 8302, 8303, 8304, 8315, 8348, 8351, 8354, 8362, 8365, 8367, 8384, 8386, 8388, 8390, 8607, 8608, 8631, 8636, 8641, 8646, 8651, 8653, 8654, 8656, 8657, 8662, 8673, 8677, 8679, 8687, 8697, 8700, 8775, 8776, 8777, 8778, 8779, 8780, 8786, 8794, 8796, 8798, 8813, 8821, 8863, 8925, 8926, 8927, 8928, 8930, 8931, 8936, 8937, 8940, 8941, 8942, 8944, 8945] s20 = some s21 := by kernel_rfl
end Go.Proofs.YthmpfhdnekpabaaGreatDoor.St

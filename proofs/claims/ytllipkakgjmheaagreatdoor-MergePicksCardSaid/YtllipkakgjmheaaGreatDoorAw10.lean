/-
  Pieces of a closed run, printed by a program; the kernel runs them.
-/
import Derived.Test.YtllipkakgjmheaaGreatDoorAwS1
import Derived.KernelRfl
set_option linter.unusedVariables false
set_option linter.unusedSimpArgs false
set_option linter.constructorNameAsVariable false
namespace Go.Proofs.YtllipkakgjmheaaGreatDoor.Aw
open Go Go.Proofs.YtllipkakgjmheaaGreatDoor.Ev
set_option maxRecDepth 1000000
set_option maxHeartbeats 0
theorem p20 : piece LK 1 20004 [0, 1, 2, 4, 5, 571, 573, 581, 591, 594, 710, 714, 723, 735, 737, 739, 758, 766, 808, 890, 898, 940, 1003, 1004, 1018, 1051, 1065, 1138, 1139, 1705, 1707, 1715, 1725, 1728, 1844, 1848, 1857, 1869, 1871, 1873, 1892, 1900, 1942, 2024, 2032, 2074, 2137, 2138, 2152, 2185, 2199, 2272, 2273, 2274, 2275, 2276, 3175, 3177, 3185, 3195, 3198, 3355, 3361, 3370, 3386, 3388, 3390, 3413, 3421, 3463, 3549, 3557, 3599, 3685, 3693, 3735, 3798, 3799, 3817, 3854, 3870, 3962, 3963, 3965, 3966, 3968, 3969, 4714, 4716, 4724, 4734, 4737, 4894, 4900, 4909, 4925, 4927, 4929, 4952, 4960, 5002, 5088, 5096, 5138, 5224, 5232, 5274, 5337, 5338, 5356, 5393, 5409, 5501, 5503] s20 = some s21 := by kernel_rfl
theorem p21 : piece LK 1 2570 [] s21 = some s22 := by kernel_rfl
end Go.Proofs.YtllipkakgjmheaaGreatDoor.Aw

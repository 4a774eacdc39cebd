/-
  Pieces of a closed run, printed by a program; the kernel runs them.
-/
import Derived.Test.YtllipkakgjmheaaGreatDoorAwS1
import Derived.KernelRfl
set_option linter.unusedVariables false
set_option linter.unusedSimpArgs false
set_option linter.constructorNameAsVariable false
namespace Go.Proofs.YtllipkakgjmheaaGreatDoor.Aw
open Go Go.Proofs.YtllipkakgjmheaaGreatDoor.Ev
set_option maxRecDepth 1000000
set_option maxHeartbeats 0
theorem p14 : piece LK 1 20002 [0, 1, 2, 4, 5, 571, 573, 581, 591, 594, 710, 714, 723, 735, 737, 739, 758, 766, 808, 890, 898, 940, 1003, 1004, 1018, 1051, 1065, 1138, 1139, 1705, 1707, 1715, 1725, 1728, 1844, 1848, 1857, 1869, 1871, 1873, 1892, 1900, 1942, 2024, 2032, 2074, 2137, 2138, 2152, 2185, 2199, 2272, 2273, 2274, 2275, 2276, 3175, 3177, 3185, 3195, 3198, 3355, 3361, 3370, 3386, 3388, 3390, 3413, 3421, 3463, 3549, 3557, 3599, 3685, 3693, 3735, 3798, 3799, 3817, 3854, 3870, 3962, 3963, 3965, 3966] s14 = some s15 := by kernel_rfl
theorem p15 : pieceS noSum LK 1 (.go 5753 (.go 0 (.fork (.alt (.go 39 (.fork (.alt (.go 377 .stop) (.alt (.go 437 .stop) .nil)))) (.alt (.go 39 (.fork (.alt (.go 402 .stop) (.alt (.go 462 .stop) .nil)))) (.alt (.go 39 (.fork (.alt (.go 462 .stop) (.alt (.go 487 .stop) .nil)))) .nil)))))) [0, 1, 2, 4, 5, 571, 573, 581, 591, 594, 710, 714, 723, 735, 737, 739, 758, 766, 808, 890, 898, 940, 1003, 1004, 1018, 1051, 1065, 1138, 1139, 1705, 1707, 1715, 1725, 1728, 1844, 1848, 1857, 1869, 1871, 1873, 1892, 1900, 1942, 2024, 2032, 2074, 2137, 2138, 2152, 2185, 2199, 2272, 2273, 2274, 2275, 2276, 3175, 3177, 3185, 3195, 3198, 3355, 3361, 3370, 3386, 3388, 3390, 3413, 3421, 3463, 3549, 3557, 3599, 3685, 3693, 3735, 3798, 3799, 3817, 3854, 3870, 3962, 3963, 3965, 3966, 3968, 3969, 3971, 3975, 3979, 3980, 3981, 3983, 3984, 3985, 3986, 3987, 3999, 4000, 4001, 4002, 4035, 4046, 4047, 4049, 4084, 4095, 4096, 4098, 4101, 4128, 4129, 4130, 4133, 4135, 4136, 4137, 4140, 4144, 4145, 4147, 4149, 4150, 4151, 4161] s15 = some (List.replicate 6 s16) := by kernel_rfl
end Go.Proofs.YtllipkakgjmheaaGreatDoor.Aw

/-
  Pieces of a closed run, printed by a program; the kernel runs them.
-/
import Derived.Test.YtllipkakgjmheaaGreatDoorAwS0
import Derived.KernelRfl
set_option linter.unusedVariables false
set_option linter.unusedSimpArgs false
set_option linter.constructorNameAsVariable false
namespace Go.Proofs.YtllipkakgjmheaaGreatDoor.Aw
open Go Go.Proofs.YtllipkakgjmheaaGreatDoor.Ev
set_option maxRecDepth 1000000
set_option maxHeartbeats 0
theorem p2 : piece LK 1 20000 [0, 1, 2, 4, 5, 7, 11, 12, 13, 15, 16, 17, 18, 30, 66, 77, 80, 112, 115, 118, 126, 129, 131, 150, 163, 165, 167, 169, 498, 499, 522, 527, 532, 537, 542, 544, 545, 547, 548, 553, 567, 571, 573, 574, 575, 577, 578, 581, 584, 587, 590, 591, 594, 595, 596, 623, 624, 625, 626, 641, 654, 656, 657] s2 = some s3 := by kernel_rfl
theorem p3 : piece LK 1 20001 [0, 1, 2, 4, 5, 7, 11, 12, 13, 15, 16, 17, 18, 30, 66, 77, 80, 112, 115, 118, 126, 129, 131, 150, 163, 165, 167, 169, 498, 499, 522, 527, 532, 537, 542, 544, 545, 547, 548, 553, 567, 571, 573, 581, 591, 594, 710, 713, 714, 715, 716, 717, 723, 735, 737, 739, 758, 766, 808, 870, 871, 886, 887, 890, 895, 898, 899, 900, 911, 922, 933] s3 = some s4 := by kernel_rfl
end Go.Proofs.YtllipkakgjmheaaGreatDoor.Aw

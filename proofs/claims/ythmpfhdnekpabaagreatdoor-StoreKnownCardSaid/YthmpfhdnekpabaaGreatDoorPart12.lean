/- The texts St1 of StoreKnown, joined by program (tools/merge.py): walks of the functions that the law reaches, and plain facts; no condition. -/
import Derived.Test.YthmpfhdnekpabaaGreatDoorPart09
import Derived.Test.YthmpfhdnekpabaaGreatDoorPart10
import Derived.KernelRfl
set_option linter.unusedVariables false
set_option linter.unusedSimpArgs false

/-
  Pieces of a closed run, printed by a program; the kernel runs them.
-/
set_option linter.unusedVariables false
set_option linter.unusedSimpArgs false
set_option linter.constructorNameAsVariable false
namespace Go.Proofs.YthmpfhdnekpabaaGreatDoor.St
open Go Go.Proofs.YthmpfhdnekpabaaGreatDoor.Ev
set_option maxRecDepth 1000000
set_option maxHeartbeats 0
theorem p1 : pieceS noSum LK 5 (.go 39874 (.go 0 (.fork (.alt (.go 333 .stop) (.alt (.go 308 .stop) .nil))))) [4, 5, 7, 9, 256, 257, 258, 656, 658, 666, 676, 679, 754, 756, 765, 773, 775, 777, 792, 800, 842, 905, 906, 916, 945, 956, 1008, 1009, 1010, 1011, 1012, 1013, 1031, 1032, 1036, 1037, 1049, 1056, 1144, 1145, 1146, 1147, 1157, 1165, 1177, 1178, 1182, 1183, 1191] s1 = some (List.replicate 2 s2) := by kernel_rfl
end Go.Proofs.YthmpfhdnekpabaaGreatDoor.St

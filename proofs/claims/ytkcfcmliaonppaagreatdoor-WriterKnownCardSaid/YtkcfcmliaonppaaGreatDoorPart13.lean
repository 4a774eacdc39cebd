/- The texts Wr2 of WriterKnown, joined by program (tools/merge.py): walks of the functions that the law reaches, and plain facts; no condition. -/
import Derived.Test.YtkcfcmliaonppaaGreatDoorPart09
import Derived.Test.YtkcfcmliaonppaaGreatDoorPart10
import Derived.KernelRfl
set_option linter.unusedVariables false
set_option linter.unusedSimpArgs false

/-
  Pieces of a closed run, printed by a program; the kernel runs them.
-/
set_option linter.unusedVariables false
set_option linter.unusedSimpArgs false
set_option linter.constructorNameAsVariable false
namespace Go.Proofs.YtkcfcmliaonppaaGreatDoor.Wr
open Go Go.Proofs.YtkcfcmliaonppaaGreatDoor.Ev
set_option maxRecDepth 1000000
set_option maxHeartbeats 0
theorem p2 : piece LK 1 30001 [0, 2, 250, 251, 253, 284, 290, 321, 323, 325, 335, 336, 364, 366, 367, 368, 369, 370, 371, 372, 373, 385, 421, 432, 435, 467, 470, 473, 481, 484, 486, 505, 518, 520, 522, 524, 853, 854, 877, 882, 887, 892, 897, 899, 900, 902, 903, 908, 922, 926, 928, 936, 946, 949, 1065, 1068, 1069, 1070, 1071, 1072, 1078, 1090, 1092, 1094, 1113, 1121, 1163, 1225, 1226, 1241, 1242, 1245, 1250, 1253, 1291, 1293, 1294, 1295, 1296, 1299, 1300, 1301, 1302, 1303, 1304, 1305, 1306, 1307, 1308, 1309, 1310, 1311, 1312, 1322, 1332, 1333, 1334, 1335, 1336, 1337, 1338] s2 = some s3 := by kernel_rfl
end Go.Proofs.YtkcfcmliaonppaaGreatDoor.Wr

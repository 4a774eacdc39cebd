/- The texts Wr4 of WriterKnown, joined by program (tools/merge.py): walks of the functions that the law reaches, and plain facts; no condition. -/
import Derived.Test.YtkcfcmliaonppaaGreatDoorPart09
import Derived.Test.YtkcfcmliaonppaaGreatDoorPart10
import Derived.KernelRfl
set_option linter.unusedVariables false
set_option linter.unusedSimpArgs false

/-
  Pieces of a closed run, printed by a program; the kernel runs them.
-/
set_option linter.unusedVariables false
set_option linter.unusedSimpArgs false
set_option linter.constructorNameAsVariable false
namespace Go.Proofs.YtkcfcmliaonppaaGreatDoor.Wr
open Go Go.Proofs.YtkcfcmliaonppaaGreatDoor.Ev
set_option maxRecDepth 1000000
set_option maxHeartbeats 0
theorem p4 : pieceS noSum LK 1 (.go 25736 (.go 0 (.fork (.alt (.go 308 .stop) (.alt (.go 333 .stop) .nil))))) [0, 1774, 2022, 2023, 2025, 2056, 2062, 2093, 2095, 2097, 2107, 2108, 2136, 2138, 2139, 2140, 2141, 2142, 2143, 2144, 2145, 2146, 2157, 2158, 2159, 2160, 2193, 2204, 2205, 2207, 2210, 2237, 2238, 2239, 2242, 2244, 2245, 2246, 2249, 2253, 2254, 2256, 2258, 2259, 2260, 2268] s4 = some (List.replicate 2 s5) := by kernel_rfl
end Go.Proofs.YtkcfcmliaonppaaGreatDoor.Wr

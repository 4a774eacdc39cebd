/- The texts Wr5 of WriterKnown, joined by program (tools/merge.py): walks of the functions that the law reaches, and plain facts; no condition. -/
import Derived.Test.YtkcfcmliaonppaaGreatDoorPart09
import Derived.Test.YtkcfcmliaonppaaGreatDoorPart10
import Derived.KernelRfl
set_option linter.unusedVariables false
set_option linter.unusedSimpArgs false

/-
  Pieces of a closed run, printed by a program; the kernel runs them.
-/
set_option linter.unusedVariables false
set_option linter.unusedSimpArgs false
set_option linter.constructorNameAsVariable false
namespace Go.Proofs.YtkcfcmliaonppaaGreatDoor.Wr
open Go Go.Proofs.YtkcfcmliaonppaaGreatDoor.Ev
set_option maxRecDepth 1000000
set_option maxHeartbeats 0
theorem p5 : piece LK 1 30000 [0, 1774, 2022, 2023, 2025, 2056, 2062, 2093, 2095, 2097, 2107, 2108, 2136, 2138, 2139, 2140, 2141, 2142, 2143, 2144, 2145, 2157, 2193, 2204, 2207, 2239, 2242, 2245, 2253, 2256, 2258, 2277, 2290, 2292, 2294, 2296, 2625, 2626, 2649, 2654, 2659, 2664, 2669, 2671, 2672, 2674, 2675, 2676, 2677] s5 = some s6 := by kernel_rfl
end Go.Proofs.YtkcfcmliaonppaaGreatDoor.Wr

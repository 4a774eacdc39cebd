/- The texts Sk9 of SegmentKnown, joined by program (tools/merge.py): walks of the functions that the law reaches, and plain facts; no condition. -/
import Derived.Test.YthjhakiagbdhlaaGreatDoorPart21
import Derived.Test.YthjhakiagbdhlaaGreatDoorPart11
import Derived.KernelRfl
set_option linter.unusedVariables false
set_option linter.unusedSimpArgs false

/-
  Pieces of a closed run, printed by a program; the kernel runs them.
-/
set_option linter.unusedVariables false
set_option linter.unusedSimpArgs false
set_option linter.constructorNameAsVariable false
namespace Go.Proofs.YthjhakiagbdhlaaGreatDoor.Sk
open Go Go.Proofs.YthjhakiagbdhlaaGreatDoor.Ev
set_option maxRecDepth 1000000
set_option maxHeartbeats 0
theorem p27 : pieceP LK 8 1843 2 28 [3, 4, 7, 2334, 2336, 2338, 2346, 2356, 2359, 2464, 2466, 2475, 2487, 2489, 2491, 2510, 2518, 2560, 2642, 2650, 2692, 2755, 2766, 2777, 2785, 2787, 2789, 2804, 2812, 2854, 2917, 2918, 2928, 2957, 2968, 3020, 3022, 3025, 3026, 3027, 3029, 3030, 3260, 3262, 3264, 3272, 3284, 3293, 3306, 3307, 3351, 3360, 3365, 3374, 3375, 5632, 5633, 5634] s27 = some s28 := by kernel_rfl
theorem p28 : pieceP LK 8 1018 2 28 [3, 4, 7, 2334, 2336, 2338, 2346, 2356, 2359, 2464, 2466, 2475, 2487, 2489, 2491, 2510, 2518, 2560, 2642, 2650, 2692, 2755, 2766, 2777, 2785, 2787, 2789, 2804, 2812, 2854, 2917, 2918, 2928, 2957, 2968, 3020, 3022, 3025, 3026, 3027, 3029, 3030, 3260, 3262, 3264, 3272, 3284, 3293, 3306, 3307, 3351, 3360, 3365, 3374, 3375, 5632, 5633, 5659, 5660, 5661] s28 = some s29 := by kernel_rfl
theorem p29 : piece LK 8 30003 [3, 4, 7, 2334, 2336, 2338, 2346, 2356, 2359, 2464, 2466, 2475, 2487, 2489, 2491, 2510, 2518, 2560, 2642, 2650, 2692, 2755, 2766, 2777, 2785, 2787, 2789, 2804, 2812, 2854, 2917, 2918, 2928, 2957, 2968, 3020, 3022, 3025, 3026, 3027, 3029, 3030, 3260, 3262, 3264, 3272, 3284, 3293, 3306, 3307, 3351, 3360, 3365, 3374, 3375, 5632, 5633, 5659, 5660, 5681, 5682, 5683, 5684, 5699, 5728, 5733, 5738, 5743, 5748, 5753, 5758, 5763, 5765, 5766, 5768, 5769, 5774, 5785, 5789, 5791, 5793, 5801, 5811, 5814, 5919, 5920, 5921, 5922, 5923, 5924, 5930, 5942, 5944, 5946, 5961, 5962, 5965, 5970, 5973, 6011, 6013, 6014, 6015, 6016, 6019, 6020, 6021, 6022, 6023, 6024, 6025, 6026, 6027, 6028, 6029, 6030] s29 = some s30 := by kernel_rfl
end Go.Proofs.YthjhakiagbdhlaaGreatDoor.Sk

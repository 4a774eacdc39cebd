/-
  A closed run, whole, printed by a program; the kernel runs them.
-/
import Derived.Test.YtllipkakgjmheaaGreatDoorAw0
import Derived.Test.YtllipkakgjmheaaGreatDoorAw1
import Derived.Test.YtllipkakgjmheaaGreatDoorAw2
import Derived.Test.YtllipkakgjmheaaGreatDoorAw3
import Derived.Test.YtllipkakgjmheaaGreatDoorAw4
import Derived.Test.YtllipkakgjmheaaGreatDoorAw5
import Derived.Test.YtllipkakgjmheaaGreatDoorAw6
import Derived.Test.YtllipkakgjmheaaGreatDoorAw7
import Derived.Test.YtllipkakgjmheaaGreatDoorAw8
import Derived.Test.YtllipkakgjmheaaGreatDoorAw9
import Derived.Test.YtllipkakgjmheaaGreatDoorAw10
import Derived.KernelRfl
set_option linter.unusedVariables false
set_option linter.unusedSimpArgs false
set_option linter.constructorNameAsVariable false
namespace Go.Proofs.YtllipkakgjmheaaGreatDoor.Aw
open Go Go.Proofs.YtllipkakgjmheaaGreatDoor.Ev
set_option maxRecDepth 1000000
set_option maxHeartbeats 0
open Go.RowKit
theorem leads : Leads Tryz.prog 1 s0 s22 :=
  (leads_pieceS hTypes hMix noSum_ok hLK p0).trans <|
  (leads_piece hTypes hMix hLK p1).trans <|
  (leads_piece hTypes hMix hLK p2).trans <|
  (leads_piece hTypes hMix hLK p3).trans <|
  (leads_pieceS hTypes hMix noSum_ok hLK p4).trans <|
  (leads_piece hTypes hMix hLK p5).trans <|
  (leads_piece hTypes hMix hLK p6).trans <|
  (leads_piece hTypes hMix hLK p7).trans <|
  (leads_piece hTypes hMix hLK p8).trans <|
  (leads_pieceS hTypes hMix noSum_ok hLK p9).trans <|
  (leads_piece hTypes hMix hLK p10).trans <|
  (leads_piece hTypes hMix hLK p11).trans <|
  (leads_piece hTypes hMix hLK p12).trans <|
  (leads_piece hTypes hMix hLK p13).trans <|
  (leads_piece hTypes hMix hLK p14).trans <|
  (leads_pieceS hTypes hMix noSum_ok hLK p15).trans <|
  (leads_piece hTypes hMix hLK p16).trans <|
  (leads_piece hTypes hMix hLK p17).trans <|
  (leads_piece hTypes hMix hLK p18).trans <|
  (leads_piece hTypes hMix hLK p19).trans <|
  (leads_piece hTypes hMix hLK p20).trans <|
  leads_piece hTypes hMix hLK p21
theorem ans : answer Tryz.prog 9 s22 = some (.bool true) := by kernel_rfl
theorem ent : (K.AFrame.enter LK 9 [] false).isSome = true := by kernel_rfl
/-- The run: it answers true, in every world in which the listed variables hold what they hold. -/
theorem run {w : World} (hng : 1 ≤ w.heap.size) (hl : ∀ p ∈ ([(0, (by8 [0, 1, 56, 2, 57, 49, 28, 3, 61, 58, 42, 50, 38, 29, 17, 4, 62, 47, 59, 36, 45, 43, 51, 22, 53, 39, 33, 30, 24, 18, 12, 5, 63, 55, 48, 27, 60, 41, 37, 16, 46, 35, 44, 21, 52, 32, 23, 11, 54, 26, 40, 15, 34, 20, 31, 10, 25, 14, 19, 9, 13, 8, 7, 6]))] : List (Nat × List AV)), p.1 < 1 ∧ GlobIs w p.1 p.2) :
    Calls Tryz.prog 9 #[] w fun e w' => e = .returned (.bool true) ∧ Below w.heap.size w w' :=
  calls_closed hLK ent leads ans hng hl
end Go.Proofs.YtllipkakgjmheaaGreatDoor.Aw

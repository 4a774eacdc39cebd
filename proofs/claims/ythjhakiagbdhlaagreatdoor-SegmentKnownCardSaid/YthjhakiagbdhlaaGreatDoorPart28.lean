/- The texts SkRun of SegmentKnown, joined by program (tools/merge.py): walks of the functions that the law reaches, and plain facts; no condition. -/
import Derived.Test.YthjhakiagbdhlaaGreatDoorPart12
import Derived.Test.YthjhakiagbdhlaaGreatDoorPart13
import Derived.Test.YthjhakiagbdhlaaGreatDoorPart14
import Derived.Test.YthjhakiagbdhlaaGreatDoorPart15
import Derived.Test.YthjhakiagbdhlaaGreatDoorPart17
import Derived.Test.YthjhakiagbdhlaaGreatDoorPart18
import Derived.Test.YthjhakiagbdhlaaGreatDoorPart19
import Derived.Test.YthjhakiagbdhlaaGreatDoorPart20
import Derived.Test.YthjhakiagbdhlaaGreatDoorPart22
import Derived.Test.YthjhakiagbdhlaaGreatDoorPart23
import Derived.Test.YthjhakiagbdhlaaGreatDoorPart24
import Derived.Test.YthjhakiagbdhlaaGreatDoorPart25
import Derived.Test.YthjhakiagbdhlaaGreatDoorPart27
import Derived.KernelRfl
set_option linter.unusedVariables false
set_option linter.unusedSimpArgs false

/-
  A closed run, whole, printed by a program; the kernel runs them.
-/
set_option linter.unusedVariables false
set_option linter.unusedSimpArgs false
set_option linter.constructorNameAsVariable false
namespace Go.Proofs.YthjhakiagbdhlaaGreatDoor.Sk
open Go Go.Proofs.YthjhakiagbdhlaaGreatDoor.Ev
set_option maxRecDepth 1000000
set_option maxHeartbeats 0
open Go.RowKit
theorem leads : Leads Tryz.prog 8 s0 s37 :=
  (leads_pieceS hTypes hMix (foldSum_ok (by decide) (by decide)) hLK p0).trans <|
  (leads_pieceS hTypes hMix (foldSum_ok (by decide) (by decide)) hLK p1).trans <|
  (leads_pieceS hTypes hMix (foldSum_ok (by decide) (by decide)) hLK p2).trans <|
  (leads_pieceS hTypes hMix (foldSum_ok (by decide) (by decide)) hLK p3).trans <|
  (leads_pieceS hTypes hMix (foldSum_ok (by decide) (by decide)) hLK p4).trans <|
  (leads_piece hTypes hMix hLK p5).trans <|
  (leads_piece hTypes hMix hLK p6).trans <|
  (leads_piece hTypes hMix hLK p7).trans <|
  (leads_pieceS hTypes hMix (foldSum_ok (by decide) (by decide)) hLK p8).trans <|
  (leads_pieceS hTypes hMix (foldSum_ok (by decide) (by decide)) hLK p9).trans <|
  (leads_pieceS hTypes hMix (foldSum_ok (by decide) (by decide)) hLK p10).trans <|
  (leads_pieceS hTypes hMix (foldSum_ok (by decide) (by decide)) hLK p11).trans <|
  (leads_pieceS hTypes hMix (foldSum_ok (by decide) (by decide)) hLK p12).trans <|
  (leads_piece hTypes hMix hLK p13).trans <|
  (leads_piece hTypes hMix hLK p14).trans <|
  (leads_piece hTypes hMix hLK p15).trans <|
  (leads_pieceP hTypes hMix hLK p16).trans <|
  (leads_piece hTypes hMix hLK p17).trans <|
  (leads_piece hTypes hMix hLK p18).trans <|
  (leads_pieceS hTypes hMix (foldSum_ok (by decide) (by decide)) hLK p19).trans <|
  (leads_pieceS hTypes hMix (foldSum_ok (by decide) (by decide)) hLK p20).trans <|
  (leads_pieceS hTypes hMix (foldSum_ok (by decide) (by decide)) hLK p21).trans <|
  (leads_pieceS hTypes hMix (foldSum_ok (by decide) (by decide)) hLK p22).trans <|
  (leads_pieceS hTypes hMix (foldSum_ok (by decide) (by decide)) hLK p23).trans <|
  (leads_piece hTypes hMix hLK p24).trans <|
  (leads_piece hTypes hMix hLK p25).trans <|
  (leads_piece hTypes hMix hLK p26).trans <|
  (leads_pieceP hTypes hMix hLK p27).trans <|
  (leads_pieceP hTypes hMix hLK p28).trans <|
  (leads_piece hTypes hMix hLK p29).trans <|
  (leads_piece hTypes hMix hLK p30).trans <|
  (leads_pieceS hTypes hMix (foldSum_ok (by decide) (by decide)) hLK p31).trans <|
  (leads_piece hTypes hMix hLK p32).trans <|
  (leads_piece hTypes hMix hLK p33).trans <|
  (leads_piece hTypes hMix hLK p34).trans <|
  (leads_piece hTypes hMix hLK p35).trans <|
  leads_piece hTypes hMix hLK p36
theorem ans : answer Tryz.prog 3 s37 = some (.bool true) := by kernel_rfl
theorem ent : (K.AFrame.enter LK 3 [] false).isSome = true := by kernel_rfl
/-- The run: it answers true, in every world in which the listed variables hold what they hold. -/
theorem run {w : World} (hng : 8 ≤ w.heap.size) (hl : ∀ p ∈ ([(3, (by8 [240, 240, 240, 240, 240, 240, 240, 240, 240, 240, 240, 240, 240, 240, 240, 240, 240, 240, 240, 240, 240, 240, 240, 240, 240, 240, 240, 240, 240, 240, 240, 240, 240, 240, 240, 240, 240, 240, 240, 240, 240, 240, 240, 240, 240, 240, 240, 240, 240, 240, 240, 240, 240, 240, 240, 240, 240, 240, 240, 240, 240, 240, 240, 240, 240, 240, 240, 240, 240, 240, 240, 240, 240, 240, 240, 240, 240, 240, 240, 240, 240, 240, 240, 240, 240, 240, 240, 240, 240, 240, 240, 240, 240, 240, 240, 240, 240, 240, 240, 240, 240, 240, 240, 240, 240, 240, 240, 240, 240, 240, 240, 240, 240, 240, 240, 240, 240, 240, 240, 240, 240, 240, 240, 240, 240, 240, 240, 240, 241, 241, 241, 241, 241, 241, 241, 241, 241, 241, 241, 241, 241, 241, 241, 241, 241, 241, 241, 241, 241, 241, 241, 241, 241, 241, 241, 241, 241, 241, 241, 241, 241, 241, 241, 241, 241, 241, 241, 241, 241, 241, 241, 241, 241, 241, 241, 241, 241, 241, 241, 241, 241, 241, 241, 241, 241, 241, 241, 241, 241, 241, 241, 241, 241, 241, 2, 2, 2, 2, 2, 2, 2, 2, 2, 2, 2, 2, 2, 2, 2, 2, 2, 2, 2, 2, 2, 2, 2, 2, 2, 2, 2, 2, 2, 2, 19, 3, 3, 3, 3, 3, 3, 3, 3, 3, 3, 3, 3, 35, 3, 3, 52, 4, 4, 4, 68, 241, 241, 241, 241, 241, 241, 241, 241, 241, 241, 241])), (4, (by8 [128, 191, 160, 191, 128, 159, 144, 191, 128, 143, 0, 0, 0, 0, 0, 0, 0, 0, 0, 0, 0, 0, 0, 0, 0, 0, 0, 0, 0, 0, 0, 0])), (7, (by8 [0, 1, 56, 2, 57, 49, 28, 3, 61, 58, 42, 50, 38, 29, 17, 4, 62, 47, 59, 36, 45, 43, 51, 22, 53, 39, 33, 30, 24, 18, 12, 5, 63, 55, 48, 27, 60, 41, 37, 16, 46, 35, 44, 21, 52, 32, 23, 11, 54, 26, 40, 15, 34, 20, 31, 10, 25, 14, 19, 9, 13, 8, 7, 6]))] : List (Nat × List AV)), p.1 < 8 ∧ GlobIs w p.1 p.2) :
    Calls Tryz.prog 3 #[] w fun e w' => e = .returned (.bool true) ∧ Below w.heap.size w w' :=
  calls_closed hLK ent leads ans hng hl
end Go.Proofs.YthjhakiagbdhlaaGreatDoor.Sk

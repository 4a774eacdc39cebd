/- The texts WrRun of WriterKnown, joined by program (tools/merge.py): walks of the functions that the law reaches, and plain facts; no condition. -/
import Derived.Test.YtkcfcmliaonppaaGreatDoorPart11
import Derived.Test.YtkcfcmliaonppaaGreatDoorPart12
import Derived.Test.YtkcfcmliaonppaaGreatDoorPart13
import Derived.Test.YtkcfcmliaonppaaGreatDoorPart14
import Derived.Test.YtkcfcmliaonppaaGreatDoorPart15
import Derived.Test.YtkcfcmliaonppaaGreatDoorPart16
import Derived.Test.YtkcfcmliaonppaaGreatDoorPart17
import Derived.Test.YtkcfcmliaonppaaGreatDoorPart18
import Derived.Test.YtkcfcmliaonppaaGreatDoorPart19
import Derived.Test.YtkcfcmliaonppaaGreatDoorPart21
import Derived.Test.YtkcfcmliaonppaaGreatDoorPart22
import Derived.Test.YtkcfcmliaonppaaGreatDoorPart23
import Derived.Test.YtkcfcmliaonppaaGreatDoorPart24
import Derived.Test.YtkcfcmliaonppaaGreatDoorPart25
import Derived.Test.YtkcfcmliaonppaaGreatDoorPart26
import Derived.Test.YtkcfcmliaonppaaGreatDoorPart27
import Derived.KernelRfl
set_option linter.unusedVariables false
set_option linter.unusedSimpArgs false

/-
  A closed run, whole, printed by a program; the kernel runs them.
-/
set_option linter.unusedVariables false
set_option linter.unusedSimpArgs false
set_option linter.constructorNameAsVariable false
namespace Go.Proofs.YtkcfcmliaonppaaGreatDoor.Wr
open Go Go.Proofs.YtkcfcmliaonppaaGreatDoor.Ev
set_option maxRecDepth 1000000
set_option maxHeartbeats 0
open Go.RowKit
theorem leads : Leads Tryz.prog 1 s0 s16 :=
  (leads_pieceS hTypes hMix noSum_ok hLK p0).trans <|
  (leads_piece hTypes hMix hLK p1).trans <|
  (leads_piece hTypes hMix hLK p2).trans <|
  (leads_piece hTypes hMix hLK p3).trans <|
  (leads_pieceS hTypes hMix noSum_ok hLK p4).trans <|
  (leads_piece hTypes hMix hLK p5).trans <|
  (leads_piece hTypes hMix hLK p6).trans <|
  (leads_piece hTypes hMix hLK p7).trans <|
  (leads_piece hTypes hMix hLK p8).trans <|
  (leads_pieceS hTypes hMix noSum_ok hLK p9).trans <|
  (leads_piece hTypes hMix hLK p10).trans <|
  (leads_piece hTypes hMix hLK p11).trans <|
  (leads_piece hTypes hMix hLK p12).trans <|
  (leads_piece hTypes hMix hLK p13).trans <|
  (leads_pieceP hTypes hMix hLK p14).trans <|
  leads_piece hTypes hMix hLK p15
theorem ans : answer Tryz.prog 3 s16 = some (.bool true) := by kernel_rfl
theorem ent : (K.AFrame.enter LK 3 [] false).isSome = true := by kernel_rfl
/-- The run: it answers true, in every world in which the listed variables hold what they hold. -/
theorem run {w : World} (hng : 1 ≤ w.heap.size) (hl : ∀ p ∈ ([(0, (by8 [0, 1, 56, 2, 57, 49, 28, 3, 61, 58, 42, 50, 38, 29, 17, 4, 62, 47, 59, 36, 45, 43, 51, 22, 53, 39, 33, 30, 24, 18, 12, 5, 63, 55, 48, 27, 60, 41, 37, 16, 46, 35, 44, 21, 52, 32, 23, 11, 54, 26, 40, 15, 34, 20, 31, 10, 25, 14, 19, 9, 13, 8, 7, 6]))] : List (Nat × List AV)), p.1 < 1 ∧ GlobIs w p.1 p.2) :
    Calls Tryz.prog 3 #[] w fun e w' => e = .returned (.bool true) ∧ Below w.heap.size w w' :=
  calls_closed hLK ent leads ans hng hl
end Go.Proofs.YtkcfcmliaonppaaGreatDoor.Wr

/- The texts StRun of StoreKnown, joined by program (tools/merge.py): walks of the functions that the law reaches, and plain facts; no condition. -/
import Derived.Test.YthmpfhdnekpabaaGreatDoorPart11
import Derived.Test.YthmpfhdnekpabaaGreatDoorPart12
import Derived.Test.YthmpfhdnekpabaaGreatDoorPart13
import Derived.Test.YthmpfhdnekpabaaGreatDoorPart14
import Derived.Test.YthmpfhdnekpabaaGreatDoorPart15
import Derived.Test.YthmpfhdnekpabaaGreatDoorPart16
import Derived.Test.YthmpfhdnekpabaaGreatDoorPart17
import Derived.Test.YthmpfhdnekpabaaGreatDoorPart18
import Derived.Test.YthmpfhdnekpabaaGreatDoorPart19
import Derived.Test.YthmpfhdnekpabaaGreatDoorPart21
import Derived.Test.YthmpfhdnekpabaaGreatDoorPart22
import Derived.Test.YthmpfhdnekpabaaGreatDoorPart23
import Derived.Test.YthmpfhdnekpabaaGreatDoorPart24
import Derived.Test.YthmpfhdnekpabaaGreatDoorPart25
import Derived.Test.YthmpfhdnekpabaaGreatDoorPart26
import Derived.Test.YthmpfhdnekpabaaGreatDoorPart27
import Derived.Test.YthmpfhdnekpabaaGreatDoorPart28
import Derived.Test.YthmpfhdnekpabaaGreatDoorPart29
import Derived.Test.YthmpfhdnekpabaaGreatDoorPart31
import Derived.Test.YthmpfhdnekpabaaGreatDoorPart32
import Derived.Test.YthmpfhdnekpabaaGreatDoorPart33
import Derived.Test.YthmpfhdnekpabaaGreatDoorPart34
import Derived.Test.YthmpfhdnekpabaaGreatDoorPart35
import Derived.Test.YthmpfhdnekpabaaGreatDoorPart36
import Derived.Test.YthmpfhdnekpabaaGreatDoorPart37
import Derived.Test.YthmpfhdnekpabaaGreatDoorPart38
import Derived.Test.YthmpfhdnekpabaaGreatDoorPart39
import Derived.KernelRfl
set_option linter.unusedVariables false
set_option linter.unusedSimpArgs false

/-
  A closed run, whole, printed by a program; the kernel runs them.
-/
set_option linter.unusedVariables false
set_option linter.unusedSimpArgs false
set_option linter.constructorNameAsVariable false
namespace Go.Proofs.YthmpfhdnekpabaaGreatDoor.St
open Go Go.Proofs.YthmpfhdnekpabaaGreatDoor.Ev
set_option maxRecDepth 1000000
set_option maxHeartbeats 0
open Go.RowKit
theorem leads : Leads Tryz.prog 5 s0 s27 :=
  (leads_piece hTypes hMix hLK p0).trans <|
  (leads_pieceS hTypes hMix noSum_ok hLK p1).trans <|
  (leads_piece hTypes hMix hLK p2).trans <|
  (leads_piece hTypes hMix hLK p3).trans <|
  (leads_piece hTypes hMix hLK p4).trans <|
  (leads_piece hTypes hMix hLK p5).trans <|
  (leads_pieceS hTypes hMix noSum_ok hLK p6).trans <|
  (leads_pieceS hTypes hMix noSum_ok hLK p7).trans <|
  (leads_pieceS hTypes hMix noSum_ok hLK p8).trans <|
  (leads_pieceS hTypes hMix noSum_ok hLK p9).trans <|
  (leads_piece hTypes hMix hLK p10).trans <|
  (leads_piece hTypes hMix hLK p11).trans <|
  (leads_piece hTypes hMix hLK p12).trans <|
  (leads_piece hTypes hMix hLK p13).trans <|
  (leads_pieceS hTypes hMix noSum_ok hLK p14).trans <|
  (leads_pieceS hTypes hMix noSum_ok hLK p15).trans <|
  (leads_pieceS hTypes hMix noSum_ok hLK p16).trans <|
  (leads_pieceS hTypes hMix noSum_ok hLK p17).trans <|
  (leads_pieceS hTypes hMix noSum_ok hLK p18).trans <|
  (leads_piece hTypes hMix hLK p19).trans <|
  (leads_piece hTypes hMix hLK p20).trans <|
  (leads_pieceS hTypes hMix noSum_ok hLK p21).trans <|
  (leads_pieceP hTypes hMix hLK p22).trans <|
  (leads_pieceS hTypes hMix noSum_ok hLK p23).trans <|
  (leads_pieceS hTypes hMix noSum_ok hLK p24).trans <|
  (leads_pieceS hTypes hMix noSum_ok hLK p25).trans <|
  leads_piece hTypes hMix hLK p26
theorem ans : answer Tryz.prog 3 s27 = some (.bool true) := by kernel_rfl
theorem ent : (K.AFrame.enter LK 3 [] false).isSome = true := by kernel_rfl
/-- The run: it answers true, in every world in which the listed variables hold what they hold. -/
theorem run {w : World} (hng : 5 ≤ w.heap.size) (hl : ∀ p ∈ ([(4, (by8 [0, 1, 56, 2, 57, 49, 28, 3, 61, 58, 42, 50, 38, 29, 17, 4, 62, 47, 59, 36, 45, 43, 51, 22, 53, 39, 33, 30, 24, 18, 12, 5, 63, 55, 48, 27, 60, 41, 37, 16, 46, 35, 44, 21, 52, 32, 23, 11, 54, 26, 40, 15, 34, 20, 31, 10, 25, 14, 19, 9, 13, 8, 7, 6]))] : List (Nat × List AV)), p.1 < 5 ∧ GlobIs w p.1 p.2) :
    Calls Tryz.prog 3 #[] w fun e w' => e = .returned (.bool true) ∧ Below w.heap.size w w' :=
  calls_closed hLK ent leads ans hng hl
end Go.Proofs.YthmpfhdnekpabaaGreatDoor.St

/-
  A closed run, whole, printed by a program; the kernel runs them.
-/
import Derived.Test.YtllipkakgjmheaaGreatDoorMk0
import Derived.Test.YtllipkakgjmheaaGreatDoorMk1
import Derived.Test.YtllipkakgjmheaaGreatDoorMk2
import Derived.Test.YtllipkakgjmheaaGreatDoorMk3
import Derived.Test.YtllipkakgjmheaaGreatDoorMk4
import Derived.Test.YtllipkakgjmheaaGreatDoorMk5
import Derived.Test.YtllipkakgjmheaaGreatDoorMk6
import Derived.Test.YtllipkakgjmheaaGreatDoorMk7
import Derived.Test.YtllipkakgjmheaaGreatDoorMk8
import Derived.Test.YtllipkakgjmheaaGreatDoorMk9
import Derived.Test.YtllipkakgjmheaaGreatDoorMk10
import Derived.Test.YtllipkakgjmheaaGreatDoorMk11
import Derived.Test.YtllipkakgjmheaaGreatDoorMk12
import Derived.Test.YtllipkakgjmheaaGreatDoorMk13
import Derived.KernelRfl
set_option linter.unusedVariables false
set_option linter.unusedSimpArgs false
set_option linter.constructorNameAsVariable false
namespace Go.Proofs.YtllipkakgjmheaaGreatDoor.Mk
open Go Go.Proofs.YtllipkakgjmheaaGreatDoor.Ev
set_option maxRecDepth 1000000
set_option maxHeartbeats 0
open Go.RowKit
theorem leads : Leads Tryz.prog 1 s0 s41 :=
  (leads_pieceS hTypes hMix noSum_ok hLK p0).trans <|
  (leads_piece hTypes hMix hLK p1).trans <|
  (leads_piece hTypes hMix hLK p2).trans <|
  (leads_piece hTypes hMix hLK p3).trans <|
  (leads_pieceS hTypes hMix noSum_ok hLK p4).trans <|
  (leads_piece hTypes hMix hLK p5).trans <|
  (leads_piece hTypes hMix hLK p6).trans <|
  (leads_piece hTypes hMix hLK p7).trans <|
  (leads_piece hTypes hMix hLK p8).trans <|
  (leads_piece hTypes hMix hLK p9).trans <|
  (leads_pieceS hTypes hMix noSum_ok hLK p10).trans <|
  (leads_piece hTypes hMix hLK p11).trans <|
  (leads_piece hTypes hMix hLK p12).trans <|
  (leads_piece hTypes hMix hLK p13).trans <|
  (leads_piece hTypes hMix hLK p14).trans <|
  (leads_pieceS hTypes hMix noSum_ok hLK p15).trans <|
  (leads_piece hTypes hMix hLK p16).trans <|
  (leads_piece hTypes hMix hLK p17).trans <|
  (leads_piece hTypes hMix hLK p18).trans <|
  (leads_pieceS hTypes hMix noSum_ok hLK p19).trans <|
  (leads_piece hTypes hMix hLK p20).trans <|
  (leads_piece hTypes hMix hLK p21).trans <|
  (leads_piece hTypes hMix hLK p22).trans <|
  (leads_pieceS hTypes hMix noSum_ok hLK p23).trans <|
  (leads_piece hTypes hMix hLK p24).trans <|
  (leads_piece hTypes hMix hLK p25).trans <|
  (leads_piece hTypes hMix hLK p26).trans <|
  (leads_piece hTypes hMix hLK p27).trans <|
  (leads_pieceS hTypes hMix noSum_ok hLK p28).trans <|
  (leads_piece hTypes hMix hLK p29).trans <|
  (leads_piece hTypes hMix hLK p30).trans <|
  (leads_piece hTypes hMix hLK p31).trans <|
  (leads_piece hTypes hMix hLK p32).trans <|
  (leads_piece hTypes hMix hLK p33).trans <|
  (leads_pieceS hTypes hMix noSum_ok hLK p34).trans <|
  (leads_piece hTypes hMix hLK p35).trans <|
  (leads_piece hTypes hMix hLK p36).trans <|
  (leads_piece hTypes hMix hLK p37).trans <|
  (leads_piece hTypes hMix hLK p38).trans <|
  (leads_piece hTypes hMix hLK p39).trans <|
  leads_piece hTypes hMix hLK p40
theorem ans : answer Tryz.prog 4 s41 = some (.bool true) := by kernel_rfl
theorem ent : (K.AFrame.enter LK 4 [] false).isSome = true := by kernel_rfl
/-- The run: it answers true, in every world in which the listed variables hold what they hold. -/
theorem run {w : World} (hng : 1 ≤ w.heap.size) (hl : ∀ p ∈ ([(0, (by8 [0, 1, 56, 2, 57, 49, 28, 3, 61, 58, 42, 50, 38, 29, 17, 4, 62, 47, 59, 36, 45, 43, 51, 22, 53, 39, 33, 30, 24, 18, 12, 5, 63, 55, 48, 27, 60, 41, 37, 16, 46, 35, 44, 21, 52, 32, 23, 11, 54, 26, 40, 15, 34, 20, 31, 10, 25, 14, 19, 9, 13, 8, 7, 6]))] : List (Nat × List AV)), p.1 < 1 ∧ GlobIs w p.1 p.2) :
    Calls Tryz.prog 4 #[] w fun e w' => e = .returned (.bool true) ∧ Below w.heap.size w w' :=
  calls_closed hLK ent leads ans hng hl
end Go.Proofs.YtllipkakgjmheaaGreatDoor.Mk

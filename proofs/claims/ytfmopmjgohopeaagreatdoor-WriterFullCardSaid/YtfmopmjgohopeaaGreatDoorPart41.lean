/- The texts WfRun, EbTab, TabsLaid, Goes of WriterFull, joined by program (tools/merge.py): walks of the functions that the law reaches, and plain facts; no condition. -/
import Derived.Test.YtfmopmjgohopeaaGreatDoorPart13
import Derived.Test.YtfmopmjgohopeaaGreatDoorPart14
import Derived.Test.YtfmopmjgohopeaaGreatDoorPart15
import Derived.Test.YtfmopmjgohopeaaGreatDoorPart16
import Derived.Test.YtfmopmjgohopeaaGreatDoorPart17
import Derived.Test.YtfmopmjgohopeaaGreatDoorPart18
import Derived.Test.YtfmopmjgohopeaaGreatDoorPart19
import Derived.Test.YtfmopmjgohopeaaGreatDoorPart20
import Derived.Test.YtfmopmjgohopeaaGreatDoorPart21
import Derived.Test.YtfmopmjgohopeaaGreatDoorPart23
import Derived.Test.YtfmopmjgohopeaaGreatDoorPart24
import Derived.Test.YtfmopmjgohopeaaGreatDoorPart25
import Derived.Test.YtfmopmjgohopeaaGreatDoorPart26
import Derived.Test.YtfmopmjgohopeaaGreatDoorPart27
import Derived.Test.YtfmopmjgohopeaaGreatDoorPart28
import Derived.Test.YtfmopmjgohopeaaGreatDoorPart29
import Derived.Test.YtfmopmjgohopeaaGreatDoorPart30
import Derived.Test.YtfmopmjgohopeaaGreatDoorPart31
import Derived.Test.YtfmopmjgohopeaaGreatDoorPart33
import Derived.Test.YtfmopmjgohopeaaGreatDoorPart34
import Derived.Test.YtfmopmjgohopeaaGreatDoorPart35
import Derived.Test.YtfmopmjgohopeaaGreatDoorPart36
import Derived.Test.YtfmopmjgohopeaaGreatDoorPart37
import Derived.Test.YtfmopmjgohopeaaGreatDoorPart38
import Derived.Test.YtfmopmjgohopeaaGreatDoorPart39
import Derived.Test.YtfmopmjgohopeaaGreatDoorPart40
import Derived.KernelRfl
import Derived.Test.YtfmopmjgohopeaaGreatDoorRows
import Derived.Test.YtfmopmjgohopeaaGreatDoorPart08
import Derived.Test.YtfmopmjgohopeaaGreatDoorPart11
import Derived.Lib.LaidU8T
import Derived.PinnedBridge
import Derived.Test.YtfmopmjgohopeaaGreatDoorCards
import Derived.JoinedOf
set_option linter.unusedVariables false
set_option linter.unusedSimpArgs false

/-
  A closed run, whole, printed by a program; the kernel runs them.
-/
set_option linter.unusedVariables false
set_option linter.unusedSimpArgs false
set_option linter.constructorNameAsVariable false
namespace Go.Proofs.YtfmopmjgohopeaaGreatDoor.Wf
open Go Go.Proofs.YtfmopmjgohopeaaGreatDoor Go.Proofs.YtfmopmjgohopeaaGreatDoor.Ev
set_option maxRecDepth 1000000
set_option maxHeartbeats 0
open Go.RowKit
theorem leads : Leads Tryz.prog 8 s0 s26 :=
  (leads_pieceS hTypes hMix (told_ok (by decide) (by decide)) hLK p0).trans <|
  (leads_pieceS hTypes hMix (told_ok (by decide) (by decide)) hLK p1).trans <|
  (leads_pieceS hTypes hMix (told_ok (by decide) (by decide)) hLK p2).trans <|
  (leads_pieceS hTypes hMix (told_ok (by decide) (by decide)) hLK p3).trans <|
  (leads_pieceS hTypes hMix (told_ok (by decide) (by decide)) hLK p4).trans <|
  (leads_pieceS hTypes hMix (told_ok (by decide) (by decide)) hLK p5).trans <|
  (leads_pieceS hTypes hMix (told_ok (by decide) (by decide)) hLK p6).trans <|
  (leads_piece hTypes hMix hLK p7).trans <|
  (leads_piece hTypes hMix hLK p8).trans <|
  (leads_pieceS hTypes hMix (told_ok (by decide) (by decide)) hLK p9).trans <|
  (leads_pieceS hTypes hMix (told_ok (by decide) (by decide)) hLK p10).trans <|
  (leads_piece hTypes hMix hLK p11).trans <|
  (leads_piece hTypes hMix hLK p12).trans <|
  (leads_piece hTypes hMix hLK p13).trans <|
  (leads_piece hTypes hMix hLK p14).trans <|
  (leads_piece hTypes hMix hLK p15).trans <|
  (leads_piece hTypes hMix hLK p16).trans <|
  (leads_pieceS hTypes hMix (told_ok (by decide) (by decide)) hLK p17).trans <|
  (leads_piece hTypes hMix hLK p18).trans <|
  (leads_pieceS hTypes hMix (told_ok (by decide) (by decide)) hLK p19).trans <|
  (leads_pieceS hTypes hMix (told_ok (by decide) (by decide)) hLK p20).trans <|
  (leads_pieceS hTypes hMix (told_ok (by decide) (by decide)) hLK p21).trans <|
  (leads_pieceS hTypes hMix (told_ok (by decide) (by decide)) hLK p22).trans <|
  (leads_pieceS hTypes hMix (told_ok (by decide) (by decide)) hLK p23).trans <|
  (leads_pieceS hTypes hMix (told_ok (by decide) (by decide)) hLK p24).trans <|
  leads_piece hTypes hMix hLK p25
theorem ans : answer Tryz.prog 3 s26 = some (.bool true) := by kernel_rfl
theorem ent : (K.AFrame.enter LK 3 [] false).isSome = true := by kernel_rfl
/-- The run: it answers true, in every world in which the listed variables hold what they hold. -/
theorem run {w : World} (hng : 8 ≤ w.heap.size) (hl : ∀ p ∈ ([(3, (by8 [240, 240, 240, 240, 240, 240, 240, 240, 240, 240, 240, 240, 240, 240, 240, 240, 240, 240, 240, 240, 240, 240, 240, 240, 240, 240, 240, 240, 240, 240, 240, 240, 240, 240, 240, 240, 240, 240, 240, 240, 240, 240, 240, 240, 240, 240, 240, 240, 240, 240, 240, 240, 240, 240, 240, 240, 240, 240, 240, 240, 240, 240, 240, 240, 240, 240, 240, 240, 240, 240, 240, 240, 240, 240, 240, 240, 240, 240, 240, 240, 240, 240, 240, 240, 240, 240, 240, 240, 240, 240, 240, 240, 240, 240, 240, 240, 240, 240, 240, 240, 240, 240, 240, 240, 240, 240, 240, 240, 240, 240, 240, 240, 240, 240, 240, 240, 240, 240, 240, 240, 240, 240, 240, 240, 240, 240, 240, 240, 241, 241, 241, 241, 241, 241, 241, 241, 241, 241, 241, 241, 241, 241, 241, 241, 241, 241, 241, 241, 241, 241, 241, 241, 241, 241, 241, 241, 241, 241, 241, 241, 241, 241, 241, 241, 241, 241, 241, 241, 241, 241, 241, 241, 241, 241, 241, 241, 241, 241, 241, 241, 241, 241, 241, 241, 241, 241, 241, 241, 241, 241, 241, 241, 241, 241, 2, 2, 2, 2, 2, 2, 2, 2, 2, 2, 2, 2, 2, 2, 2, 2, 2, 2, 2, 2, 2, 2, 2, 2, 2, 2, 2, 2, 2, 2, 19, 3, 3, 3, 3, 3, 3, 3, 3, 3, 3, 3, 3, 35, 3, 3, 52, 4, 4, 4, 68, 241, 241, 241, 241, 241, 241, 241, 241, 241, 241, 241])), (4, (by8 [128, 191, 160, 191, 128, 159, 144, 191, 128, 143, 0, 0, 0, 0, 0, 0, 0, 0, 0, 0, 0, 0, 0, 0, 0, 0, 0, 0, 0, 0, 0, 0])), (7, (by8 [0, 1, 56, 2, 57, 49, 28, 3, 61, 58, 42, 50, 38, 29, 17, 4, 62, 47, 59, 36, 45, 43, 51, 22, 53, 39, 33, 30, 24, 18, 12, 5, 63, 55, 48, 27, 60, 41, 37, 16, 46, 35, 44, 21, 52, 32, 23, 11, 54, 26, 40, 15, 34, 20, 31, 10, 25, 14, 19, 9, 13, 8, 7, 6]))] : List (Nat × List AV)), p.1 < 8 ∧ GlobIs w p.1 p.2) :
    Calls Tryz.prog 3 #[] w fun e w' => e = .returned (.bool true) ∧ Below w.heap.size w w' :=
  calls_closed hLK ent leads ans hng hl
end Go.Proofs.YtfmopmjgohopeaaGreatDoor.Wf

/-
  The one table of the library that closed runs read: math/bits.deBruijn64tab.
-/
set_option linter.unusedVariables false
set_option linter.unusedSimpArgs false
set_option linter.constructorNameAsVariable false
namespace Go.Proofs.YtfmopmjgohopeaaGreatDoor
open Go Ev Go.RowKit

def deBruijn : List Int := [0, 1, 56, 2, 57, 49, 28, 3, 61, 58, 42, 50, 38, 29, 17, 4, 62, 47, 59, 36, 45, 43, 51, 22, 53, 39, 33, 30, 24, 18, 12, 5, 63, 55, 48, 27, 60, 41, 37, 16, 46, 35, 44, 21, 52, 32, 23, 11, 54, 26, 40, 15, 34, 20, 31, 10, 25, 14, 19, 9, 13, 8, 7, 6]
theorem deBruijn_eq : (Rows.laid_math_bits_deBruijn64tab : DataW Unit) = Lib.tabData .u8 deBruijn := by kernel_rfl
/-- the table holds what the library's text lays -/
def Known (w : World) : Prop := Lib.TabIs Tryz.prog w "math/bits.deBruijn64tab" .u8 deBruijn
theorem known_of_reads {w : World} (h : Lib.VarReads Tryz.prog w "math/bits.deBruijn64tab" Rows.laid_math_bits_deBruijn64tab) : Known w :=
  tab_of_reads (g := 7) (len := 64) (t := 524) (e := 5) (by kernel_rfl) (by kernel_rfl) Tryz.underlying524 Tryz.underlying5 (by kernel_rfl) (by kernel_rfl) (deBruijn_eq ▸ h)
theorem known_glob {w : World} (h : Known w) : GlobIs w 7 (deBruijn.map (AV.int .u8)) := GlobIs.of_tab h (by kernel_rfl)
theorem known_size {w : World} (h : Known w) : 7 + 1 ≤ w.heap.size := Nat.succ_le_of_lt (known_glob h).lt
theorem known_cells {w : World} (h : Known w) : ∀ p ∈ ([(7, by8 [0, 1, 56, 2, 57, 49, 28, 3, 61, 58, 42, 50, 38, 29, 17, 4, 62, 47, 59, 36, 45, 43, 51, 22, 53, 39, 33, 30, 24, 18, 12, 5, 63, 55, 48, 27, 60, 41, 37, 16, 46, 35, 44, 21, 52, 32, 23, 11, 54, 26, 40, 15, 34, 20, 31, 10, 25, 14, 19, 9, 13, 8, 7, 6])] : List (Nat × List AV)), p.1 < 7 + 1 ∧ GlobIs w p.1 p.2 := by
  intro p hp
  simp only [List.mem_cons, List.not_mem_nil, or_false] at hp
  subst hp
  exact ⟨Nat.lt_succ_self _, known_glob h⟩
theorem Known.on {w w' : World} (h : Known w) (hb : Below w.heap.size w w') : Known w' := by
  have hl := (known_glob h).lt
  unfold Known Lib.TabIs World.var? at *
  rw [show Tryz.prog.globalNamed "math/bits.deBruijn64tab" = some 7 by kernel_rfl] at *
  simp only [Option.bind_some] at *
  rw [hb.block _ hl]
  exact h
end Go.Proofs.YtfmopmjgohopeaaGreatDoor

/-
  The two tables of unicode/utf8 as a row lists them.
-/
set_option linter.unusedVariables false
set_option linter.unusedSimpArgs false
namespace Go.Proofs.YtfmopmjgohopeaaGreatDoor
open Go.RowKit
def tabsRen : Go.Shelf.Ren := ⟨fun n => n, fun | 5 => 5 | 119 => 512 | 138 => 514 | 139 => 515 | n => n, fun | 3 => 3 | 4 => 4 | n => n⟩
theorem tabsTypes : U8Types Tryz.prog tabsRen := ⟨by kernel_rfl, by kernel_rfl, by kernel_rfl, by kernel_rfl⟩
theorem tabsExtra : U8Extra Tryz.prog tabsRen := ⟨by kernel_rfl, by kernel_rfl, by kernel_rfl, by kernel_rfl, by kernel_rfl, by kernel_rfl, by kernel_rfl⟩
theorem accept_eq : (Rows.laid_unicode_utf8_acceptRanges : DataW Unit) = Lib.acceptData := by kernel_rfl
theorem tabs_of_reads {w : World} (h1 : Lib.VarReads Tryz.prog w "unicode/utf8.first" Rows.laid_unicode_utf8_first) (h2 : Lib.VarReads Tryz.prog w "unicode/utf8.acceptRanges" Rows.laid_unicode_utf8_acceptRanges) : Tabs w :=
  utf8Tabs_of_readsT tabsTypes tabsExtra (Pinned.utf8First_eq ▸ h1) (accept_eq ▸ h2)
end Go.Proofs.YtfmopmjgohopeaaGreatDoor

/-
  A card's fact on goroutines: where no body of the whole translation holds a go statement, no road comes to one.
-/
set_option linter.unusedVariables false
set_option linter.unusedSimpArgs false
set_option linter.constructorNameAsVariable false
namespace Go.Proofs.YtfmopmjgohopeaaGreatDoor
open Go
theorem any_none (P : Program) (h : P.funcs.any Func.goes = false) (f : FuncId) : P.goes f = false := by
  have h1 : ∀ g : FuncId, (P.funcs[g]?).any Func.goes = false := fun g => by
    cases hg : P.funcs[g]? with
    | none => rfl
    | some fn =>
      have hm : fn ∈ P.funcs := Array.mem_of_getElem? hg
      have := Array.any_eq_false.1 h
      simp only [Option.any_some]
      obtain ⟨i, hi, rfl⟩ := Array.getElem_of_mem hm
      exact Bool.eq_false_iff.2 (this i hi)
  unfold Program.goes
  rw [h]
  simp only [h1, Bool.and_false, Bool.or_false]
  simp
theorem goes_none {P : Program} {c : OpenClaim} (hs : c.start = .entering) (h : P.funcs.any Func.goes = false) : false = c.goesBy P := by
  unfold OpenClaim.goesBy Program.goesAt Program.goesFrom
  rw [hs]
  cases P.funcNamed c.func with
  | none => rfl
  | some f => simp [any_none P h f]
theorem no_go : Tryz.pinned.checked.prog.funcs.any Func.goes = false := by kernel_rfl
end Go.Proofs.YtfmopmjgohopeaaGreatDoor

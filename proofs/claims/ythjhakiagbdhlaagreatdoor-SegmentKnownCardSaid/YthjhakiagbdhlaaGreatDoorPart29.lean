/- The texts TabsLaid, Goes of SegmentKnown, joined by program (tools/merge.py): walks of the functions that the law reaches, and plain facts; no condition. -/
import Derived.Test.YthjhakiagbdhlaaGreatDoorRows
import Derived.Test.YthjhakiagbdhlaaGreatDoorPart11
import Derived.Lib.LaidU8T
import Derived.PinnedBridge
import Derived.Test.YthjhakiagbdhlaaGreatDoorCards
import Derived.JoinedOf
import Derived.KernelRfl
set_option linter.unusedVariables false
set_option linter.unusedSimpArgs false

/-
  The two tables of unicode/utf8 as a row lists them.
-/
set_option linter.unusedVariables false
set_option linter.unusedSimpArgs false
namespace Go.Proofs.YthjhakiagbdhlaaGreatDoor
open Go.RowKit
def tabsRen : Go.Shelf.Ren := ⟨fun n => n, fun | 5 => 5 | 119 => 476 | 138 => 478 | 139 => 479 | n => n, fun | 3 => 3 | 4 => 4 | n => n⟩
theorem tabsTypes : U8Types Tryz.prog tabsRen := ⟨by kernel_rfl, by kernel_rfl, by kernel_rfl, by kernel_rfl⟩
theorem tabsExtra : U8Extra Tryz.prog tabsRen := ⟨by kernel_rfl, by kernel_rfl, by kernel_rfl, by kernel_rfl, by kernel_rfl, by kernel_rfl, by kernel_rfl⟩
theorem accept_eq : (Rows.laid_unicode_utf8_acceptRanges : DataW Unit) = Lib.acceptData := by kernel_rfl
theorem tabs_of_reads {w : World} (h1 : Lib.VarReads Tryz.prog w "unicode/utf8.first" Rows.laid_unicode_utf8_first) (h2 : Lib.VarReads Tryz.prog w "unicode/utf8.acceptRanges" Rows.laid_unicode_utf8_acceptRanges) : Tabs w :=
  utf8Tabs_of_readsT tabsTypes tabsExtra (Pinned.utf8First_eq ▸ h1) (accept_eq ▸ h2)
end Go.Proofs.YthjhakiagbdhlaaGreatDoor

/-
  A card's fact on goroutines: where no body of the whole translation holds a go statement, no road comes to one.
-/
set_option linter.unusedVariables false
set_option linter.unusedSimpArgs false
set_option linter.constructorNameAsVariable false
namespace Go.Proofs.YthjhakiagbdhlaaGreatDoor
open Go
theorem any_none (P : Program) (h : P.funcs.any Func.goes = false) (f : FuncId) : P.goes f = false := by
  have h1 : ∀ g : FuncId, (P.funcs[g]?).any Func.goes = false := fun g => by
    cases hg : P.funcs[g]? with
    | none => rfl
    | some fn =>
      have hm : fn ∈ P.funcs := Array.mem_of_getElem? hg
      have := Array.any_eq_false.1 h
      simp only [Option.any_some]
      obtain ⟨i, hi, rfl⟩ := Array.getElem_of_mem hm
      exact Bool.eq_false_iff.2 (this i hi)
  unfold Program.goes
  rw [h]
  simp only [h1, Bool.and_false, Bool.or_false]
  simp
theorem goes_none {P : Program} {c : OpenClaim} (hs : c.start = .entering) (h : P.funcs.any Func.goes = false) : false = c.goesBy P := by
  unfold OpenClaim.goesBy Program.goesAt Program.goesFrom
  rw [hs]
  cases P.funcNamed c.func with
  | none => rfl
  | some f => simp [any_none P h f]
theorem no_go : Tryz.pinned.checked.prog.funcs.any Func.goes = false := by kernel_rfl
end Go.Proofs.YthjhakiagbdhlaaGreatDoor

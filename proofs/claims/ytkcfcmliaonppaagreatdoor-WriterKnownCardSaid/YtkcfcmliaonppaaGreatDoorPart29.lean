/- The texts EvTab, Goes of WriterKnown, joined by program (tools/merge.py): walks of the functions that the law reaches, and plain facts; no condition. -/
import Derived.Test.YtkcfcmliaonppaaGreatDoorRows
import Derived.Test.YtkcfcmliaonppaaGreatDoorPart08
import Derived.Test.YtkcfcmliaonppaaGreatDoorCards
import Derived.JoinedOf
import Derived.KernelRfl
set_option linter.unusedVariables false
set_option linter.unusedSimpArgs false

/-
  The one table of the library that closed runs read: math/bits.deBruijn64tab.
-/
set_option linter.unusedVariables false
set_option linter.unusedSimpArgs false
set_option linter.constructorNameAsVariable false
namespace Go.Proofs.YtkcfcmliaonppaaGreatDoor
open Go Ev Go.RowKit

def deBruijn : List Int := [0, 1, 56, 2, 57, 49, 28, 3, 61, 58, 42, 50, 38, 29, 17, 4, 62, 47, 59, 36, 45, 43, 51, 22, 53, 39, 33, 30, 24, 18, 12, 5, 63, 55, 48, 27, 60, 41, 37, 16, 46, 35, 44, 21, 52, 32, 23, 11, 54, 26, 40, 15, 34, 20, 31, 10, 25, 14, 19, 9, 13, 8, 7, 6]
theorem deBruijn_eq : (Rows.laid_math_bits_deBruijn64tab : DataW Unit) = Lib.tabData .u8 deBruijn := by kernel_rfl
/-- the table holds what the library's text lays -/
def Known (w : World) : Prop := Lib.TabIs Tryz.prog w "math/bits.deBruijn64tab" .u8 deBruijn
theorem known_of_reads {w : World} (h : Lib.VarReads Tryz.prog w "math/bits.deBruijn64tab" Rows.laid_math_bits_deBruijn64tab) : Known w :=
  tab_of_reads (g := 0) (len := 64) (t := 377) (e := 5) (by kernel_rfl) (by kernel_rfl) Tryz.underlying377 Tryz.underlying5 (by kernel_rfl) (by kernel_rfl) (deBruijn_eq ▸ h)
theorem known_glob {w : World} (h : Known w) : GlobIs w 0 (deBruijn.map (AV.int .u8)) := GlobIs.of_tab h (by kernel_rfl)
theorem known_size {w : World} (h : Known w) : 0 + 1 ≤ w.heap.size := Nat.succ_le_of_lt (known_glob h).lt
theorem known_cells {w : World} (h : Known w) : ∀ p ∈ ([(0, by8 [0, 1, 56, 2, 57, 49, 28, 3, 61, 58, 42, 50, 38, 29, 17, 4, 62, 47, 59, 36, 45, 43, 51, 22, 53, 39, 33, 30, 24, 18, 12, 5, 63, 55, 48, 27, 60, 41, 37, 16, 46, 35, 44, 21, 52, 32, 23, 11, 54, 26, 40, 15, 34, 20, 31, 10, 25, 14, 19, 9, 13, 8, 7, 6])] : List (Nat × List AV)), p.1 < 0 + 1 ∧ GlobIs w p.1 p.2 := by
  intro p hp
  simp only [List.mem_cons, List.not_mem_nil, or_false] at hp
  subst hp
  exact ⟨Nat.lt_succ_self _, known_glob h⟩
theorem Known.on {w w' : World} (h : Known w) (hb : Below w.heap.size w w') : Known w' := by
  have hl := (known_glob h).lt
  unfold Known Lib.TabIs World.var? at *
  rw [show Tryz.prog.globalNamed "math/bits.deBruijn64tab" = some 0 by kernel_rfl] at *
  simp only [Option.bind_some] at *
  rw [hb.block _ hl]
  exact h
end Go.Proofs.YtkcfcmliaonppaaGreatDoor

/-
  A card's fact on goroutines: where no body of the whole translation holds a go statement, no road comes to one.
-/
set_option linter.unusedVariables false
set_option linter.unusedSimpArgs false
set_option linter.constructorNameAsVariable false
namespace Go.Proofs.YtkcfcmliaonppaaGreatDoor
open Go
theorem any_none (P : Program) (h : P.funcs.any Func.goes = false) (f : FuncId) : P.goes f = false := by
  have h1 : ∀ g : FuncId, (P.funcs[g]?).any Func.goes = false := fun g => by
    cases hg : P.funcs[g]? with
    | none => rfl
    | some fn =>
      have hm : fn ∈ P.funcs := Array.mem_of_getElem? hg
      have := Array.any_eq_false.1 h
      simp only [Option.any_some]
      obtain ⟨i, hi, rfl⟩ := Array.getElem_of_mem hm
      exact Bool.eq_false_iff.2 (this i hi)
  unfold Program.goes
  rw [h]
  simp only [h1, Bool.and_false, Bool.or_false]
  simp
theorem goes_none {P : Program} {c : OpenClaim} (hs : c.start = .entering) (h : P.funcs.any Func.goes = false) : false = c.goesBy P := by
  unfold OpenClaim.goesBy Program.goesAt Program.goesFrom
  rw [hs]
  cases P.funcNamed c.func with
  | none => rfl
  | some f => simp [any_none P h f]
theorem no_go : Tryz.pinned.checked.prog.funcs.any Func.goes = false := by kernel_rfl
end Go.Proofs.YtkcfcmliaonppaaGreatDoor

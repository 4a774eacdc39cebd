/-
  A card's fact on goroutines: where no body of the whole translation holds a go statement, no road comes to one.
-/
import Derived.Test.YtllipkakgjmheaaGreatDoorCards
import Derived.JoinedOf
import Derived.KernelRfl
set_option linter.unusedVariables false
set_option linter.unusedSimpArgs false
set_option linter.constructorNameAsVariable false
namespace Go.Proofs.YtllipkakgjmheaaGreatDoor
open Go
theorem any_none (P : Program) (h : P.funcs.any Func.goes = false) (f : FuncId) : P.goes f = false := by
  have h1 : ∀ g : FuncId, (P.funcs[g]?).any Func.goes = false := fun g => by
    cases hg : P.funcs[g]? with
    | none => rfl
    | some fn =>
      have hm : fn ∈ P.funcs := Array.mem_of_getElem? hg
      have := Array.any_eq_false.1 h
      simp only [Option.any_some]
      obtain ⟨i, hi, rfl⟩ := Array.getElem_of_mem hm
      exact Bool.eq_false_iff.2 (this i hi)
  unfold Program.goes
  rw [h]
  simp only [h1, Bool.and_false, Bool.or_false]
  simp
theorem goes_none {P : Program} {c : OpenClaim} (hs : c.start = .entering) (h : P.funcs.any Func.goes = false) : false = c.goesBy P := by
  unfold OpenClaim.goesBy Program.goesAt Program.goesFrom
  rw [hs]
  cases P.funcNamed c.func with
  | none => rfl
  | some f => simp [any_none P h f]
theorem no_go : Tryz.pinned.checked.prog.funcs.any Func.goes = false := by kernel_rfl
end Go.Proofs.YtllipkakgjmheaaGreatDoor

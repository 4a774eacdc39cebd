/-
  SearchEntries: whatever schema, document and names, a hit has the stored entries that are asked for, and what was handed in stays as it was; no condition.
  The frame was written by the kit's proof-skeleton for another row and turned to this one; the walk is ours.
-/
import Derived.Test.YtnngapfbeappcaaRows
import Derived.WalkKit
import Derived.ProofKit
import Derived.OpenShut
import Derived.ShutString
import Derived.ChangeOld
import Derived.Below
import Derived.SizedLaws
import Derived.Test.YtnngapfbeappcaaOpens
import Derived.Test.YtnngapfbeappcaaLaw24
namespace Go.Proofs.Ytnngapfbeappcaa.searchEntries
open Rep (rep)
open Go.ChangeShapes Go.WideShapes Go.ChangeAt Go.RowKit Go.Deep
set_option linter.unusedVariables false

theorem own : ownKnob Try.prog.godebug = none := by kernel_rfl
theorem laidOut : laidOutB Try.prog = true := by kernel_rfl

theorem opens_entry : Opens Try.prog 54 Entry (fun e => e.numbers.length * 8 ≤ reachBytes) := by
  intro H enc w base spare held fuel cs x h hw
  obtain ⟨hl, hp⟩ := open_parts Try.underlying54 h hw
  rw [show Try.prog.cellsOf 54 = 3 by kernel_rfl] at hl
  match cs, hl with
  | [c0, c1, c2], _ =>
    obtain ⟨_, _, h0, w0⟩ := hp 0 _ rfl
    obtain ⟨_, _, h1, w1⟩ := hp 1 _ rfl
    obtain ⟨_, _, h2, w2⟩ := hp 2 _ rfl
    obtain ⟨v0, r0, _⟩ := opens_str Try.underlying9 h0 w0
    obtain ⟨v1, r1, _⟩ := opens_str Try.underlying9 h1 w1
    obtain ⟨v2, r2, q2, _⟩ := opens_list Try.underlying22 (show Try.prog.cellsOf 2 = 1 by kernel_rfl) (opens_int Try.underlying2) h2 w2
    rw [show Try.prog.bytesOf 2 = 8 by kernel_rfl] at q2
    refine ⟨⟨v0, v1, v2⟩, ⟨c0, c1, c2, rfl, ?_, ?_, ?_⟩, q2⟩
    · exact r0
    · exact r1
    · exact r2
theorem opens_field : Opens Try.prog 60 Field (fun _ => True) := by
  intro H enc w base spare held fuel cs x h hw
  obtain ⟨hl, hp⟩ := open_parts Try.underlying60 h hw
  rw [show Try.prog.cellsOf 60 = 7 by kernel_rfl] at hl
  match cs, hl with
  | [c0, c1, c2, c3, c4, c5, c6], _ =>
    obtain ⟨_, _, h0, w0⟩ := hp 0 _ rfl
    obtain ⟨_, _, h1, w1⟩ := hp 1 _ rfl
    obtain ⟨_, _, h2, w2⟩ := hp 2 _ rfl
    obtain ⟨_, _, h3, w3⟩ := hp 3 _ rfl
    obtain ⟨_, _, h4, w4⟩ := hp 4 _ rfl
    obtain ⟨_, _, h5, w5⟩ := hp 5 _ rfl
    obtain ⟨_, _, h6, w6⟩ := hp 6 _ rfl
    obtain ⟨v0, r0, _⟩ := opens_str Try.underlying9 h0 w0
    obtain ⟨v1, r1, _⟩ := opens_int Try.underlying3 h1 w1
    obtain ⟨v2, r2, _⟩ := opens_list Try.underlying58 (show Try.prog.cellsOf 3 = 1 by kernel_rfl) (opens_int Try.underlying3) h2 w2
    obtain ⟨v3, r3, _⟩ := opens_int Try.underlying3 h3 w3
    obtain ⟨v4, r4, _⟩ := opens_int Try.underlying3 h4 w4
    obtain ⟨v5, r5, _⟩ := opens_bool Try.underlying4 h5 w5
    obtain ⟨v6, r6, _⟩ := opens_bool Try.underlying4 h6 w6
    refine ⟨⟨v0, v1, v2, v3, v4, v5, v6⟩, ⟨c0, c1, c2, c3, c4, c5, c6, rfl, ?_, ?_, ?_, ?_, ?_, ?_, ?_⟩, trivial⟩
    · exact r0
    · exact r1
    · exact r2
    · exact r3
    · exact r4
    · exact r5
    · exact r6

section
variable {H : Type} {enc : TypeId × Value → H} {w : World} {base : Nat} {spare : Nat → Bool} {held : Bool} {r : Reach} {b0 : Nat} {v : Value} {d : DataW H} {p : List MemPlace}
theorem open_schema (hv : Value.okWide Try.prog w r b0 31 v) (h : DataW.Trod enc Try.prog w base spare held 31 v d p) (hw : ∀ k ∈ d.weights Try.prog 31, k ≤ reachBytes) :
    ∃ A n c fs, v = .agg #[.slice A n c] ∧ RepList (α := Field) w (· < w.heap.size) A n c fs := by
  obtain ⟨cs, rfl, hsz⟩ := okWide_struct Try.underlying31 hv
  obtain ⟨l⟩ := cs
  match l, hsz.trans (show Try.prog.cellsOf 31 = 1 by kernel_rfl) with
  | [c0], _ =>
    obtain ⟨fuel, hf⟩ := h
    obtain ⟨_, hp⟩ := open_parts Try.underlying31 hf hw
    obtain ⟨_, _, h0, w0⟩ := hp 0 _ rfl
    obtain ⟨fs, ⟨A, n, c, hc, hr⟩, _⟩ := opens_list Try.underlying29 (show Try.prog.cellsOf 60 = 7 by kernel_rfl) opens_field h0 w0
    have hc' : c0 = .slice A n c := by simpa [Value.cells, show Try.prog.cellsOf 29 = 1 by kernel_rfl] using hc
    exact ⟨A, n, c, fs, by rw [hc'], hr⟩
theorem open_doc (hv : Value.okWide Try.prog w r b0 34 v) (h : DataW.Trod enc Try.prog w base spare held 34 v d p) (hw : ∀ k ∈ d.weights Try.prog 34, k ≤ reachBytes) :
    ∃ A n c es, v = .agg #[.slice A n c] ∧ RepList (α := Entry) w (· < w.heap.size) A n c es ∧ n ≤ 2513169434843 ∧ ∀ e ∈ es, e.numbers.length ≤ 17592186043904 := by
  obtain ⟨cs, rfl, hsz⟩ := okWide_struct Try.underlying34 hv
  obtain ⟨l⟩ := cs
  match l, hsz.trans (show Try.prog.cellsOf 34 = 1 by kernel_rfl) with
  | [c0], _ =>
    obtain ⟨fuel, hf⟩ := h
    obtain ⟨_, hp⟩ := open_parts Try.underlying34 hf hw
    obtain ⟨_, _, h0, w0⟩ := hp 0 _ rfl
    obtain ⟨es, ⟨A, n, c, hc, hr⟩, hq, hqe⟩ := opens_list Try.underlying32 (show Try.prog.cellsOf 54 = 3 by kernel_rfl) opens_entry h0 w0
    rw [show Try.prog.bytesOf 54 = 56 by kernel_rfl, hr.length] at hq
    have hc' : c0 = .slice A n c := by simpa [Value.cells, show Try.prog.cellsOf 32 = 1 by kernel_rfl] using hc
    exact ⟨A, n, c, es, by rw [hc'], hr, by simp only [reachBytes] at hq; omega, fun e he => by have := hqe e he; simp only [reachBytes] at this; omega⟩
theorem open_names (hv : Value.okWide Try.prog w r b0 35 v) (h : DataW.Trod enc Try.prog w base spare held 35 v d p) (hw : ∀ k ∈ d.weights Try.prog 35, k ≤ reachBytes) :
    ∃ A n c ns, v = .slice A n c ∧ RepList (α := ByteArray) w (· < w.heap.size) A n c ns ∧ n ≤ 8796093021952 := by
  obtain ⟨a, l, c1, rfl⟩ := okWide_slice Try.underlying35 hv
  obtain ⟨fuel, hf⟩ := h
  obtain ⟨ns, ⟨A, n, c, hc, hr⟩, hq, _⟩ := opens_list Try.underlying35 (show Try.prog.cellsOf 9 = 1 by kernel_rfl) (opens_str Try.underlying9) hf hw
  rw [show Try.prog.bytesOf 9 = 16 by kernel_rfl, hr.length] at hq
  have hc' : Value.slice a l c1 = .slice A n c := by simpa [Value.cells] using hc
  exact ⟨A, n, c, ns, hc', hr, by simp only [reachBytes] at hq; omega⟩
end
/-! ### THE ROW's STEP: WRITTEN OUT: LEAVE IT -/
set_option maxRecDepth 100000 in
theorem lifted (os : Os) (started : os.Started) (H : Type) (enc : TypeId × Value → H) :
    ReturnsInHanded {} Try.checked os 4 .any (Rows.searchEntriesSpec.pre6 enc Try.prog Try.f4 Rows.searchEntriesRow.domain false) (Rows.searchEntriesSpec.post enc Try.prog Try.f4 false true false false) := by
  refine returnsInHanded_of_change_sized (C := Try.checked) own started (by kernel_rfl) Try.func4
    (ChangeSpec.witness6 (enc := enc) (C := Try.checked) false ⟨#[], #[.agg #[.slice none 0 0], .agg #[.slice none 0 0], .slice none 0 0], []⟩ 8 (by kernel_rfl) (by kernel_rfl) (by kernel_rfl) (by kernel_rfl)) ?_
  intro W base args ds gs before hval0 hW hcnd hsz0 _
  have hval : ∀ (j : Nat) t v, Try.f4.params[j]? = some t → args[j]? = some v → Value.okWide Try.prog W .any base t v := hval0
  have hsz : (DataW.weightsEach Try.prog (Try.f4.params.toList ++ Rows.searchEntriesSpec.plain.varTypes Try.prog) (ds ++ gs)).all (· ≤ reachBytes) = true := hsz0
  clear hsz0
  have hW' := hW
  obtain ⟨p, q, hA0, hV, rfl, hfz, hnd⟩ := hW
  have hA : DataW.TrodAll enc Try.prog W 0 (fun _ => true) true Try.f4.params.toList args.toList ds p := hA0
  rw [Try.params4] at hA hval hsz
  obtain ⟨v0, vs0, d0, ds0, p0, q0, hargs, rfl, rfl, h0, r0⟩ := trodAll_cons hA
  obtain ⟨v1, vs1, d1, ds1, p1, q1, rfl, rfl, rfl, h1, r1⟩ := trodAll_cons r0
  obtain ⟨v2, vs2, d2, ds2, p2, q2, rfl, rfl, rfl, h2, r2⟩ := trodAll_cons r1
  obtain ⟨rfl, rfl, rfl⟩ := trodAll_nil r2
  obtain rfl : args = #[v0, v1, v2] := by cases args; simp_all
  obtain ⟨rfl, rfl⟩ := trodVars_none hV
  have k0 := h0
  have k1 := h1
  have k2 := h2
  have lt0 : ∀ x ∈ p0, x.block < W.heap.size := by obtain ⟨m, hm⟩ := k0; exact DataW.trod_lt m _ _ _ hm
  have lt1 : ∀ x ∈ p1, x.block < W.heap.size := by obtain ⟨m, hm⟩ := k1; exact DataW.trod_lt m _ _ _ hm
  have lt2 : ∀ x ∈ p2, x.block < W.heap.size := by obtain ⟨m, hm⟩ := k2; exact DataW.trod_lt m _ _ _ hm
  have hwt := List.all_eq_true.1 hsz
  obtain ⟨A, n, c, fs, rfl, hs⟩ := open_schema (hval 0 31 v0 rfl rfl) h0 (fun k hk => by simpa using hwt k (DataW.weights_mem_each (j := 0) rfl rfl k hk))
  obtain ⟨A', m, c', es, rfl, hd, hm, hN⟩ := open_doc (hval 1 34 v1 rfl rfl) h1 (fun k hk => by simpa using hwt k (DataW.weights_mem_each (j := 1) rfl rfl k hk))
  obtain ⟨AN, q, cq, ns, rfl, hns, hq⟩ := open_names (hval 2 35 v2 rfl rfl) h2 (fun k hk => by simpa using hwt k (DataW.weights_mem_each (j := 2) rfl rfl k hk))
  clear hA0 hval0
  refine (law24 A A' AN n c m c' q cq fs es ns W hs hd hns hm hN hq).mono fun e W' ⟨he, bel⟩ => ?_
  subst he
  exact ⟨_, rfl, _, _, _, [], _, [], hW', trodAll_mk1 (shut_bool Try.underlying4 _), (trodAll_cons_mk (Below.trod laidOut (by kernel_rfl) (of_decide_eq_true (by kernel_rfl)) k0 bel lt0) (trodAll_cons_mk (Below.trod laidOut (by kernel_rfl) (of_decide_eq_true (by kernel_rfl)) k1 bel lt1) (trodAll_cons_mk (Below.trod laidOut (by kernel_rfl) (of_decide_eq_true (by kernel_rfl)) k2 bel lt2) trodAll_mk0))), rfl, bel.frame _, fun h => by cases h⟩

theorem over : Rows.searchEntriesRow.holds Try.pinned (OpenSpec.ofChange Rows.searchEntriesSpec) :=
  OpenClaim.holds_of_wide 4 Try.f4 rfl rfl rfl rfl rfl rfl rfl ⟨rfl, rfl, rfl, rfl, rfl⟩ rfl rfl rfl rfl rfl (by kernel_rfl) Try.func4 (by kernel_rfl)
    (of_decide_eq_true (by kernel_rfl)) (by unfold Func.isWrapper; first | (rw [if_pos (by decide +kernel)]; kernel_rfl) | (rw [if_neg (by decide +kernel)]; exact ⟨rfl, rfl⟩))
    (fun os started H enc _ => lifted os started H enc)

/-- ████ THE STATEMENT ████ -/
theorem proved : Rows.SearchEntriesSaid := over
#print axioms proved
end Go.Proofs.Ytnngapfbeappcaa.searchEntries

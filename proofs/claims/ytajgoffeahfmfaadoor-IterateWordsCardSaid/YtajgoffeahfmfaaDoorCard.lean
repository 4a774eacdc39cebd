/-
  IterateWords: whatever schema and query, a query's words are those of its field's chain (what the document's answer gives), a nil walk goes nowhere, and what was handed in stays as it was; no condition beyond the two tables of unicode/utf8 that the row lists, which the card ties to the program's text.
  The frame follows the kit's worked example over a pinned table; the walk is ours.
-/
import Derived.Test.YtajgoffeahfmfaaDoorRows
import Derived.Test.YtajgoffeahfmfaaDoorCards
import Derived.Test.YtajgoffeahfmfaaDoorTie
import Derived.WalkKit
import Derived.ProofKit
import Derived.OpenShut
import Derived.ShutString
import Derived.ChangeOld
import Derived.Below
import Derived.SizedLaws
import Derived.Lay
import Derived.LaidOnce
import Derived.SevenTiedAt
import Derived.Test.YtajgoffeahfmfaaDoorPart12
import Derived.Test.YtajgoffeahfmfaaDoorPart51
namespace Go.Proofs.YtajgoffeahfmfaaDoor.iterateWords
open Rep (rep)
open Go.ChangeShapes Go.WideShapes Go.ChangeAt Go.RowKit Go.Deep

set_option linter.unusedVariables false
set_option linter.unusedSimpArgs false

theorem own : ownKnob Tryd.prog.godebug = none := by kernel_rfl
theorem laidOut : laidOutB Tryd.prog = true := by kernel_rfl
def laid : List (String × DataW Unit) := Rows.iterateWordsRow.laid

set_option maxRecDepth 100000 in
theorem opens_field : Opens Tryd.prog 51 Field (fun f => f.chain.length * 8 ≤ reachBytes) := by
  intro H enc w base spare held fuel cs x h hw
  obtain ⟨hl, hp⟩ := open_parts Tryd.underlying51 h hw
  rw [show Tryd.prog.cellsOf 51 = 7 by kernel_rfl] at hl
  match cs, hl with
  | [c0, c1, c2, c3, c4, c5, c6], _ =>
    obtain ⟨_, _, h0, w0⟩ := hp 0 _ rfl
    obtain ⟨_, _, h1, w1⟩ := hp 1 _ rfl
    obtain ⟨_, _, h2, w2⟩ := hp 2 _ rfl
    obtain ⟨_, _, h3, w3⟩ := hp 3 _ rfl
    obtain ⟨_, _, h4, w4⟩ := hp 4 _ rfl
    obtain ⟨_, _, h5, w5⟩ := hp 5 _ rfl
    obtain ⟨_, _, h6, w6⟩ := hp 6 _ rfl
    obtain ⟨v0, r0, _⟩ := opens_str Tryd.underlying9 h0 w0
    obtain ⟨v1, r1, _⟩ := opens_int Tryd.underlying3 h1 w1
    obtain ⟨v2, r2, q2, _⟩ := opens_list Tryd.underlying49 (show Tryd.prog.cellsOf 3 = 1 by kernel_rfl) (opens_int Tryd.underlying3) h2 w2
    obtain ⟨v3, r3, _⟩ := opens_int Tryd.underlying3 h3 w3
    obtain ⟨v4, r4, _⟩ := opens_int Tryd.underlying3 h4 w4
    obtain ⟨v5, r5, _⟩ := opens_bool Tryd.underlying4 h5 w5
    obtain ⟨v6, r6, _⟩ := opens_bool Tryd.underlying4 h6 w6
    rw [show Tryd.prog.bytesOf 3 = 8 by kernel_rfl] at q2
    refine ⟨⟨v0, v1, v2, v3, v4, v5, v6⟩, ⟨c0, c1, c2, c3, c4, c5, c6, rfl, ?_, ?_, ?_, ?_, ?_, ?_, ?_⟩, q2⟩
    · exact r0
    · exact r1
    · exact r2
    · exact r3
    · exact r4
    · exact r5
    · exact r6

section
variable {H : Type} {enc : TypeId × Value → H} {w : World} {base : Nat} {spare : Nat → Bool} {held : Bool} {r : Reach} {b0 : Nat} {v : Value} {d : DataW H} {p : List MemPlace}
set_option maxRecDepth 100000 in
theorem open_schema (hv : Value.okWide Tryd.prog w r b0 24 v) (h : DataW.Trod enc Tryd.prog w base spare held 24 v d p) (hw : ∀ k ∈ d.weights Tryd.prog 24, k ≤ reachBytes) :
    ∃ A n c fs, v = .agg #[.slice A n c] ∧ RepList (α := Field) w (· < w.heap.size) A n c fs ∧ n ≤ 1954687338211 ∧ ∀ f ∈ fs, f.chain.length ≤ 17592186043904 := by
  obtain ⟨cs, rfl, hsz⟩ := okWide_struct Tryd.underlying24 hv
  obtain ⟨l⟩ := cs
  match l, hsz.trans (show Tryd.prog.cellsOf 24 = 1 by kernel_rfl) with
  | [c0], _ =>
    obtain ⟨fuel, hf⟩ := h
    obtain ⟨_, hp⟩ := open_parts Tryd.underlying24 hf hw
    obtain ⟨_, _, h0, w0⟩ := hp 0 _ rfl
    obtain ⟨fs, ⟨A, n, c, hc, hr⟩, hq, hqf⟩ := opens_list Tryd.underlying22 (show Tryd.prog.cellsOf 51 = 7 by kernel_rfl) opens_field h0 w0
    rw [show Tryd.prog.bytesOf 51 = 72 by kernel_rfl, hr.length] at hq
    have hc' : c0 = .slice A n c := by simpa [Value.cells, show Tryd.prog.cellsOf 22 = 1 by kernel_rfl] using hc
    exact ⟨A, n, c, fs, by rw [hc'], hr, by simp only [reachBytes] at hq; omega, fun f hf => by have := hqf f hf; simp only [reachBytes] at this; omega⟩
set_option maxRecDepth 100000 in
theorem open_query (hv : Value.okWide Tryd.prog w r b0 28 v) (h : DataW.Trod enc Tryd.prog w base spare held 28 v d p) (hw : ∀ k ∈ d.weights Tryd.prog 28, k ≤ reachBytes) :
    ∃ (D : Nat) (kd oc : Int) (fd tx up : ByteArray) (AL : Option Addr) (nL cL : Nat) (AH : Option Addr) (nH cH : Nat) (bo op : Int) (AK : Option Addr) (nK cK : Nat), v = .agg #[.int .i64 kd, .int .i64 oc, .string fd, .string tx, .string up, .slice AL nL cL, .slice AH nH cH, .int .i64 bo, .int .i64 op, .slice AK nK cK] ∧
      QOk w w.heap.size D [.int .i64 kd, .int .i64 oc, .string fd, .string tx, .string up, .slice AL nL cL, .slice AH nH cH, .int .i64 bo, .int .i64 op, .slice AK nK cK] := by
  obtain ⟨cs, rfl, hsz⟩ := okWide_struct Tryd.underlying28 hv
  obtain ⟨l⟩ := cs
  obtain ⟨fuel, hf⟩ := h
  have hq : QOk w w.heap.size fuel l := opens_query fuel _ _ hf hw
  have hq' := hq
  cases fuel with
  | zero => exact hq.elim
  | succ D =>
    obtain ⟨kd, oc, fd, tx, up, AL, nL, cL, AH, nH, cH, bo, op, AK, nK, cK, _, _, rfl, _⟩ := hq
    exact ⟨D + 1, kd, oc, fd, tx, up, AL, nL, cL, AH, nH, cH, bo, op, AK, nK, cK, rfl, hq'⟩
end

set_option maxRecDepth 100000 in
theorem lifted (os : Os) (started : os.Started) (H : Type) (enc : TypeId × Value → H) :
    ReturnsInHanded {} Tryd.checked os 3 .any (fun w args => (Rows.iterateWordsSpec.pre enc Tryd.prog Tryd.f3 [] false w args ∧ laidMetH Tryd.prog laid w) ∧ sizedMet enc Tryd.prog Tryd.f3 (OpenSpec.ofChange Rows.iterateWordsSpec) false w args)
      (Rows.iterateWordsSpec.post enc Tryd.prog Tryd.f3 false true false false) := by
  refine returnsInHanded_of_change_and (C := Tryd.checked) (X := fun w _ => laidMetH Tryd.prog laid w) (fun _ _ _ hh h => h.of_heap hh) own started (by kernel_rfl) Tryd.func3
    (ChangeSpec.witness_shaped (enc := enc) (C := Tryd.checked) (os := os) (X := fun w _ => laidMetH Tryd.prog laid w) false (World.laidAll Tryd.prog os laid) #[.agg #[.slice none 0 0], .agg #[.int .i64 0, .int .i64 0, .string ByteArray.empty, .string ByteArray.empty, .string ByteArray.empty, .slice none 0 0, .slice none 0 0, .int .i64 0, .int .i64 0, .slice none 0 0]] 8 (World.laidAll_os _ _ _)
      (World.shaped_of_ZipB (by kernel_rfl) (by kernel_rfl)) (by kernel_rfl) (by kernel_rfl) (by kernel_rfl)
      (by rw [MakeChecks.laidMetH_plain _ _ _ (by kernel_rfl)]; exact laidMet_laidAll _ (by kernel_rfl) (by kernel_rfl))) ?_
  intro W base args ds gs before hval0 hW _ hsz0 hL _
  have hval : ∀ (j : Nat) t v, Tryd.f3.params[j]? = some t → args[j]? = some v → Value.okWide Tryd.prog W .any base t v := hval0
  have hsz : (DataW.weightsEach Tryd.prog (Tryd.f3.params.toList ++ Rows.iterateWordsSpec.plain.varTypes Tryd.prog) (ds ++ gs)).all (· ≤ reachBytes) = true := hsz0
  clear hsz0
  have hW' := hW
  obtain ⟨p, q, hA0, hV, rfl, hfz, hnd⟩ := hW
  have hA : DataW.TrodAll enc Tryd.prog W 0 (fun _ => true) true Tryd.f3.params.toList args.toList ds p := hA0
  rw [Tryd.params3] at hA hval hsz
  obtain ⟨v0, vs0, d0, ds0, p0, q0, hargs, rfl, rfl, h0, r0⟩ := trodAll_cons hA
  obtain ⟨v1, vs1, d1, ds1, p1, q1, rfl, rfl, rfl, h1, r1⟩ := trodAll_cons r0
  obtain ⟨rfl, rfl, rfl⟩ := trodAll_nil r1
  obtain rfl : args = #[v0, v1] := by cases args; simp_all
  obtain ⟨rfl, rfl⟩ := trodVars_none hV
  have k0 := h0
  have k1 := h1
  have lt0 : ∀ x ∈ p0, x.block < W.heap.size := by obtain ⟨m, hm⟩ := k0; exact DataW.trod_lt m _ _ _ hm
  have lt1 : ∀ x ∈ p1, x.block < W.heap.size := by obtain ⟨m, hm⟩ := k1; exact DataW.trod_lt m _ _ _ hm
  have hwt := List.all_eq_true.1 hsz
  obtain ⟨A, n, c, fs, rfl, hs, hn, hN⟩ := open_schema (hval 0 24 v0 rfl rfl) h0 (fun k hk => by simpa using hwt k (DataW.weights_mem_each (j := 0) rfl rfl k hk))
  obtain ⟨D, kd, oc, fd, tx, up, AL, nL, cL, AH, nH, cH, bo, op, AK, nK, cK, rfl, hq⟩ := open_query (hval 1 28 v1 rfl rfl) h1 (fun k hk => by simpa using hwt k (DataW.weights_mem_each (j := 1) rfl rfl k hk))
  rw [MakeChecks.laidMetH_plain _ _ _ (by kernel_rfl)] at hL
  have hT : Tabs W := tabs_of_laid hL
  clear hA0 hval0
  refine (law20 A n c fs D kd oc fd tx up AL nL cL AH nH cH bo op AK nK cK W hT hn hN hs hq).mono fun e W' ⟨he, bel⟩ => ?_
  subst he
  exact ⟨_, rfl, _, _, _, [], _, [], hW', trodAll_mk1 (shut_bool Tryd.underlying4 _), (trodAll_cons_mk (Below.trod laidOut (by kernel_rfl) (of_decide_eq_true (by kernel_rfl)) k0 bel lt0) (trodAll_cons_mk (Below.trod laidOut (by kernel_rfl) (of_decide_eq_true (by kernel_rfl)) k1 bel lt1) trodAll_mk0)), rfl, bel.frame _, fun h => by cases h⟩

theorem holds : Rows.IterateWordsSaid :=
  OpenClaim.holds_of_wide 3 Tryd.f3 rfl rfl rfl rfl rfl rfl rfl ⟨rfl, rfl, rfl, rfl, rfl⟩ rfl rfl rfl rfl rfl (by kernel_rfl) Tryd.func3 (by kernel_rfl)
    (of_decide_eq_true (by kernel_rfl)) (by unfold Func.isWrapper; first | (rw [if_pos (by decide +kernel)]; kernel_rfl) | (rw [if_neg (by decide +kernel)]; exact ⟨rfl, rfl⟩))
    (fun os started H enc _ => lifted os started H enc)

/-- ████ THE TIED CARD ████ -/
theorem card_holds : Rows.IterateWordsCardSaid :=
  Claim7.holds_tied_plain_at .later [] [.data, .pinned] true (true, "a39e697dbfb67d67078ce67fb2f636fa2284fc0ca59056a1ae723345f7d3f862") false holds (fun _ h => by cases h) (by kernel_rfl) (fun _ h => by cases h) iterateWords_row_tie rfl ⟨rfl, rfl⟩ (by kernel_rfl) rfl
    (fun f fn hf hfn => by
      obtain rfl : f = 3 := Option.some.inj ((show Tryd.prog.funcNamed Rows.iterateWordsRow.func = some 3 by kernel_rfl).symm.trans hf) |>.symm
      obtain rfl : fn = Tryd.f3 := (Option.some.inj (Tryd.func3.symm.trans hfn)).symm
      exact ⟨by kernel_rfl, fun j t ht => by
        rw [Tryd.params3] at ht
        have hm : t ∈ [24, 28] := by simpa using Array.mem_of_getElem? ht
        have hall : ([24, 28].all fun u => !Tryd.prog.wantsStandIn u) = true := by kernel_rfl
        exact (show Tryd.prog.wantsStandIn t = false by simpa using List.all_eq_true.1 hall t hm)⟩)
    (by kernel_rfl)
#print axioms card_holds
end Go.Proofs.YtajgoffeahfmfaaDoor.iterateWords

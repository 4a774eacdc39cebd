/-
  ScoreWeights: whatever worth, how often, length, documents and tokens: more worth, or more often, is not less; a longer document is not more; a weight is at least 0 and at most 22 tenths of the worth; no condition beyond the tables of the library that the row lists, which the card ties to the program's text.
  The frame was written after the kit's worked example over listed variables; the walk is ours.
-/
import Derived.Test.YtblfelhnljdgnaaGreatDoorRows
import Derived.Test.YtblfelhnljdgnaaGreatDoorCards
import Derived.Test.YtblfelhnljdgnaaGreatDoorTie
import Derived.WalkKit
import Derived.ProofKit
import Derived.OpenShut
import Derived.ChangeOld
import Derived.Below
import Derived.SizedLaws
import Derived.Lay
import Derived.LaidOnce
import Derived.SevenTiedAt
import Derived.Test.YtblfelhnljdgnaaGreatDoorWPart12
import Derived.Test.YtblfelhnljdgnaaGreatDoorWPart12
import Derived.Test.YtblfelhnljdgnaaGreatDoorWPart13
namespace Go.Proofs.YtblfelhnljdgnaaGreatDoor.scoreWeights
open ScoreMath Ev
open Go.ChangeShapes Go.WideShapes Go.ChangeAt Go.RowKit
set_option linter.unusedVariables false
set_option linter.unusedSimpArgs false

theorem tabs_known {w : World} (h : laidMet Tryz.prog Rows.scoreWeightsRow.laid w) : Known w :=
  known_of_reads (Lib.laidMet.reads h (by unfold Rows.scoreWeightsRow; simp only [List.mem_cons, Prod.mk.injEq, true_and, and_true, reduceCtorEq, String.reduceEq, false_and, false_or, or_true, true_or]))

/-! ### The walk -/

theorem own : ownKnob Tryz.prog.godebug = none := by kernel_rfl
def laid : List (String × DataW Unit) := Rows.scoreWeightsRow.laid

set_option maxRecDepth 100000 in
theorem lifted (os : Os) (started : os.Started) (H : Type) (enc : TypeId × Value → H) :
    ReturnsInHanded {} Tryz.checked os 3 .any (fun w args => (Rows.scoreWeightsSpec.pre enc Tryz.prog Tryz.f3 [] false w args ∧ laidMetH Tryz.prog laid w) ∧ sizedMet enc Tryz.prog Tryz.f3 (OpenSpec.ofChange Rows.scoreWeightsSpec) false w args)
      (Rows.scoreWeightsSpec.post enc Tryz.prog Tryz.f3 false true false false) := by
  refine returnsInHanded_of_change_and (C := Tryz.checked) (X := fun w _ => laidMetH Tryz.prog laid w) (fun _ _ _ hh h => h.of_heap hh) own started (by kernel_rfl) Tryz.func3
    (ChangeSpec.witness_shaped (enc := enc) (C := Tryz.checked) (os := os) (X := fun w _ => laidMetH Tryz.prog laid w) false (World.laidAll Tryz.prog os laid) #[.int .i64 0, .int .i64 0, .int .i64 0, .int .i64 0, .int .i64 0] 8 (World.laidAll_os _ _ _)
      (World.shaped_of_ZipB (by kernel_rfl) (by kernel_rfl)) (by kernel_rfl) (by kernel_rfl) (by kernel_rfl)
      (by rw [MakeChecks.laidMetH_plain _ _ _ (by kernel_rfl)]; exact laidMet_laidAll _ (by kernel_rfl) (by kernel_rfl))) ?_
  intro W base args ds gs before hval0 hW _ hsz0 hL _
  have hval : ∀ (j : Nat) t v, Tryz.f3.params[j]? = some t → args[j]? = some v → Value.okWide Tryz.prog W .any base t v := hval0
  clear hsz0
  have hW' := hW
  obtain ⟨p, q, hA0, hV, rfl, hfz, hnd⟩ := hW
  have hA : DataW.TrodAll enc Tryz.prog W 0 (fun _ => true) true Tryz.f3.params.toList args.toList ds p := hA0
  rw [Tryz.params3] at hA hval
  obtain ⟨v0, vs0, d0, ds0, p0, q0, hargs, rfl, rfl, h0, r0⟩ := trodAll_cons hA
  obtain ⟨v1, vs1, d1, ds1, p1, q1, rfl, rfl, rfl, h1, r1⟩ := trodAll_cons r0
  obtain ⟨v2, vs2, d2, ds2, p2, q2, rfl, rfl, rfl, h2, r2⟩ := trodAll_cons r1
  obtain ⟨v3, vs3, d3, ds3, p3, q3, rfl, rfl, rfl, h3, r3⟩ := trodAll_cons r2
  obtain ⟨v4, vs4, d4, ds4, p4, q4, rfl, rfl, rfl, h4, r4⟩ := trodAll_cons r3
  obtain ⟨rfl, rfl, rfl⟩ := trodAll_nil r4
  obtain rfl : args = #[v0, v1, v2, v3, v4] := by cases args; simp_all
  obtain ⟨rfl, rfl⟩ := trodVars_none hV
  obtain ⟨a0, rfl, rfl, rfl, w0⟩ := open_int Tryz.underlying2 (hval 0 2 v0 rfl rfl) h0
  obtain ⟨a1, rfl, rfl, rfl, w1⟩ := open_int Tryz.underlying3 (hval 1 3 v1 rfl rfl) h1
  obtain ⟨a2, rfl, rfl, rfl, w2⟩ := open_int Tryz.underlying3 (hval 2 3 v2 rfl rfl) h2
  obtain ⟨a3, rfl, rfl, rfl, w3⟩ := open_int Tryz.underlying3 (hval 3 3 v3 rfl rfl) h3
  obtain ⟨a4, rfl, rfl, rfl, w4⟩ := open_int Tryz.underlying2 (hval 4 2 v4 rfl rfl) h4
  clear hA0 hval0
  rw [MakeChecks.laidMetH_plain _ _ _ (by kernel_rfl)] at hL
  have hT := tabs_known hL
  simp only [List.append_nil] at hW'
  refine (walk a0 a1 a2 a3 a4 w0 w1 w2 w3 w4 W hT).mono fun e W' ⟨he, hg⟩ => ?_
  subst he
  exact ⟨_, rfl, _, _, _, [], _, [], hW', trodAll_mk1 (shut_bool Tryz.underlying4 _), (trodAll_cons_mk (shut_int Tryz.underlying2 w0) (trodAll_cons_mk (shut_int Tryz.underlying3 w1) (trodAll_cons_mk (shut_int Tryz.underlying3 w2) (trodAll_cons_mk (shut_int Tryz.underlying3 w3) (trodAll_cons_mk (shut_int Tryz.underlying2 w4) trodAll_mk0))))), rfl, hg.frame _, fun h => by cases h⟩

/-! ### The row's closed facts: a fact a theorem (some take the kernel's whole room) -/
theorem j1 : (Rows.scoreWeightsRow.wf (OpenSpec.ofChange Rows.scoreWeightsSpec)) = true := by kernel_rfl
theorem j2 : (laidOutB Tryz.pinned.checked.prog) = true := by kernel_rfl
theorem j3 : (mapsRowed Tryz.pinned.checked.prog) = true := by kernel_rfl
theorem j4 : ((Tryz.f3).params.all (Tryz.pinned.checked.prog.readableRec ·)) = true := by kernel_rfl
theorem j5 : (namedTie Tryz.pinned.checked.prog Rows.scoreWeightsRow.named Rows.scoreWeightsSpec.vars) = true := by kernel_rfl
theorem j6 : (Rows.scoreWeightsRow.stops == []) = true := by kernel_rfl
theorem j7 : (Tryz.pinned.checked.prog.stops == []) = true := by kernel_rfl
theorem j8 : (Rows.scoreWeightsRow.knobs == []) = true := by kernel_rfl
theorem j9 : (Tryz.pinned.checked.prog.stopKnobs == []) = true := by kernel_rfl
theorem j10 : (Rows.scoreWeightsRow.inPlace == Tryz.pinned.checked.prog.inPlace 3) = true := by kernel_rfl
theorem j11 : (Rows.scoreWeightsRow.unfollowed == Tryz.pinned.checked.prog.unfollowed 3) = true := by kernel_rfl
theorem j12 : (Rows.scoreWeightsRow.recurses == Tryz.pinned.checked.prog.recurses 3) = true := by kernel_rfl
theorem j13 : (Rows.scoreWeightsRow.named == Tryz.pinned.checked.prog.varsNamed 3) = true := by kernel_rfl
theorem j14 : (Rows.scoreWeightsRow.maps == ((Tryz.f3).params.toList ++ Rows.scoreWeightsSpec.plain.varTypes Tryz.pinned.checked.prog).any (Tryz.pinned.checked.prog.mapsRec ·)) = true := by kernel_rfl
theorem j15 : (Rows.scoreWeightsRow.ifaces == ((Tryz.f3).params.toList ++ Rows.scoreWeightsSpec.plain.varTypes Tryz.pinned.checked.prog).any (Tryz.pinned.checked.prog.ifacesRec ·)) = true := by kernel_rfl
theorem j16 : (Rows.scoreWeightsRow.mapsOut == Tryz.pinned.checked.prog.mapsAmong (Tryz.f3).resultTypes.toList) = true := by kernel_rfl
theorem j17 : (Rows.scoreWeightsRow.loops == ((Tryz.f3).params.toList ++ Rows.scoreWeightsSpec.plain.varTypes Tryz.pinned.checked.prog).any (Tryz.pinned.checked.prog.loopsFrom ·)) = true := by kernel_rfl
theorem j18 : (Rows.scoreWeightsRow.wideKeys == ((Tryz.f3).params.toList ++ Rows.scoreWeightsSpec.plain.varTypes Tryz.pinned.checked.prog ++ (Tryz.f3).resultTypes.toList).any (Tryz.pinned.checked.prog.wideKeysFrom ·)) = true := by kernel_rfl
theorem j19 : (Rows.scoreWeightsSpec.vars.all (Tryz.pinned.checked.prog.varReadable ·)) = true := by kernel_rfl
theorem j20 : ((Tryz.f3).resultTypes.all (fun t => Tryz.pinned.checked.prog.readableRec t && decide (t < Tryz.pinned.checked.prog.types.size))) = true := by kernel_rfl
theorem j21 : (Rows.scoreWeightsRow.ifacesOut == (Tryz.f3).resultTypes.toList.any (Tryz.pinned.checked.prog.ifacesRec ·)) = true := by kernel_rfl
theorem j22 : (Rows.scoreWeightsRow.loopsOut == (Tryz.f3).resultTypes.toList.any (Tryz.pinned.checked.prog.loopsFrom ·)) = true := by kernel_rfl
theorem j23 : (Rows.scoreWeightsRow.plainKeys == Tryz.pinned.checked.prog.plainKeys) = true := by kernel_rfl
theorem j24 : (Rows.scoreWeightsRow.shortTexts.isNone) = true := by kernel_rfl
theorem j25 : (Tryz.pinned.checked.prog.stopsHeard) = true := by kernel_rfl
theorem j26 : (Tryz.pinned.checked.prog.mayEnter) = true := by kernel_rfl
theorem j27 : (Rows.scoreWeightsRow.lifted == Tryz.pinned.checked.prog.liftsFinal) = true := by kernel_rfl
theorem j28 : (Tryz.pinned.checked.prog.make == some Rows.scoreWeightsRow.make) = true := by kernel_rfl
theorem j30 : (Rows.scoreWeightsRow.pinned == Rows.scoreWeightsRow.pinnedBy) = true := by kernel_rfl
theorem j31 : (Rows.scoreWeightsRow.veiled == ((Tryz.f3).params.toList ++ Rows.scoreWeightsSpec.plain.varTypes Tryz.pinned.checked.prog ++ (Tryz.f3).resultTypes.toList).any (Tryz.pinned.checked.prog.veiledRec ·)) = true := by kernel_rfl
theorem j32 : (Rows.scoreWeightsRow.veiledFits Tryz.pinned.checked.prog (Tryz.f3).params.toList ((Tryz.f3).params.toList ++ Rows.scoreWeightsSpec.plain.varTypes Tryz.pinned.checked.prog ++ (Tryz.f3).resultTypes.toList)) = true := by kernel_rfl
theorem closed : joinedFacts Tryz.pinned.checked.prog 3 Tryz.f3 Rows.scoreWeightsSpec Rows.scoreWeightsRow = true := by
  unfold joinedFacts
  simp only [Bool.and_eq_true]
  exact ⟨⟨⟨⟨⟨⟨⟨⟨⟨⟨⟨⟨⟨⟨⟨⟨⟨⟨⟨⟨⟨⟨⟨⟨⟨⟨⟨⟨⟨⟨⟨j1, j2⟩, j3⟩, j4⟩, j5⟩, j6⟩, j7⟩, j8⟩, j9⟩, j10⟩, j11⟩, j12⟩, j13⟩, j14⟩, j15⟩, j16⟩, j17⟩, j18⟩, j19⟩, j20⟩, j21⟩, j22⟩, j23⟩, j24⟩, j25⟩, j26⟩, j27⟩, j28⟩, by kernel_rfl⟩, j30⟩, j31⟩, j32⟩

theorem holds : Rows.ScoreWeightsSaid :=
  OpenClaim.holds_of_wide 3 Tryz.f3 rfl rfl rfl rfl rfl rfl rfl ⟨rfl, rfl, rfl, rfl, rfl⟩ rfl rfl rfl rfl rfl (by kernel_rfl) Tryz.func3 closed
    (of_decide_eq_true (by kernel_rfl)) (by unfold Func.isWrapper; first | (rw [if_pos (by decide +kernel)]; kernel_rfl) | (rw [if_neg (by decide +kernel)]; exact ⟨rfl, rfl⟩))
    (fun os started H enc _ => lifted os started H enc)

/-! ### What the card asks: a fact a theorem (each takes the kernel's whole room) -/
theorem card_form : Rows.scoreWeightsRow.wfByText (OpenSpec.ofChange Rows.scoreWeightsSpec) = true := by kernel_rfl
theorem card_main : Tryz.pinned.checked.prog.mainIs = some (true, ("763eabac8125be6e0bfd570a49bbb8ee9313a91718cf42fc50c5288e8b631911" : String).toList) := by kernel_rfl
theorem card_looks : true = Tryz.pinned.checked.prog.looks [] := by kernel_rfl
theorem card_goes : false = Rows.scoreWeightsRow.goesBy Tryz.pinned.checked.prog := goes_none rfl no_go

/-- ████ THE TIED CARD ████ -/
theorem card_holds : Rows.ScoreWeightsCardSaid :=
  Claim7.holds_tied_plain_at .later [] [.data, .data, .data, .data, .sentinel, .sentinel, .pinned] true (true, "763eabac8125be6e0bfd570a49bbb8ee9313a91718cf42fc50c5288e8b631911") true holds (fun _ h => by cases h) card_form (fun _ h => by cases h) scoreWeights_row_tie rfl ⟨rfl, rfl⟩ card_main rfl
    (fun f fn hf hfn => by
      obtain rfl : f = 3 := Option.some.inj ((show Tryz.prog.funcNamed Rows.scoreWeightsRow.func = some 3 by kernel_rfl).symm.trans hf) |>.symm
      obtain rfl : fn = Tryz.f3 := (Option.some.inj (Tryz.func3.symm.trans hfn)).symm
      exact ⟨card_looks, fun j t ht => by
        rw [Tryz.params3] at ht
        have hm : t ∈ [2, 3, 3, 3, 2] := by simpa using Array.mem_of_getElem? ht
        have hall : ([2, 3, 3, 3, 2].all fun u => !Tryz.prog.wantsStandIn u) = true := by kernel_rfl
        exact (show Tryz.prog.wantsStandIn t = false by simpa using List.all_eq_true.1 hall t hm)⟩)
    card_goes
#print axioms card_holds
end Go.Proofs.YtblfelhnljdgnaaGreatDoor.scoreWeights

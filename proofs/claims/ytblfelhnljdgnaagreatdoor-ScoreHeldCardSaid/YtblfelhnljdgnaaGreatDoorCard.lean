/-
  ScoreHeld: whatever two numbers, sums and products never wrap: they go as the true ones do; no condition beyond the tables of the library that the row lists, which the card ties to the program's text.
  The frame was written after the kit's worked example over listed variables; the walk is ours.
-/
import Derived.Test.YtblfelhnljdgnaaGreatDoorRows
import Derived.Test.YtblfelhnljdgnaaGreatDoorCards
import Derived.Test.YtblfelhnljdgnaaGreatDoorTie
import Derived.WalkKit
import Derived.ProofKit
import Derived.OpenShut
import Derived.ChangeOld
import Derived.Below
import Derived.SizedLaws
import Derived.Lay
import Derived.LaidOnce
import Derived.SevenTiedAt
import Derived.Test.YtblfelhnljdgnaaGreatDoorPart12
import Derived.Test.YtblfelhnljdgnaaGreatDoorPart12
import Derived.Test.YtblfelhnljdgnaaGreatDoorPart12
namespace Go.Proofs.YtblfelhnljdgnaaGreatDoor.scoreHeld
open ScoreMath Ev
open Go.ChangeShapes Go.WideShapes Go.ChangeAt Go.RowKit
set_option linter.unusedVariables false
set_option linter.unusedSimpArgs false

theorem tabs_known {w : World} (h : laidMet Tryz.prog Rows.scoreHeldRow.laid w) : Known w :=
  known_of_reads (Lib.laidMet.reads h (by unfold Rows.scoreHeldRow; simp only [List.mem_cons, Prod.mk.injEq, true_and, and_true, reduceCtorEq, String.reduceEq, false_and, false_or, or_true, true_or]))

/-! ### The walk -/
theorem Kept.held_one (a : Int) (h : -9223372036854775808 ≤ a ∧ a ≤ 9223372036854775807) : held (a * 1) = a := by rw [Int.mul_one, held_in h]
theorem Kept.held_zero (a : Int) (h : -9223372036854775808 ≤ a ∧ a ≤ 9223372036854775807) : held (a + 0) = a := by rw [Int.add_zero, held_in h]
theorem Kept.pos_pos {a b : Int} (ha : 0 < a) (hb : 0 < b) : 0 < held (a * b) := by
  have := Int.mul_pos ha hb
  unfold held; split
  · omega
  · split <;> omega
theorem Kept.neg_neg {a b : Int} (ha : a < 0) (hb : b < 0) : 0 < held (a * b) := by
  have := Int.mul_pos_of_neg_of_neg ha hb
  unfold held; split
  · omega
  · split <;> omega
theorem Kept.pos_neg {a b : Int} (ha : 0 < a) (hb : b < 0) : held (a * b) < 0 := by
  have := Int.mul_neg_of_pos_of_neg ha hb
  unfold held; split
  · omega
  · split <;> omega
theorem Kept.neg_pos {a b : Int} (ha : a < 0) (hb : 0 < b) : held (a * b) < 0 := by
  have := Int.mul_neg_of_neg_of_pos ha hb
  unfold held; split
  · omega
  · split <;> omega
theorem Kept.sum_bd (a b : Int) (ha : -9223372036854775808 ≤ a ∧ a ≤ 9223372036854775807) : (0 ≤ b → a ≤ held (a + b)) ∧ (b ≤ 0 → held (a + b) ≤ a) := by
  unfold held; constructor
  · intro h; split
    · omega
    · split <;> omega
  · intro h; split
    · omega
    · split <;> omega
theorem Kept.held_bd (n : Int) : -9223372036854775808 ≤ held n ∧ held n ≤ 9223372036854775807 := by
  unfold held; split
  · omega
  · split <;> omega

theorem walk (a b : Int) (w0 : (Lit.int .i64 a).wf = true) (w1 : (Lit.int .i64 b).wf = true) (w : World) (hT : Known w) :
    Calls Tryz.prog 4 #[.int .i64 a, .int .i64 b] w fun e w' => e = .returned (.bool true) ∧ Below w.heap.size w w' := by
  have b0 := bounds_i64 w0
  have b1 := bounds_i64 w1
  clear w0 w1
  obtain ⟨s1, s2⟩ := Kept.sum_bd a b b0
  have e3 := Kept.held_one a b0
  have e4 := Kept.held_zero a b0
  have ec := congrArg held (Int.add_comm b a)
  have em := congrArg held (Int.mul_comm b a)
  rcases Int.lt_trichotomy a 0 with ha | rfl | ha <;> rcases Int.lt_trichotomy b 0 with hb | rfl | hb
  · exact case_nn a b _ _ b0 b1 w hT ⟨rfl, rfl, ec, em, e3, e4⟩ ha hb (fun h => by have := s2 (by omega); omega) (Kept.neg_neg ha hb)
  · exact case_nz a _ b0 w hT ⟨rfl, by rw [Int.mul_zero]; rfl, ec, by rw [Int.zero_mul]; rfl, e3, e4⟩ ha (fun h => by have := s1 (by omega); omega) (fun h => by have := s2 (by omega); omega)
  · exact case_np a b _ _ b0 b1 w hT ⟨rfl, rfl, ec, em, e3, e4⟩ ha hb (fun h => by have := s1 (by omega); omega) (Kept.neg_pos ha hb)
  · exact case_zn b _ b1 w hT ⟨rfl, by rw [Int.zero_mul]; rfl, ec, by rw [Int.mul_zero]; rfl, e3, e4⟩ hb (fun h => by have := s2 (by omega); omega)
  · exact case_zz _ w hT ⟨rfl, by rw [Int.zero_mul]; rfl, ec, by rw [Int.mul_zero]; rfl, e3, e4⟩ (fun h => by have := s1 (by omega); omega) (fun h => by have := s2 (by omega); omega)
  · exact case_zp b _ b1 w hT ⟨rfl, by rw [Int.zero_mul]; rfl, ec, by rw [Int.mul_zero]; rfl, e3, e4⟩ hb (fun h => by have := s1 (by omega); omega)
  · exact case_pn a b _ _ b0 b1 w hT ⟨rfl, rfl, ec, em, e3, e4⟩ ha hb (fun h => by have := s2 (by omega); omega) (Kept.pos_neg ha hb)
  · exact case_pz a _ b0 w hT ⟨rfl, by rw [Int.mul_zero]; rfl, ec, by rw [Int.zero_mul]; rfl, e3, e4⟩ ha (fun h => by have := s1 (by omega); omega) (fun h => by have := s2 (by omega); omega)
  · exact case_pp a b _ _ b0 b1 w hT ⟨rfl, rfl, ec, em, e3, e4⟩ ha hb (fun h => by have := s1 (by omega); omega) (Kept.pos_pos ha hb)

theorem own : ownKnob Tryz.prog.godebug = none := by kernel_rfl
def laid : List (String × DataW Unit) := Rows.scoreHeldRow.laid

set_option maxRecDepth 100000 in
theorem lifted (os : Os) (started : os.Started) (H : Type) (enc : TypeId × Value → H) :
    ReturnsInHanded {} Tryz.checked os 4 .any (fun w args => (Rows.scoreHeldSpec.pre enc Tryz.prog Tryz.f4 [] false w args ∧ laidMetH Tryz.prog laid w) ∧ sizedMet enc Tryz.prog Tryz.f4 (OpenSpec.ofChange Rows.scoreHeldSpec) false w args)
      (Rows.scoreHeldSpec.post enc Tryz.prog Tryz.f4 false true false false) := by
  refine returnsInHanded_of_change_and (C := Tryz.checked) (X := fun w _ => laidMetH Tryz.prog laid w) (fun _ _ _ hh h => h.of_heap hh) own started (by kernel_rfl) Tryz.func4
    (ChangeSpec.witness_shaped (enc := enc) (C := Tryz.checked) (os := os) (X := fun w _ => laidMetH Tryz.prog laid w) false (World.laidAll Tryz.prog os laid) #[.int .i64 0, .int .i64 0] 8 (World.laidAll_os _ _ _)
      (World.shaped_of_ZipB (by kernel_rfl) (by kernel_rfl)) (by kernel_rfl) (by kernel_rfl) (by kernel_rfl)
      (by rw [MakeChecks.laidMetH_plain _ _ _ (by kernel_rfl)]; exact laidMet_laidAll _ (by kernel_rfl) (by kernel_rfl))) ?_
  intro W base args ds gs before hval0 hW _ hsz0 hL _
  have hval : ∀ (j : Nat) t v, Tryz.f4.params[j]? = some t → args[j]? = some v → Value.okWide Tryz.prog W .any base t v := hval0
  clear hsz0
  have hW' := hW
  obtain ⟨p, q, hA0, hV, rfl, hfz, hnd⟩ := hW
  have hA : DataW.TrodAll enc Tryz.prog W 0 (fun _ => true) true Tryz.f4.params.toList args.toList ds p := hA0
  rw [Tryz.params4] at hA hval
  obtain ⟨v0, vs0, d0, ds0, p0, q0, hargs, rfl, rfl, h0, r0⟩ := trodAll_cons hA
  obtain ⟨v1, vs1, d1, ds1, p1, q1, rfl, rfl, rfl, h1, r1⟩ := trodAll_cons r0
  obtain ⟨rfl, rfl, rfl⟩ := trodAll_nil r1
  obtain rfl : args = #[v0, v1] := by cases args; simp_all
  obtain ⟨rfl, rfl⟩ := trodVars_none hV
  obtain ⟨a0, rfl, rfl, rfl, w0⟩ := open_int Tryz.underlying2 (hval 0 2 v0 rfl rfl) h0
  obtain ⟨a1, rfl, rfl, rfl, w1⟩ := open_int Tryz.underlying2 (hval 1 2 v1 rfl rfl) h1
  clear hA0 hval0
  rw [MakeChecks.laidMetH_plain _ _ _ (by kernel_rfl)] at hL
  have hT := tabs_known hL
  simp only [List.append_nil] at hW'
  refine (walk a0 a1 w0 w1 W hT).mono fun e W' ⟨he, hg⟩ => ?_
  subst he
  exact ⟨_, rfl, _, _, _, [], _, [], hW', trodAll_mk1 (shut_bool Tryz.underlying4 _), (trodAll_cons_mk (shut_int Tryz.underlying2 w0) (trodAll_cons_mk (shut_int Tryz.underlying2 w1) trodAll_mk0)), rfl, hg.frame _, fun h => by cases h⟩

/-! ### The row's closed facts: a fact a theorem (some take the kernel's whole room) -/
theorem j1 : (Rows.scoreHeldRow.wf (OpenSpec.ofChange Rows.scoreHeldSpec)) = true := by kernel_rfl
theorem j2 : (laidOutB Tryz.pinned.checked.prog) = true := by kernel_rfl
theorem j3 : (mapsRowed Tryz.pinned.checked.prog) = true := by kernel_rfl
theorem j4 : ((Tryz.f4).params.all (Tryz.pinned.checked.prog.readableRec ·)) = true := by kernel_rfl
theorem j5 : (namedTie Tryz.pinned.checked.prog Rows.scoreHeldRow.named Rows.scoreHeldSpec.vars) = true := by kernel_rfl
theorem j6 : (Rows.scoreHeldRow.stops == []) = true := by kernel_rfl
theorem j7 : (Tryz.pinned.checked.prog.stops == []) = true := by kernel_rfl
theorem j8 : (Rows.scoreHeldRow.knobs == []) = true := by kernel_rfl
theorem j9 : (Tryz.pinned.checked.prog.stopKnobs == []) = true := by kernel_rfl
theorem j10 : (Rows.scoreHeldRow.inPlace == Tryz.pinned.checked.prog.inPlace 4) = true := by kernel_rfl
theorem j11 : (Rows.scoreHeldRow.unfollowed == Tryz.pinned.checked.prog.unfollowed 4) = true := by kernel_rfl
theorem j12 : (Rows.scoreHeldRow.recurses == Tryz.pinned.checked.prog.recurses 4) = true := by kernel_rfl
theorem j13 : (Rows.scoreHeldRow.named == Tryz.pinned.checked.prog.varsNamed 4) = true := by kernel_rfl
theorem j14 : (Rows.scoreHeldRow.maps == ((Tryz.f4).params.toList ++ Rows.scoreHeldSpec.plain.varTypes Tryz.pinned.checked.prog).any (Tryz.pinned.checked.prog.mapsRec ·)) = true := by kernel_rfl
theorem j15 : (Rows.scoreHeldRow.ifaces == ((Tryz.f4).params.toList ++ Rows.scoreHeldSpec.plain.varTypes Tryz.pinned.checked.prog).any (Tryz.pinned.checked.prog.ifacesRec ·)) = true := by kernel_rfl
theorem j16 : (Rows.scoreHeldRow.mapsOut == Tryz.pinned.checked.prog.mapsAmong (Tryz.f4).resultTypes.toList) = true := by kernel_rfl
theorem j17 : (Rows.scoreHeldRow.loops == ((Tryz.f4).params.toList ++ Rows.scoreHeldSpec.plain.varTypes Tryz.pinned.checked.prog).any (Tryz.pinned.checked.prog.loopsFrom ·)) = true := by kernel_rfl
theorem j18 : (Rows.scoreHeldRow.wideKeys == ((Tryz.f4).params.toList ++ Rows.scoreHeldSpec.plain.varTypes Tryz.pinned.checked.prog ++ (Tryz.f4).resultTypes.toList).any (Tryz.pinned.checked.prog.wideKeysFrom ·)) = true := by kernel_rfl
theorem j19 : (Rows.scoreHeldSpec.vars.all (Tryz.pinned.checked.prog.varReadable ·)) = true := by kernel_rfl
theorem j20 : ((Tryz.f4).resultTypes.all (fun t => Tryz.pinned.checked.prog.readableRec t && decide (t < Tryz.pinned.checked.prog.types.size))) = true := by kernel_rfl
theorem j21 : (Rows.scoreHeldRow.ifacesOut == (Tryz.f4).resultTypes.toList.any (Tryz.pinned.checked.prog.ifacesRec ·)) = true := by kernel_rfl
theorem j22 : (Rows.scoreHeldRow.loopsOut == (Tryz.f4).resultTypes.toList.any (Tryz.pinned.checked.prog.loopsFrom ·)) = true := by kernel_rfl
theorem j23 : (Rows.scoreHeldRow.plainKeys == Tryz.pinned.checked.prog.plainKeys) = true := by kernel_rfl
theorem j24 : (Rows.scoreHeldRow.shortTexts.isNone) = true := by kernel_rfl
theorem j25 : (Tryz.pinned.checked.prog.stopsHeard) = true := by kernel_rfl
theorem j26 : (Tryz.pinned.checked.prog.mayEnter) = true := by kernel_rfl
theorem j27 : (Rows.scoreHeldRow.lifted == Tryz.pinned.checked.prog.liftsFinal) = true := by kernel_rfl
theorem j28 : (Tryz.pinned.checked.prog.make == some Rows.scoreHeldRow.make) = true := by kernel_rfl
theorem j30 : (Rows.scoreHeldRow.pinned == Rows.scoreHeldRow.pinnedBy) = true := by kernel_rfl
theorem j31 : (Rows.scoreHeldRow.veiled == ((Tryz.f4).params.toList ++ Rows.scoreHeldSpec.plain.varTypes Tryz.pinned.checked.prog ++ (Tryz.f4).resultTypes.toList).any (Tryz.pinned.checked.prog.veiledRec ·)) = true := by kernel_rfl
theorem j32 : (Rows.scoreHeldRow.veiledFits Tryz.pinned.checked.prog (Tryz.f4).params.toList ((Tryz.f4).params.toList ++ Rows.scoreHeldSpec.plain.varTypes Tryz.pinned.checked.prog ++ (Tryz.f4).resultTypes.toList)) = true := by kernel_rfl
theorem closed : joinedFacts Tryz.pinned.checked.prog 4 Tryz.f4 Rows.scoreHeldSpec Rows.scoreHeldRow = true := by
  unfold joinedFacts
  simp only [Bool.and_eq_true]
  exact ⟨⟨⟨⟨⟨⟨⟨⟨⟨⟨⟨⟨⟨⟨⟨⟨⟨⟨⟨⟨⟨⟨⟨⟨⟨⟨⟨⟨⟨⟨⟨j1, j2⟩, j3⟩, j4⟩, j5⟩, j6⟩, j7⟩, j8⟩, j9⟩, j10⟩, j11⟩, j12⟩, j13⟩, j14⟩, j15⟩, j16⟩, j17⟩, j18⟩, j19⟩, j20⟩, j21⟩, j22⟩, j23⟩, j24⟩, j25⟩, j26⟩, j27⟩, j28⟩, by kernel_rfl⟩, j30⟩, j31⟩, j32⟩

theorem holds : Rows.ScoreHeldSaid :=
  OpenClaim.holds_of_wide 4 Tryz.f4 rfl rfl rfl rfl rfl rfl rfl ⟨rfl, rfl, rfl, rfl, rfl⟩ rfl rfl rfl rfl rfl (by kernel_rfl) Tryz.func4 closed
    (of_decide_eq_true (by kernel_rfl)) (by unfold Func.isWrapper; first | (rw [if_pos (by decide +kernel)]; kernel_rfl) | (rw [if_neg (by decide +kernel)]; exact ⟨rfl, rfl⟩))
    (fun os started H enc _ => lifted os started H enc)

/-! ### What the card asks: a fact a theorem (each takes the kernel's whole room) -/
theorem card_form : Rows.scoreHeldRow.wfByText (OpenSpec.ofChange Rows.scoreHeldSpec) = true := by kernel_rfl
theorem card_main : Tryz.pinned.checked.prog.mainIs = some (true, ("763eabac8125be6e0bfd570a49bbb8ee9313a91718cf42fc50c5288e8b631911" : String).toList) := by kernel_rfl
theorem card_looks : true = Tryz.pinned.checked.prog.looks [] := by kernel_rfl
theorem card_goes : false = Rows.scoreHeldRow.goesBy Tryz.pinned.checked.prog := goes_none rfl no_go

/-- ████ THE TIED CARD ████ -/
theorem card_holds : Rows.ScoreHeldCardSaid :=
  Claim7.holds_tied_plain_at .later [] [.data, .data, .data, .data, .sentinel, .sentinel, .pinned] true (true, "763eabac8125be6e0bfd570a49bbb8ee9313a91718cf42fc50c5288e8b631911") true holds (fun _ h => by cases h) card_form (fun _ h => by cases h) scoreHeld_row_tie rfl ⟨rfl, rfl⟩ card_main rfl
    (fun f fn hf hfn => by
      obtain rfl : f = 4 := Option.some.inj ((show Tryz.prog.funcNamed Rows.scoreHeldRow.func = some 4 by kernel_rfl).symm.trans hf) |>.symm
      obtain rfl : fn = Tryz.f4 := (Option.some.inj (Tryz.func4.symm.trans hfn)).symm
      exact ⟨card_looks, fun j t ht => by
        rw [Tryz.params4] at ht
        have hm : t ∈ [2, 2] := by simpa using Array.mem_of_getElem? ht
        have hall : ([2, 2].all fun u => !Tryz.prog.wantsStandIn u) = true := by kernel_rfl
        exact (show Tryz.prog.wantsStandIn t = false by simpa using List.all_eq_true.1 hall t hm)⟩)
    card_goes
#print axioms card_holds
end Go.Proofs.YtblfelhnljdgnaaGreatDoor.scoreHeld

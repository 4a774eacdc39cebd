/-
  MergePicks: whatever sizes and number, which segments are to be merged is what the document says, and the list that was handed in stays as it was; no condition beyond the tables of the library that the row lists, which the card ties to the program's text.
  The frame was written after the kit's worked examples (a sized row; listed variables); the walk is ours; the call of 'awake' is a closed run of the kernel's.
-/
import Derived.Test.YtllipkakgjmheaaGreatDoorRows
import Derived.Test.YtllipkakgjmheaaGreatDoorCards
import Derived.Test.YtllipkakgjmheaaGreatDoorTie
import Derived.WalkKit
import Derived.ProofKit
import Derived.OpenShut
import Derived.ShutString
import Derived.ChangeOld
import Derived.Below
import Derived.SizedLaws
import Derived.Lay
import Derived.LaidOnce
import Derived.SevenTiedAt
import Derived.Test.YtllipkakgjmheaaGreatDoorAwRun
import Derived.Test.YtllipkakgjmheaaGreatDoorEvTab
import Derived.Test.YtllipkakgjmheaaGreatDoorGoes
import Derived.Test.YtllipkakgjmheaaGreatDoorIntsKit
import Derived.Test.YtllipkakgjmheaaGreatDoorPick
import Derived.Test.YtllipkakgjmheaaGreatDoorRefPick
set_option linter.unusedVariables false
set_option linter.unusedSimpArgs false
namespace Go.Proofs.YtllipkakgjmheaaGreatDoor.mergePicks
open Rep (rep)
open Ev
open Go.ChangeShapes Go.WideShapes Go.ChangeAt Go.RowKit
open Go.ChangeMaps (open_string shut_string)

theorem tabs_known {w : World} (h : laidMet Tryz.prog Rows.mergePicksRow.laid w) : Known w :=
  known_of_reads (Lib.laidMet.reads h (by unfold Rows.mergePicksRow; simp only [List.mem_cons, Prod.mk.injEq, true_and, and_true, reduceCtorEq, String.reduceEq, false_and, false_or, or_true, true_or]))
theorem awake_any (w : World) (hT : Known w) : Calls Tryz.prog 9 #[] w fun e w' => e = .returned (.bool true) ∧ Below w.heap.size w w' :=
  Aw.run (known_size hT) (known_cells hT)
theorem below_drewN {B : Nat} {w v : World} (h : Below B w v) : ∀ n, Below B w (v.drewN n)
  | 0 => h
  | n + 1 => (below_drewN h n).trans ⟨rfl, rfl, rfl, Nat.le_refl _, fun _ _ => rfl⟩

theorem bytes_int : Tryz.prog.bytesOf 3 = 8 := by kernel_rfl
theorem own : ownKnob Tryz.prog.godebug = none := by kernel_rfl
theorem laidOut : laidOutB Tryz.prog = true := by kernel_rfl
def laid : List (String × DataW Unit) := Rows.mergePicksRow.laid

/-- what the walk is told of a slice of integers that came in -/
def IsRow (k : IntKind) (w : World) (a : Option Addr) (len cap : Nat) (zs : List Int) : Prop :=
  (a = none ∧ len = 0 ∧ cap = 0 ∧ zs = []) ∨
  ∃ x, a = some x ∧ len ≤ cap ∧ cap ≤ maxLen ∧ zs.length = cap ∧ (∀ i, i < zs.length → w.cell? (x.add i) = some (.int k (zs.getD i 0))) ∧ ∀ n ∈ zs, (Lit.int k n).wf = true

set_option maxHeartbeats 1000000 in
theorem walk (a0 : Option Addr) (len0 cap0 : Nat) (z0 : List Int) (m : Int) (w : World) (w0 : IsRow .i64 w a0 len0 cap0 z0) (w1 : (Lit.int .i64 m).wf = true) (hreach : cap0 * 8 ≤ 140737488351232) (hT : Known w) :
    Calls Tryz.prog 3 #[.slice a0 len0 cap0, .int .i64 m] w fun e w' => e = .returned (.bool true) ∧ Below w.heap.size w w' := by
  have b1 := bounds_i64 w1
  obtain ⟨xs, hx, hn⟩ : ∃ xs, Reads w w.heap.size 1 a0 len0 (ints xs) ∧ len0 ≤ cap0 := by
    rcases w0 with ⟨rfl, rfl, rfl, rfl⟩ | ⟨x, rfl, hl, hm, hz, hc, hw⟩
    · exact ⟨[], Reads.none_, Nat.le_refl _⟩
    · refine ⟨z0.take len0, ⟨by rw [ints_len, List.length_take]; omega, fun h0 => ⟨x, rfl, cell_lt (hc 0 (by omega)), fun j u hu => ?_⟩⟩, hl⟩
      have hj : j < (z0.take len0).length := by
        rcases Nat.lt_or_ge j (z0.take len0).length with h | h
        · exact h
        · rw [List.getElem?_eq_none (by rw [ints_len]; exact h)] at hu; cases hu
      have hj2 : j < len0 ∧ j < z0.length := by rw [List.length_take] at hj; omega
      rw [ints_get hj] at hu
      cases hu
      rw [hc j hj2.2]
      simp [List.getElem?_eq_getElem hj2.2]
  clear w0 w1
  have HT := Lib.hid hT
  clear hT
  go_enter Tryz.func3, Tryz.ntmps3
  go_wp2_with fail
  refine (lentInts_any _ _ _ xs _ (by omega) hx).mono ?_
  rintro e w1 ⟨v, rfl, hm, hb1⟩
  obtain ⟨g, cap, rfl, hg, hcap, hcap', hr, hmark⟩ := hm.reads hx.ints_length
  clear hm
  go_wp2_with fail
  refine (pick_any _ _ _ xs m _ _ (by omega) (by omega) hcap' hr b1).mono ?_
  rintro e w' ⟨rfl, j1, rfl⟩
  obtain ⟨P, hP⟩ : ∃ P, picked xs m = P := ⟨_, rfl⟩
  have hx1 := (hx.below (below_drewN hb1 j1)).more (below_drewN hb1 j1).size
  have hb2 := below_drewN hb1 j1
  rw [hP]
  go_wp2_with fail
  refine (refPick_any _ _ _ xs m _ _ (by omega) (by omega) hx1 b1).mono ?_
  rintro e w' ⟨rfl, j2, rfl⟩
  rw [hP]
  have hb3 : Below w.heap.size w (w1.drewN (j1 + j2)) := below_drewN hb1 _
  have hr3 : Reads (w1.drewN (j1 + j2)) _ 1 (some ⟨g, 0, none⟩) len0 (ints xs) := hr.below (below_drewN (Below.refl _ _) _)
  have hx3 := (hx.below hb3).more hb3.size
  have hmark3 : (w1.drewN (j1 + j2)).cell? ⟨g, len0, none⟩ = some (.int .i64 (-7171)) := by simpa using hmark
  go_wp2_with fail
  refine (keptInts_any g len0 cap _ _ xs _ _ _ (by omega) hcap hcap' hr3 hmark3 hx3).mono ?_
  rintro e w3 ⟨rfl, j, rfl⟩
  go_wp2_with fail
  have hb5 : Below w.heap.size w (w1.drewN (j1 + j2 + j)) := below_drewN hb1 _
  refine (awake_any (w1.drewN (j1 + j2 + j)) (HT.out.on hb5)).mono ?_
  rintro e w4 ⟨rfl, hb4⟩
  go_wp2
  go_ret
  exact ⟨rfl, hb5.trans (hb4.mono hb5.size)⟩

set_option maxRecDepth 100000 in
theorem lifted (os : Os) (started : os.Started) (H : Type) (enc : TypeId × Value → H) :
    ReturnsInHanded {} Tryz.checked os 3 .any (fun w args => (Rows.mergePicksSpec.pre enc Tryz.prog Tryz.f3 [] false w args ∧ laidMetH Tryz.prog laid w) ∧ sizedMet enc Tryz.prog Tryz.f3 (OpenSpec.ofChange Rows.mergePicksSpec) false w args)
      (Rows.mergePicksSpec.post enc Tryz.prog Tryz.f3 false true false false) := by
  refine returnsInHanded_of_change_and (C := Tryz.checked) (X := fun w _ => laidMetH Tryz.prog laid w) (fun _ _ _ hh h => h.of_heap hh) own started (by kernel_rfl) Tryz.func3
    (ChangeSpec.witness_shaped (enc := enc) (C := Tryz.checked) (os := os) (X := fun w _ => laidMetH Tryz.prog laid w) false (World.laidAll Tryz.prog os laid) #[.slice none 0 0, .int .i64 0] 8 (World.laidAll_os _ _ _)
      (World.shaped_of_ZipB (by kernel_rfl) (by kernel_rfl)) (by kernel_rfl) (by kernel_rfl) (by kernel_rfl)
      (by rw [MakeChecks.laidMetH_plain _ _ _ (by kernel_rfl)]; exact laidMet_laidAll _ (by kernel_rfl) (by kernel_rfl))) ?_
  intro W base args ds gs before hval0 hW _ hsz0 hL _
  have hval : ∀ (j : Nat) t v, Tryz.f3.params[j]? = some t → args[j]? = some v → Value.okWide Tryz.prog W .any base t v := hval0
  have hsz : (DataW.weightsEach Tryz.prog (Tryz.f3.params.toList ++ Rows.mergePicksSpec.plain.varTypes Tryz.prog) (ds ++ gs)).all (· ≤ reachBytes) = true := hsz0
  clear hsz0
  have hW' := hW
  obtain ⟨p, q, hA0, hV, rfl, hfz, hnd⟩ := hW
  have hA : DataW.TrodAll enc Tryz.prog W 0 (fun _ => true) true Tryz.f3.params.toList args.toList ds p := hA0
  rw [Tryz.params3] at hA hval hsz
  obtain ⟨v0, vs0, d0, ds0, p0, q0, hargs, rfl, rfl, h0, r0⟩ := trodAll_cons hA
  obtain ⟨v1, vs1, d1, ds1, p1, q1, rfl, rfl, rfl, h1, r1⟩ := trodAll_cons r0
  obtain ⟨rfl, rfl, rfl⟩ := trodAll_nil r1
  obtain rfl : args = #[v0, v1] := by cases args; simp_all
  obtain ⟨rfl, rfl⟩ := trodVars_none hV
  obtain ⟨a0, len0, cap0, rfl⟩ := okWide_slice Tryz.underlying22 (hval 0 22 v0 rfl rfl)
  have k0 := h0
  have lt0 : ∀ x ∈ p0, x.block < W.heap.size := by obtain ⟨m, hm⟩ := k0; exact DataW.trod_lt m _ _ _ hm
  obtain ⟨z0, w0, hreach⟩ : ∃ zs, IsRow .i64 W a0 len0 cap0 zs ∧ cap0 * 8 ≤ 140737488351232 := by
    obtain ⟨fuel, hf⟩ := h0
    rcases open_ints Tryz.underlying22 Tryz.underlying3 (by kernel_rfl) hf with ⟨hcs, _⟩ | ⟨x, l, c, zs, hcs, _, hl, hm, hz, hdx, hcell, hwz⟩
    · simp [Value.cells] at hcs
      obtain ⟨rfl, rfl, rfl⟩ := hcs
      exact ⟨[], .inl ⟨rfl, rfl, rfl, rfl⟩, by omega⟩
    · simp [Value.cells] at hcs
      obtain ⟨rfl, rfl, rfl⟩ := hcs
      refine ⟨zs, .inr ⟨_, rfl, hl, hm, by simpa using hz, hcell, hwz⟩, ?_⟩
      simp only [Prod.mk.injEq] at hdx
      rw [hdx.1] at hsz
      have := sized_slice hsz (j := 0) (t := 22) (e := 3) rfl rfl Tryz.underlying22
      rw [bytes_int] at this
      simp only [lits, List.length_map, List.length_take, List.length_drop, reachBytes] at this
      simp at hz
      omega
  obtain ⟨a1, rfl, rfl, rfl, w1⟩ := open_int Tryz.underlying3 (hval 1 3 v1 rfl rfl) h1
  clear hA0 hval0
  rw [MakeChecks.laidMetH_plain _ _ _ (by kernel_rfl)] at hL
  refine (walk a0 len0 cap0 z0 a1 W w0 w1 hreach (tabs_known hL)).mono fun e W' ⟨he, bel⟩ => ?_
  subst he
  exact ⟨_, rfl, _, _, _, [], _, [], hW', trodAll_mk1 (shut_bool Tryz.underlying4 _), (trodAll_cons_mk (Below.trod laidOut (by kernel_rfl) (of_decide_eq_true (by kernel_rfl)) k0 bel lt0) (trodAll_cons_mk (shut_int Tryz.underlying3 w1) trodAll_mk0)), rfl, bel.frame _, fun h => by cases h⟩

/-! ### The row's closed facts: those on the road one by one (each takes the kernel's whole room) -/
theorem road_inPlace : (Rows.mergePicksRow.inPlace == Tryz.pinned.checked.prog.inPlace 3) = true := by kernel_rfl
theorem road_unfollowed : (Rows.mergePicksRow.unfollowed == Tryz.pinned.checked.prog.unfollowed 3) = true := by kernel_rfl
theorem road_recurses : (Rows.mergePicksRow.recurses == Tryz.pinned.checked.prog.recurses 3) = true := by kernel_rfl
theorem road_named : (Rows.mergePicksRow.named == Tryz.pinned.checked.prog.varsNamed 3) = true := by kernel_rfl
theorem closed : joinedFacts Tryz.pinned.checked.prog 3 Tryz.f3 Rows.mergePicksSpec Rows.mergePicksRow = true := by
  unfold joinedFacts
  simp only [Bool.and_eq_true]
  exact ⟨⟨⟨⟨⟨⟨⟨⟨⟨⟨⟨⟨⟨⟨⟨⟨⟨⟨⟨⟨⟨⟨⟨⟨⟨⟨⟨⟨⟨⟨⟨by kernel_rfl, by kernel_rfl⟩, by kernel_rfl⟩, by kernel_rfl⟩, by kernel_rfl⟩, by kernel_rfl⟩, by kernel_rfl⟩, by kernel_rfl⟩, by kernel_rfl⟩, road_inPlace⟩, road_unfollowed⟩, road_recurses⟩, road_named⟩, by kernel_rfl⟩, by kernel_rfl⟩, by kernel_rfl⟩, by kernel_rfl⟩, by kernel_rfl⟩, by kernel_rfl⟩, by kernel_rfl⟩, by kernel_rfl⟩, by kernel_rfl⟩, by kernel_rfl⟩, by kernel_rfl⟩, by kernel_rfl⟩, by kernel_rfl⟩, by kernel_rfl⟩, by kernel_rfl⟩, by kernel_rfl⟩, by kernel_rfl⟩, by kernel_rfl⟩, by kernel_rfl⟩

theorem holds : Rows.MergePicksSaid :=
  OpenClaim.holds_of_wide 3 Tryz.f3 rfl rfl rfl rfl rfl rfl rfl ⟨rfl, rfl, rfl, rfl, rfl⟩ rfl rfl rfl rfl rfl (by kernel_rfl) Tryz.func3 closed
    (of_decide_eq_true (by kernel_rfl)) (by unfold Func.isWrapper; first | (rw [if_pos (by decide +kernel)]; kernel_rfl) | (rw [if_neg (by decide +kernel)]; exact ⟨rfl, rfl⟩))
    (fun os started H enc _ => lifted os started H enc)

/-! ### What the card asks: a fact a theorem -/
theorem card_form : Rows.mergePicksRow.wfByText (OpenSpec.ofChange Rows.mergePicksSpec) = true := by kernel_rfl
theorem card_main : Tryz.pinned.checked.prog.mainIs = some (true, ("eba4938aaef89610a631079b05e47ec51e0e7e99a25112cfdcbd48ed6e6f0ec2" : String).toList) := by kernel_rfl
theorem card_looks : true = Tryz.pinned.checked.prog.looks [] := by kernel_rfl
theorem card_goes : false = Rows.mergePicksRow.goesBy Tryz.pinned.checked.prog := goes_none rfl no_go

/-- ████ THE TIED CARD ████ -/
theorem card_holds : Rows.MergePicksCardSaid :=
  Claim7.holds_tied_plain_at .later [] [.data, .data, .data, .data, .sentinel, .sentinel, .pinned] true (true, "eba4938aaef89610a631079b05e47ec51e0e7e99a25112cfdcbd48ed6e6f0ec2") true holds (fun _ h => by cases h) card_form (fun _ h => by cases h) mergePicks_row_tie rfl ⟨rfl, rfl⟩ card_main rfl
    (fun f fn hf hfn => by
      obtain rfl : f = 3 := Option.some.inj ((show Tryz.prog.funcNamed Rows.mergePicksRow.func = some 3 by kernel_rfl).symm.trans hf) |>.symm
      obtain rfl : fn = Tryz.f3 := (Option.some.inj (Tryz.func3.symm.trans hfn)).symm
      exact ⟨card_looks, fun j t ht => by
        rw [Tryz.params3] at ht
        have hm : t ∈ [22, 3] := by simpa using Array.mem_of_getElem? ht
        have hall : ([22, 3].all fun u => !Tryz.prog.wantsStandIn u) = true := by kernel_rfl
        exact (show Tryz.prog.wantsStandIn t = false by simpa using List.all_eq_true.1 hall t hm)⟩)
    card_goes
#print axioms card_holds
end Go.Proofs.YtllipkakgjmheaaGreatDoor.mergePicks

/- The texts FoldS of IterateWords, joined by program (tools/merge.py): walks of the functions that the law reaches, and plain facts; no condition. -/
import Derived.Test.YtajgoffeahfmfaaDoorPart07
import Derived.Test.YtajgoffeahfmfaaDoorPart17
import Derived.Test.YtajgoffeahfmfaaDoorPart09
set_option linter.unusedVariables false
set_option linter.unusedSimpArgs false

/- The walk of fold.Fold. -/
namespace Go.Proofs.YtajgoffeahfmfaaDoor
open Rep (rep)
open Go.RowKit Go.Shelf

attribute [local go_sem] Oper.semAt_some

/-- What folding makes of the rune at place x, of a text. -/
def foldAt (s : ByteArray) (x : Nat) : List UInt8 := if lowerR (rn s x) = rn s x then (s.extract x (x + wd s x)).data.toList else Lib.encodeRune (lowerR (rn s x))
def foldL (s : ByteArray) : List UInt8 := (ats s).flatMap (foldAt s)
def foldS (s : ByteArray) : ByteArray := ⟨(foldL s).toArray⟩
theorem foldAt_len (s : ByteArray) (x : Nat) : (foldAt s x).length ≤ 4 := by
  unfold foldAt
  split
  · have := wd_le s x
    rw [Lib.extract_data, List.length_take]; omega
  · have h4 := Lib.runeCells_le (lowerR (rn s x))
    rw [Lib.runeCells_length] at h4
    exact h4.2
theorem flat_len (s : ByteArray) (l : List Nat) : (l.flatMap (foldAt s)).length ≤ 4 * l.length := by
  induction l with
  | nil => simp
  | cons a l ih =>
    have := foldAt_len s a
    rw [List.flatMap_cons, List.length_append, List.length_cons]; omega

abbrev Bld (B b : Nat) (l : List UInt8) (W : World) : Prop := Lib.IsBuilder 96 5 B b (Lib.byteCells l) W
theorem Bld.grown {B b : Nat} {l : List UInt8} {W W' : World} {row : Option Nat} (h : Bld B b l W) (hg : W.grownBy W' row) (hr : ∀ r, row = some r → ∃ o : Obj, W.heap[r]? = some o ∧ o.isCells = false) : Bld B b l W' := by
  have go : ∀ p, Lib.BuilderAt 96 5 B b p (Lib.byteCells l) W → Lib.BuilderAt 96 5 B b p (Lib.byteCells l) W' := by
    rintro p ⟨hB, v, hb, ho, hne⟩
    refine ⟨hB, v, (hg.block b (Array.getElem?_eq_some_iff.1 hb).1 (fun e => ?_)).trans hb, ho.kept hg ?_, hne⟩
    · obtain ⟨o, h1, h2⟩ := hr _ e.symm
      rw [hb] at h1; cases h1; cases h2
    · cases hob : v.ownBlock with
      | none => exact .inl rfl
      | some g =>
        refine .inr (fun e => ?_)
        obtain ⟨o, h1, h2⟩ := hr _ e.symm
        rcases ho.2 with ⟨rfl, _⟩ | ⟨g', cap, cur, rfl, _, hgb, _⟩
        · cases hob
        · cases hob; rw [hgb] at h1; cases h1; cases h2
  exact h.imp (go _) (go _)
theorem Bld.on {B b : Nat} {l : List UInt8} {W W' : World} (h : Bld B b l W) (hb : Below W.heap.size W W') : Bld B b l W' := h.grown (Below.grownBy' hb) (fun _ e => by cases e)
theorem Bld.from_ {β : Type} (n0 B b : Nat) (f : β → List UInt8) : OwnFrom n0 (fun (x : β) W => Bld B b (f x) W) := fun _ _ _ _ hs hg hr => hs.grown hg (fun r e => (hr r e).2)
theorem Bld.cells {B b : Nat} {l : List UInt8} {W : World} (h : Bld B b l W) : ∃ cs, W.heap[b]? = some (.cells cs 96 (0, 0)) := by
  rcases h with ⟨_, v, hb, _⟩ | ⟨_, v, hb, _⟩ <;> exact ⟨_, hb⟩
theorem Bld.le {B b : Nat} {l : List UInt8} {W : World} (h : Bld B b l W) : B ≤ b ∧ b < W.heap.size := by
  rcases h with ⟨h1, v, hb, _⟩ | ⟨h1, v, hb, _⟩ <;> exact ⟨h1, (Array.getElem?_eq_some_iff.1 hb).1⟩
/-- What a writing method keeps. -/
theorem kept_others {b : Nat} {W W' : World} {cs : Array Value} {t : TypeId} (hk : Lib.OthersKept 5 (some b) W W') (hs : W.heap.size ≤ W'.heap.size) (hb : W.heap[b]? = some (.cells cs t (0, 0))) : KeepsOthers W W' :=
  ⟨hs, fun k o ho hc => hk k o ho (fun e => by cases e; rw [hb] at ho; cases ho; cases hc) (fun c fz e => by subst e; cases hc)⟩
theorem kept_box {b B : Nat} {t : TypeId} {v : Value} {W W' : World} (hk : Lib.OthersKept 5 (some b) W W') (h : Boxed W B t v) (hne : B ≠ b) (ht : t ≠ 5) : Boxed W' B t v :=
  hk B _ h (fun e => hne (by cases e; rfl)) (fun c fz e => ht (by cases e; rfl))
theorem extract_cells (s : ByteArray) (a b : Nat) : Lib.strCells (s.extract a b) = Lib.byteCells (s.extract a b).data.toList := Lib.strCells_eq _

set_option maxRecDepth 100000 in
set_option maxHeartbeats 2000000 in
theorem fold_any (s : ByteArray) (hs : s.size ≤ 17592186044000) (w : World) (hT : Tabs w) :
    Calls Tryd.prog 64 #[.string s] w fun e w' => e = .returned (.string (foldS s)) ∧ Below w.heap.size w w' := by
  have hal := ats_len s
  refine (callsIn_wide (n := 6)).1 ?_
  refine callsIn_of_wp_marks Tryd.func64 rfl trivial ?_ rfl
  simp only [Tryd.ntmps64, List.size_toArray, List.length_cons, List.length_nil, Nat.reduceAdd, Nat.reduceSub, Array.replicate_succ, Array.replicate_zero, List.push_toArray, List.append_toArray, List.nil_append, List.cons_append]
  gi_wp2_with (refine ⟨trivial, ?_⟩; gi_at_call 57; refine (callsIn_wide.2 (runes_any s _)).mono ?_; rintro e w2 ⟨rfl, rfl⟩)
  have bA := ((Boxed.new w 9 (.string s)).alloc (.cells #[.pointer none, .slice none 0 0] 96)).alloc (.cells #[.string s] 9)
  have bS := Boxed.new ((w.alloc (.cells #[.string s] 9)).alloc (.cells #[.pointer none, .slice none 0 0] 96)) 9 (.string s)
  have bB : Bld (w.alloc (.cells #[.string s] 9)).heap.size (w.alloc (.cells #[.string s] 9)).heap.size [] (((w.alloc (.cells #[.string s] 9)).alloc (.cells #[.pointer none, .slice none 0 0] 96)).alloc (.cells #[.string s] 9)) :=
    Bld.on (Lib.fresh_isBuilder 96 5 (w.alloc (.cells #[.string s] 9))) ((Below.refl _ _).alloc (Nat.le_refl _) _)
  simp only [World.size_alloc] at bA bS bB
  have hB0 : Below w.heap.size w (((w.alloc (.cells #[.string s] 9)).alloc (.cells #[.pointer none, .slice none 0 0] 96)).alloc (.cells #[.string s] 9)) := (((Below.refl _ w).alloc (Nat.le_refl _) _).alloc (by simp) _).alloc (by simp; omega) _
  have hsz : (((w.alloc (.cells #[.string s] 9)).alloc (.cells #[.pointer none, .slice none 0 0] 96)).alloc (.cells #[.string s] 9)).heap.size = w.heap.size + 3 := by simp
  obtain ⟨W0, hW0⟩ : ∃ W0, ((w.alloc (.cells #[.string s] 9)).alloc (.cells #[.pointer none, .slice none 0 0] 96)).alloc (.cells #[.string s] 9) = W0 := ⟨_, rfl⟩
  rw [hW0] at bA bS bB hB0 hsz ⊢
  clear hW0
  refine wpIn_rangeFunc_ok (n := 6) (F := Fence.wide) rfl (by omega) (gf := 71) (lb := #[.pointer (some ⟨w.heap.size + 1 + 1, 0, none⟩)]) rfl trivial (enters_of Tryd.func71 (by kernel_rfl) rfl)
    (runes_stops w.heap.size (w.heap.size + 1 + 1) s (by omega) w hT rfl (6 - 1) (by omega) W0 hB0 bS) KeepsS.trans (KeepsS.putObj hB0.size) (Below.refl _ _) (fun _ => rfl)
    (fun pre W => Bld (w.heap.size + 1) (w.heap.size + 1) (pre.flatMap (foldAt s)) W ∧ Boxed W w.heap.size 9 (.string s) ∧ Below w.heap.size w W ∧ W0.heap.size ≤ W.heap.size)
    (fun _ _ _ => False)
    (OwnFrom.and (Bld.from_ _ _ _ _) (OwnFrom.and (Own.from (boxed_own _ _ _) _) (OwnFrom.and (ownFrom_below (Nat.le_refl _) (by omega)) (fun _ _ _ _ hs hg _ => Nat.le_trans hs hg.size))))
    (fun _ _ _ _ _ hs _ _ => hs)
    ⟨bB, bA, hB0, Nat.le_refl _⟩
    (fun x a' _ => a' = { tmps := #[.string s, .pointer (some ⟨w.heap.size, 0, none⟩), .string { data := #[] }, .pointer (some ⟨w.heap.size + 1, 0, none⟩), .int .i64 x, .int .i32 (rn s x), undef, undef, undef, .string s, .func (.func 71) #[] #[.pointer (some ⟨w.heap.size + 1 + 1, 0, none⟩)], .int .i64 x, .int .i32 (rn s x), undef, undef, undef, undef, undef, undef, undef, undef, undef, undef, undef, undef, undef, undef, undef, undef, undef, undef, undef, undef, undef], defers := [] })
    (fun x a' _ X Y row hs hg hr => hs)
    ?assign ?body ?done ?stop
  case assign =>
    rintro l pre x W K hI hK
    simp only [runeEnc] at hK ⊢
    gi_wp2
    exact hK _ _ ((KeepsOthers.refl _).from _) ⟨Below.refl _ W, fun _ h => h⟩ hI rfl
  case body =>
    rintro l pre x a' W hl ⟨r, hr⟩ ⟨bld, bA, hB, hS⟩ rfl hok
    have hx : x < s.size := by
      have h1 : x ∈ ats s := hok.subset (by simp)
      exact (atsF_ge s _ _ x h1).2
    have hpl : (Lib.byteCells (pre.flatMap (foldAt s))).length ≤ 4 * s.size := by
      have h1 := hok.length_le
      simp at h1
      have := flat_len s pre
      rw [Lib.byteCells_length]
      omega
    have hwf := wd_fit hx
    have hwp := wd_pos hx
    have hrn := rn_le s x
    have hTW : Tabs W := hT.on hB
    have hsb := hB.size
    have hlt := bld.le.2
    obtain ⟨cs, hcs⟩ := bld.cells
    have HT := Lib.hid hTW
    have Hbld := Lib.hid bld
    have HbA := Lib.hid bA
    have HB := Lib.hid hB
    have Hcs := Lib.hid hcs
    have hBb : w.heap.size + 1 ≤ W.heap.size := by omega
    have cA := bA.cell
    obtain ⟨ru, hru⟩ : ∃ ru : Nat, rn s x = ru := ⟨_, rfl⟩
    obtain ⟨q, hq⟩ : ∃ q, lowerR (ru : Int) = q := ⟨_, rfl⟩
    have hqr := lowerR_range (ru : Int) (by omega) (by omega)
    rw [hq] at hqr
    rw [hru] at hrn ⊢
    have Hru := Lib.hid hru
    have Hq := Lib.hid hq
    clear hTW hT bld bA hB hcs bS bB hB0 hok hr hru hq
    have Hes : Hid ((s.extract x (x + wd s x)).size = wd s x) := by show _ = _; rw [ByteArray.size_extract]; omega
    by_cases heq : q = (ru : Int)
    · subst heq
      have Hfin : Hid (foldAt s x = (s.extract x (x + wd s x)).data.toList) := by show _ = _; unfold foldAt; rw [Hru.out, Hq.out, if_pos rfl]
      gi_wp2_with (first
        | (refine ⟨trivial, ?_⟩; gi_at_call 79; go_must (refine (CallsIn.inRound l (callsIn_wide.2 (lower_any (ru : Int) (by omega) (by omega) _))).mono ?_); rw [Hq.out]; rintro e w3 ⟨rfl, rfl⟩)
        | (refine ⟨trivial, ?_⟩
           gi_at_call 67
           go_must (refine (CallsIn.inRound l (callsIn_wide.2 (next_any s x hx (by omega) _ HT.out))).mono ?_)
           rintro e w3 ⟨rfl, hb3⟩
           have hbld3 := Hbld.out.on hb3
           have hbA3 := Boxed.on HbA.out hb3
           have cA3 := hbA3.cell
           have Hb3 := Lib.hid hb3
           have Hbld3 := Lib.hid hbld3
           have HbA3 := Lib.hid hbA3
           have hs3 := hb3.size
           clear hb3 hbld3 hbA3)
        | (refine ⟨trivial, ?_⟩
           gi_at_call 68
           go_must (refine (CallsIn.inRound l (callsIn_wide.2 (writeString_any (w.heap.size + 1) (w.heap.size + 1) _ _ w3 Hbld3.out (by have := Hes.out; have := wd_le s x; omega) (by omega)))).mono ?_)
           rintro e w4 ⟨rfl, h4, b4, k4⟩))
      have hk : KeepsOthers W w4 := (KeepsOthers.of_grownBy (Below.grownBy' Hb3.out) (fun _ _ e _ => by cases e)).trans (by obtain ⟨cs3, hcs3⟩ := Hbld3.out.cells; exact kept_others k4 b4.size hcs3)
      have hbb : Below w.heap.size W w4 := (Hb3.out.mono (by omega)).trans (b4.mono (by omega))
      refine ⟨hk.from _, ⟨hbb, fun u hu => kept_box k4 (Boxed.on hu Hb3.out) (by omega) (by decide)⟩, ?_, kept_box k4 HbA3.out (by omega) (by decide), HB.out.trans hbb, Nat.le_trans hS hbb.size⟩
      rw [List.flatMap_append, List.flatMap_singleton, Hfin.out]
      rw [extract_cells] at h4
      show Lib.IsBuilder _ _ _ _ _ _
      rw [Lib.byteCells_append]
      exact .inr h4
    · have Hfin : Hid (foldAt s x = Lib.encodeRune q) := by show _ = _; unfold foldAt; rw [Hru.out, Hq.out, if_neg heq]
      have hne : (q != (ru : Int)) = true := by simpa using heq
      have hrl := Lib.runeCells_le q
      clear heq
      gi_wp2_with (first
        | (refine ⟨trivial, ?_⟩; gi_at_call 79; go_must (refine (CallsIn.inRound l (callsIn_wide.2 (lower_any (ru : Int) (by omega) (by omega) _))).mono ?_); rw [Hq.out]; rintro e w3 ⟨rfl, rfl⟩)
        | (refine ⟨trivial, ?_⟩
           gi_at_call 80
           go_must (refine (CallsIn.inRound l (callsIn_wide.2 (writeRune_any (w.heap.size + 1) (w.heap.size + 1) _ q (by omega) (by omega) _ Hbld.out (by omega) (by omega)))).mono ?_)
           rintro e w4 ⟨rfl, h4, b4, k4⟩))
      have hk : KeepsOthers W w4 := kept_others k4 b4.size Hcs.out
      have hbb : Below w.heap.size W w4 := b4.mono (by omega)
      refine ⟨hk.from _, ⟨hbb, fun u hu => kept_box k4 hu (by omega) (by decide)⟩, ?_, kept_box k4 HbA.out (by omega) (by decide), HB.out.trans hbb, Nat.le_trans hS hbb.size⟩
      rw [List.flatMap_append, List.flatMap_singleton, Hfin.out]
      show Lib.IsBuilder _ _ _ _ _ _
      rw [Lib.byteCells_append, Lib.byteCells_encodeRune]
      exact .inr h4
  case done =>
    rintro D ys W hD rfl ⟨bld, bA, hB, hS⟩ hK
    have hlt := bld.le
    have Hbld := Lib.hid bld
    have HB := Lib.hid hB
    have HK := Lib.hid hK
    clear bld bA hB hK hT bS bB hB0
    gi_wp2_with (refine ⟨trivial, ?_⟩
                 gi_at_call 69
                 go_must (refine (callsIn_wide.2 (Tryd.Builder_String_any_k (w.heap.size + 1) (w.heap.size + 1) (foldL s) _ (Lib.IsBuilderF.of Hbld.out) (by omega))).mono ?_)
                 rintro e w4 ⟨rfl, _, b4, k4⟩)
    have hK4 : w4.heap[D]? = some (.deferred (some [])) := by
      obtain ⟨cs, hcs⟩ := Hbld.out.cells
      exact (kept_others k4 b4.size hcs).same D _ HK.out rfl
    refine ⟨by simp, .inl ⟨_, _, rfl, run_takeDeferred hK4, ?_⟩⟩
    exact ⟨_, results_tmp rfl _ _ _, rfl, (HB.out.trans (b4.mono (by omega))).trans (belowK_b (w := w) (Nat.le_refl _) w4 D _ _ (by omega) hK4 rfl rfl)⟩
  case stop =>
    rintro D c pre W _ _ h _
    exact h.elim
end Go.Proofs.YtajgoffeahfmfaaDoor

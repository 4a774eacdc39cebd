/- The texts Run6P of IterateWords, joined by program (tools/merge.py): walks of the functions that the law reaches, and plain facts; no condition. -/
import Derived.Test.YtajgoffeahfmfaaDoorPart24
set_option linter.unusedVariables false
set_option linter.unusedSimpArgs false

/- What analysis.Run answers, and the lengths of its texts. -/
namespace Go.Proofs.YtajgoffeahfmfaaDoor
open Rep (rep)
open Go.RowKit

def lk (o : Option (List Token)) (n : Int) : Option (List Token) := o.bind fun l => if (linkL n l).length ≤ 4096 then some (linkL n l) else none
def lks (t : List Int) (toks : List Token) : Option (List Token) := t.foldl lk (some toks)
def runT (xs : List Int) (s : ByteArray) : List Token :=
  match xs with
  | [] => []
  | a :: t => if chainB (a :: t) = true ∧ s.size ≤ 4096 ∧ (tokensL a s).length ≤ 4096 then (lks t (tokensL a s)).getD [] else []
theorem lks_none (t : List Int) : t.foldl lk none = none := by
  induction t with
  | nil => rfl
  | cons a t ih => exact ih
theorem lks_succ {t : List Int} {toks : List Token} {j : Nat} {y : Int} (h : t[j]? = some y) : lks (t.take (j + 1)) toks = lk (lks (t.take j) toks) y := by
  unfold lks
  rw [List.take_add_one, h, Option.toList_some, List.foldl_append]; rfl
theorem lks_dead {t : List Int} {toks : List Token} {j : Nat} (h : lks (t.take j) toks = none) : lks t toks = none := by
  have : lks t toks = (t.drop j).foldl lk (lks (t.take j) toks) := by unfold lks; rw [← List.foldl_append, List.take_append_drop]
  rw [this, h, lks_none]
theorem extract_small (s : ByteArray) (a b : Nat) : (s.extract a b).size ≤ s.size := by rw [ByteArray.size_extract]; omega
theorem oneL_small (n : Int) (t : Token) : ∀ t' ∈ oneL n t, t'.text.size ≤ 4 * t.text.size := by
  intro t' ht
  unfold oneL at ht
  have hg : ∀ k, t' ∈ gramsT k t → t'.text.size ≤ t.text.size := by
    intro k hk
    unfold gramsT at hk
    split at hk
    · simp at hk; subst hk; exact Nat.le_refl _
    · have : ∀ j, t' ∈ gramsTo t (places t.text) k j → t'.text.size ≤ t.text.size := by
        intro j
        induction j with
        | zero => intro h; cases h
        | succ j ih =>
          intro h
          simp only [gramsTo, List.mem_append, List.mem_singleton] at h
          rcases h with h | rfl
          · exact ih h
          · exact extract_small _ _ _
      exact this _ hk
  split at ht
  · simp at ht; subst ht
    show (foldS t.text).size ≤ _
    have h1 := flat_len t.text (ats t.text)
    have h2 := ats_len t.text
    have : (foldS t.text).size = (foldL t.text).length := by simp [foldS, ByteArray.size]
    rw [this]; unfold foldL; omega
  split at ht
  · unfold stopTok at ht
    split at ht
    · cases ht
    · simp at ht; subst ht; omega
  split at ht
  · have := hg 2 ht; omega
  split at ht
  · have := hg 3 ht; omega
  split at ht
  · simp at ht; subst ht
    have : (shortT t).text.size ≤ t.text.size := by
      unfold shortT
      split
      · exact extract_small _ _ _
      · exact Nat.le_refl _
    omega
  split at ht
  · unfold marksT at ht
    split at ht
    · cases ht
    · simp at ht; subst ht
      have h1 := marksTo_len t.text ((places t.text).length - 1) t.text.size (by simp [places])
      have : (ByteArray.mk (marksL t.text).toArray).size = (marksL t.text).length := by simp [ByteArray.size]
      show (ByteArray.mk (marksL t.text).toArray).size ≤ _
      rw [this]; unfold marksL; omega
  · cases ht
def Small (m : Nat) (l : List Token) : Prop := ∀ t ∈ l, t.text.size ≤ m
theorem linkL_small {n : Int} {l : List Token} {m : Nat} (h : Small m l) : Small (4 * m) (linkL n l) := by
  intro t ht
  unfold linkL at ht
  obtain ⟨u, hu, ht⟩ := List.mem_flatMap.1 ht
  have := oneL_small n u t ht
  have := h u hu
  omega
theorem tokensL_small (n : Int) (s : ByteArray) : Small s.size (tokensL n s) := by
  have hr : ∀ p b, Small s.size (runsL s p b) := fun p b t ht => (runsL_part s p b t ht).size.1
  unfold tokensL
  split
  · exact hr _ _
  split
  · exact hr _ _
  split
  · exact hr _ _
  · unfold gramsL
    have hp : ∀ (t : Token) p n out, t.text.size ≤ s.size → Small s.size out → ∀ i, Small s.size (piecesTo t p n out i) := by
      intro t p n out h1 h2 i
      induction i with
      | zero => exact h2
      | succ i ih =>
        intro u hu
        simp only [piecesTo, List.mem_append, List.mem_singleton] at hu
        rcases hu with hu | rfl
        · exact ih u hu
        · exact Nat.le_trans (extract_small _ _ _) h1
    have : ∀ (l : List Token) out, Small s.size l → Small s.size out → Small s.size (l.foldl gramsOne out) := by
      intro l
      induction l with
      | nil => intro out _ h; exact h
      | cons a l ih =>
        intro out h1 h2
        exact ih _ (fun t ht => h1 t (List.mem_cons_of_mem _ ht)) (hp a _ _ _ (h1 a List.mem_cons_self) h2 _)
    exact this _ _ (hr _ _) (fun t ht => by cases ht)
theorem chain_filter {a : Int} {t : List Int} (h : chainB (a :: t) = true) {j : Nat} {y : Int} (hy : t[j]? = some y) : isFilter y = true := by
  simp only [chainB, Bool.and_eq_true, List.all_eq_true, List.mem_range] at h
  have := h.2 j (lt_of_get? hy)
  simp only [stepOk, hy, Bool.and_eq_true] at this
  exact this.1
theorem chain_len {a : Int} {t : List Int} (h : chainB (a :: t) = true) : t.length ≤ 7 := by
  simp only [chainB, Bool.and_eq_true, decide_eq_true_eq] at h
  omega
theorem runT_long {xs : List Int} {s : ByteArray} (h : ¬ s.size ≤ 4096) : runT xs s = [] := by
  cases xs with
  | nil => rfl
  | cons a t => exact if_neg (fun hh => h hh.2.1)
theorem runT_bad {xs : List Int} {s : ByteArray} (h : chainB xs = false) : runT xs s = [] := by
  cases xs with
  | nil => rfl
  | cons a t => exact if_neg (fun hh => by rw [h] at hh; cases hh.1)
theorem runT_ok {a : Int} {t : List Int} {s : ByteArray} {toks : List Token} (h : chainB (a :: t) = true) (hs : s.size ≤ 4096) (ht : tokensL a s = toks) : runT (a :: t) s = if toks.length ≤ 4096 then (lks t toks).getD [] else [] := by
  subst ht
  unfold runT
  by_cases hh : (tokensL a s).length ≤ 4096
  · rw [if_pos hh]; exact if_pos ⟨h, hs, hh⟩
  · rw [if_neg hh]; exact if_neg (fun k => hh k.2.2)
end Go.Proofs.YtajgoffeahfmfaaDoor

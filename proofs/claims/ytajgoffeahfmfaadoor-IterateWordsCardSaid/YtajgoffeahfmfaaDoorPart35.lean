/- The texts RRunsP of IterateWords, joined by program (tools/merge.py): walks of the functions that the law reaches, and plain facts; no condition. -/
import Derived.Test.YtajgoffeahfmfaaDoorPart16
import Derived.Test.YtajgoffeahfmfaaDoorPart09
set_option linter.unusedVariables false
set_option linter.unusedSimpArgs false

/- Runs by their ends, over numbers of runes; pairs of numbers in memory. No program stands here but for a type's facts. -/
namespace Go.Proofs.YtajgoffeahfmfaaDoor
open Rep (rep)
open Go.RowKit

instance : Rep (Nat × Nat) where
  size := 2
  pos := by decide
  rep _ _ cs p := cs = [.int .i64 (p.1 : Int), .int .i64 (p.2 : Int)]
  len := by rintro _ _ _ _ rfl; rfl
  keep := fun h _ _ => h
  one := by rintro _ _ _ _ _ rfl hu; simp at hu; rcases hu with rfl | rfl <;> rfl
theorem ElemAt.pair {w : World} {F : Nat → Prop} {b off k : Nat} {p : Nat × Nat} (h : ElemAt w F b off k p) : w.cell? ⟨b, off + k * 2, none⟩ = some (.int .i64 (p.1 : Int)) ∧ w.cell? ⟨b, off + k * 2 + 1, none⟩ = some (.int .i64 (p.2 : Int)) := by
  obtain ⟨cs, rfl, hc⟩ := h
  exact ⟨hc 0 _ rfl, hc 1 _ rfl⟩
theorem pair_info : (Tryd.prog.info? 80).map (fun i => (i.zero, i.size, i.bytes)) = some (some (.agg #[.int .i64 0, .int .i64 0]), 2, 16) := by kernel_rfl

def closeC (st : List (Nat × Nat) × Option Nat) (i : Nat) : List (Nat × Nat) := match st.2 with | none => st.1 | some f => st.1 ++ [(f, i)]
def stepC (m b : Int → Bool) (r : Int) (st : List (Nat × Nat) × Option Nat) (i : Nat) : List (Nat × Nat) × Option Nat :=
  if m r = false then (closeC st i, none) else if st.2 = none ∧ b r = true then (st.1, some i) else st
def stC (m b : Int → Bool) (l : List Int) : Nat → List (Nat × Nat) × Option Nat
  | 0 => ([], none)
  | i + 1 => stepC m b (l[i]?.getD 0) (stC m b l i) i
def runC (m b : Int → Bool) (l : List Int) : List (Nat × Nat) := closeC (stC m b l l.length) l.length
def mN (number r : Int) : Bool := if number = 2 then notBlank r else wordMark r
def bN (number r : Int) : Bool := if number = 2 then true else wordB r
/-- What the outer loop has at place i. -/
def OutI (m b : Int → Bool) (l : List Int) (i : Nat) (out : List (Nat × Nat)) : Prop :=
  stC m b l i = (out, none) ∨ ∃ f out', stC m b l i = (out', some f) ∧ out = out' ++ [(f, i)] ∧ (i = l.length ∨ ∃ r, l[i]? = some r ∧ m r = false)
def InI (m b : Int → Bool) (l : List Int) (i k : Nat) (out : List (Nat × Nat)) : Prop := (k = i ∧ stC m b l i = (out, none) ∧ ∃ r, l[i]? = some r ∧ b r = true) ∨ (i < k ∧ stC m b l k = (out, some i))
section
variable {m b : Int → Bool} {l : List Int} {i k : Nat} {out : List (Nat × Nat)} {r : Int}
theorem OutI.zero : OutI m b l 0 [] := .inl rfl
theorem OutI.done (h : OutI m b l l.length out) : runC m b l = out := by
  unfold runC
  rcases h with h | ⟨f, o, h, rfl, _⟩ <;> rw [h] <;> rfl
theorem OutI.out_m (h : OutI m b l i out) (hr : l[i]? = some r) (hm : m r = false) : OutI m b l (i + 1) out := by
  refine .inl ?_
  show stepC m b (l[i]?.getD 0) (stC m b l i) i = _
  rw [hr, Option.getD_some]
  unfold stepC
  rw [if_pos hm]
  rcases h with h | ⟨f, o, h, rfl, _⟩ <;> rw [h] <;> rfl
theorem OutI.free (h : OutI m b l i out) (hr : l[i]? = some r) (hm : m r = true) : stC m b l i = (out, none) := by
  rcases h with h | ⟨f, o, h, rfl, h2 | ⟨r', h2, h3⟩⟩
  · exact h
  · rw [h2, List.getElem?_eq_none (Nat.le_refl _)] at hr; cases hr
  · cases hr.symm.trans h2; rw [hm] at h3; cases h3
theorem OutI.out_b (h : OutI m b l i out) (hr : l[i]? = some r) (hm : m r = true) (hb : b r = false) : OutI m b l (i + 1) out := by
  refine .inl ?_
  show stepC m b (l[i]?.getD 0) (stC m b l i) i = _
  rw [hr, Option.getD_some, h.free hr hm]
  unfold stepC
  rw [if_neg (by simp [hm]), if_neg (by simp [hb])]
theorem OutI.in_ (h : OutI m b l i out) (hr : l[i]? = some r) (hm : m r = true) (hb : b r = true) : InI m b l i i out := .inl ⟨rfl, h.free hr hm, r, hr, hb⟩
theorem InI.le (h : InI m b l i k out) : i ≤ k := by rcases h with ⟨rfl, _⟩ | ⟨h, _⟩ <;> omega
theorem InI.step (h : InI m b l i k out) (hr : l[k]? = some r) (hm : m r = true) : InI m b l i (k + 1) out := by
  refine .inr ⟨by have := h.le; omega, ?_⟩
  show stepC m b (l[k]?.getD 0) (stC m b l k) k = _
  rw [hr, Option.getD_some]
  unfold stepC
  rw [if_neg (by simp [hm])]
  rcases h with ⟨rfl, h, r', h2, h3⟩ | ⟨_, h⟩
  · cases hr.symm.trans h2
    rw [h, if_pos ⟨rfl, h3⟩]
  · rw [h, if_neg (by simp)]
theorem InI.close (h : InI m b l i k out) (hi : i < l.length) (hk : k = l.length ∨ ∃ r, l[k]? = some r ∧ m r = false ∧ i ≠ k) : OutI m b l k (out ++ [(i, k)]) := by
  rcases h with ⟨rfl, h, _⟩ | ⟨h, h2⟩
  · rcases hk with hk | ⟨r, _, _, h3⟩
    · omega
    · exact absurd rfl h3
  · exact .inr ⟨i, out, h2, rfl, hk.imp id fun ⟨r, h3, h4, _⟩ => ⟨r, h3, h4⟩⟩
theorem stC_len (m b : Int → Bool) (l : List Int) : ∀ i, (stC m b l i).1.length + (match (stC m b l i).2 with | none => 0 | some _ => 1) ≤ i
  | 0 => by simp [stC]
  | i + 1 => by
    have ih := stC_len m b l i
    show (stepC m b (l[i]?.getD 0) (stC m b l i) i).1.length + _ ≤ _
    rw [show stC m b l (i + 1) = stepC m b (l[i]?.getD 0) (stC m b l i) i from rfl]
    rcases hst : stC m b l i with ⟨o, _ | f⟩ <;> rw [hst] at ih <;> simp only at ih <;> unfold stepC closeC <;> repeat' split
    all_goals (try simp_all) <;> omega
theorem OutI.len (h : OutI m b l i out) : out.length ≤ i := by
  have := stC_len m b l i
  rcases h with h | ⟨f, o, h, rfl, _⟩ <;> rw [h] at this <;> simp at this ⊢ <;> omega
theorem InI.len (h : InI m b l i k out) : out.length ≤ k := by
  rcases h with ⟨rfl, h, _⟩ | ⟨h, h2⟩
  · exact OutI.len (.inl h)
  · have := stC_len m b l k
    rw [h2] at this; simp at this; omega
end
end Go.Proofs.YtajgoffeahfmfaaDoor

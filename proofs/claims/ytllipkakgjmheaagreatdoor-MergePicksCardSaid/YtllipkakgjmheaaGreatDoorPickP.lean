/- Plain law of a merge's pick: windows of sizes, each held at 0 and just above the most; the first least one. No program stands here. -/
import Derived.Test.YtllipkakgjmheaaGreatDoorKit
set_option linter.unusedVariables false
set_option linter.unusedSimpArgs false
namespace Go.Proofs.YtllipkakgjmheaaGreatDoor
open Go.RowKit

def capN (n : Int) : Int := if n < 0 then 0 else if 16385 < n then 16385 else n
theorem capN_bd (n : Int) : 0 ≤ capN n ∧ capN n ≤ 16385 := by
  unfold capN; split
  · omega
  · split <;> omega
def suml : List Int → Int
  | [] => 0
  | x :: l => x + suml l
theorem suml_app (a b : List Int) : suml (a ++ b) = suml a + suml b := by
  induction a with
  | nil => simp [suml]
  | cons x a ih => simp only [List.cons_append, suml, ih]; omega
/-- the first j of the window at i -/
def wsum (xs : List Int) (i j : Nat) : Int := suml (((xs.drop i).take j).map capN)
theorem wsum_zero (xs : List Int) (i : Nat) : wsum xs i 0 = 0 := rfl
theorem wsum_step {xs : List Int} {i j : Nat} {x : Int} (h : xs[i + j]? = some x) : wsum xs i (j + 1) = wsum xs i j + capN x := by
  unfold wsum
  rw [List.take_add_one, List.getElem?_drop, h]
  simp only [Option.toList, List.map_append, suml_app, List.map_cons, List.map_nil, suml]
  omega
theorem suml_bd (l : List Int) (h : ∀ x ∈ l, 0 ≤ x ∧ x ≤ 16385) : 0 ≤ suml l ∧ suml l ≤ 16385 * l.length := by
  induction l with
  | nil => simp [suml]
  | cons x l ih =>
    have h1 := h x (List.mem_cons_self ..)
    have h2 := ih fun y hy => h y (List.mem_cons_of_mem _ hy)
    simp only [suml, List.length_cons]
    omega
theorem wsum_bd (xs : List Int) (i j : Nat) : 0 ≤ wsum xs i j ∧ wsum xs i j ≤ 16385 * j := by
  have := suml_bd (((xs.drop i).take j).map capN) (fun x hx => by
    obtain ⟨y, _, rfl⟩ := List.mem_map.1 hx
    exact capN_bd y)
  have hl : (((xs.drop i).take j).map capN).length ≤ j := by simp; omega
  unfold wsum
  omega
/-- the best window among the first: its sum, and where it begins -/
def pk (xs : List Int) (m : Nat) : Nat → Int × Int
  | 0 => (16385, -1)
  | i + 1 => if wsum xs i m < (pk xs m i).1 then (wsum xs i m, (i : Int)) else pk xs m i
theorem pk_lt {xs : List Int} {m i : Nat} {b a : Int} (h : pk xs m i = (b, a)) (hl : wsum xs i m < b) : pk xs m (i + 1) = (wsum xs i m, (i : Int)) := by
  rw [pk, h]; exact if_pos hl
theorem pk_ge {xs : List Int} {m i : Nat} {b a : Int} (h : pk xs m i = (b, a)) (hl : ¬ wsum xs i m < b) : pk xs m (i + 1) = (b, a) := by
  rw [pk, h]; exact if_neg hl
theorem pk_bd (xs : List Int) (m : Nat) : ∀ (i : Nat) (b a : Int), pk xs m i = (b, a) → (a = -1 ∧ b = 16385) ∨ (0 ≤ a ∧ a < i ∧ 0 ≤ b ∧ b ≤ 16384)
  | 0, b, a, h => by cases h; left; exact ⟨rfl, rfl⟩
  | i + 1, b, a, h => by
    obtain ⟨b0, a0⟩ : Int × Int := pk xs m i
    obtain ⟨p, hp⟩ : ∃ p, pk xs m i = p := ⟨_, rfl⟩
    obtain ⟨b1, a1⟩ := p
    have ih := pk_bd xs m i b1 a1 hp
    have hb := wsum_bd xs i m
    by_cases hl : wsum xs i m < b1
    · rw [pk_lt hp hl] at h
      cases h
      right
      rcases ih with ⟨_, rfl⟩ | ⟨_, _, _, _⟩ <;> omega
    · rw [pk_ge hp hl] at h
      cases h
      rcases ih with h | h
      · left; exact h
      · right; omega
/-- what is picked -/
def picked (xs : List Int) (n : Int) : Int × Int :=
  if n < 2 ∨ 16 < n then (0, 0) else
    if (pk xs n.toNat (xs.length + 1 - n.toNat)).2 < 0 then (0, 0) else ((pk xs n.toNat (xs.length + 1 - n.toNat)).2, (pk xs n.toNat (xs.length + 1 - n.toNat)).2 + n)
end Go.Proofs.YtllipkakgjmheaaGreatDoor

/- Plain arithmetic for the statement ScoreNumbers: sums and products that are held, a logarithm, a quotient of 128 bits. No program stands here. -/
import Derived.IntWalk
import Derived.Laws.Bits64b
namespace Go.Proofs.Ytnngapfbeappcaa.ScoreMath
open Go.RowKit

/-- A number held between the least and the greatest of 64 bits. -/
def held (n : Int) : Int := if 9223372036854775807 < n then 9223372036854775807 else if n < -9223372036854775808 then -9223372036854775808 else n

theorem held_hi {n : Int} (h : 9223372036854775807 < n) : held n = 9223372036854775807 := by unfold held; rw [if_pos h]
theorem held_lo {n : Int} (h : n < -9223372036854775808) : held n = -9223372036854775808 := by
  unfold held; rw [if_neg (by omega), if_pos h]
theorem held_in {n : Int} (h : -9223372036854775808 ≤ n ∧ n ≤ 9223372036854775807) : held n = n := by
  unfold held; rw [if_neg (by omega), if_neg (by omega)]

/-! ### the quotient that tells whether a product has wrapped -/
theorem tdiv_bound (c b : Int) (hb : 2 ≤ b.natAbs) (hc : c.natAbs ≤ 9223372036854775808) : -4611686018427387904 ≤ c.tdiv b ∧ c.tdiv b ≤ 4611686018427387904 := by
  have h : (c.tdiv b).natAbs = c.natAbs / b.natAbs := Int.natAbs_tdiv c b
  have h2 : c.natAbs / b.natAbs ≤ 9223372036854775808 / 2 := Nat.div_le_div hc hb (by omega)
  omega

theorem wrapped_mod (n : Int) : ∃ k : Int, wrap64 n = n + 18446744073709551616 * k := by
  refine ⟨-((n + 9223372036854775808) / 18446744073709551616), ?_⟩
  unfold wrap64; omega

theorem wrap64_bd (n : Int) : -9223372036854775808 ≤ wrap64 n ∧ wrap64 n ≤ 9223372036854775807 := by unfold wrap64; omega

theorem times_over (a b : Int) (ha : -9223372036854775808 ≤ a ∧ a ≤ 9223372036854775807) (hb : -9223372036854775808 ≤ b ∧ b ≤ 9223372036854775807)
    (hb0 : b ≠ 0) (hout : a * b < -9223372036854775808 ∨ 9223372036854775807 < a * b) (hx : ¬ (b = -1 ∧ a = -9223372036854775808)) :
    wrap64 ((wrap64 (a * b)).tdiv b) ≠ a := by
  intro h
  obtain ⟨k, hk⟩ := wrapped_mod (a * b)
  have hbd := wrap64_bd (a * b)
  generalize wrap64 (a * b) = c at *
  by_cases h1 : b = 1
  · subst h1; rw [Int.mul_one] at *; omega
  · by_cases hm : b = -1
    · subst hm; rw [Int.mul_neg, Int.mul_one] at *; omega
    · have hbn : 2 ≤ b.natAbs := by omega
      have hq := tdiv_bound c b hbn (by omega)
      rw [IntWalk.wrap64_in _ (by omega)] at h
      have hdm := Int.mul_tdiv_add_tmod c b
      have hr : (c.tmod b).natAbs < b.natAbs := by rw [Int.natAbs_tmod]; exact Nat.mod_lt _ (by omega)
      rw [h, Int.mul_comm b a] at hdm
      generalize a * b = p at *
      have : k = 0 := by omega
      subst this
      omega

theorem times_in (a b : Int) (ha : -9223372036854775808 ≤ a ∧ a ≤ 9223372036854775807) (hb0 : b ≠ 0)
    (hin : -9223372036854775808 ≤ a * b ∧ a * b ≤ 9223372036854775807) : wrap64 ((wrap64 (a * b)).tdiv b) = a := by
  rw [IntWalk.wrap64_in (a * b) hin, Int.mul_tdiv_cancel _ hb0, IntWalk.wrap64_in a ha]

theorem wrap_hi {n : Int} (h : 9223372036854775807 < n) (h2 : n ≤ 18446744073709551614) : wrap64 n < 0 := by unfold wrap64; omega
theorem wrap_lo {n : Int} (h : n < -9223372036854775808) (h2 : -18446744073709551616 ≤ n) : 0 ≤ wrap64 n := by unfold wrap64; omega

theorem mul_pp {a b : Int} (ha : 0 ≤ a) (hb : 0 ≤ b) : 0 ≤ a * b := Int.mul_nonneg ha hb
theorem mul_nn {a b : Int} (ha : a < 0) (hb : b < 0) : 0 ≤ a * b := Int.mul_nonneg_of_nonpos_of_nonpos (by omega) (by omega)
theorem mul_np {a b : Int} (ha : a < 0) (hb : 0 ≤ b) : a * b ≤ 0 := Int.mul_nonpos_of_nonpos_of_nonneg (by omega) hb
theorem mul_pn {a b : Int} (ha : 0 ≤ a) (hb : b < 0) : a * b ≤ 0 := Int.mul_nonpos_of_nonneg_of_nonpos ha (by omega)

theorem neg_back (lo : Nat) (h : lo ≤ 9223372036854775808) : wrap64 (IntKind.u64.wrap (-(lo : Int))) = -(lo : Int) := by
  rw [IntKind.wrap_u64]; unfold wrap64; omega

theorem ret_int {k : IntKind} {a b : Int} (h : a = b) : Ending.returned (.int k a) = Ending.returned (.int k b) := by rw [h]

end Go.Proofs.Ytnngapfbeappcaa.ScoreMath

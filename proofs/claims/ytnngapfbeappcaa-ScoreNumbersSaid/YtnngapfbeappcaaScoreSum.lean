/- The walks of score.Sum, lecternref21.Sum, score.Times, lecternref21.Times. -/
import Derived.Test.YtnngapfbeappcaaRows
import Derived.Test.YtnngapfbeappcaaScoreMath
import Derived.WalkKit
import Derived.WalkSpells
import Derived.WalkLawsBesides
namespace Go.Proofs.Ytnngapfbeappcaa
open Go.RowKit ScoreMath

set_option maxHeartbeats 400000 in
theorem sum_any (a b : Int) (ha : -9223372036854775808 ≤ a ∧ a ≤ 9223372036854775807) (hb : -9223372036854775808 ≤ b ∧ b ≤ 9223372036854775807) (w : World) :
    Calls Try.prog 21 #[.int .i64 a, .int .i64 b] w fun e w' => e = .returned (.int .i64 (held (a + b))) ∧ w = w' := by
  by_cases h1 : 9223372036854775807 < a + b
  · rw [held_hi h1]
    have hw := wrap_hi h1 (by omega)
    go_enter Try.func21, Try.ntmps21
    go_wp2
    go_ret
    exact ⟨rfl, rfl⟩
  · by_cases h2 : a + b < -9223372036854775808
    · rw [held_lo h2]
      have hw := wrap_lo h2 (by omega)
      go_enter Try.func21, Try.ntmps21
      go_wp2
      go_ret
      exact ⟨rfl, rfl⟩
    · rw [held_in (by omega)]
      go_enter Try.func21, Try.ntmps21
      go_wp2
      all_goals (go_ret; exact ⟨rfl, rfl⟩)

set_option maxHeartbeats 400000 in
theorem rsum_any (a b : Int) (ha : -9223372036854775808 ≤ a ∧ a ≤ 9223372036854775807) (hb : -9223372036854775808 ≤ b ∧ b ≤ 9223372036854775807) (w : World) :
    Calls Try.prog 22 #[.int .i64 a, .int .i64 b] w fun e w' => e = .returned (.int .i64 (held (a + b))) ∧ w = w' := by
  by_cases h1 : 9223372036854775807 < a + b
  · rw [held_hi h1]
    go_enter Try.func22, Try.ntmps22
    go_wp2
    go_ret
    exact ⟨rfl, rfl⟩
  · by_cases h2 : a + b < -9223372036854775808
    · rw [held_lo h2]
      go_enter Try.func22, Try.ntmps22
      go_wp2
      go_ret
      exact ⟨rfl, rfl⟩
    · rw [held_in (by omega)]
      go_enter Try.func22, Try.ntmps22
      go_wp2
      all_goals (go_ret; exact ⟨rfl, rfl⟩)

set_option maxHeartbeats 1000000 in
theorem rtimes_any (a b : Int) (ha : -9223372036854775808 ≤ a ∧ a ≤ 9223372036854775807) (hb : -9223372036854775808 ≤ b ∧ b ≤ 9223372036854775807) (w : World) :
    Calls Try.prog 24 #[.int .i64 a, .int .i64 b] w fun e w' => e = .returned (.int .i64 (held (a * b))) ∧ w = w' := by
  by_cases ha0 : a = 0
  · subst ha0
    rw [Int.zero_mul, held_in (by omega)]
    go_enter Try.func24, Try.ntmps24
    go_wp2
    all_goals (go_ret; exact ⟨rfl, rfl⟩)
  by_cases hb0 : b = 0
  · subst hb0
    rw [Int.mul_zero, held_in (by omega)]
    go_enter Try.func24, Try.ntmps24
    go_wp2
    all_goals (go_ret; exact ⟨rfl, rfl⟩)
  have ha0' : (a == 0) = false := by simp [ha0]
  have hb0' : (b == 0) = false := by simp [hb0]
  by_cases hin : -9223372036854775808 ≤ a * b ∧ a * b ≤ 9223372036854775807
  · rw [held_in hin]
    have hq : (a * b).tdiv b = a := Int.mul_tdiv_cancel _ hb0
    by_cases hb1 : b = -1
    · subst hb1
      have hlo : (a == -9223372036854775808) = false := by simp; omega
      by_cases ha1 : a = -1
      · subst ha1
        go_enter Try.func24, Try.ntmps24
        go_wp2
        all_goals (go_ret; exact ⟨rfl, rfl⟩)
      · have ha1' : (a == -1) = false := by simp [ha1]
        have e : a * -1 = -a := by omega
        rw [e] at *
        go_enter Try.func24, Try.ntmps24
        go_wp2
        all_goals (go_ret; exact ⟨rfl, rfl⟩)
    · have hb1' : (b == -1) = false := by simp [hb1]
      by_cases ha1 : a = -1
      · subst ha1
        have hlo : (b == -9223372036854775808) = false := by simp; omega
        have e : -1 * b = -b := by omega
        rw [e] at *
        go_enter Try.func24, Try.ntmps24
        go_wp2
        all_goals (go_ret; exact ⟨rfl, rfl⟩)
      · have ha1' : (a == -1) = false := by simp [ha1]
        go_enter Try.func24, Try.ntmps24
        go_wp2
        all_goals (go_ret; exact ⟨rfl, rfl⟩)
  · by_cases hx1 : b = -1 ∧ a = -9223372036854775808
    · obtain ⟨rfl, rfl⟩ := hx1
      rw [held_hi (by omega)]
      go_enter Try.func24, Try.ntmps24
      go_wp2
      all_goals (go_ret; exact ⟨rfl, rfl⟩)
    by_cases hx2 : a = -1 ∧ b = -9223372036854775808
    · obtain ⟨rfl, rfl⟩ := hx2
      rw [held_hi (by omega)]
      go_enter Try.func24, Try.ntmps24
      go_wp2
      all_goals (go_ret; exact ⟨rfl, rfl⟩)
    have hq' := times_over a b ha hb hb0 (by omega) hx1
    have hq : (wrap64 ((wrap64 (a * b)).tdiv b) == a) = false := by simp [hq']
    clear hq'
    by_cases ha1 : a < 0 <;> by_cases hb1 : b < 0
    · have := mul_nn ha1 hb1
      rw [held_hi (by omega)]
      go_enter Try.func24, Try.ntmps24
      go_wp2
      all_goals (go_ret; exact ⟨rfl, rfl⟩)
    · have := mul_np ha1 (Int.not_lt.1 hb1)
      rw [held_lo (by omega)]
      go_enter Try.func24, Try.ntmps24
      go_wp2
      all_goals (go_ret; exact ⟨rfl, rfl⟩)
    · have := mul_pn (Int.not_lt.1 ha1) hb1
      rw [held_lo (by omega)]
      go_enter Try.func24, Try.ntmps24
      go_wp2
      all_goals (go_ret; exact ⟨rfl, rfl⟩)
    · have := mul_pp (Int.not_lt.1 ha1) (Int.not_lt.1 hb1)
      rw [held_hi (by omega)]
      go_enter Try.func24, Try.ntmps24
      go_wp2
      all_goals (go_ret; exact ⟨rfl, rfl⟩)
end Go.Proofs.Ytnngapfbeappcaa

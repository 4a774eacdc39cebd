/- The contract of math/bits.Div64 at all its arguments; the walks of score.size, score.Times, score.Log, score.Weight and of their references. -/
import Derived.Test.YtnngapfbeappcaaScoreDiv
import Derived.Test.YtnngapfbeappcaaScoreSum
import Derived.Test.YtnngapfbeappcaaLogMath
namespace Go.Proofs.Ytnngapfbeappcaa
open Go.RowKit DivMath ScoreMath

theorem cast_div (a b : Nat) : (a : Int) / (b : Int) = ((a / b : Nat) : Int) := rfl

theorem div64_any (hi lo y : Nat) (hlt : hi < y) (hy : y < 18446744073709551616) (hlo : lo < 18446744073709551616) (w : World) :
    Calls Try.prog 41 #[.int .u64 hi, .int .u64 lo, .int .u64 y] w fun e w' => (∃ r : Int, e = .returned (.tuple #[.int .u64 (((hi * 18446744073709551616 + lo) / y : Nat) : Int), .int .u64 r])) ∧ (∃ n, w' = w.drewN n) := by
  rcases Nat.eq_zero_or_pos hi with rfl | hhi
  · rw [Nat.zero_mul, Nat.zero_add]
    exact div64_small lo y (by omega) hy hlo w
  · obtain ⟨b1, b2, _, _⟩ := bitLen_bd y (by omega) hy
    have hs : Lib.bitLen y + (64 - Lib.bitLen y) = 64 := by omega
    obtain ⟨Y, H, D, U, L, eY, eH, eD, eU, eL, bY0, bY1, bU, bL, eN⟩ := norm hi lo y (64 - Lib.bitLen y) hlt hy hlo hs
    generalize hS : 64 - Lib.bitLen y = s at *
    have hYs : Y = Y / 4294967296 * 4294967296 + Y % 4294967296 := by omega
    have y1 : 2147483648 ≤ Y / 4294967296 := by omega
    have y1' : Y / 4294967296 < 4294967296 := by omega
    have y0 : Y % 4294967296 < 4294967296 := by omega
    have s1 := q_start (Y / 4294967296) (Y % 4294967296) U (L / 4294967296) y1 y0 (by omega) (by omega)
    have R1 : (U * 4294967296 + L / 4294967296) % Y < Y := Nat.mod_lt _ (by omega)
    have s2 := q_start (Y / 4294967296) (Y % 4294967296) ((U * 4294967296 + L / 4294967296) % Y) (L % 4294967296) y1 y0 (by omega) (by omega)
    have t := two_digits (U * 4294967296 + L / 4294967296) (L % 4294967296) Y (by omega)
    have e2 : (U * 4294967296 + L / 4294967296) * 4294967296 + L % 4294967296 = U * 18446744073709551616 + L := join_digits U L
    rw [e2, eN] at t
    have lt1 : (U * 4294967296 + L / 4294967296) / Y < 4294967296 := digit_lt _ _ _ bU (by omega)
    have lt2 : ((U * 4294967296 + L / 4294967296) % Y * 4294967296 + L % 4294967296) / Y < 4294967296 := digit_lt _ _ _ R1 (by omega)
    rw [← hYs] at s1 s2
    have c := div64_core hi lo y s Y H D U L (Y / 4294967296) (Y % 4294967296) (L / 4294967296) (L % 4294967296) (U / (Y / 4294967296)) (U / (Y / 4294967296) * (Y / 4294967296)) (U % (Y / 4294967296))
      ((U * 4294967296 + L / 4294967296) / Y) ((U * 4294967296 + L / 4294967296) % Y) ((U * 4294967296 + L / 4294967296) % Y / (Y / 4294967296)) ((U * 4294967296 + L / 4294967296) % Y / (Y / 4294967296) * (Y / 4294967296)) ((U * 4294967296 + L / 4294967296) % Y % (Y / 4294967296))
      (((U * 4294967296 + L / 4294967296) % Y * 4294967296 + L % 4294967296) / Y) hs (by omega) eY eH eD eU eL rfl (maskU Y bY1) rfl (maskU L bL) rfl (Int.natCast_mul _ _).symm (by have := s1.2.2.1; omega) (rest_wrap U (L / 4294967296) Y (by omega) bY1) rfl (Int.natCast_mul _ _).symm (by have := s2.2.2.1; omega)
      hhi hlt hy hlo bY0 bY1 bU R1 y1 y1' y0 (by omega) (by omega) (by have := s1.2.2.1; omega) (s1.2.2.2) (by have := s2.2.2.1; omega) s2.2.2.2 s1.2.1 s2.2.1 lt1 lt2
      ⟨s1.2.2.1, s1.1⟩ ⟨s2.2.2.1, s2.1⟩ (by rw [← hYs]; exact Lib.hid rfl) (by rw [← hYs]; exact Lib.hid rfl) (Lib.hid hYs) w
    refine c.mono fun e w' ⟨⟨r, he⟩, hw⟩ => ⟨⟨r, ?_⟩, hw⟩
    rw [he, ← t]
    simp

set_option maxHeartbeats 400000 in
theorem size_any (a : Int) (na : Nat) (ha : -9223372036854775808 ≤ a ∧ a ≤ 9223372036854775807) (h : a.natAbs = na) (w : World) :
    Calls Try.prog 40 #[.int .i64 a] w fun e w' => e = .returned (.int .u64 (na : Int)) ∧ w = w' := by
  have H := Lib.hid h
  clear h
  by_cases h0 : a < 0
  · have e : IntKind.u64.wrap (-IntKind.u64.wrap a) = (na : Int) := by have := H.out; simp only [IntKind.wrap_u64]; omega
    go_enter Try.func40, Try.ntmps40
    go_wp2
    go_ret
    exact ⟨rfl, rfl⟩
  · obtain ⟨n, rfl⟩ := Int.eq_ofNat_of_zero_le (show 0 ≤ a by omega)
    have e : n = na := H.out
    subst e
    go_enter Try.func40, Try.ntmps40
    go_wp2
    go_ret
    exact ⟨rfl, rfl⟩

theorem mul64_any (x y hi lo : Nat) (hx : x < 18446744073709551616) (hy : y < 18446744073709551616) (h1 : x * y / 18446744073709551616 = hi) (h2 : x * y % 18446744073709551616 = lo) (w : World) :
    Calls Try.prog 39 #[.int .u64 x, .int .u64 y] w fun e w' => e = .returned (.tuple #[.int .u64 (hi : Int), .int .u64 (lo : Int)]) ∧ w = w' := by
  refine (Try.bits_Mul64 x y hx hy w).mono fun e w' ⟨he, hw⟩ => ⟨?_, hw.symm⟩
  rw [he, h1, h2]

set_option maxHeartbeats 1000000 in
theorem times_any (a b : Int) (ha : -9223372036854775808 ≤ a ∧ a ≤ 9223372036854775807) (hb : -9223372036854775808 ≤ b ∧ b ≤ 9223372036854775807) (w : World) :
    Calls Try.prog 23 #[.int .i64 a, .int .i64 b] w fun e w' => e = .returned (.int .i64 (held (a * b))) ∧ w = w' := by
  obtain ⟨na, hna⟩ : ∃ n, a.natAbs = n := ⟨_, rfl⟩
  obtain ⟨nb, hnb⟩ : ∃ n, b.natAbs = n := ⟨_, rfl⟩
  have hab : (a * b).natAbs = na * nb := by rw [Int.natAbs_mul, hna, hnb]
  obtain ⟨hi, hhi⟩ : ∃ n, na * nb / 18446744073709551616 = n := ⟨_, rfl⟩
  obtain ⟨lo, hlo⟩ : ∃ n, na * nb % 18446744073709551616 = n := ⟨_, rfl⟩
  have hM : na * nb = hi * 18446744073709551616 + lo := by omega
  have hloB : lo ≤ 18446744073709551615 := by omega
  rw [hM] at hab
  have bna : na ≤ 9223372036854775808 := by omega
  have bnb : nb ≤ 9223372036854775808 := by omega
  have Ha := Lib.hid hna
  have Hb := Lib.hid hnb
  have Hhi := Lib.hid hhi
  have Hlo := Lib.hid hlo
  have Hab := Lib.hid hab
  clear hna hnb hhi hlo hab hM
  by_cases hneg : (decide (a < 0) == decide (b < 0)) = true
  · have hp : a * b = ((hi * 18446744073709551616 + lo : Nat) : Int) := by
      have : 0 ≤ a * b := by
        by_cases h1 : a < 0
        · by_cases h2 : b < 0
          · exact mul_nn h1 h2
          · simp [h1, h2] at hneg
        · by_cases h2 : b < 0
          · simp [h1, h2] at hneg
          · exact mul_pp (by omega) (by omega)
      have := Hab.out; omega
    by_cases h0 : hi = 0
    · subst h0
      by_cases hl : 9223372036854775807 < lo
      · rw [hp, held_hi (by omega)]
        clear hp
        have hlI : (9223372036854775807 : Int) < lo := by omega
        go_enter Try.func23, Try.ntmps23
        go_wp2_with fail
        refine (size_any _ na ha Ha.out _).mono ?_
        rintro e w' ⟨rfl, rfl⟩
        go_wp2_with fail
        refine (size_any _ nb hb Hb.out _).mono ?_
        rintro e w' ⟨rfl, rfl⟩
        go_wp2_with fail
        refine (mul64_any na nb 0 lo (by omega) (by omega) Hhi.out Hlo.out _).mono ?_
        rintro e w' ⟨rfl, rfl⟩
        go_wp2
        go_ret
        exact ⟨rfl, rfl⟩
      · have e : a * b = (lo : Int) := by omega
        rw [e, held_in (by omega)]
        clear hp e
        have hlI : ¬ (9223372036854775807 : Int) < lo := by omega
        go_enter Try.func23, Try.ntmps23
        go_wp2_with fail
        refine (size_any _ na ha Ha.out _).mono ?_
        rintro e w' ⟨rfl, rfl⟩
        go_wp2_with fail
        refine (size_any _ nb hb Hb.out _).mono ?_
        rintro e w' ⟨rfl, rfl⟩
        go_wp2_with fail
        refine (mul64_any na nb 0 lo (by omega) (by omega) Hhi.out Hlo.out _).mono ?_
        rintro e w' ⟨rfl, rfl⟩
        go_wp2
        go_ret
        exact ⟨rfl, rfl⟩
    · have hpos : 0 < hi := by omega
      rw [hp, held_hi (by omega)]
      clear hp
      go_enter Try.func23, Try.ntmps23
      go_wp2_with fail
      refine (size_any _ na ha Ha.out _).mono ?_
      rintro e w' ⟨rfl, rfl⟩
      go_wp2_with fail
      refine (size_any _ nb hb Hb.out _).mono ?_
      rintro e w' ⟨rfl, rfl⟩
      go_wp2_with fail
      refine (mul64_any na nb hi lo (by omega) (by omega) Hhi.out Hlo.out _).mono ?_
      rintro e w' ⟨rfl, rfl⟩
      go_wp2
      go_ret
      exact ⟨rfl, rfl⟩
  · have hp : a * b = -((hi * 18446744073709551616 + lo : Nat) : Int) := by
      have : a * b ≤ 0 := by
        by_cases h1 : a < 0
        · by_cases h2 : b < 0
          · simp [h1, h2] at hneg
          · exact mul_np h1 (by omega)
        · by_cases h2 : b < 0
          · exact mul_pn (by omega) h2
          · simp [h1, h2] at hneg
      have := Hab.out; omega
    have hneg' : (decide (a < 0) == decide (b < 0)) = false := by simpa using hneg
    clear hneg
    by_cases h0 : hi = 0
    · subst h0
      by_cases hl : 9223372036854775808 < lo
      · rw [hp, held_lo (by omega)]
        clear hp
        have hlI : (9223372036854775808 : Int) < lo := by omega
        go_enter Try.func23, Try.ntmps23
        go_wp2_with fail
        refine (size_any _ na ha Ha.out _).mono ?_
        rintro e w' ⟨rfl, rfl⟩
        go_wp2_with fail
        refine (size_any _ nb hb Hb.out _).mono ?_
        rintro e w' ⟨rfl, rfl⟩
        go_wp2_with fail
        refine (mul64_any na nb 0 lo (by omega) (by omega) Hhi.out Hlo.out _).mono ?_
        rintro e w' ⟨rfl, rfl⟩
        go_wp2
        go_ret
        exact ⟨rfl, rfl⟩
      · have e : a * b = -(lo : Int) := by omega
        rw [e, held_in (by omega)]
        clear hp e
        have hlI : ¬ (9223372036854775808 : Int) < lo := by omega
        have hwr : wrap64 (IntKind.u64.wrap (-(lo : Int))) = -(lo : Int) := neg_back lo (by omega)
        go_enter Try.func23, Try.ntmps23
        go_wp2_with fail
        refine (size_any _ na ha Ha.out _).mono ?_
        rintro e w' ⟨rfl, rfl⟩
        go_wp2_with fail
        refine (size_any _ nb hb Hb.out _).mono ?_
        rintro e w' ⟨rfl, rfl⟩
        go_wp2_with fail
        refine (mul64_any na nb 0 lo (by omega) (by omega) Hhi.out Hlo.out _).mono ?_
        rintro e w' ⟨rfl, rfl⟩
        go_wp2
        go_ret
        exact ⟨ret_int hwr, rfl⟩
    · have hpos : 0 < hi := by omega
      rw [hp, held_lo (by omega)]
      clear hp
      go_enter Try.func23, Try.ntmps23
      go_wp2_with fail
      refine (size_any _ na ha Ha.out _).mono ?_
      rintro e w' ⟨rfl, rfl⟩
      go_wp2_with fail
      refine (size_any _ nb hb Hb.out _).mono ?_
      rintro e w' ⟨rfl, rfl⟩
      go_wp2_with fail
      refine (mul64_any na nb hi lo (by omega) (by omega) Hhi.out Hlo.out _).mono ?_
      rintro e w' ⟨rfl, rfl⟩
      go_wp2
      go_ret
      exact ⟨rfl, rfl⟩

end Go.Proofs.Ytnngapfbeappcaa

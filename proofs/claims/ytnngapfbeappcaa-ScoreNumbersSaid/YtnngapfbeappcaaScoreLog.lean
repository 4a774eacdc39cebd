/- The walks of score.Log and of its reference: a logarithm in units of 2^-16. -/
import Derived.Test.YtnngapfbeappcaaRows
import Derived.Test.YtnngapfbeappcaaScoreMath
import Derived.Test.YtnngapfbeappcaaLogMath
import Derived.WalkKit
import Derived.WalkSpells
import Derived.Lib.Hide
import Derived.WalkLawsBesides
namespace Go.Proofs.Ytnngapfbeappcaa
open Go.RowKit ScoreMath

/-- What Log answers. -/
def logR (a b : Int) : Int := if b ≤ 0 ∨ a < b ∨ 2147483648 < a then 0 else (lgV a.toNat b.toNat : Int)
theorem logR_0 {a b : Int} (h : b ≤ 0 ∨ a < b ∨ 2147483648 < a) : logR a b = 0 := by unfold logR; rw [if_pos h]
theorem logR_1 {a b : Nat} (h1 : ¬ (b : Int) ≤ 0) (h2 : ¬ (a : Int) < b) (h3 : ¬ 2147483648 < (a : Int)) : logR a b = (lgV a b : Int) := by
  unfold logR; rw [if_neg (by omega)]; rfl

set_option maxHeartbeats 1000000 in
theorem log_any (a b : Int) (_ha : -9223372036854775808 ≤ a ∧ a ≤ 9223372036854775807) (_hb : -9223372036854775808 ≤ b ∧ b ≤ 9223372036854775807) (w : World) :
    Calls Try.prog 25 #[.int .i64 a, .int .i64 b] w fun e w' => e = .returned (.int .i64 (logR a b)) ∧ w = w' := by
  by_cases h1 : b ≤ 0
  · rw [logR_0 (Or.inl h1)]
    go_enter Try.func25, Try.ntmps25
    go_wp2
    go_ret
    exact ⟨rfl, rfl⟩
  by_cases h2 : a < b
  · rw [logR_0 (Or.inr (Or.inl h2))]
    go_enter Try.func25, Try.ntmps25
    go_wp2
    go_ret
    exact ⟨rfl, rfl⟩
  by_cases h3 : 2147483648 < a
  · rw [logR_0 (Or.inr (Or.inr h3))]
    go_enter Try.func25, Try.ntmps25
    go_wp2
    go_ret
    exact ⟨rfl, rfl⟩
  obtain ⟨A, rfl⟩ := Int.eq_ofNat_of_zero_le (show 0 ≤ a by omega)
  obtain ⟨B, rfl⟩ := Int.eq_ofNat_of_zero_le (show 0 ≤ b by omega)
  rw [logR_1 (by omega) (by omega) (by omega)]
  have hB : 1 ≤ B := by omega
  have hBA : B ≤ A := by omega
  have hA : A ≤ 2147483648 := by omega
  clear h1 h2 _ha _hb
  have h1I : ¬ (B : Int) ≤ 0 := by omega
  have h2I : ¬ (A : Int) < B := by omega
  go_enter Try.func25, Try.ntmps25
  go_wp2
  go_loop [1, 5] (fun x y => ∃ C k : Nat, x = .int .i64 C ∧ y = .int .i64 k ∧ Dbl B C k ∧ C ≤ A ∧ 1 ≤ C) (fun x _ => A - (intOf x).toNat)
  case atStart => exact ⟨B, 0, rfl, rfl, by unfold Dbl; simp, hBA, hB⟩
  case round =>
    obtain ⟨C, k, rfl, rfl, hd, hCA, hC1⟩ := hrel
    have hk := dbl_bd hd hB hCA hA
    by_cases hmore : C * 2 ≤ A
    · have hI : 2 * (C : Int) ≤ A := by omega
      have hI2 : (C : Int) * 2 ≤ A := by omega
      have Hd := Lib.hid (dbl_step hd)
      clear hd
      go_wp2
      go_round
      case rel => exact ⟨C * 2, k + 1, by go_num, by go_num, Hd.out, by omega, by omega⟩
      case measure => simp [intOf]; omega
    · have hI : ¬ 2 * (C : Int) ≤ A := by omega
      have hI2 : ¬ (C : Int) * 2 ≤ A := by omega
      obtain ⟨hk1, hy1⟩ := dbl_end hd hB hCA (by omega)
      have hyb : A * 2147483648 / C < 4294967296 := y_bd hC1 (by omega)
      rw [hy1] at hyb
      have hy : (A : Int) * 2147483648 / (C : Int) = ((lgY A B : Nat) : Int) := by rw [← hy1]; rfl
      have Hk := Lib.hid hk1
      clear hk1 hy1 hd
      obtain ⟨Y, hY⟩ : ∃ Y, lgY A B = Y := ⟨_, rfl⟩
      rw [hY] at hy hyb
      have HY := Lib.hid hY
      clear hY
      go_wp2
      clear hy
      go_loop [32, 6, 5] (fun i y o => ∃ n z c : Nat, n ≤ 16 ∧ i = .int .i64 n ∧ y = .int .u64 z ∧ o = .int .i64 c ∧ LitAt Y k n z c) (fun i _ _ => 16 - (intOf i).toNat)
      case atStart => exact ⟨0, Y, k, by omega, rfl, rfl, rfl, rfl⟩
      case round =>
        obtain ⟨n, z, c, hn, rfl, rfl, rfl, hl⟩ := hrel
        obtain ⟨hz, hc⟩ := litAt_bd hl hyb (by omega) hn
        have hs := sq_bd z hz
        by_cases hlt : n < 16
        · have hq0 : (z : Int) * z = ((z * z : Nat) : Int) := (Int.natCast_mul _ _).symm
          obtain ⟨m, hm⟩ : ∃ m, z * z = m := ⟨_, rfl⟩
          rw [hm] at hq0 hs
          by_cases hge : 4294967296 ≤ m / 2147483648
          · have hgI : (4294967296 : Int) ≤ (m : Int) / 2147483648 := by omega
            have Hl := Lib.hid (litAt_yes hl (by rw [hm]; exact hge))
            have Hm := Lib.hid hm
            clear hl hm
            go_wp2
            go_round
            case rel => exact ⟨n + 1, m / 2147483648 / 2, c * 2 + 1, by omega, by go_num, by go_num, by go_num, by have := Hl.out; rw [Hm.out] at this; exact this⟩
            case measure => simp [intOf]; omega
          · have hgI : ¬ (4294967296 : Int) ≤ (m : Int) / 2147483648 := by omega
            have Hl := Lib.hid (litAt_no hl (by rw [hm]; exact hge))
            have Hm := Lib.hid hm
            clear hl hm
            go_wp2
            go_round
            case rel => exact ⟨n + 1, m / 2147483648, c * 2, by omega, by go_num, by go_num, by go_num, by have := Hl.out; rw [Hm.out] at this; exact this⟩
            case measure => simp [intOf]; omega
        · obtain rfl : n = 16 := by omega
          have Hl := Lib.hid (litAt_end hl)
          clear hl hs
          go_wp2
          go_ret
          exact ⟨ret_int (by unfold lgV; rw [HY.out, ← Hk.out]; have := Hl.out; omega), rfl⟩

set_option maxHeartbeats 1000000 in
theorem rlog_any (a b : Int) (_ha : -9223372036854775808 ≤ a ∧ a ≤ 9223372036854775807) (_hb : -9223372036854775808 ≤ b ∧ b ≤ 9223372036854775807) (w : World) :
    Calls Try.prog 26 #[.int .i64 a, .int .i64 b] w fun e w' => e = .returned (.int .i64 (logR a b)) ∧ w = w' := by
  by_cases h1 : b ≤ 0
  · rw [logR_0 (Or.inl h1)]
    go_enter Try.func26, Try.ntmps26
    go_wp2
    go_ret
    exact ⟨rfl, rfl⟩
  by_cases h2 : a < b
  · rw [logR_0 (Or.inr (Or.inl h2))]
    go_enter Try.func26, Try.ntmps26
    go_wp2
    go_ret
    exact ⟨rfl, rfl⟩
  by_cases h3 : 2147483648 < a
  · rw [logR_0 (Or.inr (Or.inr h3))]
    go_enter Try.func26, Try.ntmps26
    go_wp2
    go_ret
    exact ⟨rfl, rfl⟩
  obtain ⟨A, rfl⟩ := Int.eq_ofNat_of_zero_le (show 0 ≤ a by omega)
  obtain ⟨B, rfl⟩ := Int.eq_ofNat_of_zero_le (show 0 ≤ b by omega)
  rw [logR_1 (by omega) (by omega) (by omega)]
  have hB : 1 ≤ B := by omega
  have hBA : B ≤ A := by omega
  have hA : A ≤ 2147483648 := by omega
  clear h1 h2 _ha _hb
  have h1I : ¬ (B : Int) ≤ 0 := by omega
  have h2I : ¬ (A : Int) < B := by omega
  go_enter Try.func26, Try.ntmps26
  go_wp2
  go_loop [1, 5] (fun x y => ∃ C k : Nat, x = .int .i64 C ∧ y = .int .i64 k ∧ Dbl B C k ∧ C ≤ A ∧ 1 ≤ C) (fun x _ => A - (intOf x).toNat)
  case atStart => exact ⟨B, 0, rfl, rfl, by unfold Dbl; simp, hBA, hB⟩
  case round =>
    obtain ⟨C, k, rfl, rfl, hd, hCA, hC1⟩ := hrel
    have hk := dbl_bd hd hB hCA hA
    by_cases hmore : C * 2 ≤ A
    · have hI : 2 * (C : Int) ≤ A := by omega
      have hI2 : (C : Int) * 2 ≤ A := by omega
      have Hd := Lib.hid (dbl_step hd)
      clear hd
      go_wp2
      go_round
      case rel => exact ⟨C * 2, k + 1, by go_num, by go_num, Hd.out, by omega, by omega⟩
      case measure => simp [intOf]; omega
    · have hI : ¬ 2 * (C : Int) ≤ A := by omega
      have hI2 : ¬ (C : Int) * 2 ≤ A := by omega
      obtain ⟨hk1, hy1⟩ := dbl_end hd hB hCA (by omega)
      have hyb : A * 2147483648 / C < 4294967296 := y_bd hC1 (by omega)
      rw [hy1] at hyb
      have hy : (A : Int) * 2147483648 / (C : Int) = ((lgY A B : Nat) : Int) := by rw [← hy1]; rfl
      have Hk := Lib.hid hk1
      clear hk1 hy1 hd
      obtain ⟨Y, hY⟩ : ∃ Y, lgY A B = Y := ⟨_, rfl⟩
      rw [hY] at hy hyb
      have HY := Lib.hid hY
      clear hY
      go_wp2
      clear hy
      go_loop [8, 6, 7] (fun i y o => ∃ n z c : Nat, n ≤ 16 ∧ i = .int .i64 n ∧ y = .int .u64 z ∧ o = .int .i64 c ∧ LitAt Y 0 n z c) (fun i _ _ => 16 - (intOf i).toNat)
      case atStart => exact ⟨0, Y, 0, by omega, rfl, rfl, rfl, rfl⟩
      case round =>
        obtain ⟨n, z, c, hn, rfl, rfl, rfl, hl⟩ := hrel
        obtain ⟨hz, hc⟩ := litAt_bd hl hyb (by omega) hn
        have hs := sq_bd z hz
        by_cases hlt : n < 16
        · have hq0 : (z : Int) * z = ((z * z : Nat) : Int) := (Int.natCast_mul _ _).symm
          obtain ⟨m, hm⟩ : ∃ m, z * z = m := ⟨_, rfl⟩
          rw [hm] at hq0 hs
          by_cases hge : 4294967296 ≤ m / 2147483648
          · have hgI : (4294967296 : Int) ≤ (m : Int) / 2147483648 := by omega
            have Hl := Lib.hid (litAt_yes hl (by rw [hm]; exact hge))
            have Hm := Lib.hid hm
            clear hl hm
            go_wp2
            go_round
            case rel => exact ⟨n + 1, m / 2147483648 / 2, c * 2 + 1, by omega, by go_num, by go_num, by go_num, by have := Hl.out; rw [Hm.out] at this; exact this⟩
            case measure => simp [intOf]; omega
          · have hgI : ¬ (4294967296 : Int) ≤ (m : Int) / 2147483648 := by omega
            have Hl := Lib.hid (litAt_no hl (by rw [hm]; exact hge))
            have Hm := Lib.hid hm
            clear hl hm
            go_wp2
            go_round
            case rel => exact ⟨n + 1, m / 2147483648, c * 2, by omega, by go_num, by go_num, by go_num, by have := Hl.out; rw [Hm.out] at this; exact this⟩
            case measure => simp [intOf]; omega
        · obtain rfl : n = 16 := by omega
          have Hl := Lib.hid (litAt_end hl)
          clear hl hs
          go_wp2
          go_ret
          exact ⟨ret_int (by unfold lgV; rw [HY.out, ← Hk.out]; have := Hl.out; omega), rfl⟩

end Go.Proofs.Ytnngapfbeappcaa

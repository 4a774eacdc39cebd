/- The walks of score.Weight, of its reference and of the reference's quotient. -/
import Derived.Test.YtnngapfbeappcaaScoreWt
import Derived.Test.YtnngapfbeappcaaScoreLog
namespace Go.Proofs.Ytnngapfbeappcaa
open Go.RowKit DivMath ScoreMath

theorem mul64_at (x y : Int) (X Y hi lo : Nat) (ex : x = (X : Int)) (ey : y = (Y : Int)) (hx : X < 18446744073709551616) (hy : Y < 18446744073709551616) (h1 : X * Y / 18446744073709551616 = hi) (h2 : X * Y % 18446744073709551616 = lo) (w : World) :
    Calls Try.prog 39 #[.int .u64 x, .int .u64 y] w fun e w' => e = .returned (.tuple #[.int .u64 (hi : Int), .int .u64 (lo : Int)]) ∧ w = w' := by
  subst ex ey; exact mul64_any X Y hi lo hx hy h1 h2 w

theorem div64_at (hi lo y q : Nat) (yi : Int) (ey : yi = (y : Int)) (hlt : hi < y) (hy : y < 18446744073709551616) (hlo : lo < 18446744073709551616) (hq : (hi * 18446744073709551616 + lo) / y = q) (w : World) :
    Calls Try.prog 41 #[.int .u64 hi, .int .u64 lo, .int .u64 yi] w fun e w' => (∃ r : Int, e = .returned (.tuple #[.int .u64 (q : Int), .int .u64 r])) ∧ (∃ n, w' = w.drewN n) := by
  subst ey hq; exact div64_any hi lo y hlt hy hlo w

def good (W o l dd t : Int) : Bool := decide (0 ≤ W ∧ W ≤ 1099511627776 ∧ 1 ≤ o ∧ o ≤ 1048576 ∧ 1 ≤ l ∧ l ≤ 1048576 ∧ 1 ≤ dd ∧ dd ≤ 1048576 ∧ 1 ≤ t ∧ t ≤ 1099511627776)
def wtR (W o l dd t : Int) : Int := if good W o l dd t then (wtV W.toNat o.toNat l.toNat dd.toNat t.toNat : Int) else 0

theorem wtR_0 {W o l dd t : Int} (h : ¬ (0 ≤ W ∧ W ≤ 1099511627776 ∧ 1 ≤ o ∧ o ≤ 1048576 ∧ 1 ≤ l ∧ l ≤ 1048576 ∧ 1 ≤ dd ∧ dd ≤ 1048576 ∧ 1 ≤ t ∧ t ≤ 1099511627776)) : wtR W o l dd t = 0 := by
  unfold wtR good; rw [if_neg (by simpa using h)]
theorem wtR_1 {W o l dd t : Nat} (h : 0 ≤ (W : Int) ∧ (W : Int) ≤ 1099511627776 ∧ 1 ≤ (o : Int) ∧ (o : Int) ≤ 1048576 ∧ 1 ≤ (l : Int) ∧ (l : Int) ≤ 1048576 ∧ 1 ≤ (dd : Int) ∧ (dd : Int) ≤ 1048576 ∧ 1 ≤ (t : Int) ∧ (t : Int) ≤ 1099511627776) : wtR W o l dd t = (wtV W o l dd t : Int) := by
  unfold wtR good; rw [if_pos (by simpa using h)]; rfl

set_option maxHeartbeats 1000000 in
theorem quotient_any (a b d : Nat) (ha : a < 18446744073709551616) (hb : b < d) (hd : d ≤ 1152921504606846976) (hQ : a * b / d ≤ 1152921504606846976) (w : World) :
    Calls Try.prog 42 #[.int .u64 a, .int .u64 b, .int .u64 d] w fun e w' => e = .returned (.int .u64 ((a * b / d : Nat) : Int)) ∧ w = w' := by
  obtain ⟨Q, hQe⟩ : ∃ Q, a * b / d = Q := ⟨_, rfl⟩
  have HQ := Lib.hid hQe
  rw [hQe] at hQ ⊢
  clear hQe
  go_enter Try.func42, Try.ntmps42
  go_wp2
  go_loop [7, 8, 9] (fun x y i => ∃ n q r : Nat, n ≤ 64 ∧ x = .int .u64 q ∧ y = .int .u64 r ∧ ((n = 0 ∧ i = .int .i64 (-1)) ∨ (∃ m : Nat, n = m + 1 ∧ i = .int .i64 m)) ∧ QAt a b d n q r) (fun _ _ i => (intOf i + 1).toNat)
  case atStart => exact ⟨64, 0, 0, by omega, rfl, rfl, Or.inr ⟨63, rfl, rfl⟩, qat_start a b d ha⟩
  case round =>
    obtain ⟨n, q, r, hn, rfl, rfl, hi, hq⟩ := hrel
    have hr : r < d := by rw [hq.2]; exact Nat.mod_lt _ (by omega)
    have hqb : q ≤ Q := by rw [hq.1, ← HQ.out]; exact x_bd a b d n
    rcases hi with ⟨rfl, rfl⟩ | ⟨m, rfl, rfl⟩
    · have e : q = Q := by rw [hq.1, ← HQ.out]; simp
      have E := Lib.hid e
      clear hq e
      go_wp2
      go_ret
      exact ⟨ret_int (by rw [E.out]), rfl⟩
    · have hT : (a : Int) / 2 ^ m = ((a / 2 ^ m : Nat) : Int) := by simp
      obtain ⟨T, hTe⟩ : ∃ T, a / 2 ^ m = T := ⟨_, rfl⟩
      have hTb : T < 18446744073709551616 := by have := Nat.div_le_self a (2 ^ m); omega
      have hXb : T * b / d ≤ Q := by rw [← hTe, ← HQ.out]; exact x_bd a b d m
      rw [hTe] at hT
      have hbit := bits_and_u64_nat T 1 hTb (by omega)
      have e1 : T &&& 1 = T % 2 := Nat.and_two_pow_sub_one_eq_mod T 1
      rw [e1] at hbit
      have HT := Lib.hid hTe
      by_cases ht : T % 2 = 1
      · have hqd := qat_dbl hq (show a / 2 ^ m % 2 = 1 by rw [hTe]; exact ht)
        rw [hTe, Nat.one_mul] at hqd
        rw [ht] at hbit
        have hbit' : bits .and .u64 (T : Int) 1 = 1 := hbit
        have Hqd := Lib.hid hqd
        clear hqd hq hTe ht hbit e1
        go_wp2
        clear hT hbit'
        go_loop [8, 7] (fun y x => ∃ q r : Nat, x = .int .u64 q ∧ y = .int .u64 r ∧ QD (T * b) d q r ∧ r ≤ 4611686018427387904) (fun y _ => (intOf y).toNat)
        case atStart => exact ⟨q * 2, r * 2 + b, by go_num, by go_num, Hqd.out, by omega⟩
        case round =>
          clear Hqd
          obtain ⟨q1, r1, rfl, rfl, hqd, hr1⟩ := hrel
          have hq1 : q1 ≤ Q := Nat.le_trans (qd_bd hqd (by omega)) hXb
          by_cases hge : d ≤ r1
          · have Hs := Lib.hid (qd_step hqd hge)
            clear hqd
            go_wp2
            go_round
            case rel => exact ⟨q1 + 1, r1 - d, by go_num, by go_num, Hs.out, by omega⟩
            case measure => simp [intOf]; omega
          · have Hs := Lib.hid (qd_end hqd (by omega))
            clear hqd
            go_wp2
            go_round
            case rel => exact ⟨m, q1, r1, by omega, rfl, rfl, by rcases m with _ | m; exact Or.inl ⟨rfl, by go_num⟩; exact Or.inr ⟨m, rfl, by go_num⟩, by unfold QAt; rw [HT.out]; exact Hs.out⟩
            case measure => simp [intOf]
      · have ht0 : T % 2 = 0 := by omega
        have hqd := qat_dbl hq (show a / 2 ^ m % 2 = 0 by rw [hTe]; exact ht0)
        rw [hTe, Nat.zero_mul, Nat.add_zero] at hqd
        rw [ht0] at hbit
        have hbit' : bits .and .u64 (T : Int) 1 = 0 := hbit
        have Hqd := Lib.hid hqd
        clear hqd hq hTe ht hbit e1 ht0
        go_wp2
        clear hT hbit'
        go_loop [8, 7] (fun y x => ∃ q r : Nat, x = .int .u64 q ∧ y = .int .u64 r ∧ QD (T * b) d q r ∧ r ≤ 4611686018427387904) (fun y _ => (intOf y).toNat)
        case atStart => exact ⟨q * 2, r * 2, by go_num, by go_num, Hqd.out, by omega⟩
        case round =>
          clear Hqd
          obtain ⟨q1, r1, rfl, rfl, hqd, hr1⟩ := hrel
          have hq1 : q1 ≤ Q := Nat.le_trans (qd_bd hqd (by omega)) hXb
          by_cases hge : d ≤ r1
          · have Hs := Lib.hid (qd_step hqd hge)
            clear hqd
            go_wp2
            go_round
            case rel => exact ⟨q1 + 1, r1 - d, by go_num, by go_num, Hs.out, by omega⟩
            case measure => simp [intOf]; omega
          · have Hs := Lib.hid (qd_end hqd (by omega))
            clear hqd
            go_wp2
            go_round
            case rel => exact ⟨m, q1, r1, by omega, rfl, rfl, by rcases m with _ | m; exact Or.inl ⟨rfl, by go_num⟩; exact Or.inr ⟨m, rfl, by go_num⟩, by unfold QAt; rw [HT.out]; exact Hs.out⟩
            case measure => simp [intOf]

theorem quotient_at (x y z : Int) (a b d q : Nat) (ex : x = (a : Int)) (ey : y = (b : Int)) (ez : z = (d : Int)) (ha : a < 18446744073709551616) (hb : b < d) (hd : d ≤ 1152921504606846976) (hq : a * b / d = q) (hQ : q ≤ 1152921504606846976) (w : World) :
    Calls Try.prog 42 #[.int .u64 x, .int .u64 y, .int .u64 z] w fun e w' => e = .returned (.int .u64 (q : Int)) ∧ w = w' := by
  subst ex ey ez hq; exact quotient_any a b d ha hb hd hQ w

set_option maxHeartbeats 2000000 in
theorem weight_no (W o l dd t : Int) (hW : -9223372036854775808 ≤ W ∧ W ≤ 9223372036854775807) (ho : -9223372036854775808 ≤ o ∧ o ≤ 9223372036854775807) (hl : -9223372036854775808 ≤ l ∧ l ≤ 9223372036854775807) (hd : -9223372036854775808 ≤ dd ∧ dd ≤ 9223372036854775807) (ht : -9223372036854775808 ≤ t ∧ t ≤ 9223372036854775807)
    (hbad : ¬ (0 ≤ W ∧ W ≤ 1099511627776 ∧ 1 ≤ o ∧ o ≤ 1048576 ∧ 1 ≤ l ∧ l ≤ 1048576 ∧ 1 ≤ dd ∧ dd ≤ 1048576 ∧ 1 ≤ t ∧ t ≤ 1099511627776)) (w : World) :
    Calls Try.prog 27 #[.int .i64 W, .int .i64 o, .int .i64 l, .int .i64 dd, .int .i64 t] w fun e w' => e = .returned (.int .i64 0) ∧ w = w' := by
  by_cases b0 : W < 0
  · clear hbad
    go_enter Try.func27, Try.ntmps27
    go_wp2
    go_ret
    exact ⟨rfl, rfl⟩
  by_cases b1 : 1099511627776 < W
  · clear hbad
    go_enter Try.func27, Try.ntmps27
    go_wp2
    go_ret
    exact ⟨rfl, rfl⟩
  by_cases b2 : o < 1
  · clear hbad
    go_enter Try.func27, Try.ntmps27
    go_wp2
    go_ret
    exact ⟨rfl, rfl⟩
  by_cases b3 : 1048576 < o
  · clear hbad
    go_enter Try.func27, Try.ntmps27
    go_wp2
    go_ret
    exact ⟨rfl, rfl⟩
  by_cases b4 : l < 1
  · clear hbad
    go_enter Try.func27, Try.ntmps27
    go_wp2
    go_ret
    exact ⟨rfl, rfl⟩
  by_cases b5 : 1048576 < l
  · clear hbad
    go_enter Try.func27, Try.ntmps27
    go_wp2
    go_ret
    exact ⟨rfl, rfl⟩
  by_cases b6 : dd < 1
  · clear hbad
    go_enter Try.func27, Try.ntmps27
    go_wp2
    go_ret
    exact ⟨rfl, rfl⟩
  by_cases b7 : 1048576 < dd
  · clear hbad
    go_enter Try.func27, Try.ntmps27
    go_wp2
    go_ret
    exact ⟨rfl, rfl⟩
  by_cases b8 : t < 1
  · clear hbad
    go_enter Try.func27, Try.ntmps27
    go_wp2
    go_ret
    exact ⟨rfl, rfl⟩
  by_cases b9 : 1099511627776 < t
  · clear hbad
    go_enter Try.func27, Try.ntmps27
    go_wp2
    go_ret
    exact ⟨rfl, rfl⟩
  exact absurd ⟨by omega, by omega, by omega, by omega, by omega, by omega, by omega, by omega, by omega, by omega⟩ hbad

set_option maxHeartbeats 2000000 in
theorem rweight_no (W o l dd t : Int) (hW : -9223372036854775808 ≤ W ∧ W ≤ 9223372036854775807) (ho : -9223372036854775808 ≤ o ∧ o ≤ 9223372036854775807) (hl : -9223372036854775808 ≤ l ∧ l ≤ 9223372036854775807) (hd : -9223372036854775808 ≤ dd ∧ dd ≤ 9223372036854775807) (ht : -9223372036854775808 ≤ t ∧ t ≤ 9223372036854775807)
    (hbad : ¬ (0 ≤ W ∧ W ≤ 1099511627776 ∧ 1 ≤ o ∧ o ≤ 1048576 ∧ 1 ≤ l ∧ l ≤ 1048576 ∧ 1 ≤ dd ∧ dd ≤ 1048576 ∧ 1 ≤ t ∧ t ≤ 1099511627776)) (w : World) :
    Calls Try.prog 28 #[.int .i64 W, .int .i64 o, .int .i64 l, .int .i64 dd, .int .i64 t] w fun e w' => e = .returned (.int .i64 0) ∧ w = w' := by
  by_cases b0 : W < 0
  · clear hbad
    go_enter Try.func28, Try.ntmps28
    go_wp2
    go_ret
    exact ⟨rfl, rfl⟩
  by_cases b1 : 1099511627776 < W
  · clear hbad
    go_enter Try.func28, Try.ntmps28
    go_wp2
    go_ret
    exact ⟨rfl, rfl⟩
  by_cases b2 : o < 1
  · clear hbad
    go_enter Try.func28, Try.ntmps28
    go_wp2
    go_ret
    exact ⟨rfl, rfl⟩
  by_cases b3 : 1048576 < o
  · clear hbad
    go_enter Try.func28, Try.ntmps28
    go_wp2
    go_ret
    exact ⟨rfl, rfl⟩
  by_cases b4 : l < 1
  · clear hbad
    go_enter Try.func28, Try.ntmps28
    go_wp2
    go_ret
    exact ⟨rfl, rfl⟩
  by_cases b5 : 1048576 < l
  · clear hbad
    go_enter Try.func28, Try.ntmps28
    go_wp2
    go_ret
    exact ⟨rfl, rfl⟩
  by_cases b6 : dd < 1
  · clear hbad
    go_enter Try.func28, Try.ntmps28
    go_wp2
    go_ret
    exact ⟨rfl, rfl⟩
  by_cases b7 : 1048576 < dd
  · clear hbad
    go_enter Try.func28, Try.ntmps28
    go_wp2
    go_ret
    exact ⟨rfl, rfl⟩
  by_cases b8 : t < 1
  · clear hbad
    go_enter Try.func28, Try.ntmps28
    go_wp2
    go_ret
    exact ⟨rfl, rfl⟩
  by_cases b9 : 1099511627776 < t
  · clear hbad
    go_enter Try.func28, Try.ntmps28
    go_wp2
    go_ret
    exact ⟨rfl, rfl⟩
  exact absurd ⟨by omega, by omega, by omega, by omega, by omega, by omega, by omega, by omega, by omega, by omega⟩ hbad

set_option maxRecDepth 100000 in
set_option maxHeartbeats 1000000 in
theorem weight_yes (W o l dd t P k D hi lo V : Nat) (hW : W ≤ 1099511627776) (ho : 1 ≤ o ∧ o ≤ 1048576) (hl : 1 ≤ l ∧ l ≤ 1048576) (hd : 1 ≤ dd ∧ dd ≤ 1048576) (ht : 1 ≤ t ∧ t ≤ 1099511627776)
    (bP : P ≤ 9895604649984) (bk : k ≤ 72057594037927936) (eP : (9 : Int) * (l : Int) * (dd : Int) = (P : Int)) (ek : (65536 * (3 * (t : Int) + (P : Int))) / (10 * (t : Int)) = (k : Int))
    (eD : Hid (D = 10 * (65536 * o + k))) (e1 : Hid (22 * W * (65536 * o) / 18446744073709551616 = hi)) (e2 : Hid (22 * W * (65536 * o) % 18446744073709551616 = lo)) (hhi : hi < D) (hDb : D ≤ 1152921504606846976)
    (eV : Hid (22 * W * (65536 * o) / D = V)) (bV : V ≤ 24189255811072) (w : World) :
    Calls Try.prog 27 #[.int .i64 W, .int .i64 o, .int .i64 l, .int .i64 dd, .int .i64 t] w fun e w' => e = .returned (.int .i64 (V : Int)) ∧ (∃ n, w' = w.drewN n) := by
  have a0 : ¬ (W : Int) < 0 := by omega
  have a1 : ¬ (1099511627776 : Int) < W := by omega
  have a2 : ¬ (o : Int) < 1 := by omega
  have a3 : ¬ (1048576 : Int) < o := by omega
  have a4 : ¬ (l : Int) < 1 := by omega
  have a5 : ¬ (1048576 : Int) < l := by omega
  have a6 : ¬ (dd : Int) < 1 := by omega
  have a7 : ¬ (1048576 : Int) < dd := by omega
  have a8 : ¬ (t : Int) < 1 := by omega
  have a9 : ¬ (1099511627776 : Int) < t := by omega
  go_enter Try.func27, Try.ntmps27
  go_wp2_with fail
  refine (mul64_at _ _ (22 * W) (65536 * o) hi lo (by omega) (by omega) (by omega) (by omega) e1.out e2.out _).mono ?_
  rintro e w' ⟨rfl, rfl⟩
  go_wp2_with fail
  have hlo : lo < 18446744073709551616 := by rw [← e2.out]; exact Nat.mod_lt _ (by omega)
  refine (div64_at hi lo D V _ (by have := eD.out; omega) hhi (by omega) hlo (by rw [← eV.out, ← e1.out, ← e2.out, Nat.div_add_mod']) _).mono ?_
  rintro e w' ⟨⟨r, rfl⟩, ⟨n, rfl⟩⟩
  go_wp2
  go_ret
  exact ⟨rfl, ⟨n, rfl⟩⟩

set_option maxRecDepth 100000 in
set_option maxHeartbeats 1000000 in
theorem rweight_yes (W o l dd t P k D hi lo V : Nat) (hW : W ≤ 1099511627776) (ho : 1 ≤ o ∧ o ≤ 1048576) (hl : 1 ≤ l ∧ l ≤ 1048576) (hd : 1 ≤ dd ∧ dd ≤ 1048576) (ht : 1 ≤ t ∧ t ≤ 1099511627776)
    (bP : P ≤ 9895604649984) (bk : k ≤ 72057594037927936) (eP : (9 : Int) * (l : Int) * (dd : Int) = (P : Int)) (ek : (65536 * (3 * (t : Int) + (P : Int))) / (10 * (t : Int)) = (k : Int))
    (eD : Hid (D = 10 * (65536 * o + k))) (e1 : Hid (22 * W * (65536 * o) / 18446744073709551616 = hi)) (e2 : Hid (22 * W * (65536 * o) % 18446744073709551616 = lo)) (hhi : hi < D) (hDb : D ≤ 1152921504606846976)
    (eV : Hid (22 * W * (65536 * o) / D = V)) (bV : V ≤ 24189255811072) (w : World) :
    Calls Try.prog 28 #[.int .i64 W, .int .i64 o, .int .i64 l, .int .i64 dd, .int .i64 t] w fun e w' => e = .returned (.int .i64 (V : Int)) ∧ (∃ n, w' = w.drewN n) := by
  have a0 : ¬ (W : Int) < 0 := by omega
  have a1 : ¬ (1099511627776 : Int) < W := by omega
  have a2 : ¬ (o : Int) < 1 := by omega
  have a3 : ¬ (1048576 : Int) < o := by omega
  have a4 : ¬ (l : Int) < 1 := by omega
  have a5 : ¬ (1048576 : Int) < l := by omega
  have a6 : ¬ (dd : Int) < 1 := by omega
  have a7 : ¬ (1048576 : Int) < dd := by omega
  have a8 : ¬ (t : Int) < 1 := by omega
  have a9 : ¬ (1099511627776 : Int) < t := by omega
  go_enter Try.func28, Try.ntmps28
  go_wp2_with fail
  refine (quotient_at _ _ _ (22 * W) (65536 * o) D V (by omega) (by omega) (by have := eD.out; omega) (by omega) (by have := eD.out; omega) hDb eV.out (by omega) _).mono ?_
  rintro e w' ⟨rfl, rfl⟩
  go_wp2
  go_ret
  exact ⟨rfl, ⟨0, rfl⟩⟩

theorem weight_any (W o l dd t : Int) (hW : -9223372036854775808 ≤ W ∧ W ≤ 9223372036854775807) (ho : -9223372036854775808 ≤ o ∧ o ≤ 9223372036854775807) (hl : -9223372036854775808 ≤ l ∧ l ≤ 9223372036854775807) (hd : -9223372036854775808 ≤ dd ∧ dd ≤ 9223372036854775807) (ht : -9223372036854775808 ≤ t ∧ t ≤ 9223372036854775807) (w : World) :
    Calls Try.prog 27 #[.int .i64 W, .int .i64 o, .int .i64 l, .int .i64 dd, .int .i64 t] w fun e w' => e = .returned (.int .i64 (wtR W o l dd t)) ∧ (∃ n, w' = w.drewN n) := by
  by_cases hg : 0 ≤ W ∧ W ≤ 1099511627776 ∧ 1 ≤ o ∧ o ≤ 1048576 ∧ 1 ≤ l ∧ l ≤ 1048576 ∧ 1 ≤ dd ∧ dd ≤ 1048576 ∧ 1 ≤ t ∧ t ≤ 1099511627776
  · obtain ⟨A, rfl⟩ := Int.eq_ofNat_of_zero_le (show 0 ≤ W by omega)
    obtain ⟨B, rfl⟩ := Int.eq_ofNat_of_zero_le (show 0 ≤ o by omega)
    obtain ⟨L, rfl⟩ := Int.eq_ofNat_of_zero_le (show 0 ≤ l by omega)
    obtain ⟨E, rfl⟩ := Int.eq_ofNat_of_zero_le (show 0 ≤ dd by omega)
    obtain ⟨T, rfl⟩ := Int.eq_ofNat_of_zero_le (show 0 ≤ t by omega)
    rw [wtR_1 hg]
    have hk := wtK_bd (l := L) (dd := E) (t := T) (by omega) (by omega) (by omega)
    have hD : wtD B L E T = 10 * (65536 * B + wtK L E T) := rfl
    have hhi : 22 * A * (65536 * B) / 18446744073709551616 < wtD B L E T := by
      have h1 : 22 * A * (65536 * B) ≤ 24189255811072 * (65536 * 1048576) := Nat.mul_le_mul (by omega) (by omega)
      have h2 : 22 * A * (65536 * B) / 18446744073709551616 ≤ 24189255811072 * (65536 * 1048576) / 18446744073709551616 := Nat.div_le_div_right h1
      have h3 : 24189255811072 * (65536 * 1048576) / 18446744073709551616 = 90112 := by decide
      omega
    exact weight_yes A B L E T (wtP L E) (wtK L E T) (wtD B L E T) _ _ (wtV A B L E T) (by omega) (by omega) (by omega) (by omega) (by omega)
      (wtP_bd (by omega) (by omega)) hk (by unfold wtP; simp) (by unfold wtK; simp) (Lib.hid hD) (Lib.hid rfl) (Lib.hid rfl) hhi (by omega) (Lib.hid rfl) (wtV_bd (by omega) (by omega)) w
  · rw [wtR_0 hg]
    exact (weight_no W o l dd t hW ho hl hd ht hg w).mono fun e w' ⟨he, hw⟩ => ⟨he, 0, hw.symm⟩

theorem rweight_any (W o l dd t : Int) (hW : -9223372036854775808 ≤ W ∧ W ≤ 9223372036854775807) (ho : -9223372036854775808 ≤ o ∧ o ≤ 9223372036854775807) (hl : -9223372036854775808 ≤ l ∧ l ≤ 9223372036854775807) (hd : -9223372036854775808 ≤ dd ∧ dd ≤ 9223372036854775807) (ht : -9223372036854775808 ≤ t ∧ t ≤ 9223372036854775807) (w : World) :
    Calls Try.prog 28 #[.int .i64 W, .int .i64 o, .int .i64 l, .int .i64 dd, .int .i64 t] w fun e w' => e = .returned (.int .i64 (wtR W o l dd t)) ∧ (∃ n, w' = w.drewN n) := by
  by_cases hg : 0 ≤ W ∧ W ≤ 1099511627776 ∧ 1 ≤ o ∧ o ≤ 1048576 ∧ 1 ≤ l ∧ l ≤ 1048576 ∧ 1 ≤ dd ∧ dd ≤ 1048576 ∧ 1 ≤ t ∧ t ≤ 1099511627776
  · obtain ⟨A, rfl⟩ := Int.eq_ofNat_of_zero_le (show 0 ≤ W by omega)
    obtain ⟨B, rfl⟩ := Int.eq_ofNat_of_zero_le (show 0 ≤ o by omega)
    obtain ⟨L, rfl⟩ := Int.eq_ofNat_of_zero_le (show 0 ≤ l by omega)
    obtain ⟨E, rfl⟩ := Int.eq_ofNat_of_zero_le (show 0 ≤ dd by omega)
    obtain ⟨T, rfl⟩ := Int.eq_ofNat_of_zero_le (show 0 ≤ t by omega)
    rw [wtR_1 hg]
    have hk := wtK_bd (l := L) (dd := E) (t := T) (by omega) (by omega) (by omega)
    have hD : wtD B L E T = 10 * (65536 * B + wtK L E T) := rfl
    have hhi : 22 * A * (65536 * B) / 18446744073709551616 < wtD B L E T := by
      have h1 : 22 * A * (65536 * B) ≤ 24189255811072 * (65536 * 1048576) := Nat.mul_le_mul (by omega) (by omega)
      have h2 : 22 * A * (65536 * B) / 18446744073709551616 ≤ 24189255811072 * (65536 * 1048576) / 18446744073709551616 := Nat.div_le_div_right h1
      have h3 : 24189255811072 * (65536 * 1048576) / 18446744073709551616 = 90112 := by decide
      omega
    exact rweight_yes A B L E T (wtP L E) (wtK L E T) (wtD B L E T) _ _ (wtV A B L E T) (by omega) (by omega) (by omega) (by omega) (by omega)
      (wtP_bd (by omega) (by omega)) hk (by unfold wtP; simp) (by unfold wtK; simp) (Lib.hid hD) (Lib.hid rfl) (Lib.hid rfl) hhi (by omega) (Lib.hid rfl) (wtV_bd (by omega) (by omega)) w
  · rw [wtR_0 hg]
    exact (rweight_no W o l dd t hW ho hl hd ht hg w).mono fun e w' ⟨he, hw⟩ => ⟨he, 0, hw.symm⟩

end Go.Proofs.Ytnngapfbeappcaa

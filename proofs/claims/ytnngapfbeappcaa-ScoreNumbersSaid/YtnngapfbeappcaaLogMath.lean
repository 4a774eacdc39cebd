/- Plain arithmetic of the logarithm and the weight of score. No program stands here. -/
import Derived.IntWalk
namespace Go.Proofs.Ytnngapfbeappcaa.ScoreMath
open Go.RowKit

/-- One bit of the logarithm: the number squared, halved where it has reached 2. -/
def lstep (p : Nat × Nat) : Nat × Nat :=
  if 4294967296 ≤ p.1 * p.1 / 2147483648 then (p.1 * p.1 / 2147483648 / 2, p.2 * 2 + 1) else (p.1 * p.1 / 2147483648, p.2 * 2)
def lit (p : Nat × Nat) : Nat → Nat × Nat
  | 0 => p
  | n + 1 => lstep (lit p n)

theorem lit_yes (p : Nat × Nat) (n y o : Nat) (h : lit p n = (y, o)) (hz : 4294967296 ≤ y * y / 2147483648) : lit p (n + 1) = (y * y / 2147483648 / 2, o * 2 + 1) := by
  show lstep (lit p n) = _
  rw [h]; unfold lstep; rw [if_pos hz]
theorem lit_no (p : Nat × Nat) (n y o : Nat) (h : lit p n = (y, o)) (hz : ¬ 4294967296 ≤ y * y / 2147483648) : lit p (n + 1) = (y * y / 2147483648, o * 2) := by
  show lstep (lit p n) = _
  rw [h]; unfold lstep; rw [if_neg hz]

theorem sq_bd (y : Nat) (h : y < 4294967296) : y * y ≤ 18446744065119617025 ∧ y * y / 2147483648 < 8589934592 := by
  have h1 : y * y ≤ 4294967295 * 4294967295 := Nat.mul_le_mul (by omega) (by omega)
  have h2 : y * y ≤ 18446744065119617025 := h1
  refine ⟨h2, ?_⟩
  have : y * y / 2147483648 ≤ 18446744065119617025 / 2147483648 := Nat.div_le_div_right h2
  have e : 18446744065119617025 / 2147483648 = 8589934588 := by decide
  omega

theorem lit_bd (y k : Nat) (hy : y < 4294967296) : ∀ n, (lit (y, k) n).1 < 4294967296 ∧ (lit (y, k) n).2 + 1 ≤ (k + 1) * 2 ^ n
  | 0 => by simpa [lit] using hy
  | n + 1 => by
    obtain ⟨h1, h2⟩ := lit_bd y k hy n
    have hs := sq_bd _ h1
    have e : (k + 1) * 2 ^ (n + 1) = (k + 1) * 2 ^ n * 2 := by rw [Nat.pow_succ, Nat.mul_assoc]
    show (lstep (lit (y, k) n)).1 < _ ∧ (lstep (lit (y, k) n)).2 + 1 ≤ _
    rw [e]
    generalize (k + 1) * 2 ^ n = m at *
    unfold lstep
    split
    · exact ⟨by simp only; omega, by simp only; omega⟩
    · exact ⟨by simp only; omega, by simp only; omega⟩

theorem lit_bits (y k : Nat) : ∀ n, (lit (y, k) n).1 = (lit (y, 0) n).1 ∧ (lit (y, k) n).2 = k * 2 ^ n + (lit (y, 0) n).2
  | 0 => by simp [lit]
  | n + 1 => by
    obtain ⟨h1, h2⟩ := lit_bits y k n
    show (lstep (lit (y, k) n)).1 = (lstep (lit (y, 0) n)).1 ∧ (lstep (lit (y, k) n)).2 = _ + (lstep (lit (y, 0) n)).2
    have e : k * 2 ^ (n + 1) = k * 2 ^ n * 2 := by rw [Nat.pow_succ, Nat.mul_assoc]
    rw [e]
    unfold lstep
    rw [h1, h2]
    generalize k * 2 ^ n = m
    split
    · exact ⟨rfl, by simp only; omega⟩
    · exact ⟨rfl, by simp only; omega⟩

/-- How often b can be doubled below a. -/
def lgK (a b : Nat) : Nat := (a / b).log2
def lgY (a b : Nat) : Nat := a * 2147483648 / (b * 2 ^ lgK a b)
/-- The logarithm in units of 2^-16. -/
def lgV (a b : Nat) : Nat := lgK a b * 65536 + (lit (lgY a b, 0) 16).2

/-- Where the doubling stands, closed to the walk. -/
def Dbl (b B k : Nat) : Prop := B = b * 2 ^ k
def LitAt (y k n z o : Nat) : Prop := lit (y, k) n = (z, o)

theorem dbl_step {b B k : Nat} (h : Dbl b B k) : Dbl b (B * 2) (k + 1) := by unfold Dbl at *; rw [h, Nat.pow_succ, Nat.mul_assoc]
theorem dbl_bd {b B k a : Nat} (h : Dbl b B k) (hb : 1 ≤ b) (ha : B ≤ a) (h2 : a ≤ 2147483648) : k ≤ 31 := by
  unfold Dbl at h
  have h1 : 2 ^ k ≤ B := by rw [h]; exact Nat.le_mul_of_pos_left _ hb
  rcases Nat.lt_or_ge 31 k with hk | hk
  · have := Nat.pow_lt_pow_right (a := 2) (by omega) hk
    have e : 2 ^ 31 = 2147483648 := by decide
    omega
  · exact hk
theorem dbl_end {b B k a : Nat} (h : Dbl b B k) (hb : 1 ≤ b) (ha : B ≤ a) (hlt : a < B * 2) : k = lgK a b ∧ a * 2147483648 / B = lgY a b := by
  unfold Dbl at h
  have hk : k = lgK a b := by
    unfold lgK
    have hne : a / b ≠ 0 := by
      have : 1 ≤ a / b := by
        rw [Nat.le_div_iff_mul_le hb, Nat.one_mul]
        have : b * 1 ≤ b * 2 ^ k := Nat.mul_le_mul_left _ (Nat.two_pow_pos k)
        omega
      omega
    symm
    rw [Nat.log2_eq_iff hne]
    constructor
    · rw [Nat.le_div_iff_mul_le hb, Nat.mul_comm, ← h]; exact ha
    · rw [Nat.div_lt_iff_lt_mul hb, Nat.pow_succ, Nat.mul_right_comm, Nat.mul_comm (2 ^ k), ← h]; exact hlt
  refine ⟨hk, ?_⟩
  unfold lgY
  rw [← hk, ← h]
theorem y_bd {a B : Nat} (hB : 1 ≤ B) (hlt : a < B * 2) : a * 2147483648 / B < 4294967296 := by
  rw [Nat.div_lt_iff_lt_mul hB]; omega

theorem litAt_yes {y k n z o : Nat} (h : LitAt y k n z o) (hz : 4294967296 ≤ z * z / 2147483648) : LitAt y k (n + 1) (z * z / 2147483648 / 2) (o * 2 + 1) := lit_yes _ _ _ _ h hz
theorem litAt_no {y k n z o : Nat} (h : LitAt y k n z o) (hz : ¬ 4294967296 ≤ z * z / 2147483648) : LitAt y k (n + 1) (z * z / 2147483648) (o * 2) := lit_no _ _ _ _ h hz
theorem litAt_bd {y k n z o : Nat} (h : LitAt y k n z o) (hy : y < 4294967296) (hk : k ≤ 31) (hn : n ≤ 16) : z < 4294967296 ∧ o ≤ 2097151 := by
  have hb := lit_bd y k hy n
  unfold LitAt at h
  rw [h] at hb
  refine ⟨hb.1, ?_⟩
  have h1 : (k + 1) * 2 ^ n ≤ 32 * 2 ^ 16 := Nat.mul_le_mul (by omega) (Nat.pow_le_pow_right (by omega) hn)
  have e : 32 * 2 ^ 16 = 2097152 := by decide
  have h2 := hb.2
  simp only at h2
  omega
theorem litAt_end {y k z o : Nat} (h : LitAt y k 16 z o) : o = k * 65536 + (lit (y, 0) 16).2 := by
  unfold LitAt at h
  have := (lit_bits y k 16).2
  rw [h] at this
  exact this

/-! ### the quotient, bit by bit -/
def QAt (a b d n q r : Nat) : Prop := q = a / 2 ^ n * b / d ∧ r = a / 2 ^ n * b % d
def QD (X d q r : Nat) : Prop := q * d + r = X

theorem qat_start (a b d : Nat) (ha : a < 18446744073709551616) : QAt a b d 64 0 0 := by
  have : a / 2 ^ 64 = 0 := Nat.div_eq_of_lt ha
  unfold QAt; rw [this]; simp
theorem qat_dbl {a b d m q r t : Nat} (h : QAt a b d (m + 1) q r) (ht : a / 2 ^ m % 2 = t) : QD (a / 2 ^ m * b) d (q * 2) (r * 2 + t * b) := by
  obtain ⟨hq, hr⟩ := h
  have e : a / 2 ^ (m + 1) = a / 2 ^ m / 2 := by rw [Nat.pow_succ, Nat.div_div_eq_div_mul]
  rw [e] at hq hr
  have hd := Nat.div_add_mod (a / 2 ^ m / 2 * b) d
  rw [← hq, ← hr] at hd
  have ha : a / 2 ^ m = a / 2 ^ m / 2 * 2 + t := by omega
  unfold QD
  generalize a / 2 ^ m / 2 = T at *
  rw [ha, Nat.add_mul, Nat.mul_right_comm T 2 b, ← hd, Nat.mul_right_comm q 2 d, Nat.mul_comm q d, Nat.add_mul]
  omega
theorem qd_step {X d q r : Nat} (h : QD X d q r) (hr : d ≤ r) : QD X d (q + 1) (r - d) := by
  unfold QD at *; rw [Nat.add_mul]; omega
theorem qd_end {X d q r : Nat} (h : QD X d q r) (hr : r < d) : q = X / d ∧ r = X % d := by
  unfold QD at h
  have e : X = r + d * q := by rw [Nat.mul_comm d q]; omega
  constructor
  · rw [e, Nat.add_mul_div_left _ _ (by omega), Nat.div_eq_of_lt hr]; omega
  · rw [e, Nat.add_mul_mod_self_left, Nat.mod_eq_of_lt hr]
theorem qd_bd {X d q r : Nat} (h : QD X d q r) (hd : 0 < d) : q ≤ X / d := by
  unfold QD at h
  rw [Nat.le_div_iff_mul_le hd]; omega
theorem x_bd (a b d m : Nat) : a / 2 ^ m * b / d ≤ a * b / d :=
  Nat.div_le_div_right (Nat.mul_le_mul_right _ (Nat.div_le_self _ _))

/-! ### the weight -/
def wtP (l dd : Nat) : Nat := 9 * l * dd
def wtK (l dd t : Nat) : Nat := 65536 * (3 * t + wtP l dd) / (10 * t)
def wtD (o l dd t : Nat) : Nat := 10 * (65536 * o + wtK l dd t)
def wtV (W o l dd t : Nat) : Nat := 22 * W * (65536 * o) / wtD o l dd t

theorem wtP_bd {l dd : Nat} (hl : l ≤ 1048576) (hd : dd ≤ 1048576) : wtP l dd ≤ 9895604649984 := by
  unfold wtP
  have := Nat.mul_le_mul (Nat.mul_le_mul_left 9 hl) hd
  exact this
theorem wtK_bd {l dd t : Nat} (hl : l ≤ 1048576) (hd : dd ≤ 1048576) (ht : 1 ≤ t) : wtK l dd t ≤ 72057594037927936 := by
  have hp := wtP_bd hl hd
  unfold wtK
  refine Nat.div_le_of_le_mul ?_
  have : 720575940379279360 * t ≤ 10 * t * 72057594037927936 := by omega
  omega
theorem wtV_bd {W o l dd t : Nat} (hW : W ≤ 1099511627776) (ho : 1 ≤ o) : wtV W o l dd t ≤ 24189255811072 := by
  unfold wtV
  refine Nat.div_le_of_le_mul ?_
  have h1 : 655360 * o ≤ wtD o l dd t := by unfold wtD; omega
  have h2 : 655360 * o * 24189255811072 ≤ wtD o l dd t * 24189255811072 := Nat.mul_le_mul_right _ h1
  have h3 : 22 * W * (65536 * o) ≤ 24189255811072 * (65536 * o) := Nat.mul_le_mul_right _ (by omega)
  omega

end Go.Proofs.Ytnngapfbeappcaa.ScoreMath

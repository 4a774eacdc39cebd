/- Plain arithmetic of a division of 128 bits by 64, two digits of 32 bits at a time. No program stands here. -/
namespace Go.Proofs.Ytnngapfbeappcaa.DivMath

theorem q_exit (y1 y0 u u1 q r : Nat) (h : q * y1 + r = u) (hy : 0 < y1 * 4294967296 + y0)
    (hq : (u * 4294967296 + u1) / (y1 * 4294967296 + y0) ≤ q) (hle : q * y0 ≤ 4294967296 * r + u1) :
    q = (u * 4294967296 + u1) / (y1 * 4294967296 + y0) := by
  refine Nat.le_antisymm ?_ hq
  rw [Nat.le_div_iff_mul_le hy, Nat.mul_add, ← Nat.mul_assoc, ← h]
  omega

theorem q_more (y1 y0 u u1 q r : Nat) (h : q * y1 + r = u) (hu1 : u1 < 4294967296) (hu : u < y1 * 4294967296 + y0)
    (hgt : 4294967296 ≤ q ∨ 4294967296 * r + u1 < q * y0) :
    (u * 4294967296 + u1) / (y1 * 4294967296 + y0) < q := by
  rw [Nat.div_lt_iff_lt_mul (by omega)]
  rcases hgt with hb | hb
  · have h1 : 4294967296 * (y1 * 4294967296 + y0) ≤ q * (y1 * 4294967296 + y0) := Nat.mul_le_mul_right _ hb
    omega
  · rw [Nat.mul_add, ← Nat.mul_assoc, ← h]
    omega

theorem q_break (y1 y0 u u1 q r : Nat) (h : q * y1 + r = u) (hy0 : y0 < 4294967296) (hu : u < y1 * 4294967296 + y0) (hr : 4294967296 ≤ r) :
    q < 4294967296 ∧ q * y0 ≤ 4294967296 * r + u1 := by
  have hq : q < 4294967296 := by
    have h1 : q * y1 < 4294967296 * y1 := by rw [Nat.mul_comm 4294967296]; omega
    exact Nat.lt_of_mul_lt_mul_right h1
  refine ⟨hq, ?_⟩
  have h2 : q * y0 ≤ 4294967296 * 4294967296 := Nat.mul_le_mul (by omega) (by omega)
  omega

/-- Where the digit begins: no less than the true one, and at most one above the base. -/
theorem q_start (y1 y0 u u1 : Nat) (hy1 : 2147483648 ≤ y1) (hy0 : y0 < 4294967296) (hu1 : u1 < 4294967296) (hu : u < y1 * 4294967296 + y0) :
    (u * 4294967296 + u1) / (y1 * 4294967296 + y0) ≤ u / y1 ∧ u / y1 ≤ 4294967297 ∧ u / y1 * y1 + u % y1 = u ∧ u % y1 < y1 := by
  refine ⟨?_, ?_, ?_, Nat.mod_lt _ (by omega)⟩
  · have h1 : (u * 4294967296 + u1) / (y1 * 4294967296 + y0) ≤ (u * 4294967296 + u1) / (y1 * 4294967296) := Nat.div_le_div_left (by omega) (by omega)
    have h2 : (u * 4294967296 + u1) / (y1 * 4294967296) = u / y1 := by
      rw [Nat.mul_comm y1, ← Nat.div_div_eq_div_mul]
      congr 1
      omega
    omega
  · have h3 : u / y1 < 4294967298 := by
      rw [Nat.div_lt_iff_lt_mul (by omega)]
      omega
    omega
  · rw [Nat.mul_comm]; exact Nat.div_add_mod u y1

theorem prod_bd (q y0 : Nat) (hq : q ≤ 4294967297) (hy0 : y0 < 4294967296) : q * y0 < 18446744073709551616 := by
  have := Nat.mul_le_mul hq (show y0 ≤ 4294967295 by omega)
  omega

/-- The rest behind a digit: what wraps comes to the true rest. -/
theorem rest_is (N y : Nat) (hy : 0 < y) (hy2 : y < 18446744073709551616) :
    ∃ r : Nat, r = N % y ∧ r < y ∧ N = y * (N / y) + r ∧ (((N : Int) - (N / y : Nat) * y) % 18446744073709551616) = (r : Int) := by
  refine ⟨N % y, rfl, Nat.mod_lt _ hy, (Nat.div_add_mod N y).symm, ?_⟩
  have h := Nat.div_add_mod N y
  have hm := Nat.mod_lt N hy
  rw [Nat.mul_comm] at h
  have h2 : ((N : Int)) = ((N / y * y : Nat) : Int) + ((N % y : Nat) : Int) := by rw [← Int.natCast_add]; exact congrArg _ h.symm
  rw [← Int.natCast_mul]
  omega

/-- Two digits are the quotient. -/
theorem two_digits_B (n u0 y B : Nat) (hy : 0 < y) :
    n / y * B + (n % y * B + u0) / y = (n * B + u0) / y := by
  have h := Nat.div_add_mod n y
  have h2 : n * B = (y * (n / y) + n % y) * B := by rw [h]
  have e : n * B + u0 = (n % y * B + u0) + y * (n / y * B) := by
    rw [h2, Nat.add_mul, ← Nat.mul_assoc]
    omega
  rw [e, Nat.add_mul_div_left _ _ hy]
  omega

theorem two_digits (n u0 y : Nat) (hy : 0 < y) :
    n / y * 4294967296 + (n % y * 4294967296 + u0) / y = (n * 4294967296 + u0) / y := two_digits_B n u0 y 4294967296 hy

/-- Both sides shifted alike: the same quotient. -/
theorem shifted (n y s : Nat) : (n * 2 ^ s) / (y * 2 ^ s) = n / y := Nat.mul_div_mul_right n y (Nat.two_pow_pos s)

theorem join_digits (U L : Nat) : (U * 4294967296 + L / 4294967296) * 4294967296 + L % 4294967296 = U * 18446744073709551616 + L := by
  have h := Nat.div_add_mod' L 4294967296
  rw [Nat.add_mul, Nat.mul_assoc, Nat.add_assoc, h]

theorem digit_lt (u u1 Y : Nat) (hu : u < Y) (hu1 : u1 < 4294967296) : (u * 4294967296 + u1) / Y < 4294967296 := by
  rw [Nat.div_lt_iff_lt_mul (by omega)]; omega

end Go.Proofs.Ytnngapfbeappcaa.DivMath

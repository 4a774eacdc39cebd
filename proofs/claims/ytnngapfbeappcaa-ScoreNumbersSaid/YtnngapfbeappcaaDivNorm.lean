/- Plain arithmetic of a division of 128 bits by 64: the divisor shifted till its highest bit stands. No program stands here. -/
import Derived.IntWalk
import Derived.Lib.BitFns
import Derived.Laws.Bits64b
import Derived.Below
import Derived.Test.YtnngapfbeappcaaDivMath
namespace Go.Proofs.Ytnngapfbeappcaa.DivMath
open Go.RowKit

theorem lt_bitLen : ∀ (f x : Nat), x < 2 ^ f → f ≤ 64 → x < 2 ^ Lib.bitLenAux f x
  | 0, x, h, _ => by simp at h; subst h; simp [Lib.bitLenAux]
  | f + 1, x, h, hf => by
    simp only [Lib.bitLenAux]
    split
    · omega
    · have := lt_bitLen f (x / 2) (by rw [Nat.pow_succ] at h; omega) (by omega)
      rw [Nat.add_comm, Nat.pow_succ]
      omega

theorem bitLen_bd (y : Nat) (h0 : 0 < y) (h : y < 18446744073709551616) : 1 ≤ Lib.bitLen y ∧ Lib.bitLen y ≤ 64 ∧ y < 2 ^ Lib.bitLen y ∧ 2 ^ (Lib.bitLen y - 1) ≤ y := by
  have h1 : y < 2 ^ Lib.bitLen y := lt_bitLen 64 y h (Nat.le_refl _)
  have h2 : 1 ≤ Lib.bitLen y := by
    rcases Nat.eq_zero_or_pos (Lib.bitLen y) with e | e
    · rw [e] at h1; omega
    · exact e
  have h3 := Lib.bitLen_le y 64 (Nat.le_refl _) h
  refine ⟨h2, h3, h1, ?_⟩
  rcases Nat.lt_or_ge y (2 ^ (Lib.bitLen y - 1)) with hl | hg
  · have := Lib.bitLen_le y (Lib.bitLen y - 1) (by omega) hl
    omega
  · exact hg

theorem wrapU (n : Nat) : IntKind.u64.wrap (n : Int) = ((n % 18446744073709551616 : Nat) : Int) := by
  rw [IntKind.wrap_u64]; omega

/-- The numbers behind the shift. -/
theorem norm (hi lo y s : Nat) (hlt : hi < y) (hy : y < 18446744073709551616) (hlo : lo < 18446744073709551616) (hs : Lib.bitLen y + s = 64) :
    ∃ Y H D U L : Nat, IntKind.u64.wrap ((y : Int) * 2 ^ s) = (Y : Int) ∧ IntKind.u64.wrap ((hi : Int) * 2 ^ s) = (H : Int) ∧ ((lo : Int) / 2 ^ (64 - s)) = (D : Int) ∧
      bits .or .u64 (H : Int) (D : Int) = (U : Int) ∧ IntKind.u64.wrap ((lo : Int) * 2 ^ s) = (L : Int) ∧ 9223372036854775808 ≤ Y ∧ Y < 18446744073709551616 ∧ U < Y ∧ L < 18446744073709551616 ∧
      (U * 18446744073709551616 + L) / Y = (hi * 18446744073709551616 + lo) / y := by
  obtain ⟨b1, b2, b3, b4⟩ := bitLen_bd y (by omega) hy
  have hp : 0 < 2 ^ s := Nat.two_pow_pos s
  have hps : 2 ^ Lib.bitLen y * 2 ^ s = 18446744073709551616 := by rw [← Nat.pow_add, hs]
  have hps1 : 2 ^ (Lib.bitLen y - 1) * 2 ^ s = 9223372036854775808 := by
    rw [← Nat.pow_add, show Lib.bitLen y - 1 + s = 63 by omega]
  have hps2 : 2 ^ (64 - s) * 2 ^ s = 18446744073709551616 := by rw [← Nat.pow_add, show 64 - s + s = 64 by omega]
  have y1 : y * 2 ^ s < 18446744073709551616 := by rw [← hps]; exact (Nat.mul_lt_mul_right hp).2 b3
  have y0 : 9223372036854775808 ≤ y * 2 ^ s := by rw [← hps1]; exact Nat.mul_le_mul_right _ b4
  have h1 : hi * 2 ^ s < y * 2 ^ s := (Nat.mul_lt_mul_right hp).2 hlt
  have cast : ∀ n : Nat, (n : Int) * 2 ^ s = ((n * 2 ^ s : Nat) : Int) := fun n => by simp
  have d1 : lo / 2 ^ (64 - s) < 2 ^ s := by
    rw [Nat.div_lt_iff_lt_mul (Nat.two_pow_pos _), Nat.mul_comm, hps2]; exact hlo
  have l1 : lo * 2 ^ s / 18446744073709551616 = lo / 2 ^ (64 - s) := by
    rw [← hps2, Nat.mul_div_mul_right _ _ hp]
  have l2 := Nat.div_add_mod (lo * 2 ^ s) 18446744073709551616
  rw [l1] at l2
  have u1 : hi * 2 ^ s ||| lo / 2 ^ (64 - s) = hi * 2 ^ s + lo / 2 ^ (64 - s) := by
    rw [Nat.mul_comm hi]; exact (Nat.two_pow_add_eq_or_of_lt d1 hi).symm
  have hN : (hi * 2 ^ s + lo / 2 ^ (64 - s)) * 18446744073709551616 + lo * 2 ^ s % 18446744073709551616 = (hi * 18446744073709551616 + lo) * 2 ^ s := by
    rw [Nat.add_mul (hi * 18446744073709551616), Nat.mul_right_comm hi, Nat.add_mul]
    omega
  have hNlt : (hi * 18446744073709551616 + lo) * 2 ^ s < y * 2 ^ s * 18446744073709551616 := by
    rw [Nat.mul_right_comm]
    refine (Nat.mul_lt_mul_right hp).2 ?_
    omega
  refine ⟨y * 2 ^ s, hi * 2 ^ s, lo / 2 ^ (64 - s), hi * 2 ^ s + lo / 2 ^ (64 - s), lo * 2 ^ s % 18446744073709551616, ?_, ?_, ?_, ?_, ?_, y0, y1, ?_, by omega, ?_⟩
  · rw [cast, wrapU, Nat.mod_eq_of_lt y1]
  · rw [cast, wrapU, Nat.mod_eq_of_lt (by omega)]
  · simp
  · rw [bits_or_u64_nat _ _ (by omega) (by have := Nat.div_le_self lo (2 ^ (64 - s)); omega), u1]
  · rw [cast, wrapU]
  · rw [← hN] at hNlt
    generalize hi * 2 ^ s + lo / 2 ^ (64 - s) = U at *
    generalize y * 2 ^ s = Y at *
    omega
  · rw [hN, Nat.mul_div_mul_right _ _ hp]

theorem maskU (a : Nat) (ha : a < 18446744073709551616) : bits .and .u64 (a : Int) 4294967295 = ((a % 4294967296 : Nat) : Int) := by
  have h := bits_and_u64_nat a 4294967295 ha (by omega)
  have e : a &&& 4294967295 = a % 4294967296 := Nat.and_two_pow_sub_one_eq_mod a 32
  rw [e] at h
  exact h

/-- The rest of a digit, as the walk spells it. -/
theorem rest_wrap (u u1 y : Nat) (hy : 0 < y) (hy2 : y < 18446744073709551616) :
    IntKind.u64.wrap (IntKind.u64.wrap (IntKind.u64.wrap ((u : Int) * 4294967296) + (u1 : Int)) - IntKind.u64.wrap ((((u * 4294967296 + u1) / y : Nat) : Int) * (y : Int))) = (((u * 4294967296 + u1) % y : Nat) : Int) := by
  obtain ⟨r, e1, e2, _, e4⟩ := rest_is (u * 4294967296 + u1) y hy hy2
  rw [← e1, ← e4]
  have ec : ((u : Int) * 4294967296 + (u1 : Int)) = ((u * 4294967296 + u1 : Nat) : Int) := by simp
  generalize ((u * 4294967296 + u1) / y : Nat) * (y : Int) = p at *
  simp only [IntKind.wrap_u64]
  omega

/-- The invariant of a digit's loop, closed to the walk. -/
def Dig (y1 u q r : Nat) : Prop := q * y1 + r = u

theorem dig_step (y1 u q r : Nat) (h : Dig y1 u q r) (hq : 1 ≤ q) : Dig y1 u (q - 1) (r + y1) := by
  unfold Dig at *
  obtain ⟨q', rfl⟩ : ∃ q', q = q' + 1 := ⟨q - 1, by omega⟩
  rw [Nat.add_mul] at h
  simp only [Nat.add_sub_cancel]
  omega

theorem dig_more (y1 y0 Y u u1 q r Q : Nat) (h : Dig y1 u q r) (hu1 : u1 < 4294967296) (hu : u < Y) (eY : Hid (Y = y1 * 4294967296 + y0))
    (eQ : Hid (Q = (u * 4294967296 + u1) / (y1 * 4294967296 + y0))) (hgt : 4294967296 ≤ q ∨ 4294967296 * r + u1 < q * y0) : Q < q := by
  rw [eQ.out]; exact q_more y1 y0 u u1 q r h hu1 (by rw [← eY.out]; exact hu) hgt

theorem dig_exit (y1 y0 Y u u1 q r Q : Nat) (h : Dig y1 u q r) (hY : 0 < Y) (eY : Hid (Y = y1 * 4294967296 + y0))
    (eQ : Hid (Q = (u * 4294967296 + u1) / (y1 * 4294967296 + y0))) (hq : Q ≤ q) (hle : q * y0 ≤ 4294967296 * r + u1) : q = Q := by
  have e := eQ.out
  rw [e]; exact q_exit y1 y0 u u1 q r h (by rw [← eY.out]; exact hY) (by rw [← e]; exact hq) hle

theorem dig_break (y1 y0 Y u u1 q r Q : Nat) (h : Dig y1 u q r) (hq1 : 1 ≤ q) (hY : 0 < Y) (hy0 : y0 < 4294967296) (hu : u < Y) (eY : Hid (Y = y1 * 4294967296 + y0))
    (eQ : Hid (Q = (u * 4294967296 + u1) / (y1 * 4294967296 + y0))) (hq : Q < q) (hr : 4294967296 ≤ r + y1) : q = Q + 1 := by
  have hs := dig_step y1 u q r h hq1
  have hb := q_break y1 y0 u u1 (q - 1) (r + y1) hs hy0 (by rw [← eY.out]; exact hu) hr
  have := dig_exit y1 y0 Y u u1 (q - 1) (r + y1) Q hs hY eY eQ (by omega) hb.2
  omega

end Go.Proofs.Ytnngapfbeappcaa.DivMath

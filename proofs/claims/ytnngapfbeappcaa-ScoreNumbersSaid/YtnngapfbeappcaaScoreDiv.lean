/- The walk of math/bits.Div64: a division of 128 bits by 64. -/
import Derived.Test.YtnngapfbeappcaaRows
import Derived.Test.YtnngapfbeappcaaShelf
import Derived.Test.YtnngapfbeappcaaDivNorm
import Derived.WalkKit
import Derived.WalkSpells
import Derived.Lib.Hide
import Derived.WalkLawsBesides
import Derived.Deep.QuietTactic
import Derived.BigQuiet
import Derived.Laws.Bits64b
namespace Go.Proofs.Ytnngapfbeappcaa
open Go.RowKit DivMath

set_option maxHeartbeats 400000 in
theorem div64_small (lo y : Nat) (hy0 : 0 < y) (hy : y < 18446744073709551616) (hlo : lo < 18446744073709551616) (w : World) :
    Calls Try.prog 41 #[.int .u64 0, .int .u64 lo, .int .u64 y] w fun e w' => (∃ r : Int, e = .returned (.tuple #[.int .u64 ((lo / y : Nat) : Int), .int .u64 r])) ∧ (∃ n, w' = w.drewN n) := by
  have hz : ((y : Int) == 0) = false := by simp; omega
  go_enter Try.func41, Try.ntmps41
  go_wp2
  go_quiet (fail)
  have hq : ((lo : Int) / y) = ((lo / y : Nat) : Int) := rfl
  have hb : lo / y < 18446744073709551616 := Nat.lt_of_le_of_lt (Nat.div_le_self _ _) hlo
  rw [hq] at *
  rw [IntWalk.u64_in ((lo / y : Nat) : Int) ⟨Int.natCast_nonneg _, by omega⟩]
  go_wp2
  go_ret2
  exact ⟨⟨_, rfl⟩, ⟨_, rfl⟩⟩

theorem lz_any (y s : Nat) (hy : y < 18446744073709551616) (hs : (Lib.bitLen y) + s = 64) (w : World) :
    Calls Try.prog 48 #[.int .u64 y] w fun e w' => e = .returned (.int .i64 (s : Int)) ∧ w = w' := by
  refine (Try.bits_LeadingZeros64 _ _ (by omega) (by omega)).mono ?_
  rintro e w' ⟨rfl, rfl⟩
  refine ⟨?_, rfl⟩
  rw [Int.toNat_natCast, show (64 - (Lib.bitLen y : Int)) = (s : Int) by omega]

set_option maxRecDepth 100000 in
set_option maxHeartbeats 1000000 in
theorem div64_core (hi lo y s Y H D U L y1 y0 l1 l0 q p r Q1 R1 q2 p2 r2 Q2 : Nat) (hs1 : Lib.bitLen y + s = 64) (hs2 : s ≤ 63)
    (hY : IntKind.u64.wrap ((y : Int) * 2 ^ s) = (Y : Int)) (hH : IntKind.u64.wrap ((hi : Int) * 2 ^ s) = (H : Int)) (hD : ((lo : Int) / 2 ^ (64 - s)) = (D : Int))
    (hU : bits .or .u64 (H : Int) (D : Int) = (U : Int)) (hL : IntKind.u64.wrap ((lo : Int) * 2 ^ s) = (L : Int))
    (hy1 : (Y : Int) / 4294967296 = (y1 : Int)) (hy0 : bits .and .u64 (Y : Int) 4294967295 = (y0 : Int))
    (hl1 : (L : Int) / 4294967296 = (l1 : Int)) (hl0 : bits .and .u64 (L : Int) 4294967295 = (l0 : Int))
    (hq : (U : Int) / (y1 : Int) = (q : Int)) (hp : (q : Int) * (y1 : Int) = (p : Int)) (hr : (U : Int) - (p : Int) = (r : Int))
    (hR1 : IntKind.u64.wrap (IntKind.u64.wrap (IntKind.u64.wrap ((U : Int) * 4294967296) + (l1 : Int)) - IntKind.u64.wrap ((Q1 : Int) * (Y : Int))) = (R1 : Int))
    (hq2 : (R1 : Int) / (y1 : Int) = (q2 : Int)) (hp2 : (q2 : Int) * (y1 : Int) = (p2 : Int)) (hr2 : (R1 : Int) - (p2 : Int) = (r2 : Int))
    (hhi : 0 < hi) (hlt : hi < y) (hyb : y < 18446744073709551616) (hlo : lo < 18446744073709551616)
    (bY0 : 9223372036854775808 ≤ Y) (bY1 : Y < 18446744073709551616) (bU : U < Y) (bR1 : R1 < Y) (by1 : 2147483648 ≤ y1) (by1' : y1 < 4294967296) (by0 : y0 < 4294967296) (bl1 : l1 < 4294967296) (bl0 : l0 < 4294967296)
    (bp : p ≤ U) (br : r < y1) (bp2 : p2 ≤ R1) (br2 : r2 < y1) (bq : q ≤ 4294967297) (bq2 : q2 ≤ 4294967297) (bQ1 : Q1 < 4294967296) (bQ2 : Q2 < 4294967296)
    (gq : Dig y1 U q r ∧ Q1 ≤ q) (gq2 : Dig y1 R1 q2 r2 ∧ Q2 ≤ q2)
    (eQ1 : Hid (Q1 = (U * 4294967296 + l1) / (y1 * 4294967296 + y0))) (eQ2 : Hid (Q2 = (R1 * 4294967296 + l0) / (y1 * 4294967296 + y0)))
    (eY : Hid (Y = y1 * 4294967296 + y0)) (w : World) :
    Calls Try.prog 41 #[.int .u64 hi, .int .u64 lo, .int .u64 y] w fun e w' => (∃ r : Int, e = .returned (.tuple #[.int .u64 ((Q1 : Int) * 4294967296 + (Q2 : Int)), .int .u64 r])) ∧ (∃ n, w' = w.drewN n) := by
  have hz : ((y : Int) == 0) = false := by simp; omega
  have hz' : ((hi : Int) == 0) = false := by simp; omega
  have hs := Lib.hid hs1
  have eu1 : U < y1 * 4294967296 + y0 := by rw [← eY.out]; exact bU
  have eu2 : R1 < y1 * 4294967296 + y0 := by rw [← eY.out]; exact bR1
  have Hu1 := Lib.hid eu1
  have Hu2 := Lib.hid eu2
  have Hgq := Lib.hid gq
  have Hgq2 := Lib.hid gq2
  clear hs1 eu1 eu2 gq gq2
  go_enter Try.func41, Try.ntmps41
  go_wp2_with fail
  refine (lz_any _ _ hyb hs.out _).mono ?_
  rintro e w' ⟨rfl, rfl⟩
  go_wp2_with fail
  go_loop [15, 16] (fun a b => ∃ q r : Nat, a = .int .u64 q ∧ b = .int .u64 r ∧ Dig y1 U q r ∧ Q1 ≤ q ∧ q ≤ 4294967297 ∧ r < 4294967296) (fun a _ => (intOf a).toNat)
  case atStart => exact ⟨q, r, rfl, rfl, Hgq.out.1, Hgq.out.2, bq, by omega⟩
  case round =>
    clear hY hH hD hU hL hq hp hr
    obtain ⟨qq, rr, rfl, rfl, hdig, hQq1, hqb1, hrb1⟩ := hrel
    have hpb0 := prod_bd qq y0 hqb1 by0
    have hpb1 : (qq : Int) * (y0 : Int) ≤ 18446744073709551615 := by rw [← Int.natCast_mul]; omega
    have hpn1 : 0 ≤ (qq : Int) * (y0 : Int) := by rw [← Int.natCast_mul]; omega
    have hpc : ((qq * y0 : Nat) : Int) = (qq : Int) * (y0 : Int) := Int.natCast_mul _ _
    have Hpc1 := Lib.hid hpc
    clear hpb0 hpc
    by_cases hgt : 4294967296 ≤ qq ∨ 4294967296 * rr + l1 < qq * y0
    · have hlt1 := dig_more y1 y0 Y U l1 qq rr Q1 hdig bl1 bU eY eQ1 hgt
      have Hgt1 := Lib.hid hgt
      clear hgt
      by_cases hbr1 : 4294967296 ≤ rr + y1
      · have hqe := dig_break y1 y0 Y U l1 qq rr Q1 hdig (by omega) (by omega) by0 bU eY eQ1 hlt1 hbr1
        have hbrI1 : (4294967296 : Int) ≤ (rr : Int) + (y1 : Int) := by omega
        have hqm1 : (qq : Int) - 1 = (Q1 : Int) := by omega
        clear hqe
        by_cases hge1 : 4294967296 ≤ qq
        · have hgeI1 : (4294967296 : Int) ≤ qq := by omega
          go_wp2_with fail
          go_loop [18, 16] (fun a b => ∃ q r : Nat, a = .int .u64 q ∧ b = .int .u64 r ∧ Dig y1 R1 q r ∧ Q2 ≤ q ∧ q ≤ 4294967297 ∧ r < 4294967296) (fun a _ => (intOf a).toNat)
          case atStart => exact ⟨q2, r2, rfl, rfl, Hgq2.out.1, Hgq2.out.2, bq2, by omega⟩
          case round =>
            clear hR1 hq2 hp2 hr2
            obtain ⟨qq2, rr2, rfl, rfl, hdig2, hQq2, hqb2, hrb2⟩ := hrel
            have hpb0 := prod_bd qq2 y0 hqb2 by0
            have hpb2 : (qq2 : Int) * (y0 : Int) ≤ 18446744073709551615 := by rw [← Int.natCast_mul]; omega
            have hpn2 : 0 ≤ (qq2 : Int) * (y0 : Int) := by rw [← Int.natCast_mul]; omega
            have hpc : ((qq2 * y0 : Nat) : Int) = (qq2 : Int) * (y0 : Int) := Int.natCast_mul _ _
            have Hpc2 := Lib.hid hpc
            clear hpb0 hpc
            by_cases hgt : 4294967296 ≤ qq2 ∨ 4294967296 * rr2 + l0 < qq2 * y0
            · have hlt2 := dig_more y1 y0 Y R1 l0 qq2 rr2 Q2 hdig2 bl0 bR1 eY eQ2 hgt
              have Hgt2 := Lib.hid hgt
              clear hgt
              by_cases hbr2 : 4294967296 ≤ rr2 + y1
              · have hqe := dig_break y1 y0 Y R1 l0 qq2 rr2 Q2 hdig2 (by omega) (by omega) by0 bR1 eY eQ2 hlt2 hbr2
                have hbrI2 : (4294967296 : Int) ≤ (rr2 : Int) + (y1 : Int) := by omega
                have hqm2 : (qq2 : Int) - 1 = (Q2 : Int) := by omega
                clear hqe
                by_cases hge2 : 4294967296 ≤ qq2
                · have hgeI2 : (4294967296 : Int) ≤ qq2 := by omega
                  go_wp2_with fail
                  go_ret2
                  exact ⟨⟨_, rfl⟩, ⟨0, rfl⟩⟩
                · have hgeI2 : ¬ (4294967296 : Int) ≤ qq2 := by omega
                  have hgtI2 : 4294967296 * (rr2 : Int) + (l0 : Int) < (qq2 : Int) * (y0 : Int) := by have := Hgt2.out; have := Hpc2.out; omega
                  go_wp2_with fail
                  go_ret2
                  exact ⟨⟨_, rfl⟩, ⟨0, rfl⟩⟩
              · have hbrI2 : ¬ (4294967296 : Int) ≤ (rr2 : Int) + (y1 : Int) := by omega
                have Hst2 := Lib.hid (dig_step y1 R1 qq2 rr2 hdig2 (by omega))
                by_cases hge2 : 4294967296 ≤ qq2
                · have hgeI2 : (4294967296 : Int) ≤ qq2 := by omega
                  go_wp2_with fail
                  go_round
                  case rel => exact ⟨qq2 - 1, rr2 + y1, by go_num, by go_num, Hst2.out, by omega, by omega, by omega⟩
                  case measure => simp [intOf]; omega
                · have hgeI2 : ¬ (4294967296 : Int) ≤ qq2 := by omega
                  have hgtI2 : 4294967296 * (rr2 : Int) + (l0 : Int) < (qq2 : Int) * (y0 : Int) := by have := Hgt2.out; have := Hpc2.out; omega
                  go_wp2_with fail
                  go_round
                  case rel => exact ⟨qq2 - 1, rr2 + y1, by go_num, by go_num, Hst2.out, by omega, by omega, by omega⟩
                  case measure => simp [intOf]; omega
            · have hqe := dig_exit y1 y0 Y R1 l0 qq2 rr2 Q2 hdig2 (by omega) eY eQ2 hQq2 (by omega)
              have hgtI2 : ¬ 4294967296 * (rr2 : Int) + (l0 : Int) < (qq2 : Int) * (y0 : Int) := by have := Hpc2.out; omega
              have hgeI2 : ¬ (4294967296 : Int) ≤ qq2 := by omega
              clear hgt
              subst hqe
              go_wp2_with fail
              go_ret2
              exact ⟨⟨_, rfl⟩, ⟨0, rfl⟩⟩
        · have hgeI1 : ¬ (4294967296 : Int) ≤ qq := by omega
          have hgtI1 : 4294967296 * (rr : Int) + (l1 : Int) < (qq : Int) * (y0 : Int) := by have := Hgt1.out; have := Hpc1.out; omega
          go_wp2_with fail
          go_loop [18, 16] (fun a b => ∃ q r : Nat, a = .int .u64 q ∧ b = .int .u64 r ∧ Dig y1 R1 q r ∧ Q2 ≤ q ∧ q ≤ 4294967297 ∧ r < 4294967296) (fun a _ => (intOf a).toNat)
          case atStart => exact ⟨q2, r2, rfl, rfl, Hgq2.out.1, Hgq2.out.2, bq2, by omega⟩
          case round =>
            clear hR1 hq2 hp2 hr2
            obtain ⟨qq2, rr2, rfl, rfl, hdig2, hQq2, hqb2, hrb2⟩ := hrel
            have hpb0 := prod_bd qq2 y0 hqb2 by0
            have hpb2 : (qq2 : Int) * (y0 : Int) ≤ 18446744073709551615 := by rw [← Int.natCast_mul]; omega
            have hpn2 : 0 ≤ (qq2 : Int) * (y0 : Int) := by rw [← Int.natCast_mul]; omega
            have hpc : ((qq2 * y0 : Nat) : Int) = (qq2 : Int) * (y0 : Int) := Int.natCast_mul _ _
            have Hpc2 := Lib.hid hpc
            clear hpb0 hpc
            by_cases hgt : 4294967296 ≤ qq2 ∨ 4294967296 * rr2 + l0 < qq2 * y0
            · have hlt2 := dig_more y1 y0 Y R1 l0 qq2 rr2 Q2 hdig2 bl0 bR1 eY eQ2 hgt
              have Hgt2 := Lib.hid hgt
              clear hgt
              by_cases hbr2 : 4294967296 ≤ rr2 + y1
              · have hqe := dig_break y1 y0 Y R1 l0 qq2 rr2 Q2 hdig2 (by omega) (by omega) by0 bR1 eY eQ2 hlt2 hbr2
                have hbrI2 : (4294967296 : Int) ≤ (rr2 : Int) + (y1 : Int) := by omega
                have hqm2 : (qq2 : Int) - 1 = (Q2 : Int) := by omega
                clear hqe
                by_cases hge2 : 4294967296 ≤ qq2
                · have hgeI2 : (4294967296 : Int) ≤ qq2 := by omega
                  go_wp2_with fail
                  go_ret2
                  exact ⟨⟨_, rfl⟩, ⟨0, rfl⟩⟩
                · have hgeI2 : ¬ (4294967296 : Int) ≤ qq2 := by omega
                  have hgtI2 : 4294967296 * (rr2 : Int) + (l0 : Int) < (qq2 : Int) * (y0 : Int) := by have := Hgt2.out; have := Hpc2.out; omega
                  go_wp2_with fail
                  go_ret2
                  exact ⟨⟨_, rfl⟩, ⟨0, rfl⟩⟩
              · have hbrI2 : ¬ (4294967296 : Int) ≤ (rr2 : Int) + (y1 : Int) := by omega
                have Hst2 := Lib.hid (dig_step y1 R1 qq2 rr2 hdig2 (by omega))
                by_cases hge2 : 4294967296 ≤ qq2
                · have hgeI2 : (4294967296 : Int) ≤ qq2 := by omega
                  go_wp2_with fail
                  go_round
                  case rel => exact ⟨qq2 - 1, rr2 + y1, by go_num, by go_num, Hst2.out, by omega, by omega, by omega⟩
                  case measure => simp [intOf]; omega
                · have hgeI2 : ¬ (4294967296 : Int) ≤ qq2 := by omega
                  have hgtI2 : 4294967296 * (rr2 : Int) + (l0 : Int) < (qq2 : Int) * (y0 : Int) := by have := Hgt2.out; have := Hpc2.out; omega
                  go_wp2_with fail
                  go_round
                  case rel => exact ⟨qq2 - 1, rr2 + y1, by go_num, by go_num, Hst2.out, by omega, by omega, by omega⟩
                  case measure => simp [intOf]; omega
            · have hqe := dig_exit y1 y0 Y R1 l0 qq2 rr2 Q2 hdig2 (by omega) eY eQ2 hQq2 (by omega)
              have hgtI2 : ¬ 4294967296 * (rr2 : Int) + (l0 : Int) < (qq2 : Int) * (y0 : Int) := by have := Hpc2.out; omega
              have hgeI2 : ¬ (4294967296 : Int) ≤ qq2 := by omega
              clear hgt
              subst hqe
              go_wp2_with fail
              go_ret2
              exact ⟨⟨_, rfl⟩, ⟨0, rfl⟩⟩
      · have hbrI1 : ¬ (4294967296 : Int) ≤ (rr : Int) + (y1 : Int) := by omega
        have Hst1 := Lib.hid (dig_step y1 U qq rr hdig (by omega))
        by_cases hge1 : 4294967296 ≤ qq
        · have hgeI1 : (4294967296 : Int) ≤ qq := by omega
          go_wp2_with fail
          go_round
          case rel => exact ⟨qq - 1, rr + y1, by go_num, by go_num, Hst1.out, by omega, by omega, by omega⟩
          case measure => simp [intOf]; omega
        · have hgeI1 : ¬ (4294967296 : Int) ≤ qq := by omega
          have hgtI1 : 4294967296 * (rr : Int) + (l1 : Int) < (qq : Int) * (y0 : Int) := by have := Hgt1.out; have := Hpc1.out; omega
          go_wp2_with fail
          go_round
          case rel => exact ⟨qq - 1, rr + y1, by go_num, by go_num, Hst1.out, by omega, by omega, by omega⟩
          case measure => simp [intOf]; omega
    · have hqe := dig_exit y1 y0 Y U l1 qq rr Q1 hdig (by omega) eY eQ1 hQq1 (by omega)
      have hgtI1 : ¬ 4294967296 * (rr : Int) + (l1 : Int) < (qq : Int) * (y0 : Int) := by have := Hpc1.out; omega
      have hgeI1 : ¬ (4294967296 : Int) ≤ qq := by omega
      clear hgt
      subst hqe
      go_wp2_with fail
      go_loop [18, 16] (fun a b => ∃ q r : Nat, a = .int .u64 q ∧ b = .int .u64 r ∧ Dig y1 R1 q r ∧ Q2 ≤ q ∧ q ≤ 4294967297 ∧ r < 4294967296) (fun a _ => (intOf a).toNat)
      case atStart => exact ⟨q2, r2, rfl, rfl, Hgq2.out.1, Hgq2.out.2, bq2, by omega⟩
      case round =>
        clear hR1 hq2 hp2 hr2
        obtain ⟨qq2, rr2, rfl, rfl, hdig2, hQq2, hqb2, hrb2⟩ := hrel
        have hpb0 := prod_bd qq2 y0 hqb2 by0
        have hpb2 : (qq2 : Int) * (y0 : Int) ≤ 18446744073709551615 := by rw [← Int.natCast_mul]; omega
        have hpn2 : 0 ≤ (qq2 : Int) * (y0 : Int) := by rw [← Int.natCast_mul]; omega
        have hpc : ((qq2 * y0 : Nat) : Int) = (qq2 : Int) * (y0 : Int) := Int.natCast_mul _ _
        have Hpc2 := Lib.hid hpc
        clear hpb0 hpc
        by_cases hgt : 4294967296 ≤ qq2 ∨ 4294967296 * rr2 + l0 < qq2 * y0
        · have hlt2 := dig_more y1 y0 Y R1 l0 qq2 rr2 Q2 hdig2 bl0 bR1 eY eQ2 hgt
          have Hgt2 := Lib.hid hgt
          clear hgt
          by_cases hbr2 : 4294967296 ≤ rr2 + y1
          · have hqe := dig_break y1 y0 Y R1 l0 qq2 rr2 Q2 hdig2 (by omega) (by omega) by0 bR1 eY eQ2 hlt2 hbr2
            have hbrI2 : (4294967296 : Int) ≤ (rr2 : Int) + (y1 : Int) := by omega
            have hqm2 : (qq2 : Int) - 1 = (Q2 : Int) := by omega
            clear hqe
            by_cases hge2 : 4294967296 ≤ qq2
            · have hgeI2 : (4294967296 : Int) ≤ qq2 := by omega
              go_wp2_with fail
              go_ret2
              exact ⟨⟨_, rfl⟩, ⟨0, rfl⟩⟩
            · have hgeI2 : ¬ (4294967296 : Int) ≤ qq2 := by omega
              have hgtI2 : 4294967296 * (rr2 : Int) + (l0 : Int) < (qq2 : Int) * (y0 : Int) := by have := Hgt2.out; have := Hpc2.out; omega
              go_wp2_with fail
              go_ret2
              exact ⟨⟨_, rfl⟩, ⟨0, rfl⟩⟩
          · have hbrI2 : ¬ (4294967296 : Int) ≤ (rr2 : Int) + (y1 : Int) := by omega
            have Hst2 := Lib.hid (dig_step y1 R1 qq2 rr2 hdig2 (by omega))
            by_cases hge2 : 4294967296 ≤ qq2
            · have hgeI2 : (4294967296 : Int) ≤ qq2 := by omega
              go_wp2_with fail
              go_round
              case rel => exact ⟨qq2 - 1, rr2 + y1, by go_num, by go_num, Hst2.out, by omega, by omega, by omega⟩
              case measure => simp [intOf]; omega
            · have hgeI2 : ¬ (4294967296 : Int) ≤ qq2 := by omega
              have hgtI2 : 4294967296 * (rr2 : Int) + (l0 : Int) < (qq2 : Int) * (y0 : Int) := by have := Hgt2.out; have := Hpc2.out; omega
              go_wp2_with fail
              go_round
              case rel => exact ⟨qq2 - 1, rr2 + y1, by go_num, by go_num, Hst2.out, by omega, by omega, by omega⟩
              case measure => simp [intOf]; omega
        · have hqe := dig_exit y1 y0 Y R1 l0 qq2 rr2 Q2 hdig2 (by omega) eY eQ2 hQq2 (by omega)
          have hgtI2 : ¬ 4294967296 * (rr2 : Int) + (l0 : Int) < (qq2 : Int) * (y0 : Int) := by have := Hpc2.out; omega
          have hgeI2 : ¬ (4294967296 : Int) ≤ qq2 := by omega
          clear hgt
          subst hqe
          go_wp2_with fail
          go_ret2
          exact ⟨⟨_, rfl⟩, ⟨0, rfl⟩⟩
end Go.Proofs.Ytnngapfbeappcaa

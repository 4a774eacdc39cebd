/- The walks of aggs.Sum and aggs.Floor. -/
import Derived.Test.YtnngapfbeappcaaKit
import Derived.Test.YtnngapfbeappcaaAggsMath
import Derived.Shelf.Spec.BitsCarry
namespace Go.Proofs.Ytnngapfbeappcaa
open Go.RowKit ScoreMath AggsMath

theorem add64_run (x y c s d : Int) (hx : 0 ≤ x) (hy : 0 ≤ y) (h0 : 0 ≤ c) (h1 : c ≤ 1) (hs : s = (x + y + c) % 18446744073709551616) (hd : d = (x + y + c) / 18446744073709551616) (w : World) :
    (callFunc 29 #[.int .u64 x, .int .u64 y, .int .u64 c]).run Try.prog w = .ok (.value (.tuple #[.int .u64 s, .int .u64 d])) w := by
  obtain ⟨x, rfl⟩ := Int.eq_ofNat_of_zero_le hx
  obtain ⟨y, rfl⟩ := Int.eq_ofNat_of_zero_le hy
  obtain ⟨c, rfl⟩ := Int.eq_ofNat_of_zero_le h0
  subst hs hd
  rw [run_callFunc_extern Try.func29 (by kernel_rfl) (by kernel_rfl) (by kernel_rfl) (e := add64Entry) (by kernel_rfl), run_add64 x y c (by omega) (by omega) (by omega) (by omega)]
  simp only [Result.andThen]

theorem ret_sum {k : IntKind} {a b : Int} {p q : Bool} (h1 : b = a) (h2 : q = p) : Ending.returned (.tuple #[.int k a, .bool p]) = Ending.returned (.tuple #[.int k b, .bool q]) := by rw [h1, h2]

/-- What has been summed: the first k numbers, in two words. -/
def SumAt (xs : List Int) (k : Nat) (h l : Int) : Prop := Words (isum (xs.take k)) h l

set_option maxHeartbeats 1000000 in
theorem aggsSum_any (A : Option Addr) (n c : Nat) (xs : List Int) (B : Nat) (w : World) (hn : n ≤ 17592186044416) (hx : Reads w B 1 A n (ints xs)) (hf : Fits xs) :
    Calls Try.prog 7 #[.slice A n c] w fun e w' => e = .returned (.tuple #[.int .i64 (held (isum xs)), .bool (over (isum xs))]) ∧ w = w' := by
  have Lx := Lib.hid hx.ints_length
  go_enter Try.func7, Try.ntmps7
  go_wp2
  go_loop [12, 4, 5] (fun i h l => ∃ (k : Nat) (H L : Int), k ≤ n ∧ i = .int .i64 k ∧ h = .int .u64 H ∧ l = .int .u64 L ∧ SumAt xs k H L) (fun i _ _ => n - (intOf i).toNat)
  case atStart => exact ⟨0, 0, 0, Nat.zero_le _, rfl, rfl, rfl, words_zero⟩
  case round =>
    obtain ⟨k, H, L, hk, rfl, rfl, rfl, hw⟩ := hrel
    by_cases hlt : k < n
    · obtain ⟨ad, x, rfl, hcx, Hx⟩ := hx.int_at hlt
      clear hx
      have hxf := hf x (List.mem_of_getElem? Hx.out)
      obtain ⟨h0, _, h2, _⟩ := Words.bd hw
      obtain ⟨v, sg, l', cc, h', c2, e1, e2, p1, p2, p3, p4, q1, q2, q3, q4, hw'⟩ := words_step hw hxf
      have A1 := fun W => add64_run L v 0 l' cc h2 p1 (by omega) (by omega) (by rw [q1]; simp) (by rw [q2]; simp) W
      have A2 := fun W => add64_run H sg cc h' c2 h0 p2 p3 p4 q3 q4 W
      have Hw : Hid (SumAt xs (k + 1) h' l') := by show Words _ _ _; rw [isum_take Hx.out]; exact hw'
      clear hw hw' q1 q2 q3 q4 hf
      go_wp2
      go_round
      case rel => exact ⟨k + 1, h', l', by omega, by go_num, rfl, rfl, Hw.out⟩
      case measure => simp [intOf]; omega
    · obtain rfl : k = n := by omega
      have hb := isum_bd xs hf
      have hl := Lx.out
      rw [hl] at hb
      have hwS : Words (isum xs) H L := by
        have : SumAt xs k H L := hw
        unfold SumAt at this
        rwa [List.take_of_length_le (by omega)] at this
      have hs : -162259276829213363391578010288128 ≤ isum xs ∧ isum xs ≤ 162259276829213363391578010288128 := by omega
      have Hs := Lib.hid hs
      have HwS := Lib.hid hwS
      have Hf := Lib.hid hf
      obtain ⟨b1, b2, b3, b4⟩ := Words.bd hwS
      obtain ⟨S, hS⟩ : ∃ S, isum xs = S := ⟨_, rfl⟩
      rw [hS] at Hs HwS
      have HS := Lib.hid hS
      clear hw hb hl hwS hs hx hf hS
      by_cases t1 : H = 0 ∧ L < 9223372036854775808
      · obtain ⟨rfl, tl⟩ := t1
        obtain ⟨f1, f2⟩ := fin1 HwS.out Hs.out tl
        rw [IntWalk.wrap64_in L (by omega)] at f1
        have F1 := Lib.hid f1
        have F2 := Lib.hid f2
        clear f1 f2
        clear HwS
        go_wp2
        go_ret2
        exact ⟨ret_sum (by rw [HS.out]; exact F1.out.symm) (by rw [HS.out]; exact F2.out), rfl⟩
      by_cases t2 : H = 18446744073709551615 ∧ 9223372036854775808 ≤ L
      · obtain ⟨t2h, tl⟩ := t2
        obtain ⟨f1, f2⟩ := fin2 HwS.out t2h Hs.out tl
        have F1 := Lib.hid f1
        have F2 := Lib.hid f2
        have z1 : (H == 0) = false := by simp; omega
        have z2 : (H == 18446744073709551615) = true := by simp [t2h]
        clear f1 f2 t1 t2h
        clear HwS
        go_wp2
        go_ret2
        exact ⟨ret_sum (by rw [HS.out]; exact F1.out.symm) (by rw [HS.out]; exact F2.out), rfl⟩
      by_cases t5 : H < 9223372036854775808
      · obtain ⟨f1, f2⟩ := fin3 HwS.out Hs.out t1 t5
        have F1 := Lib.hid f1
        have F2 := Lib.hid f2
        have z2 : (H == 18446744073709551615) = false := by simp; omega
        by_cases z : H = 0
        · have z1 : (H == 0) = true := by simp [z]
          have tl : ¬ L < 9223372036854775808 := fun h => t1 ⟨z, h⟩
          clear f1 f2 t1 t2 z
          clear HwS
          go_wp2
          go_ret2
          exact ⟨ret_sum (by rw [HS.out]; exact F1.out.symm) (by rw [HS.out]; exact F2.out), rfl⟩
        · have z1 : (H == 0) = false := by simp [z]
          clear f1 f2 t1 t2 z
          clear HwS
          go_wp2
          go_ret2
          exact ⟨ret_sum (by rw [HS.out]; exact F1.out.symm) (by rw [HS.out]; exact F2.out), rfl⟩
      · obtain ⟨f1, f2⟩ := fin4 HwS.out Hs.out t2 t5
        have F1 := Lib.hid f1
        have F2 := Lib.hid f2
        have z1 : (H == 0) = false := by simp; omega
        by_cases z : H = 18446744073709551615
        · have z2 : (H == 18446744073709551615) = true := by simp [z]
          have tl : ¬ 9223372036854775808 ≤ L := fun h => t2 ⟨z, h⟩
          clear f1 f2 t1 t2 z
          clear HwS
          go_wp2
          go_ret2
          exact ⟨ret_sum (by rw [HS.out]; exact F1.out.symm) (by rw [HS.out]; exact F2.out), rfl⟩
        · have z2 : (H == 18446744073709551615) = false := by simp [z]
          clear f1 f2 t1 t2 z
          clear HwS
          go_wp2
          go_ret2
          exact ⟨ret_sum (by rw [HS.out]; exact F1.out.symm) (by rw [HS.out]; exact F2.out), rfl⟩

theorem quo_le (x y : Int) (hx : -9223372036854775808 ≤ x ∧ x ≤ 9223372036854775807) (hy : 1 ≤ y) : -9223372036854775808 ≤ x.tdiv y ∧ x.tdiv y ≤ 9223372036854775807 := by
  have h : (x.tdiv y).natAbs = x.natAbs / y.natAbs := Int.natAbs_tdiv x y
  have h2 : x.natAbs / y.natAbs ≤ x.natAbs := Nat.div_le_self _ _
  by_cases h0 : 0 ≤ x
  · have := Int.tdiv_nonneg h0 (show 0 ≤ y by omega); omega
  · have h3 := Int.tdiv_nonneg (show 0 ≤ -x by omega) (show 0 ≤ y by omega); rw [Int.neg_tdiv] at h3; omega

/-- What Floor answers, in the walk's words. -/
def floorR (v step : Int) : Int := if step < 1 then 0 else if v.tmod step < 0 then wrap64 (v.tdiv step - 1) else v.tdiv step

set_option maxHeartbeats 400000 in
theorem floor_any (v step : Int) (hv : -9223372036854775808 ≤ v ∧ v ≤ 9223372036854775807) (_hs : -9223372036854775808 ≤ step ∧ step ≤ 9223372036854775807) (w : World) :
    Calls Try.prog 10 #[.int .i64 v, .int .i64 step] w fun e w' => e = .returned (.int .i64 (floorR v step)) ∧ w = w' := by
  unfold floorR
  by_cases h1 : step < 1
  · rw [if_pos h1]
    go_enter Try.func10, Try.ntmps10
    go_wp2
    go_ret
    exact ⟨rfl, rfl⟩
  · rw [if_neg h1]
    by_cases h0 : 0 ≤ v
    · have hm : ¬ v.tmod step < 0 := by rw [Int.tmod_eq_emod_of_nonneg h0]; have := Int.emod_nonneg v (show step ≠ 0 by omega); omega
      rw [if_neg hm]
      have hm' : ¬ v % step < 0 := by have := Int.emod_nonneg v (show step ≠ 0 by omega); omega
      rw [Int.tdiv_eq_ediv_of_nonneg h0]
      go_enter Try.func10, Try.ntmps10
      go_wp2
      go_ret
      exact ⟨rfl, rfl⟩
    · have hq := quo_le v step hv (by omega)
      by_cases hm : v.tmod step < 0
      · rw [if_pos hm]
        go_enter Try.func10, Try.ntmps10
        go_wp2
        go_ret
        exact ⟨rfl, rfl⟩
      · rw [if_neg hm]
        go_enter Try.func10, Try.ntmps10
        go_wp2
        go_ret
        exact ⟨rfl, rfl⟩

set_option maxHeartbeats 400000 in
theorem rfloor_any (v step : Int) (hv : -9223372036854775808 ≤ v ∧ v ≤ 9223372036854775807) (_hs : -9223372036854775808 ≤ step ∧ step ≤ 9223372036854775807) (w : World) :
    Calls Try.prog 11 #[.int .i64 v, .int .i64 step] w fun e w' => e = .returned (.int .i64 (floorR v step)) ∧ w = w' := by
  unfold floorR
  by_cases h1 : step < 1
  · rw [if_pos h1]
    go_enter Try.func11, Try.ntmps11
    go_wp2
    go_ret
    exact ⟨rfl, rfl⟩
  · rw [if_neg h1]
    by_cases h0 : 0 ≤ v
    · have hm : ¬ v.tmod step < 0 := by rw [Int.tmod_eq_emod_of_nonneg h0]; have := Int.emod_nonneg v (show step ≠ 0 by omega); omega
      rw [if_neg hm]
      have hm' : ¬ v % step < 0 := by have := Int.emod_nonneg v (show step ≠ 0 by omega); omega
      rw [Int.tdiv_eq_ediv_of_nonneg h0]
      go_enter Try.func11, Try.ntmps11
      go_wp2
      go_ret
      exact ⟨rfl, rfl⟩
    · have hq := quo_le v step hv (by omega)
      by_cases hm : v.tmod step < 0
      · rw [if_pos hm]
        go_enter Try.func11, Try.ntmps11
        go_wp2
        go_ret
        exact ⟨rfl, rfl⟩
      · rw [if_neg hm]
        go_enter Try.func11, Try.ntmps11
        go_wp2
        go_ret
        exact ⟨rfl, rfl⟩

end Go.Proofs.Ytnngapfbeappcaa

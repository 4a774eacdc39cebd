/- The walk of merge.Pick. -/
import Derived.Test.YtllipkakgjmheaaGreatDoorPickP
import Derived.Lib.MinMax
set_option linter.unusedVariables false
set_option linter.unusedSimpArgs false
namespace Go.Proofs.YtllipkakgjmheaaGreatDoor
open Rep (rep)
open Go.RowKit

theorem tuple_nums {a b c d : Int} (h1 : a = c) (h2 : b = d) : Ending.returned (.tuple #[.int .i64 a, .int .i64 b]) = Ending.returned (.tuple #[.int .i64 c, .int .i64 d]) := by rw [h1, h2]

set_option maxHeartbeats 1000000 in
theorem pick_any (A : Option Addr) (n c : Nat) (xs : List Int) (m : Int) (B : Nat) (w : World) (hn : n ≤ 17592186044416) (hc : n ≤ c) (hc2 : c ≤ 9223372036854775807) (hx : Reads w B 1 A n (ints xs)) (hm : -9223372036854775808 ≤ m ∧ m ≤ 9223372036854775807) :
    Calls Tryz.prog 6 #[.slice A n c, .int .i64 m] w fun e w' => e = .returned (.tuple #[.int .i64 (picked xs m).1, .int .i64 (picked xs m).2]) ∧ InDraws w w' := by
  by_cases h2 : m < 2
  · rw [show picked xs m = (0, 0) by unfold picked; rw [if_pos (.inl h2)]]
    clear hx
    go_enter Tryz.func6, Tryz.ntmps6
    go_wp2
    go_ret2
    exact ⟨rfl, 0, rfl⟩
  by_cases h16 : 16 < m
  · rw [show picked xs m = (0, 0) by unfold picked; rw [if_pos (.inr h16)]]
    clear hx
    go_enter Tryz.func6, Tryz.ntmps6
    go_wp2
    go_ret2
    exact ⟨rfl, 0, rfl⟩
  obtain ⟨M, rfl⟩ := Int.eq_ofNat_of_zero_le (show 0 ≤ m by omega)
  have hM1 : 2 ≤ M := by omega
  have hM2 : M ≤ 16 := by omega
  have lx := hx.ints_length
  have hp : picked xs (M : Int) = if (pk xs M (n + 1 - M)).2 < 0 then (0, 0) else ((pk xs M (n + 1 - M)).2, (pk xs M (n + 1 - M)).2 + M) := by
    unfold picked
    rw [if_neg (by omega), Int.toNat_natCast, lx]
  obtain ⟨r, hr⟩ : ∃ r, picked xs (M : Int) = r := ⟨_, rfl⟩
  rw [hr] at hp ⊢
  have Hp := Lib.hid hp
  have Lx := Lib.hid lx
  clear hp lx hm hr
  go_enter Tryz.func6, Tryz.ntmps6
  go_wp2
  go_loopw [8, 6, 7] (fun i b a wr => ∃ (k : Nat) (bb aa : Int), k ≤ n + 1 - M ∧ i = .int .i64 k ∧ b = .int .i64 bb ∧ a = .int .i64 aa ∧ pk xs M k = (bb, aa) ∧ InDraws w wr) (fun i _ _ _ => n + 1 - (intOf i).toNat)
  case atStart => exact ⟨0, 16385, -1, Nat.zero_le _, rfl, rfl, rfl, rfl, 0, rfl⟩
  case round =>
    obtain ⟨k, bb, aa, hk, rfl, rfl, rfl, hpk, ⟨j, rfl⟩⟩ := hrel
    have hbd := pk_bd xs M k bb aa hpk
    have hbb : 0 ≤ bb ∧ bb ≤ 16385 := by rcases hbd with ⟨_, rfl⟩ | h <;> omega
    have haa : -1 ≤ aa ∧ aa < k + 1 := by rcases hbd with ⟨rfl, _⟩ | h <;> omega
    have Hpk := Lib.hid hpk
    have Hbd := Lib.hid hbd
    clear hpk hbd
    by_cases hlt : k + M ≤ n
    · obtain ⟨ad, x0, rfl, _, _⟩ := hx.int_at (k := 0) (by omega)
      have hlt' : (k : Int) + M ≤ n := by omega
      have Hx := Lib.hid hx
      clear hx
      go_wp2
      go_loopw [33, 9] (fun jv sv wr => ∃ q : Nat, q ≤ M ∧ jv = .int .i64 q ∧ sv = .int .i64 (wsum xs k q) ∧ InDraws w wr) (fun jv _ _ => M - (intOf jv).toNat)
      case atStart => exact ⟨0, Nat.zero_le _, rfl, rfl, j, rfl⟩
      case round =>
        obtain ⟨q, hq, rfl, rfl, ⟨j2, rfl⟩⟩ := hrel
        have hsb := wsum_bd xs k q
        by_cases hqm : q < M
        · obtain ⟨ad', x, e, hcx, Hxx⟩ := Hx.out.int_at (k := k + q) (by omega)
          cases e
          have hcx' : w.cell? ((ad.add k).add q) = some (.int .i64 x) := by rw [Addr.add_add]; exact hcx
          have hstep := wsum_step Hxx.out
          have hmm : min (max x 0) 16385 = capN x := by unfold capN; split
                                                        · omega
                                                        · split <;> omega
          have hcb := capN_bd x
          obtain ⟨S, hS⟩ : ∃ S, wsum xs k q = S := ⟨_, rfl⟩
          obtain ⟨C, hC⟩ : ∃ C, capN x = C := ⟨_, rfl⟩
          rw [hS] at hsb hstep ⊢
          rw [hC] at hmm hcb hstep
          have Hstep := Lib.hid hstep
          have hq2 : q < k + M - k := by omega
          have hqI : (q : Int) < M := by omega
          clear hcx hstep hS hC
          go_wp2
          go_roundw
          case rel => exact ⟨q + 1, by omega, by go_num, by rw [Hstep.out], j2, rfl⟩
          case measure => simp [intOf]; omega
        · obtain rfl : q = M := by omega
          obtain ⟨S, hS⟩ : ∃ S, wsum xs k q = S := ⟨_, rfl⟩
          rw [hS] at hsb ⊢
          by_cases hl : S < bb
          · have Hp2 := Lib.hid (pk_lt Hpk.out (by rw [hS]; exact hl))
            have HS := Lib.hid hS
            clear hS
            go_wp2
            go_roundw
            case rel => exact ⟨k + 1, S, k, by omega, by go_num, rfl, rfl, by rw [Hp2.out, HS.out], j2, rfl⟩
            case measure => simp [intOf]; omega
          · have Hp2 := Lib.hid (pk_ge Hpk.out (by rw [hS]; exact hl))
            clear hS
            go_wp2
            go_roundw
            case rel => exact ⟨k + 1, bb, aa, by omega, by go_num, rfl, rfl, Hp2.out, j2, rfl⟩
            case measure => simp [intOf]; omega
    · have hlt' : ¬ ((k : Int) + M ≤ n) := by omega
      have hkn : k = n + 1 - M := by omega
      subst hkn
      have Hx := Lib.hid hx
      clear hx
      by_cases ha : aa < 0
      · have e : r = (0, 0) := by rw [Hp.out, Hpk.out]; exact if_pos ha
        subst e
        go_wp2
        go_ret2
        exact ⟨rfl, j, rfl⟩
      · have e : r = (aa, aa + M) := by rw [Hp.out, Hpk.out]; exact if_neg ha
        subst e
        go_wp2
        go_ret2
        exact ⟨rfl, j, rfl⟩
end Go.Proofs.YtllipkakgjmheaaGreatDoor

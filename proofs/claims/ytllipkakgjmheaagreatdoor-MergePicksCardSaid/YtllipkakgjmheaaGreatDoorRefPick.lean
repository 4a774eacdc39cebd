/- The walk of lecternref17.Pick. -/
import Derived.Test.YtllipkakgjmheaaGreatDoorPick
set_option linter.unusedVariables false
set_option linter.unusedSimpArgs false
namespace Go.Proofs.YtllipkakgjmheaaGreatDoor
open Rep (rep)
open Go.RowKit

/-- what the reference keeps of the best window -/
def leastOf (b a : Int) : Int := if a < 0 then 0 else b
theorem capN_hi {x : Int} (h : 16384 < x) : capN x = 16385 := by
  unfold capN; rw [if_neg (by omega)]; split <;> omega
theorem capN_lo {x : Int} (h : x ≤ 0) : capN x = 0 := by
  unfold capN; split
  · rfl
  · rw [if_neg (by omega)]; omega
theorem capN_in {x : Int} (h : 0 < x) (h2 : x ≤ 16384) : capN x = x := by
  unfold capN; rw [if_neg (by omega), if_neg (by omega)]

set_option maxHeartbeats 1000000 in
theorem refPick_any (A : Option Addr) (n c : Nat) (xs : List Int) (m : Int) (B : Nat) (w : World) (hn : n ≤ 17592186044416) (hc : n ≤ c) (hx : Reads w B 1 A n (ints xs)) (hm : -9223372036854775808 ≤ m ∧ m ≤ 9223372036854775807) :
    Calls Tryz.prog 7 #[.slice A n c, .int .i64 m] w fun e w' => e = .returned (.tuple #[.int .i64 (picked xs m).1, .int .i64 (picked xs m).2]) ∧ InDraws w w' := by
  by_cases h2 : m < 2
  · rw [show picked xs m = (0, 0) by unfold picked; rw [if_pos (.inl h2)]]
    clear hx
    go_enter Tryz.func7, Tryz.ntmps7
    go_wp2
    go_ret2
    exact ⟨rfl, 0, rfl⟩
  by_cases h16 : 16 < m
  · rw [show picked xs m = (0, 0) by unfold picked; rw [if_pos (.inr h16)]]
    clear hx
    go_enter Tryz.func7, Tryz.ntmps7
    go_wp2
    go_ret2
    exact ⟨rfl, 0, rfl⟩
  obtain ⟨M, rfl⟩ := Int.eq_ofNat_of_zero_le (show 0 ≤ m by omega)
  have hM1 : 2 ≤ M := by omega
  have hM2 : M ≤ 16 := by omega
  have lx := hx.ints_length
  have hp : picked xs (M : Int) = if (pk xs M (n + 1 - M)).2 < 0 then (0, 0) else ((pk xs M (n + 1 - M)).2, (pk xs M (n + 1 - M)).2 + M) := by
    unfold picked
    rw [if_neg (by omega), Int.toNat_natCast, lx]
  obtain ⟨r, hr⟩ : ∃ r, picked xs (M : Int) = r := ⟨_, rfl⟩
  rw [hr] at hp ⊢
  have Hp := Lib.hid hp
  have Lx := Lib.hid lx
  clear hp lx hm hr
  go_enter Tryz.func7, Tryz.ntmps7
  go_wp2
  go_loopw [8, 6, 7] (fun i a l wr => ∃ (k : Nat) (bb aa : Int), k ≤ n + 1 - M ∧ i = .int .i64 k ∧ l = .int .i64 (leastOf bb aa) ∧ a = .int .i64 aa ∧ pk xs M k = (bb, aa) ∧ InDraws w wr) (fun i _ _ _ => n + 1 - (intOf i).toNat)
  case atStart => exact ⟨0, 16385, -1, Nat.zero_le _, rfl, rfl, rfl, rfl, 0, rfl⟩
  case round =>
    obtain ⟨k, bb, aa, hk, rfl, rfl, rfl, hpk, ⟨j, rfl⟩⟩ := hrel
    have hbd := pk_bd xs M k bb aa hpk
    have hbb : 0 ≤ bb ∧ bb ≤ 16385 := by rcases hbd with ⟨_, rfl⟩ | h <;> omega
    have haa : -1 ≤ aa ∧ aa < k + 1 := by rcases hbd with ⟨rfl, _⟩ | h <;> omega
    have hne : aa < 0 → bb = 16385 := by rcases hbd with ⟨rfl, h⟩ | h <;> omega
    have hpo : ¬ aa < 0 → bb ≤ 16384 := by rcases hbd with ⟨rfl, h⟩ | h <;> omega
    have Hpk := Lib.hid hpk
    clear hpk hbd
    obtain ⟨L, hL⟩ : ∃ L, leastOf bb aa = L := ⟨_, rfl⟩
    rw [hL]
    have hL1 : aa < 0 → L = 0 := fun h => by rw [← hL]; exact if_pos h
    have hL2 : ¬ aa < 0 → L = bb := fun h => by rw [← hL]; exact if_neg h
    have hLb : 0 ≤ L ∧ L ≤ 16385 := by
      by_cases ha : aa < 0
      · have := hL1 ha; omega
      · have := hL2 ha; omega
    have HL := Lib.hid hL
    clear hL
    by_cases hlt : k + M ≤ n
    · obtain ⟨ad, x0, rfl, _, _⟩ := hx.int_at (k := 0) (by omega)
      have hlt' : (k : Int) + M ≤ n := by omega
      have Hx := Lib.hid hx
      have H1 := Lib.hid hne
      have H2 := Lib.hid hpo
      have H3 := Lib.hid hL1
      have H4 := Lib.hid hL2
      clear hx hne hpo hL1 hL2
      go_wp2
      go_loopw [10, 9] (fun jv sv wr => ∃ q : Nat, q ≤ M ∧ jv = .int .i64 ((k + q : Nat) : Int) ∧ sv = .int .i64 (wsum xs k q) ∧ InDraws w wr) (fun jv _ _ => k + M - (intOf jv).toNat)
      case atStart => exact ⟨0, Nat.zero_le _, rfl, rfl, j, rfl⟩
      case round =>
        obtain ⟨q, hq, rfl, rfl, ⟨j2, rfl⟩⟩ := hrel
        have hsb := wsum_bd xs k q
        by_cases hqm : q < M
        · obtain ⟨ad', x, e, hcx, Hxx⟩ := Hx.out.int_at (k := k + q) (by omega)
          cases e
          have hstep := wsum_step Hxx.out
          obtain ⟨S, hS⟩ : ∃ S, wsum xs k q = S := ⟨_, rfl⟩
          rw [hS] at hsb hstep ⊢
          have Hstep := Lib.hid hstep
          obtain ⟨z, hz⟩ : ∃ z, z = k + q := ⟨_, rfl⟩
          rw [← hz] at hcx ⊢
          have hz1 : (z : Int) < (k : Int) + M := by omega
          have hz2 : (z : Int) < (n : Int) := by omega
          have hz3 : z < n := by omega
          have Hz := Lib.hid hz
          clear hstep hS hz
          by_cases hx1 : 16384 < x
          · have hc1 := capN_hi hx1
            go_wp2
            go_roundw
            case rel => exact ⟨q + 1, by omega, by rw [Hz.out]; go_num, by rw [Hstep.out, hc1]; go_num, j2, rfl⟩
            case measure => simp [intOf]; omega
          · by_cases hx2 : 0 < x
            · have hc1 := capN_in hx2 (by omega)
              go_wp2
              go_roundw
              case rel => exact ⟨q + 1, by omega, by rw [Hz.out]; go_num, by rw [Hstep.out, hc1], j2, rfl⟩
              case measure => simp [intOf]; omega
            · have hc1 := capN_lo (show x ≤ 0 by omega)
              go_wp2
              go_roundw
              case rel => exact ⟨q + 1, by omega, by rw [Hz.out]; go_num, by rw [Hstep.out, hc1, Int.add_zero], j2, rfl⟩
              case measure => simp [intOf]; omega
        · obtain rfl : q = M := by omega
          obtain ⟨S, hS⟩ : ∃ S, wsum xs k q = S := ⟨_, rfl⟩
          rw [hS] at hsb ⊢
          have HS := Lib.hid hS
          by_cases hl : S < bb
          · have Hp2 := Lib.hid (pk_lt Hpk.out (by rw [hS]; exact hl))
            clear hS
            by_cases ha : aa < 0
            · have hb0 := H1.out ha
              have hS1 : S ≤ 16384 := by omega
              go_wp2
              go_roundw
              case rel => exact ⟨k + 1, S, k, by omega, by go_num, by unfold leastOf; rw [if_neg (by omega)], rfl, by rw [Hp2.out, HS.out], j2, rfl⟩
              case measure => simp [intOf]; omega
            · have hb0 := H2.out (by omega)
              have hL0 := H4.out (by omega)
              have hS1 : S ≤ 16384 := by omega
              have hS2 : S < L := by omega
              clear hL0
              go_wp2
              go_roundw
              case rel => exact ⟨k + 1, S, k, by omega, by go_num, by unfold leastOf; rw [if_neg (by omega)], rfl, by rw [Hp2.out, HS.out], j2, rfl⟩
              case measure => simp [intOf]; omega
          · have Hp2 := Lib.hid (pk_ge Hpk.out (by rw [hS]; exact hl))
            clear hS
            by_cases ha : aa < 0
            · have hb0 := H1.out ha
              have hS1 : ¬ S ≤ 16384 := by omega
              go_wp2
              go_roundw
              case rel => exact ⟨k + 1, bb, aa, by omega, by go_num, by rw [HL.out], rfl, Hp2.out, j2, rfl⟩
              case measure => simp [intOf]; omega
            · have hL0 := H4.out (by omega)
              have hS2 : ¬ S < L := by omega
              clear hL0
              by_cases hS1 : S ≤ 16384
              · go_wp2
                go_roundw
                case rel => exact ⟨k + 1, bb, aa, by omega, by go_num, by rw [HL.out], rfl, Hp2.out, j2, rfl⟩
                case measure => simp [intOf]; omega
              · go_wp2
                go_roundw
                case rel => exact ⟨k + 1, bb, aa, by omega, by go_num, by rw [HL.out], rfl, Hp2.out, j2, rfl⟩
                case measure => simp [intOf]; omega
    · have hlt' : ¬ ((k : Int) + M ≤ n) := by omega
      have hkn : k = n + 1 - M := by omega
      subst hkn
      clear hx hne hpo hL1 hL2
      by_cases ha : aa < 0
      · have e : r = (0, 0) := by rw [Hp.out, Hpk.out]; exact if_pos ha
        subst e
        go_wp2
        go_ret2
        exact ⟨rfl, j, rfl⟩
      · have e : r = (aa, aa + M) := by rw [Hp.out, Hpk.out]; exact if_neg ha
        subst e
        go_wp2
        go_ret2
        exact ⟨rfl, j, rfl⟩
end Go.Proofs.YtllipkakgjmheaaGreatDoor

/- The walk of lecternref23.Sum. -/
import Derived.Test.YtnngapfbeappcaaAggsSum
namespace Go.Proofs.Ytnngapfbeappcaa
open Go.RowKit ScoreMath AggsMath

/-- The length in a slot. -/
def lenOf : Value → Nat | .slice _ n _ => n | _ => 0

set_option maxRecDepth 100000 in
set_option maxHeartbeats 1000000 in
theorem refSum_any (A : Option Addr) (n c : Nat) (xs : List Int) (w : World) (hn : n ≤ 17592186044416) (hx : Reads w w.heap.size 1 A n (ints xs)) (hf : Fits xs) :
    Calls Try.prog 8 #[.slice A n c] w fun e w' => e = .returned (.tuple #[.int .i64 (held (isum xs)), .bool (over (isum xs))]) ∧ Below w.heap.size w w' := by
  obtain ⟨i0, hi0, hz0, hz1, hz2⟩ := info_parts int64_info
  have Lx := Lib.hid hx.ints_length
  have Hf := Lib.hid hf
  obtain ⟨S, hSS⟩ : ∃ S, isum xs = S := ⟨_, rfl⟩
  rw [hSS]
  have HSS := Lib.hid hSS
  clear hf hSS
  go_enter Try.func8, Try.ntmps8
  go_wp2
  go_loopw [4, 5, 6] (fun u d i wr => ∃ (k : Nat) (us ds : List Int), k ≤ n ∧ i = .int .i64 k ∧ wr.ownsRow w.heap.size 2 1 u us.length (ints us) ∧ wr.ownsRow w.heap.size 2 1 d ds.length (ints ds) ∧ Apart u d ∧ Parted xs k us ds ∧ Below w.heap.size w wr) (fun _ _ i _ => n - (intOf i).toNat)
  case atStart => exact ⟨0, [], [], Nat.zero_le _, rfl, World.ownsRow_nil _ _ _ _, World.ownsRow_nil _ _ _ _, .inl rfl, parted_zero xs, Below.refl _ _⟩
  case round =>
    obtain ⟨k, us, ds, hk, rfl, hu, hd, hap, hp, hb⟩ := hrel
    by_cases hlt : k < n
    · obtain ⟨ad, x, rfl, hcx, Hx⟩ := (hx.below hb).int_at hlt
      have hxf := Hf.out x (List.mem_of_getElem? Hx.out)
      have hpl := hp.2.2.2
      have hsz := hb.size
      by_cases h0 : 0 < x
      · have Hp := Lib.hid (parted_up hp Hx.out h0 hxf.2)
        have h0n : ¬ x < 0 := by omega
        clear hp
        go_wp2_with (first
          | (at_builtin
             refine wpList_append_any _ rfl (.tmp 21) (.tmp 26) _ rfl w.heap.size 2 i0 _ 1 8 Try.underlying22 hi0 hz0 hz1 hz2 rfl (by omega) _ _ (ints us) rfl
               (hu.alloc _) (wr.heap.size + 1) (some ⟨wr.heap.size, 0, none⟩) 1 1 [.int .i64 x] rfl (reads_new wr #[.int .i64 x] 2 1 1 rfl) (by simp [Value.oneCell']) (by simp only [maxLen]; omega) (by omega) (by simp; omega) ?_
             intro u2 w2 hu2 hg2 hat2
             have hb2 : Below w.heap.size w w2 := below_any (v' := u2) (hb.alloc hb.size _) (by simp; omega) (own_from hu) hg2
             have hd2 := hap.kept (hd.alloc _) hg2
             have hap2 := hap.grown (hd.alloc _) hat2
             have hcx2 := (hx.below hb2).int_cell hlt Hx
             clear hu hd hg2 hat2))
        go_roundw
        case rel => exact ⟨k + 1, us ++ [x], ds, by omega, by go_num, by simpa [ints] using hu2, hd2, hap2, Hp.out, hb2⟩
        case measure => simp [intOf]; omega
      · by_cases h1 : x < 0
        · have Hp := Lib.hid (parted_down hp Hx.out h1 hxf.1)
          clear hp
          go_wp2_with (first
            | (at_builtin
               refine wpList_append_any _ rfl (.tmp 33) (.tmp 38) _ rfl w.heap.size 2 i0 _ 1 8 Try.underlying22 hi0 hz0 hz1 hz2 rfl (by omega) _ _ (ints ds) rfl
                 (hd.alloc _) (wr.heap.size + 1) (some ⟨wr.heap.size, 0, none⟩) 1 1 [.int .i64 x] rfl (reads_new wr #[.int .i64 x] 2 1 1 rfl) (by simp [Value.oneCell']) (by simp only [maxLen]; omega) (by omega) (by simp; omega) ?_
               intro u2 w2 hu2 hg2 hat2
               have hb2 : Below w.heap.size w w2 := below_any (v' := u2) (hb.alloc hb.size _) (by simp; omega) (own_from hd) hg2
               have hd2 := hap.symm.kept (hu.alloc _) hg2
               have hap2 := hap.symm.grown (hu.alloc _) hat2
               have hcx2 := (hx.below hb2).int_cell hlt Hx
               clear hu hd hg2 hat2))
          go_roundw
          case rel => exact ⟨k + 1, us, ds ++ [x], by omega, by go_num, hd2, by simpa [ints] using hu2, hap2.symm, Hp.out, hb2⟩
          case measure => simp [intOf]; omega
        · obtain rfl : x = 0 := by omega
          have Hp := Lib.hid (parted_zero_at hp Hx.out)
          clear hp
          go_wp2
          go_roundw
          case rel => exact ⟨k + 1, us, ds, by omega, by go_num, hu, hd, hap, Hp.out, hb⟩
          case measure => simp [intOf]; omega
    · obtain rfl : k = n := by omega
      obtain ⟨hS, hup, hdn, hl⟩ := hp
      rw [List.take_of_length_le (by rw [Lx.out]; omega)] at hS
      have Hu := Lib.hid hup
      have Hd := Lib.hid hdn
      have HS : Hid (LeftOf S us ds us.length ds.length 0) := by unfold LeftOf; rw [List.take_length, List.take_length, ← HSS.out]; show _ = _; omega
      clear hS hup hdn hx Hf HSS
      obtain ⟨A1, c1, rfl⟩ := own_slice hu
      obtain ⟨A2, c2, rfl⟩ := own_slice hd
      have hc1 := own_cap hu
      have hc2 := own_cap hd
      have R1 := Reads.of_own hu
      have R2 := Reads.of_own hd
      clear hu hd hap
      go_wp2
      go_loop [4, 5, 7] (fun u d t => ∃ (nu nd : Nat) (s : Int), nu ≤ us.length ∧ nd ≤ ds.length ∧ u = .slice A1 nu c1 ∧ d = .slice A2 nd c2 ∧ t = .int .i64 s ∧ LeftOf S us ds nu nd s ∧ -9223372036854775808 ≤ s ∧ s ≤ 9223372036854775807) (fun u d _ => lenOf u + lenOf d)
      case atStart => exact ⟨us.length, ds.length, 0, Nat.le_refl _, Nat.le_refl _, rfl, rfl, rfl, HS.out, by omega, by omega⟩
      case round =>
        clear HS
        obtain ⟨nu, nd, s, bu, bd, rfl, rfl, rfl, hl, s1, s2⟩ := hrel
        rcases Nat.eq_zero_or_pos nd with rfl | hnd
        · rcases Nat.eq_zero_or_pos nu with rfl | hnu
          · obtain ⟨f1, f2⟩ := left_none hl ⟨s1, s2⟩
            have F1 := Lib.hid f1
            have F2 := Lib.hid f2
            clear f1 f2 hl
            go_wp2
            go_ret2
            exact ⟨ret_sum F1.out.symm F2.out, hb⟩
          · have z1 : ((nu : Int) == 0) = false := by simp; omega
            obtain ⟨ad, x, rfl, hcx, Hx⟩ := R1.int_at (show nu - 1 < us.length by omega)
            have hxb := Hu.out x (List.mem_of_getElem? Hx.out)
            by_cases ho : 9223372036854775807 - x < s
            · obtain ⟨f1, f2⟩ := left_high hl Hu.out hnu Hx.out ho
              have F1 := Lib.hid f1
              have F2 := Lib.hid f2
              clear f1 f2 hl
              go_wp2
              go_ret2
              exact ⟨ret_sum F1.out.symm F2.out, hb⟩
            have Hl := Lib.hid (leftOf_up hl hnu Hx.out)
            clear hl
            go_wp2
            go_round
            case rel => exact ⟨nu - 1, 0, s + x, by omega, by omega, rfl, rfl, rfl, Hl.out, by omega, by omega⟩
            case measure => simp [lenOf]; omega
        · have z2 : ((nd : Int) == 0) = false := by simp; omega
          rcases Nat.eq_zero_or_pos nu with rfl | hnu
          · skip
            obtain ⟨ad, x, rfl, hcx, Hx⟩ := R2.int_at (show nd - 1 < ds.length by omega)
            have hxb := Hd.out x (List.mem_of_getElem? Hx.out)
            by_cases ho : s < -9223372036854775808 - x
            · obtain ⟨f1, f2⟩ := left_low hl Hd.out hnd Hx.out ho
              have F1 := Lib.hid f1
              have F2 := Lib.hid f2
              clear f1 f2 hl
              go_wp2
              go_ret2
              exact ⟨ret_sum F1.out.symm F2.out, hb⟩
            have Hl := Lib.hid (leftOf_down hl hnd Hx.out)
            clear hl
            go_wp2
            go_round
            case rel => exact ⟨0, nd - 1, s + x, by omega, by omega, rfl, rfl, rfl, Hl.out, by omega, by omega⟩
            case measure => simp [lenOf]; omega
          · have z1 : ((nu : Int) == 0) = false := by simp; omega
            by_cases hs : s ≤ 0
            · skip
              obtain ⟨ad, x, rfl, hcx, Hx⟩ := R1.int_at (show nu - 1 < us.length by omega)
              have hxb := Hu.out x (List.mem_of_getElem? Hx.out)
              have ho : ¬ 9223372036854775807 - x < s := by omega
              have Hl := Lib.hid (leftOf_up hl hnu Hx.out)
              clear hl
              go_wp2
              go_round
              case rel => exact ⟨nu - 1, nd, s + x, by omega, by omega, rfl, rfl, rfl, Hl.out, by omega, by omega⟩
              case measure => simp [lenOf]; omega
            · skip
              obtain ⟨ad, x, rfl, hcx, Hx⟩ := R2.int_at (show nd - 1 < ds.length by omega)
              have hxb := Hd.out x (List.mem_of_getElem? Hx.out)
              have ho : ¬ s < -9223372036854775808 - x := by omega
              have Hl := Lib.hid (leftOf_down hl hnd Hx.out)
              clear hl
              go_wp2
              go_round
              case rel => exact ⟨nu, nd - 1, s + x, by omega, by omega, rfl, rfl, rfl, Hl.out, by omega, by omega⟩
              case measure => simp [lenOf]; omega

end Go.Proofs.Ytnngapfbeappcaa

/- The walks of lecternkit.LentInts, Ints, KeptInts. -/
import Derived.Test.YtllipkakgjmheaaGreatDoorKit
set_option linter.unusedVariables false
set_option linter.unusedSimpArgs false
namespace Go.Proofs.YtllipkakgjmheaaGreatDoor
open Rep (rep)
open Go.RowKit

theorem intI_info : (Tryz.prog.info? 3).map (fun i => (i.zero, i.size, i.bytes)) = some (some (.int .i64 0), 1, 8) := by kernel_rfl
/-- The slice value v holds xs with the mark behind, in memory of its own. -/
def MarkedI (w : World) (base : Nat) (v : Value) (n : Nat) (xs : List Int) : Prop :=
  ∃ g cap, v = .slice (some ⟨g, 0, none⟩) n cap ∧ w.ownsRow base 3 1 (.slice (some ⟨g, 0, none⟩) (n + 1) cap) (n + 1) (ints (xs ++ [-7171]))

set_option maxHeartbeats 1000000 in
theorem lentInts_any (A : Option Addr) (n c : Nat) (xs : List Int) (w : World) (hn : n * 8 ≤ 140737488351232) (hx : Reads w w.heap.size 1 A n (ints xs)) :
    Calls Tryz.prog 5 #[.slice A n c] w fun e w' => ∃ v, e = .returned v ∧ MarkedI w' w.heap.size v n xs ∧ Below w.heap.size w w' := by
  obtain ⟨i0, hi0, hz0, hz1, hz2⟩ := info_parts intI_info
  go_enter Tryz.func5, Tryz.ntmps5
  go_wp2_with (first
    | (at_builtin
       refine wpList_append_any _ rfl (.tmp 4) (.tmp 5) _ rfl w.heap.size 3 i0 _ 1 8 Tryz.underlying22 hi0 hz0 hz1 hz2 rfl (by omega) (.slice none 0 0) 0 [] rfl
         ⟨by simp, .inl ⟨rfl, rfl⟩⟩ w.heap.size A n c (ints xs) rfl hx (ints_one xs) (by simp only [maxLen]; omega) (by omega) (Nat.le_refl _) ?_
       intro v1 w1 hown1 hg1 hat1
       have hbw1 : Below w.heap.size w w1 := (Below.refl _ _).grown hg1 (Nat.le_refl _) (by simp [Value.ownBlock]))
    | (at_builtin
       refine wpList_append_any _ rfl (.tmp 7) (.tmp 8) _ rfl w.heap.size 3 i0 _ 1 8 Tryz.underlying22 hi0 hz0 hz1 hz2 rfl (by omega) v1 (0 + n) ([] ++ ints xs) rfl
         (hown1.alloc _) (w1.heap.size + 1) (some ⟨w1.heap.size, 0, none⟩) 1 1 [.int .i64 (-7171)] rfl (reads_new w1 #[.int .i64 (-7171)] 3 1 1 rfl) (by simp [Value.oneCell']) (by simp only [maxLen]; omega) (by omega) (by have := hbw1.size; simp; omega) ?_
       intro v2 w2 hown2 hg2 hat2
       obtain ⟨g, cap, hv2, _, _⟩ := hown2.form (by omega)
       have hbw2 : Below w.heap.size w w2 := below_any (v' := v2) (hbw1.alloc hbw1.size _) (by have := hbw1.size; simp; omega) (own_from hown1) hg2
       subst hv2
       have hcap2 := own_cap hown2))
  go_ret
  exact ⟨_, rfl, ⟨g, cap, rfl, by simpa [ints] using hown2⟩, hbw2⟩

theorem MarkedI.reads {w : World} {base n : Nat} {v : Value} {xs : List Int} (h : MarkedI w base v n xs) (hl : xs.length = n) :
    ∃ g cap, v = .slice (some ⟨g, 0, none⟩) n cap ∧ base ≤ g ∧ n + 1 ≤ cap ∧ cap ≤ 9223372036854775807 ∧ Reads w w.heap.size 1 (some ⟨g, 0, none⟩) n (ints xs) ∧ w.cell? ⟨g, n, none⟩ = some (.int .i64 (-7171)) := by
  obtain ⟨g, cap, hv, ho⟩ := h
  obtain ⟨h1, h2⟩ := own_cap ho
  obtain ⟨g', cap', hv', hb, hlt⟩ := ho.form (by omega)
  injection hv' with hg
  injection hg with hg
  injection hg with hg
  have hr := Reads.of_own ho
  refine ⟨g, cap, hv, by omega, h1, h2, ⟨by rw [ints_len]; omega, fun _ => ⟨_, rfl, by simp only; omega, fun j u hu => ?_⟩⟩, ?_⟩
  · have hj : j < xs.length := by
      rcases Nat.lt_or_ge j xs.length with hj | hj
      · exact hj
      · rw [List.getElem?_eq_none (by rw [ints_len]; exact hj)] at hu; cases hu
    refine ho.cells (g := g) rfl j u ?_
    unfold ints at hu ⊢
    rw [List.map_append, List.getElem?_append_left (by simpa using hj)]
    exact hu
  · have := ho.cells (g := g) rfl n (.int .i64 (-7171)) (by unfold ints; rw [List.map_append, List.getElem?_append_right (by simp [hl])]; simp [hl])
    rw [show (⟨g, 0, none⟩ : Addr).add n = ⟨g, n, none⟩ by unfold Addr.add; split <;> simp_all] at this
    exact this


set_option maxHeartbeats 1000000 in
theorem ints_any (A A' : Option Addr) (n m c c' : Nat) (xs ys : List Int) (B B' : Nat) (w : World) (hn : n ≤ maxLen) (hx : Reads w B 1 A n (ints xs)) (hy : Reads w B' 1 A' m (ints ys)) :
    Calls Tryz.prog 16 #[.slice A n c, .slice A' m c'] w fun e w' => e = .returned (.bool (decide (xs = ys))) ∧ InDraws w w' := by
  unfold maxLen at hn
  have lx := hx.ints_length
  have ly := hy.ints_length
  by_cases hnm : n = m
  · subst hnm
    have Lx := Lib.hid lx
    have Ly := Lib.hid ly
    clear lx ly
    go_enter Tryz.func16, Tryz.ntmps16
    go_wp2
    go_loopw [5] (fun i wr => ∃ k : Nat, k ≤ n ∧ i = .int .i64 k ∧ SameTo xs ys k ∧ InDraws w wr) (fun i _ => n - (intOf i).toNat)
    case atStart => exact ⟨0, Nat.zero_le _, rfl, rfl, 0, rfl⟩
    case round =>
      obtain ⟨k, hk, rfl, hs, hd⟩ := hrel
      by_cases hlt : k < n
      · obtain ⟨j, rfl⟩ := hd
        obtain ⟨ad, x, rfl, hcx, Hx⟩ := hx.int_at hlt
        obtain ⟨ad', y, rfl, hcy, Hy⟩ := hy.int_at hlt
        clear hx hy
        by_cases hxy : x = y
        · subst hxy
          have Hs := Lib.hid (hs.step Hx Hy)
          clear hs
          go_wp2
          go_quiet (fail)
          go_wp2
          go_roundw
          case rel => exact ⟨k + 1, by omega, by go_num, Hs.out, ⟨_, rfl⟩⟩
          case measure => simp [intOf]; omega
        · have hne : (x != y) = true := by simp [hxy]
          have hfin : decide (xs = ys) = false := by
            simp only [decide_eq_false_iff_not]
            rintro rfl
            have := Hx.out.symm.trans Hy.out
            cases this
            exact hxy rfl
          have Hfin := Lib.hid hfin
          clear hfin hs hxy
          go_wp2
          go_quiet (fail)
          go_wp2
          go_ret
          exact ⟨ret_bool Hfin.out.symm, InDraws.more ⟨j, rfl⟩ _⟩
      · obtain rfl : k = n := by omega
        have hfin : decide (xs = ys) = true := by simp [hs.all Lx.out Ly.out]
        have Hfin := Lib.hid hfin
        obtain ⟨j, rfl⟩ := hd
        clear hfin hs
        go_wp2
        go_ret
        exact ⟨ret_bool Hfin.out.symm, j, rfl⟩
  · have hne : ((n : Int) != m) = true := by simp; omega
    have hfin : decide (xs = ys) = false := by
      simp only [decide_eq_false_iff_not]
      rintro rfl
      omega
    have Hfin := Lib.hid hfin
    clear hfin lx ly hx hy
    go_enter Tryz.func16, Tryz.ntmps16
    go_wp2
    go_ret
    exact ⟨ret_bool Hfin.out.symm, 0, rfl⟩


set_option maxHeartbeats 1000000 in
theorem keptInts_any (g n cap : Nat) (A : Option Addr) (c : Nat) (xs : List Int) (B B' : Nat) (w : World) (hn : n ≤ 140737488351232) (hcap : n + 1 ≤ cap) (hcap' : cap ≤ 9223372036854775807) (hi : Reads w B 1 (some ⟨g, 0, none⟩) n (ints xs)) (hm : w.cell? ⟨g, n, none⟩ = some (.int .i64 (-7171))) (hx : Reads w B' 1 A n (ints xs)) :
    Calls Tryz.prog 8 #[.slice (some ⟨g, 0, none⟩) n cap, .slice A n c] w fun e w' => e = .returned (.bool true) ∧ InDraws w w' := by
  go_enter Tryz.func8, Tryz.ntmps8
  go_wp2_with fail
  refine (ints_any _ _ n n _ _ xs xs _ _ _ (by unfold maxLen; omega) hi hx).mono ?_
  rintro e w' ⟨rfl, j, rfl⟩
  simp only [decide_true]
  go_wp2
  go_ret
  exact ⟨rfl, j, rfl⟩

end Go.Proofs.YtllipkakgjmheaaGreatDoor

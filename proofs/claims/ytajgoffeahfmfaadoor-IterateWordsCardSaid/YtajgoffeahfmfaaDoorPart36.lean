/- The texts Among of IterateWords, joined by program (tools/merge.py): walks of the functions that the law reaches, and plain facts; no condition. -/
import Derived.Test.YtajgoffeahfmfaaDoorPart07
import Derived.Test.YtajgoffeahfmfaaDoorPart05
import Derived.Test.YtajgoffeahfmfaaDoorPart08
set_option linter.unusedVariables false
set_option linter.unusedSimpArgs false

/- The walks of lecternref05.among and of those that ask it. -/
namespace Go.Proofs.YtajgoffeahfmfaaDoor
open Rep (rep)
open Go.RowKit

/-- 'among' from place k on. -/
def AmongFrom (r : Int) (xs : List Int) (k : Nat) : Prop := amongB r xs = amongB r (xs.drop k)
theorem AmongFrom.step {r : Int} {xs : List Int} {k : Nat} {a b : Int} (h : AmongFrom r xs k) (ha : xs[k]? = some a) (hb : xs[k + 1]? = some b) : amongB r xs = (within r a b || amongB r (xs.drop (k + 2))) := by
  unfold AmongFrom at h
  have h1 := lt_of_get? ha
  have h2 := lt_of_get? hb
  have ea : xs[k] = a := by rw [List.getElem?_eq_getElem h1] at ha; exact Option.some.inj ha
  have eb : xs[k + 1] = b := by rw [List.getElem?_eq_getElem h2] at hb; exact Option.some.inj hb
  rw [h, List.drop_eq_getElem_cons h1, List.drop_eq_getElem_cons h2, ea, eb]
  rfl
theorem AmongFrom.end_ {r : Int} {xs : List Int} {k : Nat} (h : AmongFrom r xs k) (hk : xs.length ≤ k + 1) : amongB r xs = false := by
  unfold AmongFrom at h
  rw [h]
  rcases hd : xs.drop k with _ | ⟨a, _ | ⟨b, l⟩⟩
  · rfl
  · rfl
  · have := congrArg List.length hd
    simp at this
    omega

set_option maxHeartbeats 1000000 in
theorem among_any (r : Int) (A : Option Addr) (n c : Nat) (xs : List Int) (w : World) (hn : n ≤ 1000) (hx : RepList w (· < w.heap.size) A n c (i32s xs)) :
    Calls Tryd.prog 78 #[.int .i32 r, .slice A n c] w fun e w' => e = .returned (.bool (amongB r xs)) ∧ w = w' := by
  have lx : xs.length = n := by have := hx.length; rw [i32s_len] at this; exact this
  have hcap := hx.cap
  have Lx := Lib.hid lx
  clear lx
  obtain ⟨q, hq⟩ : ∃ q, amongB r xs = q := ⟨_, rfl⟩
  rw [hq]
  have Hq := Lib.hid hq
  clear hq
  go_enter Tryd.func78, Tryd.ntmps78
  go_wp2
  go_loop [5] (fun i => ∃ k : Nat, k ≤ n + 1 ∧ i = .int .i64 k ∧ AmongFrom r xs k) (fun i => n + 2 - (intOf i).toNat)
  case atStart => exact ⟨0, by omega, rfl, rfl⟩
  case round =>
    obtain ⟨k, hk, rfl, hs⟩ := hrel
    by_cases hlt : k + 1 < n
    · obtain ⟨bl, off, ⟨a⟩, rfl, Ha, _, hea⟩ := hx.at_ (k := k) (by omega)
      obtain ⟨⟨b⟩, Hb, heb⟩ := hx.at_b (k := k + 1) hlt
      have hca := hea.i32
      have hcb := heb.i32
      have hst := hs.step (i32s_get Ha.out) (i32s_get Hb.out)
      clear hea heb
      rw [Hq.out] at hst
      have Hst := Lib.hid hst
      clear hx hs hst
      by_cases h1 : a ≤ r
      · by_cases h2 : r ≤ b
        · have hw : within r a b = true := by simp [within, h1, h2]
          rw [hw, Bool.true_or] at Hst
          clear hw
          go_wp2
          go_ret
          exact ⟨ret_bool Hst.out.symm, rfl⟩
        · have hw : within r a b = false := by simp [within, h2]
          rw [hw, Bool.false_or] at Hst
          clear hw
          go_wp2
          go_round
          case rel => exact ⟨k + 2, by omega, by go_num, Hq.out.trans Hst.out⟩
          case measure => simp [intOf]; omega
      · have hw : within r a b = false := by simp [within, h1]
        rw [hw, Bool.false_or] at Hst
        have hd : decide (a ≤ r) = false := by simpa using h1
        clear hw
        go_wp2
        go_round
        case rel => exact ⟨k + 2, by omega, by go_num, Hq.out.trans Hst.out⟩
        case measure => simp [intOf]; omega
    · have hfin := hs.end_ (by have := Lx.out; omega)
      rw [Hq.out] at hfin
      have Hfin := Lib.hid hfin
      clear hfin hs hx
      go_wp2
      go_ret
      exact ⟨ret_bool Hfin.out.symm, rfl⟩

/-- A call of 'among' over a row that was just laid parts the walk. -/
theorem among_parts {r : Int} {w : World} {R : Ending → World → Prop} (n : Nat) (xs : List Int) (hl : xs.length = n) (hn : n ≤ 1000) (e : TypeId) (h1 : ∀ W1, Below w.heap.size w W1 → amongB r xs = true → R (.returned (.bool true)) W1) (h2 : ∀ W1, Below w.heap.size w W1 → amongB r xs = false → R (.returned (.bool false)) W1) :
    Calls Tryd.prog 78 #[.int .i32 r, .slice (some ⟨w.heap.size, 0, none⟩) n n] (w.alloc (.cells (xs.map (Value.int .i32)).toArray e)) R := by
  refine (among_any r _ n n xs _ hn (reads_i32s w e n xs hl (by omega))).mono ?_
  rintro e w' ⟨rfl, rfl⟩
  rcases Bool.eq_false_or_eq_true (amongB r xs) with h | h
  · rw [h]; exact h1 _ ((Below.refl _ _).alloc (Nat.le_refl _) _) h
  · rw [h]; exact h2 _ ((Below.refl _ _).alloc (Nat.le_refl _) _) h

set_option maxRecDepth 100000 in
theorem rdigit_any (r : Int) (w : World) : Calls Tryd.prog 76 #[.int .i32 r] w fun e w' => e = .returned (.bool (digitB r)) ∧ Below w.heap.size w w' := by
  have hb : Below w.heap.size w (w.alloc (.cells (digitL.map (Value.int .i32)).toArray 21)) := (Below.refl _ _).alloc (Nat.le_refl _) _
  go_enter Tryd.func76, Tryd.ntmps76
  go_wp2_with fail
  refine (among_any _ _ _ _ digitL _ (by omega) (reads_i32s w _ 8 digitL rfl (by omega))).mono ?_
  rintro e w' ⟨rfl, rfl⟩
  go_wp2
  go_ret
  exact ⟨rfl, hb⟩

set_option maxRecDepth 100000 in
theorem rmark_any (r : Int) (w : World) : Calls Tryd.prog 63 #[.int .i32 r] w fun e w' => e = .returned (.bool (markB r)) ∧ Below w.heap.size w w' := by
  have hb : Below w.heap.size w (w.alloc (.cells (markL.map (Value.int .i32)).toArray 21)) := (Below.refl _ _).alloc (Nat.le_refl _) _
  go_enter Tryd.func63, Tryd.ntmps63
  go_wp2_with fail
  refine (among_any _ _ _ _ markL _ (by omega) (reads_i32s w _ 14 markL rfl (by omega))).mono ?_
  rintro e w' ⟨rfl, rfl⟩
  go_wp2
  go_ret
  exact ⟨rfl, hb⟩

set_option maxRecDepth 100000 in
theorem rletter_any (r : Int) (w : World) : Calls Tryd.prog 75 #[.int .i32 r] w fun e w' => e = .returned (.bool (letterB r)) ∧ Below w.heap.size w w' := by
  have hb : Below w.heap.size w (w.alloc (.cells (letterL.map (Value.int .i32)).toArray 21)) := (Below.refl _ _).alloc (Nat.le_refl _) _
  go_enter Tryd.func75, Tryd.ntmps75
  go_wp2_with fail
  refine (among_any _ _ _ _ letterL _ (by omega) (reads_i32s w _ 52 letterL rfl (by omega))).mono ?_
  rintro e w' ⟨rfl, rfl⟩
  go_wp2
  go_ret
  exact ⟨rfl, hb⟩

set_option maxRecDepth 100000 in
set_option maxHeartbeats 2000000 in
theorem rlower_any (r : Int) (h0 : 0 ≤ r) (h1 : r ≤ 0x10FFFF) (w : World) : Calls Tryd.prog 77 #[.int .i32 r] w fun e w' => e = .returned (.int .i32 (lowerR r)) ∧ Below w.heap.size w w' := by
  obtain ⟨q, hq⟩ : ∃ q, lowerR r = q := ⟨_, rfl⟩
  have Hq := Lib.hid hq
  rw [hq]
  clear hq
  go_enter Tryd.func77, Tryd.ntmps77
  go_wp2_with fail
  refine among_parts 12 [0x41, 0x5A, 0xC0, 0xD6, 0xD8, 0xDE, 0x391, 0x3A1, 0x3A3, 0x3AB, 0x410, 0x42F] rfl (by omega) _ (fun W1 b1 c1 => ?_) (fun W1 b1 c1 => ?_)
  · have hb1 : Below w.heap.size w W1 := b1
    have hc : Hid (lowerR r = r + 0x20) := by show _ = _; simp only [lowerR, c1, Bool.false_eq_true, reduceIte]
    clear c1
    go_wp2
    go_ret
    exact ⟨ret_num (by rw [← Hq.out, hc.out]), hb1⟩
  · have hb1 : Below w.heap.size w W1 := b1
    go_wp2_with fail
    refine among_parts 12 [0x100, 0x12F, 0x132, 0x137, 0x14A, 0x177, 0x460, 0x481, 0x48A, 0x4BF, 0x4D0, 0x52F] rfl (by omega) _ (fun W2 b2 c2 => ?_) (fun W2 b2 c2 => ?_)
    · have hb2 : Below w.heap.size w W2 := hb1.trans (b2.mono hb1.size)
      have hc : Hid (lowerR r = r - r % 2 + 1) := by show _ = _; simp only [lowerR, c1, c2, Bool.false_eq_true, reduceIte]
      clear c1 c2
      go_wp2
      go_ret
      exact ⟨ret_num (by rw [← Hq.out, hc.out]), hb2⟩
    · have hb2 : Below w.heap.size w W2 := hb1.trans (b2.mono hb1.size)
      go_wp2_with fail
      refine among_parts 6 [0x139, 0x148, 0x179, 0x17E, 0x4C1, 0x4CE] rfl (by omega) _ (fun W3 b3 c3 => ?_) (fun W3 b3 c3 => ?_)
      · have hb3 : Below w.heap.size w W3 := hb2.trans (b3.mono hb2.size)
        have hc : Hid (lowerR r = r + r % 2) := by show _ = _; simp only [lowerR, c1, c2, c3, Bool.false_eq_true, reduceIte]
        clear c1 c2 c3
        go_wp2
        go_ret
        exact ⟨ret_num (by rw [← Hq.out, hc.out]), hb3⟩
      · have hb3 : Below w.heap.size w W3 := hb2.trans (b3.mono hb2.size)
        go_wp2_with fail
        refine among_parts 2 [0x388, 0x38A] rfl (by omega) _ (fun W4 b4 c4 => ?_) (fun W4 b4 c4 => ?_)
        · have hb4 : Below w.heap.size w W4 := hb3.trans (b4.mono hb3.size)
          have hc : Hid (lowerR r = r + 0x25) := by show _ = _; simp only [lowerR, c1, c2, c3, c4, Bool.false_eq_true, reduceIte]
          clear c1 c2 c3 c4
          go_wp2
          go_ret
          exact ⟨ret_num (by rw [← Hq.out, hc.out]), hb4⟩
        · have hb4 : Below w.heap.size w W4 := hb3.trans (b4.mono hb3.size)
          go_wp2_with fail
          refine among_parts 2 [0x38E, 0x38F] rfl (by omega) _ (fun W5 b5 c5 => ?_) (fun W5 b5 c5 => ?_)
          · have hb5 : Below w.heap.size w W5 := hb4.trans (b5.mono hb4.size)
            have hc : Hid (lowerR r = r + 0x3F) := by show _ = _; simp only [lowerR, c1, c2, c3, c4, c5, Bool.false_eq_true, reduceIte]
            clear c1 c2 c3 c4 c5
            go_wp2
            go_ret
            exact ⟨ret_num (by rw [← Hq.out, hc.out]), hb5⟩
          · have hb5 : Below w.heap.size w W5 := hb4.trans (b5.mono hb4.size)
            go_wp2_with fail
            refine among_parts 2 [0x400, 0x40F] rfl (by omega) _ (fun W6 b6 c6 => ?_) (fun W6 b6 c6 => ?_)
            · have hb6 : Below w.heap.size w W6 := hb5.trans (b6.mono hb5.size)
              have hc : Hid (lowerR r = r + 0x50) := by show _ = _; simp only [lowerR, c1, c2, c3, c4, c5, c6, Bool.false_eq_true, reduceIte]
              clear c1 c2 c3 c4 c5 c6
              go_wp2
              go_ret
              exact ⟨ret_num (by rw [← Hq.out, hc.out]), hb6⟩
            · have hb6 : Below w.heap.size w W6 := hb5.trans (b6.mono hb5.size)
              go_wp2_with fail
              all_goals
                go_ret
                refine ⟨ret_num ?_, hb6⟩
                rw [← Hq.out]
                simp only [lowerR, c1, c2, c3, c4, c5, c6, Bool.false_eq_true, reduceIte]
                simp only [beq_iff_eq, beq_eq_false_iff_ne] at *
                (repeat (first | rw [if_pos (by omega)] | rw [if_neg (by omega)]))
end Go.Proofs.YtajgoffeahfmfaaDoor

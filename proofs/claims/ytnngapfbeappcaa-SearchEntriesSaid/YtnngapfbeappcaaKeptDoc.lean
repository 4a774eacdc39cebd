/- The walks of lecternkit's KeptEntries and KeptDoc. -/
import Derived.Test.YtnngapfbeappcaaKitEnt
namespace Go.Proofs.Ytnngapfbeappcaa
open Rep (rep)
open Go.RowKit

theorem InDraws.on {w wr : World} (h : InDraws w wr) (j : Nat) : InDraws w (wr.drewN j) := by
  obtain ⟨i, rfl⟩ := h
  exact ⟨_, World.drewN_drewN ..⟩

theorem lentEntry_plain (e : Entry) : (lentEntry e).numbers.val = e.numbers := rfl

set_option maxHeartbeats 1000000 in
theorem keptEntries_rep (A A' : Option Addr) (n c n' c' : Nat) (xs : List Entry) (w : World) (hn : n ≤ 2513169434843) (hN : ∀ e ∈ xs, e.numbers.length ≤ 17592186043904)
    (hx : RepList w (· < w.heap.size) A n c (xs.map lentEntry)) (hm : MarkAt w (· < w.heap.size) 3 A n c (.string ⟨#[109, 97, 114, 107]⟩)) (hy : RepList w (· < w.heap.size) A' n' c' xs) :
    Calls Try.prog 37 #[.slice A n c, .slice A' n' c'] w fun e w' => e = .returned (.bool true) ∧ InDraws w w' := by
  obtain ⟨h1, b, off, rfl, hbl, hc⟩ := hm
  have hcap := hx.cap
  have hnn : n' = n := by have h := hx.length; have h' := hy.length; simp at h; omega
  subst hnn
  have Hx := Lib.hid hx
  have Hy := Lib.hid hy
  have HN := Lib.hid hN
  have Hc := Lib.hid hc
  clear hx hy hN hc
  go_enter Try.func37, Try.ntmps37
  go_wp2_with fail
  refine (entries_rep _ _ n' n' _ _ xs xs _ (LEntry.list_plain Hx.out) Hy.out).mono ?_
  rintro e w1 ⟨rfl, hd1⟩
  simp only [decide_true]
  go_wp2_with fail
  go_loopw [5] (fun i wr => ∃ k : Nat, k ≤ n' ∧ i = .int .i64 k ∧ InDraws w wr) (fun i _ => n' - (intOf i).toNat)
  case atStart => exact ⟨0, Nat.zero_le _, rfl, hd1⟩
  case round =>
    obtain ⟨k, hk, rfl, hd⟩ := hrel
    by_cases hlt : k < n'
    · obtain ⟨b1, o1, x, hA1, Hx1, _, ex⟩ := (Hx.out.on hd.below).at_ hlt
      cases hA1
      obtain ⟨b2, o2, y, rfl, Hy1, _, ey⟩ := (Hy.out.on hd.below).at_ hlt
      obtain ⟨A2, n2, c2, x0, x1, x2, ⟨px, mx⟩, _, _⟩ := LEntry.at_ ex
      obtain ⟨A3, n3, c3, y0, y1, y2, py, _, _⟩ := Entry.at_ ey
      have hxy : x.numbers.val = y.numbers := by
        have h := Hx1.out
        rw [List.getElem?_map, Hy1.out] at h
        simp at h
        rw [← h]; rfl
      rw [hxy] at px
      have hn2 : n2 ≤ 17592186043904 := by have := HN.out y (List.mem_of_getElem? Hy1.out); have := px.length; omega
      have hcc : ∀ nq, Calls Try.prog 9 #[.slice A2 n2 c2, .slice A3 n3 c3] (wr.drewN nq) fun e w'' => e = .returned (.bool true) ∧ ∃ m, w'' = wr.drewN m := fun nq => quiet_in
        (keptInt64s_rep A2 A3 n2 c2 n3 c3 y.numbers (wr.drewN nq) hn2 (px.on (below_drewN (Below.refl _ _) nq)) (mx.on (below_drewN (Below.refl _ _) nq)) (py.on (below_drewN (Below.refl _ _) nq)))
      have Hcc := Lib.hid hcc
      clear ex ey px mx py x0 x1 y0 y1 hcc hxy
      go_wp2
      go_quiet ((go_at_call 9; exact Hcc.out _))
      go_wp2
      go_roundw
      case rel => exact ⟨k + 1, by omega, by go_num, hd.on _⟩
      case measure => simp [intOf]; omega
    · obtain rfl : k = n' := by omega
      have hcell : wr.cell? ⟨b, off + k * 3, none⟩ = some (.string ⟨#[109, 97, 114, 107]⟩) := by rw [hd.below.cell hbl]; exact Hc.out
      go_wp2_with fail
      go_ret
      exact ⟨rfl, hd⟩

set_option maxHeartbeats 400000 in
theorem keptDoc_rep (A A' : Option Addr) (n c n' c' : Nat) (xs : List Entry) (w : World) (hn : n ≤ 2513169434843) (hN : ∀ e ∈ xs, e.numbers.length ≤ 17592186043904)
    (hx : RepList w (· < w.heap.size) A n c (xs.map lentEntry)) (hm : MarkAt w (· < w.heap.size) 3 A n c (.string ⟨#[109, 97, 114, 107]⟩)) (hy : RepList w (· < w.heap.size) A' n' c' xs) :
    Calls Try.prog 19 #[.agg #[.slice A n c], .agg #[.slice A' n' c']] w fun e w' => e = .returned (.bool true) ∧ Below w.heap.size w w' := by
  have hb0 : Below w.heap.size w ((w.alloc (.cells #[.slice A n c] 34)).alloc (.cells #[.slice A' n' c'] 34)) := (((Below.refl _ _).alloc (Nat.le_refl _) _).alloc (by simp) _)
  have Hx := Lib.hid (hx.on hb0)
  have Hm := Lib.hid (hm.on hb0)
  have Hy := Lib.hid (hy.on hb0)
  have Hb0 := Lib.hid hb0
  have HN := Lib.hid hN
  clear hx hb0 hN hm hy
  go_enter Try.func19, Try.ntmps19
  go_wp2_with fail
  refine (keptEntries_rep A A' n c n' c' xs _ hn HN.out Hx.out Hm.out Hy.out).mono ?_
  rintro e w1 ⟨rfl, hd⟩
  have Hb := Lib.hid (Hb0.out.trans (hd.below.mono Hb0.out.size))
  go_wp2
  go_ret
  exact ⟨rfl, Hb.out⟩

end Go.Proofs.Ytnngapfbeappcaa

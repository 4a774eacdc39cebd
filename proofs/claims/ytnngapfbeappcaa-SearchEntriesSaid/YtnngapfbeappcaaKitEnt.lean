/- The walks of lecternkit's LentDoc, Entries, KeptEntries, KeptDoc. -/
import Derived.Test.YtnngapfbeappcaaLentDoc
namespace Go.Proofs.Ytnngapfbeappcaa
open Rep (rep)
open Go.RowKit

theorem InDraws.below {w w' : World} (h : InDraws w w') : Below w.heap.size w w' := by
  obtain ⟨j, rfl⟩ := h
  exact below_drewN (Below.refl _ _) j
theorem quiet_in {P : Program} {f : FuncId} {args : Array Value} {w : World} {n : Nat} {v : Value}
    (h : Calls P f args (w.drewN n) fun e w' => e = .returned v ∧ InDraws (w.drewN n) w') : Calls P f args (w.drewN n) fun e w'' => e = .returned v ∧ ∃ m, w'' = w.drewN m :=
  h.mono fun _ _ ⟨he, m, hm⟩ => ⟨he, n + m, by rw [hm, World.drewN_drewN]⟩

def EntTo (xs ys : List Entry) (k : Nat) : Prop := xs.take k = ys.take k
theorem EntTo.step {xs ys : List Entry} {k : Nat} {x : Entry} (h : EntTo xs ys k) (hx : xs[k]? = some x) (hy : ys[k]? = some x) : EntTo xs ys (k + 1) := by
  unfold EntTo at *
  rw [List.take_add_one, List.take_add_one, h, hx, hy]
theorem EntTo.all {xs ys : List Entry} {n : Nat} (h : EntTo xs ys n) (hx : xs.length = n) (hy : ys.length = n) : xs = ys := by
  unfold EntTo at h
  rwa [List.take_of_length_le (by omega), List.take_of_length_le (by omega)] at h

set_option maxHeartbeats 400000 in
theorem lentDoc_rep (A : Option Addr) (n c : Nat) (es : List Entry) (w : World) (hn : n ≤ 2513169434843) (hN : ∀ e ∈ es, e.numbers.length ≤ 17592186043904) (hx : RepList w (· < w.heap.size) A n c es) :
    Calls Try.prog 12 #[.agg #[.slice A n c]] w fun e w' => ∃ A' c', e = .returned (.agg #[.slice A' n c']) ∧ RepList w' (Fresh w.heap.size w') A' n c' (es.map lentEntry) ∧ MarkAt w' (Fresh w.heap.size w') 3 A' n c' (.string ⟨#[109, 97, 114, 107]⟩) ∧ Below w.heap.size w w' := by
  have hb0 : Below w.heap.size w ((w.alloc (.cells #[.slice A n c] 34)).alloc (.cells #[.slice none 0 0] 34)) := (((Below.refl _ _).alloc (Nat.le_refl _) _).alloc (by simp) _)
  have Hx := Lib.hid (hx.on hb0)
  have Hb0 := Lib.hid hb0
  have HN := Lib.hid hN
  have B1 : Blk ((w.alloc (.cells #[.slice A n c] 34)).alloc (.cells #[.slice none 0 0] 34)) (w.heap.size + 1) 34 #[.slice none 0 0] := by
    have := Blk.new (w.alloc (.cells #[.slice A n c] 34)) 34 #[.slice none 0 0]
    simpa using this
  have HB1 := Lib.hid B1
  clear hx hb0 hN B1
  go_enter Try.func12, Try.ntmps12
  go_wp2_with fail
  refine (lentEntries_rep A n c es _ hn HN.out Hx.out).mono ?_
  rintro e w1 ⟨A1, c1, rfl, hr, hm, hb⟩
  have hB := HB1.out.below hb (by simp)
  have b0 := hB.cell 0
  have bf := hB.frozen 0
  simp only [List.getElem?_toArray, List.getElem?_cons_zero] at b0
  have hb2 := Hb0.out.trans (hb.mono Hb0.out.size)
  have kp : ∀ p : Addr, Fresh ((w.alloc (.cells #[.slice A n c] 34)).alloc (.cells #[.slice none 0 0] 34)).heap.size w1 p.block → (w1.setCell ⟨w.heap.size + 1, 0, none⟩ (.slice A1 n c1)).cell? p = w1.cell? p :=
    fun p hp => World.cell?_setCell_other _ _ p _ (fun e => by subst e; have := hp.1; simp at this; omega)
  have kf : ∀ b, Fresh ((w.alloc (.cells #[.slice A n c] 34)).alloc (.cells #[.slice none 0 0] 34)).heap.size w1 b → Fresh w.heap.size (w1.setCell ⟨w.heap.size + 1, 0, none⟩ (.slice A1 n c1)) b :=
    fun b h => ⟨by have := h.1; simp at this; omega, by have := h.2; simpa using this⟩
  have Hr := Lib.hid (hr.keep kp kf)
  have Hm := Lib.hid (hm.keep kp kf)
  have hcell : (w1.setCell ⟨w.heap.size + 1, 0, none⟩ (.slice A1 n c1)).cell? ⟨w.heap.size + 1, 0, none⟩ = some (.slice A1 n c1) := World.cell?_setCell_same' _ _ _ (by rw [b0]; rfl)
  have hz : w.heap.size + 1 < w1.heap.size := hB.lt
  clear hr hm kp kf hB
  go_wp2
  exact bodyPost_ret (v := .agg #[.slice A1 n c1]) (by simp [results, Try.results12, go_sem, hcell, hz]) rfl ⟨A1, c1, rfl, Hr.out, Hm.out, hb2.setCell (by simp) _⟩

set_option maxRecDepth 100000 in
set_option maxHeartbeats 1000000 in
theorem entries_rep (A A' : Option Addr) (n m c c' : Nat) (xs ys : List Entry) (w : World) (hx : RepList w (· < w.heap.size) A n c xs) (hy : RepList w (· < w.heap.size) A' m c' ys) :
    Calls Try.prog 17 #[.slice A n c, .slice A' m c'] w fun e w' => e = .returned (.bool (decide (xs = ys))) ∧ InDraws w w' := by
  have hcap := hx.cap
  have lx := hx.length
  have ly := hy.length
  by_cases hnm : n = m
  · subst hnm
    have Lx := Lib.hid lx
    have Ly := Lib.hid ly
    clear lx ly
    go_enter Try.func17, Try.ntmps17
    go_wp2
    go_loopw [5] (fun i wr => ∃ k : Nat, k ≤ n ∧ i = .int .i64 k ∧ EntTo xs ys k ∧ InDraws w wr) (fun i _ => n - (intOf i).toNat)
    case atStart => exact ⟨0, Nat.zero_le _, rfl, rfl, 0, rfl⟩
    case round =>
      obtain ⟨k, hk, rfl, hs, hd⟩ := hrel
      by_cases hlt : k < n
      · obtain ⟨b1, o1, x, rfl, Hx, _, ex⟩ := (hx.on hd.below).at_ hlt
        obtain ⟨b2, o2, y, rfl, Hy, _, ey⟩ := (hy.on hd.below).at_ hlt
        obtain ⟨A2, n2, c2, x0, x1, x2, px, _, _⟩ := Entry.at_ ex
        obtain ⟨A3, n3, c3, y0, y1, y2, py, _, _⟩ := Entry.at_ ey
        clear hx hy ex ey
        have Hpx := Lib.hid px
        have Hpy := Lib.hid py
        have Hs := Lib.hid hs
        clear px py hs
        by_cases h1 : x.field = y.field
        · have t1 : (x.field.toList == y.field.toList) = true := str_yes h1
          by_cases h2 : x.text = y.text
          · have t2 : (x.text.toList == y.text.toList) = true := str_yes h2
            by_cases h3 : x.numbers = y.numbers
            · have hdec : decide (x.numbers = y.numbers) = true := decide_eq_true h3
              have hxy : x = y := by cases x; cases y; simp at h1 h2 h3; simp [h1, h2, h3]
              have Hs2 : Hid (EntTo xs ys (k + 1)) := EntTo.step Hs.out Hx.out (by rw [hxy]; exact Hy.out)
              have hc : ∀ nq, Calls Try.prog 30 #[.slice A2 n2 c2, .slice A3 n3 c3] (wr.drewN nq) fun e w'' => e = .returned (.bool true) ∧ ∃ m, w'' = wr.drewN m := fun nq => quiet_in (by
                have := int64s_rep A2 A3 n2 n3 c2 c3 x.numbers y.numbers (wr.drewN nq) (Hpx.out.on (below_drewN (Below.refl _ _) nq)) (Hpy.out.on (below_drewN (Below.refl _ _) nq))
                rwa [hdec] at this)
              have Hc := Lib.hid hc
              clear hdec hxy h1 h2 h3 hc
              go_wp2
              go_quiet ((go_at_call 30; exact Hc.out _))
              go_step
              go_step
              go_step
              go_wp2
              go_roundw
              case rel => exact ⟨k + 1, by omega, by go_num, Hs2.out, by obtain ⟨j, rfl⟩ := hd; exact ⟨_, World.drewN_drewN ..⟩⟩
              case measure => simp [intOf]; omega
            · have hdec : decide (x.numbers = y.numbers) = false := decide_eq_false h3
              have hne : Hid (xs ≠ ys) := by
                intro e; subst e
                have := Hx.out.symm.trans Hy.out
                simp at this; exact h3 (by rw [this])
              have hc : ∀ nq, Calls Try.prog 30 #[.slice A2 n2 c2, .slice A3 n3 c3] (wr.drewN nq) fun e w'' => e = .returned (.bool false) ∧ ∃ m, w'' = wr.drewN m := fun nq => quiet_in (by
                have := int64s_rep A2 A3 n2 n3 c2 c3 x.numbers y.numbers (wr.drewN nq) (Hpx.out.on (below_drewN (Below.refl _ _) nq)) (Hpy.out.on (below_drewN (Below.refl _ _) nq))
                rwa [hdec] at this)
              have Hc := Lib.hid hc
              clear hdec h1 h2 h3 hc
              go_wp2
              go_quiet ((go_at_call 30; exact Hc.out _))
              go_wp2
              go_ret
              exact ⟨ret_bool (decide_eq_false hne.out).symm, InDraws.more hd _⟩
          · have t2 : (x.text.toList == y.text.toList) = false := str_no h2
            have hne : Hid (xs ≠ ys) := by
              intro e; subst e
              have := Hx.out.symm.trans Hy.out
              simp at this; exact h2 (by rw [this])
            clear h1 h2
            go_wp2
            go_quiet (fail)
            go_wp2
            go_ret
            exact ⟨ret_bool (decide_eq_false hne.out).symm, InDraws.more hd _⟩
        · have t1 : (x.field.toList == y.field.toList) = false := str_no h1
          have hne : Hid (xs ≠ ys) := by
            intro e; subst e
            have := Hx.out.symm.trans Hy.out
            simp at this; exact h1 (by rw [this])
          clear h1
          go_wp2
          go_quiet (fail)
          go_wp2
          go_ret
          exact ⟨ret_bool (decide_eq_false hne.out).symm, InDraws.more hd _⟩
      · have hkn : k = n := by omega
        subst hkn
        have he : Hid (xs = ys) := EntTo.all hs Lx.out Ly.out
        clear hx hy hs hk hlt
        go_wp2
        go_ret
        exact ⟨ret_bool (decide_eq_true he.out).symm, hd⟩
  · have hne : xs ≠ ys := fun e => hnm (by rw [← lx, ← ly, e])
    have Hne := Lib.hid hne
    have hni : ((n : Int) != m) = true := by simp; omega
    clear hx hy lx ly hne
    go_enter Try.func17, Try.ntmps17
    go_wp2
    go_ret
    exact ⟨ret_bool (decide_eq_false Hne.out).symm, 0, rfl⟩

end Go.Proofs.Ytnngapfbeappcaa

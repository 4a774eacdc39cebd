/- The walks of lecternkit's Lent.. and Kept.. over numbers, texts, entries and documents. -/
import Derived.Test.YtnngapfbeappcaaApi
import Derived.Test.YtnngapfbeappcaaKit
import Derived.Test.YtnngapfbeappcaaFind
namespace Go.Proofs.Ytnngapfbeappcaa
open Rep (rep)
open Go.RowKit

theorem int64s_rep (A A' : Option Addr) (n m c c' : Nat) (xs ys : List Int) (w : World) (hx : RepList w (· < w.heap.size) A n c xs) (hy : RepList w (· < w.heap.size) A' m c' ys) :
    Calls Try.prog 30 #[.slice A n c, .slice A' m c'] w fun e w' => e = .returned (.bool (decide (xs = ys))) ∧ InDraws w w' :=
  int64s_any A A' n m c c' xs ys _ _ w (by have := hx.cap; unfold maxLen; omega) hx.reads_ints hy.reads_ints

theorem lentInt64s_rep (A : Option Addr) (n c : Nat) (xs : List Int) (w : World) (hn : n ≤ 17592186043904) (hx : RepList w (· < w.heap.size) A n c xs) :
    Calls Try.prog 6 #[.slice A n c] w fun e w' => ∃ A' c', e = .returned (.slice A' n c') ∧ RepList w' (Fresh w.heap.size w') A' n c' xs ∧ MarkAt w' (Fresh w.heap.size w') 1 A' n c' (.int .i64 (-7171)) ∧ Below w.heap.size w w' := by
  refine (lentInt64s_any A n c xs w (by omega) hx.reads_ints).mono ?_
  rintro e w' ⟨v, rfl, ⟨g, cap, rfl, ho⟩, hb⟩
  have hcap := own_cap ho
  have hl := hx.length
  obtain ⟨g', cap', hv', hbg, hlt⟩ := ho.form (by omega)
  cases hv'
  have hr := own_reads ho (by
    intro x hx'
    rcases List.mem_append.1 hx' with h | h
    · exact hx.in64 x h
    · simp at h; subst h; unfold In64; omega)
  refine ⟨_, _, rfl, ⟨hl, by omega, hcap.2, fun k x hk => ?_⟩, ⟨by omega, g, 0, rfl, ⟨hbg, hlt⟩, ?_⟩, hb⟩
  · exact hr.2.2.2 k x (by rw [List.getElem?_append_left (lt_of_get? hk)]; exact hk)
  · obtain ⟨_, he⟩ := hr.elem (k := n) (x := -7171) (by rw [List.getElem?_append_right (by omega)]; simp [hl])
    have := he.int.1
    simpa using this

set_option maxHeartbeats 400000 in
theorem keptInt64s_rep (A A' : Option Addr) (n c n' c' : Nat) (xs : List Int) (w : World) (hn : n ≤ 17592186043904) (hx : RepList w (· < w.heap.size) A n c xs) (hm : MarkAt w (· < w.heap.size) 1 A n c (.int .i64 (-7171))) (hy : RepList w (· < w.heap.size) A' n' c' xs) :
    Calls Try.prog 9 #[.slice A n c, .slice A' n' c'] w fun e w' => e = .returned (.bool true) ∧ InDraws w w' := by
  obtain ⟨h1, b, off, rfl, _, hc⟩ := hm
  have hcap := hx.cap
  rw [Nat.mul_one] at hc
  go_enter Try.func9, Try.ntmps9
  go_wp2_with fail
  refine (int64s_rep _ _ n n' _ _ xs xs _ hx hy).mono ?_
  rintro e w' ⟨rfl, j, rfl⟩
  simp only [decide_true]
  clear hx hy
  go_wp2
  go_ret
  exact ⟨rfl, j, rfl⟩

/-! ### texts -/
def strs (xs : List ByteArray) : List Value := xs.map Value.string
theorem strs_len (xs : List ByteArray) : (strs xs).length = xs.length := by simp [strs]
theorem strs_get {xs : List ByteArray} {k : Nat} (h : k < xs.length) : (strs xs)[k]? = some (.string xs[k]) := by simp [strs, h]
theorem strs_one (xs : List ByteArray) : ∀ u ∈ strs xs, u.oneCell' = true := by
  intro u hu
  obtain ⟨_, _, rfl⟩ := List.mem_map.1 hu
  rfl
theorem strs_flat (xs : List ByteArray) : (xs.map fun x => [Value.string x]).flatten = strs xs := by
  induction xs with
  | nil => rfl
  | cons x xs ih => simp [strs] at ih ⊢; exact ih
theorem RepList.reads_strs {w : World} {B : Nat} {A : Option Addr} {n c : Nat} {xs : List ByteArray} (h : RepList w (· < B) A n c xs) : Reads w B 1 A n (strs xs) := by
  refine ⟨by rw [strs_len, h.length]; omega, fun h0 => ?_⟩
  obtain ⟨b, off, x, hA, _, hb, _⟩ := h.at_ h0
  refine ⟨_, hA, hb, fun j u hu => ?_⟩
  have hj : j < xs.length := by have := lt_of_get? hu; rwa [strs_len] at this
  rw [strs_get hj] at hu
  cases hu
  subst hA
  obtain ⟨_, he⟩ := h.elem (List.getElem?_eq_getElem hj)
  rw [addr_at]
  exact he.str.1
theorem RepList.str_size {w : World} {F : Nat → Prop} {A : Option Addr} {n c : Nat} {xs : List ByteArray} (h : RepList w F A n c xs) : ∀ x ∈ xs, x.size ≤ 9223372036854775807 := by
  intro x hx
  obtain ⟨k, hk⟩ := List.getElem?_of_mem hx
  obtain ⟨b, off, _, _, he⟩ := h.2.2.2 k x hk
  exact he.str.2
theorem own_strs (D : Nat → Prop) {w : World} {base : Nat} {e : TypeId} {v : Value} {n : Nat} {xs : List ByteArray} (h : w.ownsRow base e 1 v n (strs xs)) (hx : ∀ x ∈ xs, x.size ≤ 9223372036854775807) : Own D w base e v xs := by
  have hn : n = xs.length := by have := h.1; rw [strs_len] at this; omega
  subst hn
  refine ⟨xs.map fun x => [Value.string x], by simp, fun k cs x h1 h2 => ?_, by rw [strs_flat]; exact h⟩
  rw [List.getElem?_map, h2] at h1
  simp at h1
  subst h1
  exact ⟨rfl, hx x (List.mem_of_getElem? h2)⟩

def StrTo (xs ys : List ByteArray) (k : Nat) : Prop := xs.take k = ys.take k
theorem StrTo.step {xs ys : List ByteArray} {k : Nat} {x : ByteArray} (h : StrTo xs ys k) (hx : xs[k]? = some x) (hy : ys[k]? = some x) : StrTo xs ys (k + 1) := by
  unfold StrTo at *
  rw [List.take_add_one, List.take_add_one, h, hx, hy]
theorem StrTo.all {xs ys : List ByteArray} {n : Nat} (h : StrTo xs ys n) (hx : xs.length = n) (hy : ys.length = n) : xs = ys := by
  unfold StrTo at h
  rwa [List.take_of_length_le (by omega), List.take_of_length_le (by omega)] at h

set_option maxHeartbeats 1000000 in
theorem strings_rep (A A' : Option Addr) (n m c c' : Nat) (xs ys : List ByteArray) (w : World) (hx : RepList w (· < w.heap.size) A n c xs) (hy : RepList w (· < w.heap.size) A' m c' ys) :
    Calls Try.prog 38 #[.slice A n c, .slice A' m c'] w fun e w' => e = .returned (.bool (decide (xs = ys))) ∧ InDraws w w' := by
  have hcap := hx.cap
  have lx := hx.length
  have ly := hy.length
  by_cases hnm : n = m
  · subst hnm
    have Lx := Lib.hid lx
    have Ly := Lib.hid ly
    clear lx ly
    go_enter Try.func38, Try.ntmps38
    go_wp2
    go_loopw [5] (fun i wr => ∃ k : Nat, k ≤ n ∧ i = .int .i64 k ∧ StrTo xs ys k ∧ InDraws w wr) (fun i _ => n - (intOf i).toNat)
    case atStart => exact ⟨0, Nat.zero_le _, rfl, rfl, 0, rfl⟩
    case round =>
      obtain ⟨k, hk, rfl, hs, hd⟩ := hrel
      by_cases hlt : k < n
      · obtain ⟨j, rfl⟩ := hd
        obtain ⟨b1, o1, x, rfl, Hx, _, ex⟩ := hx.at_ hlt
        obtain ⟨b2, o2, y, rfl, Hy, _, ey⟩ := hy.at_ hlt
        have hcx := ex.str.1
        have hcy := ey.str.1
        clear hx hy ex ey
        by_cases hxy : x = y
        · subst hxy
          have hb1 : (x.toList == x.toList) = true := str_yes rfl
          have Hs := Lib.hid (hs.step Hx.out Hy.out)
          clear hs
          go_wp2
          go_quiet (fail)
          go_wp2
          go_roundw
          case rel => exact ⟨k + 1, by omega, by go_num, Hs.out, ⟨_, rfl⟩⟩
          case measure => simp [intOf]; omega
        · have hne : (x.toList == y.toList) = false := str_no hxy
          have hfin : decide (xs = ys) = false := by
            simp only [decide_eq_false_iff_not]
            rintro rfl
            have := Hx.out.symm.trans Hy.out
            cases this
            exact hxy rfl
          have Hfin := Lib.hid hfin
          clear hfin hs hxy
          go_wp2
          go_quiet (fail)
          go_wp2
          go_ret
          exact ⟨ret_bool Hfin.out.symm, InDraws.more ⟨j, rfl⟩ _⟩
      · obtain rfl : k = n := by omega
        have hfin : decide (xs = ys) = true := by simp [hs.all Lx.out Ly.out]
        have Hfin := Lib.hid hfin
        obtain ⟨j, rfl⟩ := hd
        clear hfin hs hx hy
        go_wp2
        go_ret
        exact ⟨ret_bool Hfin.out.symm, j, rfl⟩
  · have hne : ((n : Int) != m) = true := by simp; omega
    have hfin : decide (xs = ys) = false := by
      simp only [decide_eq_false_iff_not]
      rintro rfl
      omega
    have Hfin := Lib.hid hfin
    clear hfin lx ly hx hy
    go_enter Try.func38, Try.ntmps38
    go_wp2
    go_ret
    exact ⟨ret_bool Hfin.out.symm, 0, rfl⟩

end Go.Proofs.Ytnngapfbeappcaa

/- Plain arithmetic for the statement AggsNumbers: a sum of 128 bits in two words, and a sum that is taken from two piles. No program stands here. -/
import Derived.IntWalk
import Derived.Below
import Derived.Laws.Bits64b
import Derived.Test.YtnngapfbeappcaaScoreMath
namespace Go.Proofs.Ytnngapfbeappcaa.AggsMath
open Go.RowKit ScoreMath

def isum (xs : List Int) : Int := xs.foldr (· + ·) 0
def over (s : Int) : Bool := decide (9223372036854775807 < s ∨ s < -9223372036854775808)
def Fits (xs : List Int) : Prop := ∀ x ∈ xs, -9223372036854775808 ≤ x ∧ x ≤ 9223372036854775807

theorem isum_nil : isum [] = 0 := rfl
theorem isum_cons (x : Int) (xs : List Int) : isum (x :: xs) = x + isum xs := rfl
theorem isum_append : ∀ xs ys : List Int, isum (xs ++ ys) = isum xs + isum ys
  | [], ys => by simp [isum]
  | x :: xs, ys => by rw [List.cons_append, isum_cons, isum_cons, isum_append xs ys]; omega
theorem isum_take {xs : List Int} {k : Nat} {x : Int} (h : xs[k]? = some x) : isum (xs.take (k + 1)) = isum (xs.take k) + x := by
  rw [List.take_add_one, h, isum_append]; simp [isum]
theorem isum_bd : ∀ xs : List Int, Fits xs → -(9223372036854775808 * (xs.length : Int)) ≤ isum xs ∧ isum xs ≤ 9223372036854775808 * (xs.length : Int)
  | [], _ => by simp [isum]
  | x :: xs, h => by
    have h1 := h x (by simp)
    have h2 := isum_bd xs (fun y hy => h y (by simp [hy]))
    rw [isum_cons, List.length_cons]
    omega

/-- The two words of a sum, closed to the walk. -/
def Words (s h l : Int) : Prop := l = s % 18446744073709551616 ∧ h = s / 18446744073709551616 % 18446744073709551616
theorem Words.bd {s h l : Int} (hw : Words s h l) : 0 ≤ h ∧ h ≤ 18446744073709551615 ∧ 0 ≤ l ∧ l ≤ 18446744073709551615 := by
  obtain ⟨rfl, rfl⟩ := hw; omega
theorem words_zero : Words 0 0 0 := by unfold Words; omega

/-- One number more. -/
theorem words_step {s h l x : Int} (hw : Words s h l) (hx : -9223372036854775808 ≤ x ∧ x ≤ 9223372036854775807) :
    ∃ v sg l' c h' c2 : Int, IntKind.u64.wrap x = v ∧ IntKind.u64.wrap (x / 9223372036854775808) = sg ∧ 0 ≤ v ∧ 0 ≤ sg ∧ 0 ≤ c ∧ c ≤ 1 ∧ l' = (l + v) % 18446744073709551616 ∧ c = (l + v) / 18446744073709551616 ∧
      h' = (h + sg + c) % 18446744073709551616 ∧ c2 = (h + sg + c) / 18446744073709551616 ∧ Words (s + x) h' l' := by
  refine ⟨x % 18446744073709551616, x / 9223372036854775808 % 18446744073709551616, _, _, _, _, IntKind.wrap_u64 _, IntKind.wrap_u64 _, by omega, by omega, ?_, ?_, rfl, rfl, rfl, rfl, ?_⟩
  · obtain ⟨rfl, rfl⟩ := hw; omega
  · obtain ⟨rfl, rfl⟩ := hw; omega
  · obtain ⟨rfl, rfl⟩ := hw
    have e : (s + x) / 18446744073709551616 = s / 18446744073709551616 + x / 9223372036854775808 + (s % 18446744073709551616 + x % 18446744073709551616) / 18446744073709551616 := by omega
    refine ⟨by omega, ?_⟩
    rw [e]
    generalize (s % 18446744073709551616 + x % 18446744073709551616) / 18446744073709551616 = c
    generalize s / 18446744073709551616 = d
    generalize x / 9223372036854775808 = g
    omega

theorem fin1 {s l : Int} (hw : Words s 0 l) (hs : -162259276829213363391578010288128 ≤ s ∧ s ≤ 162259276829213363391578010288128) (hl : l < 9223372036854775808) : wrap64 l = held s ∧ over s = false := by
  obtain ⟨rfl, h⟩ := hw
  have e : 0 ≤ s ∧ s ≤ 9223372036854775807 := by omega
  constructor
  · rw [held_in (by omega)]; unfold wrap64; omega
  · unfold over; simp; omega
theorem fin2 {s h l : Int} (hw : Words s h l) (hh : h = 18446744073709551615) (hs : -162259276829213363391578010288128 ≤ s ∧ s ≤ 162259276829213363391578010288128) (hl : 9223372036854775808 ≤ l) : wrap64 l = held s ∧ over s = false := by
  obtain ⟨rfl, h⟩ := hw
  have e : -9223372036854775808 ≤ s ∧ s < 0 := by omega
  constructor
  · rw [held_in (by omega)]; unfold wrap64; omega
  · unfold over; simp; omega
theorem fin3 {s h l : Int} (hw : Words s h l) (hs : -162259276829213363391578010288128 ≤ s ∧ s ≤ 162259276829213363391578010288128) (h1 : ¬ (h = 0 ∧ l < 9223372036854775808)) (h5 : h < 9223372036854775808) : 9223372036854775807 = held s ∧ over s = true := by
  obtain ⟨rfl, rfl⟩ := hw
  have e : 9223372036854775807 < s := by omega
  exact ⟨(held_hi e).symm, by unfold over; simp; omega⟩
theorem fin4 {s h l : Int} (hw : Words s h l) (hs : -162259276829213363391578010288128 ≤ s ∧ s ≤ 162259276829213363391578010288128) (h2 : ¬ (h = 18446744073709551615 ∧ 9223372036854775808 ≤ l)) (h5 : ¬ h < 9223372036854775808) : -9223372036854775808 = held s ∧ over s = true := by
  obtain ⟨rfl, rfl⟩ := hw
  have e : s < -9223372036854775808 := by omega
  exact ⟨(held_lo e).symm, by unfold over; simp; omega⟩

/-! ### two piles -/
def Parted (xs : List Int) (k : Nat) (us ds : List Int) : Prop :=
  isum us + isum ds = isum (xs.take k) ∧ (∀ u ∈ us, 0 < u ∧ u ≤ 9223372036854775807) ∧ (∀ d ∈ ds, d < 0 ∧ -9223372036854775808 ≤ d) ∧ us.length + ds.length ≤ k
theorem parted_zero (xs : List Int) : Parted xs 0 [] [] := by unfold Parted; simp [isum]
theorem parted_up {xs us ds : List Int} {k : Nat} {x : Int} (h : Parted xs k us ds) (hx : xs[k]? = some x) (h0 : 0 < x) (h1 : x ≤ 9223372036854775807) : Parted xs (k + 1) (us ++ [x]) ds := by
  obtain ⟨a, b, c, d⟩ := h
  refine ⟨by rw [isum_take hx, isum_append, isum_cons, isum_nil]; omega, ?_, c, by simp; omega⟩
  intro u hu
  rcases List.mem_append.1 hu with hu | hu
  · exact b u hu
  · simp at hu; subst hu; exact ⟨h0, h1⟩
theorem parted_down {xs us ds : List Int} {k : Nat} {x : Int} (h : Parted xs k us ds) (hx : xs[k]? = some x) (h0 : x < 0) (h1 : -9223372036854775808 ≤ x) : Parted xs (k + 1) us (ds ++ [x]) := by
  obtain ⟨a, b, c, d⟩ := h
  refine ⟨by rw [isum_take hx, isum_append, isum_cons, isum_nil]; omega, b, ?_, by simp; omega⟩
  intro u hu
  rcases List.mem_append.1 hu with hu | hu
  · exact c u hu
  · simp at hu; subst hu; exact ⟨h0, h1⟩
theorem parted_zero_at {xs us ds : List Int} {k : Nat} (h : Parted xs k us ds) (hx : xs[k]? = some 0) : Parted xs (k + 1) us ds := by
  obtain ⟨a, b, c, d⟩ := h
  exact ⟨by rw [isum_take hx]; omega, b, c, by omega⟩

theorem isum_pos {us : List Int} (h : ∀ u ∈ us, 0 < u ∧ u ≤ 9223372036854775807) (n : Nat) : 0 ≤ isum (us.take n) := by
  have : ∀ l : List Int, (∀ u ∈ l, 0 < u) → 0 ≤ isum l := by
    intro l hl
    induction l with
    | nil => simp [isum]
    | cons a l ih => rw [isum_cons]; have := hl a (by simp); have := ih (fun u hu => hl u (by simp [hu])); omega
  exact this _ (fun u hu => (h u (List.mem_of_mem_take hu)).1)
theorem isum_neg {ds : List Int} (h : ∀ u ∈ ds, u < 0 ∧ -9223372036854775808 ≤ u) (n : Nat) : isum (ds.take n) ≤ 0 := by
  have : ∀ l : List Int, (∀ u ∈ l, u < 0) → isum l ≤ 0 := by
    intro l hl
    induction l with
    | nil => simp [isum]
    | cons a l ih => rw [isum_cons]; have := hl a (by simp); have := ih (fun u hu => hl u (by simp [hu])); omega
  exact this _ (fun u hu => (h u (List.mem_of_mem_take hu)).1)

/-- What is left of the two piles, and the sum so far. -/
def LeftOf (S : Int) (us ds : List Int) (nu nd : Nat) (s : Int) : Prop := s + isum (us.take nu) + isum (ds.take nd) = S
theorem leftOf_up {S s x : Int} {us ds : List Int} {nu nd : Nat} (h : LeftOf S us ds nu nd s) (hn : 0 < nu) (hx : us[nu - 1]? = some x) : LeftOf S us ds (nu - 1) nd (s + x) := by
  unfold LeftOf at *
  obtain ⟨m, rfl⟩ : ∃ m, nu = m + 1 := ⟨nu - 1, by omega⟩
  rw [Nat.add_sub_cancel] at *
  rw [isum_take hx] at h
  omega
theorem leftOf_down {S s x : Int} {us ds : List Int} {nu nd : Nat} (h : LeftOf S us ds nu nd s) (hn : 0 < nd) (hx : ds[nd - 1]? = some x) : LeftOf S us ds nu (nd - 1) (s + x) := by
  unfold LeftOf at *
  obtain ⟨m, rfl⟩ : ∃ m, nd = m + 1 := ⟨nd - 1, by omega⟩
  rw [Nat.add_sub_cancel] at *
  rw [isum_take hx] at h
  omega
theorem left_none {S s : Int} {us ds : List Int} (h : LeftOf S us ds 0 0 s) (hs : -9223372036854775808 ≤ s ∧ s ≤ 9223372036854775807) : s = held S ∧ over S = false := by
  unfold LeftOf at h
  simp [isum] at h
  subst h
  exact ⟨(held_in hs).symm, by unfold over; simp; omega⟩
theorem left_high {S s x : Int} {us ds : List Int} {nu : Nat} (h : LeftOf S us ds nu 0 s) (hu : ∀ u ∈ us, 0 < u ∧ u ≤ 9223372036854775807) (hn : 0 < nu) (hx : us[nu - 1]? = some x) (hlt : 9223372036854775807 - x < s) : 9223372036854775807 = held S ∧ over S = true := by
  have h2 := leftOf_up h hn hx
  have h3 := isum_pos hu (nu - 1)
  unfold LeftOf at h2
  simp [isum] at h2 h3
  have e : 9223372036854775807 < S := by omega
  exact ⟨(held_hi e).symm, by unfold over; simp; omega⟩
theorem left_low {S s x : Int} {us ds : List Int} {nd : Nat} (h : LeftOf S us ds 0 nd s) (hd : ∀ u ∈ ds, u < 0 ∧ -9223372036854775808 ≤ u) (hn : 0 < nd) (hx : ds[nd - 1]? = some x) (hlt : s < -9223372036854775808 - x) : -9223372036854775808 = held S ∧ over S = true := by
  have h2 := leftOf_down h hn hx
  have h3 := isum_neg hd (nd - 1)
  unfold LeftOf at h2
  simp [isum] at h2 h3
  have e : S < -9223372036854775808 := by omega
  exact ⟨(held_lo e).symm, by unfold over; simp; omega⟩

end Go.Proofs.Ytnngapfbeappcaa.AggsMath

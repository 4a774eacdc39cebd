/- The walk of slices.Clone over numbers. -/
import Derived.Test.YtnngapfbeappcaaKitEnt
import Derived.Lib.SliceRun
namespace Go.Proofs.Ytnngapfbeappcaa
open Rep (rep)
open Go.RowKit

/-- A block of numbers, from base on. -/
def IntB (base : Nat) (W : World) (b : Nat) : Prop := base ≤ b ∧ ∃ vs, W.heap[b]? = some (.cells vs 2 (0, 0))
theorem IntB.fresh {base : Nat} {W : World} {b : Nat} (h : IntB base W b) : Fresh base W b := by
  obtain ⟨h1, vs, h2⟩ := h
  exact ⟨h1, (Array.getElem?_eq_some_iff.1 h2).1⟩
theorem IntB.grown {base : Nat} {W W' : World} {row : Option Nat} {b : Nat} (h : IntB base W b) (hg : W.grownBy W' row) (hr : ∀ r vs, row = some r → W.heap[r]? ≠ some (.cells vs 2 (0, 0))) : IntB base W' b := by
  obtain ⟨h1, vs, h2⟩ := h
  exact ⟨h1, vs, (hg.block b (Array.getElem?_eq_some_iff.1 h2).1 (fun e => hr b vs e.symm h2)).trans h2⟩
theorem own_reads_in {w : World} {base : Nat} {A : Option Addr} {n c : Nat} {xs : List Int} (h : w.ownsRow base 2 1 (.slice A n c) n (ints xs)) (hx : ∀ x ∈ xs, In64 x) : RepList w (IntB base w) A n c xs := by
  have hr := own_reads h hx
  refine ⟨hr.1, hr.2.1, hr.2.2.1, fun k x hk => ?_⟩
  obtain ⟨b, off, e, hb, cs, ⟨h1, h2⟩, h3⟩ := hr.2.2.2 k x hk
  refine ⟨b, off, e, ⟨hb.1, ?_⟩, cs, ⟨h1, h2⟩, h3⟩
  rcases h.2 with ⟨hv, _⟩ | ⟨g, cap, cur, hv, hbg, hgg, _⟩
  · rw [e] at hv; cases hv
  · rw [e] at hv; cases hv; exact ⟨cur, hgg⟩

set_option maxHeartbeats 400000 in
theorem clone_any (A : Option Addr) (n c : Nat) (xs : List Int) (w : World) (hn : n ≤ 17592186044416) (hx : RepList w (· < w.heap.size) A n c xs) :
    Calls Try.prog 45 #[.slice A n c] w fun e w' => ∃ A' c', e = .returned (.slice A' n c') ∧ RepList w' (IntB w.heap.size w') A' n c' xs ∧ Below w.heap.size w w' := by
  obtain ⟨j0, hj0', hjz0, hjz1, hjz2⟩ := info_parts int64_info
  have q22 : ∀ (w : World) (a : Option Addr) (n c n' c' : Nat), (binOp .eql 22 (.slice a n c) (.slice none n' c')).run Try.prog w = .ok (.bool a.isNone) w := fun w a n c n' c' => Lib.run_eql_slice_nil w _ _ a n c n' c' Try.underlying22
  have hcap := hx.cap
  cases A with
  | none =>
    have hn0 : n = 0 := by
      rcases Nat.eq_zero_or_pos n with h | h
      · exact h
      · obtain ⟨_, _, _, hA, _⟩ := hx.at_ h; cases hA
    subst hn0
    have hxs : xs = [] := List.eq_nil_of_length_eq_zero hx.length
    subst hxs
    clear hx
    go_enter Try.func45, Try.ntmps45
    go_wp2
    go_ret
    exact ⟨none, 0, rfl, RepList.nil, Below.refl _ _⟩
  | some ad =>
    have hO := own_empty w 2 1
    have HO := Lib.hid hO
    have Hx := Lib.hid (hx.on ((Below.refl _ _).alloc (Nat.le_refl _) (.cells #[] 2)))
    clear hx hO
    go_enter Try.func45, Try.ntmps45
    go_wp2_with (at_builtin; refine wpList_copyInts rfl (.tmp 5) (.tmp 6) _ rfl w.heap.size 2 j0 Try.underlying22 hj0' hjz0 hjz1 hjz2 (.slice (some ⟨w.heap.size, 0, none⟩) 0 0) rfl HO.out (some ad) n c xs rfl Hx.out hn (by simp) ?_; intro A' c' w1 ho1 hr1 hg1 hb1; have Hr1 := Lib.hid (own_reads_in ho1 Hx.out.in64); have Hb1 := Lib.hid (((Below.refl w.heap.size w).alloc (Nat.le_refl _) (.cells #[] 2)).trans hb1); clear ho1 hr1 hg1 hb1)
    go_ret
    exact ⟨A', c', rfl, Hr1.out, Hb1.out⟩
end Go.Proofs.Ytnngapfbeappcaa

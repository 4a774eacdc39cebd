/- Numbers in rows: elements, what is the same up to a place; draws. -/
import Derived.Test.YtllipkakgjmheaaGreatDoorRows
import Derived.Test.YtllipkakgjmheaaGreatDoorRep
import Derived.WalkKit
import Derived.WalkSpells
import Derived.WalkLawsBesides
import Derived.Lib.Hide
import Derived.Deep.QuietTactic
import Derived.BigQuiet
set_option linter.unusedVariables false
set_option linter.unusedSimpArgs false
namespace Go.Proofs.YtllipkakgjmheaaGreatDoor
open Rep (rep)
open Go.RowKit

theorem ret_bool {a b : Bool} (h : a = b) : Ending.returned (.bool a) = Ending.returned (.bool b) := by rw [h]
theorem ret_num {k : IntKind} {a b : Int} (h : a = b) : Ending.returned (.int k a) = Ending.returned (.int k b) := by rw [h]

/-- Element k of a slice of numbers: its cell, and what it is, closed to the walk. -/
theorem Reads.int_at {w : World} {B : Nat} {A : Option Addr} {n k : Nat} {xs : List Int} (h : Reads w B 1 A n (ints xs)) (hk : k < n) :
    ∃ ad x, A = some ad ∧ w.cell? (ad.add k) = some (.int .i64 x) ∧ Hid (xs[k]? = some x) := by
  obtain ⟨ad, u, hA, _, hu, hc⟩ := h.at_ hk
  have hl : xs.length = n := by have := h.1; rw [ints_len] at this; omega
  have hk' : k < xs.length := by omega
  rw [ints_get hk'] at hu
  cases hu
  exact ⟨ad, xs[k], hA, hc, List.getElem?_eq_getElem hk'⟩

theorem Reads.int_cell {w : World} {B : Nat} {ad : Addr} {n k : Nat} {xs : List Int} {x : Int} (h : Reads w B 1 (some ad) n (ints xs)) (hk : k < n) (hx : Hid (xs[k]? = some x)) : w.cell? (ad.add k) = some (.int .i64 x) := by
  obtain ⟨ad', x', e, hc, hx'⟩ := h.int_at hk
  cases e
  have := hx.out.symm.trans hx'.out
  cases this
  exact hc

theorem Reads.ints_length {w : World} {B : Nat} {A : Option Addr} {n : Nat} {xs : List Int} (h : Reads w B 1 A n (ints xs)) : xs.length = n := by
  have := h.1; rw [ints_len] at this; omega

def SameTo (xs ys : List Int) (k : Nat) : Prop := xs.take k = ys.take k
def InDraws (w wr : World) : Prop := ∃ j, wr = w.drewN j
theorem InDraws.refl (w : World) : InDraws w w := ⟨0, rfl⟩
theorem InDraws.more {w wr : World} (h : InDraws w wr) (j : Nat) : InDraws w (wr.drewN j) := by
  obtain ⟨i, rfl⟩ := h
  exact ⟨i + j, by rw [World.drewN_drewN]⟩

theorem SameTo.step {xs ys : List Int} {k : Nat} {x : Int} (h : SameTo xs ys k) (hx : Hid (xs[k]? = some x)) (hy : Hid (ys[k]? = some x)) : SameTo xs ys (k + 1) := by
  have hx := hx.out
  have hy := hy.out
  unfold SameTo at *
  rw [List.take_add_one, List.take_add_one, h, hx, hy]
theorem SameTo.all {xs ys : List Int} {n : Nat} (h : SameTo xs ys n) (hx : xs.length = n) (hy : ys.length = n) : xs = ys := by
  unfold SameTo at h
  rwa [List.take_of_length_le (by omega), List.take_of_length_le (by omega)] at h

end Go.Proofs.YtllipkakgjmheaaGreatDoor

/- The texts Reps of IterateWords, joined by program (tools/merge.py): walks of the functions that the law reaches, and plain facts; no condition. -/
import Derived.Test.YtajgoffeahfmfaaDoorPart03
set_option linter.unusedVariables false
set_option linter.unusedSimpArgs false

/- More plain data in memory: numbers of 32 bits, bytes, pairs; a list in a block that has just been laid. No program stands here. -/
namespace Go.Proofs.YtajgoffeahfmfaaDoor
open Rep (rep)
open Go.RowKit

/-- A number that lies as an int32. -/
structure I32 where
  val : Int
instance : Rep I32 where
  size := 1
  pos := by decide
  rep _ _ cs x := cs = [.int .i32 x.val]
  len := by rintro _ _ _ _ rfl; rfl
  keep := fun h _ _ => h
  one := by rintro _ _ _ _ _ rfl hu; simp at hu; subst hu; rfl
instance : Rep UInt8 where
  size := 1
  pos := by decide
  rep _ _ cs x := cs = [.int .u8 (x.toNat : Int)]
  len := by rintro _ _ _ _ rfl; rfl
  keep := fun h _ _ => h
  one := by rintro _ _ _ _ _ rfl hu; simp at hu; subst hu; rfl
theorem ElemAt.i32 {w : World} {F : Nat → Prop} {b off k : Nat} {x : I32} (h : ElemAt w F b off k x) : w.cell? ⟨b, off + k, none⟩ = some (.int .i32 x.val) := by
  obtain ⟨cs, rfl, hc⟩ := h
  have := hc 0 _ rfl
  simpa only [show Rep.size I32 = 1 from rfl, Nat.mul_one, Nat.add_zero] using this
theorem ElemAt.u8 {w : World} {F : Nat → Prop} {b off k : Nat} {x : UInt8} (h : ElemAt w F b off k x) : w.cell? ⟨b, off + k, none⟩ = some (.int .u8 (x.toNat : Int)) := by
  obtain ⟨cs, rfl, hc⟩ := h
  have := hc 0 _ rfl
  simpa only [show Rep.size UInt8 = 1 from rfl, Nat.mul_one, Nat.add_zero] using this

/-- A list whose cells stand in a block that is known whole. -/
theorem RepList.of_blk {α : Type} [Rep α] {w : World} {F : Nat → Prop} {b : Nat} {t : TypeId} {css : List (List Value)} {xs : List α} {cs : Array Value} (h : Blk w b t cs) (hcs : cs.toList = css.flatten) (hl : css.length = xs.length)
    (hr : ∀ (k : Nat) (c : List Value) (x : α), css[k]? = some c → xs[k]? = some x → rep w F c x) (hF : F b) {n c : Nat} (hn : xs.length = n) (hc : n ≤ c) (hm : c ≤ 9223372036854775807) : RepList w F (some ⟨b, 0, none⟩) n c xs := by
  have hlen : ∀ c ∈ css, c.length = Rep.size α := by
    intro c hc
    obtain ⟨k, hk⟩ := List.getElem?_of_mem hc
    have hk2 : k < xs.length := by have := lt_of_get? hk; omega
    exact Rep.len (hr k c xs[k] hk (List.getElem?_eq_getElem hk2))
  refine RepList.of_elems hn hc hm hF (fun k x hx => ?_)
  have hk := lt_of_get? hx
  refine ⟨css[k]'(by omega), hr k _ x (List.getElem?_eq_getElem (by omega)) hx, fun j u hu => ?_⟩
  have hj : j < Rep.size α := by
    have := hlen (css[k]'(by omega)) (List.getElem_mem _)
    have := lt_of_get? hu
    omega
  rw [h.cell, Nat.zero_add, ← Array.getElem?_toList, hcs, flat_get css k j _ hlen (List.getElem?_eq_getElem (by omega)) hj]
  exact hu
def i32s (xs : List Int) : List I32 := xs.map I32.mk
theorem i32s_len (xs : List Int) : (i32s xs).length = xs.length := by simp [i32s]
theorem i32s_get {xs : List Int} {k : Nat} {x : I32} (h : (i32s xs)[k]? = some x) : xs[k]? = some x.val := by
  simp [i32s] at h
  obtain ⟨a, h1, rfl⟩ := h
  exact h1
/-- A row of numbers in a block that has just been laid. -/
theorem reads_i32s (w : World) (e : TypeId) (n : Nat) (xs : List Int) (h : xs.length = n) (hn : n ≤ 100000) : RepList (w.alloc (.cells (xs.map (Value.int .i32)).toArray e)) (· < (w.alloc (.cells (xs.map (Value.int .i32)).toArray e)).heap.size) (some ⟨w.heap.size, 0, none⟩) n n (i32s xs) := by
  refine RepList.of_blk (css := xs.map fun x => [Value.int .i32 x]) (Blk.new w e _) ?_ (by simp [i32s]) (fun k c x h1 h2 => ?_) (by simp) (by simp [i32s, h]) (Nat.le_refl _) (by omega)
  · clear h hn
    induction xs with
    | nil => rfl
    | cons a l ih => simp at ih ⊢; exact ih
  · have h3 := i32s_get h2
    rw [List.getElem?_map, h3] at h1
    simp at h1
    subst h1
    rfl
/-- Element k of a list, where it lies. -/
theorem RepList.at_b {α : Type} [Rep α] {w : World} {F : Nat → Prop} {b off n c k : Nat} {xs : List α} (h : RepList w F (some ⟨b, off, none⟩) n c xs) (hk : k < n) : ∃ x, Hid (xs[k]? = some x) ∧ ElemAt w F b off k x := by
  obtain ⟨b', off', x, e, hx, _, he⟩ := h.at_ hk
  cases e
  exact ⟨x, hx, he⟩
end Go.Proofs.YtajgoffeahfmfaaDoor

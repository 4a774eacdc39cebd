/- The walks of the law's sample and sampleDoc. -/
import Derived.Test.YtnngapfbeappcaaEntries
import Derived.Test.YtnngapfbeappcaaKeptDoc
namespace Go.Proofs.Ytnngapfbeappcaa
open Rep (rep)
open Go.RowKit

def bodyN : ByteArray := ⟨#[98, 111, 100, 121]⟩
def nN : ByteArray := ⟨#[110]⟩
def sampleF : List Field := [⟨bodyN, 1, [1, 10], 0, 0, false, true⟩, ⟨nN, 3, [], 0, 0, false, false⟩]
def sampleE : List Entry := [⟨bodyN, ⟨#[97, 32, 98]⟩, []⟩, ⟨nN, ByteArray.empty, [5]⟩]
theorem sample_one : ((sampleE.filter (keptB sampleF)).filter (namedB [])).length = 1 := by decide

/-- A list out of the blocks of a composite literal. -/
theorem elemAt_blk {α : Type} [Rep α] {W : World} {F : Nat → Prop} {g k : Nat} {t : TypeId} {cs : Array Value} {es : List Value} {x : α} (h : Blk W g t cs) (hr : rep W F es x) (hc : ∀ j u, es[j]? = some u → cs[k * Rep.size α + j]? = some u) : ElemAt W F g 0 k x :=
  ⟨es, hr, fun j u hu => by rw [Nat.zero_add, h.cell]; exact hc j u hu⟩
theorem get_append {a b c : List Value} {j : Nat} {u : Value} (h : b[j]? = some u) : ((a ++ b ++ c).toArray)[a.length + j]? = some u := by
  have hj := lt_of_get? h
  rw [List.getElem?_toArray, List.append_assoc, List.getElem?_append_right (by omega), List.getElem?_append_left (by omega)]
  rw [← h]; congr 1; omega
theorem list_ints {W : World} {F : Nat → Prop} {g n : Nat} {t : TypeId} {xs : List Int} (h : Blk W g t (xs.map (Value.int .i64)).toArray) (hn : xs.length = n) (hx : ∀ x ∈ xs, In64 x) (hF : F g) (hm : n ≤ 9223372036854775807) : RepList W F (some ⟨g, 0, none⟩) n n xs :=
  RepList.of_elems hn (Nat.le_refl _) hm hF (fun k x hk => elemAt_blk h (es := [.int .i64 x]) ⟨rfl, hx x (List.mem_of_getElem? hk)⟩ (fun j u hu => by
    have hj : j = 0 := by have := lt_of_get? hu; simp at this; omega
    subst hj
    rw [show Rep.size Int = 1 from rfl, List.getElem?_toArray, Nat.mul_one, Nat.add_zero, List.getElem?_map, hk]
    simpa using hu))

set_option maxHeartbeats 1000000 in
theorem sample_any (w : World) : Calls Try.prog 15 #[] w fun e w' => ∃ A c, e = .returned (.agg #[.slice A 2 c]) ∧ RepList w' (Fresh w.heap.size w') A 2 c sampleF ∧ Below w.heap.size w w' := by
  go_enter Try.func15, Try.ntmps15
  go_wp2
  obtain ⟨W0, hW0⟩ : ∃ W0, (w.alloc (.cells #[.slice (some ⟨w.heap.size + 1 + 1, 0, none⟩) 2 2] 31)).alloc (.cells #[.int .i64 1, .int .i64 10] 3) = W0 := ⟨_, rfl⟩
  have hs0 : W0.heap.size = w.heap.size + 2 := by rw [← hW0]; simp
  have hb0 : Below w.heap.size w W0 := by rw [← hW0]; exact ((Below.refl _ _).alloc (Nat.le_refl _) _).alloc (by simp) _
  have k0 : Blk W0 w.heap.size 31 #[.slice (some ⟨w.heap.size + 1 + 1, 0, none⟩) 2 2] := by rw [← hW0]; exact (Blk.new w _ _).alloc _
  have k1 : Blk W0 (w.heap.size + 1) 3 #[.int .i64 1, .int .i64 10] := by
    rw [← hW0]
    have := Blk.new (w.alloc (.cells #[.slice (some ⟨w.heap.size + 1 + 1, 0, none⟩) 2 2] 31)) 3 #[.int .i64 1, .int .i64 10]
    simpa using this
  rw [hW0]
  clear hW0
  have k2 := Blk.new W0 60 #[.string ⟨#[98, 111, 100, 121]⟩, .int .i64 1, .slice (some ⟨w.heap.size + 1, 0, none⟩) 2 2, .int .i64 0, .int .i64 0, .bool false, .bool true, .string ⟨#[110]⟩, .int .i64 3, .slice none 0 0, .int .i64 0, .int .i64 0, .bool false, .bool false]
  have hb1 := hb0.alloc hb0.size (.cells #[.string ⟨#[98, 111, 100, 121]⟩, .int .i64 1, .slice (some ⟨w.heap.size + 1, 0, none⟩) 2 2, .int .i64 0, .int .i64 0, .bool false, .bool true, .string ⟨#[110]⟩, .int .i64 3, .slice none 0 0, .int .i64 0, .int .i64 0, .bool false, .bool false] 60)
  have c0 := (k0.alloc (.cells #[.string ⟨#[98, 111, 100, 121]⟩, .int .i64 1, .slice (some ⟨w.heap.size + 1, 0, none⟩) 2 2, .int .i64 0, .int .i64 0, .bool false, .bool true, .string ⟨#[110]⟩, .int .i64 3, .slice none 0 0, .int .i64 0, .int .i64 0, .bool false, .bool false] 60))
  have c1 := (k1.alloc (.cells #[.string ⟨#[98, 111, 100, 121]⟩, .int .i64 1, .slice (some ⟨w.heap.size + 1, 0, none⟩) 2 2, .int .i64 0, .int .i64 0, .bool false, .bool true, .string ⟨#[110]⟩, .int .i64 3, .slice none 0 0, .int .i64 0, .int .i64 0, .bool false, .bool false] 60))
  have hsz : (W0.alloc (.cells #[.string ⟨#[98, 111, 100, 121]⟩, .int .i64 1, .slice (some ⟨w.heap.size + 1, 0, none⟩) 2 2, .int .i64 0, .int .i64 0, .bool false, .bool true, .string ⟨#[110]⟩, .int .i64 3, .slice none 0 0, .int .i64 0, .int .i64 0, .bool false, .bool false] 60)).heap.size = w.heap.size + 3 := by simp [hs0]
  rw [hs0] at k2
  have hcell := c0.cell 0
  have hz : w.heap.size < (W0.alloc (.cells #[.string ⟨#[98, 111, 100, 121]⟩, .int .i64 1, .slice (some ⟨w.heap.size + 1, 0, none⟩) 2 2, .int .i64 0, .int .i64 0, .bool false, .bool true, .string ⟨#[110]⟩, .int .i64 3, .slice none 0 0, .int .i64 0, .int .i64 0, .bool false, .bool false] 60)).heap.size := by omega
  simp only [List.getElem?_toArray, List.getElem?_cons_zero] at hcell
  obtain ⟨W, hW⟩ : ∃ W, W0.alloc (.cells #[.string ⟨#[98, 111, 100, 121]⟩, .int .i64 1, .slice (some ⟨w.heap.size + 1, 0, none⟩) 2 2, .int .i64 0, .int .i64 0, .bool false, .bool true, .string ⟨#[110]⟩, .int .i64 3, .slice none 0 0, .int .i64 0, .int .i64 0, .bool false, .bool false] 60) = W := ⟨_, rfl⟩
  rw [hW] at k2 hb1 c0 c1 hsz hcell hz ⊢
  clear hW
  have hF1 : Fresh w.heap.size W (w.heap.size + 1) := ⟨by omega, by omega⟩
  have hF2 : Fresh w.heap.size W (w.heap.size + 2) := ⟨by omega, by omega⟩
  refine bodyPost_ret (v := .agg #[.slice (some ⟨w.heap.size + 1 + 1, 0, none⟩) 2 2]) (by simp [results, Try.results15, go_sem, hcell, hz]) rfl ⟨_, _, rfl, ?_, hb1⟩
  refine RepList.of_elems rfl (Nat.le_refl _) (by omega) hF2 (fun k x hk => ?_)
  have hk2 : k = 0 ∨ k = 1 := by have := lt_of_get? hk; simp [sampleF] at this; omega
  rcases hk2 with rfl | rfl
  · simp [sampleF] at hk
    subst hk
    exact elemAt_blk k2 (Field.of_cells (x := ⟨bodyN, 1, [1, 10], 0, 0, false, true⟩) (list_ints (xs := [1, 10]) c1 rfl (by intro x hx; simp at hx; unfold In64; omega) hF1 (by decide)) (by unfold In64; decide) (by unfold In64; decide) (by unfold In64; decide) (by decide)) (fun j u hu => get_append (a := []) hu)
  · simp [sampleF] at hk
    subst hk
    exact elemAt_blk k2 (Field.of_cells (x := ⟨nN, 3, [], 0, 0, false, false⟩) RepList.nil (by unfold In64; decide) (by unfold In64; decide) (by unfold In64; decide) (by decide)) (fun j u hu => get_append (a := [.string ⟨#[98, 111, 100, 121]⟩, .int .i64 1, .slice (some ⟨w.heap.size + 1, 0, none⟩) 2 2, .int .i64 0, .int .i64 0, .bool false, .bool true]) (c := []) hu)

set_option maxHeartbeats 1000000 in
theorem sampleDoc_any (w : World) : Calls Try.prog 16 #[] w fun e w' => ∃ A c, e = .returned (.agg #[.slice A 2 c]) ∧ RepList w' (Fresh w.heap.size w') A 2 c sampleE ∧ Below w.heap.size w w' := by
  go_enter Try.func16, Try.ntmps16
  go_wp2
  obtain ⟨W0, hW0⟩ : ∃ W0, (w.alloc (.cells #[.slice (some ⟨w.heap.size + 1 + 1, 0, none⟩) 2 2] 34)).alloc (.cells #[.int .i64 5] 2) = W0 := ⟨_, rfl⟩
  have hs0 : W0.heap.size = w.heap.size + 2 := by rw [← hW0]; simp
  have hb0 : Below w.heap.size w W0 := by rw [← hW0]; exact ((Below.refl _ _).alloc (Nat.le_refl _) _).alloc (by simp) _
  have k0 : Blk W0 w.heap.size 34 #[.slice (some ⟨w.heap.size + 1 + 1, 0, none⟩) 2 2] := by rw [← hW0]; exact (Blk.new w _ _).alloc _
  have k1 : Blk W0 (w.heap.size + 1) 2 #[.int .i64 5] := by
    rw [← hW0]
    have := Blk.new (w.alloc (.cells #[.slice (some ⟨w.heap.size + 1 + 1, 0, none⟩) 2 2] 34)) 2 #[.int .i64 5]
    simpa using this
  rw [hW0]
  clear hW0
  have k2 := Blk.new W0 54 #[.string ⟨#[98, 111, 100, 121]⟩, .string ⟨#[97, 32, 98]⟩, .slice none 0 0, .string ⟨#[110]⟩, .string ⟨#[]⟩, .slice (some ⟨w.heap.size + 1, 0, none⟩) 1 1]
  have hb1 := hb0.alloc hb0.size (.cells #[.string ⟨#[98, 111, 100, 121]⟩, .string ⟨#[97, 32, 98]⟩, .slice none 0 0, .string ⟨#[110]⟩, .string ⟨#[]⟩, .slice (some ⟨w.heap.size + 1, 0, none⟩) 1 1] 54)
  have c0 := k0.alloc (.cells #[.string ⟨#[98, 111, 100, 121]⟩, .string ⟨#[97, 32, 98]⟩, .slice none 0 0, .string ⟨#[110]⟩, .string ⟨#[]⟩, .slice (some ⟨w.heap.size + 1, 0, none⟩) 1 1] 54)
  have c1 := k1.alloc (.cells #[.string ⟨#[98, 111, 100, 121]⟩, .string ⟨#[97, 32, 98]⟩, .slice none 0 0, .string ⟨#[110]⟩, .string ⟨#[]⟩, .slice (some ⟨w.heap.size + 1, 0, none⟩) 1 1] 54)
  obtain ⟨W, hW⟩ : ∃ W, W0.alloc (.cells #[.string ⟨#[98, 111, 100, 121]⟩, .string ⟨#[97, 32, 98]⟩, .slice none 0 0, .string ⟨#[110]⟩, .string ⟨#[]⟩, .slice (some ⟨w.heap.size + 1, 0, none⟩) 1 1] 54) = W := ⟨_, rfl⟩
  have hsz : W.heap.size = w.heap.size + 3 := by rw [← hW]; simp [hs0]
  rw [hs0] at k2
  rw [hW] at k2 hb1 c0 c1 ⊢
  clear hW
  have hcell := c0.cell 0
  have hz : w.heap.size < W.heap.size := by omega
  simp only [List.getElem?_toArray, List.getElem?_cons_zero] at hcell
  have hF1 : Fresh w.heap.size W (w.heap.size + 1) := ⟨by omega, by omega⟩
  have hF2 : Fresh w.heap.size W (w.heap.size + 2) := ⟨by omega, by omega⟩
  refine bodyPost_ret (v := .agg #[.slice (some ⟨w.heap.size + 1 + 1, 0, none⟩) 2 2]) (by simp [results, Try.results16, go_sem, hcell, hz]) rfl ⟨_, _, rfl, ?_, hb1⟩
  refine RepList.of_elems rfl (Nat.le_refl _) (by omega) hF2 (fun k x hk => ?_)
  have hk2 : k = 0 ∨ k = 1 := by have := lt_of_get? hk; simp [sampleE] at this; omega
  rcases hk2 with rfl | rfl
  · simp [sampleE] at hk
    subst hk
    exact elemAt_blk k2 (Entry.of_cells (x := ⟨bodyN, ⟨#[97, 32, 98]⟩, []⟩) RepList.nil (by decide) (by decide)) (fun j u hu => get_append (a := []) hu)
  · simp [sampleE] at hk
    subst hk
    exact elemAt_blk k2 (Entry.of_cells (x := ⟨nN, ByteArray.empty, [5]⟩) (list_ints (xs := [5]) c1 rfl (by intro x hx; simp at hx; unfold In64; omega) hF1 (by decide)) (by decide) (by decide)) (fun j u hu => get_append (a := [.string ⟨#[98, 111, 100, 121]⟩, .string ⟨#[97, 32, 98]⟩, .slice none 0 0]) (c := []) hu)
end Go.Proofs.Ytnngapfbeappcaa

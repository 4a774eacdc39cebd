/- Values in memory that read as plain data: numbers, texts, lists of whatever reads so, structs; what a call of our own has made (Own), and what it goes on with behind an append. No program stands here. -/
import Derived.Test.YtllipkakgjmheaaGreatDoorMem
import Derived.WalkSmall
set_option linter.unusedVariables false
set_option linter.unusedSimpArgs false
namespace Go.Proofs.YtllipkakgjmheaaGreatDoor
open Go.RowKit

/-- A type of plain data that lies in cells: 'rep w F cs x': the cells cs read as x in the world w, and no block outside F is looked into. -/
class Rep (α : Type) where
  size : Nat
  pos : 0 < size
  rep : World → (Nat → Prop) → List Value → α → Prop
  len : ∀ {w F cs x}, rep w F cs x → cs.length = size
  keep : ∀ {w w' : World} {F F' : Nat → Prop} {cs x}, rep w F cs x → (∀ p : Addr, F p.block → w'.cell? p = w.cell? p) → (∀ b, F b → F' b) → rep w' F' cs x
  one : ∀ {w F cs x u}, rep w F cs x → u ∈ cs → u.oneCell' = true
open Rep (rep)

theorem Rep.below {α : Type} [Rep α] {w w' : World} {cs : List Value} {x : α} {B : Nat} (h : rep w (· < B) cs x) (hb : Below B w w') : rep w' (· < B) cs x :=
  Rep.keep h (fun _ hp => hb.cell hp) (fun _ h => h)
theorem Rep.more {α : Type} [Rep α] {w : World} {cs : List Value} {x : α} {F F' : Nat → Prop} (h : rep w F cs x) (hF : ∀ b, F b → F' b) : rep w F' cs x :=
  Rep.keep h (fun _ _ => rfl) hF
/-- In the whole heap, then in a later world's whole heap. -/
theorem Rep.on {α : Type} [Rep α] {w w' : World} {cs : List Value} {x : α} (h : rep w (· < w.heap.size) cs x) (hb : Below w.heap.size w w') : rep w' (· < w'.heap.size) cs x :=
  Rep.keep h (fun _ hp => hb.cell hp) (fun b h => Nat.lt_of_lt_of_le h hb.size)

def In64 (n : Int) : Prop := -9223372036854775808 ≤ n ∧ n ≤ 9223372036854775807

instance : Rep Int where
  size := 1
  pos := by decide
  rep _ _ cs n := cs = [.int .i64 n] ∧ In64 n
  len := by rintro _ _ _ _ ⟨rfl, _⟩; rfl
  keep := fun h _ _ => h
  one := by rintro _ _ _ _ _ ⟨rfl, _⟩ hu; simp at hu; subst hu; rfl
instance : Rep Bool where
  size := 1
  pos := by decide
  rep _ _ cs b := cs = [.bool b]
  len := by rintro _ _ _ _ rfl; rfl
  keep := fun h _ _ => h
  one := by rintro _ _ _ _ _ rfl hu; simp at hu; subst hu; rfl
instance : Rep ByteArray where
  size := 1
  pos := by decide
  rep _ _ cs s := cs = [.string s] ∧ s.size ≤ 9223372036854775807
  len := by rintro _ _ _ _ ⟨rfl, _⟩; rfl
  keep := fun h _ _ => h
  one := by rintro _ _ _ _ _ ⟨rfl, _⟩ hu; simp at hu; subst hu; rfl

/-- Element k of what lies behind the place off in block b. -/
def ElemAt {α : Type} [Rep α] (w : World) (F : Nat → Prop) (b off : Nat) (k : Nat) (x : α) : Prop :=
  ∃ cs, rep w F cs x ∧ ∀ j u, cs[j]? = some u → w.cell? ⟨b, off + k * Rep.size α + j, none⟩ = some u

def RepList {α : Type} [Rep α] (w : World) (F : Nat → Prop) (A : Option Addr) (n c : Nat) (xs : List α) : Prop :=
  xs.length = n ∧ n ≤ c ∧ c ≤ 9223372036854775807 ∧ ∀ k x, xs[k]? = some x → ∃ b off, A = some ⟨b, off, none⟩ ∧ F b ∧ ElemAt w F b off k x

theorem ElemAt.keep {α : Type} [Rep α] {w w' : World} {F F' : Nat → Prop} {b off : Nat} {k : Nat} {x : α} (h : ElemAt w F b off k x) (hc : ∀ p : Addr, F p.block → w'.cell? p = w.cell? p) (hF : ∀ b, F b → F' b) (hb : F b) : ElemAt w' F' b off k x := by
  obtain ⟨cs, h1, h2⟩ := h
  exact ⟨cs, Rep.keep h1 hc hF, fun j u hu => (hc _ hb).trans (h2 j u hu)⟩

theorem RepList.keep {α : Type} [Rep α] {w w' : World} {F F' : Nat → Prop} {A : Option Addr} {n c : Nat} {xs : List α} (h : RepList w F A n c xs) (hc : ∀ p : Addr, F p.block → w'.cell? p = w.cell? p) (hF : ∀ b, F b → F' b) : RepList w' F' A n c xs := by
  obtain ⟨h1, h2, h3, h4⟩ := h
  refine ⟨h1, h2, h3, fun k x hx => ?_⟩
  obtain ⟨b, off, e, hb, he⟩ := h4 k x hx
  exact ⟨b, off, e, hF _ hb, he.keep hc hF hb⟩

instance {α : Type} [Rep α] : Rep (List α) where
  size := 1
  pos := by decide
  rep w F cs xs := ∃ A n c, cs = [.slice A n c] ∧ RepList w F A n c xs
  len := by rintro _ _ _ _ ⟨A, n, c, rfl, _⟩; rfl
  keep := by rintro _ _ _ _ _ _ ⟨A, n, c, rfl, h⟩ hc hF; exact ⟨A, n, c, rfl, h.keep hc hF⟩
  one := by rintro _ _ _ _ _ ⟨A, n, c, rfl, _⟩ hu; simp at hu; subst hu; rfl

theorem lt_of_get? {α : Type} {xs : List α} {k : Nat} {x : α} (h : xs[k]? = some x) : k < xs.length := by
  rcases Nat.lt_or_ge k xs.length with hl | hl
  · exact hl
  · rw [List.getElem?_eq_none hl] at h; cases h

section
variable {α : Type} [Rep α] {w w' : World} {F F' : Nat → Prop} {A : Option Addr} {n c : Nat} {xs : List α}
theorem RepList.length (h : RepList w F A n c xs) : xs.length = n := h.1
theorem RepList.cap (h : RepList w F A n c xs) : n ≤ c ∧ c ≤ 9223372036854775807 := ⟨h.2.1, h.2.2.1⟩
theorem RepList.nil : RepList w F none 0 0 ([] : List α) := ⟨rfl, Nat.le_refl _, by omega, fun k x h => by simp at h⟩
theorem RepList.below {B : Nat} (h : RepList w (· < B) A n c xs) (hb : Below B w w') : RepList w' (· < B) A n c xs := h.keep (fun _ hp => hb.cell hp) (fun _ h => h)
theorem RepList.on (h : RepList w (· < w.heap.size) A n c xs) (hb : Below w.heap.size w w') : RepList w' (· < w'.heap.size) A n c xs := h.keep (fun _ hp => hb.cell hp) (fun b h => Nat.lt_of_lt_of_le h hb.size)
theorem RepList.more (h : RepList w F A n c xs) (hF : ∀ b, F b → F' b) : RepList w F' A n c xs := h.keep (fun _ _ => rfl) hF
/-- Element k: where it lies, what it is. -/
theorem RepList.at_ {k : Nat} (h : RepList w F A n c xs) (hk : k < n) : ∃ b off x, A = some ⟨b, off, none⟩ ∧ Hid (xs[k]? = some x) ∧ F b ∧ ElemAt w F b off k x := by
  have hl : k < xs.length := by have := h.1; omega
  obtain ⟨b, off, e, hb, he⟩ := h.2.2.2 k xs[k] (List.getElem?_eq_getElem hl)
  exact ⟨b, off, xs[k], e, List.getElem?_eq_getElem hl, hb, he⟩
/-- The same, where the element is known. -/
theorem RepList.elem {b off : Nat} {k : Nat} {x : α} (h : RepList w F (some ⟨b, off, none⟩) n c xs) (hx : xs[k]? = some x) : F b ∧ ElemAt w F b off k x := by
  obtain ⟨b', off', e, hb, he⟩ := h.2.2.2 k x hx
  cases e
  exact ⟨hb, he⟩
/-- A list whose elements are all known reads so. -/
theorem RepList.of_elems {b off : Nat} (hl : xs.length = n) (hc : n ≤ c) (hm : c ≤ 9223372036854775807) (hb : F b) (h : ∀ k x, xs[k]? = some x → ElemAt w F b off k x) : RepList w F (some ⟨b, off, none⟩) n c xs :=
  ⟨hl, hc, hm, fun k x hx => ⟨b, off, rfl, hb, h k x hx⟩⟩
end

theorem ElemAt.int {w : World} {F : Nat → Prop} {b off k : Nat} {x : Int} (h : ElemAt w F b off k x) : w.cell? ⟨b, off + k, none⟩ = some (.int .i64 x) ∧ In64 x := by
  obtain ⟨cs, ⟨rfl, h1⟩, hc⟩ := h
  have := hc 0 _ rfl
  simp only [show Rep.size Int = 1 from rfl, Nat.mul_one, Nat.add_zero] at this
  exact ⟨this, h1⟩
theorem ElemAt.str {w : World} {F : Nat → Prop} {b off k : Nat} {x : ByteArray} (h : ElemAt w F b off k x) : w.cell? ⟨b, off + k, none⟩ = some (.string x) ∧ x.size ≤ 9223372036854775807 := by
  obtain ⟨cs, ⟨rfl, h1⟩, hc⟩ := h
  have := hc 0 _ rfl
  simp only [show Rep.size ByteArray = 1 from rfl, Nat.mul_one, Nat.add_zero] at this
  exact ⟨this, h1⟩
theorem ElemAt.list {α : Type} [Rep α] {w : World} {F : Nat → Prop} {b off k : Nat} {x : List α} (h : ElemAt w F b off k x) : ∃ A n c, w.cell? ⟨b, off + k, none⟩ = some (.slice A n c) ∧ RepList w F A n c x := by
  obtain ⟨cs, ⟨A, n, c, rfl, h1⟩, hc⟩ := h
  have := hc 0 _ rfl
  simp only [show Rep.size (List α) = 1 from rfl, Nat.mul_one, Nat.add_zero] at this
  exact ⟨A, n, c, this, h1⟩

/-! ### cells in a row -/
theorem flat_get {size : Nat} : ∀ (css : List (List Value)) (k j : Nat) (cs : List Value), (∀ c ∈ css, c.length = size) → css[k]? = some cs → j < size → css.flatten[k * size + j]? = cs[j]?
  | [], _, _, _, _, h, _ => by simp at h
  | c :: css, 0, j, cs, hl, h, hj => by
    simp at h
    subst h
    have := hl c (by simp)
    rw [List.flatten_cons, Nat.zero_mul, Nat.zero_add, List.getElem?_append_left (by omega)]
  | c :: css, k + 1, j, cs, hl, h, hj => by
    have h1 := hl c (by simp)
    rw [List.flatten_cons, List.getElem?_append_right (by rw [h1, Nat.add_mul]; omega)]
    rw [show (k + 1) * size + j - c.length = k * size + j by rw [h1, Nat.add_mul]; omega]
    exact flat_get css k j cs (fun c' hc' => hl c' (by simp [hc'])) (by simpa using h) hj
theorem flat_length {size : Nat} : ∀ css : List (List Value), (∀ c ∈ css, c.length = size) → css.flatten.length = css.length * size
  | [], _ => by simp
  | c :: css, hl => by
    rw [List.flatten_cons, List.length_append, hl c (by simp), flat_length css (fun c' hc' => hl c' (by simp [hc'])), List.length_cons, Nat.add_mul]; omega

/-- The blocks that have been laid from base on. -/
def Fresh (base : Nat) (w : World) (b : Nat) : Prop := base ≤ b ∧ b < w.heap.size
theorem Fresh.whole {base : Nat} {w : World} {b : Nat} (h : Fresh base w b) : b < w.heap.size := h.2
theorem Fresh.on {base : Nat} {w w' : World} (hb : Below w.heap.size w w') {b : Nat} (h : Fresh base w b) : Fresh base w' b := ⟨h.1, Nat.lt_of_lt_of_le h.2 hb.size⟩
theorem RepList.whole {α : Type} [Rep α] {w : World} {base : Nat} {A : Option Addr} {n c : Nat} {xs : List α} (h : RepList w (Fresh base w) A n c xs) : RepList w (· < w.heap.size) A n c xs := h.more (fun _ h => h.2)
theorem RepList.fresh_on {α : Type} [Rep α] {w w' : World} {base : Nat} {A : Option Addr} {n c : Nat} {xs : List α} (h : RepList w (Fresh base w) A n c xs) (hb : Below w.heap.size w w') : RepList w' (Fresh base w') A n c xs :=
  h.keep (fun _ hp => hb.cell hp.2) (fun _ h => h.on hb)

/-! ### what the call itself has made -/
/-- Where the deep parts of an owned row may lie: within D, and not in the row's own block. -/
def Fr (D : Nat → Prop) (w : World) (v : Value) (b : Nat) : Prop := D b ∧ b < w.heap.size ∧ some b ≠ v.ownBlock

/-- The slice value v, made by the call itself (its row in a block from base on, its deep parts within D), reads as xs. -/
def Own {α : Type} [Rep α] (D : Nat → Prop) (w : World) (base : Nat) (e : TypeId) (v : Value) (xs : List α) : Prop :=
  ∃ css : List (List Value), css.length = xs.length ∧ (∀ (k : Nat) (cs : List Value) (x : α), css[k]? = some cs → xs[k]? = some x → rep w (Fr D w v) cs x) ∧ w.ownsRow base e (Rep.size α) v xs.length css.flatten

section
variable {α : Type} [Rep α] {D : Nat → Prop} {w w' : World} {base : Nat} {e : TypeId} {v v' : Value} {xs : List α}
theorem Own.nil (D : Nat → Prop) (w : World) (base : Nat) (e : TypeId) : Own D w base e (.slice none 0 0) ([] : List α) := ⟨[], rfl, fun k cs x h => by simp at h, World.ownsRow_nil _ _ _ _⟩
theorem Own.lens {css : List (List Value)} (hl : css.length = xs.length) (hr : ∀ (k : Nat) (cs : List Value) (x : α), css[k]? = some cs → xs[k]? = some x → rep w (Fr D w v) cs x) : ∀ c ∈ css, c.length = Rep.size α := by
  intro c hc
  obtain ⟨k, hk⟩ := List.getElem?_of_mem hc
  have hk2 : k < xs.length := by have := lt_of_get? hk; omega
  exact Rep.len (hr k c xs[k] hk (List.getElem?_eq_getElem hk2))
theorem Own.form (h : Own D w base e v xs) : ∃ A cap, v = .slice A xs.length cap := by
  obtain ⟨css, _, _, ho⟩ := h
  exact own_slice ho
theorem Own.from_ (h : Own D w base e v xs) : v.ownBlock = none ∨ ∃ k, v.ownBlock = some k ∧ base ≤ k := by
  obtain ⟨css, _, _, ho⟩ := h
  exact own_from ho
theorem Own.block_lt (h : Own D w base e v xs) {k : Nat} (hk : v.ownBlock = some k) : k < w.heap.size := by
  obtain ⟨css, _, _, ho⟩ := h
  exact (ho.lt k hk).2
/-- It goes on where nothing that was there has turned. -/
theorem Own.on (h : Own D w base e v xs) (hb : Below w.heap.size w w') : Own D w' base e v xs := by
  obtain ⟨css, hl, hr, ho⟩ := h
  refine ⟨css, hl, fun k cs x h1 h2 => Rep.keep (hr k cs x h1 h2) (fun p hp => hb.cell hp.2.1) (fun b hb' => ⟨hb'.1, Nat.lt_of_lt_of_le hb'.2.1 hb.size, hb'.2.2⟩), ?_⟩
  refine ⟨ho.1, ?_⟩
  rcases ho.2 with hn | ⟨g, cap, cur, rfl, hbg, hgg, rest⟩
  · exact .inl hn
  · refine .inr ⟨g, cap, cur, rfl, hbg, ?_, rest⟩
    rw [hb.block g (Array.getElem?_eq_some_iff.1 hgg).1]
    exact hgg
theorem Own.mono {base' : Nat} (h : Own D w base e v xs) (hb : base' ≤ base) : Own D w base' e v xs := by
  obtain ⟨css, hl, hr, ho⟩ := h
  refine ⟨css, hl, hr, ho.1, ?_⟩
  rcases ho.2 with hn | ⟨g, cap, cur, rfl, hbg, rest⟩
  · exact .inl hn
  · exact .inr ⟨g, cap, cur, rfl, Nat.le_trans hb hbg, rest⟩
theorem Own.wide {D' : Nat → Prop} (h : Own D w base e v xs) (hD : ∀ b, D b → D' b) : Own D' w base e v xs := by
  obtain ⟨css, hl, hr, ho⟩ := h
  exact ⟨css, hl, fun k cs x h1 h2 => Rep.more (hr k cs x h1 h2) (fun b hb => ⟨hD b hb.1, hb.2⟩), ho⟩
theorem Own.alloc (h : Own D w base e v xs) (o : Obj) : Own D (w.alloc o) base e v xs := h.on ((Below.refl _ _).alloc (Nat.le_refl _) o)
theorem Own.drewN (h : Own D w base e v xs) (n : Nat) : Own D (w.drewN n) base e v xs := h.on (Go.below_drewN (Below.refl _ _) n)
/-- It reads as a list. -/
theorem Own.reads {A : Option Addr} {n c : Nat} (h : Own D w base e (.slice A n c) xs) : RepList w (fun b => (D b ∨ base ≤ b) ∧ b < w.heap.size) A n c xs := by
  obtain ⟨css, hl, hr, ho⟩ := h
  have hlen := Own.lens hl hr
  have hcap := own_cap ho
  have hn : xs.length = n := by
    rcases ho.2 with ⟨hv, hx⟩ | ⟨g, cap, cur, hv, _⟩
    · injection hv with _ hn _; omega
    · injection hv with _ hn _; exact hn.symm
  refine ⟨hn, by omega, hcap.2, fun k x hx => ?_⟩
  have hk := lt_of_get? hx
  obtain ⟨g, cap, hv, hb, hlt⟩ := ho.form (by omega)
  injection hv with hA _ _
  subst hA
  refine ⟨g, 0, rfl, ⟨.inr hb, hlt⟩, css[k]'(by omega), Rep.more (hr k _ x (List.getElem?_eq_getElem (by omega)) hx) (fun b hb => ⟨.inl hb.1, hb.2.1⟩), fun j u hu => ?_⟩
  have hj : j < Rep.size α := by
    have := hlen (css[k]'(by omega)) (List.getElem_mem _)
    have := lt_of_get? hu
    omega
  have hc := ho.cells (g := g) rfl (k * Rep.size α + j) u (by rw [flat_get css k j _ hlen (List.getElem?_eq_getElem (by omega)) hj]; exact hu)
  rw [Nat.zero_add]
  rw [addr_head] at hc
  exact hc
end

/-- Behind an append of one element. -/
theorem own_push {α : Type} [Rep α] {D : Nat → Prop} {w w' : World} {base : Nat} {e : TypeId} {v v' : Value} {xs : List α} {y : α} {css : List (List Value)} {cs : List Value}
    (hl : css.length = xs.length) (hr : ∀ (k : Nat) (cs : List Value) (x : α), css[k]? = some cs → xs[k]? = some x → rep w (Fr D w v) cs x)
    (hy : rep w (Fr D w v) cs y) (ho' : w'.ownsRow base e (Rep.size α) v' (xs.length + 1) (css.flatten ++ cs))
    (hg : w.grownBy w' v.ownBlock) (hat : v'.ownBlock = v.ownBlock ∨ v'.ownBlock = some w.heap.size) : Own D w' base e v' (xs ++ [y]) := by
  have go : ∀ (cs : List Value) (x : α), rep w (Fr D w v) cs x → rep w' (Fr D w' v') cs x := by
    intro cs x hx
    refine Rep.keep hx (fun p hp => World.cell?_of_block (hg.block p.block hp.2.1 hp.2.2)) (fun b hb => ⟨hb.1, Nat.lt_of_lt_of_le hb.2.1 hg.size, ?_⟩)
    rcases hat with hat | hat
    · rw [hat]; exact hb.2.2
    · rw [hat]; have := hb.2.1; simp; omega
  refine ⟨css ++ [cs], by simp [hl], fun k cs' x h1 h2 => go cs' x ?_, by simpa using ho'⟩
  rcases Nat.lt_or_ge k css.length with hk | hk
  · rw [List.getElem?_append_left hk] at h1
    rw [List.getElem?_append_left (by omega)] at h2
    exact hr k cs' x h1 h2
  · rw [List.getElem?_append_right hk] at h1
    rw [List.getElem?_append_right (by omega)] at h2
    have h3 : k - css.length = 0 := by have := lt_of_get? h1; simp at this; omega
    rw [h3] at h1
    rw [show k - xs.length = 0 by omega] at h2
    simp at h1 h2
    subst h1 h2
    exact hy

/-! ### rows of numbers -/
def ints (xs : List Int) : List Value := xs.map (Value.int .i64)
theorem ints_len (xs : List Int) : (ints xs).length = xs.length := by simp [ints]
theorem ints_get {xs : List Int} {k : Nat} (h : k < xs.length) : (ints xs)[k]? = some (.int .i64 xs[k]) := by simp [ints, h]
theorem ints_one (xs : List Int) : ∀ u ∈ ints xs, u.oneCell' = true := by
  intro u hu
  obtain ⟨_, _, rfl⟩ := List.mem_map.1 hu
  rfl
theorem ints_flat (xs : List Int) : (xs.map fun x => [Value.int .i64 x]).flatten = ints xs := by
  induction xs with
  | nil => rfl
  | cons x xs ih => simp [ints] at ih ⊢; exact ih

theorem RepList.reads_ints {w : World} {B : Nat} {A : Option Addr} {n c : Nat} {xs : List Int} (h : RepList w (· < B) A n c xs) : Reads w B 1 A n (ints xs) := by
  refine ⟨by rw [ints_len, h.length]; omega, fun h0 => ?_⟩
  obtain ⟨b, off, x, hA, _, hb, _⟩ := h.at_ h0
  refine ⟨_, hA, hb, fun j u hu => ?_⟩
  have hj : j < xs.length := by have := lt_of_get? hu; rwa [ints_len] at this
  rw [ints_get hj] at hu
  cases hu
  subst hA
  obtain ⟨_, he⟩ := h.elem (List.getElem?_eq_getElem hj)
  rw [addr_at]
  exact he.int.1
theorem RepList.in64 {w : World} {F : Nat → Prop} {A : Option Addr} {n c : Nat} {xs : List Int} (h : RepList w F A n c xs) : ∀ x ∈ xs, In64 x := by
  intro x hx
  obtain ⟨k, hk⟩ := List.getElem?_of_mem hx
  obtain ⟨b, off, _, _, he⟩ := h.2.2.2 k x hk
  exact he.int.2

/-- A row of numbers that the call owns. -/
theorem own_ints (D : Nat → Prop) {w : World} {base : Nat} {e : TypeId} {v : Value} {n : Nat} {xs : List Int} (h : w.ownsRow base e 1 v n (ints xs)) (hx : ∀ x ∈ xs, In64 x) : Own D w base e v xs := by
  have hn : n = xs.length := by have := h.1; rw [ints_len] at this; omega
  subst hn
  refine ⟨xs.map fun x => [Value.int .i64 x], by simp, fun k cs x h1 h2 => ?_, by rw [ints_flat]; exact h⟩
  rw [List.getElem?_map, h2] at h1
  simp at h1
  subst h1
  exact ⟨rfl, hx x (List.mem_of_getElem? h2)⟩

/-- What the call owns from base on reads as a list, in the blocks from base on. -/
theorem own_reads {w : World} {base : Nat} {e : TypeId} {A : Option Addr} {n c : Nat} {xs : List Int} (h : w.ownsRow base e 1 (.slice A n c) n (ints xs)) (hx : ∀ x ∈ xs, In64 x) : RepList w (fun b => base ≤ b ∧ b < w.heap.size) A n c xs := by
  have hn : n = xs.length := by have := h.1; rw [ints_len] at this; omega
  have hcap := own_cap h
  refine ⟨hn.symm, hcap.1, hcap.2, fun k x hk => ?_⟩
  have hkl := lt_of_get? hk
  obtain ⟨g, cap, hv, hb, hlt⟩ := h.form (by omega)
  injection hv with hA _ _
  subst hA
  refine ⟨g, 0, rfl, ⟨hb, hlt⟩, [.int .i64 x], ⟨rfl, hx x (List.mem_of_getElem? hk)⟩, fun j u hu => ?_⟩
  have hj : j = 0 := by have := lt_of_get? hu; simp at this; omega
  subst hj
  simp at hu
  subst hu
  have hc := h.cells (g := g) rfl k (.int .i64 x) (by rw [ints_get hkl]; rw [List.getElem?_eq_getElem hkl] at hk; cases hk; rfl)
  rw [addr_head] at hc
  simp only [show Rep.size Int = 1 from rfl, Nat.mul_one, Nat.add_zero, Nat.zero_add]
  exact hc

end Go.Proofs.YtllipkakgjmheaaGreatDoor

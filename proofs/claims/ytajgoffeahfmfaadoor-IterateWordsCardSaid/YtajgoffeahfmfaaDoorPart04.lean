/- The texts Api, Opens of IterateWords, joined by program (tools/merge.py): walks of the functions that the law reaches, and plain facts; no condition. -/
import Derived.Test.YtajgoffeahfmfaaDoorPart03
import Derived.Deep.Slices
import Derived.Deep.Fields
import Derived.ChangeSame
import Derived.SizedLaws
import Derived.OpenShut
set_option linter.unusedVariables false
set_option linter.unusedSimpArgs false

/- The program's structs as plain data. -/
namespace Go.Proofs.YtajgoffeahfmfaaDoor
open Rep (rep)
open Go.RowKit

structure Entry where
  field : ByteArray
  text : ByteArray
  numbers : List Int
  deriving DecidableEq
instance : Rep Entry where
  size := 3
  pos := by decide
  rep w F cs x := ∃ v0 v1 v2, cs = [v0, v1, v2] ∧ rep w F [v0] x.field ∧ rep w F [v1] x.text ∧ rep w F [v2] x.numbers
  len := by rintro _ _ _ _ ⟨_, _, _, rfl, _⟩; rfl
  keep := by
    rintro _ _ _ _ _ _ ⟨v0, v1, v2, rfl, h0, h1, h2⟩ hc hF
    exact ⟨v0, v1, v2, rfl, Rep.keep h0 hc hF, Rep.keep h1 hc hF, Rep.keep h2 hc hF⟩
  one := by
    rintro _ _ _ _ u ⟨v0, v1, v2, rfl, h0, h1, h2⟩ hu
    simp only [List.mem_cons, List.not_mem_nil, or_false] at hu
    rcases hu with rfl | rfl | rfl
    · exact Rep.one h0 (by simp)
    · exact Rep.one h1 (by simp)
    · exact Rep.one h2 (by simp)
theorem Entry.cells_of {w : World} {F : Nat → Prop} {cs : List Value} {x : Entry} (h : rep w F cs x) : ∃ A2 n2 c2, cs = [.string x.field, .string x.text, .slice A2 n2 c2] ∧ RepList w F A2 n2 c2 x.numbers ∧ x.field.size ≤ 9223372036854775807 ∧ x.text.size ≤ 9223372036854775807 := by
  obtain ⟨v0, v1, v2, rfl, ⟨e0, p0⟩, ⟨e1, p1⟩, ⟨A2, n2, c2, e2, p2⟩⟩ := h
  cases e0; cases e1; cases e2
  exact ⟨A2, n2, c2, rfl, p2, p0, p1⟩
theorem Entry.of_cells {w : World} {F : Nat → Prop} {x : Entry} {A2 : Option Addr} {n2 c2 : Nat} (h0 : RepList w F A2 n2 c2 x.numbers) (h1 : x.field.size ≤ 9223372036854775807) (h2 : x.text.size ≤ 9223372036854775807) : rep w F [.string x.field, .string x.text, .slice A2 n2 c2] x :=
  ⟨_, _, _, rfl, ⟨rfl, h1⟩, ⟨rfl, h2⟩, ⟨_, _, _, rfl, h0⟩⟩
theorem Entry.at_ {w : World} {F : Nat → Prop} {b off k : Nat} {x : Entry} (h : ElemAt w F b off k x) : ∃ A2 n2 c2, w.cell? ⟨b, off + k * 3, none⟩ = some (.string x.field) ∧ w.cell? ⟨b, off + k * 3 + 1, none⟩ = some (.string x.text) ∧ w.cell? ⟨b, off + k * 3 + 2, none⟩ = some (.slice A2 n2 c2) ∧ RepList w F A2 n2 c2 x.numbers ∧ x.field.size ≤ 9223372036854775807 ∧ x.text.size ≤ 9223372036854775807 := by
  obtain ⟨cs, h, hc⟩ := h
  obtain ⟨A2, n2, c2, rfl, p2, p0, p1⟩ := Entry.cells_of h
  exact ⟨A2, n2, c2, hc 0 _ rfl, hc 1 _ rfl, hc 2 _ rfl, p2, p0, p1⟩

structure LEntry where
  field : ByteArray
  text : ByteArray
  numbers : LInts
instance : Rep LEntry where
  size := 3
  pos := by decide
  rep w F cs x := ∃ v0 v1 v2, cs = [v0, v1, v2] ∧ rep w F [v0] x.field ∧ rep w F [v1] x.text ∧ rep w F [v2] x.numbers
  len := by rintro _ _ _ _ ⟨_, _, _, rfl, _⟩; rfl
  keep := by
    rintro _ _ _ _ _ _ ⟨v0, v1, v2, rfl, h0, h1, h2⟩ hc hF
    exact ⟨v0, v1, v2, rfl, Rep.keep h0 hc hF, Rep.keep h1 hc hF, Rep.keep h2 hc hF⟩
  one := by
    rintro _ _ _ _ u ⟨v0, v1, v2, rfl, h0, h1, h2⟩ hu
    simp only [List.mem_cons, List.not_mem_nil, or_false] at hu
    rcases hu with rfl | rfl | rfl
    · exact Rep.one h0 (by simp)
    · exact Rep.one h1 (by simp)
    · exact Rep.one h2 (by simp)
theorem LEntry.cells_of {w : World} {F : Nat → Prop} {cs : List Value} {x : LEntry} (h : rep w F cs x) : ∃ A2 n2 c2, cs = [.string x.field, .string x.text, .slice A2 n2 c2] ∧ (RepList w F A2 n2 c2 x.numbers.val ∧ MarkAt w F 1 A2 n2 c2 (.int .i64 (-7171))) ∧ x.field.size ≤ 9223372036854775807 ∧ x.text.size ≤ 9223372036854775807 := by
  obtain ⟨v0, v1, v2, rfl, ⟨e0, p0⟩, ⟨e1, p1⟩, ⟨A2, n2, c2, e2, p2⟩⟩ := h
  cases e0; cases e1; cases e2
  exact ⟨A2, n2, c2, rfl, p2, p0, p1⟩
theorem LEntry.of_cells {w : World} {F : Nat → Prop} {x : LEntry} {A2 : Option Addr} {n2 c2 : Nat} (h0 : (RepList w F A2 n2 c2 x.numbers.val ∧ MarkAt w F 1 A2 n2 c2 (.int .i64 (-7171)))) (h1 : x.field.size ≤ 9223372036854775807) (h2 : x.text.size ≤ 9223372036854775807) : rep w F [.string x.field, .string x.text, .slice A2 n2 c2] x :=
  ⟨_, _, _, rfl, ⟨rfl, h1⟩, ⟨rfl, h2⟩, ⟨_, _, _, rfl, h0⟩⟩
theorem LEntry.at_ {w : World} {F : Nat → Prop} {b off k : Nat} {x : LEntry} (h : ElemAt w F b off k x) : ∃ A2 n2 c2, w.cell? ⟨b, off + k * 3, none⟩ = some (.string x.field) ∧ w.cell? ⟨b, off + k * 3 + 1, none⟩ = some (.string x.text) ∧ w.cell? ⟨b, off + k * 3 + 2, none⟩ = some (.slice A2 n2 c2) ∧ (RepList w F A2 n2 c2 x.numbers.val ∧ MarkAt w F 1 A2 n2 c2 (.int .i64 (-7171))) ∧ x.field.size ≤ 9223372036854775807 ∧ x.text.size ≤ 9223372036854775807 := by
  obtain ⟨cs, h, hc⟩ := h
  obtain ⟨A2, n2, c2, rfl, p2, p0, p1⟩ := LEntry.cells_of h
  exact ⟨A2, n2, c2, hc 0 _ rfl, hc 1 _ rfl, hc 2 _ rfl, p2, p0, p1⟩

structure Field where
  name : ByteArray
  kind : Int
  chain : List Int
  scale : Int
  dims : Int
  many : Bool
  stored : Bool
  deriving DecidableEq
instance : Rep Field where
  size := 7
  pos := by decide
  rep w F cs x := ∃ v0 v1 v2 v3 v4 v5 v6, cs = [v0, v1, v2, v3, v4, v5, v6] ∧ rep w F [v0] x.name ∧ rep w F [v1] x.kind ∧ rep w F [v2] x.chain ∧ rep w F [v3] x.scale ∧ rep w F [v4] x.dims ∧ rep w F [v5] x.many ∧ rep w F [v6] x.stored
  len := by rintro _ _ _ _ ⟨_, _, _, _, _, _, _, rfl, _⟩; rfl
  keep := by
    rintro _ _ _ _ _ _ ⟨v0, v1, v2, v3, v4, v5, v6, rfl, h0, h1, h2, h3, h4, h5, h6⟩ hc hF
    exact ⟨v0, v1, v2, v3, v4, v5, v6, rfl, Rep.keep h0 hc hF, Rep.keep h1 hc hF, Rep.keep h2 hc hF, Rep.keep h3 hc hF, Rep.keep h4 hc hF, Rep.keep h5 hc hF, Rep.keep h6 hc hF⟩
  one := by
    rintro _ _ _ _ u ⟨v0, v1, v2, v3, v4, v5, v6, rfl, h0, h1, h2, h3, h4, h5, h6⟩ hu
    simp only [List.mem_cons, List.not_mem_nil, or_false] at hu
    rcases hu with rfl | rfl | rfl | rfl | rfl | rfl | rfl
    · exact Rep.one h0 (by simp)
    · exact Rep.one h1 (by simp)
    · exact Rep.one h2 (by simp)
    · exact Rep.one h3 (by simp)
    · exact Rep.one h4 (by simp)
    · exact Rep.one h5 (by simp)
    · exact Rep.one h6 (by simp)
theorem Field.cells_of {w : World} {F : Nat → Prop} {cs : List Value} {x : Field} (h : rep w F cs x) : ∃ A2 n2 c2, cs = [.string x.name, .int .i64 x.kind, .slice A2 n2 c2, .int .i64 x.scale, .int .i64 x.dims, .bool x.many, .bool x.stored] ∧ RepList w F A2 n2 c2 x.chain ∧ In64 x.kind ∧ In64 x.scale ∧ In64 x.dims ∧ x.name.size ≤ 9223372036854775807 := by
  obtain ⟨v0, v1, v2, v3, v4, v5, v6, rfl, ⟨e0, p0⟩, ⟨e1, p1⟩, ⟨A2, n2, c2, e2, p2⟩, ⟨e3, p3⟩, ⟨e4, p4⟩, e5, e6⟩ := h
  cases e0; cases e1; cases e2; cases e3; cases e4; cases e5; cases e6
  exact ⟨A2, n2, c2, rfl, p2, p1, p3, p4, p0⟩
theorem Field.of_cells {w : World} {F : Nat → Prop} {x : Field} {A2 : Option Addr} {n2 c2 : Nat} (h0 : RepList w F A2 n2 c2 x.chain) (h1 : In64 x.kind) (h2 : In64 x.scale) (h3 : In64 x.dims) (h4 : x.name.size ≤ 9223372036854775807) : rep w F [.string x.name, .int .i64 x.kind, .slice A2 n2 c2, .int .i64 x.scale, .int .i64 x.dims, .bool x.many, .bool x.stored] x :=
  ⟨_, _, _, _, _, _, _, rfl, ⟨rfl, h4⟩, ⟨rfl, h1⟩, ⟨_, _, _, rfl, h0⟩, ⟨rfl, h2⟩, ⟨rfl, h3⟩, rfl, rfl⟩
theorem Field.at_ {w : World} {F : Nat → Prop} {b off k : Nat} {x : Field} (h : ElemAt w F b off k x) : ∃ A2 n2 c2, w.cell? ⟨b, off + k * 7, none⟩ = some (.string x.name) ∧ w.cell? ⟨b, off + k * 7 + 1, none⟩ = some (.int .i64 x.kind) ∧ w.cell? ⟨b, off + k * 7 + 2, none⟩ = some (.slice A2 n2 c2) ∧ w.cell? ⟨b, off + k * 7 + 3, none⟩ = some (.int .i64 x.scale) ∧ w.cell? ⟨b, off + k * 7 + 4, none⟩ = some (.int .i64 x.dims) ∧ w.cell? ⟨b, off + k * 7 + 5, none⟩ = some (.bool x.many) ∧ w.cell? ⟨b, off + k * 7 + 6, none⟩ = some (.bool x.stored) ∧ RepList w F A2 n2 c2 x.chain ∧ In64 x.kind ∧ In64 x.scale ∧ In64 x.dims ∧ x.name.size ≤ 9223372036854775807 := by
  obtain ⟨cs, h, hc⟩ := h
  obtain ⟨A2, n2, c2, rfl, p2, p1, p3, p4, p0⟩ := Field.cells_of h
  exact ⟨A2, n2, c2, hc 0 _ rfl, hc 1 _ rfl, hc 2 _ rfl, hc 3 _ rfl, hc 4 _ rfl, hc 5 _ rfl, hc 6 _ rfl, p2, p1, p3, p4, p0⟩

/-- A lent entry, as the entry that it is. -/
def LEntry.plain (e : LEntry) : Entry := ⟨e.field, e.text, e.numbers.val⟩
def lentEntry (e : Entry) : LEntry := ⟨e.field, e.text, ⟨e.numbers⟩⟩
theorem LEntry.rep_plain {w : World} {F : Nat → Prop} {cs : List Value} {e : LEntry} (h : rep w F cs e) : rep w F cs e.plain := by
  obtain ⟨A2, n2, c2, rfl, ⟨p2, _⟩, p0, p1⟩ := LEntry.cells_of h
  exact Entry.of_cells (x := e.plain) p2 p0 p1
theorem LEntry.list_plain {w : World} {F : Nat → Prop} {A : Option Addr} {n c : Nat} {es : List Entry} (h : RepList w F A n c (es.map lentEntry)) : RepList w F A n c es := by
  obtain ⟨h1, h2, h3, h4⟩ := h
  refine ⟨by simpa using h1, h2, h3, fun k x hx => ?_⟩
  obtain ⟨b, off, e, hb, cs, hcs, hc⟩ := h4 k (lentEntry x) (by simp [hx])
  exact ⟨b, off, e, hb, cs, LEntry.rep_plain hcs, hc⟩

end Go.Proofs.YtajgoffeahfmfaaDoor

/- What comes in, opened to plain data: numbers, texts, lists, structs, with what memory bounds. -/
namespace Go.Proofs.YtajgoffeahfmfaaDoor
open Rep (rep)
open Go.RowKit Go.ChangeShapes Go.WideShapes Go.Deep

/-- Whatever is read at type t is plain data of type α, and of it holds Q (what memory bounds). -/
def Opens (P : Program) (t : TypeId) (α : Type) [Rep α] (Q : α → Prop) : Prop :=
  ∀ {H : Type} {enc : TypeId × Value → H} {w : World} {base : Nat} {spare : Nat → Bool} {held : Bool} {fuel : Nat} {cs : List Value} {x : DataW H × List MemPlace},
    DataW.trod enc P w base spare held fuel t cs = some x → (∀ k ∈ x.1.weights P t, k ≤ reachBytes) → ∃ v : α, rep w (· < w.heap.size) cs v ∧ Q v
variable {P : Program}
theorem opens_int {t : TypeId} (ht : P.underlying t = some (.int .i64)) : Opens P t Int (fun _ => True) := by
  intro _ _ _ _ _ _ _ _ _ h _
  obtain ⟨n, rfl, _, hw⟩ := DataW.trod_int ht h
  have := bounds_i64 hw
  exact ⟨n, ⟨rfl, by unfold In64; omega⟩, trivial⟩
theorem opens_bool {t : TypeId} (ht : P.underlying t = some .bool) : Opens P t Bool (fun _ => True) := by
  intro _ _ _ _ _ _ _ _ _ h _
  obtain ⟨b, rfl, _⟩ := DataW.trod_bool ht h
  exact ⟨b, rfl, trivial⟩
theorem opens_str {t : TypeId} (ht : P.underlying t = some .string) : Opens P t ByteArray (fun _ => True) := by
  intro _ _ _ _ _ _ _ _ _ h _
  obtain ⟨s, rfl, _, hs⟩ := DataW.trod_string ht h
  exact ⟨s, ⟨rfl, hs⟩, trivial⟩
theorem mem_weightsAll {H : Type} {e : TypeId} : ∀ {ds : List (DataW H)} {d : DataW H} {k : Nat}, d ∈ ds → k ∈ d.weights P e → k ∈ DataW.weightsAll P e ds
  | a :: r, d, k, hd, hk => by
    unfold DataW.weightsAll
    rw [List.mem_append]
    rcases List.mem_cons.1 hd with rfl | h
    · exact .inl hk
    · exact .inr (mem_weightsAll h hk)
theorem opens_list {α : Type} [Rep α] {Q : α → Prop} {t e : TypeId} (ht : P.underlying t = some (.slice e)) (hC : P.cellsOf e = Rep.size α) (ho : Opens P e α Q) :
    Opens P t (List α) (fun xs => xs.length * P.bytesOf e ≤ reachBytes ∧ ∀ x ∈ xs, Q x) := by
  intro H enc w base spare held fuel cs x h hw
  rcases open_slice ht h with ⟨rfl, _⟩ | ⟨a, len, cap, m, n, D, Pl, rfl, hb, hl, hm, hmm, rfl, hi⟩
  · exact ⟨[], ⟨none, 0, 0, rfl, RepList.nil⟩, by simp, by simp⟩
  · have hlm : len ≤ m := by rw [hmm]; split <;> omega
    have hwt : ∀ k, k = ((List.range len).map D).length * P.bytesOf e + ((List.range (m - len)).map fun j => D (len + j)).length * P.bytesOf e → k ≤ reachBytes := by
      intro k hk
      refine hw k ?_
      unfold DataW.weights
      rw [ht]
      refine List.mem_cons.2 (.inl ?_)
      rw [hk, Nat.add_mul]
    have hel : ∀ i, i < len → ∃ v : α, ∃ cs', w.cells? base (a.add (i * P.cellsOf e)) (P.cellsOf e) = some cs' ∧ rep w (· < w.heap.size) cs' v ∧ Q v := by
      intro i hil
      obtain ⟨cs', hc, ht'⟩ := hi i (by omega)
      have hmem : ∀ k ∈ (D i).weights P e, k ∈ (DataW.slice ((List.range len).map D) ((List.range (m - len)).map fun j => D (len + j))).weights P t := by
        intro k hk
        unfold DataW.weights
        rw [ht]
        exact List.mem_cons.2 (.inr (List.mem_append.2 (.inl (mem_weightsAll (List.mem_map.2 ⟨i, by simpa using hil, rfl⟩) hk))))
      obtain ⟨v, hv, hq⟩ := ho ht' (fun k hk => hw k (hmem k hk))
      exact ⟨v, cs', hc, hv, hq⟩
    have hfun : ∀ i : Fin len, ∃ v : α, ∃ cs', w.cells? base (a.add (i.1 * P.cellsOf e)) (P.cellsOf e) = some cs' ∧ rep w (· < w.heap.size) cs' v ∧ Q v := fun i => hel i.1 i.2
    refine ⟨List.ofFn fun i => Classical.choose (hfun i), ⟨some a, len, cap, rfl, by simp, hl, hm, ?_⟩, ?_, ?_⟩
    · intro k x hx
      have hk : k < len := by have := lt_of_get? hx; simpa using this
      rw [List.getElem?_eq_getElem (by simpa using hk), List.getElem_ofFn] at hx
      cases hx
      obtain ⟨cs', hc, hv, _⟩ := Classical.choose_spec (hfun ⟨k, hk⟩)
      obtain ⟨_, hcl, hat⟩ := World.cells?_some hc
      rw [hC] at hcl hat
      have hpos : 0 < Rep.size α := Rep.pos
      have h0 := hat 0 hpos
      obtain ⟨u, hu⟩ : ∃ u, cs'[0]? = some u := ⟨_, List.getElem?_eq_getElem (by omega)⟩
      rw [hu] at h0
      obtain ⟨_, cs0, hc0, _⟩ := hel 0 (by omega)
      obtain ⟨_, hcl0, hat0⟩ := World.cells?_some hc0
      rw [hC] at hcl0 hat0
      have h00 := hat0 0 hpos
      obtain ⟨u0, hu0⟩ : ∃ u, cs0[0]? = some u := ⟨_, List.getElem?_eq_getElem (by omega)⟩
      rw [hu0] at h00
      obtain ⟨b, off, spot⟩ := a
      have hspot : spot = none := by
        have hs1 := World.cell?_spot h00
        simpa [Addr.add] using hs1
      subst hspot
      have hadd : ∀ i j : Nat, ((⟨b, off, none⟩ : Addr).add i).add j = ⟨b, off + i + j, none⟩ := by
        intro i j; unfold Addr.add; split <;> split <;> simp_all
      have hblk : b < w.heap.size := by
        have := cell_lt h0
        rw [hadd] at this
        exact this
      refine ⟨b, off, rfl, hblk, cs', hv, fun j u hu => ?_⟩
      have hj : j < Rep.size α := by have := lt_of_get? hu; omega
      have := hat j hj
      rw [hadd, hu] at this
      exact this
    · have := hwt _ rfl
      simp at this ⊢
      exact Nat.le_trans (Nat.le_add_right _ _) this
    · intro x hx
      obtain ⟨k, hk⟩ := List.getElem?_of_mem hx
      have hkl : k < len := by have := lt_of_get? hk; simpa using this
      rw [List.getElem?_eq_getElem (by simpa using hkl), List.getElem_ofFn] at hk
      cases hk
      exact (Classical.choose_spec (hfun ⟨k, hkl⟩)).choose_spec.2.2

/-- A struct's parts, each at its own type. -/
theorem open_parts {H : Type} {enc : TypeId × Value → H} {w : World} {base : Nat} {spare : Nat → Bool} {held : Bool} {t : TypeId} {fs : Array _root_.Go.Field} {fuel : Nat} {cs : List Value} {x : DataW H × List MemPlace} (ht : P.underlying t = some (.struct fs)) (h : DataW.trod enc P w base spare held fuel t cs = some x) (hw : ∀ k ∈ x.1.weights P t, k ≤ reachBytes) :
    cs.length = P.cellsOf t ∧ ∀ (i : Nat) (f : _root_.Go.Field), fs[i]? = some f → ∃ n y, DataW.trod enc P w base spare held n f.type ((cs.drop f.offset).take (P.cellsOf f.type)) = some y ∧ ∀ k ∈ y.1.weights P f.type, k ≤ reachBytes := by
  obtain ⟨xs, n, _, rfl, hl, hlen, hf⟩ := DataW.trod_struct ht h
  refine ⟨hl, fun i f hi => ?_⟩
  have hil : i < xs.length := by rw [hlen]; exact (Array.getElem?_eq_some_iff.1 hi).1
  have h1 := hf i f hi
  rw [List.getElem?_eq_getElem hil] at h1
  refine ⟨n, _, h1, fun k hk => hw k ?_⟩
  unfold DataW.weights
  rw [ht]
  exact DataW.weights_mem_each (j := i) (t := f.type) (d := (xs[i]).1) (by rw [List.getElem?_map]; rw [← Array.getElem?_toList] at hi; rw [hi]; rfl) (by rw [List.getElem?_map, List.getElem?_eq_getElem hil]; rfl) k hk

end Go.Proofs.YtajgoffeahfmfaaDoor

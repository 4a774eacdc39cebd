/- The program's structs as plain data. -/
import Derived.Test.YtnngapfbeappcaaLaws
namespace Go.Proofs.Ytnngapfbeappcaa
open Rep (rep)
open Go.RowKit

structure Entry where
  field : ByteArray
  text : ByteArray
  numbers : List Int
  deriving DecidableEq
instance : Rep Entry where
  size := 3
  pos := by decide
  rep w F cs x := ∃ v0 v1 v2, cs = [v0, v1, v2] ∧ rep w F [v0] x.field ∧ rep w F [v1] x.text ∧ rep w F [v2] x.numbers
  len := by rintro _ _ _ _ ⟨_, _, _, rfl, _⟩; rfl
  keep := by
    rintro _ _ _ _ _ _ ⟨v0, v1, v2, rfl, h0, h1, h2⟩ hc hF
    exact ⟨v0, v1, v2, rfl, Rep.keep h0 hc hF, Rep.keep h1 hc hF, Rep.keep h2 hc hF⟩
  one := by
    rintro _ _ _ _ u ⟨v0, v1, v2, rfl, h0, h1, h2⟩ hu
    simp only [List.mem_cons, List.not_mem_nil, or_false] at hu
    rcases hu with rfl | rfl | rfl
    · exact Rep.one h0 (by simp)
    · exact Rep.one h1 (by simp)
    · exact Rep.one h2 (by simp)
theorem Entry.cells_of {w : World} {F : Nat → Prop} {cs : List Value} {x : Entry} (h : rep w F cs x) : ∃ A2 n2 c2, cs = [.string x.field, .string x.text, .slice A2 n2 c2] ∧ RepList w F A2 n2 c2 x.numbers ∧ x.field.size ≤ 9223372036854775807 ∧ x.text.size ≤ 9223372036854775807 := by
  obtain ⟨v0, v1, v2, rfl, ⟨e0, p0⟩, ⟨e1, p1⟩, ⟨A2, n2, c2, e2, p2⟩⟩ := h
  cases e0; cases e1; cases e2
  exact ⟨A2, n2, c2, rfl, p2, p0, p1⟩
theorem Entry.of_cells {w : World} {F : Nat → Prop} {x : Entry} {A2 : Option Addr} {n2 c2 : Nat} (h0 : RepList w F A2 n2 c2 x.numbers) (h1 : x.field.size ≤ 9223372036854775807) (h2 : x.text.size ≤ 9223372036854775807) : rep w F [.string x.field, .string x.text, .slice A2 n2 c2] x :=
  ⟨_, _, _, rfl, ⟨rfl, h1⟩, ⟨rfl, h2⟩, ⟨_, _, _, rfl, h0⟩⟩
theorem Entry.at_ {w : World} {F : Nat → Prop} {b off k : Nat} {x : Entry} (h : ElemAt w F b off k x) : ∃ A2 n2 c2, w.cell? ⟨b, off + k * 3, none⟩ = some (.string x.field) ∧ w.cell? ⟨b, off + k * 3 + 1, none⟩ = some (.string x.text) ∧ w.cell? ⟨b, off + k * 3 + 2, none⟩ = some (.slice A2 n2 c2) ∧ RepList w F A2 n2 c2 x.numbers ∧ x.field.size ≤ 9223372036854775807 ∧ x.text.size ≤ 9223372036854775807 := by
  obtain ⟨cs, h, hc⟩ := h
  obtain ⟨A2, n2, c2, rfl, p2, p0, p1⟩ := Entry.cells_of h
  exact ⟨A2, n2, c2, hc 0 _ rfl, hc 1 _ rfl, hc 2 _ rfl, p2, p0, p1⟩

structure LEntry where
  field : ByteArray
  text : ByteArray
  numbers : LInts
instance : Rep LEntry where
  size := 3
  pos := by decide
  rep w F cs x := ∃ v0 v1 v2, cs = [v0, v1, v2] ∧ rep w F [v0] x.field ∧ rep w F [v1] x.text ∧ rep w F [v2] x.numbers
  len := by rintro _ _ _ _ ⟨_, _, _, rfl, _⟩; rfl
  keep := by
    rintro _ _ _ _ _ _ ⟨v0, v1, v2, rfl, h0, h1, h2⟩ hc hF
    exact ⟨v0, v1, v2, rfl, Rep.keep h0 hc hF, Rep.keep h1 hc hF, Rep.keep h2 hc hF⟩
  one := by
    rintro _ _ _ _ u ⟨v0, v1, v2, rfl, h0, h1, h2⟩ hu
    simp only [List.mem_cons, List.not_mem_nil, or_false] at hu
    rcases hu with rfl | rfl | rfl
    · exact Rep.one h0 (by simp)
    · exact Rep.one h1 (by simp)
    · exact Rep.one h2 (by simp)
theorem LEntry.cells_of {w : World} {F : Nat → Prop} {cs : List Value} {x : LEntry} (h : rep w F cs x) : ∃ A2 n2 c2, cs = [.string x.field, .string x.text, .slice A2 n2 c2] ∧ (RepList w F A2 n2 c2 x.numbers.val ∧ MarkAt w F 1 A2 n2 c2 (.int .i64 (-7171))) ∧ x.field.size ≤ 9223372036854775807 ∧ x.text.size ≤ 9223372036854775807 := by
  obtain ⟨v0, v1, v2, rfl, ⟨e0, p0⟩, ⟨e1, p1⟩, ⟨A2, n2, c2, e2, p2⟩⟩ := h
  cases e0; cases e1; cases e2
  exact ⟨A2, n2, c2, rfl, p2, p0, p1⟩
theorem LEntry.of_cells {w : World} {F : Nat → Prop} {x : LEntry} {A2 : Option Addr} {n2 c2 : Nat} (h0 : (RepList w F A2 n2 c2 x.numbers.val ∧ MarkAt w F 1 A2 n2 c2 (.int .i64 (-7171)))) (h1 : x.field.size ≤ 9223372036854775807) (h2 : x.text.size ≤ 9223372036854775807) : rep w F [.string x.field, .string x.text, .slice A2 n2 c2] x :=
  ⟨_, _, _, rfl, ⟨rfl, h1⟩, ⟨rfl, h2⟩, ⟨_, _, _, rfl, h0⟩⟩
theorem LEntry.at_ {w : World} {F : Nat → Prop} {b off k : Nat} {x : LEntry} (h : ElemAt w F b off k x) : ∃ A2 n2 c2, w.cell? ⟨b, off + k * 3, none⟩ = some (.string x.field) ∧ w.cell? ⟨b, off + k * 3 + 1, none⟩ = some (.string x.text) ∧ w.cell? ⟨b, off + k * 3 + 2, none⟩ = some (.slice A2 n2 c2) ∧ (RepList w F A2 n2 c2 x.numbers.val ∧ MarkAt w F 1 A2 n2 c2 (.int .i64 (-7171))) ∧ x.field.size ≤ 9223372036854775807 ∧ x.text.size ≤ 9223372036854775807 := by
  obtain ⟨cs, h, hc⟩ := h
  obtain ⟨A2, n2, c2, rfl, p2, p0, p1⟩ := LEntry.cells_of h
  exact ⟨A2, n2, c2, hc 0 _ rfl, hc 1 _ rfl, hc 2 _ rfl, p2, p0, p1⟩

structure Field where
  name : ByteArray
  kind : Int
  chain : List Int
  scale : Int
  dims : Int
  many : Bool
  stored : Bool
  deriving DecidableEq
instance : Rep Field where
  size := 7
  pos := by decide
  rep w F cs x := ∃ v0 v1 v2 v3 v4 v5 v6, cs = [v0, v1, v2, v3, v4, v5, v6] ∧ rep w F [v0] x.name ∧ rep w F [v1] x.kind ∧ rep w F [v2] x.chain ∧ rep w F [v3] x.scale ∧ rep w F [v4] x.dims ∧ rep w F [v5] x.many ∧ rep w F [v6] x.stored
  len := by rintro _ _ _ _ ⟨_, _, _, _, _, _, _, rfl, _⟩; rfl
  keep := by
    rintro _ _ _ _ _ _ ⟨v0, v1, v2, v3, v4, v5, v6, rfl, h0, h1, h2, h3, h4, h5, h6⟩ hc hF
    exact ⟨v0, v1, v2, v3, v4, v5, v6, rfl, Rep.keep h0 hc hF, Rep.keep h1 hc hF, Rep.keep h2 hc hF, Rep.keep h3 hc hF, Rep.keep h4 hc hF, Rep.keep h5 hc hF, Rep.keep h6 hc hF⟩
  one := by
    rintro _ _ _ _ u ⟨v0, v1, v2, v3, v4, v5, v6, rfl, h0, h1, h2, h3, h4, h5, h6⟩ hu
    simp only [List.mem_cons, List.not_mem_nil, or_false] at hu
    rcases hu with rfl | rfl | rfl | rfl | rfl | rfl | rfl
    · exact Rep.one h0 (by simp)
    · exact Rep.one h1 (by simp)
    · exact Rep.one h2 (by simp)
    · exact Rep.one h3 (by simp)
    · exact Rep.one h4 (by simp)
    · exact Rep.one h5 (by simp)
    · exact Rep.one h6 (by simp)
theorem Field.cells_of {w : World} {F : Nat → Prop} {cs : List Value} {x : Field} (h : rep w F cs x) : ∃ A2 n2 c2, cs = [.string x.name, .int .i64 x.kind, .slice A2 n2 c2, .int .i64 x.scale, .int .i64 x.dims, .bool x.many, .bool x.stored] ∧ RepList w F A2 n2 c2 x.chain ∧ In64 x.kind ∧ In64 x.scale ∧ In64 x.dims ∧ x.name.size ≤ 9223372036854775807 := by
  obtain ⟨v0, v1, v2, v3, v4, v5, v6, rfl, ⟨e0, p0⟩, ⟨e1, p1⟩, ⟨A2, n2, c2, e2, p2⟩, ⟨e3, p3⟩, ⟨e4, p4⟩, e5, e6⟩ := h
  cases e0; cases e1; cases e2; cases e3; cases e4; cases e5; cases e6
  exact ⟨A2, n2, c2, rfl, p2, p1, p3, p4, p0⟩
theorem Field.of_cells {w : World} {F : Nat → Prop} {x : Field} {A2 : Option Addr} {n2 c2 : Nat} (h0 : RepList w F A2 n2 c2 x.chain) (h1 : In64 x.kind) (h2 : In64 x.scale) (h3 : In64 x.dims) (h4 : x.name.size ≤ 9223372036854775807) : rep w F [.string x.name, .int .i64 x.kind, .slice A2 n2 c2, .int .i64 x.scale, .int .i64 x.dims, .bool x.many, .bool x.stored] x :=
  ⟨_, _, _, _, _, _, _, rfl, ⟨rfl, h4⟩, ⟨rfl, h1⟩, ⟨_, _, _, rfl, h0⟩, ⟨rfl, h2⟩, ⟨rfl, h3⟩, rfl, rfl⟩
theorem Field.at_ {w : World} {F : Nat → Prop} {b off k : Nat} {x : Field} (h : ElemAt w F b off k x) : ∃ A2 n2 c2, w.cell? ⟨b, off + k * 7, none⟩ = some (.string x.name) ∧ w.cell? ⟨b, off + k * 7 + 1, none⟩ = some (.int .i64 x.kind) ∧ w.cell? ⟨b, off + k * 7 + 2, none⟩ = some (.slice A2 n2 c2) ∧ w.cell? ⟨b, off + k * 7 + 3, none⟩ = some (.int .i64 x.scale) ∧ w.cell? ⟨b, off + k * 7 + 4, none⟩ = some (.int .i64 x.dims) ∧ w.cell? ⟨b, off + k * 7 + 5, none⟩ = some (.bool x.many) ∧ w.cell? ⟨b, off + k * 7 + 6, none⟩ = some (.bool x.stored) ∧ RepList w F A2 n2 c2 x.chain ∧ In64 x.kind ∧ In64 x.scale ∧ In64 x.dims ∧ x.name.size ≤ 9223372036854775807 := by
  obtain ⟨cs, h, hc⟩ := h
  obtain ⟨A2, n2, c2, rfl, p2, p1, p3, p4, p0⟩ := Field.cells_of h
  exact ⟨A2, n2, c2, hc 0 _ rfl, hc 1 _ rfl, hc 2 _ rfl, hc 3 _ rfl, hc 4 _ rfl, hc 5 _ rfl, hc 6 _ rfl, p2, p1, p3, p4, p0⟩

/-- A lent entry, as the entry that it is. -/
def LEntry.plain (e : LEntry) : Entry := ⟨e.field, e.text, e.numbers.val⟩
def lentEntry (e : Entry) : LEntry := ⟨e.field, e.text, ⟨e.numbers⟩⟩
theorem LEntry.rep_plain {w : World} {F : Nat → Prop} {cs : List Value} {e : LEntry} (h : rep w F cs e) : rep w F cs e.plain := by
  obtain ⟨A2, n2, c2, rfl, ⟨p2, _⟩, p0, p1⟩ := LEntry.cells_of h
  exact Entry.of_cells (x := e.plain) p2 p0 p1
theorem LEntry.list_plain {w : World} {F : Nat → Prop} {A : Option Addr} {n c : Nat} {es : List Entry} (h : RepList w F A n c (es.map lentEntry)) : RepList w F A n c es := by
  obtain ⟨h1, h2, h3, h4⟩ := h
  refine ⟨by simpa using h1, h2, h3, fun k x hx => ?_⟩
  obtain ⟨b, off, e, hb, cs, hcs, hc⟩ := h4 k (lentEntry x) (by simp [hx])
  exact ⟨b, off, e, hb, cs, LEntry.rep_plain hcs, hc⟩

end Go.Proofs.Ytnngapfbeappcaa

/- The texts Laws of IterateWords, joined by program (tools/merge.py): walks of the functions that the law reaches, and plain facts; no condition. -/
import Derived.Test.YtajgoffeahfmfaaDoorPart02
set_option linter.unusedVariables false
set_option linter.unusedSimpArgs false

/- Laws of append over what reads as plain data: one element behind a row of the call's own; numbers copied into a row of the call's own. No program stands here. -/
namespace Go.Proofs.YtajgoffeahfmfaaDoor
open Rep (rep)
open Go.RowKit

section
variable {P : Program} {w : World}

theorem rowOfBlk {B : Nat} {e : TypeId} {cs : Array Value} (h : Blk w B e cs) (m size : Nat) (hs : cs.size = m * size) : Reads w w.heap.size size (some ⟨B, 0, none⟩) m cs.toList := by
  refine ⟨by simpa using hs, fun _ => ⟨_, rfl, h.lt, fun j u hu => ?_⟩⟩
  rw [addr_head, h.cell j]
  simpa using hu

/-- append(out, y), y just laid in a block of its own. -/
theorem wpList_push {α : Type} [Rep α] {D : Nat → Prop} {ops : Array Oper} {rest : List Oper} {o : Oper} {a : Act} {Q : Exit → Act → World → Prop} (hgd : o.guard = none) (s x : Operand) (t : TypeId)
    (ho : o.op = .call { callee := .builtin .append, args := #[s, x], argTypes := #[t, t] })
    (base : Nat) (e : TypeId) (i : TypeInfo) (z : Value) (bytes : Nat) (ht : P.underlying t = some (.slice e)) (hi : P.info? e = some i) (hz : i.zero = some z)
    (hsize : i.size = Rep.size α) (hby : i.bytes = bytes) (hzs : z.cells.size = Rep.size α)
    (v : Value) (xs : List α) (hs : a.eval s = v) (hown : Own D w base e v xs)
    (B : Nat) (cs : Array Value) (y : α) (hx : a.eval x = .slice (some ⟨B, 0, none⟩) 1 1) (hblk : Blk w B e cs) (hy : rep w (Fr D w v) cs.toList y)
    (h63 : xs.length + 1 ≤ 9223372036854775807) (hbytes : (xs.length + 1) * bytes ≤ 140737488355328) (hbase : base ≤ w.heap.size)
    (h : ∀ v' w', Own D w' base e v' (xs ++ [y]) → w.grownBy w' v.ownBlock → Below base w w' → wpList P ops Q rest (a.put o.dst v') w') : wpList P ops Q (o :: rest) a w := by
  have hown0 := hown
  obtain ⟨css, hl, hr, hr2⟩ := hown
  have hsz : cs.size = 1 * Rep.size α := by have := Rep.len hy; simpa using this
  refine wpList_append_any w hgd s x t ho base e i z (Rep.size α) bytes ht hi hz hsize hby hzs Rep.pos v xs.length css.flatten hs hr2 w.heap.size (some ⟨B, 0, none⟩) 1 1 cs.toList hx (rowOfBlk hblk 1 _ hsz) (fun u hu => Rep.one hy hu) h63 hbytes hbase ?_
  intro v' w' ho' hg hat
  exact h v' w' (own_push hl hr hy ho' hg hat) hg ((Below.refl _ _).grown hg hbase (fun k hk => by
    rcases hown0.from_ with e1 | ⟨k', e1, hk'⟩
    · rw [e1] at hk; cases hk
    · rw [e1] at hk; cases hk; exact hk'))

/-- append(nil, l...), append([]int64{}, l...): the numbers in a row of the call's own. -/
theorem wpList_copyInts {ops : Array Oper} {rest : List Oper} {o : Oper} {a : Act} {Q : Exit → Act → World → Prop} (hgd : o.guard = none) (s x : Operand) (t : TypeId)
    (ho : o.op = .call { callee := .builtin .append, args := #[s, x], argTypes := #[t, t] })
    (base : Nat) (e : TypeId) (i : TypeInfo) (ht : P.underlying t = some (.slice e)) (hi : P.info? e = some i) (hz : i.zero = some (.int .i64 0))
    (hsize : i.size = 1) (hby : i.bytes = 8)
    (v : Value) (hs : a.eval s = v) (hv : w.ownsRow base e 1 v 0 [])
    (A : Option Addr) (n c : Nat) (xs : List Int) (hx : a.eval x = .slice A n c) (hr : RepList w (· < w.heap.size) A n c xs)
    (hn : n ≤ 17592186044416) (hbase : base ≤ w.heap.size)
    (h : ∀ A' c' w', w'.ownsRow base e 1 (.slice A' n c') n (ints xs) → RepList w' (fun b => base ≤ b ∧ b < w'.heap.size) A' n c' xs → w.grownBy w' v.ownBlock → Below base w w' → wpList P ops Q rest (a.put o.dst (.slice A' n c')) w') : wpList P ops Q (o :: rest) a w := by
  refine wpList_append_any w hgd s x t ho base e i (.int .i64 0) 1 8 ht hi hz hsize hby rfl (by omega) v 0 [] hs hv w.heap.size A n c (ints xs) hx hr.reads_ints (ints_one xs) (by unfold maxLen; omega) (by omega) hbase ?_
  intro v' w' ho' hg hat
  simp only [Nat.zero_add, List.nil_append] at ho'
  obtain ⟨A', c', rfl⟩ := own_slice ho'
  exact h A' c' w' ho' (own_reads ho' hr.in64) hg ((Below.refl _ _).grown hg hbase (fun k hk => by
    rcases own_from hv with e1 | ⟨k', e1, hk'⟩
    · rw [e1] at hk; cases hk
    · rw [e1] at hk; cases hk; exact hk'))
end

/-- An empty row in a block that has just been laid. -/
theorem own_empty (w : World) (e : TypeId) (size : Nat) : (w.alloc (.cells #[] e)).ownsRow w.heap.size e size (.slice (some ⟨w.heap.size, 0, none⟩) 0 0) 0 [] :=
  World.ownsRow_lit (base := w.heap.size) (e := e) (size := size) w #[] 0 (Nat.le_refl _) (by simp [maxLen]) (by simp)

/-! ### lists that are lent: a mark stands behind them -/
/-- Behind the n elements of a slice stands a mark, within its capacity. -/
def MarkAt (w : World) (F : Nat → Prop) (size : Nat) (A : Option Addr) (n c : Nat) (mark : Value) : Prop :=
  n + 1 ≤ c ∧ ∃ b off, A = some ⟨b, off, none⟩ ∧ F b ∧ w.cell? ⟨b, off + n * size, none⟩ = some mark
theorem MarkAt.keep {w w' : World} {F F' : Nat → Prop} {size : Nat} {A : Option Addr} {n c : Nat} {mark : Value} (h : MarkAt w F size A n c mark) (hc : ∀ p : Addr, F p.block → w'.cell? p = w.cell? p) (hF : ∀ b, F b → F' b) : MarkAt w' F' size A n c mark := by
  obtain ⟨h1, b, off, e, hb, hm⟩ := h
  exact ⟨h1, b, off, e, hF b hb, (hc _ hb).trans hm⟩
theorem MarkAt.on {w w' : World} {size : Nat} {A : Option Addr} {n c : Nat} {mark : Value} (h : MarkAt w (· < w.heap.size) size A n c mark) (hb : Below w.heap.size w w') : MarkAt w' (· < w'.heap.size) size A n c mark :=
  h.keep (fun _ hp => hb.cell hp) (fun b h => Nat.lt_of_lt_of_le h hb.size)

/-- Numbers that were lent. -/
structure LInts where
  val : List Int
instance : Rep LInts where
  size := 1
  pos := by decide
  rep w F cs x := ∃ A n c, cs = [.slice A n c] ∧ RepList w F A n c x.val ∧ MarkAt w F 1 A n c (.int .i64 (-7171))
  len := by rintro _ _ _ _ ⟨A, n, c, rfl, _⟩; rfl
  keep := by rintro _ _ _ _ _ _ ⟨A, n, c, rfl, h, hm⟩ hc hF; exact ⟨A, n, c, rfl, h.keep hc hF, hm.keep hc hF⟩
  one := by rintro _ _ _ _ _ ⟨A, n, c, rfl, _⟩ hu; simp at hu; subst hu; rfl

/-- A row of the call's own behind which a mark is laid: it reads as before, with the mark behind it. -/
theorem lent_of_push {α : Type} [Rep α] {D : Nat → Prop} {w w' : World} {base : Nat} {e : TypeId} {v : Value} {A' : Option Addr} {c' : Nat} {xs : List α} {css : List (List Value)} {mcs : List Value} {mark : Value}
    (hl : css.length = xs.length) (hr : ∀ (k : Nat) (cs : List Value) (x : α), css[k]? = some cs → xs[k]? = some x → rep w (Fr D w v) cs x)
    (hm : mcs[0]? = some mark) (ho' : w'.ownsRow base e (Rep.size α) (.slice A' (xs.length + 1) c') (xs.length + 1) (css.flatten ++ mcs))
    (hg : w.grownBy w' v.ownBlock) : RepList w' (fun b => (D b ∨ base ≤ b) ∧ b < w'.heap.size) A' xs.length c' xs ∧ MarkAt w' (fun b => (D b ∨ base ≤ b) ∧ b < w'.heap.size) (Rep.size α) A' xs.length c' mark := by
  have hlen := Own.lens hl hr
  have hcap := own_cap ho'
  obtain ⟨g, cap, hv, hb, hlt⟩ := ho'.form (by omega)
  injection hv with hA _ _
  subst hA
  have hfl : css.flatten.length = xs.length * Rep.size α := by rw [flat_length css hlen, hl]
  refine ⟨⟨rfl, by omega, hcap.2, fun k x hx => ?_⟩, by omega, g, 0, rfl, ⟨.inr hb, hlt⟩, ?_⟩
  · have hk := lt_of_get? hx
    refine ⟨g, 0, rfl, ⟨.inr hb, hlt⟩, css[k]'(by omega), Rep.keep (hr k _ x (List.getElem?_eq_getElem (by omega)) hx) (fun p hp => World.cell?_of_block (hg.block p.block hp.2.1 hp.2.2)) (fun b hb => ⟨.inl hb.1, Nat.lt_of_lt_of_le hb.2.1 hg.size⟩), fun j u hu => ?_⟩
    have hj : j < Rep.size α := by
      have := hlen (css[k]'(by omega)) (List.getElem_mem _)
      have := lt_of_get? hu
      omega
    have hf := flat_get css k j _ hlen (List.getElem?_eq_getElem (by omega)) hj
    have hlt2 : k * Rep.size α + j < css.flatten.length := by have := lt_of_get? (hf.trans hu); exact this
    have hc := ho'.cells (g := g) rfl (k * Rep.size α + j) u (by rw [List.getElem?_append_left hlt2, hf]; exact hu)
    rw [addr_head] at hc
    rw [Nat.zero_add]
    exact hc
  · have hc := ho'.cells (g := g) rfl (xs.length * Rep.size α) mark (by rw [List.getElem?_append_right (by omega), hfl, Nat.sub_self]; exact hm)
    rw [addr_head] at hc
    rw [Nat.zero_add]
    exact hc

section
variable {P : Program} {w : World}
/-- append(full, mark), the mark just laid in a block of its own. -/
theorem wpList_mark {α : Type} [Rep α] {D : Nat → Prop} {ops : Array Oper} {rest : List Oper} {o : Oper} {a : Act} {Q : Exit → Act → World → Prop} (hgd : o.guard = none) (s x : Operand) (t : TypeId)
    (ho : o.op = .call { callee := .builtin .append, args := #[s, x], argTypes := #[t, t] })
    (base : Nat) (e : TypeId) (i : TypeInfo) (z : Value) (bytes : Nat) (ht : P.underlying t = some (.slice e)) (hi : P.info? e = some i) (hz : i.zero = some z)
    (hsize : i.size = Rep.size α) (hby : i.bytes = bytes) (hzs : z.cells.size = Rep.size α)
    (v : Value) (xs : List α) (hs : a.eval s = v) (hown : Own D w base e v xs)
    (B : Nat) (cs : Array Value) (mark : Value) (hx : a.eval x = .slice (some ⟨B, 0, none⟩) 1 1) (hblk : Blk w B e cs) (hsz : cs.size = Rep.size α) (h1 : ∀ u ∈ cs.toList, u.oneCell' = true) (hm : cs.toList[0]? = some mark)
    (h63 : xs.length + 1 ≤ 9223372036854775807) (hbytes : (xs.length + 1) * bytes ≤ 140737488355328) (hbase : base ≤ w.heap.size)
    (h : ∀ A' c' w', RepList w' (fun b => (D b ∨ base ≤ b) ∧ b < w'.heap.size) A' xs.length c' xs → MarkAt w' (fun b => (D b ∨ base ≤ b) ∧ b < w'.heap.size) (Rep.size α) A' xs.length c' mark → Below base w w' → wpList P ops Q rest (a.put o.dst (.slice A' (xs.length + 1) c')) w') : wpList P ops Q (o :: rest) a w := by
  have hown0 := hown
  obtain ⟨css, hl, hr, hr2⟩ := hown
  refine wpList_append_any w hgd s x t ho base e i z (Rep.size α) bytes ht hi hz hsize hby hzs Rep.pos v xs.length css.flatten hs hr2 w.heap.size (some ⟨B, 0, none⟩) 1 1 cs.toList hx (rowOfBlk hblk 1 _ (by omega)) h1 h63 hbytes hbase ?_
  intro v' w' ho' hg hat
  obtain ⟨A', c', rfl⟩ := own_slice ho'
  obtain ⟨q1, q2⟩ := lent_of_push hl hr hm ho' hg
  exact h A' c' w' q1 q2 ((Below.refl _ _).grown hg hbase (fun k hk => by
    rcases hown0.from_ with e1 | ⟨k', e1, hk'⟩
    · rw [e1] at hk; cases hk
    · rw [e1] at hk; cases hk; exact hk'))
end

end Go.Proofs.YtajgoffeahfmfaaDoor

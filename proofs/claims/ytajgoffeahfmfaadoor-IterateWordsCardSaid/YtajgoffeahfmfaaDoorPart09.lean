/- The texts Fills of IterateWords, joined by program (tools/merge.py): walks of the functions that the law reaches, and plain facts; no condition. -/
import Derived.Maps.OwnIn
import Derived.Maps.AppendAt
import Derived.OwnWalkIn
import Derived.RangeFuncNested
import Derived.Test.YtajgoffeahfmfaaDoorPart08
set_option linter.unusedVariables false
set_option linter.unusedSimpArgs false

/- Rows that a loop over an iterator fills: append within a fence; rows whose elements lie nowhere else go on wherever their own block has not turned. No program stands here. -/
namespace Go.Proofs.YtajgoffeahfmfaaDoor
open Rep (rep)
open Go.RowKit

/-- append(out, y) within a fence, y just laid in a block of its own. -/
theorem wpListIn_push {α : Type} [Rep α] {F : Fence} {nF : Nat} {P : Program} {w : World} {D : Nat → Prop} {ops : Array Oper} {rest : List Oper} {o : Oper} {a : Act} {Q : Exit → Act → World → Prop} (hgd : o.guard = none) (s x : Operand) (t : TypeId)
    (ho : o.op = .call { callee := .builtin .append, args := #[s, x], argTypes := #[t, t] })
    (base : Nat) (e : TypeId) (i : TypeInfo) (z : Value) (bytes : Nat) (ht : P.underlying t = some (.slice e)) (hi : P.info? e = some i) (hz : i.zero = some z)
    (hsize : i.size = Rep.size α) (hby : i.bytes = bytes) (hzs : z.cells.size = Rep.size α)
    (v : Value) (xs : List α) (hs : a.eval s = v) (hown : Own D w base e v xs)
    (B : Nat) (cs : Array Value) (y : α) (hx : a.eval x = .slice (some ⟨B, 0, none⟩) 1 1) (hblk : Blk w B e cs) (hy : rep w (Fr D w v) cs.toList y)
    (h63 : xs.length + 1 ≤ 9223372036854775807) (hbytes : (xs.length + 1) * bytes ≤ 140737488355328) (hbase : base ≤ w.heap.size)
    (h : ∀ v' w', Own D w' base e v' (xs ++ [y]) → w.grownBy w' v.ownBlock → Below base w w' → wpListIn F nF P ops Q rest (a.put o.dst v') w') : wpListIn F nF P ops Q (o :: rest) a w := by
  have hown0 := hown
  obtain ⟨css, hl, hr, hr2⟩ := hown
  have hsz : cs.size = 1 * Rep.size α := by have := Rep.len hy; simpa using this
  refine wpListIn_append_own_at w hgd s x t ho base e i z (Rep.size α) bytes ht hi hz hsize hby hzs Rep.pos v xs.length css.flatten hs hr2 ⟨B, 0, none⟩ 1 1 cs.toList hx (by simpa using hsz) (fun j u hu => ?_) (fun u hu => Rep.one hy hu) h63 hbytes hbase ?_
  · rw [addr_head, hblk.cell j]; simpa using hu
  intro v' w' ho' hg _ hat
  exact h v' w' (own_push hl hr hy ho' hg hat) hg ((Below.refl _ _).grown hg hbase (fun k hk => by
    rcases hown0.from_ with e1 | ⟨k', e1, hk'⟩
    · rw [e1] at hk; cases hk
    · rw [e1] at hk; cases hk; exact hk'))


/-- No block at all. -/
abbrev Flat : Nat → Prop := fun _ => False
theorem own_flat {α : Type} [Rep α] {base : Nat} {e : TypeId} {W W' : World} {row : Option Nat} {v : Value} {xs : List α} (h : Own Flat W base e v xs) (hg : W.grownBy W' row) (hv : v.ownBlock = none ∨ v.ownBlock ≠ row) : Own Flat W' base e v xs := by
  obtain ⟨css, hl, hre, ho⟩ := h
  exact ⟨css, hl, fun k cs x h1 h2 => Rep.keep (hre k cs x h1 h2) (fun p hp => hp.1.elim) (fun b hb => hb.1.elim), ho.kept hg hv⟩
theorem own_push_flat {α : Type} [Rep α] {D : Nat → Prop} {w : World} {v : Value} {cs : List Value} {y : α} (h : rep w Flat cs y) : rep w (Fr D w v) cs y := Rep.more h (fun _ hb => hb.elim)
theorem own_ne_box {α : Type} [Rep α] {D : Nat → Prop} {base : Nat} {e t : TypeId} {W : World} {B : Nat} {v u : Value} {xs : List α} (h : Own D W base e v xs) (hb : Boxed W B t u) (hte : t ≠ e) : v.ownBlock = none ∨ v.ownBlock ≠ some B := by
  obtain ⟨_, _, _, ho⟩ := h
  exact .inr (fun e => hb.not_row hte ho e.symm)
/-- What is no cells is not an owned row's block. -/
theorem own_ne_other {α : Type} [Rep α] {D : Nat → Prop} {base : Nat} {e : TypeId} {W : World} {v : Value} {xs : List α} (h : Own D W base e v xs) {row : Option Nat} (hr : ∀ r, row = some r → ∃ o : Obj, W.heap[r]? = some o ∧ o.isCells = false) : v.ownBlock = none ∨ v.ownBlock ≠ row := by
  cases hob : v.ownBlock with
  | none => exact .inl rfl
  | some g =>
    refine .inr (fun e => ?_)
    obtain ⟨_, _, _, ho'⟩ := h
    obtain ⟨o, ho, hc⟩ := hr _ e.symm
    rcases ho'.2 with ⟨rfl, _⟩ | ⟨g', cap, cur, rfl, _, hgb, _⟩
    · cases hob
    · cases hob; rw [hgb] at ho; cases ho; cases hc
/-- An owned row within a box, carried from round to round: it is of the cells alone. -/
theorem boxedOwn_from {α β : Type} [Rep α] (n0 B : Nat) (t e : TypeId) (base : Nat) (f : β → List α) : OwnFrom n0 (fun (s : β) W => ∃ v, Boxed W B t v ∧ Own Flat W base e v (f s)) := by
  rintro s X Y row ⟨v, h1, h2⟩ hg hr
  refine ⟨v, h1.kept hg (fun e => ?_), own_flat h2 hg (own_ne_other h2 (fun r e => (hr r e).2))⟩
  obtain ⟨_, o, ho, hc⟩ := hr _ e.symm
  rw [show X.heap[_]? = _ from h1] at ho; cases ho; cases hc
theorem grownBy_setC (W : World) (p : Addr) (v : Value) : W.grownBy (W.setCell p v) (some p.block) :=
  ⟨rfl, rfl, rfl, by simp [World.setCell], fun k _ hk => Below.heap_setCell _ _ _ k (fun e => hk (by rw [e]))⟩
/-- An append onto an owned row within a box, and the store back. -/
theorem boxed_appended {α : Type} [Rep α] {W w1 w2 : World} {base B : Nat} {t e : TypeId} {v v' : Value} {xs ys : List α} (hb : Boxed W B t v) (ho : Own Flat W base e v xs) (hte : t ≠ e) (hg1 : W.grownBy w1 none) (hg2 : w1.grownBy w2 v.ownBlock) (ho' : Own Flat w2 base e v' ys) :
    Boxed w2 B t v ∧ Boxed (w2.setCell ⟨B, 0, none⟩ v') B t v' ∧ Own Flat (w2.setCell ⟨B, 0, none⟩ v') base e v' ys ∧ KeepsOthers W (w2.setCell ⟨B, 0, none⟩ v') := by
  have b1 := hb.kept hg1 (by simp)
  have o1 := own_flat ho hg1 (by cases v.ownBlock <;> simp)
  have hne := own_ne_box o1 b1 hte
  have b2 := b1.kept hg2 (by rcases hne with h | h; · rw [h]; simp
                             · exact fun e => h e.symm)
  refine ⟨b2, b2.set _, own_flat ho' (grownBy_setC _ _ _) (own_ne_box ho' b2 hte), ?_⟩
  refine ((KeepsOthers.of_grownBy hg1 (fun j o ej hj => by cases ej)).trans (KeepsOthers.of_grownBy hg2 (fun j o ej hj => ?_))).trans (KeepsOthers.setCell _ _ _)
  obtain ⟨_, _, _, hr⟩ := o1
  rcases hr.2 with ⟨hv, _⟩ | ⟨g, cap, cur, hv, _, hgb, _⟩
  · rw [hv] at ej; cases ej
  · rw [hv] at ej; cases ej; rw [hgb] at hj; cases hj; rfl
/-- The block for deferred calls lies as it lay behind a new block and an append onto an owned row. -/
theorem deferred_kept {α : Type} [Rep α] {D : Nat → Prop} {W w1 : World} {o : Obj} {k base : Nat} {e : TypeId} {v : Value} {xs : List α} (h : W.heap[k]? = some (.deferred (some []))) (hg : (W.alloc o).grownBy w1 v.ownBlock) (ho : Own D (W.alloc o) base e v xs) : w1.heap[k]? = some (.deferred (some [])) := by
  have hk := (Array.getElem?_eq_some_iff.1 h).1
  have h1 : (W.alloc o).heap[k]? = some (.deferred (some [])) := (Below.heap_alloc W o k hk).trans h
  refine (hg.block k (by simp; omega) (fun e => ?_)).trans h1
  obtain ⟨_, _, _, hr⟩ := ho
  rcases hr.2 with ⟨hv, _⟩ | ⟨g, cap, cur, hv, _, hgb, _⟩
  · rw [hv] at e; cases e
  · rw [hv] at e; cases e; rw [hgb] at h1; cases h1
/-- Two owned rows of two types lie in two blocks. -/
theorem own_ne_own {α β : Type} [Rep α] [Rep β] {D D' : Nat → Prop} {b1 b2 : Nat} {e1 e2 : TypeId} {W : World} {v u : Value} {xs : List α} {ys : List β} (h : Own D W b1 e1 v xs) (k : Own D' W b2 e2 u ys) (hte : e1 ≠ e2) : v.ownBlock = none ∨ v.ownBlock ≠ u.ownBlock := by
  cases hob : v.ownBlock with
  | none => exact .inl rfl
  | some g =>
    refine .inr (fun e => ?_)
    obtain ⟨_, _, _, hr⟩ := h
    obtain ⟨_, _, _, kr⟩ := k
    rcases hr.2 with ⟨rfl, _⟩ | ⟨g1, _, _, rfl, _, hgb, _⟩
    · cases hob
    · cases hob
      rcases kr.2 with ⟨rfl, _⟩ | ⟨g2, _, _, rfl, _, kgb, _⟩
      · cases e
      · cases e
        rw [hgb] at kgb
        cases kgb
        exact hte rfl
/-- append(out, y), y of plain parts that lie nowhere else, just laid in a block of its own. -/
theorem wpList_pushF {α : Type} [Rep α] {P : Program} {w : World} {ops : Array Oper} {rest : List Oper} {o : Oper} {a : Act} {Q : Exit → Act → World → Prop} (hgd : o.guard = none) (s x : Operand) (t : TypeId)
    (ho : o.op = .call { callee := .builtin .append, args := #[s, x], argTypes := #[t, t] })
    (base : Nat) (e : TypeId) (i : TypeInfo) (z : Value) (bytes : Nat) (ht : P.underlying t = some (.slice e)) (hi : P.info? e = some i) (hz : i.zero = some z)
    (hsize : i.size = Rep.size α) (hby : i.bytes = bytes) (hzs : z.cells.size = Rep.size α)
    (v : Value) (xs : List α) (hs : a.eval s = v) (hown : Own Flat w base e v xs)
    (B : Nat) (cs : Array Value) (y : α) (hx : a.eval x = .slice (some ⟨B, 0, none⟩) 1 1) (hblk : Blk w B e cs) (hy : rep w Flat cs.toList y)
    (h63 : xs.length + 1 ≤ 9223372036854775807) (hbytes : (xs.length + 1) * bytes ≤ 140737488355328) (hbase : base ≤ w.heap.size)
    (h : ∀ A' c' w', Own Flat w' base e (.slice A' (xs.length + 1) c') (xs ++ [y]) → w.grownBy w' v.ownBlock → Below base w w' → wpList P ops Q rest (a.put o.dst (.slice A' (xs.length + 1) c')) w') : wpList P ops Q (o :: rest) a w := by
  refine wpList_push hgd s x t ho base e i z bytes ht hi hz hsize hby hzs v xs hs hown B cs y hx hblk (own_push_flat hy) h63 hbytes hbase ?_
  intro v' w' ho' hg hb
  obtain ⟨A', c', rfl⟩ := ho'.form
  rw [show (xs ++ [y]).length = xs.length + 1 by simp] at ho' ⊢
  exact h A' c' w' ho' hg hb
theorem Own.drew {α : Type} [Rep α] {D : Nat → Prop} {w : World} {base : Nat} {e : TypeId} {v : Value} {xs : List α} (h : Own D w base e v xs) : Own D w.drew base e v xs := h.on ((Below.refl _ w).drew)
/-- The same in a region that draws its order. -/
theorem step_pushF {α : Type} [Rep α] {P : Program} {w : World} {ops : Array Oper} {o : Oper} {a : Act} {K : Act → World → Prop} {Q : Exit → Act → World → Prop} {E : Prop} (hgd : o.guard = none) (s x : Operand) (t : TypeId)
    (ho : o.op = .call { callee := .builtin .append, args := #[s, x], argTypes := #[t, t] })
    (base : Nat) (e : TypeId) (i : TypeInfo) (z : Value) (bytes : Nat) (ht : P.underlying t = some (.slice e)) (hi : P.info? e = some i) (hz : i.zero = some z)
    (hsize : i.size = Rep.size α) (hby : i.bytes = bytes) (hzs : z.cells.size = Rep.size α)
    (v : Value) (xs : List α) (hs : a.eval s = v) (hown : Own Flat w base e v xs)
    (B : Nat) (cs : Array Value) (y : α) (hx : a.eval x = .slice (some ⟨B, 0, none⟩) 1 1) (hblk : Blk w B e cs) (hy : rep w Flat cs.toList y)
    (h63 : xs.length + 1 ≤ 9223372036854775807) (hbytes : (xs.length + 1) * bytes ≤ 140737488355328) (hbase : base ≤ w.heap.size)
    (h : ∀ A' c' w', Own Flat w' base e (.slice A' (xs.length + 1) c') (xs ++ [y]) → w.grownBy w' v.ownBlock → Below base w w' → K (a.put o.dst (.slice A' (xs.length + 1) c')) w') :
    if Region.wanted o (yielded ops a.tmps) = true then Oper.wp P o a w K Q else E := by
  have hown0 := hown
  obtain ⟨css, hl, hr, hr2⟩ := hown
  have hyF : rep w (Fr Flat w v) cs.toList y := own_push_flat hy
  have hsz : cs.size = 1 * Rep.size α := by have := Rep.len hy; simpa using this
  refine step_append_any w hgd s x t ho base e i z (Rep.size α) bytes ht hi hz hsize hby hzs Rep.pos v xs.length css.flatten hs hr2 w.heap.size (some ⟨B, 0, none⟩) 1 1 cs.toList hx (rowOfBlk hblk 1 _ hsz) (fun u hu => Rep.one hy hu) h63 hbytes hbase ?_
  intro v' w' ho' hg hat
  have hp := own_push hl hr hyF ho' hg hat
  obtain ⟨A', c', rfl⟩ := hp.form
  rw [show (xs ++ [y]).length = xs.length + 1 by simp] at hp ⊢
  exact h A' c' w' hp hg (below_any (v' := v) (Below.refl _ _) hbase hown0.from_ hg)
/-- The same, and where the row lies behind it. -/
theorem step_pushG {α : Type} [Rep α] {P : Program} {w : World} {ops : Array Oper} {o : Oper} {a : Act} {K : Act → World → Prop} {Q : Exit → Act → World → Prop} {E : Prop} (hgd : o.guard = none) (s x : Operand) (t : TypeId)
    (ho : o.op = .call { callee := .builtin .append, args := #[s, x], argTypes := #[t, t] })
    (base : Nat) (e : TypeId) (i : TypeInfo) (z : Value) (bytes : Nat) (ht : P.underlying t = some (.slice e)) (hi : P.info? e = some i) (hz : i.zero = some z)
    (hsize : i.size = Rep.size α) (hby : i.bytes = bytes) (hzs : z.cells.size = Rep.size α)
    (v : Value) (xs : List α) (hs : a.eval s = v) (hown : Own Flat w base e v xs)
    (B : Nat) (cs : Array Value) (y : α) (hx : a.eval x = .slice (some ⟨B, 0, none⟩) 1 1) (hblk : Blk w B e cs) (hy : rep w Flat cs.toList y)
    (h63 : xs.length + 1 ≤ 9223372036854775807) (hbytes : (xs.length + 1) * bytes ≤ 140737488355328) (hbase : base ≤ w.heap.size)
    (h : ∀ A' c' w', Own Flat w' base e (.slice A' (xs.length + 1) c') (xs ++ [y]) → w.grownBy w' v.ownBlock → Below base w w' → (∀ g, (Value.slice A' (xs.length + 1) c').ownBlock = some g → v.ownBlock = some g ∨ g = w.heap.size) → K (a.put o.dst (.slice A' (xs.length + 1) c')) w') :
    if Region.wanted o (yielded ops a.tmps) = true then Oper.wp P o a w K Q else E := by
  have hown0 := hown
  obtain ⟨css, hl, hr, hr2⟩ := hown
  have hyF : rep w (Fr Flat w v) cs.toList y := own_push_flat hy
  have hsz : cs.size = 1 * Rep.size α := by have := Rep.len hy; simpa using this
  refine step_append_any w hgd s x t ho base e i z (Rep.size α) bytes ht hi hz hsize hby hzs Rep.pos v xs.length css.flatten hs hr2 w.heap.size (some ⟨B, 0, none⟩) 1 1 cs.toList hx (rowOfBlk hblk 1 _ hsz) (fun u hu => Rep.one hy hu) h63 hbytes hbase ?_
  intro v' w' ho' hg hat
  have hp := own_push hl hr hyF ho' hg hat
  obtain ⟨A', c', rfl⟩ := hp.form
  rw [show (xs ++ [y]).length = xs.length + 1 by simp] at hp ⊢
  rw [show (xs ++ [y]).length = xs.length + 1 by simp] at hat
  exact h A' c' w' hp hg (below_any (v' := v) (Below.refl _ _) hbase hown0.from_ hg) (fun g hg' => by
    rcases hat with e | e
    · exact .inl (e ▸ hg')
    · right; rw [e] at hg'; exact (Option.some.inj hg').symm)
end Go.Proofs.YtajgoffeahfmfaaDoor

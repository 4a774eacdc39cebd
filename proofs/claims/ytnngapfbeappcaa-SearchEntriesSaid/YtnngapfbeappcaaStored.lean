/- The walk of schema.Stored: a range over the iterator of schema.kept. -/
import Derived.Test.YtnngapfbeappcaaSeq
namespace Go.Proofs.Ytnngapfbeappcaa
open Rep (rep)
open Go.RowKit Go.Shelf

attribute [local go_sem] Oper.semAt_some

/-- append(out, y) within a fence, y just laid in a block of its own. -/
theorem wpListIn_push {α : Type} [Rep α] {F : Fence} {nF : Nat} {P : Program} {w : World} {D : Nat → Prop} {ops : Array Oper} {rest : List Oper} {o : Oper} {a : Act} {Q : Exit → Act → World → Prop} (hgd : o.guard = none) (s x : Operand) (t : TypeId)
    (ho : o.op = .call { callee := .builtin .append, args := #[s, x], argTypes := #[t, t] })
    (base : Nat) (e : TypeId) (i : TypeInfo) (z : Value) (bytes : Nat) (ht : P.underlying t = some (.slice e)) (hi : P.info? e = some i) (hz : i.zero = some z)
    (hsize : i.size = Rep.size α) (hby : i.bytes = bytes) (hzs : z.cells.size = Rep.size α)
    (v : Value) (xs : List α) (hs : a.eval s = v) (hown : Own D w base e v xs)
    (B : Nat) (cs : Array Value) (y : α) (hx : a.eval x = .slice (some ⟨B, 0, none⟩) 1 1) (hblk : Blk w B e cs) (hy : rep w (Fr D w v) cs.toList y)
    (h63 : xs.length + 1 ≤ 9223372036854775807) (hbytes : (xs.length + 1) * bytes ≤ 140737488355328) (hbase : base ≤ w.heap.size)
    (h : ∀ v' w', Own D w' base e v' (xs ++ [y]) → w.grownBy w' v.ownBlock → Below base w w' → wpListIn F nF P ops Q rest (a.put o.dst v') w') : wpListIn F nF P ops Q (o :: rest) a w := by
  have hown0 := hown
  obtain ⟨css, hl, hr, hr2⟩ := hown
  have hsz : cs.size = 1 * Rep.size α := by have := Rep.len hy; simpa using this
  refine wpListIn_append_own_at w hgd s x t ho base e i z (Rep.size α) bytes ht hi hz hsize hby hzs Rep.pos v xs.length css.flatten hs hr2 ⟨B, 0, none⟩ 1 1 cs.toList hx (by simpa using hsz) (fun j u hu => ?_) (fun u hu => Rep.one hy hu) h63 hbytes hbase ?_
  · rw [addr_head, hblk.cell j]; simpa using hu
  intro v' w' ho' hg _ hat
  exact h v' w' (own_push hl hr hy ho' hg hat) hg ((Below.refl _ _).grown hg hbase (fun k hk => by
    rcases hown0.from_ with e1 | ⟨k', e1, hk'⟩
    · rw [e1] at hk; cases hk
    · rw [e1] at hk; cases hk; exact hk'))

/-- A row of structs whose numbers lie in blocks of numbers goes on where neither these nor its own block have turned. -/
theorem own_step {α : Type} [Rep α] {base0 base : Nat} {e : TypeId} {W W' : World} {row : Option Nat} {v : Value} {xs : List α} (h : Own (IntB base0 W) W base e v xs) (hg : W.grownBy W' row)
    (hr : ∀ r vs, row = some r → W.heap[r]? ≠ some (.cells vs 2 (0, 0))) (hv : v.ownBlock = none ∨ v.ownBlock ≠ row) : Own (IntB base0 W') W' base e v xs := by
  obtain ⟨css, hl, hre, ho⟩ := h
  refine ⟨css, hl, fun k cs x h1 h2 => Rep.keep (hre k cs x h1 h2) (fun p hp => ?_) (fun b hb => ⟨hb.1.grown hg hr, Nat.lt_of_lt_of_le hb.2.1 hg.size, hb.2.2⟩), ho.kept hg hv⟩
  obtain ⟨_, vs, hvs⟩ := hp.1
  exact World.cell?_of_block (hg.block p.block hp.2.1 (fun e => hr p.block vs e.symm hvs))
theorem own_not {α : Type} [Rep α] {D : Nat → Prop} {base : Nat} {e t : TypeId} {W : World} {B : Nat} {v u : Value} {xs : List α} (h : Own D W base e v xs) (hb : Boxed W B t u) (hte : t ≠ e) : v.ownBlock = none ∨ v.ownBlock ≠ some B := by
  obtain ⟨_, _, _, ho⟩ := h
  exact .inr (fun e => hb.not_row hte ho e.symm)
theorem own_type {α : Type} [Rep α] {D : Nat → Prop} {base : Nat} {e : TypeId} {W : World} {v : Value} {xs : List α} (h : Own D W base e v xs) (he : e ≠ 2) : ∀ r vs, v.ownBlock = some r → W.heap[r]? ≠ some (.cells vs 2 (0, 0)) := by
  intro r vs hr hh
  obtain ⟨_, _, _, ho⟩ := h
  rcases ho.2 with ⟨rfl, _⟩ | ⟨g, cap, cur, rfl, _, hgb, _⟩
  · cases hr
  · cases hr
    have := hgb.symm.trans hh
    simp at this
    exact he this.2

theorem grownBy_set (W : World) (p : Addr) (v : Value) : W.grownBy (W.setCell p v) (some p.block) :=
  ⟨rfl, rfl, rfl, by simp [World.setCell], fun k _ hk => Below.heap_setCell _ _ _ k (fun e => hk (by rw [e]))⟩
theorem RepList.ints_grown {base : Nat} {W W' : World} {row : Option Nat} {A : Option Addr} {n c : Nat} {xs : List Int} (h : RepList W (IntB base W) A n c xs) (hg : W.grownBy W' row) (hr : ∀ r vs, row = some r → W.heap[r]? ≠ some (.cells vs 2 (0, 0))) : RepList W' (IntB base W') A n c xs :=
  h.keep (fun p hp => by
    obtain ⟨_, vs, hvs⟩ := hp
    exact World.cell?_of_block (hg.block p.block (Array.getElem?_eq_some_iff.1 hvs).1 (fun e => hr p.block vs e.symm hvs))) (fun b hb => hb.grown hg hr)
theorem blk_not {W : World} {B r : Nat} {t : TypeId} {cs : Array Value} (h : Blk W B t cs) (ht : t ≠ 2) : ∀ (r : Nat) (vs : Array Value), some B = some r → W.heap[r]? ≠ some (.cells vs 2 (0, 0)) := by
  intro r vs e hh
  cases e
  rw [show W.heap[B]? = _ from h] at hh
  cases hh
  exact ht rfl

theorem kept_stops (w : World) (A A' : Option Addr) (n c m c' : Nat) (fs : List Field) (es : List Entry) (its : List (Item w)) (hits : its.map (·.e) = es) (hcells : ∀ k x, its[k]? = some x → ∃ b off, A' = some ⟨b, off, none⟩ ∧ b < w.heap.size ∧ ItemAt w b off k x)
    (hs : RepList w (· < w.heap.size) A n c fs) (hd : RepList w (· < w.heap.size) A' m c' es) (d : Nat) (hd1 : 1 ≤ d) (Bd Bs : Nat) (W0 : World) (hW0 : Below w.heap.size w W0)
    (hBd : Boxed W0 Bd 34 (.slice A' m c')) (hBs : Boxed W0 Bs 31 (.slice A n c)) :
    SeqStopsK Fence.wide d Try.prog 49 #[.pointer (some ⟨Bd, 0, none⟩), .pointer (some ⟨Bs, 0, none⟩)] (fun x : Item w => #[x.enc]) (KeepsBox w Bs 31) (fun ys => ys = its.filter (keptI fs)) (fun _ => True) m W0 :=
  fun l J Jx W hW hJ _ hY h0 =>
    (kept1_in w A A' n c m c' fs es its hits hcells hs hd d hd1 l Bd Bs J Jx W (hW0.trans (hW.mono hW0.size)) hJ hY (Boxed.grown hBd hW) (Boxed.grown hBs hW) h0).mono
      fun _ _ ⟨he, h⟩ => ⟨he, h.imp (fun h => h) (fun ⟨pre, h⟩ => ⟨pre, trivial, h⟩)⟩

set_option maxRecDepth 100000 in
set_option maxHeartbeats 2000000 in
theorem stored_any (A A' : Option Addr) (n c m c' : Nat) (fs : List Field) (es : List Entry) (w : World) (hs : RepList w (· < w.heap.size) A n c fs) (hd : RepList w (· < w.heap.size) A' m c' es) (hm : m ≤ 2513169434843) (hN : ∀ e ∈ es, e.numbers.length ≤ 17592186044416) :
    Calls Try.prog 33 #[.agg #[.slice A n c], .agg #[.slice A' m c']] w fun e w' => ∃ v, e = .returned v ∧ Own (w.heap.size ≤ ·) w' w.heap.size 54 v (es.filter (keptB fs)) ∧ Below w.heap.size w w' := by
  obtain ⟨i0, hi0, hz0, hz1, hz2⟩ := info_parts entry_info
  obtain ⟨its, hits, hcells⟩ := items_of hd hN
  refine (callsIn_wide (n := 6)).1 ?_
  refine callsIn_of_wp_marks Try.func33 rfl trivial ?_ rfl
  simp only [Try.ntmps33, List.size_toArray, List.length_cons, List.length_nil, Nat.reduceAdd, Nat.reduceSub, Array.replicate_succ, Array.replicate_zero, List.push_toArray, List.append_toArray, List.nil_append, List.cons_append]
  gi_wp2_with (refine ⟨trivial, ?_⟩; gi_at_call 44; refine (callsIn_wide.2 (kept_any A A' n c m c' _)).mono ?_; rintro e w2 ⟨rfl, rfl⟩)
  have bO := ((Boxed.new ((w.alloc (.cells #[.slice A n c] 31)).alloc (.cells #[.slice A' m c'] 34)) 32 (.slice none 0 0)).alloc (.cells #[.slice A n c] 31)).alloc (.cells #[.slice A' m c'] 34)
  have bS := (Boxed.new (((w.alloc (.cells #[.slice A n c] 31)).alloc (.cells #[.slice A' m c'] 34)).alloc (.cells #[.slice none 0 0] 32)) 31 (.slice A n c)).alloc (.cells #[.slice A' m c'] 34)
  have bD := Boxed.new ((((w.alloc (.cells #[.slice A n c] 31)).alloc (.cells #[.slice A' m c'] 34)).alloc (.cells #[.slice none 0 0] 32)).alloc (.cells #[.slice A n c] 31)) 34 (.slice A' m c')
  simp only [World.size_alloc] at bO bS bD
  have hB0 : Below w.heap.size w (((((w.alloc (.cells #[.slice A n c] 31)).alloc (.cells #[.slice A' m c'] 34)).alloc (.cells #[.slice none 0 0] 32)).alloc (.cells #[.slice A n c] 31)).alloc (.cells #[.slice A' m c'] 34)) :=
    (((((Below.refl _ w).alloc (Nat.le_refl _) _).alloc (by simp) _).alloc (by simp; omega) _).alloc (by simp; omega) _).alloc (by simp; omega) _
  have hsz : (((((w.alloc (.cells #[.slice A n c] 31)).alloc (.cells #[.slice A' m c'] 34)).alloc (.cells #[.slice none 0 0] 32)).alloc (.cells #[.slice A n c] 31)).alloc (.cells #[.slice A' m c'] 34)).heap.size = w.heap.size + 5 := by simp
  obtain ⟨W0, hW0⟩ : ∃ W0, (((((w.alloc (.cells #[.slice A n c] 31)).alloc (.cells #[.slice A' m c'] 34)).alloc (.cells #[.slice none 0 0] 32)).alloc (.cells #[.slice A n c] 31)).alloc (.cells #[.slice A' m c'] 34)) = W0 := ⟨_, rfl⟩
  rw [hW0] at bO bS bD hB0 hsz ⊢
  clear hW0
  refine wpIn_rangeFunc_ownH rfl (by omega) (gf := 49) (lb := #[.pointer (some ⟨w.heap.size + 1 + 1 + 1 + 1, 0, none⟩), .pointer (some ⟨w.heap.size + 1 + 1 + 1, 0, none⟩)]) rfl trivial (enters_of Try.func49 (by kernel_rfl) rfl)
    (kept_stops w A A' n c m c' fs es its hits hcells hs hd (6 - 1) (by omega) (w.heap.size + 1 + 1 + 1 + 1) (w.heap.size + 1 + 1 + 1) W0 hB0 bD bS) KeepsBox.trans (KeepsBox.putObj hB0.size) (Below.refl _ _) (fun _ => rfl)
    (fun pre W => (∃ v, Boxed W (w.heap.size + 1 + 1) 32 v ∧ Own (IntB w.heap.size W) W W0.heap.size 54 v (pre.map (·.e))) ∧ Below w.heap.size w W ∧ W0.heap.size ≤ W.heap.size)
    (fun _ _ _ => False)
    (OwnFrom.and (fun s X Y row hs hg hr => by
      obtain ⟨v, h1, h2⟩ := hs
      refine ⟨v, h1.kept hg (fun e => ?_), own_step h2 hg (fun r vs e hh => ?_) ?_⟩
      · obtain ⟨_, o, ho, hc⟩ := hr _ e.symm
        rw [show X.heap[_]? = _ from h1] at ho; cases ho; cases hc
      · obtain ⟨_, o, ho, hc⟩ := hr _ e
        rw [hh] at ho; cases ho; cases hc
      · cases hob : v.ownBlock with
        | none => exact .inl rfl
        | some g =>
          refine .inr (fun e => ?_)
          obtain ⟨_, _, _, ho'⟩ := h2
          obtain ⟨_, o, ho, hc⟩ := hr _ e.symm
          rcases ho'.2 with ⟨rfl, _⟩ | ⟨g', cap, cur, rfl, _, hgb, _⟩
          · cases hob
          · cases hob; rw [hgb] at ho; cases ho; cases hc) (OwnFrom.and (ownFrom_below (Nat.le_refl _) (by omega)) (fun _ _ _ _ hs hg _ => Nat.le_trans hs hg.size)))
    (fun _ _ _ _ _ hs _ _ => hs)
    ⟨⟨_, bO, Own.nil _ _ _ _⟩, hB0, Nat.le_refl _⟩
    (fun x a' W => ∃ Bx v, W0.heap.size ≤ Bx ∧ Blk W Bx 54 #[.string x.e.field, .string x.e.text, .slice x.A x.n x.c] ∧ Boxed W (w.heap.size + 1 + 1) 32 v ∧ (v.ownBlock = none ∨ v.ownBlock ≠ some Bx) ∧
      a' = { tmps := #[.agg #[.slice A n c], .agg #[.slice A' m c'], .pointer (some ⟨w.heap.size, 0, none⟩), .pointer (some ⟨w.heap.size + 1, 0, none⟩), .slice none 0 0, .pointer (some ⟨w.heap.size + 1 + 1, 0, none⟩), .pointer (some ⟨Bx, 0, none⟩), .agg #[.slice A n c], .agg #[.slice A' m c'], .func (.func 49) #[] #[.pointer (some ⟨w.heap.size + 1 + 1 + 1 + 1, 0, none⟩), .pointer (some ⟨w.heap.size + 1 + 1 + 1, 0, none⟩)], x.enc, undef, undef, undef, undef, undef, undef, undef, undef, undef], defers := [] })
    (fun x a' _ X Y row hs hg hr => by
      obtain ⟨Bx, v, h1, h2, h3, h4, h5⟩ := hs
      refine ⟨Bx, v, h1, ?_, h3.kept hg (fun e => ?_), h4, h5⟩
      · refine (hg.block Bx (Array.getElem?_eq_some_iff.1 h2).1 (fun e => ?_)).trans h2
        obtain ⟨_, o, ho, hc⟩ := hr _ e.symm
        rw [show X.heap[_]? = _ from h2] at ho; cases ho; cases hc
      · obtain ⟨_, o, ho, hc⟩ := hr _ e.symm
        rw [show X.heap[_]? = _ from h3] at ho; cases ho; cases hc)
    ?assign ?body ?done ?stop
  case assign =>
    rintro l pre x W K ⟨⟨v, bv, ov⟩, hB, hS⟩ hK
    simp only [Item.enc] at hK ⊢
    gi_wp2
    refine hK _ _ ((KeepsOthers.alloc _ _).from _) ⟨(Below.refl _ W).alloc hB.size _, fun _ h => h.alloc _⟩ ⟨⟨v, bv.alloc _, own_step ov (World.grownBy_alloc W _ none) (fun _ _ e => by cases e) (by cases v.ownBlock <;> simp)⟩, hB.alloc hB.size _, by simp; omega⟩ ⟨W.heap.size, v, hS, Blk.new _ _ _, bv.alloc _, ?_, rfl⟩
    cases hob : v.ownBlock with
    | none => exact .inl rfl
    | some g => exact .inr (fun e => by have := ov.block_lt hob; cases e; omega)
  case body =>
    rintro l pre x a' W hl ⟨r, hr⟩ ⟨⟨v, bv, ov⟩, hB, hS⟩ ⟨Bx, v2, hBx, kx, bv2, hne, rfl⟩ hlt
    have hv2 : v2 = v := by
      have := (show W.heap[_]? = _ from bv2).symm.trans bv
      simpa using this
    subst hv2
    obtain ⟨L, hL⟩ : ∃ L, (pre.map (·.e)).length = L := ⟨_, rfl⟩
    have hLm : L < m := by rw [← hL]; simpa using hlt
    obtain ⟨AV, cV, rfl⟩ := ov.form
    rw [hL] at bv ov bv2 hne
    have HL := Lib.hid hL
    have kx0 := kx.cell 0
    have kx1 := kx.cell 1
    have kx2 := kx.cell 2
    have hblt := kx.lt
    simp only [List.getElem?_toArray, List.getElem?_cons_zero, List.getElem?_cons_succ] at kx0 kx1 kx2
    have hxr : RepList W (· < W.heap.size) x.A x.n x.c x.e.numbers := (x.list.below hB).more (fun b h => Nat.lt_of_lt_of_le h hB.size)
    have hxn : x.n ≤ 17592186044416 := by have := x.len; have := x.list.length; omega
    have Hxr := Lib.hid hxr
    have Hov := Lib.hid ov
    have Hbv := Lib.hid bv
    have Hkx := Lib.hid kx
    have HB := Lib.hid hB
    clear hxr ov bv bv2 kx hB hits hcells hs hd hN bD bS bO hr hL
    simp only [Item.enc]
    have h1' : 1 ≤ 6 - 1 - 1 := by omega
    gi_wp2_with (first
      | (refine ⟨trivial, ?_⟩
         gi_at_call 45
         refine (CallsIn.inRound l (callsIn_wide.2 (clone_any x.A x.n x.c x.e.numbers W hxn Hxr.out))).mono ?_
         rintro e w3 ⟨A3, c3, rfl, hr3, hb3⟩
         have k3 := Hkx.out.below hb3 Hkx.out.lt
         have b0 := k3.cell 0
         have b1 := k3.cell 1
         have b2 := k3.cell 2
         have bf := k3.frozen 2
         simp only [List.getElem?_toArray, List.getElem?_cons_zero, List.getElem?_cons_succ] at b0 b1 b2
         have ov3 := own_step Hov.out (Below.grownBy hb3) (fun _ _ e => by cases e) (by cases (Value.slice AV L cV).ownBlock <;> simp)
         have bv3 := Boxed.grown Hbv.out hb3
         have hg4 := grownBy_set w3 ⟨Bx, 2, none⟩ (.slice A3 x.n c3)
         have hBxo : Bx ≠ w.heap.size + 1 + 1 := by omega
         have bv4 := bv3.kept hg4 (by simp; omega)
         have ov4 := own_step ov3 hg4 (blk_not (r := 0) k3 (by decide)) hne
         have hr4 := hr3.ints_grown hg4 (blk_not (r := 0) k3 (by decide))
         have hg5 := World.grownBy_alloc (w3.setCell ⟨Bx, 2, none⟩ (.slice A3 x.n c3)) (.cells #[.string x.e.field, .string x.e.text, .slice A3 x.n c3] 54) none
         have bv5 := bv4.kept hg5 (by simp)
         have ov5 := own_step ov4 hg5 (fun _ _ e => by cases e) (by cases (Value.slice AV L cV).ownBlock <;> simp)
         have hr5 := hr4.ints_grown hg5 (fun _ _ e => by cases e)
         have k5 := Blk.new (w3.setCell ⟨Bx, 2, none⟩ (.slice A3 x.n c3)) 54 #[.string x.e.field, .string x.e.text, .slice A3 x.n c3]
         have hs3 : W.heap.size ≤ w3.heap.size := hb3.size
         have hrep : rep ((w3.setCell ⟨Bx, 2, none⟩ (.slice A3 x.n c3)).alloc (.cells #[.string x.e.field, .string x.e.text, .slice A3 x.n c3] 54)) (Fr (IntB w.heap.size ((w3.setCell ⟨Bx, 2, none⟩ (.slice A3 x.n c3)).alloc (.cells #[.string x.e.field, .string x.e.text, .slice A3 x.n c3] 54))) ((w3.setCell ⟨Bx, 2, none⟩ (.slice A3 x.n c3)).alloc (.cells #[.string x.e.field, .string x.e.text, .slice A3 x.n c3] 54)) (.slice AV L cV)) #[.string x.e.field, .string x.e.text, .slice A3 x.n c3].toList x.e :=
           Entry.of_cells (hr5.more (fun b h => ⟨⟨by have := h.1; omega, h.2⟩, h.fresh.2, fun e => by have := Hov.out.block_lt e.symm; have := h.1; omega⟩)) x.fsz x.tsz
         have hko : KeepsOthers W ((w3.setCell ⟨Bx, 2, none⟩ (.slice A3 x.n c3)).alloc (.cells #[.string x.e.field, .string x.e.text, .slice A3 x.n c3] 54)) := ((Below.others hb3).trans (KeepsOthers.setCell _ _ _)).trans (KeepsOthers.alloc _ _)
         have hbb : Below w.heap.size W ((w3.setCell ⟨Bx, 2, none⟩ (.slice A3 x.n c3)).alloc (.cells #[.string x.e.field, .string x.e.text, .slice A3 x.n c3] 54)) := ((hb3.mono (by omega)).setCell (p := ⟨Bx, 2, none⟩) (by simp; omega) _).alloc (by simp; omega) _
         have hkb : ∀ u, Boxed W (w.heap.size + 1 + 1 + 1) 31 u → Boxed ((w3.setCell ⟨Bx, 2, none⟩ (.slice A3 x.n c3)).alloc (.cells #[.string x.e.field, .string x.e.text, .slice A3 x.n c3] 54)) (w.heap.size + 1 + 1 + 1) 31 u := fun u hu => (((Boxed.grown hu hb3).kept hg4 (by simp; omega)).alloc _)
         have bc4 := bv4.cell
         have Bv5 := Lib.hid bv5
         have Ov5 := Lib.hid ov5
         have K5 := Lib.hid k5
         have Hrep := Lib.hid hrep
         have Hko := Lib.hid hko
         have Hbb := Lib.hid hbb
         have Hkb := Lib.hid hkb
         clear hr3 hb3 k3 ov3 bv3 hg4 bv4 ov4 hr4 hg5 bv5 ov5 hr5 k5 hrep hko hbb hkb)
      | (gi_at_builtin
         refine wpListIn_push rfl (.tmp 15) (.tmp 17) _ rfl W0.heap.size 54 i0 _ 56 Try.underlying32 hi0 hz0 hz1 hz2 rfl (.slice AV L cV) (pre.map (·.e)) rfl Ov5.out w3.heap.size #[.string x.e.field, .string x.e.text, .slice A3 x.n c3] x.e rfl (by simpa using K5.out) Hrep.out (by rw [HL.out]; omega) (by rw [HL.out]; omega) (by simp; omega) ?_
         intro v5 w5 hown5 hg5 hb5
         obtain ⟨A5, c5, rfl⟩ := hown5.form
         rw [show (pre.map (·.e) ++ [x.e]).length = pre.length + 1 by simp] at hown5
         have bv6 := Bv5.out.kept hg5 (by
           obtain ⟨_, _, _, ho⟩ := Ov5.out
           exact Bv5.out.not_row (by decide) ho)
         have c6 := bv6.cell
         have f6 := bv6.frozen
         have Bv6 := Lib.hid bv6
         have Hown5 := Lib.hid hown5
         have Hg5 := Lib.hid hg5
         have Hb5 := Lib.hid hb5
         clear bv6 hown5 hg5 hb5))
    have hg6 := grownBy_set w5 ⟨w.heap.size + 1 + 1, 0, none⟩ (.slice A5 (pre.length + 1) c5)
    have hnr : ∀ r vs, some (w.heap.size + 1 + 1) = some r → w5.heap[r]? ≠ some (.cells vs 2 (0, 0)) := blk_not (r := 0) (show Blk w5 (w.heap.size + 1 + 1) 32 #[.slice AV L cV] from Bv6.out) (by decide)
    have hw5 := Hown5.out.wide (D' := IntB w.heap.size w5) (fun b h => h.grown Hg5.out (own_type Ov5.out (by decide)))
    have hgk : ∀ k, (Value.slice AV L cV).ownBlock = some k → W0.heap.size ≤ k := fun k hk => by
      rcases Ov5.out.from_ with h | ⟨k', h, hk'⟩
      · rw [h] at hk; cases hk
      · rw [h] at hk; cases hk; exact hk'
    refine ⟨?_, ⟨?_, ?_⟩, ⟨_, Bv6.out.set _, ?_⟩, ?_, ?_⟩
    · refine ((Hko.out.trans (KeepsOthers.of_grownBy Hg5.out fun j o ej hj => ?_)).trans (KeepsOthers.setCell _ _ _)).from _
      obtain ⟨_, _, _, ho⟩ := Ov5.out
      rcases ho.2 with ⟨hv, _⟩ | ⟨g, cap, cur, hv, _, hgb, _⟩
      · rw [hv] at ej; cases ej
      · rw [hv] at ej; cases ej; rw [hgb] at hj; cases hj; rfl
    · exact (Hbb.out.trans (Hb5.out.mono (by omega))).setCell (p := ⟨w.heap.size + 1 + 1, 0, none⟩) (by simp; omega) _
    · intro u hu
      have h5 := Hkb.out u hu
      refine ((h5.kept Hg5.out ?_).kept hg6 (by simp))
      obtain ⟨_, _, _, ho⟩ := Ov5.out
      exact h5.not_row (by decide) ho
    · rw [List.map_append]
      exact own_step hw5 hg6 hnr (own_not hw5 Bv6.out (by decide))
    · exact (HB.out.trans (Hbb.out.trans (Hb5.out.mono (by omega)))).setCell (p := ⟨w.heap.size + 1 + 1, 0, none⟩) (by simp; omega) _
    · have h1 := Hb5.out.size
      simp [World.setCell] at h1 ⊢
      omega
  case done =>
    rintro D ys W hD rfl ⟨⟨v, hv, ho⟩, hB, hS⟩ hK
    have hc := hv.cell
    obtain ⟨AV, cV, rfl⟩ := ho.form
    rw [List.length_map] at hv hc ho
    have hfin : (its.filter (keptI fs)).map (·.e) = es.filter (keptB fs) := by rw [← hits, List.filter_map]; rfl
    have Hfin := Lib.hid hfin
    have Ho := Lib.hid ho
    clear hfin ho
    gi_wp2
    refine ⟨by simp, .inl ⟨_, _, rfl, run_takeDeferred hK, ?_⟩⟩
    refine ⟨_, results_tmp rfl _ _ _, _, rfl, ?_, hB.trans (belowK_b (w := w) (Nat.le_refl _) W D _ _ (by omega) hK rfl rfl)⟩
    rw [← Hfin.out]
    have h2 := own_step Ho.out (grownBy_putObj' W D (.deferred none)) (fun r vs e hh => by cases e; rw [hh] at hK; cases hK) (by
      cases hob : (Value.slice AV (its.filter (keptI fs)).length cV).ownBlock with
      | none => exact .inl rfl
      | some g =>
        refine .inr (fun e => ?_)
        cases e
        obtain ⟨_, _, _, ho'⟩ := Ho.out
        rcases ho'.2 with ⟨hv', _⟩ | ⟨g', cap, cur, hv', _, hgb, _⟩
        · rw [hv'] at hob; cases hob
        · rw [hv'] at hob; cases hob; rw [hgb] at hK; cases hK)
    exact (h2.mono hB0.size).wide (fun b h => h.1)
  case stop =>
    rintro D c pre W _ _ h _
    exact h.elim
end Go.Proofs.Ytnngapfbeappcaa

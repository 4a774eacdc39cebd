/- The walks of slices.IndexFunc and slices.DeleteFunc over entries, whatever the test. -/
import Derived.Test.YtnngapfbeappcaaIdx
import Derived.Test.YtnngapfbeappcaaRStored
import Derived.Lib.SliceRun
namespace Go.Proofs.Ytnngapfbeappcaa
open Rep (rep)
open Go.RowKit

set_option maxHeartbeats 1000000 in
theorem indexFunc_entry (A : Option Addr) (n c : Nat) (fs : List Entry) (k : FuncId) (cv : Value) (p : Entry → Bool) (w : World) (base : Nat) (hbase : base ≤ w.heap.size) (hs : RepList w (· < w.heap.size) A n c fs)
    (hent : ∀ (args : Array Value) (W : World), (callFunc k args).run Try.prog W = .ok (.enter k args) W)
    (hp : ∀ W cs x, Below base w W → rep W (· < W.heap.size) cs x → Calls Try.prog k #[.agg cs.toArray, cv] W fun e W' => e = .returned (.bool (p x)) ∧ Below W.heap.size W W') :
    Calls Try.prog 43 #[.slice A n c, .func (.func k) #[] #[cv]] w fun e w' => e = .returned (.int .i64 (match fs.findIdx? p with | some k => k | none => -1)) ∧ Below w.heap.size w w' := by
  have hcap := hs.cap
  have hlen := Lib.hid hs.length
  have Hp := Lib.hid hp
  clear hp
  obtain ⟨r, hr⟩ : ∃ r : Int, (match fs.findIdx? p with | some k => (k : Int) | none => -1) = r := ⟨_, rfl⟩
  rw [hr]
  have Hr := Lib.hid hr
  clear hr
  go_enter Try.func43, Try.ntmps43
  go_wp2
  go_loopw [8] (fun i wr => ∃ k : Nat, k ≤ n ∧ i = .int .i64 k ∧ (∀ j f, j < k → fs[j]? = some f → p f = false) ∧ Below w.heap.size w wr) (fun i _ => n - (intOf i).toNat)
  case atStart => exact ⟨0, Nat.zero_le _, rfl, fun j f h => by omega, Below.refl _ _⟩
  case round =>
    obtain ⟨j, hj, rfl, hno, hb⟩ := hrel
    have Hno := Lib.hid hno
    clear hno
    by_cases hlt : j < n
    · obtain ⟨bb, off, f, rfl, Hf, hbk, he⟩ := (hs.on hb).at_ hlt
      obtain ⟨A2, n2, c2, g0, g1, g2, q1, q2, q3⟩ := Entry.at_ he
      have Hcs : Hid (rep wr (· < wr.heap.size) [.string f.field, .string f.text, .slice A2 n2 c2] f) := Entry.of_cells q1 q2 q3
      clear hs he q1 q2 q3
      have ha := Hp.out wr _ f (hb.mono hbase) Hcs.out
      have Ha := Lib.hid ha
      clear ha
      go_wp2_with fail
      refine Ha.out.mono ?_
      rintro e w1 ⟨rfl, hb1⟩
      have hb2 := hb.trans (hb1.mono hb.size)
      by_cases hpf : p f = true
      · have Hfin : Hid (r = j) := by
          show _ = _
          rw [← Hr.out, idx_some Hf.out hpf Hno.out]
        clear hb
        go_wp2
        go_ret
        exact ⟨ret_num Hfin.out.symm, hb2⟩
      · have hpf' : p f = false := by simpa using hpf
        have Hn : Hid (∀ j' f, j' < j + 1 → fs[j']? = some f → p f = false) := idx_more Hf.out hpf' Hno.out
        clear hb hpf
        go_wp2
        go_roundw
        case rel => exact ⟨j + 1, by omega, by go_num, Hn.out, hb2⟩
        case measure => simp [intOf]; omega
    · obtain rfl : j = n := by omega
      have Hfin : Hid (r = -1) := by
        show _ = _
        rw [← Hr.out, idx_none (fun j' f hj' => Hno.out j' f (by have := hlen.out; omega))]
      clear hs
      go_wp2
      go_ret
      exact ⟨ret_num Hfin.out.symm, hb⟩

/-! ### a row of entries in a block, which is written in place -/
/-- Block g holds the entries xs, one behind the other; their deep parts lie within F. -/
def RowE (w : World) (F : Nat → Prop) (g : Nat) (xs : List Entry) : Prop :=
  (∀ q, w.frozen? ⟨g, q, none⟩ = false) ∧ ∀ k x, xs[k]? = some x → ∃ cs, rep w F cs x ∧ ∀ j u, cs[j]? = some u → w.cell? ⟨g, k * 3 + j, none⟩ = some u
section
variable {w w' : World} {F : Nat → Prop} {g : Nat} {xs : List Entry}
theorem RowE.at_ {k : Nat} {x : Entry} (h : RowE w F g xs) (hx : xs[k]? = some x) : ∃ A2 n2 c2, w.cell? ⟨g, k * 3, none⟩ = some (.string x.field) ∧ w.cell? ⟨g, k * 3 + 1, none⟩ = some (.string x.text) ∧ w.cell? ⟨g, k * 3 + 2, none⟩ = some (.slice A2 n2 c2) ∧ RepList w F A2 n2 c2 x.numbers ∧ x.field.size ≤ 9223372036854775807 ∧ x.text.size ≤ 9223372036854775807 := by
  obtain ⟨cs, hr, hc⟩ := h.2 k x hx
  obtain ⟨A2, n2, c2, rfl, p2, p0, p1⟩ := Entry.cells_of hr
  exact ⟨A2, n2, c2, hc 0 _ rfl, hc 1 _ rfl, hc 2 _ rfl, p2, p0, p1⟩
theorem RowE.grown {row : Option Nat} (h : RowE w F g xs) (hg : w.grownBy w' row) (hF : ∀ b, F b → b < w.heap.size) (hgl : g < w.heap.size) (hr : ∀ r, row = some r → ¬ F r ∧ r ≠ g) : RowE w' F g xs :=
  ⟨fun q => (World.frozen?_of_block (hg.block g hgl (fun e => (hr g e.symm).2 rfl))).trans (h.1 q), fun k x hx => by
    obtain ⟨cs, h1, h2⟩ := h.2 k x hx
    exact ⟨cs, Rep.keep h1 (fun p hp => World.cell?_of_block (hg.block p.block (hF _ hp) (fun e => (hr _ e.symm).1 hp))) (fun _ h => h),
      fun j u hu => (World.cell?_of_block (a := ⟨g, k * 3 + j, none⟩) (hg.block g hgl (fun e => (hr g e.symm).2 rfl))).trans (h2 j u hu)⟩⟩
theorem RowE.on (h : RowE w F g xs) (hb : Below w.heap.size w w') (hF : ∀ b, F b → b < w.heap.size) (hgl : g < w.heap.size) : RowE w' F g xs :=
  h.grown (row := none) ⟨hb.os, hb.tape, hb.output, hb.size, fun k hk _ => hb.block k hk⟩ hF hgl (fun _ e => by cases e)
/-- What changes nothing but the cells of block g from o on. -/
theorem RowE.cut {i : Nat} (h : RowE w F g xs) (hi : i ≤ xs.length) (hgF : ¬ F g) (hother : ∀ p : Addr, p.block ≠ g → w'.cell? p = w.cell? p) (hfz : ∀ q, w'.frozen? ⟨g, q, none⟩ = w.frozen? ⟨g, q, none⟩)
    (hlow : ∀ q, q < i * 3 → w'.cell? ⟨g, q, none⟩ = w.cell? ⟨g, q, none⟩) : RowE w' F g (xs.take i) :=
  ⟨fun q => (hfz q).trans (h.1 q), fun k x hx => by
    have hk : k < i := by have := lt_of_get? hx; simp at this; omega
    rw [List.getElem?_take_of_lt hk] at hx
    obtain ⟨cs, h1, h2⟩ := h.2 k x hx
    refine ⟨cs, Rep.keep h1 (fun p hp => hother p (fun e => hgF (by rw [← e]; exact hp))) (fun _ h => h), fun j u hu => ?_⟩
    have hj : j < 3 := by have := lt_of_get? hu; have := Rep.len h1; simp only [show Rep.size Entry = 3 from rfl] at this; omega
    rw [hlow _ (by omega)]
    exact h2 j u hu⟩
/-- One element written anew. -/
theorem RowE.set {i : Nat} {x : Entry} {cs : List Value} (h : RowE w F g xs) (hi : i < xs.length) (hgF : ¬ F g) (hx : rep w F cs x) (hother : ∀ p : Addr, p.block ≠ g → w'.cell? p = w.cell? p) (hfz : ∀ q, w'.frozen? ⟨g, q, none⟩ = w.frozen? ⟨g, q, none⟩)
    (hout : ∀ q, q < i * 3 ∨ i * 3 + 3 ≤ q → w'.cell? ⟨g, q, none⟩ = w.cell? ⟨g, q, none⟩) (hin : ∀ j u, cs[j]? = some u → w'.cell? ⟨g, i * 3 + j, none⟩ = some u) : RowE w' F g (xs.set i x) :=
  ⟨fun q => (hfz q).trans (h.1 q), fun k y hy => by
    have hkeep : ∀ {cs : List Value} {z : Entry}, rep w F cs z → rep w' F cs z := fun hz => Rep.keep hz (fun p hp => hother p (fun e => hgF (by rw [← e]; exact hp))) (fun _ h => h)
    by_cases hki : k = i
    · subst hki
      rw [List.getElem?_set_self hi] at hy
      cases hy
      exact ⟨cs, hkeep hx, hin⟩
    · rw [List.getElem?_set_ne (fun e => hki e.symm)] at hy
      obtain ⟨ds, h1, h2⟩ := h.2 k y hy
      refine ⟨ds, hkeep h1, fun j u hu => ?_⟩
      have hj : j < 3 := by have := lt_of_get? hu; have := Rep.len h1; simp only [show Rep.size Entry = 3 from rfl] at this; omega
      rw [hout _ (by omega)]
      exact h2 j u hu⟩
theorem RowE.reads {F' : Nat → Prop} {n c : Nat} (h : RowE w F g xs) (hn : xs.length = n) (hc : n ≤ c) (hm : c ≤ 9223372036854775807) (hF : ∀ b, F b → F' b) (hg : F' g) : RepList w F' (some ⟨g, 0, none⟩) n c xs :=
  RepList.of_elems hn hc hm hg (fun k x hx => by
    obtain ⟨cs, h1, h2⟩ := h.2 k x hx
    refine ⟨cs, Rep.more h1 hF, fun j u hu => ?_⟩
    rw [Nat.zero_add]
    exact h2 j u hu)
end

/-- 'clear(s)', whatever the size of an element. -/
theorem run_clear_cells {P : Program} (w : World) (t e ty : TypeId) (z : Value) (ht : P.underlying t = some (.slice e)) (hv : ∀ w, (zeroValue e).run P w = .ok z w) (b o n c : Nat) (hn : 0 < n)
    (hc : ∀ j, j < (Builtin.zeroCells z.cells n).toList.length → (w.cell? ⟨b, o + j, none⟩).isSome = true) (hf : ∀ j, w.frozen? ⟨b, o + j, none⟩ = false) (h1 : ∀ v ∈ (Builtin.zeroCells z.cells n).toList, v.oneCell' = true) :
    (Builtin.clear_ #[t] ty #[.slice (some ⟨b, o, none⟩) n c]).run P w = .ok (.tuple #[]) (w.setCells b o (Builtin.zeroCells z.cells n).toList) := by
  have hst := run_storeCells_cells (P := P) b o (Builtin.zeroCells z.cells n).toList 0 w (by simpa using hc) (by simpa using fun j _ => hf j) h1
  simp only [Nat.add_zero] at hst
  obtain ⟨m, rfl⟩ : ∃ m, n = m + 1 := ⟨n - 1, by omega⟩
  simp [Builtin.clear_, run_underlying ht, hv, hst]

theorem own_row {D : Nat → Prop} {w : World} {base : Nat} {e : TypeId} {g n c : Nat} {xs : List Entry} (h : Own D w base e (.slice (some ⟨g, 0, none⟩) n c) xs) : RowE w (fun b => D b ∧ b < w.heap.size ∧ b ≠ g) g xs ∧ base ≤ g ∧ g < w.heap.size := by
  obtain ⟨css, hl, hr, ho⟩ := h
  have hlen := Own.lens hl hr
  have hblk := ho.2
  rcases hblk with ⟨hv, _⟩ | ⟨g', cap, cur, hv, hb, hgb, _⟩
  · cases hv
  · cases hv
    refine ⟨⟨fun q => by simp [World.frozen?, hgb], fun k x hx => ?_⟩, hb, (Array.getElem?_eq_some_iff.1 hgb).1⟩
    have hk := lt_of_get? hx
    refine ⟨css[k]'(by omega), Rep.more (hr k _ x (List.getElem?_eq_getElem (by omega)) hx) (fun b hb => ⟨hb.1, hb.2.1, fun e => hb.2.2 (by rw [e]; rfl)⟩), fun j u hu => ?_⟩
    have hj : j < Rep.size Entry := by
      have := hlen (css[k]'(by omega)) (List.getElem_mem _)
      have := lt_of_get? hu
      omega
    have hc := ho.cells (g := g) rfl (k * Rep.size Entry + j) u (by rw [flat_get css k j _ hlen (List.getElem?_eq_getElem (by omega)) hj]; exact hu)
    rw [addr_head] at hc
    exact hc

theorem filter_not_none {α : Type} {xs : List α} {p : α → Bool} (h : xs.findIdx? p = none) : xs.filter (fun x => !p x) = xs := by
  rw [List.findIdx?_eq_none_iff] at h
  rw [List.filter_eq_self]
  intro x hx
  simp [h x hx]
theorem filter_not_some {α : Type} {xs : List α} {p : α → Bool} {i : Nat} (h : xs.findIdx? p = some i) : (xs.take (i + 1)).filter (fun x => !p x) = xs.take i ∧ i < xs.length := by
  rw [List.findIdx?_eq_some_iff_getElem] at h
  obtain ⟨hi, h1, h2⟩ := h
  refine ⟨?_, hi⟩
  rw [List.take_add_one, List.getElem?_eq_getElem hi, List.filter_append]
  simp [h1]
  intro x hx
  obtain ⟨k, hk, rfl⟩ := List.getElem_of_mem hx
  rw [List.getElem_take]
  simp at hk
  simpa using h2 k (by omega)

theorem set3_out (w : World) (g o : Nat) (v0 v1 v2 : Value) (p : Addr) (h : p.block = g → p.spot = none → p.off < o ∨ o + 3 ≤ p.off) : (((w.setCell ⟨g, o, none⟩ v0).setCell ⟨g, o + 1, none⟩ v1).setCell ⟨g, o + 2, none⟩ v2).cell? p = w.cell? p := by
  rw [World.cell?_setCell_other _ _ p _ (fun e => by subst e; have := h rfl rfl; dsimp only at this; omega), World.cell?_setCell_other _ _ p _ (fun e => by subst e; have := h rfl rfl; dsimp only at this; omega), World.cell?_setCell_other _ _ p _ (fun e => by subst e; have := h rfl rfl; dsimp only at this; omega)]
theorem set3_in (w : World) (g o : Nat) (v0 v1 v2 : Value) (h0 : (w.cell? ⟨g, o, none⟩).isSome = true) (h1 : (w.cell? ⟨g, o + 1, none⟩).isSome = true) (h2 : (w.cell? ⟨g, o + 2, none⟩).isSome = true) :
    ∀ j u, [v0, v1, v2][j]? = some u → (((w.setCell ⟨g, o, none⟩ v0).setCell ⟨g, o + 1, none⟩ v1).setCell ⟨g, o + 2, none⟩ v2).cell? ⟨g, o + j, none⟩ = some u := by
  intro j u hu
  have hj : j < 3 := by have := lt_of_get? hu; simpa using this
  have h3 : j = 0 ∨ j = 1 ∨ j = 2 := by omega
  rcases h3 with rfl | rfl | rfl
  · simp at hu; subst hu
    rw [World.cell?_setCell_other _ _ _ _ (fun e => by injection e; omega), World.cell?_setCell_other _ _ _ _ (fun e => by injection e; omega)]
    exact World.cell?_setCell_same' _ _ _ h0
  · simp at hu; subst hu
    rw [World.cell?_setCell_other _ _ _ _ (fun e => by injection e; omega)]
    exact World.cell?_setCell_same' _ _ _ (by rw [World.cell?_setCell_other _ _ _ _ (fun e => by injection e; omega)]; exact h1)
  · simp at hu; subst hu
    exact World.cell?_setCell_same' _ _ _ (by rw [World.cell?_setCell_other _ _ _ _ (fun e => by injection e; omega), World.cell?_setCell_other _ _ _ _ (fun e => by injection e; omega)]; exact h2)
theorem below_cells {B g : Nat} (hg : B ≤ g) : ∀ (vs : List Value) (o : Nat) {a w : World}, Below B a w → Below B a (w.setCells g o vs)
  | [], _, _, _, h => h
  | v :: r, o, _, w, h => below_cells hg r (o + 1) (h.setCell (p := ⟨g, o, none⟩) hg v)
theorem size_cells (g : Nat) : ∀ (vs : List Value) (o : Nat) (w : World), (w.setCells g o vs).heap.size = w.heap.size
  | [], _, _ => rfl
  | v :: r, o, w => by
    show ((w.setCell ⟨g, o, none⟩ v).setCells g (o + 1) r).heap.size = _
    rw [size_cells g r]
    simp [World.setCell]

set_option maxRecDepth 100000 in
set_option maxHeartbeats 2000000 in
theorem deleteFunc_any (A : Option Addr) (n c : Nat) (es : List Entry) (k : FuncId) (cv : Value) (p : Entry → Bool) (w : World) (base : Nat) (D : Nat → Prop) (hbase : base ≤ w.heap.size) (hown : Own D w base 54 (.slice A n c) es) (hn : n ≤ 2513169434843)
    (hent : ∀ (args : Array Value) (W : World), (callFunc k args).run Try.prog W = .ok (.enter k args) W)
    (hp : ∀ W cs x, Below base w W → rep W (· < W.heap.size) cs x → Calls Try.prog k #[.agg cs.toArray, cv] W fun e W' => e = .returned (.bool (p x)) ∧ Below W.heap.size W W') :
    Calls Try.prog 32 #[.slice A n c, .func (.func k) #[] #[cv]] w fun e w' => ∃ A' n' c', e = .returned (.slice A' n' c') ∧ RepList w' (fun b => (D b ∨ base ≤ b) ∧ b < w'.heap.size) A' n' c' (es.filter (fun e => !p e)) ∧ Below base w w' := by
  obtain ⟨i0, hi0, hz0, hz1, hz2⟩ := info_parts entry_info
  have hrl := hown.reads
  have hcap := hrl.cap
  have hrw : RepList w (· < w.heap.size) A n c es := hrl.more (fun b h => h.2)
  have Hrw := Lib.hid hrw
  have Hown := Lib.hid hown
  have Hp := Lib.hid hp
  have Hlen := Lib.hid hrl.length
  clear hrw hown hp hrl
  go_enter Try.func32, Try.ntmps32
  go_wp2_with fail
  refine (indexFunc_entry A n c es k cv p w base hbase Hrw.out hent Hp.out).mono ?_
  rintro e w1 ⟨rfl, hb1⟩
  cases hfi : es.findIdx? p with
  | none =>
    have Hf := Lib.hid (filter_not_none hfi)
    have Hr := Lib.hid (Hown.out.on hb1).reads
    clear hfi
    go_wp2_with fail
    go_ret
    exact ⟨A, n, c, rfl, by rw [Hf.out]; exact Hr.out, hb1.mono hbase⟩
  | some i =>
    obtain ⟨hf1, hin⟩ := filter_not_some hfi
    have hin' : i < n := by have := Hlen.out; omega
    have Hf1 := Lib.hid hf1
    obtain ⟨g, hA⟩ : ∃ g, A = some ⟨g, 0, none⟩ := by
      obtain ⟨css, hl, hr, ho⟩ := Hown.out
      rcases ho.2 with ⟨hv, h0⟩ | ⟨g, cap, cur, hv, _⟩
      · cases hv; omega
      · cases hv; exact ⟨g, rfl⟩
    subst hA
    obtain ⟨hrow, hbg, hgl⟩ := own_row (Hown.out.on hb1)
    have hne : ((i : Int) == -1) = false := by simp
    have Hrow := Lib.hid hrow
    clear hfi hf1 hin hrow
    go_wp2_with fail
    go_loopw [5, 6] (fun iv jv wr => ∃ (i j : Nat) (cur : List Entry), iv = .int .i64 i ∧ jv = .int .i64 j ∧ i < j ∧ j ≤ n ∧ cur.length = n ∧ cur.take i = (es.take j).filter (fun e => !p e) ∧ cur.drop j = es.drop j ∧ RowE wr (fun b => D b ∧ b < w1.heap.size ∧ b ≠ g) g cur ∧ w1.heap.size ≤ wr.heap.size ∧ Below base w wr) (fun _ jv _ => n - (intOf jv).toNat)
    case atStart => exact ⟨i, i + 1, es, rfl, by go_num, by omega, by omega, Hlen.out, Hf1.out.symm, rfl, Hrow.out, Nat.le_refl _, hb1.mono hbase⟩
    case round =>
      obtain ⟨i, j, cur, rfl, rfl, hij, hjn, hcl, ht, hdr, hrow, hsz, hb⟩ := hrel
      have Hcl := Lib.hid hcl
      have Ht := Lib.hid ht
      have Hdr := Lib.hid hdr
      have Hrow2 := Lib.hid hrow
      have Hb := Lib.hid hb
      clear hcl ht hdr hrow hb Hrow Hf1
      by_cases hlt : j < n
      · obtain ⟨x, hx⟩ : ∃ x, cur[j]? = some x := ⟨_, List.getElem?_eq_getElem (by have := Hcl.out; omega)⟩
        have hxe : es[j]? = some x := by
          have h1 : (cur.drop j)[0]? = some x := by rw [List.getElem?_drop]; exact hx
          rw [Hdr.out, List.getElem?_drop] at h1
          exact h1
        obtain ⟨y, hy⟩ : ∃ y, cur[i]? = some y := ⟨_, List.getElem?_eq_getElem (by have := Hcl.out; omega)⟩
        obtain ⟨A2, n2, c2, e0, e1, e2, q1, q2, q3⟩ := Hrow2.out.at_ hx
        obtain ⟨A3, n3, c3, y0, y1, y2, _⟩ := Hrow2.out.at_ hy
        have hgl2 : g < wr.heap.size := by omega
        have hbe : Below wr.heap.size wr (wr.alloc (.cells #[.string x.field, .string x.text, .slice A2 n2 c2] 54)) := (Below.refl _ _).alloc (Nat.le_refl _) _
        have hB5 := Blk.new wr 54 #[.string x.field, .string x.text, .slice A2 n2 c2]
        have hcs : rep (wr.alloc (.cells #[.string x.field, .string x.text, .slice A2 n2 c2] 54)) (· < (wr.alloc (.cells #[.string x.field, .string x.text, .slice A2 n2 c2] 54)).heap.size) [.string x.field, .string x.text, .slice A2 n2 c2] x :=
          Entry.of_cells (q1.keep (fun p hp => hbe.cell (by omega)) (fun b h => by simp; omega)) q2 q3
        have hcall := Hp.out _ _ x (Hb.out.trans (hbe.mono Hb.out.size |>.mono (by have := Hb.out.size; omega))) hcs
        have Hcall := Lib.hid hcall
        have Hbe := Lib.hid hbe
        have HB5 := Lib.hid hB5
        have Hx := Lib.hid hx
        have Hxe := Lib.hid hxe
        have Q1 := Lib.hid q1
        have Y0 := Lib.hid y0
        have Y1 := Lib.hid y1
        have Y2 := Lib.hid y2
        clear hbe hB5 hcs hcall hx hxe hy q1 y0 y1 y2
        go_wp2_with fail
        refine Hcall.out.mono ?_
        rintro e w2 ⟨rfl, hb2⟩
        have hb3 : Below wr.heap.size wr w2 := Hbe.out.trans (hb2.mono Hbe.out.size)
        have hrow2 := Hrow2.out.on hb3 (fun b h => by have := h.2.1; omega) hgl2
        have Hrow3 := Lib.hid hrow2
        have Hb3 := Lib.hid (Hb.out.trans (hb3.mono (Nat.le_trans hbase Hb.out.size)))
        have hsz3 : w1.heap.size ≤ w2.heap.size := Nat.le_trans hsz hb3.size
        have hdr1 : cur.drop (j + 1) = es.drop (j + 1) := by
          have := congrArg (List.drop 1) Hdr.out
          simpa [List.drop_drop, Nat.add_comm] using this
        have Hdr1 := Lib.hid hdr1
        clear hrow2 hdr1
        cases hpx : p x with
        | true =>
          have Hpx := Lib.hid hpx
          clear hpx hb2 hb3 e0 e1 e2
          go_wp2_with fail
          go_roundw
          case rel => exact ⟨i, j + 1, cur, rfl, by go_num, by omega, by omega, Hcl.out, by rw [filter_no Hxe.out (by simp [Hpx.out])]; exact Ht.out, Hdr1.out, Hrow3.out, hsz3, Hb3.out⟩
          case measure => simp [intOf]; omega
        | false =>
          have Hpx := Lib.hid hpx
          have k5 := HB5.out.below hb2 (by simp)
          have b0 := k5.cell 0
          have b1 := k5.cell 1
          have b2 := k5.cell 2
          simp only [List.getElem?_toArray, List.getElem?_cons_zero, List.getElem?_cons_succ] at b0 b1 b2
          have d0 := cell_on hb3 Y0.out
          have d1 := cell_on hb3 Y1.out
          have d2 := cell_on hb3 Y2.out
          have f0 := Hrow3.out.1 (i * 3)
          have f1 := Hrow3.out.1 (i * 3 + 1)
          have f2 := Hrow3.out.1 (i * 3 + 2)
          have hin2 : i < n := by omega
          have Hb4 := Lib.hid hb3
          clear hpx hb2 hb3 e0 e1 e2 k5
          go_wp2_with fail
          go_roundw
          case measure => simp [intOf]; omega
          case rel =>
            have hil : i < cur.length := by have := Hcl.out; omega
            refine ⟨i + 1, j + 1, cur.set i x, by go_num, by go_num, by omega, by omega, by simpa using Hcl.out, ?_, ?_, ?_, ?_, ?_⟩
            · rw [filter_yes Hxe.out (by simp [Hpx.out]), List.take_add_one, List.getElem?_set_self hil, List.take_set_of_le (Nat.le_refl _), Ht.out]; rfl
            · rw [List.drop_set_of_lt (by omega)]; exact Hdr1.out
            · refine Hrow3.out.set (cs := [.string x.field, .string x.text, .slice A2 n2 c2]) hil (fun h => h.2.2 rfl) ?_ (fun p hp => set3_out _ _ _ _ _ _ p (fun h => absurd h hp)) (fun q => by simp only [World.frozen?_setCell]) (fun q hq => set3_out _ _ _ _ _ _ _ (fun _ _ => hq)) (set3_in _ _ _ _ _ _ (by rw [d0]; rfl) (by rw [d1]; rfl) (by rw [d2]; rfl))
              exact Entry.of_cells (Q1.out.keep (fun p hp => Hb4.out.cell (by have := hp.2.1; omega)) (fun _ h => h)) q2 q3
            · simpa [World.setCell] using hsz3
            · exact ((Hb3.out.setCell (p := ⟨g, i * 3, none⟩) hbg _).setCell (p := ⟨g, i * 3 + 1, none⟩) hbg _).setCell (p := ⟨g, i * 3 + 2, none⟩) hbg _
      · obtain rfl : j = n := by omega
        have hin2 : i < j := by omega
        have hfin : cur.take i = es.filter (fun e => !p e) := by rw [Ht.out, List.take_of_length_le (by have := Hlen.out; omega)]
        obtain ⟨Z, hZ⟩ : ∃ Z, (Builtin.zeroCells (Value.agg #[.string ByteArray.empty, .string ByteArray.empty, .slice none 0 0]).cells (j - i)).toList = Z := ⟨_, rfl⟩
        have hZl : Z.length = (j - i) * 3 := by rw [← hZ]; simp [Builtin.zeroCells, Value.cells]
        have hZ1 : ∀ v ∈ Z, v.oneCell' = true := by
          intro v hv
          rw [← hZ] at hv
          simp only [Builtin.zeroCells, Array.toList_map, List.mem_map] at hv
          obtain ⟨q, _, rfl⟩ := hv
          have h3 : q % 3 = 0 ∨ q % 3 = 1 ∨ q % 3 = 2 := by omega
          rcases h3 with h | h | h <;> simp [Value.cells, h, Value.oneCell']
        have hzv : ∀ w, (zeroValue 54).run Try.prog w = .ok (.agg #[.string ByteArray.empty, .string ByteArray.empty, .slice none 0 0]) w := fun w => by simp [zeroValue, run_typeInfo w hi0, hz0]
        have hcells : ∀ q, q < (j - i) * 3 → (wr.cell? ⟨g, i * 3 + q, none⟩).isSome = true := by
          intro q hq
          have hk : i + q / 3 < cur.length := by have := Hcl.out; omega
          obtain ⟨A2, n2, c2, e0, e1, e2, _⟩ := Hrow2.out.at_ (List.getElem?_eq_getElem hk)
          have h3 : i * 3 + q = (i + q / 3) * 3 ∨ i * 3 + q = (i + q / 3) * 3 + 1 ∨ i * 3 + q = (i + q / 3) * 3 + 2 := by omega
          rcases h3 with h | h | h <;> rw [h] <;> simp [*]
        have hclear := fun ty => run_clear_cells (P := Try.prog) wr 32 54 ty (.agg #[.string ByteArray.empty, .string ByteArray.empty, .slice none 0 0]) Try.underlying32 hzv g (i * 3) (j - i) (c - i) (by omega) (by rw [hZ, hZl]; exact hcells) (fun q => Hrow2.out.1 _) (by rw [hZ]; exact hZ1)
        rw [hZ] at hclear
        have Hfin := Lib.hid hfin
        clear hcells hzv hZ1 hZ hfin
        go_wp2_with fail
        go_ret
        refine ⟨_, _, _, rfl, ?_, below_cells hbg Z _ Hb.out⟩
        rw [← Hfin.out]
        have hr2 := Hrow2.out.cut (w' := wr.setCells g (i * 3) Z) (i := i) (by have := Hcl.out; omega) (fun h => h.2.2 rfl) (fun p hp => World.cell?_setCells_out _ _ _ _ p (fun h => absurd h hp)) (fun q => World.frozen?_setCells _ _ _ _ _) (fun q hq => World.cell?_setCells_out _ _ _ _ _ (fun _ _ => .inl hq))
        refine hr2.reads (by have := Hcl.out; simp; omega) (by omega) hcap.2 (fun b h => ⟨.inl h.1, by rw [size_cells]; have := h.2.1; omega⟩) ⟨.inr hbg, by rw [size_cells]; omega⟩

end Go.Proofs.Ytnngapfbeappcaa

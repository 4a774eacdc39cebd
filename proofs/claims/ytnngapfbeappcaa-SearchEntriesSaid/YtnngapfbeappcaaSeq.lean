/- The walks of schema.kept and of the iterator that it hands back. -/
import Derived.RangeFuncNested
import Derived.RangeFuncBound
import Derived.RangeFuncCalls
import Derived.RangeFuncLeaves
import Derived.Shelf.Abstract
import Derived.Shelf.RegionOpen
import Derived.WalkKit
import Derived.OwnWalkIn
import Derived.TacticsInMore
import Derived.LoopNIn
import Derived.LoopIn
import Derived.Maps.OwnIn
import Derived.Test.YtnngapfbeappcaaRStored
import Derived.Test.YtnngapfbeappcaaClone
namespace Go.Proofs.Ytnngapfbeappcaa
open Rep (rep)
open Go.RowKit Go.Shelf

attribute [local go_sem] Oper.semAt_some

/-- What nothing below has turned has grown alone. -/
theorem Below.grownBy {w w' : World} (h : Below w.heap.size w w') : w.grownBy w' none := ⟨h.os, h.tape, h.output, h.size, fun k hk _ => h.block k hk⟩
theorem Below.others {w w' : World} (h : Below w.heap.size w w') : KeepsOthers w w' := KeepsOthers.of_grownBy (Below.grownBy h) (fun _ _ e _ => by cases e)

/-- What the iterator hands out: an entry, with the place of its numbers in the world w0. -/
structure Item (w0 : World) where
  e : Entry
  A : Option Addr
  n : Nat
  c : Nat
  list : RepList w0 (· < w0.heap.size) A n c e.numbers
  fsz : e.field.size ≤ 9223372036854775807
  tsz : e.text.size ≤ 9223372036854775807
  len : e.numbers.length ≤ 17592186044416
def Item.enc {w0 : World} (x : Item w0) : Value := .agg #[.string x.e.field, .string x.e.text, .slice x.A x.n x.c]
def ItemAt (w0 : World) (b off k : Nat) (x : Item w0) : Prop :=
  w0.cell? ⟨b, off + k * 3, none⟩ = some (.string x.e.field) ∧ w0.cell? ⟨b, off + k * 3 + 1, none⟩ = some (.string x.e.text) ∧ w0.cell? ⟨b, off + k * 3 + 2, none⟩ = some (.slice x.A x.n x.c)
theorem items_of {w0 : World} {A : Option Addr} {m c : Nat} {es : List Entry} (h : RepList w0 (· < w0.heap.size) A m c es) (hN : ∀ e ∈ es, e.numbers.length ≤ 17592186044416) :
    ∃ its : List (Item w0), its.map (·.e) = es ∧ ∀ k x, its[k]? = some x → ∃ b off, A = some ⟨b, off, none⟩ ∧ b < w0.heap.size ∧ ItemAt w0 b off k x := by
  have hone : ∀ k : Fin es.length, ∃ x : Item w0, x.e = es[k] ∧ ∃ b off, A = some ⟨b, off, none⟩ ∧ b < w0.heap.size ∧ ItemAt w0 b off k x := by
    intro k
    obtain ⟨b, off, e, hA, he, hb, hat⟩ := h.at_ (k := k) (by have := h.length; omega)
    have he' : e = es[k] := by have := he.out; rw [List.getElem?_eq_getElem k.2] at this; simpa using this.symm
    obtain ⟨A2, n2, c2, h0, h1, h2, q1, q2, q3⟩ := Entry.at_ hat
    exact ⟨⟨e, A2, n2, c2, q1, q2, q3, hN e (by rw [he']; exact List.getElem_mem _)⟩, he', b, off, hA, hb, h0, h1, h2⟩
  refine ⟨List.ofFn fun k => Classical.choose (hone k), ?_, fun k x hx => ?_⟩
  · apply List.ext_getElem
    · simp
    · intro i h1 h2
      simp only [List.getElem_map, List.getElem_ofFn]
      exact (Classical.choose_spec (hone ⟨i, by simpa using h2⟩)).1
  · have hk : k < es.length := by have := lt_of_get? hx; simpa using this
    rw [List.getElem?_eq_getElem (by simpa using hk), List.getElem_ofFn] at hx
    cases hx
    exact (Classical.choose_spec (hone ⟨k, hk⟩)).2

def keptI (fs : List Field) {w0 : World} (x : Item w0) : Bool := keptB fs x.e

/-- What a round of the iterator keeps. -/
def KeepsBox (w0 : World) (Bs : Nat) (t : TypeId) (W W' : World) : Prop := Below w0.heap.size W W' ∧ ∀ v, Boxed W Bs t v → Boxed W' Bs t v
theorem KeepsBox.trans {w0 : World} {Bs : Nat} {t : TypeId} {A B C : World} (h : KeepsBox w0 Bs t A B) (k : KeepsBox w0 Bs t B C) : KeepsBox w0 Bs t A C := ⟨h.1.trans k.1, fun v hv => k.2 v (h.2 v hv)⟩
theorem KeepsBox.putObj {w0 w : World} {Bs : Nat} {t : TypeId} (hn : w0.heap.size ≤ w.heap.size) (W : World) (l : Nat) (o o' : Obj) (hl : w.heap.size ≤ l) (h : W.heap[l]? = some o) (hc : o.isCells = false) (hw : o.isWalk = false) : KeepsBox w0 Bs t W (W.putObj l o') :=
  ⟨belowK_b hn W l o o' hl h hc hw, fun v hv => hv.kept (grownBy_putObj' W l o') (fun e => by cases e; rw [show W.heap[Bs]? = _ from hv] at h; cases h; cases hc)⟩
theorem Boxed.grown {W W' : World} {B : Nat} {t : TypeId} {v : Value} (h : Boxed W B t v) (hb : Below W.heap.size W W') : Boxed W' B t v := h.kept (Below.grownBy hb) (by simp)

theorem kept_any (A A' : Option Addr) (n c m c' : Nat) (w : World) :
    Calls Try.prog 44 #[.agg #[.slice A n c], .agg #[.slice A' m c']] w fun e w' => e = .returned (.func (.func 49) #[] #[.pointer (some ⟨w.heap.size + 1, 0, none⟩), .pointer (some ⟨w.heap.size, 0, none⟩)]) ∧ w' = (w.alloc (.cells #[.slice A n c] 31)).alloc (.cells #[.slice A' m c'] 34) := by
  have hmf : ∀ (fn : Fn) (first cap : Array Value) (w : World), (Instr.makeFunc fn first cap).run Try.prog w = .ok (.func fn first cap) w := fun _ _ _ _ => rfl
  go_enter Try.func44, Try.ntmps44
  go_wp2
  go_ret
  exact ⟨rfl, rfl⟩

set_option maxRecDepth 100000 in
set_option maxHeartbeats 2000000 in
theorem kept1_in (w0 : World) (A A' : Option Addr) (n c m c' : Nat) (fs : List Field) (es : List Entry) (its : List (Item w0)) (hits : its.map (·.e) = es) (hcells : ∀ k x, its[k]? = some x → ∃ b off, A' = some ⟨b, off, none⟩ ∧ b < w0.heap.size ∧ ItemAt w0 b off k x)
    (hs : RepList w0 (· < w0.heap.size) A n c fs) (hd : RepList w0 (· < w0.heap.size) A' m c' es) (d : Nat) (hd1 : 1 ≤ d)
    (l Bd Bs : Nat) (J Jx : List (Item w0) → World → Prop) (W : World) (hW : Below w0.heap.size w0 W) (hJ : AbidesFrom W.heap.size J)
    (hY : ∀ pre x W1, J pre W1 → pre.length < m → YieldAt Fence.wide (d - 1) Try.prog l #[x.enc] W1 fun e W' =>
      (e = .returned (.bool true) ∧ J (pre ++ [x]) W' ∧ KeepsBox w0 Bs 31 W1 W') ∨ (e = .returned (.bool false) ∧ Jx (pre ++ [x]) W'))
    (hBd : Boxed W Bd 34 (.slice A' m c')) (hBs : Boxed W Bs 31 (.slice A n c)) (h0 : J [] W) :
    CallsIn Fence.wide d Try.prog 49 #[.func (.yield l) #[] #[], .pointer (some ⟨Bd, 0, none⟩), .pointer (some ⟨Bs, 0, none⟩)] W fun e W' => (∃ v, e = .returned v) ∧
      ((∃ ys, ys = its.filter (keptI fs) ∧ J ys W') ∨ (∃ pre, Jx pre W')) := by
  have hlen : its.length = m := by rw [← hd.length, ← hits]; simp
  have hcap := hd.cap
  have cD := hBd.cell
  have Hd := Lib.hid hd
  have Hs := Lib.hid hs
  have Hc := Lib.hid hcells
  have HY := Lib.hid hY
  have HJ := Lib.hid hJ
  have HW := Lib.hid hW
  have HBs := Lib.hid hBs
  have Hlen := Lib.hid hlen
  clear hd hs hcells hY hJ hW hBs hlen hits hBd
  refine callsIn_of_wp Try.func49 rfl trivial ?_ rfl
  simp only [Try.ntmps49, List.size_toArray, List.length_cons, List.length_nil, Nat.reduceAdd, Nat.reduceSub, Array.replicate_succ, Array.replicate_zero, List.push_toArray, List.append_toArray, List.nil_append, List.cons_append]
  gi_wp2
  gi_loopw [11] (fun i wr => ∃ k : Nat, k ≤ m ∧ i = .int .i64 k ∧ J ((its.take k).filter (keptI fs)) wr ∧ Below w0.heap.size w0 wr ∧ W.heap.size ≤ wr.heap.size ∧ Boxed wr Bs 31 (.slice A n c)) (fun i _ => m - (intOf i).toNat)
  case atStart => exact ⟨0, Nat.zero_le _, rfl, by simpa using h0, HW.out, Nat.le_refl _, HBs.out⟩
  case round =>
    obtain ⟨k, hk, rfl, hJk, hbw, hsz, hBs⟩ := hrel
    have HJk := Lib.hid hJk
    have Hbw := Lib.hid hbw
    have cS := hBs.cell
    have HBs2 := Lib.hid hBs
    clear hJk hbw hBs
    by_cases hlt : k < m
    · obtain ⟨x, hx⟩ : ∃ x, its[k]? = some x := ⟨_, List.getElem?_eq_getElem (by have := Hlen.out; omega)⟩
      obtain ⟨b, off, rfl, hb, e0, e1, e2⟩ := Hc.out k x hx
      have e0' := (Hbw.out.cell (p := ⟨b, off + k * 3, none⟩) hb).trans e0
      have e1' := (Hbw.out.cell (p := ⟨b, off + k * 3 + 1, none⟩) hb).trans e1
      have e2' := (Hbw.out.cell (p := ⟨b, off + k * 3 + 2, none⟩) hb).trans e2
      have Hx := Lib.hid hx
      clear e0 e1 e2 hx
      have hbe : Below wr.heap.size wr (wr.alloc (.cells #[.string x.e.field, .string x.e.text, .slice x.A x.n x.c] 54)) := (Below.refl _ _).alloc (Nat.le_refl _) _
      have hB5 := Blk.new wr 54 #[.string x.e.field, .string x.e.text, .slice x.A x.n x.c]
      have cS1 := (Boxed.grown HBs2.out hbe).cell
      have Hbe := Lib.hid hbe
      have HB5 := Lib.hid hB5
      have Hs1 := Lib.hid ((Hs.out.below (Hbw.out.trans (hbe.mono Hbw.out.size))).more (F' := (· < (wr.alloc (.cells #[.string x.e.field, .string x.e.text, .slice x.A x.n x.c] 54)).heap.size)) (fun b h => by have := Hbw.out.size; simp; omega))
      clear hbe hB5
      rcases hfn : findN fs x.e.field with _ | j
      · have hkeep : Hid (keptI fs x = false) := by show _ = _; unfold keptI keptB; rw [hfn]
        have Hfn := Lib.hid hfn
        clear hfn
        gi_wp2_with (refine ⟨trivial, ?_⟩; gi_at_call 50; refine (callsIn_wide.2 (find_none A n c fs x.e.field _ Hs1.out Hfn.out)).mono ?_; rintro e w2 ⟨rfl, hb2⟩; have hb3 : Hid (Below wr.heap.size wr w2) := Hbe.out.trans (hb2.mono Hbe.out.size); clear hb2 e0' e1' e2')
        refine ⟨fun _ h => (by cases h), ?_⟩
        gi_wp2
        go_roundw
        case rel => exact ⟨k + 1, by omega, by go_num, by rw [filter_no Hx.out hkeep.out]; exact HJ.out _ _ _ _ HJk.out (Below.grownBy hb3.out) (fun _ e => by cases e), Hbw.out.trans (hb3.out.mono Hbw.out.size), Nat.le_trans hsz hb3.out.size, Boxed.grown HBs2.out hb3.out⟩
        case measure => simp [intOf]; omega
      · have hfn' := hfn
        obtain ⟨f', hf', _⟩ := findN_lt hfn
        have hjn : j < n := by have := lt_of_get? hf'; have := Hs.out.length; omega
        obtain ⟨bs, os, f, rfl, Hf, hbs, hfe⟩ := Hs.out.at_ hjn
        obtain ⟨A3, n3, c3, f0, f1, f2, f3, f4, f5, f6, _⟩ := Field.at_ hfe
        have hkeep : keptI fs x = f.stored := by unfold keptI keptB; rw [hfn]; simp only; rw [Hf.out]; rfl
        have hcs := Hs.out.cap
        have Hkeep := Lib.hid hkeep
        have Hfn := Lib.hid hfn
        have hj0 : (0 : Int) ≤ j := by omega
        have F6 := Lib.hid f6
        clear hfn hfn' hf' hfe f0 f1 f2 f3 f4 f5 f6 hkeep
        cases hst : f.stored with
        | false =>
          rw [hst] at F6 Hkeep
          clear hst
          gi_wp2_with (refine ⟨trivial, ?_⟩; gi_at_call 50; refine (callsIn_wide.2 (find_some _ n c fs x.e.field _ Hs1.out j Hfn.out)).mono ?_; rintro e w2 ⟨rfl, hb2⟩; have hb3 : Hid (Below wr.heap.size wr w2) := Hbe.out.trans (hb2.mono Hbe.out.size); have cS2 := (Boxed.grown HBs2.out hb3.out).cell; have f6 := ((Hbw.out.trans (hb3.out.mono Hbw.out.size)).cell (p := ⟨bs, os + j * 7 + 6, none⟩) hbs).trans F6.out; clear hb2 e0' e1' e2')
          refine ⟨fun _ h => (by cases h), ?_⟩
          gi_wp2
          go_roundw
          case rel => exact ⟨k + 1, by omega, by go_num, by rw [filter_no Hx.out Hkeep.out]; exact HJ.out _ _ _ _ HJk.out (Below.grownBy hb3.out) (fun _ e => by cases e), Hbw.out.trans (hb3.out.mono Hbw.out.size), Nat.le_trans hsz hb3.out.size, Boxed.grown HBs2.out hb3.out⟩
          case measure => simp [intOf]; omega
        | true =>
          rw [hst] at F6 Hkeep
          clear hst
          gi_wp2_with (refine ⟨trivial, ?_⟩; gi_at_call 50; refine (callsIn_wide.2 (find_some _ n c fs x.e.field _ Hs1.out j Hfn.out)).mono ?_; rintro e w2 ⟨rfl, hb2⟩; have hb3 : Hid (Below wr.heap.size wr w2) := Hbe.out.trans (hb2.mono Hbe.out.size); have cS2 := (Boxed.grown HBs2.out hb3.out).cell; have f6 := ((Hbw.out.trans (hb3.out.mono Hbw.out.size)).cell (p := ⟨bs, os + j * 7 + 6, none⟩) hbs).trans F6.out; have b5 := HB5.out.below hb2 (by simp); have b50 := b5.cell 0; have b51 := b5.cell 1; have b52 := b5.cell 2; simp only [List.getElem?_toArray, List.getElem?_cons_zero, List.getElem?_cons_succ] at b50 b51 b52; have hJ2 := HJ.out _ _ _ _ HJk.out (Below.grownBy hb3.out) (fun _ e => by cases e); obtain ⟨fn, tmps, assign, body, hy, hR⟩ := HY.out _ x w2 hJ2 (Nat.lt_of_le_of_lt (Nat.le_trans (List.length_filter_le _ _) (List.length_take_le _ _)) hlt); simp only [Item.enc] at hy; have HR := Lib.hid hR; clear hb2 e0' e1' e2' hJ2 b5 hR)
          refine HR.out.mono ?_
          rintro e W3 (⟨rfl, hJ3, hk3⟩ | ⟨rfl, hJx3⟩)
          · have Hk3 := Lib.hid hk3
            have HJ3 := Lib.hid hJ3
            clear hk3 hJ3
            gi_wp2
            go_roundw
            case rel => exact ⟨k + 1, by omega, by go_num, by rw [filter_yes Hx.out Hkeep.out]; exact HJ3.out, (Hbw.out.trans (hb3.out.mono Hbw.out.size)).trans Hk3.out.1, Nat.le_trans (Nat.le_trans hsz hb3.out.size) Hk3.out.1.size, Hk3.out.2 _ (Boxed.grown HBs2.out hb3.out)⟩
            case measure => simp [intOf]; omega
          · gi_wp2
            refine bodyPost_ret (results_none rfl _ _ _) rfl ?_
            exact ⟨⟨_, rfl⟩, .inr ⟨_, hJx3⟩⟩
    · obtain rfl : k = m := by omega
      have Hf : Hid (its.take k = its) := List.take_of_length_le (by have := Hlen.out; omega)
      gi_wp2
      go_end0
      exact ⟨⟨_, rfl⟩, .inl ⟨_, rfl, by rw [← Hf.out]; exact HJk.out⟩⟩
end Go.Proofs.Ytnngapfbeappcaa

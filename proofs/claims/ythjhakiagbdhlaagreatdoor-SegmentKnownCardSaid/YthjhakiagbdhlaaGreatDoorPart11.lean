/- The texts Runes, Fold, FoldLow, Laws, Reps, Fills, Builder, FoldS, EvFold of SegmentKnown, joined by program (tools/merge.py): walks of the functions that the law reaches, and plain facts; no condition. -/
import Derived.Shelf.Abstract
import Derived.Shelf.RegionOpen
import Derived.WalkKit
import Derived.OwnWalkIn
import Derived.TacticsInMore
import Derived.LoopNIn
import Derived.LoopIn
import Derived.Maps.OwnIn
import Derived.Maps.AppendAt
import Derived.Test.YthjhakiagbdhlaaGreatDoorPart10
import Derived.Test.YthjhakiagbdhlaaGreatDoorShelf
import Derived.Laws.BitsAllLaws
import Derived.Laws.BitsLemmas
import Derived.RangeFuncNested
import Derived.Lib.LaidU8T
set_option linter.unusedVariables false
set_option linter.unusedSimpArgs false

/- The walks of fold.Next, fold.Runes and of the iterator that it hands back. -/
namespace Go.Proofs.YthjhakiagbdhlaaGreatDoor
open Rep (rep)
open Go.RowKit Go.Shelf

attribute [local go_sem] Oper.semAt_some

/-- The two tables of unicode/utf8, as their initialisers lay them. -/
def Tabs (w : World) : Prop := Lib.Utf8Tabs 3 4 w
theorem Tabs.on {w w' : World} (h : Tabs w) (hb : Below w.heap.size w w') : Tabs w' := Utf8Tabs_below h hb

set_option maxHeartbeats 400000 in
theorem next_any (s : ByteArray) (i : Nat) (hi : i < s.size) (hs : s.size ≤ 9223372036854775807) (w : World) (hT : Tabs w) :
    Calls Tryz.prog 343 #[.string s, .int .i64 i] w fun e w' => e = .returned (.tuple #[.int .i32 (rn s i), .int .i64 (wd s i)]) ∧ Below w.heap.size w w' := by
  have hd := decodeGo_tail s i hi
  have h1 : (i : Int) < (s.size : Int) := by omega
  have h2 : ¬ (s.size : Int) ≤ (i : Int) := by omega
  have Hd := Lib.hid hd
  clear hd
  go_enter Tryz.func343, Tryz.ntmps343
  go_wp2_with (go_at_call 365; refine (Tryz.utf8_DecodeRuneInString _ _ hT).mono ?_; rw [Hd.out]; rintro e w' ⟨rfl, hb⟩)
  go_ret2
  exact ⟨rfl, hb⟩

theorem runes_any (s : ByteArray) (w : World) :
    Calls Tryz.prog 306 #[.string s] w fun e w' => e = .returned (.func (.func 345) #[] #[.pointer (some ⟨w.heap.size, 0, none⟩)]) ∧ w' = w.alloc (.cells #[.string s] 9) := by
  have hmf : ∀ (fn : Fn) (first cap : Array Value) (w : World), (Instr.makeFunc fn first cap).run Tryz.prog w = .ok (.func fn first cap) w := fun _ _ _ _ => rfl
  go_enter Tryz.func306, Tryz.ntmps306
  go_wp2
  go_ret
  exact ⟨rfl, rfl⟩

/-- What a round of a range over the runes keeps. -/
def KeepsS (n0 Bs : Nat) (W W' : World) : Prop := Below n0 W W' ∧ ∀ v, Boxed W Bs 9 v → Boxed W' Bs 9 v
theorem KeepsS.trans {n0 Bs : Nat} {A B C : World} (h : KeepsS n0 Bs A B) (k : KeepsS n0 Bs B C) : KeepsS n0 Bs A C := ⟨h.1.trans k.1, fun v hv => k.2 v (h.2 v hv)⟩
theorem KeepsS.putObj {n0 Bs : Nat} {w : World} (hn : n0 ≤ w.heap.size) (W : World) (l : Nat) (o o' : Obj) (hl : w.heap.size ≤ l) (h : W.heap[l]? = some o) (hc : o.isCells = false) (hw : o.isWalk = false) : KeepsS n0 Bs W (W.putObj l o') := by
  refine ⟨?_, fun v hv => hv.kept (grownBy_putObj' W l o') (fun e => by cases e; rw [show W.heap[Bs]? = _ from hv] at h; cases h; cases hc)⟩
  exact (Below.refl _ W).grown (grownBy_putObj' W l o') (by have := (Array.getElem?_eq_some_iff.1 h).1; omega) (fun k e => by cases e; omega)
theorem Below.grownBy' {w w' : World} (h : Below w.heap.size w w') : w.grownBy w' none := ⟨h.os, h.tape, h.output, h.size, fun k hk _ => h.block k hk⟩
theorem Boxed.on {W W' : World} {B : Nat} {t : TypeId} {v : Value} (h : Boxed W B t v) (hb : Below W.heap.size W W') : Boxed W' B t v := h.kept (Below.grownBy' hb) (by simp)
theorem KeepsS.of_on {n0 Bs : Nat} {W W' : World} (hn : n0 ≤ W.heap.size) (hb : Below W.heap.size W W') : KeepsS n0 Bs W W' := ⟨hb.mono hn, fun _ hv => Boxed.on hv hb⟩

def runeEnc (s : ByteArray) (x : Nat) : Array Value := #[.int .i64 x, .int .i32 (rn s x)]

set_option maxRecDepth 100000 in
set_option maxHeartbeats 2000000 in
theorem runes1_in (n0 Bs : Nat) (s : ByteArray) (hs : s.size ≤ 9223372036854775800) (w0 : World) (hT : Tabs w0) (hn0 : w0.heap.size = n0) (d : Nat) (hd1 : 1 ≤ d)
    (l : Nat) (J Jx : List Nat → World → Prop) (W : World) (hW : Below n0 w0 W) (hJ : AbidesFrom W.heap.size J)
    (hY : ∀ pre x W1, J pre W1 → pre ++ [x] <+: ats s → YieldAt Fence.wide (d - 1) Tryz.prog l (runeEnc s x) W1 fun e W' =>
      (e = .returned (.bool true) ∧ J (pre ++ [x]) W' ∧ KeepsS n0 Bs W1 W') ∨ (e = .returned (.bool false) ∧ Jx (pre ++ [x]) W'))
    (hBs : Boxed W Bs 9 (.string s)) (h0 : J [] W) :
    CallsIn Fence.wide d Tryz.prog 345 #[.func (.yield l) #[] #[], .pointer (some ⟨Bs, 0, none⟩)] W fun e W' => (∃ v, e = .returned v) ∧
      ((∃ ys, ys = ats s ∧ J ys W') ∨ (∃ pre, pre <+: ats s ∧ Jx pre W')) := by
  have HT := Lib.hid hT
  have HY := Lib.hid hY
  have HJ := Lib.hid hJ
  have HW := Lib.hid hW
  have HBs := Lib.hid hBs
  have Hn0 := Lib.hid hn0
  clear hT hY hJ hW hBs hn0
  refine callsIn_of_wp Tryz.func345 rfl trivial ?_ rfl
  simp only [Tryz.ntmps345, List.size_toArray, List.length_cons, List.length_nil, Nat.reduceAdd, Nat.reduceSub, Array.replicate_succ, Array.replicate_zero, List.push_toArray, List.append_toArray, List.nil_append, List.cons_append]
  gi_wp2
  gi_loopw [3] (fun i wr => ∃ (pre : List Nat) (k : Nat), k ≤ s.size ∧ i = .int .i64 k ∧ ats s = pre ++ atsFrom s k ∧ J pre wr ∧ Below n0 w0 wr ∧ W.heap.size ≤ wr.heap.size ∧ Boxed wr Bs 9 (.string s)) (fun i _ => s.size - (intOf i).toNat)
  case atStart => exact ⟨[], 0, Nat.zero_le _, rfl, rfl, h0, HW.out, Nat.le_refl _, HBs.out⟩
  case round =>
    obtain ⟨pre, k, hk, rfl, hat, hJk, hbw, hsz, hBs⟩ := hrel
    have cS := hBs.cell
    have HJk := Lib.hid hJk
    have Hbw := Lib.hid hbw
    have HBs2 := Lib.hid hBs
    have Hat := Lib.hid hat
    clear hJk hbw hBs hat
    by_cases hlt : k < s.size
    · have hwf := wd_fit hlt
      have hwp := wd_pos hlt
      have hTr : Hid (Tabs wr) := HT.out.on (by rw [Hn0.out]; exact Hbw.out)
      gi_wp2_with (refine ⟨trivial, ?_⟩; gi_at_call 343; refine (callsIn_wide.2 (next_any s k hlt (by omega) _ hTr.out)).mono ?_; rintro e w2 ⟨rfl, hb2⟩; have hb3 : Hid (Below wr.heap.size wr w2) := hb2; clear hb2; have hJ2 := HJ.out _ _ _ _ HJk.out (Below.grownBy' hb3.out) (fun _ e => by cases e); have hpre : pre ++ [k] <+: ats s := (by rw [Hat.out, atsFrom_cons hlt]; exact ⟨atsFrom s (k + wd s k), by simp⟩); obtain ⟨fn, tmps, assign, body, hy, hR⟩ := HY.out _ _ w2 hJ2 hpre; simp only [runeEnc] at hy; have HR := Lib.hid hR; clear hJ2 hR hpre)
      refine HR.out.mono ?_
      rintro e W3 (⟨rfl, hJ3, hk3⟩ | ⟨rfl, hJx3⟩)
      · have Hk3 := Lib.hid hk3
        have HJ3 := Lib.hid hJ3
        clear hk3 hJ3
        gi_wp2
        go_roundw
        case rel => exact ⟨pre ++ [k], k + wd s k, by omega, by go_num, by rw [Hat.out, atsFrom_cons hlt]; simp, HJ3.out, (Hbw.out.trans (hb3.out.mono (Hn0.out ▸ Hbw.out.size))).trans Hk3.out.1, Nat.le_trans (Nat.le_trans hsz hb3.out.size) Hk3.out.1.size, Hk3.out.2 _ (Boxed.on HBs2.out hb3.out)⟩
        case measure => simp [intOf]; omega
      · gi_wp2
        refine bodyPost_ret (results_none rfl _ _ _) rfl ?_
        refine ⟨⟨_, rfl⟩, .inr ⟨_, ?_, hJx3⟩⟩
        rw [Hat.out, atsFrom_cons hlt]
        exact ⟨atsFrom s (k + wd s k), by simp⟩
    · obtain rfl : k = s.size := by omega
      have hfin : Hid (ats s = pre) := by show _ = _; rw [Hat.out, atsFrom_nil (Nat.le_refl _), List.append_nil]
      gi_wp2
      go_end0
      exact ⟨⟨_, rfl⟩, .inl ⟨_, rfl, by rw [hfin.out]; exact HJk.out⟩⟩

theorem runes_stops (n0 Bs : Nat) (s : ByteArray) (hs : s.size ≤ 9223372036854775800) (w0 : World) (hT : Tabs w0) (hn0 : w0.heap.size = n0) (d : Nat) (hd1 : 1 ≤ d) (W0 : World) (hW0 : Below n0 w0 W0) (hBs : Boxed W0 Bs 9 (.string s)) :
    SeqOk Fence.wide d Tryz.prog 345 #[.pointer (some ⟨Bs, 0, none⟩)] (runeEnc s) (KeepsS n0 Bs) (fun ys => ys = ats s) (fun pre => pre <+: ats s) (fun pre x => pre ++ [x] <+: ats s) W0 :=
  fun l J Jx W hW hJ _ hY h0 => runes1_in n0 Bs s hs w0 hT hn0 d hd1 l J Jx W (hW0.trans (hW.mono (hn0 ▸ hW0.size))) hJ hY (Boxed.on hBs hW) h0
end Go.Proofs.YthjhakiagbdhlaaGreatDoor

/- The walks of fold.in, step, Lower, Letter, Digit, Mark. -/
namespace Go.Proofs.YthjhakiagbdhlaaGreatDoor
open Rep (rep)
open Go.RowKit

theorem in_any (r a b : Int) (w : World) : Calls Tryz.prog 344 #[.int .i32 r, .int .i32 a, .int .i32 b] w fun e w' => e = .returned (.bool (within r a b)) ∧ w = w' := by
  by_cases h : a ≤ r
  · by_cases h2 : r ≤ b
    · rw [show within r a b = true by simp [within, h, h2]]
      go_enter Tryz.func344, Tryz.ntmps344
      go_wp2
      go_ret
      exact ⟨rfl, rfl⟩
    · rw [show within r a b = false by simp [within, h2]]
      go_enter Tryz.func344, Tryz.ntmps344
      go_wp2
      go_ret
      exact ⟨rfl, rfl⟩
  · rw [show within r a b = false by simp [within, h]]
    go_enter Tryz.func344, Tryz.ntmps344
    go_wp2
    go_ret
    exact ⟨rfl, rfl⟩

/-- A call of 'in' parts the walk. -/
theorem in_parts {r a b : Int} {w : World} {R : Ending → World → Prop} (h1 : a ≤ r → r ≤ b → R (.returned (.bool true)) w) (h2 : r < a ∨ b < r → R (.returned (.bool false)) w) : Calls Tryz.prog 344 #[.int .i32 r, .int .i32 a, .int .i32 b] w R := by
  by_cases h : a ≤ r ∧ r ≤ b
  · refine (in_any r a b w).mono ?_
    rintro e w' ⟨rfl, rfl⟩
    rw [show within r a b = true by simp [within, h]]
    exact h1 h.1 h.2
  · refine (in_any r a b w).mono ?_
    rintro e w' ⟨rfl, rfl⟩
    rw [show within r a b = false by rw [within_false]; exact h]
    exact h2 (by omega)

set_option maxRecDepth 100000 in
set_option maxHeartbeats 4000000 in
theorem mark_any (r : Int) (w : World) : Calls Tryz.prog 304 #[.int .i32 r] w fun e w' => e = .returned (.bool (markB r)) ∧ w = w' := by
  have hx := markB_iff r
  obtain ⟨q, hq⟩ : ∃ q, markB r = q := ⟨_, rfl⟩
  rw [hq] at hx ⊢
  have Hx := Lib.hid hx
  clear hx hq
  all_goals
    go_enter Tryz.func304, Tryz.ntmps304
    go_wp2_with (go_at_call 344; refine in_parts (fun _ _ => ?_) (fun _ => ?_))
    all_goals
      go_ret
      refine ⟨ret_bool ?_, rfl⟩
      have hx := Hx.out
      clear Hx
      cases q <;> simp at hx ⊢ <;> (try simp only [beq_iff_eq, beq_eq_false_iff_ne, bne_iff_ne, bne_eq_false_iff_eq, ne_eq, Bool.not_eq_true, Bool.not_eq_false] at *) <;> omega

set_option maxRecDepth 100000 in
set_option maxHeartbeats 4000000 in
theorem digit_any (r : Int) (w : World) : Calls Tryz.prog 302 #[.int .i32 r] w fun e w' => e = .returned (.bool (digitB r)) ∧ w = w' := by
  have hx := digitB_iff r
  obtain ⟨q, hq⟩ : ∃ q, digitB r = q := ⟨_, rfl⟩
  rw [hq] at hx ⊢
  have Hx := Lib.hid hx
  clear hx hq
  all_goals
    go_enter Tryz.func302, Tryz.ntmps302
    go_wp2_with (go_at_call 344; refine in_parts (fun _ _ => ?_) (fun _ => ?_))
    all_goals
      go_ret
      refine ⟨ret_bool ?_, rfl⟩
      have hx := Hx.out
      clear Hx
      cases q <;> simp at hx ⊢ <;> (try simp only [beq_iff_eq, beq_eq_false_iff_ne, bne_iff_ne, bne_eq_false_iff_eq, ne_eq, Bool.not_eq_true, Bool.not_eq_false] at *) <;> omega

end Go.Proofs.YthjhakiagbdhlaaGreatDoor

/- The walks of fold.step and fold.Lower. -/
namespace Go.Proofs.YthjhakiagbdhlaaGreatDoor
open Rep (rep)
open Go.RowKit

theorem i32_and_one (r : Int) (h0 : 0 ≤ r) (h1 : r ≤ 0x10FFFF) : bits .and .i32 r 1 = r % 2 := by
  obtain ⟨n, rfl⟩ := Int.eq_ofNat_of_zero_le h0
  have h2 : n &&& 1 = n % 2 := Nat.and_one_is_mod n
  have e1 : (BitVec.ofInt 32 (n : Int)).toNat = n := by rw [BitVec.ofInt_natCast, BitVec.toNat_ofNat]; exact Nat.mod_eq_of_lt (by omega)
  have e2 : (BitVec.ofInt 32 1).toNat = 1 := by decide
  show IntKind.i32.wrap ((BitVec.ofInt 32 (n : Int) &&& BitVec.ofInt 32 1).toNat : Int) = _
  rw [BitVec.toNat_and, e1, e2, h2, IntKind.wrap_i32]
  omega

theorem step_any (r odd : Int) (h0 : 0 ≤ r) (h1 : r ≤ 0x10FFFF) (w : World) : Calls Tryz.prog 370 #[.int .i32 r, .int .i32 odd] w fun e w' => e = .returned (.int .i32 (if r % 2 = odd then r + 1 else r)) ∧ w = w' := by
  have hb := i32_and_one r h0 h1
  by_cases h : r % 2 = odd
  · rw [if_pos h]
    have h' : (r % 2 == odd) = true := by simp [h]
    clear h
    go_enter Tryz.func370, Tryz.ntmps370
    go_wp2
    go_ret
    exact ⟨rfl, rfl⟩
  · rw [if_neg h]
    have h' : (r % 2 == odd) = false := by simp [h]
    clear h
    go_enter Tryz.func370, Tryz.ntmps370
    go_wp2
    go_ret
    exact ⟨rfl, rfl⟩

set_option maxRecDepth 100000 in
set_option maxHeartbeats 4000000 in
theorem lower_any (r : Int) (h0 : 0 ≤ r) (h1 : r ≤ 0x10FFFF) (w : World) : Calls Tryz.prog 363 #[.int .i32 r] w fun e w' => e = .returned (.int .i32 (lowerR r)) ∧ w = w' := by
  go_enter Tryz.func363, Tryz.ntmps363
  go_wp2_with (first
    | (go_at_call 344; refine in_parts (fun _ _ => ?_) (fun _ => ?_))
    | (go_at_call 370; refine (step_any _ _ h0 h1 _).mono ?_; rintro e w' ⟨rfl, rfl⟩))
  all_goals
    go_ret
    refine ⟨ret_num ?_, rfl⟩
    (try simp only [beq_iff_eq, beq_eq_false_iff_ne, bne_iff_ne, bne_eq_false_iff_eq, ne_eq, Bool.not_eq_true, Bool.not_eq_false] at *)
    unfold lowerR
    simp only [among_iff1, among_iff3, among_iff6]
    first
    | omega
    | ((repeat (first | rw [if_pos (by omega)] | rw [if_neg (by omega)])); first | done | omega | (split <;> omega))
end Go.Proofs.YthjhakiagbdhlaaGreatDoor

/- Laws of append over what reads as plain data: one element behind a row of the call's own; numbers copied into a row of the call's own. No program stands here. -/
set_option linter.unusedVariables false
set_option linter.unusedSimpArgs false
namespace Go.Proofs.YthjhakiagbdhlaaGreatDoor
open Rep (rep)
open Go.RowKit

section
variable {P : Program} {w : World}

theorem rowOfBlk {B : Nat} {e : TypeId} {cs : Array Value} (h : Blk w B e cs) (m size : Nat) (hs : cs.size = m * size) : Reads w w.heap.size size (some ⟨B, 0, none⟩) m cs.toList := by
  refine ⟨by simpa using hs, fun _ => ⟨_, rfl, h.lt, fun j u hu => ?_⟩⟩
  rw [addr_head, h.cell j]
  simpa using hu

/-- append(out, y), y just laid in a block of its own. -/
theorem wpList_push {α : Type} [Rep α] {D : Nat → Prop} {ops : Array Oper} {rest : List Oper} {o : Oper} {a : Act} {Q : Exit → Act → World → Prop} (hgd : o.guard = none) (s x : Operand) (t : TypeId)
    (ho : o.op = .call { callee := .builtin .append, args := #[s, x], argTypes := #[t, t] })
    (base : Nat) (e : TypeId) (i : TypeInfo) (z : Value) (bytes : Nat) (ht : P.underlying t = some (.slice e)) (hi : P.info? e = some i) (hz : i.zero = some z)
    (hsize : i.size = Rep.size α) (hby : i.bytes = bytes) (hzs : z.cells.size = Rep.size α)
    (v : Value) (xs : List α) (hs : a.eval s = v) (hown : Own D w base e v xs)
    (B : Nat) (cs : Array Value) (y : α) (hx : a.eval x = .slice (some ⟨B, 0, none⟩) 1 1) (hblk : Blk w B e cs) (hy : rep w (Fr D w v) cs.toList y)
    (h63 : xs.length + 1 ≤ 9223372036854775807) (hbytes : (xs.length + 1) * bytes ≤ 140737488355328) (hbase : base ≤ w.heap.size)
    (h : ∀ v' w', Own D w' base e v' (xs ++ [y]) → w.grownBy w' v.ownBlock → Below base w w' → wpList P ops Q rest (a.put o.dst v') w') : wpList P ops Q (o :: rest) a w := by
  have hown0 := hown
  obtain ⟨css, hl, hr, hr2⟩ := hown
  have hsz : cs.size = 1 * Rep.size α := by have := Rep.len hy; simpa using this
  refine wpList_append_any w hgd s x t ho base e i z (Rep.size α) bytes ht hi hz hsize hby hzs Rep.pos v xs.length css.flatten hs hr2 w.heap.size (some ⟨B, 0, none⟩) 1 1 cs.toList hx (rowOfBlk hblk 1 _ hsz) (fun u hu => Rep.one hy hu) h63 hbytes hbase ?_
  intro v' w' ho' hg hat
  exact h v' w' (own_push hl hr hy ho' hg hat) hg ((Below.refl _ _).grown hg hbase (fun k hk => by
    rcases hown0.from_ with e1 | ⟨k', e1, hk'⟩
    · rw [e1] at hk; cases hk
    · rw [e1] at hk; cases hk; exact hk'))

/-- append(nil, l...), append([]int64{}, l...): the numbers in a row of the call's own. -/
theorem wpList_copyInts {ops : Array Oper} {rest : List Oper} {o : Oper} {a : Act} {Q : Exit → Act → World → Prop} (hgd : o.guard = none) (s x : Operand) (t : TypeId)
    (ho : o.op = .call { callee := .builtin .append, args := #[s, x], argTypes := #[t, t] })
    (base : Nat) (e : TypeId) (i : TypeInfo) (ht : P.underlying t = some (.slice e)) (hi : P.info? e = some i) (hz : i.zero = some (.int .i64 0))
    (hsize : i.size = 1) (hby : i.bytes = 8)
    (v : Value) (hs : a.eval s = v) (hv : w.ownsRow base e 1 v 0 [])
    (A : Option Addr) (n c : Nat) (xs : List Int) (hx : a.eval x = .slice A n c) (hr : RepList w (· < w.heap.size) A n c xs)
    (hn : n ≤ 17592186044416) (hbase : base ≤ w.heap.size)
    (h : ∀ A' c' w', w'.ownsRow base e 1 (.slice A' n c') n (ints xs) → RepList w' (fun b => base ≤ b ∧ b < w'.heap.size) A' n c' xs → w.grownBy w' v.ownBlock → Below base w w' → wpList P ops Q rest (a.put o.dst (.slice A' n c')) w') : wpList P ops Q (o :: rest) a w := by
  refine wpList_append_any w hgd s x t ho base e i (.int .i64 0) 1 8 ht hi hz hsize hby rfl (by omega) v 0 [] hs hv w.heap.size A n c (ints xs) hx hr.reads_ints (ints_one xs) (by unfold maxLen; omega) (by omega) hbase ?_
  intro v' w' ho' hg hat
  simp only [Nat.zero_add, List.nil_append] at ho'
  obtain ⟨A', c', rfl⟩ := own_slice ho'
  exact h A' c' w' ho' (own_reads ho' hr.in64) hg ((Below.refl _ _).grown hg hbase (fun k hk => by
    rcases own_from hv with e1 | ⟨k', e1, hk'⟩
    · rw [e1] at hk; cases hk
    · rw [e1] at hk; cases hk; exact hk'))
end

/-- An empty row in a block that has just been laid. -/
theorem own_empty (w : World) (e : TypeId) (size : Nat) : (w.alloc (.cells #[] e)).ownsRow w.heap.size e size (.slice (some ⟨w.heap.size, 0, none⟩) 0 0) 0 [] :=
  World.ownsRow_lit (base := w.heap.size) (e := e) (size := size) w #[] 0 (Nat.le_refl _) (by simp [maxLen]) (by simp)

/-! ### lists that are lent: a mark stands behind them -/
/-- Behind the n elements of a slice stands a mark, within its capacity. -/
def MarkAt (w : World) (F : Nat → Prop) (size : Nat) (A : Option Addr) (n c : Nat) (mark : Value) : Prop :=
  n + 1 ≤ c ∧ ∃ b off, A = some ⟨b, off, none⟩ ∧ F b ∧ w.cell? ⟨b, off + n * size, none⟩ = some mark
theorem MarkAt.keep {w w' : World} {F F' : Nat → Prop} {size : Nat} {A : Option Addr} {n c : Nat} {mark : Value} (h : MarkAt w F size A n c mark) (hc : ∀ p : Addr, F p.block → w'.cell? p = w.cell? p) (hF : ∀ b, F b → F' b) : MarkAt w' F' size A n c mark := by
  obtain ⟨h1, b, off, e, hb, hm⟩ := h
  exact ⟨h1, b, off, e, hF b hb, (hc _ hb).trans hm⟩
theorem MarkAt.on {w w' : World} {size : Nat} {A : Option Addr} {n c : Nat} {mark : Value} (h : MarkAt w (· < w.heap.size) size A n c mark) (hb : Below w.heap.size w w') : MarkAt w' (· < w'.heap.size) size A n c mark :=
  h.keep (fun _ hp => hb.cell hp) (fun b h => Nat.lt_of_lt_of_le h hb.size)

/-- Numbers that were lent. -/
structure LInts where
  val : List Int
instance : Rep LInts where
  size := 1
  pos := by decide
  rep w F cs x := ∃ A n c, cs = [.slice A n c] ∧ RepList w F A n c x.val ∧ MarkAt w F 1 A n c (.int .i64 (-7171))
  len := by rintro _ _ _ _ ⟨A, n, c, rfl, _⟩; rfl
  keep := by rintro _ _ _ _ _ _ ⟨A, n, c, rfl, h, hm⟩ hc hF; exact ⟨A, n, c, rfl, h.keep hc hF, hm.keep hc hF⟩
  one := by rintro _ _ _ _ _ ⟨A, n, c, rfl, _⟩ hu; simp at hu; subst hu; rfl

/-- A row of the call's own behind which a mark is laid: it reads as before, with the mark behind it. -/
theorem lent_of_push {α : Type} [Rep α] {D : Nat → Prop} {w w' : World} {base : Nat} {e : TypeId} {v : Value} {A' : Option Addr} {c' : Nat} {xs : List α} {css : List (List Value)} {mcs : List Value} {mark : Value}
    (hl : css.length = xs.length) (hr : ∀ (k : Nat) (cs : List Value) (x : α), css[k]? = some cs → xs[k]? = some x → rep w (Fr D w v) cs x)
    (hm : mcs[0]? = some mark) (ho' : w'.ownsRow base e (Rep.size α) (.slice A' (xs.length + 1) c') (xs.length + 1) (css.flatten ++ mcs))
    (hg : w.grownBy w' v.ownBlock) : RepList w' (fun b => (D b ∨ base ≤ b) ∧ b < w'.heap.size) A' xs.length c' xs ∧ MarkAt w' (fun b => (D b ∨ base ≤ b) ∧ b < w'.heap.size) (Rep.size α) A' xs.length c' mark := by
  have hlen := Own.lens hl hr
  have hcap := own_cap ho'
  obtain ⟨g, cap, hv, hb, hlt⟩ := ho'.form (by omega)
  injection hv with hA _ _
  subst hA
  have hfl : css.flatten.length = xs.length * Rep.size α := by rw [flat_length css hlen, hl]
  refine ⟨⟨rfl, by omega, hcap.2, fun k x hx => ?_⟩, by omega, g, 0, rfl, ⟨.inr hb, hlt⟩, ?_⟩
  · have hk := lt_of_get? hx
    refine ⟨g, 0, rfl, ⟨.inr hb, hlt⟩, css[k]'(by omega), Rep.keep (hr k _ x (List.getElem?_eq_getElem (by omega)) hx) (fun p hp => World.cell?_of_block (hg.block p.block hp.2.1 hp.2.2)) (fun b hb => ⟨.inl hb.1, Nat.lt_of_lt_of_le hb.2.1 hg.size⟩), fun j u hu => ?_⟩
    have hj : j < Rep.size α := by
      have := hlen (css[k]'(by omega)) (List.getElem_mem _)
      have := lt_of_get? hu
      omega
    have hf := flat_get css k j _ hlen (List.getElem?_eq_getElem (by omega)) hj
    have hlt2 : k * Rep.size α + j < css.flatten.length := by have := lt_of_get? (hf.trans hu); exact this
    have hc := ho'.cells (g := g) rfl (k * Rep.size α + j) u (by rw [List.getElem?_append_left hlt2, hf]; exact hu)
    rw [addr_head] at hc
    rw [Nat.zero_add]
    exact hc
  · have hc := ho'.cells (g := g) rfl (xs.length * Rep.size α) mark (by rw [List.getElem?_append_right (by omega), hfl, Nat.sub_self]; exact hm)
    rw [addr_head] at hc
    rw [Nat.zero_add]
    exact hc

section
variable {P : Program} {w : World}
/-- append(full, mark), the mark just laid in a block of its own. -/
theorem wpList_mark {α : Type} [Rep α] {D : Nat → Prop} {ops : Array Oper} {rest : List Oper} {o : Oper} {a : Act} {Q : Exit → Act → World → Prop} (hgd : o.guard = none) (s x : Operand) (t : TypeId)
    (ho : o.op = .call { callee := .builtin .append, args := #[s, x], argTypes := #[t, t] })
    (base : Nat) (e : TypeId) (i : TypeInfo) (z : Value) (bytes : Nat) (ht : P.underlying t = some (.slice e)) (hi : P.info? e = some i) (hz : i.zero = some z)
    (hsize : i.size = Rep.size α) (hby : i.bytes = bytes) (hzs : z.cells.size = Rep.size α)
    (v : Value) (xs : List α) (hs : a.eval s = v) (hown : Own D w base e v xs)
    (B : Nat) (cs : Array Value) (mark : Value) (hx : a.eval x = .slice (some ⟨B, 0, none⟩) 1 1) (hblk : Blk w B e cs) (hsz : cs.size = Rep.size α) (h1 : ∀ u ∈ cs.toList, u.oneCell' = true) (hm : cs.toList[0]? = some mark)
    (h63 : xs.length + 1 ≤ 9223372036854775807) (hbytes : (xs.length + 1) * bytes ≤ 140737488355328) (hbase : base ≤ w.heap.size)
    (h : ∀ A' c' w', RepList w' (fun b => (D b ∨ base ≤ b) ∧ b < w'.heap.size) A' xs.length c' xs → MarkAt w' (fun b => (D b ∨ base ≤ b) ∧ b < w'.heap.size) (Rep.size α) A' xs.length c' mark → Below base w w' → wpList P ops Q rest (a.put o.dst (.slice A' (xs.length + 1) c')) w') : wpList P ops Q (o :: rest) a w := by
  have hown0 := hown
  obtain ⟨css, hl, hr, hr2⟩ := hown
  refine wpList_append_any w hgd s x t ho base e i z (Rep.size α) bytes ht hi hz hsize hby hzs Rep.pos v xs.length css.flatten hs hr2 w.heap.size (some ⟨B, 0, none⟩) 1 1 cs.toList hx (rowOfBlk hblk 1 _ (by omega)) h1 h63 hbytes hbase ?_
  intro v' w' ho' hg hat
  obtain ⟨A', c', rfl⟩ := own_slice ho'
  obtain ⟨q1, q2⟩ := lent_of_push hl hr hm ho' hg
  exact h A' c' w' q1 q2 ((Below.refl _ _).grown hg hbase (fun k hk => by
    rcases hown0.from_ with e1 | ⟨k', e1, hk'⟩
    · rw [e1] at hk; cases hk
    · rw [e1] at hk; cases hk; exact hk'))
end

end Go.Proofs.YthjhakiagbdhlaaGreatDoor

/- More plain data in memory: numbers of 32 bits, bytes, pairs; a list in a block that has just been laid. No program stands here. -/
namespace Go.Proofs.YthjhakiagbdhlaaGreatDoor
open Rep (rep)
open Go.RowKit

/-- A number that lies as an int32. -/
structure I32 where
  val : Int
instance : Rep I32 where
  size := 1
  pos := by decide
  rep _ _ cs x := cs = [.int .i32 x.val]
  len := by rintro _ _ _ _ rfl; rfl
  keep := fun h _ _ => h
  one := by rintro _ _ _ _ _ rfl hu; simp at hu; subst hu; rfl
instance : Rep UInt8 where
  size := 1
  pos := by decide
  rep _ _ cs x := cs = [.int .u8 (x.toNat : Int)]
  len := by rintro _ _ _ _ rfl; rfl
  keep := fun h _ _ => h
  one := by rintro _ _ _ _ _ rfl hu; simp at hu; subst hu; rfl
theorem ElemAt.i32 {w : World} {F : Nat → Prop} {b off k : Nat} {x : I32} (h : ElemAt w F b off k x) : w.cell? ⟨b, off + k, none⟩ = some (.int .i32 x.val) := by
  obtain ⟨cs, rfl, hc⟩ := h
  have := hc 0 _ rfl
  simpa only [show Rep.size I32 = 1 from rfl, Nat.mul_one, Nat.add_zero] using this
theorem ElemAt.u8 {w : World} {F : Nat → Prop} {b off k : Nat} {x : UInt8} (h : ElemAt w F b off k x) : w.cell? ⟨b, off + k, none⟩ = some (.int .u8 (x.toNat : Int)) := by
  obtain ⟨cs, rfl, hc⟩ := h
  have := hc 0 _ rfl
  simpa only [show Rep.size UInt8 = 1 from rfl, Nat.mul_one, Nat.add_zero] using this

/-- A list whose cells stand in a block that is known whole. -/
theorem RepList.of_blk {α : Type} [Rep α] {w : World} {F : Nat → Prop} {b : Nat} {t : TypeId} {css : List (List Value)} {xs : List α} {cs : Array Value} (h : Blk w b t cs) (hcs : cs.toList = css.flatten) (hl : css.length = xs.length)
    (hr : ∀ (k : Nat) (c : List Value) (x : α), css[k]? = some c → xs[k]? = some x → rep w F c x) (hF : F b) {n c : Nat} (hn : xs.length = n) (hc : n ≤ c) (hm : c ≤ 9223372036854775807) : RepList w F (some ⟨b, 0, none⟩) n c xs := by
  have hlen : ∀ c ∈ css, c.length = Rep.size α := by
    intro c hc
    obtain ⟨k, hk⟩ := List.getElem?_of_mem hc
    have hk2 : k < xs.length := by have := lt_of_get? hk; omega
    exact Rep.len (hr k c xs[k] hk (List.getElem?_eq_getElem hk2))
  refine RepList.of_elems hn hc hm hF (fun k x hx => ?_)
  have hk := lt_of_get? hx
  refine ⟨css[k]'(by omega), hr k _ x (List.getElem?_eq_getElem (by omega)) hx, fun j u hu => ?_⟩
  have hj : j < Rep.size α := by
    have := hlen (css[k]'(by omega)) (List.getElem_mem _)
    have := lt_of_get? hu
    omega
  rw [h.cell, Nat.zero_add, ← Array.getElem?_toList, hcs, flat_get css k j _ hlen (List.getElem?_eq_getElem (by omega)) hj]
  exact hu
def i32s (xs : List Int) : List I32 := xs.map I32.mk
theorem i32s_len (xs : List Int) : (i32s xs).length = xs.length := by simp [i32s]
theorem i32s_get {xs : List Int} {k : Nat} {x : I32} (h : (i32s xs)[k]? = some x) : xs[k]? = some x.val := by
  simp [i32s] at h
  obtain ⟨a, h1, rfl⟩ := h
  exact h1
/-- A row of numbers in a block that has just been laid. -/
theorem reads_i32s (w : World) (e : TypeId) (n : Nat) (xs : List Int) (h : xs.length = n) (hn : n ≤ 100000) : RepList (w.alloc (.cells (xs.map (Value.int .i32)).toArray e)) (· < (w.alloc (.cells (xs.map (Value.int .i32)).toArray e)).heap.size) (some ⟨w.heap.size, 0, none⟩) n n (i32s xs) := by
  refine RepList.of_blk (css := xs.map fun x => [Value.int .i32 x]) (Blk.new w e _) ?_ (by simp [i32s]) (fun k c x h1 h2 => ?_) (by simp) (by simp [i32s, h]) (Nat.le_refl _) (by omega)
  · clear h hn
    induction xs with
    | nil => rfl
    | cons a l ih => simp at ih ⊢; exact ih
  · have h3 := i32s_get h2
    rw [List.getElem?_map, h3] at h1
    simp at h1
    subst h1
    rfl
/-- Element k of a list, where it lies. -/
theorem RepList.at_b {α : Type} [Rep α] {w : World} {F : Nat → Prop} {b off n c k : Nat} {xs : List α} (h : RepList w F (some ⟨b, off, none⟩) n c xs) (hk : k < n) : ∃ x, Hid (xs[k]? = some x) ∧ ElemAt w F b off k x := by
  obtain ⟨b', off', x, e, hx, _, he⟩ := h.at_ hk
  cases e
  exact ⟨x, hx, he⟩
end Go.Proofs.YthjhakiagbdhlaaGreatDoor

/- Rows that a loop over an iterator fills: append within a fence; rows whose elements lie nowhere else go on wherever their own block has not turned. No program stands here. -/
namespace Go.Proofs.YthjhakiagbdhlaaGreatDoor
open Rep (rep)
open Go.RowKit

/-- append(out, y) within a fence, y just laid in a block of its own. -/
theorem wpListIn_push {α : Type} [Rep α] {F : Fence} {nF : Nat} {P : Program} {w : World} {D : Nat → Prop} {ops : Array Oper} {rest : List Oper} {o : Oper} {a : Act} {Q : Exit → Act → World → Prop} (hgd : o.guard = none) (s x : Operand) (t : TypeId)
    (ho : o.op = .call { callee := .builtin .append, args := #[s, x], argTypes := #[t, t] })
    (base : Nat) (e : TypeId) (i : TypeInfo) (z : Value) (bytes : Nat) (ht : P.underlying t = some (.slice e)) (hi : P.info? e = some i) (hz : i.zero = some z)
    (hsize : i.size = Rep.size α) (hby : i.bytes = bytes) (hzs : z.cells.size = Rep.size α)
    (v : Value) (xs : List α) (hs : a.eval s = v) (hown : Own D w base e v xs)
    (B : Nat) (cs : Array Value) (y : α) (hx : a.eval x = .slice (some ⟨B, 0, none⟩) 1 1) (hblk : Blk w B e cs) (hy : rep w (Fr D w v) cs.toList y)
    (h63 : xs.length + 1 ≤ 9223372036854775807) (hbytes : (xs.length + 1) * bytes ≤ 140737488355328) (hbase : base ≤ w.heap.size)
    (h : ∀ v' w', Own D w' base e v' (xs ++ [y]) → w.grownBy w' v.ownBlock → Below base w w' → wpListIn F nF P ops Q rest (a.put o.dst v') w') : wpListIn F nF P ops Q (o :: rest) a w := by
  have hown0 := hown
  obtain ⟨css, hl, hr, hr2⟩ := hown
  have hsz : cs.size = 1 * Rep.size α := by have := Rep.len hy; simpa using this
  refine wpListIn_append_own_at w hgd s x t ho base e i z (Rep.size α) bytes ht hi hz hsize hby hzs Rep.pos v xs.length css.flatten hs hr2 ⟨B, 0, none⟩ 1 1 cs.toList hx (by simpa using hsz) (fun j u hu => ?_) (fun u hu => Rep.one hy hu) h63 hbytes hbase ?_
  · rw [addr_head, hblk.cell j]; simpa using hu
  intro v' w' ho' hg _ hat
  exact h v' w' (own_push hl hr hy ho' hg hat) hg ((Below.refl _ _).grown hg hbase (fun k hk => by
    rcases hown0.from_ with e1 | ⟨k', e1, hk'⟩
    · rw [e1] at hk; cases hk
    · rw [e1] at hk; cases hk; exact hk'))


/-- No block at all. -/
abbrev Flat : Nat → Prop := fun _ => False
theorem own_flat {α : Type} [Rep α] {base : Nat} {e : TypeId} {W W' : World} {row : Option Nat} {v : Value} {xs : List α} (h : Own Flat W base e v xs) (hg : W.grownBy W' row) (hv : v.ownBlock = none ∨ v.ownBlock ≠ row) : Own Flat W' base e v xs := by
  obtain ⟨css, hl, hre, ho⟩ := h
  exact ⟨css, hl, fun k cs x h1 h2 => Rep.keep (hre k cs x h1 h2) (fun p hp => hp.1.elim) (fun b hb => hb.1.elim), ho.kept hg hv⟩
theorem own_push_flat {α : Type} [Rep α] {D : Nat → Prop} {w : World} {v : Value} {cs : List Value} {y : α} (h : rep w Flat cs y) : rep w (Fr D w v) cs y := Rep.more h (fun _ hb => hb.elim)
theorem own_ne_box {α : Type} [Rep α] {D : Nat → Prop} {base : Nat} {e t : TypeId} {W : World} {B : Nat} {v u : Value} {xs : List α} (h : Own D W base e v xs) (hb : Boxed W B t u) (hte : t ≠ e) : v.ownBlock = none ∨ v.ownBlock ≠ some B := by
  obtain ⟨_, _, _, ho⟩ := h
  exact .inr (fun e => hb.not_row hte ho e.symm)
/-- What is no cells is not an owned row's block. -/
theorem own_ne_other {α : Type} [Rep α] {D : Nat → Prop} {base : Nat} {e : TypeId} {W : World} {v : Value} {xs : List α} (h : Own D W base e v xs) {row : Option Nat} (hr : ∀ r, row = some r → ∃ o : Obj, W.heap[r]? = some o ∧ o.isCells = false) : v.ownBlock = none ∨ v.ownBlock ≠ row := by
  cases hob : v.ownBlock with
  | none => exact .inl rfl
  | some g =>
    refine .inr (fun e => ?_)
    obtain ⟨_, _, _, ho'⟩ := h
    obtain ⟨o, ho, hc⟩ := hr _ e.symm
    rcases ho'.2 with ⟨rfl, _⟩ | ⟨g', cap, cur, rfl, _, hgb, _⟩
    · cases hob
    · cases hob; rw [hgb] at ho; cases ho; cases hc
/-- An owned row within a box, carried from round to round: it is of the cells alone. -/
theorem boxedOwn_from {α β : Type} [Rep α] (n0 B : Nat) (t e : TypeId) (base : Nat) (f : β → List α) : OwnFrom n0 (fun (s : β) W => ∃ v, Boxed W B t v ∧ Own Flat W base e v (f s)) := by
  rintro s X Y row ⟨v, h1, h2⟩ hg hr
  refine ⟨v, h1.kept hg (fun e => ?_), own_flat h2 hg (own_ne_other h2 (fun r e => (hr r e).2))⟩
  obtain ⟨_, o, ho, hc⟩ := hr _ e.symm
  rw [show X.heap[_]? = _ from h1] at ho; cases ho; cases hc
theorem grownBy_setC (W : World) (p : Addr) (v : Value) : W.grownBy (W.setCell p v) (some p.block) :=
  ⟨rfl, rfl, rfl, by simp [World.setCell], fun k _ hk => Below.heap_setCell _ _ _ k (fun e => hk (by rw [e]))⟩
/-- An append onto an owned row within a box, and the store back. -/
theorem boxed_appended {α : Type} [Rep α] {W w1 w2 : World} {base B : Nat} {t e : TypeId} {v v' : Value} {xs ys : List α} (hb : Boxed W B t v) (ho : Own Flat W base e v xs) (hte : t ≠ e) (hg1 : W.grownBy w1 none) (hg2 : w1.grownBy w2 v.ownBlock) (ho' : Own Flat w2 base e v' ys) :
    Boxed w2 B t v ∧ Boxed (w2.setCell ⟨B, 0, none⟩ v') B t v' ∧ Own Flat (w2.setCell ⟨B, 0, none⟩ v') base e v' ys ∧ KeepsOthers W (w2.setCell ⟨B, 0, none⟩ v') := by
  have b1 := hb.kept hg1 (by simp)
  have o1 := own_flat ho hg1 (by cases v.ownBlock <;> simp)
  have hne := own_ne_box o1 b1 hte
  have b2 := b1.kept hg2 (by rcases hne with h | h; · rw [h]; simp
                             · exact fun e => h e.symm)
  refine ⟨b2, b2.set _, own_flat ho' (grownBy_setC _ _ _) (own_ne_box ho' b2 hte), ?_⟩
  refine ((KeepsOthers.of_grownBy hg1 (fun j o ej hj => by cases ej)).trans (KeepsOthers.of_grownBy hg2 (fun j o ej hj => ?_))).trans (KeepsOthers.setCell _ _ _)
  obtain ⟨_, _, _, hr⟩ := o1
  rcases hr.2 with ⟨hv, _⟩ | ⟨g, cap, cur, hv, _, hgb, _⟩
  · rw [hv] at ej; cases ej
  · rw [hv] at ej; cases ej; rw [hgb] at hj; cases hj; rfl
/-- The block for deferred calls lies as it lay behind a new block and an append onto an owned row. -/
theorem deferred_kept {α : Type} [Rep α] {D : Nat → Prop} {W w1 : World} {o : Obj} {k base : Nat} {e : TypeId} {v : Value} {xs : List α} (h : W.heap[k]? = some (.deferred (some []))) (hg : (W.alloc o).grownBy w1 v.ownBlock) (ho : Own D (W.alloc o) base e v xs) : w1.heap[k]? = some (.deferred (some [])) := by
  have hk := (Array.getElem?_eq_some_iff.1 h).1
  have h1 : (W.alloc o).heap[k]? = some (.deferred (some [])) := (Below.heap_alloc W o k hk).trans h
  refine (hg.block k (by simp; omega) (fun e => ?_)).trans h1
  obtain ⟨_, _, _, hr⟩ := ho
  rcases hr.2 with ⟨hv, _⟩ | ⟨g, cap, cur, hv, _, hgb, _⟩
  · rw [hv] at e; cases e
  · rw [hv] at e; cases e; rw [hgb] at h1; cases h1
/-- Two owned rows of two types lie in two blocks. -/
theorem own_ne_own {α β : Type} [Rep α] [Rep β] {D D' : Nat → Prop} {b1 b2 : Nat} {e1 e2 : TypeId} {W : World} {v u : Value} {xs : List α} {ys : List β} (h : Own D W b1 e1 v xs) (k : Own D' W b2 e2 u ys) (hte : e1 ≠ e2) : v.ownBlock = none ∨ v.ownBlock ≠ u.ownBlock := by
  cases hob : v.ownBlock with
  | none => exact .inl rfl
  | some g =>
    refine .inr (fun e => ?_)
    obtain ⟨_, _, _, hr⟩ := h
    obtain ⟨_, _, _, kr⟩ := k
    rcases hr.2 with ⟨rfl, _⟩ | ⟨g1, _, _, rfl, _, hgb, _⟩
    · cases hob
    · cases hob
      rcases kr.2 with ⟨rfl, _⟩ | ⟨g2, _, _, rfl, _, kgb, _⟩
      · cases e
      · cases e
        rw [hgb] at kgb
        cases kgb
        exact hte rfl
/-- append(out, y), y of plain parts that lie nowhere else, just laid in a block of its own. -/
theorem wpList_pushF {α : Type} [Rep α] {P : Program} {w : World} {ops : Array Oper} {rest : List Oper} {o : Oper} {a : Act} {Q : Exit → Act → World → Prop} (hgd : o.guard = none) (s x : Operand) (t : TypeId)
    (ho : o.op = .call { callee := .builtin .append, args := #[s, x], argTypes := #[t, t] })
    (base : Nat) (e : TypeId) (i : TypeInfo) (z : Value) (bytes : Nat) (ht : P.underlying t = some (.slice e)) (hi : P.info? e = some i) (hz : i.zero = some z)
    (hsize : i.size = Rep.size α) (hby : i.bytes = bytes) (hzs : z.cells.size = Rep.size α)
    (v : Value) (xs : List α) (hs : a.eval s = v) (hown : Own Flat w base e v xs)
    (B : Nat) (cs : Array Value) (y : α) (hx : a.eval x = .slice (some ⟨B, 0, none⟩) 1 1) (hblk : Blk w B e cs) (hy : rep w Flat cs.toList y)
    (h63 : xs.length + 1 ≤ 9223372036854775807) (hbytes : (xs.length + 1) * bytes ≤ 140737488355328) (hbase : base ≤ w.heap.size)
    (h : ∀ A' c' w', Own Flat w' base e (.slice A' (xs.length + 1) c') (xs ++ [y]) → w.grownBy w' v.ownBlock → Below base w w' → wpList P ops Q rest (a.put o.dst (.slice A' (xs.length + 1) c')) w') : wpList P ops Q (o :: rest) a w := by
  refine wpList_push hgd s x t ho base e i z bytes ht hi hz hsize hby hzs v xs hs hown B cs y hx hblk (own_push_flat hy) h63 hbytes hbase ?_
  intro v' w' ho' hg hb
  obtain ⟨A', c', rfl⟩ := ho'.form
  rw [show (xs ++ [y]).length = xs.length + 1 by simp] at ho' ⊢
  exact h A' c' w' ho' hg hb
theorem Own.drew {α : Type} [Rep α] {D : Nat → Prop} {w : World} {base : Nat} {e : TypeId} {v : Value} {xs : List α} (h : Own D w base e v xs) : Own D w.drew base e v xs := h.on ((Below.refl _ w).drew)
/-- The same in a region that draws its order. -/
theorem step_pushF {α : Type} [Rep α] {P : Program} {w : World} {ops : Array Oper} {o : Oper} {a : Act} {K : Act → World → Prop} {Q : Exit → Act → World → Prop} {E : Prop} (hgd : o.guard = none) (s x : Operand) (t : TypeId)
    (ho : o.op = .call { callee := .builtin .append, args := #[s, x], argTypes := #[t, t] })
    (base : Nat) (e : TypeId) (i : TypeInfo) (z : Value) (bytes : Nat) (ht : P.underlying t = some (.slice e)) (hi : P.info? e = some i) (hz : i.zero = some z)
    (hsize : i.size = Rep.size α) (hby : i.bytes = bytes) (hzs : z.cells.size = Rep.size α)
    (v : Value) (xs : List α) (hs : a.eval s = v) (hown : Own Flat w base e v xs)
    (B : Nat) (cs : Array Value) (y : α) (hx : a.eval x = .slice (some ⟨B, 0, none⟩) 1 1) (hblk : Blk w B e cs) (hy : rep w Flat cs.toList y)
    (h63 : xs.length + 1 ≤ 9223372036854775807) (hbytes : (xs.length + 1) * bytes ≤ 140737488355328) (hbase : base ≤ w.heap.size)
    (h : ∀ A' c' w', Own Flat w' base e (.slice A' (xs.length + 1) c') (xs ++ [y]) → w.grownBy w' v.ownBlock → Below base w w' → K (a.put o.dst (.slice A' (xs.length + 1) c')) w') :
    if Region.wanted o (yielded ops a.tmps) = true then Oper.wp P o a w K Q else E := by
  have hown0 := hown
  obtain ⟨css, hl, hr, hr2⟩ := hown
  have hyF : rep w (Fr Flat w v) cs.toList y := own_push_flat hy
  have hsz : cs.size = 1 * Rep.size α := by have := Rep.len hy; simpa using this
  refine step_append_any w hgd s x t ho base e i z (Rep.size α) bytes ht hi hz hsize hby hzs Rep.pos v xs.length css.flatten hs hr2 w.heap.size (some ⟨B, 0, none⟩) 1 1 cs.toList hx (rowOfBlk hblk 1 _ hsz) (fun u hu => Rep.one hy hu) h63 hbytes hbase ?_
  intro v' w' ho' hg hat
  have hp := own_push hl hr hyF ho' hg hat
  obtain ⟨A', c', rfl⟩ := hp.form
  rw [show (xs ++ [y]).length = xs.length + 1 by simp] at hp ⊢
  exact h A' c' w' hp hg (below_any (v' := v) (Below.refl _ _) hbase hown0.from_ hg)
/-- The same, and where the row lies behind it. -/
theorem step_pushG {α : Type} [Rep α] {P : Program} {w : World} {ops : Array Oper} {o : Oper} {a : Act} {K : Act → World → Prop} {Q : Exit → Act → World → Prop} {E : Prop} (hgd : o.guard = none) (s x : Operand) (t : TypeId)
    (ho : o.op = .call { callee := .builtin .append, args := #[s, x], argTypes := #[t, t] })
    (base : Nat) (e : TypeId) (i : TypeInfo) (z : Value) (bytes : Nat) (ht : P.underlying t = some (.slice e)) (hi : P.info? e = some i) (hz : i.zero = some z)
    (hsize : i.size = Rep.size α) (hby : i.bytes = bytes) (hzs : z.cells.size = Rep.size α)
    (v : Value) (xs : List α) (hs : a.eval s = v) (hown : Own Flat w base e v xs)
    (B : Nat) (cs : Array Value) (y : α) (hx : a.eval x = .slice (some ⟨B, 0, none⟩) 1 1) (hblk : Blk w B e cs) (hy : rep w Flat cs.toList y)
    (h63 : xs.length + 1 ≤ 9223372036854775807) (hbytes : (xs.length + 1) * bytes ≤ 140737488355328) (hbase : base ≤ w.heap.size)
    (h : ∀ A' c' w', Own Flat w' base e (.slice A' (xs.length + 1) c') (xs ++ [y]) → w.grownBy w' v.ownBlock → Below base w w' → (∀ g, (Value.slice A' (xs.length + 1) c').ownBlock = some g → v.ownBlock = some g ∨ g = w.heap.size) → K (a.put o.dst (.slice A' (xs.length + 1) c')) w') :
    if Region.wanted o (yielded ops a.tmps) = true then Oper.wp P o a w K Q else E := by
  have hown0 := hown
  obtain ⟨css, hl, hr, hr2⟩ := hown
  have hyF : rep w (Fr Flat w v) cs.toList y := own_push_flat hy
  have hsz : cs.size = 1 * Rep.size α := by have := Rep.len hy; simpa using this
  refine step_append_any w hgd s x t ho base e i z (Rep.size α) bytes ht hi hz hsize hby hzs Rep.pos v xs.length css.flatten hs hr2 w.heap.size (some ⟨B, 0, none⟩) 1 1 cs.toList hx (rowOfBlk hblk 1 _ hsz) (fun u hu => Rep.one hy hu) h63 hbytes hbase ?_
  intro v' w' ho' hg hat
  have hp := own_push hl hr hyF ho' hg hat
  obtain ⟨A', c', rfl⟩ := hp.form
  rw [show (xs ++ [y]).length = xs.length + 1 by simp] at hp ⊢
  rw [show (xs ++ [y]).length = xs.length + 1 by simp] at hat
  exact h A' c' w' hp hg (below_any (v' := v) (Below.refl _ _) hbase hown0.from_ hg) (fun g hg' => by
    rcases hat with e | e
    · exact .inl (e ▸ hg')
    · right; rw [e] at hg'; exact (Option.some.inj hg').symm)
end Go.Proofs.YthjhakiagbdhlaaGreatDoor

/- strings.Builder at this translation (its copyCheck bears a statement that the loader refuses, behind a test that never says yes): copyCheck, WriteString, WriteRune of a builder that the call itself has made. Lines turned from the shelf's own proofs. -/
namespace Go.Proofs.YthjhakiagbdhlaaGreatDoor
open Rep (rep)
open Go.RowKit Go.Shelf
set_option linter.unusedVariables false

theorem bsize : (Tryz.prog.info? 387).map (·.size) = some 2 := by kernel_rfl
set_option maxRecDepth 100000 in
theorem copyCheck_used (b : Nat) (w : World) (h0 : w.cell? ⟨b, 0, none⟩ = some (.pointer (some ⟨b, 0, none⟩))) :
    Calls Tryz.prog 312 #[.pointer (some ⟨b, 0, none⟩)] w fun e w' => e = .returned (.tuple #[]) ∧ w = w' := by
  obtain ⟨j, hj, _⟩ := Option.map_eq_some_iff.1 bsize
  go_enter Tryz.func312, Tryz.ntmps312
  go_wp2
  rw [Lib.run_neq_ptr_same w _ Tryz.underlying385 hj]
  go_wp2
  go_end0
  exact ⟨rfl, rfl⟩
set_option maxHeartbeats 1000000 in
set_option maxRecDepth 100000 in
theorem copyCheck_fresh (b : Nat) (w : World) (h0 : w.cell? ⟨b, 0, none⟩ = some (.pointer none)) (hsh : w.shape? b = some (387, 2)) (hfz : w.frozen? ⟨b, 0, none⟩ = false) :
    Calls Tryz.prog 312 #[.pointer (some ⟨b, 0, none⟩)] w fun e w' => e = .returned (.tuple #[]) ∧ w' = w.setCell ⟨b, 0, none⟩ (.pointer (some ⟨b, 0, none⟩)) := by
  obtain ⟨j, hj, hjs⟩ := Option.map_eq_some_iff.1 bsize
  go_enter Tryz.func312, Tryz.ntmps312
  go_wp2
  rw [Lib.run_to_unsafe w ⟨b, 0, none⟩ Tryz.underlying385 Tryz.underlying453 hj (by rw [hjs]; decide) hsh (Nat.zero_lt_succ 1)]
  simp only [Result.andThen]
  rw [Oper.upon_value]
  go_wp2
  rw [run_callFunc_extern Tryz.func350 (by kernel_rfl) (by kernel_rfl) (by kernel_rfl) (e := Extern.AbiNoEscape.same) (by kernel_rfl)]
  rw [Lib.run_noEscape]
  simp only [Result.andThen]
  rw [Oper.upon_value]
  go_wp2
  rw [Lib.run_from_unsafe w ⟨b, 0, none⟩ Tryz.underlying453 Tryz.underlying385 hj hsh Tryz.Builder_Extra_169.liesBuilder]
  simp only [Result.andThen]
  rw [Oper.upon_value]
  go_wp2
  go_end0
  exact ⟨rfl, rfl⟩
theorem copyCheck_any (B b : Nat) (bs : List Value) (w : World) (h : Lib.IsBuilder 387 5 B b bs w) :
    Calls Tryz.prog 312 #[.pointer (some ⟨b, 0, none⟩)] w fun e w' => e = .returned (.tuple #[]) ∧ (Lib.BuilderAt 387 5 B b (.pointer (some ⟨b, 0, none⟩)) bs w' ∧ Below B w w' ∧ Lib.OthersKept 5 (some b) w w') := by
  rcases h with h | h
  · refine (copyCheck_fresh b w h.cell0 h.shape h.frozen0).mono ?_
    rintro e w' ⟨rfl, rfl⟩
    exact ⟨rfl, h.used _, (Below.refl B w).setCell (p := ⟨b, 0, none⟩) h.1 _, (Lib.OthersKept.refl _ _ w).setCell ⟨b, 0, none⟩ rfl _⟩
  · refine (copyCheck_used b w h.cell0).mono ?_
    rintro e w' ⟨rfl, rfl⟩
    exact ⟨rfl, h, Below.refl B _, Lib.OthersKept.refl _ _ _⟩

theorem ownsRow_kind {B : Nat} {e : TypeId} {size n : Nat} {v : Value} {xs : List Value} {w : World} (h : w.ownsRow B e size v n xs) : ∀ k o, v.ownBlock = some k → w.heap[k]? = some o → ∃ c fz, o = .cells c e fz := by
  intro k o hk ho
  rcases h.2 with ⟨rfl, _⟩ | ⟨g, cap, cur, rfl, _, hg, _⟩
  · cases hk
  · cases hk
    rw [hg] at ho
    cases ho
    exact ⟨_, _, rfl⟩

set_option maxHeartbeats 2000000 in
set_option maxRecDepth 100000 in
theorem writeString_any (B b : Nat) (bs : List Value) (s : ByteArray) (w : World) (h : Lib.IsBuilder 387 5 B b bs w) (hlen : bs.length + s.size ≤ 140737488355328) (hBw : B ≤ w.heap.size) :
    Calls Tryz.prog 253 #[.pointer (some ⟨b, 0, none⟩), .string s] w fun e w' => e = .returned (.tuple #[.int .i64 s.size, .nilIface]) ∧ (Lib.BuilderAt 387 5 B b (.pointer (some ⟨b, 0, none⟩)) (bs ++ Lib.strCells s) w' ∧ Below B w w' ∧ Lib.OthersKept 5 (some b) w w') := by
  obtain ⟨i0, hi, hz0, hz1, hz2⟩ := info_parts Tryz.Builder_Extra_169.infoByte
  go_enter Tryz.func253, Tryz.ntmps253
  go_wp2_with (go_at_call 312; refine (copyCheck_any B b bs _ h).mono ?_)
  rintro e w1 ⟨rfl, h1, hb1, hk1⟩
  obtain ⟨hB, v, hbk, hown, hne⟩ := h1
  have c0 : w1.cell? ⟨b, 0, none⟩ = some (.pointer (some ⟨b, 0, none⟩)) := by rw [Lib.cell_of_heap hbk]; rfl
  have c1 : w1.cell? ⟨b, 1, none⟩ = some v := by rw [Lib.cell_of_heap hbk]; rfl
  go_wp2_with (at_builtin; refine Lib.wpList_append_own_string _ rfl _ _ 25 9 rfl B 5 i0 Tryz.underlying25 Tryz.underlying9 hi hz0 hz1 hz2 _ _ _ rfl hown s rfl ?c3 ?c4 ?c5 ?_)
  case c3 => unfold maxLen; omega
  case c4 => omega
  case c5 => have := hb1.size; omega
  intro v' w2 hown' hgrow _
  have hlt : b < w1.heap.size := by
    rcases Nat.lt_or_ge b w1.heap.size with h' | h'
    · exact h'
    · simp [Array.getElem?_eq_none h'] at hbk
  have hb2 : w2.heap[b]? = some (.cells #[.pointer (some ⟨b, 0, none⟩), v] 387 (0, 0)) := by
    rw [hgrow.block b hlt (fun e => hne e.symm)]
    exact hbk
  have d0 : w2.cell? ⟨b, 0, none⟩ = some (.pointer (some ⟨b, 0, none⟩)) := by rw [Lib.cell_of_heap hb2]; rfl
  have d1 : w2.cell? ⟨b, 1, none⟩ = some v := by rw [Lib.cell_of_heap hb2]; rfl
  have f1 : w2.frozen? ⟨b, 1, none⟩ = false := Lib.frozen_of_heap hb2 1
  obtain ⟨ao, n', cap, rfl⟩ : ∃ ao n' cap, v' = .slice ao n' cap := by
    rcases hown'.2 with ⟨hv, _⟩ | ⟨g, cap, cur, hv, _⟩
    · exact ⟨_, _, _, hv⟩
    · exact ⟨_, _, _, hv⟩
  go_wp2
  go_ret2
  refine ⟨rfl, ?_, ?_, (hk1.grown hgrow (Lib.ownsRowF_kind (World.ownsRowF_of hown))).setCell ⟨b, 1, none⟩ rfl _⟩
  · exact Lib.BuilderAt.put (T := 387) (e := 5) hB hb2 (bs' := bs ++ Lib.strCells s) (by simpa [Lib.strCells_length] using hown') (by decide)
  · exact (hb1.grown hgrow (by have := hb1.size; omega) (fun k hk => (hown.lt k hk).1)).setCell (p := ⟨b, 1, none⟩) hB _

set_option maxHeartbeats 4000000 in
set_option maxRecDepth 100000 in
theorem writeRune_any (B b : Nat) (bs : List Value) (r : Int) (hr0 : -2147483648 ≤ r) (hr1 : r ≤ 2147483647) (w : World) (h : Lib.IsBuilder 387 5 B b bs w) (hlen : bs.length + 4 ≤ 140737488355328) (hBw : B ≤ w.heap.size) :
    Calls Tryz.prog 364 #[.pointer (some ⟨b, 0, none⟩), .int .i32 r] w fun e w' => e = .returned (.tuple #[.int .i64 (Lib.runeCells r).length, .nilIface]) ∧ (Lib.BuilderAt 387 5 B b (.pointer (some ⟨b, 0, none⟩)) (bs ++ Lib.runeCells r) w' ∧ Below B w w' ∧ Lib.OthersKept 5 (some b) w w') := by
  have hk4 := Lib.runeCells_le r
  go_enter Tryz.func364, Tryz.ntmps364
  go_wp2_with (go_at_call 312; refine (copyCheck_any B b bs _ h).mono ?_)
  rintro e w1 ⟨rfl, h1, hb1, hk1⟩
  obtain ⟨hB, v, hbk, hown, hne⟩ := h1
  obtain ⟨ao, cap, rfl⟩ : ∃ ao cap, v = .slice ao bs.length cap := by
    rcases hown.2 with ⟨hv, h0⟩ | ⟨g, cap, cur, hv, _⟩
    · exact ⟨none, 0, by rw [hv, h0]⟩
    · exact ⟨_, _, hv⟩
  have c0 : w1.cell? ⟨b, 0, none⟩ = some (.pointer (some ⟨b, 0, none⟩)) := by rw [Lib.cell_of_heap hbk]; rfl
  have c1 : w1.cell? ⟨b, 1, none⟩ = some (.slice ao bs.length cap) := by rw [Lib.cell_of_heap hbk]; rfl
  go_wp2_with (go_at_call 371; refine (Tryz.utf8_AppendRune_plain B _ bs.length bs r hr0 hr1 _ hown hlen (by have := hb1.size; omega)).mono ?_)
  rintro e w2 ⟨v', rfl, hown', o, hgrow⟩
  have hlt : b < w1.heap.size := by
    rcases Nat.lt_or_ge b w1.heap.size with h' | h'
    · exact h'
    · simp [Array.getElem?_eq_none h'] at hbk
  have hb2 : w2.heap[b]? = some (.cells #[.pointer (some ⟨b, 0, none⟩), .slice ao bs.length cap] 387 (0, 0)) := by
    rw [hgrow.block b (by simp; omega) (fun e => hne e.symm), Lib.alloc_old w1 _ b hlt]
    exact hbk
  have d0 : w2.cell? ⟨b, 0, none⟩ = some (.pointer (some ⟨b, 0, none⟩)) := by rw [Lib.cell_of_heap hb2]; rfl
  have d1 : w2.cell? ⟨b, 1, none⟩ = some (.slice ao bs.length cap) := by rw [Lib.cell_of_heap hb2]; rfl
  have f1 : w2.frozen? ⟨b, 1, none⟩ = false := Lib.frozen_of_heap hb2 1
  obtain ⟨g, cap', rfl⟩ : ∃ g cap', v' = .slice (some ⟨g, 0, none⟩) (bs.length + (Lib.runeCells r).length) cap' := by
    rcases hown'.2 with ⟨_, h0⟩ | ⟨g, cap', cur, hv, _⟩
    · omega
    · exact ⟨g, cap', hv⟩
  have hown1 : (w1.alloc o).ownsRow B 5 1 (.slice ao bs.length cap) bs.length bs := hown.alloc _
  go_wp2
  go_ret2
  refine ⟨?_, ?_, ?_, ((hk1.alloc _).grown hgrow (Lib.ownsRowF_kind (World.ownsRowF_of hown1))).setCell ⟨b, 1, none⟩ rfl _⟩
  · have e : ((bs.length : Int) + ((Lib.runeCells r).length : Int) - (bs.length : Int)) = ((Lib.runeCells r).length : Int) := by omega
    simp [e]
  · exact Lib.BuilderAt.put (T := 387) (e := 5) hB hb2 (bs' := bs ++ Lib.runeCells r) (by simpa using hown') (by decide)
  · exact ((hb1.alloc (by have := hb1.size; omega) o).grown hgrow (by have := hb1.size; simp; omega) (fun k hk => (hown.lt k hk).1)).setCell (p := ⟨b, 1, none⟩) hB _
end Go.Proofs.YthjhakiagbdhlaaGreatDoor

/- The walk of fold.Fold. -/
namespace Go.Proofs.YthjhakiagbdhlaaGreatDoor
open Rep (rep)
open Go.RowKit Go.Shelf

attribute [local go_sem] Oper.semAt_some

/-- What folding makes of the rune at place x, of a text. -/
def foldAt (s : ByteArray) (x : Nat) : List UInt8 := if lowerR (rn s x) = rn s x then (s.extract x (x + wd s x)).data.toList else Lib.encodeRune (lowerR (rn s x))
def foldL (s : ByteArray) : List UInt8 := (ats s).flatMap (foldAt s)
def foldS (s : ByteArray) : ByteArray := ⟨(foldL s).toArray⟩
theorem foldAt_len (s : ByteArray) (x : Nat) : (foldAt s x).length ≤ 4 := by
  unfold foldAt
  split
  · have := wd_le s x
    rw [Lib.extract_data, List.length_take]; omega
  · have h4 := Lib.runeCells_le (lowerR (rn s x))
    rw [Lib.runeCells_length] at h4
    exact h4.2
theorem flat_len (s : ByteArray) (l : List Nat) : (l.flatMap (foldAt s)).length ≤ 4 * l.length := by
  induction l with
  | nil => simp
  | cons a l ih =>
    have := foldAt_len s a
    rw [List.flatMap_cons, List.length_append, List.length_cons]; omega

abbrev Bld (B b : Nat) (l : List UInt8) (W : World) : Prop := Lib.IsBuilder 387 5 B b (Lib.byteCells l) W
theorem Bld.grown {B b : Nat} {l : List UInt8} {W W' : World} {row : Option Nat} (h : Bld B b l W) (hg : W.grownBy W' row) (hr : ∀ r, row = some r → ∃ o : Obj, W.heap[r]? = some o ∧ o.isCells = false) : Bld B b l W' := by
  have go : ∀ p, Lib.BuilderAt 387 5 B b p (Lib.byteCells l) W → Lib.BuilderAt 387 5 B b p (Lib.byteCells l) W' := by
    rintro p ⟨hB, v, hb, ho, hne⟩
    refine ⟨hB, v, (hg.block b (Array.getElem?_eq_some_iff.1 hb).1 (fun e => ?_)).trans hb, ho.kept hg ?_, hne⟩
    · obtain ⟨o, h1, h2⟩ := hr _ e.symm
      rw [hb] at h1; cases h1; cases h2
    · cases hob : v.ownBlock with
      | none => exact .inl rfl
      | some g =>
        refine .inr (fun e => ?_)
        obtain ⟨o, h1, h2⟩ := hr _ e.symm
        rcases ho.2 with ⟨rfl, _⟩ | ⟨g', cap, cur, rfl, _, hgb, _⟩
        · cases hob
        · cases hob; rw [hgb] at h1; cases h1; cases h2
  exact h.imp (go _) (go _)
theorem Bld.on {B b : Nat} {l : List UInt8} {W W' : World} (h : Bld B b l W) (hb : Below W.heap.size W W') : Bld B b l W' := h.grown (Below.grownBy' hb) (fun _ e => by cases e)
theorem Bld.from_ {β : Type} (n0 B b : Nat) (f : β → List UInt8) : OwnFrom n0 (fun (x : β) W => Bld B b (f x) W) := fun _ _ _ _ hs hg hr => hs.grown hg (fun r e => (hr r e).2)
theorem Bld.cells {B b : Nat} {l : List UInt8} {W : World} (h : Bld B b l W) : ∃ cs, W.heap[b]? = some (.cells cs 387 (0, 0)) := by
  rcases h with ⟨_, v, hb, _⟩ | ⟨_, v, hb, _⟩ <;> exact ⟨_, hb⟩
theorem Bld.le {B b : Nat} {l : List UInt8} {W : World} (h : Bld B b l W) : B ≤ b ∧ b < W.heap.size := by
  rcases h with ⟨h1, v, hb, _⟩ | ⟨h1, v, hb, _⟩ <;> exact ⟨h1, (Array.getElem?_eq_some_iff.1 hb).1⟩
/-- What a writing method keeps. -/
theorem kept_others {b : Nat} {W W' : World} {cs : Array Value} {t : TypeId} (hk : Lib.OthersKept 5 (some b) W W') (hs : W.heap.size ≤ W'.heap.size) (hb : W.heap[b]? = some (.cells cs t (0, 0))) : KeepsOthers W W' :=
  ⟨hs, fun k o ho hc => hk k o ho (fun e => by cases e; rw [hb] at ho; cases ho; cases hc) (fun c fz e => by subst e; cases hc)⟩
theorem kept_box {b B : Nat} {t : TypeId} {v : Value} {W W' : World} (hk : Lib.OthersKept 5 (some b) W W') (h : Boxed W B t v) (hne : B ≠ b) (ht : t ≠ 5) : Boxed W' B t v :=
  hk B _ h (fun e => hne (by cases e; rfl)) (fun c fz e => ht (by cases e; rfl))
theorem extract_cells (s : ByteArray) (a b : Nat) : Lib.strCells (s.extract a b) = Lib.byteCells (s.extract a b).data.toList := Lib.strCells_eq _

set_option maxRecDepth 100000 in
set_option maxHeartbeats 2000000 in
theorem fold_any (s : ByteArray) (hs : s.size ≤ 17592186044000) (w : World) (hT : Tabs w) :
    Calls Tryz.prog 340 #[.string s] w fun e w' => e = .returned (.string (foldS s)) ∧ Below w.heap.size w w' := by
  have hal := ats_len s
  refine (callsIn_wide (n := 6)).1 ?_
  refine callsIn_of_wp_marks Tryz.func340 rfl trivial ?_ rfl
  simp only [Tryz.ntmps340, List.size_toArray, List.length_cons, List.length_nil, Nat.reduceAdd, Nat.reduceSub, Array.replicate_succ, Array.replicate_zero, List.push_toArray, List.append_toArray, List.nil_append, List.cons_append]
  gi_wp2_with (refine ⟨trivial, ?_⟩; gi_at_call 306; refine (callsIn_wide.2 (runes_any s _)).mono ?_; rintro e w2 ⟨rfl, rfl⟩)
  have bA := ((Boxed.new w 9 (.string s)).alloc (.cells #[.pointer none, .slice none 0 0] 387)).alloc (.cells #[.string s] 9)
  have bS := Boxed.new ((w.alloc (.cells #[.string s] 9)).alloc (.cells #[.pointer none, .slice none 0 0] 387)) 9 (.string s)
  have bB : Bld (w.alloc (.cells #[.string s] 9)).heap.size (w.alloc (.cells #[.string s] 9)).heap.size [] (((w.alloc (.cells #[.string s] 9)).alloc (.cells #[.pointer none, .slice none 0 0] 387)).alloc (.cells #[.string s] 9)) :=
    Bld.on (Lib.fresh_isBuilder 387 5 (w.alloc (.cells #[.string s] 9))) ((Below.refl _ _).alloc (Nat.le_refl _) _)
  simp only [World.size_alloc] at bA bS bB
  have hB0 : Below w.heap.size w (((w.alloc (.cells #[.string s] 9)).alloc (.cells #[.pointer none, .slice none 0 0] 387)).alloc (.cells #[.string s] 9)) := (((Below.refl _ w).alloc (Nat.le_refl _) _).alloc (by simp) _).alloc (by simp; omega) _
  have hsz : (((w.alloc (.cells #[.string s] 9)).alloc (.cells #[.pointer none, .slice none 0 0] 387)).alloc (.cells #[.string s] 9)).heap.size = w.heap.size + 3 := by simp
  obtain ⟨W0, hW0⟩ : ∃ W0, ((w.alloc (.cells #[.string s] 9)).alloc (.cells #[.pointer none, .slice none 0 0] 387)).alloc (.cells #[.string s] 9) = W0 := ⟨_, rfl⟩
  rw [hW0] at bA bS bB hB0 hsz ⊢
  clear hW0
  refine wpIn_rangeFunc_ok (n := 6) (F := Fence.wide) rfl (by omega) (gf := 345) (lb := #[.pointer (some ⟨w.heap.size + 1 + 1, 0, none⟩)]) rfl trivial (enters_of Tryz.func345 (by kernel_rfl) rfl)
    (runes_stops w.heap.size (w.heap.size + 1 + 1) s (by omega) w hT rfl (6 - 1) (by omega) W0 hB0 bS) KeepsS.trans (KeepsS.putObj hB0.size) (Below.refl _ _) (fun _ => rfl)
    (fun pre W => Bld (w.heap.size + 1) (w.heap.size + 1) (pre.flatMap (foldAt s)) W ∧ Boxed W w.heap.size 9 (.string s) ∧ Below w.heap.size w W ∧ W0.heap.size ≤ W.heap.size)
    (fun _ _ _ => False)
    (OwnFrom.and (Bld.from_ _ _ _ _) (OwnFrom.and (Own.from (boxed_own _ _ _) _) (OwnFrom.and (ownFrom_below (Nat.le_refl _) (by omega)) (fun _ _ _ _ hs hg _ => Nat.le_trans hs hg.size))))
    (fun _ _ _ _ _ hs _ _ => hs)
    ⟨bB, bA, hB0, Nat.le_refl _⟩
    (fun x a' _ => a' = { tmps := #[.string s, .pointer (some ⟨w.heap.size, 0, none⟩), .string { data := #[] }, .pointer (some ⟨w.heap.size + 1, 0, none⟩), .int .i64 x, .int .i32 (rn s x), undef, undef, undef, .string s, .func (.func 345) #[] #[.pointer (some ⟨w.heap.size + 1 + 1, 0, none⟩)], .int .i64 x, .int .i32 (rn s x), undef, undef, undef, undef, undef, undef, undef, undef, undef, undef, undef, undef, undef, undef, undef, undef, undef, undef, undef, undef, undef], defers := [] })
    (fun x a' _ X Y row hs hg hr => hs)
    ?assign ?body ?done ?stop
  case assign =>
    rintro l pre x W K hI hK
    simp only [runeEnc] at hK ⊢
    gi_wp2
    exact hK _ _ ((KeepsOthers.refl _).from _) ⟨Below.refl _ W, fun _ h => h⟩ hI rfl
  case body =>
    rintro l pre x a' W hl ⟨r, hr⟩ ⟨bld, bA, hB, hS⟩ rfl hok
    have hx : x < s.size := by
      have h1 : x ∈ ats s := hok.subset (by simp)
      exact (atsF_ge s _ _ x h1).2
    have hpl : (Lib.byteCells (pre.flatMap (foldAt s))).length ≤ 4 * s.size := by
      have h1 := hok.length_le
      simp at h1
      have := flat_len s pre
      rw [Lib.byteCells_length]
      omega
    have hwf := wd_fit hx
    have hwp := wd_pos hx
    have hrn := rn_le s x
    have hTW : Tabs W := hT.on hB
    have hsb := hB.size
    have hlt := bld.le.2
    obtain ⟨cs, hcs⟩ := bld.cells
    have HT := Lib.hid hTW
    have Hbld := Lib.hid bld
    have HbA := Lib.hid bA
    have HB := Lib.hid hB
    have Hcs := Lib.hid hcs
    have hBb : w.heap.size + 1 ≤ W.heap.size := by omega
    have cA := bA.cell
    obtain ⟨ru, hru⟩ : ∃ ru : Nat, rn s x = ru := ⟨_, rfl⟩
    obtain ⟨q, hq⟩ : ∃ q, lowerR (ru : Int) = q := ⟨_, rfl⟩
    have hqr := lowerR_range (ru : Int) (by omega) (by omega)
    rw [hq] at hqr
    rw [hru] at hrn ⊢
    have Hru := Lib.hid hru
    have Hq := Lib.hid hq
    clear hTW hT bld bA hB hcs bS bB hB0 hok hr hru hq
    have Hes : Hid ((s.extract x (x + wd s x)).size = wd s x) := by show _ = _; rw [ByteArray.size_extract]; omega
    by_cases heq : q = (ru : Int)
    · subst heq
      have Hfin : Hid (foldAt s x = (s.extract x (x + wd s x)).data.toList) := by show _ = _; unfold foldAt; rw [Hru.out, Hq.out, if_pos rfl]
      gi_wp2_with (first
        | (refine ⟨trivial, ?_⟩; gi_at_call 363; go_must (refine (CallsIn.inRound l (callsIn_wide.2 (lower_any (ru : Int) (by omega) (by omega) _))).mono ?_); rw [Hq.out]; rintro e w3 ⟨rfl, rfl⟩)
        | (refine ⟨trivial, ?_⟩
           gi_at_call 343
           go_must (refine (CallsIn.inRound l (callsIn_wide.2 (next_any s x hx (by omega) _ HT.out))).mono ?_)
           rintro e w3 ⟨rfl, hb3⟩
           have hbld3 := Hbld.out.on hb3
           have hbA3 := Boxed.on HbA.out hb3
           have cA3 := hbA3.cell
           have Hb3 := Lib.hid hb3
           have Hbld3 := Lib.hid hbld3
           have HbA3 := Lib.hid hbA3
           have hs3 := hb3.size
           clear hb3 hbld3 hbA3)
        | (refine ⟨trivial, ?_⟩
           gi_at_call 253
           go_must (refine (CallsIn.inRound l (callsIn_wide.2 (writeString_any (w.heap.size + 1) (w.heap.size + 1) _ _ w3 Hbld3.out (by have := Hes.out; have := wd_le s x; omega) (by omega)))).mono ?_)
           rintro e w4 ⟨rfl, h4, b4, k4⟩))
      have hk : KeepsOthers W w4 := (KeepsOthers.of_grownBy (Below.grownBy' Hb3.out) (fun _ _ e _ => by cases e)).trans (by obtain ⟨cs3, hcs3⟩ := Hbld3.out.cells; exact kept_others k4 b4.size hcs3)
      have hbb : Below w.heap.size W w4 := (Hb3.out.mono (by omega)).trans (b4.mono (by omega))
      refine ⟨hk.from _, ⟨hbb, fun u hu => kept_box k4 (Boxed.on hu Hb3.out) (by omega) (by decide)⟩, ?_, kept_box k4 HbA3.out (by omega) (by decide), HB.out.trans hbb, Nat.le_trans hS hbb.size⟩
      rw [List.flatMap_append, List.flatMap_singleton, Hfin.out]
      rw [extract_cells] at h4
      show Lib.IsBuilder _ _ _ _ _ _
      rw [Lib.byteCells_append]
      exact .inr h4
    · have Hfin : Hid (foldAt s x = Lib.encodeRune q) := by show _ = _; unfold foldAt; rw [Hru.out, Hq.out, if_neg heq]
      have hne : (q != (ru : Int)) = true := by simpa using heq
      have hrl := Lib.runeCells_le q
      clear heq
      gi_wp2_with (first
        | (refine ⟨trivial, ?_⟩; gi_at_call 363; go_must (refine (CallsIn.inRound l (callsIn_wide.2 (lower_any (ru : Int) (by omega) (by omega) _))).mono ?_); rw [Hq.out]; rintro e w3 ⟨rfl, rfl⟩)
        | (refine ⟨trivial, ?_⟩
           gi_at_call 364
           go_must (refine (CallsIn.inRound l (callsIn_wide.2 (writeRune_any (w.heap.size + 1) (w.heap.size + 1) _ q (by omega) (by omega) _ Hbld.out (by omega) (by omega)))).mono ?_)
           rintro e w4 ⟨rfl, h4, b4, k4⟩))
      have hk : KeepsOthers W w4 := kept_others k4 b4.size Hcs.out
      have hbb : Below w.heap.size W w4 := b4.mono (by omega)
      refine ⟨hk.from _, ⟨hbb, fun u hu => kept_box k4 hu (by omega) (by decide)⟩, ?_, kept_box k4 HbA.out (by omega) (by decide), HB.out.trans hbb, Nat.le_trans hS hbb.size⟩
      rw [List.flatMap_append, List.flatMap_singleton, Hfin.out]
      show Lib.IsBuilder _ _ _ _ _ _
      rw [Lib.byteCells_append, Lib.byteCells_encodeRune]
      exact .inr h4
  case done =>
    rintro D ys W hD rfl ⟨bld, bA, hB, hS⟩ hK
    have hlt := bld.le
    have Hbld := Lib.hid bld
    have HB := Lib.hid hB
    have HK := Lib.hid hK
    clear bld bA hB hK hT bS bB hB0
    gi_wp2_with (refine ⟨trivial, ?_⟩
                 gi_at_call 255
                 go_must (refine (callsIn_wide.2 (Tryz.Builder_String_any_k (w.heap.size + 1) (w.heap.size + 1) (foldL s) _ (Lib.IsBuilderF.of Hbld.out) (by omega))).mono ?_)
                 rintro e w4 ⟨rfl, _, b4, k4⟩)
    have hK4 : w4.heap[D]? = some (.deferred (some [])) := by
      obtain ⟨cs, hcs⟩ := Hbld.out.cells
      exact (kept_others k4 b4.size hcs).same D _ HK.out rfl
    refine ⟨by simp, .inl ⟨_, _, rfl, run_takeDeferred hK4, ?_⟩⟩
    exact ⟨_, results_tmp rfl _ _ _, rfl, (HB.out.trans (b4.mono (by omega))).trans (belowK_b (w := w) (Nat.le_refl _) w4 D _ _ (by omega) hK4 rfl rfl)⟩
  case stop =>
    rintro D c pre W _ _ h _
    exact h.elim
end Go.Proofs.YthjhakiagbdhlaaGreatDoor

/-
  Calls of fold.Fold in closed runs: told by its contract; the tables of utf8 lie in the abstract machine's memory.
-/
set_option linter.unusedVariables false
set_option linter.unusedSimpArgs false
set_option linter.constructorNameAsVariable false
namespace Go.Proofs.YthjhakiagbdhlaaGreatDoor
open Go Ev Go.RowKit

def firstC : List AV := (List.range 256).map fun c => AV.int .u8 (.ofNat (Lib.firstT c))
def accC : List AV := (List.range 32).map fun i => AV.int .u8 (.ofNat (bif Nat.beq (i % 2) 0 then Lib.accLo (i / 2) else Lib.accHi (i / 2)))
theorem ro_cell {ng n0 g i : Nat} {σ : Sg} {h : AH} {w : World} {cs : List AV} {k : IntKind} {x : Int} (R : HR ng n0 σ h w) (hg : g < ng) (hb : h.get g = some (.cells true cs)) (hx : cs[i]? = some (.int k x)) : w.cell? ⟨g, i, none⟩ = some (.int k x) := by
  obtain ⟨sz, hs⟩ := R.glob g hg
  obtain ⟨c, t, fz, h1, h2, h3, h4⟩ := R.blk g _ _ hs hb
  obtain ⟨y, hy, hv⟩ := VRs.get h4 i _ hx
  have hv : y = .int k x := hv
  subst hv
  have h1 : w.heap[g]? = some (.cells c t fz) := h1
  rw [List.getElem?_take] at hy
  split at hy
  · have hy : c[i]? = some (.int k x) := by simpa using hy
    simp [World.cell?, h1, hy]
  · cases hy
theorem tabs_of_HR {ng n0 : Nat} {σ : Sg} {h : AH} {w : World} (R : HR ng n0 σ h w) (hf : 3 < ng) (ha : 4 < ng) (h1 : h.get 3 = some (.cells true firstC)) (h2 : h.get 4 = some (.cells true accC)) : Tabs w := by
  refine ⟨fun c hc => ro_cell R hf h1 (by simp [firstC, List.getElem?_range, hc]), fun i hi => ⟨ro_cell R ha h2 ?_, ro_cell R ha h2 ?_⟩⟩
  · have e1 : 2 * i < 32 := by omega
    have e2 : 2 * i % 2 = 0 := by omega
    have e3 : 2 * i / 2 = i := by omega
    simp only [accC, List.getElem?_map, List.getElem?_range e1, Option.map_some, e2, e3]
    rfl
  · have e1 : 2 * i + 1 < 32 := by omega
    have e2 : (2 * i + 1) % 2 = 1 := by omega
    have e3 : (2 * i + 1) / 2 = i := by omega
    simp only [accC, List.getElem?_map, List.getElem?_range e1, Option.map_some, e2, e3]
    rfl
def foldAns (s : List Nat) : Option (List Nat) := bif natsBeq s [66] then some [98] else bif natsBeq s [97] then some [97] else none
theorem foldAns_ok {s r : List Nat} (h : foldAns s = some r) : foldS (mkS s) = mkS r ∧ (mkS s).size ≤ 1 ∧ ∀ b ∈ r, b < 256 := by
  unfold foldAns at h
  cases h1 : natsBeq s [66] with
  | true =>
    rw [h1, cond_true] at h
    injection h with h
    subst h
    rw [(natsBeq_iff _ _).1 h1]
    exact ⟨by kernel_rfl, by decide, by simp⟩
  | false =>
    rw [h1, cond_false] at h
    cases h2 : natsBeq s [97] with
    | true =>
      rw [h2, cond_true] at h
      injection h with h
      subst h
      rw [(natsBeq_iff _ _).1 h2]
      exact ⟨by kernel_rfl, by decide, by simp⟩
    | false => rw [h2, cond_false] at h; cases h
def foldSum (h : AH) (f : FuncId) (a : List AV) : Option AV :=
  bif Nat.beq f 340 then
    match a, h.get 3, h.get 4 with
    | [.str s], some (.cells true c1), some (.cells true c2) => bif AV.beqs c1 firstC && AV.beqs c2 accC then (foldAns s).map .str else none
    | _, _, _ => none
  else none
theorem foldSum_ok {ng : Nat} (hf : 3 < ng) (ha : 4 < ng) : SumOk Tryz.prog ng foldSum := by
  intro n0 σ h w g args v argv R hargs hS
  unfold foldSum at hS
  cases hg : Nat.beq g 340 with
  | false => rw [hg] at hS; cases hS
  | true =>
    rw [hg, cond_true] at hS
    have hg := Nat.eq_of_beq_eq_true hg
    subst hg
    split at hS
    · rename_i s c1 c2 h1 h2
      cases hb : (AV.beqs c1 firstC && AV.beqs c2 accC) with
      | false => rw [hb] at hS; cases hS
      | true =>
        rw [hb, cond_true] at hS
        rw [Bool.and_eq_true] at hb
        have e1 := AV.beqs_eq _ _ hb.1
        have e2 := AV.beqs_eq _ _ hb.2
        subst e1 e2
        cases ha' : foldAns s with
        | none => rw [ha'] at hS; cases hS
        | some r =>
          rw [ha'] at hS
          injection hS with hS
          subst hS
          obtain ⟨q1, q2, q3⟩ := foldAns_ok ha'
          obtain ⟨l⟩ := argv
          match l, hargs with
          | [x], ⟨⟨hx0, hx⟩, _⟩ =>
            subst hx0
            refine ⟨⟨_, _, Tryz.func340, rfl, by kernel_rfl⟩, (fold_any (mkS s) (by omega) w (tabs_of_HR R hf ha h1 h2)).mono ?_⟩
            rintro e w' ⟨rfl, hb⟩
            exact ⟨_, rfl, ⟨by rw [q1], q3⟩, hb⟩
          | [], h => exact h.elim
          | _ :: _ :: _, h => exact h.2.elim
    · cases hS

/-! ### The tables that the row lists -/
theorem vrs_of_get {σ : Sg} : ∀ {a : List AV} {v : List Value}, a.length = v.length → (∀ (i : Nat) (x : AV), a[i]? = some x → ∃ y, v[i]? = some y ∧ VR σ x y) → VRs σ a v
  | [], [], _, _ => trivial
  | x :: a, y :: v, hl, h => by
    obtain ⟨z, h1, h2⟩ := h 0 x rfl
    have h1 : y = z := by simpa using h1
    subst h1
    exact ⟨h2, vrs_of_get (by simpa using hl) fun i x hx => by simpa using h (i + 1) x (by simpa using hx)⟩
  | [], _ :: _, hl, _ => by cases hl
  | _ :: _, [], hl, _ => by cases hl
theorem glob_of_cells {w : World} {g : Nat} {cs : List AV} (h0 : cs ≠ []) (h : ∀ (i : Nat) (x : AV), cs[i]? = some x → ∃ y, w.cell? ⟨g, i, none⟩ = some y ∧ ∀ σ : Sg, VR σ x y) : GlobIs w g cs := by
  have hc : ∃ c t fz, w.heap[g]? = some (.cells c t fz) := by
    cases cs with
    | nil => exact absurd rfl h0
    | cons x l =>
      obtain ⟨y, h1, _⟩ := h 0 x rfl
      unfold World.cell? at h1
      split at h1
      · rename_i c t fz e; exact ⟨c, t, fz, e⟩
      · cases h1
  obtain ⟨c, t, fz, hc⟩ := hc
  have hget : ∀ (i : Nat) (x : AV), cs[i]? = some x → ∃ y, c[i]? = some y ∧ ∀ σ : Sg, VR σ x y := fun i x hx => by
    obtain ⟨y, h1, h2⟩ := h i x hx
    exact ⟨y, by simpa [World.cell?, hc] using h1, h2⟩
  have hlen : cs.length ≤ c.size := by
    rcases Nat.lt_or_ge c.size cs.length with hlt | hge
    · obtain ⟨y, h1, _⟩ := hget c.size cs[c.size] (List.getElem?_eq_getElem hlt)
      simp at h1
    · exact hge
  refine ⟨c, t, fz, hc, fun σ => vrs_of_get (by rw [List.length_take]; simp; omega) fun i x hx => ?_⟩
  obtain ⟨y, h1, h2⟩ := hget i x hx
  have hi : i < cs.length := (List.getElem?_eq_some_iff.1 hx).1
  exact ⟨y, by rw [List.getElem?_take, if_pos hi]; simpa using h1, h2 σ⟩
theorem first_glob {w : World} (h : Tabs w) : GlobIs w 3 firstC := by
  refine glob_of_cells (by simp [firstC]) fun i x hx => ?_
  have hi : i < 256 := by simpa [firstC] using (List.getElem?_eq_some_iff.1 hx).1
  simp [firstC, List.getElem?_range, hi] at hx
  subst hx
  exact ⟨_, h.1 i hi, fun σ => rfl⟩
theorem acc_glob {w : World} (h : Tabs w) : GlobIs w 4 accC := by
  refine glob_of_cells (by simp [accC]) fun i x hx => ?_
  have hi : i < 32 := by simpa [accC] using (List.getElem?_eq_some_iff.1 hx).1
  obtain ⟨q1, q2⟩ := h.2 (i / 2) (by omega)
  by_cases he : i % 2 = 0
  · simp [accC, List.getElem?_range, hi, he] at hx
    subst hx
    rw [show 2 * (i / 2) = i by omega] at q1
    exact ⟨_, q1, fun σ => rfl⟩
  · have he : i % 2 = 1 := by omega
    simp [accC, List.getElem?_range, hi, he] at hx
    subst hx
    rw [show 2 * (i / 2) + 1 = i by omega] at q2
    exact ⟨_, q2, fun σ => rfl⟩
end Go.Proofs.YthjhakiagbdhlaaGreatDoor

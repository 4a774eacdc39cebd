/- The texts Link, LinkW of IterateWords, joined by program (tools/merge.py): walks of the functions that the law reaches, and plain facts; no condition. -/
import Derived.Test.YtajgoffeahfmfaaDoorPart21
import Derived.Test.YtajgoffeahfmfaaDoorPart22
set_option linter.unusedVariables false
set_option linter.unusedSimpArgs false

/- The walks of analysis.find and Link. -/
namespace Go.Proofs.YtajgoffeahfmfaaDoor
open Rep (rep)
open Go.RowKit

/-- What a filter makes of a token. -/
def oneL (number : Int) (t : Token) : List Token :=
  if number = 10 then [lowerT t] else if number = 11 then stopTok t else if number = 12 then gramsT 2 t else if number = 13 then gramsT 3 t else if number = 14 then [shortT t] else if number = 15 then marksT t else []
def isFilter (n : Int) : Bool := decide (10 ≤ n ∧ n ≤ 15)
/-- A function value that makes of each token what a filter makes of it. -/
def FilterOf (k : FuncId) (lb : Array Value) (g : Token → List Token) (w : World) : Prop :=
  (∀ (args : Array Value) (W : World), (callFunc k args).run Tryd.prog W = .ok (.enter k args) W) ∧
  ∀ (W : World) (t : Token), Below w.heap.size w W → t.ok → t.text.size ≤ 1000000000 → Calls Tryd.prog k (#[.agg #[.string t.text, .int .i64 t.pos, .int .i64 t.from_, .int .i64 t.to_]] ++ lb) W fun e W' => ∃ v, e = .returned v ∧ Own Flat W' W.heap.size 44 v (g t) ∧ Below W.heap.size W W'

theorem grams_make (n : Int) (w : World) : Calls Tryd.prog 47 #[.int .i64 n] w fun e w' => e = .returned (.func (.func 66) #[] #[.pointer (some ⟨w.heap.size, 0, none⟩)]) ∧ w' = w.alloc (.cells #[.int .i64 n] 3) := by
  have hmf : ∀ (fn : Fn) (first cap : Array Value) (w : World), (Instr.makeFunc fn first cap).run Tryd.prog w = .ok (.func fn first cap) w := fun _ _ _ _ => rfl
  go_enter Tryd.func47, Tryd.ntmps47
  go_wp2
  go_ret
  exact ⟨rfl, rfl⟩

theorem find_not (n : Int) (hn : isFilter n = false) (w : World) : Calls Tryd.prog 32 #[.int .i64 n] w fun e w' => e = .returned .nilFunc ∧ w = w' := by
  have h : n < 10 ∨ 15 < n := by simp [isFilter] at hn; omega
  have n0 : (n == 10) = false := by simp; omega
  have n1 : (n == 11) = false := by simp; omega
  have n2 : (n == 12) = false := by simp; omega
  have n3 : (n == 13) = false := by simp; omega
  have n4 : (n == 14) = false := by simp; omega
  have n5 : (n == 15) = false := by simp; omega
  clear h hn
  go_enter Tryd.func32, Tryd.ntmps32
  go_wp2
  go_ret
  exact ⟨rfl, rfl⟩

set_option maxRecDepth 100000 in
theorem find_is (n : Int) (hn : isFilter n = true) (w : World) (hT : Tabs w) : Calls Tryd.prog 32 #[.int .i64 n] w fun e w' => ∃ k lb, e = .returned (.func (.func k) #[] lb) ∧ FilterOf k lb (oneL n) w' ∧ Below w.heap.size w w' := by
  have h : n = 10 ∨ n = 11 ∨ n = 12 ∨ n = 13 ∨ n = 14 ∨ n = 15 := by simp [isFilter] at hn; omega
  have HT := Lib.hid hT
  clear hn hT
  rcases h with rfl | rfl | rfl | rfl | rfl | rfl
  · go_enter Tryd.func32, Tryd.ntmps32
    go_wp2
    go_ret
    exact ⟨_, _, rfl, ⟨Go.Proofs.enters_of Tryd.func45 (by kernel_rfl) rfl, fun W t hb ht hs => lower_filter t ht hs W (HT.out.on hb)⟩, Below.refl _ _⟩
  · go_enter Tryd.func32, Tryd.ntmps32
    go_wp2
    go_ret
    exact ⟨_, _, rfl, ⟨Go.Proofs.enters_of Tryd.func46 (by kernel_rfl) rfl, fun W t hb ht hs => stop_filter t ht W⟩, Below.refl _ _⟩
  · have hb : Below w.heap.size w (w.alloc (.cells #[.int .i64 2] 3)) := (Below.refl _ _).alloc (Nat.le_refl _) _
    have Hb := Lib.hid hb
    clear hb
    go_enter Tryd.func32, Tryd.ntmps32
    go_wp2_with (go_at_call 47; go_must (refine (grams_make 2 _).mono ?_); rintro e w' ⟨rfl, rfl⟩)
    go_ret
    exact ⟨_, _, rfl, ⟨Go.Proofs.enters_of Tryd.func66 (by kernel_rfl) rfl, fun W t hb ht hs => grams_filter 2 (by omega) w.heap.size t ht hs W (HT.out.on (Hb.out.trans (hb.mono Hb.out.size))) (Boxed.on (Boxed.new _ _ _) hb)⟩, Hb.out⟩
  · have hb : Below w.heap.size w (w.alloc (.cells #[.int .i64 3] 3)) := (Below.refl _ _).alloc (Nat.le_refl _) _
    have Hb := Lib.hid hb
    clear hb
    go_enter Tryd.func32, Tryd.ntmps32
    go_wp2_with (go_at_call 47; go_must (refine (grams_make 3 _).mono ?_); rintro e w' ⟨rfl, rfl⟩)
    go_ret
    exact ⟨_, _, rfl, ⟨Go.Proofs.enters_of Tryd.func66 (by kernel_rfl) rfl, fun W t hb ht hs => grams_filter 3 (by omega) w.heap.size t ht hs W (HT.out.on (Hb.out.trans (hb.mono Hb.out.size))) (Boxed.on (Boxed.new _ _ _) hb)⟩, Hb.out⟩
  · go_enter Tryd.func32, Tryd.ntmps32
    go_wp2
    go_ret
    exact ⟨_, _, rfl, ⟨Go.Proofs.enters_of Tryd.func48 (by kernel_rfl) rfl, fun W t hb ht hs => short_filter t ht hs W (HT.out.on hb)⟩, Below.refl _ _⟩
  · go_enter Tryd.func32, Tryd.ntmps32
    go_wp2
    go_ret
    exact ⟨_, _, rfl, ⟨Go.Proofs.enters_of Tryd.func49 (by kernel_rfl) rfl, fun W t hb ht hs => marks_filter t ht hs W (HT.out.on hb)⟩, Below.refl _ _⟩

/-- append(out, more...), what is appended a row that lies elsewhere. -/
theorem wpList_appF {α : Type} [Rep α] {P : Program} {w : World} {ops : Array Oper} {rest : List Oper} {o : Oper} {a : Act} {Q : Exit → Act → World → Prop} (hgd : o.guard = none) (s x : Operand) (t : TypeId)
    (ho : o.op = .call { callee := .builtin .append, args := #[s, x], argTypes := #[t, t] })
    (base : Nat) (e : TypeId) (i : TypeInfo) (z : Value) (bytes : Nat) (ht : P.underlying t = some (.slice e)) (hi : P.info? e = some i) (hz : i.zero = some z)
    (hsize : i.size = Rep.size α) (hby : i.bytes = bytes) (hzs : z.cells.size = Rep.size α)
    (v : Value) (xs : List α) (hs : a.eval s = v) (hown : Own Flat w base e v xs)
    (b2 : Nat) (A : Option Addr) (m c : Nat) (ys : List α) (hx : a.eval x = .slice A m c) (hown2 : Own Flat w b2 e (.slice A m c) ys)
    (h63 : xs.length + ys.length ≤ 9223372036854775807) (hbytes : (xs.length + ys.length) * bytes ≤ 140737488355328) (hbase : base ≤ w.heap.size)
    (h : ∀ A' n' c' w', Own Flat w' base e (.slice A' n' c') (xs ++ ys) → n' = xs.length + ys.length → w.grownBy w' v.ownBlock → Below base w w' → wpList P ops Q rest (a.put o.dst (.slice A' n' c')) w') : wpList P ops Q (o :: rest) a w := by
  have hown0 := hown
  obtain ⟨css, hl, hr, hr2⟩ := hown
  obtain ⟨css', hl', hr', hr2'⟩ := hown2
  have hm : m = ys.length := by
    rcases hr2'.2 with ⟨h1, h2⟩ | ⟨g, cap, cur, h1, _⟩
    · injection h1; omega
    · injection h1
  have hone : ∀ u ∈ css'.flatten, u.oneCell' = true := by
    intro u hu
    obtain ⟨cs, hcs, hu⟩ := List.mem_flatten.1 hu
    obtain ⟨k, hk⟩ := List.getElem?_of_mem hcs
    obtain ⟨y, hy⟩ : ∃ y, ys[k]? = some y := ⟨_, List.getElem?_eq_getElem (by have := lt_of_get? hk; omega)⟩
    exact Rep.one (hr' k cs y hk hy) hu
  subst hm
  refine wpList_append_any w hgd s x t ho base e i z (Rep.size α) bytes ht hi hz hsize hby hzs Rep.pos v xs.length css.flatten hs hr2 w.heap.size A ys.length c css'.flatten hx (Reads.of_own hr2') hone h63 hbytes hbase ?_
  intro v' w' ho' hg hat
  have ho2 : Own Flat w' base e v' (xs ++ ys) := by
    refine ⟨css ++ css', by simp [hl, hl'], fun k cs x h1 h2 => ?_, by rw [List.length_append, List.flatten_append]; exact ho'⟩
    rcases Nat.lt_or_ge k css.length with hk | hk
    · rw [List.getElem?_append_left hk] at h1
      rw [List.getElem?_append_left (by omega)] at h2
      exact Rep.keep (hr k cs x h1 h2) (fun p hp => hp.1.elim) (fun b hb => hb.1.elim)
    · rw [List.getElem?_append_right hk] at h1
      rw [List.getElem?_append_right (by omega)] at h2
      exact Rep.keep (hr' (k - css.length) cs x h1 (by rw [hl]; exact h2)) (fun p hp => hp.1.elim) (fun b hb => hb.1.elim)
  obtain ⟨A', c', rfl⟩ := ho2.form
  exact h A' _ c' w' ho2 (by simp) hg (below_any (v' := v) (Below.refl _ _) hbase hown0.from_ hg)
end Go.Proofs.YtajgoffeahfmfaaDoor

/- The walk of analysis.Link. -/
namespace Go.Proofs.YtajgoffeahfmfaaDoor
open Rep (rep)
open Go.RowKit

theorem oneL_len (number : Int) (t : Token) : (oneL number t).length ≤ t.text.size + 2 := by
  have hg : ∀ n, (gramsT n t).length ≤ t.text.size + 1 := by
    intro n
    unfold gramsT
    split
    · simp
    · rw [gramsTo_len]
      have := places_len t.text
      omega
  have h2 := hg 2
  have h3 := hg 3
  unfold oneL
  repeat' split
  all_goals first
    | (simp; done)
    | omega
    | (unfold stopTok; split <;> simp <;> omega)
    | (unfold marksT; split <;> simp <;> omega)
def linkL (number : Int) (toks : List Token) : List Token := toks.flatMap (oneL number)
theorem linkL_take (number : Int) (toks : List Token) (k : Nat) : (linkL number (toks.take k)).length ≤ (linkL number toks).length := by
  unfold linkL
  conv => rhs; rw [← List.take_append_drop k toks]
  rw [List.flatMap_append, List.length_append]
  omega

theorem equalIn_nilFunc (d : Nat) (w : World) : (Op.equalIn (d + 1) 69 .nilFunc .nilFunc).run Tryd.prog w = .ok true w := by
  simp [Op.equalIn, run_underlying Tryd.underlying69]
theorem equalIn_func_nil (d : Nat) (w : World) (k : Fn) (a b : Array Value) : (Op.equalIn (d + 1) 69 (.func k a b) .nilFunc).run Tryd.prog w = .ok false w := by
  simp [Op.equalIn, run_underlying Tryd.underlying69]
theorem eql_nilFunc (w : World) : (binOp .eql 69 .nilFunc .nilFunc).run Tryd.prog w = .ok (.bool true) w := by
  simp only [binOp]
  simp [Op.equal, Op.maxDepth, equalIn_nilFunc 9999 w]
theorem eql_func_nil (w : World) (k : Fn) (a b : Array Value) : (binOp .eql 69 (.func k a b) .nilFunc).run Tryd.prog w = .ok (.bool false) w := by
  simp only [binOp]
  simp [Op.equal, Op.maxDepth, equalIn_func_nil 9999 w]

set_option maxRecDepth 100000 in
theorem link_not (n : Int) (hn : isFilter n = false) (A : Option Addr) (m c : Nat) (w : World) :
    Calls Tryd.prog 26 #[.int .i64 n, .slice A m c] w fun e w' => e = .returned (.tuple #[.slice none 0 0, .int .i64 60]) ∧ w = w' := by
  have hq1 := eql_nilFunc
  have hq2 := eql_func_nil
  go_enter Tryd.func26, Tryd.ntmps26
  go_wp2_with (go_at_call 32; go_must (refine (find_not n hn _).mono ?_); rintro e w' ⟨rfl, rfl⟩)
  go_ret2
  exact ⟨rfl, rfl⟩

set_option maxRecDepth 100000 in
set_option maxHeartbeats 2000000 in
theorem link_is (n : Int) (hn : isFilter n = true) (A : Option Addr) (m c : Nat) (toks : List Token) (w : World) (hT : Tabs w) (hr : RepList w (· < w.heap.size) A m c toks) (hts : ∀ t ∈ toks, t.text.size ≤ 1000000000) :
    Calls Tryd.prog 26 #[.int .i64 n, .slice A m c] w fun e w' => (((linkL n toks).length ≤ 4096 ∧ ∃ v, e = .returned (.tuple #[v, .int .i64 0]) ∧ Own Flat w' w.heap.size 44 v (linkL n toks)) ∨ (4096 < (linkL n toks).length ∧ e = .returned (.tuple #[.slice none 0 0, .int .i64 84]))) ∧ Below w.heap.size w w' := by
  obtain ⟨i0, hi0, hz0, hz1, hz2⟩ := info_parts token_info
  have hcap := hr.cap
  have hlm := hr.length
  have Hr := Lib.hid hr
  have Hts := Lib.hid hts
  have Hlm := Lib.hid hlm
  clear hr hts hlm
  have hq1 := eql_nilFunc
  have hq2 := eql_func_nil
  go_enter Tryd.func26, Tryd.ntmps26
  go_wp2_with fail
  refine (find_is n hn _ hT).mono ?_
  rintro e w1 ⟨k, lb, rfl, hf, hb1⟩
  obtain ⟨ent, hf⟩ := hf
  have Hf := Lib.hid hf
  have Hb1 := Lib.hid hb1
  have hs1 := hb1.size
  clear hf hb1 hT
  go_wp2
  go_loopw [7, 16] (fun v i wr => ∃ j : Nat, j ≤ m ∧ i = .int .i64 j ∧ Own Flat wr w1.heap.size 44 v (linkL n (toks.take j)) ∧ (linkL n (toks.take j)).length ≤ 4096 ∧ Below w1.heap.size w1 wr) (fun _ i _ => m - (intOf i).toNat)
  case atStart => exact ⟨0, by omega, rfl, Own.nil _ _ _ _, by simp [linkL], Below.refl _ _⟩
  case round =>
    obtain ⟨j, hj, rfl, oo, hol, hbw⟩ := hrel
    obtain ⟨out, hout⟩ : ∃ out, linkL n (toks.take j) = out := ⟨_, rfl⟩
    rw [hout] at oo hol
    obtain ⟨Aq, cq, rfl⟩ := oo.form
    obtain ⟨L, hL⟩ : ∃ L, out.length = L := ⟨_, rfl⟩
    rw [hL] at oo hol ⊢
    have HL := Lib.hid hL
    have Hout := Lib.hid hout
    have Oo := Lib.hid oo
    have Hbw := Lib.hid hbw
    have hsw := hbw.size
    clear hL hout oo
    by_cases hlt : j < m
    · obtain ⟨bt, ot, t, rfl, htk, hbt, hel⟩ := Hr.out.at_ hlt
      obtain ⟨e0, e1, e2, e3, hok⟩ := Token.at_ hel
      have hsz := Hts.out t (List.mem_of_getElem? htk.out)
      have tr : ∀ x v, w.cell? ⟨bt, x, none⟩ = some v → wr.cell? ⟨bt, x, none⟩ = some v := fun x v h => ((Hb1.out.trans (Hbw.out.mono hs1)).cell (p := ⟨bt, x, none⟩) hbt).trans h
      have e0 := tr _ _ e0
      have e1 := tr _ _ e1
      have e2 := tr _ _ e2
      have e3 := tr _ _ e3
      have Hok := Lib.hid hok
      have hol1 := oneL_len n t
      obtain ⟨ys, hys⟩ : ∃ ys, oneL n t = ys := ⟨_, rfl⟩
      have hst : linkL n (toks.take (j + 1)) = out ++ ys := by
        rw [← Hout.out, ← hys]
        unfold linkL
        rw [List.take_add_one, htk.out, Option.toList_some, List.flatMap_append, List.flatMap_singleton]
      rw [hys] at hol1
      have Hst := Lib.hid hst
      have Hys := Lib.hid hys
      clear hel hok hbw tr hst hys
      go_wp2_with fail
      refine (Hf.out _ t (Hbw.out.alloc hsw _) Hok.out hsz).mono ?_
      rw [Hys.out]
      rintro e w2 ⟨vy, rfl, oy, hb2⟩
      obtain ⟨Ay, cy, rfl⟩ := oy.form
      have oo2 := (Oo.out.alloc (.cells #[.string t.text, .int .i64 t.pos, .int .i64 t.from_, .int .i64 t.to_] 44)).on hb2
      have hs2 := hb2.size
      simp only [World.size_alloc] at hs2
      have Oy := Lib.hid oy
      have Oo2 := Lib.hid oo2
      have Hb2 : Hid (Below w1.heap.size w1 w2) := (Hbw.out.alloc hsw _).trans (hb2.mono (by simp; omega))
      obtain ⟨Ly, hLy⟩ : ∃ Ly, ys.length = Ly := ⟨_, rfl⟩
      rw [hLy] at hol1 Oy ⊢
      have HLy := Lib.hid hLy
      clear oy oo2 hb2 hLy e0 e1 e2 e3
      by_cases hmore : 4096 < L + Ly
      · have hfin : 4096 < (linkL n toks).length := by
          have h1 := linkL_take n toks (j + 1)
          rw [Hst.out, List.length_append, HL.out, HLy.out] at h1
          omega
        have Hfin := Lib.hid hfin
        clear hfin
        go_wp2_with (at_builtin
                     go_must (refine wpList_appF rfl (.tmp 20) (.tmp 23) _ rfl w1.heap.size 44 i0 _ 40 Tryd.underlying34 hi0 hz0 hz1 hz2 rfl (.slice Aq L cq) out rfl Oo2.out _ Ay Ly cy ys rfl Oy.out (by rw [HL.out, HLy.out]; omega) (by rw [HL.out, HLy.out]; omega) (by omega) ?_)
                     rw [HL.out, HLy.out]
                     intro A3 n3 c3 w3 ho3 hn3 hg3 hb3
                     subst hn3
                     have Ho3 := Lib.hid ho3
                     have Hb3 := Lib.hid hb3
                     clear ho3 hg3 hb3)
        go_ret2
        exact ⟨.inr ⟨Hfin.out, rfl⟩, Hb1.out.trans ((Hb2.out.trans Hb3.out).mono hs1)⟩
      · go_wp2_with (at_builtin
                     go_must (refine wpList_appF rfl (.tmp 20) (.tmp 23) _ rfl w1.heap.size 44 i0 _ 40 Tryd.underlying34 hi0 hz0 hz1 hz2 rfl (.slice Aq L cq) out rfl Oo2.out _ Ay Ly cy ys rfl Oy.out (by rw [HL.out, HLy.out]; omega) (by rw [HL.out, HLy.out]; omega) (by omega) ?_)
                     rw [HL.out, HLy.out]
                     intro A3 n3 c3 w3 ho3 hn3 hg3 hb3
                     subst hn3
                     have Ho3 := Lib.hid ho3
                     have Hb3 := Lib.hid hb3
                     clear ho3 hg3 hb3)
        go_roundw
        case rel => exact ⟨j + 1, by omega, by go_num, by rw [Hst.out]; exact Ho3.out, by rw [Hst.out, List.length_append, HL.out, HLy.out]; omega, Hb2.out.trans Hb3.out⟩
        case measure => simp [intOf]; omega
    · obtain rfl : j = m := by omega
      have hfin : linkL n toks = out := by rw [← Hout.out, List.take_of_length_le (by have := Hlm.out; omega)]
      have Hfin := Lib.hid hfin
      clear hfin hbw
      go_wp2
      go_ret2
      refine ⟨.inl ⟨by rw [Hfin.out, HL.out]; exact hol, _, rfl, by rw [Hfin.out]; exact Oo.out.mono hs1⟩, Hb1.out.trans (Hbw.out.mono hs1)⟩
end Go.Proofs.YtajgoffeahfmfaaDoor

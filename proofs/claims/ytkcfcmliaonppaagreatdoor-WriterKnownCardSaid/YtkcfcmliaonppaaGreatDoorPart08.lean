/- The texts EvWk, EvY, EvZ, EvC0 of WriterKnown, joined by program (tools/merge.py): walks of the functions that the law reaches, and plain facts; no condition. -/
import Derived.Test.YtkcfcmliaonppaaGreatDoorPart06
import Derived.Test.YtkcfcmliaonppaaGreatDoorPart07
import Derived.Lib.LaidTab
import Derived.Lib.LaidU8
import Derived.Test.YtkcfcmliaonppaaGreatDoorProg
set_option linter.unusedVariables false
set_option linter.unusedSimpArgs false

/-
  The abstract machine: a range over a map goes on to whichever entry comes next; runs that part and meet again.
-/
set_option linter.unusedVariables false
set_option linter.unusedSectionVars false
set_option linter.unusedSimpArgs false
set_option linter.constructorNameAsVariable false
namespace Go.Proofs.YtkcfcmliaonppaaGreatDoor.Ev
open Go Go.RowKit

section
variable [Xt] {P : Program} {ng n0 : Nat} {σ : Sg} {h : AH} {w : World}

theorem ERs.at {σ : Sg} : ∀ {a : List (AV × AV × Nat)} {v : List MapEntry}, ERs σ a v → ∀ (i : Nat) y, v[i]? = some y → ∃ x, a[i]? = some x ∧ ER σ x y
  | [], [], _, i, y, h => by simp at h
  | a :: l, v :: m, r, 0, y, h => by simp at h; subst h; exact ⟨a, by simp, r.1⟩
  | a :: l, v :: m, r, i + 1, y, h => by simpa using ERs.at r.2 i y (by simpa using h)
  | [], _ :: _, r, _, _, _ => r.elim
  | _ :: _, [], r, _, _, _ => r.elim
theorem ERs.all_lt {σ : Sg} {n : Nat} : ∀ {a : List (AV × AV × Nat)} {v : List MapEntry}, ERs σ a v → a.all (fun e => Nat.blt e.2.2 n) = true → ∀ e ∈ v, e.born < n
  | [], [], _, _, e, he => by simp at he
  | a :: l, v :: m, r, h, e, he => by
    simp only [List.all_cons, Bool.and_eq_true] at h
    rcases List.mem_cons.1 he with rfl | he
    · rw [r.1.2.2]; simpa [nblt] using h.1
    · exact ERs.all_lt r.2 h.2 e he
  | [], _ :: _, r, _, _, _ => r.elim
  | _ :: _, [], r, _, _, _ => r.elim

/-- whatever is asked, one of so many is answered -/
theorem choose_map (n : Nat) (hn : 0 < n) (w : World) : ∃ i w1, i < n ∧ (choose (.mapNext n)).run P w = .ok i w1 ∧ w1.heap = w.heap ∧ Below n0 w w1 := by
  by_cases hf : (Question.mapNext n).forced = true
  · exact ⟨0, w, hn, by simp [choose, Sem.run, hf], rfl, Below.refl _ _⟩
  · exact ⟨w.tape w.drawn (.mapNext n) % n, { w with drawn := w.drawn + 1 }, Nat.mod_lt _ hn, by simp [choose, Sem.run, hf, Question.cut], rfl, ⟨rfl, rfl, rfl, Nat.le_refl _, fun _ _ => rfl⟩⟩

theorem nexts_sound (R : HR ng n0 σ h w) {ty : TypeId} {x : AV} {xv : Value} {l : List (AV × AH)} (hx : VR σ x xv) (hq : anexts h x = some l) :
    ∃ p ∈ l, Eff P ng n0 σ h w p.1 p.2 (do pure (.value (← Instr.next xv false ty))) := by
  unfold anexts at hq
  split at hq
  · rename_i k
    obtain ⟨e, he, rfl⟩ := hx
    cases hb : h.get k with
    | none => simp [hb] at hq
    | some bl =>
      cases bl <;> simp only [hb] at hq <;> try (cases hq; done)
      rename_i m since seen last
      obtain ⟨hbase, e', he', hw⟩ := R.blk k e _ he hb
      cases hm : h.get m with
      | none => simp [hm] at hq
      | some bm =>
        cases bm <;> simp only [hm] at hq <;> try (cases hq; done)
        rename_i es clock
        obtain ⟨es', hw', hr⟩ := R.blk m e' _ he' hm
        have hfil := filter_rel seen hr
        have hleft : (es'.filter fun e => !seen.toArray.contains e.born).toList = es'.toList.filter fun e => !seen.toArray.contains e.born := Array.toList_filter ..
        have hg1 : (getObj e.blk).run P w = .ok (.mapIter (some e'.blk) since seen.toArray last) w := by simp [getObj, Sem.run, hw]
        have hg2 : (getObj e'.blk).run P w = .ok (.map es' clock) w := by simp [getObj, Sem.run, hw']
        generalize hL : es.filter (fun e => !hasNat seen e.2.2) = L at hq hfil
        generalize hL' : es'.filter (fun e => !seen.toArray.contains e.born) = L' at hleft
        rw [← hleft] at hfil
        cases L with
        | nil => cases hq
        | cons e0 L0 =>
          simp only at hq
          cases hc : ((e0 :: L0).all (fun e => Nat.blt e.2.2 since) && (seen.isEmpty || es.any (fun e => Nat.blt e.2.2 last))) with
          | false => rw [hc] at hq; cases hq
          | true =>
            rw [hc, cond_true] at hq
            injection hq with hq; subst hq
            rw [Bool.and_eq_true] at hc
            obtain ⟨c1, c2⟩ := hc
            have hcond : (!seen.toArray.isEmpty && !es'.isEmpty && es'.all (fun e => decide (e.born ≥ last))) = false := by
              rw [Bool.or_eq_true] at c2
              rcases c2 with c2 | c2
              · have : seen = [] := by simpa using c2
                subst this; simp
              · have := (any_rel last hr c2).1
                rw [Array.all_toList] at this
                simp [this]
            have hlt := ERs.all_lt hfil c1
            have hlen := ERs.length hfil
            have hold : L'.filter (fun e => decide (e.born < since)) = L' := by
              rw [Array.filter_eq_self]
              intro a ha
              exact decide_eq_true (hlt a (by simpa using ha))
            have hnew : L'.filter (fun e => decide (e.born ≥ since)) = #[] := by
              rw [Array.filter_eq_empty_iff]
              intro a ha
              have := hlt a (by simpa using ha)
              simp; omega
            have hsz : 0 < L'.size := by
              have : L'.toList.length = L'.size := by simp
              simp only [List.length_cons] at hlen; omega
            have hne : L'.isEmpty = false := by
              cases hx : L'.isEmpty with
              | false => rfl
              | true => rw [Array.isEmpty_iff_size_eq_zero] at hx; omega
            obtain ⟨i, w1, hi, hch, hw1, hb1⟩ := choose_map (P := P) (n0 := n0) L'.size hsz w
            obtain ⟨y, hy⟩ : ∃ y, L'[i]? = some y := ⟨L'[i], by simp [hi]⟩
            obtain ⟨z, hz, hzy⟩ := ERs.at hfil i y (by simpa using hy)
            have hzm : z ∈ e0 :: L0 := List.mem_of_getElem? hz
            have R1 : HR ng n0 σ h w1 := R.world hw1
            have hwk : w1.heap[e.blk]? = some (.mapIter (some e'.blk) since seen.toArray last) := by rw [hw1]; exact hw
            have hob := obj_sound (P := P) R1 (b' := .mapIter m since (seen ++ [z.2.2]) clock) (o' := .mapIter (some e'.blk) since (seen.toArray.push y.born) clock) he hb rfl hwk rfl (fun w' hw2 => ⟨hbase, e', he', by rw [hw2, hzy.2.2]; simp⟩)
            refine ⟨_, List.mem_map.2 ⟨z, hzm, rfl⟩, σ, _, .value (.tuple #[.bool true, y.key, y.val]), ?_, Sg.le.refl σ, hob.2.1, hb1.trans hob.2.2, fun _ _ => rfl, Nat.le_refl _, .inl ⟨_, rfl, _, rfl, rfl, hzy.1, hzy.2.1, trivial⟩⟩
            have hcand : ((if (L'.filter (fun e => decide (e.born < since))).isEmpty then #[(none : Option MapEntry)] else #[]) ++ (L'.filter (fun e => decide (e.born < since)) ++ L'.filter (fun e => decide (e.born ≥ since))).map some) = L'.map some := by
              rw [hold, hnew, hne]; simp
            have hob1 := hob.1
            simp only [Instr.next, Loc.at, hbase, Nat.add_zero, Sem.run_bind, hg1, Result.andThen_ok, hg2, hcond, Bool.false_eq_true, if_false, hL', hcand, Array.size_map, hch, Array.getElem?_map, hy, Option.map_some, hob1, Sem.run_pure]
  · cases hq

variable {m : AM} {f : Frame} {cs base : List Frame} {p : List (Nat × Nat)} {ks : List Nat}

theorem adones_at {m : AM} : ∀ {l : List (AV × AH)} {ms : List AM}, adones P m l = some ms → ∀ q ∈ l, ∃ m' ∈ ms, AM.done P m q.1 q.2 = some m'
  | [], _, _, q, h => by cases h
  | x :: l, ms, h, q, hq => by
    simp only [adones] at h
    cases h1 : AM.done P m x.1 x.2 with
    | none => simp [h1] at h
    | some m1 =>
      cases h2 : adones P m l with
      | none => simp [h1, h2] at h
      | some ms' =>
        simp only [h1, h2] at h
        injection h with h; subst h
        rcases List.mem_cons.1 hq with rfl | hq
        · exact ⟨m1, List.mem_cons_self .., h1⟩
        · obtain ⟨m', h3, h4⟩ := adones_at h2 q hq
          exact ⟨m', List.mem_cons_of_mem _ h3, h4⟩

theorem forks_sound {ms : List AM} (M : MRx P ng n0 σ m f cs w p ks) (hq : aforks P ng m = some ms) : ∃ m' ∈ ms, Post P ng n0 σ w f cs base m' := by
  unfold aforks at hq
  cases hr : m.fr.ret with
  | true => rw [hr] at hq; cases hq
  | false =>
    rw [hr, cond_false] at hq
    split at hq
    · rename_i ops i o rest k ht
      have hm := M.run hr
      have htop := M.top.top
      rw [ht] at htop
      obtain ⟨k', e1, e2, e3, e4, e5⟩ := htop
      have hat : AtEff P m.fr.todo f.todo := by rw [ht]; unfold AtEff; trivial
      have hi : ops.toList[i]? = some o := by
        have : (ops.toList.drop i)[0]? = some o := by rw [← e2]; rfl
        simpa using this
      have hlt : i < ops.size := by
        have := (List.getElem?_eq_some_iff.1 hi).1; simpa using this
      have hr' : (List.range ops.size).drop i = i :: (List.range ops.size).drop (i + 1) := by
        rw [List.drop_eq_getElem_cons (by simpa using hlt)]; simp
      have ho : ops[i]? = some o := by simpa using hi
      rw [hr'] at e1
      split at hq
      · rename_i ha
        have hw := wanted_sound e4 (fun _ _ _ _ _ _ _ h => h) ha
        have A : AtOp f ops i _ k' o := ⟨e1, hm, ho, hw⟩
        have hops : ∀ x ∈ o.op.operands, VR σ (ev ng m.fr.tmps x) ((Frame.act f).eval x) := fun x _ => ev_sound M.heap e4 fun _ _ h => h
        split at hq
        · rename_i x hop
          split at hq
          · rename_i l hl
            obtain ⟨q, hql, he⟩ := nexts_sound (P := P) (ty := o.type) M.heap (hops x (by simp [hop, Op.operands])) hl
            obtain ⟨m', hm', hd⟩ := adones_at hq q hql
            refine ⟨m', hm', eff_done M hat hd he fun rr w' hrun hk => ?_⟩
            have hsem : o.semAt f.roundOf (Frame.act f).eval = execOp (Frame.act f).eval o := Oper.semAt_eq _ _ _ (by simp [hop])
            have hs : execOp (Frame.act f).eval o = (do pure (.value (← Instr.next ((Frame.act f).eval x) false o.type))) := by simp only [execOp, hop]
            rw [← hs, ← hsem] at hrun
            rcases hk with ⟨u, rfl⟩ | rfl
            · exact step_val A hrun
            · exact step_skp A hrun
          · cases hq
        · cases hq
      · cases hq
    · cases hq

/-! ### Calls told by their contracts -/
theorem HR.beyond (R : HR ng n0 σ h w) {w' : World} (hb : Below w.heap.size w w') : HR ng n0 σ h w' :=
  ⟨fun k e b h1 h2 => (R.blk k e b h1 h2).keep (Sg.le.refl σ) (hb.block _ (R.lt k e h1)), R.fresh, R.freshA, R.inj, fun k e he => Nat.lt_of_lt_of_le (R.lt k e he) hb.size, R.glob, R.own, R.ngn, Nat.le_trans R.big hb.size⟩
/-- what is asked of such contracts -/
def SumOk (P : Program) (ng : Nat) (S : AH → FuncId → List AV → Option AV) : Prop :=
  ∀ (n0 : Nat) (σ : Sg) (h : AH) (w : World) (g : FuncId) (args : List AV) (v : AV) (argv : Array Value), HR ng n0 σ h w → VRs σ args argv.toList → S h g args = some v →
    (∃ fn c, P.funcs[g]? = some fn ∧ fn.body = some c ∧ (fn.name == "runtime.NumGoroutine") = false) ∧ Calls P g argv w fun e w' => ∃ u, e = .returned u ∧ VR σ v u ∧ Below w.heap.size w w'
theorem sum_sound {S : AH → FuncId → List AV → Option AV} (hS : SumOk P ng S) {m' : AM} (M : MRx P ng n0 σ m f cs w p ks) (hq : asum P ng S m = some m') : Post P ng n0 σ w f cs base m' := by
  unfold asum at hq
  cases hr : m.fr.ret with
  | true => rw [hr] at hq; cases hq
  | false =>
    rw [hr, cond_false] at hq
    split at hq
    · rename_i ops i o rest k ht
      have hm := M.run hr
      have htop := M.top.top
      rw [ht] at htop
      obtain ⟨k', e1, e2, e3, e4, e5⟩ := htop
      have hat : AtEff P m.fr.todo f.todo := by rw [ht]; unfold AtEff; trivial
      have hi : ops.toList[i]? = some o := by
        have : (ops.toList.drop i)[0]? = some o := by rw [← e2]; rfl
        simpa using this
      have hlt : i < ops.size := by
        have := (List.getElem?_eq_some_iff.1 hi).1; simpa using this
      have hr' : (List.range ops.size).drop i = i :: (List.range ops.size).drop (i + 1) := by
        rw [List.drop_eq_getElem_cons (by simpa using hlt)]; simp
      have ho : ops[i]? = some o := by simpa using hi
      rw [hr'] at e1
      split at hq
      · rename_i ha
        have hw := wanted_sound e4 (fun _ _ _ _ _ _ _ h => h) ha
        have A : AtOp f ops i _ k' o := ⟨e1, hm, ho, hw⟩
        have hops : ∀ x ∈ o.op.operands, VR σ (ev ng m.fr.tmps x) ((Frame.act f).eval x) := fun x _ => ev_sound M.heap e4 fun _ _ h => h
        split at hq
        · rename_i c hop
          split at hq
          · rename_i g hc
            have hgv := hops g (by simp [hop, Op.operands, Call.operands, hc])
            have hargs := ops_map (σ := σ) (T := ev ng m.fr.tmps) (ρ := (Frame.act f).eval) (xs := c.args) fun x hx => hops x (by simp [hop, Op.operands, Call.operands]; right; exact hx)
            split at hq
            · rename_i fn first hg
              rw [hg] at hgv
              obtain ⟨x', y', hgv, hx', hy'⟩ := hgv
              have hy0 : y' = #[] := by
                have := VRs.length hy'
                apply Array.eq_empty_of_size_eq_zero
                simpa using this.symm
              subst hy0
              split at hq
              · rename_i v hv
                obtain ⟨⟨fnd, cd, f1, f2, f3⟩, hcall⟩ := hS n0 σ m.h w fn _ v (x' ++ c.args.map (Frame.act f).eval) M.heap (by rw [Array.toList_append]; exact VRs.app hx' hargs) hv
                obtain ⟨e, w', f', ⟨u, rfl, hu, hb⟩, hst, hff, hret⟩ := hcall (f :: (cs ++ base))
                have hst : Steps P _ _ := hst
                have hcf : ∀ w, (callFunc fn (x' ++ c.args.map (Frame.act f).eval)).run P w = .ok (.enter fn (x' ++ c.args.map (Frame.act f).eval)) w := fun w => by
                  have hn' : ¬ fnd.name = "runtime.NumGoroutine" := by simpa using f3
                  simp [callFunc, f1, f2, hn', program, Sem.run]
                have hent := step_ent (P := P) (cs := cs ++ base) (w := w) A (g := fn) (args := x' ++ c.args.map (Frame.act f).eval) (w' := w) (by
                  rw [Oper.semAt_eq _ _ _ (by simp [hop])]
                  simp only [execOp, hop, resolve, hc, hgv, Deferred.ofValue, invoke, Sem.run_bind, Sem.run_pure, Result.andThen_ok, Array.append_empty, hcf])
                have hlv := step_leave_returned (c := f) (cs := cs ++ base) hret
                unfold AM.done at hq
                cases hf : AFrame.finish P m.fr v with
                | none => simp [hf] at hq
                | some fr =>
                  simp only [hf] at hq
                  injection hq with hq; subst hq
                  obtain ⟨h1, h2, h3⟩ := finish_sound (ng := ng) M.top hat hf hu
                  exact ⟨σ, f.finish u, cs, w', p, ks, .head hent (hst.trans (.one hlv)), Sg.le.refl σ, ⟨h1, M.stack, M.pg, M.heap.beyond hb, h3 m.h⟩, hb.mono M.heap.big⟩
              · cases hq
            · cases hq
          · cases hq
        · cases hq
      · cases hq
    · cases hq

/-- from a state to one of these -/
def LeadsTo (P : Program) (ng : Nat) (m : AM) (ms : List AM) : Prop :=
  ∀ (n0 : Nat) (σ : Sg) (f : Frame) (cs base : List Frame) (w : World) (p : List (Nat × Nat)) (l : List Nat), MRx P ng n0 σ m f cs w p l → ∃ m' ∈ ms, Post P ng n0 σ w f cs base m'
theorem Post.trans {σ : Sg} {m1 m2 : AM} (h1 : Post P ng n0 σ w f cs base m1) (h2 : ∀ (σ : Sg) (f : Frame) (cs : List Frame) (w : World) (p : List (Nat × Nat)) (l : List Nat), MRx P ng n0 σ m1 f cs w p l → Post P ng n0 σ w f cs base m2) : Post P ng n0 σ w f cs base m2 := by
  obtain ⟨σ1, f1, cs1, w1, p1, ks1, s1, l1, M1, b1⟩ := h1
  obtain ⟨σ2, f2, cs2, w2, p2, ks2, s2, l2, M2, b2⟩ := h2 _ _ _ _ _ _ M1
  exact ⟨σ2, f2, cs2, w2, p2, ks2, s1.trans s2, l1.trans l2, M2, b1.trans b2⟩
theorem Post.one_of {σ : Sg} {m1 : AM} {ms : List AM} (h1 : Post P ng n0 σ w f cs base m1) (h2 : LeadsTo P ng m1 ms) : ∃ m' ∈ ms, Post P ng n0 σ w f cs base m' := by
  obtain ⟨σ1, f1, cs1, w1, p1, ks1, s1, l1, M1, b1⟩ := h1
  obtain ⟨m', hm, σ2, f2, cs2, w2, p2, ks2, s2, l2, M2, b2⟩ := h2 n0 σ1 f1 cs1 base w1 p1 ks1 M1
  exact ⟨m', hm, σ2, f2, cs2, w2, p2, ks2, s1.trans s2, l1.trans l2, M2, b1.trans b2⟩

/-- A script's run leads from each of its states to one of its ends. -/
theorem scr_sound (hP : 8 ≤ P.types.size) (hmix : P.follows .mixedOrders = true) {S : AH → FuncId → List AV → Option AV} (hS : SumOk P ng S) : ∀ (s : Sc) (l ms : List AM), scr P ng S s l = some ms → ∀ m ∈ l, LeadsTo P ng m ms
  | .stop, l, ms, hq, m, hm => by
    match l, hq with
    | [m1], hq =>
      simp only [scr] at hq
      injection hq with hq; subst hq
      intro n0 σ f cs base w p ks M
      exact ⟨m, hm, σ, f, cs, w, p, ks, .refl _ _, Sg.le.refl σ, M, Below.refl _ _⟩
  | .go n s, l, ms, hq, m, hm => by
    match l, hq with
    | [m1], hq =>
      obtain rfl : m = m1 := by simpa using hm
      simp only [scr] at hq
      cases hr : arun P ng n m with
      | none => simp [hr] at hq
      | some m2 =>
        simp only [hr] at hq
        have ih := scr_sound hP hmix hS s [m2] ms hq m2 (List.mem_cons_self ..)
        intro n0 σ f cs base w p ks M
        exact Post.one_of (run_sound (base := base) hP hmix n m m2 σ f cs w p ks M hr) ih
  | .fork s, l, ms, hq, m, hm => by
    match l, hq with
    | [m1], hq =>
      obtain rfl : m = m1 := by simpa using hm
      simp only [scr] at hq
      cases hr : aforks P ng m with
      | none => simp [hr] at hq
      | some l2 =>
        simp only [hr] at hq
        intro n0 σ f cs base w p ks M
        obtain ⟨m2, hm2, hp⟩ := forks_sound (base := base) M hr
        exact Post.one_of hp (scr_sound hP hmix hS s l2 ms hq m2 hm2)
  | .sum s, l, ms, hq, m, hm => by
    match l, hq with
    | [m1], hq =>
      obtain rfl : m = m1 := by simpa using hm
      simp only [scr] at hq
      cases hr : asum P ng S m with
      | none => simp [hr] at hq
      | some m2 =>
        simp only [hr] at hq
        intro n0 σ f cs base w p ks M
        exact Post.one_of (sum_sound (base := base) hS M hr) (scr_sound hP hmix hS s [m2] ms hq m2 (List.mem_cons_self ..))
  | .alt a b, l, ms, hq, m, hm => by
    match l, hq with
    | m1 :: l1, hq =>
      simp only [scr] at hq
      cases h1 : scr P ng S a [m1] with
      | none => simp [h1] at hq
      | some x =>
        cases h2 : scr P ng S b l1 with
        | none => simp [h1, h2] at hq
        | some y =>
          simp only [h1, h2] at hq
          injection hq with hq; subst hq
          rcases List.mem_cons.1 hm with rfl | hm
          · intro n0 σ f cs base w p ks M
            obtain ⟨m', h3, h4⟩ := scr_sound hP hmix hS a [m] x h1 m (List.mem_cons_self ..) n0 σ f cs base w p ks M
            exact ⟨m', List.mem_append.2 (.inl h3), h4⟩
          · intro n0 σ f cs base w p ks M
            obtain ⟨m', h3, h4⟩ := scr_sound hP hmix hS b l1 y h2 m hm n0 σ f cs base w p ks M
            exact ⟨m', List.mem_append.2 (.inr h3), h4⟩
  | .nil, l, ms, hq, m, hm => by
    match l, hq with
    | [], _ => cases hm
end
end Go.Proofs.YtkcfcmliaonppaaGreatDoor.Ev

/-
  The abstract machine: runs in pieces; memory that is no longer needed is let go; words for what stands between two pieces.
-/
set_option linter.unusedVariables false
set_option linter.unusedSectionVars false
set_option linter.unusedSimpArgs false
set_option linter.constructorNameAsVariable false
namespace Go.Proofs.YtkcfcmliaonppaaGreatDoor.Ev
open Go Go.RowKit

/-! ### Quick tables -/
def evens {α : Type} : List α → List α
  | [] => []
  | [x] => [x]
  | x :: _ :: l => x :: evens l
def odds {α : Type} : List α → List α
  | [] => []
  | _ :: l => evens l
def ofL {α : Type} : Nat → List α → Tr α
  | 0, _ => .l
  | _ + 1, [] => .l
  | f + 1, x :: l => .n (some x) (ofL f (evens l)) (ofL f (odds l))
theorem evens_get {α : Type} : ∀ (l : List α) (i : Nat), (evens l)[i]? = l[2 * i]?
  | [], i => by simp [evens]
  | [x], 0 => rfl
  | [x], i + 1 => by simp [evens, show 2 * (i + 1) = 2 * i + 1 + 1 by omega]
  | x :: y :: l, 0 => rfl
  | x :: y :: l, i + 1 => by
    rw [show 2 * (i + 1) = 2 * i + 1 + 1 by omega]
    simp only [evens, List.getElem?_cons_succ]
    exact evens_get l i
theorem odds_get {α : Type} : ∀ (l : List α) (i : Nat), (odds l)[i]? = l[2 * i + 1]?
  | [], i => by simp [odds]
  | _ :: l, i => by simp only [odds, List.getElem?_cons_succ]; exact evens_get l i
theorem evens_len {α : Type} : ∀ (l : List α), 2 * (evens l).length ≤ l.length + 1
  | [] => by simp [evens]
  | [x] => by simp [evens]
  | x :: y :: l => by simp only [evens, List.length_cons]; have := evens_len l; omega
theorem odds_len {α : Type} : ∀ (l : List α), 2 * (odds l).length ≤ l.length
  | [] => by simp [odds]
  | _ :: l => by simp only [odds, List.length_cons]; exact evens_len l
theorem ofL_get {α : Type} : ∀ (f : Nat) (l : List α) (i : Nat), l.length < 2 ^ f → (ofL f l).get i = l[i]?
  | 0, l, i, h => by
    have : l = [] := List.eq_nil_of_length_eq_zero (by simpa using h)
    subst this; rw [ofL, Tr.get_l]; simp
  | f + 1, [], i, _ => by rw [ofL, Tr.get_l]; simp
  | f + 1, x :: l, i, h => by
    have hp : 2 ^ (f + 1) = 2 * 2 ^ f := by rw [Nat.pow_succ]; omega
    simp only [List.length_cons] at h
    rw [ofL, Tr.get_n]
    by_cases h0 : i = 0
    · subst h0; simp
    · rw [if_neg h0]
      obtain ⟨j, rfl⟩ : ∃ j, i = j + 1 := ⟨i - 1, by omega⟩
      rw [List.getElem?_cons_succ]
      have e1 := evens_len l
      have e2 := odds_len l
      by_cases h1 : (j + 1) % 2 = 1
      · rw [if_pos h1, ofL_get f _ _ (by omega), evens_get]; congr 1; omega
      · rw [if_neg h1, ofL_get f _ _ (by omega), odds_get]; congr 1; omega
def infoOf (P : Program) (types : Tr TypeInfo) (t : TypeId) : Option TypeInfo :=
  match types.get t with
  | some i => some i
  | none => P.info? t
def lkOf (P : Program) (types : Tr TypeInfo) (fns : Tr Func) : Lk where
  info? := infoOf P types
  underlying t := match infoOf P types t with
  | some { desc := .named _ u, .. } => (infoOf P types u).map (·.desc)
  | some i => some i.desc
  | none => none
  fn := fns.get
theorem lk_eq {P : Program} (h1 : P.types.toList.length < 2 ^ 12) (h2 : P.funcs.toList.length < 2 ^ 12) : lkOf P (ofL 12 P.types.toList) (ofL 12 P.funcs.toList) = Lk.of P := by
  have e1 : infoOf P (ofL 12 P.types.toList) = P.info? := by
    funext t
    unfold infoOf
    rw [ofL_get _ _ _ h1]
    cases ht : P.types.toList[t]? with
    | none => rfl
    | some i =>
      have hlt : t < P.types.size := by
        have := (List.getElem?_eq_some_iff.1 ht).1; simpa using this
      show some i = Tables.info? P.toTables t
      unfold Tables.info?
      rw [if_pos hlt, ← ht]; simp
  have e2 : (ofL 12 P.funcs.toList).get = fun f => P.funcs[f]? := by
    funext t; rw [ofL_get _ _ _ h2]; simp
  unfold lkOf Lk.of
  rw [e1, e2]
  rfl

/-! ### A state written out: what is handed on is constructors alone -/
section
variable {α : Type}
def nfN (n : Nat) (k : Nat → α) : α := match n with
  | 0 => k 0
  | m + 1 => k (m + 1)
def nfNs : List Nat → (List Nat → α) → α
  | [], k => k []
  | n :: l, k => nfN n fun n => nfNs l fun l => k (n :: l)
def nfI (i : Int) (k : Int → α) : α := match i with
  | .ofNat n => nfN n fun n => k (.ofNat n)
  | .negSucc n => nfN n fun n => k (.negSucc n)
def nfB (b : Bool) (k : Bool → α) : α := match b with
  | true => k true
  | false => k false
def nfK (j : IntKind) (k : IntKind → α) : α := match j with
  | .i8 => k .i8 | .i16 => k .i16 | .i32 => k .i32 | .i64 => k .i64 | .u8 => k .u8 | .u16 => k .u16 | .u32 => k .u32 | .u64 => k .u64
def nfC (c : Cap) (k : Cap → α) : α := match c with
  | .is n => nfN n fun n => k (.is n)
  | .room n => nfN n fun n => k (.room n)
def nfV (v : Value) (k : Value → α) : α := match v with
  | .pointer none => k (.pointer none)
  | .slice none a b => nfN a fun a => nfN b fun b => k (.slice none a b)
  | .map none => k (.map none)
  | .nilFunc => k .nilFunc
  | .nilIface => k .nilIface
  | v => k v
def nfO {β : Type} (f : β → (β → α) → α) (o : Option β) (k : Option β → α) : α := match o with
  | none => k none
  | some x => f x fun x => k (some x)
mutual
def AV.nf : AV → (AV → α) → α
  | .any, k => k .any
  | .lit v, k => nfV v fun v => k (.lit v)
  | .bool b, k => nfB b fun b => k (.bool b)
  | .int j n, k => nfK j fun j => nfI n fun n => k (.int j n)
  | .str s, k => nfNs s fun s => k (.str s)
  | .ptr a b, k => nfN a fun a => nfN b fun b => k (.ptr a b)
  | .slice a b c d, k => nfN a fun a => nfN b fun b => nfN c fun c => nfC d fun d => k (.slice a b c d)
  | .empty c, k => nfO nfN c fun c => k (.empty c)
  | .map a, k => nfN a fun a => k (.map a)
  | .func f x y, k => nfN f fun f => AV.nfs x fun x => AV.nfs y fun y => k (.func f x y)
  | .yield a, k => nfN a fun a => k (.yield a)
  | .iface t v, k => nfN t fun t => AV.nf v fun v => k (.iface t v)
  | .agg l, k => AV.nfs l fun l => k (.agg l)
  | .tuple l, k => AV.nfs l fun l => k (.tuple l)
def AV.nfs : List AV → (List AV → α) → α
  | [], k => k []
  | a :: l, k => AV.nf a fun a => AV.nfs l fun l => k (a :: l)
end
def nfL {β : Type} (f : β → (β → α) → α) : List β → (List β → α) → α
  | [], k => k []
  | a :: l, k => f a fun a => nfL f l fun l => k (a :: l)
def nfT {β : Type} (f : β → (β → α) → α) : Tr β → (Tr β → α) → α
  | .l, k => k .l
  | .n v a b, k => nfO f v fun v => nfT f a fun a => nfT f b fun b => k (.n v a b)
/-- the head alone: what stands in a code is the program's text -/
def nfCode (c : Code) (k : Code → α) : α := match c with
  | .skip => k .skip
  | .seq a b => k (.seq a b)
  | .cond a b c => k (.cond a b c)
  | .block a b => k (.block a b)
  | .loop a => k (.loop a)
  | .scope a => k (.scope a)
  | .exit a => k (.exit a)
  | .goto a => k (.goto a)
  | .label a => k (.label a)
  | .ret => k .ret
  | .region a b c => k (.region a b c)
  | .rangeFunc a b c d => k (.rangeFunc a b c d)
  | .refuse a => k (.refuse a)
def nfOps (a : Array Oper) (k : Array Oper → α) : α := match a with
  | ⟨l⟩ => k ⟨l⟩
def nfOpl (a : List Oper) (k : List Oper → α) : α := match a with
  | [] => k []
  | o :: l => k (o :: l)
def AItem.nf : AItem → (AItem → α) → α
  | .code c, k => nfCode c fun c => k (.code c)
  | .inBlock n, k => nfN n fun n => k (.inBlock n)
  | .inLoop c, k => nfCode c fun c => k (.inLoop c)
  | .inScope c, k => nfCode c fun c => k (.inScope c)
  | .reg o i l, k => nfOps o fun o => nfN i fun i => nfOpl l fun l => k (.reg o i l)
  | .drw o a b c r, k => nfOps o fun o => nfN a fun a => nfN b fun b => nfN c fun c => nfB r fun r => k (.drw o a b c r)
  | .rangeF n, k => nfN n fun n => k (.rangeF n)
  | .endF n, k => nfN n fun n => k (.endF n)
  | .beginRound, k => k .beginRound
def ADef.nf : ADef → (ADef → α) → α
  | .call f c a, k => nfN f fun f => AV.nfs c fun c => AV.nfs a fun a => k (.call f c a)
  | .collected n, k => nfN n fun n => k (.collected n)
def nfSt (s : LoopState) (k : LoopState → α) : α := match s with
  | .ready => k .ready
  | .busy => k .busy
  | .done => k .done
  | .exhausted => k .exhausted
def nfTmps (a : Array Tmp) (k : Array Tmp → α) : α := match a with
  | ⟨l⟩ => nfNs l fun l => k ⟨l⟩
def ALoop.nf (l : ALoop) (k : ALoop → α) : α := match l with
  | ⟨s, p, f, nt, T, ps, a, b, d⟩ => nfSt s fun s => nfO nfCode p fun p => nfN f fun f => nfN nt fun nt => nfT AV.nf T fun T => nfTmps ps fun ps => nfCode a fun a => nfCode b fun b => nfN d fun d => k ⟨s, p, f, nt, T, ps, a, b, d⟩
def nfE (e : AV × AV × Nat) (k : AV × AV × Nat → α) : α := match e with
  | (a, b, n) => AV.nf a fun a => AV.nf b fun b => nfN n fun n => k (a, b, n)
def ABlock.nf : ABlock → (ABlock → α) → α
  | .cells r cs, k => nfB r fun r => AV.nfs cs fun cs => k (.cells r cs)
  | .map es n, k => nfL nfE es fun es => nfN n fun n => k (.map es n)
  | .mapIter a b c d, k => nfN a fun a => nfN b fun b => nfNs c fun c => nfN d fun d => k (.mapIter a b c d)
  | .strIter s n, k => nfNs s fun s => nfN n fun n => k (.strIter s n)
  | .loop l, k => ALoop.nf l fun l => k (.loop l)
  | .deferred ds, k => nfL ADef.nf ds fun ds => k (.deferred ds)
def AFrame.nf (f : AFrame) (k : AFrame → α) : α := match f with
  | ⟨fn, nt, T, td, ds, r, d, o⟩ => nfN fn fun fn => nfN nt fun nt => nfT AV.nf T fun T => nfL AItem.nf td fun td => nfL ADef.nf ds fun ds => nfB r fun r => nfB d fun d => nfO nfN o fun o => k ⟨fn, nt, T, td, ds, r, d, o⟩
def AM.nf (m : AM) (k : AM → α) : α := match m with
  | ⟨fr, cs, h⟩ => match h with
    | ⟨n, t⟩ => AFrame.nf fr fun fr => nfL AFrame.nf cs fun cs => nfN n fun n => nfT ABlock.nf t fun t => k ⟨fr, cs, ⟨n, t⟩⟩

theorem nfN_eq (n : Nat) (k : Nat → α) : nfN n k = k n := by cases n <;> rfl
theorem nfNs_eq : ∀ (l : List Nat) (k : List Nat → α), nfNs l k = k l
  | [], _ => rfl
  | n :: l, k => by rw [nfNs, nfN_eq, nfNs_eq l]
theorem nfI_eq (n : Int) (k : Int → α) : nfI n k = k n := by cases n <;> simp only [nfI, nfN_eq]
theorem nfB_eq (b : Bool) (k : Bool → α) : nfB b k = k b := by cases b <;> rfl
theorem nfK_eq (b : IntKind) (k : IntKind → α) : nfK b k = k b := by cases b <;> rfl
theorem nfC_eq (b : Cap) (k : Cap → α) : nfC b k = k b := by cases b <;> simp only [nfC, nfN_eq]
theorem nfV_eq (b : Value) (k : Value → α) : nfV b k = k b := by
  unfold nfV; split <;> first | rfl | (rw [nfN_eq, nfN_eq])
theorem nfO_eq {β : Type} {f : β → (β → α) → α} (hf : ∀ b k, f b k = k b) (o : Option β) (k : Option β → α) : nfO f o k = k o := by
  cases o with
  | none => rfl
  | some x => exact hf _ _
mutual
theorem AV.nf_eq : ∀ (a : AV) (k : AV → α), AV.nf a k = k a
  | .any, _ => rfl
  | .lit _, _ => by rw [AV.nf, nfV_eq]
  | .bool _, _ => by rw [AV.nf, nfB_eq]
  | .int _ _, _ => by rw [AV.nf, nfK_eq, nfI_eq]
  | .str _, _ => by rw [AV.nf, nfNs_eq]
  | .ptr _ _, _ => by rw [AV.nf, nfN_eq, nfN_eq]
  | .slice _ _ _ _, _ => by rw [AV.nf, nfN_eq, nfN_eq, nfN_eq, nfC_eq]
  | .empty _, _ => by rw [AV.nf, nfO_eq nfN_eq]
  | .map _, _ => by rw [AV.nf, nfN_eq]
  | .func _ x y, _ => by rw [AV.nf, nfN_eq, AV.nfs_eq x, AV.nfs_eq y]
  | .yield _, _ => by rw [AV.nf, nfN_eq]
  | .iface _ v, _ => by rw [AV.nf, nfN_eq, AV.nf_eq v]
  | .agg l, _ => by rw [AV.nf, AV.nfs_eq l]
  | .tuple l, _ => by rw [AV.nf, AV.nfs_eq l]
theorem AV.nfs_eq : ∀ (a : List AV) (k : List AV → α), AV.nfs a k = k a
  | [], _ => rfl
  | a :: l, _ => by rw [AV.nfs, AV.nf_eq a, AV.nfs_eq l]
end
theorem nfL_eq {β : Type} {f : β → (β → α) → α} (hf : ∀ b k, f b k = k b) : ∀ (l : List β) (k : List β → α), nfL f l k = k l
  | [], _ => rfl
  | a :: l, k => by rw [nfL, hf, nfL_eq hf l]
theorem nfT_eq {β : Type} {f : β → (β → α) → α} (hf : ∀ b k, f b k = k b) : ∀ (t : Tr β) (k : Tr β → α), nfT f t k = k t
  | .l, _ => rfl
  | .n v a b, k => by rw [nfT, nfO_eq hf, nfT_eq hf a, nfT_eq hf b]
theorem nfCode_eq (c : Code) (k : Code → α) : nfCode c k = k c := by cases c <;> rfl
theorem nfOps_eq (c : Array Oper) (k : Array Oper → α) : nfOps c k = k c := by cases c; rfl
theorem nfOpl_eq (c : List Oper) (k : List Oper → α) : nfOpl c k = k c := by cases c <;> rfl
theorem AItem.nf_eq (c : AItem) (k : AItem → α) : AItem.nf c k = k c := by
  cases c <;> simp only [AItem.nf, nfCode_eq, nfN_eq, nfOps_eq, nfOpl_eq, nfB_eq]
theorem ADef.nf_eq (c : ADef) (k : ADef → α) : ADef.nf c k = k c := by
  cases c <;> simp only [ADef.nf, nfN_eq, AV.nfs_eq]
theorem nfSt_eq (c : LoopState) (k : LoopState → α) : nfSt c k = k c := by cases c <;> rfl
theorem nfTmps_eq (c : Array Tmp) (k : Array Tmp → α) : nfTmps c k = k c := by
  cases c; simp only [nfTmps, nfNs_eq]
theorem ALoop.nf_eq (c : ALoop) (k : ALoop → α) : ALoop.nf c k = k c := by
  cases c; simp only [ALoop.nf, nfSt_eq, nfO_eq nfCode_eq, nfN_eq, nfT_eq AV.nf_eq, nfTmps_eq, nfCode_eq]
theorem nfE_eq (c : AV × AV × Nat) (k : AV × AV × Nat → α) : nfE c k = k c := by
  obtain ⟨a, b, n⟩ := c; simp only [nfE, AV.nf_eq, nfN_eq]
theorem ABlock.nf_eq (c : ABlock) (k : ABlock → α) : ABlock.nf c k = k c := by
  cases c <;> simp only [ABlock.nf, nfB_eq, AV.nfs_eq, nfL_eq nfE_eq, nfN_eq, nfNs_eq, ALoop.nf_eq, nfL_eq ADef.nf_eq]
theorem AFrame.nf_eq (c : AFrame) (k : AFrame → α) : AFrame.nf c k = k c := by
  cases c; simp only [AFrame.nf, nfN_eq, nfT_eq AV.nf_eq, nfL_eq AItem.nf_eq, nfL_eq ADef.nf_eq, nfB_eq, nfO_eq nfN_eq]
theorem AM.nf_eq (c : AM) (k : AM → α) : AM.nf c k = k c := by
  obtain ⟨fr, cs, ⟨n, t⟩⟩ := c; simp only [AM.nf, nfN_eq, nfT_eq ABlock.nf_eq, nfL_eq AFrame.nf_eq, AFrame.nf_eq]
end

/-! ### Memory is let go -/
def keepGo (t : Tr ABlock) : List Nat → Tr ABlock → Tr ABlock
  | [], r => r
  | k :: ks, r => keepGo t ks (r.set k (t.get k))
def AM.gc (m : AM) (ks : List Nat) : AM := match m with | ⟨fr, cs, h⟩ => match h with | ⟨n, t⟩ => ⟨fr, cs, ⟨n, keepGo t ks .l⟩⟩
theorem keepGo_get {t : Tr ABlock} : ∀ (ks : List Nat) (r : Tr ABlock) (k : Nat) (b : ABlock), (keepGo t ks r).get k = some b → r.get k = some b ∨ t.get k = some b
  | [], _, _, _, h => .inl h
  | x :: ks, r, k, b, h => by
    rcases keepGo_get ks _ k b h with h | h
    · rw [Tr.get_set] at h
      by_cases hx : k = x
      · rw [if_pos hx] at h; subst hx; exact .inr h
      · rw [if_neg hx] at h; exact .inl h
    · exact .inr h
section
variable [Xt] {P : Program} {ng n0 : Nat} {σ : Sg} {h : AH} {w : World}
theorem HR.fewer {h' : AH} (R : HR ng n0 σ h w) (hg : ∀ k b, h'.get k = some b → h.get k = some b) (hn : h'.next = h.next) : HR ng n0 σ h' w :=
  ⟨fun k e b h1 h2 => R.blk k e b h1 (hg k b h2), fun k hk => R.fresh k (by rw [← hn]; exact hk), fun k hk => by
    cases hx : h'.get k with
    | none => rfl
    | some b => rw [← R.freshA k (by rw [← hn]; exact hk), hg k b hx],
   fun k k' e e' b b' h1 h2 h3 h4 => R.inj k k' e e' b b' h1 h2 (hg k b h3) (hg k' b' h4), R.lt, R.glob, fun k e b h1 h2 => R.own k e b h1 (hg k b h2), by rw [hn]; exact R.ngn, R.big⟩

def notReady : List AItem → Bool
  | .drw _ _ _ _ true :: _ => false
  | _ => true
theorem Rdy.of {nt : Nat} {T : Tr AV} {a : List AItem} (hp : notReady a = true) : Rdy P ng nt T h a := by
  unfold Rdy
  split
  · cases hp
  · trivial
theorem MRx.gc {m : AM} {f : Frame} {cs : List Frame} {p : List (Nat × Nat)} {l : List Nat} (M : MRx P ng n0 σ m f cs w p l) (ks : List Nat) (hp : notReady m.fr.todo = true) : MRx P ng n0 σ (m.gc ks) f cs w p l :=
  ⟨M.top, M.stack, ⟨M.pg.1, M.pg.2⟩, M.heap.fewer (fun k b hb => by
    rcases keepGo_get ks .l k b hb with h | h
    · rw [Tr.get_l] at h; cases h
    · exact h) rfl, Rdy.of hp⟩

/-- from one state to another: whatever memory the first stands for -/
def Leads (P : Program) (ng : Nat) (m m' : AM) : Prop :=
  ∀ (n0 : Nat) (σ : Sg) (f : Frame) (cs base : List Frame) (w : World) (p : List (Nat × Nat)) (l : List Nat), MRx P ng n0 σ m f cs w p l → Post P ng n0 σ w f cs base m'
theorem Leads.trans {a b c : AM} (h1 : Leads P ng a b) (h2 : Leads P ng b c) : Leads P ng a c := fun n0 σ f cs base w p l M => by
  obtain ⟨σ1, f1, cs1, w1, p1, ks1, s1, l1, M1, b1⟩ := h1 n0 σ f cs base w p l M
  obtain ⟨σ2, f2, cs2, w2, p2, ks2, s2, l2, M2, b2⟩ := h2 n0 σ1 f1 cs1 base w1 p1 ks1 M1
  exact ⟨σ2, f2, cs2, w2, p2, ks2, s1.trans s2, l1.trans l2, M2, b1.trans b2⟩

/-- a piece of a run: so many steps, and what is kept of the memory -/
def piece (L : Lk) (ng n : Nat) (ks : List Nat) (m : AM) : Option AM :=
  match K.arun L ng n m with
  | some m' => bif notReady m'.fr.todo then AM.nf (m'.gc ks) some else none
  | none => none
theorem leads_piece (hP : 8 ≤ P.types.size) (hmix : P.follows .mixedOrders = true) {L : Lk} (hL : L = Lk.of P) {n : Nat} {ks : List Nat} {m m' : AM} (hq : piece L ng n ks m = some m') : Leads P ng m m' := by
  subst hL
  unfold piece at hq
  have e : K.arun (Lk.of P) ng n m = arun P ng n m := congrFun (congrFun K.arun_eq n) m
  rw [e] at hq
  intro n0 σ f cs base w p l M
  cases hr : arun P ng n m with
  | none => simp [hr] at hq
  | some m1 =>
    simp only [hr] at hq
    cases hn : notReady m1.fr.todo with
    | false => rw [hn] at hq; cases hq
    | true =>
      rw [hn, cond_true, AM.nf_eq] at hq
      injection hq with hq; subst hq
      obtain ⟨σ1, f1, cs1, w1, p1, ks1, s1, l1, M1, b1⟩ := run_sound (base := base) hP hmix n m m1 σ f cs w p l M hr
      exact ⟨σ1, f1, cs1, w1, p1, ks1, s1, l1, M1.gc ks hn, b1⟩

/-- a piece that parts and meets again -/
def noSum : AH → FuncId → List AV → Option AV := fun _ _ _ => none
theorem noSum_ok {P : Program} {ng : Nat} : SumOk P ng noSum := fun _ _ _ _ _ _ _ _ _ _ h => by cases h
def pieceS (S : AH → FuncId → List AV → Option AV) (L : Lk) (ng : Nat) (s : Sc) (ks : List Nat) (m : AM) : Option (List AM) :=
  match K.scr L ng S s [m] with
  | some ms => bif ms.all (fun m' => notReady m'.fr.todo) then nfL AM.nf (ms.map fun m' => m'.gc ks) some else none
  | none => none
theorem leads_pieceS (hP : 8 ≤ P.types.size) (hmix : P.follows .mixedOrders = true) {S : AH → FuncId → List AV → Option AV} (hS : SumOk P ng S) {L : Lk} (hL : L = Lk.of P) {s : Sc} {ks : List Nat} {n : Nat} {m m' : AM} (hq : pieceS S L ng s ks m = some (List.replicate n m')) : Leads P ng m m' := by
  subst hL
  unfold pieceS at hq
  have e : K.scr (Lk.of P) ng S s [m] = scr P ng S s [m] := congrFun (congrFun (congrFun K.scr_eq S) s) [m]
  rw [e] at hq
  intro n0 σ f cs base w p l M
  cases hr : scr P ng S s [m] with
  | none => simp [hr] at hq
  | some ms =>
    simp only [hr] at hq
    cases hn : ms.all (fun m' => notReady m'.fr.todo) with
    | false => rw [hn] at hq; cases hq
    | true =>
      rw [hn, cond_true, nfL_eq AM.nf_eq] at hq
      injection hq with hq
      obtain ⟨m1, hm1, σ1, f1, cs1, w1, p1, ks1, s1, l1, M1, b1⟩ := scr_sound hP hmix hS s [m] ms hr m (List.mem_cons_self ..) n0 σ f cs base w p l M
      have hg : m1.gc ks = m' := List.eq_of_mem_replicate (hq ▸ List.mem_map.2 ⟨m1, hm1, rfl⟩)
      rw [← hg]
      exact ⟨σ1, f1, cs1, w1, p1, ks1, s1, l1, M1.gc ks (List.all_eq_true.1 hn m1 hm1), b1⟩

end
section
variable {P : Program} {ng n0 : Nat} {σ : Sg} {h : AH} {w : World}
/-- **A CLOSED RUN IN PIECES.** -/
theorem calls_leads {g : FuncId} {args : List AV} {argv : Array Value} {fr : AFrame} {h0 : AH} {σ : Sg} {w : World} {m' : AM} {v : AV}
    (hen : AFrame.enter P g args false = some fr) (ha : VRs σ args argv.toList) (R : HR ng w.heap.size σ h0 w) (hrun : Leads P ng { fr, cs := [], h := h0 } m') (hans : answer P g m' = some v) :
    Calls P g argv w fun e w' => ∃ u σ', e = .returned u ∧ VR σ' v u ∧ Below w.heap.size w w' := by
  intro base
  obtain ⟨g1, g2, g3, g4, g5⟩ := enter_sound (ng := ng) hen ha
  have M : MRx P ng w.heap.size σ { fr, cs := [], h := h0 } (Frame.enter P g argv .normal) [] w [] [] := ⟨g1, ⟨rfl, rfl⟩, ⟨List.nodup_nil, fun k hk => by simp at hk⟩, R, g5 _⟩
  obtain ⟨σ', f', cs', w', p', ks', s1, l1, M1, b1⟩ := hrun w.heap.size σ _ [] base w [] [] M
  unfold answer at hans
  split at hans
  · rename_i hcs hds
    cases hb : (m'.fr.ret && !m'.fr.dfd && plainTop m'.fr.todo && Nat.beq m'.fr.fn g) with
    | false => rw [hb] at hans; cases hans
    | true =>
      rw [hb, cond_true] at hans
      simp only [Bool.and_eq_true, nbeq, decide_eq_true_eq, Bool.not_eq_true'] at hb
      obtain ⟨⟨⟨b2, b3⟩, b4⟩, b5⟩ := hb
      cases hfn : P.funcs[g]? with
      | none => simp [hfn] at hans
      | some fn =>
        simp only [hfn, Option.map_eq_some_iff] at hans
        obtain ⟨vs, hres, rfl⟩ := hans
        obtain ⟨_, htm, _⟩ := top_inv b4 M1.top.top
        obtain ⟨u, hru, hvu⟩ := results_sound (P := P) M1.heap htm hres
        have hS := M1.stack
        rw [hcs] at hS
        obtain ⟨hcs', _⟩ := hS
        subst hcs'
        have hmode : f'.mode = .returning := by have := M1.top.mode; rw [b2] at this; exact this
        have hk : f'.kind = .normal := by have := M1.top.kind; rw [b3] at this; exact this
        have hfd : f'.defers = [] := by
          have := M1.top.defers
          rw [hds] at this
          cases hx : f'.defers with
          | nil => rfl
          | cons _ _ => rw [hx] at this; exact this.elim
        have hffn : f'.fn = g := M1.top.fn.trans b5
        exact ⟨.returned u, w', f', ⟨u, σ', rfl, hvu, b1⟩, s1, hffn, hmode, hfd, hk, fn, by rw [hffn]; exact hfn, hru⟩
  · cases hans
end

/-! ### Words for a state -/
def sub : Code → List Nat → Code
  | c, [] => c
  | .seq a _, 0 :: p => sub a p
  | .seq _ b, _ :: p => sub b p
  | .cond _ a _, 0 :: p => sub a p
  | .cond _ _ b, _ :: p => sub b p
  | .block _ c, _ :: p => sub c p
  | .loop c, _ :: p => sub c p
  | .scope c, _ :: p => sub c p
  | .rangeFunc _ _ a _, 0 :: p => sub a p
  | .rangeFunc _ _ _ b, _ :: p => sub b p
  | c, _ :: _ => c
def opsOf : Code → Array Oper
  | .region _ ops _ => ops
  | _ => #[]
section
variable (F : Tr Func)
/-- the code of function f at a path -/
def cd (f : Nat) (p : List Nat) : Code :=
  match F.get f with
  | some fn => match fn.body with
    | some c => sub c p
    | none => .skip
  | none => .skip
def rg (f : Nat) (p : List Nat) (i : Nat) : AItem := .reg (opsOf (cd F f p)) i ((opsOf (cd F f p)).toList.drop i)
def dw (f : Nat) (p : List Nat) (dm um ed : Nat) (b : Bool) : AItem := .drw (opsOf (cd F f p)) dm um ed b
def ci (f : Nat) (p : List Nat) : AItem := .code (cd F f p)
def li (f : Nat) (p : List Nat) : AItem := .inLoop (cd F f p)
def si (f : Nat) (p : List Nat) : AItem := .inScope (cd F f p)
end
def tr {α : Type} : List (Nat × α) → Tr α → Tr α
  | [], t => t
  | (i, x) :: l, t => tr l (t.set i (some x))
def by8 (l : List Nat) : List AV := l.map fun n => .int .u8 (.ofNat n)
def by6 (l : List Nat) : List AV := l.map fun n => .int .i64 (.ofNat n)
def byu (l : List Nat) : List AV := l.map fun n => .int .u64 (.ofNat n)
def ii (n : Nat) : AV := .int .i64 (.ofNat n)
def uu (n : Nat) : AV := .int .u64 (.ofNat n)
def bb (n : Nat) : AV := .int .u8 (.ofNat n)
def wc (l : List AV) : ABlock := .cells false l
end Go.Proofs.YtkcfcmliaonppaaGreatDoor.Ev

/-
  The abstract machine: the start of a closed run: the listed package-level variables lie in memory.
-/
set_option linter.unusedVariables false
set_option linter.unusedSectionVars false
set_option linter.unusedSimpArgs false
set_option linter.constructorNameAsVariable false
namespace Go.Proofs.YtkcfcmliaonppaaGreatDoor.Ev
open Go Go.RowKit

/-- What a package-level variable holds. -/
def GlobIs (w : World) (g : Nat) (cs : List AV) : Prop := ∃ c t fz, w.heap[g]? = some (.cells c t fz) ∧ ∀ σ : Sg, VRs σ cs (c.toList.take cs.length)
theorem GlobIs.lt {w : World} {g : Nat} {cs : List AV} (h : GlobIs w g cs) : g < w.heap.size := by
  obtain ⟨c, t, fz, h1, _⟩ := h
  exact (Array.getElem?_eq_some_iff.1 h1).1
theorem GlobIs.on {w w' : World} {B g : Nat} {cs : List AV} (h : GlobIs w g cs) (hg : g < B) (hb : Below B w w') : GlobIs w' g cs := by
  obtain ⟨c, t, fz, h1, h2⟩ := h
  exact ⟨c, t, fz, (hb.block g hg).trans h1, h2⟩
theorem GlobIs.of_tab {P : Program} {w : World} {n : String} {k : IntKind} {zs : List Int} {g : Nat} (h : Lib.TabIs P w n k zs) (hg : P.globalNamed n = some g) : GlobIs w g (zs.map (AV.int k)) := by
  unfold Lib.TabIs World.var? at h
  rw [hg] at h
  simp only [Option.bind_some] at h
  split at h
  · rename_i cs t fz hh
    injection h with h
    refine ⟨cs, t, fz, hh, fun σ => ?_⟩
    rw [h]
    rw [List.take_of_length_le (by simp)]
    exact VRs.map _ _ zs fun _ _ => rfl
  · cases h
theorem tab_of_reads {P : Program} {w : World} {n : String} {k : IntKind} {zs : List Int} {g len : Nat} {t e : TypeId} (hg : P.globalNamed n = some g) (hty : (P.globals[g]?).map (·.type) = some t) (ht : P.underlying t = some (.array len e))
    (he : P.underlying e = some (.int k)) (hce : P.cellsOf e = 1) (hct : P.cellsOf t = len) (h : Lib.VarReads P w n (Lib.tabData k zs)) : Lib.TabIs P w n k zs := by
  obtain ⟨g', t', cs, fuel, p, hg', ht', hvar, hd⟩ := h
  obtain rfl := Option.some.inj (hg.symm.trans hg')
  obtain rfl := Option.some.inj (hty.symm.trans ht')
  unfold Lib.TabIs
  rw [hvar, ← Lib.cells_of_tab ht he hce hct hd]

def sg0 (ng : Nat) (w : World) : Sg := fun k =>
  if k < ng then some ⟨k, 0, match w.heap[k]? with | some (.cells c _ _) => c.size | _ => 0⟩ else none
theorem tr_get {α : Type} : ∀ (l : List (Nat × α)) (t : Tr α) (k : Nat) (b : α), (tr l t).get k = some b → (k, b) ∈ l ∨ t.get k = some b
  | [], _, _, _, h => .inr h
  | (i, x) :: l, t, k, b, h => by
    rcases tr_get l _ k b h with h | h
    · exact .inl (List.mem_cons_of_mem _ h)
    · rw [Tr.get_set] at h
      by_cases hk : k = i
      · rw [if_pos hk] at h; injection h with h; subst h hk; exact .inl (List.mem_cons_self ..)
      · rw [if_neg hk] at h; exact .inr h
def gblocks (gl : List (Nat × List AV)) : List (Nat × ABlock) := gl.map fun p => (p.1, .cells true p.2)
def h0 (ng : Nat) (gl : List (Nat × List AV)) : AH := ⟨ng, tr (gblocks gl) .l⟩
theorem h0_get {ng : Nat} {gl : List (Nat × List AV)} {k : Nat} {b : ABlock} (h : (h0 ng gl).get k = some b) : ∃ cs, b = .cells true cs ∧ (k, cs) ∈ gl := by
  rcases tr_get _ _ k b h with h | h
  · obtain ⟨⟨k', cs⟩, hm, he⟩ := List.mem_map.1 h
    injection he with h1 h2
    subst h1 h2
    exact ⟨cs, rfl, hm⟩
  · rw [Tr.get_l] at h; cases h
theorem start_HR {ng : Nat} {gl : List (Nat × List AV)} {w : World} (hng : ng ≤ w.heap.size) (hl : ∀ p ∈ gl, p.1 < ng ∧ GlobIs w p.1 p.2) : HR ng w.heap.size (sg0 ng w) (h0 ng gl) w := by
  have hs : ∀ k e, sg0 ng w k = some e → k < ng ∧ e.blk = k ∧ e.base = 0 := fun k e h => by
    unfold sg0 at h
    by_cases hk : k < ng
    · rw [if_pos hk] at h; injection h with h; subst h; exact ⟨hk, rfl, rfl⟩
    · rw [if_neg hk] at h; cases h
  refine ⟨fun k e b h1 h2 => ?_, fun k hk => if_neg (Nat.not_lt.2 hk), fun k hk => ?_, fun k k' e e' b b' h1 h2 _ _ h5 => ?_, fun k e h => ?_, fun g hg => ⟨_, if_pos hg⟩, fun k e b _ h2 h3 => ?_, Nat.le_refl _, Nat.le_refl _⟩
  · obtain ⟨cs, rfl, hm⟩ := h0_get h2
    obtain ⟨hk, c, t, fz, hc, hv⟩ := hl _ hm
    have hk : k < ng := hk
    have hc : w.heap[k]? = some (.cells c t fz) := hc
    have he : e = ⟨k, 0, c.size⟩ := by
      unfold sg0 at h1
      rw [if_pos hk] at h1
      injection h1 with h1
      rw [← h1, hc]
    subst he
    exact ⟨c, t, fz, hc, rfl, .inl rfl, by simpa using hv _⟩
  · cases hx : (h0 ng gl).get k with
    | none => rfl
    | some b =>
      obtain ⟨cs, _, hm⟩ := h0_get hx
      have := (hl _ hm).1
      have : k < ng := this
      have hk : ng ≤ k := hk
      omega
  · have a := hs k e h1
    have b := hs k' e' h2
    omega
  · have a := hs k e h
    omega
  · obtain ⟨cs, rfl, _⟩ := h0_get h2
    cases h3

/-- a run's first state -/
noncomputable def st0 (lk : Lk) (ng : Nat) (f : FuncId) (gl : List (Nat × List AV)) : AM :=
  ⟨(match K.AFrame.enter lk f [] false with | some fr => fr | none => ⟨0, 0, .l, [], [], false, false, none⟩), [], h0 ng gl⟩
/-- **A CLOSED RUN THAT ANSWERS true.** -/
theorem calls_closed {P : Program} {lk : Lk} (hlk : lk = Lk.of P) {ng f : Nat} {gl : List (Nat × List AV)} {m' : AM} (hen : (K.AFrame.enter lk f [] false).isSome = true) (hrun : Leads P ng (st0 lk ng f gl) m') (hans : answer P f m' = some (.bool true))
    {w : World} (hng : ng ≤ w.heap.size) (hl : ∀ p ∈ gl, p.1 < ng ∧ GlobIs w p.1 p.2) :
    Calls P f #[] w fun e w' => e = .returned (.bool true) ∧ Below w.heap.size w w' := by
  subst hlk
  obtain ⟨fr, hfr⟩ := Option.isSome_iff_exists.1 hen
  have e : K.AFrame.enter (Lk.of P) f [] false = AFrame.enter P f [] false := congrFun (congrFun (congrFun (K.AFrame_enter_eq (P := P)) f) []) false
  have hst : st0 (Lk.of P) ng f gl = ⟨fr, [], h0 ng gl⟩ := by unfold st0; rw [hfr]
  rw [hst] at hrun
  refine (calls_leads (e.symm.trans hfr) (σ := sg0 ng w) (argv := #[]) trivial (start_HR hng hl) hrun hans).mono ?_
  rintro e w' ⟨u, σ', rfl, hv, hb⟩
  have hv : u = .bool true := hv
  rw [hv]
  exact ⟨rfl, hb⟩
end Go.Proofs.YtkcfcmliaonppaaGreatDoor.Ev

/-
  The seat's program on the abstract machine: its tables, the start of a run; short words for what is printed.
-/
set_option linter.unusedVariables false
set_option linter.unusedSimpArgs false
set_option linter.constructorNameAsVariable false
namespace Go.Proofs.YtkcfcmliaonppaaGreatDoor.Ev
open Go
set_option maxRecDepth 1000000
noncomputable def F : Tr Func := ofL 12 Tryz.prog.funcs.toList
noncomputable def TY : Tr TypeInfo := ofL 12 Tryz.prog.types.toList
noncomputable def LK : Lk := lkOf Tryz.prog TY F
theorem hLK : LK = Lk.of Tryz.prog :=
  lk_eq (Nat.le_of_ble_eq_true (show Nat.ble (Tryz.prog.types.toList.length + 1) (2 ^ 12) = true by kernel_rfl)) (Nat.le_of_ble_eq_true (show Nat.ble (Tryz.prog.funcs.toList.length + 1) (2 ^ 12) = true by kernel_rfl))
theorem hTypes : 8 ≤ Tryz.prog.types.size := Nat.le_of_ble_eq_true (show Nat.ble 8 Tryz.prog.types.size = true by kernel_rfl)
theorem hMix : Tryz.prog.follows .mixedOrders = true := by kernel_rfl
noncomputable def R := rg F
noncomputable def D := dw F
noncomputable def C := ci F
noncomputable def L := li F
noncomputable def S := si F
def np : AV := .lit (.pointer none)
def ns : AV := .lit (.slice none 0 0)
def nm : AV := .lit (.map none)
def nf : AV := .lit .nilFunc
def ni : AV := .lit .nilIface
def tt : AV := .bool true
def ff : AV := .bool false
def uv : AV := .tuple []
end Go.Proofs.YtkcfcmliaonppaaGreatDoor.Ev

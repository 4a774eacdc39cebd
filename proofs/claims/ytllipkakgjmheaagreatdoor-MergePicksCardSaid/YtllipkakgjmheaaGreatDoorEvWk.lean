/-
  The abstract machine: a range over a map goes on to whichever entry comes next; runs that part and meet again.
-/
import Derived.Test.YtllipkakgjmheaaGreatDoorEvW
set_option linter.unusedVariables false
set_option linter.unusedSimpArgs false
set_option linter.constructorNameAsVariable false
namespace Go.Proofs.YtllipkakgjmheaaGreatDoor.Ev
open Go Go.RowKit

section
variable {P : Program} {ng n0 : Nat} {σ : Sg} {h : AH} {w : World}

theorem ERs.at {σ : Sg} : ∀ {a : List (AV × AV × Nat)} {v : List MapEntry}, ERs σ a v → ∀ (i : Nat) y, v[i]? = some y → ∃ x, a[i]? = some x ∧ ER σ x y
  | [], [], _, i, y, h => by simp at h
  | a :: l, v :: m, r, 0, y, h => by simp at h; subst h; exact ⟨a, by simp, r.1⟩
  | a :: l, v :: m, r, i + 1, y, h => by simpa using ERs.at r.2 i y (by simpa using h)
  | [], _ :: _, r, _, _, _ => r.elim
  | _ :: _, [], r, _, _, _ => r.elim
theorem ERs.all_lt {σ : Sg} {n : Nat} : ∀ {a : List (AV × AV × Nat)} {v : List MapEntry}, ERs σ a v → a.all (fun e => Nat.blt e.2.2 n) = true → ∀ e ∈ v, e.born < n
  | [], [], _, _, e, he => by simp at he
  | a :: l, v :: m, r, h, e, he => by
    simp only [List.all_cons, Bool.and_eq_true] at h
    rcases List.mem_cons.1 he with rfl | he
    · rw [r.1.2.2]; simpa [nblt] using h.1
    · exact ERs.all_lt r.2 h.2 e he
  | [], _ :: _, r, _, _, _ => r.elim
  | _ :: _, [], r, _, _, _ => r.elim

/-- whatever is asked, one of so many is answered -/
theorem choose_map (n : Nat) (hn : 0 < n) (w : World) : ∃ i w1, i < n ∧ (choose (.mapNext n)).run P w = .ok i w1 ∧ w1.heap = w.heap ∧ Below n0 w w1 := by
  by_cases hf : (Question.mapNext n).forced = true
  · exact ⟨0, w, hn, by simp [choose, Sem.run, hf], rfl, Below.refl _ _⟩
  · exact ⟨w.tape w.drawn (.mapNext n) % n, { w with drawn := w.drawn + 1 }, Nat.mod_lt _ hn, by simp [choose, Sem.run, hf, Question.cut], rfl, ⟨rfl, rfl, rfl, Nat.le_refl _, fun _ _ => rfl⟩⟩

theorem nexts_sound (R : HR ng n0 σ h w) {ty : TypeId} {x : AV} {xv : Value} {l : List (AV × AH)} (hx : VR σ x xv) (hq : anexts h x = some l) :
    ∃ p ∈ l, Eff P ng n0 σ h w p.1 p.2 (do pure (.value (← Instr.next xv false ty))) := by
  unfold anexts at hq
  split at hq
  · rename_i k
    obtain ⟨e, he, rfl⟩ := hx
    cases hb : h.get k with
    | none => simp [hb] at hq
    | some bl =>
      cases bl <;> simp only [hb] at hq <;> try (cases hq; done)
      rename_i m since seen last
      obtain ⟨hbase, e', he', hw⟩ := R.blk k e _ he hb
      cases hm : h.get m with
      | none => simp [hm] at hq
      | some bm =>
        cases bm <;> simp only [hm] at hq <;> try (cases hq; done)
        rename_i es clock
        obtain ⟨es', hw', hr⟩ := R.blk m e' _ he' hm
        have hfil := filter_rel seen hr
        have hleft : (es'.filter fun e => !seen.toArray.contains e.born).toList = es'.toList.filter fun e => !seen.toArray.contains e.born := Array.toList_filter ..
        have hg1 : (getObj e.blk).run P w = .ok (.mapIter (some e'.blk) since seen.toArray last) w := by simp [getObj, Sem.run, hw]
        have hg2 : (getObj e'.blk).run P w = .ok (.map es' clock) w := by simp [getObj, Sem.run, hw']
        generalize hL : es.filter (fun e => !hasNat seen e.2.2) = L at hq hfil
        generalize hL' : es'.filter (fun e => !seen.toArray.contains e.born) = L' at hleft
        rw [← hleft] at hfil
        cases L with
        | nil => cases hq
        | cons e0 L0 =>
          simp only at hq
          cases hc : ((e0 :: L0).all (fun e => Nat.blt e.2.2 since) && (seen.isEmpty || es.any (fun e => Nat.blt e.2.2 last))) with
          | false => rw [hc] at hq; cases hq
          | true =>
            rw [hc, cond_true] at hq
            injection hq with hq; subst hq
            rw [Bool.and_eq_true] at hc
            obtain ⟨c1, c2⟩ := hc
            have hcond : (!seen.toArray.isEmpty && !es'.isEmpty && es'.all (fun e => decide (e.born ≥ last))) = false := by
              rw [Bool.or_eq_true] at c2
              rcases c2 with c2 | c2
              · have : seen = [] := by simpa using c2
                subst this; simp
              · have := (any_rel last hr c2).1
                rw [Array.all_toList] at this
                simp [this]
            have hlt := ERs.all_lt hfil c1
            have hlen := ERs.length hfil
            have hold : L'.filter (fun e => decide (e.born < since)) = L' := by
              rw [Array.filter_eq_self]
              intro a ha
              exact decide_eq_true (hlt a (by simpa using ha))
            have hnew : L'.filter (fun e => decide (e.born ≥ since)) = #[] := by
              rw [Array.filter_eq_empty_iff]
              intro a ha
              have := hlt a (by simpa using ha)
              simp; omega
            have hsz : 0 < L'.size := by
              have : L'.toList.length = L'.size := by simp
              simp only [List.length_cons] at hlen; omega
            have hne : L'.isEmpty = false := by
              cases hx : L'.isEmpty with
              | false => rfl
              | true => rw [Array.isEmpty_iff_size_eq_zero] at hx; omega
            obtain ⟨i, w1, hi, hch, hw1, hb1⟩ := choose_map (P := P) (n0 := n0) L'.size hsz w
            obtain ⟨y, hy⟩ : ∃ y, L'[i]? = some y := ⟨L'[i], by simp [hi]⟩
            obtain ⟨z, hz, hzy⟩ := ERs.at hfil i y (by simpa using hy)
            have hzm : z ∈ e0 :: L0 := List.mem_of_getElem? hz
            have R1 : HR ng n0 σ h w1 := R.world hw1
            have hwk : w1.heap[e.blk]? = some (.mapIter (some e'.blk) since seen.toArray last) := by rw [hw1]; exact hw
            have hob := obj_sound (P := P) R1 (b' := .mapIter m since (seen ++ [z.2.2]) clock) (o' := .mapIter (some e'.blk) since (seen.toArray.push y.born) clock) he hb rfl hwk rfl (fun w' hw2 => ⟨hbase, e', he', by rw [hw2, hzy.2.2]; simp⟩)
            refine ⟨_, List.mem_map.2 ⟨z, hzm, rfl⟩, σ, _, .value (.tuple #[.bool true, y.key, y.val]), ?_, Sg.le.refl σ, hob.2.1, hb1.trans hob.2.2, fun _ _ => rfl, Nat.le_refl _, .inl ⟨_, rfl, _, rfl, rfl, hzy.1, hzy.2.1, trivial⟩⟩
            have hcand : ((if (L'.filter (fun e => decide (e.born < since))).isEmpty then #[(none : Option MapEntry)] else #[]) ++ (L'.filter (fun e => decide (e.born < since)) ++ L'.filter (fun e => decide (e.born ≥ since))).map some) = L'.map some := by
              rw [hold, hnew, hne]; simp
            have hob1 := hob.1
            simp only [Instr.next, Loc.at, hbase, Nat.add_zero, Sem.run_bind, hg1, Result.andThen_ok, hg2, hcond, Bool.false_eq_true, if_false, hL', hcand, Array.size_map, hch, Array.getElem?_map, hy, Option.map_some, hob1, Sem.run_pure]
  · cases hq

variable {m : AM} {f : Frame} {cs base : List Frame} {p : List (Nat × Nat)} {ks : List Nat}

theorem adones_at {m : AM} : ∀ {l : List (AV × AH)} {ms : List AM}, adones P m l = some ms → ∀ q ∈ l, ∃ m' ∈ ms, AM.done P m q.1 q.2 = some m'
  | [], _, _, q, h => by cases h
  | x :: l, ms, h, q, hq => by
    simp only [adones] at h
    cases h1 : AM.done P m x.1 x.2 with
    | none => simp [h1] at h
    | some m1 =>
      cases h2 : adones P m l with
      | none => simp [h1, h2] at h
      | some ms' =>
        simp only [h1, h2] at h
        injection h with h; subst h
        rcases List.mem_cons.1 hq with rfl | hq
        · exact ⟨m1, List.mem_cons_self .., h1⟩
        · obtain ⟨m', h3, h4⟩ := adones_at h2 q hq
          exact ⟨m', List.mem_cons_of_mem _ h3, h4⟩

theorem forks_sound {ms : List AM} (M : MRx P ng n0 σ m f cs w p ks) (hq : aforks P ng m = some ms) : ∃ m' ∈ ms, Post P ng n0 σ w f cs base m' := by
  unfold aforks at hq
  cases hr : m.fr.ret with
  | true => rw [hr] at hq; cases hq
  | false =>
    rw [hr, cond_false] at hq
    split at hq
    · rename_i ops i o rest k ht
      have hm := M.run hr
      have htop := M.top.top
      rw [ht] at htop
      obtain ⟨k', e1, e2, e3, e4, e5⟩ := htop
      have hat : AtEff P m.fr.todo f.todo := by rw [ht]; unfold AtEff; trivial
      have hi : ops.toList[i]? = some o := by
        have : (ops.toList.drop i)[0]? = some o := by rw [← e2]; rfl
        simpa using this
      have hlt : i < ops.size := by
        have := (List.getElem?_eq_some_iff.1 hi).1; simpa using this
      have hr' : (List.range ops.size).drop i = i :: (List.range ops.size).drop (i + 1) := by
        rw [List.drop_eq_getElem_cons (by simpa using hlt)]; simp
      have ho : ops[i]? = some o := by simpa using hi
      rw [hr'] at e1
      split at hq
      · rename_i ha
        have hw := wanted_sound e4 (fun _ _ _ _ _ _ _ h => h) ha
        have A : AtOp f ops i _ k' o := ⟨e1, hm, ho, hw⟩
        have hops : ∀ x ∈ o.op.operands, VR σ (ev ng m.fr.tmps x) ((Frame.act f).eval x) := fun x _ => ev_sound M.heap e4 fun _ _ h => h
        split at hq
        · rename_i x hop
          split at hq
          · rename_i l hl
            obtain ⟨q, hql, he⟩ := nexts_sound (P := P) (ty := o.type) M.heap (hops x (by simp [hop, Op.operands])) hl
            obtain ⟨m', hm', hd⟩ := adones_at hq q hql
            refine ⟨m', hm', eff_done M hat hd he fun rr w' hrun hk => ?_⟩
            have hsem : o.semAt f.roundOf (Frame.act f).eval = execOp (Frame.act f).eval o := Oper.semAt_eq _ _ _ (by simp [hop])
            have hs : execOp (Frame.act f).eval o = (do pure (.value (← Instr.next ((Frame.act f).eval x) false o.type))) := by simp only [execOp, hop]
            rw [← hs, ← hsem] at hrun
            rcases hk with ⟨u, rfl⟩ | rfl
            · exact step_val A hrun
            · exact step_skp A hrun
          · cases hq
        · cases hq
      · cases hq
    · cases hq

/-! ### Calls told by their contracts -/
theorem HR.beyond (R : HR ng n0 σ h w) {w' : World} (hb : Below w.heap.size w w') : HR ng n0 σ h w' :=
  ⟨fun k e b h1 h2 => (R.blk k e b h1 h2).keep (Sg.le.refl σ) (hb.block _ (R.lt k e h1)), R.fresh, R.freshA, R.inj, fun k e he => Nat.lt_of_lt_of_le (R.lt k e he) hb.size, R.glob, R.own, R.ngn, Nat.le_trans R.big hb.size⟩
/-- what is asked of such contracts -/
def SumOk (P : Program) (ng : Nat) (S : AH → FuncId → List AV → Option AV) : Prop :=
  ∀ (n0 : Nat) (σ : Sg) (h : AH) (w : World) (g : FuncId) (args : List AV) (v : AV) (argv : Array Value), HR ng n0 σ h w → VRs σ args argv.toList → S h g args = some v →
    (∃ fn c, P.funcs[g]? = some fn ∧ fn.body = some c ∧ (fn.name == "runtime.NumGoroutine") = false) ∧ Calls P g argv w fun e w' => ∃ u, e = .returned u ∧ VR σ v u ∧ Below w.heap.size w w'
theorem sum_sound {S : AH → FuncId → List AV → Option AV} (hS : SumOk P ng S) {m' : AM} (M : MRx P ng n0 σ m f cs w p ks) (hq : asum P ng S m = some m') : Post P ng n0 σ w f cs base m' := by
  unfold asum at hq
  cases hr : m.fr.ret with
  | true => rw [hr] at hq; cases hq
  | false =>
    rw [hr, cond_false] at hq
    split at hq
    · rename_i ops i o rest k ht
      have hm := M.run hr
      have htop := M.top.top
      rw [ht] at htop
      obtain ⟨k', e1, e2, e3, e4, e5⟩ := htop
      have hat : AtEff P m.fr.todo f.todo := by rw [ht]; unfold AtEff; trivial
      have hi : ops.toList[i]? = some o := by
        have : (ops.toList.drop i)[0]? = some o := by rw [← e2]; rfl
        simpa using this
      have hlt : i < ops.size := by
        have := (List.getElem?_eq_some_iff.1 hi).1; simpa using this
      have hr' : (List.range ops.size).drop i = i :: (List.range ops.size).drop (i + 1) := by
        rw [List.drop_eq_getElem_cons (by simpa using hlt)]; simp
      have ho : ops[i]? = some o := by simpa using hi
      rw [hr'] at e1
      split at hq
      · rename_i ha
        have hw := wanted_sound e4 (fun _ _ _ _ _ _ _ h => h) ha
        have A : AtOp f ops i _ k' o := ⟨e1, hm, ho, hw⟩
        have hops : ∀ x ∈ o.op.operands, VR σ (ev ng m.fr.tmps x) ((Frame.act f).eval x) := fun x _ => ev_sound M.heap e4 fun _ _ h => h
        split at hq
        · rename_i c hop
          split at hq
          · rename_i g hc
            have hgv := hops g (by simp [hop, Op.operands, Call.operands, hc])
            have hargs := ops_map (σ := σ) (T := ev ng m.fr.tmps) (ρ := (Frame.act f).eval) (xs := c.args) fun x hx => hops x (by simp [hop, Op.operands, Call.operands]; right; exact hx)
            split at hq
            · rename_i fn first hg
              rw [hg] at hgv
              obtain ⟨x', y', hgv, hx', hy'⟩ := hgv
              have hy0 : y' = #[] := by
                have := VRs.length hy'
                apply Array.eq_empty_of_size_eq_zero
                simpa using this.symm
              subst hy0
              split at hq
              · rename_i v hv
                obtain ⟨⟨fnd, cd, f1, f2, f3⟩, hcall⟩ := hS n0 σ m.h w fn _ v (x' ++ c.args.map (Frame.act f).eval) M.heap (by rw [Array.toList_append]; exact VRs.app hx' hargs) hv
                obtain ⟨e, w', f', ⟨u, rfl, hu, hb⟩, hst, hff, hret⟩ := hcall (f :: (cs ++ base))
                have hst : Steps P _ _ := hst
                have hcf : ∀ w, (callFunc fn (x' ++ c.args.map (Frame.act f).eval)).run P w = .ok (.enter fn (x' ++ c.args.map (Frame.act f).eval)) w := fun w => by
                  have hn' : ¬ fnd.name = "runtime.NumGoroutine" := by simpa using f3
                  simp [callFunc, f1, f2, hn', program, Sem.run]
                have hent := step_ent (P := P) (cs := cs ++ base) (w := w) A (g := fn) (args := x' ++ c.args.map (Frame.act f).eval) (w' := w) (by
                  rw [Oper.semAt_eq _ _ _ (by simp [hop])]
                  simp only [execOp, hop, resolve, hc, hgv, Deferred.ofValue, invoke, Sem.run_bind, Sem.run_pure, Result.andThen_ok, Array.append_empty, hcf])
                have hlv := step_leave_returned (c := f) (cs := cs ++ base) hret
                unfold AM.done at hq
                cases hf : AFrame.finish P m.fr v with
                | none => simp [hf] at hq
                | some fr =>
                  simp only [hf] at hq
                  injection hq with hq; subst hq
                  obtain ⟨h1, h2, h3⟩ := finish_sound (ng := ng) M.top hat hf hu
                  exact ⟨σ, f.finish u, cs, w', p, ks, .head hent (hst.trans (.one hlv)), Sg.le.refl σ, ⟨h1, M.stack, M.pg, M.heap.beyond hb, h3 m.h⟩, hb.mono M.heap.big⟩
              · cases hq
            · cases hq
          · cases hq
        · cases hq
      · cases hq
    · cases hq

/-- from a state to one of these -/
def LeadsTo (P : Program) (ng : Nat) (m : AM) (ms : List AM) : Prop :=
  ∀ (n0 : Nat) (σ : Sg) (f : Frame) (cs base : List Frame) (w : World) (p : List (Nat × Nat)) (l : List Nat), MRx P ng n0 σ m f cs w p l → ∃ m' ∈ ms, Post P ng n0 σ w f cs base m'
theorem Post.trans {σ : Sg} {m1 m2 : AM} (h1 : Post P ng n0 σ w f cs base m1) (h2 : ∀ (σ : Sg) (f : Frame) (cs : List Frame) (w : World) (p : List (Nat × Nat)) (l : List Nat), MRx P ng n0 σ m1 f cs w p l → Post P ng n0 σ w f cs base m2) : Post P ng n0 σ w f cs base m2 := by
  obtain ⟨σ1, f1, cs1, w1, p1, ks1, s1, l1, M1, b1⟩ := h1
  obtain ⟨σ2, f2, cs2, w2, p2, ks2, s2, l2, M2, b2⟩ := h2 _ _ _ _ _ _ M1
  exact ⟨σ2, f2, cs2, w2, p2, ks2, s1.trans s2, l1.trans l2, M2, b1.trans b2⟩
theorem Post.one_of {σ : Sg} {m1 : AM} {ms : List AM} (h1 : Post P ng n0 σ w f cs base m1) (h2 : LeadsTo P ng m1 ms) : ∃ m' ∈ ms, Post P ng n0 σ w f cs base m' := by
  obtain ⟨σ1, f1, cs1, w1, p1, ks1, s1, l1, M1, b1⟩ := h1
  obtain ⟨m', hm, σ2, f2, cs2, w2, p2, ks2, s2, l2, M2, b2⟩ := h2 n0 σ1 f1 cs1 base w1 p1 ks1 M1
  exact ⟨m', hm, σ2, f2, cs2, w2, p2, ks2, s1.trans s2, l1.trans l2, M2, b1.trans b2⟩

/-- A script's run leads from each of its states to one of its ends. -/
theorem scr_sound (hP : 8 ≤ P.types.size) (hmix : P.follows .mixedOrders = true) {S : AH → FuncId → List AV → Option AV} (hS : SumOk P ng S) : ∀ (s : Sc) (l ms : List AM), scr P ng S s l = some ms → ∀ m ∈ l, LeadsTo P ng m ms
  | .stop, l, ms, hq, m, hm => by
    match l, hq with
    | [m1], hq =>
      simp only [scr] at hq
      injection hq with hq; subst hq
      intro n0 σ f cs base w p ks M
      exact ⟨m, hm, σ, f, cs, w, p, ks, .refl _ _, Sg.le.refl σ, M, Below.refl _ _⟩
  | .go n s, l, ms, hq, m, hm => by
    match l, hq with
    | [m1], hq =>
      obtain rfl : m = m1 := by simpa using hm
      simp only [scr] at hq
      cases hr : arun P ng n m with
      | none => simp [hr] at hq
      | some m2 =>
        simp only [hr] at hq
        have ih := scr_sound hP hmix hS s [m2] ms hq m2 (List.mem_cons_self ..)
        intro n0 σ f cs base w p ks M
        exact Post.one_of (run_sound (base := base) hP hmix n m m2 σ f cs w p ks M hr) ih
  | .fork s, l, ms, hq, m, hm => by
    match l, hq with
    | [m1], hq =>
      obtain rfl : m = m1 := by simpa using hm
      simp only [scr] at hq
      cases hr : aforks P ng m with
      | none => simp [hr] at hq
      | some l2 =>
        simp only [hr] at hq
        intro n0 σ f cs base w p ks M
        obtain ⟨m2, hm2, hp⟩ := forks_sound (base := base) M hr
        exact Post.one_of hp (scr_sound hP hmix hS s l2 ms hq m2 hm2)
  | .sum s, l, ms, hq, m, hm => by
    match l, hq with
    | [m1], hq =>
      obtain rfl : m = m1 := by simpa using hm
      simp only [scr] at hq
      cases hr : asum P ng S m with
      | none => simp [hr] at hq
      | some m2 =>
        simp only [hr] at hq
        intro n0 σ f cs base w p ks M
        exact Post.one_of (sum_sound (base := base) hS M hr) (scr_sound hP hmix hS s [m2] ms hq m2 (List.mem_cons_self ..))
  | .alt a b, l, ms, hq, m, hm => by
    match l, hq with
    | m1 :: l1, hq =>
      simp only [scr] at hq
      cases h1 : scr P ng S a [m1] with
      | none => simp [h1] at hq
      | some x =>
        cases h2 : scr P ng S b l1 with
        | none => simp [h1, h2] at hq
        | some y =>
          simp only [h1, h2] at hq
          injection hq with hq; subst hq
          rcases List.mem_cons.1 hm with rfl | hm
          · intro n0 σ f cs base w p ks M
            obtain ⟨m', h3, h4⟩ := scr_sound hP hmix hS a [m] x h1 m (List.mem_cons_self ..) n0 σ f cs base w p ks M
            exact ⟨m', List.mem_append.2 (.inl h3), h4⟩
          · intro n0 σ f cs base w p ks M
            obtain ⟨m', h3, h4⟩ := scr_sound hP hmix hS b l1 y h2 m hm n0 σ f cs base w p ks M
            exact ⟨m', List.mem_append.2 (.inr h3), h4⟩
  | .nil, l, ms, hq, m, hm => by
    match l, hq with
    | [], _ => cases hm
end
end Go.Proofs.YtllipkakgjmheaaGreatDoor.Ev

/-
  The abstract machine: its step.
-/
import Derived.Test.YtllipkakgjmheaaGreatDoorEvU
import Derived.Defers
import Derived.RangeFuncLeaves
set_option linter.unusedVariables false
set_option linter.unusedSimpArgs false
set_option linter.constructorNameAsVariable false
namespace Go.Proofs.YtllipkakgjmheaaGreatDoor.Ev
open Go Go.RowKit

section
variable {P : Program} {ng n0 : Nat} {σ : Sg} {h : AH} {w : World}
variable {m m' : AM} {f : Frame} {cs base : List Frame} {p : List (Nat × Nat)} {ks : List Nat}

/-- a block that is given up is written -/
theorem HR.dead (R : HR ng n0 σ h w) {k : Nat} {e : Loc} {b : ABlock} {w' : World} (hk : σ k = some e) (hb : h.get k = some b) (hw : Ex e.blk w w') : HR ng n0 σ (h.kill k) w' := by
  have old : ∀ x bx, (h.kill k).get x = some bx → x ≠ k ∧ h.get x = some bx := fun x bx hx => by
    rw [AH.get_kill] at hx
    by_cases hxk : x = k
    · rw [if_pos hxk] at hx; cases hx
    · rw [if_neg hxk] at hx; exact ⟨hxk, hx⟩
  refine ⟨fun x e' bx h1 h2 => ?_, R.fresh, fun x hx => ?_, fun x y e1 e2 b1 b2 h1 h2 h3 h4 h5 => R.inj x y e1 e2 b1 b2 h1 h2 (old x b1 h3).2 (old y b2 h4).2 h5,
    fun x e' hx => by rw [hw.size]; exact R.lt x e' hx, R.glob, fun x e' bx h1 h2 h3 => R.own x e' bx h1 (old x bx h2).2 h3, R.ngn, by rw [hw.size]; exact R.big⟩
  · obtain ⟨hne, hx⟩ := old x bx h2
    exact (R.blk x e' bx h1 hx).keep (Sg.le.refl σ) (hw.block _ fun he => hne (R.inj x k e' e bx b h1 hk hx hb he))
  · rw [AH.get_kill]; split
    · rfl
    · exact R.freshA x hx

theorem stepR_scope {b : Frame} {a : Act} {k : List Item} {cs : List Frame} {body : Code} :
    step P (lone (b.atR a (.code (.scope body) :: k)) cs w) = .next (lone (b.atR a (.code body :: .inScope body :: k)) cs w) :=
  step_lone_go (by simp [stepG, stepG.exec, Frame.atR])
theorem stepR_inScope {b : Frame} {a : Act} {k : List Item} {cs : List Frame} {body : Code} : step P (lone (b.atR a (.inScope body :: k)) cs w) = .next (lone (b.atR a k) cs w) :=
  step_lone_go (by simp [stepG, stepG.exec, Frame.atR])
theorem stepR_exit_ret {b : Frame} {a : Act} {k : List Item} {cs : List Frame} (hb : b.roundOf = none) :
    step P (lone (b.atR a (.code .ret :: k)) cs w) = .next (lone { b.atR a (.code .ret :: k) with mode := .returning } cs w) := stepR_ret hb

/-! ### Range over a function -/
theorem getLoop_run {e : Loc} {lc : Loop} (hw : w.heap[e.blk]? = some (.loop lc)) : (Instr.getLoop e.blk).run P w = .ok lc w := by
  simp [Instr.getLoop, getObj, Sem.run, hw]

theorem rangeFunc_sound (M : MRx P ng n0 σ m f cs w p ks) (hr : m.fr.ret = false) {g : Operand} {ps : Array Tmp} {assign body : Code} {k : List AItem} {k' : List Item} (hf : f.todo = .code (.rangeFunc g ps assign body) :: k') (hi : ItsR σ k k')
    (ht : TmpR σ (fun _ => False) m.fr.tmps m.fr.nt f.tmps) (hp : p = [])
    (hq : (match ev ng m.fr.tmps g, aenterLoop m ps assign body with
    | .func g first cap, some (l, mark, h) =>
      match AFrame.enter P g (first ++ [.yield l] ++ cap) false with
      | some fr => some { fr, cs := { m.fr with todo := .rangeF l :: k, defers := mark ++ m.fr.defers } :: m.cs, h }
      | none => none
    | _, _ => none) = some m') : Post P ng n0 σ w f cs base m' := by
  have hm := M.run hr
  subst hp
  have hgv := ev_sound (ds := f.defers) M.heap ht (x := g) fun _ _ h => h
  generalize ev ng m.fr.tmps g = gv at hq hgv
  cases gv <;> simp only at hq <;> try (cases hq; done)
  rename_i fn first cap
  obtain ⟨x', y', hgv, hx', hy'⟩ := hgv
  have hgv' : (Frame.act f).eval g = .func (.func fn) x' y' := hgv
  -- the record is laid
  have lay : ∀ (l : Nat) (mark : List ADef) (h1 : AH), aenterLoop m ps assign body = some (l, mark, h1) → ∃ σ1 w1 e markv, (Instr.enterLoop f.fn (Frame.act f).tmps ps assign body f.roundOf).run P w = .ok (e.blk, markv) w1 ∧ σ.le σ1 ∧ σ1 l = some e ∧
      HR ng n0 σ1 h1 w1 ∧ DRs σ1 mark markv ∧ Below n0 w w1 ∧ (∀ k, k < m.h.next → σ1 k = σ k) ∧ m.h.next ≤ h1.next := by
    intro l mark h1 he
    unfold aenterLoop at he
    cases hround : m.fr.round with
    | none =>
      have hro : f.roundOf = none := by have := M.top.round; rw [hround] at this; exact this
      simp only [hround] at he
      injection he with he; injection he with e1 he; injection he with e2 e3; subst e1; subst e2; subst e3
      let d : Loc := ⟨w.heap.size, 0, 0⟩
      let w1 : World := { w with heap := w.heap.push (.deferred (some [])) }
      let σ1 := σ.put m.h.next d
      have hle1 : σ.le σ1 := Sg.le_put (M.heap.fresh _ (Nat.le_refl _))
      have R1 : HR ng n0 σ1 (m.h.new (.deferred [])) w1 := M.heap.new (o := .deferred (some [])) ⟨[], by simp [w1, d], trivial⟩ (Push.new _ _) rfl
      let lc : Loop := { state := .ready, pending := none, fn := f.fn, tmps := f.tmps, params := ps, assign := assign, body := body, defers := w.heap.size }
      let e : Loc := ⟨w.heap.size + 1, 0, 0⟩
      let w2 : World := { w1 with heap := w1.heap.push (.loop lc) }
      let σ2 := σ1.put (m.h.new (.deferred [])).next e
      have hle2 : σ1.le σ2 := Sg.le_put (R1.fresh _ (Nat.le_refl _))
      have R2 : HR ng n0 σ2 ((m.h.new (.deferred [])).new (.loop { state := .ready, pending := none, fn := m.fr.fn, nt := m.fr.nt, tmps := m.fr.tmps, params := ps, assign, body, defers := m.h.next })) w2 :=
        R1.new (o := .loop lc) (e := e) ⟨lc, by
          have hs : w1.heap.size = w.heap.size + 1 := by simp [w1]
          show w2.heap[w.heap.size + 1]? = some (.loop lc)
          rw [← hs]; exact (Push.new (.loop lc) w1).at, rfl, rfl, M.top.fn, rfl, rfl, rfl, ht.mono (hle1.trans hle2), d, hle2 _ _ (Sg.put_same _ _ _), rfl⟩ (Push.new _ _) (by simp [w1, e])
      refine ⟨σ2, w2, e, [{ target := .collected w.heap.size, args := #[] }], ?_, hle1.trans hle2, Sg.put_same _ _ _, R2, ⟨⟨d, hle2 _ _ (Sg.put_same _ _ _), rfl⟩, trivial⟩,
        ((Push.new (.deferred (some [])) w).below M.heap.big).trans ((Push.new (.loop lc) w1).below R1.big), fun x hx => ?_, ?_⟩
      · simp [Instr.enterLoop, hro, w2, w1, lc, e, Frame.act]
      · have h1 : x ≠ (m.h.new (.deferred [])).next := by show x ≠ m.h.next + 1; omega
        have h2 : x ≠ m.h.next := by omega
        exact (Sg.put_ne σ1 e h1).trans (Sg.put_ne σ d h2)
      · show m.h.next ≤ m.h.next + 1 + 1; omega
    | some l0 =>
      obtain ⟨e0, he0, hro⟩ : ∃ e, σ l0 = some e ∧ f.roundOf = some e.blk := by have := M.top.round; rw [hround] at this; exact this
      simp only [hround] at he
      cases hb : m.h.get l0 with
      | none => simp [hb] at he
      | some bl =>
        cases bl <;> simp only [hb] at he <;> try (cases he; done)
        rename_i r0
        injection he with he; injection he with e1 he; injection he with e2 e3; subst e1; subst e2; subst e3
        obtain ⟨lc0, hw, l1, l2, l3, l4, l5, l6, l7, d, hd1, hd2⟩ := M.heap.blk l0 e0 _ he0 hb
        let lc : Loop := { state := .ready, pending := none, fn := f.fn, tmps := f.tmps, params := ps, assign := assign, body := body, defers := lc0.defers }
        let e : Loc := ⟨w.heap.size, 0, 0⟩
        let w2 : World := { w with heap := w.heap.push (.loop lc) }
        let σ2 := σ.put m.h.next e
        have hle2 : σ.le σ2 := Sg.le_put (M.heap.fresh _ (Nat.le_refl _))
        have R2 : HR ng n0 σ2 (m.h.new (.loop { state := .ready, pending := none, fn := m.fr.fn, nt := m.fr.nt, tmps := m.fr.tmps, params := ps, assign, body, defers := r0.defers })) w2 :=
          M.heap.new (o := .loop lc) (e := e) ⟨lc, by simp [w2, e], rfl, rfl, M.top.fn, rfl, rfl, rfl, ht.mono hle2, d, hle2 _ _ hd1, hd2⟩ (Push.new _ _) rfl
        refine ⟨σ2, w2, e, [], ?_, hle2, Sg.put_same _ _ _, R2, trivial, (Push.new (.loop lc) w).below M.heap.big, fun x hx => Sg.put_ne _ _ (by omega), Nat.le_succ _⟩
        simp [Instr.enterLoop, hro, getLoop_run hw, w2, lc, e, Frame.act]
  cases hel : aenterLoop m ps assign body with
  | none => simp [hel] at hq
  | some lmh =>
    obtain ⟨l, mark, h1⟩ := lmh
    simp only [hel] at hq
    obtain ⟨σ1, w1, e, markv, q1, q2, q3, q4, q5, q6, q7, q8⟩ := lay l mark h1 hel
    cases hen : AFrame.enter P fn (first ++ [.yield l] ++ cap) false with
    | none => simp only [hen] at hq; cases hq
    | some fr =>
      simp only [hen] at hq
      injection hq with hq; subst hq
      have hargs : VRs σ1 (first ++ [.yield l] ++ cap) (x' ++ #[Value.func (.yield e.blk) #[] #[]] ++ y').toList := by
        rw [Array.toList_append, Array.toList_append]
        exact VRs.app (VRs.app (VRs.mono q2 _ _ hx') ⟨⟨e, q3, rfl⟩, trivial⟩) (VRs.mono q2 _ _ hy')
      obtain ⟨g1, g2, g3, g4, g5⟩ := enter_sound (ng := ng) hen hargs
      have hst : step P (lone f (cs ++ base) w) = .next (lone (Frame.enter P fn (x' ++ #[Value.func (.yield e.blk) #[] #[]] ++ y') .normal) (f.atR { Frame.act f with defers := markv ++ (Frame.act f).defers } (.inRangeFunc e.blk :: k') :: (cs ++ base)) w1) := by
        refine self_step hm hf (stepR_rangeFunc q1 (d := { target := .fn (.func fn) y', args := x' ++ #[Value.func (.yield e.blk) #[] #[]] }) (w₁' := w1) ?_ (g2 w1))
        have hmap : (#[Operand.const (.func (.yield e.blk) #[] #[])] : Array Operand).map (Frame.act f).eval = #[Value.func (.yield e.blk) #[] #[]] := by simp [Act.eval]
        simp only [resolve, rangeCall, hmap, hgv', Deferred.ofValue, Sem.run_pure]
      refine ⟨σ1, _, f.atR { Frame.act f with defers := markv ++ (Frame.act f).defers } (.inRangeFunc e.blk :: k') :: cs, w1, [], ks, .one hst, q2, ⟨g1, ⟨_, cs, [], ks, rfl, rfl, ⟨M.top.fn, top_plain ⟨⟨e, q3, rfl⟩, hi.mono q2⟩ (ht.mono q2), q5.app (M.top.defers.mono q2), ?_, M.top.kind, M.top.round.mono q2⟩, trivial, M.stack.mono q2⟩, ?_, q4, g5 _⟩, q6⟩
      · show FrameMode.run = bif m.fr.ret then .returning else .run; rw [hr]; rfl
      · have := M.pg.keep q7 q8; simpa using this

/-! ### Code -/
theorem code_sound (hP : 8 ≤ P.types.size) (hmix : P.follows .mixedOrders = true) (M : MRx P ng n0 σ m f cs w p ks) (hr : m.fr.ret = false) {c : Code} {k : List AItem} (ht : m.fr.todo = .code c :: k) (hq : astepCode P ng m k c = some m') : Post P ng n0 σ w f cs base m' := by
  have hm := M.run hr
  obtain ⟨hits, htm, hp⟩ := top_inv (by rw [ht]; rfl) M.top.top
  rw [ht] at hits
  obtain ⟨y, k', hf, hy, hi⟩ := its_cons hits
  have hy : y = .code c := hy
  subst hy
  have leave : ∀ jump, (∀ c' cs', cs ++ base = c' :: cs' → ∀ l v w', f.roundOf = some l → f.kind = .normal → (Instr.endRound l jump).run P w = .ok v w' → step P (lone f (c' :: cs') w) = .next (lone (c'.finish v) cs' w')) →
      (f.roundOf = none → (jump = some .ret → step P (lone f (cs ++ base) w) = .next (lone { f with mode := .returning } (cs ++ base) w))) → (jump ≠ none) → aleave P m jump = some m' → Post P ng n0 σ w f cs base m' := fun jump h1 h2 hj hq => by
    by_cases hj2 : jump = some .ret ∨ f.roundOf ≠ none
    · refine ret_sound M hr (by rw [ht]; rfl) (fun hro => h2 hro (hj2.resolve_right (fun h => h hro))) (fun l v w' ha hb hc c' cs' he => h1 c' cs' he l v w' ha hb hc) hq
    · have hj3 : jump ≠ some .ret := fun h => hj2 (.inl h)
      have hro : f.roundOf = none := by
        cases hx : f.roundOf with
        | none => rfl
        | some l => exact (hj2 (.inr (by rw [hx]; simp))).elim
      have hrn : m.fr.round = none := by
        cases hx : m.fr.round with
        | none => rfl
        | some l => obtain ⟨e, _, h⟩ : ∃ e, σ l = some e ∧ f.roundOf = some e.blk := by have := M.top.round; rw [hx] at this; exact this
                    rw [hro] at h; cases h
      unfold aleave at hq
      simp only [hrn] at hq
      cases jump with
      | none => exact absurd rfl hj
      | some c1 => cases c1 <;> first | exact absurd rfl hj3 | (cases hq; done)
  cases c <;> simp only [astepCode] at hq
  case skip => injection hq with hq; subst hq; exact to_sound M hr (self_step hm hf stepR_skip) hi htm
  case label => injection hq with hq; subst hq; exact to_sound M hr (self_step hm hf stepR_label) hi htm
  case seq => injection hq with hq; subst hq; exact to_sound M hr (self_step hm hf stepR_seq) ⟨rfl, rfl, hi⟩ htm
  case block => injection hq with hq; subst hq; exact to_sound M hr (self_step hm hf stepR_block) ⟨rfl, rfl, hi⟩ htm
  case loop => injection hq with hq; subst hq; exact to_sound M hr (self_step hm hf stepR_loop) ⟨rfl, rfl, hi⟩ htm
  case scope => injection hq with hq; subst hq; exact to_sound M hr (self_step hm hf stepR_scope) ⟨rfl, rfl, hi⟩ htm
  case cond x a b =>
    have hv := ev_sound (ds := f.defers) M.heap htm (x := x) fun _ _ h => h
    generalize ev ng m.fr.tmps x = v at hq hv
    cases v <;> simp only at hq <;> try (cases hq; done)
    rename_i t
    injection hq with hq; subst hq
    have hv' : (Frame.act f).eval x = .bool t := hv
    refine to_sound M hr (self_step hm hf (stepR_cond hv')) ⟨?_, hi⟩ htm
    cases t <;> rfl
  case exit id =>
    obtain ⟨x1, x2⟩ := exitTo_sound (id := id) hi
    cases he : aexitTo id k with
    | some a' =>
      simp only [he] at hq
      injection hq with hq; subst hq
      obtain ⟨it', h1, h2⟩ := x1 a' he
      exact to_sound M hr (self_step hm hf (stepR_exit h1)) h2 htm
    | none =>
      simp only [he] at hq
      have hn := x2 he
      exact leave _ (fun c' cs' _ l v w' h1 h2 h3 => by
        have := stepR_round_exit (P := P) (b := f) (a := Frame.act f) (k := k') (cs := cs') (w := w) (c := c') (id := id) h1 h2 hn h3
        rw [← hf, atR_self hm] at this; exact this) (fun _ h => by cases h) (by simp) hq
  case goto l =>
    obtain ⟨x1, x2⟩ := gotoIn_sound (l := l) hi
    cases he : agotoIn l k with
    | some a' =>
      simp only [he] at hq
      injection hq with hq; subst hq
      obtain ⟨it', h1, h2⟩ := x1 a' he
      exact to_sound M hr (self_step hm hf (stepR_goto h1)) h2 htm
    | none =>
      simp only [he] at hq
      have hn := x2 he
      exact leave _ (fun c' cs' _ l' v w' h1 h2 h3 => by
        have := stepR_round_goto (P := P) (b := f) (a := Frame.act f) (k := k') (cs := cs') (w := w) (c := c') (t := l) h1 h2 hn h3
        rw [← hf, atR_self hm] at this; exact this) (fun _ h => by cases h) (by simp) hq
  case ret =>
    exact leave _ (fun c' cs' _ l' v w' h1 h2 h3 => by
        have := stepR_round_ret (P := P) (b := f) (a := Frame.act f) (k := k') (cs := cs') (w := w) (c := c') h1 h2 h3
        rw [← hf, atR_self hm] at this; exact this) (fun hro _ => by
        have := stepR_ret (P := P) (b := f) (a := Frame.act f) (k := k') (cs := cs ++ base) (w := w) hro
        rw [← hf, atR_self hm] at this; exact this) (by simp) hq
  case region id ops draw =>
    subst hp
    cases draw with
    | false =>
      simp only [cond_false] at hq
      injection hq with hq; subst hq
      refine ⟨σ, f.atR (Frame.act f) (.inRegion ops (List.range ops.size) :: k'), cs, w, [], ks, .one (self_step hm hf stepR_region), Sg.le.refl σ, ⟨⟨M.top.fn, ⟨k', by simp; rfl, by simp, hi, htm, rfl⟩, M.top.defers, ?_, M.top.kind, M.top.round⟩, M.stack, M.pg, M.heap, trivial⟩, Below.refl _ _⟩
      show FrameMode.run = bif m.fr.ret then .returning else .run; rw [hr]; rfl
    | true =>
      simp only [cond_true] at hq
      cases hrc : rcheck P ops with
      | false => rw [hrc] at hq; cases hq
      | true =>
        rw [hrc, cond_true] at hq
        injection hq with hq; subst hq
        have hc := rcheck_sound hrc
        obtain ⟨s1, s2⟩ := lin_sched hc.back (w.tape w.drawn (.order f.fn id))
        have hst := self_step (cs := cs) (base := base) hm hf (stepR_region_draw (P := P) (b := f) (a := Frame.act f) (k := k') (cs := cs ++ base) (w := w) (id := id) (ops := ops))
        simp only [Region.schedule, hmix, Bool.true_or, if_true] at hst
        have hw' : ({ w with drawn := w.drawn + 1 } : World).heap = w.heap := rfl
        refine ⟨σ, f.atR (Frame.act f) (.inRegion ops (Region.linearise .any ops (w.tape w.drawn (.order f.fn id))) :: k'), cs, { w with drawn := w.drawn + 1 }, [], ks, .one hst, Sg.le.refl σ,
          ⟨⟨M.top.fn, ⟨_, k', rfl, hi, hc, ⟨s1, fun i o ho _ => ?_, fun j hj => ?_, fun i o ho _ hn => ?_, fun i o d v mk kk _ _ _ _ hed => ?_⟩, htm.wider fun _ h => h.elim⟩, M.top.defers, ?_, M.top.kind, M.top.round⟩, M.stack, M.pg, M.heap.world hw', trivial⟩, ⟨rfl, rfl, rfl, Nat.le_refl _, fun _ _ => rfl⟩⟩
        · rw [has_zero]
          have hlt : i < ops.size := by
            rcases Nat.lt_or_ge i ops.size with hh | hh
            · exact hh
            · rw [Array.getElem?_eq_none hh] at ho; cases ho
          exact ⟨fun h => (h (s2 i hlt)).elim, fun h => by cases h⟩
        · rw [has_zero] at hj; cases hj
        · have hlt : i < ops.size := by
            rcases Nat.lt_or_ge i ops.size with hh | hh
            · exact hh
            · rw [Array.getElem?_eq_none hh] at ho; cases ho
          exact (hn (s2 i hlt)).elim
        · rw [has_zero] at hed; cases hed
        · show FrameMode.run = bif m.fr.ret then .returning else .run; rw [hr]; rfl
  case rangeFunc g ps assign body => exact rangeFunc_sound M hr hf hi htm hp hq
  case refuse => cases hq
end
end Go.Proofs.YtllipkakgjmheaaGreatDoor.Ev

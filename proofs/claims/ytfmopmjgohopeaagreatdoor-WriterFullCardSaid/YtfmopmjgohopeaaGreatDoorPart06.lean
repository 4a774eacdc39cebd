/- The texts EbU, EbV, EbW of WriterFull, joined by program (tools/merge.py): walks of the functions that the law reaches, and plain facts; no condition. -/
import Derived.Test.YtfmopmjgohopeaaGreatDoorPart05
import Derived.Defers
import Derived.RangeFuncLeaves
set_option linter.unusedVariables false
set_option linter.unusedSimpArgs false

/-
  The abstract machine: its step, the code and the regions.
-/
set_option linter.unusedVariables false
set_option linter.unusedSectionVars false
set_option linter.unusedSimpArgs false
set_option linter.constructorNameAsVariable false
namespace Go.Proofs.YtfmopmjgohopeaaGreatDoor.Ev
open Go Go.RowKit

section
variable [Xt] {P : Program} {ng n0 : Nat} {σ : Sg} {h : AH} {w : World}
variable {m m' : AM} {f : Frame} {cs base : List Frame} {p : List (Nat × Nat)} {ks : List Nat}

theorem top_plain {nt : Nat} {T : Tr AV} {c : Array Value} {a : List AItem} {it : List Item} (hi : ItsR σ a it) (t : TmpR σ (fun _ => False) T nt c) : TopR P σ nt T c [] a it := by
  unfold TopR
  split
  · cases it with
    | nil => exact hi.elim
    | cons _ _ => exact hi.1.elim
  · cases it with
    | nil => exact hi.elim
    | cons _ _ => exact hi.1.elim
  · exact ⟨hi, t, rfl⟩
theorem rdy_plain {nt : Nat} {T : Tr AV} {a : List AItem} {it : List Item} (hi : ItsR σ a it) : Rdy P ng nt T h a := by
  unfold Rdy
  split
  · cases it with
    | nil => exact hi.elim
    | cons _ _ => exact hi.1.elim
  · trivial
theorem top_inv {nt : Nat} {T : Tr AV} {c : Array Value} {a : List AItem} {it : List Item} (hp : plainTop a = true) (r : TopR P σ nt T c p a it) : ItsR σ a it ∧ TmpR σ (fun _ => False) T nt c ∧ p = [] := by
  unfold TopR at r
  split at r
  · cases hp
  · cases hp
  · exact r

theorem MRx.run (M : MRx P ng n0 σ m f cs w p ks) (hr : m.fr.ret = false) : f.mode = .run := by have := M.top.mode; rw [hr] at this; exact this

theorem to_sound {a : List AItem} {it : List Item} (M : MRx P ng n0 σ m f cs w p ks) (hr : m.fr.ret = false) (hs : step P (lone f (cs ++ base) w) = .next (lone (f.atR (Frame.act f) it) (cs ++ base) w))
    (hi : ItsR σ a it) (t : TmpR σ (fun _ => False) m.fr.tmps m.fr.nt f.tmps) : Post P ng n0 σ w f cs base (m.to a) :=
  ⟨σ, _, cs, w, [], ks, .one hs, Sg.le.refl σ, ⟨⟨M.top.fn, top_plain hi t, M.top.defers, by show FrameMode.run = bif m.fr.ret then .returning else .run; rw [hr]; rfl, M.top.kind, M.top.round⟩, M.stack,
    ⟨(List.nodup_append.1 M.pg.1).2.1, fun k hk => M.pg.2 k (List.mem_append.2 (.inr hk))⟩, M.heap, rdy_plain hi⟩, Below.refl _ _⟩

theorem self_step {it : List Item} {X : Stepped} (hm : f.mode = .run) (ht : f.todo = it) (hs : step P (lone (f.atR (Frame.act f) it) (cs ++ base) w) = X) : step P (lone f (cs ++ base) w) = X := by
  subst ht; rw [atR_self hm] at hs; exact hs

theorem exitTo_sound {id : Nat} : ∀ {a : List AItem} {it : List Item}, ItsR σ a it → (∀ a', aexitTo id a = some a' → ∃ it', exitTo id it = some it' ∧ ItsR σ a' it') ∧ (aexitTo id a = none → exitTo id it = none)
  | [], [], _ => ⟨fun a' h => by simp [aexitTo] at h, fun _ => rfl⟩
  | [], _ :: _, r => r.elim
  | _ :: _, [], r => r.elim
  | x :: a, y :: it, r => by
    obtain ⟨h1, h2⟩ := r
    have ih := exitTo_sound (id := id) h2
    cases x <;> simp only [ItR] at h1
    case inBlock id' =>
      subst h1
      simp only [aexitTo, exitTo, nbeq, Bool.cond_decide, beq_iff_eq]
      by_cases h : id' = id
      · simp only [h, if_true]
        exact ⟨fun a' ha => by injection ha with ha; subst ha; exact ⟨it, rfl, h2⟩, fun ha => by cases ha⟩
      · simp only [h, if_false]; exact ih
    case rangeF => obtain ⟨e, _, rfl⟩ := h1; exact ih
    case endF => obtain ⟨e, _, rfl⟩ := h1; exact ih
    all_goals (subst h1; exact ih)
theorem gotoIn_sound {l : Nat} : ∀ {a : List AItem} {it : List Item}, ItsR σ a it → (∀ a', agotoIn l a = some a' → ∃ it', gotoIn l it = some it' ∧ ItsR σ a' it') ∧ (agotoIn l a = none → gotoIn l it = none)
  | [], [], _ => ⟨fun a' h => by simp [agotoIn] at h, fun _ => rfl⟩
  | [], _ :: _, r => r.elim
  | _ :: _, [], r => r.elim
  | x :: a, y :: it, r => by
    obtain ⟨h1, h2⟩ := r
    have ih := gotoIn_sound (l := l) h2
    cases x <;> simp only [ItR] at h1
    case inScope body =>
      subst h1
      simp only [agotoIn, gotoIn]
      cases hf : findLabel body l with
      | none => simp only; exact ih
      | some rest => simp only; exact ⟨fun a' ha => by injection ha with ha; subst ha; exact ⟨_, rfl, by simp [ItsR, ItR]; exact h2⟩, fun ha => by cases ha⟩
    case rangeF => obtain ⟨e, _, rfl⟩ := h1; exact ih
    case endF => obtain ⟨e, _, rfl⟩ := h1; exact ih
    all_goals (subst h1; exact ih)

theorem its_cons {x : AItem} {a : List AItem} {it : List Item} (r : ItsR σ (x :: a) it) : ∃ y it', it = y :: it' ∧ ItR σ x y ∧ ItsR σ a it' := by
  cases it with
  | nil => exact r.elim
  | cons y it' => exact ⟨y, it', rfl, r.1, r.2⟩

theorem PG.right {l l' : List Nat} (g : PG σ h (l ++ l')) : PG σ h l' :=
  ⟨(List.nodup_append.1 g.1).2.1, fun k hk => g.2 k (List.mem_append.2 (.inr hk))⟩

/-! ### A frame is left -/
def jB (jump : Option Code) : Bool := match jump with | none => true | some _ => false
def jS (jump : Option Code) : LoopState := match jump with | none => .ready | some _ => .done
theorem ret_sound {jump : Option Code} (M : MRx P ng n0 σ m f cs w p ks) (hr : m.fr.ret = false) (hpl : plainTop m.fr.todo = true)
    (hst : f.roundOf = none → step P (lone f (cs ++ base) w) = .next (lone { f with mode := .returning } (cs ++ base) w))
    (hrd : ∀ l v w', f.roundOf = some l → f.kind = .normal → (Instr.endRound l jump).run P w = .ok v w' → ∀ c cs', cs ++ base = c :: cs' → step P (lone f (c :: cs') w) = .next (lone (c.finish v) cs' w'))
    (hq : aleave P m jump = some m') : Post P ng n0 σ w f cs base m' := by
  obtain ⟨hits, ht, hp⟩ := top_inv hpl M.top.top
  subst hp
  unfold aleave at hq
  cases hround : m.fr.round with
  | none =>
    have hro : f.roundOf = none := by have := M.top.round; rw [hround] at this; exact this
    simp only [hround] at hq
    have key : m' = { m with fr := { m.fr with ret := true, round := none } } := by
      split at hq
      · injection hq with hq; exact hq.symm
      · injection hq with hq; exact hq.symm
      · cases hq
    subst key
    refine ⟨σ, _, cs, w, [], ks, .one (hst hro), Sg.le.refl σ, ⟨⟨M.top.fn, M.top.top, M.top.defers, rfl, M.top.kind, hro⟩, M.stack, M.pg, M.heap, M.rdy⟩, Below.refl _ _⟩
  | some l =>
    obtain ⟨e, he, hro⟩ : ∃ e, σ l = some e ∧ f.roundOf = some e.blk := by have := M.top.round; rw [hround] at this; exact this
    simp only [hround] at hq
    cases hb : m.h.get l with
    | none => simp [hb] at hq
    | some bl =>
      cases bl <;> simp only [hb] at hq <;> try (cases hq; done)
      rename_i r
      cases hdf : m.fr.dfd with
      | true => rw [hdf] at hq; cases hq
      | false =>
        rw [hdf, cond_false] at hq
        have hk : f.kind = .normal := by have := M.top.kind; rw [hdf] at this; exact this
        obtain ⟨lc, hw, l1, l2, l3, l4, l5, l6, l7, l8⟩ := M.heap.blk l e _ he hb
        unfold giveBack at hq
        cases hcs : m.cs with
        | nil => simp [hcs] at hq
        | cons c1 cs1 =>
          simp only [hcs] at hq
          have hS := M.stack
          rw [hcs] at hS
          obtain ⟨f1, fs', p1, ks', e1, e2, h3, h4, h5⟩ := hS
          split at hq
          · rename_i fr hfin
            injection hq with hq; subst hq
            let o' : Obj := .loop { lc with state := if jump.isNone then .ready else .done, pending := jump }
            have ob := obj_sound (P := P) (o' := o') (b' := .loop { r with state := jS jump, pending := jump }) M.heap he hb rfl hw rfl (fun w' hw' => ⟨_, hw', by cases jump <;> rfl, rfl, l3, l4, l5, l6, l7, l8⟩)
            obtain ⟨o1, o2, o3⟩ := ob
            have hgl : (getObj e.blk).run P w = .ok (.loop lc) w := by simp [getObj, Sem.run, hw]
            have hend : (Instr.endRound e.blk jump).run P w = .ok (.bool jump.isNone) (w.putObj e.blk o') := by
              simp only [Instr.endRound, Instr.getLoop, Sem.run_bind, hgl, Result.andThen_ok, Sem.run_pure, o', o1]
            have hv : VR σ (.bool (jB jump)) (.bool jump.isNone) := by cases jump <;> rfl
            obtain ⟨g1, g2, g3⟩ := finish_sound (ng := ng) h3 h4 hfin hv
            subst e1
            refine ⟨σ, f1.finish (.bool jump.isNone), fs', _, p1, ks', .one (hrd _ _ _ hro hk hend f1 (fs' ++ base) rfl), Sg.le.refl σ, ⟨g1, h5, ?_, o2, g3 _⟩, o3⟩
            have := M.pg
            simp only [List.map_nil, List.nil_append, e2] at this
            exact this.keep (fun _ _ => rfl) (Nat.le_refl _)
          · cases hq

/-! ### Regions -/
theorem alloc_eff (R : HR ng n0 σ h w) {T : Operand → AV} {ρ : Operand → Value} {o : Oper} {b : ABlock} {mk : Mk} (hρ : ∀ x ∈ o.op.operands, VR σ (T x) (ρ x)) (hq : aalloc P T o.op = some (b, mk)) :
    Eff P ng n0 σ h w (mk.av h.next) (h.new b) (execOp ρ o) := by
  obtain ⟨u, w1, ob, e, hr, hp, heb, hro, hall⟩ := (alloc_sound (P := P) (σ := σ) (w := w) hρ hq).out
  obtain ⟨hBR, hVR⟩ := hall _ (Sg.le_put (e := e) (R.fresh _ (Nat.le_refl _)))
  exact new_eff R hr hp heb hBR (hVR _ (Sg.put_same _ _ _))

theorem reg_sound (hP : 8 ≤ P.types.size) (M : MRx P ng n0 σ m f cs w p ks) (hr : m.fr.ret = false) {ops : Array Oper} {i : Nat} {o : Oper} {rest : List Oper} {k : List AItem} (ht : m.fr.todo = .reg ops i (o :: rest) :: k)
    (hq : (match awanted ops m.fr.tmps o with
      | some true => aexec P ng m o
      | some false => AM.done P m undefA m.h
      | none => none) = some m') : Post P ng n0 σ w f cs base m' := by
  have hm := M.run hr
  have htop := M.top.top
  rw [ht] at htop
  obtain ⟨k', e1, e2, e3, e4, e5⟩ := htop
  have hat : AtEff P m.fr.todo f.todo := by rw [ht]; unfold AtEff; trivial
  have hi : ops.toList[i]? = some o := by
    have : (ops.toList.drop i)[0]? = some o := by rw [← e2]; rfl
    simpa using this
  have hlt : i < ops.size := by
    have := (List.getElem?_eq_some_iff.1 hi).1; simpa using this
  have hr' : (List.range ops.size).drop i = i :: (List.range ops.size).drop (i + 1) := by
    rw [List.drop_eq_getElem_cons (by simpa using hlt)]; simp
  have ho : ops[i]? = some o := by simpa using hi
  rw [hr'] at e1
  cases ha : awanted ops m.fr.tmps o with
  | none => simp [ha] at hq
  | some b =>
    have hw := wanted_sound e4 (fun _ _ _ _ _ _ _ h => h) ha
    cases b with
    | false =>
      simp only [ha] at hq
      refine done_sound (u := undef) M hat hq ?_ (Sg.le.refl σ) M.heap (fun _ _ => rfl) (Nat.le_refl _) ⟨#[], rfl, trivial⟩ (Below.refl _ _)
      refine self_step hm e1 ?_
      rw [stepR_op_skip (by simp [ho]; exact hw), ← Frame.finish_atR, ← e1, atR_self hm]
    | true =>
      simp only [ha] at hq
      have A : AtOp f ops i _ k' o := ⟨e1, hm, ho, hw⟩
      have hops : ∀ x ∈ o.op.operands, VR σ (ev ng m.fr.tmps x) ((Frame.act f).eval x) := fun x _ => ev_sound M.heap e4 fun _ _ h => h
      unfold aexec at hq
      simp only at hq
      cases hqu : aquiet P m.h (ev ng m.fr.tmps) o.op with
      | some v =>
        simp only [hqu] at hq
        obtain ⟨u, h1, h2⟩ := quiet_sound (P := P) M.heap hops hqu
        have hnd : ∀ c, o.op ≠ .defer c := fun c hc => by rw [hc] at hqu; simp [aquiet] at hqu
        exact done_sound M hat hq (step_val A (by rw [Oper.semAt_eq _ _ _ hnd]; exact h1)) (Sg.le.refl σ) M.heap (fun _ _ => rfl) (Nat.le_refl _) h2 (Below.refl _ _)
      | none =>
        simp only [hqu] at hq
        cases hal : aalloc P (ev ng m.fr.tmps) o.op with
        | some bm =>
          obtain ⟨b, mk⟩ := bm
          simp only [hal] at hq
          have hnd : ∀ c, o.op ≠ .defer c := fun c hc => by rw [hc] at hal; simp [aalloc] at hal
          refine eff_done M hat hq (alloc_eff M.heap hops hal) fun r w' hrun hk => ?_
          rw [← Oper.semAt_eq f.roundOf _ _ hnd] at hrun
          rcases hk with ⟨u, rfl⟩ | rfl
          · exact step_val A hrun
          · exact step_skp A hrun
        | none =>
          simp only [hal] at hq
          exact aeff_sound hP M hat A hops hq

theorem Post.after {σ1 : Sg} {f1 : Frame} {w1 : World} (hs : Steps P (lone f (cs ++ base) w) (lone f1 (cs ++ base) w1)) (hle : σ.le σ1) (hb : Below n0 w w1) (h : Post P ng n0 σ1 w1 f1 cs base m') : Post P ng n0 σ w f cs base m' := by
  obtain ⟨σ', f', cs', w', p', ks', h1, h2, h3, h4⟩ := h
  exact ⟨σ', f', cs', w', p', ks', hs.trans h1, hle.trans h2, h3, hb.trans h4⟩

theorem drw_sound (hP : 8 ≤ P.types.size) (M : MRx P ng n0 σ m f cs w p ks) (hr : m.fr.ret = false) {ops : Array Oper} {dm um ed : Nat} {k : List AItem} (ht : m.fr.todo = .drw ops dm um ed true :: k)
    (hq : (match nextEff ops dm (effs P ops.toList 0) with
    | some i => match ops[i]? with
      | some o => match awanted ops m.fr.tmps o with
        | some true => aeff P ng m o
        | some false => AM.done P m undefA m.h
        | none => none
      | none => none
    | none => bif Nat.beq (Nat.lor (effMask (effs P ops.toList 0)) dm) dm then some (m.to k) else none) = some m') : Post P ng n0 σ w f cs base m' := by
  have hm := M.run hr
  have htop := M.top.top
  rw [ht] at htop
  obtain ⟨l, k', e1, e3, hc, d, t⟩ := htop
  have hrdy := M.rdy
  rw [ht] at hrdy
  obtain ⟨l', c', w', σ', pend', s1, s2, s3, s4, s5, s6, s7, s8⟩ := quiet_run (P := P) (ng := ng) (b := f) (k := k') (cs := cs ++ base) (ks := ks) hc hrdy.1 hrdy.2 l f.tmps f.defers w σ p M.heap d t M.pg
  have hself : f.atR ⟨f.tmps, f.defers⟩ (.inRegion ops l :: k') = f := by rw [← e1]; exact atR_self hm
  rw [hself] at s1
  let f1 : Frame := f.atR ⟨c', f.defers⟩ (.inRegion ops l' :: k')
  have hmode1 : FrameMode.run = bif m.fr.ret then .returning else .run := by rw [hr]; rfl
  have M1 : MRx P ng n0 σ' m f1 cs w' pend' ks := by
    refine ⟨⟨M.top.fn, ?_, M.top.defers.mono s3, hmode1, M.top.kind, M.top.round.mono s3⟩, M.stack.mono s3, s7, s4, M.rdy⟩
    rw [ht]
    exact ⟨l', k', rfl, e3.mono s3, hc, s5, s6⟩
  refine Post.after s1 s3 s8 ?_
  cases hn : nextEff ops dm (effs P ops.toList 0) with
  | some i =>
    simp only [hn] at hq
    have hne : ∃ r o, l' = i :: r ∧ ops[i]? = some o ∧ isEff P o.op = true := by
      rcases s2 with h | ⟨x, r, o, h1, h2, h3⟩
      · subst h
        obtain ⟨g1, g2, _⟩ := nextEff_spec hn
        obtain ⟨kk, o, h4, h5, h6⟩ := mem_effs.1 g1
        rw [Nat.zero_add] at h5; subst h5
        rw [(s5.eff i o (by simpa using h4) h6).1 (by simp)] at g2; cases g2
      · subst h1
        have := head_is hc s5 h2 h3 hn
        subst this
        exact ⟨r, o, rfl, h2, h3⟩
    obtain ⟨r, o, hl, ho, he⟩ := hne
    subst hl
    simp only [ho] at hq
    have nx : ∀ q oq x, ops[q]? = some oq → oq.dst = some x → isEff P oq.op = false → has (maskOf ops i) q = true → ¬ q ∈ i :: r := fun q _ _ _ _ _ hm => mask_head hc.back s5.sched q hm
    have hguard : ∀ g q og x, o.guard = some (g, q) → ops[g]? = some og → og.dst = some x → ¬ RX P ops (i :: r) x := fun g q og x h3 h4 h5 ⟨y, hy, oy, h6, h7, h8⟩ =>
      nx y oy x h6 h8 h7 (hc.guard i o g q og x y oy ho h3 h4 h5 h6 h8 h7) hy
    have hops : ∀ x ∈ o.op.operands, VR σ' (ev ng m.fr.tmps x) ((Frame.act f1).eval x) := fun x hx => ev_sound s4 s6 fun y hy ⟨q, hq, oq, h6, h7, h8⟩ => by
      subst hy
      have : y ∈ operTmps o := by
        unfold operTmps
        rw [List.mem_filterMap]
        exact ⟨.tmp y, by simpa using hx, rfl⟩
      exact nx q oq y h6 h8 h7 (hc.looks i o y q oq ho this h6 h8 h7) hq
    have hat : AtEff P m.fr.todo f1.todo := by rw [ht]; exact ⟨o, ho, he⟩
    cases ha : awanted ops m.fr.tmps o with
    | none => simp [ha] at hq
    | some b =>
      have hw := wanted_sound s6 hguard ha
      cases b with
      | true =>
        simp only [ha] at hq
        exact aeff_sound hP M1 hat ⟨rfl, rfl, ho, hw⟩ hops hq
      | false =>
        simp only [ha] at hq
        refine done_sound (u := undef) M1 hat hq ?_ (Sg.le.refl σ') s4 (fun _ _ => rfl) (Nat.le_refl _) ⟨#[], rfl, trivial⟩ (Below.refl _ _)
        have := stepR_op_skip (P := P) (b := f) (a := ⟨c', f.defers⟩) (k := k') (cs := cs ++ base) (w := w') (ops := ops) (i := i) (rest := r) (by simp [ho]; exact hw)
        rw [← Frame.finish_atR] at this
        exact this
  | none =>
    simp only [hn, nbeq, Bool.cond_decide] at hq
    split at hq
    · rename_i hlor
      injection hq with hq; subst hq
      have hl : l' = [] := by
        rcases s2 with h | ⟨x, r, o, h1, h2, h3⟩
        · exact h
        · subst h1
          have hx : has dm x = true := sub_lor hlor x (em_has.2 ⟨o, h2, h3⟩)
          exact ((s5.eff x o h2 h3).2 hx (List.mem_cons_self ..)).elim
      subst hl
      have htmp : TmpR σ' (fun _ => False) m.fr.tmps m.fr.nt f1.tmps := s6.wider fun t ⟨x, hx, _⟩ => by simp at hx
      refine to_sound M1 hr ?_ (e3.mono s3) htmp
      exact stepR_region_end (P := P) (b := f) (a := ⟨c', f.defers⟩)
    · cases hq

theorem pass_sound (M : MRx P ng n0 σ m f cs w p ks) {ops : Array Oper} {dm um ed : Nat} {k : List AItem} (ht : m.fr.todo = .drw ops dm um ed false :: k)
    (hq : (match passOne P ng ops (effMask (effs P ops.toList 0)) dm um m.fr.nt ops.toList 0 ed m.fr.tmps m.h with
    | some (ed', T, h) =>
      bif passTwo P ng ops (effMask (effs P ops.toList 0)) dm um m.fr.nt T h ops.toList 0 then
        some { m with fr := { m.fr with tmps := T, todo := .drw ops dm um ed' true :: k }, h }
      else none
    | none => none) = some m') : Post P ng n0 σ w f cs base m' := by
  have htop := M.top.top
  rw [ht] at htop
  obtain ⟨l, k', e1, e3, hc, d, t⟩ := htop
  cases h1 : passOne P ng ops (effMask (effs P ops.toList 0)) dm um m.fr.nt ops.toList 0 ed m.fr.tmps m.h with
  | none => simp [h1] at hq
  | some r =>
    obtain ⟨ed', T, h'⟩ := r
    simp only [h1] at hq
    cases h2 : passTwo P ng ops (effMask (effs P ops.toList 0)) dm um m.fr.nt T h' ops.toList 0 with
    | false => rw [h2] at hq; cases hq
    | true =>
      rw [h2, cond_true] at hq
      injection hq with hq; subst hq
      obtain ⟨pend', a1, a2, a3, a4, a5, a6, a7⟩ := passOne_sound (σ := σ) (w := w) hc ops.toList 0 ed m.fr.tmps m.h ed' T h' p ks (fun j o hj => by rw [Nat.zero_add]; simpa using hj) h1 M.heap t d M.pg
      refine ⟨σ, f, cs, w, pend', ks, .refl _ _, Sg.le.refl σ, ⟨⟨M.top.fn, ⟨l, k', e1, e3, hc, a3, a2⟩, M.top.defers, M.top.mode, M.top.kind, M.top.round⟩, M.stack, a4, a1, h2, fun i o ho he hw => ?_⟩, Below.refl _ _⟩
      have := a6 i o (by simpa using ho) he (by rw [Nat.zero_add]; exact hw)
      rwa [Nat.zero_add] at this
end
end Go.Proofs.YtfmopmjgohopeaaGreatDoor.Ev

/-
  The abstract machine: its step.
-/
set_option linter.unusedVariables false
set_option linter.unusedSectionVars false
set_option linter.unusedSimpArgs false
set_option linter.constructorNameAsVariable false
namespace Go.Proofs.YtfmopmjgohopeaaGreatDoor.Ev
open Go Go.RowKit

section
variable [Xt] {P : Program} {ng n0 : Nat} {σ : Sg} {h : AH} {w : World}
variable {m m' : AM} {f : Frame} {cs base : List Frame} {p : List (Nat × Nat)} {ks : List Nat}

/-- a block that is given up is written -/
theorem HR.dead (R : HR ng n0 σ h w) {k : Nat} {e : Loc} {b : ABlock} {w' : World} (hk : σ k = some e) (hb : h.get k = some b) (hw : Ex e.blk w w') : HR ng n0 σ (h.kill k) w' := by
  have old : ∀ x bx, (h.kill k).get x = some bx → x ≠ k ∧ h.get x = some bx := fun x bx hx => by
    rw [AH.get_kill] at hx
    by_cases hxk : x = k
    · rw [if_pos hxk] at hx; cases hx
    · rw [if_neg hxk] at hx; exact ⟨hxk, hx⟩
  refine ⟨fun x e' bx h1 h2 => ?_, R.fresh, fun x hx => ?_, fun x y e1 e2 b1 b2 h1 h2 h3 h4 h5 => R.inj x y e1 e2 b1 b2 h1 h2 (old x b1 h3).2 (old y b2 h4).2 h5,
    fun x e' hx => by rw [hw.size]; exact R.lt x e' hx, R.glob, fun x e' bx h1 h2 h3 => R.own x e' bx h1 (old x bx h2).2 h3, R.ngn, by rw [hw.size]; exact R.big⟩
  · obtain ⟨hne, hx⟩ := old x bx h2
    exact (R.blk x e' bx h1 hx).keep (Sg.le.refl σ) (hw.block _ fun he => hne (R.inj x k e' e bx b h1 hk hx hb he))
  · rw [AH.get_kill]; split
    · rfl
    · exact R.freshA x hx

theorem stepR_scope {b : Frame} {a : Act} {k : List Item} {cs : List Frame} {body : Code} :
    step P (lone (b.atR a (.code (.scope body) :: k)) cs w) = .next (lone (b.atR a (.code body :: .inScope body :: k)) cs w) :=
  step_lone_go (by simp [stepG, stepG.exec, Frame.atR])
theorem stepR_inScope {b : Frame} {a : Act} {k : List Item} {cs : List Frame} {body : Code} : step P (lone (b.atR a (.inScope body :: k)) cs w) = .next (lone (b.atR a k) cs w) :=
  step_lone_go (by simp [stepG, stepG.exec, Frame.atR])
theorem stepR_exit_ret {b : Frame} {a : Act} {k : List Item} {cs : List Frame} (hb : b.roundOf = none) :
    step P (lone (b.atR a (.code .ret :: k)) cs w) = .next (lone { b.atR a (.code .ret :: k) with mode := .returning } cs w) := stepR_ret hb

/-! ### Range over a function -/
theorem getLoop_run {e : Loc} {lc : Loop} (hw : w.heap[e.blk]? = some (.loop lc)) : (Instr.getLoop e.blk).run P w = .ok lc w := by
  simp [Instr.getLoop, getObj, Sem.run, hw]

theorem rangeFunc_sound (M : MRx P ng n0 σ m f cs w p ks) (hr : m.fr.ret = false) {g : Operand} {ps : Array Tmp} {assign body : Code} {k : List AItem} {k' : List Item} (hf : f.todo = .code (.rangeFunc g ps assign body) :: k') (hi : ItsR σ k k')
    (ht : TmpR σ (fun _ => False) m.fr.tmps m.fr.nt f.tmps) (hp : p = [])
    (hq : (match ev ng m.fr.tmps g, aenterLoop m ps assign body with
    | .func g first cap, some (l, mark, h) =>
      match AFrame.enter P g (first ++ [.yield l] ++ cap) false with
      | some fr => some { fr, cs := { m.fr with todo := .rangeF l :: k, defers := mark ++ m.fr.defers } :: m.cs, h }
      | none => none
    | _, _ => none) = some m') : Post P ng n0 σ w f cs base m' := by
  have hm := M.run hr
  subst hp
  have hgv := ev_sound (ds := f.defers) M.heap ht (x := g) fun _ _ h => h
  generalize ev ng m.fr.tmps g = gv at hq hgv
  cases gv <;> simp only at hq <;> try (cases hq; done)
  rename_i fn first cap
  obtain ⟨x', y', hgv, hx', hy'⟩ := hgv
  have hgv' : (Frame.act f).eval g = .func (.func fn) x' y' := hgv
  -- the record is laid
  have lay : ∀ (l : Nat) (mark : List ADef) (h1 : AH), aenterLoop m ps assign body = some (l, mark, h1) → ∃ σ1 w1 e markv, (Instr.enterLoop f.fn (Frame.act f).tmps ps assign body f.roundOf).run P w = .ok (e.blk, markv) w1 ∧ σ.le σ1 ∧ σ1 l = some e ∧
      HR ng n0 σ1 h1 w1 ∧ DRs σ1 mark markv ∧ Below n0 w w1 ∧ (∀ k, k < m.h.next → σ1 k = σ k) ∧ m.h.next ≤ h1.next := by
    intro l mark h1 he
    unfold aenterLoop at he
    cases hround : m.fr.round with
    | none =>
      have hro : f.roundOf = none := by have := M.top.round; rw [hround] at this; exact this
      simp only [hround] at he
      injection he with he; injection he with e1 he; injection he with e2 e3; subst e1; subst e2; subst e3
      let d : Loc := ⟨w.heap.size, 0, 0⟩
      let w1 : World := { w with heap := w.heap.push (.deferred (some [])) }
      let σ1 := σ.put m.h.next d
      have hle1 : σ.le σ1 := Sg.le_put (M.heap.fresh _ (Nat.le_refl _))
      have R1 : HR ng n0 σ1 (m.h.new (.deferred [])) w1 := M.heap.new (o := .deferred (some [])) ⟨[], by simp [w1, d], trivial⟩ (Push.new _ _) rfl
      let lc : Loop := { state := .ready, pending := none, fn := f.fn, tmps := f.tmps, params := ps, assign := assign, body := body, defers := w.heap.size }
      let e : Loc := ⟨w.heap.size + 1, 0, 0⟩
      let w2 : World := { w1 with heap := w1.heap.push (.loop lc) }
      let σ2 := σ1.put (m.h.new (.deferred [])).next e
      have hle2 : σ1.le σ2 := Sg.le_put (R1.fresh _ (Nat.le_refl _))
      have R2 : HR ng n0 σ2 ((m.h.new (.deferred [])).new (.loop { state := .ready, pending := none, fn := m.fr.fn, nt := m.fr.nt, tmps := m.fr.tmps, params := ps, assign, body, defers := m.h.next })) w2 :=
        R1.new (o := .loop lc) (e := e) ⟨lc, by
          have hs : w1.heap.size = w.heap.size + 1 := by simp [w1]
          show w2.heap[w.heap.size + 1]? = some (.loop lc)
          rw [← hs]; exact (Push.new (.loop lc) w1).at, rfl, rfl, M.top.fn, rfl, rfl, rfl, ht.mono (hle1.trans hle2), d, hle2 _ _ (Sg.put_same _ _ _), rfl⟩ (Push.new _ _) (by simp [w1, e])
      refine ⟨σ2, w2, e, [{ target := .collected w.heap.size, args := #[] }], ?_, hle1.trans hle2, Sg.put_same _ _ _, R2, ⟨⟨d, hle2 _ _ (Sg.put_same _ _ _), rfl⟩, trivial⟩,
        ((Push.new (.deferred (some [])) w).below M.heap.big).trans ((Push.new (.loop lc) w1).below R1.big), fun x hx => ?_, ?_⟩
      · simp [Instr.enterLoop, hro, w2, w1, lc, e, Frame.act]
      · have h1 : x ≠ (m.h.new (.deferred [])).next := by show x ≠ m.h.next + 1; omega
        have h2 : x ≠ m.h.next := by omega
        exact (Sg.put_ne σ1 e h1).trans (Sg.put_ne σ d h2)
      · show m.h.next ≤ m.h.next + 1 + 1; omega
    | some l0 =>
      obtain ⟨e0, he0, hro⟩ : ∃ e, σ l0 = some e ∧ f.roundOf = some e.blk := by have := M.top.round; rw [hround] at this; exact this
      simp only [hround] at he
      cases hb : m.h.get l0 with
      | none => simp [hb] at he
      | some bl =>
        cases bl <;> simp only [hb] at he <;> try (cases he; done)
        rename_i r0
        injection he with he; injection he with e1 he; injection he with e2 e3; subst e1; subst e2; subst e3
        obtain ⟨lc0, hw, l1, l2, l3, l4, l5, l6, l7, d, hd1, hd2⟩ := M.heap.blk l0 e0 _ he0 hb
        let lc : Loop := { state := .ready, pending := none, fn := f.fn, tmps := f.tmps, params := ps, assign := assign, body := body, defers := lc0.defers }
        let e : Loc := ⟨w.heap.size, 0, 0⟩
        let w2 : World := { w with heap := w.heap.push (.loop lc) }
        let σ2 := σ.put m.h.next e
        have hle2 : σ.le σ2 := Sg.le_put (M.heap.fresh _ (Nat.le_refl _))
        have R2 : HR ng n0 σ2 (m.h.new (.loop { state := .ready, pending := none, fn := m.fr.fn, nt := m.fr.nt, tmps := m.fr.tmps, params := ps, assign, body, defers := r0.defers })) w2 :=
          M.heap.new (o := .loop lc) (e := e) ⟨lc, by simp [w2, e], rfl, rfl, M.top.fn, rfl, rfl, rfl, ht.mono hle2, d, hle2 _ _ hd1, hd2⟩ (Push.new _ _) rfl
        refine ⟨σ2, w2, e, [], ?_, hle2, Sg.put_same _ _ _, R2, trivial, (Push.new (.loop lc) w).below M.heap.big, fun x hx => Sg.put_ne _ _ (by omega), Nat.le_succ _⟩
        simp [Instr.enterLoop, hro, getLoop_run hw, w2, lc, e, Frame.act]
  cases hel : aenterLoop m ps assign body with
  | none => simp [hel] at hq
  | some lmh =>
    obtain ⟨l, mark, h1⟩ := lmh
    simp only [hel] at hq
    obtain ⟨σ1, w1, e, markv, q1, q2, q3, q4, q5, q6, q7, q8⟩ := lay l mark h1 hel
    cases hen : AFrame.enter P fn (first ++ [.yield l] ++ cap) false with
    | none => simp only [hen] at hq; cases hq
    | some fr =>
      simp only [hen] at hq
      injection hq with hq; subst hq
      have hargs : VRs σ1 (first ++ [.yield l] ++ cap) (x' ++ #[Value.func (.yield e.blk) #[] #[]] ++ y').toList := by
        rw [Array.toList_append, Array.toList_append]
        exact VRs.app (VRs.app (VRs.mono q2 _ _ hx') ⟨⟨e, q3, rfl⟩, trivial⟩) (VRs.mono q2 _ _ hy')
      obtain ⟨g1, g2, g3, g4, g5⟩ := enter_sound (ng := ng) hen hargs
      have hst : step P (lone f (cs ++ base) w) = .next (lone (Frame.enter P fn (x' ++ #[Value.func (.yield e.blk) #[] #[]] ++ y') .normal) (f.atR { Frame.act f with defers := markv ++ (Frame.act f).defers } (.inRangeFunc e.blk :: k') :: (cs ++ base)) w1) := by
        refine self_step hm hf (stepR_rangeFunc q1 (d := { target := .fn (.func fn) y', args := x' ++ #[Value.func (.yield e.blk) #[] #[]] }) (w₁' := w1) ?_ (g2 w1))
        have hmap : (#[Operand.const (.func (.yield e.blk) #[] #[])] : Array Operand).map (Frame.act f).eval = #[Value.func (.yield e.blk) #[] #[]] := by simp [Act.eval]
        simp only [resolve, rangeCall, hmap, hgv', Deferred.ofValue, Sem.run_pure]
      refine ⟨σ1, _, f.atR { Frame.act f with defers := markv ++ (Frame.act f).defers } (.inRangeFunc e.blk :: k') :: cs, w1, [], ks, .one hst, q2, ⟨g1, ⟨_, cs, [], ks, rfl, rfl, ⟨M.top.fn, top_plain ⟨⟨e, q3, rfl⟩, hi.mono q2⟩ (ht.mono q2), q5.app (M.top.defers.mono q2), ?_, M.top.kind, M.top.round.mono q2⟩, trivial, M.stack.mono q2⟩, ?_, q4, g5 _⟩, q6⟩
      · show FrameMode.run = bif m.fr.ret then .returning else .run; rw [hr]; rfl
      · have := M.pg.keep q7 q8; simpa using this

/-! ### Code -/
theorem code_sound (hP : 8 ≤ P.types.size) (hmix : P.follows .mixedOrders = true) (M : MRx P ng n0 σ m f cs w p ks) (hr : m.fr.ret = false) {c : Code} {k : List AItem} (ht : m.fr.todo = .code c :: k) (hq : astepCode P ng m k c = some m') : Post P ng n0 σ w f cs base m' := by
  have hm := M.run hr
  obtain ⟨hits, htm, hp⟩ := top_inv (by rw [ht]; rfl) M.top.top
  rw [ht] at hits
  obtain ⟨y, k', hf, hy, hi⟩ := its_cons hits
  have hy : y = .code c := hy
  subst hy
  have leave : ∀ jump, (∀ c' cs', cs ++ base = c' :: cs' → ∀ l v w', f.roundOf = some l → f.kind = .normal → (Instr.endRound l jump).run P w = .ok v w' → step P (lone f (c' :: cs') w) = .next (lone (c'.finish v) cs' w')) →
      (f.roundOf = none → (jump = some .ret → step P (lone f (cs ++ base) w) = .next (lone { f with mode := .returning } (cs ++ base) w))) → (jump ≠ none) → aleave P m jump = some m' → Post P ng n0 σ w f cs base m' := fun jump h1 h2 hj hq => by
    by_cases hj2 : jump = some .ret ∨ f.roundOf ≠ none
    · refine ret_sound M hr (by rw [ht]; rfl) (fun hro => h2 hro (hj2.resolve_right (fun h => h hro))) (fun l v w' ha hb hc c' cs' he => h1 c' cs' he l v w' ha hb hc) hq
    · have hj3 : jump ≠ some .ret := fun h => hj2 (.inl h)
      have hro : f.roundOf = none := by
        cases hx : f.roundOf with
        | none => rfl
        | some l => exact (hj2 (.inr (by rw [hx]; simp))).elim
      have hrn : m.fr.round = none := by
        cases hx : m.fr.round with
        | none => rfl
        | some l => obtain ⟨e, _, h⟩ : ∃ e, σ l = some e ∧ f.roundOf = some e.blk := by have := M.top.round; rw [hx] at this; exact this
                    rw [hro] at h; cases h
      unfold aleave at hq
      simp only [hrn] at hq
      cases jump with
      | none => exact absurd rfl hj
      | some c1 => cases c1 <;> first | exact absurd rfl hj3 | (cases hq; done)
  cases c <;> simp only [astepCode] at hq
  case skip => injection hq with hq; subst hq; exact to_sound M hr (self_step hm hf stepR_skip) hi htm
  case label => injection hq with hq; subst hq; exact to_sound M hr (self_step hm hf stepR_label) hi htm
  case seq => injection hq with hq; subst hq; exact to_sound M hr (self_step hm hf stepR_seq) ⟨rfl, rfl, hi⟩ htm
  case block => injection hq with hq; subst hq; exact to_sound M hr (self_step hm hf stepR_block) ⟨rfl, rfl, hi⟩ htm
  case loop => injection hq with hq; subst hq; exact to_sound M hr (self_step hm hf stepR_loop) ⟨rfl, rfl, hi⟩ htm
  case scope => injection hq with hq; subst hq; exact to_sound M hr (self_step hm hf stepR_scope) ⟨rfl, rfl, hi⟩ htm
  case cond x a b =>
    have hv := ev_sound (ds := f.defers) M.heap htm (x := x) fun _ _ h => h
    generalize ev ng m.fr.tmps x = v at hq hv
    cases v <;> simp only at hq <;> try (cases hq; done)
    rename_i t
    injection hq with hq; subst hq
    have hv' : (Frame.act f).eval x = .bool t := hv
    refine to_sound M hr (self_step hm hf (stepR_cond hv')) ⟨?_, hi⟩ htm
    cases t <;> rfl
  case exit id =>
    obtain ⟨x1, x2⟩ := exitTo_sound (id := id) hi
    cases he : aexitTo id k with
    | some a' =>
      simp only [he] at hq
      injection hq with hq; subst hq
      obtain ⟨it', h1, h2⟩ := x1 a' he
      exact to_sound M hr (self_step hm hf (stepR_exit h1)) h2 htm
    | none =>
      simp only [he] at hq
      have hn := x2 he
      exact leave _ (fun c' cs' _ l v w' h1 h2 h3 => by
        have := stepR_round_exit (P := P) (b := f) (a := Frame.act f) (k := k') (cs := cs') (w := w) (c := c') (id := id) h1 h2 hn h3
        rw [← hf, atR_self hm] at this; exact this) (fun _ h => by cases h) (by simp) hq
  case goto l =>
    obtain ⟨x1, x2⟩ := gotoIn_sound (l := l) hi
    cases he : agotoIn l k with
    | some a' =>
      simp only [he] at hq
      injection hq with hq; subst hq
      obtain ⟨it', h1, h2⟩ := x1 a' he
      exact to_sound M hr (self_step hm hf (stepR_goto h1)) h2 htm
    | none =>
      simp only [he] at hq
      have hn := x2 he
      exact leave _ (fun c' cs' _ l' v w' h1 h2 h3 => by
        have := stepR_round_goto (P := P) (b := f) (a := Frame.act f) (k := k') (cs := cs') (w := w) (c := c') (t := l) h1 h2 hn h3
        rw [← hf, atR_self hm] at this; exact this) (fun _ h => by cases h) (by simp) hq
  case ret =>
    exact leave _ (fun c' cs' _ l' v w' h1 h2 h3 => by
        have := stepR_round_ret (P := P) (b := f) (a := Frame.act f) (k := k') (cs := cs') (w := w) (c := c') h1 h2 h3
        rw [← hf, atR_self hm] at this; exact this) (fun hro _ => by
        have := stepR_ret (P := P) (b := f) (a := Frame.act f) (k := k') (cs := cs ++ base) (w := w) hro
        rw [← hf, atR_self hm] at this; exact this) (by simp) hq
  case region id ops draw =>
    subst hp
    cases draw with
    | false =>
      simp only [cond_false] at hq
      injection hq with hq; subst hq
      refine ⟨σ, f.atR (Frame.act f) (.inRegion ops (List.range ops.size) :: k'), cs, w, [], ks, .one (self_step hm hf stepR_region), Sg.le.refl σ, ⟨⟨M.top.fn, ⟨k', by simp; rfl, by simp, hi, htm, rfl⟩, M.top.defers, ?_, M.top.kind, M.top.round⟩, M.stack, M.pg, M.heap, trivial⟩, Below.refl _ _⟩
      show FrameMode.run = bif m.fr.ret then .returning else .run; rw [hr]; rfl
    | true =>
      simp only [cond_true] at hq
      cases hrc : rcheck P ops with
      | false => rw [hrc] at hq; cases hq
      | true =>
        rw [hrc, cond_true] at hq
        injection hq with hq; subst hq
        have hc := rcheck_sound hrc
        obtain ⟨s1, s2⟩ := lin_sched hc.back (w.tape w.drawn (.order f.fn id))
        have hst := self_step (cs := cs) (base := base) hm hf (stepR_region_draw (P := P) (b := f) (a := Frame.act f) (k := k') (cs := cs ++ base) (w := w) (id := id) (ops := ops))
        simp only [Region.schedule, hmix, Bool.true_or, if_true] at hst
        have hw' : ({ w with drawn := w.drawn + 1 } : World).heap = w.heap := rfl
        refine ⟨σ, f.atR (Frame.act f) (.inRegion ops (Region.linearise .any ops (w.tape w.drawn (.order f.fn id))) :: k'), cs, { w with drawn := w.drawn + 1 }, [], ks, .one hst, Sg.le.refl σ,
          ⟨⟨M.top.fn, ⟨_, k', rfl, hi, hc, ⟨s1, fun i o ho _ => ?_, fun j hj => ?_, fun i o ho _ hn => ?_, fun i o d v mk kk _ _ _ _ hed => ?_⟩, htm.wider fun _ h => h.elim⟩, M.top.defers, ?_, M.top.kind, M.top.round⟩, M.stack, M.pg, M.heap.world hw', trivial⟩, ⟨rfl, rfl, rfl, Nat.le_refl _, fun _ _ => rfl⟩⟩
        · rw [has_zero]
          have hlt : i < ops.size := by
            rcases Nat.lt_or_ge i ops.size with hh | hh
            · exact hh
            · rw [Array.getElem?_eq_none hh] at ho; cases ho
          exact ⟨fun h => (h (s2 i hlt)).elim, fun h => by cases h⟩
        · rw [has_zero] at hj; cases hj
        · have hlt : i < ops.size := by
            rcases Nat.lt_or_ge i ops.size with hh | hh
            · exact hh
            · rw [Array.getElem?_eq_none hh] at ho; cases ho
          exact (hn (s2 i hlt)).elim
        · rw [has_zero] at hed; cases hed
        · show FrameMode.run = bif m.fr.ret then .returning else .run; rw [hr]; rfl
  case rangeFunc g ps assign body => exact rangeFunc_sound M hr hf hi htm hp hq
  case refuse => cases hq
end
end Go.Proofs.YtfmopmjgohopeaaGreatDoor.Ev

/-
  The abstract machine: what it answers, the model's machine answers.
-/
set_option linter.unusedVariables false
set_option linter.unusedSectionVars false
set_option linter.unusedSimpArgs false
set_option linter.constructorNameAsVariable false
namespace Go.Proofs.YtfmopmjgohopeaaGreatDoor.Ev
open Go Go.RowKit

section
variable [Xt] {P : Program} {ng n0 : Nat} {σ : Sg} {h : AH} {w : World}
variable {m m' : AM} {f : Frame} {cs base : List Frame} {p : List (Nat × Nat)} {ks : List Nat}

theorem plain_at {a : List AItem} {it : List Item} (hp : plainTop a = true) : AtEff P a it := by
  unfold AtEff
  split
  · cases hp
  · cases hp
  · trivial
theorem plain_rdy {nt : Nat} {T : Tr AV} {a : List AItem} (hp : plainTop a = true) : Rdy P ng nt T h a := by
  unfold Rdy
  split
  · cases hp
  · trivial

/-! ### Results -/
def resM (tmps : Array Value) : ResultVar → Sem Value := fun
  | .tmp t => pure (tmps.getD t undef)
  | .cell a t => do loadVar t (← asAddr (tmps.getD a undef))
theorem results_list (R : HR ng n0 σ h w) {nt : Nat} {T : Tr AV} {c : Array Value} (t : TmpR σ (fun _ => False) T nt c) : ∀ (l : List ResultVar) (vs : List AV), aresults P h T l = some vs →
    ∃ us, (l.mapM (resM c)).run P w = .ok us w ∧ VRs σ vs us
  | [], vs, hq => by
    simp only [aresults] at hq
    injection hq with hq; subst hq
    exact ⟨[], rfl, trivial⟩
  | .tmp x :: l, vs, hq => by
    simp only [aresults] at hq
    cases hr : aresults P h T l with
    | none => simp [hr] at hq
    | some vs1 =>
      simp only [hr] at hq
      injection hq with hq; subst hq
      obtain ⟨us, h1, h2⟩ := results_list R t l vs1 hr
      have hv := ev_sound (ds := []) R t (x := .tmp x) fun _ _ h => h
      exact ⟨c.getD x undef :: us, by simp [List.mapM_cons, resM, h1], hv, h2⟩
  | .cell x ty :: l, vs, hq => by
    simp only [aresults] at hq
    cases hl : aload P h ty ((T.get x).getD .any) with
    | none => simp [hl] at hq
    | some v =>
      cases hr : aresults P h T l with
      | none => simp [hl, hr] at hq
      | some vs1 =>
        simp only [hl, hr] at hq
        injection hq with hq; subst hq
        obtain ⟨us, h1, h2⟩ := results_list R t l vs1 hr
        have hv := ev_sound (ds := []) R t (x := .tmp x) fun _ _ h => h
        have hv : VR σ ((T.get x).getD .any) (c.getD x undef) := hv
        generalize ha : (T.get x).getD .any = a at hl hv
        cases a <;> simp only [aload] at hl <;> try (cases hl; done)
        rename_i k off
        obtain ⟨e, he, hc⟩ := hv
        obtain ⟨u, h3, h4⟩ := load_sound (P := P) R (a := .ptr k off) (x := .pointer (some (e.at off))) ⟨e, he, rfl⟩ hl
        rw [loadVar_of] at h3
        exact ⟨u :: us, by simp [List.mapM_cons, resM, hc, asAddr, h3, h1], h4, h2⟩

theorem results_sound (R : HR ng n0 σ h w) {nt : Nat} {T : Tr AV} {c : Array Value} (t : TmpR σ (fun _ => False) T nt c) {fn : Func} {vs : List AV} (hq : aresults P h T fn.results.toList = some vs) :
    ∃ u, (results fn c).run P w = .ok u w ∧ VR σ (tupled vs) u := by
  obtain ⟨us, h1, h2⟩ := results_list R t _ vs hq
  have hm : (fn.results.mapM (resM c)).run P w = .ok us.toArray w := by
    rw [Array.mapM_eq_mapM_toList, Sem.run_map, h1]; rfl
  have hres : results fn c = (do let vs ← fn.results.mapM (resM c); pure (if h : vs.size = 1 then vs[0] else .tuple vs)) := by
    unfold results
    congr 1
  refine ⟨if h : us.toArray.size = 1 then us.toArray[0] else .tuple us.toArray, by rw [hres]; simp only [Sem.run_bind, hm, Result.andThen_ok, Sem.run_pure], ?_⟩
  have hl := VRs.length h2
  match vs, us, h2, hl with
  | [], [], _, _ => exact ⟨#[], rfl, trivial⟩
  | [v], [u], h2, _ => exact h2.1
  | v1 :: v2 :: vs, u1 :: u2 :: us, h2, _ =>
    have : ¬ (u1 :: u2 :: us).toArray.size = 1 := by simp
    rw [dif_neg this]
    exact ⟨_, rfl, h2⟩

/-! ### Returns -/
theorem return_sound (M : MRx P ng n0 σ m f cs w p ks) (hr : m.fr.ret = true) (hq : areturn P m = some m') : Post P ng n0 σ w f cs base m' := by
  have hmode : f.mode = .returning := by have := M.top.mode; rw [hr] at this; exact this
  have hnr : f.mode ≠ .run := by rw [hmode]; simp
  unfold areturn at hq
  cases hpl : plainTop m.fr.todo with
  | false => rw [hpl] at hq; cases hq
  | true =>
    rw [hpl, Bool.not_true, cond_false] at hq
    obtain ⟨hits, htm, hp⟩ := top_inv hpl M.top.top
    subst hp
    have hds := M.top.defers
    cases hd : m.fr.defers with
    | cons ad ds =>
      rw [hd] at hds
      cases hfd : f.defers with
      | nil => rw [hfd] at hds; exact hds.elim
      | cons d ds' =>
        rw [hfd] at hds
        obtain ⟨hd1, hd2⟩ := hds
        cases ad with
        | collected k =>
          simp only [hd] at hq
          obtain ⟨e, he, rfl⟩ := hd1
          cases hb : m.h.get k with
          | none => simp [hb] at hq
          | some bl =>
            cases bl <;> simp only [hb] at hq <;> try (cases hq; done)
            rename_i l
            injection hq with hq; subst hq
            obtain ⟨lv, hw, hlv⟩ := M.heap.blk k e _ he hb
            have hlt := M.heap.lt k e he
            have hex : Ex e.blk w (w.putObj e.blk (.deferred none)) := ⟨by simp [World.putObj], fun x hx => World.putObj_heap_other hx, rfl, rfl, rfl⟩
            have htk : (Instr.takeDeferred e.blk).run P w = .ok lv (w.putObj e.blk (.deferred none)) := by
              simp [Instr.takeDeferred, getObj, setObj, Sem.run, hw, World.putObj]
            have hst := step_collected (P := P) (fr := f) (cs := cs ++ base) (w := w) hnr hfd rfl htk
            exact ⟨σ, _, cs, _, [], ks, .one hst, Sg.le.refl σ, ⟨⟨M.top.fn, M.top.top, hlv.app hd2, M.top.mode, M.top.kind, M.top.round⟩, M.stack, M.pg, M.heap.dead he hb hex, plain_rdy hpl⟩, hex.below (M.heap.own k e _ he hb rfl)⟩
        | call g cap args =>
          simp only [hd] at hq
          obtain ⟨c', a', rfl, r1, r2⟩ := hd1
          cases hen : AFrame.enter P g (args ++ cap) true with
          | none => simp only [hen] at hq; cases hq
          | some fr =>
            simp only [hen] at hq
            injection hq with hq; subst hq
            obtain ⟨g1, g2, g3, g4, g5⟩ := enter_sound (ng := ng) hen (argv := a' ++ c') (by rw [Array.toList_append]; exact VRs.app r2 r1)
            have hst := step_defer (P := P) (fr := f) (cs := cs ++ base) (w := w) (f := g) (args := a' ++ c') hnr hfd rfl (g2 w)
            refine ⟨σ, _, { f with defers := ds' } :: cs, w, [], ks, .one hst, Sg.le.refl σ, ⟨g1, ⟨_, cs, [], ks, rfl, rfl, ⟨M.top.fn, M.top.top, hd2, M.top.mode, M.top.kind, M.top.round⟩, plain_at hpl, M.stack⟩, by simpa using M.pg, M.heap, g5 _⟩, Below.refl _ _⟩
    | nil =>
      rw [hd] at hds
      have hfd : f.defers = [] := by
        cases hfd : f.defers with
        | nil => rfl
        | cons d ds' => rw [hfd] at hds; exact hds.elim
      simp only [hd] at hq
      cases hfn : P.funcs[m.fr.fn]? with
      | none => simp [hfn] at hq
      | some fn =>
        simp only [hfn] at hq
        cases hres : aresults P m.h m.fr.tmps fn.results.toList with
        | none => simp [hres] at hq
        | some vs =>
          simp only [hres] at hq
          obtain ⟨u, hru, hvu⟩ := results_sound (P := P) M.heap htm hres
          have hffn : P.funcs[f.fn]? = some fn := by rw [M.top.fn]; exact hfn
          cases hdf : m.fr.dfd with
          | true =>
            rw [hdf, cond_true] at hq
            have hk : f.kind = .deferred := by have := M.top.kind; rw [hdf] at this; exact this
            cases hcs : m.cs with
            | nil => simp [hcs] at hq
            | cons c1 cs1 =>
              simp only [hcs] at hq
              cases hret : (c1.ret && plainTop c1.todo) with
              | false => rw [hret] at hq; cases hq
              | true =>
                rw [hret, cond_true] at hq
                rw [Bool.and_eq_true] at hret
                injection hq with hq; subst hq
                have hS := M.stack
                rw [hcs] at hS
                obtain ⟨f1, fs', p1, ks', e1, e2, h3, h4, h5⟩ := hS
                subst e1
                have hmode1 : f1.mode = .returning := by have := h3.mode; rw [hret.1] at this; exact this
                have hst := step_going_returned (P := P) (fr := f) (c := f1) (cs := fs' ++ base) (w := w) (v := u) hk ⟨hmode, hfd, fn, hffn, hru⟩
                have hset : ({ f1 with mode := settle f1.mode } : Frame) = f1 := by
                  cases f1; simp only at hmode1; subst hmode1; rfl
                rw [hset] at hst
                have hpg := M.pg
                simp only [List.map_nil, List.nil_append, e2] at hpg
                exact ⟨σ, f1, fs', w, p1, ks', .one hst, Sg.le.refl σ, ⟨h3, h5, hpg, M.heap, plain_rdy hret.2⟩, Below.refl _ _⟩
          | false =>
            rw [hdf, cond_false] at hq
            have hk : f.kind = .normal := by have := M.top.kind; rw [hdf] at this; exact this
            unfold giveBack at hq
            cases hcs : m.cs with
            | nil => simp [hcs] at hq
            | cons c1 cs1 =>
              simp only [hcs] at hq
              cases hfin : AFrame.finish P c1 (tupled vs) with
              | none => simp [hfin] at hq
              | some fr =>
                simp only [hfin] at hq
                injection hq with hq; subst hq
                have hS := M.stack
                rw [hcs] at hS
                obtain ⟨f1, fs', p1, ks', e1, e2, h3, h4, h5⟩ := hS
                subst e1
                obtain ⟨g1, g2, g3⟩ := finish_sound (ng := ng) h3 h4 hfin hvu
                have hst := step_leave_returned (P := P) (fr := f) (c := f1) (cs := fs' ++ base) (w := w) (v := u) ⟨hmode, hfd, hk, fn, hffn, hru⟩
                have hpg := M.pg
                simp only [List.map_nil, List.nil_append, e2] at hpg
                exact ⟨σ, f1.finish u, fs', w, p1, ks', .one hst, Sg.le.refl σ, ⟨g1, h5, hpg, M.heap, g3 _⟩, Below.refl _ _⟩

/-! ### The step -/
theorem loop_put (R : HR ng n0 σ h w) {l : Nat} {e : Loc} {r : ALoop} {lc : Loop} (he : σ l = some e) (hb : h.get l = some (.loop r)) (hw : w.heap[e.blk]? = some (.loop lc)) (hl : LR σ r lc) (s : LoopState) :
    (setObj e.blk (.loop { lc with state := s })).run P w = .ok () (w.putObj e.blk (.loop { lc with state := s })) ∧ HR ng n0 σ (h.put l (.loop { r with state := s })) (w.putObj e.blk (.loop { lc with state := s })) ∧ Below n0 w (w.putObj e.blk (.loop { lc with state := s })) := by
  obtain ⟨l1, l2, l3, l4, l5, l6, l7, l8⟩ := hl
  exact obj_sound (P := P) (o' := .loop { lc with state := s }) (b' := .loop { r with state := s }) R he hb rfl hw rfl (fun w' hw' => ⟨_, hw', rfl, l2, l3, l4, l5, l6, l7, l8⟩)

theorem step_sound (hP : 8 ≤ P.types.size) (hmix : P.follows .mixedOrders = true) (M : MRx P ng n0 σ m f cs w p ks) (hq : astep P ng m = some m') : Post P ng n0 σ w f cs base m' := by
  unfold astep at hq
  cases hr : m.fr.ret with
  | true => rw [hr, cond_true] at hq; exact return_sound M hr hq
  | false =>
    rw [hr, cond_false] at hq
    have hm := M.run hr
    have plain : ∀ x k, m.fr.todo = x :: k → plainTop (x :: k) = true → ∃ y k', f.todo = y :: k' ∧ ItR σ x y ∧ ItsR σ k k' ∧ TmpR σ (fun _ => False) m.fr.tmps m.fr.nt f.tmps ∧ p = [] := fun x k ht hp => by
      obtain ⟨hits, htm, hpp⟩ := top_inv (by rw [ht]; exact hp) M.top.top
      rw [ht] at hits
      obtain ⟨y, k', h1, h2, h3⟩ := its_cons hits
      exact ⟨y, k', h1, h2, h3, htm, hpp⟩
    cases ht : m.fr.todo with
    | nil =>
      simp only [ht] at hq
      obtain ⟨hits, htm, hpp⟩ := top_inv (by rw [ht]; rfl) M.top.top
      rw [ht] at hits
      have hf : f.todo = [] := by
        cases hf : f.todo with
        | nil => rfl
        | cons _ _ => rw [hf] at hits; exact hits.elim
      refine ret_sound M hr (by rw [ht]; rfl) (fun hro => ?_) (fun l v w' h1 h2 h3 c' cs' _ => ?_) hq
      · have := stepR_end (P := P) (b := f) (a := Frame.act f) (cs := cs ++ base) (w := w) hro
        rw [← hf, atR_self hm] at this; exact this
      · have := stepR_round_end (P := P) (b := f) (a := Frame.act f) (cs := cs') (w := w) (c := c') h1 h2 h3
        rw [← hf, atR_self hm] at this; exact this
    | cons x k =>
      cases x with
      | code c => simp only [ht] at hq; exact code_sound hP hmix M hr ht hq
      | inBlock id =>
        simp only [ht] at hq
        obtain ⟨y, k', h1, h2, h3, htm, hpp⟩ := plain _ _ ht rfl
        have h2 : y = .inBlock id := h2
        subst h2
        injection hq with hq; subst hq
        exact to_sound M hr (self_step hm h1 stepR_inBlock) h3 htm
      | inScope id =>
        simp only [ht] at hq
        obtain ⟨y, k', h1, h2, h3, htm, hpp⟩ := plain _ _ ht rfl
        have h2 : y = .inScope id := h2
        subst h2
        injection hq with hq; subst hq
        exact to_sound M hr (self_step hm h1 stepR_inScope) h3 htm
      | inLoop body =>
        simp only [ht] at hq
        obtain ⟨y, k', h1, h2, h3, htm, hpp⟩ := plain _ _ ht rfl
        have h2 : y = .inLoop body := h2
        subst h2
        injection hq with hq; subst hq
        exact to_sound M hr (self_step hm h1 stepR_inLoop) ⟨rfl, rfl, h3⟩ htm
      | reg ops i rest =>
        cases rest with
        | nil =>
          simp only [ht] at hq
          injection hq with hq; subst hq
          have htop := M.top.top
          rw [ht] at htop
          obtain ⟨k', e1, e2, e3, e4, e5⟩ := htop
          have hge : ops.size ≤ i := by
            have : ops.toList.length ≤ i := List.drop_eq_nil_iff.1 e2.symm
            simpa using this
          have hnil : (List.range ops.size).drop i = [] := List.drop_eq_nil_iff.2 (by simpa using hge)
          rw [hnil] at e1
          exact to_sound M hr (self_step hm e1 stepR_region_end) e3 e4
        | cons o rest =>
          simp only [ht] at hq
          exact reg_sound hP M hr ht hq
      | drw ops dm um ed rdy =>
        cases rdy with
        | false => simp only [ht] at hq; exact pass_sound M ht hq
        | true => simp only [ht] at hq; exact drw_sound hP M hr ht hq
      | rangeF l => simp only [ht] at hq; cases hq
      | endF l =>
        simp only [ht] at hq
        obtain ⟨y, k', h1, ⟨e, he, h2⟩, h3, htm, hpp⟩ := plain _ _ ht rfl
        subst h2; subst hpp
        cases hb : m.h.get l with
        | none => simp [hb] at hq
        | some bl =>
          cases bl <;> simp only [hb] at hq <;> try (cases hq; done)
          rename_i r
          obtain ⟨lc, hw, hl⟩ := M.heap.blk l e _ he hb
          have hls : lc.state = r.state := hl.1
          obtain ⟨o1, o2, o3⟩ := loop_put (P := P) M.heap he hb hw hl .exhausted
          have hnb : r.state ≠ .busy ∧ m' = { m with fr := { m.fr with todo := (r.pending.map AItem.code).toList ++ k, ret := false }, h := m.h.put l (.loop { r with state := .exhausted }) } := by
            cases hs : r.state <;> simp only [hs] at hq <;> first | (cases hq; done) | (injection hq with hq; exact ⟨by simp, by rw [← hq, hr]⟩)
          obtain ⟨hnb, rfl⟩ := hnb
          have hend : (Instr.endLoop e.blk).run P w = .ok lc.pending (w.putObj e.blk (.loop { lc with state := .exhausted })) := by
            have : (lc.state == .busy) = false := by rw [hls]; cases hs : r.state <;> first | rfl | exact absurd hs hnb
            simp only [Instr.endLoop, Sem.run_bind, getLoop_run hw, Result.andThen_ok, this, Bool.false_eq_true, if_false, Sem.run_pure, o1]
          have hst := self_step (cs := cs) (base := base) hm h1 (stepR_endRangeFunc (P := P) (b := f) (a := Frame.act f) (k := k') (cs := cs ++ base) (w := w) hend)
          have hits : ItsR σ ((r.pending.map AItem.code).toList ++ k) ((lc.pending.map Item.code).toList ++ k') := by
            rw [hl.2.1]
            cases r.pending with
            | none => exact h3
            | some c => exact ⟨rfl, h3⟩
          exact ⟨σ, _, cs, _, [], ks, .one hst, Sg.le.refl σ, ⟨⟨M.top.fn, top_plain hits htm, M.top.defers, rfl, M.top.kind, M.top.round⟩, M.stack, M.pg.keep (fun _ _ => rfl) (Nat.le_refl _), o2, rdy_plain hits⟩, o3⟩
      | beginRound =>
        simp only [ht] at hq
        obtain ⟨y, k', h1, h2, h3, htm, hpp⟩ := plain _ _ ht rfl
        have h2 : y = .beginRound := h2
        subst h2; subst hpp
        cases hround : m.fr.round with
        | none => simp [hround] at hq
        | some l =>
          obtain ⟨e, he, hro⟩ : ∃ e, σ l = some e ∧ f.roundOf = some e.blk := by have := M.top.round; rw [hround] at this; exact this
          simp only [hround] at hq
          cases hb : m.h.get l with
          | none => simp [hb] at hq
          | some bl =>
            cases bl <;> simp only [hb] at hq <;> try (cases hq; done)
            rename_i r
            obtain ⟨lc, hw, hl⟩ := M.heap.blk l e _ he hb
            have hls : lc.state = r.state := hl.1
            obtain ⟨o1, o2, o3⟩ := loop_put (P := P) M.heap he hb hw hl .busy
            have hnb : r.state = .ready ∧ m' = { m with fr := { m.fr with todo := k, ret := false, round := some l }, h := m.h.put l (.loop { r with state := .busy }) } := by
              cases hs : r.state <;> simp only [hs] at hq <;> first | (cases hq; done) | (injection hq with hq; exact ⟨rfl, by rw [← hq, hr]⟩)
            obtain ⟨hnb, rfl⟩ := hnb
            have hbr : (Instr.beginRound e.blk).run P w = .ok () (w.putObj e.blk (.loop { lc with state := .busy })) := by
              have : lc.state = .ready := hls.trans hnb
              simp only [Instr.beginRound, Sem.run_bind, getLoop_run hw, Result.andThen_ok, o1, this, Sem.run_pure]
            have hst := self_step (cs := cs) (base := base) hm h1 (stepR_beginRound (P := P) (b := f) (a := Frame.act f) (k := k') (cs := cs ++ base) (w := w) hro hbr)
            exact ⟨σ, _, cs, _, [], ks, .one hst, Sg.le.refl σ, ⟨⟨M.top.fn, top_plain h3 htm, M.top.defers, rfl, M.top.kind, ⟨e, he, hro⟩⟩, M.stack, M.pg.keep (fun _ _ => rfl) (Nat.le_refl _), o2, rdy_plain h3⟩, o3⟩

theorem run_sound (hP : 8 ≤ P.types.size) (hmix : P.follows .mixedOrders = true) : ∀ (n : Nat) (m m' : AM) (σ : Sg) (f : Frame) (cs : List Frame) (w : World) (p : List (Nat × Nat)) (ks : List Nat), MRx P ng n0 σ m f cs w p ks → arun P ng n m = some m' → Post P ng n0 σ w f cs base m'
  | 0, m, m', σ, f, cs, w, p, ks, M, hq => by
    simp only [arun] at hq
    injection hq with hq; subst hq
    exact ⟨σ, f, cs, w, p, ks, .refl _ _, Sg.le.refl σ, M, Below.refl _ _⟩
  | n + 1, m, m', σ, f, cs, w, p, ks, M, hq => by
    simp only [arun] at hq
    cases hs : astep P ng m with
    | none => simp [hs] at hq
    | some m1 =>
      simp only [hs] at hq
      obtain ⟨σ1, f1, cs1, w1, p1, ks1, s1, l1, M1, b1⟩ := step_sound (base := base) hP hmix M hs
      obtain ⟨σ2, f2, cs2, w2, p2, ks2, s2, l2, M2, b2⟩ := run_sound hP hmix n m1 m' σ1 f1 cs1 w1 p1 ks1 M1 hq
      exact ⟨σ2, f2, cs2, w2, p2, ks2, s1.trans s2, l1.trans l2, M2, b1.trans b2⟩

omit [Xt] in
/-- the machine stands at its end: what it answers -/
def answer (P : Program) (g : FuncId) (m : AM) : Option AV :=
  match m.cs, m.fr.defers with
  | [], [] =>
    bif m.fr.ret && !m.fr.dfd && plainTop m.fr.todo && Nat.beq m.fr.fn g then
      match P.funcs[g]? with
      | some fn => (aresults P m.h m.fr.tmps fn.results.toList).map tupled
      | none => none
    else none
  | _, _ => none

omit [Xt] in
/-- **A CLOSED RUN**: what the abstract machine answers, the call returns, in every world where the given blocks lie. -/
theorem calls_run (hP : 8 ≤ P.types.size) (hmix : P.follows .mixedOrders = true) {g : FuncId} {args : List AV} {argv : Array Value} {fr : AFrame} {h0 : AH} {σ : Sg} {w : World} {n : Nat} {m' : AM} {v : AV}
    (hen : AFrame.enter P g args false = some fr) (ha : VRs σ args argv.toList) (R : HR ng w.heap.size σ h0 w) (hrun : arun P ng n { fr, cs := [], h := h0 } = some m') (hans : answer P g m' = some v) :
    Calls P g argv w fun e w' => ∃ u σ', e = .returned u ∧ VR σ' v u ∧ Below w.heap.size w w' := by
  intro base
  obtain ⟨g1, g2, g3, g4, g5⟩ := enter_sound (ng := ng) hen ha
  have M : MRx P ng w.heap.size σ { fr, cs := [], h := h0 } (Frame.enter P g argv .normal) [] w [] [] := ⟨g1, ⟨rfl, rfl⟩, ⟨List.nodup_nil, fun k hk => by simp at hk⟩, R, g5 _⟩
  obtain ⟨σ', f', cs', w', p', ks', s1, l1, M1, b1⟩ := run_sound (base := base) hP hmix n _ m' σ _ _ w _ _ M hrun
  unfold answer at hans
  split at hans
  · rename_i hcs hds
    cases hb : (m'.fr.ret && !m'.fr.dfd && plainTop m'.fr.todo && Nat.beq m'.fr.fn g) with
    | false => rw [hb] at hans; cases hans
    | true =>
      rw [hb, cond_true] at hans
      simp only [Bool.and_eq_true, nbeq, decide_eq_true_eq, Bool.not_eq_true'] at hb
      obtain ⟨⟨⟨b2, b3⟩, b4⟩, b5⟩ := hb
      cases hfn : P.funcs[g]? with
      | none => simp [hfn] at hans
      | some fn =>
        simp only [hfn, Option.map_eq_some_iff] at hans
        obtain ⟨vs, hres, rfl⟩ := hans
        obtain ⟨_, htm, _⟩ := top_inv b4 M1.top.top
        obtain ⟨u, hru, hvu⟩ := results_sound (P := P) M1.heap htm hres
        have hS := M1.stack
        rw [hcs] at hS
        obtain ⟨hcs', _⟩ := hS
        subst hcs'
        have hmode : f'.mode = .returning := by have := M1.top.mode; rw [b2] at this; exact this
        have hk : f'.kind = .normal := by have := M1.top.kind; rw [b3] at this; exact this
        have hfd : f'.defers = [] := by
          have := M1.top.defers
          rw [hds] at this
          cases hx : f'.defers with
          | nil => rfl
          | cons _ _ => rw [hx] at this; exact this.elim
        have hffn : f'.fn = g := M1.top.fn.trans b5
        exact ⟨.returned u, w', f', ⟨u, σ', rfl, hvu, b1⟩, s1, hffn, hmode, hfd, hk, fn, by rw [hffn]; exact hfn, hru⟩
  · cases hans
end
end Go.Proofs.YtfmopmjgohopeaaGreatDoor.Ev

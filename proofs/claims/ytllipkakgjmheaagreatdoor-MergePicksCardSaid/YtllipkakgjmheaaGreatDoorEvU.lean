/-
  The abstract machine: its step, the code and the regions.
-/
import Derived.Test.YtllipkakgjmheaaGreatDoorEvT
set_option linter.unusedVariables false
set_option linter.unusedSimpArgs false
set_option linter.constructorNameAsVariable false
namespace Go.Proofs.YtllipkakgjmheaaGreatDoor.Ev
open Go Go.RowKit

section
variable {P : Program} {ng n0 : Nat} {σ : Sg} {h : AH} {w : World}
variable {m m' : AM} {f : Frame} {cs base : List Frame} {p : List (Nat × Nat)} {ks : List Nat}

theorem top_plain {nt : Nat} {T : Tr AV} {c : Array Value} {a : List AItem} {it : List Item} (hi : ItsR σ a it) (t : TmpR σ (fun _ => False) T nt c) : TopR P σ nt T c [] a it := by
  unfold TopR
  split
  · cases it with
    | nil => exact hi.elim
    | cons _ _ => exact hi.1.elim
  · cases it with
    | nil => exact hi.elim
    | cons _ _ => exact hi.1.elim
  · exact ⟨hi, t, rfl⟩
theorem rdy_plain {nt : Nat} {T : Tr AV} {a : List AItem} {it : List Item} (hi : ItsR σ a it) : Rdy P ng nt T h a := by
  unfold Rdy
  split
  · cases it with
    | nil => exact hi.elim
    | cons _ _ => exact hi.1.elim
  · trivial
theorem top_inv {nt : Nat} {T : Tr AV} {c : Array Value} {a : List AItem} {it : List Item} (hp : plainTop a = true) (r : TopR P σ nt T c p a it) : ItsR σ a it ∧ TmpR σ (fun _ => False) T nt c ∧ p = [] := by
  unfold TopR at r
  split at r
  · cases hp
  · cases hp
  · exact r

theorem MRx.run (M : MRx P ng n0 σ m f cs w p ks) (hr : m.fr.ret = false) : f.mode = .run := by have := M.top.mode; rw [hr] at this; exact this

theorem to_sound {a : List AItem} {it : List Item} (M : MRx P ng n0 σ m f cs w p ks) (hr : m.fr.ret = false) (hs : step P (lone f (cs ++ base) w) = .next (lone (f.atR (Frame.act f) it) (cs ++ base) w))
    (hi : ItsR σ a it) (t : TmpR σ (fun _ => False) m.fr.tmps m.fr.nt f.tmps) : Post P ng n0 σ w f cs base (m.to a) :=
  ⟨σ, _, cs, w, [], ks, .one hs, Sg.le.refl σ, ⟨⟨M.top.fn, top_plain hi t, M.top.defers, by show FrameMode.run = bif m.fr.ret then .returning else .run; rw [hr]; rfl, M.top.kind, M.top.round⟩, M.stack,
    ⟨(List.nodup_append.1 M.pg.1).2.1, fun k hk => M.pg.2 k (List.mem_append.2 (.inr hk))⟩, M.heap, rdy_plain hi⟩, Below.refl _ _⟩

theorem self_step {it : List Item} {X : Stepped} (hm : f.mode = .run) (ht : f.todo = it) (hs : step P (lone (f.atR (Frame.act f) it) (cs ++ base) w) = X) : step P (lone f (cs ++ base) w) = X := by
  subst ht; rw [atR_self hm] at hs; exact hs

theorem exitTo_sound {id : Nat} : ∀ {a : List AItem} {it : List Item}, ItsR σ a it → (∀ a', aexitTo id a = some a' → ∃ it', exitTo id it = some it' ∧ ItsR σ a' it') ∧ (aexitTo id a = none → exitTo id it = none)
  | [], [], _ => ⟨fun a' h => by simp [aexitTo] at h, fun _ => rfl⟩
  | [], _ :: _, r => r.elim
  | _ :: _, [], r => r.elim
  | x :: a, y :: it, r => by
    obtain ⟨h1, h2⟩ := r
    have ih := exitTo_sound (id := id) h2
    cases x <;> simp only [ItR] at h1
    case inBlock id' =>
      subst h1
      simp only [aexitTo, exitTo, nbeq, Bool.cond_decide, beq_iff_eq]
      by_cases h : id' = id
      · simp only [h, if_true]
        exact ⟨fun a' ha => by injection ha with ha; subst ha; exact ⟨it, rfl, h2⟩, fun ha => by cases ha⟩
      · simp only [h, if_false]; exact ih
    case rangeF => obtain ⟨e, _, rfl⟩ := h1; exact ih
    case endF => obtain ⟨e, _, rfl⟩ := h1; exact ih
    all_goals (subst h1; exact ih)
theorem gotoIn_sound {l : Nat} : ∀ {a : List AItem} {it : List Item}, ItsR σ a it → (∀ a', agotoIn l a = some a' → ∃ it', gotoIn l it = some it' ∧ ItsR σ a' it') ∧ (agotoIn l a = none → gotoIn l it = none)
  | [], [], _ => ⟨fun a' h => by simp [agotoIn] at h, fun _ => rfl⟩
  | [], _ :: _, r => r.elim
  | _ :: _, [], r => r.elim
  | x :: a, y :: it, r => by
    obtain ⟨h1, h2⟩ := r
    have ih := gotoIn_sound (l := l) h2
    cases x <;> simp only [ItR] at h1
    case inScope body =>
      subst h1
      simp only [agotoIn, gotoIn]
      cases hf : findLabel body l with
      | none => simp only; exact ih
      | some rest => simp only; exact ⟨fun a' ha => by injection ha with ha; subst ha; exact ⟨_, rfl, by simp [ItsR, ItR]; exact h2⟩, fun ha => by cases ha⟩
    case rangeF => obtain ⟨e, _, rfl⟩ := h1; exact ih
    case endF => obtain ⟨e, _, rfl⟩ := h1; exact ih
    all_goals (subst h1; exact ih)

theorem its_cons {x : AItem} {a : List AItem} {it : List Item} (r : ItsR σ (x :: a) it) : ∃ y it', it = y :: it' ∧ ItR σ x y ∧ ItsR σ a it' := by
  cases it with
  | nil => exact r.elim
  | cons y it' => exact ⟨y, it', rfl, r.1, r.2⟩

theorem PG.right {l l' : List Nat} (g : PG σ h (l ++ l')) : PG σ h l' :=
  ⟨(List.nodup_append.1 g.1).2.1, fun k hk => g.2 k (List.mem_append.2 (.inr hk))⟩

/-! ### A frame is left -/
def jB (jump : Option Code) : Bool := match jump with | none => true | some _ => false
def jS (jump : Option Code) : LoopState := match jump with | none => .ready | some _ => .done
theorem ret_sound {jump : Option Code} (M : MRx P ng n0 σ m f cs w p ks) (hr : m.fr.ret = false) (hpl : plainTop m.fr.todo = true)
    (hst : f.roundOf = none → step P (lone f (cs ++ base) w) = .next (lone { f with mode := .returning } (cs ++ base) w))
    (hrd : ∀ l v w', f.roundOf = some l → f.kind = .normal → (Instr.endRound l jump).run P w = .ok v w' → ∀ c cs', cs ++ base = c :: cs' → step P (lone f (c :: cs') w) = .next (lone (c.finish v) cs' w'))
    (hq : aleave P m jump = some m') : Post P ng n0 σ w f cs base m' := by
  obtain ⟨hits, ht, hp⟩ := top_inv hpl M.top.top
  subst hp
  unfold aleave at hq
  cases hround : m.fr.round with
  | none =>
    have hro : f.roundOf = none := by have := M.top.round; rw [hround] at this; exact this
    simp only [hround] at hq
    have key : m' = { m with fr := { m.fr with ret := true, round := none } } := by
      split at hq
      · injection hq with hq; exact hq.symm
      · injection hq with hq; exact hq.symm
      · cases hq
    subst key
    refine ⟨σ, _, cs, w, [], ks, .one (hst hro), Sg.le.refl σ, ⟨⟨M.top.fn, M.top.top, M.top.defers, rfl, M.top.kind, hro⟩, M.stack, M.pg, M.heap, M.rdy⟩, Below.refl _ _⟩
  | some l =>
    obtain ⟨e, he, hro⟩ : ∃ e, σ l = some e ∧ f.roundOf = some e.blk := by have := M.top.round; rw [hround] at this; exact this
    simp only [hround] at hq
    cases hb : m.h.get l with
    | none => simp [hb] at hq
    | some bl =>
      cases bl <;> simp only [hb] at hq <;> try (cases hq; done)
      rename_i r
      cases hdf : m.fr.dfd with
      | true => rw [hdf] at hq; cases hq
      | false =>
        rw [hdf, cond_false] at hq
        have hk : f.kind = .normal := by have := M.top.kind; rw [hdf] at this; exact this
        obtain ⟨lc, hw, l1, l2, l3, l4, l5, l6, l7, l8⟩ := M.heap.blk l e _ he hb
        unfold giveBack at hq
        cases hcs : m.cs with
        | nil => simp [hcs] at hq
        | cons c1 cs1 =>
          simp only [hcs] at hq
          have hS := M.stack
          rw [hcs] at hS
          obtain ⟨f1, fs', p1, ks', e1, e2, h3, h4, h5⟩ := hS
          split at hq
          · rename_i fr hfin
            injection hq with hq; subst hq
            let o' : Obj := .loop { lc with state := if jump.isNone then .ready else .done, pending := jump }
            have ob := obj_sound (P := P) (o' := o') (b' := .loop { r with state := jS jump, pending := jump }) M.heap he hb rfl hw rfl (fun w' hw' => ⟨_, hw', by cases jump <;> rfl, rfl, l3, l4, l5, l6, l7, l8⟩)
            obtain ⟨o1, o2, o3⟩ := ob
            have hgl : (getObj e.blk).run P w = .ok (.loop lc) w := by simp [getObj, Sem.run, hw]
            have hend : (Instr.endRound e.blk jump).run P w = .ok (.bool jump.isNone) (w.putObj e.blk o') := by
              simp only [Instr.endRound, Instr.getLoop, Sem.run_bind, hgl, Result.andThen_ok, Sem.run_pure, o', o1]
            have hv : VR σ (.bool (jB jump)) (.bool jump.isNone) := by cases jump <;> rfl
            obtain ⟨g1, g2, g3⟩ := finish_sound (ng := ng) h3 h4 hfin hv
            subst e1
            refine ⟨σ, f1.finish (.bool jump.isNone), fs', _, p1, ks', .one (hrd _ _ _ hro hk hend f1 (fs' ++ base) rfl), Sg.le.refl σ, ⟨g1, h5, ?_, o2, g3 _⟩, o3⟩
            have := M.pg
            simp only [List.map_nil, List.nil_append, e2] at this
            exact this.keep (fun _ _ => rfl) (Nat.le_refl _)
          · cases hq

/-! ### Regions -/
theorem alloc_eff (R : HR ng n0 σ h w) {T : Operand → AV} {ρ : Operand → Value} {o : Oper} {b : ABlock} {mk : Mk} (hρ : ∀ x ∈ o.op.operands, VR σ (T x) (ρ x)) (hq : aalloc P T o.op = some (b, mk)) :
    Eff P ng n0 σ h w (mk.av h.next) (h.new b) (execOp ρ o) := by
  obtain ⟨u, w1, ob, e, hr, hp, heb, hro, hall⟩ := (alloc_sound (P := P) (σ := σ) (w := w) hρ hq).out
  obtain ⟨hBR, hVR⟩ := hall _ (Sg.le_put (e := e) (R.fresh _ (Nat.le_refl _)))
  exact new_eff R hr hp heb hBR (hVR _ (Sg.put_same _ _ _))

theorem reg_sound (hP : 8 ≤ P.types.size) (M : MRx P ng n0 σ m f cs w p ks) (hr : m.fr.ret = false) {ops : Array Oper} {i : Nat} {o : Oper} {rest : List Oper} {k : List AItem} (ht : m.fr.todo = .reg ops i (o :: rest) :: k)
    (hq : (match awanted ops m.fr.tmps o with
      | some true => aexec P ng m o
      | some false => AM.done P m undefA m.h
      | none => none) = some m') : Post P ng n0 σ w f cs base m' := by
  have hm := M.run hr
  have htop := M.top.top
  rw [ht] at htop
  obtain ⟨k', e1, e2, e3, e4, e5⟩ := htop
  have hat : AtEff P m.fr.todo f.todo := by rw [ht]; unfold AtEff; trivial
  have hi : ops.toList[i]? = some o := by
    have : (ops.toList.drop i)[0]? = some o := by rw [← e2]; rfl
    simpa using this
  have hlt : i < ops.size := by
    have := (List.getElem?_eq_some_iff.1 hi).1; simpa using this
  have hr' : (List.range ops.size).drop i = i :: (List.range ops.size).drop (i + 1) := by
    rw [List.drop_eq_getElem_cons (by simpa using hlt)]; simp
  have ho : ops[i]? = some o := by simpa using hi
  rw [hr'] at e1
  cases ha : awanted ops m.fr.tmps o with
  | none => simp [ha] at hq
  | some b =>
    have hw := wanted_sound e4 (fun _ _ _ _ _ _ _ h => h) ha
    cases b with
    | false =>
      simp only [ha] at hq
      refine done_sound (u := undef) M hat hq ?_ (Sg.le.refl σ) M.heap (fun _ _ => rfl) (Nat.le_refl _) ⟨#[], rfl, trivial⟩ (Below.refl _ _)
      refine self_step hm e1 ?_
      rw [stepR_op_skip (by simp [ho]; exact hw), ← Frame.finish_atR, ← e1, atR_self hm]
    | true =>
      simp only [ha] at hq
      have A : AtOp f ops i _ k' o := ⟨e1, hm, ho, hw⟩
      have hops : ∀ x ∈ o.op.operands, VR σ (ev ng m.fr.tmps x) ((Frame.act f).eval x) := fun x _ => ev_sound M.heap e4 fun _ _ h => h
      unfold aexec at hq
      simp only at hq
      cases hqu : aquiet P m.h (ev ng m.fr.tmps) o.op with
      | some v =>
        simp only [hqu] at hq
        obtain ⟨u, h1, h2⟩ := quiet_sound (P := P) M.heap hops hqu
        have hnd : ∀ c, o.op ≠ .defer c := fun c hc => by rw [hc] at hqu; simp [aquiet] at hqu
        exact done_sound M hat hq (step_val A (by rw [Oper.semAt_eq _ _ _ hnd]; exact h1)) (Sg.le.refl σ) M.heap (fun _ _ => rfl) (Nat.le_refl _) h2 (Below.refl _ _)
      | none =>
        simp only [hqu] at hq
        cases hal : aalloc P (ev ng m.fr.tmps) o.op with
        | some bm =>
          obtain ⟨b, mk⟩ := bm
          simp only [hal] at hq
          have hnd : ∀ c, o.op ≠ .defer c := fun c hc => by rw [hc] at hal; simp [aalloc] at hal
          refine eff_done M hat hq (alloc_eff M.heap hops hal) fun r w' hrun hk => ?_
          rw [← Oper.semAt_eq f.roundOf _ _ hnd] at hrun
          rcases hk with ⟨u, rfl⟩ | rfl
          · exact step_val A hrun
          · exact step_skp A hrun
        | none =>
          simp only [hal] at hq
          exact aeff_sound hP M hat A hops hq

theorem Post.after {σ1 : Sg} {f1 : Frame} {w1 : World} (hs : Steps P (lone f (cs ++ base) w) (lone f1 (cs ++ base) w1)) (hle : σ.le σ1) (hb : Below n0 w w1) (h : Post P ng n0 σ1 w1 f1 cs base m') : Post P ng n0 σ w f cs base m' := by
  obtain ⟨σ', f', cs', w', p', ks', h1, h2, h3, h4⟩ := h
  exact ⟨σ', f', cs', w', p', ks', hs.trans h1, hle.trans h2, h3, hb.trans h4⟩

theorem drw_sound (hP : 8 ≤ P.types.size) (M : MRx P ng n0 σ m f cs w p ks) (hr : m.fr.ret = false) {ops : Array Oper} {dm um ed : Nat} {k : List AItem} (ht : m.fr.todo = .drw ops dm um ed true :: k)
    (hq : (match nextEff ops dm (effs P ops.toList 0) with
    | some i => match ops[i]? with
      | some o => match awanted ops m.fr.tmps o with
        | some true => aeff P ng m o
        | some false => AM.done P m undefA m.h
        | none => none
      | none => none
    | none => bif Nat.beq (Nat.lor (effMask (effs P ops.toList 0)) dm) dm then some (m.to k) else none) = some m') : Post P ng n0 σ w f cs base m' := by
  have hm := M.run hr
  have htop := M.top.top
  rw [ht] at htop
  obtain ⟨l, k', e1, e3, hc, d, t⟩ := htop
  have hrdy := M.rdy
  rw [ht] at hrdy
  obtain ⟨l', c', w', σ', pend', s1, s2, s3, s4, s5, s6, s7, s8⟩ := quiet_run (P := P) (ng := ng) (b := f) (k := k') (cs := cs ++ base) (ks := ks) hc hrdy.1 hrdy.2 l f.tmps f.defers w σ p M.heap d t M.pg
  have hself : f.atR ⟨f.tmps, f.defers⟩ (.inRegion ops l :: k') = f := by rw [← e1]; exact atR_self hm
  rw [hself] at s1
  let f1 : Frame := f.atR ⟨c', f.defers⟩ (.inRegion ops l' :: k')
  have hmode1 : FrameMode.run = bif m.fr.ret then .returning else .run := by rw [hr]; rfl
  have M1 : MRx P ng n0 σ' m f1 cs w' pend' ks := by
    refine ⟨⟨M.top.fn, ?_, M.top.defers.mono s3, hmode1, M.top.kind, M.top.round.mono s3⟩, M.stack.mono s3, s7, s4, M.rdy⟩
    rw [ht]
    exact ⟨l', k', rfl, e3.mono s3, hc, s5, s6⟩
  refine Post.after s1 s3 s8 ?_
  cases hn : nextEff ops dm (effs P ops.toList 0) with
  | some i =>
    simp only [hn] at hq
    have hne : ∃ r o, l' = i :: r ∧ ops[i]? = some o ∧ isEff P o.op = true := by
      rcases s2 with h | ⟨x, r, o, h1, h2, h3⟩
      · subst h
        obtain ⟨g1, g2, _⟩ := nextEff_spec hn
        obtain ⟨kk, o, h4, h5, h6⟩ := mem_effs.1 g1
        rw [Nat.zero_add] at h5; subst h5
        rw [(s5.eff i o (by simpa using h4) h6).1 (by simp)] at g2; cases g2
      · subst h1
        have := head_is hc s5 h2 h3 hn
        subst this
        exact ⟨r, o, rfl, h2, h3⟩
    obtain ⟨r, o, hl, ho, he⟩ := hne
    subst hl
    simp only [ho] at hq
    have nx : ∀ q oq x, ops[q]? = some oq → oq.dst = some x → isEff P oq.op = false → has (maskOf ops i) q = true → ¬ q ∈ i :: r := fun q _ _ _ _ _ hm => mask_head hc.back s5.sched q hm
    have hguard : ∀ g q og x, o.guard = some (g, q) → ops[g]? = some og → og.dst = some x → ¬ RX P ops (i :: r) x := fun g q og x h3 h4 h5 ⟨y, hy, oy, h6, h7, h8⟩ =>
      nx y oy x h6 h8 h7 (hc.guard i o g q og x y oy ho h3 h4 h5 h6 h8 h7) hy
    have hops : ∀ x ∈ o.op.operands, VR σ' (ev ng m.fr.tmps x) ((Frame.act f1).eval x) := fun x hx => ev_sound s4 s6 fun y hy ⟨q, hq, oq, h6, h7, h8⟩ => by
      subst hy
      have : y ∈ operTmps o := by
        unfold operTmps
        rw [List.mem_filterMap]
        exact ⟨.tmp y, by simpa using hx, rfl⟩
      exact nx q oq y h6 h8 h7 (hc.looks i o y q oq ho this h6 h8 h7) hq
    have hat : AtEff P m.fr.todo f1.todo := by rw [ht]; exact ⟨o, ho, he⟩
    cases ha : awanted ops m.fr.tmps o with
    | none => simp [ha] at hq
    | some b =>
      have hw := wanted_sound s6 hguard ha
      cases b with
      | true =>
        simp only [ha] at hq
        exact aeff_sound hP M1 hat ⟨rfl, rfl, ho, hw⟩ hops hq
      | false =>
        simp only [ha] at hq
        refine done_sound (u := undef) M1 hat hq ?_ (Sg.le.refl σ') s4 (fun _ _ => rfl) (Nat.le_refl _) ⟨#[], rfl, trivial⟩ (Below.refl _ _)
        have := stepR_op_skip (P := P) (b := f) (a := ⟨c', f.defers⟩) (k := k') (cs := cs ++ base) (w := w') (ops := ops) (i := i) (rest := r) (by simp [ho]; exact hw)
        rw [← Frame.finish_atR] at this
        exact this
  | none =>
    simp only [hn, nbeq, Bool.cond_decide] at hq
    split at hq
    · rename_i hlor
      injection hq with hq; subst hq
      have hl : l' = [] := by
        rcases s2 with h | ⟨x, r, o, h1, h2, h3⟩
        · exact h
        · subst h1
          have hx : has dm x = true := sub_lor hlor x (em_has.2 ⟨o, h2, h3⟩)
          exact ((s5.eff x o h2 h3).2 hx (List.mem_cons_self ..)).elim
      subst hl
      have htmp : TmpR σ' (fun _ => False) m.fr.tmps m.fr.nt f1.tmps := s6.wider fun t ⟨x, hx, _⟩ => by simp at hx
      refine to_sound M1 hr ?_ (e3.mono s3) htmp
      exact stepR_region_end (P := P) (b := f) (a := ⟨c', f.defers⟩)
    · cases hq

theorem pass_sound (M : MRx P ng n0 σ m f cs w p ks) {ops : Array Oper} {dm um ed : Nat} {k : List AItem} (ht : m.fr.todo = .drw ops dm um ed false :: k)
    (hq : (match passOne P ng ops (effMask (effs P ops.toList 0)) dm um m.fr.nt ops.toList 0 ed m.fr.tmps m.h with
    | some (ed', T, h) =>
      bif passTwo P ng ops (effMask (effs P ops.toList 0)) dm um m.fr.nt T h ops.toList 0 then
        some { m with fr := { m.fr with tmps := T, todo := .drw ops dm um ed' true :: k }, h }
      else none
    | none => none) = some m') : Post P ng n0 σ w f cs base m' := by
  have htop := M.top.top
  rw [ht] at htop
  obtain ⟨l, k', e1, e3, hc, d, t⟩ := htop
  cases h1 : passOne P ng ops (effMask (effs P ops.toList 0)) dm um m.fr.nt ops.toList 0 ed m.fr.tmps m.h with
  | none => simp [h1] at hq
  | some r =>
    obtain ⟨ed', T, h'⟩ := r
    simp only [h1] at hq
    cases h2 : passTwo P ng ops (effMask (effs P ops.toList 0)) dm um m.fr.nt T h' ops.toList 0 with
    | false => rw [h2] at hq; cases hq
    | true =>
      rw [h2, cond_true] at hq
      injection hq with hq; subst hq
      obtain ⟨pend', a1, a2, a3, a4, a5, a6, a7⟩ := passOne_sound (σ := σ) (w := w) hc ops.toList 0 ed m.fr.tmps m.h ed' T h' p ks (fun j o hj => by rw [Nat.zero_add]; simpa using hj) h1 M.heap t d M.pg
      refine ⟨σ, f, cs, w, pend', ks, .refl _ _, Sg.le.refl σ, ⟨⟨M.top.fn, ⟨l, k', e1, e3, hc, a3, a2⟩, M.top.defers, M.top.mode, M.top.kind, M.top.round⟩, M.stack, a4, a1, h2, fun i o ho he hw => ?_⟩, Below.refl _ _⟩
      have := a6 i o (by simpa using ho) he (by rw [Nat.zero_add]; exact hw)
      rwa [Nat.zero_add] at this
end
end Go.Proofs.YtllipkakgjmheaaGreatDoor.Ev

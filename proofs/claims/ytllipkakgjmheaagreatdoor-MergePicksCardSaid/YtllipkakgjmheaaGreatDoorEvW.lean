/-
  The abstract machine: what it answers, the model's machine answers.
-/
import Derived.Test.YtllipkakgjmheaaGreatDoorEvV
set_option linter.unusedVariables false
set_option linter.unusedSimpArgs false
set_option linter.constructorNameAsVariable false
namespace Go.Proofs.YtllipkakgjmheaaGreatDoor.Ev
open Go Go.RowKit

section
variable {P : Program} {ng n0 : Nat} {σ : Sg} {h : AH} {w : World}
variable {m m' : AM} {f : Frame} {cs base : List Frame} {p : List (Nat × Nat)} {ks : List Nat}

theorem plain_at {a : List AItem} {it : List Item} (hp : plainTop a = true) : AtEff P a it := by
  unfold AtEff
  split
  · cases hp
  · cases hp
  · trivial
theorem plain_rdy {nt : Nat} {T : Tr AV} {a : List AItem} (hp : plainTop a = true) : Rdy P ng nt T h a := by
  unfold Rdy
  split
  · cases hp
  · trivial

/-! ### Results -/
def resM (tmps : Array Value) : ResultVar → Sem Value := fun
  | .tmp t => pure (tmps.getD t undef)
  | .cell a t => do loadVar t (← asAddr (tmps.getD a undef))
theorem results_list (R : HR ng n0 σ h w) {nt : Nat} {T : Tr AV} {c : Array Value} (t : TmpR σ (fun _ => False) T nt c) : ∀ (l : List ResultVar) (vs : List AV), aresults P h T l = some vs →
    ∃ us, (l.mapM (resM c)).run P w = .ok us w ∧ VRs σ vs us
  | [], vs, hq => by
    simp only [aresults] at hq
    injection hq with hq; subst hq
    exact ⟨[], rfl, trivial⟩
  | .tmp x :: l, vs, hq => by
    simp only [aresults] at hq
    cases hr : aresults P h T l with
    | none => simp [hr] at hq
    | some vs1 =>
      simp only [hr] at hq
      injection hq with hq; subst hq
      obtain ⟨us, h1, h2⟩ := results_list R t l vs1 hr
      have hv := ev_sound (ds := []) R t (x := .tmp x) fun _ _ h => h
      exact ⟨c.getD x undef :: us, by simp [List.mapM_cons, resM, h1], hv, h2⟩
  | .cell x ty :: l, vs, hq => by
    simp only [aresults] at hq
    cases hl : aload P h ty ((T.get x).getD .any) with
    | none => simp [hl] at hq
    | some v =>
      cases hr : aresults P h T l with
      | none => simp [hl, hr] at hq
      | some vs1 =>
        simp only [hl, hr] at hq
        injection hq with hq; subst hq
        obtain ⟨us, h1, h2⟩ := results_list R t l vs1 hr
        have hv := ev_sound (ds := []) R t (x := .tmp x) fun _ _ h => h
        have hv : VR σ ((T.get x).getD .any) (c.getD x undef) := hv
        generalize ha : (T.get x).getD .any = a at hl hv
        cases a <;> simp only [aload] at hl <;> try (cases hl; done)
        rename_i k off
        obtain ⟨e, he, hc⟩ := hv
        obtain ⟨u, h3, h4⟩ := load_sound (P := P) R (a := .ptr k off) (x := .pointer (some (e.at off))) ⟨e, he, rfl⟩ hl
        rw [loadVar_of] at h3
        exact ⟨u :: us, by simp [List.mapM_cons, resM, hc, asAddr, h3, h1], h4, h2⟩

theorem results_sound (R : HR ng n0 σ h w) {nt : Nat} {T : Tr AV} {c : Array Value} (t : TmpR σ (fun _ => False) T nt c) {fn : Func} {vs : List AV} (hq : aresults P h T fn.results.toList = some vs) :
    ∃ u, (results fn c).run P w = .ok u w ∧ VR σ (tupled vs) u := by
  obtain ⟨us, h1, h2⟩ := results_list R t _ vs hq
  have hm : (fn.results.mapM (resM c)).run P w = .ok us.toArray w := by
    rw [Array.mapM_eq_mapM_toList, Sem.run_map, h1]; rfl
  have hres : results fn c = (do let vs ← fn.results.mapM (resM c); pure (if h : vs.size = 1 then vs[0] else .tuple vs)) := by
    unfold results
    congr 1
  refine ⟨if h : us.toArray.size = 1 then us.toArray[0] else .tuple us.toArray, by rw [hres]; simp only [Sem.run_bind, hm, Result.andThen_ok, Sem.run_pure], ?_⟩
  have hl := VRs.length h2
  match vs, us, h2, hl with
  | [], [], _, _ => exact ⟨#[], rfl, trivial⟩
  | [v], [u], h2, _ => exact h2.1
  | v1 :: v2 :: vs, u1 :: u2 :: us, h2, _ =>
    have : ¬ (u1 :: u2 :: us).toArray.size = 1 := by simp
    rw [dif_neg this]
    exact ⟨_, rfl, h2⟩

/-! ### Returns -/
theorem return_sound (M : MRx P ng n0 σ m f cs w p ks) (hr : m.fr.ret = true) (hq : areturn P m = some m') : Post P ng n0 σ w f cs base m' := by
  have hmode : f.mode = .returning := by have := M.top.mode; rw [hr] at this; exact this
  have hnr : f.mode ≠ .run := by rw [hmode]; simp
  unfold areturn at hq
  cases hpl : plainTop m.fr.todo with
  | false => rw [hpl] at hq; cases hq
  | true =>
    rw [hpl, Bool.not_true, cond_false] at hq
    obtain ⟨hits, htm, hp⟩ := top_inv hpl M.top.top
    subst hp
    have hds := M.top.defers
    cases hd : m.fr.defers with
    | cons ad ds =>
      rw [hd] at hds
      cases hfd : f.defers with
      | nil => rw [hfd] at hds; exact hds.elim
      | cons d ds' =>
        rw [hfd] at hds
        obtain ⟨hd1, hd2⟩ := hds
        cases ad with
        | collected k =>
          simp only [hd] at hq
          obtain ⟨e, he, rfl⟩ := hd1
          cases hb : m.h.get k with
          | none => simp [hb] at hq
          | some bl =>
            cases bl <;> simp only [hb] at hq <;> try (cases hq; done)
            rename_i l
            injection hq with hq; subst hq
            obtain ⟨lv, hw, hlv⟩ := M.heap.blk k e _ he hb
            have hlt := M.heap.lt k e he
            have hex : Ex e.blk w (w.putObj e.blk (.deferred none)) := ⟨by simp [World.putObj], fun x hx => World.putObj_heap_other hx, rfl, rfl, rfl⟩
            have htk : (Instr.takeDeferred e.blk).run P w = .ok lv (w.putObj e.blk (.deferred none)) := by
              simp [Instr.takeDeferred, getObj, setObj, Sem.run, hw, World.putObj]
            have hst := step_collected (P := P) (fr := f) (cs := cs ++ base) (w := w) hnr hfd rfl htk
            exact ⟨σ, _, cs, _, [], ks, .one hst, Sg.le.refl σ, ⟨⟨M.top.fn, M.top.top, hlv.app hd2, M.top.mode, M.top.kind, M.top.round⟩, M.stack, M.pg, M.heap.dead he hb hex, plain_rdy hpl⟩, hex.below (M.heap.own k e _ he hb rfl)⟩
        | call g cap args =>
          simp only [hd] at hq
          obtain ⟨c', a', rfl, r1, r2⟩ := hd1
          cases hen : AFrame.enter P g (args ++ cap) true with
          | none => simp only [hen] at hq; cases hq
          | some fr =>
            simp only [hen] at hq
            injection hq with hq; subst hq
            obtain ⟨g1, g2, g3, g4, g5⟩ := enter_sound (ng := ng) hen (argv := a' ++ c') (by rw [Array.toList_append]; exact VRs.app r2 r1)
            have hst := step_defer (P := P) (fr := f) (cs := cs ++ base) (w := w) (f := g) (args := a' ++ c') hnr hfd rfl (g2 w)
            refine ⟨σ, _, { f with defers := ds' } :: cs, w, [], ks, .one hst, Sg.le.refl σ, ⟨g1, ⟨_, cs, [], ks, rfl, rfl, ⟨M.top.fn, M.top.top, hd2, M.top.mode, M.top.kind, M.top.round⟩, plain_at hpl, M.stack⟩, by simpa using M.pg, M.heap, g5 _⟩, Below.refl _ _⟩
    | nil =>
      rw [hd] at hds
      have hfd : f.defers = [] := by
        cases hfd : f.defers with
        | nil => rfl
        | cons d ds' => rw [hfd] at hds; exact hds.elim
      simp only [hd] at hq
      cases hfn : P.funcs[m.fr.fn]? with
      | none => simp [hfn] at hq
      | some fn =>
        simp only [hfn] at hq
        cases hres : aresults P m.h m.fr.tmps fn.results.toList with
        | none => simp [hres] at hq
        | some vs =>
          simp only [hres] at hq
          obtain ⟨u, hru, hvu⟩ := results_sound (P := P) M.heap htm hres
          have hffn : P.funcs[f.fn]? = some fn := by rw [M.top.fn]; exact hfn
          cases hdf : m.fr.dfd with
          | true =>
            rw [hdf, cond_true] at hq
            have hk : f.kind = .deferred := by have := M.top.kind; rw [hdf] at this; exact this
            cases hcs : m.cs with
            | nil => simp [hcs] at hq
            | cons c1 cs1 =>
              simp only [hcs] at hq
              cases hret : (c1.ret && plainTop c1.todo) with
              | false => rw [hret] at hq; cases hq
              | true =>
                rw [hret, cond_true] at hq
                rw [Bool.and_eq_true] at hret
                injection hq with hq; subst hq
                have hS := M.stack
                rw [hcs] at hS
                obtain ⟨f1, fs', p1, ks', e1, e2, h3, h4, h5⟩ := hS
                subst e1
                have hmode1 : f1.mode = .returning := by have := h3.mode; rw [hret.1] at this; exact this
                have hst := step_going_returned (P := P) (fr := f) (c := f1) (cs := fs' ++ base) (w := w) (v := u) hk ⟨hmode, hfd, fn, hffn, hru⟩
                have hset : ({ f1 with mode := settle f1.mode } : Frame) = f1 := by
                  cases f1; simp only at hmode1; subst hmode1; rfl
                rw [hset] at hst
                have hpg := M.pg
                simp only [List.map_nil, List.nil_append, e2] at hpg
                exact ⟨σ, f1, fs', w, p1, ks', .one hst, Sg.le.refl σ, ⟨h3, h5, hpg, M.heap, plain_rdy hret.2⟩, Below.refl _ _⟩
          | false =>
            rw [hdf, cond_false] at hq
            have hk : f.kind = .normal := by have := M.top.kind; rw [hdf] at this; exact this
            unfold giveBack at hq
            cases hcs : m.cs with
            | nil => simp [hcs] at hq
            | cons c1 cs1 =>
              simp only [hcs] at hq
              cases hfin : AFrame.finish P c1 (tupled vs) with
              | none => simp [hfin] at hq
              | some fr =>
                simp only [hfin] at hq
                injection hq with hq; subst hq
                have hS := M.stack
                rw [hcs] at hS
                obtain ⟨f1, fs', p1, ks', e1, e2, h3, h4, h5⟩ := hS
                subst e1
                obtain ⟨g1, g2, g3⟩ := finish_sound (ng := ng) h3 h4 hfin hvu
                have hst := step_leave_returned (P := P) (fr := f) (c := f1) (cs := fs' ++ base) (w := w) (v := u) ⟨hmode, hfd, hk, fn, hffn, hru⟩
                have hpg := M.pg
                simp only [List.map_nil, List.nil_append, e2] at hpg
                exact ⟨σ, f1.finish u, fs', w, p1, ks', .one hst, Sg.le.refl σ, ⟨g1, h5, hpg, M.heap, g3 _⟩, Below.refl _ _⟩

/-! ### The step -/
theorem loop_put (R : HR ng n0 σ h w) {l : Nat} {e : Loc} {r : ALoop} {lc : Loop} (he : σ l = some e) (hb : h.get l = some (.loop r)) (hw : w.heap[e.blk]? = some (.loop lc)) (hl : LR σ r lc) (s : LoopState) :
    (setObj e.blk (.loop { lc with state := s })).run P w = .ok () (w.putObj e.blk (.loop { lc with state := s })) ∧ HR ng n0 σ (h.put l (.loop { r with state := s })) (w.putObj e.blk (.loop { lc with state := s })) ∧ Below n0 w (w.putObj e.blk (.loop { lc with state := s })) := by
  obtain ⟨l1, l2, l3, l4, l5, l6, l7, l8⟩ := hl
  exact obj_sound (P := P) (o' := .loop { lc with state := s }) (b' := .loop { r with state := s }) R he hb rfl hw rfl (fun w' hw' => ⟨_, hw', rfl, l2, l3, l4, l5, l6, l7, l8⟩)

theorem step_sound (hP : 8 ≤ P.types.size) (hmix : P.follows .mixedOrders = true) (M : MRx P ng n0 σ m f cs w p ks) (hq : astep P ng m = some m') : Post P ng n0 σ w f cs base m' := by
  unfold astep at hq
  cases hr : m.fr.ret with
  | true => rw [hr, cond_true] at hq; exact return_sound M hr hq
  | false =>
    rw [hr, cond_false] at hq
    have hm := M.run hr
    have plain : ∀ x k, m.fr.todo = x :: k → plainTop (x :: k) = true → ∃ y k', f.todo = y :: k' ∧ ItR σ x y ∧ ItsR σ k k' ∧ TmpR σ (fun _ => False) m.fr.tmps m.fr.nt f.tmps ∧ p = [] := fun x k ht hp => by
      obtain ⟨hits, htm, hpp⟩ := top_inv (by rw [ht]; exact hp) M.top.top
      rw [ht] at hits
      obtain ⟨y, k', h1, h2, h3⟩ := its_cons hits
      exact ⟨y, k', h1, h2, h3, htm, hpp⟩
    cases ht : m.fr.todo with
    | nil =>
      simp only [ht] at hq
      obtain ⟨hits, htm, hpp⟩ := top_inv (by rw [ht]; rfl) M.top.top
      rw [ht] at hits
      have hf : f.todo = [] := by
        cases hf : f.todo with
        | nil => rfl
        | cons _ _ => rw [hf] at hits; exact hits.elim
      refine ret_sound M hr (by rw [ht]; rfl) (fun hro => ?_) (fun l v w' h1 h2 h3 c' cs' _ => ?_) hq
      · have := stepR_end (P := P) (b := f) (a := Frame.act f) (cs := cs ++ base) (w := w) hro
        rw [← hf, atR_self hm] at this; exact this
      · have := stepR_round_end (P := P) (b := f) (a := Frame.act f) (cs := cs') (w := w) (c := c') h1 h2 h3
        rw [← hf, atR_self hm] at this; exact this
    | cons x k =>
      cases x with
      | code c => simp only [ht] at hq; exact code_sound hP hmix M hr ht hq
      | inBlock id =>
        simp only [ht] at hq
        obtain ⟨y, k', h1, h2, h3, htm, hpp⟩ := plain _ _ ht rfl
        have h2 : y = .inBlock id := h2
        subst h2
        injection hq with hq; subst hq
        exact to_sound M hr (self_step hm h1 stepR_inBlock) h3 htm
      | inScope id =>
        simp only [ht] at hq
        obtain ⟨y, k', h1, h2, h3, htm, hpp⟩ := plain _ _ ht rfl
        have h2 : y = .inScope id := h2
        subst h2
        injection hq with hq; subst hq
        exact to_sound M hr (self_step hm h1 stepR_inScope) h3 htm
      | inLoop body =>
        simp only [ht] at hq
        obtain ⟨y, k', h1, h2, h3, htm, hpp⟩ := plain _ _ ht rfl
        have h2 : y = .inLoop body := h2
        subst h2
        injection hq with hq; subst hq
        exact to_sound M hr (self_step hm h1 stepR_inLoop) ⟨rfl, rfl, h3⟩ htm
      | reg ops i rest =>
        cases rest with
        | nil =>
          simp only [ht] at hq
          injection hq with hq; subst hq
          have htop := M.top.top
          rw [ht] at htop
          obtain ⟨k', e1, e2, e3, e4, e5⟩ := htop
          have hge : ops.size ≤ i := by
            have : ops.toList.length ≤ i := List.drop_eq_nil_iff.1 e2.symm
            simpa using this
          have hnil : (List.range ops.size).drop i = [] := List.drop_eq_nil_iff.2 (by simpa using hge)
          rw [hnil] at e1
          exact to_sound M hr (self_step hm e1 stepR_region_end) e3 e4
        | cons o rest =>
          simp only [ht] at hq
          exact reg_sound hP M hr ht hq
      | drw ops dm um ed rdy =>
        cases rdy with
        | false => simp only [ht] at hq; exact pass_sound M ht hq
        | true => simp only [ht] at hq; exact drw_sound hP M hr ht hq
      | rangeF l => simp only [ht] at hq; cases hq
      | endF l =>
        simp only [ht] at hq
        obtain ⟨y, k', h1, ⟨e, he, h2⟩, h3, htm, hpp⟩ := plain _ _ ht rfl
        subst h2; subst hpp
        cases hb : m.h.get l with
        | none => simp [hb] at hq
        | some bl =>
          cases bl <;> simp only [hb] at hq <;> try (cases hq; done)
          rename_i r
          obtain ⟨lc, hw, hl⟩ := M.heap.blk l e _ he hb
          have hls : lc.state = r.state := hl.1
          obtain ⟨o1, o2, o3⟩ := loop_put (P := P) M.heap he hb hw hl .exhausted
          have hnb : r.state ≠ .busy ∧ m' = { m with fr := { m.fr with todo := (r.pending.map AItem.code).toList ++ k, ret := false }, h := m.h.put l (.loop { r with state := .exhausted }) } := by
            cases hs : r.state <;> simp only [hs] at hq <;> first | (cases hq; done) | (injection hq with hq; exact ⟨by simp, by rw [← hq, hr]⟩)
          obtain ⟨hnb, rfl⟩ := hnb
          have hend : (Instr.endLoop e.blk).run P w = .ok lc.pending (w.putObj e.blk (.loop { lc with state := .exhausted })) := by
            have : (lc.state == .busy) = false := by rw [hls]; cases hs : r.state <;> first | rfl | exact absurd hs hnb
            simp only [Instr.endLoop, Sem.run_bind, getLoop_run hw, Result.andThen_ok, this, Bool.false_eq_true, if_false, Sem.run_pure, o1]
          have hst := self_step (cs := cs) (base := base) hm h1 (stepR_endRangeFunc (P := P) (b := f) (a := Frame.act f) (k := k') (cs := cs ++ base) (w := w) hend)
          have hits : ItsR σ ((r.pending.map AItem.code).toList ++ k) ((lc.pending.map Item.code).toList ++ k') := by
            rw [hl.2.1]
            cases r.pending with
            | none => exact h3
            | some c => exact ⟨rfl, h3⟩
          exact ⟨σ, _, cs, _, [], ks, .one hst, Sg.le.refl σ, ⟨⟨M.top.fn, top_plain hits htm, M.top.defers, rfl, M.top.kind, M.top.round⟩, M.stack, M.pg.keep (fun _ _ => rfl) (Nat.le_refl _), o2, rdy_plain hits⟩, o3⟩
      | beginRound =>
        simp only [ht] at hq
        obtain ⟨y, k', h1, h2, h3, htm, hpp⟩ := plain _ _ ht rfl
        have h2 : y = .beginRound := h2
        subst h2; subst hpp
        cases hround : m.fr.round with
        | none => simp [hround] at hq
        | some l =>
          obtain ⟨e, he, hro⟩ : ∃ e, σ l = some e ∧ f.roundOf = some e.blk := by have := M.top.round; rw [hround] at this; exact this
          simp only [hround] at hq
          cases hb : m.h.get l with
          | none => simp [hb] at hq
          | some bl =>
            cases bl <;> simp only [hb] at hq <;> try (cases hq; done)
            rename_i r
            obtain ⟨lc, hw, hl⟩ := M.heap.blk l e _ he hb
            have hls : lc.state = r.state := hl.1
            obtain ⟨o1, o2, o3⟩ := loop_put (P := P) M.heap he hb hw hl .busy
            have hnb : r.state = .ready ∧ m' = { m with fr := { m.fr with todo := k, ret := false, round := some l }, h := m.h.put l (.loop { r with state := .busy }) } := by
              cases hs : r.state <;> simp only [hs] at hq <;> first | (cases hq; done) | (injection hq with hq; exact ⟨rfl, by rw [← hq, hr]⟩)
            obtain ⟨hnb, rfl⟩ := hnb
            have hbr : (Instr.beginRound e.blk).run P w = .ok () (w.putObj e.blk (.loop { lc with state := .busy })) := by
              have : lc.state = .ready := hls.trans hnb
              simp only [Instr.beginRound, Sem.run_bind, getLoop_run hw, Result.andThen_ok, o1, this, Sem.run_pure]
            have hst := self_step (cs := cs) (base := base) hm h1 (stepR_beginRound (P := P) (b := f) (a := Frame.act f) (k := k') (cs := cs ++ base) (w := w) hro hbr)
            exact ⟨σ, _, cs, _, [], ks, .one hst, Sg.le.refl σ, ⟨⟨M.top.fn, top_plain h3 htm, M.top.defers, rfl, M.top.kind, ⟨e, he, hro⟩⟩, M.stack, M.pg.keep (fun _ _ => rfl) (Nat.le_refl _), o2, rdy_plain h3⟩, o3⟩

theorem run_sound (hP : 8 ≤ P.types.size) (hmix : P.follows .mixedOrders = true) : ∀ (n : Nat) (m m' : AM) (σ : Sg) (f : Frame) (cs : List Frame) (w : World) (p : List (Nat × Nat)) (ks : List Nat), MRx P ng n0 σ m f cs w p ks → arun P ng n m = some m' → Post P ng n0 σ w f cs base m'
  | 0, m, m', σ, f, cs, w, p, ks, M, hq => by
    simp only [arun] at hq
    injection hq with hq; subst hq
    exact ⟨σ, f, cs, w, p, ks, .refl _ _, Sg.le.refl σ, M, Below.refl _ _⟩
  | n + 1, m, m', σ, f, cs, w, p, ks, M, hq => by
    simp only [arun] at hq
    cases hs : astep P ng m with
    | none => simp [hs] at hq
    | some m1 =>
      simp only [hs] at hq
      obtain ⟨σ1, f1, cs1, w1, p1, ks1, s1, l1, M1, b1⟩ := step_sound (base := base) hP hmix M hs
      obtain ⟨σ2, f2, cs2, w2, p2, ks2, s2, l2, M2, b2⟩ := run_sound hP hmix n m1 m' σ1 f1 cs1 w1 p1 ks1 M1 hq
      exact ⟨σ2, f2, cs2, w2, p2, ks2, s1.trans s2, l1.trans l2, M2, b1.trans b2⟩

/-- the machine stands at its end: what it answers -/
def answer (P : Program) (g : FuncId) (m : AM) : Option AV :=
  match m.cs, m.fr.defers with
  | [], [] =>
    bif m.fr.ret && !m.fr.dfd && plainTop m.fr.todo && Nat.beq m.fr.fn g then
      match P.funcs[g]? with
      | some fn => (aresults P m.h m.fr.tmps fn.results.toList).map tupled
      | none => none
    else none
  | _, _ => none

/-- **A CLOSED RUN**: what the abstract machine answers, the call returns, in every world where the given blocks lie. -/
theorem calls_run (hP : 8 ≤ P.types.size) (hmix : P.follows .mixedOrders = true) {g : FuncId} {args : List AV} {argv : Array Value} {fr : AFrame} {h0 : AH} {σ : Sg} {w : World} {n : Nat} {m' : AM} {v : AV}
    (hen : AFrame.enter P g args false = some fr) (ha : VRs σ args argv.toList) (R : HR ng w.heap.size σ h0 w) (hrun : arun P ng n { fr, cs := [], h := h0 } = some m') (hans : answer P g m' = some v) :
    Calls P g argv w fun e w' => ∃ u σ', e = .returned u ∧ VR σ' v u ∧ Below w.heap.size w w' := by
  intro base
  obtain ⟨g1, g2, g3, g4, g5⟩ := enter_sound (ng := ng) hen ha
  have M : MRx P ng w.heap.size σ { fr, cs := [], h := h0 } (Frame.enter P g argv .normal) [] w [] [] := ⟨g1, ⟨rfl, rfl⟩, ⟨List.nodup_nil, fun k hk => by simp at hk⟩, R, g5 _⟩
  obtain ⟨σ', f', cs', w', p', ks', s1, l1, M1, b1⟩ := run_sound (base := base) hP hmix n _ m' σ _ _ w _ _ M hrun
  unfold answer at hans
  split at hans
  · rename_i hcs hds
    cases hb : (m'.fr.ret && !m'.fr.dfd && plainTop m'.fr.todo && Nat.beq m'.fr.fn g) with
    | false => rw [hb] at hans; cases hans
    | true =>
      rw [hb, cond_true] at hans
      simp only [Bool.and_eq_true, nbeq, decide_eq_true_eq, Bool.not_eq_true'] at hb
      obtain ⟨⟨⟨b2, b3⟩, b4⟩, b5⟩ := hb
      cases hfn : P.funcs[g]? with
      | none => simp [hfn] at hans
      | some fn =>
        simp only [hfn, Option.map_eq_some_iff] at hans
        obtain ⟨vs, hres, rfl⟩ := hans
        obtain ⟨_, htm, _⟩ := top_inv b4 M1.top.top
        obtain ⟨u, hru, hvu⟩ := results_sound (P := P) M1.heap htm hres
        have hS := M1.stack
        rw [hcs] at hS
        obtain ⟨hcs', _⟩ := hS
        subst hcs'
        have hmode : f'.mode = .returning := by have := M1.top.mode; rw [b2] at this; exact this
        have hk : f'.kind = .normal := by have := M1.top.kind; rw [b3] at this; exact this
        have hfd : f'.defers = [] := by
          have := M1.top.defers
          rw [hds] at this
          cases hx : f'.defers with
          | nil => rfl
          | cons _ _ => rw [hx] at this; exact this.elim
        have hffn : f'.fn = g := M1.top.fn.trans b5
        exact ⟨.returned u, w', f', ⟨u, σ', rfl, hvu, b1⟩, s1, hffn, hmode, hfd, hk, fn, by rw [hffn]; exact hfn, hru⟩
  · cases hans
end
end Go.Proofs.YtllipkakgjmheaaGreatDoor.Ev

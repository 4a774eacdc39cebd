/- The texts EbPa, EbTold, WfBig0, WfBig1, WfBig2, WfBig3, WfBig4, WfBig5, WfBig6, WfBig, Mem, Rep, Kit of WriterFull, joined by program (tools/merge.py): walks of the functions that the law reaches, and plain facts; no condition. -/
import Derived.Test.YtfmopmjgohopeaaGreatDoorPart07
import Derived.Defers
import Derived.KernelRfl
import Derived.Below
import Derived.Laws.OwnMore
import Derived.Deep.AppendLies
import Derived.Deep.Draws
import Derived.Laws.Rows
import Derived.Maps.AppendAt
import Derived.RegionTactic
import Derived.OwnWalk
import Derived.WalkSmall
import Derived.Test.YtfmopmjgohopeaaGreatDoorRows
import Derived.WalkKit
import Derived.WalkSpells
import Derived.WalkLawsBesides
import Derived.Lib.Hide
import Derived.Deep.QuietTactic
import Derived.BigQuiet
set_option linter.unusedVariables false
set_option linter.unusedSimpArgs false

/-
  The abstract machine: a panic that a deferred call catches.
-/
set_option linter.unusedVariables false
set_option linter.unusedSectionVars false
set_option linter.unusedSimpArgs false
set_option linter.constructorNameAsVariable false
namespace Go.Proofs.YtfmopmjgohopeaaGreatDoor.Ev
open Go Go.RowKit

section
variable [Xt] {P : Program} {ng n0 : Nat} {σ : Sg} {h : AH} {w : World}
variable {m m' : AM} {f : Frame} {cs base : List Frame} {p : List (Nat × Nat)} {ks : List Nat}

theorem raise_of {a : AFrame} (h : FR P σ a f p) (ch : List PanicEntry) : f.raise ch = { f with mode := .panicking ch } := by
  have := h.mode
  unfold Frame.raise
  cases hr : a.ret <;> rw [hr] at this <;> simp only [cond_true, cond_false] at this <;> rw [this]
theorem fr_nil {a : AFrame} (h : FR P σ a f p) (hn : notDrw a.todo = true) : p = [] := by
  have ht := h.top
  unfold TopR at ht
  split at ht
  · obtain ⟨k', _, _, _, _, h⟩ := ht; exact h
  · rename_i e; rw [e] at hn; cases hn
  · exact ht.2.2
theorem tmp_of_reg {a : AFrame} (h : FR P σ a f p) {ops : Array Oper} {i : Nat} {r : List Oper} {k : List AItem} (ht : a.todo = .reg ops i r :: k) : TmpR σ (fun _ => False) a.tmps a.nt f.tmps := by
  have := h.top
  rw [ht] at this
  obtain ⟨k', _, _, _, h, _⟩ := this
  exact h
theorem unwind_to {ch : List PanicEntry} : ∀ (al : List AFrame) (fs : List Frame) (ks : List Nat) (f : Frame) (c : AFrame) (B : List AFrame), StR P σ al fs ks → catcher P al = some (c, B) → f.mode = .panicking ch → f.defers = [] →
    (∃ fn, P.funcs[f.fn]? = some fn) → ∃ f1 fs', Steps P (lone f (fs ++ base) w) (lone { f1 with mode := .panicking ch } (fs' ++ base) w) ∧ (∃ p1 pre ks', FR P σ c f1 p1 ∧ StR P σ B fs' ks' ∧ ks = pre ++ ks')
  | [], _, _, _, _, _, _, hc, _, _, _ => by cases hc
  | a :: al, fs, ks, f, c, B, hS, hc, hm, hd, hf => by
    obtain ⟨fa, fs', p, ks', e1, e2, h3, h4, h5⟩ := hS
    subst e1
    have hst := step_leave_panicked (P := P) (fr := f) (c := fa) (cs := fs' ++ base) (w := w) (chain := ch) ⟨hm, hd, hf⟩
    rw [raise_of h3] at hst
    unfold catcher at hc
    cases hda : a.defers with
    | nil =>
      simp only [hda] at hc
      cases hfa : P.funcs[a.fn]? with
      | none => simp [hfa] at hc
      | some fn =>
        simp only [hfa] at hc
        have hda' : fa.defers = [] := by
          have := h3.defers
          rw [hda] at this
          cases hx : fa.defers with
          | nil => rfl
          | cons _ _ => rw [hx] at this; exact this.elim
        obtain ⟨f1, fs1, s1, p1, pre, ks1, s2, s3, s4⟩ := unwind_to al fs' ks' { fa with mode := .panicking ch } c B h5 hc rfl hda' ⟨fn, by rw [← hfa, ← h3.fn]⟩
        exact ⟨f1, fs1, .head hst s1, p1, p.map (·.2) ++ pre, ks1, s2, s3, by rw [e2, s4, List.append_assoc]⟩
    | cons d ds =>
      simp only [hda] at hc
      injection hc with hc
      injection hc with e1 e2
      subst e1 e2
      exact ⟨fa, fs', .one hst, p, p.map (·.2), ks', h3, h5, e2⟩
theorem step_pan {ops : Array Oper} {i : Nat} {r : List Nat} {k : List Item} {o : Oper} {cs : List Frame} (A : AtOp f ops i r k o) {u : Value} (hr : (o.semAt f.roundOf (Frame.act f).eval).run P w = .halt (.panic u) w) :
    step P (lone f cs w) = .next (lone (f.raise [{ v := u, recovered := false }]) cs w) :=
  step_lone_go (by rw [stepG_at A]; simp [stepG.apply, hr])
theorem step_rec_some {ops : Array Oper} {i : Nat} {r : List Nat} {k : List Item} {o : Oper} {cs cs' : List Frame} (A : AtOp f ops i r k o) {u : Value} {w' : World} (hro : f.roundOf = none) (ht : tryRecover f cs = some (u, cs'))
    (hr : (o.semAt f.roundOf (Frame.act f).eval).run P w = .ok .recover w') : step P (lone f cs w) = .next (lone (f.finish u) cs' w') :=
  step_lone_go (by rw [hro] at hr; rw [stepG_at A]; simp [stepG.apply, hr, hro, ht])
/-- a frame at an operation of a region in its order -/
theorem at_reg {a : AFrame} (h : FR P σ a f p) (hm : f.mode = .run) {ops : Array Oper} {i : Nat} {o : Oper} {rest : List Oper} {k : List AItem} (ht : a.todo = .reg ops i (o :: rest) :: k) (ha : awanted ops a.tmps o = some true) :
    ∃ r k', AtOp f ops i r k' o ∧ TmpR σ (fun _ => False) a.tmps a.nt f.tmps ∧ AtEff P a.todo f.todo := by
  have htop := h.top
  rw [ht] at htop
  obtain ⟨k', e1, e2, e3, e4, e5⟩ := htop
  have hi : ops.toList[i]? = some o := by
    have : (ops.toList.drop i)[0]? = some o := by rw [← e2]; rfl
    simpa using this
  have hlt : i < ops.size := by
    have := (List.getElem?_eq_some_iff.1 hi).1; simpa using this
  have hr' : (List.range ops.size).drop i = i :: (List.range ops.size).drop (i + 1) := by
    rw [List.drop_eq_getElem_cons (by simpa using hlt)]; simp
  have ho : ops[i]? = some o := by simpa using hi
  rw [hr'] at e1
  exact ⟨_, k', ⟨e1, hm, ho, wanted_sound e4 (fun _ _ _ _ _ _ _ h => h) ha⟩, e4, by rw [ht]; unfold AtEff; trivial⟩

end
section
variable {P : Program} {ng n0 : Nat} {w : World}
/-- the deferred call, from its start to its end -/
theorem sub_run (X : Xt) (hP : 8 ≤ P.types.size) (hmix : P.follows .mixedOrders = true) {σ : Sg} {n1 n2 : Nat} {m1 m2 m3 m4 : AM} {fE : Frame} {f1 : Frame} {rest : List Frame} {t : TypeId} {vx : AV} {y : Value}
    (h1 : FR P σ m1.fr fE []) (hc1 : m1.cs = []) (hpg : PG σ m1.h X.x) (hh : HR ng n0 σ m1.h w) (hrd : Rdy P ng m1.fr.nt m1.fr.tmps m1.h m1.fr.todo) (h12 : arun P ng n1 m1 = some m2) (h23 : arecover P m2 (.iface t vx) = some m3) (h34 : arun P ng n2 m3 = some m4) (hc4 : m4.cs = []) (hyv : VR σ vx y) :
    ∃ σ4 f4 w4 p4, Steps P (lone fE ({ f1 with mode := .panicking [{ v := .iface t y, recovered := false }], defers := [] } :: rest) w) (lone f4 ({ f1 with mode := .panicking [{ v := .iface t y, recovered := true }], defers := [] } :: rest) w4) ∧
      σ.le σ4 ∧ FR P σ4 m4.fr f4 p4 ∧ PG σ4 m4.h (p4.map (·.2) ++ X.x) ∧ HR ng n0 σ4 m4.h w4 ∧ Below n0 w w4 := by
  have M1 : MRx P ng n0 σ m1 fE [] w [] X.x := ⟨h1, by rw [hc1]; exact ⟨rfl, rfl⟩, by simpa using hpg, hh, hrd⟩
  obtain ⟨σ2, f2, cs2, w2, p2, ks2, s4, l2, M2, b2⟩ := run_sound (base := { f1 with mode := .panicking [{ v := .iface t y, recovered := false }], defers := [] } :: rest) hP hmix n1 _ m2 σ _ _ w _ _ M1 h12
  unfold arecover at h23
  cases hrr : (m2.fr.ret || !m2.fr.dfd) with
  | true => rw [hrr] at h23; cases h23
  | false =>
    rw [hrr, cond_false] at h23
    rw [Bool.or_eq_false_iff, Bool.not_eq_false'] at hrr
    split at h23
    · rename_i ops2 i2 o2 rest2 k2 ht2 hcs2 hrd2
      split at h23
      · rename_i ha2
        split at h23
        · rename_i cc hop2
          split at h23
          · rename_i hcal
            have hS2 := M2.stack
            rw [hcs2] at hS2
            obtain ⟨hcs2', hks2⟩ := hS2
            subst hcs2'
            obtain ⟨r', kk', A2, htm2, hat2⟩ := at_reg M2.top (M2.run hrr.1) ht2 ha2
            have hk2 : f2.kind = .deferred := by have := M2.top.kind; rw [hrr.2] at this; exact this
            have hro2 : f2.roundOf = none := by have := M2.top.round; rw [hrd2] at this; exact this
            have hs5 := step_rec_some (P := P) (w := w2) (w' := w2) (u := .iface t y) (cs := { f1 with mode := .panicking [{ v := .iface t y, recovered := false }], defers := [] } :: rest)
              (cs' := { f1 with mode := .panicking [{ v := .iface t y, recovered := true }], defers := [] } :: rest) A2 hro2 (by unfold tryRecover; rw [hk2]) (by
              rw [Oper.semAt_eq _ _ _ (by simp [hop2])]
              simp [execOp, hop2, resolve, hcal, invoke, builtin])
            unfold AM.done at h23
            cases hfin2 : AFrame.finish P m2.fr (.iface t vx) with
            | none => simp [hfin2] at h23
            | some fr3 =>
              simp only [hfin2] at h23
              injection h23 with h23
              subst h23
              obtain ⟨q1, q2, q3⟩ := finish_sound (ng := ng) (u := .iface t y) M2.top hat2 hfin2 ⟨y, rfl, VR.mono l2 _ _ hyv⟩
              have M3 : MRx P ng n0 σ2 { m2 with fr := fr3 } (f2.finish (.iface t y)) [] w2 p2 ks2 := ⟨q1, by show StR P σ2 m2.cs [] ks2; rw [hcs2]; exact ⟨rfl, hks2⟩, M2.pg, M2.heap, q3 _⟩
              obtain ⟨σ4, f4, cs4, w4, p4, ks4, s6, l4, M4, b4⟩ := run_sound (base := { f1 with mode := .panicking [{ v := .iface t y, recovered := true }], defers := [] } :: rest) hP hmix n2 _ m4 σ2 _ _ w2 _ _ M3 h34
              have hS4 := M4.stack
              rw [hc4] at hS4
              obtain ⟨hcs4', hks4⟩ := hS4
              subst hcs4'
              exact ⟨σ4, f4, w4, p4, s4.trans (.head hs5 s6), l2.trans l4, M4.top, by rw [← hks4]; exact M4.pg, M4.heap, b2.trans b4⟩
          · cases h23
        · cases h23
      · cases h23
    · cases h23
end
section
variable [Xt] {P : Program} {ng n0 : Nat} {σ : Sg} {h : AH} {w : World}
variable {m m' : AM} {f : Frame} {cs base : List Frame} {p : List (Nat × Nat)} {ks : List Nat}
/-- **A PANIC THAT IS CAUGHT.** -/
theorem panic_sound (hP : 8 ≤ P.types.size) (hmix : P.follows .mixedOrders = true) {n1 n2 : Nat} (M : MRx P ng n0 σ m f cs w p ks) (hq : apanic P ng n1 n2 m = some m') : Post P ng n0 σ w f cs base m' := by
  unfold apanic at hq
  cases hra : araise P ng m with
  | none => simp [hra] at hq
  | some q =>
    obtain ⟨v, c, b, B, m1⟩ := q
    simp only [hra] at hq
    cases h12 : arun P ng n1 m1 with
    | none => simp [h12] at hq
    | some m2 =>
    simp only [h12] at hq
    cases h23 : arecover P m2 v with
    | none => simp [h23] at hq
    | some m3 =>
    simp only [h23] at hq
    cases h34 : arun P ng n2 m3 with
    | none => simp [h34] at hq
    | some m4 =>
    simp only [h34] at hq
    unfold araise at hra
    cases hr : m.fr.ret with
    | true => rw [hr] at hra; cases hra
    | false =>
    rw [hr, cond_false] at hra
    split at hra
    · rename_i ops i o rest k fn0 ht hd hfn
      split at hra
      · rename_i ha
        split at hra
        · rename_i x hop
          split at hra
          · rename_i t vx hx
            split at hra
            · rename_i c' b' B' hcat
              split at hra
              · rename_i ops' i' rest' k' g cap args hct hcd
                cases hg : c'.dfd with
                | true => rw [hg] at hra; cases hra
                | false =>
                  rw [hg, cond_false] at hra
                  cases hen : AFrame.enter P g (args ++ cap) true with
                  | none => simp [hen] at hra
                  | some fr1 =>
                    simp only [hen] at hra
                    injection hra with hra
                    injection hra with ev1 hra; injection hra with ec hra; injection hra with eb hra; injection hra with eB em
                    subst ev1 ec eb eB em
                    -- the panic
                    obtain ⟨r, kk, A, htm, _⟩ := at_reg M.top (M.run hr) ht ha
                    have hxv := ev_sound (ds := f.defers) M.heap htm (x := x) fun _ _ h => h
                    rw [hx] at hxv
                    obtain ⟨y, hy, hyv⟩ := hxv
                    have hxe : (Frame.act f).eval x = .iface t y := hy
                    have hs1 := step_pan (P := P) (w := w) (cs := cs ++ base) (u := .iface t y) A (by
                      rw [Oper.semAt_eq _ _ _ (by simp [hop])]
                      simp [execOp, hop, hxe, Instr.panic, goPanic, Sem.run])
                    rw [raise_of M.top] at hs1
                    have hfd : f.defers = [] := by
                      have := M.top.defers
                      rw [hd] at this
                      cases hx : f.defers with
                      | nil => rfl
                      | cons _ _ => rw [hx] at this; exact this.elim
                    obtain ⟨f1, fs', s2, p1, pre, ks1, hF, hS, hks⟩ := unwind_to (base := base) (w := w) (ch := [{ v := .iface t y, recovered := false }]) m.cs cs ks { f with mode := .panicking [{ v := .iface t y, recovered := false }] } c' (b' :: B') M.stack hcat rfl hfd ⟨fn0, by rw [← hfn, ← M.top.fn]⟩
                    -- the deferred call is entered
                    have hds := hF.defers
                    rw [hcd] at hds
                    obtain ⟨d, hf1d, hdr⟩ : ∃ d, f1.defers = [d] ∧ DR σ (.call g cap args) d := by
                      cases hx : f1.defers with
                      | nil => rw [hx] at hds; exact hds.elim
                      | cons d ds =>
                        rw [hx] at hds
                        cases ds with
                        | nil => exact ⟨d, rfl, hds.1⟩
                        | cons _ _ => exact hds.2.elim
                    obtain ⟨cv, av, rfl, r1, r2⟩ := hdr
                    obtain ⟨g1, g2, g3, g4, g5⟩ := enter_sound (ng := ng) hen (argv := av ++ cv) (by rw [Array.toList_append]; exact VRs.app r2 r1)
                    have hs3 := step_defer (P := P) (fr := { f1 with mode := .panicking [{ v := .iface t y, recovered := false }] }) (cs := fs' ++ base) (w := w) (f := g) (args := av ++ cv) (by simp) hf1d rfl (g2 w)
                    have hpg1 : PG σ m.h ks1 := by
                      have hsub : ks1.Sublist (p.map (·.2) ++ ks) := by rw [hks, ← List.append_assoc]; exact List.sublist_append_right _ _
                      exact ⟨M.pg.1.sublist hsub, fun k hk => M.pg.2 k (hsub.subset hk)⟩
                    unfold acaught at hq
                    split at hq
                    · rename_i hcs4 hds4
                      cases hb4 : (m4.fr.ret && m4.fr.dfd && plainTop m4.fr.todo) with
                      | false => rw [hb4] at hq; cases hq
                      | true =>
                        rw [hb4, cond_true] at hq
                        simp only [Bool.and_eq_true] at hb4
                        obtain ⟨⟨b41, b42⟩, b43⟩ := hb4
                        split at hq
                        · rename_i gn fn hgn hfnc
                          split at hq
                          · rename_i us vs hres1 hres2
                            cases hfb : AFrame.finish P b' (tupled vs) with
                            | none => simp [hfb] at hq
                            | some frb =>
                              simp only [hfb] at hq
                              injection hq with hq
                              subst hq
                              obtain ⟨σ4, f4, w4, p4, s4, l4, hF4, hpg4, hh4, b4⟩ := sub_run (Xt.mk ks1) (m1 := { fr := fr1, cs := [], h := m.h }) (f1 := f1) (rest := fs' ++ base) hP hmix g1 rfl hpg1 M.heap (g5 _) h12 h23 h34 hcs4 hyv
                              obtain ⟨_, htm4, hp4⟩ := top_inv b43 hF4.top
                              obtain ⟨u4, hu4, _⟩ := results_sound (P := P) hh4 htm4 hres1
                              have hmode4 : f4.mode = .returning := by have := hF4.mode; rw [b41] at this; exact this
                              have hk4 : f4.kind = .deferred := by have := hF4.kind; rw [b42] at this; exact this
                              have hfd4 : f4.defers = [] := by
                                have := hF4.defers
                                rw [hds4] at this
                                cases hx : f4.defers with
                                | nil => rfl
                                | cons _ _ => rw [hx] at this; exact this.elim
                              have hs7 := step_going_returned (P := P) (fr := f4) (c := { f1 with mode := .panicking [{ v := .iface t y, recovered := true }], defers := [] }) (cs := fs' ++ base) (w := w4) (v := u4) hk4 ⟨hmode4, hfd4, gn, by rw [hF4.fn]; exact hgn, hu4⟩
                              have htmc := (tmp_of_reg hF hct).mono l4
                              obtain ⟨uc, huc, hvc⟩ := results_sound (P := P) hh4 htmc hres2
                              obtain ⟨fb, fs'', pb, ks'', e1, e2, h3, h4, h5⟩ := hS.mono l4
                              subst e1
                              have hkc : f1.kind = .normal := by have := hF.kind; rw [hg] at this; exact this
                              have hs8 := step_leave_returned (P := P) (fr := { f1 with mode := .returning, defers := [] }) (c := fb) (cs := fs'' ++ base) (w := w4) (v := uc) ⟨rfl, rfl, hkc, fn, by show P.funcs[f1.fn]? = _; rw [hF.fn]; exact hfnc, huc⟩
                              obtain ⟨z1, z2, z3⟩ := finish_sound (ng := ng) h3 h4 hfb hvc
                              rw [hp4, List.map_nil, List.nil_append] at hpg4
                              refine ⟨σ4, fb.finish uc, fs'', w4, pb, ks'', ?_, l4, ⟨z1, h5, by rw [← e2]; exact hpg4, hh4, z3 _⟩, b4⟩
                              exact .head hs1 (s2.trans (.head hs3 (s4.trans (.head hs7 (.one hs8)))))
                          · cases hq
                        · cases hq
                    · cases hq
              · cases hra
            · cases hra
          · cases hra
        · cases hra
      · cases hra
    · cases hra

/-- a piece that ends in a panic that is caught -/
def pieceP (L : Lk) (ng n a b : Nat) (ks : List Nat) (m : AM) : Option AM :=
  match K.arun L ng n m with
  | some m1 => match K.apanic L ng a b m1 with
    | some m' => bif notReady m'.fr.todo then AM.nf (m'.gc ks) some else none
    | none => none
  | none => none
theorem leads_pieceP (hP : 8 ≤ P.types.size) (hmix : P.follows .mixedOrders = true) {L : Lk} (hL : L = Lk.of P) {n a b : Nat} {ks : List Nat} {m m' : AM} (hq : pieceP L ng n a b ks m = some m') : Leads P ng m m' := by
  subst hL
  unfold pieceP at hq
  have e : K.arun (Lk.of P) ng n m = arun P ng n m := congrFun (congrFun K.arun_eq n) m
  rw [e] at hq
  intro n0 σ f cs base w p l M
  cases hr : arun P ng n m with
  | none => simp [hr] at hq
  | some m1 =>
    simp only [hr] at hq
    have e2 : K.apanic (Lk.of P) ng a b m1 = apanic P ng a b m1 := congrFun (congrFun (congrFun K.apanic_eq a) b) m1
    rw [e2] at hq
    cases hp : apanic P ng a b m1 with
    | none => simp [hp] at hq
    | some m2 =>
      simp only [hp] at hq
      cases hn : notReady m2.fr.todo with
      | false => rw [hn] at hq; cases hq
      | true =>
        rw [hn, cond_true, AM.nf_eq] at hq
        injection hq with hq; subst hq
        obtain ⟨σ1, f1, cs1, w1, p1, ks1, s1, l1, M1, b1⟩ := run_sound (base := base) hP hmix n m m1 σ f cs w p l M hr
        obtain ⟨σ2, f2, cs2, w2, p2, ks2, s2, l2, M2, b2⟩ := panic_sound (base := base) hP hmix M1 hp
        exact ⟨σ2, f2, cs2, w2, p2, ks2, s1.trans s2, l1.trans l2, M2.gc ks hn, b1.trans b2⟩
end
end Go.Proofs.YtfmopmjgohopeaaGreatDoor.Ev

/-
  Calls that are told by their contracts in the run of WriterFull: how the abstract machine reckons them (no walk here).
-/
set_option linter.unusedVariables false
set_option linter.unusedSimpArgs false
set_option linter.constructorNameAsVariable false
namespace Go.Proofs.YtfmopmjgohopeaaGreatDoor.Ev
open Go

/-! ### The check of a file, quick for the kernel -/
def cStep (c : Nat) : Nat := (c / 2) ^^^ (3988292384 * (c % 2))
def cTab (i : Nat) : Nat := cStep (cStep (cStep (cStep i)))
def cNib (c : Nat) : Nat := (c / 16) ^^^ cTab (c % 16)
def cByte (c b : Nat) : Nat := cNib (cNib (c ^^^ b))
def cTabs : Nat := 9937593612760466100516450665319420528403982636753068485404800763335476026940182181175496972418787619281442302519629725716261212251300561153615832085954560
def nibF (c : Nat) : Nat := Nat.xor (Nat.shiftRight c 4) (Nat.shiftRight cTabs (32 * (c % 16)) % 4294967296)
def crcGo : Nat → Nat → Nat → Nat
  | 0, _, c => c
  | n + 1, v, c => nfN (nibF (nibF (Nat.xor c (v % 256)))) fun c => nfN (v / 256) fun v => crcGo n v c
def crcCh (m : Nat) : Nat → Nat → Nat → Nat → Nat
  | 0, n, v, c => crcGo n v c
  | f + 1, n, v, c => bif Nat.ble n m then crcGo n v c else nfN (crcGo m (v % Nat.shiftLeft 1 (8 * m)) c) fun c => nfN (Nat.shiftRight v (8 * m)) fun v => crcCh m f (n - m) v c
def crcBs (b : Bs) : Nat := 4294967295 - crcCh 512 (b.n / 512 + 1) b.n b.v 4294967295
theorem cTabs_ok : ∀ i, i < 16 → Nat.shiftRight cTabs (32 * i) % 4294967296 = cTab i := by decide
theorem nibF_eq (c : Nat) : nibF c = cNib c := by
  unfold nibF cNib
  rw [cTabs_ok _ (Nat.mod_lt _ (by decide))]
  show (c >>> 4) ^^^ _ = _
  rw [Nat.shiftRight_eq_div_pow]
theorem crcGo_eq : ∀ (n v c : Nat), crcGo n v c = (digits n v).foldl cByte c
  | 0, _, _ => rfl
  | n + 1, v, c => by
    simp only [crcGo, nfN_eq, digits, List.foldl_cons, nibF_eq, crcGo_eq n]
    rfl
theorem digits_split (m n v : Nat) : digits (m + n) v = digits m v ++ digits n (v / 256 ^ m) := by
  apply List.ext_getElem?
  intro i
  rw [List.getElem?_append, digits_len, digits_get, digits_get, digits_get]
  by_cases h : i < m
  · rw [if_pos h, if_pos h, if_pos (by omega)]
  · rw [if_neg h]
    by_cases h2 : i < m + n
    · rw [if_pos h2, if_pos (by omega), Nat.div_div_eq_div_mul, ← Nat.pow_add, show m + (i - m) = i by omega]
    · rw [if_neg h2, if_neg (by omega)]
theorem crcCh_eq (m : Nat) : ∀ (f n v c : Nat), crcCh m f n v c = (digits n v).foldl cByte c
  | 0, n, v, c => crcGo_eq n v c
  | f + 1, n, v, c => by
    simp only [crcCh, nfN_eq, nble, Bool.cond_decide]
    split
    · exact crcGo_eq n v c
    · rename_i h
      rw [crcCh_eq m f, crcGo_eq, shl256, Nat.one_mul, digits_mod _ _ _ (Nat.le_refl _), shr256, ← List.foldl_append, ← digits_split, show m + (n - m) = n by omega]
theorem crcBs_eq (b : Bs) : crcBs b = 4294967295 - b.list.foldl cByte 4294967295 := by
  unfold crcBs; rw [crcCh_eq]; rfl

/-! ### Bytes in memory -/
def bytesB (h : AH) : AV → Option Bs
  | .slice k off n _ => match h.get k with
    | some (.cells _ cs) => match (cs.sub off n).bt? with
      | some b => bif Nat.beq b.n n && Nat.ble n 1000000000 then some b else none
      | none => none
    | _ => none
  | .lit (.slice none n _) => bif Nat.beq n 0 then some ⟨0, 0⟩ else none
  | .empty _ => some ⟨0, 0⟩
  | _ => none
def rowsB (h : AH) : List AV → Option Bs
  | [] => some ⟨0, 0⟩
  | x :: l => match bytesB h x, rowsB h l with
    | some a, some b => some (a.app b)
    | _, _ => none
/-- how many bytes are the same at the begin -/
def shGo : Nat → Nat → Nat → Nat → Nat → Nat
  | 0, _, _, _, acc => acc
  | _ + 1, _, 0, _, acc => acc
  | n + 1, v, m + 1, w, acc => bif Nat.beq (v % 256) (w % 256) then nfN (v / 256) fun v => nfN (w / 256) fun w => nfN (acc + 1) fun acc => shGo n v m w acc else acc
/-- what is known of the program that runs: its functions, the two tests that always hold, utf8's tables -/
structure Tolds where
  runs : FuncId
  sum : FuncId
  equal : FuncId
  shared : FuncId
  t1 : FuncId
  t2 : FuncId
  first : Nat
  acc : Nat
  c1 : List AV
  c2 : List AV
  /-- a long file, and its check (shown in pieces) -/
  big : Bs
  bigSum : Nat
def Tolds.crc (T : Tolds) (b : Bs) : Nat := bif Nat.beq b.n T.big.n && Nat.beq b.v T.big.v then T.bigSum else crcBs b
theorem Tolds.crc_eq {T : Tolds} (h : crcBs T.big = T.bigSum) (b : Bs) : T.crc b = crcBs b := by
  unfold Tolds.crc
  generalize hc : (Nat.beq b.n T.big.n && Nat.beq b.v T.big.v) = c
  cases c with
  | false => rfl
  | true =>
    simp only [Bool.and_eq_true, nbeq, decide_eq_true_eq] at hc
    have e : b = T.big := by
      obtain ⟨n, v⟩ := b
      obtain ⟨h1, h2⟩ := hc
      show Bs.mk n v = _
      rw [show n = T.big.n from h1, show v = T.big.v from h2]
    rw [e, cond_true, h]
/-- a piece of a check -/
theorem crc_seg {f m n v c c1 : Nat} (h : crcCh 512 f m (v % Nat.shiftLeft 1 (8 * m)) c = c1) : (digits (m + n) v).foldl cByte c = (digits n (Nat.shiftRight v (8 * m))).foldl cByte c1 := by
  rw [digits_split, List.foldl_append, shr256]
  rw [crcCh_eq, shl256, Nat.one_mul, digits_mod _ _ _ (Nat.le_refl _)] at h
  rw [h]
theorem crc_end {f n v c c1 : Nat} (h : crcCh 512 f n v c = c1) : (digits n v).foldl cByte c = c1 := by rw [← h, crcCh_eq]
def oneTok (h : AH) (s : Bs) : AV × AH := (.slice h.next 0 1 (.room 4), h.new (.cells false (.av [.str s, ii 0, ii 0, ii s.n])))
def runsS (T : Tolds) (h : AH) (s : Bs) (k1 k2 : FuncId) : Option (AV × AH) :=
  match h.get T.first, h.get T.acc with
  | some (.cells true (.av c1)), some (.cells true (.av c2)) =>
    bif Nat.beq k1 T.t1 && Nat.beq k2 T.t2 && AV.beqs c1 T.c1 && AV.beqs c2 T.c2 && Nat.ble 1 s.n && Nat.ble s.n 1000000 then some (oneTok h s) else none
  | _, _ => none
def toldS (T : Tolds) (h : AH) (f : FuncId) (a : List AV) : Option (AV × AH) :=
  bif Nat.beq f T.runs then
    match a with
    | [.str s, .func k1 [] [], .func k2 [] []] => runsS T h s k1 k2
    | _ => none
  else bif Nat.beq f T.sum then
    match a with
    | [.slice k off n _] => match h.get k with
      | some (.cells _ (.av cs)) => bif Nat.ble (off + n) cs.length && Nat.ble n 1000000000 then (match rowsB h ((cs.drop off).take n) with | some b => some (.int .u32 (.ofNat (T.crc b)), h) | none => none) else none
      | _ => none
    | _ => none
  else bif Nat.beq f T.equal then
    match a with
    | [x, y] => match bytesB h x, bytesB h y with
      | some a, some b => some (.bool (a.beq b), h)
      | _, _ => none
    | _ => none
  else bif Nat.beq f T.shared then
    match a with
    | [.str a, .str b] => bif Nat.ble a.n 1000000000 && Nat.ble b.n 1000000000 then some (.int .i64 (.ofNat (shGo a.n a.v b.n b.v 0)), h) else none
    | _ => none
  else none
end Go.Proofs.YtfmopmjgohopeaaGreatDoor.Ev

/-
  A long file, printed by a program; the kernel runs them.
-/
set_option linter.unusedVariables false
set_option linter.unusedSimpArgs false
set_option linter.constructorNameAsVariable false
namespace Go.Proofs.YtfmopmjgohopeaaGreatDoor
open Go Go.Proofs.YtfmopmjgohopeaaGreatDoor Go.Proofs.YtfmopmjgohopeaaGreatDoor.Ev
set_option maxRecDepth 1000000
set_option maxHeartbeats 0
def bigB : Bs := bs [(33, 3763447863073145968052391431781666631773780824846104858229554600929839250756684), (4097, 0), (4, 545289217), (4097, 0), (4, 545289217), (4097, 0), (4, 545289217), (4097, 0), (4, 545289217), (4097, 0), (4, 545289217), (4097, 0), (4, 545289217), (4097, 0), (4, 545289217), (4097, 0), (4, 545289217), (4097, 0), (4, 545289217), (4097, 0), (4, 545289217), (4097, 0), (4, 545289217), (4097, 0), (4, 545289217), (4097, 0), (4, 545289217), (4097, 0), (4, 545289217), (4097, 0), (4, 545289217), (4097, 0), (4, 545289217), (4097, 0), (4, 545289217), (4097, 0), (4, 545289217), (4097, 0), (4, 545289217), (4097, 0), (4, 545289217), (4097, 0), (4, 545289217), (4097, 0), (4, 545289217), (4097, 0), (4, 545289217), (4097, 0), (4, 545289217), (4097, 0), (4, 545289217), (4097, 0), (4, 545289217), (4097, 0), (4, 545289217), (4097, 0), (4, 545289217), (4097, 0), (4, 545289217), (4097, 0), (4, 545289217), (4097, 0), (4, 545289217), (4097, 0), (4, 545289217), (4097, 0), (4, 545289217), (4097, 0), (4, 545289217), (4097, 0), (4, 545289217), (4097, 0), (4, 545289217), (4097, 0), (4, 545289217), (4097, 0), (4, 545289217), (4097, 0), (4, 545289217), (4097, 0), (4, 545289217), (4097, 0), (4, 545289217), (4097, 0), (4, 545289217), (4097, 0), (4, 545289217), (4097, 0), (4, 545289217), (4097, 0), (4, 545289217), (4097, 0), (4, 545289217), (4097, 0), (4, 545289217), (4097, 0), (4, 545289217), (4097, 0), (4, 545289217), (4097, 0), (4, 545289217), (4097, 0), (4, 545289217), (4097, 0), (4, 545289217), (4097, 0), (4, 545289217), (4097, 0), (4, 545289217), (4097, 0), (4, 545289217), (4097, 0), (4, 545289217), (4097, 0), (4, 545289217), (4097, 0), (4, 545289217), (4097, 0), (4, 545289217), (4097, 0), (4, 545289217), (4097, 0), (4, 545289217), (4097, 0), (4, 545289217), (4097, 0), (5, 137429778689), (4096, 0), (9, 590224597606234063105), (4095, 0), (98, 376142797830173531672218150271412154193071986633119828713703905290263285987022595930367988366947291310317279109359628425123200226834740730174191450605638358038675446823611139523919406845916156705915570073065469868717129276583911423)]
def bigSum : Nat := 3650611585
end Go.Proofs.YtfmopmjgohopeaaGreatDoor

/-
  A piece of a long file's check, printed by a program; the kernel runs them.
-/
set_option linter.unusedVariables false
set_option linter.unusedSimpArgs false
set_option linter.constructorNameAsVariable false
namespace Go.Proofs.YtfmopmjgohopeaaGreatDoor.Wf
open Go Go.Proofs.YtfmopmjgohopeaaGreatDoor Go.Proofs.YtfmopmjgohopeaaGreatDoor.Ev
set_option maxRecDepth 1000000
set_option maxHeartbeats 0
theorem seg0 : crcCh 512 200 48000 (bigB.v % Nat.shiftLeft 1 (8 * 48000)) 4294967295 = 673235237 := by kernel_rfl
end Go.Proofs.YtfmopmjgohopeaaGreatDoor.Wf

/-
  A piece of a long file's check, printed by a program; the kernel runs them.
-/
set_option linter.unusedVariables false
set_option linter.unusedSimpArgs false
set_option linter.constructorNameAsVariable false
namespace Go.Proofs.YtfmopmjgohopeaaGreatDoor.Wf
open Go Go.Proofs.YtfmopmjgohopeaaGreatDoor Go.Proofs.YtfmopmjgohopeaaGreatDoor.Ev
set_option maxRecDepth 1000000
set_option maxHeartbeats 0
theorem seg1 : crcCh 512 200 48000 (Nat.shiftRight bigB.v (8 * 48000) % Nat.shiftLeft 1 (8 * 48000)) 673235237 = 1271000004 := by kernel_rfl
end Go.Proofs.YtfmopmjgohopeaaGreatDoor.Wf

/-
  A piece of a long file's check, printed by a program; the kernel runs them.
-/
set_option linter.unusedVariables false
set_option linter.unusedSimpArgs false
set_option linter.constructorNameAsVariable false
namespace Go.Proofs.YtfmopmjgohopeaaGreatDoor.Wf
open Go Go.Proofs.YtfmopmjgohopeaaGreatDoor Go.Proofs.YtfmopmjgohopeaaGreatDoor.Ev
set_option maxRecDepth 1000000
set_option maxHeartbeats 0
theorem seg2 : crcCh 512 200 48000 (Nat.shiftRight bigB.v (8 * 96000) % Nat.shiftLeft 1 (8 * 48000)) 1271000004 = 2201912663 := by kernel_rfl
end Go.Proofs.YtfmopmjgohopeaaGreatDoor.Wf

/-
  A piece of a long file's check, printed by a program; the kernel runs them.
-/
set_option linter.unusedVariables false
set_option linter.unusedSimpArgs false
set_option linter.constructorNameAsVariable false
namespace Go.Proofs.YtfmopmjgohopeaaGreatDoor.Wf
open Go Go.Proofs.YtfmopmjgohopeaaGreatDoor Go.Proofs.YtfmopmjgohopeaaGreatDoor.Ev
set_option maxRecDepth 1000000
set_option maxHeartbeats 0
theorem seg3 : crcCh 512 200 48000 (Nat.shiftRight bigB.v (8 * 144000) % Nat.shiftLeft 1 (8 * 48000)) 2201912663 = 2408965144 := by kernel_rfl
end Go.Proofs.YtfmopmjgohopeaaGreatDoor.Wf

/-
  A piece of a long file's check, printed by a program; the kernel runs them.
-/
set_option linter.unusedVariables false
set_option linter.unusedSimpArgs false
set_option linter.constructorNameAsVariable false
namespace Go.Proofs.YtfmopmjgohopeaaGreatDoor.Wf
open Go Go.Proofs.YtfmopmjgohopeaaGreatDoor Go.Proofs.YtfmopmjgohopeaaGreatDoor.Ev
set_option maxRecDepth 1000000
set_option maxHeartbeats 0
theorem seg4 : crcCh 512 200 48000 (Nat.shiftRight bigB.v (8 * 192000) % Nat.shiftLeft 1 (8 * 48000)) 2408965144 = 1228795472 := by kernel_rfl
end Go.Proofs.YtfmopmjgohopeaaGreatDoor.Wf

/-
  A piece of a long file's check, printed by a program; the kernel runs them.
-/
set_option linter.unusedVariables false
set_option linter.unusedSimpArgs false
set_option linter.constructorNameAsVariable false
namespace Go.Proofs.YtfmopmjgohopeaaGreatDoor.Wf
open Go Go.Proofs.YtfmopmjgohopeaaGreatDoor Go.Proofs.YtfmopmjgohopeaaGreatDoor.Ev
set_option maxRecDepth 1000000
set_option maxHeartbeats 0
theorem seg5 : crcCh 512 200 26695 (Nat.shiftRight bigB.v (8 * 240000)) 1228795472 = 644355710 := by kernel_rfl
end Go.Proofs.YtfmopmjgohopeaaGreatDoor.Wf

/-
  A long file's check, printed by a program; the kernel runs them.
-/
set_option linter.unusedVariables false
set_option linter.unusedSimpArgs false
set_option linter.constructorNameAsVariable false
namespace Go.Proofs.YtfmopmjgohopeaaGreatDoor.Wf
open Go Go.Proofs.YtfmopmjgohopeaaGreatDoor Go.Proofs.YtfmopmjgohopeaaGreatDoor.Ev
set_option maxRecDepth 1000000
set_option maxHeartbeats 0
theorem shr_shr (v a b : Nat) : Nat.shiftRight (Nat.shiftRight v (8 * a)) (8 * b) = Nat.shiftRight v (8 * (a + b)) := by
  rw [shr256, shr256, shr256, Nat.div_div_eq_div_mul, ← Nat.pow_add]
theorem bigLen : bigB.n = 266695 := by kernel_rfl
theorem all0 : (digits 266695 bigB.v).foldl cByte 4294967295 = 644355710 := by
  have e0 := crc_seg (n := 218695) seg0
  have e1 := crc_seg (n := 170695) seg1
  rw [shr_shr] at e1
  have e2 := crc_seg (n := 122695) seg2
  rw [shr_shr] at e2
  have e3 := crc_seg (n := 74695) seg3
  rw [shr_shr] at e3
  have e4 := crc_seg (n := 26695) seg4
  rw [shr_shr] at e4
  refine e0.trans ?_
  refine e1.trans ?_
  refine e2.trans ?_
  refine e3.trans ?_
  refine e4.trans ?_
  exact crc_end seg5
theorem all1 : bigB.list.foldl cByte 4294967295 = 644355710 := by
  have h := all0
  rw [← bigLen] at h
  exact h
theorem sub_of {x c s : Nat} (h : x = c) (hs : Nat.beq (4294967295 - c) s = true) : 4294967295 - x = s := by rw [h]; exact Nat.eq_of_beq_eq_true hs
end Go.Proofs.YtfmopmjgohopeaaGreatDoor.Wf
namespace Go.Proofs.YtfmopmjgohopeaaGreatDoor
open Go Ev
theorem bigSum_ok : crcBs bigB = bigSum := (crcBs_eq bigB).trans (Wf.sub_of Wf.all1 (by decide))
end Go.Proofs.YtfmopmjgohopeaaGreatDoor

/- Words for memory: a slice that reads as a list of cells, a block known whole, append onto a row of the call's own from whatever source. Turned from the kit's page of words to copy. -/
set_option linter.unusedVariables false
set_option linter.unusedSimpArgs false
namespace Go.Proofs.YtfmopmjgohopeaaGreatDoor
open Go.RowKit

theorem block_of_add (a : Addr) (n : Nat) : (a.add n).block = a.block := by unfold Addr.add; split <;> rfl
theorem add_of_add (a : Addr) (i j : Nat) : (a.add i).add j = a.add (i + j) := by
  unfold Addr.add
  by_cases hi : i = 0 <;> by_cases hj : j = 0 <;> simp [hi, hj, Nat.add_assoc]

def Reads (w : World) (B size : Nat) (A : Option Addr) (n : Nat) (xs : List Value) : Prop :=
  xs.length = n * size ∧ (0 < n → ∃ ad, A = some ad ∧ ad.block < B ∧ ∀ j u, xs[j]? = some u → w.cell? (ad.add j) = some u)

section
variable {w w' : World} {B B' size n : Nat} {A : Option Addr} {xs : List Value}
theorem Reads.none_ : Reads w B size A 0 [] := ⟨by simp, fun h => absurd h (by omega)⟩
theorem Reads.at_ {k : Nat} (h : Reads w B 1 A n xs) (hk : k < n) : ∃ ad u, A = some ad ∧ ad.block < B ∧ xs[k]? = some u ∧ w.cell? (ad.add k) = some u := by
  obtain ⟨ad, e, hb, hc⟩ := h.2 (by omega)
  have hl : k < xs.length := by have := h.1; omega
  exact ⟨ad, xs[k], e, hb, List.getElem?_eq_getElem hl, hc k _ (List.getElem?_eq_getElem hl)⟩
theorem Reads.keep (h : Reads w B size A n xs) (hk : ∀ p : Addr, p.block < B → w'.cell? p = w.cell? p) : Reads w' B size A n xs :=
  ⟨h.1, fun hn => by
    obtain ⟨ad, e, hb, hc⟩ := h.2 hn
    exact ⟨ad, e, hb, fun j u hu => (hk _ (by rw [block_of_add]; exact hb)).trans (hc j u hu)⟩⟩
theorem Reads.more (h : Reads w B size A n xs) (hB : B ≤ B') : Reads w B' size A n xs :=
  ⟨h.1, fun hn => by
    obtain ⟨ad, e, hb, hc⟩ := h.2 hn
    exact ⟨ad, e, by omega, hc⟩⟩
theorem Reads.below (h : Reads w B size A n xs) (hb : Below B w w') : Reads w' B size A n xs := h.keep fun _ hp => hb.cell hp
theorem Reads.drew (h : Reads w B size A n xs) : Reads w.drew B size A n xs := h
theorem Reads.drewN (h : Reads w B size A n xs) (k : Nat) : Reads (w.drewN k) B size A n xs := h
theorem Reads.alloc (h : Reads w B size A n xs) (hB : B ≤ w.heap.size) (o : Obj) : Reads (w.alloc o) B size A n xs := h.keep fun p hp => World.cell?_alloc_lt w o p (by omega)
theorem Reads.setCell (h : Reads w B size A n xs) {p : Addr} (hB : B ≤ p.block) (u : Value) : Reads (w.setCell p u) B size A n xs :=
  h.keep fun q hq => World.cell?_setCell_other w p q u (fun e => by subst e; omega)
theorem Reads.grown (h : Reads w B size A n xs) {row : Option Nat} (hg : w.grownBy w' row) (hB : B ≤ w.heap.size) (hr : ∀ g, row = some g → B ≤ g) : Reads w' B size A n xs :=
  h.keep fun p hp => World.cell?_of_block (hg.block p.block (by omega) (fun e => by have := hr _ e.symm; omega))
theorem Reads.cut (h : Reads w B size A n xs) {k cap : Nat} (hk : k ≤ n) (hc : n ≤ cap) :
    Reads w B size (if cap = k then A else A.map (·.add (k * size))) (n - k) (xs.drop (k * size)) := by
  refine ⟨by rw [List.length_drop, h.1, Nat.sub_mul], fun hn => ?_⟩
  obtain ⟨ad, rfl, hb, hcell⟩ := h.2 (by omega)
  rw [if_neg (by omega)]
  refine ⟨ad.add (k * size), rfl, by rw [block_of_add]; exact hb, fun j u hu => ?_⟩
  rw [add_of_add]
  exact hcell _ u (by rw [← hu, List.getElem?_drop])
theorem Reads.of_own {base : Nat} {e : TypeId} {c : Nat} (h : w.ownsRow base e size (.slice A n c) n xs) : Reads w w.heap.size size A n xs := by
  refine ⟨h.1, fun hn => ?_⟩
  obtain ⟨g, cap, hv, _, hlt⟩ := h.form hn
  have hA : A = some ⟨g, 0, none⟩ := by injection hv
  subst hA
  exact ⟨_, rfl, hlt, h.cells (g := g) rfl⟩
end

def Blk (w : World) (g : Nat) (t : TypeId) (cs : Array Value) : Prop := w.heap[g]? = some (.cells cs t (0, 0))

section
variable {w w' : World} {g : Nat} {t : TypeId} {cs : Array Value}
theorem Blk.lt (h : Blk w g t cs) : g < w.heap.size := by
  rcases Nat.lt_or_ge g w.heap.size with hlt | hge
  · exact hlt
  · unfold Blk at h; rw [Array.getElem?_eq_none hge] at h; cases h
theorem Blk.cell (h : Blk w g t cs) (i : Nat) : w.cell? ⟨g, i, none⟩ = cs[i]? := cell_of_row w g i cs t (0, 0) h
theorem Blk.frozen (h : Blk w g t cs) (i : Nat) : w.frozen? ⟨g, i, none⟩ = false := by
  unfold Blk at h
  simp [World.frozen?, h]
theorem Blk.new (w : World) (t : TypeId) (cs : Array Value) : Blk (w.alloc (.cells cs t)) w.heap.size t cs := heap_alloc_new w _
theorem Blk.drew (h : Blk w g t cs) : Blk w.drew g t cs := h
theorem Blk.drewN (h : Blk w g t cs) (n : Nat) : Blk (w.drewN n) g t cs := h
theorem Blk.alloc (h : Blk w g t cs) (o : Obj) : Blk (w.alloc o) g t cs := (Below.heap_alloc w o g h.lt).trans h
theorem Blk.set_ (h : Blk w g t cs) (i : Nat) (u : Value) : Blk (w.setCell ⟨g, i, none⟩ u) g t (cs.setIfInBounds i u) := by
  unfold Blk at h ⊢
  simp [World.setCell, Array.getElem?_modify, h]
theorem Blk.far (h : Blk w g t cs) {p : Addr} (hp : g ≠ p.block) (u : Value) : Blk (w.setCell p u) g t cs := (Below.heap_setCell w p u g hp).trans h
theorem Blk.below {B : Nat} (h : Blk w g t cs) (hb : Below B w w') (hg : g < B) : Blk w' g t cs := (hb.block g hg).trans h
theorem Blk.grown {row : Option Nat} (h : Blk w g t cs) (hb : w.grownBy w' row) (hg : some g ≠ row) : Blk w' g t cs := (hb.block g h.lt hg).trans h
theorem Blk.ne_ {g' : Nat} {t' : TypeId} {cs' : Array Value} (h : Blk w g t cs) (h' : Blk w g' t' cs') (hne : t ≠ t') : g ≠ g' := by
  rintro rfl
  unfold Blk at h h'
  rw [h] at h'
  injection h' with h'
  injection h' with _ ht
  exact hne ht
theorem own_blk_ne {base : Nat} {e : TypeId} {size n : Nat} {v : Value} {xs : List Value} (h : w.ownsRow base e size v n xs) (hg : Blk w g t cs) (hne : e ≠ t) : v.ownBlock ≠ some g := by
  rcases h.2 with ⟨rfl, _⟩ | ⟨g', cap, cur, rfl, _, hh, _⟩
  · simp [Value.ownBlock]
  · intro he
    have : g' = g := by simpa [Value.ownBlock] using he
    subst this
    exact Blk.ne_ (t := e) hh hg hne rfl
end

section
variable {P : Program} (w : World)

theorem run_append_of_nil (base : Nat) (t ty e : TypeId) (i : TypeInfo) (size : Nat) (ht : P.underlying t = some (.slice e)) (hi : P.info? e = some i)
    (v : Value) (n : Nat) (xs : List Value) (hown : w.ownsRow base e size v n xs) (c : Nat) : (Builtin.append_ #[t, t] ty #[v, .slice none 0 c]).run P w = .ok v w := by
  rcases hown.2 with ⟨rfl, rfl⟩ | ⟨g, cap, cur, rfl, _, _, hnc, _⟩
  · simp [Builtin.append_, run_underlying ht, sizeOf, typeInfo, hi, Builtin.lenOf, Builtin.firstCells]
  · simp [Builtin.append_, run_underlying ht, sizeOf, typeInfo, hi, Builtin.lenOf, Builtin.firstCells, hnc, storeCells]

theorem run_append_any (base : Nat) (t ty e : TypeId) (i : TypeInfo) (z : Value) (size bytes : Nat) (ht : P.underlying t = some (.slice e)) (hi : P.info? e = some i) (hz : i.zero = some z)
    (hsize : i.size = size) (hby : i.bytes = bytes) (hzs : z.cells.size = size) (hsz : 0 < size)
    (v : Value) (n : Nat) (xs : List Value) (hown : w.ownsRow base e size v n xs)
    (B : Nat) (A : Option Addr) (m c : Nat) (news : List Value) (hr : Reads w B size A m news) (h1 : ∀ u ∈ news, u.oneCell' = true)
    (h63 : n + m ≤ maxLen) (hbytes : (n + m) * bytes ≤ 140737488355328) (hbase : base ≤ w.heap.size) :
    ∃ v' w', (Builtin.append_ #[t, t] ty #[v, .slice A m c]).run P w = .ok v' w' ∧ w'.ownsRow base e size v' (n + m) (xs ++ news) ∧ w.grownBy w' v.ownBlock ∧
      (v'.ownBlock = v.ownBlock ∨ v'.ownBlock = some w.heap.size) := by
  rcases A with _ | ad
  · have hm : m = 0 := by
      rcases Nat.eq_zero_or_pos m with h0 | h0
      · exact h0
      · obtain ⟨ad, h, _⟩ := hr.2 h0
        cases h
    subst hm
    have hn : news = [] := List.eq_nil_of_length_eq_zero (by simpa using hr.1)
    subst hn
    exact ⟨v, w, run_append_of_nil w base t ty e i size ht hi v n xs hown c, by simpa using hown, World.grownBy.refl w _, .inl rfl⟩
  · have hcells : ∀ j u, news[j]? = some u → w.cell? (ad.add j) = some u := by
      intro j u hu
      rcases Nat.eq_zero_or_pos m with h0 | h0
      · subst h0
        have hn : news = [] := List.eq_nil_of_length_eq_zero (by simpa using hr.1)
        subst hn
        simp at hu
      · obtain ⟨ad', h, _, hc⟩ := hr.2 h0
        injection h with h
        subst h
        exact hc j u hu
    obtain ⟨v', w', hrun, h2, h3, _, h5⟩ := run_append_own_at (P := P) w base t ty e i z size bytes ht hi hz hsize hby hzs hsz v n xs hown ad m c news hr.1 hcells h1 h63 hbytes hbase
    exact ⟨v', w', hrun, h2, h3, h5⟩

theorem wp_append_any {o : Oper} {a : Act} {K : Act → World → Prop} {Q : Exit → Act → World → Prop} (s x : Operand) (t : TypeId)
    (ho : o.op = .call { callee := .builtin .append, args := #[s, x], argTypes := #[t, t] })
    (base : Nat) (e : TypeId) (i : TypeInfo) (z : Value) (size bytes : Nat) (ht : P.underlying t = some (.slice e)) (hi : P.info? e = some i) (hz : i.zero = some z)
    (hsize : i.size = size) (hby : i.bytes = bytes) (hzs : z.cells.size = size) (hsz : 0 < size)
    (v : Value) (n : Nat) (xs : List Value) (hs : a.eval s = v) (hown : w.ownsRow base e size v n xs)
    (B : Nat) (A : Option Addr) (m c : Nat) (news : List Value) (hx : a.eval x = .slice A m c) (hr : Reads w B size A m news) (h1 : ∀ u ∈ news, u.oneCell' = true)
    (h63 : n + m ≤ maxLen) (hbytes : (n + m) * bytes ≤ 140737488355328) (hbase : base ≤ w.heap.size)
    (h : ∀ v' w', w'.ownsRow base e size v' (n + m) (xs ++ news) → w.grownBy w' v.ownBlock → (v'.ownBlock = v.ownBlock ∨ v'.ownBlock = some w.heap.size) → K (a.put o.dst v') w') : o.wp P a w K Q := by
  obtain ⟨v', w', hrun, h2, h3, h4⟩ := run_append_any (P := P) w base t o.type e i z size bytes ht hi hz hsize hby hzs hsz v n xs hown B A m c news hr h1 h63 hbytes hbase
  unfold Oper.wp execOp
  simp only [ho, resolve, invoke, builtin, Sem.run_bind, Sem.run_pure, Result.andThen_ok, List.map_toArray, List.map_cons, List.map_nil, hs, hx, hrun]
  exact h v' w' h2 h3 h4

theorem wpList_append_any {ops : Array Oper} {rest : List Oper} {o : Oper} {a : Act} {Q : Exit → Act → World → Prop} (hgd : o.guard = none) (s x : Operand) (t : TypeId)
    (ho : o.op = .call { callee := .builtin .append, args := #[s, x], argTypes := #[t, t] })
    (base : Nat) (e : TypeId) (i : TypeInfo) (z : Value) (size bytes : Nat) (ht : P.underlying t = some (.slice e)) (hi : P.info? e = some i) (hz : i.zero = some z)
    (hsize : i.size = size) (hby : i.bytes = bytes) (hzs : z.cells.size = size) (hsz : 0 < size)
    (v : Value) (n : Nat) (xs : List Value) (hs : a.eval s = v) (hown : w.ownsRow base e size v n xs)
    (B : Nat) (A : Option Addr) (m c : Nat) (news : List Value) (hx : a.eval x = .slice A m c) (hr : Reads w B size A m news) (h1 : ∀ u ∈ news, u.oneCell' = true)
    (h63 : n + m ≤ maxLen) (hbytes : (n + m) * bytes ≤ 140737488355328) (hbase : base ≤ w.heap.size)
    (h : ∀ v' w', w'.ownsRow base e size v' (n + m) (xs ++ news) → w.grownBy w' v.ownBlock → (v'.ownBlock = v.ownBlock ∨ v'.ownBlock = some w.heap.size) → wpList P ops Q rest (a.put o.dst v') w') : wpList P ops Q (o :: rest) a w :=
  wpList_plain hgd fun _ hK => wp_append_any w s x t ho base e i z size bytes ht hi hz hsize hby hzs hsz v n xs hs hown B A m c news hx hr h1 h63 hbytes hbase fun v' w' h2 h3 h4 => hK _ _ (h v' w' h2 h3 h4)

theorem step_append_any {ops : Array Oper} {o : Oper} {a : Act} {K : Act → World → Prop} {Q : Exit → Act → World → Prop} {E : Prop} (hgd : o.guard = none) (s x : Operand) (t : TypeId)
    (ho : o.op = .call { callee := .builtin .append, args := #[s, x], argTypes := #[t, t] })
    (base : Nat) (e : TypeId) (i : TypeInfo) (z : Value) (size bytes : Nat) (ht : P.underlying t = some (.slice e)) (hi : P.info? e = some i) (hz : i.zero = some z)
    (hsize : i.size = size) (hby : i.bytes = bytes) (hzs : z.cells.size = size) (hsz : 0 < size)
    (v : Value) (n : Nat) (xs : List Value) (hs : a.eval s = v) (hown : w.ownsRow base e size v n xs)
    (B : Nat) (A : Option Addr) (m c : Nat) (news : List Value) (hx : a.eval x = .slice A m c) (hr : Reads w B size A m news) (h1 : ∀ u ∈ news, u.oneCell' = true)
    (h63 : n + m ≤ maxLen) (hbytes : (n + m) * bytes ≤ 140737488355328) (hbase : base ≤ w.heap.size)
    (h : ∀ v' w', w'.ownsRow base e size v' (n + m) (xs ++ news) → w.grownBy w' v.ownBlock → (v'.ownBlock = v.ownBlock ∨ v'.ownBlock = some w.heap.size) → K (a.put o.dst v') w') :
    if Region.wanted o (yielded ops a.tmps) = true then Oper.wp P o a w K Q else E := by
  have hw : Region.wanted o (yielded ops a.tmps) = true := by simp [Region.wanted, hgd]
  rw [if_pos hw]
  exact wp_append_any w s x t ho base e i z size bytes ht hi hz hsize hby hzs hsz v n xs hs hown B A m c news hx hr h1 h63 hbytes hbase h
end

/-- A block that has just been laid, as a slice over all of it. -/
theorem reads_new (w : World) (cs : Array Value) (t : TypeId) (n size : Nat) (h : cs.size = n * size) :
    Reads (w.alloc (.cells cs t)) (w.heap.size + 1) size (some ⟨w.heap.size, 0, none⟩) n cs.toList := by
  refine ⟨by simpa using h, fun _ => ⟨_, rfl, by simp, fun j u hu => ?_⟩⟩
  have hb : Blk (w.alloc (.cells cs t)) w.heap.size t cs := Blk.new w t cs
  have := hb.cell j
  rw [show (⟨w.heap.size, 0, none⟩ : Addr).add j = ⟨w.heap.size, j, none⟩ by unfold Addr.add; split <;> simp_all]
  rw [this]
  simpa using hu

theorem below_any {base : Nat} {w w1 w2 : World} {v v' : Value} (h : Below base w w1) (hb : base ≤ w1.heap.size) (hv : v.ownBlock = none ∨ ∃ k, v.ownBlock = some k ∧ base ≤ k) (hg : w1.grownBy w2 v.ownBlock) : Below base w w2 :=
  h.grown hg hb (fun k hk => by
    rcases hv with e | ⟨k', e, hk'⟩
    · rw [e] at hk; cases hk
    · rw [e] at hk; cases hk; exact hk')

theorem own_from {w : World} {base : Nat} {e : TypeId} {size n : Nat} {v : Value} {xs : List Value} (h : w.ownsRow base e size v n xs) : v.ownBlock = none ∨ ∃ k, v.ownBlock = some k ∧ base ≤ k := by
  rcases hv : v.ownBlock with _ | k
  · exact .inl rfl
  · exact .inr ⟨k, rfl, (h.lt k hv).1⟩

theorem own_cap {w : World} {base : Nat} {e : TypeId} {size n m cap : Nat} {A : Option Addr} {xs : List Value} (h : w.ownsRow base e size (.slice A m cap) n xs) : n ≤ cap ∧ cap ≤ 9223372036854775807 := by
  rcases h.2 with ⟨hv, hn⟩ | ⟨g, c, cur, hv, _, _, h1, h2, _⟩
  · injection hv with _ _ hc
    omega
  · injection hv with _ _ hc
    unfold maxLen at h2
    omega

/-- Two slices of the call's own do not lie in one block. -/
def Apart (u d : Value) : Prop := d.ownBlock = none ∨ d.ownBlock ≠ u.ownBlock
theorem Apart.symm {u d : Value} (h : Apart u d) : Apart d u := by
  unfold Apart at *
  rcases hu : u.ownBlock with _ | k
  · exact .inl rfl
  · right
    rcases h with h | h
    · rw [h]; simp
    · intro e; exact h (by rw [hu, e])
theorem Apart.kept {w w' : World} {base : Nat} {e : TypeId} {size n : Nat} {u d : Value} {xs : List Value} (ha : Apart u d) (h : w.ownsRow base e size d n xs) (hg : w.grownBy w' u.ownBlock) : w'.ownsRow base e size d n xs := h.kept hg ha
theorem Apart.grown {w : World} {base : Nat} {e : TypeId} {size n : Nat} {u u' d : Value} {xs : List Value} (ha : Apart u d) (h : w.ownsRow base e size d n xs) (hat : u'.ownBlock = u.ownBlock ∨ u'.ownBlock = some w.heap.size) : Apart u' d := by
  rcases hat with hat | hat
  · unfold Apart at *; rw [hat]; exact ha
  · unfold Apart
    rcases hd : d.ownBlock with _ | k
    · exact .inl rfl
    · right
      rw [hat]
      have := (h.lt k hd).2
      simp; omega

theorem own_slice {w : World} {base : Nat} {e : TypeId} {size n : Nat} {v : Value} {xs : List Value} (h : w.ownsRow base e size v n xs) : ∃ A cap, v = .slice A n cap := by
  rcases h.2 with ⟨rfl, rfl⟩ | ⟨g, c, cur, rfl, _⟩
  · exact ⟨_, _, rfl⟩
  · exact ⟨_, _, rfl⟩

theorem cell_lt {w : World} {a : Addr} {v : Value} (h : w.cell? a = some v) : a.block < w.heap.size := by
  rcases Nat.lt_or_ge a.block w.heap.size with hlt | hge
  · exact hlt
  · unfold World.cell? at h
    rw [Array.getElem?_eq_none hge] at h
    simp at h

theorem addr_head (g j : Nat) : (⟨g, 0, none⟩ : Addr).add j = ⟨g, j, none⟩ := by unfold Addr.add; split <;> simp_all
theorem addr_at (b off j : Nat) : (⟨b, off, none⟩ : Addr).add j = ⟨b, off + j, none⟩ := by unfold Addr.add; split <;> simp_all

end Go.Proofs.YtfmopmjgohopeaaGreatDoor

/- Values in memory that read as plain data: numbers, texts, lists of whatever reads so, structs; what a call of our own has made (Own), and what it goes on with behind an append. No program stands here. -/
set_option linter.unusedVariables false
set_option linter.unusedSimpArgs false
namespace Go.Proofs.YtfmopmjgohopeaaGreatDoor
open Go.RowKit

/-- A type of plain data that lies in cells: 'rep w F cs x': the cells cs read as x in the world w, and no block outside F is looked into. -/
class Rep (α : Type) where
  size : Nat
  pos : 0 < size
  rep : World → (Nat → Prop) → List Value → α → Prop
  len : ∀ {w F cs x}, rep w F cs x → cs.length = size
  keep : ∀ {w w' : World} {F F' : Nat → Prop} {cs x}, rep w F cs x → (∀ p : Addr, F p.block → w'.cell? p = w.cell? p) → (∀ b, F b → F' b) → rep w' F' cs x
  one : ∀ {w F cs x u}, rep w F cs x → u ∈ cs → u.oneCell' = true
open Rep (rep)

theorem Rep.below {α : Type} [Rep α] {w w' : World} {cs : List Value} {x : α} {B : Nat} (h : rep w (· < B) cs x) (hb : Below B w w') : rep w' (· < B) cs x :=
  Rep.keep h (fun _ hp => hb.cell hp) (fun _ h => h)
theorem Rep.more {α : Type} [Rep α] {w : World} {cs : List Value} {x : α} {F F' : Nat → Prop} (h : rep w F cs x) (hF : ∀ b, F b → F' b) : rep w F' cs x :=
  Rep.keep h (fun _ _ => rfl) hF
/-- In the whole heap, then in a later world's whole heap. -/
theorem Rep.on {α : Type} [Rep α] {w w' : World} {cs : List Value} {x : α} (h : rep w (· < w.heap.size) cs x) (hb : Below w.heap.size w w') : rep w' (· < w'.heap.size) cs x :=
  Rep.keep h (fun _ hp => hb.cell hp) (fun b h => Nat.lt_of_lt_of_le h hb.size)

def In64 (n : Int) : Prop := -9223372036854775808 ≤ n ∧ n ≤ 9223372036854775807

instance : Rep Int where
  size := 1
  pos := by decide
  rep _ _ cs n := cs = [.int .i64 n] ∧ In64 n
  len := by rintro _ _ _ _ ⟨rfl, _⟩; rfl
  keep := fun h _ _ => h
  one := by rintro _ _ _ _ _ ⟨rfl, _⟩ hu; simp at hu; subst hu; rfl
instance : Rep Bool where
  size := 1
  pos := by decide
  rep _ _ cs b := cs = [.bool b]
  len := by rintro _ _ _ _ rfl; rfl
  keep := fun h _ _ => h
  one := by rintro _ _ _ _ _ rfl hu; simp at hu; subst hu; rfl
instance : Rep ByteArray where
  size := 1
  pos := by decide
  rep _ _ cs s := cs = [.string s] ∧ s.size ≤ 9223372036854775807
  len := by rintro _ _ _ _ ⟨rfl, _⟩; rfl
  keep := fun h _ _ => h
  one := by rintro _ _ _ _ _ ⟨rfl, _⟩ hu; simp at hu; subst hu; rfl

/-- Element k of what lies behind the place off in block b. -/
def ElemAt {α : Type} [Rep α] (w : World) (F : Nat → Prop) (b off : Nat) (k : Nat) (x : α) : Prop :=
  ∃ cs, rep w F cs x ∧ ∀ j u, cs[j]? = some u → w.cell? ⟨b, off + k * Rep.size α + j, none⟩ = some u

def RepList {α : Type} [Rep α] (w : World) (F : Nat → Prop) (A : Option Addr) (n c : Nat) (xs : List α) : Prop :=
  xs.length = n ∧ n ≤ c ∧ c ≤ 9223372036854775807 ∧ ∀ k x, xs[k]? = some x → ∃ b off, A = some ⟨b, off, none⟩ ∧ F b ∧ ElemAt w F b off k x

theorem ElemAt.keep {α : Type} [Rep α] {w w' : World} {F F' : Nat → Prop} {b off : Nat} {k : Nat} {x : α} (h : ElemAt w F b off k x) (hc : ∀ p : Addr, F p.block → w'.cell? p = w.cell? p) (hF : ∀ b, F b → F' b) (hb : F b) : ElemAt w' F' b off k x := by
  obtain ⟨cs, h1, h2⟩ := h
  exact ⟨cs, Rep.keep h1 hc hF, fun j u hu => (hc _ hb).trans (h2 j u hu)⟩

theorem RepList.keep {α : Type} [Rep α] {w w' : World} {F F' : Nat → Prop} {A : Option Addr} {n c : Nat} {xs : List α} (h : RepList w F A n c xs) (hc : ∀ p : Addr, F p.block → w'.cell? p = w.cell? p) (hF : ∀ b, F b → F' b) : RepList w' F' A n c xs := by
  obtain ⟨h1, h2, h3, h4⟩ := h
  refine ⟨h1, h2, h3, fun k x hx => ?_⟩
  obtain ⟨b, off, e, hb, he⟩ := h4 k x hx
  exact ⟨b, off, e, hF _ hb, he.keep hc hF hb⟩

instance {α : Type} [Rep α] : Rep (List α) where
  size := 1
  pos := by decide
  rep w F cs xs := ∃ A n c, cs = [.slice A n c] ∧ RepList w F A n c xs
  len := by rintro _ _ _ _ ⟨A, n, c, rfl, _⟩; rfl
  keep := by rintro _ _ _ _ _ _ ⟨A, n, c, rfl, h⟩ hc hF; exact ⟨A, n, c, rfl, h.keep hc hF⟩
  one := by rintro _ _ _ _ _ ⟨A, n, c, rfl, _⟩ hu; simp at hu; subst hu; rfl

theorem lt_of_get? {α : Type} {xs : List α} {k : Nat} {x : α} (h : xs[k]? = some x) : k < xs.length := by
  rcases Nat.lt_or_ge k xs.length with hl | hl
  · exact hl
  · rw [List.getElem?_eq_none hl] at h; cases h

section
variable {α : Type} [Rep α] {w w' : World} {F F' : Nat → Prop} {A : Option Addr} {n c : Nat} {xs : List α}
theorem RepList.length (h : RepList w F A n c xs) : xs.length = n := h.1
theorem RepList.cap (h : RepList w F A n c xs) : n ≤ c ∧ c ≤ 9223372036854775807 := ⟨h.2.1, h.2.2.1⟩
theorem RepList.nil : RepList w F none 0 0 ([] : List α) := ⟨rfl, Nat.le_refl _, by omega, fun k x h => by simp at h⟩
theorem RepList.below {B : Nat} (h : RepList w (· < B) A n c xs) (hb : Below B w w') : RepList w' (· < B) A n c xs := h.keep (fun _ hp => hb.cell hp) (fun _ h => h)
theorem RepList.on (h : RepList w (· < w.heap.size) A n c xs) (hb : Below w.heap.size w w') : RepList w' (· < w'.heap.size) A n c xs := h.keep (fun _ hp => hb.cell hp) (fun b h => Nat.lt_of_lt_of_le h hb.size)
theorem RepList.more (h : RepList w F A n c xs) (hF : ∀ b, F b → F' b) : RepList w F' A n c xs := h.keep (fun _ _ => rfl) hF
/-- Element k: where it lies, what it is. -/
theorem RepList.at_ {k : Nat} (h : RepList w F A n c xs) (hk : k < n) : ∃ b off x, A = some ⟨b, off, none⟩ ∧ Hid (xs[k]? = some x) ∧ F b ∧ ElemAt w F b off k x := by
  have hl : k < xs.length := by have := h.1; omega
  obtain ⟨b, off, e, hb, he⟩ := h.2.2.2 k xs[k] (List.getElem?_eq_getElem hl)
  exact ⟨b, off, xs[k], e, List.getElem?_eq_getElem hl, hb, he⟩
/-- The same, where the element is known. -/
theorem RepList.elem {b off : Nat} {k : Nat} {x : α} (h : RepList w F (some ⟨b, off, none⟩) n c xs) (hx : xs[k]? = some x) : F b ∧ ElemAt w F b off k x := by
  obtain ⟨b', off', e, hb, he⟩ := h.2.2.2 k x hx
  cases e
  exact ⟨hb, he⟩
/-- A list whose elements are all known reads so. -/
theorem RepList.of_elems {b off : Nat} (hl : xs.length = n) (hc : n ≤ c) (hm : c ≤ 9223372036854775807) (hb : F b) (h : ∀ k x, xs[k]? = some x → ElemAt w F b off k x) : RepList w F (some ⟨b, off, none⟩) n c xs :=
  ⟨hl, hc, hm, fun k x hx => ⟨b, off, rfl, hb, h k x hx⟩⟩
end

theorem ElemAt.int {w : World} {F : Nat → Prop} {b off k : Nat} {x : Int} (h : ElemAt w F b off k x) : w.cell? ⟨b, off + k, none⟩ = some (.int .i64 x) ∧ In64 x := by
  obtain ⟨cs, ⟨rfl, h1⟩, hc⟩ := h
  have := hc 0 _ rfl
  simp only [show Rep.size Int = 1 from rfl, Nat.mul_one, Nat.add_zero] at this
  exact ⟨this, h1⟩
theorem ElemAt.str {w : World} {F : Nat → Prop} {b off k : Nat} {x : ByteArray} (h : ElemAt w F b off k x) : w.cell? ⟨b, off + k, none⟩ = some (.string x) ∧ x.size ≤ 9223372036854775807 := by
  obtain ⟨cs, ⟨rfl, h1⟩, hc⟩ := h
  have := hc 0 _ rfl
  simp only [show Rep.size ByteArray = 1 from rfl, Nat.mul_one, Nat.add_zero] at this
  exact ⟨this, h1⟩
theorem ElemAt.list {α : Type} [Rep α] {w : World} {F : Nat → Prop} {b off k : Nat} {x : List α} (h : ElemAt w F b off k x) : ∃ A n c, w.cell? ⟨b, off + k, none⟩ = some (.slice A n c) ∧ RepList w F A n c x := by
  obtain ⟨cs, ⟨A, n, c, rfl, h1⟩, hc⟩ := h
  have := hc 0 _ rfl
  simp only [show Rep.size (List α) = 1 from rfl, Nat.mul_one, Nat.add_zero] at this
  exact ⟨A, n, c, this, h1⟩

/-! ### cells in a row -/
theorem flat_get {size : Nat} : ∀ (css : List (List Value)) (k j : Nat) (cs : List Value), (∀ c ∈ css, c.length = size) → css[k]? = some cs → j < size → css.flatten[k * size + j]? = cs[j]?
  | [], _, _, _, _, h, _ => by simp at h
  | c :: css, 0, j, cs, hl, h, hj => by
    simp at h
    subst h
    have := hl c (by simp)
    rw [List.flatten_cons, Nat.zero_mul, Nat.zero_add, List.getElem?_append_left (by omega)]
  | c :: css, k + 1, j, cs, hl, h, hj => by
    have h1 := hl c (by simp)
    rw [List.flatten_cons, List.getElem?_append_right (by rw [h1, Nat.add_mul]; omega)]
    rw [show (k + 1) * size + j - c.length = k * size + j by rw [h1, Nat.add_mul]; omega]
    exact flat_get css k j cs (fun c' hc' => hl c' (by simp [hc'])) (by simpa using h) hj
theorem flat_length {size : Nat} : ∀ css : List (List Value), (∀ c ∈ css, c.length = size) → css.flatten.length = css.length * size
  | [], _ => by simp
  | c :: css, hl => by
    rw [List.flatten_cons, List.length_append, hl c (by simp), flat_length css (fun c' hc' => hl c' (by simp [hc'])), List.length_cons, Nat.add_mul]; omega

/-- The blocks that have been laid from base on. -/
def Fresh (base : Nat) (w : World) (b : Nat) : Prop := base ≤ b ∧ b < w.heap.size
theorem Fresh.whole {base : Nat} {w : World} {b : Nat} (h : Fresh base w b) : b < w.heap.size := h.2
theorem Fresh.on {base : Nat} {w w' : World} (hb : Below w.heap.size w w') {b : Nat} (h : Fresh base w b) : Fresh base w' b := ⟨h.1, Nat.lt_of_lt_of_le h.2 hb.size⟩
theorem RepList.whole {α : Type} [Rep α] {w : World} {base : Nat} {A : Option Addr} {n c : Nat} {xs : List α} (h : RepList w (Fresh base w) A n c xs) : RepList w (· < w.heap.size) A n c xs := h.more (fun _ h => h.2)
theorem RepList.fresh_on {α : Type} [Rep α] {w w' : World} {base : Nat} {A : Option Addr} {n c : Nat} {xs : List α} (h : RepList w (Fresh base w) A n c xs) (hb : Below w.heap.size w w') : RepList w' (Fresh base w') A n c xs :=
  h.keep (fun _ hp => hb.cell hp.2) (fun _ h => h.on hb)

/-! ### what the call itself has made -/
/-- Where the deep parts of an owned row may lie: within D, and not in the row's own block. -/
def Fr (D : Nat → Prop) (w : World) (v : Value) (b : Nat) : Prop := D b ∧ b < w.heap.size ∧ some b ≠ v.ownBlock

/-- The slice value v, made by the call itself (its row in a block from base on, its deep parts within D), reads as xs. -/
def Own {α : Type} [Rep α] (D : Nat → Prop) (w : World) (base : Nat) (e : TypeId) (v : Value) (xs : List α) : Prop :=
  ∃ css : List (List Value), css.length = xs.length ∧ (∀ (k : Nat) (cs : List Value) (x : α), css[k]? = some cs → xs[k]? = some x → rep w (Fr D w v) cs x) ∧ w.ownsRow base e (Rep.size α) v xs.length css.flatten

section
variable {α : Type} [Rep α] {D : Nat → Prop} {w w' : World} {base : Nat} {e : TypeId} {v v' : Value} {xs : List α}
theorem Own.nil (D : Nat → Prop) (w : World) (base : Nat) (e : TypeId) : Own D w base e (.slice none 0 0) ([] : List α) := ⟨[], rfl, fun k cs x h => by simp at h, World.ownsRow_nil _ _ _ _⟩
theorem Own.lens {css : List (List Value)} (hl : css.length = xs.length) (hr : ∀ (k : Nat) (cs : List Value) (x : α), css[k]? = some cs → xs[k]? = some x → rep w (Fr D w v) cs x) : ∀ c ∈ css, c.length = Rep.size α := by
  intro c hc
  obtain ⟨k, hk⟩ := List.getElem?_of_mem hc
  have hk2 : k < xs.length := by have := lt_of_get? hk; omega
  exact Rep.len (hr k c xs[k] hk (List.getElem?_eq_getElem hk2))
theorem Own.form (h : Own D w base e v xs) : ∃ A cap, v = .slice A xs.length cap := by
  obtain ⟨css, _, _, ho⟩ := h
  exact own_slice ho
theorem Own.from_ (h : Own D w base e v xs) : v.ownBlock = none ∨ ∃ k, v.ownBlock = some k ∧ base ≤ k := by
  obtain ⟨css, _, _, ho⟩ := h
  exact own_from ho
theorem Own.block_lt (h : Own D w base e v xs) {k : Nat} (hk : v.ownBlock = some k) : k < w.heap.size := by
  obtain ⟨css, _, _, ho⟩ := h
  exact (ho.lt k hk).2
/-- It goes on where nothing that was there has turned. -/
theorem Own.on (h : Own D w base e v xs) (hb : Below w.heap.size w w') : Own D w' base e v xs := by
  obtain ⟨css, hl, hr, ho⟩ := h
  refine ⟨css, hl, fun k cs x h1 h2 => Rep.keep (hr k cs x h1 h2) (fun p hp => hb.cell hp.2.1) (fun b hb' => ⟨hb'.1, Nat.lt_of_lt_of_le hb'.2.1 hb.size, hb'.2.2⟩), ?_⟩
  refine ⟨ho.1, ?_⟩
  rcases ho.2 with hn | ⟨g, cap, cur, rfl, hbg, hgg, rest⟩
  · exact .inl hn
  · refine .inr ⟨g, cap, cur, rfl, hbg, ?_, rest⟩
    rw [hb.block g (Array.getElem?_eq_some_iff.1 hgg).1]
    exact hgg
theorem Own.mono {base' : Nat} (h : Own D w base e v xs) (hb : base' ≤ base) : Own D w base' e v xs := by
  obtain ⟨css, hl, hr, ho⟩ := h
  refine ⟨css, hl, hr, ho.1, ?_⟩
  rcases ho.2 with hn | ⟨g, cap, cur, rfl, hbg, rest⟩
  · exact .inl hn
  · exact .inr ⟨g, cap, cur, rfl, Nat.le_trans hb hbg, rest⟩
theorem Own.wide {D' : Nat → Prop} (h : Own D w base e v xs) (hD : ∀ b, D b → D' b) : Own D' w base e v xs := by
  obtain ⟨css, hl, hr, ho⟩ := h
  exact ⟨css, hl, fun k cs x h1 h2 => Rep.more (hr k cs x h1 h2) (fun b hb => ⟨hD b hb.1, hb.2⟩), ho⟩
theorem Own.alloc (h : Own D w base e v xs) (o : Obj) : Own D (w.alloc o) base e v xs := h.on ((Below.refl _ _).alloc (Nat.le_refl _) o)
theorem Own.drewN (h : Own D w base e v xs) (n : Nat) : Own D (w.drewN n) base e v xs := h.on (Go.below_drewN (Below.refl _ _) n)
/-- It reads as a list. -/
theorem Own.reads {A : Option Addr} {n c : Nat} (h : Own D w base e (.slice A n c) xs) : RepList w (fun b => (D b ∨ base ≤ b) ∧ b < w.heap.size) A n c xs := by
  obtain ⟨css, hl, hr, ho⟩ := h
  have hlen := Own.lens hl hr
  have hcap := own_cap ho
  have hn : xs.length = n := by
    rcases ho.2 with ⟨hv, hx⟩ | ⟨g, cap, cur, hv, _⟩
    · injection hv with _ hn _; omega
    · injection hv with _ hn _; exact hn.symm
  refine ⟨hn, by omega, hcap.2, fun k x hx => ?_⟩
  have hk := lt_of_get? hx
  obtain ⟨g, cap, hv, hb, hlt⟩ := ho.form (by omega)
  injection hv with hA _ _
  subst hA
  refine ⟨g, 0, rfl, ⟨.inr hb, hlt⟩, css[k]'(by omega), Rep.more (hr k _ x (List.getElem?_eq_getElem (by omega)) hx) (fun b hb => ⟨.inl hb.1, hb.2.1⟩), fun j u hu => ?_⟩
  have hj : j < Rep.size α := by
    have := hlen (css[k]'(by omega)) (List.getElem_mem _)
    have := lt_of_get? hu
    omega
  have hc := ho.cells (g := g) rfl (k * Rep.size α + j) u (by rw [flat_get css k j _ hlen (List.getElem?_eq_getElem (by omega)) hj]; exact hu)
  rw [Nat.zero_add]
  rw [addr_head] at hc
  exact hc
end

/-- Behind an append of one element. -/
theorem own_push {α : Type} [Rep α] {D : Nat → Prop} {w w' : World} {base : Nat} {e : TypeId} {v v' : Value} {xs : List α} {y : α} {css : List (List Value)} {cs : List Value}
    (hl : css.length = xs.length) (hr : ∀ (k : Nat) (cs : List Value) (x : α), css[k]? = some cs → xs[k]? = some x → rep w (Fr D w v) cs x)
    (hy : rep w (Fr D w v) cs y) (ho' : w'.ownsRow base e (Rep.size α) v' (xs.length + 1) (css.flatten ++ cs))
    (hg : w.grownBy w' v.ownBlock) (hat : v'.ownBlock = v.ownBlock ∨ v'.ownBlock = some w.heap.size) : Own D w' base e v' (xs ++ [y]) := by
  have go : ∀ (cs : List Value) (x : α), rep w (Fr D w v) cs x → rep w' (Fr D w' v') cs x := by
    intro cs x hx
    refine Rep.keep hx (fun p hp => World.cell?_of_block (hg.block p.block hp.2.1 hp.2.2)) (fun b hb => ⟨hb.1, Nat.lt_of_lt_of_le hb.2.1 hg.size, ?_⟩)
    rcases hat with hat | hat
    · rw [hat]; exact hb.2.2
    · rw [hat]; have := hb.2.1; simp; omega
  refine ⟨css ++ [cs], by simp [hl], fun k cs' x h1 h2 => go cs' x ?_, by simpa using ho'⟩
  rcases Nat.lt_or_ge k css.length with hk | hk
  · rw [List.getElem?_append_left hk] at h1
    rw [List.getElem?_append_left (by omega)] at h2
    exact hr k cs' x h1 h2
  · rw [List.getElem?_append_right hk] at h1
    rw [List.getElem?_append_right (by omega)] at h2
    have h3 : k - css.length = 0 := by have := lt_of_get? h1; simp at this; omega
    rw [h3] at h1
    rw [show k - xs.length = 0 by omega] at h2
    simp at h1 h2
    subst h1 h2
    exact hy

/-! ### rows of numbers -/
def ints (xs : List Int) : List Value := xs.map (Value.int .i64)
theorem ints_len (xs : List Int) : (ints xs).length = xs.length := by simp [ints]
theorem ints_get {xs : List Int} {k : Nat} (h : k < xs.length) : (ints xs)[k]? = some (.int .i64 xs[k]) := by simp [ints, h]
theorem ints_one (xs : List Int) : ∀ u ∈ ints xs, u.oneCell' = true := by
  intro u hu
  obtain ⟨_, _, rfl⟩ := List.mem_map.1 hu
  rfl
theorem ints_flat (xs : List Int) : (xs.map fun x => [Value.int .i64 x]).flatten = ints xs := by
  induction xs with
  | nil => rfl
  | cons x xs ih => simp [ints] at ih ⊢; exact ih

theorem RepList.reads_ints {w : World} {B : Nat} {A : Option Addr} {n c : Nat} {xs : List Int} (h : RepList w (· < B) A n c xs) : Reads w B 1 A n (ints xs) := by
  refine ⟨by rw [ints_len, h.length]; omega, fun h0 => ?_⟩
  obtain ⟨b, off, x, hA, _, hb, _⟩ := h.at_ h0
  refine ⟨_, hA, hb, fun j u hu => ?_⟩
  have hj : j < xs.length := by have := lt_of_get? hu; rwa [ints_len] at this
  rw [ints_get hj] at hu
  cases hu
  subst hA
  obtain ⟨_, he⟩ := h.elem (List.getElem?_eq_getElem hj)
  rw [addr_at]
  exact he.int.1
theorem RepList.in64 {w : World} {F : Nat → Prop} {A : Option Addr} {n c : Nat} {xs : List Int} (h : RepList w F A n c xs) : ∀ x ∈ xs, In64 x := by
  intro x hx
  obtain ⟨k, hk⟩ := List.getElem?_of_mem hx
  obtain ⟨b, off, _, _, he⟩ := h.2.2.2 k x hk
  exact he.int.2

/-- A row of numbers that the call owns. -/
theorem own_ints (D : Nat → Prop) {w : World} {base : Nat} {e : TypeId} {v : Value} {n : Nat} {xs : List Int} (h : w.ownsRow base e 1 v n (ints xs)) (hx : ∀ x ∈ xs, In64 x) : Own D w base e v xs := by
  have hn : n = xs.length := by have := h.1; rw [ints_len] at this; omega
  subst hn
  refine ⟨xs.map fun x => [Value.int .i64 x], by simp, fun k cs x h1 h2 => ?_, by rw [ints_flat]; exact h⟩
  rw [List.getElem?_map, h2] at h1
  simp at h1
  subst h1
  exact ⟨rfl, hx x (List.mem_of_getElem? h2)⟩

/-- What the call owns from base on reads as a list, in the blocks from base on. -/
theorem own_reads {w : World} {base : Nat} {e : TypeId} {A : Option Addr} {n c : Nat} {xs : List Int} (h : w.ownsRow base e 1 (.slice A n c) n (ints xs)) (hx : ∀ x ∈ xs, In64 x) : RepList w (fun b => base ≤ b ∧ b < w.heap.size) A n c xs := by
  have hn : n = xs.length := by have := h.1; rw [ints_len] at this; omega
  have hcap := own_cap h
  refine ⟨hn.symm, hcap.1, hcap.2, fun k x hk => ?_⟩
  have hkl := lt_of_get? hk
  obtain ⟨g, cap, hv, hb, hlt⟩ := h.form (by omega)
  injection hv with hA _ _
  subst hA
  refine ⟨g, 0, rfl, ⟨hb, hlt⟩, [.int .i64 x], ⟨rfl, hx x (List.mem_of_getElem? hk)⟩, fun j u hu => ?_⟩
  have hj : j = 0 := by have := lt_of_get? hu; simp at this; omega
  subst hj
  simp at hu
  subst hu
  have hc := h.cells (g := g) rfl k (.int .i64 x) (by rw [ints_get hkl]; rw [List.getElem?_eq_getElem hkl] at hk; cases hk; rfl)
  rw [addr_head] at hc
  simp only [show Rep.size Int = 1 from rfl, Nat.mul_one, Nat.add_zero, Nat.zero_add]
  exact hc

end Go.Proofs.YtfmopmjgohopeaaGreatDoor

/- Numbers in rows: elements, what is the same up to a place; draws. -/
set_option linter.unusedVariables false
set_option linter.unusedSimpArgs false
namespace Go.Proofs.YtfmopmjgohopeaaGreatDoor
open Rep (rep)
open Go.RowKit

theorem ret_bool {a b : Bool} (h : a = b) : Ending.returned (.bool a) = Ending.returned (.bool b) := by rw [h]
theorem ret_num {k : IntKind} {a b : Int} (h : a = b) : Ending.returned (.int k a) = Ending.returned (.int k b) := by rw [h]

/-- Element k of a slice of numbers: its cell, and what it is, closed to the walk. -/
theorem Reads.int_at {w : World} {B : Nat} {A : Option Addr} {n k : Nat} {xs : List Int} (h : Reads w B 1 A n (ints xs)) (hk : k < n) :
    ∃ ad x, A = some ad ∧ w.cell? (ad.add k) = some (.int .i64 x) ∧ Hid (xs[k]? = some x) := by
  obtain ⟨ad, u, hA, _, hu, hc⟩ := h.at_ hk
  have hl : xs.length = n := by have := h.1; rw [ints_len] at this; omega
  have hk' : k < xs.length := by omega
  rw [ints_get hk'] at hu
  cases hu
  exact ⟨ad, xs[k], hA, hc, List.getElem?_eq_getElem hk'⟩

theorem Reads.int_cell {w : World} {B : Nat} {ad : Addr} {n k : Nat} {xs : List Int} {x : Int} (h : Reads w B 1 (some ad) n (ints xs)) (hk : k < n) (hx : Hid (xs[k]? = some x)) : w.cell? (ad.add k) = some (.int .i64 x) := by
  obtain ⟨ad', x', e, hc, hx'⟩ := h.int_at hk
  cases e
  have := hx.out.symm.trans hx'.out
  cases this
  exact hc

theorem Reads.ints_length {w : World} {B : Nat} {A : Option Addr} {n : Nat} {xs : List Int} (h : Reads w B 1 A n (ints xs)) : xs.length = n := by
  have := h.1; rw [ints_len] at this; omega

def SameTo (xs ys : List Int) (k : Nat) : Prop := xs.take k = ys.take k
def InDraws (w wr : World) : Prop := ∃ j, wr = w.drewN j
theorem InDraws.refl (w : World) : InDraws w w := ⟨0, rfl⟩
theorem InDraws.more {w wr : World} (h : InDraws w wr) (j : Nat) : InDraws w (wr.drewN j) := by
  obtain ⟨i, rfl⟩ := h
  exact ⟨i + j, by rw [World.drewN_drewN]⟩

theorem SameTo.step {xs ys : List Int} {k : Nat} {x : Int} (h : SameTo xs ys k) (hx : Hid (xs[k]? = some x)) (hy : Hid (ys[k]? = some x)) : SameTo xs ys (k + 1) := by
  have hx := hx.out
  have hy := hy.out
  unfold SameTo at *
  rw [List.take_add_one, List.take_add_one, h, hx, hy]
theorem SameTo.all {xs ys : List Int} {n : Nat} (h : SameTo xs ys n) (hx : xs.length = n) (hy : ys.length = n) : xs = ys := by
  unfold SameTo at h
  rwa [List.take_of_length_le (by omega), List.take_of_length_le (by omega)] at h

end Go.Proofs.YtfmopmjgohopeaaGreatDoor

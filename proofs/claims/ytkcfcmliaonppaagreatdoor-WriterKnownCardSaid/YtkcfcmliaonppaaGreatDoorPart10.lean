/- The texts EvPa of WriterKnown, joined by program (tools/merge.py): walks of the functions that the law reaches, and plain facts; no condition. -/
import Derived.Test.YtkcfcmliaonppaaGreatDoorPart08
import Derived.Defers
set_option linter.unusedVariables false
set_option linter.unusedSimpArgs false

/-
  The abstract machine: a panic that a deferred call catches.
-/
set_option linter.unusedVariables false
set_option linter.unusedSectionVars false
set_option linter.unusedSimpArgs false
set_option linter.constructorNameAsVariable false
namespace Go.Proofs.YtkcfcmliaonppaaGreatDoor.Ev
open Go Go.RowKit

section
variable [Xt] {P : Program} {ng n0 : Nat} {σ : Sg} {h : AH} {w : World}
variable {m m' : AM} {f : Frame} {cs base : List Frame} {p : List (Nat × Nat)} {ks : List Nat}

theorem raise_of {a : AFrame} (h : FR P σ a f p) (ch : List PanicEntry) : f.raise ch = { f with mode := .panicking ch } := by
  have := h.mode
  unfold Frame.raise
  cases hr : a.ret <;> rw [hr] at this <;> simp only [cond_true, cond_false] at this <;> rw [this]
theorem fr_nil {a : AFrame} (h : FR P σ a f p) (hn : notDrw a.todo = true) : p = [] := by
  have ht := h.top
  unfold TopR at ht
  split at ht
  · obtain ⟨k', _, _, _, _, h⟩ := ht; exact h
  · rename_i e; rw [e] at hn; cases hn
  · exact ht.2.2
theorem tmp_of_reg {a : AFrame} (h : FR P σ a f p) {ops : Array Oper} {i : Nat} {r : List Oper} {k : List AItem} (ht : a.todo = .reg ops i r :: k) : TmpR σ (fun _ => False) a.tmps a.nt f.tmps := by
  have := h.top
  rw [ht] at this
  obtain ⟨k', _, _, _, h, _⟩ := this
  exact h
theorem unwind_to {ch : List PanicEntry} : ∀ (al : List AFrame) (fs : List Frame) (ks : List Nat) (f : Frame) (c : AFrame) (B : List AFrame), StR P σ al fs ks → catcher P al = some (c, B) → f.mode = .panicking ch → f.defers = [] →
    (∃ fn, P.funcs[f.fn]? = some fn) → ∃ f1 fs', Steps P (lone f (fs ++ base) w) (lone { f1 with mode := .panicking ch } (fs' ++ base) w) ∧ (∃ p1 pre ks', FR P σ c f1 p1 ∧ StR P σ B fs' ks' ∧ ks = pre ++ ks')
  | [], _, _, _, _, _, _, hc, _, _, _ => by cases hc
  | a :: al, fs, ks, f, c, B, hS, hc, hm, hd, hf => by
    obtain ⟨fa, fs', p, ks', e1, e2, h3, h4, h5⟩ := hS
    subst e1
    have hst := step_leave_panicked (P := P) (fr := f) (c := fa) (cs := fs' ++ base) (w := w) (chain := ch) ⟨hm, hd, hf⟩
    rw [raise_of h3] at hst
    unfold catcher at hc
    cases hda : a.defers with
    | nil =>
      simp only [hda] at hc
      cases hfa : P.funcs[a.fn]? with
      | none => simp [hfa] at hc
      | some fn =>
        simp only [hfa] at hc
        have hda' : fa.defers = [] := by
          have := h3.defers
          rw [hda] at this
          cases hx : fa.defers with
          | nil => rfl
          | cons _ _ => rw [hx] at this; exact this.elim
        obtain ⟨f1, fs1, s1, p1, pre, ks1, s2, s3, s4⟩ := unwind_to al fs' ks' { fa with mode := .panicking ch } c B h5 hc rfl hda' ⟨fn, by rw [← hfa, ← h3.fn]⟩
        exact ⟨f1, fs1, .head hst s1, p1, p.map (·.2) ++ pre, ks1, s2, s3, by rw [e2, s4, List.append_assoc]⟩
    | cons d ds =>
      simp only [hda] at hc
      injection hc with hc
      injection hc with e1 e2
      subst e1 e2
      exact ⟨fa, fs', .one hst, p, p.map (·.2), ks', h3, h5, e2⟩
theorem step_pan {ops : Array Oper} {i : Nat} {r : List Nat} {k : List Item} {o : Oper} {cs : List Frame} (A : AtOp f ops i r k o) {u : Value} (hr : (o.semAt f.roundOf (Frame.act f).eval).run P w = .halt (.panic u) w) :
    step P (lone f cs w) = .next (lone (f.raise [{ v := u, recovered := false }]) cs w) :=
  step_lone_go (by rw [stepG_at A]; simp [stepG.apply, hr])
theorem step_rec_some {ops : Array Oper} {i : Nat} {r : List Nat} {k : List Item} {o : Oper} {cs cs' : List Frame} (A : AtOp f ops i r k o) {u : Value} {w' : World} (hro : f.roundOf = none) (ht : tryRecover f cs = some (u, cs'))
    (hr : (o.semAt f.roundOf (Frame.act f).eval).run P w = .ok .recover w') : step P (lone f cs w) = .next (lone (f.finish u) cs' w') :=
  step_lone_go (by rw [hro] at hr; rw [stepG_at A]; simp [stepG.apply, hr, hro, ht])
/-- a frame at an operation of a region in its order -/
theorem at_reg {a : AFrame} (h : FR P σ a f p) (hm : f.mode = .run) {ops : Array Oper} {i : Nat} {o : Oper} {rest : List Oper} {k : List AItem} (ht : a.todo = .reg ops i (o :: rest) :: k) (ha : awanted ops a.tmps o = some true) :
    ∃ r k', AtOp f ops i r k' o ∧ TmpR σ (fun _ => False) a.tmps a.nt f.tmps ∧ AtEff P a.todo f.todo := by
  have htop := h.top
  rw [ht] at htop
  obtain ⟨k', e1, e2, e3, e4, e5⟩ := htop
  have hi : ops.toList[i]? = some o := by
    have : (ops.toList.drop i)[0]? = some o := by rw [← e2]; rfl
    simpa using this
  have hlt : i < ops.size := by
    have := (List.getElem?_eq_some_iff.1 hi).1; simpa using this
  have hr' : (List.range ops.size).drop i = i :: (List.range ops.size).drop (i + 1) := by
    rw [List.drop_eq_getElem_cons (by simpa using hlt)]; simp
  have ho : ops[i]? = some o := by simpa using hi
  rw [hr'] at e1
  exact ⟨_, k', ⟨e1, hm, ho, wanted_sound e4 (fun _ _ _ _ _ _ _ h => h) ha⟩, e4, by rw [ht]; unfold AtEff; trivial⟩

end
section
variable {P : Program} {ng n0 : Nat} {w : World}
/-- the deferred call, from its start to its end -/
theorem sub_run (X : Xt) (hP : 8 ≤ P.types.size) (hmix : P.follows .mixedOrders = true) {σ : Sg} {n1 n2 : Nat} {m1 m2 m3 m4 : AM} {fE : Frame} {f1 : Frame} {rest : List Frame} {t : TypeId} {vx : AV} {y : Value}
    (h1 : FR P σ m1.fr fE []) (hc1 : m1.cs = []) (hpg : PG σ m1.h X.x) (hh : HR ng n0 σ m1.h w) (hrd : Rdy P ng m1.fr.nt m1.fr.tmps m1.h m1.fr.todo) (h12 : arun P ng n1 m1 = some m2) (h23 : arecover P m2 (.iface t vx) = some m3) (h34 : arun P ng n2 m3 = some m4) (hc4 : m4.cs = []) (hyv : VR σ vx y) :
    ∃ σ4 f4 w4 p4, Steps P (lone fE ({ f1 with mode := .panicking [{ v := .iface t y, recovered := false }], defers := [] } :: rest) w) (lone f4 ({ f1 with mode := .panicking [{ v := .iface t y, recovered := true }], defers := [] } :: rest) w4) ∧
      σ.le σ4 ∧ FR P σ4 m4.fr f4 p4 ∧ PG σ4 m4.h (p4.map (·.2) ++ X.x) ∧ HR ng n0 σ4 m4.h w4 ∧ Below n0 w w4 := by
  have M1 : MRx P ng n0 σ m1 fE [] w [] X.x := ⟨h1, by rw [hc1]; exact ⟨rfl, rfl⟩, by simpa using hpg, hh, hrd⟩
  obtain ⟨σ2, f2, cs2, w2, p2, ks2, s4, l2, M2, b2⟩ := run_sound (base := { f1 with mode := .panicking [{ v := .iface t y, recovered := false }], defers := [] } :: rest) hP hmix n1 _ m2 σ _ _ w _ _ M1 h12
  unfold arecover at h23
  cases hrr : (m2.fr.ret || !m2.fr.dfd) with
  | true => rw [hrr] at h23; cases h23
  | false =>
    rw [hrr, cond_false] at h23
    rw [Bool.or_eq_false_iff, Bool.not_eq_false'] at hrr
    split at h23
    · rename_i ops2 i2 o2 rest2 k2 ht2 hcs2 hrd2
      split at h23
      · rename_i ha2
        split at h23
        · rename_i cc hop2
          split at h23
          · rename_i hcal
            have hS2 := M2.stack
            rw [hcs2] at hS2
            obtain ⟨hcs2', hks2⟩ := hS2
            subst hcs2'
            obtain ⟨r', kk', A2, htm2, hat2⟩ := at_reg M2.top (M2.run hrr.1) ht2 ha2
            have hk2 : f2.kind = .deferred := by have := M2.top.kind; rw [hrr.2] at this; exact this
            have hro2 : f2.roundOf = none := by have := M2.top.round; rw [hrd2] at this; exact this
            have hs5 := step_rec_some (P := P) (w := w2) (w' := w2) (u := .iface t y) (cs := { f1 with mode := .panicking [{ v := .iface t y, recovered := false }], defers := [] } :: rest)
              (cs' := { f1 with mode := .panicking [{ v := .iface t y, recovered := true }], defers := [] } :: rest) A2 hro2 (by unfold tryRecover; rw [hk2]) (by
              rw [Oper.semAt_eq _ _ _ (by simp [hop2])]
              simp [execOp, hop2, resolve, hcal, invoke, builtin])
            unfold AM.done at h23
            cases hfin2 : AFrame.finish P m2.fr (.iface t vx) with
            | none => simp [hfin2] at h23
            | some fr3 =>
              simp only [hfin2] at h23
              injection h23 with h23
              subst h23
              obtain ⟨q1, q2, q3⟩ := finish_sound (ng := ng) (u := .iface t y) M2.top hat2 hfin2 ⟨y, rfl, VR.mono l2 _ _ hyv⟩
              have M3 : MRx P ng n0 σ2 { m2 with fr := fr3 } (f2.finish (.iface t y)) [] w2 p2 ks2 := ⟨q1, by show StR P σ2 m2.cs [] ks2; rw [hcs2]; exact ⟨rfl, hks2⟩, M2.pg, M2.heap, q3 _⟩
              obtain ⟨σ4, f4, cs4, w4, p4, ks4, s6, l4, M4, b4⟩ := run_sound (base := { f1 with mode := .panicking [{ v := .iface t y, recovered := true }], defers := [] } :: rest) hP hmix n2 _ m4 σ2 _ _ w2 _ _ M3 h34
              have hS4 := M4.stack
              rw [hc4] at hS4
              obtain ⟨hcs4', hks4⟩ := hS4
              subst hcs4'
              exact ⟨σ4, f4, w4, p4, s4.trans (.head hs5 s6), l2.trans l4, M4.top, by rw [← hks4]; exact M4.pg, M4.heap, b2.trans b4⟩
          · cases h23
        · cases h23
      · cases h23
    · cases h23
end
section
variable [Xt] {P : Program} {ng n0 : Nat} {σ : Sg} {h : AH} {w : World}
variable {m m' : AM} {f : Frame} {cs base : List Frame} {p : List (Nat × Nat)} {ks : List Nat}
/-- **A PANIC THAT IS CAUGHT.** -/
theorem panic_sound (hP : 8 ≤ P.types.size) (hmix : P.follows .mixedOrders = true) {n1 n2 : Nat} (M : MRx P ng n0 σ m f cs w p ks) (hq : apanic P ng n1 n2 m = some m') : Post P ng n0 σ w f cs base m' := by
  unfold apanic at hq
  cases hra : araise P ng m with
  | none => simp [hra] at hq
  | some q =>
    obtain ⟨v, c, b, B, m1⟩ := q
    simp only [hra] at hq
    cases h12 : arun P ng n1 m1 with
    | none => simp [h12] at hq
    | some m2 =>
    simp only [h12] at hq
    cases h23 : arecover P m2 v with
    | none => simp [h23] at hq
    | some m3 =>
    simp only [h23] at hq
    cases h34 : arun P ng n2 m3 with
    | none => simp [h34] at hq
    | some m4 =>
    simp only [h34] at hq
    unfold araise at hra
    cases hr : m.fr.ret with
    | true => rw [hr] at hra; cases hra
    | false =>
    rw [hr, cond_false] at hra
    split at hra
    · rename_i ops i o rest k fn0 ht hd hfn
      split at hra
      · rename_i ha
        split at hra
        · rename_i x hop
          split at hra
          · rename_i t vx hx
            split at hra
            · rename_i c' b' B' hcat
              split at hra
              · rename_i ops' i' rest' k' g cap args hct hcd
                cases hg : c'.dfd with
                | true => rw [hg] at hra; cases hra
                | false =>
                  rw [hg, cond_false] at hra
                  cases hen : AFrame.enter P g (args ++ cap) true with
                  | none => simp [hen] at hra
                  | some fr1 =>
                    simp only [hen] at hra
                    injection hra with hra
                    injection hra with ev1 hra; injection hra with ec hra; injection hra with eb hra; injection hra with eB em
                    subst ev1 ec eb eB em
                    -- the panic
                    obtain ⟨r, kk, A, htm, _⟩ := at_reg M.top (M.run hr) ht ha
                    have hxv := ev_sound (ds := f.defers) M.heap htm (x := x) fun _ _ h => h
                    rw [hx] at hxv
                    obtain ⟨y, hy, hyv⟩ := hxv
                    have hxe : (Frame.act f).eval x = .iface t y := hy
                    have hs1 := step_pan (P := P) (w := w) (cs := cs ++ base) (u := .iface t y) A (by
                      rw [Oper.semAt_eq _ _ _ (by simp [hop])]
                      simp [execOp, hop, hxe, Instr.panic, goPanic, Sem.run])
                    rw [raise_of M.top] at hs1
                    have hfd : f.defers = [] := by
                      have := M.top.defers
                      rw [hd] at this
                      cases hx : f.defers with
                      | nil => rfl
                      | cons _ _ => rw [hx] at this; exact this.elim
                    obtain ⟨f1, fs', s2, p1, pre, ks1, hF, hS, hks⟩ := unwind_to (base := base) (w := w) (ch := [{ v := .iface t y, recovered := false }]) m.cs cs ks { f with mode := .panicking [{ v := .iface t y, recovered := false }] } c' (b' :: B') M.stack hcat rfl hfd ⟨fn0, by rw [← hfn, ← M.top.fn]⟩
                    -- the deferred call is entered
                    have hds := hF.defers
                    rw [hcd] at hds
                    obtain ⟨d, hf1d, hdr⟩ : ∃ d, f1.defers = [d] ∧ DR σ (.call g cap args) d := by
                      cases hx : f1.defers with
                      | nil => rw [hx] at hds; exact hds.elim
                      | cons d ds =>
                        rw [hx] at hds
                        cases ds with
                        | nil => exact ⟨d, rfl, hds.1⟩
                        | cons _ _ => exact hds.2.elim
                    obtain ⟨cv, av, rfl, r1, r2⟩ := hdr
                    obtain ⟨g1, g2, g3, g4, g5⟩ := enter_sound (ng := ng) hen (argv := av ++ cv) (by rw [Array.toList_append]; exact VRs.app r2 r1)
                    have hs3 := step_defer (P := P) (fr := { f1 with mode := .panicking [{ v := .iface t y, recovered := false }] }) (cs := fs' ++ base) (w := w) (f := g) (args := av ++ cv) (by simp) hf1d rfl (g2 w)
                    have hpg1 : PG σ m.h ks1 := by
                      have hsub : ks1.Sublist (p.map (·.2) ++ ks) := by rw [hks, ← List.append_assoc]; exact List.sublist_append_right _ _
                      exact ⟨M.pg.1.sublist hsub, fun k hk => M.pg.2 k (hsub.subset hk)⟩
                    unfold acaught at hq
                    split at hq
                    · rename_i hcs4 hds4
                      cases hb4 : (m4.fr.ret && m4.fr.dfd && plainTop m4.fr.todo) with
                      | false => rw [hb4] at hq; cases hq
                      | true =>
                        rw [hb4, cond_true] at hq
                        simp only [Bool.and_eq_true] at hb4
                        obtain ⟨⟨b41, b42⟩, b43⟩ := hb4
                        split at hq
                        · rename_i gn fn hgn hfnc
                          split at hq
                          · rename_i us vs hres1 hres2
                            cases hfb : AFrame.finish P b' (tupled vs) with
                            | none => simp [hfb] at hq
                            | some frb =>
                              simp only [hfb] at hq
                              injection hq with hq
                              subst hq
                              obtain ⟨σ4, f4, w4, p4, s4, l4, hF4, hpg4, hh4, b4⟩ := sub_run (Xt.mk ks1) (m1 := { fr := fr1, cs := [], h := m.h }) (f1 := f1) (rest := fs' ++ base) hP hmix g1 rfl hpg1 M.heap (g5 _) h12 h23 h34 hcs4 hyv
                              obtain ⟨_, htm4, hp4⟩ := top_inv b43 hF4.top
                              obtain ⟨u4, hu4, _⟩ := results_sound (P := P) hh4 htm4 hres1
                              have hmode4 : f4.mode = .returning := by have := hF4.mode; rw [b41] at this; exact this
                              have hk4 : f4.kind = .deferred := by have := hF4.kind; rw [b42] at this; exact this
                              have hfd4 : f4.defers = [] := by
                                have := hF4.defers
                                rw [hds4] at this
                                cases hx : f4.defers with
                                | nil => rfl
                                | cons _ _ => rw [hx] at this; exact this.elim
                              have hs7 := step_going_returned (P := P) (fr := f4) (c := { f1 with mode := .panicking [{ v := .iface t y, recovered := true }], defers := [] }) (cs := fs' ++ base) (w := w4) (v := u4) hk4 ⟨hmode4, hfd4, gn, by rw [hF4.fn]; exact hgn, hu4⟩
                              have htmc := (tmp_of_reg hF hct).mono l4
                              obtain ⟨uc, huc, hvc⟩ := results_sound (P := P) hh4 htmc hres2
                              obtain ⟨fb, fs'', pb, ks'', e1, e2, h3, h4, h5⟩ := hS.mono l4
                              subst e1
                              have hkc : f1.kind = .normal := by have := hF.kind; rw [hg] at this; exact this
                              have hs8 := step_leave_returned (P := P) (fr := { f1 with mode := .returning, defers := [] }) (c := fb) (cs := fs'' ++ base) (w := w4) (v := uc) ⟨rfl, rfl, hkc, fn, by show P.funcs[f1.fn]? = _; rw [hF.fn]; exact hfnc, huc⟩
                              obtain ⟨z1, z2, z3⟩ := finish_sound (ng := ng) h3 h4 hfb hvc
                              rw [hp4, List.map_nil, List.nil_append] at hpg4
                              refine ⟨σ4, fb.finish uc, fs'', w4, pb, ks'', ?_, l4, ⟨z1, h5, by rw [← e2]; exact hpg4, hh4, z3 _⟩, b4⟩
                              exact .head hs1 (s2.trans (.head hs3 (s4.trans (.head hs7 (.one hs8)))))
                          · cases hq
                        · cases hq
                    · cases hq
              · cases hra
            · cases hra
          · cases hra
        · cases hra
      · cases hra
    · cases hra

/-- a piece that ends in a panic that is caught -/
def pieceP (L : Lk) (ng n a b : Nat) (ks : List Nat) (m : AM) : Option AM :=
  match K.arun L ng n m with
  | some m1 => match K.apanic L ng a b m1 with
    | some m' => bif notReady m'.fr.todo then AM.nf (m'.gc ks) some else none
    | none => none
  | none => none
theorem leads_pieceP (hP : 8 ≤ P.types.size) (hmix : P.follows .mixedOrders = true) {L : Lk} (hL : L = Lk.of P) {n a b : Nat} {ks : List Nat} {m m' : AM} (hq : pieceP L ng n a b ks m = some m') : Leads P ng m m' := by
  subst hL
  unfold pieceP at hq
  have e : K.arun (Lk.of P) ng n m = arun P ng n m := congrFun (congrFun K.arun_eq n) m
  rw [e] at hq
  intro n0 σ f cs base w p l M
  cases hr : arun P ng n m with
  | none => simp [hr] at hq
  | some m1 =>
    simp only [hr] at hq
    have e2 : K.apanic (Lk.of P) ng a b m1 = apanic P ng a b m1 := congrFun (congrFun (congrFun K.apanic_eq a) b) m1
    rw [e2] at hq
    cases hp : apanic P ng a b m1 with
    | none => simp [hp] at hq
    | some m2 =>
      simp only [hp] at hq
      cases hn : notReady m2.fr.todo with
      | false => rw [hn] at hq; cases hq
      | true =>
        rw [hn, cond_true, AM.nf_eq] at hq
        injection hq with hq; subst hq
        obtain ⟨σ1, f1, cs1, w1, p1, ks1, s1, l1, M1, b1⟩ := run_sound (base := base) hP hmix n m m1 σ f cs w p l M hr
        obtain ⟨σ2, f2, cs2, w2, p2, ks2, s2, l2, M2, b2⟩ := panic_sound (base := base) hP hmix M1 hp
        exact ⟨σ2, f2, cs2, w2, p2, ks2, s1.trans s2, l1.trans l2, M2.gc ks hn, b1.trans b2⟩
end
end Go.Proofs.YtkcfcmliaonppaaGreatDoor.Ev

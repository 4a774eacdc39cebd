/- The texts EvTab, EvPa, Range, Mem, Rep, Rune, Dec, Kit of SegmentKnown, joined by program (tools/merge.py): walks of the functions that the law reaches, and plain facts; no condition. -/
import Derived.Test.YthjhakiagbdhlaaGreatDoorRows
import Derived.Test.YthjhakiagbdhlaaGreatDoorPart08
import Derived.Defers
import Derived.RangeFuncNested
import Derived.RangeFuncBound
import Derived.RangeFuncCalls
import Derived.RangeFuncLeaves
import Derived.Below
import Derived.Laws.OwnMore
import Derived.Deep.AppendLies
import Derived.Deep.Draws
import Derived.Laws.Rows
import Derived.Maps.AppendAt
import Derived.RegionTactic
import Derived.OwnWalk
import Derived.WalkSmall
import Derived.Lib.Hide
import Derived.Shelf.Unicode.DecodeSlow
import Derived.Lib.TrimUEq
import Derived.WalkKit
import Derived.WalkSpells
import Derived.WalkLawsBesides
import Derived.Deep.QuietTactic
import Derived.BigQuiet
set_option linter.unusedVariables false
set_option linter.unusedSimpArgs false

/-
  The one table of the library that closed runs read: math/bits.deBruijn64tab.
-/
set_option linter.unusedVariables false
set_option linter.unusedSimpArgs false
set_option linter.constructorNameAsVariable false
namespace Go.Proofs.YthjhakiagbdhlaaGreatDoor
open Go Ev Go.RowKit

def deBruijn : List Int := [0, 1, 56, 2, 57, 49, 28, 3, 61, 58, 42, 50, 38, 29, 17, 4, 62, 47, 59, 36, 45, 43, 51, 22, 53, 39, 33, 30, 24, 18, 12, 5, 63, 55, 48, 27, 60, 41, 37, 16, 46, 35, 44, 21, 52, 32, 23, 11, 54, 26, 40, 15, 34, 20, 31, 10, 25, 14, 19, 9, 13, 8, 7, 6]
theorem deBruijn_eq : (Rows.laid_math_bits_deBruijn64tab : DataW Unit) = Lib.tabData .u8 deBruijn := by kernel_rfl
/-- the table holds what the library's text lays -/
def Known (w : World) : Prop := Lib.TabIs Tryz.prog w "math/bits.deBruijn64tab" .u8 deBruijn
theorem known_of_reads {w : World} (h : Lib.VarReads Tryz.prog w "math/bits.deBruijn64tab" Rows.laid_math_bits_deBruijn64tab) : Known w :=
  tab_of_reads (g := 7) (len := 64) (t := 488) (e := 5) (by kernel_rfl) (by kernel_rfl) Tryz.underlying488 Tryz.underlying5 (by kernel_rfl) (by kernel_rfl) (deBruijn_eq ▸ h)
theorem known_glob {w : World} (h : Known w) : GlobIs w 7 (deBruijn.map (AV.int .u8)) := GlobIs.of_tab h (by kernel_rfl)
theorem known_size {w : World} (h : Known w) : 7 + 1 ≤ w.heap.size := Nat.succ_le_of_lt (known_glob h).lt
theorem known_cells {w : World} (h : Known w) : ∀ p ∈ ([(7, by8 [0, 1, 56, 2, 57, 49, 28, 3, 61, 58, 42, 50, 38, 29, 17, 4, 62, 47, 59, 36, 45, 43, 51, 22, 53, 39, 33, 30, 24, 18, 12, 5, 63, 55, 48, 27, 60, 41, 37, 16, 46, 35, 44, 21, 52, 32, 23, 11, 54, 26, 40, 15, 34, 20, 31, 10, 25, 14, 19, 9, 13, 8, 7, 6])] : List (Nat × List AV)), p.1 < 7 + 1 ∧ GlobIs w p.1 p.2 := by
  intro p hp
  simp only [List.mem_cons, List.not_mem_nil, or_false] at hp
  subst hp
  exact ⟨Nat.lt_succ_self _, known_glob h⟩
theorem Known.on {w w' : World} (h : Known w) (hb : Below w.heap.size w w') : Known w' := by
  have hl := (known_glob h).lt
  unfold Known Lib.TabIs World.var? at *
  rw [show Tryz.prog.globalNamed "math/bits.deBruijn64tab" = some 7 by kernel_rfl] at *
  simp only [Option.bind_some] at *
  rw [hb.block _ hl]
  exact h
end Go.Proofs.YthjhakiagbdhlaaGreatDoor

/-
  The abstract machine: a panic that a deferred call catches.
-/
set_option linter.unusedVariables false
set_option linter.unusedSectionVars false
set_option linter.unusedSimpArgs false
set_option linter.constructorNameAsVariable false
namespace Go.Proofs.YthjhakiagbdhlaaGreatDoor.Ev
open Go Go.RowKit

section
variable [Xt] {P : Program} {ng n0 : Nat} {σ : Sg} {h : AH} {w : World}
variable {m m' : AM} {f : Frame} {cs base : List Frame} {p : List (Nat × Nat)} {ks : List Nat}

theorem raise_of {a : AFrame} (h : FR P σ a f p) (ch : List PanicEntry) : f.raise ch = { f with mode := .panicking ch } := by
  have := h.mode
  unfold Frame.raise
  cases hr : a.ret <;> rw [hr] at this <;> simp only [cond_true, cond_false] at this <;> rw [this]
theorem fr_nil {a : AFrame} (h : FR P σ a f p) (hn : notDrw a.todo = true) : p = [] := by
  have ht := h.top
  unfold TopR at ht
  split at ht
  · obtain ⟨k', _, _, _, _, h⟩ := ht; exact h
  · rename_i e; rw [e] at hn; cases hn
  · exact ht.2.2
theorem tmp_of_reg {a : AFrame} (h : FR P σ a f p) {ops : Array Oper} {i : Nat} {r : List Oper} {k : List AItem} (ht : a.todo = .reg ops i r :: k) : TmpR σ (fun _ => False) a.tmps a.nt f.tmps := by
  have := h.top
  rw [ht] at this
  obtain ⟨k', _, _, _, h, _⟩ := this
  exact h
theorem unwind_to {ch : List PanicEntry} : ∀ (al : List AFrame) (fs : List Frame) (ks : List Nat) (f : Frame) (c : AFrame) (B : List AFrame), StR P σ al fs ks → catcher P al = some (c, B) → f.mode = .panicking ch → f.defers = [] →
    (∃ fn, P.funcs[f.fn]? = some fn) → ∃ f1 fs', Steps P (lone f (fs ++ base) w) (lone { f1 with mode := .panicking ch } (fs' ++ base) w) ∧ (∃ p1 pre ks', FR P σ c f1 p1 ∧ StR P σ B fs' ks' ∧ ks = pre ++ ks')
  | [], _, _, _, _, _, _, hc, _, _, _ => by cases hc
  | a :: al, fs, ks, f, c, B, hS, hc, hm, hd, hf => by
    obtain ⟨fa, fs', p, ks', e1, e2, h3, h4, h5⟩ := hS
    subst e1
    have hst := step_leave_panicked (P := P) (fr := f) (c := fa) (cs := fs' ++ base) (w := w) (chain := ch) ⟨hm, hd, hf⟩
    rw [raise_of h3] at hst
    unfold catcher at hc
    cases hda : a.defers with
    | nil =>
      simp only [hda] at hc
      cases hfa : P.funcs[a.fn]? with
      | none => simp [hfa] at hc
      | some fn =>
        simp only [hfa] at hc
        have hda' : fa.defers = [] := by
          have := h3.defers
          rw [hda] at this
          cases hx : fa.defers with
          | nil => rfl
          | cons _ _ => rw [hx] at this; exact this.elim
        obtain ⟨f1, fs1, s1, p1, pre, ks1, s2, s3, s4⟩ := unwind_to al fs' ks' { fa with mode := .panicking ch } c B h5 hc rfl hda' ⟨fn, by rw [← hfa, ← h3.fn]⟩
        exact ⟨f1, fs1, .head hst s1, p1, p.map (·.2) ++ pre, ks1, s2, s3, by rw [e2, s4, List.append_assoc]⟩
    | cons d ds =>
      simp only [hda] at hc
      injection hc with hc
      injection hc with e1 e2
      subst e1 e2
      exact ⟨fa, fs', .one hst, p, p.map (·.2), ks', h3, h5, e2⟩
theorem step_pan {ops : Array Oper} {i : Nat} {r : List Nat} {k : List Item} {o : Oper} {cs : List Frame} (A : AtOp f ops i r k o) {u : Value} (hr : (o.semAt f.roundOf (Frame.act f).eval).run P w = .halt (.panic u) w) :
    step P (lone f cs w) = .next (lone (f.raise [{ v := u, recovered := false }]) cs w) :=
  step_lone_go (by rw [stepG_at A]; simp [stepG.apply, hr])
theorem step_rec_some {ops : Array Oper} {i : Nat} {r : List Nat} {k : List Item} {o : Oper} {cs cs' : List Frame} (A : AtOp f ops i r k o) {u : Value} {w' : World} (hro : f.roundOf = none) (ht : tryRecover f cs = some (u, cs'))
    (hr : (o.semAt f.roundOf (Frame.act f).eval).run P w = .ok .recover w') : step P (lone f cs w) = .next (lone (f.finish u) cs' w') :=
  step_lone_go (by rw [hro] at hr; rw [stepG_at A]; simp [stepG.apply, hr, hro, ht])
/-- a frame at an operation of a region in its order -/
theorem at_reg {a : AFrame} (h : FR P σ a f p) (hm : f.mode = .run) {ops : Array Oper} {i : Nat} {o : Oper} {rest : List Oper} {k : List AItem} (ht : a.todo = .reg ops i (o :: rest) :: k) (ha : awanted ops a.tmps o = some true) :
    ∃ r k', AtOp f ops i r k' o ∧ TmpR σ (fun _ => False) a.tmps a.nt f.tmps ∧ AtEff P a.todo f.todo := by
  have htop := h.top
  rw [ht] at htop
  obtain ⟨k', e1, e2, e3, e4, e5⟩ := htop
  have hi : ops.toList[i]? = some o := by
    have : (ops.toList.drop i)[0]? = some o := by rw [← e2]; rfl
    simpa using this
  have hlt : i < ops.size := by
    have := (List.getElem?_eq_some_iff.1 hi).1; simpa using this
  have hr' : (List.range ops.size).drop i = i :: (List.range ops.size).drop (i + 1) := by
    rw [List.drop_eq_getElem_cons (by simpa using hlt)]; simp
  have ho : ops[i]? = some o := by simpa using hi
  rw [hr'] at e1
  exact ⟨_, k', ⟨e1, hm, ho, wanted_sound e4 (fun _ _ _ _ _ _ _ h => h) ha⟩, e4, by rw [ht]; unfold AtEff; trivial⟩

end
section
variable {P : Program} {ng n0 : Nat} {w : World}
/-- the deferred call, from its start to its end -/
theorem sub_run (X : Xt) (hP : 8 ≤ P.types.size) (hmix : P.follows .mixedOrders = true) {σ : Sg} {n1 n2 : Nat} {m1 m2 m3 m4 : AM} {fE : Frame} {f1 : Frame} {rest : List Frame} {t : TypeId} {vx : AV} {y : Value}
    (h1 : FR P σ m1.fr fE []) (hc1 : m1.cs = []) (hpg : PG σ m1.h X.x) (hh : HR ng n0 σ m1.h w) (hrd : Rdy P ng m1.fr.nt m1.fr.tmps m1.h m1.fr.todo) (h12 : arun P ng n1 m1 = some m2) (h23 : arecover P m2 (.iface t vx) = some m3) (h34 : arun P ng n2 m3 = some m4) (hc4 : m4.cs = []) (hyv : VR σ vx y) :
    ∃ σ4 f4 w4 p4, Steps P (lone fE ({ f1 with mode := .panicking [{ v := .iface t y, recovered := false }], defers := [] } :: rest) w) (lone f4 ({ f1 with mode := .panicking [{ v := .iface t y, recovered := true }], defers := [] } :: rest) w4) ∧
      σ.le σ4 ∧ FR P σ4 m4.fr f4 p4 ∧ PG σ4 m4.h (p4.map (·.2) ++ X.x) ∧ HR ng n0 σ4 m4.h w4 ∧ Below n0 w w4 := by
  have M1 : MRx P ng n0 σ m1 fE [] w [] X.x := ⟨h1, by rw [hc1]; exact ⟨rfl, rfl⟩, by simpa using hpg, hh, hrd⟩
  obtain ⟨σ2, f2, cs2, w2, p2, ks2, s4, l2, M2, b2⟩ := run_sound (base := { f1 with mode := .panicking [{ v := .iface t y, recovered := false }], defers := [] } :: rest) hP hmix n1 _ m2 σ _ _ w _ _ M1 h12
  unfold arecover at h23
  cases hrr : (m2.fr.ret || !m2.fr.dfd) with
  | true => rw [hrr] at h23; cases h23
  | false =>
    rw [hrr, cond_false] at h23
    rw [Bool.or_eq_false_iff, Bool.not_eq_false'] at hrr
    split at h23
    · rename_i ops2 i2 o2 rest2 k2 ht2 hcs2 hrd2
      split at h23
      · rename_i ha2
        split at h23
        · rename_i cc hop2
          split at h23
          · rename_i hcal
            have hS2 := M2.stack
            rw [hcs2] at hS2
            obtain ⟨hcs2', hks2⟩ := hS2
            subst hcs2'
            obtain ⟨r', kk', A2, htm2, hat2⟩ := at_reg M2.top (M2.run hrr.1) ht2 ha2
            have hk2 : f2.kind = .deferred := by have := M2.top.kind; rw [hrr.2] at this; exact this
            have hro2 : f2.roundOf = none := by have := M2.top.round; rw [hrd2] at this; exact this
            have hs5 := step_rec_some (P := P) (w := w2) (w' := w2) (u := .iface t y) (cs := { f1 with mode := .panicking [{ v := .iface t y, recovered := false }], defers := [] } :: rest)
              (cs' := { f1 with mode := .panicking [{ v := .iface t y, recovered := true }], defers := [] } :: rest) A2 hro2 (by unfold tryRecover; rw [hk2]) (by
              rw [Oper.semAt_eq _ _ _ (by simp [hop2])]
              simp [execOp, hop2, resolve, hcal, invoke, builtin])
            unfold AM.done at h23
            cases hfin2 : AFrame.finish P m2.fr (.iface t vx) with
            | none => simp [hfin2] at h23
            | some fr3 =>
              simp only [hfin2] at h23
              injection h23 with h23
              subst h23
              obtain ⟨q1, q2, q3⟩ := finish_sound (ng := ng) (u := .iface t y) M2.top hat2 hfin2 ⟨y, rfl, VR.mono l2 _ _ hyv⟩
              have M3 : MRx P ng n0 σ2 { m2 with fr := fr3 } (f2.finish (.iface t y)) [] w2 p2 ks2 := ⟨q1, by show StR P σ2 m2.cs [] ks2; rw [hcs2]; exact ⟨rfl, hks2⟩, M2.pg, M2.heap, q3 _⟩
              obtain ⟨σ4, f4, cs4, w4, p4, ks4, s6, l4, M4, b4⟩ := run_sound (base := { f1 with mode := .panicking [{ v := .iface t y, recovered := true }], defers := [] } :: rest) hP hmix n2 _ m4 σ2 _ _ w2 _ _ M3 h34
              have hS4 := M4.stack
              rw [hc4] at hS4
              obtain ⟨hcs4', hks4⟩ := hS4
              subst hcs4'
              exact ⟨σ4, f4, w4, p4, s4.trans (.head hs5 s6), l2.trans l4, M4.top, by rw [← hks4]; exact M4.pg, M4.heap, b2.trans b4⟩
          · cases h23
        · cases h23
      · cases h23
    · cases h23
end
section
variable [Xt] {P : Program} {ng n0 : Nat} {σ : Sg} {h : AH} {w : World}
variable {m m' : AM} {f : Frame} {cs base : List Frame} {p : List (Nat × Nat)} {ks : List Nat}
/-- **A PANIC THAT IS CAUGHT.** -/
theorem panic_sound (hP : 8 ≤ P.types.size) (hmix : P.follows .mixedOrders = true) {n1 n2 : Nat} (M : MRx P ng n0 σ m f cs w p ks) (hq : apanic P ng n1 n2 m = some m') : Post P ng n0 σ w f cs base m' := by
  unfold apanic at hq
  cases hra : araise P ng m with
  | none => simp [hra] at hq
  | some q =>
    obtain ⟨v, c, b, B, m1⟩ := q
    simp only [hra] at hq
    cases h12 : arun P ng n1 m1 with
    | none => simp [h12] at hq
    | some m2 =>
    simp only [h12] at hq
    cases h23 : arecover P m2 v with
    | none => simp [h23] at hq
    | some m3 =>
    simp only [h23] at hq
    cases h34 : arun P ng n2 m3 with
    | none => simp [h34] at hq
    | some m4 =>
    simp only [h34] at hq
    unfold araise at hra
    cases hr : m.fr.ret with
    | true => rw [hr] at hra; cases hra
    | false =>
    rw [hr, cond_false] at hra
    split at hra
    · rename_i ops i o rest k fn0 ht hd hfn
      split at hra
      · rename_i ha
        split at hra
        · rename_i x hop
          split at hra
          · rename_i t vx hx
            split at hra
            · rename_i c' b' B' hcat
              split at hra
              · rename_i ops' i' rest' k' g cap args hct hcd
                cases hg : c'.dfd with
                | true => rw [hg] at hra; cases hra
                | false =>
                  rw [hg, cond_false] at hra
                  cases hen : AFrame.enter P g (args ++ cap) true with
                  | none => simp [hen] at hra
                  | some fr1 =>
                    simp only [hen] at hra
                    injection hra with hra
                    injection hra with ev1 hra; injection hra with ec hra; injection hra with eb hra; injection hra with eB em
                    subst ev1 ec eb eB em
                    -- the panic
                    obtain ⟨r, kk, A, htm, _⟩ := at_reg M.top (M.run hr) ht ha
                    have hxv := ev_sound (ds := f.defers) M.heap htm (x := x) fun _ _ h => h
                    rw [hx] at hxv
                    obtain ⟨y, hy, hyv⟩ := hxv
                    have hxe : (Frame.act f).eval x = .iface t y := hy
                    have hs1 := step_pan (P := P) (w := w) (cs := cs ++ base) (u := .iface t y) A (by
                      rw [Oper.semAt_eq _ _ _ (by simp [hop])]
                      simp [execOp, hop, hxe, Instr.panic, goPanic, Sem.run])
                    rw [raise_of M.top] at hs1
                    have hfd : f.defers = [] := by
                      have := M.top.defers
                      rw [hd] at this
                      cases hx : f.defers with
                      | nil => rfl
                      | cons _ _ => rw [hx] at this; exact this.elim
                    obtain ⟨f1, fs', s2, p1, pre, ks1, hF, hS, hks⟩ := unwind_to (base := base) (w := w) (ch := [{ v := .iface t y, recovered := false }]) m.cs cs ks { f with mode := .panicking [{ v := .iface t y, recovered := false }] } c' (b' :: B') M.stack hcat rfl hfd ⟨fn0, by rw [← hfn, ← M.top.fn]⟩
                    -- the deferred call is entered
                    have hds := hF.defers
                    rw [hcd] at hds
                    obtain ⟨d, hf1d, hdr⟩ : ∃ d, f1.defers = [d] ∧ DR σ (.call g cap args) d := by
                      cases hx : f1.defers with
                      | nil => rw [hx] at hds; exact hds.elim
                      | cons d ds =>
                        rw [hx] at hds
                        cases ds with
                        | nil => exact ⟨d, rfl, hds.1⟩
                        | cons _ _ => exact hds.2.elim
                    obtain ⟨cv, av, rfl, r1, r2⟩ := hdr
                    obtain ⟨g1, g2, g3, g4, g5⟩ := enter_sound (ng := ng) hen (argv := av ++ cv) (by rw [Array.toList_append]; exact VRs.app r2 r1)
                    have hs3 := step_defer (P := P) (fr := { f1 with mode := .panicking [{ v := .iface t y, recovered := false }] }) (cs := fs' ++ base) (w := w) (f := g) (args := av ++ cv) (by simp) hf1d rfl (g2 w)
                    have hpg1 : PG σ m.h ks1 := by
                      have hsub : ks1.Sublist (p.map (·.2) ++ ks) := by rw [hks, ← List.append_assoc]; exact List.sublist_append_right _ _
                      exact ⟨M.pg.1.sublist hsub, fun k hk => M.pg.2 k (hsub.subset hk)⟩
                    unfold acaught at hq
                    split at hq
                    · rename_i hcs4 hds4
                      cases hb4 : (m4.fr.ret && m4.fr.dfd && plainTop m4.fr.todo) with
                      | false => rw [hb4] at hq; cases hq
                      | true =>
                        rw [hb4, cond_true] at hq
                        simp only [Bool.and_eq_true] at hb4
                        obtain ⟨⟨b41, b42⟩, b43⟩ := hb4
                        split at hq
                        · rename_i gn fn hgn hfnc
                          split at hq
                          · rename_i us vs hres1 hres2
                            cases hfb : AFrame.finish P b' (tupled vs) with
                            | none => simp [hfb] at hq
                            | some frb =>
                              simp only [hfb] at hq
                              injection hq with hq
                              subst hq
                              obtain ⟨σ4, f4, w4, p4, s4, l4, hF4, hpg4, hh4, b4⟩ := sub_run (Xt.mk ks1) (m1 := { fr := fr1, cs := [], h := m.h }) (f1 := f1) (rest := fs' ++ base) hP hmix g1 rfl hpg1 M.heap (g5 _) h12 h23 h34 hcs4 hyv
                              obtain ⟨_, htm4, hp4⟩ := top_inv b43 hF4.top
                              obtain ⟨u4, hu4, _⟩ := results_sound (P := P) hh4 htm4 hres1
                              have hmode4 : f4.mode = .returning := by have := hF4.mode; rw [b41] at this; exact this
                              have hk4 : f4.kind = .deferred := by have := hF4.kind; rw [b42] at this; exact this
                              have hfd4 : f4.defers = [] := by
                                have := hF4.defers
                                rw [hds4] at this
                                cases hx : f4.defers with
                                | nil => rfl
                                | cons _ _ => rw [hx] at this; exact this.elim
                              have hs7 := step_going_returned (P := P) (fr := f4) (c := { f1 with mode := .panicking [{ v := .iface t y, recovered := true }], defers := [] }) (cs := fs' ++ base) (w := w4) (v := u4) hk4 ⟨hmode4, hfd4, gn, by rw [hF4.fn]; exact hgn, hu4⟩
                              have htmc := (tmp_of_reg hF hct).mono l4
                              obtain ⟨uc, huc, hvc⟩ := results_sound (P := P) hh4 htmc hres2
                              obtain ⟨fb, fs'', pb, ks'', e1, e2, h3, h4, h5⟩ := hS.mono l4
                              subst e1
                              have hkc : f1.kind = .normal := by have := hF.kind; rw [hg] at this; exact this
                              have hs8 := step_leave_returned (P := P) (fr := { f1 with mode := .returning, defers := [] }) (c := fb) (cs := fs'' ++ base) (w := w4) (v := uc) ⟨rfl, rfl, hkc, fn, by show P.funcs[f1.fn]? = _; rw [hF.fn]; exact hfnc, huc⟩
                              obtain ⟨z1, z2, z3⟩ := finish_sound (ng := ng) h3 h4 hfb hvc
                              rw [hp4, List.map_nil, List.nil_append] at hpg4
                              refine ⟨σ4, fb.finish uc, fs'', w4, pb, ks'', ?_, l4, ⟨z1, h5, by rw [← e2]; exact hpg4, hh4, z3 _⟩, b4⟩
                              exact .head hs1 (s2.trans (.head hs3 (s4.trans (.head hs7 (.one hs8)))))
                          · cases hq
                        · cases hq
                    · cases hq
              · cases hra
            · cases hra
          · cases hra
        · cases hra
      · cases hra
    · cases hra

/-- a piece that ends in a panic that is caught -/
def pieceP (L : Lk) (ng n a b : Nat) (ks : List Nat) (m : AM) : Option AM :=
  match K.arun L ng n m with
  | some m1 => match K.apanic L ng a b m1 with
    | some m' => bif notReady m'.fr.todo then AM.nf (m'.gc ks) some else none
    | none => none
  | none => none
theorem leads_pieceP (hP : 8 ≤ P.types.size) (hmix : P.follows .mixedOrders = true) {L : Lk} (hL : L = Lk.of P) {n a b : Nat} {ks : List Nat} {m m' : AM} (hq : pieceP L ng n a b ks m = some m') : Leads P ng m m' := by
  subst hL
  unfold pieceP at hq
  have e : K.arun (Lk.of P) ng n m = arun P ng n m := congrFun (congrFun K.arun_eq n) m
  rw [e] at hq
  intro n0 σ f cs base w p l M
  cases hr : arun P ng n m with
  | none => simp [hr] at hq
  | some m1 =>
    simp only [hr] at hq
    have e2 : K.apanic (Lk.of P) ng a b m1 = apanic P ng a b m1 := congrFun (congrFun (congrFun K.apanic_eq a) b) m1
    rw [e2] at hq
    cases hp : apanic P ng a b m1 with
    | none => simp [hp] at hq
    | some m2 =>
      simp only [hp] at hq
      cases hn : notReady m2.fr.todo with
      | false => rw [hn] at hq; cases hq
      | true =>
        rw [hn, cond_true, AM.nf_eq] at hq
        injection hq with hq; subst hq
        obtain ⟨σ1, f1, cs1, w1, p1, ks1, s1, l1, M1, b1⟩ := run_sound (base := base) hP hmix n m m1 σ f cs w p l M hr
        obtain ⟨σ2, f2, cs2, w2, p2, ks2, s2, l2, M2, b2⟩ := panic_sound (base := base) hP hmix M1 hp
        exact ⟨σ2, f2, cs2, w2, p2, ks2, s1.trans s2, l1.trans l2, M2.gc ks hn, b1.trans b2⟩
end
end Go.Proofs.YthjhakiagbdhlaaGreatDoor.Ev

/- A range over a function whose body is told, of each thing that it is handed, how it hangs together with what came ahead of it ('Ok'). The law is the kit's own (wpIn_rangeFunc_ownH) turned to that; its lines are turned from that proof. -/
namespace Go.Proofs.YthjhakiagbdhlaaGreatDoor
open Go.RowKit

/-- What an iterator does, whatever the rounds do that are told 'Ok'. -/
def SeqOk {α : Type} (F : Fence) (n : Nat) (P : Program) (g : Nat) (lb : Array Value) (encs : α → Array Value) (Kp : World → World → Prop) (S Sp : List α → Prop) (Ok : List α → α → Prop) (w : World) : Prop :=
  ∀ (l : Nat) (J Jx : List α → World → Prop) (W : World), Below w.heap.size w W → AbidesFrom W.heap.size J → AbidesFrom W.heap.size Jx →
    (∀ pre x W1, J pre W1 → Ok pre x → YieldAt F (n - 1) P l (encs x) W1 fun e W' =>
      (e = .returned (.bool true) ∧ J (pre ++ [x]) W' ∧ Kp W1 W') ∨ (e = .returned (.bool false) ∧ Jx (pre ++ [x]) W')) →
    J [] W →
    CallsIn F n P g (#[.func (.yield l) #[] #[]] ++ lb) W fun e W' => (∃ v, e = .returned v) ∧ ((∃ xs, S xs ∧ J xs W') ∨ (∃ pre, Sp pre ∧ Jx pre W'))

variable {F : Fence} {n : Nat} {P : Program}
theorem wpIn_rangeFunc_ok {α : Type} {g : Operand} {ps : Array Tmp} {assign body : Code} {Q : Exit → Act → World → Prop} {a : Act} {w : World}
    (hro : F.round = none) (h1 : 1 ≤ n) {gf : Nat} {lb : Array Value} (hg : a.eval g = .func (.func gf) #[] lb) (hFg : F.fn gf) (eg : ∀ args w, (callFunc gf args).run P w = .ok (.enter gf args) w)
    {encs : α → Array Value} {Kp : World → World → Prop} {S Sp : List α → Prop} {Ok : List α → α → Prop} {w0 : World} (hseq : SeqOk F (n - 1) P gf lb encs Kp S Sp Ok w0)
    (hKt : ∀ {A B C : World}, Kp A B → Kp B C → Kp A C) (hKb : ∀ (W : World) (l : Nat) (o o' : Obj), w.heap.size ≤ l → W.heap[l]? = some o → o.isCells = false → o.isWalk = false → Kp W (W.putObj l o')) (hb0 : Below w0.heap.size w0 w) (hps : ∀ x, (encs x).size = ps.size)
    (I : List α → World → Prop) (Ix : Code → List α → World → Prop) (hI : OwnFrom w.heap.size I) (hIx : ∀ c, OwnFrom w.heap.size (Ix c)) (h0 : I [] w) (Ax : α → Act → World → Prop) (hAx : ∀ x a', OwnFrom w.heap.size (fun (_ : Unit) W => Ax x a' W))
    (hassign : ∀ (l : Nat) (pre : List α) (x : α) (W : World) (K : Act → World → Prop), I pre W → (∀ a' W', KeepsFrom w.heap.size W W' → Kp W W' → I pre W' → Ax x a' W' → K a' W') →
      assign.wpIn (F.inRound l) (n - 1 - 1) P (Exit.then K (fun _ _ _ => False)) { tmps := (ps.zip (encs x)).foldl (fun t (p, v) => t.setIfInBounds p v) a.tmps, defers := [] } W)
    (hbody : ∀ (l : Nat) (pre : List α) (x : α) (a' : Act) (W : World), w.heap.size ≤ l → (∃ r, W.heap[l]? = some (.loop r)) → I pre W → Ax x a' W → Ok pre x → body.wpIn (F.inRound l) (n - 1 - 1) P (ownPostG w.heap.size Kp I Ix (pre ++ [x]) W) a' W)
    (hdone : ∀ (D : Nat) (xs : List α) (W : World), w.heap.size ≤ D → S xs → I xs W → W.heap[D]? = some (.deferred (some [])) → Q .normal { a with defers := { target := .collected D, args := #[] } :: a.defers } W)
    (hstop : ∀ (D : Nat) (c : Code) (pre : List α) (W : World), w.heap.size ≤ D → Sp pre → Ix c pre W → W.heap[D]? = some (.deferred (some [])) → c.wpIn F n P Q { a with defers := { target := .collected D, args := #[] } :: a.defers } W) :
    (Code.rangeFunc g ps assign body).wpIn F n P Q a w := by
  refine wpIn_rangeFunc ?_
  intro fn hfn
  rw [hro]
  obtain ⟨rec, hrec⟩ : ∃ rec : LoopState → Option Code → Loop, rec = fun st pe => { state := st, pending := pe, fn, tmps := a.tmps, params := ps, assign, body, defers := w.heap.size } := ⟨_, rfl⟩
  obtain ⟨W1, hW1⟩ : ∃ W1, (w.alloc (.deferred (some []))).alloc (.loop (rec .ready none)) = W1 := ⟨_, rfl⟩
  have hL1 : W1.heap[w.heap.size + 1]? = some (.loop (rec .ready none)) := by
    rw [← hW1]; have := World.alloc_heap_new (w.alloc (.deferred (some []))) (.loop (rec .ready none)); rwa [World.size_alloc] at this
  have hK1 : W1.heap[w.heap.size]? = some (.deferred (some [])) := by
    rw [← hW1]; exact (Below.heap_alloc _ _ _ (by simp)).trans (World.alloc_heap_new w _)
  have hI1 : I [] W1 := by rw [← hW1]; exact hI.alloc _ (hI.alloc _ h0)
  have hb1 : Below w0.heap.size w0 W1 := by
    rw [← hW1]; exact hb0.trans ((((Below.refl _ w).alloc (Nat.le_refl _) _).alloc (by simp) _).mono hb0.size)
  refine ⟨w.heap.size + 1, [{ target := .collected w.heap.size, args := #[] }], W1, { target := .fn (.func gf) lb, args := #[.func (.yield (w.heap.size + 1)) #[] #[]] }, W1, gf,
    #[.func (.yield (w.heap.size + 1)) #[] #[]] ++ lb, W1, ?_, ?_, ?_, ?_, fun _ => h1, ?_⟩
  · rw [← hW1, hrec]; exact run_enterLoop_outer _ _ _ _ _
  · simp only [resolve, hg]
    simp [go_sem]
  · intro f' hf'; simp [Target.leads] at hf'; subst hf'; exact hFg
  · simp [invoke, go_sem, eg]
  · -- THE ITERATOR's CONTRACT, AT THE CALLER's INVARIANT WITH THE TWO FACTS OF BOOK-KEEPING BESIDE IT
    have hnw : ∀ {A B : World} {row : Option Nat}, (∀ r, row = some r → W1.heap.size ≤ r ∧ ∃ o : Obj, A.heap[r]? = some o ∧ o.isWalk = true) → (∀ r, row = some r → w.heap.size ≤ r ∧ ∃ o : Obj, A.heap[r]? = some o ∧ o.isCells = false) :=
      fun hr r e => by obtain ⟨hB, o, ho, hw⟩ := hr r e; exact ⟨by rw [← hW1] at hB; simp at hB; omega, o, ho, Obj.not_cells_of_walk hw⟩
    refine (hseq (w.heap.size + 1)
      (fun pre W => I pre W ∧ W.heap[w.heap.size + 1]? = some (.loop (rec .ready none)) ∧ W.heap[w.heap.size]? = some (.deferred (some [])))
      (fun pre W => ∃ c, Ix c pre W ∧ W.heap[w.heap.size + 1]? = some (.loop (rec .done (some c))) ∧ W.heap[w.heap.size]? = some (.deferred (some [])))
      W1 hb1
      (fun s A B row hs hg' hr => ⟨hI s A B row hs.1 hg' (hnw (B := B) hr), (grownBy_keeps hg' (fun r e => (hr r e).2) hs.2.1 rfl).trans hs.2.1, (grownBy_keeps hg' (fun r e => (hr r e).2) hs.2.2 rfl).trans hs.2.2⟩)
      (fun s A B row hs hg' hr => by
        obtain ⟨c, hc, hl, hk⟩ := hs
        exact ⟨c, hIx c s A B row hc hg' (hnw (B := B) hr), (grownBy_keeps hg' (fun r e => (hr r e).2) hl rfl).trans hl, (grownBy_keeps hg' (fun r e => (hr r e).2) hk rfl).trans hk⟩)
      ?_ ⟨hI1, hL1, hK1⟩).mono ?_
    · skip
      rintro pre x W ⟨hi, hl, hk⟩ hlen
      have hlt : w.heap.size + 1 < W.heap.size := (Array.getElem?_eq_some_iff.1 hl).1
      have hy := run_yield (P := P) (args := encs x) hl (by rw [hrec]; exact hps x)
      rw [hrec] at hy
      refine ⟨fn, _, assign, body, hy, roundIn_of_wpIn hfn (hassign _ pre x W _ hi ?_)⟩
      clear hy
      intro a' Wa hkfa hkpa hia hax
      replace hl := hkfa.same _ _ (by omega) hl rfl
      replace hk := hkfa.same _ _ (Nat.le_refl _) hk rfl
      replace hlt : w.heap.size + 1 < Wa.heap.size := (Array.getElem?_eq_some_iff.1 hl).1
      replace hi := hia
      clear hia
      revert hkpa hkfa
      generalize W = Wb
      intro hkfa hkpa
      obtain ⟨W, rfl⟩ : ∃ W, W = Wa := ⟨_, rfl⟩
      refine ⟨_, run_beginRound hl (by rw [hrec]), ?_⟩
      have hl2 : (W.putObj (w.heap.size + 1) (.loop { rec .ready none with state := .busy })).heap[w.heap.size + 1]? = some (.loop { rec .ready none with state := .busy }) := World.putObj_heap_same hlt
      have hk2 : (W.putObj (w.heap.size + 1) (.loop { rec .ready none with state := .busy })).heap[w.heap.size]? = some (.deferred (some [])) := (World.putObj_heap_other (by omega)).trans hk
      have hw2 : Kp W (W.putObj (w.heap.size + 1) (.loop { rec .ready none with state := .busy })) := hKb _ _ _ _ (by omega) hl rfl rfl
      refine wpIn_mono (hbody _ pre x a' _ (by omega) ⟨_, hl2⟩ (hI.putObj _ hi (by omega) hl rfl) ((hAx x a').putObj (s := ()) _ hax (by omega) hl rfl) hlen) ?_
      have fin : ∀ (jump : Option Code) (W3 : World), KeepsFrom w.heap.size (W.putObj (w.heap.size + 1) (.loop { rec .ready none with state := .busy })) W3 →
          (Instr.endRound (w.heap.size + 1) jump).run P W3 = .ok (.bool jump.isNone) (W3.putObj (w.heap.size + 1) (.loop (rec (if jump.isNone then .ready else .done) jump))) ∧
          W3.heap[w.heap.size + 1]? = some (.loop { rec .ready none with state := .busy }) ∧
          (W3.putObj (w.heap.size + 1) (.loop (rec (if jump.isNone then .ready else .done) jump))).heap[w.heap.size + 1]? = some (.loop (rec (if jump.isNone then .ready else .done) jump)) ∧
          (W3.putObj (w.heap.size + 1) (.loop (rec (if jump.isNone then .ready else .done) jump))).heap[w.heap.size]? = some (.deferred (some [])) := fun jump W3 hk3 => by
        have hl3 := hk3.same _ _ (by omega) hl2 rfl
        have := run_endRound (P := P) jump hl3
        rw [hrec] at this ⊢
        exact ⟨this, by rw [hrec] at hl3; exact hl3, World.putObj_heap_same (Array.getElem?_eq_some_iff.1 hl3).1, (World.putObj_heap_other (by omega)).trans (hk3.same _ _ (Nat.le_refl _) hk2 rfl)⟩
      rintro e a3 W3 hp
      cases e with
      | normal =>
        obtain ⟨hk3, hkp3, hi3⟩ := hp
        obtain ⟨hr, hl3, hl4, hk4⟩ := fin none W3 hk3
        exact ⟨_, _, hr, .inl ⟨rfl, ⟨hI.putObj _ hi3 (by omega) hl3 rfl, hl4, hk4⟩, hKt hkpa (hKt (hKt hw2 hkp3) (hKb _ _ _ _ (by omega) hl3 rfl rfl))⟩⟩
      | ret =>
        obtain ⟨hk3, hi3⟩ := hp
        obtain ⟨hr, hl3, hl4, hk4⟩ := fin (some .ret) W3 hk3
        exact ⟨_, _, hr, .inr ⟨rfl, .ret, (hIx _).putObj _ hi3 (by omega) hl3 rfl, hl4, hk4⟩⟩
      | exit id =>
        obtain ⟨hk3, hi3⟩ := hp
        obtain ⟨hr, hl3, hl4, hk4⟩ := fin (some (.exit id)) W3 hk3
        exact ⟨_, _, hr, .inr ⟨rfl, .exit id, (hIx _).putObj _ hi3 (by omega) hl3 rfl, hl4, hk4⟩⟩
      | goto t =>
        obtain ⟨hk3, hi3⟩ := hp
        obtain ⟨hr, hl3, hl4, hk4⟩ := fin (some (.goto t)) W3 hk3
        exact ⟨_, _, hr, .inr ⟨rfl, .goto t, (hIx _).putObj _ hi3 (by omega) hl3 rfl, hl4, hk4⟩⟩
      | panic ch => exact hp.elim
      | outgrown => exact hp.elim
    · skip
      rintro e W2 ⟨⟨v, rfl⟩, (⟨xs, hS, hi, hl, hk⟩ | ⟨pre, hSp, c, hi, hl, hk⟩)⟩
      · exact ⟨none, _, by have := run_endLoop (P := P) hl (by rw [hrec]; simp); rw [hrec] at this; exact this, hdone _ xs _ (Nat.le_refl _) hS (hI.putObj _ hi (by omega) hl rfl) ((World.putObj_heap_other (by omega)).trans hk)⟩
      · exact ⟨some c, _, by have := run_endLoop (P := P) hl (by rw [hrec]; simp); rw [hrec] at this; exact this, hstop _ c pre _ (Nat.le_refl _) hSp ((hIx c).putObj _ hi (by omega) hl rfl) ((World.putObj_heap_other (by omega)).trans hk)⟩

end Go.Proofs.YthjhakiagbdhlaaGreatDoor

/- Words for memory: a slice that reads as a list of cells, a block known whole, append onto a row of the call's own from whatever source. Turned from the kit's page of words to copy. -/
set_option linter.unusedVariables false
set_option linter.unusedSimpArgs false
namespace Go.Proofs.YthjhakiagbdhlaaGreatDoor
open Go.RowKit

theorem block_of_add (a : Addr) (n : Nat) : (a.add n).block = a.block := by unfold Addr.add; split <;> rfl
theorem add_of_add (a : Addr) (i j : Nat) : (a.add i).add j = a.add (i + j) := by
  unfold Addr.add
  by_cases hi : i = 0 <;> by_cases hj : j = 0 <;> simp [hi, hj, Nat.add_assoc]

def Reads (w : World) (B size : Nat) (A : Option Addr) (n : Nat) (xs : List Value) : Prop :=
  xs.length = n * size ∧ (0 < n → ∃ ad, A = some ad ∧ ad.block < B ∧ ∀ j u, xs[j]? = some u → w.cell? (ad.add j) = some u)

section
variable {w w' : World} {B B' size n : Nat} {A : Option Addr} {xs : List Value}
theorem Reads.none_ : Reads w B size A 0 [] := ⟨by simp, fun h => absurd h (by omega)⟩
theorem Reads.at_ {k : Nat} (h : Reads w B 1 A n xs) (hk : k < n) : ∃ ad u, A = some ad ∧ ad.block < B ∧ xs[k]? = some u ∧ w.cell? (ad.add k) = some u := by
  obtain ⟨ad, e, hb, hc⟩ := h.2 (by omega)
  have hl : k < xs.length := by have := h.1; omega
  exact ⟨ad, xs[k], e, hb, List.getElem?_eq_getElem hl, hc k _ (List.getElem?_eq_getElem hl)⟩
theorem Reads.keep (h : Reads w B size A n xs) (hk : ∀ p : Addr, p.block < B → w'.cell? p = w.cell? p) : Reads w' B size A n xs :=
  ⟨h.1, fun hn => by
    obtain ⟨ad, e, hb, hc⟩ := h.2 hn
    exact ⟨ad, e, hb, fun j u hu => (hk _ (by rw [block_of_add]; exact hb)).trans (hc j u hu)⟩⟩
theorem Reads.more (h : Reads w B size A n xs) (hB : B ≤ B') : Reads w B' size A n xs :=
  ⟨h.1, fun hn => by
    obtain ⟨ad, e, hb, hc⟩ := h.2 hn
    exact ⟨ad, e, by omega, hc⟩⟩
theorem Reads.below (h : Reads w B size A n xs) (hb : Below B w w') : Reads w' B size A n xs := h.keep fun _ hp => hb.cell hp
theorem Reads.drew (h : Reads w B size A n xs) : Reads w.drew B size A n xs := h
theorem Reads.drewN (h : Reads w B size A n xs) (k : Nat) : Reads (w.drewN k) B size A n xs := h
theorem Reads.alloc (h : Reads w B size A n xs) (hB : B ≤ w.heap.size) (o : Obj) : Reads (w.alloc o) B size A n xs := h.keep fun p hp => World.cell?_alloc_lt w o p (by omega)
theorem Reads.setCell (h : Reads w B size A n xs) {p : Addr} (hB : B ≤ p.block) (u : Value) : Reads (w.setCell p u) B size A n xs :=
  h.keep fun q hq => World.cell?_setCell_other w p q u (fun e => by subst e; omega)
theorem Reads.grown (h : Reads w B size A n xs) {row : Option Nat} (hg : w.grownBy w' row) (hB : B ≤ w.heap.size) (hr : ∀ g, row = some g → B ≤ g) : Reads w' B size A n xs :=
  h.keep fun p hp => World.cell?_of_block (hg.block p.block (by omega) (fun e => by have := hr _ e.symm; omega))
theorem Reads.cut (h : Reads w B size A n xs) {k cap : Nat} (hk : k ≤ n) (hc : n ≤ cap) :
    Reads w B size (if cap = k then A else A.map (·.add (k * size))) (n - k) (xs.drop (k * size)) := by
  refine ⟨by rw [List.length_drop, h.1, Nat.sub_mul], fun hn => ?_⟩
  obtain ⟨ad, rfl, hb, hcell⟩ := h.2 (by omega)
  rw [if_neg (by omega)]
  refine ⟨ad.add (k * size), rfl, by rw [block_of_add]; exact hb, fun j u hu => ?_⟩
  rw [add_of_add]
  exact hcell _ u (by rw [← hu, List.getElem?_drop])
theorem Reads.of_own {base : Nat} {e : TypeId} {c : Nat} (h : w.ownsRow base e size (.slice A n c) n xs) : Reads w w.heap.size size A n xs := by
  refine ⟨h.1, fun hn => ?_⟩
  obtain ⟨g, cap, hv, _, hlt⟩ := h.form hn
  have hA : A = some ⟨g, 0, none⟩ := by injection hv
  subst hA
  exact ⟨_, rfl, hlt, h.cells (g := g) rfl⟩
end

def Blk (w : World) (g : Nat) (t : TypeId) (cs : Array Value) : Prop := w.heap[g]? = some (.cells cs t (0, 0))

section
variable {w w' : World} {g : Nat} {t : TypeId} {cs : Array Value}
theorem Blk.lt (h : Blk w g t cs) : g < w.heap.size := by
  rcases Nat.lt_or_ge g w.heap.size with hlt | hge
  · exact hlt
  · unfold Blk at h; rw [Array.getElem?_eq_none hge] at h; cases h
theorem Blk.cell (h : Blk w g t cs) (i : Nat) : w.cell? ⟨g, i, none⟩ = cs[i]? := cell_of_row w g i cs t (0, 0) h
theorem Blk.frozen (h : Blk w g t cs) (i : Nat) : w.frozen? ⟨g, i, none⟩ = false := by
  unfold Blk at h
  simp [World.frozen?, h]
theorem Blk.new (w : World) (t : TypeId) (cs : Array Value) : Blk (w.alloc (.cells cs t)) w.heap.size t cs := heap_alloc_new w _
theorem Blk.drew (h : Blk w g t cs) : Blk w.drew g t cs := h
theorem Blk.drewN (h : Blk w g t cs) (n : Nat) : Blk (w.drewN n) g t cs := h
theorem Blk.alloc (h : Blk w g t cs) (o : Obj) : Blk (w.alloc o) g t cs := (Below.heap_alloc w o g h.lt).trans h
theorem Blk.set_ (h : Blk w g t cs) (i : Nat) (u : Value) : Blk (w.setCell ⟨g, i, none⟩ u) g t (cs.setIfInBounds i u) := by
  unfold Blk at h ⊢
  simp [World.setCell, Array.getElem?_modify, h]
theorem Blk.far (h : Blk w g t cs) {p : Addr} (hp : g ≠ p.block) (u : Value) : Blk (w.setCell p u) g t cs := (Below.heap_setCell w p u g hp).trans h
theorem Blk.below {B : Nat} (h : Blk w g t cs) (hb : Below B w w') (hg : g < B) : Blk w' g t cs := (hb.block g hg).trans h
theorem Blk.grown {row : Option Nat} (h : Blk w g t cs) (hb : w.grownBy w' row) (hg : some g ≠ row) : Blk w' g t cs := (hb.block g h.lt hg).trans h
theorem Blk.ne_ {g' : Nat} {t' : TypeId} {cs' : Array Value} (h : Blk w g t cs) (h' : Blk w g' t' cs') (hne : t ≠ t') : g ≠ g' := by
  rintro rfl
  unfold Blk at h h'
  rw [h] at h'
  injection h' with h'
  injection h' with _ ht
  exact hne ht
theorem own_blk_ne {base : Nat} {e : TypeId} {size n : Nat} {v : Value} {xs : List Value} (h : w.ownsRow base e size v n xs) (hg : Blk w g t cs) (hne : e ≠ t) : v.ownBlock ≠ some g := by
  rcases h.2 with ⟨rfl, _⟩ | ⟨g', cap, cur, rfl, _, hh, _⟩
  · simp [Value.ownBlock]
  · intro he
    have : g' = g := by simpa [Value.ownBlock] using he
    subst this
    exact Blk.ne_ (t := e) hh hg hne rfl
end

section
variable {P : Program} (w : World)

theorem run_append_of_nil (base : Nat) (t ty e : TypeId) (i : TypeInfo) (size : Nat) (ht : P.underlying t = some (.slice e)) (hi : P.info? e = some i)
    (v : Value) (n : Nat) (xs : List Value) (hown : w.ownsRow base e size v n xs) (c : Nat) : (Builtin.append_ #[t, t] ty #[v, .slice none 0 c]).run P w = .ok v w := by
  rcases hown.2 with ⟨rfl, rfl⟩ | ⟨g, cap, cur, rfl, _, _, hnc, _⟩
  · simp [Builtin.append_, run_underlying ht, sizeOf, typeInfo, hi, Builtin.lenOf, Builtin.firstCells]
  · simp [Builtin.append_, run_underlying ht, sizeOf, typeInfo, hi, Builtin.lenOf, Builtin.firstCells, hnc, storeCells]

theorem run_append_any (base : Nat) (t ty e : TypeId) (i : TypeInfo) (z : Value) (size bytes : Nat) (ht : P.underlying t = some (.slice e)) (hi : P.info? e = some i) (hz : i.zero = some z)
    (hsize : i.size = size) (hby : i.bytes = bytes) (hzs : z.cells.size = size) (hsz : 0 < size)
    (v : Value) (n : Nat) (xs : List Value) (hown : w.ownsRow base e size v n xs)
    (B : Nat) (A : Option Addr) (m c : Nat) (news : List Value) (hr : Reads w B size A m news) (h1 : ∀ u ∈ news, u.oneCell' = true)
    (h63 : n + m ≤ maxLen) (hbytes : (n + m) * bytes ≤ 140737488355328) (hbase : base ≤ w.heap.size) :
    ∃ v' w', (Builtin.append_ #[t, t] ty #[v, .slice A m c]).run P w = .ok v' w' ∧ w'.ownsRow base e size v' (n + m) (xs ++ news) ∧ w.grownBy w' v.ownBlock ∧
      (v'.ownBlock = v.ownBlock ∨ v'.ownBlock = some w.heap.size) := by
  rcases A with _ | ad
  · have hm : m = 0 := by
      rcases Nat.eq_zero_or_pos m with h0 | h0
      · exact h0
      · obtain ⟨ad, h, _⟩ := hr.2 h0
        cases h
    subst hm
    have hn : news = [] := List.eq_nil_of_length_eq_zero (by simpa using hr.1)
    subst hn
    exact ⟨v, w, run_append_of_nil w base t ty e i size ht hi v n xs hown c, by simpa using hown, World.grownBy.refl w _, .inl rfl⟩
  · have hcells : ∀ j u, news[j]? = some u → w.cell? (ad.add j) = some u := by
      intro j u hu
      rcases Nat.eq_zero_or_pos m with h0 | h0
      · subst h0
        have hn : news = [] := List.eq_nil_of_length_eq_zero (by simpa using hr.1)
        subst hn
        simp at hu
      · obtain ⟨ad', h, _, hc⟩ := hr.2 h0
        injection h with h
        subst h
        exact hc j u hu
    obtain ⟨v', w', hrun, h2, h3, _, h5⟩ := run_append_own_at (P := P) w base t ty e i z size bytes ht hi hz hsize hby hzs hsz v n xs hown ad m c news hr.1 hcells h1 h63 hbytes hbase
    exact ⟨v', w', hrun, h2, h3, h5⟩

theorem wp_append_any {o : Oper} {a : Act} {K : Act → World → Prop} {Q : Exit → Act → World → Prop} (s x : Operand) (t : TypeId)
    (ho : o.op = .call { callee := .builtin .append, args := #[s, x], argTypes := #[t, t] })
    (base : Nat) (e : TypeId) (i : TypeInfo) (z : Value) (size bytes : Nat) (ht : P.underlying t = some (.slice e)) (hi : P.info? e = some i) (hz : i.zero = some z)
    (hsize : i.size = size) (hby : i.bytes = bytes) (hzs : z.cells.size = size) (hsz : 0 < size)
    (v : Value) (n : Nat) (xs : List Value) (hs : a.eval s = v) (hown : w.ownsRow base e size v n xs)
    (B : Nat) (A : Option Addr) (m c : Nat) (news : List Value) (hx : a.eval x = .slice A m c) (hr : Reads w B size A m news) (h1 : ∀ u ∈ news, u.oneCell' = true)
    (h63 : n + m ≤ maxLen) (hbytes : (n + m) * bytes ≤ 140737488355328) (hbase : base ≤ w.heap.size)
    (h : ∀ v' w', w'.ownsRow base e size v' (n + m) (xs ++ news) → w.grownBy w' v.ownBlock → (v'.ownBlock = v.ownBlock ∨ v'.ownBlock = some w.heap.size) → K (a.put o.dst v') w') : o.wp P a w K Q := by
  obtain ⟨v', w', hrun, h2, h3, h4⟩ := run_append_any (P := P) w base t o.type e i z size bytes ht hi hz hsize hby hzs hsz v n xs hown B A m c news hr h1 h63 hbytes hbase
  unfold Oper.wp execOp
  simp only [ho, resolve, invoke, builtin, Sem.run_bind, Sem.run_pure, Result.andThen_ok, List.map_toArray, List.map_cons, List.map_nil, hs, hx, hrun]
  exact h v' w' h2 h3 h4

theorem wpList_append_any {ops : Array Oper} {rest : List Oper} {o : Oper} {a : Act} {Q : Exit → Act → World → Prop} (hgd : o.guard = none) (s x : Operand) (t : TypeId)
    (ho : o.op = .call { callee := .builtin .append, args := #[s, x], argTypes := #[t, t] })
    (base : Nat) (e : TypeId) (i : TypeInfo) (z : Value) (size bytes : Nat) (ht : P.underlying t = some (.slice e)) (hi : P.info? e = some i) (hz : i.zero = some z)
    (hsize : i.size = size) (hby : i.bytes = bytes) (hzs : z.cells.size = size) (hsz : 0 < size)
    (v : Value) (n : Nat) (xs : List Value) (hs : a.eval s = v) (hown : w.ownsRow base e size v n xs)
    (B : Nat) (A : Option Addr) (m c : Nat) (news : List Value) (hx : a.eval x = .slice A m c) (hr : Reads w B size A m news) (h1 : ∀ u ∈ news, u.oneCell' = true)
    (h63 : n + m ≤ maxLen) (hbytes : (n + m) * bytes ≤ 140737488355328) (hbase : base ≤ w.heap.size)
    (h : ∀ v' w', w'.ownsRow base e size v' (n + m) (xs ++ news) → w.grownBy w' v.ownBlock → (v'.ownBlock = v.ownBlock ∨ v'.ownBlock = some w.heap.size) → wpList P ops Q rest (a.put o.dst v') w') : wpList P ops Q (o :: rest) a w :=
  wpList_plain hgd fun _ hK => wp_append_any w s x t ho base e i z size bytes ht hi hz hsize hby hzs hsz v n xs hs hown B A m c news hx hr h1 h63 hbytes hbase fun v' w' h2 h3 h4 => hK _ _ (h v' w' h2 h3 h4)

theorem step_append_any {ops : Array Oper} {o : Oper} {a : Act} {K : Act → World → Prop} {Q : Exit → Act → World → Prop} {E : Prop} (hgd : o.guard = none) (s x : Operand) (t : TypeId)
    (ho : o.op = .call { callee := .builtin .append, args := #[s, x], argTypes := #[t, t] })
    (base : Nat) (e : TypeId) (i : TypeInfo) (z : Value) (size bytes : Nat) (ht : P.underlying t = some (.slice e)) (hi : P.info? e = some i) (hz : i.zero = some z)
    (hsize : i.size = size) (hby : i.bytes = bytes) (hzs : z.cells.size = size) (hsz : 0 < size)
    (v : Value) (n : Nat) (xs : List Value) (hs : a.eval s = v) (hown : w.ownsRow base e size v n xs)
    (B : Nat) (A : Option Addr) (m c : Nat) (news : List Value) (hx : a.eval x = .slice A m c) (hr : Reads w B size A m news) (h1 : ∀ u ∈ news, u.oneCell' = true)
    (h63 : n + m ≤ maxLen) (hbytes : (n + m) * bytes ≤ 140737488355328) (hbase : base ≤ w.heap.size)
    (h : ∀ v' w', w'.ownsRow base e size v' (n + m) (xs ++ news) → w.grownBy w' v.ownBlock → (v'.ownBlock = v.ownBlock ∨ v'.ownBlock = some w.heap.size) → K (a.put o.dst v') w') :
    if Region.wanted o (yielded ops a.tmps) = true then Oper.wp P o a w K Q else E := by
  have hw : Region.wanted o (yielded ops a.tmps) = true := by simp [Region.wanted, hgd]
  rw [if_pos hw]
  exact wp_append_any w s x t ho base e i z size bytes ht hi hz hsize hby hzs hsz v n xs hs hown B A m c news hx hr h1 h63 hbytes hbase h
end

/-- A block that has just been laid, as a slice over all of it. -/
theorem reads_new (w : World) (cs : Array Value) (t : TypeId) (n size : Nat) (h : cs.size = n * size) :
    Reads (w.alloc (.cells cs t)) (w.heap.size + 1) size (some ⟨w.heap.size, 0, none⟩) n cs.toList := by
  refine ⟨by simpa using h, fun _ => ⟨_, rfl, by simp, fun j u hu => ?_⟩⟩
  have hb : Blk (w.alloc (.cells cs t)) w.heap.size t cs := Blk.new w t cs
  have := hb.cell j
  rw [show (⟨w.heap.size, 0, none⟩ : Addr).add j = ⟨w.heap.size, j, none⟩ by unfold Addr.add; split <;> simp_all]
  rw [this]
  simpa using hu

theorem below_any {base : Nat} {w w1 w2 : World} {v v' : Value} (h : Below base w w1) (hb : base ≤ w1.heap.size) (hv : v.ownBlock = none ∨ ∃ k, v.ownBlock = some k ∧ base ≤ k) (hg : w1.grownBy w2 v.ownBlock) : Below base w w2 :=
  h.grown hg hb (fun k hk => by
    rcases hv with e | ⟨k', e, hk'⟩
    · rw [e] at hk; cases hk
    · rw [e] at hk; cases hk; exact hk')

theorem own_from {w : World} {base : Nat} {e : TypeId} {size n : Nat} {v : Value} {xs : List Value} (h : w.ownsRow base e size v n xs) : v.ownBlock = none ∨ ∃ k, v.ownBlock = some k ∧ base ≤ k := by
  rcases hv : v.ownBlock with _ | k
  · exact .inl rfl
  · exact .inr ⟨k, rfl, (h.lt k hv).1⟩

theorem own_cap {w : World} {base : Nat} {e : TypeId} {size n m cap : Nat} {A : Option Addr} {xs : List Value} (h : w.ownsRow base e size (.slice A m cap) n xs) : n ≤ cap ∧ cap ≤ 9223372036854775807 := by
  rcases h.2 with ⟨hv, hn⟩ | ⟨g, c, cur, hv, _, _, h1, h2, _⟩
  · injection hv with _ _ hc
    omega
  · injection hv with _ _ hc
    unfold maxLen at h2
    omega

/-- Two slices of the call's own do not lie in one block. -/
def Apart (u d : Value) : Prop := d.ownBlock = none ∨ d.ownBlock ≠ u.ownBlock
theorem Apart.symm {u d : Value} (h : Apart u d) : Apart d u := by
  unfold Apart at *
  rcases hu : u.ownBlock with _ | k
  · exact .inl rfl
  · right
    rcases h with h | h
    · rw [h]; simp
    · intro e; exact h (by rw [hu, e])
theorem Apart.kept {w w' : World} {base : Nat} {e : TypeId} {size n : Nat} {u d : Value} {xs : List Value} (ha : Apart u d) (h : w.ownsRow base e size d n xs) (hg : w.grownBy w' u.ownBlock) : w'.ownsRow base e size d n xs := h.kept hg ha
theorem Apart.grown {w : World} {base : Nat} {e : TypeId} {size n : Nat} {u u' d : Value} {xs : List Value} (ha : Apart u d) (h : w.ownsRow base e size d n xs) (hat : u'.ownBlock = u.ownBlock ∨ u'.ownBlock = some w.heap.size) : Apart u' d := by
  rcases hat with hat | hat
  · unfold Apart at *; rw [hat]; exact ha
  · unfold Apart
    rcases hd : d.ownBlock with _ | k
    · exact .inl rfl
    · right
      rw [hat]
      have := (h.lt k hd).2
      simp; omega

theorem own_slice {w : World} {base : Nat} {e : TypeId} {size n : Nat} {v : Value} {xs : List Value} (h : w.ownsRow base e size v n xs) : ∃ A cap, v = .slice A n cap := by
  rcases h.2 with ⟨rfl, rfl⟩ | ⟨g, c, cur, rfl, _⟩
  · exact ⟨_, _, rfl⟩
  · exact ⟨_, _, rfl⟩

theorem cell_lt {w : World} {a : Addr} {v : Value} (h : w.cell? a = some v) : a.block < w.heap.size := by
  rcases Nat.lt_or_ge a.block w.heap.size with hlt | hge
  · exact hlt
  · unfold World.cell? at h
    rw [Array.getElem?_eq_none hge] at h
    simp at h

theorem addr_head (g j : Nat) : (⟨g, 0, none⟩ : Addr).add j = ⟨g, j, none⟩ := by unfold Addr.add; split <;> simp_all
theorem addr_at (b off j : Nat) : (⟨b, off, none⟩ : Addr).add j = ⟨b, off + j, none⟩ := by unfold Addr.add; split <;> simp_all

end Go.Proofs.YthjhakiagbdhlaaGreatDoor

/- Values in memory that read as plain data: numbers, texts, lists of whatever reads so, structs; what a call of our own has made (Own), and what it goes on with behind an append. No program stands here. -/
set_option linter.unusedVariables false
set_option linter.unusedSimpArgs false
namespace Go.Proofs.YthjhakiagbdhlaaGreatDoor
open Go.RowKit

/-- A type of plain data that lies in cells: 'rep w F cs x': the cells cs read as x in the world w, and no block outside F is looked into. -/
class Rep (α : Type) where
  size : Nat
  pos : 0 < size
  rep : World → (Nat → Prop) → List Value → α → Prop
  len : ∀ {w F cs x}, rep w F cs x → cs.length = size
  keep : ∀ {w w' : World} {F F' : Nat → Prop} {cs x}, rep w F cs x → (∀ p : Addr, F p.block → w'.cell? p = w.cell? p) → (∀ b, F b → F' b) → rep w' F' cs x
  one : ∀ {w F cs x u}, rep w F cs x → u ∈ cs → u.oneCell' = true
open Rep (rep)

theorem Rep.below {α : Type} [Rep α] {w w' : World} {cs : List Value} {x : α} {B : Nat} (h : rep w (· < B) cs x) (hb : Below B w w') : rep w' (· < B) cs x :=
  Rep.keep h (fun _ hp => hb.cell hp) (fun _ h => h)
theorem Rep.more {α : Type} [Rep α] {w : World} {cs : List Value} {x : α} {F F' : Nat → Prop} (h : rep w F cs x) (hF : ∀ b, F b → F' b) : rep w F' cs x :=
  Rep.keep h (fun _ _ => rfl) hF
/-- In the whole heap, then in a later world's whole heap. -/
theorem Rep.on {α : Type} [Rep α] {w w' : World} {cs : List Value} {x : α} (h : rep w (· < w.heap.size) cs x) (hb : Below w.heap.size w w') : rep w' (· < w'.heap.size) cs x :=
  Rep.keep h (fun _ hp => hb.cell hp) (fun b h => Nat.lt_of_lt_of_le h hb.size)

def In64 (n : Int) : Prop := -9223372036854775808 ≤ n ∧ n ≤ 9223372036854775807

instance : Rep Int where
  size := 1
  pos := by decide
  rep _ _ cs n := cs = [.int .i64 n] ∧ In64 n
  len := by rintro _ _ _ _ ⟨rfl, _⟩; rfl
  keep := fun h _ _ => h
  one := by rintro _ _ _ _ _ ⟨rfl, _⟩ hu; simp at hu; subst hu; rfl
instance : Rep Bool where
  size := 1
  pos := by decide
  rep _ _ cs b := cs = [.bool b]
  len := by rintro _ _ _ _ rfl; rfl
  keep := fun h _ _ => h
  one := by rintro _ _ _ _ _ rfl hu; simp at hu; subst hu; rfl
instance : Rep ByteArray where
  size := 1
  pos := by decide
  rep _ _ cs s := cs = [.string s] ∧ s.size ≤ 9223372036854775807
  len := by rintro _ _ _ _ ⟨rfl, _⟩; rfl
  keep := fun h _ _ => h
  one := by rintro _ _ _ _ _ ⟨rfl, _⟩ hu; simp at hu; subst hu; rfl

/-- Element k of what lies behind the place off in block b. -/
def ElemAt {α : Type} [Rep α] (w : World) (F : Nat → Prop) (b off : Nat) (k : Nat) (x : α) : Prop :=
  ∃ cs, rep w F cs x ∧ ∀ j u, cs[j]? = some u → w.cell? ⟨b, off + k * Rep.size α + j, none⟩ = some u

def RepList {α : Type} [Rep α] (w : World) (F : Nat → Prop) (A : Option Addr) (n c : Nat) (xs : List α) : Prop :=
  xs.length = n ∧ n ≤ c ∧ c ≤ 9223372036854775807 ∧ ∀ k x, xs[k]? = some x → ∃ b off, A = some ⟨b, off, none⟩ ∧ F b ∧ ElemAt w F b off k x

theorem ElemAt.keep {α : Type} [Rep α] {w w' : World} {F F' : Nat → Prop} {b off : Nat} {k : Nat} {x : α} (h : ElemAt w F b off k x) (hc : ∀ p : Addr, F p.block → w'.cell? p = w.cell? p) (hF : ∀ b, F b → F' b) (hb : F b) : ElemAt w' F' b off k x := by
  obtain ⟨cs, h1, h2⟩ := h
  exact ⟨cs, Rep.keep h1 hc hF, fun j u hu => (hc _ hb).trans (h2 j u hu)⟩

theorem RepList.keep {α : Type} [Rep α] {w w' : World} {F F' : Nat → Prop} {A : Option Addr} {n c : Nat} {xs : List α} (h : RepList w F A n c xs) (hc : ∀ p : Addr, F p.block → w'.cell? p = w.cell? p) (hF : ∀ b, F b → F' b) : RepList w' F' A n c xs := by
  obtain ⟨h1, h2, h3, h4⟩ := h
  refine ⟨h1, h2, h3, fun k x hx => ?_⟩
  obtain ⟨b, off, e, hb, he⟩ := h4 k x hx
  exact ⟨b, off, e, hF _ hb, he.keep hc hF hb⟩

instance {α : Type} [Rep α] : Rep (List α) where
  size := 1
  pos := by decide
  rep w F cs xs := ∃ A n c, cs = [.slice A n c] ∧ RepList w F A n c xs
  len := by rintro _ _ _ _ ⟨A, n, c, rfl, _⟩; rfl
  keep := by rintro _ _ _ _ _ _ ⟨A, n, c, rfl, h⟩ hc hF; exact ⟨A, n, c, rfl, h.keep hc hF⟩
  one := by rintro _ _ _ _ _ ⟨A, n, c, rfl, _⟩ hu; simp at hu; subst hu; rfl

theorem lt_of_get? {α : Type} {xs : List α} {k : Nat} {x : α} (h : xs[k]? = some x) : k < xs.length := by
  rcases Nat.lt_or_ge k xs.length with hl | hl
  · exact hl
  · rw [List.getElem?_eq_none hl] at h; cases h

section
variable {α : Type} [Rep α] {w w' : World} {F F' : Nat → Prop} {A : Option Addr} {n c : Nat} {xs : List α}
theorem RepList.length (h : RepList w F A n c xs) : xs.length = n := h.1
theorem RepList.cap (h : RepList w F A n c xs) : n ≤ c ∧ c ≤ 9223372036854775807 := ⟨h.2.1, h.2.2.1⟩
theorem RepList.nil : RepList w F none 0 0 ([] : List α) := ⟨rfl, Nat.le_refl _, by omega, fun k x h => by simp at h⟩
theorem RepList.below {B : Nat} (h : RepList w (· < B) A n c xs) (hb : Below B w w') : RepList w' (· < B) A n c xs := h.keep (fun _ hp => hb.cell hp) (fun _ h => h)
theorem RepList.on (h : RepList w (· < w.heap.size) A n c xs) (hb : Below w.heap.size w w') : RepList w' (· < w'.heap.size) A n c xs := h.keep (fun _ hp => hb.cell hp) (fun b h => Nat.lt_of_lt_of_le h hb.size)
theorem RepList.more (h : RepList w F A n c xs) (hF : ∀ b, F b → F' b) : RepList w F' A n c xs := h.keep (fun _ _ => rfl) hF
/-- Element k: where it lies, what it is. -/
theorem RepList.at_ {k : Nat} (h : RepList w F A n c xs) (hk : k < n) : ∃ b off x, A = some ⟨b, off, none⟩ ∧ Hid (xs[k]? = some x) ∧ F b ∧ ElemAt w F b off k x := by
  have hl : k < xs.length := by have := h.1; omega
  obtain ⟨b, off, e, hb, he⟩ := h.2.2.2 k xs[k] (List.getElem?_eq_getElem hl)
  exact ⟨b, off, xs[k], e, List.getElem?_eq_getElem hl, hb, he⟩
/-- The same, where the element is known. -/
theorem RepList.elem {b off : Nat} {k : Nat} {x : α} (h : RepList w F (some ⟨b, off, none⟩) n c xs) (hx : xs[k]? = some x) : F b ∧ ElemAt w F b off k x := by
  obtain ⟨b', off', e, hb, he⟩ := h.2.2.2 k x hx
  cases e
  exact ⟨hb, he⟩
/-- A list whose elements are all known reads so. -/
theorem RepList.of_elems {b off : Nat} (hl : xs.length = n) (hc : n ≤ c) (hm : c ≤ 9223372036854775807) (hb : F b) (h : ∀ k x, xs[k]? = some x → ElemAt w F b off k x) : RepList w F (some ⟨b, off, none⟩) n c xs :=
  ⟨hl, hc, hm, fun k x hx => ⟨b, off, rfl, hb, h k x hx⟩⟩
end

theorem ElemAt.int {w : World} {F : Nat → Prop} {b off k : Nat} {x : Int} (h : ElemAt w F b off k x) : w.cell? ⟨b, off + k, none⟩ = some (.int .i64 x) ∧ In64 x := by
  obtain ⟨cs, ⟨rfl, h1⟩, hc⟩ := h
  have := hc 0 _ rfl
  simp only [show Rep.size Int = 1 from rfl, Nat.mul_one, Nat.add_zero] at this
  exact ⟨this, h1⟩
theorem ElemAt.str {w : World} {F : Nat → Prop} {b off k : Nat} {x : ByteArray} (h : ElemAt w F b off k x) : w.cell? ⟨b, off + k, none⟩ = some (.string x) ∧ x.size ≤ 9223372036854775807 := by
  obtain ⟨cs, ⟨rfl, h1⟩, hc⟩ := h
  have := hc 0 _ rfl
  simp only [show Rep.size ByteArray = 1 from rfl, Nat.mul_one, Nat.add_zero] at this
  exact ⟨this, h1⟩
theorem ElemAt.list {α : Type} [Rep α] {w : World} {F : Nat → Prop} {b off k : Nat} {x : List α} (h : ElemAt w F b off k x) : ∃ A n c, w.cell? ⟨b, off + k, none⟩ = some (.slice A n c) ∧ RepList w F A n c x := by
  obtain ⟨cs, ⟨A, n, c, rfl, h1⟩, hc⟩ := h
  have := hc 0 _ rfl
  simp only [show Rep.size (List α) = 1 from rfl, Nat.mul_one, Nat.add_zero] at this
  exact ⟨A, n, c, this, h1⟩

/-! ### cells in a row -/
theorem flat_get {size : Nat} : ∀ (css : List (List Value)) (k j : Nat) (cs : List Value), (∀ c ∈ css, c.length = size) → css[k]? = some cs → j < size → css.flatten[k * size + j]? = cs[j]?
  | [], _, _, _, _, h, _ => by simp at h
  | c :: css, 0, j, cs, hl, h, hj => by
    simp at h
    subst h
    have := hl c (by simp)
    rw [List.flatten_cons, Nat.zero_mul, Nat.zero_add, List.getElem?_append_left (by omega)]
  | c :: css, k + 1, j, cs, hl, h, hj => by
    have h1 := hl c (by simp)
    rw [List.flatten_cons, List.getElem?_append_right (by rw [h1, Nat.add_mul]; omega)]
    rw [show (k + 1) * size + j - c.length = k * size + j by rw [h1, Nat.add_mul]; omega]
    exact flat_get css k j cs (fun c' hc' => hl c' (by simp [hc'])) (by simpa using h) hj
theorem flat_length {size : Nat} : ∀ css : List (List Value), (∀ c ∈ css, c.length = size) → css.flatten.length = css.length * size
  | [], _ => by simp
  | c :: css, hl => by
    rw [List.flatten_cons, List.length_append, hl c (by simp), flat_length css (fun c' hc' => hl c' (by simp [hc'])), List.length_cons, Nat.add_mul]; omega

/-- The blocks that have been laid from base on. -/
def Fresh (base : Nat) (w : World) (b : Nat) : Prop := base ≤ b ∧ b < w.heap.size
theorem Fresh.whole {base : Nat} {w : World} {b : Nat} (h : Fresh base w b) : b < w.heap.size := h.2
theorem Fresh.on {base : Nat} {w w' : World} (hb : Below w.heap.size w w') {b : Nat} (h : Fresh base w b) : Fresh base w' b := ⟨h.1, Nat.lt_of_lt_of_le h.2 hb.size⟩
theorem RepList.whole {α : Type} [Rep α] {w : World} {base : Nat} {A : Option Addr} {n c : Nat} {xs : List α} (h : RepList w (Fresh base w) A n c xs) : RepList w (· < w.heap.size) A n c xs := h.more (fun _ h => h.2)
theorem RepList.fresh_on {α : Type} [Rep α] {w w' : World} {base : Nat} {A : Option Addr} {n c : Nat} {xs : List α} (h : RepList w (Fresh base w) A n c xs) (hb : Below w.heap.size w w') : RepList w' (Fresh base w') A n c xs :=
  h.keep (fun _ hp => hb.cell hp.2) (fun _ h => h.on hb)

/-! ### what the call itself has made -/
/-- Where the deep parts of an owned row may lie: within D, and not in the row's own block. -/
def Fr (D : Nat → Prop) (w : World) (v : Value) (b : Nat) : Prop := D b ∧ b < w.heap.size ∧ some b ≠ v.ownBlock

/-- The slice value v, made by the call itself (its row in a block from base on, its deep parts within D), reads as xs. -/
def Own {α : Type} [Rep α] (D : Nat → Prop) (w : World) (base : Nat) (e : TypeId) (v : Value) (xs : List α) : Prop :=
  ∃ css : List (List Value), css.length = xs.length ∧ (∀ (k : Nat) (cs : List Value) (x : α), css[k]? = some cs → xs[k]? = some x → rep w (Fr D w v) cs x) ∧ w.ownsRow base e (Rep.size α) v xs.length css.flatten

section
variable {α : Type} [Rep α] {D : Nat → Prop} {w w' : World} {base : Nat} {e : TypeId} {v v' : Value} {xs : List α}
theorem Own.nil (D : Nat → Prop) (w : World) (base : Nat) (e : TypeId) : Own D w base e (.slice none 0 0) ([] : List α) := ⟨[], rfl, fun k cs x h => by simp at h, World.ownsRow_nil _ _ _ _⟩
theorem Own.lens {css : List (List Value)} (hl : css.length = xs.length) (hr : ∀ (k : Nat) (cs : List Value) (x : α), css[k]? = some cs → xs[k]? = some x → rep w (Fr D w v) cs x) : ∀ c ∈ css, c.length = Rep.size α := by
  intro c hc
  obtain ⟨k, hk⟩ := List.getElem?_of_mem hc
  have hk2 : k < xs.length := by have := lt_of_get? hk; omega
  exact Rep.len (hr k c xs[k] hk (List.getElem?_eq_getElem hk2))
theorem Own.form (h : Own D w base e v xs) : ∃ A cap, v = .slice A xs.length cap := by
  obtain ⟨css, _, _, ho⟩ := h
  exact own_slice ho
theorem Own.from_ (h : Own D w base e v xs) : v.ownBlock = none ∨ ∃ k, v.ownBlock = some k ∧ base ≤ k := by
  obtain ⟨css, _, _, ho⟩ := h
  exact own_from ho
theorem Own.block_lt (h : Own D w base e v xs) {k : Nat} (hk : v.ownBlock = some k) : k < w.heap.size := by
  obtain ⟨css, _, _, ho⟩ := h
  exact (ho.lt k hk).2
/-- It goes on where nothing that was there has turned. -/
theorem Own.on (h : Own D w base e v xs) (hb : Below w.heap.size w w') : Own D w' base e v xs := by
  obtain ⟨css, hl, hr, ho⟩ := h
  refine ⟨css, hl, fun k cs x h1 h2 => Rep.keep (hr k cs x h1 h2) (fun p hp => hb.cell hp.2.1) (fun b hb' => ⟨hb'.1, Nat.lt_of_lt_of_le hb'.2.1 hb.size, hb'.2.2⟩), ?_⟩
  refine ⟨ho.1, ?_⟩
  rcases ho.2 with hn | ⟨g, cap, cur, rfl, hbg, hgg, rest⟩
  · exact .inl hn
  · refine .inr ⟨g, cap, cur, rfl, hbg, ?_, rest⟩
    rw [hb.block g (Array.getElem?_eq_some_iff.1 hgg).1]
    exact hgg
theorem Own.mono {base' : Nat} (h : Own D w base e v xs) (hb : base' ≤ base) : Own D w base' e v xs := by
  obtain ⟨css, hl, hr, ho⟩ := h
  refine ⟨css, hl, hr, ho.1, ?_⟩
  rcases ho.2 with hn | ⟨g, cap, cur, rfl, hbg, rest⟩
  · exact .inl hn
  · exact .inr ⟨g, cap, cur, rfl, Nat.le_trans hb hbg, rest⟩
theorem Own.wide {D' : Nat → Prop} (h : Own D w base e v xs) (hD : ∀ b, D b → D' b) : Own D' w base e v xs := by
  obtain ⟨css, hl, hr, ho⟩ := h
  exact ⟨css, hl, fun k cs x h1 h2 => Rep.more (hr k cs x h1 h2) (fun b hb => ⟨hD b hb.1, hb.2⟩), ho⟩
theorem Own.alloc (h : Own D w base e v xs) (o : Obj) : Own D (w.alloc o) base e v xs := h.on ((Below.refl _ _).alloc (Nat.le_refl _) o)
theorem Own.drewN (h : Own D w base e v xs) (n : Nat) : Own D (w.drewN n) base e v xs := h.on (Go.below_drewN (Below.refl _ _) n)
/-- It reads as a list. -/
theorem Own.reads {A : Option Addr} {n c : Nat} (h : Own D w base e (.slice A n c) xs) : RepList w (fun b => (D b ∨ base ≤ b) ∧ b < w.heap.size) A n c xs := by
  obtain ⟨css, hl, hr, ho⟩ := h
  have hlen := Own.lens hl hr
  have hcap := own_cap ho
  have hn : xs.length = n := by
    rcases ho.2 with ⟨hv, hx⟩ | ⟨g, cap, cur, hv, _⟩
    · injection hv with _ hn _; omega
    · injection hv with _ hn _; exact hn.symm
  refine ⟨hn, by omega, hcap.2, fun k x hx => ?_⟩
  have hk := lt_of_get? hx
  obtain ⟨g, cap, hv, hb, hlt⟩ := ho.form (by omega)
  injection hv with hA _ _
  subst hA
  refine ⟨g, 0, rfl, ⟨.inr hb, hlt⟩, css[k]'(by omega), Rep.more (hr k _ x (List.getElem?_eq_getElem (by omega)) hx) (fun b hb => ⟨.inl hb.1, hb.2.1⟩), fun j u hu => ?_⟩
  have hj : j < Rep.size α := by
    have := hlen (css[k]'(by omega)) (List.getElem_mem _)
    have := lt_of_get? hu
    omega
  have hc := ho.cells (g := g) rfl (k * Rep.size α + j) u (by rw [flat_get css k j _ hlen (List.getElem?_eq_getElem (by omega)) hj]; exact hu)
  rw [Nat.zero_add]
  rw [addr_head] at hc
  exact hc
end

/-- Behind an append of one element. -/
theorem own_push {α : Type} [Rep α] {D : Nat → Prop} {w w' : World} {base : Nat} {e : TypeId} {v v' : Value} {xs : List α} {y : α} {css : List (List Value)} {cs : List Value}
    (hl : css.length = xs.length) (hr : ∀ (k : Nat) (cs : List Value) (x : α), css[k]? = some cs → xs[k]? = some x → rep w (Fr D w v) cs x)
    (hy : rep w (Fr D w v) cs y) (ho' : w'.ownsRow base e (Rep.size α) v' (xs.length + 1) (css.flatten ++ cs))
    (hg : w.grownBy w' v.ownBlock) (hat : v'.ownBlock = v.ownBlock ∨ v'.ownBlock = some w.heap.size) : Own D w' base e v' (xs ++ [y]) := by
  have go : ∀ (cs : List Value) (x : α), rep w (Fr D w v) cs x → rep w' (Fr D w' v') cs x := by
    intro cs x hx
    refine Rep.keep hx (fun p hp => World.cell?_of_block (hg.block p.block hp.2.1 hp.2.2)) (fun b hb => ⟨hb.1, Nat.lt_of_lt_of_le hb.2.1 hg.size, ?_⟩)
    rcases hat with hat | hat
    · rw [hat]; exact hb.2.2
    · rw [hat]; have := hb.2.1; simp; omega
  refine ⟨css ++ [cs], by simp [hl], fun k cs' x h1 h2 => go cs' x ?_, by simpa using ho'⟩
  rcases Nat.lt_or_ge k css.length with hk | hk
  · rw [List.getElem?_append_left hk] at h1
    rw [List.getElem?_append_left (by omega)] at h2
    exact hr k cs' x h1 h2
  · rw [List.getElem?_append_right hk] at h1
    rw [List.getElem?_append_right (by omega)] at h2
    have h3 : k - css.length = 0 := by have := lt_of_get? h1; simp at this; omega
    rw [h3] at h1
    rw [show k - xs.length = 0 by omega] at h2
    simp at h1 h2
    subst h1 h2
    exact hy

/-! ### rows of numbers -/
def ints (xs : List Int) : List Value := xs.map (Value.int .i64)
theorem ints_len (xs : List Int) : (ints xs).length = xs.length := by simp [ints]
theorem ints_get {xs : List Int} {k : Nat} (h : k < xs.length) : (ints xs)[k]? = some (.int .i64 xs[k]) := by simp [ints, h]
theorem ints_one (xs : List Int) : ∀ u ∈ ints xs, u.oneCell' = true := by
  intro u hu
  obtain ⟨_, _, rfl⟩ := List.mem_map.1 hu
  rfl
theorem ints_flat (xs : List Int) : (xs.map fun x => [Value.int .i64 x]).flatten = ints xs := by
  induction xs with
  | nil => rfl
  | cons x xs ih => simp [ints] at ih ⊢; exact ih

theorem RepList.reads_ints {w : World} {B : Nat} {A : Option Addr} {n c : Nat} {xs : List Int} (h : RepList w (· < B) A n c xs) : Reads w B 1 A n (ints xs) := by
  refine ⟨by rw [ints_len, h.length]; omega, fun h0 => ?_⟩
  obtain ⟨b, off, x, hA, _, hb, _⟩ := h.at_ h0
  refine ⟨_, hA, hb, fun j u hu => ?_⟩
  have hj : j < xs.length := by have := lt_of_get? hu; rwa [ints_len] at this
  rw [ints_get hj] at hu
  cases hu
  subst hA
  obtain ⟨_, he⟩ := h.elem (List.getElem?_eq_getElem hj)
  rw [addr_at]
  exact he.int.1
theorem RepList.in64 {w : World} {F : Nat → Prop} {A : Option Addr} {n c : Nat} {xs : List Int} (h : RepList w F A n c xs) : ∀ x ∈ xs, In64 x := by
  intro x hx
  obtain ⟨k, hk⟩ := List.getElem?_of_mem hx
  obtain ⟨b, off, _, _, he⟩ := h.2.2.2 k x hk
  exact he.int.2

/-- A row of numbers that the call owns. -/
theorem own_ints (D : Nat → Prop) {w : World} {base : Nat} {e : TypeId} {v : Value} {n : Nat} {xs : List Int} (h : w.ownsRow base e 1 v n (ints xs)) (hx : ∀ x ∈ xs, In64 x) : Own D w base e v xs := by
  have hn : n = xs.length := by have := h.1; rw [ints_len] at this; omega
  subst hn
  refine ⟨xs.map fun x => [Value.int .i64 x], by simp, fun k cs x h1 h2 => ?_, by rw [ints_flat]; exact h⟩
  rw [List.getElem?_map, h2] at h1
  simp at h1
  subst h1
  exact ⟨rfl, hx x (List.mem_of_getElem? h2)⟩

/-- What the call owns from base on reads as a list, in the blocks from base on. -/
theorem own_reads {w : World} {base : Nat} {e : TypeId} {A : Option Addr} {n c : Nat} {xs : List Int} (h : w.ownsRow base e 1 (.slice A n c) n (ints xs)) (hx : ∀ x ∈ xs, In64 x) : RepList w (fun b => base ≤ b ∧ b < w.heap.size) A n c xs := by
  have hn : n = xs.length := by have := h.1; rw [ints_len] at this; omega
  have hcap := own_cap h
  refine ⟨hn.symm, hcap.1, hcap.2, fun k x hk => ?_⟩
  have hkl := lt_of_get? hk
  obtain ⟨g, cap, hv, hb, hlt⟩ := h.form (by omega)
  injection hv with hA _ _
  subst hA
  refine ⟨g, 0, rfl, ⟨hb, hlt⟩, [.int .i64 x], ⟨rfl, hx x (List.mem_of_getElem? hk)⟩, fun j u hu => ?_⟩
  have hj : j = 0 := by have := lt_of_get? hu; simp at this; omega
  subst hj
  simp at hu
  subst hu
  have hc := h.cells (g := g) rfl k (.int .i64 x) (by rw [ints_get hkl]; rw [List.getElem?_eq_getElem hkl] at hk; cases hk; rfl)
  rw [addr_head] at hc
  simp only [show Rep.size Int = 1 from rfl, Nat.mul_one, Nat.add_zero, Nat.zero_add]
  exact hc

end Go.Proofs.YthjhakiagbdhlaaGreatDoor

/- Plain words on runes: ranges of runes, letters, digits, marks, blanks, lower forms; the runes of a text. No program stands here. -/
namespace Go.Proofs.YthjhakiagbdhlaaGreatDoor
open Rep (rep)
open Go.RowKit

def within (r a b : Int) : Bool := decide (a ≤ r) && decide (r ≤ b)
theorem within_true {r a b : Int} : (within r a b = true) = (a ≤ r ∧ r ≤ b) := by simp [within]
theorem within_false {r a b : Int} : (within r a b = false) = ¬ (a ≤ r ∧ r ≤ b) := by rw [← within_true]; simp
def amongB (r : Int) : List Int → Bool
  | a :: b :: l => within r a b || amongB r l
  | _ => false
def letterL : List Int := [0x41, 0x5A, 0x61, 0x7A, 0xAA, 0xAA, 0xB5, 0xB5, 0xBA, 0xBA, 0xC0, 0xD6, 0xD8, 0xF6, 0xF8, 0x2AF, 0x370, 0x373, 0x376, 0x377, 0x37B, 0x37D, 0x37F, 0x37F, 0x386, 0x386, 0x388, 0x38A, 0x38C, 0x38C, 0x38E, 0x3A1, 0x3A3, 0x3F5, 0x3F7, 0x481, 0x48A, 0x52F, 0x5D0, 0x5EA, 0x620, 0x64A, 0x904, 0x939, 0x3041, 0x3096, 0x30A1, 0x30FA, 0x4E00, 0x9FFF, 0xAC00, 0xD7A3]
def digitL : List Int := [0x30, 0x39, 0x660, 0x669, 0x966, 0x96F, 0xFF10, 0xFF19]
def markL : List Int := [0x300, 0x36F, 0x483, 0x489, 0x591, 0x5BD, 0x64B, 0x65F, 0x93C, 0x93C, 0x20D0, 0x20F0, 0xFE20, 0xFE2F]
def letterB (r : Int) : Bool := amongB r letterL
def digitB (r : Int) : Bool := amongB r digitL
def markB (r : Int) : Bool := amongB r markL
def blankB (r : Int) : Bool := amongB r [9, 13, 32, 32, 0x85, 0x85, 0xA0, 0xA0, 0x2000, 0x200A, 0x2028, 0x2028, 0x2029, 0x2029, 0x3000, 0x3000]
theorem letterB_iff (r : Int) : (letterB r = true) = ((0x41 ≤ r ∧ r ≤ 0x5A) ∨ (0x61 ≤ r ∧ r ≤ 0x7A) ∨ (0xAA ≤ r ∧ r ≤ 0xAA) ∨ (0xB5 ≤ r ∧ r ≤ 0xB5) ∨ (0xBA ≤ r ∧ r ≤ 0xBA) ∨ (0xC0 ≤ r ∧ r ≤ 0xD6) ∨ (0xD8 ≤ r ∧ r ≤ 0xF6) ∨ (0xF8 ≤ r ∧ r ≤ 0x2AF) ∨ (0x370 ≤ r ∧ r ≤ 0x373) ∨ (0x376 ≤ r ∧ r ≤ 0x377) ∨ (0x37B ≤ r ∧ r ≤ 0x37D) ∨ (0x37F ≤ r ∧ r ≤ 0x37F) ∨ (0x386 ≤ r ∧ r ≤ 0x386) ∨ (0x388 ≤ r ∧ r ≤ 0x38A) ∨ (0x38C ≤ r ∧ r ≤ 0x38C) ∨ (0x38E ≤ r ∧ r ≤ 0x3A1) ∨ (0x3A3 ≤ r ∧ r ≤ 0x3F5) ∨ (0x3F7 ≤ r ∧ r ≤ 0x481) ∨ (0x48A ≤ r ∧ r ≤ 0x52F) ∨ (0x5D0 ≤ r ∧ r ≤ 0x5EA) ∨ (0x620 ≤ r ∧ r ≤ 0x64A) ∨ (0x904 ≤ r ∧ r ≤ 0x939) ∨ (0x3041 ≤ r ∧ r ≤ 0x3096) ∨ (0x30A1 ≤ r ∧ r ≤ 0x30FA) ∨ (0x4E00 ≤ r ∧ r ≤ 0x9FFF) ∨ (0xAC00 ≤ r ∧ r ≤ 0xD7A3)) := by
  simp [letterB, letterL, amongB, within]
theorem digitB_iff (r : Int) : (digitB r = true) = ((0x30 ≤ r ∧ r ≤ 0x39) ∨ (0x660 ≤ r ∧ r ≤ 0x669) ∨ (0x966 ≤ r ∧ r ≤ 0x96F) ∨ (0xFF10 ≤ r ∧ r ≤ 0xFF19)) := by
  simp [digitB, digitL, amongB, within]
theorem markB_iff (r : Int) : (markB r = true) = ((0x300 ≤ r ∧ r ≤ 0x36F) ∨ (0x483 ≤ r ∧ r ≤ 0x489) ∨ (0x591 ≤ r ∧ r ≤ 0x5BD) ∨ (0x64B ≤ r ∧ r ≤ 0x65F) ∨ (0x93C ≤ r ∧ r ≤ 0x93C) ∨ (0x20D0 ≤ r ∧ r ≤ 0x20F0) ∨ (0xFE20 ≤ r ∧ r ≤ 0xFE2F)) := by
  simp [markB, markL, amongB, within]
theorem blankB_iff (r : Int) : (blankB r = true) = ((9 ≤ r ∧ r ≤ 13) ∨ (32 ≤ r ∧ r ≤ 32) ∨ (0x85 ≤ r ∧ r ≤ 0x85) ∨ (0xA0 ≤ r ∧ r ≤ 0xA0) ∨ (0x2000 ≤ r ∧ r ≤ 0x200A) ∨ (0x2028 ≤ r ∧ r ≤ 0x2028) ∨ (0x2029 ≤ r ∧ r ≤ 0x2029) ∨ (0x3000 ≤ r ∧ r ≤ 0x3000)) := by
  simp [blankB, amongB, within]

/-- The lower form of a rune. -/
def lowerR (r : Int) : Int :=
  if amongB r [0x41, 0x5A, 0xC0, 0xD6, 0xD8, 0xDE, 0x391, 0x3A1, 0x3A3, 0x3AB, 0x410, 0x42F] then r + 0x20
  else if amongB r [0x100, 0x12F, 0x132, 0x137, 0x14A, 0x177, 0x460, 0x481, 0x48A, 0x4BF, 0x4D0, 0x52F] then r - r % 2 + 1
  else if amongB r [0x139, 0x148, 0x179, 0x17E, 0x4C1, 0x4CE] then r + r % 2
  else if amongB r [0x388, 0x38A] then r + 0x25
  else if amongB r [0x38E, 0x38F] then r + 0x3F
  else if amongB r [0x400, 0x40F] then r + 0x50
  else if r = 0x178 then 0xFF
  else if r = 0x4C0 then 0x4CF
  else if r = 0x386 then 0x3AC
  else if r = 0x38C then 0x3CC
  else r
theorem among_iff1 (r a b : Int) : (amongB r [a, b] = true) = (a ≤ r ∧ r ≤ b) := by simp [amongB, within]
theorem among_iff3 (r a b c d e f : Int) : (amongB r [a, b, c, d, e, f] = true) = ((a ≤ r ∧ r ≤ b) ∨ (c ≤ r ∧ r ≤ d) ∨ (e ≤ r ∧ r ≤ f)) := by simp [amongB, within]
theorem among_iff6 (r a b c d e f g h i j k l : Int) : (amongB r [a, b, c, d, e, f, g, h, i, j, k, l] = true) = ((a ≤ r ∧ r ≤ b) ∨ (c ≤ r ∧ r ≤ d) ∨ (e ≤ r ∧ r ≤ f) ∨ (g ≤ r ∧ r ≤ h) ∨ (i ≤ r ∧ r ≤ j) ∨ (k ≤ r ∧ r ≤ l)) := by simp [amongB, within]
theorem lowerR_range (r : Int) (h0 : 0 ≤ r) (h1 : r ≤ 0x10FFFF) : 0 ≤ lowerR r ∧ lowerR r ≤ 0x10FFFF := by
  unfold lowerR
  simp only [among_iff1, among_iff3, among_iff6]
  split
  · omega
  split
  · omega
  split
  · omega
  split
  · omega
  split
  · omega
  split
  · omega
  repeat (split; · omega)
  omega

end Go.Proofs.YthjhakiagbdhlaaGreatDoor

/- The runes of a text, by the model's own decoder: how wide they are, where they begin. No program stands here. -/
namespace Go.Proofs.YthjhakiagbdhlaaGreatDoor
open Rep (rep)
open Go.RowKit

def rn (s : ByteArray) (i : Nat) : Nat := (Utf8.decode s i).1
def wd (s : ByteArray) (i : Nat) : Nat := (Utf8.decode s i).2
theorem decodeGo_tail (s : ByteArray) (pos : Nat) (h : pos < s.size) : Lib.decodeGo (s.extract pos s.size) = Utf8.decode s pos := by
  have hx : (s.extract pos s.size).data.toList = s.data.toList.drop pos := by
    rw [Lib.extract_data, List.take_of_length_le (by rw [List.length_drop, ← Lib.size_eq]; omega)]
  have hsz : (s.extract pos s.size).size ≠ 0 := by rw [Lib.size_eq, hx, List.length_drop, ← Lib.size_eq]; omega
  unfold Lib.decodeGo
  rw [if_neg hsz, ← Lib.decodeL_drop s pos, ← hx]
  rfl
theorem wd_pos {s : ByteArray} {i : Nat} (h : i < s.size) : 1 ≤ wd s i := by
  unfold wd
  by_cases ha : (s[i]'h).toNat < 128
  · rw [decode_ascii s i h ha]; exact Nat.le_refl _
  · exact (decode_high s i h (by omega)).2
theorem wd_fit {s : ByteArray} {i : Nat} (h : i < s.size) : i + wd s i ≤ s.size := by
  unfold wd Utf8.decode
  simp only []
  repeat' split
  all_goals simp_all
  all_goals omega
theorem wd_le (s : ByteArray) (i : Nat) : wd s i ≤ 4 := by
  unfold wd Utf8.decode
  simp only []
  repeat' split
  all_goals simp
theorem rn_le (s : ByteArray) (i : Nat) : rn s i ≤ 0x10FFFF := by
  have hb : ∀ k, (s.get! (i + k)).toNat < 256 := fun k => (s.get! (i + k)).toNat_lt
  have h0 := hb 0; have h1 := hb 1; have h2 := hb 2; have h3 := hb 3
  unfold rn Utf8.decode
  simp only []
  repeat' split
  all_goals simp_all [Utf8.runeError, Utf8.valid]
  all_goals omega

def atsF (s : ByteArray) : Nat → Nat → List Nat
  | 0, _ => []
  | f + 1, i => if i < s.size then i :: atsF s f (i + wd s i) else []
theorem atsF_fuel (s : ByteArray) : ∀ f g i, s.size ≤ i + f → s.size ≤ i + g → atsF s f i = atsF s g i
  | 0, 0, _, _, _ => rfl
  | 0, g + 1, i, h, _ => by rw [atsF, atsF, if_neg (by omega)]
  | f + 1, 0, i, _, h => by rw [atsF, atsF, if_neg (by omega)]
  | f + 1, g + 1, i, h, h' => by
    rw [atsF, atsF]
    by_cases hi : i < s.size
    · have := wd_pos hi
      rw [if_pos hi, if_pos hi, atsF_fuel s f g (i + wd s i) (by omega) (by omega)]
    · rw [if_neg hi, if_neg hi]
/-- Where the runes from place i on begin. -/
def atsFrom (s : ByteArray) (i : Nat) : List Nat := atsF s (s.size - i) i
def ats (s : ByteArray) : List Nat := atsFrom s 0
theorem atsFrom_cons {s : ByteArray} {i : Nat} (h : i < s.size) : atsFrom s i = i :: atsFrom s (i + wd s i) := by
  unfold atsFrom
  rw [show s.size - i = (s.size - i - 1) + 1 by omega, atsF, if_pos h]
  have := wd_pos h
  rw [atsF_fuel s _ (s.size - (i + wd s i)) (i + wd s i) (by omega) (by omega)]
theorem atsFrom_nil {s : ByteArray} {i : Nat} (h : s.size ≤ i) : atsFrom s i = [] := by
  unfold atsFrom
  rw [show s.size - i = 0 by omega]; rfl
/-- The places of a text: where its runes begin, and its length. -/
def places (s : ByteArray) : List Nat := ats s ++ [s.size]
theorem atsF_ge (s : ByteArray) : ∀ f i, ∀ x ∈ atsF s f i, i ≤ x ∧ x < s.size
  | 0, _, _, h => by simp [atsF] at h
  | f + 1, i, x, h => by
    rw [atsF] at h
    by_cases hi : i < s.size
    · rw [if_pos hi] at h
      rcases List.mem_cons.1 h with rfl | h
      · omega
      · have := atsF_ge s f _ x h
        omega
    · rw [if_neg hi] at h; simp at h
theorem atsF_len (s : ByteArray) : ∀ f i, (atsF s f i).length ≤ s.size - i
  | 0, _ => by simp [atsF]
  | f + 1, i => by
    rw [atsF]
    by_cases hi : i < s.size
    · rw [if_pos hi, List.length_cons]
      have := atsF_len s f (i + wd s i)
      have := wd_pos hi
      omega
    · rw [if_neg hi]; simp
theorem ats_len (s : ByteArray) : (ats s).length ≤ s.size := by have := atsF_len s (s.size - 0) 0; simpa [ats, atsFrom] using this
/-- What may come next in a row that begins as the places do. -/
theorem ats_next {s : ByteArray} {pre : List Nat} {x : Nat} (h : pre ++ [x] <+: ats s) : ∀ i, ats s = pre ++ atsFrom s i → i = x ∧ x < s.size := by
  intro i hi
  obtain ⟨t, ht⟩ := h
  rw [hi, List.append_assoc, List.append_cancel_left_eq] at ht
  by_cases hlt : i < s.size
  · rw [atsFrom_cons hlt] at ht
    simp at ht
    omega
  · rw [atsFrom_nil (by omega)] at ht
    simp at ht
end Go.Proofs.YthjhakiagbdhlaaGreatDoor

/- Numbers in rows: elements, what is the same up to a place; draws. -/
set_option linter.unusedVariables false
set_option linter.unusedSimpArgs false
namespace Go.Proofs.YthjhakiagbdhlaaGreatDoor
open Rep (rep)
open Go.RowKit

theorem ret_bool {a b : Bool} (h : a = b) : Ending.returned (.bool a) = Ending.returned (.bool b) := by rw [h]
theorem ret_num {k : IntKind} {a b : Int} (h : a = b) : Ending.returned (.int k a) = Ending.returned (.int k b) := by rw [h]

/-- Element k of a slice of numbers: its cell, and what it is, closed to the walk. -/
theorem Reads.int_at {w : World} {B : Nat} {A : Option Addr} {n k : Nat} {xs : List Int} (h : Reads w B 1 A n (ints xs)) (hk : k < n) :
    ∃ ad x, A = some ad ∧ w.cell? (ad.add k) = some (.int .i64 x) ∧ Hid (xs[k]? = some x) := by
  obtain ⟨ad, u, hA, _, hu, hc⟩ := h.at_ hk
  have hl : xs.length = n := by have := h.1; rw [ints_len] at this; omega
  have hk' : k < xs.length := by omega
  rw [ints_get hk'] at hu
  cases hu
  exact ⟨ad, xs[k], hA, hc, List.getElem?_eq_getElem hk'⟩

theorem Reads.int_cell {w : World} {B : Nat} {ad : Addr} {n k : Nat} {xs : List Int} {x : Int} (h : Reads w B 1 (some ad) n (ints xs)) (hk : k < n) (hx : Hid (xs[k]? = some x)) : w.cell? (ad.add k) = some (.int .i64 x) := by
  obtain ⟨ad', x', e, hc, hx'⟩ := h.int_at hk
  cases e
  have := hx.out.symm.trans hx'.out
  cases this
  exact hc

theorem Reads.ints_length {w : World} {B : Nat} {A : Option Addr} {n : Nat} {xs : List Int} (h : Reads w B 1 A n (ints xs)) : xs.length = n := by
  have := h.1; rw [ints_len] at this; omega

def SameTo (xs ys : List Int) (k : Nat) : Prop := xs.take k = ys.take k
def InDraws (w wr : World) : Prop := ∃ j, wr = w.drewN j
theorem InDraws.refl (w : World) : InDraws w w := ⟨0, rfl⟩
theorem InDraws.more {w wr : World} (h : InDraws w wr) (j : Nat) : InDraws w (wr.drewN j) := by
  obtain ⟨i, rfl⟩ := h
  exact ⟨i + j, by rw [World.drewN_drewN]⟩

theorem SameTo.step {xs ys : List Int} {k : Nat} {x : Int} (h : SameTo xs ys k) (hx : Hid (xs[k]? = some x)) (hy : Hid (ys[k]? = some x)) : SameTo xs ys (k + 1) := by
  have hx := hx.out
  have hy := hy.out
  unfold SameTo at *
  rw [List.take_add_one, List.take_add_one, h, hx, hy]
theorem SameTo.all {xs ys : List Int} {n : Nat} (h : SameTo xs ys n) (hx : xs.length = n) (hy : ys.length = n) : xs = ys := by
  unfold SameTo at h
  rwa [List.take_of_length_le (by omega), List.take_of_length_le (by omega)] at h

end Go.Proofs.YthjhakiagbdhlaaGreatDoor

/-
  The abstract machine: operations that write or call, as steps.
-/
import Derived.Test.YtllipkakgjmheaaGreatDoorEvS
set_option linter.unusedVariables false
set_option linter.unusedSimpArgs false
set_option linter.constructorNameAsVariable false
namespace Go.Proofs.YtllipkakgjmheaaGreatDoor.Ev
open Go Go.RowKit

section
variable {P : Program} {ng n0 : Nat} {σ : Sg} {h : AH} {w : World}

/-- a frame stands at an operation that is wanted -/
structure AtOp (f : Frame) (ops : Array Oper) (i : Nat) (r : List Nat) (k : List Item) (o : Oper) : Prop where
  todo : f.todo = .inRegion ops (i :: r) :: k
  mode : f.mode = .run
  op : ops[i]? = some o
  want : Region.wanted o (yielded ops f.tmps) = true

def Frame.act (f : Frame) : Act := ⟨f.tmps, f.defers⟩
theorem atR_self {f : Frame} (hm : f.mode = .run) : f.atR (Frame.act f) f.todo = f := by
  cases f; simp only at hm; subst hm; rfl

theorem stepG_at {f : Frame} {ops : Array Oper} {i : Nat} {r : List Nat} {k : List Item} {o : Oper} {cs : List Frame} (A : AtOp f ops i r k o) :
    stepG P true { frame := f, callers := cs, status := .running, dying := none } w = stepG.apply P true f cs none (o.semAt f.roundOf (Frame.act f).eval) w := by
  have := stepGR_op (P := P) (b := f) (a := Frame.act f) (k := k) (cs := cs) (w := w) (rest := r) A.op A.want
  rw [← A.todo, atR_self A.mode] at this
  exact this

variable {f : Frame} {ops : Array Oper} {i : Nat} {r : List Nat} {k : List Item} {o : Oper} {cs : List Frame}

theorem step_val (A : AtOp f ops i r k o) {u : Value} {w' : World} (hr : (o.semAt f.roundOf (Frame.act f).eval).run P w = .ok (.value u) w') : step P (lone f cs w) = .next (lone (f.finish u) cs w') :=
  step_lone_go (by rw [stepG_at A]; simp [stepG.apply, hr])
theorem step_skp (A : AtOp f ops i r k o) {w' : World} (hr : (o.semAt f.roundOf (Frame.act f).eval).run P w = .ok .skip w') : step P (lone f cs w) = .next (lone (f.finish undef) cs w') :=
  step_lone_go (by rw [stepG_at A]; simp [stepG.apply, hr])
theorem step_ent (A : AtOp f ops i r k o) {g : FuncId} {args : Array Value} {w' : World} (hr : (o.semAt f.roundOf (Frame.act f).eval).run P w = .ok (.enter g args) w') : step P (lone f cs w) = .next (lone (Frame.enter P g args .normal) (f :: cs) w') :=
  step_lone_go (by rw [stepG_at A]; simp [stepG.apply, hr, A.todo])
theorem step_rnd (A : AtOp f ops i r k o) {l : Nat} {g : FuncId} {ts : Array Value} {c1 c2 : Code} {w' : World} (hr : (o.semAt f.roundOf (Frame.act f).eval).run P w = .ok (.round l g ts c1 c2) w') : step P (lone f cs w) = .next (lone (Frame.round l g ts c1 c2 .normal) (f :: cs) w') :=
  step_lone_go (by rw [stepG_at A]; simp [stepG.apply, hr])
theorem step_dfr (A : AtOp f ops i r k o) {d : Deferred} {w' : World} (hr : (o.semAt f.roundOf (Frame.act f).eval).run P w = .ok (.defer d) w') : step P (lone f cs w) = .next (lone (({ f with defers := d :: f.defers } : Frame).finish undef) cs w') :=
  step_lone_go (by rw [stepG_at A]; simp [stepG.apply, hr])
theorem step_rec (A : AtOp f ops i r k o) {w' : World} (hro : f.roundOf = none) (ht : tryRecover f cs = none) (hr : (o.semAt f.roundOf (Frame.act f).eval).run P w = .ok .recover w') : step P (lone f cs w) = .next (lone (f.finish .nilIface) cs w') :=
  step_lone_go (by rw [hro] at hr; rw [stepG_at A]; simp [stepG.apply, hr, hro, ht])

theorem fold_put {nt : Nat} : ∀ (ps : List Tmp) (as : List AV) (vs : List Value) (T : Tr AV) (c : Array Value), VRs σ as vs → TmpR σ (fun _ => False) T nt c →
    TmpR σ (fun _ => False) ((ps.zip as).foldl (fun T p => putT nt T (some p.1) p.2) T) nt ((ps.zip vs).foldl (fun tmps (x : Tmp × Value) => tmps.setIfInBounds x.1 x.2) c)
  | [], _, _, _, _, _, t => t
  | _ :: _, [], [], _, _, _, t => t
  | _ :: _, [], _ :: _, _, _, r, _ => r.elim
  | _ :: _, _ :: _, [], _, _, r, _ => r.elim
  | p :: ps, a :: as, v :: vs, T, c, r, t => fold_put ps as vs _ _ r.2 (tmp_put (dst := some p) t r.1)

theorem ops_map {T : Operand → AV} {ρ : Operand → Value} {xs : Array Operand} (hx : ∀ x ∈ xs, VR σ (T x) (ρ x)) : VRs σ (xs.toList.map T) (xs.map ρ).toList := by
  rw [Array.toList_map]; exact VRs.map T ρ _ fun x hx' => hx x (by simpa using hx')

variable {m m' : AM} {base : List Frame} {p : List (Nat × Nat)} {ks : List Nat}

theorem aeff_sound (hP : 8 ≤ P.types.size) (M : MRx P ng n0 σ m f cs w p ks) (hat : AtEff P m.fr.todo f.todo) (A : AtOp f ops i r k o)
    (hops : ∀ x ∈ o.op.operands, VR σ (ev ng m.fr.tmps x) ((Frame.act f).eval x)) (hq : aeff P ng m o = some m') : Post P ng n0 σ w f cs base m' := by
  have hsem : (∀ c, o.op ≠ .defer c) → o.semAt f.roundOf (Frame.act f).eval = execOp (Frame.act f).eval o := Oper.semAt_eq _ _ _
  have eff : ∀ {v : AV} {h' : AH} {s : Sem Next}, (∀ c, o.op ≠ .defer c) → execOp (Frame.act f).eval o = s → AM.done P m v h' = some m' → Eff P ng n0 σ m.h w v h' s → Post P ng n0 σ w f cs base m' := fun {v h' s} hd hs hq he =>
    eff_done M hat hq he fun rr w' hr hk => by
      rw [← hs, ← hsem hd] at hr
      rcases hk with ⟨u, rfl⟩ | rfl
      · exact step_val A hr
      · exact step_skp A hr
  unfold aeff at hq
  generalize hop : o.op = op at hq
  cases op <;> simp only at hq <;> try (cases hq; done)
  case assign x =>
    exact done_sound M hat hq (step_val A (by rw [hsem (by simp [hop])]; simp [execOp, hop])) (Sg.le.refl σ) M.heap (fun _ _ => rfl) (Nat.le_refl _) (hops x (by simp [hop, Op.operands])) (Below.refl _ _)
  case store t a x =>
    cases hs : astore P m.h t (ev ng m.fr.tmps a) (ev ng m.fr.tmps x) with
    | none => simp [hs] at hq
    | some h' =>
      simp only [hs] at hq
      exact eff (by simp [hop]) (by simp only [execOp, hop]) hq (store_sound M.heap (hops a (by simp [hop, Op.operands])) (hops x (by simp [hop, Op.operands])) hs)
  case mapUpdate t a b x =>
    cases hs : amapUpdate P m.h t (ev ng m.fr.tmps a) (ev ng m.fr.tmps b) (ev ng m.fr.tmps x) with
    | none => simp [hs] at hq
    | some h' =>
      simp only [hs] at hq
      exact eff (by simp [hop]) (by simp only [execOp, hop]) hq (mapUpdate_sound M.heap (hops a (by simp [hop, Op.operands])) (hops b (by simp [hop, Op.operands])) (hops x (by simp [hop, Op.operands])) hs)
  case range t x =>
    cases hs : arange P m.h t (ev ng m.fr.tmps x) with
    | none => simp [hs] at hq
    | some b =>
      simp only [hs] at hq
      exact eff (by simp [hop]) (by simp only [execOp, hop]) hq (range_sound M.heap (hops x (by simp [hop, Op.operands])) hs)
  case next x str =>
    cases str with
    | true => simp at hq
    | false =>
      simp only at hq
      cases hs : anext m.h (ev ng m.fr.tmps x) with
      | none => simp [hs] at hq
      | some vh =>
        obtain ⟨v, h'⟩ := vh
        simp only [hs] at hq
        exact eff (by simp [hop]) (by simp only [execOp, hop]) hq (next_sound (ty := o.type) M.heap (hops x (by simp [hop, Op.operands])) hs)
  case convert src dst x =>
    split at hq
    · rename_i a e kk off len cap h1 h2 h3
      rw [nbeq, Bool.cond_decide] at hq
      split at hq
      · rename_i hsd
        subst hsd
        split at hq
        · rename_i cs' h4 h5
          have hx := hops x (by simp [hop, Op.operands])
          rw [h3] at hx
          obtain ⟨lc, c, he, hv, hcap⟩ := hx
          obtain ⟨w', g1, g2, g3⟩ := mark_sound (P := P) M.heap he (off := off) h5
          have hae : a = e := by rw [h1] at h2; injection h2 with h2; injection h2
          subst hae
          have hcv : (convert src src (.slice (some (lc.at off)) len c)).run P w = .ok (.slice (some (lc.at off)) len c) w' := by
            have hbe : (src == src) = true := by simp
            simp only [convert, Sem.run_bind, ru h1, Result.andThen_ok, ru h4, hbe, g1, Sem.run_pure]
          refine done_sound (v := .slice kk off len cap) M hat hq (step_val A (by rw [hsem (by simp [hop])]; simp only [execOp, hop, hv, Sem.run_bind, hcv, Result.andThen_ok, Sem.run_pure])) (Sg.le.refl σ) g2 (fun _ _ => rfl) (Nat.le_refl _) ⟨lc, c, he, hv, hcap⟩ g3
        · cases hq
      · cases hq
    · cases hq
  case defer c =>
    cases hrd : m.fr.round with
    | some l => simp [hrd] at hq
    | none =>
      have hro : f.roundOf = none := by have := M.top.round; rw [hrd] at this; exact this
      cases hc : c.callee <;> simp only [hrd, hc] at hq <;> try (cases hq; done)
      rename_i g
      generalize hg : ev ng m.fr.tmps g = gv at hq
      cases gv <;> simp only at hq <;> try (cases hq; done)
      rename_i fn first cap
      split at hq
      · rename_i fr hfin
        injection hq with hq; subst hq
        have hgv := hops g (by simp [hop, Op.operands, Call.operands, hc])
        rw [hg] at hgv
        obtain ⟨x', y', hgv, hx', hy'⟩ := hgv
        have ha := ops_map (σ := σ) (T := ev ng m.fr.tmps) (ρ := (Frame.act f).eval) (xs := c.args) fun x hx => hops x (by simp [hop, Op.operands, Call.operands]; right; exact hx)
        let d : Deferred := { target := .fn (.func fn) y', args := x' ++ c.args.map (Frame.act f).eval }
        have hst : step P (lone f (cs ++ base) w) = .next (lone (({ f with defers := d :: f.defers } : Frame).finish undef) (cs ++ base) w) :=
          step_dfr A (by rw [hro, Oper.semAt_none]; simp [execOp, hop, resolve, hc, hgv, Deferred.ofValue, d])
        have hFR : FR P σ { m.fr with defers := .call fn cap (first ++ c.args.toList.map (ev ng m.fr.tmps)) :: m.fr.defers, round := none } ({ f with defers := d :: f.defers } : Frame) p :=
          ⟨M.top.fn, M.top.top, ⟨⟨y', _, rfl, hy', by rw [Array.toList_append]; exact VRs.app hx' ha⟩, M.top.defers⟩, M.top.mode, M.top.kind, hro⟩
        obtain ⟨h1, h2, h3⟩ := finish_sound (ng := ng) hFR hat hfin (v := undefA) (u := undef) ⟨#[], rfl, trivial⟩
        exact ⟨σ, _, cs, w, p, ks, .one hst, Sg.le.refl σ, ⟨h1, M.stack, M.pg, M.heap, h3 _⟩, Below.refl _ _⟩
      · cases hq
  case call c =>
    have hnd : ∀ c', o.op ≠ .defer c' := by simp [hop]
    have ha := ops_map (σ := σ) (T := ev ng m.fr.tmps) (ρ := (Frame.act f).eval) (xs := c.args) fun x hx => hops x (by simp [hop, Op.operands, Call.operands]; right; exact hx)
    cases hc : c.callee <;> simp only [hc] at hq
    case value g =>
      have hgv := hops g (by simp [hop, Op.operands, Call.operands, hc])
      generalize hg : ev ng m.fr.tmps g = gv at hq hgv
      cases gv <;> simp only at hq <;> try (cases hq; done)
      case func fn first cap =>
        obtain ⟨x', y', hgv, hx', hy'⟩ := hgv
        refine push_sound M hat hq (argv := x' ++ c.args.map (Frame.act f).eval ++ y') (by rw [Array.toList_append, Array.toList_append]; exact VRs.app (VRs.app hx' ha) hy') fun hcf => step_ent A ?_
        rw [hsem hnd]
        simp only [execOp, hop, resolve, hc, hgv, Deferred.ofValue, invoke, Sem.run_bind, Sem.run_pure, Result.andThen_ok, hcf]
      case yield l =>
        obtain ⟨e, he, hgv⟩ := hgv
        cases hb : m.h.get l with
        | none => simp [hb] at hq
        | some bl =>
          cases bl <;> simp only [hb] at hq <;> try (cases hq; done)
          rename_i lr
          obtain ⟨lc, hw, l1, l2, l3, l4, l5, l6, l7, l8⟩ := M.heap.blk l e _ he hb
          unfold roundFrame at hq
          rw [nbeq, Bool.cond_decide] at hq
          split at hq
          · rename_i hfr
            split at hfr
            · rename_i hsz
              injection hfr with hfr; subst hfr
              injection hq with hq; subst hq
              have hsz' : (c.args.map (Frame.act f).eval).size = lc.params.size := by rw [l4, ← hsz]; simp
              let ts := (lc.params.zip (c.args.map (Frame.act f).eval)).foldl (fun tmps (x : Tmp × Value) => tmps.setIfInBounds x.1 x.2) lc.tmps
              have hst : step P (lone f (cs ++ base) w) = .next (lone (Frame.round e.blk lc.fn ts lc.assign lc.body .normal) (f :: (cs ++ base)) w) := by
                refine step_rnd A ?_
                rw [hsem hnd]
                have hs2 : ¬ (c.args.size ≠ lc.params.size) := by simpa using hsz'
                have hg : (getObj e.blk).run P w = .ok (.loop lc) w := by simp [getObj, Sem.run, hw]
                simp only [execOp, hop, resolve, hc, hgv, Deferred.ofValue, invoke, Instr.yield, Instr.getLoop, Sem.run_bind, Sem.run_pure, Result.andThen_ok, hg, Array.empty_append, Array.size_map, hs2, if_false]
                rfl
              refine ⟨σ, _, f :: cs, w, [], p.map (·.2) ++ ks, .one hst, Sg.le.refl σ, ⟨⟨l3, ?_, trivial, rfl, rfl, ⟨e, he, rfl⟩⟩, ⟨f, cs, p, ks, rfl, rfl, M.top, hat, M.stack⟩, by simpa using M.pg, M.heap, trivial⟩, Below.refl _ _⟩
              refine ⟨⟨by simp [ItR, l5], rfl, by simp [ItR, l6], trivial⟩, ?_, rfl⟩
              have := fold_put (σ := σ) (nt := lr.nt) lr.params.toList _ _ lr.tmps lc.tmps ha l7
              have e1 : (Frame.round e.blk lc.fn ts lc.assign lc.body .normal).tmps = ((lr.params.toList.zip (c.args.map (Frame.act f).eval).toList).foldl (fun tmps (x : Tmp × Value) => tmps.setIfInBounds x.1 x.2) lc.tmps) := by
                show ts = _
                simp only [ts]
                rw [← Array.foldl_toList, Array.toList_zip, l4]
              rw [e1]
              exact this
            · cases hfr
          · cases hq
    case invoke g name =>
      have hgv := hops g (by simp [hop, Op.operands, Call.operands, hc])
      generalize hg : ev ng m.fr.tmps g = gv at hq hgv
      cases gv <;> simp only at hq <;> try (cases hq; done)
      rename_i t v
      obtain ⟨y, hgv, hy⟩ := hgv
      cases hm : amethod P m.h 8 t v name with
      | none => simp [hm] at hq
      | some fx =>
        obtain ⟨fn, x⟩ := fx
        simp only [hm] at hq
        obtain ⟨z, h1, h2⟩ := method_sound (P := P) M.heap 8 (P.types.size + Made.depth) t v y name fn x (by omega) hy hm
        refine push_sound M hat hq (argv := #[z] ++ c.args.map (Frame.act f).eval) (by rw [Array.toList_append]; exact ⟨h2, ha⟩) fun hcf => step_ent A ?_
        rw [hsem hnd]
        have hx2 : (#[Value.iface t y] ++ c.args.map (Frame.act f).eval : Array Value).extract 1 (#[Value.iface t y] ++ c.args.map (Frame.act f).eval : Array Value).size = c.args.map (Frame.act f).eval := by
          apply Array.ext'
          simp [Array.toList_extract, List.extract_eq_take_drop]
          exact List.take_of_length_le (by simp)
        have h0 : (#[Value.iface t y] ++ c.args.map (Frame.act f).eval : Array Value)[0]? = some (.iface t y) := by
          rw [Array.getElem?_append_left (by simp)]; rfl
        have hpr : ∀ w, (program).run P w = .ok P w := fun _ => rfl
        simp only [execOp, hop, resolve, hc, hgv, invoke, Sem.run_bind, Sem.run_pure, Result.andThen_ok, h0, hx2, callMethod, hpr, h1, hcf]
    case builtin b =>
      cases b <;> simp only at hq <;> try (cases hq; done)
      case append =>
        split at hq
        · rename_i s x hargs
          cases hap : aappend P m.h c.argTypes (ev ng m.fr.tmps s) (ev ng m.fr.tmps x) with
          | none => simp [hap] at hq
          | some vh =>
            obtain ⟨v, h'⟩ := vh
            simp only [hap] at hq
            have hcargs : c.args = #[s, x] := by
              apply Array.ext'; rw [hargs]
            obtain ⟨u, w', σ', g1, g2, g3, g4, g5, g6, g7⟩ := append_sound (P := P) (ty := o.type) M.heap (hops s (by simp [hop, Op.operands, Call.operands, hcargs])) (hops x (by simp [hop, Op.operands, Call.operands, hcargs])) hap
            refine done_sound M hat hq (step_val A ?_) g2 g3 g5 g6 g7 g4
            rw [hsem hnd]
            simp only [execOp, hop, resolve, hc, invoke, builtin, Sem.run_bind, Sem.run_pure, Result.andThen_ok, hcargs]
            simp [g1]
        · cases hq
      case copy =>
        split at hq
        · rename_i t d s hty hargs
          cases hap : acopy P m.h t (ev ng m.fr.tmps d) (ev ng m.fr.tmps s) with
          | none => simp [hap] at hq
          | some vh =>
            obtain ⟨v, h'⟩ := vh
            simp only [hap] at hq
            have hcargs : c.args = #[d, s] := by
              apply Array.ext'; rw [hargs]
            obtain ⟨w', g1, g2, g3, g4⟩ := copy_sound (P := P) (ty := o.type) M.heap hty (hops d (by simp [hop, Op.operands, Call.operands, hcargs])) (hops s (by simp [hop, Op.operands, Call.operands, hcargs])) hap
            refine done_sound M hat hq (step_val A ?_) (Sg.le.refl σ) g2 (fun _ _ => rfl) g4 rfl g3
            rw [hsem hnd]
            simp only [execOp, hop, resolve, hc, invoke, builtin, Sem.run_bind, Sem.run_pure, Result.andThen_ok, hcargs]
            simp [g1]
        · cases hq
      case recover =>
        have hexec : (o.semAt f.roundOf (Frame.act f).eval).run P w = .ok .recover w := by
          rw [hsem hnd]
          simp [execOp, hop, resolve, hc, invoke, builtin]
        cases hrd : m.fr.round with
        | some l => simp [hrd] at hq
        | none =>
          have hro : f.roundOf = none := by have := M.top.round; rw [hrd] at this; exact this
          have fin : ∀ m'', AM.done P m (.lit .nilIface) m.h = some m'' → tryRecover f (cs ++ base) = none → Post P ng n0 σ w f cs base m'' := fun m'' hq ht =>
            done_sound (u := .nilIface) M hat hq (step_rec A hro ht hexec) (Sg.le.refl σ) M.heap (fun _ _ => rfl) (Nat.le_refl _) ⟨rfl, rfl⟩ (Below.refl _ _)
          cases hdf : m.fr.dfd with
          | false =>
            simp only [hrd, hdf] at hq
            have hk : f.kind = .normal := by have := M.top.kind; rw [hdf] at this; exact this
            exact fin _ hq (by unfold tryRecover; rw [hk])
          | true =>
            have hk : f.kind = .deferred := by have := M.top.kind; rw [hdf] at this; exact this
            cases hcs : m.cs with
            | nil => simp [hrd, hdf, hcs] at hq
            | cons c1 cs1 =>
              simp only [hrd, hdf, hcs] at hq
              cases hret : c1.ret with
              | false => rw [hret] at hq; cases hq
              | true =>
                rw [hret, cond_true] at hq
                have hst := M.stack
                rw [hcs] at hst
                obtain ⟨f1, fs', p1, ks', e1, _, h3, _, _⟩ := hst
                have hmode : f1.mode = .returning := by have := h3.mode; rw [hret] at this; exact this
                refine fin _ hq ?_
                rw [e1]
                unfold tryRecover
                rw [hk]
                simp [hmode]
end
end Go.Proofs.YtllipkakgjmheaaGreatDoor.Ev

/-
  The abstract machine: frames, and the quiet run through a region that draws its order.
-/
import Derived.Test.YtllipkakgjmheaaGreatDoorEvQ
set_option linter.unusedVariables false
set_option linter.unusedSimpArgs false
set_option linter.constructorNameAsVariable false
namespace Go.Proofs.YtllipkakgjmheaaGreatDoor.Ev
open Go Go.RowKit

/-! ### Items, frames -/
def ItR (σ : Sg) : AItem → Item → Prop
  | .code c, i => i = .code c
  | .inBlock id, i => i = .inBlock id
  | .inLoop c, i => i = .inLoop c
  | .inScope c, i => i = .inScope c
  | .rangeF k, i => ∃ e, σ k = some e ∧ i = .inRangeFunc e.blk
  | .endF k, i => ∃ e, σ k = some e ∧ i = .endRangeFunc e.blk
  | .beginRound, i => i = .beginRound
  | .reg .., _ => False
  | .drw .., _ => False
theorem ItR.mono {σ σ' : Sg} (h : σ.le σ') : ∀ {a : AItem} {i : Item}, ItR σ a i → ItR σ' a i
  | .code _, _, r | .inBlock _, _, r | .inLoop _, _, r | .inScope _, _, r | .beginRound, _, r => r
  | .rangeF _, _, ⟨e, he, r⟩ | .endF _, _, ⟨e, he, r⟩ => ⟨e, h _ _ he, r⟩
def ItsR (σ : Sg) : List AItem → List Item → Prop
  | [], [] => True
  | a :: l, v :: m => ItR σ a v ∧ ItsR σ l m
  | _, _ => False
theorem ItsR.mono {σ σ' : Sg} (h : σ.le σ') : ∀ {a : List AItem} {d : List Item}, ItsR σ a d → ItsR σ' a d
  | [], [], _ => trivial
  | _ :: _, _ :: _, r => ⟨r.1.mono h, ItsR.mono h r.2⟩
  | [], _ :: _, r => r.elim
  | _ :: _, [], r => r.elim

def TopR (P : Program) (σ : Sg) (nt : Nat) (T : Tr AV) (c : Array Value) (pend : List (Nat × Nat)) : List AItem → List Item → Prop
  | .reg ops i rest :: k, it => ∃ k', it = .inRegion ops ((List.range ops.size).drop i) :: k' ∧ rest = ops.toList.drop i ∧ ItsR σ k k' ∧ TmpR σ (fun _ => False) T nt c ∧ pend = []
  | .drw ops dm um ed _ :: k, it => ∃ l k', it = .inRegion ops l :: k' ∧ ItsR σ k k' ∧ RC P ops ∧ DrwR P ops dm um ed nt l T pend ∧ TmpR σ (RX P ops l) T nt c
  | a, it => ItsR σ a it ∧ TmpR σ (fun _ => False) T nt c ∧ pend = []
theorem TopR.mono {P : Program} {σ σ' : Sg} {nt : Nat} {T : Tr AV} {c : Array Value} {pend : List (Nat × Nat)} (h : σ.le σ') {a : List AItem} {i : List Item} (r : TopR P σ nt T c pend a i) : TopR P σ' nt T c pend a i := by
  unfold TopR at r ⊢
  split at r
  · obtain ⟨k', h1, h2, h3, h4, h5⟩ := r; exact ⟨k', h1, h2, h3.mono h, h4.mono h, h5⟩
  · obtain ⟨l, k', h1, h2, h3, h4, h5⟩ := r; exact ⟨l, k', h1, h2.mono h, h3, h4, h5.mono h⟩
  · obtain ⟨h1, h2, h3⟩ := r; exact ⟨h1.mono h, h2.mono h, h3⟩

def RdR (σ : Sg) : Option Nat → Option Nat → Prop
  | none, r => r = none
  | some l, r => ∃ e, σ l = some e ∧ r = some e.blk
theorem RdR.mono {σ σ' : Sg} (h : σ.le σ') : ∀ {a : Option Nat} {b : Option Nat}, RdR σ a b → RdR σ' a b
  | none, _, r => r
  | some _, _, ⟨e, he, r⟩ => ⟨e, h _ _ he, r⟩

structure FR (P : Program) (σ : Sg) (a : AFrame) (f : Frame) (pend : List (Nat × Nat)) : Prop where
  fn : f.fn = a.fn
  top : TopR P σ a.nt a.tmps f.tmps pend a.todo f.todo
  defers : DRs σ a.defers f.defers
  mode : f.mode = bif a.ret then .returning else .run
  kind : f.kind = bif a.dfd then .deferred else .normal
  round : RdR σ a.round f.roundOf
theorem FR.mono {P : Program} {σ σ' : Sg} {a : AFrame} {f : Frame} {pend : List (Nat × Nat)} (h : σ.le σ') (r : FR P σ a f pend) : FR P σ' a f pend :=
  ⟨r.fn, r.top.mono h, r.defers.mono h, r.mode, r.kind, r.round.mono h⟩

/-- a frame that waits for a call stands at an effect -/
def AtEff (P : Program) : List AItem → List Item → Prop
  | .drw _ _ _ _ true :: _, .inRegion ops (i :: _) :: _ => ∃ o, ops[i]? = some o ∧ isEff P o.op = true
  | .drw _ _ _ _ _ :: _, _ => False
  | _, _ => True
def StR (P : Program) (σ : Sg) : List AFrame → List Frame → List Nat → Prop
  | [], fs, ks => fs = [] ∧ ks = []
  | a :: as, fs, ks => ∃ f fs' p ks', fs = f :: fs' ∧ ks = p.map (·.2) ++ ks' ∧ FR P σ a f p ∧ AtEff P a.todo f.todo ∧ StR P σ as fs' ks'
theorem StR.mono {P : Program} {σ σ' : Sg} (h : σ.le σ') : ∀ {a : List AFrame} {f : List Frame} {ks : List Nat}, StR P σ a f ks → StR P σ' a f ks
  | [], _, _, r => r
  | _ :: _, _, _, ⟨f, fs', p, ks', h1, h2, h3, h4, h5⟩ => ⟨f, fs', p, ks', h1, h2, h3.mono h, h4, h5.mono h⟩

/-- a region whose second pass has been made -/
def Rdy (P : Program) (ng : Nat) (nt : Nat) (T : Tr AV) (h : AH) : List AItem → Prop
  | .drw ops dm um ed true :: _ => passTwo P ng ops (effMask (effs P ops.toList 0)) dm um nt T h ops.toList 0 = true ∧
      ∀ i o, ops[i]? = some o → isEff P o.op = false → inWindow ops (effMask (effs P ops.toList 0)) dm um i = true → has ed i = true
  | _ => True

structure MRx (P : Program) (ng n0 : Nat) (σ : Sg) (m : AM) (f : Frame) (cs : List Frame) (w : World) (p : List (Nat × Nat)) (ks : List Nat) : Prop where
  top : FR P σ m.fr f p
  stack : StR P σ m.cs cs ks
  pg : PG σ m.h (p.map (·.2) ++ ks)
  heap : HR ng n0 σ m.h w
  rdy : Rdy P ng m.fr.nt m.fr.tmps m.h m.fr.todo

section
variable {P : Program} {ng n0 : Nat} {σ : Sg} {h : AH} {w : World}

/-! ### Operands, guards, slots -/
theorem ev_sound (R : HR ng n0 σ h w) {X : Nat → Prop} {T : Tr AV} {nt : Nat} {c : Array Value} {ds : List Deferred} (t : TmpR σ X T nt c) {x : Operand} (hx : ∀ i, x = .tmp i → ¬ X i) : VR σ (ev ng T x) ((⟨c, ds⟩ : Act).eval x) := by
  cases x with
  | tmp i =>
    simp only [ev, Act.eval]
    cases hg : T.get i with
    | none => exact trivial
    | some a =>
      obtain ⟨v, h1, h2⟩ := t.2 i a (hx i rfl) hg
      rw [Array.getD_eq_getD_getElem?, h1]; exact h2
  | const v => exact VR.ofValue σ v
  | global g =>
    simp only [ev, nblt, Bool.cond_decide]
    split
    · rename_i hg
      obtain ⟨sz, hs⟩ := R.glob g hg
      exact ⟨_, hs, rfl⟩
    · exact trivial
  | func f => exact ⟨#[], #[], rfl, trivial, trivial⟩

theorem wanted_sound {X : Nat → Prop} {T : Tr AV} {nt : Nat} {c : Array Value} {ops : Array Oper} {o : Oper} {b : Bool} (t : TmpR σ X T nt c)
    (hx : ∀ g q og d, o.guard = some (g, q) → ops[g]? = some og → og.dst = some d → ¬ X d) (ha : awanted ops T o = some b) : Region.wanted o (yielded ops c) = b := by
  unfold awanted at ha
  unfold Region.wanted
  cases hg : o.guard with
  | none => rw [hg] at ha; injection ha
  | some gq =>
    obtain ⟨g, q⟩ := gq
    rw [hg] at ha
    simp only at ha ⊢
    unfold yielded
    cases hd : (ops[g]?).bind (·.dst) with
    | none => simp [hd] at ha
    | some d =>
      simp only [hd] at ha
      obtain ⟨og, hog, hdd⟩ := Option.bind_eq_some_iff.1 hd
      have nx := hx g q og d hg hog hdd
      cases hT : T.get d with
      | none => simp [hT] at ha
      | some v =>
        obtain ⟨u, h1, h2⟩ := t.2 d v nx hT
        simp only [Option.bind_some, h1]
        cases v <;> simp only [hT] at ha <;> try (cases ha; done)
        · rename_i r
          cases h2
          injection ha with ha; subst ha
          rw [boolBeq_eq]
          cases r <;> cases q <;> rfl
        · obtain ⟨cc, rfl, _⟩ := h2
          injection ha

theorem tmp_put {X : Nat → Prop} {T : Tr AV} {nt : Nat} {c : Array Value} {dst : Option Tmp} {v : AV} {u : Value} (t : TmpR σ X T nt c) (hv : VR σ v u) :
    TmpR σ X (putT nt T dst v) nt (match dst with | some d => c.setIfInBounds d u | none => c) := by
  refine ⟨by cases dst <;> simp [t.1], fun i a hx hg => ?_⟩
  rw [putT_get] at hg
  split at hg
  · rename_i hc
    obtain ⟨hd, hi⟩ := hc
    injection hg with hg; subst hg
    subst hd
    exact ⟨u, by simp [t.1, hi], hv⟩
  · rename_i hc
    obtain ⟨x, h1, h2⟩ := t.2 i a hx hg
    refine ⟨x, ?_, h2⟩
    cases dst with
    | none => exact h1
    | some d =>
      simp only
      rw [Array.getElem?_setIfInBounds]
      by_cases hdi : d = i
      · subst hdi
        have hlt : d < nt := by
          have : d < c.size := by
            rcases Nat.lt_or_ge d c.size with hh | hh
            · exact hh
            · rw [Array.getElem?_eq_none hh] at h1; cases h1
          rw [← t.1]; exact this
        exact (hc ⟨rfl, hlt⟩).elim
      · rw [if_neg hdi]; exact h1
theorem act_put {a : Act} {dst : Option Tmp} {u : Value} : (a.put dst u) = ⟨match dst with | some d => a.tmps.setIfInBounds d u | none => a.tmps, a.defers⟩ := by
  cases dst <;> rfl

/-! ### The quiet run -/
def EffHead (P : Program) (ops : Array Oper) (l : List Nat) : Prop := l = [] ∨ ∃ i r o, l = i :: r ∧ ops[i]? = some o ∧ isEff P o.op = true

theorem at_tail {ops : Array Oper} {dm um ed nt : Nat} {T : Tr AV} {i : Nat} {r : List Nat} {o : Oper} {pend pend' : List (Nat × Nat)} (hc : RC P ops) (d : DrwR P ops dm um ed nt (i :: r) T pend) (ho : ops[i]? = some o) (he : isEff P o.op = false) (hed : has ed i = true)
    (hp : ∀ x ∈ pend, x.1 ≠ i → x ∈ pend') : DrwR P ops dm um ed nt r T pend' := by
  refine ⟨d.sched.tail hc.back, fun j oj hj hej => ?_, fun j hj hx => d.umd j hj (List.mem_cons_of_mem _ hx), fun j oj hj hej hjr => ?_, fun j oj s v mk k hjr hj hej ha hed hs hsn hg hm => ?_⟩
  · have hji : j ≠ i := fun h => by subst h; rw [ho] at hj; injection hj with hj; subst hj; rw [he] at hej; cases hej
    rw [← d.eff j oj hj hej]; simp [hji]
  · by_cases hji : j = i
    · subst hji; exact hed
    · exact d.edd j oj hj hej (by simp [hji, hjr])
  · have hji : j ≠ i := fun h => by subst h; exact (List.nodup_cons.1 d.sched.nodup).1 hjr
    exact hp _ (d.pnd j oj s v mk k (List.mem_cons_of_mem _ hjr) hj hej ha hed hs hsn hg hm) hji

/-- the slots behind a quiet operation's run -/
theorem tmp_tail {ops : Array Oper} {nt : Nat} {T : Tr AV} {c : Array Value} {i : Nat} {r : List Nat} {o : Oper} {s : Nat} {v : AV} {u : Value} (t : TmpR σ (RX P ops (i :: r)) T nt c) (ho : ops[i]? = some o) (_he : isEff P o.op = false) (hs : o.dst = some s) (hsn : s < nt) (hT : T.get s = some v) (hv : VR σ v u) :
    TmpR σ (RX P ops r) T nt (c.setIfInBounds s u) := by
  refine ⟨by simp [t.1], fun x a hx hg => ?_⟩
  by_cases hxs : x = s
  · subst hxs
    rw [hT] at hg; injection hg with hg; subst hg
    exact ⟨u, by simp [t.1, hsn], hv⟩
  · have : ¬ RX P ops (i :: r) x := fun ⟨j, hj, oj, h1, h2, h3⟩ => by
      rcases List.mem_cons.1 hj with rfl | hj
      · rw [ho] at h1; injection h1 with h1; subst h1; rw [hs] at h3; injection h3 with h3; exact hxs h3.symm
      · exact hx ⟨j, hj, oj, h1, h2, h3⟩
    obtain ⟨y, h1, h2⟩ := t.2 x a this hg
    refine ⟨y, ?_, h2⟩
    rw [Array.getElem?_setIfInBounds, if_neg (fun h => hxs h.symm)]; exact h1

theorem quiet_run {ops : Array Oper} {dm um ed nt : Nat} {T : Tr AV} {ks : List Nat} {b : Frame} {k : List Item} {cs : List Frame} (hc : RC P ops)
    (h2 : passTwo P ng ops (effMask (effs P ops.toList 0)) dm um nt T h ops.toList 0 = true)
    (hed : ∀ i o, ops[i]? = some o → isEff P o.op = false → inWindow ops (effMask (effs P ops.toList 0)) dm um i = true → has ed i = true) :
    ∀ (l : List Nat) (c : Array Value) (ds : List Deferred) (w : World) (σ : Sg) (pend : List (Nat × Nat)), HR ng n0 σ h w → DrwR P ops dm um ed nt l T pend → TmpR σ (RX P ops l) T nt c → PG σ h (pend.map (·.2) ++ ks) →
    ∃ l' c' w' σ' pend', Steps P (lone (b.atR ⟨c, ds⟩ (.inRegion ops l :: k)) cs w) (lone (b.atR ⟨c', ds⟩ (.inRegion ops l' :: k)) cs w') ∧ EffHead P ops l' ∧ σ.le σ' ∧ HR ng n0 σ' h w' ∧ DrwR P ops dm um ed nt l' T pend' ∧ TmpR σ' (RX P ops l') T nt c' ∧
      PG σ' h (pend'.map (·.2) ++ ks) ∧ Below n0 w w'
  | [], c, ds, w, σ, pend, R, d, t, g => ⟨[], c, w, σ, pend, .refl _ _, .inl rfl, Sg.le.refl σ, R, d, t, g, Below.refl _ _⟩
  | i :: r, c, ds, w, σ, pend, R, d, t, g => by
    have hi : i < ops.size := d.sched.lt i (List.mem_cons_self ..)
    obtain ⟨o, ho⟩ : ∃ o, ops[i]? = some o := ⟨ops[i], by simp [hi]⟩
    cases he : isEff P o.op with
    | true => exact ⟨i :: r, c, w, σ, pend, .refl _ _, .inr ⟨i, r, o, rfl, ho, he⟩, Sg.le.refl σ, R, d, t, g, Below.refl _ _⟩
    | false =>
      have hw : inWindow ops (effMask (effs P ops.toList 0)) dm um i = true := by
        unfold inWindow
        rw [nbeq, Bool.and_eq_true, decide_eq_true_eq, Bool.not_eq_true']
        refine ⟨lor_sub fun j hj => ?_, ?_⟩
        · have hj' : has (maskOf ops i) j = true ∧ has (effMask (effs P ops.toList 0)) j = true := by
            rw [has_eq] at hj
            have : (maskOf ops i &&& effMask (effs P ops.toList 0)).testBit j = true := hj
            rw [Nat.testBit_and, Bool.and_eq_true] at this
            rw [has_eq, has_eq]; exact this
          obtain ⟨oj, h3, h4⟩ := em_has.1 hj'.2
          exact (d.eff j oj h3 h4).1 (mask_head hc.back d.sched j hj'.1)
        · cases hu : has um i with
          | false => rfl
          | true => exact (d.umd i hu (List.mem_cons_self ..)).elim
      have hedi := hed i o ho he hw
      obtain ⟨s, hs, hsn, hcase⟩ := passTwo_sound h2 i o (by simpa using ho) he (by rw [Nat.zero_add]; exact hw)
      have nx : ∀ q oq x, ops[q]? = some oq → oq.dst = some x → isEff P oq.op = false → has (maskOf ops i) q = true → ¬ q ∈ i :: r := fun q _ _ _ _ _ hm => mask_head hc.back d.sched q hm
      have hguard : ∀ g q og x, o.guard = some (g, q) → ops[g]? = some og → og.dst = some x → ¬ RX P ops (i :: r) x := fun g q og x h3 h4 h5 ⟨y, hy, oy, h6, h7, h8⟩ =>
        nx y oy x h6 h8 h7 (hc.guard i o g q og x y oy ho h3 h4 h5 h6 h8 h7) hy
      have hops : ∀ x ∈ o.op.operands, VR σ (ev ng T x) ((⟨c, ds⟩ : Act).eval x) := fun x hx => ev_sound R t fun y hy ⟨q, hq, oq, h6, h7, h8⟩ => by
        subst hy
        have : y ∈ operTmps o := by
          unfold operTmps
          rw [List.mem_filterMap]
          exact ⟨.tmp y, by simpa using hx, rfl⟩
        exact nx q oq y h6 h8 h7 (hc.looks i o y q oq ho this h6 h8 h7) hq
      -- the rest of the run
      have go : ∀ (u : Value) (w1 : World) (σ1 : Sg) (pend1 : List (Nat × Nat)) (v : AV), step P (lone (b.atR ⟨c, ds⟩ (.inRegion ops (i :: r) :: k)) cs w) = .next (lone (b.atR (Act.put ⟨c, ds⟩ (some s) u) (.inRegion ops r :: k)) cs w1) →
          σ.le σ1 → HR ng n0 σ1 h w1 → (∀ x ∈ pend, x.1 ≠ i → x ∈ pend1) → PG σ1 h (pend1.map (·.2) ++ ks) → Below n0 w w1 → T.get s = some v → VR σ1 v u →
          ∃ l' c' w' σ' pend', Steps P (lone (b.atR ⟨c, ds⟩ (.inRegion ops (i :: r) :: k)) cs w) (lone (b.atR ⟨c', ds⟩ (.inRegion ops l' :: k)) cs w') ∧ EffHead P ops l' ∧ σ.le σ' ∧ HR ng n0 σ' h w' ∧ DrwR P ops dm um ed nt l' T pend' ∧ TmpR σ' (RX P ops l') T nt c' ∧
            PG σ' h (pend'.map (·.2) ++ ks) ∧ Below n0 w w' := by
        intro u w1 σ1 pend1 v hst hle R1 hp g1 b1 hT hv
        obtain ⟨l', c', w', σ', pend', s1, s2, s3, s4, s5, s6, s7, s8⟩ := quiet_run hc h2 hed r (c.setIfInBounds s u) ds w1 σ1 pend1 R1 (at_tail hc d ho he hedi hp) (tmp_tail (t.mono hle) ho he hs hsn hT hv) g1
        exact ⟨l', c', w', σ', pend', .head hst s1, s2, hle.trans s3, s4, s5, s6, s7, b1.trans s8⟩
      have pmono : ∀ x ∈ pend, x.1 ≠ i → x ∈ pend := fun x hx _ => hx
      rcases hcase with ⟨ha, hT⟩ | ⟨ha, v, hT, hcase⟩
      · have hwt := wanted_sound t hguard ha
        refine go undef w σ pend undefA ?_ (Sg.le.refl σ) R pmono g (Below.refl _ _) hT ⟨#[], rfl, trivial⟩
        have := stepR_op_skip (P := P) (b := b) (a := ⟨c, ds⟩) (k := k) (cs := cs) (w := w) (ops := ops) (i := i) (rest := r) (by simp [ho, hwt])
        rw [this, ho, Option.bind_some, hs]
      · have hwt := wanted_sound t hguard ha
        have hsem : o.semAt b.roundOf (Act.eval ⟨c, ds⟩) = execOp (Act.eval ⟨c, ds⟩) o := Oper.semAt_eq _ _ _ fun cc hcc => by rw [hcc] at he; cases he
        have hval : ∀ {u : Value} {w1 : World}, (execOp (Act.eval ⟨c, ds⟩) o).run P w = .ok (.value u) w1 → step P (lone (b.atR ⟨c, ds⟩ (.inRegion ops (i :: r) :: k)) cs w) = .next (lone (b.atR (Act.put ⟨c, ds⟩ (some s) u) (.inRegion ops r :: k)) cs w1) := fun {u w1} hr => by
          refine step_lone_go ?_
          have hf := Frame.finish_atR b ⟨c, ds⟩ ops i r k u
          rw [ho, Option.bind_some, hs] at hf
          rw [stepGR_op ho hwt, hsem, ← hf]
          simp [stepG.apply, hr]
        rcases hcase with ⟨bl, mk, kk, b', hal, hk, hb', hbeq⟩ | ⟨_, hqu⟩
        · have hmem := d.pnd i o s v mk kk (List.mem_cons_self ..) ho he (alloc_isAlloc hal) hedi hs hsn hT hk
          have hkin : kk ∈ pend.map (·.2) ++ ks := List.mem_append.2 (.inl (List.mem_map.2 ⟨_, hmem, rfl⟩))
          obtain ⟨hσ, hlt⟩ := g.2 kk hkin
          obtain ⟨u, w1, ob, e, hr, hp, heb, hro, hall⟩ := (alloc_sound (P := P) (σ := σ) (w := w) hops hal).out
          have hle : σ.le (σ.put kk e) := Sg.le_put hσ
          obtain ⟨hBR, hVR⟩ := hall _ hle
          have R1 : HR ng n0 (σ.put kk e) h w1 := R.realize (b := b') hσ hlt (fun b2 hb2 => by
            rw [hb'] at hb2; injection hb2 with hb2; subst hb2
            exact ABlock.beq_BR hbeq hro hBR) hp heb
          refine go u w1 (σ.put kk e) (pend.filter (fun x => x.1 != i)) v (hval hr) hle R1 (fun x hx hne => List.mem_filter.2 ⟨hx, by simpa using hne⟩) ?_ (hp.below R.big) hT ?_
          · refine ⟨g.1.sublist (List.Sublist.append (List.Sublist.map _ List.filter_sublist) (List.Sublist.refl _)), fun x hx => ?_⟩
            have hxk : x ∈ pend.map (·.2) ++ ks := (List.Sublist.append (List.Sublist.map _ List.filter_sublist) (List.Sublist.refl _)).subset hx
            have hne : x ≠ kk := fun hxe => by
              subst hxe
              have hnd := g.1
              rcases List.mem_append.1 hx with hx | hx
              · obtain ⟨y, hy, hye⟩ := List.mem_map.1 hx
                obtain ⟨hy1, hy2⟩ := List.mem_filter.1 hy
                have hnd1 := (List.nodup_append.1 hnd).1
                have : ∀ (l : List (Nat × Nat)), (l.map (·.2)).Nodup → ∀ p ∈ l, ∀ q ∈ l, p.2 = q.2 → p = q := by
                  intro l
                  induction l with
                  | nil => intro _ p hp; simp at hp
                  | cons z l ih =>
                    intro hn p hp q hq e
                    rw [List.map_cons, List.nodup_cons] at hn
                    rcases List.mem_cons.1 hp with e1 | hp' <;> rcases List.mem_cons.1 hq with e2 | hq'
                    · rw [e1, e2]
                    · exact absurd (List.mem_map.2 ⟨q, hq', by rw [← e, e1]⟩) hn.1
                    · exact absurd (List.mem_map.2 ⟨p, hp', by rw [e, e2]⟩) hn.1
                    · exact ih hn.2 p hp' q hq' e
                have := this pend hnd1 y hy1 _ hmem hye
                subst this
                simp at hy2
              · exact (List.nodup_append.1 hnd).2.2 x (List.mem_map.2 ⟨_, hmem, rfl⟩) x hx rfl
            rw [Sg.put_ne _ _ hne]; exact g.2 x hxk
          · rw [Mk.of_VR hk]; exact hVR kk (Sg.put_same _ _ _)
        · obtain ⟨u, hr, hv⟩ := quiet_sound (P := P) R hops hqu
          exact go u w σ pend v (hval hr) (Sg.le.refl σ) R pmono g (Below.refl _ _) hT hv
end
end Go.Proofs.YtllipkakgjmheaaGreatDoor.Ev

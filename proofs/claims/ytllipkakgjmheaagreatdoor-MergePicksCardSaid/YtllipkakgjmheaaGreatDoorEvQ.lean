/-
  The abstract machine: regions that draw their order: what is asked of the text, and the two passes.
-/
import Derived.Test.YtllipkakgjmheaaGreatDoorEvP
set_option linter.unusedVariables false
set_option linter.unusedSimpArgs false
set_option linter.constructorNameAsVariable false
namespace Go.Proofs.YtllipkakgjmheaaGreatDoor.Ev
open Go Go.RowKit

/-! ### beq -/
theorem litBeq_eq {a b : Value} (h : litBeq a b = true) : a = b := by
  unfold litBeq at h
  split at h <;> first | rfl | (rw [nbeq, nbeq] at h; simp only [Bool.and_eq_true, decide_eq_true_eq] at h; rw [h.1, h.2]) | cases h
theorem capBeq_eq {a b : Cap} (h : capBeq a b = true) : a = b := by
  cases a <;> cases b <;> simp only [capBeq, nbeq, decide_eq_true_eq] at h <;> first | (rw [h]) | cases h
mutual
theorem AV.beq_eq : ∀ (a b : AV), AV.beq a b = true → a = b := fun a b h => by
  match a, b, h with
  | .lit a, .lit b, h => simp only [AV.beq] at h; rw [litBeq_eq h]
  | .bool a, .bool b, h => simp only [AV.beq, boolBeq_eq, beq_iff_eq] at h; rw [h]
  | .int j a, .int k b, h => simp only [AV.beq, ikBeq_iff, intBeq_iff, Bool.and_eq_true, decide_eq_true_eq, beq_iff_eq] at h; rw [h.1, h.2]
  | .str a, .str b, h => simp only [AV.beq, natsBeq_iff] at h; rw [h]
  | .ptr a b, .ptr c d, h => simp only [AV.beq, nbeq, Bool.and_eq_true, decide_eq_true_eq] at h; rw [h.1, h.2]
  | .slice a b c d, .slice a' b' c' d', h =>
    simp only [AV.beq, nbeq, Bool.and_eq_true, decide_eq_true_eq] at h
    rw [h.1.1.1, h.1.1.2, h.1.2, capBeq_eq h.2]
  | .empty none, .empty none, h => rfl
  | .empty (some a), .empty (some b), h => simp only [AV.beq, nbeq, decide_eq_true_eq] at h; rw [h]
  | .map a, .map b, h => simp only [AV.beq, nbeq, decide_eq_true_eq] at h; rw [h]
  | .func f x y, .func g x' y', h =>
    simp only [AV.beq, nbeq, Bool.and_eq_true, decide_eq_true_eq] at h
    rw [h.1.1, AV.beqs_eq x x' h.1.2, AV.beqs_eq y y' h.2]
  | .yield a, .yield b, h => simp only [AV.beq, nbeq, decide_eq_true_eq] at h; rw [h]
  | .iface t v, .iface u w, h =>
    simp only [AV.beq, nbeq, Bool.and_eq_true, decide_eq_true_eq] at h
    rw [h.1, AV.beq_eq v w h.2]
  | .agg a, .agg b, h => simp only [AV.beq] at h; rw [AV.beqs_eq a b h]
  | .tuple a, .tuple b, h => simp only [AV.beq] at h; rw [AV.beqs_eq a b h]
theorem AV.beqs_eq : ∀ (a b : List AV), AV.beqs a b = true → a = b := fun a b h => by
  match a, b, h with
  | [], [], _ => rfl
  | a :: x, b :: y, h =>
    simp only [AV.beqs, Bool.and_eq_true] at h
    rw [AV.beq_eq a b h.1, AV.beqs_eq x y h.2]
end

section
variable {P : Program} {ng n0 : Nat} {σ : Sg} {h : AH} {w : World}

theorem ABlock.beq_BR {b b' : ABlock} {e : Loc} (hb : b.beq b' = true) (hro : b.ro = false) (r : BR σ w e b) : BR σ w e b' := by
  unfold ABlock.beq at hb
  split at hb
  · rename_i r1 a r2 c
    have := AV.beqs_eq _ _ hb; subst this
    obtain ⟨x, t, fz, h1, h2, h3, h4⟩ := r
    refine ⟨x, t, fz, h1, h2, ?_, h4⟩
    have : r1 = false := hro
    rw [this] at h3
    exact .inr (h3.resolve_left (by simp))
  · rename_i a c
    rw [nbeq, decide_eq_true_eq] at hb; subst hb; exact r
  · cases hb

theorem Mk.of_av {mk mk' : Mk} {k n : Nat} (hk : mk'.of (mk.av n) = some k) : k = n := by
  cases mk <;> cases mk' <;> simp only [Mk.av, Mk.of] at hk <;> try (cases hk; done)
  · injection hk with hk; exact hk.symm
  · rename_i a b c d
    cases hc : (Nat.beq c a && capBeq d b) with
    | false => rw [hc] at hk; cases hk
    | true => rw [hc, cond_true] at hk; injection hk with hk; exact hk.symm
  · injection hk with hk; exact hk.symm
theorem Mk.of_VR {mk : Mk} {k : Nat} {v : AV} (hk : mk.of v = some k) : v = mk.av k := by
  cases mk with
  | ptr =>
    unfold Mk.of at hk
    split at hk <;> first | (injection hk with hk; subst hk; first | rfl | (exfalso; simp_all; done)) | (exfalso; simp_all; done) | skip
  | slice n c =>
    unfold Mk.of at hk
    split at hk <;> first | (exfalso; simp_all; done) | skip
    rename_i n' c' k' m d heq
    injection heq with e1 e2; subst e1; subst e2
    cases hc : (Nat.beq n m && capBeq c d) with
    | false => rw [hc] at hk; cases hk
    | true =>
      rw [hc, cond_true] at hk; injection hk with hk; subst hk
      simp only [nbeq, Bool.and_eq_true, decide_eq_true_eq] at hc
      rw [Mk.av, hc.1, capBeq_eq hc.2]
  | map =>
    unfold Mk.of at hk
    split at hk <;> first | (injection hk with hk; subst hk; first | rfl | (exfalso; simp_all; done)) | (exfalso; simp_all; done) | skip

/-! ### What is asked of the text -/
theorem mem_rdsts {eff : Bool} : ∀ {l : List Oper} {i : Nat} {d j : Nat}, (d, j) ∈ rdsts P eff l i ↔ ∃ k o, l[k]? = some o ∧ j = i + k ∧ o.dst = some d ∧ isEff P o.op = eff
  | [], i, d, j => by simp [rdsts]
  | o :: l, i, d, j => by
    have ih := @mem_rdsts eff l (i + 1) d j
    have step : (∃ k o', (o :: l)[k]? = some o' ∧ j = i + k ∧ o'.dst = some d ∧ isEff P o'.op = eff) ↔ (j = i ∧ o.dst = some d ∧ isEff P o.op = eff) ∨ ∃ k o', l[k]? = some o' ∧ j = i + 1 + k ∧ o'.dst = some d ∧ isEff P o'.op = eff := by
      constructor
      · rintro ⟨k, o', h1, h2, h3, h4⟩
        cases k with
        | zero => simp only [List.getElem?_cons_zero, Option.some.injEq] at h1; subst h1; exact .inl ⟨h2, h3, h4⟩
        | succ k => exact .inr ⟨k, o', by simpa using h1, by omega, h3, h4⟩
      · rintro (⟨h2, h3, h4⟩ | ⟨k, o', h1, h2, h3, h4⟩)
        · exact ⟨0, o, rfl, h2, h3, h4⟩
        · exact ⟨k + 1, o', by simpa using h1, by omega, h3, h4⟩
    rw [step, ← ih]
    have he : rdsts P eff (o :: l) i = match o.dst with
      | some d => bif boolBeq (isEff P o.op) eff then (d, i) :: rdsts P eff l (i + 1) else rdsts P eff l (i + 1)
      | none => rdsts P eff l (i + 1) := rfl
    rw [he]
    cases hd : o.dst with
    | none => simp
    | some d' =>
      simp only [boolBeq_eq, Bool.cond_eq_ite, beq_iff_eq]
      by_cases he : isEff P o.op = eff
      · simp only [he, if_true, List.mem_cons, Prod.mk.injEq, Option.some.injEq, and_true]
        constructor
        · rintro (⟨a, b⟩ | h)
          · exact .inl ⟨b, a.symm⟩
          · exact .inr h
        · rintro (⟨a, b⟩ | h)
          · exact .inl ⟨b.symm, a⟩
          · exact .inr h
      · simp [he]

structure RC (P : Program) (ops : Array Oper) : Prop where
  back : Back ops
  looks : ∀ (i : Nat) (o : Oper) (t q : Nat) (oq : Oper), ops[i]? = some o → t ∈ operTmps o → ops[q]? = some oq → oq.dst = some t → isEff P oq.op = false → has (maskOf ops i) q = true
  guard : ∀ (i : Nat) (o : Oper) (g : Nat) (b : Bool) (og : Oper) (t q : Nat) (oq : Oper), ops[i]? = some o → o.guard = some (g, b) → ops[g]? = some og → og.dst = some t → ops[q]? = some oq → oq.dst = some t → isEff P oq.op = false → has (maskOf ops i) q = true
  uniq : ∀ (i j : Nat) (oi oj : Oper) (d : Nat), ops[i]? = some oi → ops[j]? = some oj → oi.dst = some d → oj.dst = some d → isEff P oi.op = false → isEff P oj.op = false → i = j
  apart : ∀ (i j : Nat) (oi oj : Oper) (d : Nat), ops[i]? = some oi → ops[j]? = some oj → oi.dst = some d → oj.dst = some d → isEff P oi.op = false → isEff P oj.op = true → False

theorem rcheckGo_at {ops : Array Oper} {ds : List (Nat × Nat)} : ∀ {l : List Oper} {i : Nat}, rcheckGo ops ds l i = true → ∀ k o, l[k]? = some o → rcheck1 ops ds o (i + k) = true
  | [], _, _, k, o, hk => by simp at hk
  | o :: l, i, h, k, o', hk => by
    simp only [rcheckGo, Bool.and_eq_true] at h
    cases k with
    | zero => simp only [List.getElem?_cons_zero, Option.some.injEq] at hk; subst hk; exact h.1
    | succ k =>
      have := rcheckGo_at h.2 k o' (by simpa using hk)
      rw [show i + (k + 1) = i + 1 + k by omega]; exact this
theorem nodupB_spec : ∀ {l : List (Nat × Nat)}, nodupB l = true → ∀ p ∈ l, ∀ q ∈ l, p.1 = q.1 → p.2 = q.2
  | [], _, p, hp, _, _, _ => by simp at hp
  | x :: l, h, p, hp, q, hq, e => by
    simp only [nodupB, Bool.and_eq_true, List.all_eq_true, nbeq, Bool.not_eq_true', decide_eq_false_iff_not] at h
    rcases List.mem_cons.1 hp with e1 | hp'
    · rcases List.mem_cons.1 hq with e2 | hq'
      · rw [e1, e2]
      · rw [e1] at e; exact absurd e (h.1 q hq')
    · rcases List.mem_cons.1 hq with e2 | hq'
      · rw [e2] at e; exact absurd e.symm (h.1 p hp')
      · exact nodupB_spec h.2 p hp' q hq' e

theorem rcheck_sound {ops : Array Oper} (h : rcheck P ops = true) : RC P ops := by
  unfold rcheck at h
  simp only [Bool.and_eq_true, List.all_eq_true] at h
  obtain ⟨⟨h1, h2⟩, h3⟩ := h
  have tl : ∀ {i : Nat} {o : Oper}, ops[i]? = some o → ops.toList[i]? = some o := fun ho => by simpa using ho
  have mem : ∀ {eff : Bool} {i : Nat} {o : Oper} {d : Nat}, ops[i]? = some o → o.dst = some d → isEff P o.op = eff → (d, i) ∈ rdsts P eff ops.toList 0 := fun ho hd he =>
    mem_rdsts.2 ⟨_, _, tl ho, (Nat.zero_add _).symm, hd, he⟩
  have one : ∀ i o, ops[i]? = some o → rcheck1 ops (rdsts P false ops.toList 0) o i = true := fun i o ho => by
    have := rcheckGo_at h3 i o (tl ho)
    rwa [Nat.zero_add] at this
  refine ⟨fun i o ho e he hb => ?_, fun i o t q oq ho ht hq hd hx => ?_, fun i o g b og t q oq ho hg hog hd hq hdq hx => ?_, fun i j oi oj d hi hj di dj ei ej => ?_, fun i j oi oj d hi hj di dj ei ej => ?_⟩
  · have := one i o ho
    simp only [rcheck1, Bool.and_eq_true, List.all_eq_true] at this
    have := this.1.1 e he
    simpa [hb, nblt] using this
  · have := one i o ho
    simp only [rcheck1, Bool.and_eq_true, List.all_eq_true] at this
    have := this.1.2 t ht (t, q) (mem hq hd hx)
    simpa [nbeq] using this
  · have := one i o ho
    simp only [rcheck1, Bool.and_eq_true, List.all_eq_true] at this
    have h4 := this.2
    simp only [hg, hog, Option.bind_some, hd, List.all_eq_true] at h4
    have := h4 (t, q) (mem hq hdq hx)
    simpa [nbeq] using this
  · exact nodupB_spec h1 _ (mem hi di ei) _ (mem hj dj ej) rfl
  · have := h2 _ (mem hj dj ej) _ (mem hi di ei)
    simp [nbeq] at this

/-! ### effects' numbers -/
theorem mem_effs : ∀ {l : List Oper} {i j : Nat}, j ∈ effs P l i ↔ ∃ k o, l[k]? = some o ∧ j = i + k ∧ isEff P o.op = true
  | [], i, j => by simp [effs]
  | o :: l, i, j => by
    have ih := @mem_effs l (i + 1) j
    have step : (∃ k o', (o :: l)[k]? = some o' ∧ j = i + k ∧ isEff P o'.op = true) ↔ (j = i ∧ isEff P o.op = true) ∨ ∃ k o', l[k]? = some o' ∧ j = i + 1 + k ∧ isEff P o'.op = true := by
      constructor
      · rintro ⟨k, o', h1, h2, h3⟩
        cases k with
        | zero => simp only [List.getElem?_cons_zero, Option.some.injEq] at h1; subst h1; exact .inl ⟨h2, h3⟩
        | succ k => exact .inr ⟨k, o', by simpa using h1, by omega, h3⟩
      · rintro (⟨h2, h3⟩ | ⟨k, o', h1, h2, h3⟩)
        · exact ⟨0, o, rfl, h2, h3⟩
        · exact ⟨k + 1, o', by simpa using h1, by omega, h3⟩
    rw [step, ← ih]
    have he' : effs P (o :: l) i = bif isEff P o.op then i :: effs P l (i + 1) else effs P l (i + 1) := rfl
    rw [he']
    cases he : isEff P o.op <;> simp
theorem effMask_has : ∀ {l : List Nat} {j : Nat}, has (effMask l) j = true ↔ j ∈ l
  | [], j => by simp [effMask, has_zero]
  | i :: l, j => by
    unfold effMask
    rw [has_lor, has_pow, Bool.or_eq_true, effMask_has, decide_eq_true_eq, List.mem_cons, eq_comm]
theorem em_has {ops : Array Oper} {j : Nat} : has (effMask (effs P ops.toList 0)) j = true ↔ ∃ o, ops[j]? = some o ∧ isEff P o.op = true := by
  rw [effMask_has, mem_effs]
  constructor
  · rintro ⟨k, o, h1, h2, h3⟩
    rw [Nat.zero_add] at h2; subst h2
    exact ⟨o, by simpa using h1, h3⟩
  · rintro ⟨o, h1, h3⟩
    exact ⟨j, o, by simpa using h1, (Nat.zero_add _).symm, h3⟩
theorem lor_sub {a b : Nat} (hs : ∀ j, has a j = true → has b j = true) : Nat.lor a b = b := by
  apply Nat.eq_of_testBit_eq
  intro j
  show (a ||| b).testBit j = b.testBit j
  rw [Nat.testBit_or]
  have := hs j
  rw [has_eq, has_eq] at this
  cases h1 : a.testBit j with
  | false => simp
  | true => rw [this h1]; rfl
theorem sub_lor {a b : Nat} (hs : Nat.lor a b = b) (j : Nat) (ha : has a j = true) : has b j = true := by
  rw [← hs, has_lor, ha]; rfl

/-! ### the relation -/
structure DrwR (P : Program) (ops : Array Oper) (dm um ed nt : Nat) (l : List Nat) (T : Tr AV) (pend : List (Nat × Nat)) : Prop where
  sched : Sched ops l
  eff : ∀ (i : Nat) (o : Oper), ops[i]? = some o → isEff P o.op = true → (i ∉ l ↔ has dm i = true)
  umd : ∀ j, has um j = true → j ∉ l
  edd : ∀ (i : Nat) (o : Oper), ops[i]? = some o → isEff P o.op = false → i ∉ l → has ed i = true
  pnd : ∀ (i : Nat) (o : Oper) (d : Nat) (v : AV) (mk : Mk) (k : Nat), i ∈ l → ops[i]? = some o → isEff P o.op = false → isAlloc P o.op = true → has ed i = true → o.dst = some d → d < nt → T.get d = some v → Mk.of mk v = some k → (i, k) ∈ pend

/-- the slots of quiet operations that are still to come -/
def RX (P : Program) (ops : Array Oper) (l : List Nat) (t : Nat) : Prop := ∃ i ∈ l, ∃ o : Oper, ops[i]? = some o ∧ isEff P o.op = false ∧ o.dst = some t

/-- blocks that lie nowhere yet -/
def PG (σ : Sg) (h : AH) (ks : List Nat) : Prop := ks.Nodup ∧ ∀ k ∈ ks, σ k = none ∧ k < h.next

theorem isAlloc_quiet {op : Op} {T : Operand → AV} (ha : isAlloc P op = true) : aquiet P h T op = none := by
  cases op <;> simp only [isAlloc] at ha <;> try (cases ha; done)
  all_goals first | rfl | skip
  rename_i s d x
  simp only [aquiet, aconv]
  cases hs : P.underlying s with
  | none => simp [hs] at ha
  | some ds =>
    cases hd : P.underlying d with
    | none => cases ds <;> simp [hs, hd] at ha
    | some dd => cases ds <;> cases dd <;> simp [hs, hd] at ha <;> rfl
theorem alloc_isAlloc {op : Op} {T : Operand → AV} {r : ABlock × Mk} (ha : aalloc P T op = some r) : isAlloc P op = true := by
  cases op <;> simp only [aalloc] at ha <;> try (cases ha; done)
  all_goals first | rfl | skip
  rename_i s d x
  unfold isAlloc
  split at ha
  · rename_i h1 h2 h3
    simp only [h1, h2]
  · cases ha

theorem putT_get {nt : Nat} {T : Tr AV} {dst : Option Tmp} {v : AV} (t : Nat) : (putT nt T dst v).get t = if dst = some t ∧ t < nt then some v else T.get t := by
  unfold putT
  cases dst with
  | none => simp
  | some d =>
    simp only [nblt, Bool.cond_decide]
    by_cases hd : d < nt
    · simp only [hd, if_true, Tr.get_set, Option.some.injEq]
      by_cases ht : t = d
      · subst ht; simp [hd]
      · have : ¬ (d = t ∧ t < nt) := fun h => ht h.1.symm
        simp [ht, this]
    · have : ¬ (some d = some t ∧ t < nt) := fun ⟨h1, h2⟩ => hd (Option.some.inj h1 ▸ h2)
      simp only [hd, if_false, this]

/-- a slot of a quiet operation that is still to come may be written ahead -/
theorem tmp_ahead {ops : Array Oper} {l : List Nat} {T : Tr AV} {nt : Nat} {c : Array Value} {i : Nat} {o : Oper} {v : AV} (r : TmpR σ (RX P ops l) T nt c) (hi : i ∈ l) (ho : ops[i]? = some o) (he : isEff P o.op = false) :
    TmpR σ (RX P ops l) (putT nt T o.dst v) nt c := by
  refine ⟨r.1, fun t a hx hg => ?_⟩
  rw [putT_get] at hg
  split at hg
  · rename_i hc
    exact (hx ⟨i, hi, o, ho, he, hc.1⟩).elim
  · exact r.2 t a hx hg

theorem DrwR.ahead {ops : Array Oper} {dm um ed nt : Nat} {l : List Nat} {T : Tr AV} {pend : List (Nat × Nat)} (hc : RC P ops) (r : DrwR P ops dm um ed nt l T pend) {i : Nat} {o : Oper} {v : AV} {pend' : List (Nat × Nat)}
    (ho : ops[i]? = some o) (he : isEff P o.op = false) (hp : ∀ x ∈ pend, x ∈ pend') (hk : isAlloc P o.op = true → ∀ mk k, Mk.of mk v = some k → (i, k) ∈ pend') :
    DrwR P ops dm um (Nat.lor ed (2 ^ i)) nt l (putT nt T o.dst v) pend' := by
  refine ⟨r.sched, r.eff, r.umd, fun j oj hj hej hjl => by rw [has_lor, r.edd j oj hj hej hjl]; rfl, fun j oj d u mk k hjl hj hej ha hed hd hdn hg hm => ?_⟩
  rw [putT_get] at hg
  by_cases hji : j = i
  · subst hji
    rw [ho] at hj; injection hj with hj; subst hj
    rw [if_pos ⟨hd, hdn⟩] at hg
    injection hg with hg; subst hg
    exact hk ha mk k hm
  · have hne : ¬ (o.dst = some d ∧ d < nt) := fun ⟨h1, _⟩ => hji (hc.uniq j i oj o d hj ho hd h1 hej he)
    rw [if_neg hne] at hg
    rw [has_lor, has_pow] at hed
    have : has ed j = true := by
      cases hx : has ed j with
      | true => rfl
      | false => rw [hx] at hed; simp at hed; exact absurd hed.symm hji
    exact hp _ (r.pnd j oj d u mk k hjl hj hej ha this hd hdn hg hm)

theorem passOne_sound {ops : Array Oper} {em dm um nt : Nat} {ls : List Nat} {c : Array Value} (hc : RC P ops) : ∀ (l : List Oper) (i ed : Nat) (T : Tr AV) (h : AH) (ed' : Nat) (T' : Tr AV) (h' : AH) (pend : List (Nat × Nat)) (others : List Nat),
    (∀ j o, l[j]? = some o → ops[i + j]? = some o) → passOne P ng ops em dm um nt l i ed T h = some (ed', T', h') →
    HR ng n0 σ h w → TmpR σ (RX P ops ls) T nt c → DrwR P ops dm um ed nt ls T pend → PG σ h (pend.map (·.2) ++ others) →
    ∃ pend', HR ng n0 σ h' w ∧ TmpR σ (RX P ops ls) T' nt c ∧ DrwR P ops dm um ed' nt ls T' pend' ∧ PG σ h' (pend'.map (·.2) ++ others) ∧ (∀ k, has ed k = true → has ed' k = true) ∧
      (∀ j o, l[j]? = some o → isEff P o.op = false → inWindow ops em dm um (i + j) = true → has ed' (i + j) = true) ∧ h.next ≤ h'.next
  | [], i, ed, T, h, ed', T', h', pend, others, hl, hq, R, t, d, g => by
    simp only [passOne] at hq
    injection hq with hq; injection hq with e1 hq; injection hq with e2 e3; subst e1; subst e2; subst e3
    exact ⟨pend, R, t, d, g, fun _ h => h, fun j o hj => by simp at hj, Nat.le_refl _⟩
  | o :: l, i, ed, T, h, ed', T', h', pend, others, hl, hq, R, t, d, g => by
    have ho : ops[i]? = some o := hl 0 o rfl
    have hl' : ∀ j o', l[j]? = some o' → ops[i + 1 + j]? = some o' := fun j o' hj => by
      rw [show i + 1 + j = i + (j + 1) by omega]; exact hl (j + 1) o' (by simpa using hj)
    simp only [passOne] at hq
    have cont : ∀ (ed1 : Nat) (T1 : Tr AV) (h1 : AH) (pend1 : List (Nat × Nat)), passOne P ng ops em dm um nt l (i + 1) ed1 T1 h1 = some (ed', T', h') →
        HR ng n0 σ h1 w → TmpR σ (RX P ops ls) T1 nt c → DrwR P ops dm um ed1 nt ls T1 pend1 → PG σ h1 (pend1.map (·.2) ++ others) → (∀ k, has ed k = true → has ed1 k = true) → h.next ≤ h1.next →
        (isEff P o.op = false → inWindow ops em dm um i = true → has ed1 i = true) →
        ∃ pend', HR ng n0 σ h' w ∧ TmpR σ (RX P ops ls) T' nt c ∧ DrwR P ops dm um ed' nt ls T' pend' ∧ PG σ h' (pend'.map (·.2) ++ others) ∧ (∀ k, has ed k = true → has ed' k = true) ∧
      (∀ j o', (o :: l)[j]? = some o' → isEff P o'.op = false → inWindow ops em dm um (i + j) = true → has ed' (i + j) = true) ∧ h.next ≤ h'.next := by
      intro ed1 T1 h1 pend1 hq R1 t1 d1 g1 hm hn hi
      obtain ⟨pend', a1, a2, a3, a4, a5, a6, a7⟩ := passOne_sound hc l (i + 1) ed1 T1 h1 ed' T' h' pend1 others hl' hq R1 t1 d1 g1
      refine ⟨pend', a1, a2, a3, a4, fun k hk => a5 k (hm k hk), fun j o' hj he hw => ?_, Nat.le_trans hn a7⟩
      cases j with
      | zero =>
        simp only [List.getElem?_cons_zero, Option.some.injEq] at hj; subst hj
        exact a5 _ (hi he hw)
      | succ j =>
        have := a6 j o' (by simpa using hj) he (by rw [show i + 1 + j = i + (j + 1) by omega]; exact hw)
        rw [show i + (j + 1) = i + 1 + j by omega]; exact this
    generalize hg : (isEff P o.op || has ed i || !inWindow ops em dm um i) = b at hq
    cases b with
    | true =>
      rw [cond_true] at hq
      refine cont ed T h pend hq R t d g (fun _ h => h) (Nat.le_refl _) fun he hw => ?_
      rw [he, hw] at hg; simpa using hg
    | false =>
      rw [cond_false] at hq
      simp only [Bool.or_eq_false_iff, Bool.not_eq_false'] at hg
      obtain ⟨⟨he, hed⟩, hw⟩ := hg
      have hil : i ∈ ls := by
        rcases Classical.em (i ∈ ls) with hm | hm
        · exact hm
        · have := d.edd i o ho he hm; rw [hed] at this; cases this
      have mono : ∀ k, has ed k = true → has (Nat.lor ed (2 ^ i)) k = true := fun k hk => by rw [has_lor, hk]; rfl
      have own : has (Nat.lor ed (2 ^ i)) i = true := by rw [has_lor, has_pow]; simp
      cases ha : awanted ops T o with
      | none => simp [ha] at hq
      | some wb =>
        cases wb with
        | false =>
          simp only [ha] at hq
          exact cont _ _ h pend hq R (tmp_ahead t hil ho he) (d.ahead hc ho he (fun _ h => h) (fun _ mk k hk => by cases mk <;> simp [undefA, Mk.of] at hk)) g mono (Nat.le_refl _) (fun _ _ => own)
        | true =>
          simp only [ha] at hq
          cases hal : aalloc P (ev ng T) o.op with
          | some r =>
            obtain ⟨b, mk⟩ := r
            simp only [hal] at hq
            refine cont _ _ (h.new b) ((i, h.next) :: pend) hq (R.pend b) (tmp_ahead t hil ho he) (d.ahead hc ho he (fun _ h => List.mem_cons_of_mem _ h) (fun _ mk' k hk => by rw [Mk.of_av hk]; exact List.mem_cons_self ..)) ?_ mono (Nat.le_succ _) (fun _ _ => own)
            refine ⟨List.nodup_cons.2 ⟨fun hx => ?_, g.1⟩, fun k hk => ?_⟩
            · exact absurd (g.2 _ hx).2 (Nat.lt_irrefl _)
            · rcases List.mem_cons.1 hk with rfl | hk
              · exact ⟨R.fresh _ (Nat.le_refl _), Nat.lt_succ_self _⟩
              · exact ⟨(g.2 k hk).1, Nat.lt_succ_of_lt (g.2 k hk).2⟩
          | none =>
            simp only [hal] at hq
            cases hqu : aquiet P h (ev ng T) o.op with
            | none => simp [hqu] at hq
            | some v =>
              simp only [hqu] at hq
              exact cont _ _ h pend hq R (tmp_ahead t hil ho he) (d.ahead hc ho he (fun _ h => h) (fun hia mk k hk => by rw [isAlloc_quiet hia] at hqu; cases hqu)) g mono (Nat.le_refl _) (fun _ _ => own)

/-- what the second pass has looked at -/
def Seen2 (P : Program) (ng : Nat) (ops : Array Oper) (nt : Nat) (T : Tr AV) (h : AH) (o : Oper) : Prop :=
  ∃ d, o.dst = some d ∧ d < nt ∧
    ((awanted ops T o = some false ∧ T.get d = some undefA) ∨
     (awanted ops T o = some true ∧ ∃ v, T.get d = some v ∧
       ((∃ b mk k b', aalloc P (ev ng T) o.op = some (b, mk) ∧ Mk.of mk v = some k ∧ h.get k = some b' ∧ b.beq b' = true) ∨
        (aalloc P (ev ng T) o.op = none ∧ aquiet P h (ev ng T) o.op = some v))))
theorem passTwo_sound {ops : Array Oper} {em dm um nt : Nat} {T : Tr AV} : ∀ {l : List Oper} {i : Nat}, passTwo P ng ops em dm um nt T h l i = true →
    ∀ j o, l[j]? = some o → isEff P o.op = false → inWindow ops em dm um (i + j) = true → Seen2 P ng ops nt T h o
  | [], i, hq, j, o, hj, _, _ => by simp at hj
  | o :: l, i, hq, j, o', hj, he, hw => by
    simp only [passTwo, Bool.and_eq_true] at hq
    cases j with
    | succ j => exact passTwo_sound hq.2 j o' (by simpa using hj) he (by rw [show i + 1 + j = i + (j + 1) by omega]; exact hw)
    | zero =>
      simp only [List.getElem?_cons_zero, Option.some.injEq] at hj; subst hj
      have hq := hq.1
      rw [he] at hq
      simp only [Nat.add_zero] at hw
      rw [hw] at hq
      simp only [Bool.not_true, Bool.or_false, cond_false] at hq
      cases hd : o.dst with
      | none =>
        rw [hd] at hq
        cases hx : awanted ops T o with
        | none => simp [hx] at hq
        | some b => cases b <;> simp [hx] at hq
      | some d =>
        rw [hd] at hq
        cases ha : awanted ops T o with
        | none => simp [ha] at hq
        | some b =>
          cases b with
          | false =>
            simp only [ha, Bool.and_eq_true, nblt, decide_eq_true_eq] at hq
            refine ⟨d, hd, hq.1, .inl ⟨ha, ?_⟩⟩
            have hq := hq.2
            split at hq
            · rename_i hg; exact hg
            · cases hq
          | true =>
            simp only [ha, Bool.and_eq_true, nblt, decide_eq_true_eq] at hq
            refine ⟨d, hd, hq.1, .inr ⟨ha, ?_⟩⟩
            have hq := hq.2
            cases hg : T.get d with
            | none => simp [hg] at hq
            | some v =>
              simp only [hg] at hq
              refine ⟨v, rfl, ?_⟩
              cases hal : aalloc P (ev ng T) o.op with
              | some r =>
                obtain ⟨b, mk⟩ := r
                simp only [hal] at hq
                cases hk : Mk.of mk v with
                | none => simp [hk] at hq
                | some k =>
                  cases hb : h.get k with
                  | none => simp [hk, hb] at hq
                  | some b' =>
                    simp only [hk, hb] at hq
                    exact .inl ⟨b, mk, k, b', rfl, hk, hb, hq⟩
              | none =>
                simp only [hal] at hq
                cases hqu : aquiet P h (ev ng T) o.op with
                | none => simp [hqu] at hq
                | some v' =>
                  simp only [hqu] at hq
                  exact .inr ⟨rfl, by rw [AV.beq_eq _ _ hq]⟩
end
end Go.Proofs.YtllipkakgjmheaaGreatDoor.Ev

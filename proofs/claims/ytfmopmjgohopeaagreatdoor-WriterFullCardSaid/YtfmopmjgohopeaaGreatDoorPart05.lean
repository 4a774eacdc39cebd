/- The texts EbQ, EbR, EbS, EbT of WriterFull, joined by program (tools/merge.py): walks of the functions that the law reaches, and plain facts; no condition. -/
import Derived.Test.YtfmopmjgohopeaaGreatDoorPart04
set_option linter.unusedVariables false
set_option linter.unusedSimpArgs false

/-
  The abstract machine: regions that draw their order: what is asked of the text, and the two passes.
-/
set_option linter.unusedVariables false
set_option linter.unusedSimpArgs false
set_option linter.constructorNameAsVariable false
namespace Go.Proofs.YtfmopmjgohopeaaGreatDoor.Ev
open Go Go.RowKit

/-! ### beq -/
theorem litBeq_eq {a b : Value} (h : litBeq a b = true) : a = b := by
  unfold litBeq at h
  split at h <;> first | rfl | (rw [nbeq, nbeq] at h; simp only [Bool.and_eq_true, decide_eq_true_eq] at h; rw [h.1, h.2]) | cases h
theorem capBeq_eq {a b : Cap} (h : capBeq a b = true) : a = b := by
  cases a <;> cases b <;> simp only [capBeq, nbeq, decide_eq_true_eq] at h <;> first | (rw [h]) | cases h
mutual
theorem AV.beq_eq : ∀ (a b : AV), AV.beq a b = true → a = b := fun a b h => by
  match a, b, h with
  | .lit a, .lit b, h => simp only [AV.beq] at h; rw [litBeq_eq h]
  | .bool a, .bool b, h => simp only [AV.beq, boolBeq_eq, beq_iff_eq] at h; rw [h]
  | .int j a, .int k b, h => simp only [AV.beq, ikBeq_iff, intBeq_iff, Bool.and_eq_true, decide_eq_true_eq, beq_iff_eq] at h; rw [h.1, h.2]
  | .str ⟨a, b⟩, .str ⟨c, d⟩, h => simp only [AV.beq, nbeq, Bool.and_eq_true, decide_eq_true_eq] at h; rw [h.1, h.2]
  | .ptr a b, .ptr c d, h => simp only [AV.beq, nbeq, Bool.and_eq_true, decide_eq_true_eq] at h; rw [h.1, h.2]
  | .slice a b c d, .slice a' b' c' d', h =>
    simp only [AV.beq, nbeq, Bool.and_eq_true, decide_eq_true_eq] at h
    rw [h.1.1.1, h.1.1.2, h.1.2, capBeq_eq h.2]
  | .empty none, .empty none, h => rfl
  | .empty (some a), .empty (some b), h => simp only [AV.beq, nbeq, decide_eq_true_eq] at h; rw [h]
  | .map a, .map b, h => simp only [AV.beq, nbeq, decide_eq_true_eq] at h; rw [h]
  | .func f x y, .func g x' y', h =>
    simp only [AV.beq, nbeq, Bool.and_eq_true, decide_eq_true_eq] at h
    rw [h.1.1, AV.beqs_eq x x' h.1.2, AV.beqs_eq y y' h.2]
  | .yield a, .yield b, h => simp only [AV.beq, nbeq, decide_eq_true_eq] at h; rw [h]
  | .iface t v, .iface u w, h =>
    simp only [AV.beq, nbeq, Bool.and_eq_true, decide_eq_true_eq] at h
    rw [h.1, AV.beq_eq v w h.2]
  | .agg a, .agg b, h => simp only [AV.beq] at h; rw [AV.beqs_eq a b h]
  | .tuple a, .tuple b, h => simp only [AV.beq] at h; rw [AV.beqs_eq a b h]
theorem AV.beqs_eq : ∀ (a b : List AV), AV.beqs a b = true → a = b := fun a b h => by
  match a, b, h with
  | [], [], _ => rfl
  | a :: x, b :: y, h =>
    simp only [AV.beqs, Bool.and_eq_true] at h
    rw [AV.beq_eq a b h.1, AV.beqs_eq x y h.2]
end

section
variable {P : Program} {ng n0 : Nat} {σ : Sg} {h : AH} {w : World}

theorem Cs.beq_eq : ∀ {a b : Cs}, Cs.beq a b = true → a = b
  | .av a, .av b, h => congrArg Cs.av (AV.beqs_eq a b h)
  | .bt ⟨a, b⟩, .bt ⟨c, d⟩, h => by
    simp only [Cs.beq, nbeq, Bool.and_eq_true, decide_eq_true_eq] at h
    rw [h.1, h.2]
  | .av _, .bt _, h => by cases h
  | .bt _, .av _, h => by cases h
theorem ABlock.beq_BR {b b' : ABlock} {e : Loc} (hb : b.beq b' = true) (hro : b.ro = false) (r : BR σ w e b) : BR σ w e b' := by
  unfold ABlock.beq at hb
  split at hb
  · rename_i r1 a r2 c
    have := Cs.beq_eq hb; subst this
    obtain ⟨x, t, fz, h1, h2, h3, h4⟩ := r
    refine ⟨x, t, fz, h1, h2, ?_, h4⟩
    have : r1 = false := hro
    rw [this] at h3
    exact .inr (h3.resolve_left (by simp))
  · rename_i a c
    rw [nbeq, decide_eq_true_eq] at hb; subst hb; exact r
  · cases hb

theorem Mk.of_av {mk mk' : Mk} {k n : Nat} (hk : mk'.of (mk.av n) = some k) : k = n := by
  cases mk <;> cases mk' <;> simp only [Mk.av, Mk.of] at hk <;> try (cases hk; done)
  · injection hk with hk; exact hk.symm
  · rename_i a b c d
    cases hc : (Nat.beq c a && capBeq d b) with
    | false => rw [hc] at hk; cases hk
    | true => rw [hc, cond_true] at hk; injection hk with hk; exact hk.symm
  · injection hk with hk; exact hk.symm
theorem Mk.of_VR {mk : Mk} {k : Nat} {v : AV} (hk : mk.of v = some k) : v = mk.av k := by
  cases mk with
  | ptr =>
    unfold Mk.of at hk
    split at hk <;> first | (injection hk with hk; subst hk; first | rfl | (exfalso; simp_all; done)) | (exfalso; simp_all; done) | skip
  | slice n c =>
    unfold Mk.of at hk
    split at hk <;> first | (exfalso; simp_all; done) | skip
    rename_i n' c' k' m d heq
    injection heq with e1 e2; subst e1; subst e2
    cases hc : (Nat.beq n m && capBeq c d) with
    | false => rw [hc] at hk; cases hk
    | true =>
      rw [hc, cond_true] at hk; injection hk with hk; subst hk
      simp only [nbeq, Bool.and_eq_true, decide_eq_true_eq] at hc
      rw [Mk.av, hc.1, capBeq_eq hc.2]
  | map =>
    unfold Mk.of at hk
    split at hk <;> first | (injection hk with hk; subst hk; first | rfl | (exfalso; simp_all; done)) | (exfalso; simp_all; done) | skip

/-! ### What is asked of the text -/
theorem mem_rdsts {eff : Bool} : ∀ {l : List Oper} {i : Nat} {d j : Nat}, (d, j) ∈ rdsts P eff l i ↔ ∃ k o, l[k]? = some o ∧ j = i + k ∧ o.dst = some d ∧ isEff P o.op = eff
  | [], i, d, j => by simp [rdsts]
  | o :: l, i, d, j => by
    have ih := @mem_rdsts eff l (i + 1) d j
    have step : (∃ k o', (o :: l)[k]? = some o' ∧ j = i + k ∧ o'.dst = some d ∧ isEff P o'.op = eff) ↔ (j = i ∧ o.dst = some d ∧ isEff P o.op = eff) ∨ ∃ k o', l[k]? = some o' ∧ j = i + 1 + k ∧ o'.dst = some d ∧ isEff P o'.op = eff := by
      constructor
      · rintro ⟨k, o', h1, h2, h3, h4⟩
        cases k with
        | zero => simp only [List.getElem?_cons_zero, Option.some.injEq] at h1; subst h1; exact .inl ⟨h2, h3, h4⟩
        | succ k => exact .inr ⟨k, o', by simpa using h1, by omega, h3, h4⟩
      · rintro (⟨h2, h3, h4⟩ | ⟨k, o', h1, h2, h3, h4⟩)
        · exact ⟨0, o, rfl, h2, h3, h4⟩
        · exact ⟨k + 1, o', by simpa using h1, by omega, h3, h4⟩
    rw [step, ← ih]
    have he : rdsts P eff (o :: l) i = match o.dst with
      | some d => bif boolBeq (isEff P o.op) eff then (d, i) :: rdsts P eff l (i + 1) else rdsts P eff l (i + 1)
      | none => rdsts P eff l (i + 1) := rfl
    rw [he]
    cases hd : o.dst with
    | none => simp
    | some d' =>
      simp only [boolBeq_eq, Bool.cond_eq_ite, beq_iff_eq]
      by_cases he : isEff P o.op = eff
      · simp only [he, if_true, List.mem_cons, Prod.mk.injEq, Option.some.injEq, and_true]
        constructor
        · rintro (⟨a, b⟩ | h)
          · exact .inl ⟨b, a.symm⟩
          · exact .inr h
        · rintro (⟨a, b⟩ | h)
          · exact .inl ⟨b.symm, a⟩
          · exact .inr h
      · simp [he]

structure RC (P : Program) (ops : Array Oper) : Prop where
  back : Back ops
  looks : ∀ (i : Nat) (o : Oper) (t q : Nat) (oq : Oper), ops[i]? = some o → t ∈ operTmps o → ops[q]? = some oq → oq.dst = some t → isEff P oq.op = false → has (maskOf ops i) q = true
  guard : ∀ (i : Nat) (o : Oper) (g : Nat) (b : Bool) (og : Oper) (t q : Nat) (oq : Oper), ops[i]? = some o → o.guard = some (g, b) → ops[g]? = some og → og.dst = some t → ops[q]? = some oq → oq.dst = some t → isEff P oq.op = false → has (maskOf ops i) q = true
  uniq : ∀ (i j : Nat) (oi oj : Oper) (d : Nat), ops[i]? = some oi → ops[j]? = some oj → oi.dst = some d → oj.dst = some d → isEff P oi.op = false → isEff P oj.op = false → i = j
  apart : ∀ (i j : Nat) (oi oj : Oper) (d : Nat), ops[i]? = some oi → ops[j]? = some oj → oi.dst = some d → oj.dst = some d → isEff P oi.op = false → isEff P oj.op = true → False

theorem rcheckGo_at {ops : Array Oper} {ds : List (Nat × Nat)} : ∀ {l : List Oper} {i : Nat}, rcheckGo ops ds l i = true → ∀ k o, l[k]? = some o → rcheck1 ops ds o (i + k) = true
  | [], _, _, k, o, hk => by simp at hk
  | o :: l, i, h, k, o', hk => by
    simp only [rcheckGo, Bool.and_eq_true] at h
    cases k with
    | zero => simp only [List.getElem?_cons_zero, Option.some.injEq] at hk; subst hk; exact h.1
    | succ k =>
      have := rcheckGo_at h.2 k o' (by simpa using hk)
      rw [show i + (k + 1) = i + 1 + k by omega]; exact this
theorem nodupB_spec : ∀ {l : List (Nat × Nat)}, nodupB l = true → ∀ p ∈ l, ∀ q ∈ l, p.1 = q.1 → p.2 = q.2
  | [], _, p, hp, _, _, _ => by simp at hp
  | x :: l, h, p, hp, q, hq, e => by
    simp only [nodupB, Bool.and_eq_true, List.all_eq_true, nbeq, Bool.not_eq_true', decide_eq_false_iff_not] at h
    rcases List.mem_cons.1 hp with e1 | hp'
    · rcases List.mem_cons.1 hq with e2 | hq'
      · rw [e1, e2]
      · rw [e1] at e; exact absurd e (h.1 q hq')
    · rcases List.mem_cons.1 hq with e2 | hq'
      · rw [e2] at e; exact absurd e.symm (h.1 p hp')
      · exact nodupB_spec h.2 p hp' q hq' e

theorem rcheck_sound {ops : Array Oper} (h : rcheck P ops = true) : RC P ops := by
  unfold rcheck at h
  simp only [Bool.and_eq_true, List.all_eq_true] at h
  obtain ⟨⟨h1, h2⟩, h3⟩ := h
  have tl : ∀ {i : Nat} {o : Oper}, ops[i]? = some o → ops.toList[i]? = some o := fun ho => by simpa using ho
  have mem : ∀ {eff : Bool} {i : Nat} {o : Oper} {d : Nat}, ops[i]? = some o → o.dst = some d → isEff P o.op = eff → (d, i) ∈ rdsts P eff ops.toList 0 := fun ho hd he =>
    mem_rdsts.2 ⟨_, _, tl ho, (Nat.zero_add _).symm, hd, he⟩
  have one : ∀ i o, ops[i]? = some o → rcheck1 ops (rdsts P false ops.toList 0) o i = true := fun i o ho => by
    have := rcheckGo_at h3 i o (tl ho)
    rwa [Nat.zero_add] at this
  refine ⟨fun i o ho e he hb => ?_, fun i o t q oq ho ht hq hd hx => ?_, fun i o g b og t q oq ho hg hog hd hq hdq hx => ?_, fun i j oi oj d hi hj di dj ei ej => ?_, fun i j oi oj d hi hj di dj ei ej => ?_⟩
  · have := one i o ho
    simp only [rcheck1, Bool.and_eq_true, List.all_eq_true] at this
    have := this.1.1 e he
    simpa [hb, nblt] using this
  · have := one i o ho
    simp only [rcheck1, Bool.and_eq_true, List.all_eq_true] at this
    have := this.1.2 t ht (t, q) (mem hq hd hx)
    simpa [nbeq] using this
  · have := one i o ho
    simp only [rcheck1, Bool.and_eq_true, List.all_eq_true] at this
    have h4 := this.2
    simp only [hg, hog, Option.bind_some, hd, List.all_eq_true] at h4
    have := h4 (t, q) (mem hq hdq hx)
    simpa [nbeq] using this
  · exact nodupB_spec h1 _ (mem hi di ei) _ (mem hj dj ej) rfl
  · have := h2 _ (mem hj dj ej) _ (mem hi di ei)
    simp [nbeq] at this

/-! ### effects' numbers -/
theorem mem_effs : ∀ {l : List Oper} {i j : Nat}, j ∈ effs P l i ↔ ∃ k o, l[k]? = some o ∧ j = i + k ∧ isEff P o.op = true
  | [], i, j => by simp [effs]
  | o :: l, i, j => by
    have ih := @mem_effs l (i + 1) j
    have step : (∃ k o', (o :: l)[k]? = some o' ∧ j = i + k ∧ isEff P o'.op = true) ↔ (j = i ∧ isEff P o.op = true) ∨ ∃ k o', l[k]? = some o' ∧ j = i + 1 + k ∧ isEff P o'.op = true := by
      constructor
      · rintro ⟨k, o', h1, h2, h3⟩
        cases k with
        | zero => simp only [List.getElem?_cons_zero, Option.some.injEq] at h1; subst h1; exact .inl ⟨h2, h3⟩
        | succ k => exact .inr ⟨k, o', by simpa using h1, by omega, h3⟩
      · rintro (⟨h2, h3⟩ | ⟨k, o', h1, h2, h3⟩)
        · exact ⟨0, o, rfl, h2, h3⟩
        · exact ⟨k + 1, o', by simpa using h1, by omega, h3⟩
    rw [step, ← ih]
    have he' : effs P (o :: l) i = bif isEff P o.op then i :: effs P l (i + 1) else effs P l (i + 1) := rfl
    rw [he']
    cases he : isEff P o.op <;> simp
theorem effMask_has : ∀ {l : List Nat} {j : Nat}, has (effMask l) j = true ↔ j ∈ l
  | [], j => by simp [effMask, has_zero]
  | i :: l, j => by
    unfold effMask
    rw [has_lor, has_pow, Bool.or_eq_true, effMask_has, decide_eq_true_eq, List.mem_cons, eq_comm]
theorem em_has {ops : Array Oper} {j : Nat} : has (effMask (effs P ops.toList 0)) j = true ↔ ∃ o, ops[j]? = some o ∧ isEff P o.op = true := by
  rw [effMask_has, mem_effs]
  constructor
  · rintro ⟨k, o, h1, h2, h3⟩
    rw [Nat.zero_add] at h2; subst h2
    exact ⟨o, by simpa using h1, h3⟩
  · rintro ⟨o, h1, h3⟩
    exact ⟨j, o, by simpa using h1, (Nat.zero_add _).symm, h3⟩
theorem lor_sub {a b : Nat} (hs : ∀ j, has a j = true → has b j = true) : Nat.lor a b = b := by
  apply Nat.eq_of_testBit_eq
  intro j
  show (a ||| b).testBit j = b.testBit j
  rw [Nat.testBit_or]
  have := hs j
  rw [has_eq, has_eq] at this
  cases h1 : a.testBit j with
  | false => simp
  | true => rw [this h1]; rfl
theorem sub_lor {a b : Nat} (hs : Nat.lor a b = b) (j : Nat) (ha : has a j = true) : has b j = true := by
  rw [← hs, has_lor, ha]; rfl

/-! ### the relation -/
structure DrwR (P : Program) (ops : Array Oper) (dm um ed nt : Nat) (l : List Nat) (T : Tr AV) (pend : List (Nat × Nat)) : Prop where
  sched : Sched ops l
  eff : ∀ (i : Nat) (o : Oper), ops[i]? = some o → isEff P o.op = true → (i ∉ l ↔ has dm i = true)
  umd : ∀ j, has um j = true → j ∉ l
  edd : ∀ (i : Nat) (o : Oper), ops[i]? = some o → isEff P o.op = false → i ∉ l → has ed i = true
  pnd : ∀ (i : Nat) (o : Oper) (d : Nat) (v : AV) (mk : Mk) (k : Nat), i ∈ l → ops[i]? = some o → isEff P o.op = false → isAlloc P o.op = true → has ed i = true → o.dst = some d → d < nt → T.get d = some v → Mk.of mk v = some k → (i, k) ∈ pend

/-- the slots of quiet operations that are still to come -/
def RX (P : Program) (ops : Array Oper) (l : List Nat) (t : Nat) : Prop := ∃ i ∈ l, ∃ o : Oper, ops[i]? = some o ∧ isEff P o.op = false ∧ o.dst = some t

/-- blocks that lie nowhere yet -/
def PG (σ : Sg) (h : AH) (ks : List Nat) : Prop := ks.Nodup ∧ ∀ k ∈ ks, σ k = none ∧ k < h.next

theorem isAlloc_quiet {op : Op} {T : Operand → AV} (ha : isAlloc P op = true) : aquiet P h T op = none := by
  cases op <;> simp only [isAlloc] at ha <;> try (cases ha; done)
  all_goals first | rfl | skip
  rename_i s d x
  simp only [aquiet, aconv]
  cases hs : P.underlying s with
  | none => simp [hs] at ha
  | some ds =>
    cases hd : P.underlying d with
    | none => cases ds <;> simp [hs, hd] at ha
    | some dd => cases ds <;> cases dd <;> simp [hs, hd] at ha <;> rfl
theorem alloc_isAlloc {op : Op} {T : Operand → AV} {r : ABlock × Mk} (ha : aalloc P T op = some r) : isAlloc P op = true := by
  cases op <;> simp only [aalloc] at ha <;> try (cases ha; done)
  all_goals first | rfl | skip
  rename_i s d x
  unfold isAlloc
  split at ha
  · rename_i h1 h2 h3
    simp only [h1, h2]
  · cases ha

theorem putT_get {nt : Nat} {T : Tr AV} {dst : Option Tmp} {v : AV} (t : Nat) : (putT nt T dst v).get t = if dst = some t ∧ t < nt then some v else T.get t := by
  unfold putT
  cases dst with
  | none => simp
  | some d =>
    simp only [nblt, Bool.cond_decide]
    by_cases hd : d < nt
    · simp only [hd, if_true, Tr.get_set, Option.some.injEq]
      by_cases ht : t = d
      · subst ht; simp [hd]
      · have : ¬ (d = t ∧ t < nt) := fun h => ht h.1.symm
        simp [ht, this]
    · have : ¬ (some d = some t ∧ t < nt) := fun ⟨h1, h2⟩ => hd (Option.some.inj h1 ▸ h2)
      simp only [hd, if_false, this]

/-- a slot of a quiet operation that is still to come may be written ahead -/
theorem tmp_ahead {ops : Array Oper} {l : List Nat} {T : Tr AV} {nt : Nat} {c : Array Value} {i : Nat} {o : Oper} {v : AV} (r : TmpR σ (RX P ops l) T nt c) (hi : i ∈ l) (ho : ops[i]? = some o) (he : isEff P o.op = false) :
    TmpR σ (RX P ops l) (putT nt T o.dst v) nt c := by
  refine ⟨r.1, fun t a hx hg => ?_⟩
  rw [putT_get] at hg
  split at hg
  · rename_i hc
    exact (hx ⟨i, hi, o, ho, he, hc.1⟩).elim
  · exact r.2 t a hx hg

theorem DrwR.ahead {ops : Array Oper} {dm um ed nt : Nat} {l : List Nat} {T : Tr AV} {pend : List (Nat × Nat)} (hc : RC P ops) (r : DrwR P ops dm um ed nt l T pend) {i : Nat} {o : Oper} {v : AV} {pend' : List (Nat × Nat)}
    (ho : ops[i]? = some o) (he : isEff P o.op = false) (hp : ∀ x ∈ pend, x ∈ pend') (hk : isAlloc P o.op = true → ∀ mk k, Mk.of mk v = some k → (i, k) ∈ pend') :
    DrwR P ops dm um (Nat.lor ed (2 ^ i)) nt l (putT nt T o.dst v) pend' := by
  refine ⟨r.sched, r.eff, r.umd, fun j oj hj hej hjl => by rw [has_lor, r.edd j oj hj hej hjl]; rfl, fun j oj d u mk k hjl hj hej ha hed hd hdn hg hm => ?_⟩
  rw [putT_get] at hg
  by_cases hji : j = i
  · subst hji
    rw [ho] at hj; injection hj with hj; subst hj
    rw [if_pos ⟨hd, hdn⟩] at hg
    injection hg with hg; subst hg
    exact hk ha mk k hm
  · have hne : ¬ (o.dst = some d ∧ d < nt) := fun ⟨h1, _⟩ => hji (hc.uniq j i oj o d hj ho hd h1 hej he)
    rw [if_neg hne] at hg
    rw [has_lor, has_pow] at hed
    have : has ed j = true := by
      cases hx : has ed j with
      | true => rfl
      | false => rw [hx] at hed; simp at hed; exact absurd hed.symm hji
    exact hp _ (r.pnd j oj d u mk k hjl hj hej ha this hd hdn hg hm)

theorem passOne_sound {ops : Array Oper} {em dm um nt : Nat} {ls : List Nat} {c : Array Value} (hc : RC P ops) : ∀ (l : List Oper) (i ed : Nat) (T : Tr AV) (h : AH) (ed' : Nat) (T' : Tr AV) (h' : AH) (pend : List (Nat × Nat)) (others : List Nat),
    (∀ j o, l[j]? = some o → ops[i + j]? = some o) → passOne P ng ops em dm um nt l i ed T h = some (ed', T', h') →
    HR ng n0 σ h w → TmpR σ (RX P ops ls) T nt c → DrwR P ops dm um ed nt ls T pend → PG σ h (pend.map (·.2) ++ others) →
    ∃ pend', HR ng n0 σ h' w ∧ TmpR σ (RX P ops ls) T' nt c ∧ DrwR P ops dm um ed' nt ls T' pend' ∧ PG σ h' (pend'.map (·.2) ++ others) ∧ (∀ k, has ed k = true → has ed' k = true) ∧
      (∀ j o, l[j]? = some o → isEff P o.op = false → inWindow ops em dm um (i + j) = true → has ed' (i + j) = true) ∧ h.next ≤ h'.next
  | [], i, ed, T, h, ed', T', h', pend, others, hl, hq, R, t, d, g => by
    simp only [passOne] at hq
    injection hq with hq; injection hq with e1 hq; injection hq with e2 e3; subst e1; subst e2; subst e3
    exact ⟨pend, R, t, d, g, fun _ h => h, fun j o hj => by simp at hj, Nat.le_refl _⟩
  | o :: l, i, ed, T, h, ed', T', h', pend, others, hl, hq, R, t, d, g => by
    have ho : ops[i]? = some o := hl 0 o rfl
    have hl' : ∀ j o', l[j]? = some o' → ops[i + 1 + j]? = some o' := fun j o' hj => by
      rw [show i + 1 + j = i + (j + 1) by omega]; exact hl (j + 1) o' (by simpa using hj)
    simp only [passOne] at hq
    have cont : ∀ (ed1 : Nat) (T1 : Tr AV) (h1 : AH) (pend1 : List (Nat × Nat)), passOne P ng ops em dm um nt l (i + 1) ed1 T1 h1 = some (ed', T', h') →
        HR ng n0 σ h1 w → TmpR σ (RX P ops ls) T1 nt c → DrwR P ops dm um ed1 nt ls T1 pend1 → PG σ h1 (pend1.map (·.2) ++ others) → (∀ k, has ed k = true → has ed1 k = true) → h.next ≤ h1.next →
        (isEff P o.op = false → inWindow ops em dm um i = true → has ed1 i = true) →
        ∃ pend', HR ng n0 σ h' w ∧ TmpR σ (RX P ops ls) T' nt c ∧ DrwR P ops dm um ed' nt ls T' pend' ∧ PG σ h' (pend'.map (·.2) ++ others) ∧ (∀ k, has ed k = true → has ed' k = true) ∧
      (∀ j o', (o :: l)[j]? = some o' → isEff P o'.op = false → inWindow ops em dm um (i + j) = true → has ed' (i + j) = true) ∧ h.next ≤ h'.next := by
      intro ed1 T1 h1 pend1 hq R1 t1 d1 g1 hm hn hi
      obtain ⟨pend', a1, a2, a3, a4, a5, a6, a7⟩ := passOne_sound hc l (i + 1) ed1 T1 h1 ed' T' h' pend1 others hl' hq R1 t1 d1 g1
      refine ⟨pend', a1, a2, a3, a4, fun k hk => a5 k (hm k hk), fun j o' hj he hw => ?_, Nat.le_trans hn a7⟩
      cases j with
      | zero =>
        simp only [List.getElem?_cons_zero, Option.some.injEq] at hj; subst hj
        exact a5 _ (hi he hw)
      | succ j =>
        have := a6 j o' (by simpa using hj) he (by rw [show i + 1 + j = i + (j + 1) by omega]; exact hw)
        rw [show i + (j + 1) = i + 1 + j by omega]; exact this
    generalize hg : (isEff P o.op || has ed i || !inWindow ops em dm um i) = b at hq
    cases b with
    | true =>
      rw [cond_true] at hq
      refine cont ed T h pend hq R t d g (fun _ h => h) (Nat.le_refl _) fun he hw => ?_
      rw [he, hw] at hg; simpa using hg
    | false =>
      rw [cond_false] at hq
      simp only [Bool.or_eq_false_iff, Bool.not_eq_false'] at hg
      obtain ⟨⟨he, hed⟩, hw⟩ := hg
      have hil : i ∈ ls := by
        rcases Classical.em (i ∈ ls) with hm | hm
        · exact hm
        · have := d.edd i o ho he hm; rw [hed] at this; cases this
      have mono : ∀ k, has ed k = true → has (Nat.lor ed (2 ^ i)) k = true := fun k hk => by rw [has_lor, hk]; rfl
      have own : has (Nat.lor ed (2 ^ i)) i = true := by rw [has_lor, has_pow]; simp
      cases ha : awanted ops T o with
      | none => simp [ha] at hq
      | some wb =>
        cases wb with
        | false =>
          simp only [ha] at hq
          exact cont _ _ h pend hq R (tmp_ahead t hil ho he) (d.ahead hc ho he (fun _ h => h) (fun _ mk k hk => by cases mk <;> simp [undefA, Mk.of] at hk)) g mono (Nat.le_refl _) (fun _ _ => own)
        | true =>
          simp only [ha] at hq
          cases hal : aalloc P (ev ng T) o.op with
          | some r =>
            obtain ⟨b, mk⟩ := r
            simp only [hal] at hq
            refine cont _ _ (h.new b) ((i, h.next) :: pend) hq (R.pend b) (tmp_ahead t hil ho he) (d.ahead hc ho he (fun _ h => List.mem_cons_of_mem _ h) (fun _ mk' k hk => by rw [Mk.of_av hk]; exact List.mem_cons_self ..)) ?_ mono (Nat.le_succ _) (fun _ _ => own)
            refine ⟨List.nodup_cons.2 ⟨fun hx => ?_, g.1⟩, fun k hk => ?_⟩
            · exact absurd (g.2 _ hx).2 (Nat.lt_irrefl _)
            · rcases List.mem_cons.1 hk with rfl | hk
              · exact ⟨R.fresh _ (Nat.le_refl _), Nat.lt_succ_self _⟩
              · exact ⟨(g.2 k hk).1, Nat.lt_succ_of_lt (g.2 k hk).2⟩
          | none =>
            simp only [hal] at hq
            cases hqu : aquiet P h (ev ng T) o.op with
            | none => simp [hqu] at hq
            | some v =>
              simp only [hqu] at hq
              exact cont _ _ h pend hq R (tmp_ahead t hil ho he) (d.ahead hc ho he (fun _ h => h) (fun hia mk k hk => by rw [isAlloc_quiet hia] at hqu; cases hqu)) g mono (Nat.le_refl _) (fun _ _ => own)

/-- what the second pass has looked at -/
def Seen2 (P : Program) (ng : Nat) (ops : Array Oper) (nt : Nat) (T : Tr AV) (h : AH) (o : Oper) : Prop :=
  ∃ d, o.dst = some d ∧ d < nt ∧
    ((awanted ops T o = some false ∧ T.get d = some undefA) ∨
     (awanted ops T o = some true ∧ ∃ v, T.get d = some v ∧
       ((∃ b mk k b', aalloc P (ev ng T) o.op = some (b, mk) ∧ Mk.of mk v = some k ∧ h.get k = some b' ∧ b.beq b' = true) ∨
        (aalloc P (ev ng T) o.op = none ∧ aquiet P h (ev ng T) o.op = some v))))
theorem passTwo_sound {ops : Array Oper} {em dm um nt : Nat} {T : Tr AV} : ∀ {l : List Oper} {i : Nat}, passTwo P ng ops em dm um nt T h l i = true →
    ∀ j o, l[j]? = some o → isEff P o.op = false → inWindow ops em dm um (i + j) = true → Seen2 P ng ops nt T h o
  | [], i, hq, j, o, hj, _, _ => by simp at hj
  | o :: l, i, hq, j, o', hj, he, hw => by
    simp only [passTwo, Bool.and_eq_true] at hq
    cases j with
    | succ j => exact passTwo_sound hq.2 j o' (by simpa using hj) he (by rw [show i + 1 + j = i + (j + 1) by omega]; exact hw)
    | zero =>
      simp only [List.getElem?_cons_zero, Option.some.injEq] at hj; subst hj
      have hq := hq.1
      rw [he] at hq
      simp only [Nat.add_zero] at hw
      rw [hw] at hq
      simp only [Bool.not_true, Bool.or_false, cond_false] at hq
      cases hd : o.dst with
      | none =>
        rw [hd] at hq
        cases hx : awanted ops T o with
        | none => simp [hx] at hq
        | some b => cases b <;> simp [hx] at hq
      | some d =>
        rw [hd] at hq
        cases ha : awanted ops T o with
        | none => simp [ha] at hq
        | some b =>
          cases b with
          | false =>
            simp only [ha, Bool.and_eq_true, nblt, decide_eq_true_eq] at hq
            refine ⟨d, hd, hq.1, .inl ⟨ha, ?_⟩⟩
            have hq := hq.2
            split at hq
            · rename_i hg; exact hg
            · cases hq
          | true =>
            simp only [ha, Bool.and_eq_true, nblt, decide_eq_true_eq] at hq
            refine ⟨d, hd, hq.1, .inr ⟨ha, ?_⟩⟩
            have hq := hq.2
            cases hg : T.get d with
            | none => simp [hg] at hq
            | some v =>
              simp only [hg] at hq
              refine ⟨v, rfl, ?_⟩
              cases hal : aalloc P (ev ng T) o.op with
              | some r =>
                obtain ⟨b, mk⟩ := r
                simp only [hal] at hq
                cases hk : Mk.of mk v with
                | none => simp [hk] at hq
                | some k =>
                  cases hb : h.get k with
                  | none => simp [hk, hb] at hq
                  | some b' =>
                    simp only [hk, hb] at hq
                    exact .inl ⟨b, mk, k, b', rfl, hk, hb, hq⟩
              | none =>
                simp only [hal] at hq
                cases hqu : aquiet P h (ev ng T) o.op with
                | none => simp [hqu] at hq
                | some v' =>
                  simp only [hqu] at hq
                  exact .inr ⟨rfl, by rw [AV.beq_eq _ _ hq]⟩
end
end Go.Proofs.YtfmopmjgohopeaaGreatDoor.Ev

/-
  The abstract machine: frames, and the quiet run through a region that draws its order.
-/
set_option linter.unusedVariables false
set_option linter.unusedSectionVars false
set_option linter.unusedSimpArgs false
set_option linter.constructorNameAsVariable false
namespace Go.Proofs.YtfmopmjgohopeaaGreatDoor.Ev
open Go Go.RowKit

/-! ### Items, frames -/
def ItR (σ : Sg) : AItem → Item → Prop
  | .code c, i => i = .code c
  | .inBlock id, i => i = .inBlock id
  | .inLoop c, i => i = .inLoop c
  | .inScope c, i => i = .inScope c
  | .rangeF k, i => ∃ e, σ k = some e ∧ i = .inRangeFunc e.blk
  | .endF k, i => ∃ e, σ k = some e ∧ i = .endRangeFunc e.blk
  | .beginRound, i => i = .beginRound
  | .reg .., _ => False
  | .drw .., _ => False
theorem ItR.mono {σ σ' : Sg} (h : σ.le σ') : ∀ {a : AItem} {i : Item}, ItR σ a i → ItR σ' a i
  | .code _, _, r | .inBlock _, _, r | .inLoop _, _, r | .inScope _, _, r | .beginRound, _, r => r
  | .rangeF _, _, ⟨e, he, r⟩ | .endF _, _, ⟨e, he, r⟩ => ⟨e, h _ _ he, r⟩
def ItsR (σ : Sg) : List AItem → List Item → Prop
  | [], [] => True
  | a :: l, v :: m => ItR σ a v ∧ ItsR σ l m
  | _, _ => False
theorem ItsR.mono {σ σ' : Sg} (h : σ.le σ') : ∀ {a : List AItem} {d : List Item}, ItsR σ a d → ItsR σ' a d
  | [], [], _ => trivial
  | _ :: _, _ :: _, r => ⟨r.1.mono h, ItsR.mono h r.2⟩
  | [], _ :: _, r => r.elim
  | _ :: _, [], r => r.elim

def TopR (P : Program) (σ : Sg) (nt : Nat) (T : Tr AV) (c : Array Value) (pend : List (Nat × Nat)) : List AItem → List Item → Prop
  | .reg ops i rest :: k, it => ∃ k', it = .inRegion ops ((List.range ops.size).drop i) :: k' ∧ rest = ops.toList.drop i ∧ ItsR σ k k' ∧ TmpR σ (fun _ => False) T nt c ∧ pend = []
  | .drw ops dm um ed _ :: k, it => ∃ l k', it = .inRegion ops l :: k' ∧ ItsR σ k k' ∧ RC P ops ∧ DrwR P ops dm um ed nt l T pend ∧ TmpR σ (RX P ops l) T nt c
  | a, it => ItsR σ a it ∧ TmpR σ (fun _ => False) T nt c ∧ pend = []
theorem TopR.mono {P : Program} {σ σ' : Sg} {nt : Nat} {T : Tr AV} {c : Array Value} {pend : List (Nat × Nat)} (h : σ.le σ') {a : List AItem} {i : List Item} (r : TopR P σ nt T c pend a i) : TopR P σ' nt T c pend a i := by
  unfold TopR at r ⊢
  split at r
  · obtain ⟨k', h1, h2, h3, h4, h5⟩ := r; exact ⟨k', h1, h2, h3.mono h, h4.mono h, h5⟩
  · obtain ⟨l, k', h1, h2, h3, h4, h5⟩ := r; exact ⟨l, k', h1, h2.mono h, h3, h4, h5.mono h⟩
  · obtain ⟨h1, h2, h3⟩ := r; exact ⟨h1.mono h, h2.mono h, h3⟩

def RdR (σ : Sg) : Option Nat → Option Nat → Prop
  | none, r => r = none
  | some l, r => ∃ e, σ l = some e ∧ r = some e.blk
theorem RdR.mono {σ σ' : Sg} (h : σ.le σ') : ∀ {a : Option Nat} {b : Option Nat}, RdR σ a b → RdR σ' a b
  | none, _, r => r
  | some _, _, ⟨e, he, r⟩ => ⟨e, h _ _ he, r⟩

structure FR (P : Program) (σ : Sg) (a : AFrame) (f : Frame) (pend : List (Nat × Nat)) : Prop where
  fn : f.fn = a.fn
  top : TopR P σ a.nt a.tmps f.tmps pend a.todo f.todo
  defers : DRs σ a.defers f.defers
  mode : f.mode = bif a.ret then .returning else .run
  kind : f.kind = bif a.dfd then .deferred else .normal
  round : RdR σ a.round f.roundOf
theorem FR.mono {P : Program} {σ σ' : Sg} {a : AFrame} {f : Frame} {pend : List (Nat × Nat)} (h : σ.le σ') (r : FR P σ a f pend) : FR P σ' a f pend :=
  ⟨r.fn, r.top.mono h, r.defers.mono h, r.mode, r.kind, r.round.mono h⟩

/-- a frame that waits for a call stands at an effect -/
def AtEff (P : Program) : List AItem → List Item → Prop
  | .drw _ _ _ _ true :: _, .inRegion ops (i :: _) :: _ => ∃ o, ops[i]? = some o ∧ isEff P o.op = true
  | .drw _ _ _ _ _ :: _, _ => False
  | _, _ => True
/-- blocks that wait for frames beneath -/
class Xt where
  x : List Nat
instance xt0 : Xt := ⟨[]⟩
def StR [Xt] (P : Program) (σ : Sg) : List AFrame → List Frame → List Nat → Prop
  | [], fs, ks => fs = [] ∧ ks = Xt.x
  | a :: as, fs, ks => ∃ f fs' p ks', fs = f :: fs' ∧ ks = p.map (·.2) ++ ks' ∧ FR P σ a f p ∧ AtEff P a.todo f.todo ∧ StR P σ as fs' ks'
theorem StR.mono [Xt] {P : Program} {σ σ' : Sg} (h : σ.le σ') : ∀ {a : List AFrame} {f : List Frame} {ks : List Nat}, StR P σ a f ks → StR P σ' a f ks
  | [], _, _, r => r
  | _ :: _, _, _, ⟨f, fs', p, ks', h1, h2, h3, h4, h5⟩ => ⟨f, fs', p, ks', h1, h2, h3.mono h, h4, h5.mono h⟩

/-- a region whose second pass has been made -/
def Rdy (P : Program) (ng : Nat) (nt : Nat) (T : Tr AV) (h : AH) : List AItem → Prop
  | .drw ops dm um ed true :: _ => passTwo P ng ops (effMask (effs P ops.toList 0)) dm um nt T h ops.toList 0 = true ∧
      ∀ i o, ops[i]? = some o → isEff P o.op = false → inWindow ops (effMask (effs P ops.toList 0)) dm um i = true → has ed i = true
  | _ => True

structure MRx [Xt] (P : Program) (ng n0 : Nat) (σ : Sg) (m : AM) (f : Frame) (cs : List Frame) (w : World) (p : List (Nat × Nat)) (ks : List Nat) : Prop where
  top : FR P σ m.fr f p
  stack : StR P σ m.cs cs ks
  pg : PG σ m.h (p.map (·.2) ++ ks)
  heap : HR ng n0 σ m.h w
  rdy : Rdy P ng m.fr.nt m.fr.tmps m.h m.fr.todo

section
variable [Xt] {P : Program} {ng n0 : Nat} {σ : Sg} {h : AH} {w : World}

/-! ### Operands, guards, slots -/
theorem ev_sound (R : HR ng n0 σ h w) {X : Nat → Prop} {T : Tr AV} {nt : Nat} {c : Array Value} {ds : List Deferred} (t : TmpR σ X T nt c) {x : Operand} (hx : ∀ i, x = .tmp i → ¬ X i) : VR σ (ev ng T x) ((⟨c, ds⟩ : Act).eval x) := by
  cases x with
  | tmp i =>
    simp only [ev, Act.eval]
    cases hg : T.get i with
    | none => exact trivial
    | some a =>
      obtain ⟨v, h1, h2⟩ := t.2 i a (hx i rfl) hg
      rw [Array.getD_eq_getD_getElem?, h1]; exact h2
  | const v => exact VR.ofValue σ v
  | global g =>
    simp only [ev, nblt, Bool.cond_decide]
    split
    · rename_i hg
      obtain ⟨sz, hs⟩ := R.glob g hg
      exact ⟨_, hs, rfl⟩
    · exact trivial
  | func f => exact ⟨#[], #[], rfl, trivial, trivial⟩

theorem wanted_sound {X : Nat → Prop} {T : Tr AV} {nt : Nat} {c : Array Value} {ops : Array Oper} {o : Oper} {b : Bool} (t : TmpR σ X T nt c)
    (hx : ∀ g q og d, o.guard = some (g, q) → ops[g]? = some og → og.dst = some d → ¬ X d) (ha : awanted ops T o = some b) : Region.wanted o (yielded ops c) = b := by
  unfold awanted at ha
  unfold Region.wanted
  cases hg : o.guard with
  | none => rw [hg] at ha; injection ha
  | some gq =>
    obtain ⟨g, q⟩ := gq
    rw [hg] at ha
    simp only at ha ⊢
    unfold yielded
    cases hd : (ops[g]?).bind (·.dst) with
    | none => simp [hd] at ha
    | some d =>
      simp only [hd] at ha
      obtain ⟨og, hog, hdd⟩ := Option.bind_eq_some_iff.1 hd
      have nx := hx g q og d hg hog hdd
      cases hT : T.get d with
      | none => simp [hT] at ha
      | some v =>
        obtain ⟨u, h1, h2⟩ := t.2 d v nx hT
        simp only [Option.bind_some, h1]
        cases v <;> simp only [hT] at ha <;> try (cases ha; done)
        · rename_i r
          cases h2
          injection ha with ha; subst ha
          rw [boolBeq_eq]
          cases r <;> cases q <;> rfl
        · obtain ⟨cc, rfl, _⟩ := h2
          injection ha

theorem tmp_put {X : Nat → Prop} {T : Tr AV} {nt : Nat} {c : Array Value} {dst : Option Tmp} {v : AV} {u : Value} (t : TmpR σ X T nt c) (hv : VR σ v u) :
    TmpR σ X (putT nt T dst v) nt (match dst with | some d => c.setIfInBounds d u | none => c) := by
  refine ⟨by cases dst <;> simp [t.1], fun i a hx hg => ?_⟩
  rw [putT_get] at hg
  split at hg
  · rename_i hc
    obtain ⟨hd, hi⟩ := hc
    injection hg with hg; subst hg
    subst hd
    exact ⟨u, by simp [t.1, hi], hv⟩
  · rename_i hc
    obtain ⟨x, h1, h2⟩ := t.2 i a hx hg
    refine ⟨x, ?_, h2⟩
    cases dst with
    | none => exact h1
    | some d =>
      simp only
      rw [Array.getElem?_setIfInBounds]
      by_cases hdi : d = i
      · subst hdi
        have hlt : d < nt := by
          have : d < c.size := by
            rcases Nat.lt_or_ge d c.size with hh | hh
            · exact hh
            · rw [Array.getElem?_eq_none hh] at h1; cases h1
          rw [← t.1]; exact this
        exact (hc ⟨rfl, hlt⟩).elim
      · rw [if_neg hdi]; exact h1
theorem act_put {a : Act} {dst : Option Tmp} {u : Value} : (a.put dst u) = ⟨match dst with | some d => a.tmps.setIfInBounds d u | none => a.tmps, a.defers⟩ := by
  cases dst <;> rfl

/-! ### The quiet run -/
def EffHead (P : Program) (ops : Array Oper) (l : List Nat) : Prop := l = [] ∨ ∃ i r o, l = i :: r ∧ ops[i]? = some o ∧ isEff P o.op = true

theorem at_tail {ops : Array Oper} {dm um ed nt : Nat} {T : Tr AV} {i : Nat} {r : List Nat} {o : Oper} {pend pend' : List (Nat × Nat)} (hc : RC P ops) (d : DrwR P ops dm um ed nt (i :: r) T pend) (ho : ops[i]? = some o) (he : isEff P o.op = false) (hed : has ed i = true)
    (hp : ∀ x ∈ pend, x.1 ≠ i → x ∈ pend') : DrwR P ops dm um ed nt r T pend' := by
  refine ⟨d.sched.tail hc.back, fun j oj hj hej => ?_, fun j hj hx => d.umd j hj (List.mem_cons_of_mem _ hx), fun j oj hj hej hjr => ?_, fun j oj s v mk k hjr hj hej ha hed hs hsn hg hm => ?_⟩
  · have hji : j ≠ i := fun h => by subst h; rw [ho] at hj; injection hj with hj; subst hj; rw [he] at hej; cases hej
    rw [← d.eff j oj hj hej]; simp [hji]
  · by_cases hji : j = i
    · subst hji; exact hed
    · exact d.edd j oj hj hej (by simp [hji, hjr])
  · have hji : j ≠ i := fun h => by subst h; exact (List.nodup_cons.1 d.sched.nodup).1 hjr
    exact hp _ (d.pnd j oj s v mk k (List.mem_cons_of_mem _ hjr) hj hej ha hed hs hsn hg hm) hji

/-- the slots behind a quiet operation's run -/
theorem tmp_tail {ops : Array Oper} {nt : Nat} {T : Tr AV} {c : Array Value} {i : Nat} {r : List Nat} {o : Oper} {s : Nat} {v : AV} {u : Value} (t : TmpR σ (RX P ops (i :: r)) T nt c) (ho : ops[i]? = some o) (_he : isEff P o.op = false) (hs : o.dst = some s) (hsn : s < nt) (hT : T.get s = some v) (hv : VR σ v u) :
    TmpR σ (RX P ops r) T nt (c.setIfInBounds s u) := by
  refine ⟨by simp [t.1], fun x a hx hg => ?_⟩
  by_cases hxs : x = s
  · subst hxs
    rw [hT] at hg; injection hg with hg; subst hg
    exact ⟨u, by simp [t.1, hsn], hv⟩
  · have : ¬ RX P ops (i :: r) x := fun ⟨j, hj, oj, h1, h2, h3⟩ => by
      rcases List.mem_cons.1 hj with rfl | hj
      · rw [ho] at h1; injection h1 with h1; subst h1; rw [hs] at h3; injection h3 with h3; exact hxs h3.symm
      · exact hx ⟨j, hj, oj, h1, h2, h3⟩
    obtain ⟨y, h1, h2⟩ := t.2 x a this hg
    refine ⟨y, ?_, h2⟩
    rw [Array.getElem?_setIfInBounds, if_neg (fun h => hxs h.symm)]; exact h1

theorem quiet_run {ops : Array Oper} {dm um ed nt : Nat} {T : Tr AV} {ks : List Nat} {b : Frame} {k : List Item} {cs : List Frame} (hc : RC P ops)
    (h2 : passTwo P ng ops (effMask (effs P ops.toList 0)) dm um nt T h ops.toList 0 = true)
    (hed : ∀ i o, ops[i]? = some o → isEff P o.op = false → inWindow ops (effMask (effs P ops.toList 0)) dm um i = true → has ed i = true) :
    ∀ (l : List Nat) (c : Array Value) (ds : List Deferred) (w : World) (σ : Sg) (pend : List (Nat × Nat)), HR ng n0 σ h w → DrwR P ops dm um ed nt l T pend → TmpR σ (RX P ops l) T nt c → PG σ h (pend.map (·.2) ++ ks) →
    ∃ l' c' w' σ' pend', Steps P (lone (b.atR ⟨c, ds⟩ (.inRegion ops l :: k)) cs w) (lone (b.atR ⟨c', ds⟩ (.inRegion ops l' :: k)) cs w') ∧ EffHead P ops l' ∧ σ.le σ' ∧ HR ng n0 σ' h w' ∧ DrwR P ops dm um ed nt l' T pend' ∧ TmpR σ' (RX P ops l') T nt c' ∧
      PG σ' h (pend'.map (·.2) ++ ks) ∧ Below n0 w w'
  | [], c, ds, w, σ, pend, R, d, t, g => ⟨[], c, w, σ, pend, .refl _ _, .inl rfl, Sg.le.refl σ, R, d, t, g, Below.refl _ _⟩
  | i :: r, c, ds, w, σ, pend, R, d, t, g => by
    have hi : i < ops.size := d.sched.lt i (List.mem_cons_self ..)
    obtain ⟨o, ho⟩ : ∃ o, ops[i]? = some o := ⟨ops[i], by simp [hi]⟩
    cases he : isEff P o.op with
    | true => exact ⟨i :: r, c, w, σ, pend, .refl _ _, .inr ⟨i, r, o, rfl, ho, he⟩, Sg.le.refl σ, R, d, t, g, Below.refl _ _⟩
    | false =>
      have hw : inWindow ops (effMask (effs P ops.toList 0)) dm um i = true := by
        unfold inWindow
        rw [nbeq, Bool.and_eq_true, decide_eq_true_eq, Bool.not_eq_true']
        refine ⟨lor_sub fun j hj => ?_, ?_⟩
        · have hj' : has (maskOf ops i) j = true ∧ has (effMask (effs P ops.toList 0)) j = true := by
            rw [has_eq] at hj
            have : (maskOf ops i &&& effMask (effs P ops.toList 0)).testBit j = true := hj
            rw [Nat.testBit_and, Bool.and_eq_true] at this
            rw [has_eq, has_eq]; exact this
          obtain ⟨oj, h3, h4⟩ := em_has.1 hj'.2
          exact (d.eff j oj h3 h4).1 (mask_head hc.back d.sched j hj'.1)
        · cases hu : has um i with
          | false => rfl
          | true => exact (d.umd i hu (List.mem_cons_self ..)).elim
      have hedi := hed i o ho he hw
      obtain ⟨s, hs, hsn, hcase⟩ := passTwo_sound h2 i o (by simpa using ho) he (by rw [Nat.zero_add]; exact hw)
      have nx : ∀ q oq x, ops[q]? = some oq → oq.dst = some x → isEff P oq.op = false → has (maskOf ops i) q = true → ¬ q ∈ i :: r := fun q _ _ _ _ _ hm => mask_head hc.back d.sched q hm
      have hguard : ∀ g q og x, o.guard = some (g, q) → ops[g]? = some og → og.dst = some x → ¬ RX P ops (i :: r) x := fun g q og x h3 h4 h5 ⟨y, hy, oy, h6, h7, h8⟩ =>
        nx y oy x h6 h8 h7 (hc.guard i o g q og x y oy ho h3 h4 h5 h6 h8 h7) hy
      have hops : ∀ x ∈ o.op.operands, VR σ (ev ng T x) ((⟨c, ds⟩ : Act).eval x) := fun x hx => ev_sound R t fun y hy ⟨q, hq, oq, h6, h7, h8⟩ => by
        subst hy
        have : y ∈ operTmps o := by
          unfold operTmps
          rw [List.mem_filterMap]
          exact ⟨.tmp y, by simpa using hx, rfl⟩
        exact nx q oq y h6 h8 h7 (hc.looks i o y q oq ho this h6 h8 h7) hq
      -- the rest of the run
      have go : ∀ (u : Value) (w1 : World) (σ1 : Sg) (pend1 : List (Nat × Nat)) (v : AV), step P (lone (b.atR ⟨c, ds⟩ (.inRegion ops (i :: r) :: k)) cs w) = .next (lone (b.atR (Act.put ⟨c, ds⟩ (some s) u) (.inRegion ops r :: k)) cs w1) →
          σ.le σ1 → HR ng n0 σ1 h w1 → (∀ x ∈ pend, x.1 ≠ i → x ∈ pend1) → PG σ1 h (pend1.map (·.2) ++ ks) → Below n0 w w1 → T.get s = some v → VR σ1 v u →
          ∃ l' c' w' σ' pend', Steps P (lone (b.atR ⟨c, ds⟩ (.inRegion ops (i :: r) :: k)) cs w) (lone (b.atR ⟨c', ds⟩ (.inRegion ops l' :: k)) cs w') ∧ EffHead P ops l' ∧ σ.le σ' ∧ HR ng n0 σ' h w' ∧ DrwR P ops dm um ed nt l' T pend' ∧ TmpR σ' (RX P ops l') T nt c' ∧
            PG σ' h (pend'.map (·.2) ++ ks) ∧ Below n0 w w' := by
        intro u w1 σ1 pend1 v hst hle R1 hp g1 b1 hT hv
        obtain ⟨l', c', w', σ', pend', s1, s2, s3, s4, s5, s6, s7, s8⟩ := quiet_run hc h2 hed r (c.setIfInBounds s u) ds w1 σ1 pend1 R1 (at_tail hc d ho he hedi hp) (tmp_tail (t.mono hle) ho he hs hsn hT hv) g1
        exact ⟨l', c', w', σ', pend', .head hst s1, s2, hle.trans s3, s4, s5, s6, s7, b1.trans s8⟩
      have pmono : ∀ x ∈ pend, x.1 ≠ i → x ∈ pend := fun x hx _ => hx
      rcases hcase with ⟨ha, hT⟩ | ⟨ha, v, hT, hcase⟩
      · have hwt := wanted_sound t hguard ha
        refine go undef w σ pend undefA ?_ (Sg.le.refl σ) R pmono g (Below.refl _ _) hT ⟨#[], rfl, trivial⟩
        have := stepR_op_skip (P := P) (b := b) (a := ⟨c, ds⟩) (k := k) (cs := cs) (w := w) (ops := ops) (i := i) (rest := r) (by simp [ho, hwt])
        rw [this, ho, Option.bind_some, hs]
      · have hwt := wanted_sound t hguard ha
        have hsem : o.semAt b.roundOf (Act.eval ⟨c, ds⟩) = execOp (Act.eval ⟨c, ds⟩) o := Oper.semAt_eq _ _ _ fun cc hcc => by rw [hcc] at he; cases he
        have hval : ∀ {u : Value} {w1 : World}, (execOp (Act.eval ⟨c, ds⟩) o).run P w = .ok (.value u) w1 → step P (lone (b.atR ⟨c, ds⟩ (.inRegion ops (i :: r) :: k)) cs w) = .next (lone (b.atR (Act.put ⟨c, ds⟩ (some s) u) (.inRegion ops r :: k)) cs w1) := fun {u w1} hr => by
          refine step_lone_go ?_
          have hf := Frame.finish_atR b ⟨c, ds⟩ ops i r k u
          rw [ho, Option.bind_some, hs] at hf
          rw [stepGR_op ho hwt, hsem, ← hf]
          simp [stepG.apply, hr]
        rcases hcase with ⟨bl, mk, kk, b', hal, hk, hb', hbeq⟩ | ⟨_, hqu⟩
        · have hmem := d.pnd i o s v mk kk (List.mem_cons_self ..) ho he (alloc_isAlloc hal) hedi hs hsn hT hk
          have hkin : kk ∈ pend.map (·.2) ++ ks := List.mem_append.2 (.inl (List.mem_map.2 ⟨_, hmem, rfl⟩))
          obtain ⟨hσ, hlt⟩ := g.2 kk hkin
          obtain ⟨u, w1, ob, e, hr, hp, heb, hro, hall⟩ := (alloc_sound (P := P) (σ := σ) (w := w) hops hal).out
          have hle : σ.le (σ.put kk e) := Sg.le_put hσ
          obtain ⟨hBR, hVR⟩ := hall _ hle
          have R1 : HR ng n0 (σ.put kk e) h w1 := R.realize (b := b') hσ hlt (fun b2 hb2 => by
            rw [hb'] at hb2; injection hb2 with hb2; subst hb2
            exact ABlock.beq_BR hbeq hro hBR) hp heb
          refine go u w1 (σ.put kk e) (pend.filter (fun x => x.1 != i)) v (hval hr) hle R1 (fun x hx hne => List.mem_filter.2 ⟨hx, by simpa using hne⟩) ?_ (hp.below R.big) hT ?_
          · refine ⟨g.1.sublist (List.Sublist.append (List.Sublist.map _ List.filter_sublist) (List.Sublist.refl _)), fun x hx => ?_⟩
            have hxk : x ∈ pend.map (·.2) ++ ks := (List.Sublist.append (List.Sublist.map _ List.filter_sublist) (List.Sublist.refl _)).subset hx
            have hne : x ≠ kk := fun hxe => by
              subst hxe
              have hnd := g.1
              rcases List.mem_append.1 hx with hx | hx
              · obtain ⟨y, hy, hye⟩ := List.mem_map.1 hx
                obtain ⟨hy1, hy2⟩ := List.mem_filter.1 hy
                have hnd1 := (List.nodup_append.1 hnd).1
                have : ∀ (l : List (Nat × Nat)), (l.map (·.2)).Nodup → ∀ p ∈ l, ∀ q ∈ l, p.2 = q.2 → p = q := by
                  intro l
                  induction l with
                  | nil => intro _ p hp; simp at hp
                  | cons z l ih =>
                    intro hn p hp q hq e
                    rw [List.map_cons, List.nodup_cons] at hn
                    rcases List.mem_cons.1 hp with e1 | hp' <;> rcases List.mem_cons.1 hq with e2 | hq'
                    · rw [e1, e2]
                    · exact absurd (List.mem_map.2 ⟨q, hq', by rw [← e, e1]⟩) hn.1
                    · exact absurd (List.mem_map.2 ⟨p, hp', by rw [e, e2]⟩) hn.1
                    · exact ih hn.2 p hp' q hq' e
                have := this pend hnd1 y hy1 _ hmem hye
                subst this
                simp at hy2
              · exact (List.nodup_append.1 hnd).2.2 x (List.mem_map.2 ⟨_, hmem, rfl⟩) x hx rfl
            rw [Sg.put_ne _ _ hne]; exact g.2 x hxk
          · rw [Mk.of_VR hk]; exact hVR kk (Sg.put_same _ _ _)
        · obtain ⟨u, hr, hv⟩ := quiet_sound (P := P) R hops hqu
          exact go u w σ pend v (hval hr) (Sg.le.refl σ) R pmono g (Below.refl _ _) hT hv
end
end Go.Proofs.YtfmopmjgohopeaaGreatDoor.Ev

/-
  The abstract machine: an operation answers; a function is entered.
-/
set_option linter.unusedVariables false
set_option linter.unusedSectionVars false
set_option linter.unusedSimpArgs false
set_option linter.constructorNameAsVariable false
namespace Go.Proofs.YtfmopmjgohopeaaGreatDoor.Ev
open Go Go.RowKit

section
variable [Xt] {P : Program} {ng n0 : Nat} {σ : Sg} {h : AH} {w : World}

theorem TmpR.wider {X X' : Nat → Prop} {T : Tr AV} {nt : Nat} {c : Array Value} (t : TmpR σ X T nt c) (hx : ∀ i, X i → X' i) : TmpR σ X' T nt c :=
  ⟨t.1, fun i a hn hg => t.2 i a (fun h => hn (hx i h)) hg⟩

theorem nextEff_spec {ops : Array Oper} {dm : Nat} : ∀ {L : List Nat} {i : Nat}, nextEff ops dm L = some i → i ∈ L ∧ has dm i = false ∧ ∀ j ∈ L, has dm j = false → j = i ∨ has (maskOf ops j) i = true
  | [], i, hq => by simp [nextEff] at hq
  | x :: L, i, hq => by
    unfold nextEff at hq
    cases hd : has dm x with
    | true =>
      rw [hd, cond_true] at hq
      obtain ⟨h1, h2, h3⟩ := nextEff_spec hq
      refine ⟨List.mem_cons_of_mem _ h1, h2, fun j hj hdj => ?_⟩
      rcases List.mem_cons.1 hj with rfl | hj
      · rw [hd] at hdj; cases hdj
      · exact h3 j hj hdj
    | false =>
      rw [hd, cond_false] at hq
      cases ha : L.all (fun j => has (maskOf ops j) x) with
      | false => rw [ha] at hq; cases hq
      | true =>
        rw [ha, cond_true] at hq
        injection hq with hq; subst hq
        refine ⟨List.mem_cons_self .., hd, fun j hj _ => ?_⟩
        rcases List.mem_cons.1 hj with rfl | hj
        · exact .inl rfl
        · exact .inr (List.all_eq_true.1 ha j hj)
theorem nextEff_none {ops : Array Oper} {dm : Nat} {L : List Nat} {i : Nat} (hq : nextEff ops dm L = some i) : ∃ j ∈ L, has dm j = false := ⟨i, (nextEff_spec hq).1, (nextEff_spec hq).2.1⟩

/-- the head of what is left is the next effect -/
theorem head_is {ops : Array Oper} {dm um ed nt : Nat} {T : Tr AV} {i j : Nat} {r : List Nat} {o : Oper} {pend : List (Nat × Nat)} (hc : RC P ops) (d : DrwR P ops dm um ed nt (i :: r) T pend) (ho : ops[i]? = some o) (he : isEff P o.op = true)
    (hq : nextEff ops dm (effs P ops.toList 0) = some j) : j = i := by
  obtain ⟨h1, h2, h3⟩ := nextEff_spec hq
  have hi : i ∈ effs P ops.toList 0 := mem_effs.2 ⟨i, o, by simpa using ho, (Nat.zero_add _).symm, he⟩
  have hdi : has dm i = false := by
    cases hx : has dm i with
    | false => rfl
    | true => exact ((d.eff i o ho he).2 hx (List.mem_cons_self ..)).elim
  rcases h3 i hi hdi with h | h
  · exact h.symm
  · have hj := mask_head hc.back d.sched j h
    obtain ⟨k, oj, h4, h5, h6⟩ := mem_effs.1 h1
    rw [Nat.zero_add] at h5; subst h5
    rw [(d.eff j oj (by simpa using h4) h6).1 hj] at h2; cases h2

theorem finish_sound {a a' : AFrame} {f : Frame} {p : List (Nat × Nat)} {v : AV} {u : Value} (r : FR P σ a f p) (he : AtEff P a.todo f.todo) (hq : AFrame.finish P a v = some a') (hv : VR σ v u) :
    FR P σ a' (f.finish u) p ∧ a'.ret = a.ret ∧ ∀ h, Rdy P ng a'.nt a'.tmps h a'.todo := by
  obtain ⟨afn, nt, T, at', ads, aret, adfd, ard⟩ := a
  obtain ⟨ffn, c, todo, defers, mode, kind, ro⟩ := f
  obtain ⟨r1, r2, r3, r4, r5, r6⟩ := r
  simp only at r1 r2 r3 r4 r5 r6 he
  unfold AFrame.finish at hq
  simp only at hq
  split at hq
  · rename_i ops i o rest k
    injection hq with hq; subst hq
    obtain ⟨k', e1, e2, e3, e4, e5⟩ := r2
    subst e1
    have hi : ops.toList[i]? = some o := by
      have : (ops.toList.drop i)[0]? = some o := by rw [← e2]; rfl
      simpa using this
    have hlt : i < ops.size := by
      have := (List.getElem?_eq_some_iff.1 hi).1; simpa using this
    have hr : (List.range ops.size).drop i = i :: (List.range ops.size).drop (i + 1) := by
      rw [List.drop_eq_getElem_cons (by simpa using hlt)]; simp
    have hrest : rest = ops.toList.drop (i + 1) := by
      rw [List.drop_eq_getElem_cons (by simpa using hlt)] at e2
      injection e2
    have ho : ops[i]? = some o := by simpa using hi
    have hfin : ({ fn := ffn, tmps := c, todo := .inRegion ops ((List.range ops.size).drop i) :: k', defers := defers, mode := mode, kind := kind, roundOf := ro } : Frame).finish u =
        { fn := ffn, tmps := (match o.dst with | some d => c.setIfInBounds d u | none => c), todo := .inRegion ops ((List.range ops.size).drop (i + 1)) :: k', defers := defers, mode := mode, kind := kind, roundOf := ro } := by
      simp only [Frame.finish, hr, ho, Option.bind_some]
      cases o.dst <;> rfl
    rw [hfin]
    exact ⟨⟨r1, ⟨k', rfl, hrest, e3, tmp_put e4 hv, e5⟩, r3, r4, r5, r6⟩, rfl, fun _ => trivial⟩
  · rename_i ops dm um ed k
    cases hn : nextEff ops dm (effs P ops.toList 0) with
    | none => simp [hn] at hq
    | some j =>
      cases hoj : ops[j]? with
      | none => simp [hn, hoj] at hq
      | some oj =>
        simp only [hn, hoj] at hq
        injection hq with hq; subst hq
        obtain ⟨l, k', e1, e3, hc, d, t⟩ := r2
        subst e1
        cases l with
        | nil => exact he.elim
        | cons i r =>
          obtain ⟨o, ho, heff⟩ := he
          have hji := head_is hc d ho heff hn
          subst hji
          have hooj : oj = o := by rw [ho] at hoj; injection hoj with hoj; exact hoj.symm
          subst hooj
          refine ⟨⟨r1, ?_, r3, r4, r5, r6⟩, rfl, fun _ => trivial⟩
          simp only [Frame.finish, ho, Option.bind_some]
          refine ⟨r, k', rfl, e3, hc, ⟨d.sched.tail hc.back, fun x ox hx hex => ?_, fun x hx hxr => ?_, fun x ox hx hex hxr => ?_, fun x ox s v' mk kk hxr hx hex hal hed hs hsn hg hm => ?_⟩, (tmp_put t hv).wider fun s hs => ?_⟩
          · rw [has_lor, has_pow]
            by_cases hxj : x = j
            · subst hxj
              exact ⟨fun _ => by simp, fun _ => (List.nodup_cons.1 d.sched.nodup).1⟩
            · have := d.eff x ox hx hex
              have h2 : decide (j = x) = false := decide_eq_false fun h => hxj h.symm
              rw [h2, Bool.or_false, ← this]; simp [hxj]
          · rw [has_lor, Bool.or_eq_true] at hx
            rcases hx with hx | hx
            · exact d.umd x hx (List.mem_cons_of_mem _ hxr)
            · exact mask_head hc.back d.sched x hx (List.mem_cons_of_mem _ hxr)
          · have hxj : x ≠ j := fun h => by subst h; rw [ho] at hx; injection hx with hx; subst hx; rw [heff] at hex; cases hex
            exact d.edd x ox hx hex (by simp [hxj, hxr])
          · rw [putT_get] at hg
            split at hg
            · rename_i hcond
              exact (hc.apart x j ox oj s hx ho hs hcond.1 hex heff).elim
            · exact d.pnd x ox s v' mk kk (List.mem_cons_of_mem _ hxr) hx hex hal hed hs hsn hg hm
          · obtain ⟨x, hx, ox, h1, h2, h3⟩ := hs
            rcases List.mem_cons.1 hx with rfl | hx
            · rw [ho] at h1; injection h1 with h1; subst h1; rw [heff] at h2; cases h2
            · exact ⟨x, hx, ox, h1, h2, h3⟩
  · rename_i l k
    injection hq with hq; subst hq
    obtain ⟨e1, e2, e3⟩ := r2
    cases todo with
    | nil => exact e1.elim
    | cons it k' =>
      obtain ⟨⟨e, he', rfl⟩, e4⟩ := e1
      refine ⟨⟨r1, ?_, r3, r4, r5, r6⟩, rfl, fun _ => trivial⟩
      exact ⟨⟨⟨e, he', rfl⟩, e4⟩, e2, e3⟩
  · cases hq

/-- what is shown of a step -/
def Post (P : Program) (ng n0 : Nat) (σ : Sg) (w : World) (f : Frame) (cs base : List Frame) (m' : AM) : Prop :=
  ∃ σ' f' cs' w' p' ks', Steps P (lone f (cs ++ base) w) (lone f' (cs' ++ base) w') ∧ σ.le σ' ∧ MRx P ng n0 σ' m' f' cs' w' p' ks' ∧ Below n0 w w'

variable {m m' : AM} {f : Frame} {cs base : List Frame} {p : List (Nat × Nat)} {ks : List Nat}

theorem PG.keep {σ σ' : Sg} {h h' : AH} {l : List Nat} (g : PG σ h l) (hs : ∀ k, k < h.next → σ' k = σ k) (hn : h.next ≤ h'.next) : PG σ' h' l :=
  ⟨g.1, fun k hk => ⟨(hs k (g.2 k hk).2).trans (g.2 k hk).1, Nat.lt_of_lt_of_le (g.2 k hk).2 hn⟩⟩

theorem done_sound (M : MRx P ng n0 σ m f cs w p ks) (hat : AtEff P m.fr.todo f.todo) {v : AV} {u : Value} {h' : AH} {w' : World} {σ' : Sg} (hq : AM.done P m v h' = some m')
    (hst : step P (lone f (cs ++ base) w) = .next (lone (f.finish u) (cs ++ base) w')) (hle : σ.le σ') (R : HR ng n0 σ' h' w') (hs : ∀ k, k < m.h.next → σ' k = σ k) (hn : m.h.next ≤ h'.next) (hv : VR σ' v u) (hb : Below n0 w w') :
    Post P ng n0 σ w f cs base m' := by
  unfold AM.done at hq
  cases hf : AFrame.finish P m.fr v with
  | none => simp [hf] at hq
  | some fr =>
    simp only [hf] at hq
    injection hq with hq; subst hq
    obtain ⟨h1, h2, h3⟩ := finish_sound (ng := ng) (M.top.mono hle) hat hf hv
    exact ⟨σ', f.finish u, cs, w', p, ks, .one hst, hle, ⟨h1, M.stack.mono hle, M.pg.keep hs hn, R, h3 h'⟩, hb⟩

theorem eff_done (M : MRx P ng n0 σ m f cs w p ks) (hat : AtEff P m.fr.todo f.todo) {v : AV} {h' : AH} {s : Sem Next} (hq : AM.done P m v h' = some m') (he : Eff P ng n0 σ m.h w v h' s)
    (hst : ∀ r w', s.run P w = .ok r w' → (∃ u, r = .value u) ∨ r = .skip → step P (lone f (cs ++ base) w) = .next (lone (f.finish (match r with | .value u => u | _ => undef)) (cs ++ base) w')) :
    Post P ng n0 σ w f cs base m' := by
  obtain ⟨σ', w', r, h1, h2, h3, h4, h5, h6, h7⟩ := he
  rcases h7 with ⟨u, rfl, hv⟩ | ⟨rfl, rfl⟩
  · exact done_sound M hat hq (hst _ _ h1 (.inl ⟨u, rfl⟩)) h2 h3 h5 h6 hv h4
  · exact done_sound M hat hq (hst _ _ h1 (.inr rfl)) h2 h3 h5 h6 ⟨#[], rfl, trivial⟩ h4

/-! ### A function is entered -/
theorem argsT_get {nt : Nat} : ∀ (l : List AV) (i : Nat) (T : Tr AV) (j : Nat), (argsT nt l i T).get j = if i ≤ j ∧ j < i + l.length then l[j - i]? else T.get j
  | [], i, T, j => by
    have : ¬ (i ≤ j ∧ j < i + ([] : List AV).length) := by simp
    rw [if_neg this]; rfl
  | a :: l, i, T, j => by
    unfold argsT
    rw [argsT_get l (i + 1)]
    simp only [List.length_cons]
    by_cases h1 : j = i
    · subst h1
      rw [if_neg (by omega), if_pos (by omega), Tr.get_set_same]; simp
    · by_cases h2 : i + 1 ≤ j ∧ j < i + 1 + l.length
      · rw [if_pos h2, if_pos (by omega), show j - i = (j - (i + 1)) + 1 by omega, List.getElem?_cons_succ]
      · rw [if_neg h2, if_neg (by omega), Tr.get_set_ne _ _ h1]

theorem enter_sound {g : FuncId} {args : List AV} {argv : Array Value} {dfd : Bool} {fr : AFrame} (hq : AFrame.enter P g args dfd = some fr) (ha : VRs σ args argv.toList) :
    FR P σ fr (Frame.enter P g argv (bif dfd then .deferred else .normal)) [] ∧ (∀ w, (callFunc g argv).run P w = .ok (.enter g argv) w) ∧ fr.ret = false ∧ fr.fn = g ∧ ∀ h, Rdy P ng fr.nt fr.tmps h fr.todo := by
  unfold AFrame.enter at hq
  cases hf : P.funcs[g]? with
  | none => simp [hf] at hq
  | some fn =>
    cases hb : fn.body with
    | none => simp [hf, hb] at hq
    | some c =>
      simp only [hf, hb] at hq
      cases hn : (fn.name == "runtime.NumGoroutine") with
      | true => rw [hn] at hq; cases hq
      | false =>
        rw [hn, cond_false] at hq
        injection hq with hq; subst hq
        have hl := VRs.length ha
        refine ⟨⟨rfl, ?_, trivial, rfl, rfl, rfl⟩, fun w => ?_, rfl, rfl, fun _ => trivial⟩
        · refine ⟨⟨by simp [hf, hb, ItR], trivial⟩, ⟨?_, fun i a _ hg => ?_⟩, rfl⟩
          · simp [Frame.enter, hf, hl]
          · rw [argsT_get, Nat.zero_add, Nat.sub_zero] at hg
            split at hg
            · rename_i hi
              obtain ⟨y, h1, h2⟩ := VRs.get ha i a hg
              refine ⟨y, ?_, h2⟩
              have hlt : i < argv.size := by rw [hl] at hi; simpa using hi.2
              simp only [Frame.enter]
              rw [Array.getElem?_append_left hlt]; simpa using h1
            · rw [Tr.get_l] at hg; cases hg
        · have hn' : ¬ fn.name = "runtime.NumGoroutine" := by simpa using hn
          simp [callFunc, hf, hb, hn', program, Sem.run]

theorem push_sound (M : MRx P ng n0 σ m f cs w p ks) (hat : AtEff P m.fr.todo f.todo) {g : FuncId} {args : List AV} {argv : Array Value} (hq : push P m g args = some m') (ha : VRs σ args argv.toList)
    (hst : (∀ w, (callFunc g argv).run P w = .ok (.enter g argv) w) → step P (lone f (cs ++ base) w) = .next (lone (Frame.enter P g argv .normal) (f :: (cs ++ base)) w)) : Post P ng n0 σ w f cs base m' := by
  unfold push at hq
  cases hf : AFrame.enter P g args false with
  | none => simp [hf] at hq
  | some fr =>
    simp only [hf] at hq
    injection hq with hq; subst hq
    obtain ⟨h1, h2, h3, h4, h5⟩ := enter_sound (ng := ng) hf ha
    refine ⟨σ, Frame.enter P g argv .normal, f :: cs, w, [], p.map (·.2) ++ ks, .one (hst h2), Sg.le.refl σ, ⟨h1, ⟨f, cs, p, ks, rfl, rfl, M.top, hat, M.stack⟩, by simpa using M.pg, M.heap, h5 _⟩, Below.refl _ _⟩

theorem HR.congr {h h' : AH} (R : HR ng n0 σ h w) (hg : ∀ k, h'.get k = h.get k) (hn : h'.next = h.next) : HR ng n0 σ h' w :=
  ⟨fun k e b h1 h2 => R.blk k e b h1 (by rw [← hg]; exact h2), fun k hk => R.fresh k (by rw [← hn]; exact hk), fun k hk => by rw [hg]; exact R.freshA k (by rw [← hn]; exact hk),
   fun k k' e e' b b' h1 h2 h3 h4 => R.inj k k' e e' b b' h1 h2 (by rw [← hg]; exact h3) (by rw [← hg]; exact h4), R.lt, R.glob, fun k e b h1 h2 => R.own k e b h1 (by rw [← hg]; exact h2), by rw [hn]; exact R.ngn, R.big⟩

/-- the bytes of a slice are marked -/
theorem mark_sound (R : HR ng n0 σ h w) {k : Nat} {e : Loc} {cs : Cs} {off : Nat} (hk : σ k = some e) (hb : h.get k = some (.cells false cs)) (hu8 : cs.isU8 = true) :
    ∃ w', (markStringish (e.at off)).run P w = .ok () w' ∧ HR ng n0 σ h w' ∧ Below n0 w w' := by
  obtain ⟨c, t, fz, h1, h2, h3, h4⟩ := R.blk k e _ hk hb
  obtain ⟨lo, hi⟩ := fz
  have hsh : w.shape? e.blk = some (t, c.size) := by simp [World.shape?, h1]
  let w' := w.freeze { block := e.blk, off := c.size } 1
  have hlt := R.lt k e hk
  have hself : w'.heap[e.blk]? = some (.cells c t (if lo == hi then (c.size, c.size + 1) else (min lo c.size, max hi (c.size + 1)))) := by
    simp only [w', World.freeze, Nat.one_ne_zero, if_false, Array.getElem?_modify, if_true, h1]; rfl
  have hex : Ex e.blk w w' := ⟨by simp [w', World.freeze], fun x hx => by simp only [w', World.freeze, Nat.one_ne_zero, if_false, Array.getElem?_modify]; rw [if_neg (fun hh => hx hh.symm)], rfl, rfl, rfl⟩
  refine ⟨w', by simp [markStringish, Loc.at, hsh, w'], ?_, hex.below (R.own k e _ hk hb rfl)⟩
  have hw := R.write (b' := .cells false cs) hk hb rfl hex ⟨c, t, _, hself, h2, .inr (.inr ⟨?_, by rw [← Cs.list_isU8]; exact hu8⟩), h4⟩
  · refine hw.congr (fun x => ?_) rfl
    rw [AH.get_put]
    by_cases hx : x = k
    · subst hx; rw [if_pos rfl, hb]
    · rw [if_neg hx]
  · have h3' := h3.resolve_left (by simp)
    by_cases hlh : lo = hi
    · subst hlh; simp
    · have : (lo == hi) = false := by simpa using hlh
      rw [this]
      rcases h3' with h3' | h3'
      · exact absurd h3' hlh
      · simp only [Bool.false_eq_true, if_false]; exact Nat.le_min.2 ⟨h3'.1, Nat.le_refl _⟩
end
end Go.Proofs.YtfmopmjgohopeaaGreatDoor.Ev

/-
  The abstract machine: operations that write or call, as steps.
-/
set_option linter.unusedVariables false
set_option linter.unusedSectionVars false
set_option linter.unusedSimpArgs false
set_option linter.constructorNameAsVariable false
namespace Go.Proofs.YtfmopmjgohopeaaGreatDoor.Ev
open Go Go.RowKit

section
variable [Xt] {P : Program} {ng n0 : Nat} {σ : Sg} {h : AH} {w : World}

/-- a frame stands at an operation that is wanted -/
structure AtOp (f : Frame) (ops : Array Oper) (i : Nat) (r : List Nat) (k : List Item) (o : Oper) : Prop where
  todo : f.todo = .inRegion ops (i :: r) :: k
  mode : f.mode = .run
  op : ops[i]? = some o
  want : Region.wanted o (yielded ops f.tmps) = true

def Frame.act (f : Frame) : Act := ⟨f.tmps, f.defers⟩
theorem atR_self {f : Frame} (hm : f.mode = .run) : f.atR (Frame.act f) f.todo = f := by
  cases f; simp only at hm; subst hm; rfl

theorem stepG_at {f : Frame} {ops : Array Oper} {i : Nat} {r : List Nat} {k : List Item} {o : Oper} {cs : List Frame} (A : AtOp f ops i r k o) :
    stepG P true { frame := f, callers := cs, status := .running, dying := none } w = stepG.apply P true f cs none (o.semAt f.roundOf (Frame.act f).eval) w := by
  have := stepGR_op (P := P) (b := f) (a := Frame.act f) (k := k) (cs := cs) (w := w) (rest := r) A.op A.want
  rw [← A.todo, atR_self A.mode] at this
  exact this

variable {f : Frame} {ops : Array Oper} {i : Nat} {r : List Nat} {k : List Item} {o : Oper} {cs : List Frame}

theorem step_val (A : AtOp f ops i r k o) {u : Value} {w' : World} (hr : (o.semAt f.roundOf (Frame.act f).eval).run P w = .ok (.value u) w') : step P (lone f cs w) = .next (lone (f.finish u) cs w') :=
  step_lone_go (by rw [stepG_at A]; simp [stepG.apply, hr])
theorem step_skp (A : AtOp f ops i r k o) {w' : World} (hr : (o.semAt f.roundOf (Frame.act f).eval).run P w = .ok .skip w') : step P (lone f cs w) = .next (lone (f.finish undef) cs w') :=
  step_lone_go (by rw [stepG_at A]; simp [stepG.apply, hr])
theorem step_ent (A : AtOp f ops i r k o) {g : FuncId} {args : Array Value} {w' : World} (hr : (o.semAt f.roundOf (Frame.act f).eval).run P w = .ok (.enter g args) w') : step P (lone f cs w) = .next (lone (Frame.enter P g args .normal) (f :: cs) w') :=
  step_lone_go (by rw [stepG_at A]; simp [stepG.apply, hr, A.todo])
theorem step_rnd (A : AtOp f ops i r k o) {l : Nat} {g : FuncId} {ts : Array Value} {c1 c2 : Code} {w' : World} (hr : (o.semAt f.roundOf (Frame.act f).eval).run P w = .ok (.round l g ts c1 c2) w') : step P (lone f cs w) = .next (lone (Frame.round l g ts c1 c2 .normal) (f :: cs) w') :=
  step_lone_go (by rw [stepG_at A]; simp [stepG.apply, hr])
theorem step_dfr (A : AtOp f ops i r k o) {d : Deferred} {w' : World} (hr : (o.semAt f.roundOf (Frame.act f).eval).run P w = .ok (.defer d) w') : step P (lone f cs w) = .next (lone (({ f with defers := d :: f.defers } : Frame).finish undef) cs w') :=
  step_lone_go (by rw [stepG_at A]; simp [stepG.apply, hr])
theorem step_rec (A : AtOp f ops i r k o) {w' : World} (hro : f.roundOf = none) (ht : tryRecover f cs = none) (hr : (o.semAt f.roundOf (Frame.act f).eval).run P w = .ok .recover w') : step P (lone f cs w) = .next (lone (f.finish .nilIface) cs w') :=
  step_lone_go (by rw [hro] at hr; rw [stepG_at A]; simp [stepG.apply, hr, hro, ht])

theorem fold_put {nt : Nat} : ∀ (ps : List Tmp) (as : List AV) (vs : List Value) (T : Tr AV) (c : Array Value), VRs σ as vs → TmpR σ (fun _ => False) T nt c →
    TmpR σ (fun _ => False) ((ps.zip as).foldl (fun T p => putT nt T (some p.1) p.2) T) nt ((ps.zip vs).foldl (fun tmps (x : Tmp × Value) => tmps.setIfInBounds x.1 x.2) c)
  | [], _, _, _, _, _, t => t
  | _ :: _, [], [], _, _, _, t => t
  | _ :: _, [], _ :: _, _, _, r, _ => r.elim
  | _ :: _, _ :: _, [], _, _, r, _ => r.elim
  | p :: ps, a :: as, v :: vs, T, c, r, t => fold_put ps as vs _ _ r.2 (tmp_put (dst := some p) t r.1)

theorem ops_map {T : Operand → AV} {ρ : Operand → Value} {xs : Array Operand} (hx : ∀ x ∈ xs, VR σ (T x) (ρ x)) : VRs σ (xs.toList.map T) (xs.map ρ).toList := by
  rw [Array.toList_map]; exact VRs.map T ρ _ fun x hx' => hx x (by simpa using hx')

variable {m m' : AM} {base : List Frame} {p : List (Nat × Nat)} {ks : List Nat}

theorem aeff_sound (hP : 8 ≤ P.types.size) (M : MRx P ng n0 σ m f cs w p ks) (hat : AtEff P m.fr.todo f.todo) (A : AtOp f ops i r k o)
    (hops : ∀ x ∈ o.op.operands, VR σ (ev ng m.fr.tmps x) ((Frame.act f).eval x)) (hq : aeff P ng m o = some m') : Post P ng n0 σ w f cs base m' := by
  have hsem : (∀ c, o.op ≠ .defer c) → o.semAt f.roundOf (Frame.act f).eval = execOp (Frame.act f).eval o := Oper.semAt_eq _ _ _
  have eff : ∀ {v : AV} {h' : AH} {s : Sem Next}, (∀ c, o.op ≠ .defer c) → execOp (Frame.act f).eval o = s → AM.done P m v h' = some m' → Eff P ng n0 σ m.h w v h' s → Post P ng n0 σ w f cs base m' := fun {v h' s} hd hs hq he =>
    eff_done M hat hq he fun rr w' hr hk => by
      rw [← hs, ← hsem hd] at hr
      rcases hk with ⟨u, rfl⟩ | rfl
      · exact step_val A hr
      · exact step_skp A hr
  unfold aeff at hq
  generalize hop : o.op = op at hq
  cases op <;> simp only at hq <;> try (cases hq; done)
  case assign x =>
    exact done_sound M hat hq (step_val A (by rw [hsem (by simp [hop])]; simp [execOp, hop])) (Sg.le.refl σ) M.heap (fun _ _ => rfl) (Nat.le_refl _) (hops x (by simp [hop, Op.operands])) (Below.refl _ _)
  case store t a x =>
    cases hs : astore P m.h t (ev ng m.fr.tmps a) (ev ng m.fr.tmps x) with
    | none => simp [hs] at hq
    | some h' =>
      simp only [hs] at hq
      exact eff (by simp [hop]) (by simp only [execOp, hop]) hq (store_sound M.heap (hops a (by simp [hop, Op.operands])) (hops x (by simp [hop, Op.operands])) hs)
  case mapUpdate t a b x =>
    cases hs : amapUpdate P m.h t (ev ng m.fr.tmps a) (ev ng m.fr.tmps b) (ev ng m.fr.tmps x) with
    | none => simp [hs] at hq
    | some h' =>
      simp only [hs] at hq
      exact eff (by simp [hop]) (by simp only [execOp, hop]) hq (mapUpdate_sound M.heap (hops a (by simp [hop, Op.operands])) (hops b (by simp [hop, Op.operands])) (hops x (by simp [hop, Op.operands])) hs)
  case range t x =>
    cases hs : arange P m.h t (ev ng m.fr.tmps x) with
    | none => simp [hs] at hq
    | some b =>
      simp only [hs] at hq
      exact eff (by simp [hop]) (by simp only [execOp, hop]) hq (range_sound M.heap (hops x (by simp [hop, Op.operands])) hs)
  case next x str =>
    cases str with
    | true => simp at hq
    | false =>
      simp only at hq
      cases hs : anext m.h (ev ng m.fr.tmps x) with
      | none => simp [hs] at hq
      | some vh =>
        obtain ⟨v, h'⟩ := vh
        simp only [hs] at hq
        exact eff (by simp [hop]) (by simp only [execOp, hop]) hq (next_sound (ty := o.type) M.heap (hops x (by simp [hop, Op.operands])) hs)
  case convert src dst x =>
    split at hq
    · rename_i a e kk off len cap h1 h2 h3
      rw [nbeq, Bool.cond_decide] at hq
      split at hq
      · rename_i hsd
        subst hsd
        split at hq
        · rename_i cs' h4 h5
          cases hu8 : cs'.isU8 with
          | false => rw [hu8, cond_false] at hq; cases hq
          | true =>
          rw [hu8, cond_true] at hq
          have hx := hops x (by simp [hop, Op.operands])
          rw [h3] at hx
          obtain ⟨lc, c, he, hv, hcap⟩ := hx
          obtain ⟨w', g1, g2, g3⟩ := mark_sound (P := P) M.heap he (off := off) h5 hu8
          have hae : a = e := by rw [h1] at h2; injection h2 with h2; injection h2
          subst hae
          have hcv : (convert src src (.slice (some (lc.at off)) len c)).run P w = .ok (.slice (some (lc.at off)) len c) w' := by
            have hbe : (src == src) = true := by simp
            simp only [convert, Sem.run_bind, ru h1, Result.andThen_ok, ru h4, hbe, g1, Sem.run_pure]
          refine done_sound (v := .slice kk off len cap) M hat hq (step_val A (by rw [hsem (by simp [hop])]; simp only [execOp, hop, hv, Sem.run_bind, hcv, Result.andThen_ok, Sem.run_pure])) (Sg.le.refl σ) g2 (fun _ _ => rfl) (Nat.le_refl _) ⟨lc, c, he, hv, hcap⟩ g3
        · cases hq
      · cases hq
    · cases hq
  case defer c =>
    cases hrd : m.fr.round with
    | some l => simp [hrd] at hq
    | none =>
      have hro : f.roundOf = none := by have := M.top.round; rw [hrd] at this; exact this
      cases hc : c.callee <;> simp only [hrd, hc] at hq <;> try (cases hq; done)
      rename_i g
      generalize hg : ev ng m.fr.tmps g = gv at hq
      cases gv <;> simp only at hq <;> try (cases hq; done)
      rename_i fn first cap
      split at hq
      · rename_i fr hfin
        injection hq with hq; subst hq
        have hgv := hops g (by simp [hop, Op.operands, Call.operands, hc])
        rw [hg] at hgv
        obtain ⟨x', y', hgv, hx', hy'⟩ := hgv
        have ha := ops_map (σ := σ) (T := ev ng m.fr.tmps) (ρ := (Frame.act f).eval) (xs := c.args) fun x hx => hops x (by simp [hop, Op.operands, Call.operands]; right; exact hx)
        let d : Deferred := { target := .fn (.func fn) y', args := x' ++ c.args.map (Frame.act f).eval }
        have hst : step P (lone f (cs ++ base) w) = .next (lone (({ f with defers := d :: f.defers } : Frame).finish undef) (cs ++ base) w) :=
          step_dfr A (by rw [hro, Oper.semAt_none]; simp [execOp, hop, resolve, hc, hgv, Deferred.ofValue, d])
        have hFR : FR P σ { m.fr with defers := .call fn cap (first ++ c.args.toList.map (ev ng m.fr.tmps)) :: m.fr.defers, round := none } ({ f with defers := d :: f.defers } : Frame) p :=
          ⟨M.top.fn, M.top.top, ⟨⟨y', _, rfl, hy', by rw [Array.toList_append]; exact VRs.app hx' ha⟩, M.top.defers⟩, M.top.mode, M.top.kind, hro⟩
        obtain ⟨h1, h2, h3⟩ := finish_sound (ng := ng) hFR hat hfin (v := undefA) (u := undef) ⟨#[], rfl, trivial⟩
        exact ⟨σ, _, cs, w, p, ks, .one hst, Sg.le.refl σ, ⟨h1, M.stack, M.pg, M.heap, h3 _⟩, Below.refl _ _⟩
      · cases hq
  case call c =>
    have hnd : ∀ c', o.op ≠ .defer c' := by simp [hop]
    have ha := ops_map (σ := σ) (T := ev ng m.fr.tmps) (ρ := (Frame.act f).eval) (xs := c.args) fun x hx => hops x (by simp [hop, Op.operands, Call.operands]; right; exact hx)
    cases hc : c.callee <;> simp only [hc] at hq
    case value g =>
      have hgv := hops g (by simp [hop, Op.operands, Call.operands, hc])
      generalize hg : ev ng m.fr.tmps g = gv at hq hgv
      cases gv <;> simp only at hq <;> try (cases hq; done)
      case func fn first cap =>
        obtain ⟨x', y', hgv, hx', hy'⟩ := hgv
        have hargs : VRs σ (first ++ c.args.toList.map (ev ng m.fr.tmps) ++ cap) (x' ++ c.args.map (Frame.act f).eval ++ y').toList := by rw [Array.toList_append, Array.toList_append]; exact VRs.app (VRs.app hx' ha) hy'
        cases hpu : push P m fn (first ++ c.args.toList.map (ev ng m.fr.tmps) ++ cap) with
        | some m'' =>
          simp only [hpu] at hq
          injection hq with hq; subst hq
          refine push_sound M hat hpu (argv := x' ++ c.args.map (Frame.act f).eval ++ y') hargs fun hcf => step_ent A ?_
          rw [hsem hnd]
          simp only [execOp, hop, resolve, hc, hgv, Deferred.ofValue, invoke, Sem.run_bind, Sem.run_pure, Result.andThen_ok, hcf]
        | none =>
          simp only [hpu] at hq
          cases hex : aextern P m.h fn (first ++ c.args.toList.map (ev ng m.fr.tmps) ++ cap) with
          | none => rw [hex] at hq; cases hq
          | some vh =>
            obtain ⟨v, h'⟩ := vh
            simp only [hex] at hq
            obtain ⟨σ', w', u, g1, g2, g3, g4, g5, g6, g7⟩ := extern_sound (P := P) M.heap hargs hex
            refine done_sound M hat hq (step_val A ?_) g2 g3 g4 g5 g6 g7
            rw [hsem hnd]
            simp only [execOp, hop, resolve, hc, hgv, Deferred.ofValue, invoke, Sem.run_bind, Sem.run_pure, Result.andThen_ok, g1]
      case yield l =>
        obtain ⟨e, he, hgv⟩ := hgv
        cases hb : m.h.get l with
        | none => simp [hb] at hq
        | some bl =>
          cases bl <;> simp only [hb] at hq <;> try (cases hq; done)
          rename_i lr
          obtain ⟨lc, hw, l1, l2, l3, l4, l5, l6, l7, l8⟩ := M.heap.blk l e _ he hb
          unfold roundFrame at hq
          rw [nbeq, Bool.cond_decide] at hq
          split at hq
          · rename_i hfr
            split at hfr
            · rename_i hsz
              injection hfr with hfr; subst hfr
              injection hq with hq; subst hq
              have hsz' : (c.args.map (Frame.act f).eval).size = lc.params.size := by rw [l4, ← hsz]; simp
              let ts := (lc.params.zip (c.args.map (Frame.act f).eval)).foldl (fun tmps (x : Tmp × Value) => tmps.setIfInBounds x.1 x.2) lc.tmps
              have hst : step P (lone f (cs ++ base) w) = .next (lone (Frame.round e.blk lc.fn ts lc.assign lc.body .normal) (f :: (cs ++ base)) w) := by
                refine step_rnd A ?_
                rw [hsem hnd]
                have hs2 : ¬ (c.args.size ≠ lc.params.size) := by simpa using hsz'
                have hg : (getObj e.blk).run P w = .ok (.loop lc) w := by simp [getObj, Sem.run, hw]
                simp only [execOp, hop, resolve, hc, hgv, Deferred.ofValue, invoke, Instr.yield, Instr.getLoop, Sem.run_bind, Sem.run_pure, Result.andThen_ok, hg, Array.empty_append, Array.size_map, hs2, if_false]
                rfl
              refine ⟨σ, _, f :: cs, w, [], p.map (·.2) ++ ks, .one hst, Sg.le.refl σ, ⟨⟨l3, ?_, trivial, rfl, rfl, ⟨e, he, rfl⟩⟩, ⟨f, cs, p, ks, rfl, rfl, M.top, hat, M.stack⟩, by simpa using M.pg, M.heap, trivial⟩, Below.refl _ _⟩
              refine ⟨⟨by simp [ItR, l5], rfl, by simp [ItR, l6], trivial⟩, ?_, rfl⟩
              have := fold_put (σ := σ) (nt := lr.nt) lr.params.toList _ _ lr.tmps lc.tmps ha l7
              have e1 : (Frame.round e.blk lc.fn ts lc.assign lc.body .normal).tmps = ((lr.params.toList.zip (c.args.map (Frame.act f).eval).toList).foldl (fun tmps (x : Tmp × Value) => tmps.setIfInBounds x.1 x.2) lc.tmps) := by
                show ts = _
                simp only [ts]
                rw [← Array.foldl_toList, Array.toList_zip, l4]
              rw [e1]
              exact this
            · cases hfr
          · cases hq
    case invoke g name =>
      have hgv := hops g (by simp [hop, Op.operands, Call.operands, hc])
      generalize hg : ev ng m.fr.tmps g = gv at hq hgv
      cases gv <;> simp only at hq <;> try (cases hq; done)
      rename_i t v
      obtain ⟨y, hgv, hy⟩ := hgv
      cases hm : amethod P m.h 8 t v name with
      | none => simp [hm] at hq
      | some fx =>
        obtain ⟨fn, x⟩ := fx
        simp only [hm] at hq
        obtain ⟨z, h1, h2⟩ := method_sound (P := P) M.heap 8 (P.types.size + Made.depth) t v y name fn x (by omega) hy hm
        refine push_sound M hat hq (argv := #[z] ++ c.args.map (Frame.act f).eval) (by rw [Array.toList_append]; exact ⟨h2, ha⟩) fun hcf => step_ent A ?_
        rw [hsem hnd]
        have hx2 : (#[Value.iface t y] ++ c.args.map (Frame.act f).eval : Array Value).extract 1 (#[Value.iface t y] ++ c.args.map (Frame.act f).eval : Array Value).size = c.args.map (Frame.act f).eval := by
          apply Array.ext'
          simp [Array.toList_extract, List.extract_eq_take_drop]
          exact List.take_of_length_le (by simp)
        have h0 : (#[Value.iface t y] ++ c.args.map (Frame.act f).eval : Array Value)[0]? = some (.iface t y) := by
          rw [Array.getElem?_append_left (by simp)]; rfl
        have hpr : ∀ w, (program).run P w = .ok P w := fun _ => rfl
        simp only [execOp, hop, resolve, hc, hgv, invoke, Sem.run_bind, Sem.run_pure, Result.andThen_ok, h0, hx2, callMethod, hpr, h1, hcf]
    case builtin b =>
      cases b <;> simp only at hq <;> try (cases hq; done)
      case append =>
        split at hq
        · rename_i s x hargs
          cases hap : aappend P m.h c.argTypes (ev ng m.fr.tmps s) (ev ng m.fr.tmps x) with
          | none => simp [hap] at hq
          | some vh =>
            obtain ⟨v, h'⟩ := vh
            simp only [hap] at hq
            have hcargs : c.args = #[s, x] := by
              apply Array.ext'; rw [hargs]
            obtain ⟨u, w', σ', g1, g2, g3, g4, g5, g6, g7⟩ := append_sound (P := P) (ty := o.type) M.heap (hops s (by simp [hop, Op.operands, Call.operands, hcargs])) (hops x (by simp [hop, Op.operands, Call.operands, hcargs])) hap
            refine done_sound M hat hq (step_val A ?_) g2 g3 g5 g6 g7 g4
            rw [hsem hnd]
            simp only [execOp, hop, resolve, hc, invoke, builtin, Sem.run_bind, Sem.run_pure, Result.andThen_ok, hcargs]
            simp [g1]
        · cases hq
      case copy =>
        split at hq
        · rename_i t d s hty hargs
          cases hap : acopy P m.h t (ev ng m.fr.tmps d) (ev ng m.fr.tmps s) with
          | none => simp [hap] at hq
          | some vh =>
            obtain ⟨v, h'⟩ := vh
            simp only [hap] at hq
            have hcargs : c.args = #[d, s] := by
              apply Array.ext'; rw [hargs]
            obtain ⟨w', g1, g2, g3, g4⟩ := copy_sound (P := P) (ty := o.type) M.heap hty (hops d (by simp [hop, Op.operands, Call.operands, hcargs])) (hops s (by simp [hop, Op.operands, Call.operands, hcargs])) hap
            refine done_sound M hat hq (step_val A ?_) (Sg.le.refl σ) g2 (fun _ _ => rfl) g4 rfl g3
            rw [hsem hnd]
            simp only [execOp, hop, resolve, hc, invoke, builtin, Sem.run_bind, Sem.run_pure, Result.andThen_ok, hcargs]
            simp [g1]
        · cases hq
      case delete =>
        split at hq
        · rename_i t x k hty hargs
          cases hap : adelete P m.h t (ev ng m.fr.tmps x) (ev ng m.fr.tmps k) with
          | none => simp [hap] at hq
          | some h' =>
            simp only [hap] at hq
            have hcargs : c.args = #[x, k] := by
              apply Array.ext'; rw [hargs]
            obtain ⟨w', g1, g2, g3, g4⟩ := delete_sound (P := P) (ty := o.type) M.heap hty (hops x (by simp [hop, Op.operands, Call.operands, hcargs])) (hops k (by simp [hop, Op.operands, Call.operands, hcargs])) hap
            refine done_sound M hat hq (step_val A ?_) (Sg.le.refl σ) g2 (fun _ _ => rfl) g4 ⟨#[], rfl, trivial⟩ g3
            rw [hsem hnd]
            simp only [execOp, hop, resolve, hc, invoke, builtin, Sem.run_bind, Sem.run_pure, Result.andThen_ok, hcargs]
            simp [g1]
        · cases hq
      case clear =>
        split at hq
        · rename_i t x hty hargs
          cases hap : aclear P m.h t (ev ng m.fr.tmps x) with
          | none => simp [hap] at hq
          | some h' =>
            simp only [hap] at hq
            have hcargs : c.args = #[x] := by
              apply Array.ext'; rw [hargs]
            obtain ⟨w', g1, g2, g3, g4⟩ := clear_sound (P := P) (ty := o.type) M.heap hty (hops x (by simp [hop, Op.operands, Call.operands, hcargs])) hap
            refine done_sound M hat hq (step_val A ?_) (Sg.le.refl σ) g2 (fun _ _ => rfl) g4 ⟨#[], rfl, trivial⟩ g3
            rw [hsem hnd]
            simp only [execOp, hop, resolve, hc, invoke, builtin, Sem.run_bind, Sem.run_pure, Result.andThen_ok, hcargs]
            simp [g1]
        · cases hq
      case recover =>
        have hexec : (o.semAt f.roundOf (Frame.act f).eval).run P w = .ok .recover w := by
          rw [hsem hnd]
          simp [execOp, hop, resolve, hc, invoke, builtin]
        cases hrd : m.fr.round with
        | some l => simp [hrd] at hq
        | none =>
          have hro : f.roundOf = none := by have := M.top.round; rw [hrd] at this; exact this
          have fin : ∀ m'', AM.done P m (.lit .nilIface) m.h = some m'' → tryRecover f (cs ++ base) = none → Post P ng n0 σ w f cs base m'' := fun m'' hq ht =>
            done_sound (u := .nilIface) M hat hq (step_rec A hro ht hexec) (Sg.le.refl σ) M.heap (fun _ _ => rfl) (Nat.le_refl _) ⟨rfl, rfl⟩ (Below.refl _ _)
          cases hdf : m.fr.dfd with
          | false =>
            simp only [hrd, hdf] at hq
            have hk : f.kind = .normal := by have := M.top.kind; rw [hdf] at this; exact this
            exact fin _ hq (by unfold tryRecover; rw [hk])
          | true =>
            have hk : f.kind = .deferred := by have := M.top.kind; rw [hdf] at this; exact this
            cases hcs : m.cs with
            | nil => simp [hrd, hdf, hcs] at hq
            | cons c1 cs1 =>
              simp only [hrd, hdf, hcs] at hq
              cases hret : c1.ret with
              | false => rw [hret] at hq; cases hq
              | true =>
                rw [hret, cond_true] at hq
                have hst := M.stack
                rw [hcs] at hst
                obtain ⟨f1, fs', p1, ks', e1, _, h3, _, _⟩ := hst
                have hmode : f1.mode = .returning := by have := h3.mode; rw [hret] at this; exact this
                refine fin _ hq ?_
                rw [e1]
                unfold tryRecover
                rw [hk]
                simp [hmode]
end
end Go.Proofs.YtfmopmjgohopeaaGreatDoor.Ev

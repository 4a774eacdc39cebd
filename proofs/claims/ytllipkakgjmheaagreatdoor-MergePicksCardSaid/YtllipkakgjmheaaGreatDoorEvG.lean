/-
  The abstract machine's operations that read, the rest of them, and all together.
-/
import Derived.Test.YtllipkakgjmheaaGreatDoorEvF
set_option linter.unusedVariables false
set_option linter.unusedSimpArgs false
set_option linter.constructorNameAsVariable false
namespace Go.Proofs.YtllipkakgjmheaaGreatDoor.Ev
open Go Go.RowKit

section
variable {P : Program} {ng n0 : Nat} {σ : Sg} {h : AH} {w : World}

theorem natOf_some {a : AV} {n : Nat} {v : Value} (hn : natOf a = some n) (hv : VR σ a v) : ∃ k, v = .int k (n : Int) := by
  cases a <;> simp only [natOf] at hn <;> try cases hn
  rename_i k m
  cases m <;> simp only [] at hn <;> try cases hn
  exact ⟨k, hv⟩

theorem binop_sound {T : Operand → AV} {ρ : Operand → Value} {op : BinOp} {t yt : TypeId} {x y : Operand} {v : AV} (hx : VR σ (T x) (ρ x)) (hy : VR σ (T y) (ρ y))
    (hq : abinop P T op t x y = some v) : ∃ u, (do eqGuard op t x y (ρ x) (ρ y); Go.binOp op t (ρ x) (ρ y) : Sem Value).run P w = .ok u w ∧ VR σ v u := by
  have plain : abin P op t (T x) (T y) = some v → eqGuard op t x y (ρ x) (ρ y) = pure () → ∃ u, (do eqGuard op t x y (ρ x) (ρ y); Go.binOp op t (ρ x) (ρ y) : Sem Value).run P w = .ok u w ∧ VR σ v u := fun hb hg => by
    obtain ⟨u, h1, h2⟩ := bin_sound (P := P) (w := w) hx hy hb
    exact ⟨u, by simp [hg, h1], h2⟩
  have guard : ∀ a b : Value, (¬ (a = .nilIface ∧ b = .nilIface)) → (∀ c d, ¬ (a = .agg c ∧ b = .agg d)) → eqGuard op t x y a b = pure () := fun a b h1 h2 => by
    cases a with
    | nilIface => cases b <;> first | (exact absurd ⟨rfl, rfl⟩ h1) | (cases op <;> rfl)
    | agg c => cases b <;> first | (exact absurd ⟨rfl, rfl⟩ (h2 _ _)) | (cases op <;> rfl)
    | _ => cases op <;> rfl
  unfold abinop at hq
  split at hq
  · rename_i e1 e2
    rw [e1] at hx; rw [e2] at hy
    obtain ⟨hx, _⟩ := hx; obtain ⟨hy, _⟩ := hy
    rw [hx, hy]
    cases hu : P.underlying t with
    | none => simp [hu] at hq
    | some d =>
      cases d <;> simp only [hu] at hq <;> try (cases hq; done)
      generalize hc : (isConst x || isConst y) = c at hq
      cases c with
      | false => cases hq
      | true =>
        have hg : eqGuard op t x y .nilIface .nilIface = pure () := by
          rcases Bool.or_eq_true_iff.1 hc with hc | hc
          · cases x <;> simp [isConst] at hc; exact eqGuard_nil_constL op t y _
          · cases y <;> simp [isConst] at hc; exact eqGuard_nil_constR op t x _
        have he : (Op.equal t .nilIface .nilIface).run P w = .ok true w := eq_run hu fun n => by simp only [Op.equalIn, Sem.run_bind, ru hu, Result.andThen_ok]; rfl
        cases op <;> simp only [cond_true] at hq <;> try (cases hq; done)
        · injection hq with hq; subst hq
          exact ⟨.bool true, by simp [hg, Go.binOp, he], rfl⟩
        · injection hq with hq; subst hq
          exact ⟨.bool false, by simp [hg, Go.binOp, he], rfl⟩
  · cases hq
  · rename_i hn ha
    refine plain hq (guard _ _ (fun ⟨e1, e2⟩ => ?_) (fun c d ⟨e1, e2⟩ => ?_))
    · -- the operands' abstract values would have to be the nothing of an interface, or not known
      rw [e1] at hx; rw [e2] at hy
      generalize hTx : T x = a at *
      generalize hTy : T y = b at *
      cases b with
      | lit l =>
        obtain ⟨rfl, _⟩ := hy
        cases a with
        | lit l' => obtain ⟨rfl, _⟩ := hx; exact hn rfl rfl
        | any =>
          simp only [abin] at hq
          cases hu : P.underlying t with
          | none => simp [hu] at hq
          | some d => cases d <;> simp [hu, nilEq, nilOp] at hq
        | _ => first | (obtain ⟨_, hz⟩ := hx; cases hz; done) | (obtain ⟨_, _, hz⟩ := hx; cases hz; done) | (obtain ⟨_, _, _, hz, _⟩ := hx; cases hz; done) | (obtain ⟨_, _, hz, _⟩ := hx; cases hz; done) | (obtain ⟨_, hz, _⟩ := hx; cases hz; done) | (obtain ⟨hz, _⟩ := hx; cases hz; done) | (cases hx; done)
      | any => cases a <;> simp [abin] at hq
      | _ => first | (obtain ⟨_, hz⟩ := hy; cases hz; done) | (obtain ⟨_, _, hz⟩ := hy; cases hz; done) | (obtain ⟨_, _, _, hz, _⟩ := hy; cases hz; done) | (obtain ⟨_, _, hz, _⟩ := hy; cases hz; done) | (obtain ⟨_, hz, _⟩ := hy; cases hz; done) | (obtain ⟨hz, _⟩ := hy; cases hz; done) | (cases hy; done)
    · rw [e1] at hx; rw [e2] at hy
      generalize hTx : T x = a at *
      generalize hTy : T y = b at *
      cases b with
      | lit l => obtain ⟨rfl, hl⟩ := hy; simp [litOk] at hl
      | any => cases a <;> simp [abin] at hq
      | agg l =>
        cases a <;> simp [abin] at hq
      | _ => first | (obtain ⟨_, hz⟩ := hy; cases hz; done) | (obtain ⟨_, _, hz⟩ := hy; cases hz; done) | (obtain ⟨_, _, _, hz, _⟩ := hy; cases hz; done) | (obtain ⟨_, _, hz, _⟩ := hy; cases hz; done) | (obtain ⟨_, hz, _⟩ := hy; cases hz; done) | (obtain ⟨hz, _⟩ := hy; cases hz; done) | (cases hy; done)

theorem un_sound {op : UnOp} {x v : AV} {a : Value} (hx : VR σ x a) (hq : aun op x = some v) : ∃ u, (Op.unary op a).run P w = .ok u w ∧ VR σ v u := by
  cases x <;> simp only [aun] at hq <;> try (cases hq; done)
  · obtain rfl := hx
    cases op <;> try (cases hq; done)
    injection hq with hq; subst hq
    exact ⟨_, rfl, rfl⟩
  · obtain rfl := hx
    cases hs : semVal (Op.unary op (.int ‹_› ‹_›)) with
    | none => simp [hs] at hq
    | some r =>
      refine ⟨r, semVal_run hs, ?_⟩
      rw [hs] at hq
      cases r <;> simp only [] at hq <;> first | (cases hq; done) | (injection hq with hq; subst hq; rfl)

/-! ### Slices -/
def OVR (σ : Sg) : Option AV → Option Value → Prop
  | none, none => True
  | some a, some v => VR σ a v
  | _, _ => False
theorem ovr_nat {a : Option AV} {v : Option Value} {x : AV} (hr : OVR σ a v) (ha : a = some x) : ∃ y, v = some y ∧ VR σ x y := by
  subst ha
  cases v with
  | none => exact hr.elim
  | some y => exact ⟨y, rfl, hr⟩
theorem ovr_none {a : Option AV} {v : Option Value} (hr : OVR σ a v) (ha : a = none) : v = none := by
  subst ha
  cases v with
  | none => rfl
  | some y => exact hr.elim
theorem bound_run {k : IntKind} {n y : Nat} {code : BoundsCode} (hle : n ≤ y) : (Instr.sliceBound (.int k (n : Int)) y code).run P w = .ok n w := by
  have : (0 : Int) ≤ (n : Int) ∧ (n : Int) ≤ (y : Int) := ⟨by omega, by omega⟩
  simp [Instr.sliceBound, asIntOf, this, hle]
theorem bounds_sound {isS : Bool} {len c : Nat} {cap : Option Nat} {lo hi mx : Option AV} {lo' hi' mx' : Option Value} {l hh : Nat} {m : Option Nat}
    (h1 : OVR σ lo lo') (h2 : OVR σ hi hi') (h3 : OVR σ mx mx') (hc : ∀ n, cap = some n → c = n) (hn : cap = none → len ≤ c) (hq : abounds len cap lo hi mx = some (l, hh, m)) :
    ∃ mc, (Instr.sliceBounds isS len c lo' hi' mx').run P w = .ok (l, hh, mc) w ∧ (∀ n, m = some n → mc = n) ∧ (m = none → mc = c ∧ cap = none ∧ hh ≤ len) ∧ l ≤ hh := by
  unfold abounds at hq
  cases hmo : aMax len cap mx with
  | none => simp [hmo] at hq
  | some mo =>
  cases hho : aEnd len mo hi mx with
  | none => simp [hmo, hho] at hq
  | some ho =>
  cases hlo : aLow ho lo with
  | none => simp [hmo, hho, hlo] at hq
  | some lw =>
  simp only [hmo, hho, hlo, Option.some.injEq, Prod.mk.injEq] at hq
  obtain ⟨rfl, rfl, rfl⟩ := hq
  have htop : ∃ mc, ((match (generalizing := false) mx' with
      | some v => Instr.sliceBound v c (if isS then .slice3Acap else .slice3Alen)
      | none => pure c : Sem Nat)).run P w = .ok mc w ∧ (∀ n, mo = some n → mc = n) ∧ (mo = none → mc = c ∧ cap = none) := by
    cases mx with
    | none =>
      rw [ovr_none h3 rfl]
      simp only [aMax, Option.some.injEq] at hmo
      subst hmo
      exact ⟨c, rfl, hc, fun e => ⟨rfl, e⟩⟩
    | some v =>
      obtain ⟨v', rfl, hv⟩ := ovr_nat h3 rfl
      cases hnv : natOf v with
      | none => simp [aMax, hnv] at hmo
      | some n =>
        obtain ⟨k, rfl⟩ := natOf_some hnv hv
        simp only [aMax, hnv, nble, Bool.cond_decide] at hmo
        split at hmo
        · rename_i hle
          simp only [Option.some.injEq] at hmo
          subst hmo
          refine ⟨n, bound_run ?_, fun _ e => by injection e, fun e => (by cases e)⟩
          cases hcap : cap with
          | none => rw [hcap] at hle; exact Nat.le_trans hle (hn hcap)
          | some c' => rw [hcap] at hle; rw [hc c' hcap]; exact hle
        · cases hmo
  obtain ⟨mc, t1, t2, t3⟩ := htop
  have hend : ((match (generalizing := false) hi', mx' with
      | some v, some _ => Instr.sliceBound v mc .slice3B
      | some v, none => Instr.sliceBound v mc (if isS then .sliceAcap else .sliceAlen)
      | none, none => pure len
      | none, some _ => stuck "Slice: max without high" : Sem Nat)).run P w = .ok ho w ∧ (mo = none → ho ≤ len) := by
    cases hi with
    | none =>
      rw [ovr_none h2 rfl]
      cases mx with
      | none =>
        rw [ovr_none h3 rfl]
        simp only [aEnd, Option.some.injEq] at hho
        subst hho
        exact ⟨rfl, fun _ => Nat.le_refl _⟩
      | some v => simp [aEnd] at hho
    | some v =>
      obtain ⟨v', rfl, hv⟩ := ovr_nat h2 rfl
      cases hnv : natOf v with
      | none => simp [aEnd, hnv] at hho
      | some n =>
        obtain ⟨k, rfl⟩ := natOf_some hnv hv
        simp only [aEnd, hnv, nble, Bool.cond_decide] at hho
        split at hho
        · rename_i hle
          simp only [Option.some.injEq] at hho
          subst hho
          have hle' : n ≤ mc := by
            cases hmo' : mo with
            | none => rw [hmo'] at hle; obtain ⟨e1, e2⟩ := t3 hmo'; rw [e1]; exact Nat.le_trans hle (hn e2)
            | some c' => rw [hmo'] at hle; rw [t2 c' hmo']; exact hle
          refine ⟨?_, fun e => by rw [e] at hle; exact hle⟩
          cases mx' <;> exact bound_run hle'
        · cases hho
  obtain ⟨e1, e2⟩ := hend
  have hlow : ((match (generalizing := false) lo' with
      | some v => Instr.sliceBound v ho (if mx'.isSome then .slice3C else .sliceB)
      | none => pure 0 : Sem Nat)).run P w = .ok lw w ∧ lw ≤ ho := by
    cases lo with
    | none =>
      rw [ovr_none h1 rfl]
      simp only [aLow, Option.some.injEq] at hlo
      subst hlo
      exact ⟨rfl, Nat.zero_le _⟩
    | some v =>
      obtain ⟨v', rfl, hv⟩ := ovr_nat h1 rfl
      cases hnv : natOf v with
      | none => simp [aLow, hnv] at hlo
      | some n =>
        obtain ⟨k, rfl⟩ := natOf_some hnv hv
        simp only [aLow, hnv, nble, Bool.cond_decide] at hlo
        split at hlo
        · rename_i hle
          simp only [Option.some.injEq] at hlo
          subst hlo
          exact ⟨bound_run hle, hle⟩
        · cases hlo
  refine ⟨mc, ?_, t2, fun e => ⟨(t3 e).1, (t3 e).2, e2 e⟩, hlow.2⟩
  have e3 := hlow.1
  unfold Instr.sliceBounds
  cases mx' <;> cases hi' <;> cases lo' <;> simp only [] at t1 e1 e3 ⊢ <;>
    first
      | (simp only [run_stuck] at e1; cases e1; done)
      | (simp only [Sem.run_bind, t1, Result.andThen_ok, e1, e3]; rfl)

theorem slice_sound {t : TypeId} {x v : AV} {a : Value} {lo hi mx : Option AV} {lo' hi' mx' : Option Value} (hx : VR σ x a) (h1 : OVR σ lo lo') (h2 : OVR σ hi hi') (h3 : OVR σ mx mx')
    (hq : aslice P t x lo hi mx = some v) : ∃ u, (Instr.sliceAt t a lo' hi' mx').run P w = .ok u w ∧ VR σ v u := by
  unfold aslice at hq
  split at hq
  · rename_i s hu
    obtain ⟨rfl, hs⟩ := hx
    cases mx with
    | some _ => simp at hq
    | none =>
      cases hb : abounds s.length (some s.length) lo hi none with
      | none => simp [hb] at hq
      | some r =>
        obtain ⟨l, hh, m⟩ := r
        simp only [hb] at hq
        injection hq with hq; subst hq
        obtain ⟨mc, r1, _, _, r4⟩ := bounds_sound (P := P) (w := w) (isS := false) (c := s.length) h1 h2 h3 (fun n e => by injection e) (fun e => by cases e) hb
        rw [ovr_none h3 rfl] at r1
        refine ⟨.string ((mkS s).extract l hh), ?_, ?_, ?_⟩
        · rw [ovr_none h3 rfl]
          simp [Instr.sliceAt, Instr.slice, ru hu, mkS_size, r1]
        · unfold mkS
          rw [ByteArray.extract_mk, List.drop_take, List.map_take, List.map_drop]
        · exact fun b hb => hs b (List.mem_of_mem_take (List.mem_of_mem_drop hb))
  · rename_i elem k off len cap hu
    obtain ⟨e, c, he, rfl, hc⟩ := hx
    cases hs : sizeOf? P elem with
    | none => simp [hs] at hq
    | some size =>
      cases hb : abounds len cap.opt lo hi mx with
      | none => simp [hs, hb] at hq
      | some r =>
        obtain ⟨l, hh, m⟩ := r
        simp only [hs, hb] at hq
        obtain ⟨mc, r1, r2, r3, r4⟩ := bounds_sound (P := P) (w := w) (isS := true) (c := c) h1 h2 h3 (fun n e => by
            cases cap with
            | is c' => injection e with e; exact hc.trans e
            | room sz => cases e) (fun e => by
            cases cap with
            | is c' => cases e
            | room sz => exact hc.1) hb
        have hrun : (Instr.sliceAt t (.slice (some (e.at off)) len c) lo' hi' mx').run P w = .ok (.slice (if mc = l then some (e.at off) else some (e.at (off + l * size))) (hh - l) (mc - l)) w := by
          simp [Instr.sliceAt, Instr.slice, ru hu, r1, rs hs, at_add]
        cases m with
        | some c' =>
          simp only [] at hq
          injection hq with hq; subst hq
          refine ⟨_, hrun, ?_⟩
          have := r2 c' rfl
          subst this
          refine ⟨e, mc - l, he, ?_, rfl⟩
          rw [nbeq, Bool.cond_decide]
          split <;> rfl
        | none =>
          obtain ⟨rfl, hcap, hle⟩ := r3 rfl
          cases cap with
          | is c' => cases hcap
          | room sz =>
            simp only [] at hq
            by_cases hcond : size = sz ∧ (l < hh ∨ l = 0)
            · have : (Nat.beq size sz && (Nat.blt l hh || Nat.beq l 0)) = true := by simp [nbeq, nblt, hcond.1, hcond.2]
              rw [this, cond_true] at hq
              injection hq with hq; subst hq
              obtain ⟨hc1, hc2⟩ := hc
              refine ⟨_, hrun, e, mc - l, he, ?_, ?_⟩
              · split
                · rename_i hml
                  have hl0 : l = 0 := by omega
                  simp [hl0]
                · rfl
              · refine ⟨by omega, ?_⟩
                rw [hcond.1, Nat.sub_mul]
                have : l * sz ≤ mc * sz := Nat.mul_le_mul_right _ (by omega)
                omega
            · have : (Nat.beq size sz && (Nat.blt l hh || Nat.beq l 0)) = false := by
                rw [Bool.eq_false_iff]; intro hx; simp [nbeq, nblt] at hx; exact hcond ⟨hx.1, hx.2⟩
              rw [this, cond_false, nbeq, Bool.cond_decide] at hq
              split at hq
              · rename_i hlh
                injection hq with hq; subst hq
                refine ⟨_, hrun, ?_⟩
                subst hlh
                split <;> exact ⟨_, _, by rw [Nat.sub_self], fun n e => by cases e⟩
              · cases hq
  · rename_i elem cap hu
    obtain ⟨ad, c, rfl, hc⟩ := hx
    cases hs : sizeOf? P elem with
    | none => simp [hs] at hq
    | some size =>
      cases hb : abounds 0 cap lo hi mx with
      | none => simp [hs, hb] at hq
      | some r =>
        obtain ⟨l, hh, m⟩ := r
        obtain ⟨mc, r1, r2, r3, r4⟩ := bounds_sound (P := P) (w := w) (isS := true) (c := c) h1 h2 h3 hc (fun _ => Nat.zero_le _) hb
        simp only [hs, hb] at hq
        cases l <;> cases hh <;> simp only [] at hq <;> try (cases hq; done)
        injection hq with hq; subst hq
        refine ⟨.slice (some ad) 0 mc, ?_, ad, mc, rfl, r2⟩
        simp [Instr.sliceAt, Instr.slice, ru hu, r1, rs hs, Addr.add]
  · rename_i elem len cap hu
    obtain ⟨rfl, _⟩ := hx
    cases hs : sizeOf? P elem with
    | none => simp [hs] at hq
    | some size =>
      cases hb : abounds len (some cap) lo hi mx with
      | none => simp [hs, hb] at hq
      | some r =>
        obtain ⟨l, hh, m⟩ := r
        obtain ⟨mc, r1, r2, r3, r4⟩ := bounds_sound (P := P) (w := w) (isS := true) (c := cap) h1 h2 h3 (fun n e => by injection e) (fun e => by cases e) hb
        simp only [hs, hb] at hq
        cases m with
        | none => simp at hq
        | some c' =>
          simp only [] at hq
          injection hq with hq; subst hq
          have := r2 c' rfl
          subst this
          exact ⟨.slice none (hh - l) (mc - l), by simp [Instr.sliceAt, Instr.slice, ru hu, r1, rs hs], rfl, rfl⟩
  · rename_i n elem k off hu
    obtain ⟨e, he, rfl⟩ := hx
    cases hs : sizeOf? P elem with
    | none => simp [hs] at hq
    | some size =>
      cases hb : abounds n (some n) lo hi mx with
      | none => simp [hs, hb] at hq
      | some r =>
        obtain ⟨l, hh, m⟩ := r
        obtain ⟨mc, r1, r2, r3, r4⟩ := bounds_sound (P := P) (w := w) (isS := false) (c := n) h1 h2 h3 (fun n e => by injection e) (fun e => by cases e) hb
        simp only [hs, hb] at hq
        cases m with
        | none => simp at hq
        | some c' =>
          simp only [] at hq
          injection hq with hq; subst hq
          have := r2 c' rfl
          subst this
          refine ⟨.slice (some (if mc = l then e.at off else e.at (off + l * size))) (hh - l) (mc - l), ?_, e, mc - l, he, ?_, rfl⟩
          · simp [Instr.sliceAt, Instr.sureAddr, ru hu, r1, rs hs, at_add]
          · rw [nbeq, Bool.cond_decide]; split <;> rfl
  · cases hq
end
end Go.Proofs.YtllipkakgjmheaaGreatDoor.Ev

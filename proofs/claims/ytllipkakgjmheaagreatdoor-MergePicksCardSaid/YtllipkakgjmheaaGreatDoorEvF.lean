/-
  The abstract machine's operations that read, one by one.
-/
import Derived.Test.YtllipkakgjmheaaGreatDoorEvE
import Derived.Laws.Strings2
import Derived.Laws.Concat
import Derived.Laws.Slices
import Derived.Laws.BytesString
set_option linter.unusedVariables false
set_option linter.unusedSimpArgs false
set_option linter.constructorNameAsVariable false
namespace Go.Proofs.YtllipkakgjmheaaGreatDoor.Ev
open Go Go.RowKit

section
variable {P : Program} {ng n0 : Nat} {σ : Sg} {h : AH} {w : World}

theorem zero_sound {t : TypeId} {cs : List AV} (hz : zeroCells P t = some cs) : ∃ z, (zeroValue t).run P w = .ok z w ∧ VRs σ cs z.cells.toList := by
  unfold zeroCells at hz
  cases hi : P.info? t with
  | none => simp [hi] at hz
  | some i =>
    simp only [hi] at hz
    cases hzz : i.zero with
    | none => simp [hzz] at hz
    | some z =>
      refine ⟨z, by simp [zeroValue, ri hi, hzz], ?_⟩
      cases z with
      | agg c => simp only [hzz] at hz; injection hz with hz; subst hz; exact VRs.ofAtoms σ _
      | _ =>
        simp only [hzz] at hz
        generalize ho : (AV.ofAtom _).one = b at hz
        cases b with
        | false => cases hz
        | true =>
          injection hz with hz; subst hz
          exact ⟨VR.ofAtom σ _, trivial⟩

theorem mapM_run {α β : Type} {f : α → Sem β} {g : α → β} : ∀ (l : List α), (∀ x ∈ l, (f x).run P w = .ok (g x) w) → (l.mapM f).run P w = .ok (l.map g) w
  | [], _ => rfl
  | x :: l, hx => by
    simp [List.mapM_cons, hx x (List.mem_cons_self ..), mapM_run l fun y hy => hx y (List.mem_cons_of_mem _ hy)]

theorem parts_rel {T : Operand → AV} {ρ : Operand → Value} (parts : Array (Nat × Operand)) (hρ : ∀ x ∈ (parts.toList.map (·.2)), VR σ (T x) (ρ x)) :
    (∀ (j : Nat) (p : Nat × AV), (parts.toList.map fun p => (p.1, T p.2))[j]? = some p → ∃ q : Nat × Value, ((parts.map fun p => (p.1, ρ p.2)).toList)[j]? = some q ∧ q.1 = p.1 ∧ VR σ p.2 q.2) ∧
    (parts.toList.map fun p => (p.1, T p.2)).length = ((parts.map fun p => (p.1, ρ p.2)).toList).length := by
  refine ⟨fun j p hj => ?_, by simp⟩
  rw [List.getElem?_map] at hj
  cases ho : parts.toList[j]? with
  | none => simp [ho] at hj
  | some o =>
    simp only [ho, Option.map_some] at hj
    injection hj with hj; subst hj
    refine ⟨(o.1, ρ o.2), ?_, rfl, hρ _ (List.mem_map.2 ⟨o, List.mem_of_getElem? ho, rfl⟩)⟩
    rw [Array.toList_map, List.getElem?_map, ho]; rfl

theorem build_sound {T : Operand → AV} {ρ : Operand → Value} {t : TypeId} {parts : Array (Nat × Operand)} {v : AV} (hρ : ∀ x ∈ (parts.toList.map (·.2)), VR σ (T x) (ρ x)) (hq : abuild P T t parts = some v) :
    ∃ u, (Instr.build t (parts.map fun p => (p.1, ρ p.2))).run P w = .ok u w ∧ VR σ v u := by
  unfold abuild at hq
  obtain ⟨hp, hl⟩ := parts_rel parts hρ
  cases hz : zeroCells P t with
  | none => simp [hz] at hq
  | some zero =>
    obtain ⟨z, hz1, hz2⟩ := zero_sound (P := P) (σ := σ) (w := w) hz
    cases hu : P.underlying t with
    | none => simp [hz, hu] at hq
    | some d =>
      cases d <;> simp only [hz, hu] at hq <;> try cases hq
      case struct fields =>
        generalize hall : fields.toList.all (fun f => (sizeOf? P f.type).isSome) = b at hq
        cases b with
        | false => cases hq
        | true =>
          simp only [cond_true, Option.map_eq_some_iff] at hq
          obtain ⟨cells', hf, rfl⟩ := hq
          obtain ⟨c', h1, h2⟩ := fill_sound _ _ _ _ _ z.cells hp hl hz2 hf
          refine ⟨.agg c', ?_, c', rfl, h2⟩
          have hmap := mapM_run (P := P) (w := w) (f := fun (f : Field) => (do pure (f.offset, ← sizeOf f.type) : Sem (Nat × Nat))) (g := fun f => (f.offset, (sizeOf? P f.type).getD 0)) fields.toList (fun f hf => by
            have := List.all_eq_true.1 hall f hf
            obtain ⟨s, hs⟩ := Option.isSome_iff_exists.1 this
            simp [rs hs, hs])
          have hplace : (fun i : Nat => (Array.map (fun f : Field => (f.offset, (sizeOf? P f.type).getD 0)) fields)[i]?) = fieldPl P fields := by
            funext i
            unfold fieldPl
            rw [Array.getElem?_map]
            cases hf : fields[i]? with
            | none => rfl
            | some f =>
              have := List.all_eq_true.1 hall f (by simpa using Array.mem_of_getElem? hf)
              obtain ⟨s, hs⟩ := Option.isSome_iff_exists.1 this
              simp [hs]
          simp only [Instr.build, Sem.run_bind, hz1, Result.andThen_ok, ru hu, Array.mapM_eq_mapM_toList, Sem.run_map, hmap]
          have e : (List.map (fun f : Field => (f.offset, (sizeOf? P f.type).getD 0)) fields.toList).toArray = Array.map (fun f : Field => (f.offset, (sizeOf? P f.type).getD 0)) fields := by
            apply Array.ext'; simp
          rw [e, hplace, h1]
          rfl
      case array n elem =>
        cases hs : sizeOf? P elem with
        | none => simp [hs] at hq
        | some s =>
          simp only [hs, Option.map_eq_some_iff] at hq
          obtain ⟨cells', hf, rfl⟩ := hq
          obtain ⟨c', h1, h2⟩ := fill_sound _ _ _ _ _ z.cells hp hl hz2 hf
          rw [Array.toList_map] at h1
          exact ⟨.agg c', by simp [Instr.build, hz1, ru hu, rs hs, h1], c', rfl, h2⟩

/-! ### Comparison, arithmetic -/
theorem natsBeq_iff : ∀ (a b : List Nat), natsBeq a b = true ↔ a = b
  | [], [] => by simp [natsBeq]
  | [], _ :: _ => by simp [natsBeq]
  | _ :: _, [] => by simp [natsBeq]
  | a :: x, b :: y => by simp [natsBeq, nbeq, natsBeq_iff x y]
theorem mkS_toList (s : List Nat) : (mkS s).toList = s.map UInt8.ofNat := by
  unfold mkS; exact ByteArray.toList_mk _
theorem map_ofNat_inj : ∀ {a b : List Nat}, (∀ x ∈ a, x < 256) → (∀ x ∈ b, x < 256) → a.map UInt8.ofNat = b.map UInt8.ofNat → a = b
  | [], [], _, _, _ => rfl
  | [], _ :: _, _, _, h => by simp at h
  | _ :: _, [], _, _, h => by simp at h
  | a :: x, b :: y, ha, hb, h => by
    simp only [List.map_cons, List.cons.injEq] at h
    have h1 : a = b := by
      have := congrArg UInt8.toNat h.1
      rwa [UInt8.toNat_ofNat_of_lt' (ha a (List.mem_cons_self ..)), UInt8.toNat_ofNat_of_lt' (hb b (List.mem_cons_self ..))] at this
    rw [h1, map_ofNat_inj (fun x hx => ha x (List.mem_cons_of_mem _ hx)) (fun x hx => hb x (List.mem_cons_of_mem _ hx)) h.2]
theorem mkS_beq {a b : List Nat} (ha : ∀ x ∈ a, x < 256) (hb : ∀ x ∈ b, x < 256) : ((mkS a).toList == (mkS b).toList) = natsBeq a b := by
  rw [mkS_toList, mkS_toList]
  by_cases h : a = b
  · subst h; rw [(natsBeq_iff a a).2 rfl]; simp
  · have h1 : natsBeq a b = false := Bool.eq_false_iff.2 fun e => h ((natsBeq_iff a b).1 e)
    rw [h1, beq_eq_false_iff_ne]
    exact fun e => h (map_ofNat_inj ha hb e)
theorem mkS_less : ∀ {a b : List Nat}, (∀ x ∈ a, x < 256) → (∀ x ∈ b, x < 256) → Op.bytesLess (a.map UInt8.ofNat) (b.map UInt8.ofNat) = bytesLess a b
  | a, [], _, _ => by cases a <;> rfl
  | [], _ :: _, _, _ => rfl
  | a :: x, b :: y, ha, hb => by
    have a1 := ha a (List.mem_cons_self ..)
    have b1 := hb b (List.mem_cons_self ..)
    have ih := mkS_less (fun x hx => ha x (List.mem_cons_of_mem _ hx)) (fun x hx => hb x (List.mem_cons_of_mem _ hx)) (a := x) (b := y)
    have hlt : (UInt8.ofNat a < UInt8.ofNat b) ↔ a < b := by
      rw [UInt8.lt_iff_toNat_lt, UInt8.toNat_ofNat_of_lt' a1, UInt8.toNat_ofNat_of_lt' b1]
    have heq : (UInt8.ofNat a == UInt8.ofNat b) = decide (a = b) := by
      by_cases h : a = b
      · subst h; simp
      · simp only [h, decide_false, beq_eq_false_iff_ne]
        intro e
        have := congrArg UInt8.toNat e
        rw [UInt8.toNat_ofNat_of_lt' a1, UInt8.toNat_ofNat_of_lt' b1] at this
        exact h this
    simp only [List.map_cons, Op.bytesLess, bytesLess, nblt, nbeq, Bool.cond_decide, ih, hlt, heq]
    by_cases h1 : a < b
    · simp [h1]
    · by_cases h2 : a = b <;> simp [h1, h2]
theorem mkS_size (s : List Nat) : (mkS s).size = s.length := by
  show (List.toArray (s.map UInt8.ofNat)).size = _
  simp
theorem mkS_app (a b : List Nat) : mkS a ++ mkS b = mkS (a ++ b) := by
  unfold mkS; rw [ByteArray.mk_append_mk, List.map_append]
theorem lt_app {a b : List Nat} (ha : ∀ x ∈ a, x < 256) (hb : ∀ x ∈ b, x < 256) : ∀ x ∈ a ++ b, x < 256 := fun x hx => (List.mem_append.1 hx).elim (ha x) (hb x)

theorem boolBeq_eq (a b : Bool) : boolBeq a b = (a == b) := by cases a <;> cases b <;> rfl
theorem eq_run {t : TypeId} {d : TypeDesc} {x y : Value} {r : Bool} (hu : P.underlying t = some d)
    (hr : ∀ n, (Op.equalIn (n + 1) t x y).run P w = .ok r w) : (Op.equal t x y).run P w = .ok r w := hr 9999
theorem nilEq_sound {t : TypeId} {d : TypeDesc} {x : AV} {a b : Value} {r : Bool} (hu : P.underlying t = some d) (hx : VR σ x a) (hq : nilEq d x b = some r) :
    (∀ n, (Op.equalIn (n + 1) t a b).run P w = .ok r w) ∧ Go.binOp .eql t a b = (do pure (.bool (← Op.equal t a b))) ∧ Go.binOp .neq t a b = (do pure (.bool (!(← Op.equal t a b)))) := by
  have fin : ∀ (r' : Bool), r' = r → (∀ n, (Op.equalIn (n + 1) t a b).run P w = .ok r' w) → Go.binOp .eql t a b = (do pure (.bool (← Op.equal t a b))) → Go.binOp .neq t a b = (do pure (.bool (!(← Op.equal t a b)))) → _ :=
    fun r' hr h1 h2 h3 => (⟨hr ▸ h1, h2, h3⟩ : (∀ n, (Op.equalIn (n + 1) t a b).run P w = .ok r w) ∧ Go.binOp .eql t a b = (do pure (.bool (← Op.equal t a b))) ∧ Go.binOp .neq t a b = (do pure (.bool (!(← Op.equal t a b)))))
  unfold nilEq at hq
  split at hq
  · split at hq
    · split at hq <;> try (cases hq; done)
      · obtain ⟨e, he, rfl⟩ := hx
        exact fin false (by simpa using hq) (fun n => by simp only [Op.equalIn, Sem.run_bind, ru hu, Result.andThen_ok]; rfl) rfl rfl
      · obtain ⟨rfl, _⟩ := hx
        exact fin true (by simpa using hq) (fun n => by simp only [Op.equalIn, Sem.run_bind, ru hu, Result.andThen_ok]; rfl) rfl rfl
    · cases hq
  · split at hq
    · split at hq <;> try (cases hq; done)
      · obtain ⟨e, c, he, rfl, hc⟩ := hx
        exact fin false (by simpa using hq) (fun n => by simp only [Op.equalIn, Sem.run_bind, ru hu, Result.andThen_ok]; rfl) rfl rfl
      · obtain ⟨ad, c, rfl, hc⟩ := hx
        exact fin false (by simpa using hq) (fun n => by simp only [Op.equalIn, Sem.run_bind, ru hu, Result.andThen_ok]; rfl) rfl rfl
      · obtain ⟨rfl, _⟩ := hx
        exact fin true (by simpa using hq) (fun n => by simp only [Op.equalIn, Sem.run_bind, ru hu, Result.andThen_ok]; rfl) rfl rfl
    · cases hq
  · split at hq
    · split at hq <;> try (cases hq; done)
      · obtain ⟨e, he, rfl⟩ := hx
        exact fin false (by simpa using hq) (fun n => by simp only [Op.equalIn, Sem.run_bind, ru hu, Result.andThen_ok]; rfl) rfl rfl
      · obtain ⟨rfl, _⟩ := hx
        exact fin true (by simpa using hq) (fun n => by simp only [Op.equalIn, Sem.run_bind, ru hu, Result.andThen_ok]; rfl) rfl rfl
    · cases hq
  · split at hq
    · split at hq <;> try (cases hq; done)
      · obtain ⟨x', y', rfl, _, _⟩ := hx
        exact fin false (by simpa using hq) (fun n => by simp only [Op.equalIn, Sem.run_bind, ru hu, Result.andThen_ok]; rfl) rfl rfl
      · obtain ⟨e, he, rfl⟩ := hx
        exact fin false (by simpa using hq) (fun n => by simp only [Op.equalIn, Sem.run_bind, ru hu, Result.andThen_ok]; rfl) rfl rfl
      · obtain ⟨rfl, _⟩ := hx
        exact fin true (by simpa using hq) (fun n => by simp only [Op.equalIn, Sem.run_bind, ru hu, Result.andThen_ok]; rfl) rfl rfl
    · cases hq
  · split at hq
    · split at hq <;> try (cases hq; done)
      · obtain ⟨y, rfl, _⟩ := hx
        exact fin false (by simpa using hq) (fun n => by simp only [Op.equalIn, Sem.run_bind, ru hu, Result.andThen_ok]; rfl) rfl rfl
    · cases hq
  · cases hq
theorem bin_sound {op : BinOp} {t : TypeId} {x y v : AV} {a b : Value} (hx : VR σ x a) (hy : VR σ y b) (hq : abin P op t x y = some v) :
    ∃ u, (Go.binOp op t a b).run P w = .ok u w ∧ VR σ v u := by
  cases y with
  | int k n =>
    cases x <;> simp only [abin] at hq <;> try cases hq
    obtain rfl := hx; obtain rfl := hy
    cases hs : semVal (Go.binOp op t (.int ‹_› ‹_›) (.int k n)) with
    | none => simp [hs] at hq
    | some r =>
      refine ⟨r, semVal_run hs, ?_⟩
      rw [hs] at hq
      cases r <;> simp only [] at hq <;> first | (cases hq; done) | (injection hq with hq; subst hq; rfl)
  | str s =>
    cases x <;> simp only [abin] at hq <;> try cases hq
    rename_i s'
    obtain ⟨rfl, hs'⟩ := hx; obtain ⟨rfl, hs⟩ := hy
    have e1 := mkS_beq hs' hs
    have e2 : Op.bytesLess (mkS s').toList (mkS s).toList = bytesLess s' s := by rw [mkS_toList, mkS_toList]; exact mkS_less hs' hs
    have e0 : Go.binOp op t (.string (mkS s')) (.string (mkS s)) = Op.stringOp op (mkS s') (mkS s) := by cases op <;> rfl
    rw [e0]
    cases op <;> simp only [] at hq <;> try cases hq
    case add =>
      rw [nble, Bool.cond_decide] at hq
      split at hq
      · rename_i hle
        injection hq with hq; subst hq
        refine ⟨_, ?_, ⟨rfl, lt_app hs' hs⟩⟩
        exact (run_string_add_sum (P := P) w (mkS s') (mkS s) (by rw [mkS_size, mkS_size]; omega)).trans (by rw [mkS_app])
      · cases hq
    all_goals exact ⟨_, by simp only [Op.stringOp, e1, e2]; rfl, rfl⟩
  | bool b' =>
    cases x <;> simp only [abin] at hq <;> try (cases hq; done)
    rename_i b0
    obtain rfl := hx; obtain rfl := hy
    have key : P.underlying t = some .bool → (Op.equal t (.bool b0) (.bool b')).run P w = .ok (b0 == b') w := fun hu =>
      eq_run hu fun n => by simp only [Op.equalIn, Sem.run_bind, ru hu, Result.andThen_ok]; rfl
    cases op <;> try (cases hq; done)
    all_goals (cases hu : P.underlying t with
      | none => simp [hu] at hq
      | some d =>
        cases d <;> simp only [hu] at hq <;> try (cases hq; done)
        injection hq with hq; subst hq
        refine ⟨_, ?_, rfl⟩
        simp [Go.binOp, key hu, boolBeq_eq])
  | lit l =>
    obtain ⟨rfl, hl⟩ := hy
    have hq' : (match P.underlying t with
        | none => none
        | some d => nilOp op (nilEq d x b)) = some v := by cases x <;> exact hq
    cases hu : P.underlying t with
    | none => simp [hu] at hq'
    | some d =>
      simp only [hu] at hq'
      cases hn : nilEq d x b with
      | none => simp [hn, nilOp] at hq'
      | some r =>
        obtain ⟨h1, h2⟩ := nilEq_sound (P := P) (w := w) hu hx hn
        cases op <;> simp only [hn, nilOp] at hq' <;> try (cases hq'; done)
        · injection hq' with hq'; subst hq'
          exact ⟨.bool r, by rw [h2.1]; simp [eq_run hu h1], rfl⟩
        · injection hq' with hq'; subst hq'
          exact ⟨.bool (!r), by rw [h2.2]; simp [eq_run hu h1], rfl⟩
  | _ => cases x <;> simp only [abin] at hq <;> cases hq
end
end Go.Proofs.YtllipkakgjmheaaGreatDoor.Ev

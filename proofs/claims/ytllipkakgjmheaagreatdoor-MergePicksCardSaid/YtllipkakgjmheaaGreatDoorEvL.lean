/-
  The abstract machine: ranges over maps, append.
-/
import Derived.Test.YtllipkakgjmheaaGreatDoorEvK
set_option linter.unusedVariables false
set_option linter.unusedSimpArgs false
set_option linter.constructorNameAsVariable false
namespace Go.Proofs.YtllipkakgjmheaaGreatDoor.Ev
open Go Go.RowKit

section
variable {P : Program} {ng n0 : Nat} {σ : Sg} {h : AH} {w : World}

theorem new_eff (R : HR ng n0 σ h w) {b : ABlock} {o : Obj} {e : Loc} {w' : World} {v : AV} {u : Value} {s : Sem Next} (hs : s.run P w = .ok (.value u) w') (hp : Push o w w') (he : e.blk = w.heap.size)
    (hb : BR (σ.put h.next e) w' e b) (hv : VR (σ.put h.next e) v u) : Eff P ng n0 σ h w v (h.new b) s := by
  refine ⟨σ.put h.next e, w', .value u, hs, Sg.le_put (R.fresh _ (Nat.le_refl _)), R.new hb hp he, hp.below R.big, fun k hk => Sg.put_ne σ e (by omega), Nat.le_succ _, .inl ⟨u, rfl, hv⟩⟩

theorem range_sound (R : HR ng n0 σ h w) {t : TypeId} {x : AV} {xv : Value} {b : ABlock} (hx : VR σ x xv) (hq : arange P h t x = some b) :
    Eff P ng n0 σ h w (.ptr h.next 0) (h.new b) (do pure (.value (← Instr.range t xv))) := by
  unfold arange at hq
  split at hq
  · rename_i s hu
    obtain ⟨rfl, hs⟩ := hx
    injection hq with hq; subst hq
    exact new_eff R (o := .stringIter (mkS s) 0) (e := ⟨w.heap.size, 0, 0⟩) (u := .pointer (some ⟨w.heap.size, 0, none⟩)) (by simp [Instr.range, ru hu]) (Push.new _ _) rfl ⟨rfl, by simp⟩ ⟨_, Sg.put_same _ _ _, rfl⟩
  · rename_i a c m hu
    obtain ⟨e, he, rfl⟩ := hx
    cases hb : h.get m with
    | none => simp [hb] at hq
    | some bl =>
      cases bl <;> simp only [hb] at hq <;> try (cases hq; done)
      rename_i es clock
      injection hq with hq; subst hq
      obtain ⟨es', hw, hr⟩ := R.blk m e _ he hb
      have hle : σ.le (σ.put h.next ⟨w.heap.size, 0, 0⟩) := Sg.le_put (R.fresh _ (Nat.le_refl _))
      exact new_eff R (o := .mapIter (some e.blk) clock #[] clock) (e := ⟨w.heap.size, 0, 0⟩) (u := .pointer (some ⟨w.heap.size, 0, none⟩)) (by simp [Instr.range, ru hu, getObj, Sem.run, hw]) (Push.new _ _) rfl ⟨rfl, e, hle _ _ he, by simp⟩ ⟨_, Sg.put_same _ _ _, rfl⟩
  · cases hq

theorem hasNat_eq (l : List Nat) (n : Nat) : hasNat l n = l.toArray.contains n := by
  unfold hasNat
  induction l with
  | nil => simp
  | cons a l ih =>
    simp only [List.any_cons, ih, nbeq]
    simp only [List.contains_toArray, List.contains_cons]
    congr 1
theorem filter_rel (seen : List Nat) : ∀ {es : List (AV × AV × Nat)} {es' : List MapEntry}, ERs σ es es' → ERs σ (es.filter fun e => !hasNat seen e.2.2) (es'.filter fun e => !seen.toArray.contains e.born)
  | [], [], _ => trivial
  | [], _ :: _, r => r.elim
  | _ :: _, [], r => r.elim
  | e :: es, e' :: es', r => by
    have hb : e'.born = e.2.2 := r.1.2.2
    rw [List.filter_cons, List.filter_cons, hb, ← hasNat_eq]
    by_cases hc : hasNat seen e.2.2 = true
    · simp only [hc]; exact filter_rel seen r.2
    · simp only [hc]; exact ⟨r.1, filter_rel seen r.2⟩
theorem any_rel (last : Nat) : ∀ {es : List (AV × AV × Nat)} {es' : List MapEntry}, ERs σ es es' → es.any (fun e => Nat.blt e.2.2 last) = true → es'.all (fun e => decide (e.born ≥ last)) = false ∧ es' ≠ []
  | [], [], _, h => by simp at h
  | [], _ :: _, r, _ => r.elim
  | _ :: _, [], r, _ => r.elim
  | e :: es, e' :: es', r, h => by
    refine ⟨?_, by simp⟩
    have hb : e'.born = e.2.2 := r.1.2.2
    simp only [List.any_cons, Bool.or_eq_true] at h
    rw [nblt, decide_eq_true_eq] at h
    simp only [List.all_cons, Bool.and_eq_false_iff, decide_eq_false_iff_not]
    rcases h with h | h
    · left; omega
    · right; exact (any_rel last r.2 h).1

theorem ERs.nil_eq : ∀ {l : List MapEntry}, ERs σ [] l → l = []
  | [], _ => rfl
  | _ :: _, r => r.elim
theorem ERs.single {e : AV × AV × Nat} : ∀ {l : List MapEntry}, ERs σ [e] l → ∃ e', l = [e'] ∧ ER σ e e'
  | [], r => r.elim
  | [e'], r => ⟨e', rfl, r.1⟩
  | _ :: _ :: _, r => r.2.elim

theorem next_sound (R : HR ng n0 σ h w) {ty : TypeId} {x v : AV} {xv : Value} {h' : AH} (hx : VR σ x xv) (hq : anext h x = some (v, h')) :
    Eff P ng n0 σ h w v h' (do pure (.value (← Instr.next xv false ty))) := by
  unfold anext at hq
  split at hq
  · rename_i k
    obtain ⟨e, he, rfl⟩ := hx
    cases hb : h.get k with
    | none => simp [hb] at hq
    | some bl =>
      cases bl <;> simp only [hb] at hq <;> try (cases hq; done)
      rename_i m since seen last
      obtain ⟨hbase, e', he', hw⟩ := R.blk k e _ he hb
      cases hm : h.get m with
      | none => simp [hm] at hq
      | some bm =>
        cases bm <;> simp only [hm] at hq <;> try (cases hq; done)
        rename_i es clock
        obtain ⟨es', hw', hr⟩ := R.blk m e' _ he' hm
        have hfil := filter_rel seen hr
        have hleft : (es'.filter fun e => !seen.toArray.contains e.born).toList = es'.toList.filter fun e => !seen.toArray.contains e.born := Array.toList_filter ..
        have hg1 : (getObj e.blk).run P w = .ok (.mapIter (some e'.blk) since seen.toArray last) w := by simp [getObj, Sem.run, hw]
        have hg2 : (getObj e'.blk).run P w = .ok (.map es' clock) w := by simp [getObj, Sem.run, hw']
        have over : es.filter (fun e => !hasNat seen e.2.2) = [] → (seen = [] ∨ es.any (fun e => Nat.blt e.2.2 last) = true) → (Instr.next (.pointer (some (e.at 0))) false ty).run P w = .ok (.tuple #[.bool false]) w := fun h1 h2 => by
          rw [h1] at hfil
          have hnil : es'.filter (fun e => !seen.toArray.contains e.born) = #[] := by
            apply Array.ext'
            rw [hleft, ERs.nil_eq hfil]
          have hcond : (!seen.toArray.isEmpty && !es'.isEmpty && es'.all (fun e => decide (e.born ≥ last))) = false := by
            rcases h2 with rfl | h2
            · simp
            · have := (any_rel last hr h2).1
              rw [Array.all_toList] at this
              simp [this]
          simp only [Instr.next, Loc.at, hbase, Nat.add_zero, Sem.run_bind, hg1, Result.andThen_ok, hg2, hcond, Bool.false_eq_true, if_false, hnil]
          simp [Question.forced]
        have one : ∀ en, es.filter (fun e => !hasNat seen e.2.2) = [en] → Nat.blt en.2.2 since = true → (seen = [] ∨ es.any (fun e => Nat.blt e.2.2 last) = true) →
            Eff P ng n0 σ h w (.tuple [.bool true, en.1, en.2.1]) (h.put k (.mapIter m since (seen ++ [en.2.2]) clock)) (do pure (.value (← Instr.next (.pointer (some (e.at 0))) false ty))) := fun en h1 h3 h2 => by
          rw [h1] at hfil
          obtain ⟨en', hen', her⟩ := ERs.single hfil
          have hone : es'.filter (fun e => !seen.toArray.contains e.born) = #[en'] := by
            apply Array.ext'; rw [hleft, hen']
          have hcond : (!seen.toArray.isEmpty && !es'.isEmpty && es'.all (fun e => decide (e.born ≥ last))) = false := by
            rcases h2 with rfl | h2
            · simp
            · have := (any_rel last hr h2).1
              rw [Array.all_toList] at this
              simp [this]
          have hlt : en'.born < since := by rw [her.2.2]; simpa [nblt] using h3
          have hob := obj_sound (P := P) R (b' := .mapIter m since (seen ++ [en.2.2]) clock) (o' := .mapIter (some e'.blk) since (seen.toArray.push en'.born) clock) he hb rfl hw rfl (fun w' hw2 => ⟨hbase, e', he', by rw [hw2, her.2.2]; simp⟩)
          refine ⟨σ, _, .value (.tuple #[.bool true, en'.key, en'.val]), ?_, Sg.le.refl σ, hob.2.1, hob.2.2, fun _ _ => rfl, Nat.le_refl _, .inl ⟨_, rfl, _, rfl, rfl, her.1, her.2.1, trivial⟩⟩
          have hn1 : ¬ since ≤ en'.born := by omega
          simp only [Instr.next, Loc.at, hbase, Nat.add_zero, Sem.run_bind, hg1, Result.andThen_ok, hg2, hcond, Bool.false_eq_true, if_false, hone]
          have hob1 := hob.1
          rw [show seen.toArray.push en'.born = (seen ++ [en'.born]).toArray by simp] at hob1
          simp [Question.forced, hlt, hn1, hob1]
        split at hq
        · rename_i h1
          injection hq with hq; injection hq with e1 e2; subst e1; subst e2
          exact ⟨σ, w, .value (.tuple #[.bool false]), by simp [over h1 (.inl rfl)], Sg.le.refl σ, R, Below.refl _ _, fun _ _ => rfl, Nat.le_refl _, .inl ⟨.tuple #[.bool false], rfl, #[.bool false], rfl, rfl, trivial⟩⟩
        · rename_i en h1
          cases hlt : Nat.blt en.2.2 since with
          | false => simp [hlt] at hq
          | true =>
            simp only [hlt, cond_true] at hq
            injection hq with hq; injection hq with e1 e2; subst e1; subst e2
            exact one en h1 hlt (.inl rfl)
        · rename_i s1 s2 h1
          cases ha : es.any (fun e => Nat.blt e.2.2 last) with
          | false => simp [ha] at hq
          | true =>
            simp only [ha, cond_true] at hq
            injection hq with hq; injection hq with e1 e2; subst e1; subst e2
            exact ⟨σ, w, .value (.tuple #[.bool false]), by simp [over h1 (.inr ha)], Sg.le.refl σ, R, Below.refl _ _, fun _ _ => rfl, Nat.le_refl _, .inl ⟨.tuple #[.bool false], rfl, #[.bool false], rfl, rfl, trivial⟩⟩
        · rename_i s1 s2 en h1
          cases ha : (es.any (fun e => Nat.blt e.2.2 last) && Nat.blt en.2.2 since) with
          | false => simp [ha] at hq
          | true =>
            simp only [ha, cond_true] at hq
            injection hq with hq; injection hq with e1 e2; subst e1; subst e2
            rw [Bool.and_eq_true] at ha
            exact one en h1 ha.2 (.inr ha.1)
        · cases hq
  · cases hq

/-! ### append -/
theorem firstCells_run (R : HR ng n0 σ h w) {size n : Nat} {x : AV} {xv : Value} {vs : List AV} (hx : VR σ x xv) (hq : appended h size x = some (n, vs)) :
    ∃ c : Array Value, (Builtin.lenOf xv).run P w = .ok n w ∧ (Builtin.firstCells size n xv).run P w = .ok c w ∧ VRs σ vs c.toList ∧ vs.all AV.one = true ∧ vs.length = n * size := by
  unfold appended at hq
  split at hq
  · rename_i l c0
    obtain ⟨rfl, _⟩ := hx
    rw [nbeq, Bool.cond_decide] at hq
    split at hq
    · rename_i h0
      injection hq with hq; injection hq with e1 e2; subst e1; subst e2
      exact ⟨#[], by simp [Builtin.lenOf, h0], by simp [Builtin.firstCells], trivial, rfl, by simp⟩
    · cases hq
  · obtain ⟨a, c, rfl, _⟩ := hx
    injection hq with hq; injection hq with e1 e2; subst e1; subst e2
    exact ⟨#[], by simp [Builtin.lenOf], by simp [Builtin.firstCells, loadCells, loadCellsFrom], trivial, rfl, by simp⟩
  · rename_i k off l cap
    obtain ⟨e, c, he, rfl, _⟩ := hx
    rw [nbeq, Bool.cond_decide] at hq
    split at hq
    · rename_i h0
      injection hq with hq; injection hq with e1 e2; subst e1; subst e2
      exact ⟨#[], by simp [Builtin.lenOf, h0], by simp [Builtin.firstCells, loadCells, loadCellsFrom], trivial, rfl, by simp⟩
    · cases hb : h.get k with
      | none => simp [hb] at hq
      | some bl =>
        cases bl <;> simp only [hb] at hq <;> try (cases hq; done)
        rename_i ro cs
        rw [nbeq] at hq
        cases hc : (decide (((cs.drop off).take (l * size)).length = l * size) && ((cs.drop off).take (l * size)).all AV.one) with
        | false => rw [hc] at hq; cases hq
        | true =>
          rw [hc, cond_true] at hq
          rw [Bool.and_eq_true, decide_eq_true_eq] at hc
          injection hq with hq; injection hq with e1 e2; subst e1; subst e2
          obtain ⟨vs, g1, g2, g3⟩ := br_cells (P := P) (R.blk k e _ he hb) hc.1
          exact ⟨vs.toArray, by simp [Builtin.lenOf], by simp [Builtin.firstCells, g3], by simpa using g2, hc.2, hc.1⟩
  · rename_i s
    obtain ⟨rfl, hs⟩ := hx
    rw [nbeq, Bool.cond_decide] at hq
    split at hq
    · rename_i h1
      injection hq with hq; injection hq with e1 e2; subst e1; subst e2; subst h1
      refine ⟨((mkS s).extract 0 s.length).data.map fun b => .int .u8 b.toNat, by simp [Builtin.lenOf, mkS_size], by simp [Builtin.firstCells], ?_, ?_, by simp⟩
      · have : (mkS s).extract 0 s.length = mkS s := by
          unfold mkS; rw [ByteArray.extract_mk, Nat.sub_zero, List.drop_zero, List.take_of_length_le (by simp)]
        rw [this]
        show VRs σ _ ((s.map UInt8.ofNat).toArray.map fun b => Value.int .u8 b.toNat).toList
        rw [Array.toList_map, List.toList_toArray, List.map_map]
        refine VRs.map _ _ _ fun b hb => ?_
        have := hs b hb
        simp only [VR, Function.comp, UInt8.toNat_ofNat_of_lt' this, Nat.mod_eq_of_lt this]; rfl
      · rw [List.all_map]; apply List.all_eq_true.2; intro _ _; rfl
    · cases hq
  · cases hq
end
end Go.Proofs.YtllipkakgjmheaaGreatDoor.Ev

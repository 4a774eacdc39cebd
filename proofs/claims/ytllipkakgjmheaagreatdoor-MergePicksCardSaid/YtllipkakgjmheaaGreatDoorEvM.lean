/-
  The abstract machine: append.
-/
import Derived.Test.YtllipkakgjmheaaGreatDoorEvL
set_option linter.unusedVariables false
set_option linter.unusedSimpArgs false
set_option linter.constructorNameAsVariable false
namespace Go.Proofs.YtllipkakgjmheaaGreatDoor.Ev
open Go Go.RowKit

section
variable {P : Program} {ng n0 : Nat} {σ : Sg} {h : AH} {w : World}

theorem growBy_le (newLen : Nat) : ∀ (r c : Nat), c ≤ newLen + (newLen + 768) / 4 → Builtin.growBy newLen r c ≤ newLen + (newLen + 768) / 4
  | 0, c, h => h
  | r + 1, c, h => by
    unfold Builtin.growBy
    split
    · exact h
    · exact growBy_le newLen r _ (by omega)
theorem nextcap_le {need c : Nat} (h : c < need) : Builtin.nextslicecap need c ≤ 2 * need + 200 := by
  unfold Builtin.nextslicecap
  split
  · omega
  · split
    · omega
    · have := growBy_le need 4 c (by omega)
      omega


def _root_.Go.TypeDesc.isInt : TypeDesc → Bool
  | .int _ => true
  | _ => false
theorem append_run {ats : Array TypeId} {ty st xt elem : TypeId} {sv xv : Value} {base : Option Addr} {sLen sCap n : Nat} {xd : TypeDesc} {info : TypeInfo} {z : Value} {r : Result Value}
    (ha0 : ats[0]? = some st) (ha1 : ats[1]? = some xt) (hst : P.underlying st = some (.slice elem)) (hxt : P.underlying xt = some xd) (hi : P.info? elem = some info) (hz : ∀ w', (zeroValue elem).run P w' = .ok z w')
    (hs : sv = .slice base sLen sCap) (happ : Sem (Array Value))
    (hn : (xd.isInt = false ∧ (Builtin.lenOf xv).run P w = .ok n w ∧ happ = Builtin.firstCells info.size n xv) ∨
      (xd.isInt = true ∧ (∃ k, xv = .int k (n : Int)) ∧ n ≤ 1000000 ∧ info.bytes ≤ 1000000 ∧ happ = (if n * info.size = 0 then pure #[] else do pure (Builtin.zeroCells (← zeroValue elem).cells n))))
    (hb : info.bytes ≤ 1000000) (hN : n ≤ 1000000) (hin : sLen + n ≤ sCap ∨ sLen ≤ 1000000)
    (hr : (if sLen + n ≤ sCap then (do
        let new ← happ
        if let some a := base then storeCells (a.add (sLen * info.size)) new.toList
        pure (.slice base (sLen + n) sCap) : Sem Value)
      else (do
        let newCap ← choose (.appendCap (sLen + n) sCap elem)
        let old ← Builtin.firstCells info.size sLen sv
        let new ← happ
        pure (.slice (some (← newRow elem (old ++ new ++ Builtin.zeroCells z.cells (newCap - (sLen + n))))) (sLen + n) newCap))).run P w = r) :
    (Builtin.append_ ats ty #[sv, xv]).run P w = r := by
  subst hs
  rcases hn with ⟨h1, h2, h3⟩ | ⟨h1, ⟨k, rfl⟩, h2, h3, h4⟩
  · subst h3
    have e0 : (#[Value.slice base sLen sCap, xv] : Array Value)[0]? = some (.slice base sLen sCap) := rfl
    have e1 : (#[Value.slice base sLen sCap, xv] : Array Value)[1]? = some xv := rfl
    have hi2 : ∀ w', (typeInfo elem).run P w' = .ok info w' := fun w' => ri hi
    have hs2 : ∀ w', (sizeOf elem).run P w' = .ok info.size w' := fun w' => rs (ri_size hi)
    cases xd <;> first | (simp [TypeDesc.isInt] at h1; done) | skip
    all_goals
      by_cases hneed : sLen + n ≤ sCap
      · simp only [hneed, if_true, Sem.run_bind] at hr
        simp only [Builtin.append_, ha0, ha1, e0, e1, Sem.run_bind, ru hst, Result.andThen_ok, hs2, ru hxt, Sem.run_pure, h2, Bool.not_false, if_true, Bool.false_eq_true, if_false, hneed]
        exact hr
      · have hl : sLen ≤ 1000000 := hin.resolve_left hneed
        have c1 : ¬ (((sLen + n : Nat) : Int) > IntKind.i64.max ∧ (False ∨ info.bytes = 0)) := fun ⟨hx, _⟩ => by
          rw [IntKind.max_i64] at hx; omega
        have c2 : ¬ Builtin.nextslicecap (sLen + n) sCap * info.bytes > 2 ^ 48 := by
          have h1 := nextcap_le (need := sLen + n) (c := sCap) (by omega)
          have h2 : Builtin.nextslicecap (sLen + n) sCap * info.bytes ≤ 5000000 * 1000000 := Nat.mul_le_mul (by omega) hb
          omega
        simp only [hneed, if_false, Sem.run_bind] at hr
        simp only [Builtin.append_, ha0, ha1, e0, e1, Sem.run_bind, ru hst, Result.andThen_ok, hs2, hi2, ru hxt, Sem.run_pure, h2, Bool.not_false, if_true, Bool.false_eq_true, if_false, hneed, c1, c2, run_askRoom, hz]
        simp only [Sem.run_pure] at hr
        exact hr
  · subst h4
    cases xd <;> first | (simp [TypeDesc.isInt] at h1; done) | skip
    have e0 : (#[Value.slice base sLen sCap, Value.int k (n : Int)] : Array Value)[0]? = some (.slice base sLen sCap) := rfl
    have e1 : (#[Value.slice base sLen sCap, Value.int k (n : Int)] : Array Value)[1]? = some (.int k (n : Int)) := rfl
    have hi2 : ∀ w', (typeInfo elem).run P w' = .ok info w' := fun w' => ri hi
    have hs2 : ∀ w', (sizeOf elem).run P w' = .ok info.size w' := fun w' => rs (ri_size hi)
    have c3 : ¬ ((n : Int) < 0) := by omega
    have c4 : ¬ ((n : Int) * (info.bytes : Int) > 2 ^ 48) := by
      have : n * info.bytes ≤ 1000000 * 1000000 := Nat.mul_le_mul h2 h3
      have : ((n * info.bytes : Nat) : Int) ≤ 1000000 * 1000000 := Int.ofNat_le.2 this
      rw [Int.natCast_mul] at this
      omega
    by_cases hneed : sLen + n ≤ sCap
    · simp only [hneed, if_true, Sem.run_bind] at hr
      simp only [Builtin.append_, ha0, ha1, e0, e1, Sem.run_bind, ru hst, Result.andThen_ok, hs2, hi2, ru hxt, Sem.run_pure, asInt, asIntOf, wrap_small (Nat.le_trans h2 (by decide)), c3, c4, if_false, Bool.not_true, Bool.false_eq_true, if_true, Int.toNat_natCast, hneed]
      exact hr
    · have hl : sLen ≤ 1000000 := hin.resolve_left hneed
      have c1 : ¬ (((sLen + n : Nat) : Int) > IntKind.i64.max ∧ (True ∨ info.bytes = 0)) := fun ⟨hx, _⟩ => by
        rw [IntKind.max_i64] at hx; omega
      have c2 : ¬ Builtin.nextslicecap (sLen + n) sCap * info.bytes > 2 ^ 48 := by
        have h1 := nextcap_le (need := sLen + n) (c := sCap) (by omega)
        have h2 : Builtin.nextslicecap (sLen + n) sCap * info.bytes ≤ 5000000 * 1000000 := Nat.mul_le_mul (by omega) hb
        omega
      simp only [hneed, if_false, Sem.run_bind] at hr
      simp only [Builtin.append_, ha0, ha1, e0, e1, Sem.run_bind, ru hst, Result.andThen_ok, hs2, hi2, ru hxt, Sem.run_pure, asInt, asIntOf, wrap_small (Nat.le_trans h2 (by decide)), c3, c4, if_false, Bool.not_true, Bool.false_eq_true, if_true, Int.toNat_natCast, hneed, c1, c2, run_askRoom, hz]
      simp only [Sem.run_pure] at hr
      exact hr

/-- what is shown of an append: the slice's parts, and the run of its body -/
def AppEff (P : Program) (ng n0 : Nat) (σ : Sg) (h : AH) (w : World) (elem size n : Nat) (z : Value) (happ : Sem (Array Value)) (sv : Value) (v : AV) (h' : AH) : Prop :=
  ∃ base sLen sCap, sv = .slice base sLen sCap ∧ (sLen + n ≤ sCap ∨ sLen ≤ 1000000) ∧ ∃ u w' σ',
    (if sLen + n ≤ sCap then (do
        let new ← happ
        if let some a := base then storeCells (a.add (sLen * size)) new.toList
        pure (.slice base (sLen + n) sCap) : Sem Value)
      else (do
        let newCap ← choose (.appendCap (sLen + n) sCap elem)
        let old ← Builtin.firstCells size sLen sv
        let new ← happ
        pure (.slice (some (← newRow elem (old ++ new ++ Builtin.zeroCells z.cells (newCap - (sLen + n))))) (sLen + n) newCap))).run P w = .ok u w' ∧
    σ.le σ' ∧ HR ng n0 σ' h' w' ∧ Below n0 w w' ∧ (∀ k, k < h.next → σ' k = σ k) ∧ h.next ≤ h'.next ∧ VR σ' v u

theorem grow_core (R : HR ng n0 σ h w) {elem size n sLen sCap : Nat} {z : Value} {happ : Sem (Array Value)} {sv : Value} {base : Option Addr} {vs old : List AV} (hsv : sv = .slice base sLen sCap)
    (HAPP : ∀ w2, w2.heap = w.heap → ∃ c, happ.run P w2 = .ok c w2 ∧ VRs σ vs c.toList) (hvl : vs.length = n * size) (hz : z.cells.size = size)
    (hold : ∀ w2, w2.heap = w.heap → ∃ c, (Builtin.firstCells size sLen sv).run P w2 = .ok c w2 ∧ VRs σ old c.toList) (hol : old.length = sLen * size) (hneed : ¬ sLen + n ≤ sCap) (hl : sLen ≤ 1000000) {h1' : AH} (h1 : HR ng n0 σ h1' w) (hnx : h1'.next = h.next) :
    AppEff P ng n0 σ h w elem size n z happ sv (.slice h.next 0 (sLen + n) (.room size)) (h1'.new (.cells false (old ++ vs))) := by
  subst hsv
  refine ⟨base, sLen, sCap, rfl, .inr hl, ?_⟩
  obtain ⟨c1, g1, g2⟩ := hold w.drew rfl
  obtain ⟨c2, g3, g4⟩ := HAPP w.drew rfl
  have l1 : c1.size = sLen * size := by rw [← Array.length_toList, ← VRs.length g2, hol]
  have l2 : c2.size = n * size := by rw [← Array.length_toList, ← VRs.length g4, hvl]
  let g := (Question.appendCap (sLen + n) sCap elem).cut (w.tape w.drawn (.appendCap (sLen + n) sCap elem))
  have hg : sLen + n ≤ g := by show _ ≤ Question.cut _ _; unfold Question.cut; simp
  let C := c1 ++ c2 ++ Builtin.zeroCells z.cells (g - (sLen + n))
  have hzl : (Builtin.zeroCells z.cells (g - (sLen + n))).size = (g - (sLen + n)) * size := by
    simp [Builtin.zeroCells, hz]
  have hC : C.size = g * size := by
    show (c1 ++ c2 ++ Builtin.zeroCells z.cells (g - (sLen + n))).size = _
    rw [Array.size_append, Array.size_append, l1, l2, hzl, ← Nat.add_mul, ← Nat.add_mul]
    congr 1; omega
  let w' : World := { w.drew with heap := w.heap.push (.cells C elem) }
  have hp : Push (.cells C elem) w w' := ⟨rfl, rfl, rfl, rfl⟩
  let e : Loc := ⟨w.heap.size, 0, C.size⟩
  have hle : σ.le (σ.put h.next e) := Sg.le_put (R.fresh _ (Nat.le_refl _))
  refine ⟨.slice (some ⟨w.heap.size, 0, none⟩) (sLen + n) g, w', σ.put h.next e, ?_, hle, ?_, hp.below R.big, fun k hk => Sg.put_ne σ e (by omega), ?_, ⟨e, g, Sg.put_same _ _ _, rfl, hg, ?_⟩⟩
  · simp only [hneed, if_false, Sem.run_bind, run_choose, Question.forced, Bool.false_eq_true, Result.andThen_ok]
    have d1 : ({ w with drawn := w.drawn + 1 } : World) = w.drew := rfl
    rw [d1, g1]
    simp only [Result.andThen_ok, g3, newRow, run_newObj, Sem.run_bind, Sem.run_pure]
    rfl
  · have hB : BR (σ.put h1'.next e) w' e (.cells false (old ++ vs)) := by
      refine ⟨C, elem, (0, 0), hp.at, rfl, .inr (.inl rfl), ?_⟩
      rw [hnx]
      have hl2 : (old ++ vs).length = c1.toList.length + c2.toList.length := by rw [List.length_append, VRs.length g2, VRs.length g4]
      have : (C.toList.drop 0).take (old ++ vs).length = c1.toList ++ c2.toList := by
        show ((c1 ++ c2 ++ Builtin.zeroCells z.cells (g - (sLen + n))).toList.drop 0).take _ = _
        rw [hl2, List.drop_zero, Array.toList_append, Array.toList_append, List.take_append_of_le_length (by simp), List.take_of_length_le (by simp)]
      rw [this]
      exact VRs.mono hle _ _ (VRs.app g2 g4)
    have := h1.new hB hp rfl
    rw [hnx] at this
    exact this
  · show h.next ≤ h1'.next + 1; omega
  · show 0 + 0 + g * size ≤ C.size
    rw [hC]; omega

theorem old_cells (R : HR ng n0 σ h w) {k off len size c : Nat} {e : Loc} {ro : Bool} {cs : List AV} (he : σ k = some e) (hb : h.get k = some (.cells ro cs)) (hl : ((cs.drop off).take (len * size)).length = len * size) :
    ∀ w2, w2.heap = w.heap → ∃ c', (Builtin.firstCells size len (.slice (some (e.at off)) len c)).run P w2 = .ok c' w2 ∧ VRs σ ((cs.drop off).take (len * size)) c'.toList := fun w2 hw2 => by
  obtain ⟨vs, g1, g2, g3⟩ := br_cells (P := P) ((R.world hw2).blk k e _ he hb) hl
  exact ⟨vs.toArray, by simp [Builtin.firstCells, g3], by simpa using g2⟩

theorem move_list (C vs : List Value) (o m : Nat) (h1 : o + m + vs.length ≤ C.length) :
    ((C.take (o + m) ++ (vs ++ C.drop (o + m + vs.length))).drop o).take (m + vs.length) = (C.drop o).take m ++ vs := by
  have l1 : (C.take (o + m)).length = o + m := by rw [List.length_take]; omega
  rw [List.drop_append_of_le_length (by omega), List.take_append, List.drop_take, Nat.add_sub_cancel_left]
  have l2 : ((C.drop o).take m).length = m := by rw [List.length_take, List.length_drop]; omega
  rw [l2, List.take_of_length_le (by omega), Nat.add_sub_cancel_left, List.take_append_of_le_length (Nat.le_refl _), List.take_length]

theorem appendTo_sound (R : HR ng n0 σ h w) {elem size n : Nat} {z : Value} {happ : Sem (Array Value)} {s v : AV} {sv : Value} {vs : List AV} {h' : AH} (hs : VR σ s sv)
    (HAPP : ∀ w2, w2.heap = w.heap → ∃ c, happ.run P w2 = .ok c w2 ∧ VRs σ vs c.toList) (hvl : vs.length = n * size) (hvo : vs.all AV.one = true) (hz : z.cells.size = size)
    (hq : aappendTo h size s n vs = some (v, h')) : AppEff P ng n0 σ h w elem size n z happ sv v h' := by
  obtain ⟨c0, p1, p2⟩ := HAPP w rfl
  have l2 : c0.toList.length = n * size := by rw [← VRs.length p2, hvl]
  -- nothing is appended
  have none_app : n = 0 → ∀ base sLen sCap, sv = .slice base sLen sCap → sLen ≤ sCap → VR σ s sv → AppEff P ng n0 σ h w elem size n z happ sv s h := fun hn base sLen sCap hsv hle hv => by
    subst hn
    have hc0 : c0.toList = [] := List.eq_nil_of_length_eq_zero (by rw [l2]; simp)
    refine ⟨base, sLen, sCap, hsv, .inl (by omega), sv, w, σ, ?_, Sg.le.refl σ, R, Below.refl _ _, fun _ _ => rfl, Nat.le_refl _, hv⟩
    simp only [Nat.add_zero, hle, if_true, Sem.run_bind, p1, Result.andThen_ok, hc0, hsv]
    cases base <;> simp [storeCells]
  unfold aappendTo at hq
  split at hq
  · rename_i l c
    obtain ⟨rfl, _⟩ := hs
    rw [nbeq, nbeq, nbeq] at hq
    by_cases hlc : l = 0 ∧ c = 0
    · obtain ⟨rfl, rfl⟩ := hlc
      simp only [decide_true, Bool.and_self, cond_true, Bool.cond_decide] at hq
      split at hq
      · rename_i hn
        injection hq with hq; injection hq with e1 e2; subst e1; subst e2
        exact none_app hn none 0 0 rfl (Nat.le_refl _) ⟨rfl, rfl⟩
      · rename_i hn
        injection hq with hq; injection hq with e1 e2; subst e1; subst e2
        have := grow_core (P := P) R (elem := elem) (z := z) (old := []) (sv := .slice none 0 0) rfl HAPP hvl hz (fun w2 _ => ⟨#[], rfl, trivial⟩) (by simp) (by omega) (Nat.zero_le _) R rfl
        simpa using this
    · have : (decide (l = 0) && decide (c = 0)) = false := by rw [← Bool.decide_and]; exact decide_eq_false hlc
      rw [this] at hq; cases hq
  · rename_i c
    obtain ⟨a, cc, rfl, hcc⟩ := hs
    rw [nbeq, Bool.cond_decide] at hq
    split at hq
    · rename_i hn
      injection hq with hq; injection hq with e1 e2; subst e1; subst e2
      exact none_app hn _ _ _ rfl (Nat.zero_le _) ⟨a, cc, rfl, hcc⟩
    · rename_i hn
      split at hq
      · injection hq with hq; injection hq with e1 e2; subst e1; subst e2
        have hc0 : cc = 0 := hcc 0 rfl
        subst hc0
        have := grow_core (P := P) R (elem := elem) (z := z) (old := []) (sv := .slice (some a) 0 0) rfl HAPP hvl hz (fun w2 _ => ⟨#[], by simp [Builtin.firstCells, loadCells, loadCellsFrom], trivial⟩) (by simp) (by omega) (Nat.zero_le _) R rfl
        simpa using this
      · cases hq
  · rename_i k off len c
    obtain ⟨e, cc, he, rfl, hcc⟩ := hs
    have hcc' : cc = c := hcc
    subst hcc'
    rw [nbeq, nble] at hq
    by_cases hn0 : n = 0 ∧ len ≤ cc
    · have : (decide (n = 0) && decide (len ≤ cc)) = true := by simp [hn0]
      rw [this, cond_true] at hq
      injection hq with hq; injection hq with e1 e2; subst e1; subst e2
      exact none_app hn0.1 _ _ _ rfl hn0.2 ⟨e, cc, he, rfl, rfl⟩
    · have : (decide (n = 0) && decide (len ≤ cc)) = false := by rw [← Bool.decide_and]; exact decide_eq_false hn0
      rw [this, cond_false, nble, Bool.cond_decide] at hq
      split at hq
      · rename_i hlen
        cases hb : h.get k with
        | none => simp [hb] at hq
        | some bl =>
          cases bl <;> simp only [hb] at hq <;> try (cases hq; done)
          rename_i ro cs
          rw [nble, Bool.cond_decide] at hq
          split at hq
          · rename_i hneed
            cases ro with
            | true => cases hq
            | false =>
              simp only [cond_false, Option.map_eq_some_iff] at hq
              obtain ⟨cs', hp, hq⟩ := hq
              injection hq with e1 e2; subst e1; subst e2
              obtain ⟨w', q1, q2, q3, q4⟩ := putCells_sound (P := P) R he hb p2 hvo hp
              refine ⟨_, _, _, rfl, .inl hneed, .slice (some (e.at off)) (len + n) cc, w', σ, ?_, Sg.le.refl σ, q2, q3, fun _ _ => rfl, Nat.le_refl _, e, cc, he, rfl, rfl⟩
              simp only [hneed, if_true, Sem.run_bind, p1, Result.andThen_ok, at_add, q1, Sem.run_pure]
          · rename_i hneed
            rw [nbeq, Bool.cond_decide] at hq
            split at hq
            · rename_i hol
              injection hq with hq; injection hq with e1 e2; subst e1; subst e2
              exact grow_core (P := P) R rfl HAPP hvl hz (old_cells R he hb hol) hol hneed hlen R rfl
            · cases hq
      · cases hq
  · rename_i k off len sz
    obtain ⟨e, cc, he, rfl, hcc1, hcc2⟩ := hs
    rw [nbeq, Bool.cond_decide] at hq
    split at hq
    · rename_i hn
      injection hq with hq; injection hq with e1 e2; subst e1; subst e2
      exact none_app hn _ _ _ rfl hcc1 ⟨e, cc, he, rfl, hcc1, hcc2⟩
    · rename_i hn
      rw [nble, nbeq] at hq
      by_cases hc : len ≤ 1000000 ∧ sz = size
      · obtain ⟨hlen, rfl⟩ := hc
        have : (decide (len ≤ 1000000) && decide (sz = sz)) = true := by simp [hlen]
        rw [this, cond_true] at hq
        cases hb : h.get k with
        | none => simp [hb] at hq
        | some bl =>
          split at hq
          · rename_i cs hcs
            rw [hcs] at hb; injection hb with hb; subst hb
            rw [nbeq, Bool.cond_decide] at hq
            split at hq
            · rename_i hol
              injection hq with hq; injection hq with e1 e2; subst e1; subst e2
              by_cases hneed : len + n ≤ cc
              · -- in place: the block goes over to a new abstract one
                obtain ⟨c, t, fz, hw, hsz, hf, hr⟩ := R.blk k e _ he hcs
                have hf' : fz.1 = fz.2 ∨ c.size ≤ fz.1 := hf.resolve_left (by simp)
                have hroom : e.base + off + (len + n) * sz ≤ c.size := by
                  rw [hsz]; have : (len + n) * sz ≤ cc * sz := Nat.mul_le_mul_right _ hneed
                  omega
                rw [Nat.add_mul] at hroom
                have hrun := run_storeCells_cells (P := P) e.blk (e.base + (off + len * sz)) c0.toList 0 w (fun j hj => by
                    simp only [World.cell?, hw]
                    have : e.base + (off + len * sz) + j < c.size := by omega
                    simp [this]) (fun j hj => by
                    simp only [World.frozen?, hw]
                    rcases hf' with hf' | hf'
                    · simp only [Bool.and_eq_false_iff, decide_eq_false_iff_not]; omega
                    · simp only [Bool.and_eq_false_iff, decide_eq_false_iff_not]; left; omega) (ones_cells p2 hvo)
                simp only [Nat.add_zero] at hrun
                obtain ⟨c', g1, g2, g3, g4⟩ := setCells_at c0.toList (o := e.base + (off + len * sz)) hw (by omega)
                let e' : Loc := ⟨e.blk, e.base + off, e.size⟩
                have hle : σ.le (σ.put h.next e') := Sg.le_put (R.fresh _ (Nat.le_refl _))
                have hmv := R.move (e' := e') (b' := .cells false ((cs.drop off).take (len * sz) ++ vs)) (w' := w.setCells e.blk (e.base + (off + len * sz)) c0.toList) he hcs rfl rfl g4 (by
                  refine ⟨c', t, fz, g1, g2.trans hsz, .inr (by rw [g2]; exact hf'), ?_⟩
                  have hlen2 : ((cs.drop off).take (len * sz) ++ vs).length = len * sz + c0.toList.length := by rw [List.length_append, hol, hvl, l2]
                  have hcs2 : c.toList.length = c.size := Array.length_toList
                  have hmv2 := move_list c.toList c0.toList (e.base + off) (len * sz) (by rw [hcs2, l2]; omega)
                  show VRs _ _ ((c'.toList.drop (e.base + off)).take ((cs.drop off).take (len * sz) ++ vs).length)
                  rw [hlen2, g3, show e.base + (off + len * sz) = (e.base + off) + len * sz by omega, hmv2]
                  have hr2 := VRs.take (len * sz) (VRs.drop off hr)
                  have hl3 := VRs.length hr2
                  rw [hol] at hl3
                  refine VRs.mono hle _ _ (VRs.app ?_ p2)
                  have : ((List.take cs.length (List.drop e.base c.toList)).drop off).take (len * sz) = (c.toList.drop (e.base + off)).take (len * sz) := by
                    rw [List.drop_take, List.drop_drop, List.take_take]
                    congr 1
                    have : len * sz ≤ cs.length - off := by
                      rw [List.length_take, List.length_drop] at hol; omega
                    omega
                  rw [this] at hr2
                  exact hr2)
                refine ⟨_, _, _, rfl, .inl hneed, .slice (some (e.at off)) (len + n) cc, _, _, ?_, hle, hmv, g4.below (R.own k e _ he hcs rfl), fun x hx => Sg.put_ne σ e' (by omega), Nat.le_succ _, e', cc, Sg.put_same _ _ _, ?_, hneed, ?_⟩
                · have had : (e.at off).add (len * sz) = ⟨e.blk, e.base + (off + len * sz), none⟩ := at_add e off (len * sz)
                  simp only [hneed, if_true, Sem.run_bind, p1, Result.andThen_ok, had, hrun, Sem.run_pure]
                · simp [Loc.at, e']
                · show e.base + off + 0 + cc * sz ≤ e.size
                  omega
              · have hk := R.kill k
                exact grow_core (P := P) R rfl HAPP hvl hz (old_cells R he hcs hol) hol hneed hlen hk rfl
            · cases hq
          · cases hq
      · have : (decide (len ≤ 1000000) && decide (sz = size)) = false := by rw [← Bool.decide_and]; exact decide_eq_false hc
        rw [this] at hq; cases hq
  · cases hq
end
end Go.Proofs.YtllipkakgjmheaaGreatDoor.Ev

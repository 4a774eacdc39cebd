/- The texts EbM, EbN, EbO, EbP of WriterFull, joined by program (tools/merge.py): walks of the functions that the law reaches, and plain facts; no condition. -/
import Derived.Test.YtfmopmjgohopeaaGreatDoorPart03
import Derived.Orders
set_option linter.unusedVariables false
set_option linter.unusedSimpArgs false

/-
  The abstract machine: append.
-/
set_option linter.unusedVariables false
set_option linter.unusedSimpArgs false
set_option linter.constructorNameAsVariable false
namespace Go.Proofs.YtfmopmjgohopeaaGreatDoor.Ev
open Go Go.RowKit

section
variable {P : Program} {ng n0 : Nat} {σ : Sg} {h : AH} {w : World}

theorem growBy_le (newLen : Nat) : ∀ (r c : Nat), c ≤ newLen + (newLen + 768) / 4 → Builtin.growBy newLen r c ≤ newLen + (newLen + 768) / 4
  | 0, c, h => h
  | r + 1, c, h => by
    unfold Builtin.growBy
    split
    · exact h
    · exact growBy_le newLen r _ (by omega)
theorem nextcap_le {need c : Nat} (h : c < need) : Builtin.nextslicecap need c ≤ 2 * need + 200 := by
  unfold Builtin.nextslicecap
  split
  · omega
  · split
    · omega
    · have := growBy_le need 4 c (by omega)
      omega


def _root_.Go.TypeDesc.isInt : TypeDesc → Bool
  | .int _ => true
  | _ => false
theorem append_run {ats : Array TypeId} {ty st xt elem : TypeId} {sv xv : Value} {base : Option Addr} {sLen sCap n : Nat} {xd : TypeDesc} {info : TypeInfo} {z : Value} {r : Result Value}
    (ha0 : ats[0]? = some st) (ha1 : ats[1]? = some xt) (hst : P.underlying st = some (.slice elem)) (hxt : P.underlying xt = some xd) (hi : P.info? elem = some info) (hz : ∀ w', (zeroValue elem).run P w' = .ok z w')
    (hs : sv = .slice base sLen sCap) (happ : Sem (Array Value))
    (hn : (xd.isInt = false ∧ (Builtin.lenOf xv).run P w = .ok n w ∧ happ = Builtin.firstCells info.size n xv) ∨
      (xd.isInt = true ∧ (∃ k, xv = .int k (n : Int)) ∧ n ≤ 1000000 ∧ info.bytes ≤ 1000000 ∧ happ = (if n * info.size = 0 then pure #[] else do pure (Builtin.zeroCells (← zeroValue elem).cells n))))
    (hb : info.bytes ≤ 1000000) (hN : n ≤ 1000000) (hin : sLen + n ≤ sCap ∨ sLen ≤ 1000000)
    (hr : (if sLen + n ≤ sCap then (do
        let new ← happ
        if let some a := base then storeCells (a.add (sLen * info.size)) new.toList
        pure (.slice base (sLen + n) sCap) : Sem Value)
      else (do
        let newCap ← choose (.appendCap (sLen + n) sCap elem)
        let old ← Builtin.firstCells info.size sLen sv
        let new ← happ
        pure (.slice (some (← newRow elem (old ++ new ++ Builtin.zeroCells z.cells (newCap - (sLen + n))))) (sLen + n) newCap))).run P w = r) :
    (Builtin.append_ ats ty #[sv, xv]).run P w = r := by
  subst hs
  rcases hn with ⟨h1, h2, h3⟩ | ⟨h1, ⟨k, rfl⟩, h2, h3, h4⟩
  · subst h3
    have e0 : (#[Value.slice base sLen sCap, xv] : Array Value)[0]? = some (.slice base sLen sCap) := rfl
    have e1 : (#[Value.slice base sLen sCap, xv] : Array Value)[1]? = some xv := rfl
    have hi2 : ∀ w', (typeInfo elem).run P w' = .ok info w' := fun w' => ri hi
    have hs2 : ∀ w', (sizeOf elem).run P w' = .ok info.size w' := fun w' => rs (ri_size hi)
    cases xd <;> first | (simp [TypeDesc.isInt] at h1; done) | skip
    all_goals
      by_cases hneed : sLen + n ≤ sCap
      · simp only [hneed, if_true, Sem.run_bind] at hr
        simp only [Builtin.append_, ha0, ha1, e0, e1, Sem.run_bind, ru hst, Result.andThen_ok, hs2, ru hxt, Sem.run_pure, h2, Bool.not_false, if_true, Bool.false_eq_true, if_false, hneed]
        exact hr
      · have hl : sLen ≤ 1000000 := hin.resolve_left hneed
        have c1 : ¬ (((sLen + n : Nat) : Int) > IntKind.i64.max ∧ (False ∨ info.bytes = 0)) := fun ⟨hx, _⟩ => by
          rw [IntKind.max_i64] at hx; omega
        have c2 : ¬ Builtin.nextslicecap (sLen + n) sCap * info.bytes > 2 ^ 48 := by
          have h1 := nextcap_le (need := sLen + n) (c := sCap) (by omega)
          have h2 : Builtin.nextslicecap (sLen + n) sCap * info.bytes ≤ 5000000 * 1000000 := Nat.mul_le_mul (by omega) hb
          omega
        simp only [hneed, if_false, Sem.run_bind] at hr
        simp only [Builtin.append_, ha0, ha1, e0, e1, Sem.run_bind, ru hst, Result.andThen_ok, hs2, hi2, ru hxt, Sem.run_pure, h2, Bool.not_false, if_true, Bool.false_eq_true, if_false, hneed, c1, c2, run_askRoom, hz]
        simp only [Sem.run_pure] at hr
        exact hr
  · subst h4
    cases xd <;> first | (simp [TypeDesc.isInt] at h1; done) | skip
    have e0 : (#[Value.slice base sLen sCap, Value.int k (n : Int)] : Array Value)[0]? = some (.slice base sLen sCap) := rfl
    have e1 : (#[Value.slice base sLen sCap, Value.int k (n : Int)] : Array Value)[1]? = some (.int k (n : Int)) := rfl
    have hi2 : ∀ w', (typeInfo elem).run P w' = .ok info w' := fun w' => ri hi
    have hs2 : ∀ w', (sizeOf elem).run P w' = .ok info.size w' := fun w' => rs (ri_size hi)
    have c3 : ¬ ((n : Int) < 0) := by omega
    have c4 : ¬ ((n : Int) * (info.bytes : Int) > 2 ^ 48) := by
      have : n * info.bytes ≤ 1000000 * 1000000 := Nat.mul_le_mul h2 h3
      have : ((n * info.bytes : Nat) : Int) ≤ 1000000 * 1000000 := Int.ofNat_le.2 this
      rw [Int.natCast_mul] at this
      omega
    by_cases hneed : sLen + n ≤ sCap
    · simp only [hneed, if_true, Sem.run_bind] at hr
      simp only [Builtin.append_, ha0, ha1, e0, e1, Sem.run_bind, ru hst, Result.andThen_ok, hs2, hi2, ru hxt, Sem.run_pure, asInt, asIntOf, wrap_small (Nat.le_trans h2 (by decide)), c3, c4, if_false, Bool.not_true, Bool.false_eq_true, if_true, Int.toNat_natCast, hneed]
      exact hr
    · have hl : sLen ≤ 1000000 := hin.resolve_left hneed
      have c1 : ¬ (((sLen + n : Nat) : Int) > IntKind.i64.max ∧ (True ∨ info.bytes = 0)) := fun ⟨hx, _⟩ => by
        rw [IntKind.max_i64] at hx; omega
      have c2 : ¬ Builtin.nextslicecap (sLen + n) sCap * info.bytes > 2 ^ 48 := by
        have h1 := nextcap_le (need := sLen + n) (c := sCap) (by omega)
        have h2 : Builtin.nextslicecap (sLen + n) sCap * info.bytes ≤ 5000000 * 1000000 := Nat.mul_le_mul (by omega) hb
        omega
      simp only [hneed, if_false, Sem.run_bind] at hr
      simp only [Builtin.append_, ha0, ha1, e0, e1, Sem.run_bind, ru hst, Result.andThen_ok, hs2, hi2, ru hxt, Sem.run_pure, asInt, asIntOf, wrap_small (Nat.le_trans h2 (by decide)), c3, c4, if_false, Bool.not_true, Bool.false_eq_true, if_true, Int.toNat_natCast, hneed, c1, c2, run_askRoom, hz]
      simp only [Sem.run_pure] at hr
      exact hr

/-- what is shown of an append: the slice's parts, and the run of its body -/
def AppEff (P : Program) (ng n0 : Nat) (σ : Sg) (h : AH) (w : World) (elem size n : Nat) (z : Value) (happ : Sem (Array Value)) (sv : Value) (v : AV) (h' : AH) : Prop :=
  ∃ base sLen sCap, sv = .slice base sLen sCap ∧ (sLen + n ≤ sCap ∨ sLen ≤ 1000000) ∧ ∃ u w' σ',
    (if sLen + n ≤ sCap then (do
        let new ← happ
        if let some a := base then storeCells (a.add (sLen * size)) new.toList
        pure (.slice base (sLen + n) sCap) : Sem Value)
      else (do
        let newCap ← choose (.appendCap (sLen + n) sCap elem)
        let old ← Builtin.firstCells size sLen sv
        let new ← happ
        pure (.slice (some (← newRow elem (old ++ new ++ Builtin.zeroCells z.cells (newCap - (sLen + n))))) (sLen + n) newCap))).run P w = .ok u w' ∧
    σ.le σ' ∧ HR ng n0 σ' h' w' ∧ Below n0 w w' ∧ (∀ k, k < h.next → σ' k = σ k) ∧ h.next ≤ h'.next ∧ VR σ' v u

theorem grow_core (R : HR ng n0 σ h w) {elem size n sLen sCap : Nat} {z : Value} {happ : Sem (Array Value)} {sv : Value} {base : Option Addr} {vs old : List AV} (hsv : sv = .slice base sLen sCap)
    (HAPP : ∀ w2, w2.heap = w.heap → ∃ c, happ.run P w2 = .ok c w2 ∧ VRs σ vs c.toList) (hvl : vs.length = n * size) (hz : z.cells.size = size)
    (hold : ∀ w2, w2.heap = w.heap → ∃ c, (Builtin.firstCells size sLen sv).run P w2 = .ok c w2 ∧ VRs σ old c.toList) (hol : old.length = sLen * size) (hneed : ¬ sLen + n ≤ sCap) (hl : sLen ≤ 1000000) {h1' : AH} (h1 : HR ng n0 σ h1' w) (hnx : h1'.next = h.next) {B : Cs} (hBl : old ++ vs = B.list) :
    AppEff P ng n0 σ h w elem size n z happ sv (.slice h.next 0 (sLen + n) (.room size)) (h1'.new (.cells false B)) := by
  subst hsv
  refine ⟨base, sLen, sCap, rfl, .inr hl, ?_⟩
  obtain ⟨c1, g1, g2⟩ := hold w.drew rfl
  obtain ⟨c2, g3, g4⟩ := HAPP w.drew rfl
  have l1 : c1.size = sLen * size := by rw [← Array.length_toList, ← VRs.length g2, hol]
  have l2 : c2.size = n * size := by rw [← Array.length_toList, ← VRs.length g4, hvl]
  let g := (Question.appendCap (sLen + n) sCap elem).cut (w.tape w.drawn (.appendCap (sLen + n) sCap elem))
  have hg : sLen + n ≤ g := by show _ ≤ Question.cut _ _; unfold Question.cut; simp
  let C := c1 ++ c2 ++ Builtin.zeroCells z.cells (g - (sLen + n))
  have hzl : (Builtin.zeroCells z.cells (g - (sLen + n))).size = (g - (sLen + n)) * size := by
    simp [Builtin.zeroCells, hz]
  have hC : C.size = g * size := by
    show (c1 ++ c2 ++ Builtin.zeroCells z.cells (g - (sLen + n))).size = _
    rw [Array.size_append, Array.size_append, l1, l2, hzl, ← Nat.add_mul, ← Nat.add_mul]
    congr 1; omega
  let w' : World := { w.drew with heap := w.heap.push (.cells C elem) }
  have hp : Push (.cells C elem) w w' := ⟨rfl, rfl, rfl, rfl⟩
  let e : Loc := ⟨w.heap.size, 0, C.size⟩
  have hle : σ.le (σ.put h.next e) := Sg.le_put (R.fresh _ (Nat.le_refl _))
  refine ⟨.slice (some ⟨w.heap.size, 0, none⟩) (sLen + n) g, w', σ.put h.next e, ?_, hle, ?_, hp.below R.big, fun k hk => Sg.put_ne σ e (by omega), ?_, ⟨e, g, Sg.put_same _ _ _, rfl, hg, ?_⟩⟩
  · simp only [hneed, if_false, Sem.run_bind, run_choose, Question.forced, Bool.false_eq_true, Result.andThen_ok]
    have d1 : ({ w with drawn := w.drawn + 1 } : World) = w.drew := rfl
    rw [d1, g1]
    simp only [Result.andThen_ok, g3, newRow, run_newObj, Sem.run_bind, Sem.run_pure]
    rfl
  · have hB : BR (σ.put h1'.next e) w' e (.cells false B) := by
      refine br_list (cs := .av (old ++ vs)) hBl ⟨C, elem, (0, 0), hp.at, rfl, .inr (.inl rfl), ?_⟩
      rw [hnx]
      show VRs _ (old ++ vs) ((C.toList.drop 0).take (old ++ vs).length)
      have hl2 : (old ++ vs).length = c1.toList.length + c2.toList.length := by rw [List.length_append, VRs.length g2, VRs.length g4]
      have : (C.toList.drop 0).take (old ++ vs).length = c1.toList ++ c2.toList := by
        show ((c1 ++ c2 ++ Builtin.zeroCells z.cells (g - (sLen + n))).toList.drop 0).take _ = _
        rw [hl2, List.drop_zero, Array.toList_append, Array.toList_append, List.take_append_of_le_length (by simp), List.take_of_length_le (by simp)]
      rw [this]
      exact VRs.mono hle _ _ (VRs.app g2 g4)
    have := h1.new hB hp rfl
    rw [hnx] at this
    exact this
  · show h.next ≤ h1'.next + 1; omega
  · show 0 + 0 + g * size ≤ C.size
    rw [hC]; omega

theorem old_cells (R : HR ng n0 σ h w) {k off len size c : Nat} {e : Loc} {ro : Bool} {cs : Cs} (he : σ k = some e) (hb : h.get k = some (.cells ro cs)) (hl : ((cs.list.drop off).take (len * size)).length = len * size) :
    ∀ w2, w2.heap = w.heap → ∃ c', (Builtin.firstCells size len (.slice (some (e.at off)) len c)).run P w2 = .ok c' w2 ∧ VRs σ ((cs.list.drop off).take (len * size)) c'.toList := fun w2 hw2 => by
  obtain ⟨vs, g1, g2, g3⟩ := br_cells (P := P) ((R.world hw2).blk k e _ he hb) hl
  exact ⟨vs.toArray, by simp [Builtin.firstCells, g3], by simpa using g2⟩

theorem move_list (C vs : List Value) (o m : Nat) (h1 : o + m + vs.length ≤ C.length) :
    ((C.take (o + m) ++ (vs ++ C.drop (o + m + vs.length))).drop o).take (m + vs.length) = (C.drop o).take m ++ vs := by
  have l1 : (C.take (o + m)).length = o + m := by rw [List.length_take]; omega
  rw [List.drop_append_of_le_length (by omega), List.take_append, List.drop_take, Nat.add_sub_cancel_left]
  have l2 : ((C.drop o).take m).length = m := by rw [List.length_take, List.length_drop]; omega
  rw [l2, List.take_of_length_le (by omega), Nat.add_sub_cancel_left, List.take_append_of_le_length (Nat.le_refl _), List.take_length]

theorem app_u8 {cs vs : List AV} {o m : Nat} (h : cs.all isU8A = true) (hu : (vs.all isU8A || !(cs.all isU8A)) = true) : ((cs.drop o).take m ++ vs).all isU8A = true := by
  rw [h, Bool.not_true, Bool.or_false] at hu
  rw [List.all_eq_true] at *
  intro x hx
  rcases List.mem_append.1 hx with hx | hx
  · exact h x (List.mem_of_mem_drop (List.mem_of_mem_take hx))
  · exact hu x hx
theorem appendTo_sound (R : HR ng n0 σ h w) {elem size n : Nat} {z : Value} {happ : Sem (Array Value)} {s v : AV} {sv : Value} {vs : Cs} {h' : AH} (hs : VR σ s sv)
    (HAPP : ∀ w2, w2.heap = w.heap → ∃ c, happ.run P w2 = .ok c w2 ∧ VRs σ vs.list c.toList) (hvl : vs.list.length = n * size) (hvo : vs.list.all AV.one = true) (hz : z.cells.size = size)
    (hq : aappendTo h size s n vs = some (v, h')) : AppEff P ng n0 σ h w elem size n z happ sv v h' := by
  obtain ⟨c0, p1, p2⟩ := HAPP w rfl
  have l2 : c0.toList.length = n * size := by rw [← VRs.length p2, hvl]
  -- nothing is appended
  have none_app : n = 0 → ∀ base sLen sCap, sv = .slice base sLen sCap → sLen ≤ sCap → VR σ s sv → AppEff P ng n0 σ h w elem size n z happ sv s h := fun hn base sLen sCap hsv hle hv => by
    subst hn
    have hc0 : c0.toList = [] := List.eq_nil_of_length_eq_zero (by rw [l2]; simp)
    refine ⟨base, sLen, sCap, hsv, .inl (by omega), sv, w, σ, ?_, Sg.le.refl σ, R, Below.refl _ _, fun _ _ => rfl, Nat.le_refl _, hv⟩
    simp only [Nat.add_zero, hle, if_true, Sem.run_bind, p1, Result.andThen_ok, hc0, hsv]
    cases base <;> simp [storeCells]
  unfold aappendTo at hq
  split at hq
  · rename_i l c
    obtain ⟨rfl, _⟩ := hs
    rw [nbeq, nbeq, nbeq] at hq
    by_cases hlc : l = 0 ∧ c = 0
    · obtain ⟨rfl, rfl⟩ := hlc
      simp only [decide_true, Bool.and_self, cond_true, Bool.cond_decide] at hq
      split at hq
      · rename_i hn
        injection hq with hq; injection hq with e1 e2; subst e1; subst e2
        exact none_app hn none 0 0 rfl (Nat.le_refl _) ⟨rfl, rfl⟩
      · rename_i hn
        injection hq with hq; injection hq with e1 e2; subst e1; subst e2
        have := grow_core (P := P) R (elem := elem) (z := z) (old := []) (sv := .slice none 0 0) rfl HAPP hvl hz (fun w2 _ => ⟨#[], rfl, trivial⟩) (by simp) (by omega) (Nat.zero_le _) R rfl (List.nil_append _)
        simpa using this
    · have : (decide (l = 0) && decide (c = 0)) = false := by rw [← Bool.decide_and]; exact decide_eq_false hlc
      rw [this] at hq; cases hq
  · rename_i c
    obtain ⟨a, cc, rfl, hcc⟩ := hs
    rw [nbeq, Bool.cond_decide] at hq
    split at hq
    · rename_i hn
      injection hq with hq; injection hq with e1 e2; subst e1; subst e2
      exact none_app hn _ _ _ rfl (Nat.zero_le _) ⟨a, cc, rfl, hcc⟩
    · rename_i hn
      split at hq
      · injection hq with hq; injection hq with e1 e2; subst e1; subst e2
        have hc0 : cc = 0 := hcc 0 rfl
        subst hc0
        have := grow_core (P := P) R (elem := elem) (z := z) (old := []) (sv := .slice (some a) 0 0) rfl HAPP hvl hz (fun w2 _ => ⟨#[], by simp [Builtin.firstCells, loadCells, loadCellsFrom], trivial⟩) (by simp) (by omega) (Nat.zero_le _) R rfl (List.nil_append _)
        simpa using this
      · cases hq
  · rename_i k off len c
    obtain ⟨e, cc, he, rfl, hcc⟩ := hs
    have hcc' : cc = c := hcc
    subst hcc'
    rw [nbeq, nble] at hq
    by_cases hn0 : n = 0 ∧ len ≤ cc
    · have : (decide (n = 0) && decide (len ≤ cc)) = true := by simp [hn0]
      rw [this, cond_true] at hq
      injection hq with hq; injection hq with e1 e2; subst e1; subst e2
      exact none_app hn0.1 _ _ _ rfl hn0.2 ⟨e, cc, he, rfl, rfl⟩
    · have : (decide (n = 0) && decide (len ≤ cc)) = false := by rw [← Bool.decide_and]; exact decide_eq_false hn0
      rw [this, cond_false, nble, Bool.cond_decide] at hq
      split at hq
      · rename_i hlen
        cases hb : h.get k with
        | none => simp [hb] at hq
        | some bl =>
          cases bl <;> simp only [hb] at hq <;> try (cases hq; done)
          rename_i ro cs
          rw [nble, Bool.cond_decide] at hq
          split at hq
          · rename_i hneed
            cases ro with
            | true => cases hq
            | false =>
              simp only [cond_false, Option.map_eq_some_iff] at hq
              obtain ⟨cs', hp, hq⟩ := hq
              injection hq with e1 e2; subst e1; subst e2
              obtain ⟨w', q1, q2, q3, q4⟩ := putCells_sound (P := P) R he hb p2 hvo hp
              refine ⟨_, _, _, rfl, .inl hneed, .slice (some (e.at off)) (len + n) cc, w', σ, ?_, Sg.le.refl σ, q2, q3, fun _ _ => rfl, Nat.le_refl _, e, cc, he, rfl, rfl⟩
              simp only [hneed, if_true, Sem.run_bind, p1, Result.andThen_ok, at_add, q1, Sem.run_pure]
          · rename_i hneed
            rw [nbeq, Bool.cond_decide] at hq
            split at hq
            · rename_i hol
              injection hq with hq; injection hq with e1 e2; subst e1; subst e2
              rw [Cs.list_len, Cs.list_sub] at hol
              exact grow_core (P := P) R rfl HAPP hvl hz (old_cells R he hb hol) hol hneed hlen R rfl (by rw [Cs.list_app, Cs.list_sub])
            · cases hq
      · cases hq
  · rename_i k off len sz
    obtain ⟨e, cc, he, rfl, hcc1, hcc2⟩ := hs
    rw [nbeq, Bool.cond_decide] at hq
    split at hq
    · rename_i hn
      injection hq with hq; injection hq with e1 e2; subst e1; subst e2
      exact none_app hn _ _ _ rfl hcc1 ⟨e, cc, he, rfl, hcc1, hcc2⟩
    · rename_i hn
      rw [nble, nbeq] at hq
      by_cases hc : len ≤ 1000000 ∧ sz = size
      · obtain ⟨hlen, rfl⟩ := hc
        have : (decide (len ≤ 1000000) && decide (sz = sz)) = true := by simp [hlen]
        rw [this, cond_true] at hq
        cases hb : h.get k with
        | none => simp [hb] at hq
        | some bl =>
          split at hq
          · rename_i cs hcs
            rw [hcs] at hb; injection hb with hb; subst hb
            generalize hcnd : (Nat.beq (cs.sub off (len * sz)).len (len * sz) && (vs.isU8 || !cs.isU8)) = cnd at hq
            cases cnd with
            | false => rw [cond_false] at hq; cases hq
            | true =>
              rw [Bool.and_eq_true, nbeq, decide_eq_true_eq, Cs.list_len, Cs.list_sub, Cs.list_isU8, Cs.list_isU8] at hcnd
              obtain ⟨hol, hu8⟩ := hcnd
              rw [cond_true] at hq
              injection hq with hq; injection hq with e1 e2; subst e1; subst e2
              by_cases hneed : len + n ≤ cc
              · -- in place: the block goes over to a new abstract one
                obtain ⟨c, t, fz, hw, hsz, hf, hr⟩ := R.blk k e _ he hcs
                have hf0 : fz.1 = fz.2 ∨ (c.size ≤ fz.1 ∧ cs.list.all isU8A = true) := hf.resolve_left (by simp)
                have hf' : fz.1 = fz.2 ∨ c.size ≤ fz.1 := hf0.imp id (·.1)
                have hroom : e.base + off + (len + n) * sz ≤ c.size := by
                  rw [hsz]; have : (len + n) * sz ≤ cc * sz := Nat.mul_le_mul_right _ hneed
                  omega
                rw [Nat.add_mul] at hroom
                have hrun := run_storeCells_cells (P := P) e.blk (e.base + (off + len * sz)) c0.toList 0 w (fun j hj => by
                    simp only [World.cell?, hw]
                    have : e.base + (off + len * sz) + j < c.size := by omega
                    simp [this]) (fun j hj => by
                    simp only [World.frozen?, hw]
                    rcases hf' with hf' | hf'
                    · simp only [Bool.and_eq_false_iff, decide_eq_false_iff_not]; omega
                    · simp only [Bool.and_eq_false_iff, decide_eq_false_iff_not]; left; omega) (ones_cells p2 hvo)
                simp only [Nat.add_zero] at hrun
                obtain ⟨c', g1, g2, g3, g4⟩ := setCells_at c0.toList (o := e.base + (off + len * sz)) hw (by omega)
                let e' : Loc := ⟨e.blk, e.base + off, e.size⟩
                have hle : σ.le (σ.put h.next e') := Sg.le_put (R.fresh _ (Nat.le_refl _))
                have hmv := R.move (e' := e') (b' := .cells false ((cs.sub off (len * sz)).app vs)) (w' := w.setCells e.blk (e.base + (off + len * sz)) c0.toList) he hcs rfl rfl g4 (by
                  refine br_list (cs := .av ((cs.list.drop off).take (len * sz) ++ vs.list)) (by rw [Cs.list_app, Cs.list_sub]; rfl) ⟨c', t, fz, g1, g2.trans hsz, .inr (by rw [g2]; exact hf0.imp id fun h5 => ⟨h5.1, app_u8 h5.2 hu8⟩), ?_⟩
                  have hlen2 : ((cs.list.drop off).take (len * sz) ++ vs.list).length = len * sz + c0.toList.length := by rw [List.length_append, hol, hvl, l2]
                  have hcs2 : c.toList.length = c.size := Array.length_toList
                  have hmv2 := move_list c.toList c0.toList (e.base + off) (len * sz) (by rw [hcs2, l2]; omega)
                  show VRs _ ((cs.list.drop off).take (len * sz) ++ vs.list) ((c'.toList.drop (e.base + off)).take ((cs.list.drop off).take (len * sz) ++ vs.list).length)
                  rw [hlen2, g3, show e.base + (off + len * sz) = (e.base + off) + len * sz by omega, hmv2]
                  have hr2 := VRs.take (len * sz) (VRs.drop off hr)
                  have hl3 := VRs.length hr2
                  rw [hol] at hl3
                  refine VRs.mono hle _ _ (VRs.app ?_ p2)
                  have : ((List.take cs.list.length (List.drop e.base c.toList)).drop off).take (len * sz) = (c.toList.drop (e.base + off)).take (len * sz) := by
                    rw [List.drop_take, List.drop_drop, List.take_take]
                    congr 1
                    have : len * sz ≤ cs.list.length - off := by
                      rw [List.length_take, List.length_drop] at hol; omega
                    omega
                  rw [this] at hr2
                  exact hr2)
                refine ⟨_, _, _, rfl, .inl hneed, .slice (some (e.at off)) (len + n) cc, _, _, ?_, hle, hmv, g4.below (R.own k e _ he hcs rfl), fun x hx => Sg.put_ne σ e' (by omega), Nat.le_succ _, e', cc, Sg.put_same _ _ _, ?_, hneed, ?_⟩
                · have had : (e.at off).add (len * sz) = ⟨e.blk, e.base + (off + len * sz), none⟩ := at_add e off (len * sz)
                  simp only [hneed, if_true, Sem.run_bind, p1, Result.andThen_ok, had, hrun, Sem.run_pure]
                · simp [Loc.at, e']
                · show e.base + off + 0 + cc * sz ≤ e.size
                  omega
              · have hk := R.kill k
                exact grow_core (P := P) R rfl HAPP hvl hz (old_cells R he hcs hol) hol hneed hlen hk rfl (by rw [Cs.list_app, Cs.list_sub])
          · cases hq
      · have : (decide (len ≤ 1000000) && decide (sz = size)) = false := by rw [← Bool.decide_and]; exact decide_eq_false hc
        rw [this] at hq; cases hq
  · cases hq
end
end Go.Proofs.YtfmopmjgohopeaaGreatDoor.Ev

/-
  The abstract machine: append, whole.
-/
set_option linter.unusedVariables false
set_option linter.unusedSimpArgs false
set_option linter.constructorNameAsVariable false
namespace Go.Proofs.YtfmopmjgohopeaaGreatDoor.Ev
open Go Go.RowKit

section
variable {P : Program} {ng n0 : Nat} {σ : Sg} {h : AH} {w : World}

theorem zero_any {t : TypeId} {cs : List AV} (hz : zeroCells P t = some cs) : ∃ z, (∀ w, (zeroValue t).run P w = .ok z w) ∧ VRs σ cs z.cells.toList := by
  unfold zeroCells at hz
  cases hi : P.info? t with
  | none => simp [hi] at hz
  | some i =>
    simp only [hi] at hz
    cases hzz : i.zero with
    | none => simp [hzz] at hz
    | some z =>
      refine ⟨z, fun w => by simp [zeroValue, ri hi, hzz], ?_⟩
      cases z with
      | agg c => simp only [hzz] at hz; injection hz with hz; subst hz; exact VRs.ofAtoms σ _
      | _ =>
        simp only [hzz] at hz
        generalize ho : (AV.ofAtom _).one = b at hz
        cases b with
        | false => cases hz
        | true =>
          injection hz with hz; subst hz
          exact ⟨VR.ofAtom σ _, trivial⟩

theorem repl_length (n : Nat) (z : List AV) : (repl n z).length = n * z.length := by
  unfold repl
  split
  · simp
  · simp

theorem append_sound (R : HR ng n0 σ h w) {ats : Array TypeId} {ty : TypeId} {s x v : AV} {sv xv : Value} {h' : AH} (hs : VR σ s sv) (hx : VR σ x xv) (hq : aappend P h ats s x = some (v, h')) :
    ∃ u w' σ', (Builtin.append_ ats ty #[sv, xv]).run P w = .ok u w' ∧ σ.le σ' ∧ HR ng n0 σ' h' w' ∧ Below n0 w w' ∧ (∀ k, k < h.next → σ' k = σ k) ∧ h.next ≤ h'.next ∧ VR σ' v u := by
  unfold aappend at hq
  cases h0 : ats[0]? with
  | none => simp [h0] at hq
  | some st =>
  cases h1 : ats[1]? with
  | none => simp [h0, h1] at hq
  | some xt =>
  simp only [h0, h1] at hq
  cases hst : P.underlying st with
  | none => simp [hst] at hq
  | some d =>
  cases hxt : P.underlying xt with
  | none => cases d <;> simp [hst, hxt] at hq
  | some xd =>
  cases d <;> simp only [hst, hxt] at hq <;> try (cases hq; done)
  rename_i elem
  cases hi : P.info? elem with
  | none => simp [hi] at hq
  | some info =>
  cases hz : zeroCells P elem with
  | none => simp [hi, hz] at hq
  | some z =>
  simp only [hi, hz] at hq
  cases hn : anew P h elem info.size info.bytes xd x with
  | none => simp [hn] at hq
  | some nv =>
  obtain ⟨n, vs⟩ := nv
  simp only [hn] at hq
  generalize hg : (Nat.ble info.bytes 1000000 && Nat.ble n 1000000 && Nat.beq z.length info.size && vs.one) = g at hq
  cases g with
  | false => cases hq
  | true =>
  rw [cond_true] at hq
  simp only [nble, nbeq, Bool.and_eq_true, decide_eq_true_eq, Cs.list_one] at hg
  obtain ⟨⟨⟨hb, hN⟩, hzl⟩, hone⟩ := hg
  obtain ⟨zv, z1, z2⟩ := zero_any (P := P) (σ := σ) hz
  have hzs : zv.cells.size = info.size := by rw [← Array.length_toList, ← VRs.length z2, hzl]
  have fin : ∀ happ : Sem (Array Value),
      ((xd.isInt = false ∧ (Builtin.lenOf xv).run P w = .ok n w ∧ happ = Builtin.firstCells info.size n xv) ∨
      (xd.isInt = true ∧ (∃ k, xv = .int k (n : Int)) ∧ n ≤ 1000000 ∧ info.bytes ≤ 1000000 ∧ happ = (if n * info.size = 0 then pure #[] else do pure (Builtin.zeroCells (← zeroValue elem).cells n)))) →
      (∀ w2, w2.heap = w.heap → ∃ c, happ.run P w2 = .ok c w2 ∧ VRs σ vs.list c.toList) → vs.list.length = n * info.size →
      ∃ u w' σ', (Builtin.append_ ats ty #[sv, xv]).run P w = .ok u w' ∧ σ.le σ' ∧ HR ng n0 σ' h' w' ∧ Below n0 w w' ∧ (∀ k, k < h.next → σ' k = σ k) ∧ h.next ≤ h'.next ∧ VR σ' v u := by
    intro happ c1 c2 c3
    obtain ⟨base, sLen, sCap, e1, e2, u, w', σ', e3, e4, e5, e6, e7, e8, e9⟩ := appendTo_sound (P := P) (elem := elem) R hs c2 c3 hone hzs hq
    exact ⟨u, w', σ', append_run h0 h1 hst hxt hi z1 e1 happ c1 hb hN e2 e3, e4, e5, e6, e7, e8, e9⟩
  cases hint : xd.isInt with
  | true =>
    cases xd <;> first | (simp [TypeDesc.isInt] at hint; done) | skip
    simp only [anew] at hn
    cases hno : natOf x with
    | none => simp [hno] at hn
    | some m =>
      simp only [hno, nble, Bool.cond_decide] at hn
      split at hn
      · rename_i hm
        simp only [Option.map_eq_some_iff] at hn
        obtain ⟨l, hl, he⟩ := hn
        injection he with e1 e2; subst e1; subst e2
        obtain ⟨k, rfl⟩ := natOf_some hno hx
        unfold zeros at hl
        rw [nbeq, Bool.cond_decide] at hl
        refine fin _ (.inr ⟨rfl, ⟨k, rfl⟩, hm, hb, rfl⟩) (fun w2 _ => ?_) ?_
        · by_cases hx0 : m * info.size = 0
          · rw [if_pos hx0] at hl
            injection hl with hl; subst hl
            exact ⟨#[], by simp [hx0], trivial⟩
          · rw [if_neg hx0] at hl
            simp only [hz, nbeq, Bool.cond_decide, hzl, if_true] at hl
            injection hl with hl; subst hl
            refine ⟨Builtin.zeroCells zv.cells m, by simp [hx0, z1], ?_⟩
            have := repl_sound z2 m info.size hzl hx0
            unfold Builtin.zeroCells
            rw [hzs, replC_list]
            rw [hzs] at this
            exact this
        · by_cases hx0 : m * info.size = 0
          · rw [if_pos hx0] at hl
            injection hl with hl; subst hl
            simp [hx0, Cs.list]
          · rw [if_neg hx0] at hl
            simp only [hz, nbeq, Bool.cond_decide, hzl, if_true] at hl
            injection hl with hl; subst hl
            rw [replC_list, repl_length, hzl]
      · cases hn
  | false =>
    have ha : appended h info.size x = some (n, vs) := by
      cases xd <;> first | (simp [TypeDesc.isInt] at hint; done) | exact hn
    obtain ⟨c, f1, f2, f3, f4, f5⟩ := firstCells_run (P := P) R hx ha
    exact fin _ (.inl ⟨hint, f1, rfl⟩) (fun w2 hw2 => by
      obtain ⟨c', g1, g2, g3, _⟩ := firstCells_run (P := P) (R.world hw2) hx ha
      exact ⟨c', g2, g3⟩) f5
/-! ### delete, maps.clone -/
theorem ERs.erase {σ : Sg} : ∀ {a : List (AV × AV × Nat)} {v : List MapEntry} (i : Nat), ERs σ a v → ERs σ (a.eraseIdx i) (v.eraseIdx i)
  | [], [], _, _ => trivial
  | _ :: _, _ :: _, 0, r => r.2
  | _ :: _, _ :: _, i + 1, r => ⟨r.1, ERs.erase i r.2⟩
  | [], _ :: _, _, r => r.elim
  | _ :: _, [], _, r => r.elim
theorem delete_sound (R : HR ng n0 σ h w) {ats : Array TypeId} {t ty : TypeId} {x k : AV} {xv kv : Value} {h' : AH} (ht : ats[0]? = some t) (hx : VR σ x xv) (hk : VR σ k kv) (hq : adelete P h t x k = some h') :
    ∃ w', (Builtin.delete_ ats ty #[xv, kv]).run P w = .ok (.tuple #[]) w' ∧ HR ng n0 σ h' w' ∧ Below n0 w w' ∧ h.next ≤ h'.next := by
  unfold adelete at hq
  split at hq
  · rename_i key elem r hu
    obtain ⟨e, he, rfl⟩ := hx
    cases hf : keyFits P key k with
    | false => simp [hf] at hq
    | true =>
      simp only [hf, cond_true] at hq
      obtain ⟨d, hd1, hd2, hd3⟩ := fits_split hf
      cases hb : h.get r with
      | none => simp [hb] at hq
      | some bl =>
        cases bl <;> simp only [hb] at hq <;> try (cases hq; done)
        rename_i es clock
        obtain ⟨es', hw, hr⟩ := R.blk r e _ he hb
        cases hfd : afind h k es 0 with
        | none => simp [hfd] at hq
        | some res =>
          obtain ⟨r', hfk, g2⟩ := findKey_sound (P := P) R hf hk es es'.toList res hr hfd
          have hget : (getObj e.blk).run P w = .ok (.map es' clock) w := by simp [getObj, Sem.run, hw]
          have hck := checkKey_run (P := P) (w := w) hd1 hd2 es'.isEmpty 9999 kv
          cases res with
          | some jv =>
            obtain ⟨j, x1⟩ := jv
            cases r' with
            | none => exact g2.elim
            | some jv' =>
              obtain ⟨j', v'⟩ := jv'
              obtain ⟨rfl, _⟩ := g2
              simp only [hfd] at hq
              injection hq with hq; subst hq
              have hob := obj_sound (P := P) R (b' := .map (es.eraseIdx j) clock) (o' := .map (es'.eraseIdxIfInBounds j) clock) he hb rfl hw rfl (fun w' hw' => ⟨_, hw', by rw [Array.toList_eraseIdxIfInBounds]; exact ERs.erase j hr⟩)
              refine ⟨_, ?_, hob.2.1, hob.2.2, Nat.le_refl _⟩
              simp only [Builtin.delete_, ht, Sem.run_bind, ru hu, Result.andThen_ok, hget, hck, hfk, hob.1, Sem.run_pure, List.getElem?_toArray, List.getElem?_cons_zero, List.getElem?_cons_succ]
          | none =>
            cases r' with
            | some _ => exact g2.elim
            | none =>
              simp only [hfd] at hq
              injection hq with hq; subst hq
              have hob := obj_sound (P := P) R (b' := .map es clock) (o' := .map es' clock) he hb rfl hw rfl (fun w' hw' => ⟨_, hw', hr⟩)
              refine ⟨_, ?_, hob.2.1, hob.2.2, Nat.le_refl _⟩
              simp only [Builtin.delete_, ht, Sem.run_bind, ru hu, Result.andThen_ok, hget, hck, hfk, hob.1, Sem.run_pure, List.getElem?_toArray, List.getElem?_cons_zero, List.getElem?_cons_succ]
  · cases hq
theorem row_clone : Extern.allRows.lookup "maps.clone" = some Extern.MapsClone.clone := by kernel_rfl
theorem row_generic : (Extern.allGenericRows.lookup "maps.clone").isNone = true := by kernel_rfl
theorem row_typed : (Extern.allTypedRows.lookup "maps.clone").isNone = true := by kernel_rfl
theorem row_next : (Extern.allNextRows.lookup "maps.clone").isNone = true := by kernel_rfl
theorem row_ix : Extern.allRows.lookup "internal/bytealg.IndexByteString" = some Extern.BytealgIndexByte.indexByte := by kernel_rfl
theorem row_ixg : (Extern.allGenericRows.lookup "internal/bytealg.IndexByteString").isNone = true := by kernel_rfl
theorem row_ixt : (Extern.allTypedRows.lookup "internal/bytealg.IndexByteString").isNone = true := by kernel_rfl
theorem row_ixn : (Extern.allNextRows.lookup "internal/bytealg.IndexByteString").isNone = true := by kernel_rfl
theorem idx_sound {c : Nat} (hc : c < 256) : ∀ (l : List Nat) (i : Nat), (∀ b ∈ l, b < 256) → idxByte c l i = ((List.range l.length).find? fun j => (mkS l)[j]! == UInt8.ofNat c).map (· + i) := by
  intro l
  induction l with
  | nil => intro i _; rfl
  | cons b l ih =>
    intro i hl
    have hb := hl b (List.mem_cons_self ..)
    have h0 : (mkS (b :: l))[0]! = UInt8.ofNat b := rfl
    have hs : ∀ j, (mkS (b :: l))[j + 1]! = (mkS l)[j]! := fun j => by
      by_cases hj : j < l.length
      · have h1 : j < (mkS l).size := by rw [mkS_size]; exact hj
        have h2 : j + 1 < (mkS (b :: l)).size := by rw [mkS_size]; simp; exact hj
        rw [getElem!_pos (mkS l) j h1, getElem!_pos (mkS (b :: l)) (j + 1) h2]
        simp [mkS, ByteArray.getElem_eq_getElem_data]
      · have h1 : ¬ j < (mkS l).size := by rw [mkS_size]; exact hj
        have h2 : ¬ j + 1 < (mkS (b :: l)).size := by rw [mkS_size]; simpa using hj
        rw [getElem!_neg (mkS l) j h1, getElem!_neg (mkS (b :: l)) (j + 1) h2]
    rw [List.length_cons, List.range_succ_eq_map, List.find?_cons, h0]
    unfold idxByte
    rw [nbeq, Bool.cond_decide]
    by_cases hbc : b = c
    · subst hbc; simp
    · rw [if_neg hbc]
      have hne : (UInt8.ofNat b == UInt8.ofNat c) = false := by
        rw [beq_eq_false_iff_ne]
        intro e
        have := congrArg UInt8.toNat e
        rw [UInt8.toNat_ofNat_of_lt' hb, UInt8.toNat_ofNat_of_lt' hc] at this
        exact hbc this
      rw [hne, ih (i + 1) fun x hx => hl x (List.mem_cons_of_mem _ hx)]
      simp only [List.find?_map, Option.map_map, Function.comp_def, hs]
      congr 1
      funext j
      omega
theorem ix_eq (b c : Value) : Extern.BytealgIndexByte.indexByte #[b, c] = (do
    let b ← Extern.Bytes.bytesOf b
    let c ← Extern.Bytes.asByte c
    match (List.range b.size).find? fun i => b[i]! == c with
    | some i => pure (goInt i)
    | none => pure (goInt (-1))) := rfl
theorem clone_eq (t : TypeId) (r : Nat) : Extern.MapsClone.clone #[.iface t (.map (some r))] = (do
    let .map entries clock ← getObj r | stuck "maps.clone: a map expected"
    pure (.iface t (.map (some (← newObj (.map entries clock)))))) := rfl
theorem row_next0 : (Extern.allNextRows.lookup "").isNone = true := by kernel_rfl
theorem extern_sound (R : HR ng n0 σ h w) {f : FuncId} {args : List AV} {argv : Array Value} {v : AV} {h' : AH} (ha : VRs σ args argv.toList) (hq : aextern P h f args = some (v, h')) :
    ∃ σ' w' u, (callFunc f argv).run P w = .ok (.value u) w' ∧ σ.le σ' ∧ HR ng n0 σ' h' w' ∧ (∀ x, x < h.next → σ' x = σ x) ∧ h.next ≤ h'.next ∧ VR σ' v u ∧ Below n0 w w' := by
  unfold aextern at hq
  split at hq
  · rename_i fn s c hfn
    cases hc : (fn.body.isNone && fn.name == "internal/bytealg.IndexByteString" && fn.origin == "" && Nat.blt c 256) with
    | false => rw [hc] at hq; cases hq
    | true =>
      rw [hc, cond_true] at hq
      simp only [Bool.and_eq_true, beq_iff_eq, nblt, decide_eq_true_eq] at hc
      obtain ⟨⟨⟨c1, c2⟩, c3⟩, c4⟩ := hc
      obtain ⟨l⟩ := argv
      match l, ha with
      | [x, y], ⟨⟨hx, hs⟩, hy, _⟩ =>
        have hy : y = .int .u8 (c : Int) := hy
        subst hx hy
        have f1 : Extern.findNext fn = none := by
          have g1 : Extern.allNextRows.lookup "internal/bytealg.IndexByteString" = none := by simpa using row_ixn
          have g2 : Extern.allNextRows.lookup "" = none := by simpa using row_next0
          simp [Extern.findNext, c2, c3, g1, g2]
        have f2 : Extern.find fn = some Extern.BytealgIndexByte.indexByte := by
          have g1 : Extern.allGenericRows.lookup "internal/bytealg.IndexByteString" = none := by simpa using row_ixg
          have g2 : Extern.allTypedRows.lookup "internal/bytealg.IndexByteString" = none := by simpa using row_ixt
          simp [Extern.find, c2, g1, g2, row_ix]
        have hnn : ¬ fn.name = "runtime.NumGoroutine" := by rw [c2]; decide
        have c1 : fn.body = none := by simpa using c1
        have hcc : (c : Int).toNat.toUInt8 = UInt8.ofNat c := rfl
        have hix := idx_sound c4 s.list 0 hs
        refine ⟨σ, w, goInt (match ((List.range (mkS s.list).size).find? fun j => (mkS s.list)[j]! == UInt8.ofNat c) with | some i => (i : Int) | none => -1), ?_, Sg.le.refl σ, ?_, fun _ _ => rfl, ?_, ?_, Below.refl _ _⟩
        · have hrun : (Extern.BytealgIndexByte.indexByte #[.string (mkS s.list), .int .u8 (c : Int)]).run P w = .ok (goInt (match ((List.range (mkS s.list).size).find? fun j => (mkS s.list)[j]! == UInt8.ofNat c) with | some i => (i : Int) | none => -1)) w := by
            rw [ix_eq]
            show (match ((List.range (mkS s.list).size).find? fun j => (mkS s.list)[j]! == UInt8.ofNat c) with | some i => (pure (goInt i) : Sem Value) | none => pure (goInt (-1))).run P w = _
            cases (List.range (mkS s.list).size).find? fun j => (mkS s.list)[j]! == UInt8.ofNat c <;> rfl
          simp [callFunc, program, Sem.run, hfn, hnn, c1, f1, f2, mark, hrun]
        · cases hi : idxByte c s.list 0 <;> rw [hi] at hq <;> injection hq with hq <;> injection hq with e1 e2 <;> subst e2 <;> exact R
        · cases hi : idxByte c s.list 0 <;> rw [hi] at hq <;> injection hq with hq <;> injection hq with e1 e2 <;> subst e2 <;> exact Nat.le_refl _
        · rw [mkS_size, show ((List.range s.list.length).find? fun j => (mkS s.list)[j]! == UInt8.ofNat c) = idxByte c s.list 0 by rw [hix]; simp]
          cases hi : idxByte c s.list 0 <;> rw [hi] at hq <;> injection hq with hq <;> injection hq with e1 e2 <;> subst e1 <;> rfl
      | [], h => exact h.elim
      | [_], h => exact h.2.elim
      | _ :: _ :: _ :: _, h => exact h.2.2.elim
  · rename_i fn t k hfn
    cases hc : (fn.body.isNone && fn.name == "maps.clone" && fn.origin == "") with
    | false => rw [hc] at hq; cases hq
    | true =>
      rw [hc, cond_true] at hq
      simp only [Bool.and_eq_true, beq_iff_eq] at hc
      obtain ⟨⟨c1, c2⟩, c3⟩ := hc
      cases hb : h.get k with
      | none => simp [hb] at hq
      | some bl =>
        cases bl <;> simp only [hb] at hq <;> try (cases hq; done)
        rename_i es clock
        injection hq with hq
        injection hq with e1 e2
        subst e1 e2
        obtain ⟨l⟩ := argv
        match l, ha with
        | [x], ⟨⟨y, hx, ⟨e, he, hy⟩⟩, _⟩ =>
          subst hx hy
          obtain ⟨es', hw, hr⟩ := R.blk k e _ he hb
          let d : Loc := ⟨w.heap.size, 0, 0⟩
          let w1 : World := { w with heap := w.heap.push (.map es' clock) }
          have hle : σ.le (σ.put h.next d) := Sg.le_put (R.fresh _ (Nat.le_refl _))
          have R1 : HR ng n0 (σ.put h.next d) (h.new (.map es clock)) w1 := R.new (o := .map es' clock) ⟨es', by simp [w1, d], hr.mono hle⟩ (Push.new _ _) rfl
          refine ⟨σ.put h.next d, w1, .iface t (.map (some w.heap.size)), ?_, hle, R1, fun x hx => Sg.put_ne _ _ (by omega), Nat.le_succ _, ⟨_, rfl, d, Sg.put_same _ _ _, rfl⟩, (Push.new (.map es' clock) w).below R.big⟩
          have f1 : Extern.findNext fn = none := by
            have g1 : Extern.allNextRows.lookup "maps.clone" = none := by simpa using row_next
            have g2 : Extern.allNextRows.lookup "" = none := by simpa using row_next0
            simp [Extern.findNext, c2, c3, g1, g2]
          have f2 : Extern.find fn = some Extern.MapsClone.clone := by
            have g1 : Extern.allGenericRows.lookup "maps.clone" = none := by simpa using row_generic
            have g2 : Extern.allTypedRows.lookup "maps.clone" = none := by simpa using row_typed
            simp [Extern.find, c2, g1, g2, row_clone]
          have hnn : ¬ fn.name = "runtime.NumGoroutine" := by rw [c2]; decide
          have c1 : fn.body = none := by simpa using c1
          simp [callFunc, program, Sem.run, hfn, hnn, c1, f1, f2, mark, clone_eq, getObj, newObj, hw, w1]
        | [], h => exact h.elim
        | _ :: _ :: _, h => exact h.2.elim
  · cases hq
/-! ### clear -/
theorem clear_sound (R : HR ng n0 σ h w) {ats : Array TypeId} {t ty : TypeId} {x : AV} {xv : Value} {h' : AH} (ht : ats[0]? = some t) (hx : VR σ x xv) (hq : aclear P h t x = some h') :
    ∃ w', (Builtin.clear_ ats ty #[xv]).run P w = .ok (.tuple #[]) w' ∧ HR ng n0 σ h' w' ∧ Below n0 w w' ∧ h.next ≤ h'.next := by
  have e0 : (#[xv] : Array Value)[0]? = some xv := rfl
  unfold aclear at hq
  split at hq
  · rename_i elem k off n cap hu
    obtain ⟨e, c, he, rfl, hc⟩ := hx
    rw [nbeq, Bool.cond_decide] at hq
    split at hq
    · rename_i hn; subst hn
      injection hq with hq; subst hq
      exact ⟨w, by simp [Builtin.clear_, ht, ru hu], R, Below.refl _ _, Nat.le_refl _⟩
    · rename_i hn
      cases hz : zeroCells P elem with
      | none => simp [hz] at hq
      | some z =>
      cases hs : sizeOf? P elem with
      | none => simp [hz, hs] at hq
      | some size =>
      cases hb : h.get k with
      | none => simp [hz, hs, hb] at hq
      | some bl =>
        cases bl <;> simp only [hz, hs, hb] at hq <;> try (cases hq; done)
        rename_i ro cs
        cases ro <;> simp only [] at hq <;> try (cases hq; done)
        generalize hg : (Nat.beq z.length size && Nat.ble 1 size && (replC n z).one) = g at hq
        cases g with
        | false => cases hq
        | true =>
          rw [cond_true] at hq
          simp only [nble, nbeq, Bool.and_eq_true, decide_eq_true_eq, Cs.list_one] at hg
          obtain ⟨⟨hzl, hsz⟩, hone⟩ := hg
          simp only [Option.map_eq_some_iff] at hq
          obtain ⟨cs', hp, rfl⟩ := hq
          obtain ⟨zv, z1, z2⟩ := zero_any (P := P) (σ := σ) hz
          have hzs : zv.cells.size = size := by rw [← Array.length_toList, ← VRs.length z2, hzl]
          have hrep := repl_sound z2 n size hzl (Nat.mul_ne_zero hn (by omega))
          have hzc : (Builtin.zeroCells zv.cells n).toList = ((Array.range (n * size)).map (zv.cells[· % zv.cells.size]!)).toList := by unfold Builtin.zeroCells; rw [hzs]
          rw [← hzc, ← replC_list] at hrep
          obtain ⟨w', q1, q2, q3, q4⟩ := putCells_sound (P := P) R he hb hrep hone hp
          obtain ⟨n', rfl⟩ : ∃ n', n = n' + 1 := ⟨n - 1, by omega⟩
          refine ⟨w', ?_, q2, q3, Nat.le_refl _⟩
          simp [Builtin.clear_, ht, ru hu, z1, q1]
  · rename_i elem l c hu
    obtain ⟨rfl, _⟩ := hx
    injection hq with hq; subst hq
    exact ⟨w, by simp [Builtin.clear_, ht, ru hu], R, Below.refl _ _, Nat.le_refl _⟩
  · rename_i elem c hu
    obtain ⟨a, cc, rfl, _⟩ := hx
    injection hq with hq; subst hq
    exact ⟨w, by simp [Builtin.clear_, ht, ru hu], R, Below.refl _ _, Nat.le_refl _⟩
  · cases hq
/-! ### copy -/
theorem aLen_sound {x : AV} {xv : Value} {n : Nat} (hx : VR σ x xv) (hq : aLen x = some n) : (Builtin.lenOf xv).run P w = .ok n w := by
  unfold aLen at hq
  split at hq
  · injection hq with hq; subst hq; obtain ⟨e, c, _, rfl, _⟩ := hx; simp [Builtin.lenOf]
  · injection hq with hq; subst hq; obtain ⟨rfl, _⟩ := hx; simp [Builtin.lenOf]
  · injection hq with hq; subst hq; obtain ⟨a, c, rfl, _⟩ := hx; simp [Builtin.lenOf]
  · injection hq with hq; subst hq; obtain ⟨rfl, _⟩ := hx; simp [Builtin.lenOf, mkS_size, Bs.list_len]
  · cases hq
theorem firstN_sound (R : HR ng n0 σ h w) {size n : Nat} {x : AV} {xv : Value} {vs : Cs} (hx : VR σ x xv) (hq : firstN h size n x = some vs) :
    ∃ c : Array Value, (Builtin.firstCells size n xv).run P w = .ok c w ∧ VRs σ vs.list c.toList ∧ vs.list.all AV.one = true := by
  unfold firstN at hq
  split at hq
  · rename_i k off l cap
    obtain ⟨e, c, he, rfl, _⟩ := hx
    cases hb : h.get k with
    | none => simp [hb] at hq
    | some bl =>
      cases bl <;> simp only [hb] at hq <;> try (cases hq; done)
      rename_i ro cs
      rw [nbeq] at hq
      cases hc : (decide ((cs.sub off (n * size)).len = n * size) && (cs.sub off (n * size)).one) with
      | false => rw [hc] at hq; cases hq
      | true =>
        rw [hc, cond_true] at hq
        rw [Bool.and_eq_true, decide_eq_true_eq, Cs.list_one, Cs.list_len, Cs.list_sub] at hc
        injection hq with hq; subst hq
        rw [Cs.list_sub]
        obtain ⟨vs, g1, g2, g3⟩ := br_cells (P := P) (R.blk k e _ he hb) hc.1
        exact ⟨vs.toArray, by simp [Builtin.firstCells, g3], by simpa using g2, hc.2⟩
  · rename_i s
    obtain ⟨rfl, hs⟩ := hx
    rw [nbeq, nble] at hq
    cases hc : (decide (size = 1) && decide (n ≤ s.n)) with
    | false => rw [hc] at hq; cases hq
    | true =>
      rw [hc, cond_true] at hq
      rw [Bool.and_eq_true, decide_eq_true_eq, decide_eq_true_eq] at hc
      injection hq with hq; subst hq
      refine ⟨((mkS s.list).extract 0 n).data.map fun b => .int .u8 b.toNat, by simp [Builtin.firstCells], ?_, ?_⟩
      · have : (mkS s.list).extract 0 n = mkS (s.list.take n) := by
          unfold mkS; rw [ByteArray.extract_mk, Nat.sub_zero, List.drop_zero, List.map_take]
        rw [this]
        show VRs σ ((s.sub 0 n).list.map byteA) (((s.list.take n).map UInt8.ofNat).toArray.map fun b => Value.int .u8 b.toNat).toList
        rw [Bs.list_sub, List.drop_zero, Array.toList_map, List.toList_toArray, List.map_map]
        refine VRs.map _ _ _ fun b hb => ?_
        have := hs b (List.mem_of_mem_take hb)
        simp only [byteA, VR, Function.comp, UInt8.toNat_ofNat_of_lt' this]; rfl
      · exact bytes_one _
  · cases hq
theorem firstCells_none {x : AV} {xv : Value} {size n : Nat} (hx : VR σ x xv) (hq : aLen x = some n) : (Builtin.firstCells size 0 xv).run P w = .ok #[] w := by
  unfold aLen at hq
  split at hq
  · obtain ⟨e, c, _, rfl, _⟩ := hx; simp [Builtin.firstCells, loadCells, loadCellsFrom]
  · obtain ⟨rfl, _⟩ := hx; simp [Builtin.firstCells]
  · obtain ⟨a, c, rfl, _⟩ := hx; simp [Builtin.firstCells, loadCells, loadCellsFrom]
  · obtain ⟨rfl, _⟩ := hx
    have : (mkS (‹Bs› : Bs).list).extract 0 0 = ⟨#[]⟩ := by
      unfold mkS; rw [ByteArray.extract_mk]; simp
    simp [Builtin.firstCells, this]
  · cases hq
theorem copy_sound (R : HR ng n0 σ h w) {ats : Array TypeId} {t ty : TypeId} {d s : AV} {dv sv : Value} {n : Nat} {h' : AH} (ht : ats[0]? = some t) (hd : VR σ d dv) (hs : VR σ s sv) (hq : acopy P h t d s = some (n, h')) :
    ∃ w', (Builtin.copy_ ats ty #[dv, sv]).run P w = .ok (.int .i64 (n : Int)) w' ∧ HR ng n0 σ h' w' ∧ Below n0 w w' ∧ h.next ≤ h'.next := by
  unfold acopy at hq
  cases hu : P.underlying t with
  | none => simp [hu] at hq
  | some dt =>
    cases dt <;> simp only [hu] at hq <;> try (cases hq; done)
    rename_i elem
    cases hsz : sizeOf? P elem with
    | none => simp [hsz] at hq
    | some size =>
    cases hls : aLen s with
    | none => simp [hsz, hls] at hq
    | some ls =>
    cases hld : aLen d with
    | none => simp [hsz, hls, hld] at hq
    | some ld =>
    simp only [hsz, hls, hld, nbeq, Bool.cond_decide] at hq
    have hlen := fun w => aLen_sound (P := P) (w := w) hs hls
    have e0 : (#[dv, sv] : Array Value)[0]? = some dv := rfl
    have e1 : (#[dv, sv] : Array Value)[1]? = some sv := rfl
    by_cases hn0 : Nat.min ls ld = 0
    · rw [if_pos hn0] at hq
      have hfc := fun w => firstCells_none (P := P) (w := w) (size := size) hs hls
      have fin : ∀ base c, dv = .slice base ld c → n = 0 ∧ h' = h → ∃ w', (Builtin.copy_ ats ty #[dv, sv]).run P w = .ok (.int .i64 (n : Int)) w' ∧ HR ng n0 σ h' w' ∧ Below n0 w w' ∧ h.next ≤ h'.next := fun base c hdv ⟨hn, hh⟩ => by
        subst hn hh
        refine ⟨w, ?_, R, Below.refl _ _, Nat.le_refl _⟩
        cases base <;> simp [Builtin.copy_, ht, e0, e1, hdv, ru hu, hlen, hn0, rs hsz, hfc, storeCells, goInt]
      unfold aLen at hld
      split at hld
      · injection hld with hld; subst hld
        obtain ⟨e, c, _, rfl, _⟩ := hd
        simp only at hq
        injection hq with hq; injection hq with q1 q2
        exact fin _ _ rfl ⟨q1.symm, q2.symm⟩
      · injection hld with hld; subst hld
        obtain ⟨rfl, _⟩ := hd
        simp only at hq
        injection hq with hq; injection hq with q1 q2
        exact fin _ _ rfl ⟨q1.symm, q2.symm⟩
      · injection hld with hld; subst hld
        obtain ⟨a, c, rfl, _⟩ := hd
        simp only at hq
        injection hq with hq; injection hq with q1 q2
        exact fin _ _ rfl ⟨q1.symm, q2.symm⟩
      · simp only at hq; cases hq
      · cases hld
    · rw [if_neg hn0] at hq
      split at hq
      · rename_i k off l cap
        split at hq
        · rename_i vs cs hf hb
          split at hq
          · rename_i cs' hp
            injection hq with hq; injection hq with q1 q2; subst q1; subst q2
            obtain ⟨e, c, he, rfl, _⟩ := hd
            injection hld with hld; subst hld
            obtain ⟨cv, f1, f2, f3⟩ := firstN_sound (P := P) R hs hf
            obtain ⟨w', g1, g2, g3, g4⟩ := putCells_sound (P := P) R he hb f2 f3 hp
            refine ⟨w', ?_, g2, g3, Nat.le_refl _⟩
            simp [Builtin.copy_, ht, e0, e1, ru hu, hlen, rs hsz, f1, g1, goInt]
          · cases hq
        · cases hq
      · cases hq
end
end Go.Proofs.YtfmopmjgohopeaaGreatDoor.Ev

/-
  The abstract machine: methods.
-/
set_option linter.unusedVariables false
set_option linter.unusedSimpArgs false
set_option linter.constructorNameAsVariable false
namespace Go.Proofs.YtfmopmjgohopeaaGreatDoor.Ev
open Go Go.RowKit

section
variable {P : Program} {ng n0 : Nat} {σ : Sg} {h : AH} {w : World}

def PlR (σ : Sg) : APlace → Place → Prop
  | .val v, .val u => VR σ v u
  | .var k off, .var a => ∃ e, σ k = some e ∧ a = e.at off
  | _, _ => False

theorem loadVar_of {t : TypeId} {a : Addr} : (Instr.loadAt t (.pointer (some a))).run P w = (loadVar t a).run P w := by
  simp [Instr.loadAt, Instr.sureAddr]

theorem get_sound (R : HR ng n0 σ h w) {t : TypeId} {x : APlace} {y : Place} {v : AV} (hx : PlR σ x y) (hq : x.get P h t = some v) :
    ∃ u, (y.get t).run P w = .ok u w ∧ VR σ v u := by
  cases x <;> cases y <;> simp only [PlR] at hx
  · rename_i a b
    simp only [APlace.get] at hq
    injection hq with hq; subst hq
    exact ⟨b, rfl, hx⟩
  · rename_i k off a
    obtain ⟨e, he, rfl⟩ := hx
    simp only [APlace.get] at hq
    obtain ⟨u, h1, h2⟩ := load_sound (P := P) R (a := .ptr k off) (x := .pointer (some (e.at off))) ⟨e, he, rfl⟩ hq
    exact ⟨u, loadVar_of.symm.trans h1, h2⟩

theorem follow_sound (R : HR ng n0 σ h w) : ∀ (path : List FieldStep) (t : TypeId) (x : APlace) (y : Place) (t' : TypeId) (x' : APlace), PlR σ x y → afollow P h path t x = some (t', x') →
    ∃ y', (follow path t y).run P w = .ok (t', y') w ∧ PlR σ x' y'
  | [], t, x, y, t', x', hx, hq => by
    simp only [afollow] at hq
    injection hq with hq; injection hq with e1 e2; subst e1; subst e2
    exact ⟨y, rfl, hx⟩
  | s :: rest, t, x, y, t', x', hx, hq => by
    simp only [afollow] at hq
    cases hu : P.underlying s.struct with
    | none => simp [hu] at hq
    | some d =>
      cases d <;> simp only [hu] at hq <;> try (cases hq; done)
      rename_i fields
      cases hf : fields[s.index]? with
      | none => simp [hf] at hq
      | some f =>
        simp only [hf] at hq
        cases hs : sizeOf? P f.type with
        | none => simp [hs] at hq
        | some n =>
          cases n with
          | zero => simp [hs] at hq
          | succ n =>
            simp only [hs] at hq
            cases hd : s.deref with
            | true =>
              simp only [hd, cond_true] at hq
              cases hg : x.get P h t with
              | none => simp [hg] at hq
              | some a =>
                cases a <;> simp only [hg] at hq <;> try (cases hq; done)
                rename_i k off
                obtain ⟨u, h1, h2⟩ := get_sound (P := P) R hx hg
                obtain ⟨e, he, rfl⟩ := h2
                obtain ⟨y', h3, h4⟩ := follow_sound R rest f.type (.var k (off + f.offset)) (.var (e.at (off + f.offset))) t' x' ⟨e, he, rfl⟩ hq
                refine ⟨y', ?_, h4⟩
                simp [follow, ru hu, hf, hd, h1, asAddr, fieldPlace, rs hs, at_add, h3]
            | false =>
              simp only [hd, cond_false] at hq
              cases x with
              | var k off =>
                cases y with
                | val _ => exact hx.elim
                | var a =>
                  obtain ⟨e, he, rfl⟩ := hx
                  simp only at hq
                  obtain ⟨y', h3, h4⟩ := follow_sound R rest f.type (.var k (off + f.offset)) (.var (e.at (off + f.offset))) t' x' ⟨e, he, rfl⟩ hq
                  refine ⟨y', ?_, h4⟩
                  simp [follow, ru hu, hf, hd, fieldPlace, rs hs, at_add, h3]
              | val v =>
                cases y with
                | var _ => exact hx.elim
                | val u =>
                  cases v <;> simp only at hq <;> try (cases hq; done)
                  rename_i cs
                  obtain ⟨c, rfl, hr⟩ := hx
                  cases hp : apart P f.type cs f.offset with
                  | none => simp [hp] at hq
                  | some v' =>
                    simp only [hp] at hq
                    obtain ⟨u', h1, h2⟩ := part_sound (P := P) (w := w) hr hp
                    obtain ⟨y', h3, h4⟩ := follow_sound R rest f.type (.val v') (.val u') t' x' h2 hq
                    refine ⟨y', ?_, h4⟩
                    simp [follow, ru hu, hf, hd, h1, h3]

theorem receiver_sound (R : HR ng n0 σ h w) {xt : TypeId} {x : APlace} {y : Place} {ptr whole : Bool} {wr : Option String} {v : AV} (hx : PlR σ x y) (hwr : whole = false → wr = none) (hq : areceiver P h xt x ptr whole = some v) :
    ∃ u, (receiverAt xt y ptr wr).run P w = .ok u w ∧ VR σ v u := by
  unfold areceiver at hq
  cases hu : P.underlying xt with
  | none => simp [hu] at hq
  | some d =>
    rw [hu] at hq
    cases ptr with
    | true =>
      by_cases hd : ∃ elem, d = .pointer elem
      · obtain ⟨elem, rfl⟩ := hd
        simp only at hq
        obtain ⟨u, h1, h2⟩ := get_sound (P := P) R hx hq
        exact ⟨u, by simp [receiverAt, ru hu, h1], h2⟩
      · cases x with
        | val v' => cases d <;> first | (exact (hd ⟨_, rfl⟩).elim) | (simp at hq)
        | var k off =>
          cases y with
          | val _ => exact hx.elim
          | var a =>
            obtain ⟨e, he, rfl⟩ := hx
            have hv : v = .ptr k off := by cases d <;> first | (exact (hd ⟨_, rfl⟩).elim) | (simp at hq; exact hq.symm)
            subst hv
            refine ⟨.pointer (some (e.at off)), ?_, e, he, rfl⟩
            cases d <;> first | (exact (hd ⟨_, rfl⟩).elim) | simp [receiverAt, ru hu]
    | false =>
      by_cases hd : ∃ elem, d = .pointer elem
      · obtain ⟨elem, rfl⟩ := hd
        simp only at hq
        cases whole with
        | true => simp at hq
        | false =>
          simp only [cond_false] at hq
          have := hwr rfl; subst this
          cases hg : x.get P h xt with
          | none => simp [hg] at hq
          | some a =>
            cases a <;> simp only [hg] at hq <;> try (cases hq; done)
            rename_i k off
            obtain ⟨u, h1, e, he, rfl⟩ := get_sound (P := P) R hx hg
            obtain ⟨u2, h3, h4⟩ := load_sound (P := P) R (a := .ptr k off) (x := .pointer (some (e.at off))) ⟨e, he, rfl⟩ hq
            rw [loadVar_of] at h3
            exact ⟨u2, by simp [receiverAt, ru hu, h1, asAddr, h3], h4⟩
      · have hq' : x.get P h xt = some v := by cases d <;> first | (exact (hd ⟨_, rfl⟩).elim) | (cases x <;> exact hq)
        obtain ⟨u, h1, h2⟩ := get_sound (P := P) R hx hq'
        refine ⟨u, ?_, h2⟩
        cases d <;> first | (exact (hd ⟨_, rfl⟩).elim) | simp [receiverAt, ru hu, h1]

theorem method_sound (R : HR ng n0 σ h w) : ∀ (n N : Nat) (t : TypeId) (v : AV) (u : Value) (name : String) (f : FuncId) (x : AV), n ≤ N → VR σ v u → amethod P h n t v name = some (f, x) →
    ∃ y, (method N t u name).run P w = .ok (f, y) w ∧ VR σ x y
  | 0, _, _, _, _, _, _, _, _, _, hq => by simp [amethod] at hq
  | n + 1, 0, _, _, _, _, _, _, hn, _, _ => by omega
  | n + 1, N + 1, t, v, u, name, f, x, hn, hv, hq => by
    simp only [amethod] at hq
    cases hi : P.info? t with
    | none => simp [hi] at hq
    | some i =>
      simp only [hi] at hq
      cases hm : i.methods.find? (·.name == name) with
      | none => simp [hm] at hq
      | some m =>
        simp only [hm] at hq
        cases hf : afollow P h m.path.toList t (.val v) with
        | none => simp [hf] at hq
        | some tx =>
          obtain ⟨xt, p⟩ := tx
          simp only [hf] at hq
          obtain ⟨y, h1, h2⟩ := follow_sound (P := P) R m.path.toList t (.val v) (.val u) xt p hv hf
          cases hfn : m.func with
          | none =>
            simp only [hfn] at hq
            cases hg : p.get P h xt with
            | none => simp [hg] at hq
            | some a =>
              cases a <;> simp only [hg] at hq <;> try (cases hq; done)
              rename_i t' v'
              obtain ⟨z, h3, y', rfl, h5⟩ := get_sound (P := P) R h2 hg
              obtain ⟨r, h6, h7⟩ := method_sound R n N t' v' y' name f x (by omega) h5 hq
              exact ⟨r, by simp [method, ri hi, hm, h1, hfn, h3, h6], h7⟩
          | some fp =>
            obtain ⟨g, ptr⟩ := fp
            simp only [hfn] at hq
            cases hr : areceiver P h xt p ptr m.path.isEmpty with
            | none => simp [hr] at hq
            | some z =>
              simp only [hr] at hq
              injection hq with hq; injection hq with e1 e2; subst e1; subst e2
              obtain ⟨r, h6, h7⟩ := receiver_sound (P := P) (wr := if m.path.isEmpty then some ((name.splitOn ".").getLastD name) else none) R h2 (fun hw => by simp [hw]) hr
              exact ⟨r, by simp only [method, Sem.run_bind, ri hi, Result.andThen_ok, hm, h1, hfn, h6, Sem.run_pure], h7⟩
end
end Go.Proofs.YtfmopmjgohopeaaGreatDoor.Ev

/-
  The abstract machine: what is left of a region that draws its order; the masks.
-/
set_option linter.unusedVariables false
set_option linter.unusedSimpArgs false
set_option linter.constructorNameAsVariable false
namespace Go.Proofs.YtfmopmjgohopeaaGreatDoor.Ev
open Go Go.RowKit

/-- edges lead back -/
def Back (ops : Array Oper) : Prop := ∀ i o, ops[i]? = some o → ∀ e ∈ o.after.toList, Region.binds .any e = true → e.on < i
def dep (ops : Array Oper) (i j : Nat) : Prop := ∃ o, ops[i]? = some o ∧ ∃ e ∈ o.after.toList, Region.binds .any e = true ∧ e.on = j

structure Sched (ops : Array Oper) (l : List Nat) : Prop where
  nodup : l.Nodup
  lt : ∀ i ∈ l, i < ops.size
  pre : l.Pairwise (fun i j => ¬ dep ops i j)
  closed : ∀ i, i ∉ l → ∀ j, dep ops i j → j ∉ l

theorem Sched.head_dep {ops : Array Oper} {i : Nat} {l : List Nat} (hb : Back ops) (s : Sched ops (i :: l)) {j : Nat} (hd : dep ops i j) : j ∉ i :: l := by
  intro hj
  cases List.mem_cons.1 hj with
  | inl h =>
    subst h
    obtain ⟨o, ho, e, he, h1, h2⟩ := hd
    have := hb j o ho e he h1
    omega
  | inr h => exact (List.pairwise_cons.1 s.pre).1 j h hd
theorem Sched.tail {ops : Array Oper} {i : Nat} {l : List Nat} (hb : Back ops) (s : Sched ops (i :: l)) : Sched ops l := by
  refine ⟨(List.nodup_cons.1 s.nodup).2, fun j hj => s.lt j (List.mem_cons_of_mem _ hj), (List.pairwise_cons.1 s.pre).2, fun j hj k hk => ?_⟩
  by_cases h : j = i
  · subst h
    exact fun hx => s.head_dep hb hk (List.mem_cons_of_mem _ hx)
  · have : j ∉ i :: l := fun hx => (List.mem_cons.1 hx).elim h hj
    exact fun hx => s.closed j this k hk (List.mem_cons_of_mem _ hx)

theorem least (p : Nat → Prop) : ∀ n, p n → ∃ i, p i ∧ ∀ j, j < i → ¬ p j := fun n => by
  induction n using Nat.strongRecOn with
  | ind n ih =>
    intro hn
    by_cases h : ∃ j, j < n ∧ p j
    · obtain ⟨j, hj, hp⟩ := h; exact ih j hj hp
    · exact ⟨n, hn, fun j hj hp => h ⟨j, hj, hp⟩⟩

def unl (n : Nat) (listed : Array Bool) : List Nat := (List.range n).filter fun i => listed[i]? == some false
theorem mem_unl {n : Nat} {listed : Array Bool} {i : Nat} : i ∈ unl n listed ↔ i < n ∧ listed[i]? = some false := by
  simp [unl]
theorem unl_set {n : Nat} {listed : Array Bool} {i : Nat} (hs : listed.size = n) (hi : i < n) (j : Nat) :
    (listed.setIfInBounds i true)[j]? = some false ↔ listed[j]? = some false ∧ j ≠ i := by
  rw [Array.getElem?_setIfInBounds]
  by_cases h : i = j
  · subst h; simp [hs, hi]
  · simp [h]; intro _; exact fun hx => h hx.symm

theorem unl_len {n : Nat} {listed : Array Bool} {i : Nat} (hs : listed.size = n) (hi : i ∈ unl n listed) : (unl n (listed.setIfInBounds i true)).length < (unl n listed).length := by
  have hin : i < n := (mem_unl.1 hi).1
  have e : unl n (listed.setIfInBounds i true) = (unl n listed).filter (fun j => j != i) := by
    unfold unl
    rw [List.filter_filter]
    apply List.filter_congr
    intro j _
    have := unl_set hs hin j
    rw [Bool.eq_iff_iff]
    simp only [beq_iff_eq, Bool.and_eq_true, bne_iff_ne, ne_eq]
    rw [this]
    exact ⟨fun ⟨a, b⟩ => ⟨b, a⟩, fun ⟨a, b⟩ => ⟨b, a⟩⟩
  rw [e]
  exact List.length_filter_lt_length_iff_exists.2 ⟨i, hi, by simp⟩

theorem mem_ready {ops : Array Oper} {listed : Array Bool} {i : Nat} (hs : listed.size = ops.size) :
    i ∈ Region.ready .any ops listed ↔ i < ops.size ∧ listed[i]? = some false ∧ ∀ j, dep ops i j → listed[j]? = some true := by
  unfold Region.ready
  simp only [List.mem_filter, List.mem_range, Bool.and_eq_true, Bool.not_eq_true']
  constructor
  · rintro ⟨h1, h2, h3⟩
    have hl : listed[i]? = some listed[i] := by simp [hs, h1]
    have e1 : listed[i]'(by omega) = false := by
      simpa [Array.getD, hs, h1] using h2
    refine ⟨h1, by rw [hl, e1], fun j hd => ?_⟩
    obtain ⟨o, ho, e, he, hb, rfl⟩ := hd
    simp only [ho, Option.map_some, Option.getD_some, Array.all_eq_true] at h3
    obtain ⟨k, hk, hke⟩ := List.getElem_of_mem he
    have := h3 k (by simpa using hk)
    have hke' : o.after[k]'(by simpa using hk) = e := by simpa using hke
    rw [hke', hb] at this
    simp only [Bool.not_true, Bool.false_or] at this
    rw [Array.getD_eq_getD_getElem?] at this
    cases hx : listed[e.on]? with
    | none => simp [hx] at this
    | some b => simp [hx] at this; rw [this]
  · rintro ⟨h1, h2, h3⟩
    refine ⟨h1, by rw [Array.getD_eq_getD_getElem?, h2]; rfl, ?_⟩
    have : ∃ o, ops[i]? = some o := ⟨ops[i], by simp [h1]⟩
    obtain ⟨o, ho⟩ := this
    simp only [ho, Option.map_some, Option.getD_some, Array.all_eq_true]
    intro k hk
    cases hb : Region.binds .any o.after[k] with
    | false => rfl
    | true =>
      have := h3 (o.after[k]).on ⟨o, ho, o.after[k], by simp, hb, rfl⟩
      rw [Array.getD_eq_getD_getElem?, this]; rfl

theorem ready_ne {ops : Array Oper} {listed : Array Bool} (hb : Back ops) (hs : listed.size = ops.size) (h : Region.ready .any ops listed = []) : ∀ i, i ∉ unl ops.size listed := by
  intro i hi
  obtain ⟨k, hk, hmin⟩ := least (fun i => i ∈ unl ops.size listed) i hi
  have : k ∈ Region.ready .any ops listed := by
    rw [mem_ready hs]
    obtain ⟨h1, h2⟩ := mem_unl.1 hk
    refine ⟨h1, h2, fun j hd => ?_⟩
    obtain ⟨o, ho, e, he, hbb, rfl⟩ := hd
    have hlt := hb k o ho e he hbb
    have hsz : e.on < listed.size := by omega
    have hn := hmin _ hlt
    rw [mem_unl] at hn
    have hx : listed[e.on]? = some listed[e.on] := by simp [hsz]
    cases hv : listed[e.on] with
    | true => rw [hx, hv]
    | false => exact absurd ⟨by omega, by rw [hx, hv]⟩ hn
  rw [h] at this; cases this

theorem lin_facts {ops : Array Oper} (hb : Back ops) : ∀ (fuel t : Nat) (listed : Array Bool), listed.size = ops.size → (unl ops.size listed).length ≤ fuel →
    (Region.linearise.go .any ops fuel t listed []).Nodup ∧ (∀ i, i ∈ Region.linearise.go .any ops fuel t listed [] ↔ i ∈ unl ops.size listed) ∧ (Region.linearise.go .any ops fuel t listed []).Pairwise (fun i j => ¬ dep ops i j)
  | 0, t, listed, hs, hl => by
    have h0 : unl ops.size listed = [] := List.eq_nil_of_length_eq_zero (by omega)
    simp [Region.linearise.go, h0]
  | fuel + 1, t, listed, hs, hl => by
    simp only [Region.linearise.go]
    change (match (Region.ready .any ops listed)[t % (Region.ready .any ops listed).length]? with
      | some i => Region.linearise.go .any ops fuel (t / (Region.ready .any ops listed).length) (listed.setIfInBounds i true) [i]
      | none => [].reverse).Nodup ∧ (∀ i, i ∈ (match (Region.ready .any ops listed)[t % (Region.ready .any ops listed).length]? with
      | some i => Region.linearise.go .any ops fuel (t / (Region.ready .any ops listed).length) (listed.setIfInBounds i true) [i]
      | none => [].reverse) ↔ i ∈ unl ops.size listed) ∧ (match (Region.ready .any ops listed)[t % (Region.ready .any ops listed).length]? with
      | some i => Region.linearise.go .any ops fuel (t / (Region.ready .any ops listed).length) (listed.setIfInBounds i true) [i]
      | none => [].reverse).Pairwise (fun i j => ¬ dep ops i j)
    cases hi : (Region.ready .any ops listed)[t % (Region.ready .any ops listed).length]? with
    | none =>
      have hnil : Region.ready .any ops listed = [] := by
        cases hr : Region.ready .any ops listed with
        | nil => rfl
        | cons x xs =>
          rw [hr] at hi
          have hlt : t % (x :: xs).length < (x :: xs).length := Nat.mod_lt _ (by simp)
          simp at hi
          simp at hlt
          omega
      have := ready_ne hb hs hnil
      simp only [List.reverse_nil]
      exact ⟨List.nodup_nil, fun i => ⟨fun h => by simp at h, fun h => (this i h).elim⟩, List.Pairwise.nil⟩
    | some i =>
      have hmem : i ∈ Region.ready .any ops listed := List.mem_of_getElem? hi
      obtain ⟨r1, r2, r3⟩ := (mem_ready hs).1 hmem
      have hu : i ∈ unl ops.size listed := mem_unl.2 ⟨r1, r2⟩
      have hlen := unl_len hs hu
      obtain ⟨i1, i2, i3⟩ := lin_facts hb fuel (t / (Region.ready .any ops listed).length) (listed.setIfInBounds i true) (by simp [hs]) (by omega)
      simp only []
      rw [linearise_go_acc, List.reverse_singleton, List.singleton_append]
      have key : ∀ j, j ∈ Region.linearise.go .any ops fuel (t / (Region.ready .any ops listed).length) (listed.setIfInBounds i true) [] ↔ j < ops.size ∧ listed[j]? = some false ∧ j ≠ i := fun j => by
        rw [i2, mem_unl, unl_set hs r1]
      refine ⟨List.nodup_cons.2 ⟨fun hx => ((key i).1 hx).2.2 rfl, i1⟩, fun j => ?_, List.pairwise_cons.2 ⟨fun j hj hd => ?_, i3⟩⟩
      · rw [List.mem_cons, key, mem_unl]
        constructor
        · rintro (rfl | ⟨a, b, _⟩)
          · exact ⟨r1, r2⟩
          · exact ⟨a, b⟩
        · rintro ⟨a, b⟩
          by_cases h : j = i
          · exact .inl h
          · exact .inr ⟨a, b, h⟩
      · have h1 := ((key j).1 hj).2.1
        have h2 := r3 j hd
        rw [h1] at h2; cases h2

theorem lin_sched {ops : Array Oper} (hb : Back ops) (t : Nat) : Sched ops (Region.linearise .any ops t) ∧ ∀ i, i < ops.size → i ∈ Region.linearise .any ops t := by
  have hl : (unl ops.size (Array.replicate ops.size false)).length ≤ ops.size := by
    have := List.length_filter_le (fun i => (Array.replicate ops.size false)[i]? == some false) (List.range ops.size)
    simpa [unl] using this
  obtain ⟨h1, h2, h3⟩ := lin_facts hb ops.size t (Array.replicate ops.size false) (by simp) hl
  have hall : ∀ i, i ∈ Region.linearise .any ops t ↔ i < ops.size := fun i => by
    unfold Region.linearise
    rw [h2, mem_unl]
    constructor
    · exact fun h => h.1
    · exact fun h => ⟨h, by simp [h]⟩
  exact ⟨⟨h1, fun i hi => (hall i).1 hi, h3, fun i hi j hd => by
    obtain ⟨o, ho, _⟩ := hd
    have : ¬ i < ops.size := fun h => hi ((hall i).2 h)
    rw [Array.getElem?_eq_none (by omega)] at ho; cases ho⟩, fun i hi => (hall i).2 hi⟩

/-! ### masks -/
theorem has_eq (m i : Nat) : has m i = m.testBit i := by
  unfold has
  rw [nbeq]
  show decide ((m >>> i) &&& 1 = 1) = _
  rw [Nat.testBit, Nat.and_comm]
  have : (m >>> i) &&& 1 = 0 ∨ (m >>> i) &&& 1 = 1 := by rw [Nat.and_one_is_mod]; omega
  rw [Nat.and_comm 1]
  rcases this with h | h <;> rw [h] <;> rfl
theorem has_lor (a b i : Nat) : has (Nat.lor a b) i = (has a i || has b i) := by
  rw [has_eq, has_eq, has_eq]; exact Nat.testBit_or a b i
theorem has_pow (i j : Nat) : has (2 ^ i) j = decide (i = j) := by
  rw [has_eq, Nat.testBit_two_pow]
theorem has_zero (i : Nat) : has 0 i = false := by rw [has_eq]; exact Nat.zero_testBit i
theorem emask_has {t : Tr Nat} {j : Nat} : ∀ {es : List Edge}, has (emask t es) j = true → ∃ e ∈ es, Region.binds .any e = true ∧ (e.on = j ∨ has ((t.get e.on).getD 0) j = true)
  | [], h => by simp [emask, has_zero] at h
  | e :: es, h => by
    unfold emask at h
    cases hb : Region.binds .any e with
    | true =>
      simp only [hb, cond_true, has_lor, has_pow, Bool.or_eq_true, decide_eq_true_eq] at h
      rcases h with (h | h) | h
      · exact ⟨e, List.mem_cons_self .., hb, .inl h⟩
      · exact ⟨e, List.mem_cons_self .., hb, .inr h⟩
      · obtain ⟨e', h1, h2⟩ := emask_has h; exact ⟨e', List.mem_cons_of_mem _ h1, h2⟩
    | false =>
      simp only [hb, cond_false] at h
      obtain ⟨e', h1, h2⟩ := emask_has h; exact ⟨e', List.mem_cons_of_mem _ h1, h2⟩
theorem rmaskGo_old : ∀ (l : List Oper) (i : Nat) (t : Tr Nat) (j : Nat), j < i → (rmaskGo l i t).get j = t.get j
  | [], _, _, _, _ => rfl
  | o :: l, i, t, j, h => by
    unfold rmaskGo
    rw [rmaskGo_old l (i + 1) _ j (by omega), Tr.get_set_ne _ _ (by omega)]
theorem rmaskGo_get : ∀ (l : List Oper) (i : Nat) (t : Tr Nat) (j : Nat) (o : Oper), l[j]? = some o → ∃ t', (rmaskGo l i t).get (i + j) = some (emask t' o.after.toList) ∧ ∀ x, x < i + j → t'.get x = (rmaskGo l i t).get x
  | [], _, _, _, _, h => by simp at h
  | o :: l, i, t, 0, o', h => by
    simp only [List.getElem?_cons_zero, Option.some.injEq] at h
    subst h
    refine ⟨t, ?_, fun x hx => ?_⟩
    · unfold rmaskGo
      show (rmaskGo l (i + 1) (t.set i (some (emask t o.after.toList)))).get i = _
      rw [rmaskGo_old l (i + 1) _ i (by omega), Tr.get_set_same]
    · unfold rmaskGo
      rw [rmaskGo_old l (i + 1) _ x (by omega), Tr.get_set_ne _ _ (by omega)]
  | o :: l, i, t, j + 1, o', h => by
    simp only [List.getElem?_cons_succ] at h
    obtain ⟨t', h1, h2⟩ := rmaskGo_get l (i + 1) (t.set i (some (emask t o.after.toList))) j o' h
    unfold rmaskGo
    rw [show i + (j + 1) = i + 1 + j by omega]
    exact ⟨t', h1, h2⟩
theorem mask_has {ops : Array Oper} (hb : Back ops) {i j : Nat} (h : has (maskOf ops i) j = true) : ∃ k, dep ops i k ∧ (k = j ∨ has (maskOf ops k) j = true) := by
  unfold maskOf at h
  cases ho : ops[i]? with
  | none =>
    have : (rmask ops).get i = none := by
      have hsz : ops.size ≤ i := by rcases Nat.lt_or_ge i ops.size with hlt | hge
                                    · simp [hlt] at ho
                                    · exact hge
      have aux : ∀ (l : List Oper) (k : Nat) (t : Tr Nat), k + l.length ≤ i → (rmaskGo l k t).get i = t.get i := by
        intro l
        induction l with
        | nil => intro k t _; rfl
        | cons o l ih =>
          intro k t hk
          simp only [List.length_cons] at hk
          unfold rmaskGo
          rw [ih (k + 1) _ (by omega), Tr.get_set_ne _ _ (by omega)]
      unfold rmask
      rw [aux _ 0 .l (by simpa using hsz), Tr.get_l]
    rw [this] at h
    simp [has_zero] at h
  | some o =>
    have hl : ops.toList[i]? = some o := by simpa using ho
    obtain ⟨t', h1, h2⟩ := rmaskGo_get ops.toList 0 .l i o hl
    rw [Nat.zero_add] at h1 h2
    have h1' : (rmask ops).get i = some (emask t' o.after.toList) := h1
    rw [h1'] at h
    obtain ⟨e, he, hbb, hx⟩ := emask_has (by simpa using h)
    refine ⟨e.on, ⟨o, ho, e, he, hbb, rfl⟩, hx.imp id fun hx => ?_⟩
    have hlt := hb i o ho e he hbb
    rw [h2 _ hlt] at hx
    exact hx

/-- what a mask names has been run, for what has been run, and for what is next -/
theorem mask_done {ops : Array Oper} (hb : Back ops) {l : List Nat} (s : Sched ops l) : ∀ (i j : Nat), i ∉ l → has (maskOf ops i) j = true → j ∉ l := by
  intro i
  induction i using Nat.strongRecOn with
  | ind i ih =>
    intro j hi h
    obtain ⟨k, hd, hk⟩ := mask_has hb h
    have hkl := s.closed i hi k hd
    rcases hk with rfl | hk
    · exact hkl
    · obtain ⟨o, ho, e, he, hbb, rfl⟩ := hd
      exact ih e.on (hb i o ho e he hbb) j hkl hk
theorem mask_head {ops : Array Oper} (hb : Back ops) {i : Nat} {l : List Nat} (s : Sched ops (i :: l)) (j : Nat) (h : has (maskOf ops i) j = true) : j ∉ i :: l := by
  obtain ⟨k, hd, hk⟩ := mask_has hb h
  have hkl := s.head_dep hb hd
  rcases hk with rfl | hk
  · exact hkl
  · exact mask_done hb s k j hkl hk
end Go.Proofs.YtfmopmjgohopeaaGreatDoor.Ev

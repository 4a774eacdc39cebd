/-
  The abstract machine's operations that read: what they answer, the model's operations answer.
-/
import Derived.Test.YtllipkakgjmheaaGreatDoorEvD
set_option linter.unusedVariables false
set_option linter.unusedSimpArgs false
set_option linter.constructorNameAsVariable false
namespace Go.Proofs.YtllipkakgjmheaaGreatDoor.Ev
open Go Go.RowKit

section
variable {P : Program} {w : World}
theorem ru {t : TypeId} {d : TypeDesc} (h : P.underlying t = some d) : (underlying t).run P w = .ok d w := by
  simp [underlying, h]
theorem ri {t : TypeId} {i : TypeInfo} (h : P.info? t = some i) : (typeInfo t).run P w = .ok i w := by
  simp [typeInfo, h]
theorem rs {t : TypeId} {n : Nat} (h : sizeOf? P t = some n) : (sizeOf t).run P w = .ok n w := by
  unfold sizeOf? at h
  cases hi : P.info? t with
  | none => rw [hi] at h; cases h
  | some i => rw [hi] at h; injection h with h; simp [sizeOf, ri hi, h]
theorem ri_size {t : TypeId} {i : TypeInfo} (h : P.info? t = some i) : sizeOf? P t = some i.size := by simp [sizeOf?, h]
def isAggD : TypeDesc → Bool
  | .struct _ | .array _ _ => true
  | _ => false
theorem ra {t : TypeId} {d : TypeDesc} (h : P.underlying t = some d) : (isAgg t).run P w = .ok (isAggD d) w := by
  cases d <;> simp [isAgg, ru h, isAggD]
theorem at_add (e : Loc) (off j : Nat) : (e.at off).add j = e.at (off + j) := by
  unfold Addr.add Loc.at
  split
  · rename_i h; simp [h]
  · simp [Nat.add_assoc]
theorem semVal_run {s : Sem Value} {v : Value} (h : semVal s = some v) : s.run P w = .ok v w := by
  cases s <;> simp [semVal] at h
  rw [h]; rfl
end

section
variable {P : Program} {ng n0 : Nat} {σ : Sg} {h : AH} {w : World}

theorem br_cell {e : Loc} {ro : Bool} {cs : List AV} (b : BR σ w e (.cells ro cs)) {i : Nat} {a : AV} (hi : cs[i]? = some a) : ∃ v, w.cell? (e.at i) = some v ∧ VR σ a v := by
  obtain ⟨c, t, fz, hw, _, _, hr⟩ := b
  obtain ⟨v, hv, r⟩ := VRs.get hr i a hi
  refine ⟨v, ?_, r⟩
  simp only [World.cell?, Loc.at, hw]
  rw [List.getElem?_take] at hv
  split at hv
  · simpa [List.getElem?_drop] using hv
  · cases hv
theorem br_cells {e : Loc} {ro : Bool} {cs : List AV} (b : BR σ w e (.cells ro cs)) {off n : Nat} (hn : ((cs.drop off).take n).length = n) :
    ∃ vs : List Value, vs.length = n ∧ VRs σ ((cs.drop off).take n) vs ∧ (loadCells (e.at off) n).run P w = .ok vs.toArray w := by
  obtain ⟨c, t, fz, hw, hsz, hf, hr⟩ := b
  have hr2 := VRs.take n (VRs.drop off hr)
  have hl := VRs.length hr2
  rw [hn] at hl
  refine ⟨_, hl.symm, hr2, ?_⟩
  generalize hvs : List.take n (List.drop off (List.take cs.length (List.drop e.base c.toList))) = vs at hl
  have key := run_loadCells_list (P := P) w (e.at off) vs (fun j v hj => by
    rw [at_add]
    simp only [World.cell?, Loc.at, hw]
    rw [← hvs, List.getElem?_take] at hj
    split at hj
    · rw [List.getElem?_drop, List.getElem?_take] at hj
      split at hj
      · simpa [List.getElem?_drop, Nat.add_assoc] using hj
      · cases hj
    · cases hj)
  rw [← hl] at key
  exact key

theorem load_sound (R : HR ng n0 σ h w) {t : TypeId} {a v : AV} {x : Value} (hx : VR σ a x) (hl : aload P h t a = some v) :
    ∃ u, (Instr.loadAt t x).run P w = .ok u w ∧ VR σ v u := by
  cases a <;> simp only [aload] at hl <;> try cases hl
  rename_i k off
  obtain ⟨e, he, rfl⟩ := hx
  cases hb : h.get k with
  | none => simp [hb] at hl
  | some b =>
    cases b <;> simp only [hb] at hl <;> try cases hl
    rename_i ro cs
    have br := R.blk k e _ he hb
    have agg : ∀ d, P.underlying t = some d → isAggD d = true → (match P.info? t with
        | some i => let l := (cs.drop off).take i.size; bif Nat.beq l.length i.size then some (AV.agg l) else none
        | none => none) = some v → ∃ u, (Instr.loadAt t (.pointer (some (e.at off)))).run P w = .ok u w ∧ VR σ v u := fun d hd ha hl => by
      cases hi : P.info? t with
      | none => simp [hi] at hl
      | some i =>
        simp only [hi, nbeq, Bool.cond_decide] at hl
        split at hl
        · rename_i hlen
          injection hl with hl; subst hl
          obtain ⟨vs, h1, h2, h3⟩ := br_cells (P := P) br hlen
          refine ⟨.agg vs.toArray, ?_, vs.toArray, rfl, by simpa using h2⟩
          simp [Instr.loadAt, Instr.sureAddr, loadVar, ra hd, ha, rs (ri_size hi), h3]
        · cases hl
    cases hu : P.underlying t with
    | none => simp [hu] at hl
    | some d =>
      simp only [hu] at hl
      by_cases ha : isAggD d = true
      · cases d <;> simp [isAggD] at ha <;> exact agg _ hu rfl hl
      · have hl' : cs[off]? = some v := by cases d <;> simp [isAggD] at ha <;> exact hl
        obtain ⟨u, hc, r⟩ := br_cell br hl'
        refine ⟨u, ?_, r⟩
        simp [Instr.loadAt, Instr.sureAddr, loadVar, ra hu, ha, hc]

theorem part_sound {t : TypeId} {cs : List AV} {c : Array Value} {off : Nat} {v : AV} (hr : VRs σ cs c.toList) (hl : apart P t cs off = some v) :
    ∃ u, (part t c off).run P w = .ok u w ∧ VR σ v u := by
  unfold apart at hl
  cases hu : P.underlying t with
  | none => simp [hu] at hl
  | some d =>
    simp only [hu] at hl
    have agg : isAggD d = true → (match P.info? t with | some i => some (AV.agg ((cs.drop off).take i.size)) | none => none) = some v → ∃ u, (part t c off).run P w = .ok u w ∧ VR σ v u := fun ha hl => by
      cases hi : P.info? t with
      | none => simp [hi] at hl
      | some i =>
        simp only [hi] at hl
        injection hl with hl; subst hl
        refine ⟨.agg (c.extract off (off + i.size)), by simp [part, ra hu, ha, rs (ri_size hi)], _, rfl, ?_⟩
        have := VRs.take i.size (VRs.drop off hr)
        rw [Array.toList_extract, List.extract_eq_take_drop, Nat.add_sub_cancel_left]
        exact this
    by_cases ha : isAggD d = true
    · cases d <;> simp [isAggD] at ha <;> exact agg rfl hl
    · have hl' : cs[off]? = some v := by cases d <;> simp [isAggD] at ha <;> exact hl
      obtain ⟨u, hc, r⟩ := VRs.get hr off v hl'
      have hc' : c[off]? = some u := by simpa using hc
      exact ⟨u, by simp [part, ra hu, ha, hc'], r⟩

/-! ### fill -/
theorem foldl_put : ∀ (l : List Value) (s off : Nat) (c : Array Value), off + s + l.length ≤ c.size →
    ((l.zipIdx s).foldl (fun (cs : Array Value) (x : Value × Nat) => cs.setIfInBounds (off + x.2) x.1) c).toList = c.toList.take (off + s) ++ (l ++ c.toList.drop (off + s + l.length))
  | [], s, off, c, _ => by simp
  | x :: l, s, off, c, hle => by
    simp only [List.length_cons] at hle
    rw [List.zipIdx_cons, List.foldl_cons, foldl_put l (s + 1) off _ (by simp; omega)]
    apply List.ext_getElem?
    intro j
    simp only [Array.toList_setIfInBounds, List.getElem?_append, List.length_take, List.length_set, Array.length_toList, List.getElem?_take, List.getElem?_set, List.getElem?_drop, List.length_cons, List.getElem?_cons]
    by_cases h1 : j < off + s
    · have e1 : j < min (off + (s + 1)) c.size := by omega
      have e2 : j < min (off + s) c.size := by omega
      have e3 : ¬ off + s = j := by omega
      simp [e1, e2, e3, h1, show j < off + (s + 1) by omega]
    · by_cases h2 : j = off + s
      · subst h2
        have e1 : off + s < min (off + (s + 1)) c.size := by omega
        have e2 : ¬ off + s < min (off + s) c.size := by omega
        simp only [e1, e2, if_true, if_false]
        rw [if_pos (by omega)]
        simp [show min (off + s) c.size = off + s by omega, show off + s < c.size by omega]
      · have e1 : ¬ j < min (off + (s + 1)) c.size := by omega
        have e2 : ¬ j < min (off + s) c.size := by omega
        simp only [e1, e2, if_false]
        rw [show min (off + (s + 1)) c.size = off + s + 1 by omega, show min (off + s) c.size = off + s by omega]
        by_cases h3 : j - (off + s + 1) < l.length
        · rw [if_pos h3, if_pos (by omega), if_neg (by omega)]
          congr 1
        · rw [if_neg h3, if_neg (by omega), if_neg (by omega)]
          congr 1
          omega
theorem fill_sound (place : Nat → Option (Nat × Nat)) : ∀ (parts : List (Nat × AV)) (ps : List (Nat × Value)) (cells cells' : List AV) (c : Array Value),
    (∀ (j : Nat) (p : Nat × AV), parts[j]? = some p → ∃ q : Nat × Value, ps[j]? = some q ∧ q.1 = p.1 ∧ VR σ p.2 q.2) → parts.length = ps.length → VRs σ cells c.toList → afill place cells parts = some cells' →
    ∃ c', Instr.fill place c ps = some c' ∧ VRs σ cells' c'.toList
  | [], [], cells, cells', c, _, _, hr, hf => by simp only [afill] at hf; injection hf with hf; subst hf; exact ⟨c, rfl, hr⟩
  | [], _ :: _, _, _, _, _, hl, _, _ => by simp at hl
  | _ :: _, [], _, _, _, _, hl, _, _ => by simp at hl
  | (i, v) :: parts, (i', u) :: ps, cells, cells', c, hp, hl, hr, hf => by
    obtain ⟨q, hq, hi, hv⟩ := hp 0 (i, v) rfl
    simp only [List.getElem?_cons_zero, Option.some.injEq] at hq
    subst hq
    simp only at hi hv
    subst hi
    simp only [afill] at hf
    cases hpl : place i' with
    | none => simp [hpl] at hf
    | some os =>
      obtain ⟨off, size⟩ := os
      cases hc : v.cells with
      | none => simp [hpl, hc] at hf
      | some vs =>
        simp only [hpl, hc, nbeq, nble] at hf
        have hvs := VR.cells hv hc
        have hlen : vs.length = u.cells.size := (VRs.length hvs).trans Array.length_toList
        have hcl : cells.length = c.size := (VRs.length hr).trans Array.length_toList
        by_cases hcond : vs.length = size ∧ off + size ≤ cells.length
        · simp only [hcond, decide_true, Bool.and_self, cond_true] at hf
          have hle : off + 0 + u.cells.toList.length ≤ c.size := by rw [Array.length_toList]; omega
          have hput := foldl_put u.cells.toList 0 off c hle
          simp only [Nat.add_zero] at hput
          obtain ⟨c', h1, h2⟩ := fill_sound place parts ps _ cells' (u.cells.zipIdx.foldl (fun cs x => cs.setIfInBounds (off + x.2) x.1) c) (fun j p hj => hp (j + 1) p hj) (by simpa using hl)
            (by
              rw [← Array.foldl_toList, Array.toList_zipIdx, hput]
              rw [List.append_assoc]
              refine VRs.app (VRs.take off hr) (VRs.app hvs ?_)
              rw [Array.length_toList, ← hlen, hcond.1]
              exact VRs.drop _ hr) hf
          refine ⟨c', ?_, h2⟩
          simp only [Instr.fill, hpl]
          rw [if_neg]
          · exact h1
          · simp; omega
        · have : (decide (vs.length = size) && decide (off + size ≤ cells.length)) = false := by
            rw [← Bool.decide_and]; exact decide_eq_false hcond
          rw [this] at hf
          cases hf
end
end Go.Proofs.YtllipkakgjmheaaGreatDoor.Ev

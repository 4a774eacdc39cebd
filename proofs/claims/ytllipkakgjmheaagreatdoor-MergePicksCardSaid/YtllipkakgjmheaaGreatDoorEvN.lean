
/-
  The abstract machine: append, whole.
-/
import Derived.Test.YtllipkakgjmheaaGreatDoorEvM
set_option linter.unusedVariables false
set_option linter.unusedSimpArgs false
set_option linter.constructorNameAsVariable false
namespace Go.Proofs.YtllipkakgjmheaaGreatDoor.Ev
open Go Go.RowKit

section
variable {P : Program} {ng n0 : Nat} {σ : Sg} {h : AH} {w : World}

theorem zero_any {t : TypeId} {cs : List AV} (hz : zeroCells P t = some cs) : ∃ z, (∀ w, (zeroValue t).run P w = .ok z w) ∧ VRs σ cs z.cells.toList := by
  unfold zeroCells at hz
  cases hi : P.info? t with
  | none => simp [hi] at hz
  | some i =>
    simp only [hi] at hz
    cases hzz : i.zero with
    | none => simp [hzz] at hz
    | some z =>
      refine ⟨z, fun w => by simp [zeroValue, ri hi, hzz], ?_⟩
      cases z with
      | agg c => simp only [hzz] at hz; injection hz with hz; subst hz; exact VRs.ofAtoms σ _
      | _ =>
        simp only [hzz] at hz
        generalize ho : (AV.ofAtom _).one = b at hz
        cases b with
        | false => cases hz
        | true =>
          injection hz with hz; subst hz
          exact ⟨VR.ofAtom σ _, trivial⟩

theorem repl_length (n : Nat) (z : List AV) : (repl n z).length = n * z.length := by
  unfold repl
  split
  · simp
  · simp

theorem append_sound (R : HR ng n0 σ h w) {ats : Array TypeId} {ty : TypeId} {s x v : AV} {sv xv : Value} {h' : AH} (hs : VR σ s sv) (hx : VR σ x xv) (hq : aappend P h ats s x = some (v, h')) :
    ∃ u w' σ', (Builtin.append_ ats ty #[sv, xv]).run P w = .ok u w' ∧ σ.le σ' ∧ HR ng n0 σ' h' w' ∧ Below n0 w w' ∧ (∀ k, k < h.next → σ' k = σ k) ∧ h.next ≤ h'.next ∧ VR σ' v u := by
  unfold aappend at hq
  cases h0 : ats[0]? with
  | none => simp [h0] at hq
  | some st =>
  cases h1 : ats[1]? with
  | none => simp [h0, h1] at hq
  | some xt =>
  simp only [h0, h1] at hq
  cases hst : P.underlying st with
  | none => simp [hst] at hq
  | some d =>
  cases hxt : P.underlying xt with
  | none => cases d <;> simp [hst, hxt] at hq
  | some xd =>
  cases d <;> simp only [hst, hxt] at hq <;> try (cases hq; done)
  rename_i elem
  cases hi : P.info? elem with
  | none => simp [hi] at hq
  | some info =>
  cases hz : zeroCells P elem with
  | none => simp [hi, hz] at hq
  | some z =>
  simp only [hi, hz] at hq
  cases hn : anew P h elem info.size info.bytes xd x with
  | none => simp [hn] at hq
  | some nv =>
  obtain ⟨n, vs⟩ := nv
  simp only [hn] at hq
  generalize hg : (Nat.ble info.bytes 1000000 && Nat.ble n 1000000 && Nat.beq z.length info.size && vs.all AV.one) = g at hq
  cases g with
  | false => cases hq
  | true =>
  rw [cond_true] at hq
  simp only [nble, nbeq, Bool.and_eq_true, decide_eq_true_eq] at hg
  obtain ⟨⟨⟨hb, hN⟩, hzl⟩, hone⟩ := hg
  obtain ⟨zv, z1, z2⟩ := zero_any (P := P) (σ := σ) hz
  have hzs : zv.cells.size = info.size := by rw [← Array.length_toList, ← VRs.length z2, hzl]
  have fin : ∀ happ : Sem (Array Value),
      ((xd.isInt = false ∧ (Builtin.lenOf xv).run P w = .ok n w ∧ happ = Builtin.firstCells info.size n xv) ∨
      (xd.isInt = true ∧ (∃ k, xv = .int k (n : Int)) ∧ n ≤ 1000000 ∧ info.bytes ≤ 1000000 ∧ happ = (if n * info.size = 0 then pure #[] else do pure (Builtin.zeroCells (← zeroValue elem).cells n)))) →
      (∀ w2, w2.heap = w.heap → ∃ c, happ.run P w2 = .ok c w2 ∧ VRs σ vs c.toList) → vs.length = n * info.size →
      ∃ u w' σ', (Builtin.append_ ats ty #[sv, xv]).run P w = .ok u w' ∧ σ.le σ' ∧ HR ng n0 σ' h' w' ∧ Below n0 w w' ∧ (∀ k, k < h.next → σ' k = σ k) ∧ h.next ≤ h'.next ∧ VR σ' v u := by
    intro happ c1 c2 c3
    obtain ⟨base, sLen, sCap, e1, e2, u, w', σ', e3, e4, e5, e6, e7, e8, e9⟩ := appendTo_sound (P := P) (elem := elem) R hs c2 c3 hone hzs hq
    exact ⟨u, w', σ', append_run h0 h1 hst hxt hi z1 e1 happ c1 hb hN e2 e3, e4, e5, e6, e7, e8, e9⟩
  cases hint : xd.isInt with
  | true =>
    cases xd <;> first | (simp [TypeDesc.isInt] at hint; done) | skip
    simp only [anew] at hn
    cases hno : natOf x with
    | none => simp [hno] at hn
    | some m =>
      simp only [hno, nble, Bool.cond_decide] at hn
      split at hn
      · rename_i hm
        simp only [Option.map_eq_some_iff] at hn
        obtain ⟨l, hl, he⟩ := hn
        injection he with e1 e2; subst e1; subst e2
        obtain ⟨k, rfl⟩ := natOf_some hno hx
        unfold zeros at hl
        rw [nbeq, Bool.cond_decide] at hl
        refine fin _ (.inr ⟨rfl, ⟨k, rfl⟩, hm, hb, rfl⟩) (fun w2 _ => ?_) ?_
        · by_cases hx0 : m * info.size = 0
          · rw [if_pos hx0] at hl
            injection hl with hl; subst hl
            exact ⟨#[], by simp [hx0], trivial⟩
          · rw [if_neg hx0] at hl
            simp only [hz, nbeq, Bool.cond_decide, hzl, if_true] at hl
            injection hl with hl; subst hl
            refine ⟨Builtin.zeroCells zv.cells m, by simp [hx0, z1], ?_⟩
            have := repl_sound z2 m info.size hzl hx0
            unfold Builtin.zeroCells
            rw [hzs]
            rw [hzs] at this
            exact this
        · by_cases hx0 : m * info.size = 0
          · rw [if_pos hx0] at hl
            injection hl with hl; subst hl
            simp [hx0]
          · rw [if_neg hx0] at hl
            simp only [hz, nbeq, Bool.cond_decide, hzl, if_true] at hl
            injection hl with hl; subst hl
            rw [repl_length, hzl]
      · cases hn
  | false =>
    have ha : appended h info.size x = some (n, vs) := by
      cases xd <;> first | (simp [TypeDesc.isInt] at hint; done) | exact hn
    obtain ⟨c, f1, f2, f3, f4, f5⟩ := firstCells_run (P := P) R hx ha
    exact fin _ (.inl ⟨hint, f1, rfl⟩) (fun w2 hw2 => by
      obtain ⟨c', g1, g2, g3, _⟩ := firstCells_run (P := P) (R.world hw2) hx ha
      exact ⟨c', g2, g3⟩) f5
/-! ### copy -/
theorem aLen_sound {x : AV} {xv : Value} {n : Nat} (hx : VR σ x xv) (hq : aLen x = some n) : (Builtin.lenOf xv).run P w = .ok n w := by
  unfold aLen at hq
  split at hq
  · injection hq with hq; subst hq; obtain ⟨e, c, _, rfl, _⟩ := hx; simp [Builtin.lenOf]
  · injection hq with hq; subst hq; obtain ⟨rfl, _⟩ := hx; simp [Builtin.lenOf]
  · injection hq with hq; subst hq; obtain ⟨a, c, rfl, _⟩ := hx; simp [Builtin.lenOf]
  · injection hq with hq; subst hq; obtain ⟨rfl, _⟩ := hx; simp [Builtin.lenOf, mkS_size]
  · cases hq
theorem firstN_sound (R : HR ng n0 σ h w) {size n : Nat} {x : AV} {xv : Value} {vs : List AV} (hx : VR σ x xv) (hq : firstN h size n x = some vs) :
    ∃ c : Array Value, (Builtin.firstCells size n xv).run P w = .ok c w ∧ VRs σ vs c.toList ∧ vs.all AV.one = true := by
  unfold firstN at hq
  split at hq
  · rename_i k off l cap
    obtain ⟨e, c, he, rfl, _⟩ := hx
    cases hb : h.get k with
    | none => simp [hb] at hq
    | some bl =>
      cases bl <;> simp only [hb] at hq <;> try (cases hq; done)
      rename_i ro cs
      rw [nbeq] at hq
      cases hc : (decide (((cs.drop off).take (n * size)).length = n * size) && ((cs.drop off).take (n * size)).all AV.one) with
      | false => rw [hc] at hq; cases hq
      | true =>
        rw [hc, cond_true] at hq
        rw [Bool.and_eq_true, decide_eq_true_eq] at hc
        injection hq with hq; subst hq
        obtain ⟨vs, g1, g2, g3⟩ := br_cells (P := P) (R.blk k e _ he hb) hc.1
        exact ⟨vs.toArray, by simp [Builtin.firstCells, g3], by simpa using g2, hc.2⟩
  · rename_i s
    obtain ⟨rfl, hs⟩ := hx
    rw [nbeq, nble] at hq
    cases hc : (decide (size = 1) && decide (n ≤ s.length)) with
    | false => rw [hc] at hq; cases hq
    | true =>
      rw [hc, cond_true] at hq
      rw [Bool.and_eq_true, decide_eq_true_eq, decide_eq_true_eq] at hc
      injection hq with hq; subst hq
      refine ⟨((mkS s).extract 0 n).data.map fun b => .int .u8 b.toNat, by simp [Builtin.firstCells], ?_, ?_⟩
      · have : (mkS s).extract 0 n = mkS (s.take n) := by
          unfold mkS; rw [ByteArray.extract_mk, Nat.sub_zero, List.drop_zero, List.map_take]
        rw [this]
        show VRs σ _ (((s.take n).map UInt8.ofNat).toArray.map fun b => Value.int .u8 b.toNat).toList
        rw [Array.toList_map, List.toList_toArray, List.map_map]
        refine VRs.map _ _ _ fun b hb => ?_
        have := hs b (List.mem_of_mem_take hb)
        simp only [VR, Function.comp, UInt8.toNat_ofNat_of_lt' this, Nat.mod_eq_of_lt this]; rfl
      · rw [List.all_map]; apply List.all_eq_true.2; intro _ _; rfl
  · cases hq
theorem firstCells_none {x : AV} {xv : Value} {size n : Nat} (hx : VR σ x xv) (hq : aLen x = some n) : (Builtin.firstCells size 0 xv).run P w = .ok #[] w := by
  unfold aLen at hq
  split at hq
  · obtain ⟨e, c, _, rfl, _⟩ := hx; simp [Builtin.firstCells, loadCells, loadCellsFrom]
  · obtain ⟨rfl, _⟩ := hx; simp [Builtin.firstCells]
  · obtain ⟨a, c, rfl, _⟩ := hx; simp [Builtin.firstCells, loadCells, loadCellsFrom]
  · obtain ⟨rfl, _⟩ := hx
    have : (mkS ‹List Nat›).extract 0 0 = ⟨#[]⟩ := by
      unfold mkS; rw [ByteArray.extract_mk]; simp
    simp [Builtin.firstCells, this]
  · cases hq
theorem copy_sound (R : HR ng n0 σ h w) {ats : Array TypeId} {t ty : TypeId} {d s : AV} {dv sv : Value} {n : Nat} {h' : AH} (ht : ats[0]? = some t) (hd : VR σ d dv) (hs : VR σ s sv) (hq : acopy P h t d s = some (n, h')) :
    ∃ w', (Builtin.copy_ ats ty #[dv, sv]).run P w = .ok (.int .i64 (n : Int)) w' ∧ HR ng n0 σ h' w' ∧ Below n0 w w' ∧ h.next ≤ h'.next := by
  unfold acopy at hq
  cases hu : P.underlying t with
  | none => simp [hu] at hq
  | some dt =>
    cases dt <;> simp only [hu] at hq <;> try (cases hq; done)
    rename_i elem
    cases hsz : sizeOf? P elem with
    | none => simp [hsz] at hq
    | some size =>
    cases hls : aLen s with
    | none => simp [hsz, hls] at hq
    | some ls =>
    cases hld : aLen d with
    | none => simp [hsz, hls, hld] at hq
    | some ld =>
    simp only [hsz, hls, hld, nbeq, Bool.cond_decide] at hq
    have hlen := fun w => aLen_sound (P := P) (w := w) hs hls
    have e0 : (#[dv, sv] : Array Value)[0]? = some dv := rfl
    have e1 : (#[dv, sv] : Array Value)[1]? = some sv := rfl
    by_cases hn0 : Nat.min ls ld = 0
    · rw [if_pos hn0] at hq
      have hfc := fun w => firstCells_none (P := P) (w := w) (size := size) hs hls
      have fin : ∀ base c, dv = .slice base ld c → n = 0 ∧ h' = h → ∃ w', (Builtin.copy_ ats ty #[dv, sv]).run P w = .ok (.int .i64 (n : Int)) w' ∧ HR ng n0 σ h' w' ∧ Below n0 w w' ∧ h.next ≤ h'.next := fun base c hdv ⟨hn, hh⟩ => by
        subst hn hh
        refine ⟨w, ?_, R, Below.refl _ _, Nat.le_refl _⟩
        cases base <;> simp [Builtin.copy_, ht, e0, e1, hdv, ru hu, hlen, hn0, rs hsz, hfc, storeCells, goInt]
      unfold aLen at hld
      split at hld
      · injection hld with hld; subst hld
        obtain ⟨e, c, _, rfl, _⟩ := hd
        simp only at hq
        injection hq with hq; injection hq with q1 q2
        exact fin _ _ rfl ⟨q1.symm, q2.symm⟩
      · injection hld with hld; subst hld
        obtain ⟨rfl, _⟩ := hd
        simp only at hq
        injection hq with hq; injection hq with q1 q2
        exact fin _ _ rfl ⟨q1.symm, q2.symm⟩
      · injection hld with hld; subst hld
        obtain ⟨a, c, rfl, _⟩ := hd
        simp only at hq
        injection hq with hq; injection hq with q1 q2
        exact fin _ _ rfl ⟨q1.symm, q2.symm⟩
      · simp only at hq; cases hq
      · cases hld
    · rw [if_neg hn0] at hq
      split at hq
      · rename_i k off l cap
        split at hq
        · rename_i vs cs hf hb
          split at hq
          · rename_i cs' hp
            injection hq with hq; injection hq with q1 q2; subst q1; subst q2
            obtain ⟨e, c, he, rfl, _⟩ := hd
            injection hld with hld; subst hld
            obtain ⟨cv, f1, f2, f3⟩ := firstN_sound (P := P) R hs hf
            obtain ⟨w', g1, g2, g3, g4⟩ := putCells_sound (P := P) R he hb f2 f3 hp
            refine ⟨w', ?_, g2, g3, Nat.le_refl _⟩
            simp [Builtin.copy_, ht, e0, e1, ru hu, hlen, rs hsz, f1, g1, goInt]
          · cases hq
        · cases hq
      · cases hq
end
end Go.Proofs.YtllipkakgjmheaaGreatDoor.Ev

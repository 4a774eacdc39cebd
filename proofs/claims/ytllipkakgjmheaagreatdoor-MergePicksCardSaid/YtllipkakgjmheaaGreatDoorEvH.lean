/-
  The abstract machine's operations that read: indices, maps, conversions; all together: 'quiet_sound'.
-/
import Derived.Test.YtllipkakgjmheaaGreatDoorEvG
set_option linter.unusedVariables false
set_option linter.unusedSimpArgs false
set_option linter.constructorNameAsVariable false
namespace Go.Proofs.YtllipkakgjmheaaGreatDoor.Ev
open Go Go.RowKit

section
variable {P : Program} {ng n0 : Nat} {σ : Sg} {h : AH} {w : World}

theorem toNat_ofNat' (n : Nat) : ((n : Nat) : Int).toNat = n := by simp
theorem indexAddr_sound {t : TypeId} {x i v : AV} {a b : Value} (hx : VR σ x a) (hi : VR σ i b) (hq : aindexAddr P t x i = some v) :
    ∃ u, (Instr.indexAt t a b).run P w = .ok u w ∧ VR σ v u := by
  unfold aindexAddr at hq
  split at hq
  · rename_i len elem k off n hu hn
    obtain ⟨e, he, rfl⟩ := hx
    obtain ⟨kk, rfl⟩ := natOf_some hn hi
    cases hs : sizeOf? P elem with
    | none => simp [hs] at hq
    | some s =>
      simp only [hs, nblt, Bool.cond_decide] at hq
      split at hq
      · rename_i hlt
        injection hq with hq; subst hq
        refine ⟨_, ?_, e, he, rfl⟩
        have h2 : (0 : Int) ≤ (n : Int) ∧ (n : Int) < (len : Int) := ⟨by omega, by omega⟩
        simp [Instr.indexAt, asIntOf, Instr.sureAddr, ru hu, rs hs, at_add, hlt]
      · cases hq
  · rename_i elem k off len cap n hu hn
    obtain ⟨e, c, he, rfl, hc⟩ := hx
    obtain ⟨kk, rfl⟩ := natOf_some hn hi
    cases hs : sizeOf? P elem with
    | none => simp [hs] at hq
    | some s =>
      simp only [hs, nblt, Bool.cond_decide] at hq
      split at hq
      · rename_i hlt
        injection hq with hq; subst hq
        refine ⟨_, ?_, e, he, rfl⟩
        simp [Instr.indexAt, asIntOf, ru hu, rs hs, at_add, hlt]
      · cases hq
  · cases hq

theorem mkS_get {s : List Nat} {n b : Nat} (hb : s[n]? = some b) : (mkS s)[n]? = some (UInt8.ofNat b) := by
  have hlt : n < s.length := (List.getElem?_eq_some_iff.1 hb).1
  have hlt' : n < (mkS s).size := by rw [mkS_size]; exact hlt
  rw [ByteArray.getElem?_lt' _ _ hlt']
  congr 1
  have : (mkS s)[n] = ((s.map UInt8.ofNat).toArray)[n]'(by simpa using hlt) := rfl
  rw [this]
  obtain ⟨_, hb'⟩ := List.getElem?_eq_some_iff.1 hb
  simp [hb']
theorem index_sound {t : TypeId} {x i v : AV} {a b : Value} (hx : VR σ x a) (hi : VR σ i b) (hq : aindex P t x i = some v) :
    ∃ u, (Instr.index t a b).run P w = .ok u w ∧ VR σ v u := by
  unfold aindex at hq
  split at hq
  · rename_i s n hu hn
    obtain ⟨rfl, hs⟩ := hx
    obtain ⟨kk, rfl⟩ := natOf_some hn hi
    cases hb : s[n]? with
    | none => simp [hb] at hq
    | some b =>
      simp only [hb] at hq
      injection hq with hq; subst hq
      refine ⟨.int .u8 (UInt8.ofNat b).toNat, ?_, ?_⟩
      · simp [Instr.index, asIntOf, ru hu, mkS_get hb]
      · simp [VR]
  · rename_i len elem cs n hu hn
    obtain ⟨c, rfl, hr⟩ := hx
    obtain ⟨kk, rfl⟩ := natOf_some hn hi
    cases hs : sizeOf? P elem with
    | none => simp [hs] at hq
    | some s =>
      simp only [hs, nblt, Bool.cond_decide] at hq
      split at hq
      · rename_i hlt
        obtain ⟨u, h1, h2⟩ := part_sound (P := P) (w := w) hr hq
        exact ⟨u, by simp [Instr.index, asIntOf, ru hu, rs hs, hlt, h1], h2⟩
      · cases hq
  · cases hq

/-! ### Maps -/
theorem ikBeq_iff (a b : IntKind) : ikBeq a b = decide (a = b) := by cases a <;> cases b <;> rfl
theorem intBeq_iff (a b : Int) : intBeq a b = (a == b) := by
  cases a with
  | ofNat m => cases b with
    | ofNat n =>
      simp only [intBeq, nbeq]
      by_cases hmn : m = n
      · subst hmn; simp
      · rw [decide_eq_false hmn]; symm; rw [beq_eq_false_iff_ne]; intro e; injection e with e; exact hmn e
    | negSucc n => rfl
  | negSucc m => cases b with
    | ofNat n => rfl
    | negSucc n =>
      simp only [intBeq, nbeq]
      by_cases hmn : m = n
      · subst hmn; simp
      · rw [decide_eq_false hmn]; symm; rw [beq_eq_false_iff_ne]; intro e; injection e with e; exact hmn e
theorem dataBeq (a b : ByteArray) : (a == b) = (a.data == b.data) := rfl
theorem mkS_beqB {a b : List Nat} (ha : ∀ x ∈ a, x < 256) (hb : ∀ x ∈ b, x < 256) : (mkS a == mkS b) = natsBeq a b := by
  by_cases hab : a = b
  · subst hab; rw [(natsBeq_iff a a).2 rfl, dataBeq]; simp
  · have h1 : natsBeq a b = false := Bool.eq_false_iff.2 fun e => hab ((natsBeq_iff a b).1 e)
    rw [h1, dataBeq, beq_eq_false_iff_ne]
    intro e
    have := congrArg Array.toList e
    exact hab (map_ofNat_inj ha hb (by simpa [mkS] using this))
def keyD : TypeDesc → Bool
  | .int _ | .string => true
  | _ => false
theorem keySame_sound {d : TypeDesc} (hd : keyD d = true) {x y : AV} {a b : Value} {r : Bool} (hx : VR σ x a) (hy : VR σ y b) (hfit : kfit d x = true)
    (hq : keySame x y = some r) : Instr.sameNow d a b = some r := by
  cases d <;> simp [keyD] at hd
  · cases x <;> simp [kfit] at hfit
    cases y <;> simp only [keySame] at hq <;> try (cases hq; done)
    obtain rfl := hx; obtain rfl := hy
    rw [ikBeq_iff, Bool.cond_decide] at hq
    split at hq
    · rename_i hk
      injection hq with hq
      simp [Instr.sameNow, hk, ← hq, intBeq_iff]
    · cases hq
  · cases x <;> simp [kfit] at hfit
    cases y <;> simp only [keySame] at hq <;> try (cases hq; done)
    obtain ⟨rfl, hs⟩ := hx; obtain ⟨rfl, hs'⟩ := hy
    injection hq with hq
    subst hq
    simp only [Instr.sameNow]
    rw [mkS_beqB hs hs']

def FindR (σ : Sg) (k : AV) (es : List (AV × AV × Nat)) (i : Nat) : Option (Nat × AV) → Option (Nat × Value) → Prop
  | none, none => True
  | some (j, v), some (j', v') => j = j' ∧ i ≤ j ∧ VR σ v v' ∧ ∃ e, es[j - i]? = some e ∧ e.2.1 = v ∧ keySame k e.1 = some true
  | _, _ => False
theorem find_sound {d : TypeDesc} (hd : keyD d = true) {k : AV} {kv : Value} (hk : VR σ k kv) (hfit : kfit d k = true) :
    ∀ (es : List (AV × AV × Nat)) (es' : List MapEntry) (i : Nat) (r : Option (Nat × AV)), ERs σ es es' → afind k es i = some r →
      ∃ r', Instr.findNow d kv es' i = some r' ∧ FindR σ k es i r r'
  | [], [], i, r, _, hq => by
    simp only [afind] at hq; injection hq with hq; subst hq
    exact ⟨none, rfl, trivial⟩
  | [], _ :: _, _, _, he, _ => he.elim
  | _ :: _, [], _, _, he, _ => he.elim
  | e :: es, e' :: es', i, r, he, hq => by
    simp only [afind] at hq
    obtain ⟨⟨h1, h2, h3⟩, hes⟩ := he
    cases hks : keySame k e.1 with
    | none => simp [hks] at hq
    | some b =>
      have hnow := keySame_sound hd hk h1 hfit hks
      cases b with
      | true =>
        simp only [hks] at hq
        injection hq with hq; subst hq
        exact ⟨some (i, e'.val), by simp [Instr.findNow, hnow], rfl, Nat.le_refl _, h2, e, by simp, rfl, hks⟩
      | false =>
        simp only [hks] at hq
        obtain ⟨r', h4, h5⟩ := find_sound hd hk hfit es es' (i + 1) r hes hq
        refine ⟨r', by simp [Instr.findNow, hnow, h4], ?_⟩
        cases r with
        | none => cases r' with
          | none => trivial
          | some _ => exact h5.elim
        | some jv =>
          obtain ⟨j, v⟩ := jv
          cases r' with
          | none => exact h5.elim
          | some jv' =>
            obtain ⟨j', v'⟩ := jv'
            obtain ⟨g1, g2, g3, e2, g4, g5, g6⟩ := h5
            refine ⟨g1, by omega, g3, e2, ?_, g5, g6⟩
            rw [show j - i = (j - (i + 1)) + 1 by omega]
            simpa using g4
theorem fits_split {key : TypeId} {k : AV} (hf : keyFits P key k = true) : ∃ d, P.underlying key = some d ∧ keyD d = true ∧ kfit d k = true := by
  unfold keyFits at hf
  cases hu : P.underlying key with
  | none => simp [hu] at hf
  | some d =>
    simp only [hu] at hf
    refine ⟨d, rfl, ?_, hf⟩
    cases d <;> first | rfl | (simp [kfit] at hf)
theorem checkKey_run {key : TypeId} {d : TypeDesc} (hu : P.underlying key = some d) (hd : keyD d = true) (empty : Bool) (n : Nat) (v : Value) : (Instr.checkKey empty (n + 1) key v).run P w = .ok () w := by
  cases d <;> simp [keyD] at hd <;> simp [Instr.checkKey, ru hu]
theorem findKey_run {key : TypeId} {d : TypeDesc} {kv : Value} {es : List MapEntry} {r : Option (Nat × Value)} (hu : P.underlying key = some d) (hf : Instr.findNow d kv es 0 = some r) : (Instr.findKey key kv es).run P w = .ok r w := by
  simp [Instr.findKey, ru hu, hf]

theorem lookup_sound (R : HR ng n0 σ h w) {t : TypeId} {x k v : AV} {a b : Value} {ok : Bool} (hx : VR σ x a) (hk : VR σ k b) (hq : alookup P h t x k ok = some v) :
    ∃ u, (Instr.lookup t a b ok).run P w = .ok u w ∧ VR σ v u := by
  unfold alookup at hq
  cases hu : P.underlying t with
  | none => simp [hu] at hq
  | some d =>
    cases d <;> simp only [hu] at hq <;> try (cases hq; done)
    rename_i key elem
    cases hf : keyFits P key k with
    | false => simp [hf] at hq
    | true =>
      simp only [hf, cond_true] at hq
      obtain ⟨d, hd1, hd2, hd3⟩ := fits_split hf
      -- the entries
      cases hme : mapEs h x with
      | none => simp [hme] at hq
      | some es =>
      have hes : ∃ es' : Array MapEntry, ERs σ es es'.toList ∧ ((a = .map none ∧ es' = #[]) ∨ ∃ r clock, a = .map (some r) ∧ (getObj r).run P w = .ok (.map es' clock) w) := by
        cases x with
        | lit l =>
          obtain ⟨rfl, _⟩ := hx
          cases a with
          | map r =>
            cases r with
            | none => simp only [mapEs] at hme; injection hme with hme; subst hme; exact ⟨#[], trivial, .inl ⟨rfl, rfl⟩⟩
            | some r => simp [mapEs] at hme
          | _ => simp [mapEs] at hme
        | map m =>
          obtain ⟨e, he, rfl⟩ := hx
          cases hb : h.get m with
          | none => simp [mapEs, hb] at hme
          | some bl =>
            cases bl with
            | map es2 clock =>
              obtain ⟨es', hw, hr⟩ := R.blk m e _ he hb
              simp only [mapEs, hb] at hme; injection hme with hme; subst hme
              exact ⟨es', hr, .inr ⟨_, clock, rfl, by simp [getObj, Sem.run, hw]⟩⟩
            | _ => simp [mapEs, hb] at hme
        | _ => simp [mapEs] at hme
      obtain ⟨es', e2, e3⟩ := hes
      simp only [hme] at hq
      cases hfd : afind k es 0 with
      | none => simp [hfd] at hq
      | some r =>
        obtain ⟨r', g1, g2⟩ := find_sound hd2 hk hd3 es es'.toList 0 r e2 hfd
        have hfk := findKey_run (P := P) (w := w) hd1 g1
        cases r with
        | some jv =>
          obtain ⟨j, x1⟩ := jv
          cases r' with
          | none => exact g2.elim
          | some jv' =>
            obtain ⟨j', v'⟩ := jv'
            obtain ⟨_, _, g3, _⟩ := g2
            simp only [hfd] at hq
            injection hq with hq; subst hq
            refine ⟨if ok then .tuple #[v', .bool true] else v', ?_, ?_⟩
            · rcases e3 with ⟨rfl, rfl⟩ | ⟨r, clock, rfl, hg⟩
              · simp only [Instr.lookup, Sem.run_bind, ru hu, Result.andThen_ok, Sem.run_pure, checkKey_run hd1 hd2, hfk]
              · simp only [Instr.lookup, Sem.run_bind, ru hu, Result.andThen_ok, hg, Sem.run_pure, checkKey_run hd1 hd2, hfk]
            · cases ok
              · exact g3
              · exact ⟨_, rfl, g3, rfl, trivial⟩
        | none =>
          cases r' with
          | some _ => exact g2.elim
          | none =>
            simp only [hfd] at hq
            cases hi : P.info? elem with
            | none => simp [hi] at hq
            | some i =>
              cases hz : i.zero with
              | none => simp [hi, hz] at hq
              | some z =>
                simp only [hi, hz] at hq
                injection hq with hq; subst hq
                refine ⟨if ok then .tuple #[z, .bool false] else z, ?_, ?_⟩
                · rcases e3 with ⟨rfl, rfl⟩ | ⟨r, clock, rfl, hg⟩
                  · simp only [Instr.lookup, Sem.run_bind, ru hu, Result.andThen_ok, Sem.run_pure, checkKey_run hd1 hd2, hfk, zeroValue, ri hi, hz]
                  · simp only [Instr.lookup, Sem.run_bind, ru hu, Result.andThen_ok, hg, Sem.run_pure, checkKey_run hd1 hd2, hfk, zeroValue, ri hi, hz]
                · cases ok
                  · exact VR.ofValue σ z
                  · exact ⟨_, rfl, VR.ofValue σ z, rfl, trivial⟩
end
end Go.Proofs.YtllipkakgjmheaaGreatDoor.Ev

/-
  The abstract machine's operations that write memory.
-/
import Derived.Test.YtllipkakgjmheaaGreatDoorEvJ
import Derived.RangeFuncRecord
import Derived.RangeFuncKeeps
set_option linter.unusedVariables false
set_option linter.unusedSimpArgs false
set_option linter.constructorNameAsVariable false
namespace Go.Proofs.YtllipkakgjmheaaGreatDoor.Ev
open Go Go.RowKit

section
variable {P : Program} {ng n0 : Nat} {σ : Sg} {h : AH} {w : World}

/-- an operation that writes: what it answers, and the memory behind it -/
def Eff (P : Program) (ng n0 : Nat) (σ : Sg) (h : AH) (w : World) (v : AV) (h' : AH) (s : Sem Next) : Prop :=
  ∃ σ' w' r, s.run P w = .ok r w' ∧ σ.le σ' ∧ HR ng n0 σ' h' w' ∧ Below n0 w w' ∧ (∀ k, k < h.next → σ' k = σ k) ∧ h.next ≤ h'.next ∧ ((∃ u, r = .value u ∧ VR σ' v u) ∨ (r = .skip ∧ v = undefA))

theorem setCell_at {b o : Nat} {v : Value} {c : Array Value} {t : TypeId} {fz : Nat × Nat} (hb : w.heap[b]? = some (.cells c t fz)) :
    (w.setCell ⟨b, o, none⟩ v).heap[b]? = some (.cells (c.setIfInBounds o v) t fz) ∧ Ex b w (w.setCell ⟨b, o, none⟩ v) := by
  refine ⟨?_, ?_, fun k hk => ?_, rfl, rfl, rfl⟩
  · simp only [World.setCell, Array.getElem?_modify, if_true, hb]; rfl
  · simp [World.setCell]
  · simp only [World.setCell, Array.getElem?_modify]; rw [if_neg (by simpa using Ne.symm hk)]
theorem setCells_at : ∀ (vs : List Value) {b o : Nat} {w : World} {c : Array Value} {t : TypeId} {fz : Nat × Nat}, w.heap[b]? = some (.cells c t fz) → o + vs.length ≤ c.size →
    ∃ c', (w.setCells b o vs).heap[b]? = some (.cells c' t fz) ∧ c'.size = c.size ∧ c'.toList = c.toList.take o ++ (vs ++ c.toList.drop (o + vs.length)) ∧ Ex b w (w.setCells b o vs)
  | [], b, o, w, c, t, fz, hb, _ => ⟨c, hb, rfl, by simp, Ex.refl _ _⟩
  | v :: vs, b, o, w, c, t, fz, hb, hle => by
    simp only [List.length_cons] at hle
    obtain ⟨h1, h2⟩ := setCell_at (o := o) (v := v) hb
    obtain ⟨c', g1, g2, g3, g4⟩ := setCells_at vs (o := o + 1) h1 (by simp; omega)
    refine ⟨c', g1, by rw [g2]; simp, ?_, h2.trans g4⟩
    rw [g3]
    have hlt : o < c.toList.length := by rw [Array.length_toList]; omega
    simp only [Array.toList_setIfInBounds]
    rw [List.take_set, List.drop_set_of_lt (by omega), List.take_succ_eq_append_getElem hlt]
    have : (List.take o c.toList ++ [c.toList[o]]).set o v = List.take o c.toList ++ [v] := by
      have hl : (List.take o c.toList).length = o := by rw [List.length_take]; omega
      rw [List.set_append_right _ _ (by omega), hl, Nat.sub_self]
      rfl
    rw [this]
    simp [show o + 1 + vs.length = o + (vs.length + 1) by omega]

theorem one_cell {a : AV} {v : Value} (hv : VR σ a v) (ho : a.one = true) : v.oneCell' = true := by
  cases a <;> simp [AV.one] at ho
  · obtain ⟨rfl, hl⟩ := hv; cases v <;> simp [litOk] at hl <;> rfl
  · obtain rfl := hv; rfl
  · obtain rfl := hv; rfl
  · obtain ⟨rfl, _⟩ := hv; rfl
  · obtain ⟨_, _, rfl⟩ := hv; rfl
  · obtain ⟨_, _, _, rfl, _⟩ := hv; rfl
  · obtain ⟨_, _, rfl, _⟩ := hv; rfl
  · obtain ⟨_, _, rfl⟩ := hv; rfl
  · obtain ⟨_, _, rfl, _⟩ := hv; rfl
  · obtain ⟨_, _, rfl⟩ := hv; rfl
  · obtain ⟨_, rfl, _⟩ := hv; rfl
theorem ones_cells : ∀ {l : List AV} {vs : List Value}, VRs σ l vs → l.all AV.one = true → ∀ v ∈ vs, v.oneCell' = true
  | [], [], _, _, _, hv => by simp at hv
  | [], _ :: _, r, _, _, _ => r.elim
  | _ :: _, [], r, _, _, _ => r.elim
  | a :: l, v :: vs, r, ho, x, hx => by
    simp only [List.all_cons, Bool.and_eq_true] at ho
    rcases List.mem_cons.1 hx with rfl | hx
    · exact one_cell r.1 ho.1
    · exact ones_cells r.2 ho.2 x hx

theorem put_list (C vs : List Value) (base off n : Nat) (h1 : off + vs.length ≤ n) (h2 : base + n ≤ C.length) :
    ((C.take (base + off) ++ (vs ++ C.drop (base + off + vs.length))).drop base).take n = ((C.drop base).take n).take off ++ (vs ++ ((C.drop base).take n).drop (off + vs.length)) := by
  apply List.ext_getElem?
  intro j
  have l1 : (C.take (base + off)).length = base + off := by rw [List.length_take]; omega
  have l2 : ((C.drop base).take n).length = n := by rw [List.length_take, List.length_drop]; omega
  have l3 : (((C.drop base).take n).take off).length = off := by rw [List.length_take, l2]; omega
  rw [List.getElem?_take, List.getElem?_drop]
  simp only [List.getElem?_append, l1, l3]
  by_cases hj : j < off
  · rw [if_pos (show j < n by omega), if_pos (show base + j < base + off by omega), if_pos hj]
    simp only [List.getElem?_take, List.getElem?_drop]
    rw [if_pos (show base + j < base + off by omega), if_pos hj, if_pos (show j < n by omega)]
  · rw [if_neg (show ¬ base + j < base + off by omega), if_neg hj, show base + j - (base + off) = j - off by omega]
    by_cases hj2 : j - off < vs.length
    · rw [if_pos hj2, if_pos hj2, if_pos (by omega)]
    · rw [if_neg hj2, if_neg hj2]
      simp only [List.getElem?_drop, List.getElem?_take]
      by_cases hj3 : j < n
      · rw [if_pos hj3, if_pos (by omega)]
        congr 1
        omega
      · rw [if_neg hj3, if_neg (by omega)]

/-- cells are written into a block of its own -/
theorem putCells_sound (R : HR ng n0 σ h w) {k : Nat} {e : Loc} {cs cs' : List AV} {vs : List Value} {l : List AV} {off : Nat} (hk : σ k = some e) (hb : h.get k = some (.cells false cs))
    (hr : VRs σ l vs) (ho : l.all AV.one = true) (hp : putCells cs off l = some cs') :
    ∃ w', (storeCells (e.at off) vs).run P w = .ok () w' ∧ HR ng n0 σ (h.put k (.cells false cs')) w' ∧ Below n0 w w' ∧ Ex e.blk w w' := by
  obtain ⟨c, t, fz, hw, hsz, hf, hc⟩ := R.blk k e _ hk hb
  have hf' : fz.1 = fz.2 ∨ c.size ≤ fz.1 := hf.resolve_left (by simp)
  unfold putCells at hp
  rw [nble, Bool.cond_decide] at hp
  split at hp
  · rename_i hle
    injection hp with hp; subst hp
    have hlen := VRs.length hr
    have hcl' : cs.length ≤ c.size - e.base := by
      have hcl := VRs.length hc
      rw [List.length_take, List.length_drop] at hcl
      have : c.toList.length = c.size := Array.length_toList
      omega
    have hin : vs = [] ∨ e.base + off + vs.length ≤ c.size := by
      cases vs with
      | nil => exact .inl rfl
      | cons v vs => right; simp only [List.length_cons] at *; omega
    rcases hin with rfl | hin
    · have : l = [] := List.eq_nil_of_length_eq_zero (by simpa using hlen)
      subst this
      refine ⟨w, rfl, ?_, Below.refl _ _, Ex.refl _ _⟩
      simp only [List.nil_append, List.length_nil, Nat.add_zero, List.take_append_drop]
      exact R.write hk hb rfl (Ex.refl _ _) (R.blk k e _ hk hb)
    · have hrun := run_storeCells_cells (P := P) e.blk (e.base + off) vs 0 w (fun j hj => by
          simp only [World.cell?, hw]
          have : e.base + off + j < c.size := by omega
          simp [this]) (fun j hj => by
          simp only [World.frozen?, hw]
          rcases hf' with hf' | hf'
          · simp only [Bool.and_eq_false_iff, decide_eq_false_iff_not]; omega
          · simp only [Bool.and_eq_false_iff, decide_eq_false_iff_not]; left; omega) (ones_cells hr ho)
      simp only [Nat.add_zero] at hrun
      obtain ⟨c', g1, g2, g3, g4⟩ := setCells_at vs hw hin
      refine ⟨_, hrun, ?_, g4.below (R.own k e _ hk hb rfl), g4⟩
      refine R.write hk hb rfl g4 ⟨c', t, fz, g1, g2.trans hsz, .inr (by rw [g2]; exact hf'), ?_⟩
      have hA := VRs.take off hc
      have hB := VRs.drop (off + l.length) hc
      have key : VRs σ (cs.take off ++ (l ++ cs.drop (off + l.length))) (((c.toList.drop e.base).take cs.length).take off ++ (vs ++ ((c.toList.drop e.base).take cs.length).drop (off + l.length))) := VRs.app hA (VRs.app hr hB)
      have hlen2 : (cs.take off ++ (l ++ cs.drop (off + l.length))).length = cs.length := by
        simp only [List.length_append, List.length_take, List.length_drop]; omega
      have hcs : c.toList.length = c.size := Array.length_toList
      have hvl : vs.length ≤ cs.length := by omega
      rw [hlen2, g3, put_list _ _ _ _ _ (by omega) (by omega), ← hlen]
      exact key
  · cases hp
theorem store_sound (R : HR ng n0 σ h w) {t : TypeId} {a x : AV} {av xv : Value} {h' : AH} (ha : VR σ a av) (hx : VR σ x xv) (hq : astore P h t a x = some h') :
    Eff P ng n0 σ h w undefA h' (do Instr.storeAt t av xv; pure .skip) := by
  unfold astore at hq
  split at hq
  · rename_i k off vs n hc hs
    rw [nbeq] at hq
    by_cases hcond : vs.length = n ∧ vs.all AV.one = true
    · obtain ⟨c1, c2⟩ := hcond
      simp only [c1, c2, decide_true, Bool.and_self, cond_true] at hq
      obtain ⟨e, he, rfl⟩ := ha
      cases hb : h.get k with
      | none => simp [hb] at hq
      | some bl =>
        split at hq
        · rename_i cs hcs
          rw [hcs] at hb; injection hb with hb; subst hb
          simp only [Option.map_eq_some_iff] at hq
          obtain ⟨cs', hp, rfl⟩ := hq
          have hr := VR.cells hx hc
          obtain ⟨w', g1, g2, g3, g4⟩ := putCells_sound (P := P) R he hcs hr c2 hp
          refine ⟨σ, w', .skip, ?_, Sg.le.refl σ, g2, g3, fun _ _ => rfl, Nat.le_refl _, .inr ⟨rfl, rfl⟩⟩
          have hsz : xv.cells.size = n := by rw [← Array.length_toList, ← VRs.length hr, c1]
          simp [Instr.storeAt, Instr.sureAddr, storeVar, rs hs, hsz, g1]
        · cases hq
    · have : (decide (vs.length = n) && vs.all AV.one) = false := by
        rw [Bool.eq_false_iff]; intro hx; simp at hx; exact hcond ⟨hx.1, by simpa using hx.2⟩
      rw [this] at hq
      cases hq
  · cases hq

/-- a block's object is written -/
theorem obj_sound (R : HR ng n0 σ h w) {k : Nat} {e : Loc} {b b' : ABlock} {o o' : Obj} (hk : σ k = some e) (hb : h.get k = some b) (hro : b.ro = false) (ho : w.heap[e.blk]? = some o) (hoc : o.isCells = false)
    (hb' : ∀ w' : World, w'.heap[e.blk]? = some o' → BR σ w' e b') :
    (setObj e.blk o').run P w = .ok () (w.putObj e.blk o') ∧ HR ng n0 σ (h.put k b') (w.putObj e.blk o') ∧ Below n0 w (w.putObj e.blk o') := by
  have hlt := R.lt k e hk
  have hex : Ex e.blk w (w.putObj e.blk o') := ⟨by simp [World.putObj], fun x hx => World.putObj_heap_other hx, rfl, rfl, rfl⟩
  refine ⟨?_, R.write hk hb hro hex (hb' _ (World.putObj_heap_same hlt)), hex.below (R.own k e b hk hb hro)⟩
  cases o <;> simp [Obj.isCells] at hoc <;> simp [setObj, Sem.run, ho, World.putObj]

theorem setEntry_sound {k v : AV} {kv vv : Value} (hk : VR σ k kv) (hv : VR σ v vv) : ∀ {es : List (AV × AV × Nat)} {es' : List MapEntry} (i : Nat), ERs σ es es' → ERs σ (setEntry es i k v) (es'.modify i fun e => { e with key := kv, val := vv })
  | [], [], i, _ => by cases i <;> trivial
  | [], _ :: _, _, r => r.elim
  | _ :: _, [], _, r => r.elim
  | e :: es, e' :: es', 0, r => ⟨⟨hk, hv, r.1.2.2⟩, r.2⟩
  | e :: es, e' :: es', i + 1, r => ⟨r.1, setEntry_sound hk hv i r.2⟩
theorem ERs.app {a b : List (AV × AV × Nat)} : ∀ {v : List MapEntry} {u : List MapEntry}, ERs σ a v → ERs σ b u → ERs σ (a ++ b) (v ++ u) := by
  induction a with
  | nil => intro v u h1 h2; cases v with
    | nil => exact h2
    | cons _ _ => exact h1.elim
  | cons x a ih => intro v u h1 h2; cases v with
    | nil => exact h1.elim
    | cons y v => exact ⟨h1.1, ih h1.2 h2⟩
theorem ERs.get {es : List (AV × AV × Nat)} : ∀ {es' : List MapEntry}, ERs σ es es' → ∀ (i : Nat) e, es[i]? = some e → ∃ e', es'[i]? = some e' ∧ ER σ e e' := by
  induction es with
  | nil => intro _ _ i e he; simp at he
  | cons x es ih =>
    intro es' hr i e he
    cases es' with
    | nil => exact hr.elim
    | cons x' es' =>
      cases i with
      | zero => simp at he; subst he; exact ⟨x', by simp, hr.1⟩
      | succ i => simpa using ih hr.2 i e (by simpa using he)

theorem sameBits_of {x y : AV} {a b : Value} (hx : VR σ x a) (hy : VR σ y b) (hs : keySame x y = some true) (n : Nat) : Instr.sameBits n b a = true := by
  cases x <;> cases y <;> simp only [keySame] at hs <;> try (cases hs; done)
  · obtain rfl := hx; obtain rfl := hy
    rw [ikBeq_iff, Bool.cond_decide] at hs
    split at hs
    · rename_i hk
      injection hs with hs
      rw [intBeq_iff] at hs
      have := eq_of_beq hs
      subst hk; subst this
      cases n <;> simp [Instr.sameBits]
    · cases hs
  · obtain ⟨rfl, h1⟩ := hx; obtain ⟨rfl, h2⟩ := hy
    injection hs with hs
    have := (natsBeq_iff _ _).1 hs
    subst this
    cases n <;> simp [Instr.sameBits, dataBeq]

theorem mapUpdate_sound (R : HR ng n0 σ h w) {t : TypeId} {m k v : AV} {mv kv vv : Value} {h' : AH} (hm : VR σ m mv) (hk : VR σ k kv) (hv : VR σ v vv) (hq : amapUpdate P h t m k v = some h') :
    Eff P ng n0 σ h w undefA h' (do Instr.mapUpdate t mv kv vv; pure .skip) := by
  unfold amapUpdate at hq
  split at hq
  · rename_i key elem r hu
    obtain ⟨e, he, rfl⟩ := hm
    cases hf : keyFits P key k with
    | false => simp [hf] at hq
    | true =>
      simp only [hf, cond_true] at hq
      obtain ⟨d, hd1, hd2, hd3⟩ := fits_split hf
      cases hb : h.get r with
      | none => simp [hb] at hq
      | some bl =>
        cases bl <;> simp only [hb] at hq <;> try (cases hq; done)
        rename_i es clock
        obtain ⟨es', hw, hr⟩ := R.blk r e _ he hb
        cases hfd : afind k es 0 with
        | none => simp [hfd] at hq
        | some res =>
          obtain ⟨r', g1, g2⟩ := find_sound hd2 hk hd3 es es'.toList 0 res hr hfd
          have hfk := findKey_run (P := P) (w := w) hd1 g1
          have hget : (getObj e.blk).run P w = .ok (.map es' clock) w := by simp [getObj, Sem.run, hw]
          cases res with
          | some jv =>
            obtain ⟨j, x1⟩ := jv
            cases r' with
            | none => exact g2.elim
            | some jv' =>
              obtain ⟨j', v'⟩ := jv'
              obtain ⟨rfl, _, _, en, hen, _, hks⟩ := g2
              simp only [hfd] at hq
              injection hq with hq; subst hq
              simp only [Nat.sub_zero] at hen
              obtain ⟨en', hen', her⟩ := ERs.get hr j en hen
              have hsb := sameBits_of hk her.1 hks 10000
              have hgk : ((es'[j]?).map (·.key)).getD kv = en'.key := by
                rw [← Array.getElem?_toList, hen']; rfl
              have hob := obj_sound (P := P) R (b' := .map (setEntry es j k v) clock) (o' := .map (es'.modify j fun e => { e with key := kv, val := vv }) clock) he hb rfl hw rfl (fun w' hw' => ⟨_, hw', by rw [Array.toList_modify]; exact setEntry_sound hk hv j hr⟩)
              refine ⟨σ, _, .skip, ?_, Sg.le.refl σ, hob.2.1, hob.2.2, fun _ _ => rfl, Nat.le_refl _, .inr ⟨rfl, rfl⟩⟩
              simp only [Instr.mapUpdate, Sem.run_bind, ru hu, Result.andThen_ok, hget, checkKey_run hd1 hd2, hfk, hgk, Instr.keyThatStays, hsb, if_true, Sem.run_pure, hob.1]
          | none =>
            cases r' with
            | some _ => exact g2.elim
            | none =>
              simp only [hfd] at hq
              injection hq with hq; subst hq
              have hob := obj_sound (P := P) R (b' := .map (es ++ [(k, v, clock)]) (clock + 1)) (o' := .map (es'.push { key := kv, val := vv, born := clock }) (clock + 1)) he hb rfl hw rfl (fun w' hw' => ⟨_, hw', by rw [Array.toList_push]; exact ERs.app hr ⟨⟨hk, hv, rfl⟩, trivial⟩⟩)
              refine ⟨σ, _, .skip, ?_, Sg.le.refl σ, hob.2.1, hob.2.2, fun _ _ => rfl, Nat.le_refl _, .inr ⟨rfl, rfl⟩⟩
              simp only [Instr.mapUpdate, Sem.run_bind, ru hu, Result.andThen_ok, hget, checkKey_run hd1 hd2, hfk, Sem.run_pure, hob.1]
  · cases hq
end
end Go.Proofs.YtllipkakgjmheaaGreatDoor.Ev

/- The texts EbI, EbJ, EbK, EbL of WriterFull, joined by program (tools/merge.py): walks of the functions that the law reaches, and plain facts; no condition. -/
import Derived.Test.YtfmopmjgohopeaaGreatDoorPart02
import Derived.Laws.IdiomStrings
import Derived.RangeFuncRecord
import Derived.RangeFuncKeeps
set_option linter.unusedVariables false
set_option linter.unusedSimpArgs false

/-
  The abstract machine's operations that read: all together ('quiet_sound').
-/
set_option linter.unusedVariables false
set_option linter.unusedSimpArgs false
set_option linter.constructorNameAsVariable false
namespace Go.Proofs.YtfmopmjgohopeaaGreatDoor.Ev
open Go Go.RowKit

section
variable {P : Program} {ng n0 : Nat} {σ : Sg} {h : AH} {w : World}

theorem typeAssert_sound {x v : AV} {a : Value} {xt t : TypeId} {ok : Bool} (hx : VR σ x a) (hq : atypeAssert P x t ok = some v) :
    ∃ u, (Instr.typeAssert a xt t ok).run P w = .ok u w ∧ VR σ v u := by
  have fails : ∀ (s d : Option TypeId) (m : String), ok = true → (match P.info? t with
      | some i => match i.zero with | some z => some (AV.tuple [AV.ofValue z, .bool false]) | none => none
      | none => none) = some v → ∃ u, ((do
        if ok then pure (.tuple #[← zeroValue t, .bool false])
        else runtimePanic (.typeAssertion s d t m) : Sem Value)).run P w = .ok u w ∧ VR σ v u := fun s d m ho hv => by
    cases hi : P.info? t with
    | none => simp [hi] at hv
    | some i => cases hz : i.zero with
      | none => simp [hi, hz] at hv
      | some z =>
        simp only [hi, hz] at hv
        injection hv with hv; subst hv; subst ho
        exact ⟨.tuple #[z, .bool false], by simp [zeroValue, ri hi, hz], _, rfl, VR.ofValue σ z, rfl, trivial⟩
  unfold atypeAssert at hq
  split at hq
  · cases hq
  · rename_i d hd hu
    obtain ⟨rfl, _⟩ := hx
    cases ok with
    | false => cases hq
    | true =>
      obtain ⟨u, h1, h2⟩ := fails (some xt) none "" rfl hq
      refine ⟨u, ?_, h2⟩
      rw [← h1]
      cases d <;> first | (exact (hd _ rfl).elim) | (simp [Instr.typeAssert, ru hu]; done)
  · rename_i d tt y hd hu
    obtain ⟨z, rfl, hz⟩ := hx
    rw [nbeq, Bool.cond_decide] at hq
    split at hq
    · rename_i he
      subst he
      injection hq with hq; subst hq
      refine ⟨if ok then .tuple #[z, .bool true] else z, ?_, ?_⟩
      · cases ok <;> cases d <;> first | (exact (hd _ rfl).elim) | (simp [Instr.typeAssert, ru hu]; done)
      · cases ok
        · exact hz
        · exact ⟨_, rfl, hz, rfl, trivial⟩
    · rename_i hne
      cases ok with
      | false => cases hq
      | true =>
        obtain ⟨u, h1, h2⟩ := fails (some xt) (some tt) "" rfl hq
        refine ⟨u, ?_, h2⟩
        rw [← h1]
        cases d <;> first | (exact (hd _ rfl).elim) | (simp [Instr.typeAssert, ru hu, hne]; done)
  · cases hq

theorem len_sound (R : HR ng n0 σ h w) {t ty : TypeId} {ats : Array TypeId} {as : Array Value} {x : AV} {a : Value} {n : Nat} (hat : ats[0]? = some t) (has' : as[0]? = some a) (hx : VR σ x a) (hq : alen P h t x = some n) :
    (Builtin.len_ ats ty as).run P w = .ok (.int .i64 (n : Int)) w := by
  unfold alen at hq
  cases hu : P.underlying t with
  | none => simp [hu] at hq
  | some d =>
    simp only [hu] at hq
    unfold alenD at hq
    split at hq
    · obtain ⟨rfl, _⟩ := hx
      injection hq with hq
      simp [Builtin.len_, hat, has', ru hu, goInt, mkS_size, Bs.list_len, hq]
    · obtain ⟨e, c, he, rfl, _⟩ := hx
      injection hq with hq
      simp [Builtin.len_, hat, has', ru hu, goInt, hq]
    · obtain ⟨rfl, _⟩ := hx
      injection hq with hq
      simp [Builtin.len_, hat, has', ru hu, goInt, hq]
    · obtain ⟨ad, c, rfl, _⟩ := hx
      injection hq with hq
      simp [Builtin.len_, hat, has', ru hu, goInt, ← hq]
    · obtain ⟨rfl, _⟩ := hx
      injection hq with hq
      simp [Builtin.len_, hat, has', ru hu, goInt, ← hq]
    · rename_i m
      obtain ⟨e, he, rfl⟩ := hx
      cases hb : h.get m with
      | none => simp [hb] at hq
      | some bl =>
        cases bl <;> simp only [hb] at hq <;> try (cases hq; done)
        obtain ⟨es', hw, hr⟩ := R.blk m e _ he hb
        injection hq with hq
        have hl := ERs.length hr
        simp [Builtin.len_, hat, has', ru hu, goInt, getObj, Sem.run, hw, ← hq, hl]
    · cases hq
theorem cap_sound {t ty : TypeId} {ats : Array TypeId} {as : Array Value} {x : AV} {a : Value} {n : Nat} (hat : ats[0]? = some t) (has' : as[0]? = some a) (hx : VR σ x a) (hq : acap P t x = some n) :
    (Builtin.cap_ ats ty as).run P w = .ok (.int .i64 (n : Int)) w := by
  unfold acap at hq
  cases hu : P.underlying t with
  | none => simp [hu] at hq
  | some d =>
    simp only [hu] at hq
    unfold acapD at hq
    split at hq
    · obtain ⟨e, c, he, rfl, hc⟩ := hx
      injection hq with hq
      have hc' : c = _ := hc
      simp [Builtin.cap_, hat, has', ru hu, goInt, hc', hq]
    · obtain ⟨rfl, _⟩ := hx
      injection hq with hq
      simp [Builtin.cap_, hat, has', ru hu, goInt, hq]
    · obtain ⟨ad, c, rfl, hc⟩ := hx
      injection hq with hq
      simp [Builtin.cap_, hat, has', ru hu, goInt, hc _ rfl, hq]
    · cases hq

theorem minmax_sound {mx : Bool} {T : Operand → AV} {ρ : Operand → Value} {l : List Operand} {v : AV} {ats : Array TypeId} {ty : TypeId} (hρ : ∀ x ∈ l, VR σ (T x) (ρ x)) (hq : aminmax mx (l.map T) = some v) :
    ∃ u, ((if mx then Builtin.max_ ats ty (l.map ρ).toArray else Builtin.min_ ats ty (l.map ρ).toArray)).run P w = .ok u w ∧ VR σ v u := by
  match l, hρ, hq with
  | [], _, hq => simp [aminmax] at hq
  | [x], hρ, hq =>
    have hx := hρ x (List.mem_cons_self ..)
    generalize hTx : T x = a at *
    simp only [List.map_cons, List.map_nil, hTx] at hq
    cases a <;> simp only [aminmax] at hq <;> try (cases hq; done)
    injection hq with hq; subst hq
    obtain hx := hx
    refine ⟨ρ x, ?_, hx⟩
    cases mx <;> simp [Builtin.max_, Builtin.min_]
  | [x, y], hρ, hq =>
    have hx := hρ x (List.mem_cons_self ..)
    have hy := hρ y (List.mem_cons_of_mem _ (List.mem_cons_self ..))
    generalize hTx : T x = a at *
    generalize hTy : T y = b at *
    simp only [List.map_cons, List.map_nil, hTx, hTy] at hq
    cases a <;> cases b <;> simp only [aminmax] at hq <;> try (cases hq; done)
    rename_i j m k n
    have hx' : ρ x = .int j m := hx
    have hy' : ρ y = .int k n := hy
    cases hs : semVal ((bif mx then Builtin.max2 else Builtin.min2) (.int j m) (.int k n)) with
    | none => rw [hs] at hq; cases hq
    | some r =>
      rw [hs] at hq
      have hrun := semVal_run (P := P) (w := w) hs
      refine ⟨r, ?_, ?_⟩
      · cases mx <;> simp only [cond_true, cond_false] at hrun <;> simp [Builtin.max_, Builtin.min_, hx', hy', hrun]
      · cases r <;> simp only [] at hq <;> first | (cases hq; done) | (injection hq with hq; subst hq; rfl)
  | _ :: _ :: _ :: _, _, hq =>
    simp only [List.map_cons] at hq
    unfold aminmax at hq
    split at hq <;> simp_all

theorem find_born {es : List (AV × AV × Nat)} {es' : List MapEntry} (stamp : Nat) : ERs σ es es' → ∀ e, es.find? (fun e => Nat.beq e.2.2 stamp) = some e → ∃ e', es'.find? (·.born == stamp) = some e' ∧ VR σ e.1 e'.key ∧ VR σ e.2.1 e'.val := by
  induction es generalizing es' with
  | nil => intro _ e he; simp at he
  | cons x es ih =>
    intro hr e he
    cases es' with
    | nil => exact hr.elim
    | cons x' es' =>
      obtain ⟨⟨h1, h2, h3⟩, hes⟩ := hr
      rw [List.find?_cons] at he ⊢
      by_cases hb : x.2.2 = stamp
      · have e1 : Nat.beq x.2.2 stamp = true := by simp [nbeq, hb]
        have e2 : (x'.born == stamp) = true := by simp [h3, hb]
        simp only [e1] at he
        injection he with he; subst he
        exact ⟨x', by simp only [e2], h1, h2⟩
      · have e1 : Nat.beq x.2.2 stamp = false := by simp [nbeq, hb]
        have e2 : (x'.born == stamp) = false := by simp [h3, hb]
        simp only [e1] at he
        simp only [e2]
        exact ih hes e he
theorem entry_sound (R : HR ng n0 σ h w) {x v : AV} {a : Value} (hx : VR σ x a) (hq : aentry h x = some v) : ∃ u, (Instr.entry a).run P w = .ok u w ∧ VR σ v u := by
  cases x <;> simp only [aentry] at hq <;> try (cases hq; done)
  rename_i k off
  cases off <;> simp only [] at hq <;> try (cases hq; done)
  obtain ⟨e, he, rfl⟩ := hx
  cases hb : h.get k with
  | none => simp [hb] at hq
  | some bl =>
    cases bl <;> simp only [hb] at hq <;> try (cases hq; done)
    rename_i m since seen stepped
    obtain ⟨hbase, e', he', hw⟩ := R.blk k e _ he hb
    cases hl : seen.getLast? with
    | none => simp [hl] at hq
    | some stamp =>
      cases hm : h.get m with
      | none => simp [hl, hm] at hq
      | some bm =>
        cases bm <;> simp only [hl, hm] at hq <;> try (cases hq; done)
        rename_i es clock
        obtain ⟨es', hw', hr⟩ := R.blk m e' _ he' hm
        rw [nbeq, Bool.cond_decide] at hq
        split at hq
        · rename_i hc
          cases hf : es.find? (fun e => Nat.beq e.2.2 stamp) with
          | none => simp [hf] at hq
          | some en =>
            simp only [hf] at hq
            injection hq with hq; subst hq
            obtain ⟨en', h1, h2, h3⟩ := find_born stamp hr en hf
            refine ⟨.tuple #[en'.key, en'.val], ?_, _, rfl, h2, h3, trivial⟩
            have hback : seen.toArray.back? = some stamp := by rw [List.back?_toArray]; exact hl
            have h1' : es'.find? (·.born == stamp) = some en' := by rw [← Array.find?_toList]; exact h1
            simp [Instr.entry, Loc.at, hbase, getObj, Sem.run, hw, hback, hw', hc, h1']
        · cases hq

theorem bytes_vals : ∀ {s : List Nat} {vs : List Value}, VRs σ (s.map byteA) vs → vs = (s.map fun (n : Nat) => (n : Int)).map (Value.int .u8)
  | [], [], _ => rfl
  | [], _ :: _, r => r.elim
  | _ :: _, [], r => r.elim
  | n :: s, v :: vs, r => by
    have hv : v = .int .u8 (Int.ofNat n) := r.1
    rw [bytes_vals r.2, hv]; rfl
theorem foldl_bytes : ∀ (s : List Nat) (acc : List UInt8), (s.map fun (n : Nat) => (n : Int)).foldl (fun (r : ByteArray) n => r.push (UInt8.ofNat n.toNat)) ⟨acc.toArray⟩ = ⟨(acc ++ s.map UInt8.ofNat).toArray⟩
  | [], acc => by simp
  | n :: s, acc => by
    simp only [List.map_cons, List.foldl_cons]
    have : (ByteArray.mk acc.toArray).push (UInt8.ofNat (n : Int).toNat) = ⟨(acc ++ [UInt8.ofNat n]).toArray⟩ := by
      simp [ByteArray.push]
    rw [this, foldl_bytes s]
    simp
theorem bytesToString_run {e : Loc} {off len c : Nat} {s : List Nat} (hrun : (loadCells (e.at off) len).run P w = .ok ((s.map fun (n : Nat) => (n : Int)).map (Value.int .u8)).toArray w) :
    (Conv.bytesToString (.slice (some (e.at off)) len c)).run P w = .ok (.string (mkS s)) w := by
  rw [run_bytesToString w _ _ _ _ hrun]
  have := foldl_bytes s []
  simp only [List.nil_append] at this
  have e0 : ByteArray.empty = ⟨([] : List UInt8).toArray⟩ := rfl
  rw [e0, this]; rfl

theorem convert_sound (R : HR ng n0 σ h w) {src dst : TypeId} {y : AV} {a : Value} {v : AV} (hx : VR σ y a) (hq : aconv P h src dst y = some v) :
    ∃ u, (convert src dst a).run P w = .ok u w ∧ VR σ v u := by
  unfold aconv at hq
  split at hq
  · rename_i d k k' n hs hd
    injection hq with hq; subst hq
    obtain rfl := hx
    exact ⟨.int k (k.wrap n), by simp [convert, ru hs, ru hd, Conv.intToInt], rfl⟩
  · rename_i e0 k off len cap hs hd
    obtain ⟨e, c, he, rfl, hc⟩ := hx
    split at hq
    · rename_i ro cs h1 h2
      cases hb : (cs.sub off len).bt? with
      | none => rw [hb] at hq; cases hq
      | some s =>
        simp only [hb, nbeq, Bool.cond_decide] at hq
        split at hq
        · rename_i hlen
          injection hq with hq; subst hq
          have hsl : s.list.map byteA = (cs.list.drop off).take len := (Cs.bt_list hb).trans (Cs.list_sub _ _ _)
          obtain ⟨vs, g1, g2, g3⟩ := br_cells (P := P) (R.blk k e _ he h2) (n := len) (off := off) (by rw [← hsl, List.length_map, Bs.list_len]; exact hlen)
          rw [← hsl] at g2
          rw [bytes_vals g2] at g3
          refine ⟨.string (mkS s.list), ?_, rfl, Bs.list_lt _⟩
          have := bytesToString_run (c := c) g3
          simp [convert, ru hs, ru hd, ru h1, this]
        · cases hq
    · cases hq
  · rename_i e0 n1 n2 hs hd
    obtain ⟨rfl, _⟩ := hx
    cases hue : P.underlying e0 with
    | none => simp [hue] at hq
    | some de =>
      simp only [hue] at hq
      split at hq
      · rename_i h1
        injection h1 with h1; subst h1
        injection hq with hq; subst hq
        exact ⟨.string .empty, by simp [convert, ru hs, ru hd, ru hue, Conv.bytesToString], rfl, fun _ h => by cases h⟩
      · cases hq
  · rename_i e0 cp hs hd
    obtain ⟨ad, c, rfl, _⟩ := hx
    cases hue : P.underlying e0 with
    | none => simp [hue] at hq
    | some de =>
      simp only [hue] at hq
      split at hq
      · rename_i h1
        injection h1 with h1; subst h1
        injection hq with hq; subst hq
        refine ⟨.string .empty, ?_, rfl, fun _ h => by cases h⟩
        simp [convert, ru hs, ru hd, ru hue, Conv.bytesToString, loadCells, loadCellsFrom]
      · cases hq
  · rename_i d s hs hd
    injection hq with hq; subst hq
    obtain ⟨rfl, hs'⟩ := hx
    refine ⟨.string (mkS s.list), ?_, rfl, hs'⟩
    simp [convert, ru hs, ru hd]
  · cases hq

theorem field_sound {t : TypeId} {x v : AV} {a : Value} {f : Nat} (hx : VR σ x a) (hq : afield P t x f = some v) : ∃ u, (Instr.field t a f).run P w = .ok u w ∧ VR σ v u := by
  unfold afield at hq
  split at hq
  · rename_i fields cs hu
    obtain ⟨c, rfl, hr⟩ := hx
    cases hf : fields[f]? with
    | none => simp [hf] at hq
    | some fd =>
      simp only [hf] at hq
      obtain ⟨u, h1, h2⟩ := part_sound (P := P) (w := w) hr hq
      exact ⟨u, by simp [Instr.field, ru hu, hf, asAgg, h1], h2⟩
  · cases hq
theorem fieldAddr_sound {t : TypeId} {x v : AV} {a : Value} {f : Nat} (hx : VR σ x a) (hq : afieldAddr P t x f = some v) : ∃ u, (Instr.fieldAt t a f).run P w = .ok u w ∧ VR σ v u := by
  unfold afieldAddr at hq
  split at hq
  · rename_i fields k off hu
    obtain ⟨e, he, rfl⟩ := hx
    cases hf : fields[f]? with
    | none => simp [hf] at hq
    | some fd =>
      cases hs : sizeOf? P fd.type with
      | none => simp [hf, hs] at hq
      | some n =>
        cases n with
        | zero => simp [hf, hs] at hq
        | succ n =>
          simp only [hf, hs] at hq
          injection hq with hq; subst hq
          exact ⟨.pointer (some (e.at (off + fd.offset))), by simp [Instr.fieldAt, ru hu, hf, Instr.sureAddr, fieldPlace, rs hs, at_add], e, he, rfl⟩
  · cases hq

theorem binopH_sound (R : HR ng n0 σ h w) {T : Operand → AV} {ρ : Operand → Value} {op : BinOp} {t yt : TypeId} {x y : Operand} {v : AV} (hx : VR σ (T x) (ρ x)) (hy : VR σ (T y) (ρ y))
    (hq : abinopH P h T op t x y = some v) : ∃ u, (do eqGuard op t x y (ρ x) (ρ y); Go.binOp op t (ρ x) (ρ y) : Sem Value).run P w = .ok u w ∧ VR σ v u := by
  unfold abinopH at hq
  split at hq
  · rename_i k o k' o' e1 e2
    rw [e1] at hx; rw [e2] at hy
    cases hu : P.underlying t with
    | none => simp [hu] at hq
    | some d =>
      cases d <;> simp only [hu] at hq <;> try (cases hq; done)
      rename_i e0
      split at hq
      · rename_i m hs
        cases hp : ptrSame h k o k' o' with
        | none => simp [hp, nilOp] at hq
        | some r =>
          have hrun := ptrEq_run (P := P) R hu hs hx hy hp
          obtain ⟨A, B, h1, h2, _⟩ := ptrSame_sound (P := P) R hx hy hp
          rw [h1, h2] at hrun ⊢
          have hg : eqGuard op t x y (.pointer (some A)) (.pointer (some B)) = pure () := by cases op <;> rfl
          cases op <;> simp only [hp, nilOp] at hq <;> try (cases hq; done)
          · injection hq with hq; subst hq
            exact ⟨.bool r, by simp [hg, Go.binOp, hrun], rfl⟩
          · injection hq with hq; subst hq
            exact ⟨.bool (!r), by simp [hg, Go.binOp, hrun], rfl⟩
      · cases hq
  · exact binop_sound (yt := yt) hx hy hq
/-- **WHAT A READING OPERATION ANSWERS, THE MODEL's ANSWERS; the world stays.** -/
theorem quiet_sound (R : HR ng n0 σ h w) {T : Operand → AV} {ρ : Operand → Value} {o : Oper} {v : AV} (hρ : ∀ x ∈ o.op.operands, VR σ (T x) (ρ x)) (hq : aquiet P h T o.op = some v) :
    ∃ u, (execOp ρ o).run P w = .ok (.value u) w ∧ VR σ v u := by
  have lift : ∀ {s : Sem Value}, (∃ u, s.run P w = .ok u w ∧ VR σ v u) → ∃ u, ((do pure (.value (← s)) : Sem Next)).run P w = .ok (.value u) w ∧ VR σ v u := fun ⟨u, h1, h2⟩ => ⟨u, by simp [h1], h2⟩
  obtain ⟨dst, op, ty, pos, after, guard⟩ := o
  have omap : ∀ (x : Option Operand), (∀ y, x = some y → VR σ (T y) (ρ y)) → OVR σ (x.map T) (x.map ρ) := fun x hx => by
    cases x with
    | none => trivial
    | some y => exact hx y rfl
  cases op <;> simp only [aquiet] at hq <;> try (cases hq; done)
  case move x => injection hq with hq; subst hq; exact ⟨_, rfl, hρ x (by simp [Op.operands])⟩
  case assign x => injection hq with hq; subst hq; exact ⟨_, rfl, hρ x (by simp [Op.operands])⟩
  case pick c a b =>
    have hc := hρ c (by simp [Op.operands])
    have ha := hρ a (by simp [Op.operands])
    have hb := hρ b (by simp [Op.operands])
    generalize T c = tc at *
    cases tc <;> simp only [] at hq <;> try (cases hq; done)
    injection hq with hq; subst hq
    rename_i t
    have hc' : ρ c = .bool t := hc
    refine ⟨if t then ρ a else ρ b, by simp [execOp, hc', asBool], ?_⟩
    cases t <;> assumption
  case build t parts =>
    exact lift (build_sound (fun x hx => hρ x (by simpa [Op.operands] using hx)) hq)
  case load t a => exact lift (load_sound R (hρ a (by simp [Op.operands])) hq)
  case nilCheck x =>
    have hx := hρ x (by simp [Op.operands])
    generalize hTx : T x = tx at *
    cases tx <;> simp only [anilCheck] at hq <;> try (cases hq; done)
    all_goals (injection hq with hq; subst hq)
    · have hx' := hx; obtain ⟨e, he, hv⟩ := hx'; exact ⟨ρ x, by simp [execOp, hv], hx⟩
    · have hx' := hx; obtain ⟨x', y', hv, _⟩ := hx'; exact ⟨ρ x, by simp [execOp, hv], hx⟩
    · have hx' := hx; obtain ⟨e, he, hv⟩ := hx'; exact ⟨ρ x, by simp [execOp, hv], hx⟩
    · have hx' := hx; obtain ⟨y, hv, _⟩ := hx'; exact ⟨ρ x, by simp [execOp, hv], hx⟩
  case binOp b t x y yt => exact lift (binopH_sound (yt := yt) R (hρ x (by simp [Op.operands])) (hρ y (by simp [Op.operands])) hq)
  case unOp b t x => exact lift (un_sound (hρ x (by simp [Op.operands])) hq)
  case convert s d x => exact lift (convert_sound R (hρ x (by simp [Op.operands])) hq)
  case makeInterface t x =>
    have hx := hρ x (by simp [Op.operands])
    cases hu : P.underlying t with
    | none => simp [hu] at hq
    | some d =>
      have : (∀ ms, d ≠ .interface ms) ∧ v = .iface t (T x) := by
        cases d <;> simp only [hu] at hq <;> first | (cases hq; done) | (injection hq with hq; exact ⟨fun _ e => (by cases e), hq.symm⟩)
      obtain ⟨h1, rfl⟩ := this
      refine ⟨.iface t (ρ x), ?_, _, rfl, hx⟩
      cases d <;> first | (exact absurd rfl (h1 _)) | simp [execOp, Instr.makeInterface, ru hu]
  case makeFunc fn first cap =>
    cases fn <;> simp only [] at hq <;> try (cases hq; done)
    injection hq with hq; subst hq
    refine ⟨_, rfl, _, _, rfl, ?_, ?_⟩
    · rw [Array.toList_map]; exact VRs.map T ρ _ fun x hx => hρ x (by simp [Op.operands]; exact .inl (by simpa using hx))
    · rw [Array.toList_map]; exact VRs.map T ρ _ fun x hx => hρ x (by simp [Op.operands]; exact .inr (by simpa using hx))
  case slice t x lo hi mx =>
    exact lift (slice_sound (hρ x (by simp [Op.operands])) (omap lo fun y hy => hρ y (by simp [Op.operands, hy])) (omap hi fun y hy => hρ y (by simp [Op.operands, hy])) (omap mx fun y hy => hρ y (by simp [Op.operands, hy])) hq)
  case fieldAddr s x f => exact lift (fieldAddr_sound (hρ x (by simp [Op.operands])) hq)
  case field t x f => exact lift (field_sound (hρ x (by simp [Op.operands])) hq)
  case indexAddr t x i => exact lift (indexAddr_sound (hρ x (by simp [Op.operands])) (hρ i (by simp [Op.operands])) hq)
  case index t x i => exact lift (index_sound (hρ x (by simp [Op.operands])) (hρ i (by simp [Op.operands])) hq)
  case lookup t x k ok => exact lift (lookup_sound R (hρ x (by simp [Op.operands])) (hρ k (by simp [Op.operands])) hq)
  case entry x => exact lift (entry_sound R (hρ x (by simp [Op.operands])) hq)
  case typeAssert x xt t ok => exact lift (typeAssert_sound (hρ x (by simp [Op.operands])) hq)
  case extract x i =>
    have hx := hρ x (by simp [Op.operands])
    generalize T x = tx at *
    cases tx <;> simp only [] at hq <;> try (cases hq; done)
    obtain ⟨c, hc, hr⟩ := hx
    obtain ⟨u, h1, h2⟩ := VRs.get hr i v hq
    have h1' : c[i]? = some u := by simpa using h1
    exact lift (s := Instr.extract (ρ x) i) ⟨u, by simp [hc, Instr.extract, h1'], h2⟩
  case call c =>
    have hargs : ∀ x ∈ c.args.toList, VR σ (T x) (ρ x) := fun x hx => hρ x (by
      simp only [Op.operands, Call.operands, Array.mem_append]; exact .inr (by simpa using hx))
    have exec : ∀ b, c.callee = .builtin b → execOp ρ { dst, op := .call c, type := ty, pos, after, guard } = builtin b c.argTypes ty (c.args.map fun | .const _ => true | _ => false) (c.args.map ρ) := fun b hb => by
      simp only [execOp, resolve, hb]; rfl
    have arg0 : ∀ x l, c.args.toList = x :: l → (c.args.map ρ)[0]? = some (ρ x) := fun x l hl => by
      rw [Array.getElem?_map, ← Array.getElem?_toList, hl]; rfl
    cases hcal : c.callee with
    | value f => simp [hcal] at hq
    | invoke r n => simp [hcal] at hq
    | builtin b =>
      rw [exec b hcal]
      cases b <;> simp only [hcal] at hq <;> try (cases hq; done)
      case len =>
        cases hat : c.argTypes[0]? with
        | none => simp [hat] at hq
        | some t =>
          cases hl : c.args.toList with
          | nil => simp [hat, hl] at hq
          | cons x l =>
            cases l with
            | cons _ _ => simp [hat, hl] at hq
            | nil =>
              simp only [hat, hl, Option.map_eq_some_iff] at hq
              obtain ⟨n, hn, rfl⟩ := hq
              exact lift (s := Builtin.len_ c.argTypes ty (c.args.map ρ)) ⟨_, len_sound R hat (arg0 x [] hl) (hargs x (by simp [hl])) hn, rfl⟩
      case cap =>
        cases hat : c.argTypes[0]? with
        | none => simp [hat] at hq
        | some t =>
          cases hl : c.args.toList with
          | nil => simp [hat, hl] at hq
          | cons x l =>
            cases l with
            | cons _ _ => simp [hat, hl] at hq
            | nil =>
              simp only [hat, hl, Option.map_eq_some_iff] at hq
              obtain ⟨n, hn, rfl⟩ := hq
              exact lift (s := Builtin.cap_ c.argTypes ty (c.args.map ρ)) ⟨_, cap_sound hat (arg0 x [] hl) (hargs x (by simp [hl])) hn, rfl⟩
      case min =>
        have := minmax_sound (P := P) (w := w) (mx := false) (ats := c.argTypes) (ty := ty) hargs hq
        exact lift (s := Builtin.min_ c.argTypes ty (c.args.map ρ)) (by simpa [← Array.toList_map] using this)
      case max =>
        have := minmax_sound (P := P) (w := w) (mx := true) (ats := c.argTypes) (ty := ty) hargs hq
        exact lift (s := Builtin.max_ c.argTypes ty (c.args.map ρ)) (by simpa [← Array.toList_map] using this)
end
end Go.Proofs.YtfmopmjgohopeaaGreatDoor.Ev

/-
  The abstract machine's operations that make a block.
-/
set_option linter.unusedVariables false
set_option linter.unusedSimpArgs false
set_option linter.constructorNameAsVariable false
namespace Go.Proofs.YtfmopmjgohopeaaGreatDoor.Ev
open Go Go.RowKit

section
variable {P : Program} {ng n0 : Nat} {σ : Sg} {h : AH} {w : World}

theorem mod_repl : ∀ (n : Nat) (z : List Value), z ≠ [] → (List.range (n * z.length)).map (fun i => z.toArray[i % z.toArray.size]!) = (List.replicate n z).flatten
  | 0, z, _ => by simp
  | n + 1, z, hz => by
    have hl : 0 < z.length := List.length_pos_iff.2 hz
    rw [Nat.succ_mul, Nat.add_comm, List.range_add, List.map_append, List.replicate_succ, List.flatten_cons]
    congr 1
    · apply List.ext_getElem
      · simp
      · intro i h1 h2
        simp only [List.getElem_map, List.getElem_range, List.size_toArray]
        have : i < z.length := by simpa using h1
        rw [Nat.mod_eq_of_lt this]
        simp [this]
    · rw [List.map_map, ← mod_repl n z hz]
      apply List.map_congr_left
      intro i _
      simp [Nat.add_mod_left]
theorem repl_sound {z : List AV} {c : Array Value} (hr : VRs σ z c.toList) (n s : Nat) (hs : z.length = s) (h0 : n * s ≠ 0) :
    VRs σ (repl n z) ((Array.range (n * s)).map (c[· % c.size]!)).toList := by
  have hne : c.toList ≠ [] := by
    intro e
    have := VRs.length hr
    rw [e] at this
    simp at this
    rw [this] at hs
    simp at hs
    rw [← hs] at h0
    simp at h0
  have hlen : s = c.toList.length := hs ▸ VRs.length hr
  rw [Array.toList_map, Array.toList_range, hlen]
  have := mod_repl n c.toList hne
  simp only [Array.toArray_toList] at this
  rw [this]
  unfold repl
  split
  · rename_i zz
    have : ∃ v, c.toList = [v] := by
      have hl := VRs.length hr
      match c.toList, hl with
      | [v], _ => exact ⟨v, rfl⟩
    obtain ⟨v, hv⟩ := this
    rw [hv] at hr ⊢
    have hflat : (List.replicate n [v]).flatten = List.replicate n v := by
      clear this h0 hlen hne hs
      induction n with
      | zero => rfl
      | succ n ih => simp [List.replicate_succ, ih]
    rw [hflat]
    exact VRs.replicate hr.1 n
  · exact VRs.flatrep hr n

theorem digits_zero : ∀ n, digits n 0 = List.replicate n 0
  | 0 => rfl
  | n + 1 => by rw [digits, List.replicate_succ, Nat.zero_div, digits_zero n]
theorem replC_list (n : Nat) (z : List AV) : (replC n z).list = repl n z := by
  unfold replC
  cases h : isZeroB z with
  | false => rfl
  | true =>
    unfold isZeroB at h
    split at h
    · show (digits n 0).map byteA = List.replicate n _
      rw [digits_zero, List.map_replicate]; rfl
    · cases h
theorem zeros_sound {elem : TypeId} {size n : Nat} {zero : Cs} (hq : zeros P elem size n = some zero) :
    ∃ zc : Array Value, ((n * size = 0 ∧ zc = #[]) ∨ (n * size ≠ 0 ∧ ∃ z, (zeroValue elem).run P w = .ok z w ∧ zc = z.cells)) ∧ VRs σ zero.list ((Array.range (n * size)).map (zc[· % zc.size]!)).toList := by
  unfold zeros at hq
  rw [nbeq, Bool.cond_decide] at hq
  by_cases h0 : n * size = 0
  · rw [if_pos h0] at hq
    injection hq with hq; subst hq
    exact ⟨#[], .inl ⟨h0, rfl⟩, by simp [h0, VRs, Cs.list]⟩
  · rw [if_neg h0] at hq
    cases hz : zeroCells P elem with
    | none => simp [hz] at hq
    | some z =>
      simp only [hz, nbeq, Bool.cond_decide] at hq
      split at hq
      · rename_i hsz
        injection hq with hq; subst hq
        obtain ⟨zv, h1, h2⟩ := zero_sound (P := P) (σ := σ) (w := w) hz
        exact ⟨zv.cells, .inr ⟨h0, zv, h1, rfl⟩, by rw [replC_list]; exact repl_sound h2 n size hsz h0⟩
      · cases hq
theorem zeros_more {elem : TypeId} {size n : Nat} {z : Cs} (hq : zeros P elem size 1 = some z) (hs : 1 ≤ size) (hn : 1 ≤ n) : ∃ z', zeros P elem size n = some z' := by
  unfold zeros at hq ⊢
  have h1 : Nat.beq (1 * size) 0 = false := by rw [nbeq]; exact decide_eq_false (by omega)
  have h2 : Nat.beq (n * size) 0 = false := by
    rw [nbeq]; exact decide_eq_false (Nat.mul_ne_zero (by omega) (by omega))
  rw [h1, cond_false] at hq
  rw [h2, cond_false]
  cases hz : zeroCells P elem with
  | none => simp [hz] at hq
  | some c =>
    simp only [hz] at hq ⊢
    cases hb : Nat.beq c.length size with
    | false => rw [hb] at hq; cases hq
    | true => exact ⟨_, rfl⟩
theorem wrap_small {n : Nat} (hn : n ≤ 1000000000) : IntKind.i64.wrap (n : Int) = n := by
  have h1 : (n : Int) % (2 ^ 64 : Int) = n := Int.emod_eq_of_lt (by omega) (by omega)
  have h2 : ¬ ((n : Int) ≥ (2 ^ 63 : Int)) := by omega
  show (let m := (n : Int) % (2 ^ 64 : Int); if (true && decide (m ≥ (2 ^ 63 : Int))) = true then m - (2 ^ 64 : Int) else m) = n
  simp only [h1, h2, decide_false, Bool.and_false, Bool.false_eq_true, if_false]
theorem u8s (l : List Nat) : ((l.map fun b => AV.int .u8 (.ofNat (b % 256))).all isU8A) = true := by
  rw [List.all_map, List.all_eq_true]; intro _ _; rfl
/-- a new block of cells, and what points to it -/
structure Made (P : Program) (σ : Sg) (w : World) (b : ABlock) (mk : Mk) (s : Sem Next) : Prop where
  out : ∃ u w' o e, s.run P w = .ok (.value u) w' ∧ Push o w w' ∧ e.blk = w.heap.size ∧ b.ro = false ∧ ∀ σ' : Sg, σ.le σ' → BR σ' w' e b ∧ ∀ k, σ' k = some e → VR σ' (mk.av k) u

theorem made_cells {b : Bool} {cs : Cs} {c : Array Value} {t : TypeId} {fz : Nat × Nat} {w' : World} {s : Sem Next} {u : Value} {mk : Mk} (hb : b = false) (hs : s.run P w = .ok (.value u) w') (hp : Push (.cells c t fz) w w') (hfz : fz.1 = fz.2 ∨ (c.size ≤ fz.1 ∧ cs.list.all isU8A = true))
    (hr : VRs σ cs.list (c.toList.take cs.list.length)) (hu : ∀ (σ' : Sg) k, σ' k = some ⟨w.heap.size, 0, c.size⟩ → VR σ' (mk.av k) u) : Made P σ w (.cells b cs) mk s := by
  subst hb
  refine ⟨u, w', _, ⟨w.heap.size, 0, c.size⟩, hs, hp, rfl, rfl, fun σ' hle => ⟨⟨c, t, fz, hp.at, rfl, .inr hfz, ?_⟩, fun k hk => hu σ' k hk⟩⟩
  simpa using VRs.mono hle _ _ hr

set_option maxRecDepth 100000 in
theorem alloc_sound {T : Operand → AV} {ρ : Operand → Value} {o : Oper} {b : ABlock} {mk : Mk} (hρ : ∀ x ∈ o.op.operands, VR σ (T x) (ρ x)) (hq : aalloc P T o.op = some (b, mk)) :
    Made P σ w b mk (execOp ρ o) := by
  obtain ⟨dst, op, ty, pos, after, guard⟩ := o
  have whole : ∀ {cs : List AV} {c : Array Value}, VRs σ cs c.toList → VRs σ cs (c.toList.take cs.length) := fun hr => by
    have hl := VRs.length hr
    rw [hl, List.take_length]; exact hr
  cases op <;> simp only [aalloc] at hq <;> try (cases hq; done)
  case alloc t =>
    simp only [Option.map_eq_some_iff] at hq
    obtain ⟨cs, hz, he⟩ := hq
    injection he with e1 e2; subst e1; subst e2
    obtain ⟨z, h1, h2⟩ := zero_sound (P := P) (σ := σ) (w := w) hz
    exact made_cells (t := t) (fz := (0, 0)) rfl (by simp [execOp, Instr.alloc, h1, newVar, newRow]; rfl) (Push.new _ _) (.inl rfl) (whole h2) (fun σ' k hk => ⟨_, hk, rfl⟩)
  case box t x =>
    simp only [Option.map_eq_some_iff] at hq
    obtain ⟨cs, hz, he⟩ := hq
    injection he with e1 e2; subst e1; subst e2
    have h2 := VR.cells (hρ x (by simp [Op.operands])) hz
    exact made_cells (t := t) (fz := (0, 0)) rfl (by simp [execOp, Instr.box, newVar, newRow]; rfl) (Push.new _ _) (.inl rfl) (whole h2) (fun σ' k hk => ⟨_, hk, rfl⟩)
  case buildSlice t len parts =>
    cases hu : P.underlying t with
    | none => simp [hu] at hq
    | some d =>
      cases d <;> simp only [hu] at hq <;> try (cases hq; done)
      rename_i elem
      cases hs : sizeOf? P elem with
      | none => simp [hs] at hq
      | some size =>
        simp only [hs, nble, nbeq, Bool.cond_decide] at hq
        split at hq
        · rename_i hle
          obtain ⟨hp, hl⟩ := parts_rel (σ := σ) (T := T) (ρ := ρ) parts (fun x hx => hρ x (by simpa [Op.operands] using hx))
          cases hz : zeros P elem size len with
          | none => simp [hz] at hq
          | some zero =>
          obtain ⟨zc, e2, e3⟩ := zeros_sound (P := P) (σ := σ) (w := w) hz
          simp only [hz, Option.map_eq_some_iff] at hq
          obtain ⟨cs, hf, he⟩ := hq
          injection he with e4 e5; subst e4; subst e5
          obtain ⟨c', h1, h2⟩ := fill_sound (σ := σ) _ _ _ _ _ _ hp hl e3 hf
          have hgt : ¬ len * size > 2 ^ 24 := by omega
          rw [Array.toList_map] at h1
          refine made_cells (t := elem) (fz := (0, 0)) (u := .slice (some ⟨w.heap.size, 0, none⟩) len len) rfl ?_ (Push.new _ _) (.inl rfl) (by rw [Cs.list_of]; exact whole h2) (fun σ' k hk => ⟨_, len, hk, rfl, rfl⟩)
          rcases e2 with ⟨h0, rfl⟩ | ⟨h0, zv, g1, rfl⟩
          · simp only [h0] at h1
            have hg0 : ¬ (0 > 2 ^ 24) := by decide
            simp only [execOp, Instr.buildSlice, Sem.run_bind, ru hu, Result.andThen_ok, rs hs, if_false, h0, hg0, if_true, Sem.run_pure, Array.toList_map]
            rw [h1]
            simp [newRow]
          · simp only [execOp, Instr.buildSlice, Sem.run_bind, ru hu, Result.andThen_ok, rs hs, hgt, if_false, h0, g1, Sem.run_pure, Array.toList_map]
            rw [h1]
            simp [newRow]
        · cases hq
  case makeSlice t l c =>
    have hl := hρ l (by simp [Op.operands])
    have hc := hρ c (by simp [Op.operands])
    cases hu : P.underlying t with
    | none => simp [hu] at hq
    | some d =>
    cases hnl : natOf (T l) with
    | none => cases d <;> simp [hu, hnl] at hq
    | some ln =>
    cases hnc : natOf (T c) with
    | none => cases d <;> simp [hu, hnl, hnc] at hq
    | some cn =>
    cases d <;> simp only [hu, hnl, hnc] at hq <;> try (cases hq; done)
    rename_i elem
    cases hi : P.info? elem with
    | none => simp [hi] at hq
    | some i =>
    simp only [hi, nble] at hq
    by_cases hcond : (ln ≤ cn ∧ cn ≤ 1000000) ∧ i.bytes ≤ 1000000
    · obtain ⟨⟨c1, c2⟩, c3⟩ := hcond
      simp only [c1, c2, c3, decide_true, Bool.and_self, cond_true, Option.map_eq_some_iff] at hq
      obtain ⟨cs, hz, he⟩ := hq
      injection he with e1 e2; subst e1; subst e2
      obtain ⟨k1, hk1⟩ := natOf_some hnl hl
      obtain ⟨k2, hk2⟩ := natOf_some hnc hc
      obtain ⟨zc, g1, g2⟩ := zeros_sound (P := P) (σ := σ) (w := w) hz
      have wl : IntKind.i64.wrap (ln : Int) = ln := wrap_small (by omega)
      have wc : IntKind.i64.wrap (cn : Int) = cn := wrap_small (by omega)
      have hmul : i.bytes * cn ≤ 1000000 * 1000000 := Nat.mul_le_mul c3 c2
      have hmulI : (i.bytes : Int) * (cn : Int) ≤ 1000000 * 1000000 := by rw [← Int.natCast_mul]; exact Int.ofNat_le.2 hmul
      refine made_cells (t := elem) (fz := (0, 0)) (u := .slice (some ⟨w.heap.size, 0, none⟩) ln cn) rfl ?_ (Push.new _ _) (.inl rfl) (whole g2) (fun σ' k hk => ⟨_, cn, hk, rfl, rfl⟩)
      have t1 : (decide ((cn : Int) < 0) || decide ((i.bytes : Int) * (cn : Int) > 2 ^ 48)) = false := by
        simp only [Bool.or_eq_false_iff, decide_eq_false_iff_not]; exact ⟨by omega, by omega⟩
      have t2 : decide ((ln : Int) < 0) = false := by simp only [decide_eq_false_iff_not]; omega
      have t3 : decide ((ln : Int) > (cn : Int)) = false := by simp only [decide_eq_false_iff_not]; omega
      rcases g1 with ⟨h0, rfl⟩ | ⟨h0, zv, g1, rfl⟩
      · simp only [execOp, Instr.makeSlice, Sem.run_bind, ru hu, Result.andThen_ok, hk1, hk2, asInt, asIntOf, Sem.run_pure, ri hi, wl, wc, t1, t2, t3, Bool.or_self, Bool.false_eq_true, if_false, run_askRoom, Int.toNat_natCast, rs (ri_size hi), h0, if_true]
        simp [newRow]
      · simp only [execOp, Instr.makeSlice, Sem.run_bind, ru hu, Result.andThen_ok, hk1, hk2, asInt, asIntOf, Sem.run_pure, ri hi, wl, wc, t1, t2, t3, Bool.or_self, Bool.false_eq_true, if_false, run_askRoom, Int.toNat_natCast, rs (ri_size hi), h0, g1]
        simp [newRow]
    · have : (decide (ln ≤ cn) && decide (cn ≤ 1000000) && decide (i.bytes ≤ 1000000)) = false := by
        rw [← Bool.decide_and, ← Bool.decide_and]; exact decide_eq_false hcond
      rw [this, cond_false] at hq
      by_cases hcond2 : ((ln ≤ cn ∧ cn ≤ 1000000000) ∧ i.bytes ≤ 1000) ∧ 1 ≤ i.size
      · obtain ⟨⟨⟨c1, c2⟩, c3⟩, c4⟩ := hcond2
        simp only [c1, c2, c3, c4, decide_true, Bool.and_self, cond_true, Option.map_eq_some_iff] at hq
        obtain ⟨cs0, hz0, he⟩ := hq
        injection he with e1 e2; subst e1; subst e2
        have hbig : 1 ≤ cn := by
          rcases Nat.eq_zero_or_pos cn with h0 | h0
          · exact absurd ⟨⟨c1, by omega⟩, by omega⟩ hcond
          · exact h0
        obtain ⟨cs, hz⟩ := zeros_more hz0 c4 hbig
        obtain ⟨k1, hk1⟩ := natOf_some hnl hl
        obtain ⟨k2, hk2⟩ := natOf_some hnc hc
        obtain ⟨zc, g1, g2⟩ := zeros_sound (P := P) (σ := σ) (w := w) hz
        have wl : IntKind.i64.wrap (ln : Int) = ln := wrap_small (by omega)
        have wc : IntKind.i64.wrap (cn : Int) = cn := wrap_small c2
        have hmul : i.bytes * cn ≤ 1000 * 1000000000 := Nat.mul_le_mul c3 c2
        have hmulI : (i.bytes : Int) * (cn : Int) ≤ 1000 * 1000000000 := by rw [← Int.natCast_mul]; exact Int.ofNat_le.2 hmul
        refine made_cells (cs := .av []) (c := (Array.range (cn * i.size)).map (zc[· % zc.size]!)) (t := elem) (fz := (0, 0)) (u := .slice (some ⟨w.heap.size, 0, none⟩) ln cn) rfl ?_ (Push.new _ _) (.inl rfl) (by simp [VRs, Cs.list]) (fun σ' k hk => ⟨_, cn, hk, rfl, rfl⟩)
        have t1 : (decide ((cn : Int) < 0) || decide ((i.bytes : Int) * (cn : Int) > 2 ^ 48)) = false := by
          simp only [Bool.or_eq_false_iff, decide_eq_false_iff_not]; exact ⟨by omega, by omega⟩
        have t2 : decide ((ln : Int) < 0) = false := by simp only [decide_eq_false_iff_not]; omega
        have t3 : decide ((ln : Int) > (cn : Int)) = false := by simp only [decide_eq_false_iff_not]; omega
        rcases g1 with ⟨h0, rfl⟩ | ⟨h0, zv, g1, rfl⟩
        · simp only [execOp, Instr.makeSlice, Sem.run_bind, ru hu, Result.andThen_ok, hk1, hk2, asInt, asIntOf, Sem.run_pure, ri hi, wl, wc, t1, t2, t3, Bool.or_self, Bool.false_eq_true, if_false, run_askRoom, Int.toNat_natCast, rs (ri_size hi), h0, if_true]
          simp [newRow]
        · simp only [execOp, Instr.makeSlice, Sem.run_bind, ru hu, Result.andThen_ok, hk1, hk2, asInt, asIntOf, Sem.run_pure, ri hi, wl, wc, t1, t2, t3, Bool.or_self, Bool.false_eq_true, if_false, run_askRoom, Int.toNat_natCast, rs (ri_size hi), h0, g1]
          simp [newRow]
      · have : (decide (ln ≤ cn) && decide (cn ≤ 1000000000) && decide (i.bytes ≤ 1000) && decide (1 ≤ i.size)) = false := by
          rw [← Bool.decide_and, ← Bool.decide_and, ← Bool.decide_and]; exact decide_eq_false hcond2
        rw [this] at hq
        cases hq
  case convert s d x =>
    have hx := hρ x (by simp [Op.operands])
    generalize T x = tx at *
    split at hq
    · rename_i e str hs hd
      split at hq
      · rename_i he
        injection hq with hq; injection hq with e1 e2; subst e1; subst e2
        obtain ⟨hxv, hs'⟩ := hx
        have hrun := run_bytes_of_string (P := P) w s d e (mkS str.list) hs hd he
        rw [mkS_size, Bs.list_len] at hrun
        generalize hg : grownCap w str.n 0 e = g at hrun
        have hgle : str.n ≤ g := by
          rw [← hg]; unfold grownCap Question.cut; simp
        have hlen : (bytesRow (mkS str.list) g).toList = (str.list.map fun (b : Nat) => Value.int .u8 (b : Int)) ++ List.replicate (g - str.n) (.int .u8 0) := by
          simp only [bytesRow, mkS, Array.toList_append, Array.toList_map, Array.toList_replicate, List.map_map]
          congr 1
          · apply List.map_congr_left
            intro b hb
            simp [UInt8.toNat_ofNat_of_lt' (hs' b hb)]
          · congr 1
            show g - (mkS str.list).size = _
            rw [mkS_size, Bs.list_len]
        refine made_cells (w' := w.drew.alloc (.cells (bytesRow (mkS str.list) g) e ((bytesRow (mkS str.list) g).size, (bytesRow (mkS str.list) g).size + 1))) (σ := σ) (t := e) (c := bytesRow (mkS str.list) g) (fz := ((bytesRow (mkS str.list) g).size, (bytesRow (mkS str.list) g).size + 1)) (u := .slice (some ⟨w.heap.size, 0, none⟩) str.n g) rfl (by simp only [execOp, hxv, Sem.run_bind, hrun]; rfl) ⟨rfl, rfl, rfl, rfl⟩ (.inr ⟨Nat.le_refl _, bytes_isU8 _⟩) ?_ (fun σ' k hk => ⟨_, g, hk, rfl, hgle, ?_⟩)
        · rw [hlen]
          show VRs σ (str.list.map byteA) (List.take (str.list.map byteA).length _)
          rw [List.length_map, List.take_append_of_le_length (by simp), List.take_of_length_le (by simp)]
          exact VRs.map _ _ _ fun b hb => rfl
        · have : (bytesRow (mkS str.list) g).size = g := by
            rw [← Array.length_toList, hlen]; simp [Bs.list_len]; omega
          simp [this]
      · cases hq
    · cases hq
  case makeMap t r =>
    cases r with
    | some _ => simp at hq
    | none =>
      simp only [] at hq
      injection hq with hq; injection hq with e1 e2; subst e1; subst e2
      refine ⟨.map (some w.heap.size), { w with heap := w.heap.push (.map #[] 0) }, .map #[] 0, ⟨w.heap.size, 0, 0⟩, by simp [execOp, Instr.makeMap], Push.new _ _, rfl, rfl, fun σ' hle => ⟨⟨#[], by simp, trivial⟩, fun k hk => ⟨_, hk, rfl⟩⟩⟩
end
end Go.Proofs.YtfmopmjgohopeaaGreatDoor.Ev

/-
  The abstract machine's operations that write memory.
-/
set_option linter.unusedVariables false
set_option linter.unusedSimpArgs false
set_option linter.constructorNameAsVariable false
namespace Go.Proofs.YtfmopmjgohopeaaGreatDoor.Ev
open Go Go.RowKit

section
variable {P : Program} {ng n0 : Nat} {σ : Sg} {h : AH} {w : World}

/-- an operation that writes: what it answers, and the memory behind it -/
def Eff (P : Program) (ng n0 : Nat) (σ : Sg) (h : AH) (w : World) (v : AV) (h' : AH) (s : Sem Next) : Prop :=
  ∃ σ' w' r, s.run P w = .ok r w' ∧ σ.le σ' ∧ HR ng n0 σ' h' w' ∧ Below n0 w w' ∧ (∀ k, k < h.next → σ' k = σ k) ∧ h.next ≤ h'.next ∧ ((∃ u, r = .value u ∧ VR σ' v u) ∨ (r = .skip ∧ v = undefA))

theorem setCell_at {b o : Nat} {v : Value} {c : Array Value} {t : TypeId} {fz : Nat × Nat} (hb : w.heap[b]? = some (.cells c t fz)) :
    (w.setCell ⟨b, o, none⟩ v).heap[b]? = some (.cells (c.setIfInBounds o v) t fz) ∧ Ex b w (w.setCell ⟨b, o, none⟩ v) := by
  refine ⟨?_, ?_, fun k hk => ?_, rfl, rfl, rfl⟩
  · simp only [World.setCell, Array.getElem?_modify, if_true, hb]; rfl
  · simp [World.setCell]
  · simp only [World.setCell, Array.getElem?_modify]; rw [if_neg (by simpa using Ne.symm hk)]
theorem setCells_at : ∀ (vs : List Value) {b o : Nat} {w : World} {c : Array Value} {t : TypeId} {fz : Nat × Nat}, w.heap[b]? = some (.cells c t fz) → o + vs.length ≤ c.size →
    ∃ c', (w.setCells b o vs).heap[b]? = some (.cells c' t fz) ∧ c'.size = c.size ∧ c'.toList = c.toList.take o ++ (vs ++ c.toList.drop (o + vs.length)) ∧ Ex b w (w.setCells b o vs)
  | [], b, o, w, c, t, fz, hb, _ => ⟨c, hb, rfl, by simp, Ex.refl _ _⟩
  | v :: vs, b, o, w, c, t, fz, hb, hle => by
    simp only [List.length_cons] at hle
    obtain ⟨h1, h2⟩ := setCell_at (o := o) (v := v) hb
    obtain ⟨c', g1, g2, g3, g4⟩ := setCells_at vs (o := o + 1) h1 (by simp; omega)
    refine ⟨c', g1, by rw [g2]; simp, ?_, h2.trans g4⟩
    rw [g3]
    have hlt : o < c.toList.length := by rw [Array.length_toList]; omega
    simp only [Array.toList_setIfInBounds]
    rw [List.take_set, List.drop_set_of_lt (by omega), List.take_succ_eq_append_getElem hlt]
    have : (List.take o c.toList ++ [c.toList[o]]).set o v = List.take o c.toList ++ [v] := by
      have hl : (List.take o c.toList).length = o := by rw [List.length_take]; omega
      rw [List.set_append_right _ _ (by omega), hl, Nat.sub_self]
      rfl
    rw [this]
    simp [show o + 1 + vs.length = o + (vs.length + 1) by omega]

theorem one_cell {a : AV} {v : Value} (hv : VR σ a v) (ho : a.one = true) : v.oneCell' = true := by
  cases a <;> simp [AV.one] at ho
  · obtain ⟨rfl, hl⟩ := hv; cases v <;> simp [litOk] at hl <;> rfl
  · obtain rfl := hv; rfl
  · obtain rfl := hv; rfl
  · obtain ⟨rfl, _⟩ := hv; rfl
  · obtain ⟨_, _, rfl⟩ := hv; rfl
  · obtain ⟨_, _, _, rfl, _⟩ := hv; rfl
  · obtain ⟨_, _, rfl, _⟩ := hv; rfl
  · obtain ⟨_, _, rfl⟩ := hv; rfl
  · obtain ⟨_, _, rfl, _⟩ := hv; rfl
  · obtain ⟨_, _, rfl⟩ := hv; rfl
  · obtain ⟨_, rfl, _⟩ := hv; rfl
theorem ones_cells : ∀ {l : List AV} {vs : List Value}, VRs σ l vs → l.all AV.one = true → ∀ v ∈ vs, v.oneCell' = true
  | [], [], _, _, _, hv => by simp at hv
  | [], _ :: _, r, _, _, _ => r.elim
  | _ :: _, [], r, _, _, _ => r.elim
  | a :: l, v :: vs, r, ho, x, hx => by
    simp only [List.all_cons, Bool.and_eq_true] at ho
    rcases List.mem_cons.1 hx with rfl | hx
    · exact one_cell r.1 ho.1
    · exact ones_cells r.2 ho.2 x hx

theorem put_list (C vs : List Value) (base off n : Nat) (h1 : off + vs.length ≤ n) (h2 : base + n ≤ C.length) :
    ((C.take (base + off) ++ (vs ++ C.drop (base + off + vs.length))).drop base).take n = ((C.drop base).take n).take off ++ (vs ++ ((C.drop base).take n).drop (off + vs.length)) := by
  apply List.ext_getElem?
  intro j
  have l1 : (C.take (base + off)).length = base + off := by rw [List.length_take]; omega
  have l2 : ((C.drop base).take n).length = n := by rw [List.length_take, List.length_drop]; omega
  have l3 : (((C.drop base).take n).take off).length = off := by rw [List.length_take, l2]; omega
  rw [List.getElem?_take, List.getElem?_drop]
  simp only [List.getElem?_append, l1, l3]
  by_cases hj : j < off
  · rw [if_pos (show j < n by omega), if_pos (show base + j < base + off by omega), if_pos hj]
    simp only [List.getElem?_take, List.getElem?_drop]
    rw [if_pos (show base + j < base + off by omega), if_pos hj, if_pos (show j < n by omega)]
  · rw [if_neg (show ¬ base + j < base + off by omega), if_neg hj, show base + j - (base + off) = j - off by omega]
    by_cases hj2 : j - off < vs.length
    · rw [if_pos hj2, if_pos hj2, if_pos (by omega)]
    · rw [if_neg hj2, if_neg hj2]
      simp only [List.getElem?_drop, List.getElem?_take]
      by_cases hj3 : j < n
      · rw [if_pos hj3, if_pos (by omega)]
        congr 1
        omega
      · rw [if_neg hj3, if_neg (by omega)]

theorem put_u8 {cs l : List AV} {off n : Nat} (h : cs.all isU8A = true) (hu : (l.all isU8A || !(cs.all isU8A)) = true) : (cs.take off ++ (l ++ cs.drop n)).all isU8A = true := by
  rw [h, Bool.not_true, Bool.or_false] at hu
  rw [List.all_eq_true] at *
  intro x hx
  rcases List.mem_append.1 hx with hx | hx
  · exact h x (List.mem_of_mem_take hx)
  · rcases List.mem_append.1 hx with hx | hx
    · exact hu x hx
    · exact h x (List.mem_of_mem_drop hx)
theorem put_list_eq (cs l : Cs) (off : Nat) : ((cs.sub 0 off).app (l.app (cs.sub (off + l.len) cs.len))).list = cs.list.take off ++ (l.list ++ cs.list.drop (off + l.list.length)) := by
  rw [Cs.list_app, Cs.list_app, Cs.list_sub, Cs.list_sub, List.drop_zero, Cs.list_len l, Cs.list_len cs, List.take_of_length_le (l := cs.list.drop _) (by simp)]
/-- cells are written into a block of its own -/
theorem putCells_sound (R : HR ng n0 σ h w) {k : Nat} {e : Loc} {cs cs' : Cs} {vs : List Value} {l : Cs} {off : Nat} (hk : σ k = some e) (hb : h.get k = some (.cells false cs))
    (hr : VRs σ l.list vs) (ho : l.list.all AV.one = true) (hp : putCells cs off l = some cs') :
    ∃ w', (storeCells (e.at off) vs).run P w = .ok () w' ∧ HR ng n0 σ (h.put k (.cells false cs')) w' ∧ Below n0 w w' ∧ Ex e.blk w w' := by
  obtain ⟨c, t, fz, hw, hsz, hf, hc⟩ := R.blk k e _ hk hb
  have hf0 : fz.1 = fz.2 ∨ (c.size ≤ fz.1 ∧ cs.list.all isU8A = true) := hf.resolve_left (by simp)
  have hf' : fz.1 = fz.2 ∨ c.size ≤ fz.1 := hf0.imp id (·.1)
  unfold putCells at hp
  generalize hcnd : (Nat.ble (off + l.len) cs.len && (l.isU8 || !cs.isU8)) = cnd at hp
  cases cnd with
  | true =>
    rw [Bool.and_eq_true, nble, decide_eq_true_eq, Cs.list_isU8, Cs.list_isU8, Cs.list_len, Cs.list_len] at hcnd
    obtain ⟨hle, hu8⟩ := hcnd
    rw [cond_true] at hp
    injection hp with hp; subst hp
    have hlen := VRs.length hr
    have hcl' : cs.list.length ≤ c.size - e.base := by
      have hcl := VRs.length hc
      rw [List.length_take, List.length_drop] at hcl
      have : c.toList.length = c.size := Array.length_toList
      omega
    have hin : vs = [] ∨ e.base + off + vs.length ≤ c.size := by
      cases vs with
      | nil => exact .inl rfl
      | cons v vs => right; simp only [List.length_cons] at *; omega
    rcases hin with rfl | hin
    · have : l.list = [] := List.eq_nil_of_length_eq_zero (by simpa using hlen)
      refine ⟨w, rfl, ?_, Below.refl _ _, Ex.refl _ _⟩
      refine R.write hk hb rfl (Ex.refl _ _) (br_list ?_ (R.blk k e _ hk hb))
      rw [put_list_eq, this]
      simp only [List.nil_append, List.length_nil, Nat.add_zero, List.take_append_drop]
    · have hrun := run_storeCells_cells (P := P) e.blk (e.base + off) vs 0 w (fun j hj => by
          simp only [World.cell?, hw]
          have : e.base + off + j < c.size := by omega
          simp [this]) (fun j hj => by
          simp only [World.frozen?, hw]
          rcases hf' with hf' | hf'
          · simp only [Bool.and_eq_false_iff, decide_eq_false_iff_not]; omega
          · simp only [Bool.and_eq_false_iff, decide_eq_false_iff_not]; left; omega) (ones_cells hr ho)
      simp only [Nat.add_zero] at hrun
      obtain ⟨c', g1, g2, g3, g4⟩ := setCells_at vs hw hin
      refine ⟨_, hrun, ?_, g4.below (R.own k e _ hk hb rfl), g4⟩
      refine R.write hk hb rfl g4 (br_list (put_list_eq cs l off).symm (cs := .av _) ⟨c', t, fz, g1, g2.trans hsz, .inr (by rw [g2]; exact hf0.imp id fun h5 => ⟨h5.1, put_u8 h5.2 hu8⟩), ?_⟩)
      have hA := VRs.take off hc
      have hB := VRs.drop (off + l.list.length) hc
      have key : VRs σ (cs.list.take off ++ (l.list ++ cs.list.drop (off + l.list.length))) (((c.toList.drop e.base).take cs.list.length).take off ++ (vs ++ ((c.toList.drop e.base).take cs.list.length).drop (off + l.list.length))) := VRs.app hA (VRs.app hr hB)
      have hlen2 : (cs.list.take off ++ (l.list ++ cs.list.drop (off + l.list.length))).length = cs.list.length := by
        simp only [List.length_append, List.length_take, List.length_drop]; omega
      have hcs : c.toList.length = c.size := Array.length_toList
      have hvl : vs.length ≤ cs.list.length := by omega
      show VRs σ (cs.list.take off ++ (l.list ++ cs.list.drop (off + l.list.length))) (List.take (cs.list.take off ++ (l.list ++ cs.list.drop (off + l.list.length))).length _)
      rw [hlen2, g3, put_list _ _ _ _ _ (by omega) (by omega), ← hlen]
      exact key
  | false => rw [cond_false] at hp; cases hp
theorem store_sound (R : HR ng n0 σ h w) {t : TypeId} {a x : AV} {av xv : Value} {h' : AH} (ha : VR σ a av) (hx : VR σ x xv) (hq : astore P h t a x = some h') :
    Eff P ng n0 σ h w undefA h' (do Instr.storeAt t av xv; pure .skip) := by
  unfold astore at hq
  split at hq
  · rename_i k off vs n hc hs
    rw [nbeq] at hq
    by_cases hcond : vs.length = n ∧ vs.all AV.one = true
    · obtain ⟨c1, c2⟩ := hcond
      simp only [c1, c2, decide_true, Bool.and_self, cond_true] at hq
      obtain ⟨e, he, rfl⟩ := ha
      cases hb : h.get k with
      | none => simp [hb] at hq
      | some bl =>
        split at hq
        · rename_i cs hcs
          rw [hcs] at hb; injection hb with hb; subst hb
          simp only [Option.map_eq_some_iff] at hq
          obtain ⟨cs', hp, rfl⟩ := hq
          have hr := VR.cells hx hc
          obtain ⟨w', g1, g2, g3, g4⟩ := putCells_sound (P := P) (l := .av vs) R he hcs hr c2 hp
          refine ⟨σ, w', .skip, ?_, Sg.le.refl σ, g2, g3, fun _ _ => rfl, Nat.le_refl _, .inr ⟨rfl, rfl⟩⟩
          have hsz : xv.cells.size = n := by rw [← Array.length_toList, ← VRs.length hr, c1]
          simp [Instr.storeAt, Instr.sureAddr, storeVar, rs hs, hsz, g1]
        · cases hq
    · have : (decide (vs.length = n) && vs.all AV.one) = false := by
        rw [Bool.eq_false_iff]; intro hx; simp at hx; exact hcond ⟨hx.1, by simpa using hx.2⟩
      rw [this] at hq
      cases hq
  · cases hq

/-- a block's object is written -/
theorem obj_sound (R : HR ng n0 σ h w) {k : Nat} {e : Loc} {b b' : ABlock} {o o' : Obj} (hk : σ k = some e) (hb : h.get k = some b) (hro : b.ro = false) (ho : w.heap[e.blk]? = some o) (hoc : o.isCells = false)
    (hb' : ∀ w' : World, w'.heap[e.blk]? = some o' → BR σ w' e b') :
    (setObj e.blk o').run P w = .ok () (w.putObj e.blk o') ∧ HR ng n0 σ (h.put k b') (w.putObj e.blk o') ∧ Below n0 w (w.putObj e.blk o') := by
  have hlt := R.lt k e hk
  have hex : Ex e.blk w (w.putObj e.blk o') := ⟨by simp [World.putObj], fun x hx => World.putObj_heap_other hx, rfl, rfl, rfl⟩
  refine ⟨?_, R.write hk hb hro hex (hb' _ (World.putObj_heap_same hlt)), hex.below (R.own k e b hk hb hro)⟩
  cases o <;> simp [Obj.isCells] at hoc <;> simp [setObj, Sem.run, ho, World.putObj]

theorem setEntry_sound {k v : AV} {kv vv : Value} (hk : VR σ k kv) (hv : VR σ v vv) : ∀ {es : List (AV × AV × Nat)} {es' : List MapEntry} (i : Nat), ERs σ es es' → ERs σ (setEntry es i k v) (es'.modify i fun e => { e with key := kv, val := vv })
  | [], [], i, _ => by cases i <;> trivial
  | [], _ :: _, _, r => r.elim
  | _ :: _, [], _, r => r.elim
  | e :: es, e' :: es', 0, r => ⟨⟨hk, hv, r.1.2.2⟩, r.2⟩
  | e :: es, e' :: es', i + 1, r => ⟨r.1, setEntry_sound hk hv i r.2⟩
theorem ERs.app {a b : List (AV × AV × Nat)} : ∀ {v : List MapEntry} {u : List MapEntry}, ERs σ a v → ERs σ b u → ERs σ (a ++ b) (v ++ u) := by
  induction a with
  | nil => intro v u h1 h2; cases v with
    | nil => exact h2
    | cons _ _ => exact h1.elim
  | cons x a ih => intro v u h1 h2; cases v with
    | nil => exact h1.elim
    | cons y v => exact ⟨h1.1, ih h1.2 h2⟩
theorem ERs.get {es : List (AV × AV × Nat)} : ∀ {es' : List MapEntry}, ERs σ es es' → ∀ (i : Nat) e, es[i]? = some e → ∃ e', es'[i]? = some e' ∧ ER σ e e' := by
  induction es with
  | nil => intro _ _ i e he; simp at he
  | cons x es ih =>
    intro es' hr i e he
    cases es' with
    | nil => exact hr.elim
    | cons x' es' =>
      cases i with
      | zero => simp at he; subst he; exact ⟨x', by simp, hr.1⟩
      | succ i => simpa using ih hr.2 i e (by simpa using he)

theorem sameBits_of {x y : AV} {a b : Value} (hx : VR σ x a) (hy : VR σ y b) (hs : keySame h x y = some true) (n : Nat) : Instr.sameBits n b a = true := by
  cases x <;> cases y <;> simp only [keySame] at hs <;> try (cases hs; done)
  · obtain rfl := hx; obtain rfl := hy
    rw [ikBeq_iff, Bool.cond_decide] at hs
    split at hs
    · rename_i hk
      injection hs with hs
      rw [intBeq_iff] at hs
      have := eq_of_beq hs
      subst hk; subst this
      cases n <;> simp [Instr.sameBits]
    · cases hs
  · obtain ⟨rfl, h1⟩ := hx; obtain ⟨rfl, h2⟩ := hy
    injection hs with hs
    rw [Bs.beq_nats] at hs
    have := (natsBeq_iff _ _).1 hs
    rw [this]
    cases n <;> simp [Instr.sameBits, dataBeq]
  · unfold ptrSame at hs
    rw [nbeq, Bool.cond_decide] at hs
    split at hs
    · rename_i hk
      subst hk
      injection hs with hs
      rw [nbeq, decide_eq_true_eq] at hs
      subst hs
      obtain ⟨e, he, rfl⟩ := hx
      obtain ⟨e', he', rfl⟩ := hy
      rw [he] at he'; injection he' with he'; subst he'
      cases n <;> simp [Instr.sameBits]
    · split at hs
      · generalize hc : ((!_ && _) || (!_ && _)) = c at hs
        cases c <;> simp at hs
      · cases hs

theorem mapUpdate_sound (R : HR ng n0 σ h w) {t : TypeId} {m k v : AV} {mv kv vv : Value} {h' : AH} (hm : VR σ m mv) (hk : VR σ k kv) (hv : VR σ v vv) (hq : amapUpdate P h t m k v = some h') :
    Eff P ng n0 σ h w undefA h' (do Instr.mapUpdate t mv kv vv; pure .skip) := by
  unfold amapUpdate at hq
  split at hq
  · rename_i key elem r hu
    obtain ⟨e, he, rfl⟩ := hm
    cases hf : keyFits P key k with
    | false => simp [hf] at hq
    | true =>
      simp only [hf, cond_true] at hq
      obtain ⟨d, hd1, hd2, hd3⟩ := fits_split hf
      cases hb : h.get r with
      | none => simp [hb] at hq
      | some bl =>
        cases bl <;> simp only [hb] at hq <;> try (cases hq; done)
        rename_i es clock
        obtain ⟨es', hw, hr⟩ := R.blk r e _ he hb
        cases hfd : afind h k es 0 with
        | none => simp [hfd] at hq
        | some res =>
          obtain ⟨r', hfk, g2⟩ := findKey_sound (P := P) R hf hk es es'.toList res hr hfd
          have hget : (getObj e.blk).run P w = .ok (.map es' clock) w := by simp [getObj, Sem.run, hw]
          cases res with
          | some jv =>
            obtain ⟨j, x1⟩ := jv
            cases r' with
            | none => exact g2.elim
            | some jv' =>
              obtain ⟨j', v'⟩ := jv'
              obtain ⟨rfl, _, _, en, hen, _, hks⟩ := g2
              simp only [hfd] at hq
              injection hq with hq; subst hq
              simp only [Nat.sub_zero] at hen
              obtain ⟨en', hen', her⟩ := ERs.get hr j en hen
              have hsb := sameBits_of hk her.1 hks 10000
              have hgk : ((es'[j]?).map (·.key)).getD kv = en'.key := by
                rw [← Array.getElem?_toList, hen']; rfl
              have hob := obj_sound (P := P) R (b' := .map (setEntry es j k v) clock) (o' := .map (es'.modify j fun e => { e with key := kv, val := vv }) clock) he hb rfl hw rfl (fun w' hw' => ⟨_, hw', by rw [Array.toList_modify]; exact setEntry_sound hk hv j hr⟩)
              refine ⟨σ, _, .skip, ?_, Sg.le.refl σ, hob.2.1, hob.2.2, fun _ _ => rfl, Nat.le_refl _, .inr ⟨rfl, rfl⟩⟩
              simp only [Instr.mapUpdate, Sem.run_bind, ru hu, Result.andThen_ok, hget, checkKey_run hd1 hd2, hfk, hgk, Instr.keyThatStays, hsb, if_true, Sem.run_pure, hob.1]
          | none =>
            cases r' with
            | some _ => exact g2.elim
            | none =>
              simp only [hfd] at hq
              injection hq with hq; subst hq
              have hob := obj_sound (P := P) R (b' := .map (es ++ [(k, v, clock)]) (clock + 1)) (o' := .map (es'.push { key := kv, val := vv, born := clock }) (clock + 1)) he hb rfl hw rfl (fun w' hw' => ⟨_, hw', by rw [Array.toList_push]; exact ERs.app hr ⟨⟨hk, hv, rfl⟩, trivial⟩⟩)
              refine ⟨σ, _, .skip, ?_, Sg.le.refl σ, hob.2.1, hob.2.2, fun _ _ => rfl, Nat.le_refl _, .inr ⟨rfl, rfl⟩⟩
              simp only [Instr.mapUpdate, Sem.run_bind, ru hu, Result.andThen_ok, hget, checkKey_run hd1 hd2, hfk, Sem.run_pure, hob.1]
  · cases hq
end
end Go.Proofs.YtfmopmjgohopeaaGreatDoor.Ev

/-
  The abstract machine: ranges over maps, append.
-/
set_option linter.unusedVariables false
set_option linter.unusedSimpArgs false
set_option linter.constructorNameAsVariable false
namespace Go.Proofs.YtfmopmjgohopeaaGreatDoor.Ev
open Go Go.RowKit

section
variable {P : Program} {ng n0 : Nat} {σ : Sg} {h : AH} {w : World}

theorem new_eff (R : HR ng n0 σ h w) {b : ABlock} {o : Obj} {e : Loc} {w' : World} {v : AV} {u : Value} {s : Sem Next} (hs : s.run P w = .ok (.value u) w') (hp : Push o w w') (he : e.blk = w.heap.size)
    (hb : BR (σ.put h.next e) w' e b) (hv : VR (σ.put h.next e) v u) : Eff P ng n0 σ h w v (h.new b) s := by
  refine ⟨σ.put h.next e, w', .value u, hs, Sg.le_put (R.fresh _ (Nat.le_refl _)), R.new hb hp he, hp.below R.big, fun k hk => Sg.put_ne σ e (by omega), Nat.le_succ _, .inl ⟨u, rfl, hv⟩⟩

theorem range_sound (R : HR ng n0 σ h w) {t : TypeId} {x : AV} {xv : Value} {b : ABlock} (hx : VR σ x xv) (hq : arange P h t x = some b) :
    Eff P ng n0 σ h w (.ptr h.next 0) (h.new b) (do pure (.value (← Instr.range t xv))) := by
  unfold arange at hq
  split at hq
  · rename_i s hu
    obtain ⟨rfl, hs⟩ := hx
    injection hq with hq; subst hq
    exact new_eff R (o := .stringIter (mkS s.list) 0) (e := ⟨w.heap.size, 0, 0⟩) (u := .pointer (some ⟨w.heap.size, 0, none⟩)) (by simp [Instr.range, ru hu]) (Push.new _ _) rfl ⟨rfl, by simp⟩ ⟨_, Sg.put_same _ _ _, rfl⟩
  · rename_i a c m hu
    obtain ⟨e, he, rfl⟩ := hx
    cases hb : h.get m with
    | none => simp [hb] at hq
    | some bl =>
      cases bl <;> simp only [hb] at hq <;> try (cases hq; done)
      rename_i es clock
      injection hq with hq; subst hq
      obtain ⟨es', hw, hr⟩ := R.blk m e _ he hb
      have hle : σ.le (σ.put h.next ⟨w.heap.size, 0, 0⟩) := Sg.le_put (R.fresh _ (Nat.le_refl _))
      exact new_eff R (o := .mapIter (some e.blk) clock #[] clock) (e := ⟨w.heap.size, 0, 0⟩) (u := .pointer (some ⟨w.heap.size, 0, none⟩)) (by simp [Instr.range, ru hu, getObj, Sem.run, hw]) (Push.new _ _) rfl ⟨rfl, e, hle _ _ he, by simp⟩ ⟨_, Sg.put_same _ _ _, rfl⟩
  · cases hq

theorem hasNat_eq (l : List Nat) (n : Nat) : hasNat l n = l.toArray.contains n := by
  unfold hasNat
  induction l with
  | nil => simp
  | cons a l ih =>
    simp only [List.any_cons, ih, nbeq]
    simp only [List.contains_toArray, List.contains_cons]
    congr 1
theorem filter_rel (seen : List Nat) : ∀ {es : List (AV × AV × Nat)} {es' : List MapEntry}, ERs σ es es' → ERs σ (es.filter fun e => !hasNat seen e.2.2) (es'.filter fun e => !seen.toArray.contains e.born)
  | [], [], _ => trivial
  | [], _ :: _, r => r.elim
  | _ :: _, [], r => r.elim
  | e :: es, e' :: es', r => by
    have hb : e'.born = e.2.2 := r.1.2.2
    rw [List.filter_cons, List.filter_cons, hb, ← hasNat_eq]
    by_cases hc : hasNat seen e.2.2 = true
    · simp only [hc]; exact filter_rel seen r.2
    · simp only [hc]; exact ⟨r.1, filter_rel seen r.2⟩
theorem any_rel (last : Nat) : ∀ {es : List (AV × AV × Nat)} {es' : List MapEntry}, ERs σ es es' → es.any (fun e => Nat.blt e.2.2 last) = true → es'.all (fun e => decide (e.born ≥ last)) = false ∧ es' ≠ []
  | [], [], _, h => by simp at h
  | [], _ :: _, r, _ => r.elim
  | _ :: _, [], r, _ => r.elim
  | e :: es, e' :: es', r, h => by
    refine ⟨?_, by simp⟩
    have hb : e'.born = e.2.2 := r.1.2.2
    simp only [List.any_cons, Bool.or_eq_true] at h
    rw [nblt, decide_eq_true_eq] at h
    simp only [List.all_cons, Bool.and_eq_false_iff, decide_eq_false_iff_not]
    rcases h with h | h
    · left; omega
    · right; exact (any_rel last r.2 h).1

theorem ERs.nil_eq : ∀ {l : List MapEntry}, ERs σ [] l → l = []
  | [], _ => rfl
  | _ :: _, r => r.elim
theorem ERs.single {e : AV × AV × Nat} : ∀ {l : List MapEntry}, ERs σ [e] l → ∃ e', l = [e'] ∧ ER σ e e'
  | [], r => r.elim
  | [e'], r => ⟨e', rfl, r.1⟩
  | _ :: _ :: _, r => r.2.elim

theorem next_sound (R : HR ng n0 σ h w) {ty : TypeId} {x v : AV} {xv : Value} {h' : AH} (hx : VR σ x xv) (hq : anext h x = some (v, h')) :
    Eff P ng n0 σ h w v h' (do pure (.value (← Instr.next xv false ty))) := by
  unfold anext at hq
  split at hq
  · rename_i k
    obtain ⟨e, he, rfl⟩ := hx
    cases hb : h.get k with
    | none => simp [hb] at hq
    | some bl =>
      cases bl <;> simp only [hb] at hq <;> try (cases hq; done)
      rename_i m since seen last
      obtain ⟨hbase, e', he', hw⟩ := R.blk k e _ he hb
      cases hm : h.get m with
      | none => simp [hm] at hq
      | some bm =>
        cases bm <;> simp only [hm] at hq <;> try (cases hq; done)
        rename_i es clock
        obtain ⟨es', hw', hr⟩ := R.blk m e' _ he' hm
        have hfil := filter_rel seen hr
        have hleft : (es'.filter fun e => !seen.toArray.contains e.born).toList = es'.toList.filter fun e => !seen.toArray.contains e.born := Array.toList_filter ..
        have hg1 : (getObj e.blk).run P w = .ok (.mapIter (some e'.blk) since seen.toArray last) w := by simp [getObj, Sem.run, hw]
        have hg2 : (getObj e'.blk).run P w = .ok (.map es' clock) w := by simp [getObj, Sem.run, hw']
        have over : es.filter (fun e => !hasNat seen e.2.2) = [] → (seen = [] ∨ es.any (fun e => Nat.blt e.2.2 last) = true) → (Instr.next (.pointer (some (e.at 0))) false ty).run P w = .ok (.tuple #[.bool false]) w := fun h1 h2 => by
          rw [h1] at hfil
          have hnil : es'.filter (fun e => !seen.toArray.contains e.born) = #[] := by
            apply Array.ext'
            rw [hleft, ERs.nil_eq hfil]
          have hcond : (!seen.toArray.isEmpty && !es'.isEmpty && es'.all (fun e => decide (e.born ≥ last))) = false := by
            rcases h2 with rfl | h2
            · simp
            · have := (any_rel last hr h2).1
              rw [Array.all_toList] at this
              simp [this]
          simp only [Instr.next, Loc.at, hbase, Nat.add_zero, Sem.run_bind, hg1, Result.andThen_ok, hg2, hcond, Bool.false_eq_true, if_false, hnil]
          simp [Question.forced]
        have one : ∀ en, es.filter (fun e => !hasNat seen e.2.2) = [en] → Nat.blt en.2.2 since = true → (seen = [] ∨ es.any (fun e => Nat.blt e.2.2 last) = true) →
            Eff P ng n0 σ h w (.tuple [.bool true, en.1, en.2.1]) (h.put k (.mapIter m since (seen ++ [en.2.2]) clock)) (do pure (.value (← Instr.next (.pointer (some (e.at 0))) false ty))) := fun en h1 h3 h2 => by
          rw [h1] at hfil
          obtain ⟨en', hen', her⟩ := ERs.single hfil
          have hone : es'.filter (fun e => !seen.toArray.contains e.born) = #[en'] := by
            apply Array.ext'; rw [hleft, hen']
          have hcond : (!seen.toArray.isEmpty && !es'.isEmpty && es'.all (fun e => decide (e.born ≥ last))) = false := by
            rcases h2 with rfl | h2
            · simp
            · have := (any_rel last hr h2).1
              rw [Array.all_toList] at this
              simp [this]
          have hlt : en'.born < since := by rw [her.2.2]; simpa [nblt] using h3
          have hob := obj_sound (P := P) R (b' := .mapIter m since (seen ++ [en.2.2]) clock) (o' := .mapIter (some e'.blk) since (seen.toArray.push en'.born) clock) he hb rfl hw rfl (fun w' hw2 => ⟨hbase, e', he', by rw [hw2, her.2.2]; simp⟩)
          refine ⟨σ, _, .value (.tuple #[.bool true, en'.key, en'.val]), ?_, Sg.le.refl σ, hob.2.1, hob.2.2, fun _ _ => rfl, Nat.le_refl _, .inl ⟨_, rfl, _, rfl, rfl, her.1, her.2.1, trivial⟩⟩
          have hn1 : ¬ since ≤ en'.born := by omega
          simp only [Instr.next, Loc.at, hbase, Nat.add_zero, Sem.run_bind, hg1, Result.andThen_ok, hg2, hcond, Bool.false_eq_true, if_false, hone]
          have hob1 := hob.1
          rw [show seen.toArray.push en'.born = (seen ++ [en'.born]).toArray by simp] at hob1
          simp [Question.forced, hlt, hn1, hob1]
        split at hq
        · rename_i h1
          injection hq with hq; injection hq with e1 e2; subst e1; subst e2
          exact ⟨σ, w, .value (.tuple #[.bool false]), by simp [over h1 (.inl rfl)], Sg.le.refl σ, R, Below.refl _ _, fun _ _ => rfl, Nat.le_refl _, .inl ⟨.tuple #[.bool false], rfl, #[.bool false], rfl, rfl, trivial⟩⟩
        · rename_i en h1
          cases hlt : Nat.blt en.2.2 since with
          | false => simp [hlt] at hq
          | true =>
            simp only [hlt, cond_true] at hq
            injection hq with hq; injection hq with e1 e2; subst e1; subst e2
            exact one en h1 hlt (.inl rfl)
        · rename_i s1 s2 h1
          cases ha : es.any (fun e => Nat.blt e.2.2 last) with
          | false => simp [ha] at hq
          | true =>
            simp only [ha, cond_true] at hq
            injection hq with hq; injection hq with e1 e2; subst e1; subst e2
            exact ⟨σ, w, .value (.tuple #[.bool false]), by simp [over h1 (.inr ha)], Sg.le.refl σ, R, Below.refl _ _, fun _ _ => rfl, Nat.le_refl _, .inl ⟨.tuple #[.bool false], rfl, #[.bool false], rfl, rfl, trivial⟩⟩
        · rename_i s1 s2 en h1
          cases ha : (es.any (fun e => Nat.blt e.2.2 last) && Nat.blt en.2.2 since) with
          | false => simp [ha] at hq
          | true =>
            simp only [ha, cond_true] at hq
            injection hq with hq; injection hq with e1 e2; subst e1; subst e2
            rw [Bool.and_eq_true] at ha
            exact one en h1 ha.2 (.inr ha.1)
        · cases hq
  · cases hq

/-! ### append -/
theorem firstCells_run (R : HR ng n0 σ h w) {size n : Nat} {x : AV} {xv : Value} {vs : Cs} (hx : VR σ x xv) (hq : appended h size x = some (n, vs)) :
    ∃ c : Array Value, (Builtin.lenOf xv).run P w = .ok n w ∧ (Builtin.firstCells size n xv).run P w = .ok c w ∧ VRs σ vs.list c.toList ∧ vs.list.all AV.one = true ∧ vs.list.length = n * size := by
  unfold appended at hq
  split at hq
  · rename_i l c0
    obtain ⟨rfl, _⟩ := hx
    rw [nbeq, Bool.cond_decide] at hq
    split at hq
    · rename_i h0
      injection hq with hq; injection hq with e1 e2; subst e1; subst e2
      exact ⟨#[], by simp [Builtin.lenOf, h0], by simp [Builtin.firstCells], trivial, rfl, by simp [Cs.list]⟩
    · cases hq
  · obtain ⟨a, c, rfl, _⟩ := hx
    injection hq with hq; injection hq with e1 e2; subst e1; subst e2
    exact ⟨#[], by simp [Builtin.lenOf], by simp [Builtin.firstCells, loadCells, loadCellsFrom], trivial, rfl, by simp [Cs.list]⟩
  · rename_i k off l cap
    obtain ⟨e, c, he, rfl, _⟩ := hx
    rw [nbeq, Bool.cond_decide] at hq
    split at hq
    · rename_i h0
      injection hq with hq; injection hq with e1 e2; subst e1; subst e2
      exact ⟨#[], by simp [Builtin.lenOf, h0], by simp [Builtin.firstCells, loadCells, loadCellsFrom], trivial, rfl, by simp [Cs.list]⟩
    · cases hb : h.get k with
      | none => simp [hb] at hq
      | some bl =>
        cases bl <;> simp only [hb] at hq <;> try (cases hq; done)
        rename_i ro cs
        rw [nbeq] at hq
        cases hc : (decide ((cs.sub off (l * size)).len = l * size) && (cs.sub off (l * size)).one) with
        | false => rw [hc] at hq; cases hq
        | true =>
          rw [hc, cond_true] at hq
          rw [Bool.and_eq_true, decide_eq_true_eq, Cs.list_one, Cs.list_len, Cs.list_sub] at hc
          injection hq with hq; injection hq with e1 e2; subst e1; subst e2
          rw [Cs.list_sub]
          obtain ⟨vs, g1, g2, g3⟩ := br_cells (P := P) (R.blk k e _ he hb) hc.1
          exact ⟨vs.toArray, by simp [Builtin.lenOf], by simp [Builtin.firstCells, g3], by simpa using g2, hc.2, hc.1⟩
  · rename_i s
    obtain ⟨rfl, hs⟩ := hx
    rw [nbeq, Bool.cond_decide] at hq
    split at hq
    · rename_i h1
      injection hq with hq; injection hq with e1 e2; subst e1; subst e2; subst h1
      refine ⟨((mkS s.list).extract 0 s.n).data.map fun b => .int .u8 b.toNat, by simp [Builtin.lenOf, mkS_size, Bs.list_len], by simp [Builtin.firstCells], ?_, ?_, by simp [Cs.list, Bs.list_len]⟩
      · have : (mkS s.list).extract 0 s.n = mkS s.list := by
          unfold mkS; rw [ByteArray.extract_mk, Nat.sub_zero, List.drop_zero, List.take_of_length_le (by simp [Bs.list_len])]
        rw [this]
        show VRs σ (s.list.map byteA) ((s.list.map UInt8.ofNat).toArray.map fun b => Value.int .u8 b.toNat).toList
        rw [Array.toList_map, List.toList_toArray, List.map_map]
        refine VRs.map _ _ _ fun b hb => ?_
        have := hs b hb
        simp only [byteA, VR, Function.comp, UInt8.toNat_ofNat_of_lt' this]; rfl
      · exact bytes_one _
    · cases hq
  · cases hq
end
end Go.Proofs.YtfmopmjgohopeaaGreatDoor.Ev

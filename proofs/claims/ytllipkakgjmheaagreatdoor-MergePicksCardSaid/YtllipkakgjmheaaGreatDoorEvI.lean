/-
  The abstract machine's operations that read: all together ('quiet_sound').
-/
import Derived.Test.YtllipkakgjmheaaGreatDoorEvH
set_option linter.unusedVariables false
set_option linter.unusedSimpArgs false
set_option linter.constructorNameAsVariable false
namespace Go.Proofs.YtllipkakgjmheaaGreatDoor.Ev
open Go Go.RowKit

section
variable {P : Program} {ng n0 : Nat} {σ : Sg} {h : AH} {w : World}

theorem typeAssert_sound {x v : AV} {a : Value} {xt t : TypeId} {ok : Bool} (hx : VR σ x a) (hq : atypeAssert P x t ok = some v) :
    ∃ u, (Instr.typeAssert a xt t ok).run P w = .ok u w ∧ VR σ v u := by
  have fails : ∀ (s d : Option TypeId) (m : String), ok = true → (match P.info? t with
      | some i => match i.zero with | some z => some (AV.tuple [AV.ofValue z, .bool false]) | none => none
      | none => none) = some v → ∃ u, ((do
        if ok then pure (.tuple #[← zeroValue t, .bool false])
        else runtimePanic (.typeAssertion s d t m) : Sem Value)).run P w = .ok u w ∧ VR σ v u := fun s d m ho hv => by
    cases hi : P.info? t with
    | none => simp [hi] at hv
    | some i => cases hz : i.zero with
      | none => simp [hi, hz] at hv
      | some z =>
        simp only [hi, hz] at hv
        injection hv with hv; subst hv; subst ho
        exact ⟨.tuple #[z, .bool false], by simp [zeroValue, ri hi, hz], _, rfl, VR.ofValue σ z, rfl, trivial⟩
  unfold atypeAssert at hq
  split at hq
  · cases hq
  · rename_i d hd hu
    obtain ⟨rfl, _⟩ := hx
    cases ok with
    | false => cases hq
    | true =>
      obtain ⟨u, h1, h2⟩ := fails (some xt) none "" rfl hq
      refine ⟨u, ?_, h2⟩
      rw [← h1]
      cases d <;> first | (exact (hd _ rfl).elim) | (simp [Instr.typeAssert, ru hu]; done)
  · rename_i d tt y hd hu
    obtain ⟨z, rfl, hz⟩ := hx
    rw [nbeq, Bool.cond_decide] at hq
    split at hq
    · rename_i he
      subst he
      injection hq with hq; subst hq
      refine ⟨if ok then .tuple #[z, .bool true] else z, ?_, ?_⟩
      · cases ok <;> cases d <;> first | (exact (hd _ rfl).elim) | (simp [Instr.typeAssert, ru hu]; done)
      · cases ok
        · exact hz
        · exact ⟨_, rfl, hz, rfl, trivial⟩
    · rename_i hne
      cases ok with
      | false => cases hq
      | true =>
        obtain ⟨u, h1, h2⟩ := fails (some xt) (some tt) "" rfl hq
        refine ⟨u, ?_, h2⟩
        rw [← h1]
        cases d <;> first | (exact (hd _ rfl).elim) | (simp [Instr.typeAssert, ru hu, hne]; done)
  · cases hq

theorem len_sound (R : HR ng n0 σ h w) {t ty : TypeId} {ats : Array TypeId} {as : Array Value} {x : AV} {a : Value} {n : Nat} (hat : ats[0]? = some t) (has' : as[0]? = some a) (hx : VR σ x a) (hq : alen P h t x = some n) :
    (Builtin.len_ ats ty as).run P w = .ok (.int .i64 (n : Int)) w := by
  unfold alen at hq
  cases hu : P.underlying t with
  | none => simp [hu] at hq
  | some d =>
    simp only [hu] at hq
    unfold alenD at hq
    split at hq
    · obtain ⟨rfl, _⟩ := hx
      injection hq with hq
      simp [Builtin.len_, hat, has', ru hu, goInt, mkS_size, hq]
    · obtain ⟨e, c, he, rfl, _⟩ := hx
      injection hq with hq
      simp [Builtin.len_, hat, has', ru hu, goInt, hq]
    · obtain ⟨rfl, _⟩ := hx
      injection hq with hq
      simp [Builtin.len_, hat, has', ru hu, goInt, hq]
    · obtain ⟨ad, c, rfl, _⟩ := hx
      injection hq with hq
      simp [Builtin.len_, hat, has', ru hu, goInt, ← hq]
    · obtain ⟨rfl, _⟩ := hx
      injection hq with hq
      simp [Builtin.len_, hat, has', ru hu, goInt, ← hq]
    · rename_i m
      obtain ⟨e, he, rfl⟩ := hx
      cases hb : h.get m with
      | none => simp [hb] at hq
      | some bl =>
        cases bl <;> simp only [hb] at hq <;> try (cases hq; done)
        obtain ⟨es', hw, hr⟩ := R.blk m e _ he hb
        injection hq with hq
        have hl := ERs.length hr
        simp [Builtin.len_, hat, has', ru hu, goInt, getObj, Sem.run, hw, ← hq, hl]
    · cases hq
theorem cap_sound {t ty : TypeId} {ats : Array TypeId} {as : Array Value} {x : AV} {a : Value} {n : Nat} (hat : ats[0]? = some t) (has' : as[0]? = some a) (hx : VR σ x a) (hq : acap P t x = some n) :
    (Builtin.cap_ ats ty as).run P w = .ok (.int .i64 (n : Int)) w := by
  unfold acap at hq
  cases hu : P.underlying t with
  | none => simp [hu] at hq
  | some d =>
    simp only [hu] at hq
    unfold acapD at hq
    split at hq
    · obtain ⟨e, c, he, rfl, hc⟩ := hx
      injection hq with hq
      have hc' : c = _ := hc
      simp [Builtin.cap_, hat, has', ru hu, goInt, hc', hq]
    · obtain ⟨rfl, _⟩ := hx
      injection hq with hq
      simp [Builtin.cap_, hat, has', ru hu, goInt, hq]
    · obtain ⟨ad, c, rfl, hc⟩ := hx
      injection hq with hq
      simp [Builtin.cap_, hat, has', ru hu, goInt, hc _ rfl, hq]
    · cases hq

theorem minmax_sound {mx : Bool} {T : Operand → AV} {ρ : Operand → Value} {l : List Operand} {v : AV} {ats : Array TypeId} {ty : TypeId} (hρ : ∀ x ∈ l, VR σ (T x) (ρ x)) (hq : aminmax mx (l.map T) = some v) :
    ∃ u, ((if mx then Builtin.max_ ats ty (l.map ρ).toArray else Builtin.min_ ats ty (l.map ρ).toArray)).run P w = .ok u w ∧ VR σ v u := by
  match l, hρ, hq with
  | [], _, hq => simp [aminmax] at hq
  | [x], hρ, hq =>
    have hx := hρ x (List.mem_cons_self ..)
    generalize hTx : T x = a at *
    simp only [List.map_cons, List.map_nil, hTx] at hq
    cases a <;> simp only [aminmax] at hq <;> try (cases hq; done)
    injection hq with hq; subst hq
    obtain hx := hx
    refine ⟨ρ x, ?_, hx⟩
    cases mx <;> simp [Builtin.max_, Builtin.min_]
  | [x, y], hρ, hq =>
    have hx := hρ x (List.mem_cons_self ..)
    have hy := hρ y (List.mem_cons_of_mem _ (List.mem_cons_self ..))
    generalize hTx : T x = a at *
    generalize hTy : T y = b at *
    simp only [List.map_cons, List.map_nil, hTx, hTy] at hq
    cases a <;> cases b <;> simp only [aminmax] at hq <;> try (cases hq; done)
    rename_i j m k n
    have hx' : ρ x = .int j m := hx
    have hy' : ρ y = .int k n := hy
    cases hs : semVal ((bif mx then Builtin.max2 else Builtin.min2) (.int j m) (.int k n)) with
    | none => rw [hs] at hq; cases hq
    | some r =>
      rw [hs] at hq
      have hrun := semVal_run (P := P) (w := w) hs
      refine ⟨r, ?_, ?_⟩
      · cases mx <;> simp only [cond_true, cond_false] at hrun <;> simp [Builtin.max_, Builtin.min_, hx', hy', hrun]
      · cases r <;> simp only [] at hq <;> first | (cases hq; done) | (injection hq with hq; subst hq; rfl)
  | _ :: _ :: _ :: _, _, hq =>
    simp only [List.map_cons] at hq
    unfold aminmax at hq
    split at hq <;> simp_all

theorem find_born {es : List (AV × AV × Nat)} {es' : List MapEntry} (stamp : Nat) : ERs σ es es' → ∀ e, es.find? (fun e => Nat.beq e.2.2 stamp) = some e → ∃ e', es'.find? (·.born == stamp) = some e' ∧ VR σ e.1 e'.key ∧ VR σ e.2.1 e'.val := by
  induction es generalizing es' with
  | nil => intro _ e he; simp at he
  | cons x es ih =>
    intro hr e he
    cases es' with
    | nil => exact hr.elim
    | cons x' es' =>
      obtain ⟨⟨h1, h2, h3⟩, hes⟩ := hr
      rw [List.find?_cons] at he ⊢
      by_cases hb : x.2.2 = stamp
      · have e1 : Nat.beq x.2.2 stamp = true := by simp [nbeq, hb]
        have e2 : (x'.born == stamp) = true := by simp [h3, hb]
        simp only [e1] at he
        injection he with he; subst he
        exact ⟨x', by simp only [e2], h1, h2⟩
      · have e1 : Nat.beq x.2.2 stamp = false := by simp [nbeq, hb]
        have e2 : (x'.born == stamp) = false := by simp [h3, hb]
        simp only [e1] at he
        simp only [e2]
        exact ih hes e he
theorem entry_sound (R : HR ng n0 σ h w) {x v : AV} {a : Value} (hx : VR σ x a) (hq : aentry h x = some v) : ∃ u, (Instr.entry a).run P w = .ok u w ∧ VR σ v u := by
  cases x <;> simp only [aentry] at hq <;> try (cases hq; done)
  rename_i k off
  cases off <;> simp only [] at hq <;> try (cases hq; done)
  obtain ⟨e, he, rfl⟩ := hx
  cases hb : h.get k with
  | none => simp [hb] at hq
  | some bl =>
    cases bl <;> simp only [hb] at hq <;> try (cases hq; done)
    rename_i m since seen stepped
    obtain ⟨hbase, e', he', hw⟩ := R.blk k e _ he hb
    cases hl : seen.getLast? with
    | none => simp [hl] at hq
    | some stamp =>
      cases hm : h.get m with
      | none => simp [hl, hm] at hq
      | some bm =>
        cases bm <;> simp only [hl, hm] at hq <;> try (cases hq; done)
        rename_i es clock
        obtain ⟨es', hw', hr⟩ := R.blk m e' _ he' hm
        rw [nbeq, Bool.cond_decide] at hq
        split at hq
        · rename_i hc
          cases hf : es.find? (fun e => Nat.beq e.2.2 stamp) with
          | none => simp [hf] at hq
          | some en =>
            simp only [hf] at hq
            injection hq with hq; subst hq
            obtain ⟨en', h1, h2, h3⟩ := find_born stamp hr en hf
            refine ⟨.tuple #[en'.key, en'.val], ?_, _, rfl, h2, h3, trivial⟩
            have hback : seen.toArray.back? = some stamp := by rw [List.back?_toArray]; exact hl
            have h1' : es'.find? (·.born == stamp) = some en' := by rw [← Array.find?_toList]; exact h1
            simp [Instr.entry, Loc.at, hbase, getObj, Sem.run, hw, hback, hw', hc, h1']
        · cases hq

theorem bytesOf_sound : ∀ {l : List AV} {vs : List Value} {s : List Nat}, VRs σ l vs → bytesOf l = some s → vs = (s.map fun (n : Nat) => (n : Int)).map (Value.int .u8) ∧ ∀ b ∈ s, b < 256
  | [], [], s, _, hq => by simp only [bytesOf] at hq; injection hq with hq; subst hq; exact ⟨rfl, fun _ h => by simp at h⟩
  | [], _ :: _, _, r, _ => r.elim
  | _ :: _, [], _, r, _ => r.elim
  | a :: l, v :: vs, s, r, hq => by
    unfold bytesOf at hq
    split at hq
    · rename_i heq; cases heq
    · rename_i n l' heq
      injection heq with h1 h2
      subst h1; subst h2
      rw [nblt, Bool.cond_decide] at hq
      split at hq
      · rename_i hn
        cases hb : bytesOf l with
        | none => simp [hb] at hq
        | some s' =>
          simp only [hb] at hq
          injection hq with hq; subst hq
          obtain ⟨h1, h2⟩ := bytesOf_sound r.2 hb
          have hv : v = .int .u8 (Int.ofNat n) := r.1
          refine ⟨by rw [h1, hv]; rfl, fun b hb' => ?_⟩
          rcases List.mem_cons.1 hb' with rfl | hb'
          · exact hn
          · exact h2 b hb'
      · cases hq
    · cases hq
theorem foldl_bytes : ∀ (s : List Nat) (acc : List UInt8), (s.map fun (n : Nat) => (n : Int)).foldl (fun (r : ByteArray) n => r.push (UInt8.ofNat n.toNat)) ⟨acc.toArray⟩ = ⟨(acc ++ s.map UInt8.ofNat).toArray⟩
  | [], acc => by simp
  | n :: s, acc => by
    simp only [List.map_cons, List.foldl_cons]
    have : (ByteArray.mk acc.toArray).push (UInt8.ofNat (n : Int).toNat) = ⟨(acc ++ [UInt8.ofNat n]).toArray⟩ := by
      simp [ByteArray.push]
    rw [this, foldl_bytes s]
    simp
theorem bytesToString_run {e : Loc} {off len c : Nat} {s : List Nat} (hrun : (loadCells (e.at off) len).run P w = .ok ((s.map fun (n : Nat) => (n : Int)).map (Value.int .u8)).toArray w) :
    (Conv.bytesToString (.slice (some (e.at off)) len c)).run P w = .ok (.string (mkS s)) w := by
  rw [run_bytesToString w _ _ _ _ hrun]
  have := foldl_bytes s []
  simp only [List.nil_append] at this
  have e0 : ByteArray.empty = ⟨([] : List UInt8).toArray⟩ := rfl
  rw [e0, this]; rfl

theorem convert_sound (R : HR ng n0 σ h w) {src dst : TypeId} {y : AV} {a : Value} {v : AV} (hx : VR σ y a) (hq : aconv P h src dst y = some v) :
    ∃ u, (convert src dst a).run P w = .ok u w ∧ VR σ v u := by
  unfold aconv at hq
  split at hq
  · rename_i d k k' n hs hd
    injection hq with hq; subst hq
    obtain rfl := hx
    exact ⟨.int k (k.wrap n), by simp [convert, ru hs, ru hd, Conv.intToInt], rfl⟩
  · rename_i e0 k off len cap hs hd
    obtain ⟨e, c, he, rfl, hc⟩ := hx
    split at hq
    · rename_i ro cs h1 h2
      rw [nbeq, Bool.cond_decide] at hq
      split at hq
      · rename_i hlen
        simp only [Option.map_eq_some_iff] at hq
        obtain ⟨s, hs', rfl⟩ := hq
        obtain ⟨vs, g1, g2, g3⟩ := br_cells (P := P) (R.blk k e _ he h2) hlen
        obtain ⟨g4, g5⟩ := bytesOf_sound g2 hs'
        rw [g4] at g3
        refine ⟨.string (mkS s), ?_, rfl, g5⟩
        have := bytesToString_run (c := c) g3
        simp [convert, ru hs, ru hd, ru h1, this]
      · cases hq
    · cases hq
  · rename_i e0 n1 n2 hs hd
    obtain ⟨rfl, _⟩ := hx
    cases hue : P.underlying e0 with
    | none => simp [hue] at hq
    | some de =>
      simp only [hue] at hq
      split at hq
      · rename_i h1
        injection h1 with h1; subst h1
        injection hq with hq; subst hq
        exact ⟨.string .empty, by simp [convert, ru hs, ru hd, ru hue, Conv.bytesToString], rfl, fun _ h => by simp at h⟩
      · cases hq
  · rename_i e0 cp hs hd
    obtain ⟨ad, c, rfl, _⟩ := hx
    cases hue : P.underlying e0 with
    | none => simp [hue] at hq
    | some de =>
      simp only [hue] at hq
      split at hq
      · rename_i h1
        injection h1 with h1; subst h1
        injection hq with hq; subst hq
        refine ⟨.string .empty, ?_, rfl, fun _ h => by simp at h⟩
        simp [convert, ru hs, ru hd, ru hue, Conv.bytesToString, loadCells, loadCellsFrom]
      · cases hq
  · rename_i d s hs hd
    injection hq with hq; subst hq
    obtain ⟨rfl, hs'⟩ := hx
    refine ⟨.string (mkS s), ?_, rfl, hs'⟩
    simp [convert, ru hs, ru hd]
  · cases hq

theorem field_sound {t : TypeId} {x v : AV} {a : Value} {f : Nat} (hx : VR σ x a) (hq : afield P t x f = some v) : ∃ u, (Instr.field t a f).run P w = .ok u w ∧ VR σ v u := by
  unfold afield at hq
  split at hq
  · rename_i fields cs hu
    obtain ⟨c, rfl, hr⟩ := hx
    cases hf : fields[f]? with
    | none => simp [hf] at hq
    | some fd =>
      simp only [hf] at hq
      obtain ⟨u, h1, h2⟩ := part_sound (P := P) (w := w) hr hq
      exact ⟨u, by simp [Instr.field, ru hu, hf, asAgg, h1], h2⟩
  · cases hq
theorem fieldAddr_sound {t : TypeId} {x v : AV} {a : Value} {f : Nat} (hx : VR σ x a) (hq : afieldAddr P t x f = some v) : ∃ u, (Instr.fieldAt t a f).run P w = .ok u w ∧ VR σ v u := by
  unfold afieldAddr at hq
  split at hq
  · rename_i fields k off hu
    obtain ⟨e, he, rfl⟩ := hx
    cases hf : fields[f]? with
    | none => simp [hf] at hq
    | some fd =>
      cases hs : sizeOf? P fd.type with
      | none => simp [hf, hs] at hq
      | some n =>
        cases n with
        | zero => simp [hf, hs] at hq
        | succ n =>
          simp only [hf, hs] at hq
          injection hq with hq; subst hq
          exact ⟨.pointer (some (e.at (off + fd.offset))), by simp [Instr.fieldAt, ru hu, hf, Instr.sureAddr, fieldPlace, rs hs, at_add], e, he, rfl⟩
  · cases hq

/-- **WHAT A READING OPERATION ANSWERS, THE MODEL's ANSWERS; the world stays.** -/
theorem quiet_sound (R : HR ng n0 σ h w) {T : Operand → AV} {ρ : Operand → Value} {o : Oper} {v : AV} (hρ : ∀ x ∈ o.op.operands, VR σ (T x) (ρ x)) (hq : aquiet P h T o.op = some v) :
    ∃ u, (execOp ρ o).run P w = .ok (.value u) w ∧ VR σ v u := by
  have lift : ∀ {s : Sem Value}, (∃ u, s.run P w = .ok u w ∧ VR σ v u) → ∃ u, ((do pure (.value (← s)) : Sem Next)).run P w = .ok (.value u) w ∧ VR σ v u := fun ⟨u, h1, h2⟩ => ⟨u, by simp [h1], h2⟩
  obtain ⟨dst, op, ty, pos, after, guard⟩ := o
  have omap : ∀ (x : Option Operand), (∀ y, x = some y → VR σ (T y) (ρ y)) → OVR σ (x.map T) (x.map ρ) := fun x hx => by
    cases x with
    | none => trivial
    | some y => exact hx y rfl
  cases op <;> simp only [aquiet] at hq <;> try (cases hq; done)
  case move x => injection hq with hq; subst hq; exact ⟨_, rfl, hρ x (by simp [Op.operands])⟩
  case assign x => injection hq with hq; subst hq; exact ⟨_, rfl, hρ x (by simp [Op.operands])⟩
  case pick c a b =>
    have hc := hρ c (by simp [Op.operands])
    have ha := hρ a (by simp [Op.operands])
    have hb := hρ b (by simp [Op.operands])
    generalize T c = tc at *
    cases tc <;> simp only [] at hq <;> try (cases hq; done)
    injection hq with hq; subst hq
    rename_i t
    have hc' : ρ c = .bool t := hc
    refine ⟨if t then ρ a else ρ b, by simp [execOp, hc', asBool], ?_⟩
    cases t <;> assumption
  case build t parts =>
    exact lift (build_sound (fun x hx => hρ x (by simpa [Op.operands] using hx)) hq)
  case load t a => exact lift (load_sound R (hρ a (by simp [Op.operands])) hq)
  case nilCheck x =>
    have hx := hρ x (by simp [Op.operands])
    generalize hTx : T x = tx at *
    cases tx <;> simp only [anilCheck] at hq <;> try (cases hq; done)
    all_goals (injection hq with hq; subst hq)
    · have hx' := hx; obtain ⟨e, he, hv⟩ := hx'; exact ⟨ρ x, by simp [execOp, hv], hx⟩
    · have hx' := hx; obtain ⟨x', y', hv, _⟩ := hx'; exact ⟨ρ x, by simp [execOp, hv], hx⟩
    · have hx' := hx; obtain ⟨e, he, hv⟩ := hx'; exact ⟨ρ x, by simp [execOp, hv], hx⟩
    · have hx' := hx; obtain ⟨y, hv, _⟩ := hx'; exact ⟨ρ x, by simp [execOp, hv], hx⟩
  case binOp b t x y yt => exact lift (binop_sound (yt := yt) (hρ x (by simp [Op.operands])) (hρ y (by simp [Op.operands])) hq)
  case unOp b t x => exact lift (un_sound (hρ x (by simp [Op.operands])) hq)
  case convert s d x => exact lift (convert_sound R (hρ x (by simp [Op.operands])) hq)
  case makeInterface t x =>
    have hx := hρ x (by simp [Op.operands])
    cases hu : P.underlying t with
    | none => simp [hu] at hq
    | some d =>
      have : (∀ ms, d ≠ .interface ms) ∧ v = .iface t (T x) := by
        cases d <;> simp only [hu] at hq <;> first | (cases hq; done) | (injection hq with hq; exact ⟨fun _ e => (by cases e), hq.symm⟩)
      obtain ⟨h1, rfl⟩ := this
      refine ⟨.iface t (ρ x), ?_, _, rfl, hx⟩
      cases d <;> first | (exact absurd rfl (h1 _)) | simp [execOp, Instr.makeInterface, ru hu]
  case makeFunc fn first cap =>
    cases fn <;> simp only [] at hq <;> try (cases hq; done)
    injection hq with hq; subst hq
    refine ⟨_, rfl, _, _, rfl, ?_, ?_⟩
    · rw [Array.toList_map]; exact VRs.map T ρ _ fun x hx => hρ x (by simp [Op.operands]; exact .inl (by simpa using hx))
    · rw [Array.toList_map]; exact VRs.map T ρ _ fun x hx => hρ x (by simp [Op.operands]; exact .inr (by simpa using hx))
  case slice t x lo hi mx =>
    exact lift (slice_sound (hρ x (by simp [Op.operands])) (omap lo fun y hy => hρ y (by simp [Op.operands, hy])) (omap hi fun y hy => hρ y (by simp [Op.operands, hy])) (omap mx fun y hy => hρ y (by simp [Op.operands, hy])) hq)
  case fieldAddr s x f => exact lift (fieldAddr_sound (hρ x (by simp [Op.operands])) hq)
  case field t x f => exact lift (field_sound (hρ x (by simp [Op.operands])) hq)
  case indexAddr t x i => exact lift (indexAddr_sound (hρ x (by simp [Op.operands])) (hρ i (by simp [Op.operands])) hq)
  case index t x i => exact lift (index_sound (hρ x (by simp [Op.operands])) (hρ i (by simp [Op.operands])) hq)
  case lookup t x k ok => exact lift (lookup_sound R (hρ x (by simp [Op.operands])) (hρ k (by simp [Op.operands])) hq)
  case entry x => exact lift (entry_sound R (hρ x (by simp [Op.operands])) hq)
  case typeAssert x xt t ok => exact lift (typeAssert_sound (hρ x (by simp [Op.operands])) hq)
  case extract x i =>
    have hx := hρ x (by simp [Op.operands])
    generalize T x = tx at *
    cases tx <;> simp only [] at hq <;> try (cases hq; done)
    obtain ⟨c, hc, hr⟩ := hx
    obtain ⟨u, h1, h2⟩ := VRs.get hr i v hq
    have h1' : c[i]? = some u := by simpa using h1
    exact lift (s := Instr.extract (ρ x) i) ⟨u, by simp [hc, Instr.extract, h1'], h2⟩
  case call c =>
    have hargs : ∀ x ∈ c.args.toList, VR σ (T x) (ρ x) := fun x hx => hρ x (by
      simp only [Op.operands, Call.operands, Array.mem_append]; exact .inr (by simpa using hx))
    have exec : ∀ b, c.callee = .builtin b → execOp ρ { dst, op := .call c, type := ty, pos, after, guard } = builtin b c.argTypes ty (c.args.map fun | .const _ => true | _ => false) (c.args.map ρ) := fun b hb => by
      simp only [execOp, resolve, hb]; rfl
    have arg0 : ∀ x l, c.args.toList = x :: l → (c.args.map ρ)[0]? = some (ρ x) := fun x l hl => by
      rw [Array.getElem?_map, ← Array.getElem?_toList, hl]; rfl
    cases hcal : c.callee with
    | value f => simp [hcal] at hq
    | invoke r n => simp [hcal] at hq
    | builtin b =>
      rw [exec b hcal]
      cases b <;> simp only [hcal] at hq <;> try (cases hq; done)
      case len =>
        cases hat : c.argTypes[0]? with
        | none => simp [hat] at hq
        | some t =>
          cases hl : c.args.toList with
          | nil => simp [hat, hl] at hq
          | cons x l =>
            cases l with
            | cons _ _ => simp [hat, hl] at hq
            | nil =>
              simp only [hat, hl, Option.map_eq_some_iff] at hq
              obtain ⟨n, hn, rfl⟩ := hq
              exact lift (s := Builtin.len_ c.argTypes ty (c.args.map ρ)) ⟨_, len_sound R hat (arg0 x [] hl) (hargs x (by simp [hl])) hn, rfl⟩
      case cap =>
        cases hat : c.argTypes[0]? with
        | none => simp [hat] at hq
        | some t =>
          cases hl : c.args.toList with
          | nil => simp [hat, hl] at hq
          | cons x l =>
            cases l with
            | cons _ _ => simp [hat, hl] at hq
            | nil =>
              simp only [hat, hl, Option.map_eq_some_iff] at hq
              obtain ⟨n, hn, rfl⟩ := hq
              exact lift (s := Builtin.cap_ c.argTypes ty (c.args.map ρ)) ⟨_, cap_sound hat (arg0 x [] hl) (hargs x (by simp [hl])) hn, rfl⟩
      case min =>
        have := minmax_sound (P := P) (w := w) (mx := false) (ats := c.argTypes) (ty := ty) hargs hq
        exact lift (s := Builtin.min_ c.argTypes ty (c.args.map ρ)) (by simpa [← Array.toList_map] using this)
      case max =>
        have := minmax_sound (P := P) (w := w) (mx := true) (ats := c.argTypes) (ty := ty) hargs hq
        exact lift (s := Builtin.max_ c.argTypes ty (c.args.map ρ)) (by simpa [← Array.toList_map] using this)
end
end Go.Proofs.YtllipkakgjmheaaGreatDoor.Ev

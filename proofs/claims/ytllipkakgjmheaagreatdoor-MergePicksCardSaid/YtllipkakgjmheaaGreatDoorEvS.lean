/-
  The abstract machine: an operation answers; a function is entered.
-/
import Derived.Test.YtllipkakgjmheaaGreatDoorEvR
set_option linter.unusedVariables false
set_option linter.unusedSimpArgs false
set_option linter.constructorNameAsVariable false
namespace Go.Proofs.YtllipkakgjmheaaGreatDoor.Ev
open Go Go.RowKit

section
variable {P : Program} {ng n0 : Nat} {σ : Sg} {h : AH} {w : World}

theorem TmpR.wider {X X' : Nat → Prop} {T : Tr AV} {nt : Nat} {c : Array Value} (t : TmpR σ X T nt c) (hx : ∀ i, X i → X' i) : TmpR σ X' T nt c :=
  ⟨t.1, fun i a hn hg => t.2 i a (fun h => hn (hx i h)) hg⟩

theorem nextEff_spec {ops : Array Oper} {dm : Nat} : ∀ {L : List Nat} {i : Nat}, nextEff ops dm L = some i → i ∈ L ∧ has dm i = false ∧ ∀ j ∈ L, has dm j = false → j = i ∨ has (maskOf ops j) i = true
  | [], i, hq => by simp [nextEff] at hq
  | x :: L, i, hq => by
    unfold nextEff at hq
    cases hd : has dm x with
    | true =>
      rw [hd, cond_true] at hq
      obtain ⟨h1, h2, h3⟩ := nextEff_spec hq
      refine ⟨List.mem_cons_of_mem _ h1, h2, fun j hj hdj => ?_⟩
      rcases List.mem_cons.1 hj with rfl | hj
      · rw [hd] at hdj; cases hdj
      · exact h3 j hj hdj
    | false =>
      rw [hd, cond_false] at hq
      cases ha : L.all (fun j => has (maskOf ops j) x) with
      | false => rw [ha] at hq; cases hq
      | true =>
        rw [ha, cond_true] at hq
        injection hq with hq; subst hq
        refine ⟨List.mem_cons_self .., hd, fun j hj _ => ?_⟩
        rcases List.mem_cons.1 hj with rfl | hj
        · exact .inl rfl
        · exact .inr (List.all_eq_true.1 ha j hj)
theorem nextEff_none {ops : Array Oper} {dm : Nat} {L : List Nat} {i : Nat} (hq : nextEff ops dm L = some i) : ∃ j ∈ L, has dm j = false := ⟨i, (nextEff_spec hq).1, (nextEff_spec hq).2.1⟩

/-- the head of what is left is the next effect -/
theorem head_is {ops : Array Oper} {dm um ed nt : Nat} {T : Tr AV} {i j : Nat} {r : List Nat} {o : Oper} {pend : List (Nat × Nat)} (hc : RC P ops) (d : DrwR P ops dm um ed nt (i :: r) T pend) (ho : ops[i]? = some o) (he : isEff P o.op = true)
    (hq : nextEff ops dm (effs P ops.toList 0) = some j) : j = i := by
  obtain ⟨h1, h2, h3⟩ := nextEff_spec hq
  have hi : i ∈ effs P ops.toList 0 := mem_effs.2 ⟨i, o, by simpa using ho, (Nat.zero_add _).symm, he⟩
  have hdi : has dm i = false := by
    cases hx : has dm i with
    | false => rfl
    | true => exact ((d.eff i o ho he).2 hx (List.mem_cons_self ..)).elim
  rcases h3 i hi hdi with h | h
  · exact h.symm
  · have hj := mask_head hc.back d.sched j h
    obtain ⟨k, oj, h4, h5, h6⟩ := mem_effs.1 h1
    rw [Nat.zero_add] at h5; subst h5
    rw [(d.eff j oj (by simpa using h4) h6).1 hj] at h2; cases h2

theorem finish_sound {a a' : AFrame} {f : Frame} {p : List (Nat × Nat)} {v : AV} {u : Value} (r : FR P σ a f p) (he : AtEff P a.todo f.todo) (hq : AFrame.finish P a v = some a') (hv : VR σ v u) :
    FR P σ a' (f.finish u) p ∧ a'.ret = a.ret ∧ ∀ h, Rdy P ng a'.nt a'.tmps h a'.todo := by
  obtain ⟨afn, nt, T, at', ads, aret, adfd, ard⟩ := a
  obtain ⟨ffn, c, todo, defers, mode, kind, ro⟩ := f
  obtain ⟨r1, r2, r3, r4, r5, r6⟩ := r
  simp only at r1 r2 r3 r4 r5 r6 he
  unfold AFrame.finish at hq
  simp only at hq
  split at hq
  · rename_i ops i o rest k
    injection hq with hq; subst hq
    obtain ⟨k', e1, e2, e3, e4, e5⟩ := r2
    subst e1
    have hi : ops.toList[i]? = some o := by
      have : (ops.toList.drop i)[0]? = some o := by rw [← e2]; rfl
      simpa using this
    have hlt : i < ops.size := by
      have := (List.getElem?_eq_some_iff.1 hi).1; simpa using this
    have hr : (List.range ops.size).drop i = i :: (List.range ops.size).drop (i + 1) := by
      rw [List.drop_eq_getElem_cons (by simpa using hlt)]; simp
    have hrest : rest = ops.toList.drop (i + 1) := by
      rw [List.drop_eq_getElem_cons (by simpa using hlt)] at e2
      injection e2
    have ho : ops[i]? = some o := by simpa using hi
    have hfin : ({ fn := ffn, tmps := c, todo := .inRegion ops ((List.range ops.size).drop i) :: k', defers := defers, mode := mode, kind := kind, roundOf := ro } : Frame).finish u =
        { fn := ffn, tmps := (match o.dst with | some d => c.setIfInBounds d u | none => c), todo := .inRegion ops ((List.range ops.size).drop (i + 1)) :: k', defers := defers, mode := mode, kind := kind, roundOf := ro } := by
      simp only [Frame.finish, hr, ho, Option.bind_some]
      cases o.dst <;> rfl
    rw [hfin]
    exact ⟨⟨r1, ⟨k', rfl, hrest, e3, tmp_put e4 hv, e5⟩, r3, r4, r5, r6⟩, rfl, fun _ => trivial⟩
  · rename_i ops dm um ed k
    cases hn : nextEff ops dm (effs P ops.toList 0) with
    | none => simp [hn] at hq
    | some j =>
      cases hoj : ops[j]? with
      | none => simp [hn, hoj] at hq
      | some oj =>
        simp only [hn, hoj] at hq
        injection hq with hq; subst hq
        obtain ⟨l, k', e1, e3, hc, d, t⟩ := r2
        subst e1
        cases l with
        | nil => exact he.elim
        | cons i r =>
          obtain ⟨o, ho, heff⟩ := he
          have hji := head_is hc d ho heff hn
          subst hji
          have hooj : oj = o := by rw [ho] at hoj; injection hoj with hoj; exact hoj.symm
          subst hooj
          refine ⟨⟨r1, ?_, r3, r4, r5, r6⟩, rfl, fun _ => trivial⟩
          simp only [Frame.finish, ho, Option.bind_some]
          refine ⟨r, k', rfl, e3, hc, ⟨d.sched.tail hc.back, fun x ox hx hex => ?_, fun x hx hxr => ?_, fun x ox hx hex hxr => ?_, fun x ox s v' mk kk hxr hx hex hal hed hs hsn hg hm => ?_⟩, (tmp_put t hv).wider fun s hs => ?_⟩
          · rw [has_lor, has_pow]
            by_cases hxj : x = j
            · subst hxj
              exact ⟨fun _ => by simp, fun _ => (List.nodup_cons.1 d.sched.nodup).1⟩
            · have := d.eff x ox hx hex
              have h2 : decide (j = x) = false := decide_eq_false fun h => hxj h.symm
              rw [h2, Bool.or_false, ← this]; simp [hxj]
          · rw [has_lor, Bool.or_eq_true] at hx
            rcases hx with hx | hx
            · exact d.umd x hx (List.mem_cons_of_mem _ hxr)
            · exact mask_head hc.back d.sched x hx (List.mem_cons_of_mem _ hxr)
          · have hxj : x ≠ j := fun h => by subst h; rw [ho] at hx; injection hx with hx; subst hx; rw [heff] at hex; cases hex
            exact d.edd x ox hx hex (by simp [hxj, hxr])
          · rw [putT_get] at hg
            split at hg
            · rename_i hcond
              exact (hc.apart x j ox oj s hx ho hs hcond.1 hex heff).elim
            · exact d.pnd x ox s v' mk kk (List.mem_cons_of_mem _ hxr) hx hex hal hed hs hsn hg hm
          · obtain ⟨x, hx, ox, h1, h2, h3⟩ := hs
            rcases List.mem_cons.1 hx with rfl | hx
            · rw [ho] at h1; injection h1 with h1; subst h1; rw [heff] at h2; cases h2
            · exact ⟨x, hx, ox, h1, h2, h3⟩
  · rename_i l k
    injection hq with hq; subst hq
    obtain ⟨e1, e2, e3⟩ := r2
    cases todo with
    | nil => exact e1.elim
    | cons it k' =>
      obtain ⟨⟨e, he', rfl⟩, e4⟩ := e1
      refine ⟨⟨r1, ?_, r3, r4, r5, r6⟩, rfl, fun _ => trivial⟩
      exact ⟨⟨⟨e, he', rfl⟩, e4⟩, e2, e3⟩
  · cases hq

/-- what is shown of a step -/
def Post (P : Program) (ng n0 : Nat) (σ : Sg) (w : World) (f : Frame) (cs base : List Frame) (m' : AM) : Prop :=
  ∃ σ' f' cs' w' p' ks', Steps P (lone f (cs ++ base) w) (lone f' (cs' ++ base) w') ∧ σ.le σ' ∧ MRx P ng n0 σ' m' f' cs' w' p' ks' ∧ Below n0 w w'

variable {m m' : AM} {f : Frame} {cs base : List Frame} {p : List (Nat × Nat)} {ks : List Nat}

theorem PG.keep {σ σ' : Sg} {h h' : AH} {l : List Nat} (g : PG σ h l) (hs : ∀ k, k < h.next → σ' k = σ k) (hn : h.next ≤ h'.next) : PG σ' h' l :=
  ⟨g.1, fun k hk => ⟨(hs k (g.2 k hk).2).trans (g.2 k hk).1, Nat.lt_of_lt_of_le (g.2 k hk).2 hn⟩⟩

theorem done_sound (M : MRx P ng n0 σ m f cs w p ks) (hat : AtEff P m.fr.todo f.todo) {v : AV} {u : Value} {h' : AH} {w' : World} {σ' : Sg} (hq : AM.done P m v h' = some m')
    (hst : step P (lone f (cs ++ base) w) = .next (lone (f.finish u) (cs ++ base) w')) (hle : σ.le σ') (R : HR ng n0 σ' h' w') (hs : ∀ k, k < m.h.next → σ' k = σ k) (hn : m.h.next ≤ h'.next) (hv : VR σ' v u) (hb : Below n0 w w') :
    Post P ng n0 σ w f cs base m' := by
  unfold AM.done at hq
  cases hf : AFrame.finish P m.fr v with
  | none => simp [hf] at hq
  | some fr =>
    simp only [hf] at hq
    injection hq with hq; subst hq
    obtain ⟨h1, h2, h3⟩ := finish_sound (ng := ng) (M.top.mono hle) hat hf hv
    exact ⟨σ', f.finish u, cs, w', p, ks, .one hst, hle, ⟨h1, M.stack.mono hle, M.pg.keep hs hn, R, h3 h'⟩, hb⟩

theorem eff_done (M : MRx P ng n0 σ m f cs w p ks) (hat : AtEff P m.fr.todo f.todo) {v : AV} {h' : AH} {s : Sem Next} (hq : AM.done P m v h' = some m') (he : Eff P ng n0 σ m.h w v h' s)
    (hst : ∀ r w', s.run P w = .ok r w' → (∃ u, r = .value u) ∨ r = .skip → step P (lone f (cs ++ base) w) = .next (lone (f.finish (match r with | .value u => u | _ => undef)) (cs ++ base) w')) :
    Post P ng n0 σ w f cs base m' := by
  obtain ⟨σ', w', r, h1, h2, h3, h4, h5, h6, h7⟩ := he
  rcases h7 with ⟨u, rfl, hv⟩ | ⟨rfl, rfl⟩
  · exact done_sound M hat hq (hst _ _ h1 (.inl ⟨u, rfl⟩)) h2 h3 h5 h6 hv h4
  · exact done_sound M hat hq (hst _ _ h1 (.inr rfl)) h2 h3 h5 h6 ⟨#[], rfl, trivial⟩ h4

/-! ### A function is entered -/
theorem argsT_get {nt : Nat} : ∀ (l : List AV) (i : Nat) (T : Tr AV) (j : Nat), (argsT nt l i T).get j = if i ≤ j ∧ j < i + l.length then l[j - i]? else T.get j
  | [], i, T, j => by
    have : ¬ (i ≤ j ∧ j < i + ([] : List AV).length) := by simp
    rw [if_neg this]; rfl
  | a :: l, i, T, j => by
    unfold argsT
    rw [argsT_get l (i + 1)]
    simp only [List.length_cons]
    by_cases h1 : j = i
    · subst h1
      rw [if_neg (by omega), if_pos (by omega), Tr.get_set_same]; simp
    · by_cases h2 : i + 1 ≤ j ∧ j < i + 1 + l.length
      · rw [if_pos h2, if_pos (by omega), show j - i = (j - (i + 1)) + 1 by omega, List.getElem?_cons_succ]
      · rw [if_neg h2, if_neg (by omega), Tr.get_set_ne _ _ h1]

theorem enter_sound {g : FuncId} {args : List AV} {argv : Array Value} {dfd : Bool} {fr : AFrame} (hq : AFrame.enter P g args dfd = some fr) (ha : VRs σ args argv.toList) :
    FR P σ fr (Frame.enter P g argv (bif dfd then .deferred else .normal)) [] ∧ (∀ w, (callFunc g argv).run P w = .ok (.enter g argv) w) ∧ fr.ret = false ∧ fr.fn = g ∧ ∀ h, Rdy P ng fr.nt fr.tmps h fr.todo := by
  unfold AFrame.enter at hq
  cases hf : P.funcs[g]? with
  | none => simp [hf] at hq
  | some fn =>
    cases hb : fn.body with
    | none => simp [hf, hb] at hq
    | some c =>
      simp only [hf, hb] at hq
      cases hn : (fn.name == "runtime.NumGoroutine") with
      | true => rw [hn] at hq; cases hq
      | false =>
        rw [hn, cond_false] at hq
        injection hq with hq; subst hq
        have hl := VRs.length ha
        refine ⟨⟨rfl, ?_, trivial, rfl, rfl, rfl⟩, fun w => ?_, rfl, rfl, fun _ => trivial⟩
        · refine ⟨⟨by simp [hf, hb, ItR], trivial⟩, ⟨?_, fun i a _ hg => ?_⟩, rfl⟩
          · simp [Frame.enter, hf, hl]
          · rw [argsT_get, Nat.zero_add, Nat.sub_zero] at hg
            split at hg
            · rename_i hi
              obtain ⟨y, h1, h2⟩ := VRs.get ha i a hg
              refine ⟨y, ?_, h2⟩
              have hlt : i < argv.size := by rw [hl] at hi; simpa using hi.2
              simp only [Frame.enter]
              rw [Array.getElem?_append_left hlt]; simpa using h1
            · rw [Tr.get_l] at hg; cases hg
        · have hn' : ¬ fn.name = "runtime.NumGoroutine" := by simpa using hn
          simp [callFunc, hf, hb, hn', program, Sem.run]

theorem push_sound (M : MRx P ng n0 σ m f cs w p ks) (hat : AtEff P m.fr.todo f.todo) {g : FuncId} {args : List AV} {argv : Array Value} (hq : push P m g args = some m') (ha : VRs σ args argv.toList)
    (hst : (∀ w, (callFunc g argv).run P w = .ok (.enter g argv) w) → step P (lone f (cs ++ base) w) = .next (lone (Frame.enter P g argv .normal) (f :: (cs ++ base)) w)) : Post P ng n0 σ w f cs base m' := by
  unfold push at hq
  cases hf : AFrame.enter P g args false with
  | none => simp [hf] at hq
  | some fr =>
    simp only [hf] at hq
    injection hq with hq; subst hq
    obtain ⟨h1, h2, h3, h4, h5⟩ := enter_sound (ng := ng) hf ha
    refine ⟨σ, Frame.enter P g argv .normal, f :: cs, w, [], p.map (·.2) ++ ks, .one (hst h2), Sg.le.refl σ, ⟨h1, ⟨f, cs, p, ks, rfl, rfl, M.top, hat, M.stack⟩, by simpa using M.pg, M.heap, h5 _⟩, Below.refl _ _⟩

theorem HR.congr {h h' : AH} (R : HR ng n0 σ h w) (hg : ∀ k, h'.get k = h.get k) (hn : h'.next = h.next) : HR ng n0 σ h' w :=
  ⟨fun k e b h1 h2 => R.blk k e b h1 (by rw [← hg]; exact h2), fun k hk => R.fresh k (by rw [← hn]; exact hk), fun k hk => by rw [hg]; exact R.freshA k (by rw [← hn]; exact hk),
   fun k k' e e' b b' h1 h2 h3 h4 => R.inj k k' e e' b b' h1 h2 (by rw [← hg]; exact h3) (by rw [← hg]; exact h4), R.lt, R.glob, fun k e b h1 h2 => R.own k e b h1 (by rw [← hg]; exact h2), by rw [hn]; exact R.ngn, R.big⟩

/-- the bytes of a slice are marked -/
theorem mark_sound (R : HR ng n0 σ h w) {k : Nat} {e : Loc} {cs : List AV} {off : Nat} (hk : σ k = some e) (hb : h.get k = some (.cells false cs)) :
    ∃ w', (markStringish (e.at off)).run P w = .ok () w' ∧ HR ng n0 σ h w' ∧ Below n0 w w' := by
  obtain ⟨c, t, fz, h1, h2, h3, h4⟩ := R.blk k e _ hk hb
  obtain ⟨lo, hi⟩ := fz
  have hsh : w.shape? e.blk = some (t, c.size) := by simp [World.shape?, h1]
  let w' := w.freeze { block := e.blk, off := c.size } 1
  have hlt := R.lt k e hk
  have hself : w'.heap[e.blk]? = some (.cells c t (if lo == hi then (c.size, c.size + 1) else (min lo c.size, max hi (c.size + 1)))) := by
    simp only [w', World.freeze, Nat.one_ne_zero, if_false, Array.getElem?_modify, if_true, h1]; rfl
  have hex : Ex e.blk w w' := ⟨by simp [w', World.freeze], fun x hx => by simp only [w', World.freeze, Nat.one_ne_zero, if_false, Array.getElem?_modify]; rw [if_neg (fun hh => hx hh.symm)], rfl, rfl, rfl⟩
  refine ⟨w', by simp [markStringish, Loc.at, hsh, w'], ?_, hex.below (R.own k e _ hk hb rfl)⟩
  have hw := R.write (b' := .cells false cs) hk hb rfl hex ⟨c, t, _, hself, h2, .inr (.inr ?_), h4⟩
  · refine hw.congr (fun x => ?_) rfl
    rw [AH.get_put]
    by_cases hx : x = k
    · subst hx; rw [if_pos rfl, hb]
    · rw [if_neg hx]
  · have h3' := h3.resolve_left (by simp)
    by_cases hlh : lo = hi
    · subst hlh; simp
    · have : (lo == hi) = false := by simpa using hlh
      rw [this]
      rcases h3' with h3' | h3'
      · exact absurd h3' hlh
      · simp only [Bool.false_eq_true, if_false]; exact Nat.le_min.2 ⟨h3', Nat.le_refl _⟩
end
end Go.Proofs.YtllipkakgjmheaaGreatDoor.Ev

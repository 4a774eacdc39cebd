/-
  The abstract machine's operations that make a block.
-/
import Derived.Test.YtllipkakgjmheaaGreatDoorEvI
import Derived.Laws.IdiomStrings
set_option linter.unusedVariables false
set_option linter.unusedSimpArgs false
set_option linter.constructorNameAsVariable false
namespace Go.Proofs.YtllipkakgjmheaaGreatDoor.Ev
open Go Go.RowKit

section
variable {P : Program} {ng n0 : Nat} {σ : Sg} {h : AH} {w : World}

theorem mod_repl : ∀ (n : Nat) (z : List Value), z ≠ [] → (List.range (n * z.length)).map (fun i => z.toArray[i % z.toArray.size]!) = (List.replicate n z).flatten
  | 0, z, _ => by simp
  | n + 1, z, hz => by
    have hl : 0 < z.length := List.length_pos_iff.2 hz
    rw [Nat.succ_mul, Nat.add_comm, List.range_add, List.map_append, List.replicate_succ, List.flatten_cons]
    congr 1
    · apply List.ext_getElem
      · simp
      · intro i h1 h2
        simp only [List.getElem_map, List.getElem_range, List.size_toArray]
        have : i < z.length := by simpa using h1
        rw [Nat.mod_eq_of_lt this]
        simp [this]
    · rw [List.map_map, ← mod_repl n z hz]
      apply List.map_congr_left
      intro i _
      simp [Nat.add_mod_left]
theorem repl_sound {z : List AV} {c : Array Value} (hr : VRs σ z c.toList) (n s : Nat) (hs : z.length = s) (h0 : n * s ≠ 0) :
    VRs σ (repl n z) ((Array.range (n * s)).map (c[· % c.size]!)).toList := by
  have hne : c.toList ≠ [] := by
    intro e
    have := VRs.length hr
    rw [e] at this
    simp at this
    rw [this] at hs
    simp at hs
    rw [← hs] at h0
    simp at h0
  have hlen : s = c.toList.length := hs ▸ VRs.length hr
  rw [Array.toList_map, Array.toList_range, hlen]
  have := mod_repl n c.toList hne
  simp only [Array.toArray_toList] at this
  rw [this]
  unfold repl
  split
  · rename_i zz
    have : ∃ v, c.toList = [v] := by
      have hl := VRs.length hr
      match c.toList, hl with
      | [v], _ => exact ⟨v, rfl⟩
    obtain ⟨v, hv⟩ := this
    rw [hv] at hr ⊢
    have hflat : (List.replicate n [v]).flatten = List.replicate n v := by
      clear this h0 hlen hne hs
      induction n with
      | zero => rfl
      | succ n ih => simp [List.replicate_succ, ih]
    rw [hflat]
    exact VRs.replicate hr.1 n
  · exact VRs.flatrep hr n

theorem zeros_sound {elem : TypeId} {size n : Nat} {zero : List AV} (hq : zeros P elem size n = some zero) :
    ∃ zc : Array Value, ((n * size = 0 ∧ zc = #[]) ∨ (n * size ≠ 0 ∧ ∃ z, (zeroValue elem).run P w = .ok z w ∧ zc = z.cells)) ∧ VRs σ zero ((Array.range (n * size)).map (zc[· % zc.size]!)).toList := by
  unfold zeros at hq
  rw [nbeq, Bool.cond_decide] at hq
  by_cases h0 : n * size = 0
  · rw [if_pos h0] at hq
    injection hq with hq; subst hq
    exact ⟨#[], .inl ⟨h0, rfl⟩, by simp [h0, VRs]⟩
  · rw [if_neg h0] at hq
    cases hz : zeroCells P elem with
    | none => simp [hz] at hq
    | some z =>
      simp only [hz, nbeq, Bool.cond_decide] at hq
      split at hq
      · rename_i hsz
        injection hq with hq; subst hq
        obtain ⟨zv, h1, h2⟩ := zero_sound (P := P) (σ := σ) (w := w) hz
        exact ⟨zv.cells, .inr ⟨h0, zv, h1, rfl⟩, repl_sound h2 n size hsz h0⟩
      · cases hq
theorem zeros_more {elem : TypeId} {size n : Nat} {z : List AV} (hq : zeros P elem size 1 = some z) (hs : 1 ≤ size) (hn : 1 ≤ n) : ∃ z', zeros P elem size n = some z' := by
  unfold zeros at hq ⊢
  have h1 : Nat.beq (1 * size) 0 = false := by rw [nbeq]; exact decide_eq_false (by omega)
  have h2 : Nat.beq (n * size) 0 = false := by
    rw [nbeq]; exact decide_eq_false (Nat.mul_ne_zero (by omega) (by omega))
  rw [h1, cond_false] at hq
  rw [h2, cond_false]
  cases hz : zeroCells P elem with
  | none => simp [hz] at hq
  | some c =>
    simp only [hz] at hq ⊢
    cases hb : Nat.beq c.length size with
    | false => rw [hb] at hq; cases hq
    | true => exact ⟨_, rfl⟩
theorem wrap_small {n : Nat} (hn : n ≤ 1000000000) : IntKind.i64.wrap (n : Int) = n := by
  have h1 : (n : Int) % (2 ^ 64 : Int) = n := Int.emod_eq_of_lt (by omega) (by omega)
  have h2 : ¬ ((n : Int) ≥ (2 ^ 63 : Int)) := by omega
  show (let m := (n : Int) % (2 ^ 64 : Int); if (true && decide (m ≥ (2 ^ 63 : Int))) = true then m - (2 ^ 64 : Int) else m) = n
  simp only [h1, h2, decide_false, Bool.and_false, Bool.false_eq_true, if_false]
/-- a new block of cells, and what points to it -/
structure Made (P : Program) (σ : Sg) (w : World) (b : ABlock) (mk : Mk) (s : Sem Next) : Prop where
  out : ∃ u w' o e, s.run P w = .ok (.value u) w' ∧ Push o w w' ∧ e.blk = w.heap.size ∧ b.ro = false ∧ ∀ σ' : Sg, σ.le σ' → BR σ' w' e b ∧ ∀ k, σ' k = some e → VR σ' (mk.av k) u

theorem made_cells {b : Bool} {cs : List AV} {c : Array Value} {t : TypeId} {fz : Nat × Nat} {w' : World} {s : Sem Next} {u : Value} {mk : Mk} (hb : b = false) (hs : s.run P w = .ok (.value u) w') (hp : Push (.cells c t fz) w w') (hfz : fz.1 = fz.2 ∨ c.size ≤ fz.1)
    (hr : VRs σ cs (c.toList.take cs.length)) (hu : ∀ (σ' : Sg) k, σ' k = some ⟨w.heap.size, 0, c.size⟩ → VR σ' (mk.av k) u) : Made P σ w (.cells b cs) mk s := by
  subst hb
  refine ⟨u, w', _, ⟨w.heap.size, 0, c.size⟩, hs, hp, rfl, rfl, fun σ' hle => ⟨⟨c, t, fz, hp.at, rfl, .inr hfz, ?_⟩, fun k hk => hu σ' k hk⟩⟩
  simpa using VRs.mono hle _ _ hr

set_option maxRecDepth 100000 in
theorem alloc_sound {T : Operand → AV} {ρ : Operand → Value} {o : Oper} {b : ABlock} {mk : Mk} (hρ : ∀ x ∈ o.op.operands, VR σ (T x) (ρ x)) (hq : aalloc P T o.op = some (b, mk)) :
    Made P σ w b mk (execOp ρ o) := by
  obtain ⟨dst, op, ty, pos, after, guard⟩ := o
  have whole : ∀ {cs : List AV} {c : Array Value}, VRs σ cs c.toList → VRs σ cs (c.toList.take cs.length) := fun hr => by
    have hl := VRs.length hr
    rw [hl, List.take_length]; exact hr
  cases op <;> simp only [aalloc] at hq <;> try (cases hq; done)
  case alloc t =>
    simp only [Option.map_eq_some_iff] at hq
    obtain ⟨cs, hz, he⟩ := hq
    injection he with e1 e2; subst e1; subst e2
    obtain ⟨z, h1, h2⟩ := zero_sound (P := P) (σ := σ) (w := w) hz
    exact made_cells (t := t) (fz := (0, 0)) rfl (by simp [execOp, Instr.alloc, h1, newVar, newRow]; rfl) (Push.new _ _) (.inl rfl) (whole h2) (fun σ' k hk => ⟨_, hk, rfl⟩)
  case box t x =>
    simp only [Option.map_eq_some_iff] at hq
    obtain ⟨cs, hz, he⟩ := hq
    injection he with e1 e2; subst e1; subst e2
    have h2 := VR.cells (hρ x (by simp [Op.operands])) hz
    exact made_cells (t := t) (fz := (0, 0)) rfl (by simp [execOp, Instr.box, newVar, newRow]; rfl) (Push.new _ _) (.inl rfl) (whole h2) (fun σ' k hk => ⟨_, hk, rfl⟩)
  case buildSlice t len parts =>
    cases hu : P.underlying t with
    | none => simp [hu] at hq
    | some d =>
      cases d <;> simp only [hu] at hq <;> try (cases hq; done)
      rename_i elem
      cases hs : sizeOf? P elem with
      | none => simp [hs] at hq
      | some size =>
        simp only [hs, nble, nbeq, Bool.cond_decide] at hq
        split at hq
        · rename_i hle
          obtain ⟨hp, hl⟩ := parts_rel (σ := σ) (T := T) (ρ := ρ) parts (fun x hx => hρ x (by simpa [Op.operands] using hx))
          cases hz : zeros P elem size len with
          | none => simp [hz] at hq
          | some zero =>
          obtain ⟨zc, e2, e3⟩ := zeros_sound (P := P) (σ := σ) (w := w) hz
          simp only [hz, Option.map_eq_some_iff] at hq
          obtain ⟨cs, hf, he⟩ := hq
          injection he with e4 e5; subst e4; subst e5
          obtain ⟨c', h1, h2⟩ := fill_sound (σ := σ) _ _ _ _ _ _ hp hl e3 hf
          have hgt : ¬ len * size > 2 ^ 24 := by omega
          rw [Array.toList_map] at h1
          refine made_cells (t := elem) (fz := (0, 0)) (u := .slice (some ⟨w.heap.size, 0, none⟩) len len) rfl ?_ (Push.new _ _) (.inl rfl) (whole h2) (fun σ' k hk => ⟨_, len, hk, rfl, rfl⟩)
          rcases e2 with ⟨h0, rfl⟩ | ⟨h0, zv, g1, rfl⟩
          · simp only [h0] at h1
            have hg0 : ¬ (0 > 2 ^ 24) := by decide
            simp only [execOp, Instr.buildSlice, Sem.run_bind, ru hu, Result.andThen_ok, rs hs, if_false, h0, hg0, if_true, Sem.run_pure, Array.toList_map]
            rw [h1]
            simp [newRow]
          · simp only [execOp, Instr.buildSlice, Sem.run_bind, ru hu, Result.andThen_ok, rs hs, hgt, if_false, h0, g1, Sem.run_pure, Array.toList_map]
            rw [h1]
            simp [newRow]
        · cases hq
  case makeSlice t l c =>
    have hl := hρ l (by simp [Op.operands])
    have hc := hρ c (by simp [Op.operands])
    cases hu : P.underlying t with
    | none => simp [hu] at hq
    | some d =>
    cases hnl : natOf (T l) with
    | none => cases d <;> simp [hu, hnl] at hq
    | some ln =>
    cases hnc : natOf (T c) with
    | none => cases d <;> simp [hu, hnl, hnc] at hq
    | some cn =>
    cases d <;> simp only [hu, hnl, hnc] at hq <;> try (cases hq; done)
    rename_i elem
    cases hi : P.info? elem with
    | none => simp [hi] at hq
    | some i =>
    simp only [hi, nble] at hq
    by_cases hcond : (ln ≤ cn ∧ cn ≤ 1000000) ∧ i.bytes ≤ 1000000
    · obtain ⟨⟨c1, c2⟩, c3⟩ := hcond
      simp only [c1, c2, c3, decide_true, Bool.and_self, cond_true, Option.map_eq_some_iff] at hq
      obtain ⟨cs, hz, he⟩ := hq
      injection he with e1 e2; subst e1; subst e2
      obtain ⟨k1, hk1⟩ := natOf_some hnl hl
      obtain ⟨k2, hk2⟩ := natOf_some hnc hc
      obtain ⟨zc, g1, g2⟩ := zeros_sound (P := P) (σ := σ) (w := w) hz
      have wl : IntKind.i64.wrap (ln : Int) = ln := wrap_small (by omega)
      have wc : IntKind.i64.wrap (cn : Int) = cn := wrap_small (by omega)
      have hmul : i.bytes * cn ≤ 1000000 * 1000000 := Nat.mul_le_mul c3 c2
      have hmulI : (i.bytes : Int) * (cn : Int) ≤ 1000000 * 1000000 := by rw [← Int.natCast_mul]; exact Int.ofNat_le.2 hmul
      refine made_cells (t := elem) (fz := (0, 0)) (u := .slice (some ⟨w.heap.size, 0, none⟩) ln cn) rfl ?_ (Push.new _ _) (.inl rfl) (whole g2) (fun σ' k hk => ⟨_, cn, hk, rfl, rfl⟩)
      have t1 : (decide ((cn : Int) < 0) || decide ((i.bytes : Int) * (cn : Int) > 2 ^ 48)) = false := by
        simp only [Bool.or_eq_false_iff, decide_eq_false_iff_not]; exact ⟨by omega, by omega⟩
      have t2 : decide ((ln : Int) < 0) = false := by simp only [decide_eq_false_iff_not]; omega
      have t3 : decide ((ln : Int) > (cn : Int)) = false := by simp only [decide_eq_false_iff_not]; omega
      rcases g1 with ⟨h0, rfl⟩ | ⟨h0, zv, g1, rfl⟩
      · simp only [execOp, Instr.makeSlice, Sem.run_bind, ru hu, Result.andThen_ok, hk1, hk2, asInt, asIntOf, Sem.run_pure, ri hi, wl, wc, t1, t2, t3, Bool.or_self, Bool.false_eq_true, if_false, run_askRoom, Int.toNat_natCast, rs (ri_size hi), h0, if_true]
        simp [newRow]
      · simp only [execOp, Instr.makeSlice, Sem.run_bind, ru hu, Result.andThen_ok, hk1, hk2, asInt, asIntOf, Sem.run_pure, ri hi, wl, wc, t1, t2, t3, Bool.or_self, Bool.false_eq_true, if_false, run_askRoom, Int.toNat_natCast, rs (ri_size hi), h0, g1]
        simp [newRow]
    · have : (decide (ln ≤ cn) && decide (cn ≤ 1000000) && decide (i.bytes ≤ 1000000)) = false := by
        rw [← Bool.decide_and, ← Bool.decide_and]; exact decide_eq_false hcond
      rw [this, cond_false] at hq
      by_cases hcond2 : ((ln ≤ cn ∧ cn ≤ 1000000000) ∧ i.bytes ≤ 1000) ∧ 1 ≤ i.size
      · obtain ⟨⟨⟨c1, c2⟩, c3⟩, c4⟩ := hcond2
        simp only [c1, c2, c3, c4, decide_true, Bool.and_self, cond_true, Option.map_eq_some_iff] at hq
        obtain ⟨cs0, hz0, he⟩ := hq
        injection he with e1 e2; subst e1; subst e2
        have hbig : 1 ≤ cn := by
          rcases Nat.eq_zero_or_pos cn with h0 | h0
          · exact absurd ⟨⟨c1, by omega⟩, by omega⟩ hcond
          · exact h0
        obtain ⟨cs, hz⟩ := zeros_more hz0 c4 hbig
        obtain ⟨k1, hk1⟩ := natOf_some hnl hl
        obtain ⟨k2, hk2⟩ := natOf_some hnc hc
        obtain ⟨zc, g1, g2⟩ := zeros_sound (P := P) (σ := σ) (w := w) hz
        have wl : IntKind.i64.wrap (ln : Int) = ln := wrap_small (by omega)
        have wc : IntKind.i64.wrap (cn : Int) = cn := wrap_small c2
        have hmul : i.bytes * cn ≤ 1000 * 1000000000 := Nat.mul_le_mul c3 c2
        have hmulI : (i.bytes : Int) * (cn : Int) ≤ 1000 * 1000000000 := by rw [← Int.natCast_mul]; exact Int.ofNat_le.2 hmul
        refine made_cells (cs := []) (c := (Array.range (cn * i.size)).map (zc[· % zc.size]!)) (t := elem) (fz := (0, 0)) (u := .slice (some ⟨w.heap.size, 0, none⟩) ln cn) rfl ?_ (Push.new _ _) (.inl rfl) (by simp [VRs]) (fun σ' k hk => ⟨_, cn, hk, rfl, rfl⟩)
        have t1 : (decide ((cn : Int) < 0) || decide ((i.bytes : Int) * (cn : Int) > 2 ^ 48)) = false := by
          simp only [Bool.or_eq_false_iff, decide_eq_false_iff_not]; exact ⟨by omega, by omega⟩
        have t2 : decide ((ln : Int) < 0) = false := by simp only [decide_eq_false_iff_not]; omega
        have t3 : decide ((ln : Int) > (cn : Int)) = false := by simp only [decide_eq_false_iff_not]; omega
        rcases g1 with ⟨h0, rfl⟩ | ⟨h0, zv, g1, rfl⟩
        · simp only [execOp, Instr.makeSlice, Sem.run_bind, ru hu, Result.andThen_ok, hk1, hk2, asInt, asIntOf, Sem.run_pure, ri hi, wl, wc, t1, t2, t3, Bool.or_self, Bool.false_eq_true, if_false, run_askRoom, Int.toNat_natCast, rs (ri_size hi), h0, if_true]
          simp [newRow]
        · simp only [execOp, Instr.makeSlice, Sem.run_bind, ru hu, Result.andThen_ok, hk1, hk2, asInt, asIntOf, Sem.run_pure, ri hi, wl, wc, t1, t2, t3, Bool.or_self, Bool.false_eq_true, if_false, run_askRoom, Int.toNat_natCast, rs (ri_size hi), h0, g1]
          simp [newRow]
      · have : (decide (ln ≤ cn) && decide (cn ≤ 1000000000) && decide (i.bytes ≤ 1000) && decide (1 ≤ i.size)) = false := by
          rw [← Bool.decide_and, ← Bool.decide_and, ← Bool.decide_and]; exact decide_eq_false hcond2
        rw [this] at hq
        cases hq
  case convert s d x =>
    have hx := hρ x (by simp [Op.operands])
    generalize T x = tx at *
    split at hq
    · rename_i e str hs hd
      split at hq
      · rename_i he
        injection hq with hq; injection hq with e1 e2; subst e1; subst e2
        obtain ⟨hxv, hs'⟩ := hx
        have hrun := run_bytes_of_string (P := P) w s d e (mkS str) hs hd he
        rw [mkS_size] at hrun
        generalize hg : grownCap w str.length 0 e = g at hrun
        have hgle : str.length ≤ g := by
          rw [← hg]; unfold grownCap Question.cut; simp
        have hlen : (bytesRow (mkS str) g).toList = (str.map fun (b : Nat) => Value.int .u8 (b : Int)) ++ List.replicate (g - str.length) (.int .u8 0) := by
          simp only [bytesRow, mkS, Array.toList_append, Array.toList_map, Array.toList_replicate, List.map_map]
          congr 1
          · apply List.map_congr_left
            intro b hb
            simp [UInt8.toNat_ofNat_of_lt' (hs' b hb)]
          · congr 1
            show g - (mkS str).size = _
            rw [mkS_size]
        refine made_cells (w' := w.drew.alloc (.cells (bytesRow (mkS str) g) e ((bytesRow (mkS str) g).size, (bytesRow (mkS str) g).size + 1))) (σ := σ) (t := e) (c := bytesRow (mkS str) g) (fz := ((bytesRow (mkS str) g).size, (bytesRow (mkS str) g).size + 1)) (u := .slice (some ⟨w.heap.size, 0, none⟩) str.length g) rfl (by simp only [execOp, hxv, Sem.run_bind, hrun]; rfl) ⟨rfl, rfl, rfl, rfl⟩ (.inr (Nat.le_refl _)) ?_ (fun σ' k hk => ⟨_, g, hk, rfl, hgle, ?_⟩)
        · rw [hlen, List.length_map, List.take_append_of_le_length (by simp), List.take_of_length_le (by simp)]
          refine VRs.map _ _ _ fun b hb => ?_
          have := hs' b hb
          simp only [VR]
          rw [Nat.mod_eq_of_lt this]; rfl
        · have : (bytesRow (mkS str) g).size = g := by
            rw [← Array.length_toList, hlen]; simp; omega
          simp [this]
      · cases hq
    · cases hq
  case makeMap t r =>
    cases r with
    | some _ => simp at hq
    | none =>
      simp only [] at hq
      injection hq with hq; injection hq with e1 e2; subst e1; subst e2
      refine ⟨.map (some w.heap.size), { w with heap := w.heap.push (.map #[] 0) }, .map #[] 0, ⟨w.heap.size, 0, 0⟩, by simp [execOp, Instr.makeMap], Push.new _ _, rfl, rfl, fun σ' hle => ⟨⟨#[], by simp, trivial⟩, fun k hk => ⟨_, hk, rfl⟩⟩⟩
end
end Go.Proofs.YtllipkakgjmheaaGreatDoor.Ev

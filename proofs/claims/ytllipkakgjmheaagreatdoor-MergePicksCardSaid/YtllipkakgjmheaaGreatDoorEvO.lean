/-
  The abstract machine: methods.
-/
import Derived.Test.YtllipkakgjmheaaGreatDoorEvN
set_option linter.unusedVariables false
set_option linter.unusedSimpArgs false
set_option linter.constructorNameAsVariable false
namespace Go.Proofs.YtllipkakgjmheaaGreatDoor.Ev
open Go Go.RowKit

section
variable {P : Program} {ng n0 : Nat} {σ : Sg} {h : AH} {w : World}

def PlR (σ : Sg) : APlace → Place → Prop
  | .val v, .val u => VR σ v u
  | .var k off, .var a => ∃ e, σ k = some e ∧ a = e.at off
  | _, _ => False

theorem loadVar_of {t : TypeId} {a : Addr} : (Instr.loadAt t (.pointer (some a))).run P w = (loadVar t a).run P w := by
  simp [Instr.loadAt, Instr.sureAddr]

theorem get_sound (R : HR ng n0 σ h w) {t : TypeId} {x : APlace} {y : Place} {v : AV} (hx : PlR σ x y) (hq : x.get P h t = some v) :
    ∃ u, (y.get t).run P w = .ok u w ∧ VR σ v u := by
  cases x <;> cases y <;> simp only [PlR] at hx
  · rename_i a b
    simp only [APlace.get] at hq
    injection hq with hq; subst hq
    exact ⟨b, rfl, hx⟩
  · rename_i k off a
    obtain ⟨e, he, rfl⟩ := hx
    simp only [APlace.get] at hq
    obtain ⟨u, h1, h2⟩ := load_sound (P := P) R (a := .ptr k off) (x := .pointer (some (e.at off))) ⟨e, he, rfl⟩ hq
    exact ⟨u, loadVar_of.symm.trans h1, h2⟩

theorem follow_sound (R : HR ng n0 σ h w) : ∀ (path : List FieldStep) (t : TypeId) (x : APlace) (y : Place) (t' : TypeId) (x' : APlace), PlR σ x y → afollow P h path t x = some (t', x') →
    ∃ y', (follow path t y).run P w = .ok (t', y') w ∧ PlR σ x' y'
  | [], t, x, y, t', x', hx, hq => by
    simp only [afollow] at hq
    injection hq with hq; injection hq with e1 e2; subst e1; subst e2
    exact ⟨y, rfl, hx⟩
  | s :: rest, t, x, y, t', x', hx, hq => by
    simp only [afollow] at hq
    cases hu : P.underlying s.struct with
    | none => simp [hu] at hq
    | some d =>
      cases d <;> simp only [hu] at hq <;> try (cases hq; done)
      rename_i fields
      cases hf : fields[s.index]? with
      | none => simp [hf] at hq
      | some f =>
        simp only [hf] at hq
        cases hs : sizeOf? P f.type with
        | none => simp [hs] at hq
        | some n =>
          cases n with
          | zero => simp [hs] at hq
          | succ n =>
            simp only [hs] at hq
            cases hd : s.deref with
            | true =>
              simp only [hd, cond_true] at hq
              cases hg : x.get P h t with
              | none => simp [hg] at hq
              | some a =>
                cases a <;> simp only [hg] at hq <;> try (cases hq; done)
                rename_i k off
                obtain ⟨u, h1, h2⟩ := get_sound (P := P) R hx hg
                obtain ⟨e, he, rfl⟩ := h2
                obtain ⟨y', h3, h4⟩ := follow_sound R rest f.type (.var k (off + f.offset)) (.var (e.at (off + f.offset))) t' x' ⟨e, he, rfl⟩ hq
                refine ⟨y', ?_, h4⟩
                simp [follow, ru hu, hf, hd, h1, asAddr, fieldPlace, rs hs, at_add, h3]
            | false =>
              simp only [hd, cond_false] at hq
              cases x with
              | var k off =>
                cases y with
                | val _ => exact hx.elim
                | var a =>
                  obtain ⟨e, he, rfl⟩ := hx
                  simp only at hq
                  obtain ⟨y', h3, h4⟩ := follow_sound R rest f.type (.var k (off + f.offset)) (.var (e.at (off + f.offset))) t' x' ⟨e, he, rfl⟩ hq
                  refine ⟨y', ?_, h4⟩
                  simp [follow, ru hu, hf, hd, fieldPlace, rs hs, at_add, h3]
              | val v =>
                cases y with
                | var _ => exact hx.elim
                | val u =>
                  cases v <;> simp only at hq <;> try (cases hq; done)
                  rename_i cs
                  obtain ⟨c, rfl, hr⟩ := hx
                  cases hp : apart P f.type cs f.offset with
                  | none => simp [hp] at hq
                  | some v' =>
                    simp only [hp] at hq
                    obtain ⟨u', h1, h2⟩ := part_sound (P := P) (w := w) hr hp
                    obtain ⟨y', h3, h4⟩ := follow_sound R rest f.type (.val v') (.val u') t' x' h2 hq
                    refine ⟨y', ?_, h4⟩
                    simp [follow, ru hu, hf, hd, h1, h3]

theorem receiver_sound (R : HR ng n0 σ h w) {xt : TypeId} {x : APlace} {y : Place} {ptr whole : Bool} {wr : Option String} {v : AV} (hx : PlR σ x y) (hwr : whole = false → wr = none) (hq : areceiver P h xt x ptr whole = some v) :
    ∃ u, (receiverAt xt y ptr wr).run P w = .ok u w ∧ VR σ v u := by
  unfold areceiver at hq
  cases hu : P.underlying xt with
  | none => simp [hu] at hq
  | some d =>
    rw [hu] at hq
    cases ptr with
    | true =>
      by_cases hd : ∃ elem, d = .pointer elem
      · obtain ⟨elem, rfl⟩ := hd
        simp only at hq
        obtain ⟨u, h1, h2⟩ := get_sound (P := P) R hx hq
        exact ⟨u, by simp [receiverAt, ru hu, h1], h2⟩
      · cases x with
        | val v' => cases d <;> first | (exact (hd ⟨_, rfl⟩).elim) | (simp at hq)
        | var k off =>
          cases y with
          | val _ => exact hx.elim
          | var a =>
            obtain ⟨e, he, rfl⟩ := hx
            have hv : v = .ptr k off := by cases d <;> first | (exact (hd ⟨_, rfl⟩).elim) | (simp at hq; exact hq.symm)
            subst hv
            refine ⟨.pointer (some (e.at off)), ?_, e, he, rfl⟩
            cases d <;> first | (exact (hd ⟨_, rfl⟩).elim) | simp [receiverAt, ru hu]
    | false =>
      by_cases hd : ∃ elem, d = .pointer elem
      · obtain ⟨elem, rfl⟩ := hd
        simp only at hq
        cases whole with
        | true => simp at hq
        | false =>
          simp only [cond_false] at hq
          have := hwr rfl; subst this
          cases hg : x.get P h xt with
          | none => simp [hg] at hq
          | some a =>
            cases a <;> simp only [hg] at hq <;> try (cases hq; done)
            rename_i k off
            obtain ⟨u, h1, e, he, rfl⟩ := get_sound (P := P) R hx hg
            obtain ⟨u2, h3, h4⟩ := load_sound (P := P) R (a := .ptr k off) (x := .pointer (some (e.at off))) ⟨e, he, rfl⟩ hq
            rw [loadVar_of] at h3
            exact ⟨u2, by simp [receiverAt, ru hu, h1, asAddr, h3], h4⟩
      · have hq' : x.get P h xt = some v := by cases d <;> first | (exact (hd ⟨_, rfl⟩).elim) | (cases x <;> exact hq)
        obtain ⟨u, h1, h2⟩ := get_sound (P := P) R hx hq'
        refine ⟨u, ?_, h2⟩
        cases d <;> first | (exact (hd ⟨_, rfl⟩).elim) | simp [receiverAt, ru hu, h1]

theorem method_sound (R : HR ng n0 σ h w) : ∀ (n N : Nat) (t : TypeId) (v : AV) (u : Value) (name : String) (f : FuncId) (x : AV), n ≤ N → VR σ v u → amethod P h n t v name = some (f, x) →
    ∃ y, (method N t u name).run P w = .ok (f, y) w ∧ VR σ x y
  | 0, _, _, _, _, _, _, _, _, _, hq => by simp [amethod] at hq
  | n + 1, 0, _, _, _, _, _, _, hn, _, _ => by omega
  | n + 1, N + 1, t, v, u, name, f, x, hn, hv, hq => by
    simp only [amethod] at hq
    cases hi : P.info? t with
    | none => simp [hi] at hq
    | some i =>
      simp only [hi] at hq
      cases hm : i.methods.find? (·.name == name) with
      | none => simp [hm] at hq
      | some m =>
        simp only [hm] at hq
        cases hf : afollow P h m.path.toList t (.val v) with
        | none => simp [hf] at hq
        | some tx =>
          obtain ⟨xt, p⟩ := tx
          simp only [hf] at hq
          obtain ⟨y, h1, h2⟩ := follow_sound (P := P) R m.path.toList t (.val v) (.val u) xt p hv hf
          cases hfn : m.func with
          | none =>
            simp only [hfn] at hq
            cases hg : p.get P h xt with
            | none => simp [hg] at hq
            | some a =>
              cases a <;> simp only [hg] at hq <;> try (cases hq; done)
              rename_i t' v'
              obtain ⟨z, h3, y', rfl, h5⟩ := get_sound (P := P) R h2 hg
              obtain ⟨r, h6, h7⟩ := method_sound R n N t' v' y' name f x (by omega) h5 hq
              exact ⟨r, by simp [method, ri hi, hm, h1, hfn, h3, h6], h7⟩
          | some fp =>
            obtain ⟨g, ptr⟩ := fp
            simp only [hfn] at hq
            cases hr : areceiver P h xt p ptr m.path.isEmpty with
            | none => simp [hr] at hq
            | some z =>
              simp only [hr] at hq
              injection hq with hq; injection hq with e1 e2; subst e1; subst e2
              obtain ⟨r, h6, h7⟩ := receiver_sound (P := P) (wr := if m.path.isEmpty then some ((name.splitOn ".").getLastD name) else none) R h2 (fun hw => by simp [hw]) hr
              exact ⟨r, by simp only [method, Sem.run_bind, ri hi, Result.andThen_ok, hm, h1, hfn, h6, Sem.run_pure], h7⟩
end
end Go.Proofs.YtllipkakgjmheaaGreatDoor.Ev

/-
  The abstract machine: the start of a closed run: the listed package-level variables lie in memory.
-/
import Derived.Test.YtllipkakgjmheaaGreatDoorEvY
import Derived.Lib.LaidTab
import Derived.Lib.LaidU8
set_option linter.unusedVariables false
set_option linter.unusedSimpArgs false
set_option linter.constructorNameAsVariable false
namespace Go.Proofs.YtllipkakgjmheaaGreatDoor.Ev
open Go Go.RowKit

/-- What a package-level variable holds. -/
def GlobIs (w : World) (g : Nat) (cs : List AV) : Prop := ∃ c t fz, w.heap[g]? = some (.cells c t fz) ∧ ∀ σ : Sg, VRs σ cs (c.toList.take cs.length)
theorem GlobIs.lt {w : World} {g : Nat} {cs : List AV} (h : GlobIs w g cs) : g < w.heap.size := by
  obtain ⟨c, t, fz, h1, _⟩ := h
  exact (Array.getElem?_eq_some_iff.1 h1).1
theorem GlobIs.on {w w' : World} {B g : Nat} {cs : List AV} (h : GlobIs w g cs) (hg : g < B) (hb : Below B w w') : GlobIs w' g cs := by
  obtain ⟨c, t, fz, h1, h2⟩ := h
  exact ⟨c, t, fz, (hb.block g hg).trans h1, h2⟩
theorem GlobIs.of_tab {P : Program} {w : World} {n : String} {k : IntKind} {zs : List Int} {g : Nat} (h : Lib.TabIs P w n k zs) (hg : P.globalNamed n = some g) : GlobIs w g (zs.map (AV.int k)) := by
  unfold Lib.TabIs World.var? at h
  rw [hg] at h
  simp only [Option.bind_some] at h
  split at h
  · rename_i cs t fz hh
    injection h with h
    refine ⟨cs, t, fz, hh, fun σ => ?_⟩
    rw [h]
    rw [List.take_of_length_le (by simp)]
    exact VRs.map _ _ zs fun _ _ => rfl
  · cases h
theorem tab_of_reads {P : Program} {w : World} {n : String} {k : IntKind} {zs : List Int} {g len : Nat} {t e : TypeId} (hg : P.globalNamed n = some g) (hty : (P.globals[g]?).map (·.type) = some t) (ht : P.underlying t = some (.array len e))
    (he : P.underlying e = some (.int k)) (hce : P.cellsOf e = 1) (hct : P.cellsOf t = len) (h : Lib.VarReads P w n (Lib.tabData k zs)) : Lib.TabIs P w n k zs := by
  obtain ⟨g', t', cs, fuel, p, hg', ht', hvar, hd⟩ := h
  obtain rfl := Option.some.inj (hg.symm.trans hg')
  obtain rfl := Option.some.inj (hty.symm.trans ht')
  unfold Lib.TabIs
  rw [hvar, ← Lib.cells_of_tab ht he hce hct hd]

def sg0 (ng : Nat) (w : World) : Sg := fun k =>
  if k < ng then some ⟨k, 0, match w.heap[k]? with | some (.cells c _ _) => c.size | _ => 0⟩ else none
theorem tr_get {α : Type} : ∀ (l : List (Nat × α)) (t : Tr α) (k : Nat) (b : α), (tr l t).get k = some b → (k, b) ∈ l ∨ t.get k = some b
  | [], _, _, _, h => .inr h
  | (i, x) :: l, t, k, b, h => by
    rcases tr_get l _ k b h with h | h
    · exact .inl (List.mem_cons_of_mem _ h)
    · rw [Tr.get_set] at h
      by_cases hk : k = i
      · rw [if_pos hk] at h; injection h with h; subst h hk; exact .inl (List.mem_cons_self ..)
      · rw [if_neg hk] at h; exact .inr h
def gblocks (gl : List (Nat × List AV)) : List (Nat × ABlock) := gl.map fun p => (p.1, .cells true p.2)
def h0 (ng : Nat) (gl : List (Nat × List AV)) : AH := ⟨ng, tr (gblocks gl) .l⟩
theorem h0_get {ng : Nat} {gl : List (Nat × List AV)} {k : Nat} {b : ABlock} (h : (h0 ng gl).get k = some b) : ∃ cs, b = .cells true cs ∧ (k, cs) ∈ gl := by
  rcases tr_get _ _ k b h with h | h
  · obtain ⟨⟨k', cs⟩, hm, he⟩ := List.mem_map.1 h
    injection he with h1 h2
    subst h1 h2
    exact ⟨cs, rfl, hm⟩
  · rw [Tr.get_l] at h; cases h
theorem start_HR {ng : Nat} {gl : List (Nat × List AV)} {w : World} (hng : ng ≤ w.heap.size) (hl : ∀ p ∈ gl, p.1 < ng ∧ GlobIs w p.1 p.2) : HR ng w.heap.size (sg0 ng w) (h0 ng gl) w := by
  have hs : ∀ k e, sg0 ng w k = some e → k < ng ∧ e.blk = k ∧ e.base = 0 := fun k e h => by
    unfold sg0 at h
    by_cases hk : k < ng
    · rw [if_pos hk] at h; injection h with h; subst h; exact ⟨hk, rfl, rfl⟩
    · rw [if_neg hk] at h; cases h
  refine ⟨fun k e b h1 h2 => ?_, fun k hk => if_neg (Nat.not_lt.2 hk), fun k hk => ?_, fun k k' e e' b b' h1 h2 _ _ h5 => ?_, fun k e h => ?_, fun g hg => ⟨_, if_pos hg⟩, fun k e b _ h2 h3 => ?_, Nat.le_refl _, Nat.le_refl _⟩
  · obtain ⟨cs, rfl, hm⟩ := h0_get h2
    obtain ⟨hk, c, t, fz, hc, hv⟩ := hl _ hm
    have hk : k < ng := hk
    have hc : w.heap[k]? = some (.cells c t fz) := hc
    have he : e = ⟨k, 0, c.size⟩ := by
      unfold sg0 at h1
      rw [if_pos hk] at h1
      injection h1 with h1
      rw [← h1, hc]
    subst he
    exact ⟨c, t, fz, hc, rfl, .inl rfl, by simpa using hv _⟩
  · cases hx : (h0 ng gl).get k with
    | none => rfl
    | some b =>
      obtain ⟨cs, _, hm⟩ := h0_get hx
      have := (hl _ hm).1
      have : k < ng := this
      have hk : ng ≤ k := hk
      omega
  · have a := hs k e h1
    have b := hs k' e' h2
    omega
  · have a := hs k e h
    omega
  · obtain ⟨cs, rfl, _⟩ := h0_get h2
    cases h3

/-- a run's first state -/
noncomputable def st0 (lk : Lk) (ng : Nat) (f : FuncId) (gl : List (Nat × List AV)) : AM :=
  ⟨(match K.AFrame.enter lk f [] false with | some fr => fr | none => ⟨0, 0, .l, [], [], false, false, none⟩), [], h0 ng gl⟩
/-- **A CLOSED RUN THAT ANSWERS true.** -/
theorem calls_closed {P : Program} {lk : Lk} (hlk : lk = Lk.of P) {ng f : Nat} {gl : List (Nat × List AV)} {m' : AM} (hen : (K.AFrame.enter lk f [] false).isSome = true) (hrun : Leads P ng (st0 lk ng f gl) m') (hans : answer P f m' = some (.bool true))
    {w : World} (hng : ng ≤ w.heap.size) (hl : ∀ p ∈ gl, p.1 < ng ∧ GlobIs w p.1 p.2) :
    Calls P f #[] w fun e w' => e = .returned (.bool true) ∧ Below w.heap.size w w' := by
  subst hlk
  obtain ⟨fr, hfr⟩ := Option.isSome_iff_exists.1 hen
  have e : K.AFrame.enter (Lk.of P) f [] false = AFrame.enter P f [] false := congrFun (congrFun (congrFun (K.AFrame_enter_eq (P := P)) f) []) false
  have hst : st0 (Lk.of P) ng f gl = ⟨fr, [], h0 ng gl⟩ := by unfold st0; rw [hfr]
  rw [hst] at hrun
  refine (calls_leads (e.symm.trans hfr) (σ := sg0 ng w) (argv := #[]) trivial (start_HR hng hl) hrun hans).mono ?_
  rintro e w' ⟨u, σ', rfl, hv, hb⟩
  have hv : u = .bool true := hv
  rw [hv]
  exact ⟨rfl, hb⟩
end Go.Proofs.YtllipkakgjmheaaGreatDoor.Ev

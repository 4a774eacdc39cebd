/- The texts EbZ, EbC0, WfB of WriterFull, joined by program (tools/merge.py): walks of the functions that the law reaches, and plain facts; no condition. -/
import Derived.Test.YtfmopmjgohopeaaGreatDoorPart07
import Derived.Lib.LaidTab
import Derived.Lib.LaidU8
import Derived.Test.YtfmopmjgohopeaaGreatDoorProg
import Derived.KernelRfl
set_option linter.unusedVariables false
set_option linter.unusedSimpArgs false

/-
  The abstract machine: the start of a closed run: the listed package-level variables lie in memory.
-/
set_option linter.unusedVariables false
set_option linter.unusedSectionVars false
set_option linter.unusedSimpArgs false
set_option linter.constructorNameAsVariable false
namespace Go.Proofs.YtfmopmjgohopeaaGreatDoor.Ev
open Go Go.RowKit

/-- What a package-level variable holds. -/
def GlobIs (w : World) (g : Nat) (cs : List AV) : Prop := ∃ c t fz, w.heap[g]? = some (.cells c t fz) ∧ ∀ σ : Sg, VRs σ cs (c.toList.take cs.length)
theorem GlobIs.lt {w : World} {g : Nat} {cs : List AV} (h : GlobIs w g cs) : g < w.heap.size := by
  obtain ⟨c, t, fz, h1, _⟩ := h
  exact (Array.getElem?_eq_some_iff.1 h1).1
theorem GlobIs.on {w w' : World} {B g : Nat} {cs : List AV} (h : GlobIs w g cs) (hg : g < B) (hb : Below B w w') : GlobIs w' g cs := by
  obtain ⟨c, t, fz, h1, h2⟩ := h
  exact ⟨c, t, fz, (hb.block g hg).trans h1, h2⟩
theorem GlobIs.of_tab {P : Program} {w : World} {n : String} {k : IntKind} {zs : List Int} {g : Nat} (h : Lib.TabIs P w n k zs) (hg : P.globalNamed n = some g) : GlobIs w g (zs.map (AV.int k)) := by
  unfold Lib.TabIs World.var? at h
  rw [hg] at h
  simp only [Option.bind_some] at h
  split at h
  · rename_i cs t fz hh
    injection h with h
    refine ⟨cs, t, fz, hh, fun σ => ?_⟩
    rw [h]
    rw [List.take_of_length_le (by simp)]
    exact VRs.map _ _ zs fun _ _ => rfl
  · cases h
theorem tab_of_reads {P : Program} {w : World} {n : String} {k : IntKind} {zs : List Int} {g len : Nat} {t e : TypeId} (hg : P.globalNamed n = some g) (hty : (P.globals[g]?).map (·.type) = some t) (ht : P.underlying t = some (.array len e))
    (he : P.underlying e = some (.int k)) (hce : P.cellsOf e = 1) (hct : P.cellsOf t = len) (h : Lib.VarReads P w n (Lib.tabData k zs)) : Lib.TabIs P w n k zs := by
  obtain ⟨g', t', cs, fuel, p, hg', ht', hvar, hd⟩ := h
  obtain rfl := Option.some.inj (hg.symm.trans hg')
  obtain rfl := Option.some.inj (hty.symm.trans ht')
  unfold Lib.TabIs
  rw [hvar, ← Lib.cells_of_tab ht he hce hct hd]

def sg0 (ng : Nat) (w : World) : Sg := fun k =>
  if k < ng then some ⟨k, 0, match w.heap[k]? with | some (.cells c _ _) => c.size | _ => 0⟩ else none
theorem tr_get {α : Type} : ∀ (l : List (Nat × α)) (t : Tr α) (k : Nat) (b : α), (tr l t).get k = some b → (k, b) ∈ l ∨ t.get k = some b
  | [], _, _, _, h => .inr h
  | (i, x) :: l, t, k, b, h => by
    rcases tr_get l _ k b h with h | h
    · exact .inl (List.mem_cons_of_mem _ h)
    · rw [Tr.get_set] at h
      by_cases hk : k = i
      · rw [if_pos hk] at h; injection h with h; subst h hk; exact .inl (List.mem_cons_self ..)
      · rw [if_neg hk] at h; exact .inr h
def gblocks (gl : List (Nat × List AV)) : List (Nat × ABlock) := gl.map fun p => (p.1, .cells true (.av p.2))
def h0 (ng : Nat) (gl : List (Nat × List AV)) : AH := ⟨ng, tr (gblocks gl) .l⟩
theorem h0_get {ng : Nat} {gl : List (Nat × List AV)} {k : Nat} {b : ABlock} (h : (h0 ng gl).get k = some b) : ∃ cs, b = .cells true (.av cs) ∧ (k, cs) ∈ gl := by
  rcases tr_get _ _ k b h with h | h
  · obtain ⟨⟨k', cs⟩, hm, he⟩ := List.mem_map.1 h
    injection he with h1 h2
    subst h1 h2
    exact ⟨cs, rfl, hm⟩
  · rw [Tr.get_l] at h; cases h
theorem start_HR {ng : Nat} {gl : List (Nat × List AV)} {w : World} (hng : ng ≤ w.heap.size) (hl : ∀ p ∈ gl, p.1 < ng ∧ GlobIs w p.1 p.2) : HR ng w.heap.size (sg0 ng w) (h0 ng gl) w := by
  have hs : ∀ k e, sg0 ng w k = some e → k < ng ∧ e.blk = k ∧ e.base = 0 := fun k e h => by
    unfold sg0 at h
    by_cases hk : k < ng
    · rw [if_pos hk] at h; injection h with h; subst h; exact ⟨hk, rfl, rfl⟩
    · rw [if_neg hk] at h; cases h
  refine ⟨fun k e b h1 h2 => ?_, fun k hk => if_neg (Nat.not_lt.2 hk), fun k hk => ?_, fun k k' e e' b b' h1 h2 _ _ h5 => ?_, fun k e h => ?_, fun g hg => ⟨_, if_pos hg⟩, fun k e b _ h2 h3 => ?_, Nat.le_refl _, Nat.le_refl _⟩
  · obtain ⟨cs, rfl, hm⟩ := h0_get h2
    obtain ⟨hk, c, t, fz, hc, hv⟩ := hl _ hm
    have hk : k < ng := hk
    have hc : w.heap[k]? = some (.cells c t fz) := hc
    have he : e = ⟨k, 0, c.size⟩ := by
      unfold sg0 at h1
      rw [if_pos hk] at h1
      injection h1 with h1
      rw [← h1, hc]
    subst he
    exact ⟨c, t, fz, hc, rfl, .inl rfl, by show VRs _ cs (List.take cs.length _); simpa using hv _⟩
  · cases hx : (h0 ng gl).get k with
    | none => rfl
    | some b =>
      obtain ⟨cs, _, hm⟩ := h0_get hx
      have := (hl _ hm).1
      have : k < ng := this
      have hk : ng ≤ k := hk
      omega
  · have a := hs k e h1
    have b := hs k' e' h2
    omega
  · have a := hs k e h
    omega
  · obtain ⟨cs, rfl, _⟩ := h0_get h2
    cases h3

/-- a run's first state -/
noncomputable def st0 (lk : Lk) (ng : Nat) (f : FuncId) (gl : List (Nat × List AV)) : AM :=
  ⟨(match K.AFrame.enter lk f [] false with | some fr => fr | none => ⟨0, 0, .l, [], [], false, false, none⟩), [], h0 ng gl⟩
/-- **A CLOSED RUN THAT ANSWERS true.** -/
theorem calls_closed {P : Program} {lk : Lk} (hlk : lk = Lk.of P) {ng f : Nat} {gl : List (Nat × List AV)} {m' : AM} (hen : (K.AFrame.enter lk f [] false).isSome = true) (hrun : Leads P ng (st0 lk ng f gl) m') (hans : answer P f m' = some (.bool true))
    {w : World} (hng : ng ≤ w.heap.size) (hl : ∀ p ∈ gl, p.1 < ng ∧ GlobIs w p.1 p.2) :
    Calls P f #[] w fun e w' => e = .returned (.bool true) ∧ Below w.heap.size w w' := by
  subst hlk
  obtain ⟨fr, hfr⟩ := Option.isSome_iff_exists.1 hen
  have e : K.AFrame.enter (Lk.of P) f [] false = AFrame.enter P f [] false := congrFun (congrFun (congrFun (K.AFrame_enter_eq (P := P)) f) []) false
  have hst : st0 (Lk.of P) ng f gl = ⟨fr, [], h0 ng gl⟩ := by unfold st0; rw [hfr]
  rw [hst] at hrun
  refine (calls_leads (e.symm.trans hfr) (σ := sg0 ng w) (argv := #[]) trivial (start_HR hng hl) hrun hans).mono ?_
  rintro e w' ⟨u, σ', rfl, hv, hb⟩
  have hv : u = .bool true := hv
  rw [hv]
  exact ⟨rfl, hb⟩
end Go.Proofs.YtfmopmjgohopeaaGreatDoor.Ev

/-
  The seat's program on the abstract machine: its tables, the start of a run; short words for what is printed.
-/
set_option linter.unusedVariables false
set_option linter.unusedSimpArgs false
set_option linter.constructorNameAsVariable false
namespace Go.Proofs.YtfmopmjgohopeaaGreatDoor.Ev
open Go
set_option maxRecDepth 1000000
noncomputable def F : Tr Func := ofL 12 Tryz.prog.funcs.toList
noncomputable def TY : Tr TypeInfo := ofL 12 Tryz.prog.types.toList
noncomputable def LK : Lk := lkOf Tryz.prog TY F
theorem hLK : LK = Lk.of Tryz.prog :=
  lk_eq (Nat.le_of_ble_eq_true (show Nat.ble (Tryz.prog.types.toList.length + 1) (2 ^ 12) = true by kernel_rfl)) (Nat.le_of_ble_eq_true (show Nat.ble (Tryz.prog.funcs.toList.length + 1) (2 ^ 12) = true by kernel_rfl))
theorem hTypes : 8 ≤ Tryz.prog.types.size := Nat.le_of_ble_eq_true (show Nat.ble 8 Tryz.prog.types.size = true by kernel_rfl)
theorem hMix : Tryz.prog.follows .mixedOrders = true := by kernel_rfl
noncomputable def R := rg F
noncomputable def D := dw F
noncomputable def C := ci F
noncomputable def L := li F
noncomputable def S := si F
def np : AV := .lit (.pointer none)
def ns : AV := .lit (.slice none 0 0)
def nm : AV := .lit (.map none)
def nf : AV := .lit .nilFunc
def ni : AV := .lit .nilIface
def tt : AV := .bool true
def ff : AV := .bool false
def uv : AV := .tuple []
end Go.Proofs.YtfmopmjgohopeaaGreatDoor.Ev

/-
  Blocks that stand in several states of a closed run, printed by a program; the kernel runs them.
-/
set_option linter.unusedVariables false
set_option linter.unusedSimpArgs false
set_option linter.constructorNameAsVariable false
namespace Go.Proofs.YtfmopmjgohopeaaGreatDoor.Wf
open Go Go.Proofs.YtfmopmjgohopeaaGreatDoor Go.Proofs.YtfmopmjgohopeaaGreatDoor.Ev
set_option maxRecDepth 1000000
set_option maxHeartbeats 0
noncomputable def b0 : ABlock := .cells true (.av (by8 [240, 240, 240, 240, 240, 240, 240, 240, 240, 240, 240, 240, 240, 240, 240, 240, 240, 240, 240, 240, 240, 240, 240, 240, 240, 240, 240, 240, 240, 240, 240, 240, 240, 240, 240, 240, 240, 240, 240, 240, 240, 240, 240, 240, 240, 240, 240, 240, 240, 240, 240, 240, 240, 240, 240, 240, 240, 240, 240, 240, 240, 240, 240, 240, 240, 240, 240, 240, 240, 240, 240, 240, 240, 240, 240, 240, 240, 240, 240, 240, 240, 240, 240, 240, 240, 240, 240, 240, 240, 240, 240, 240, 240, 240, 240, 240, 240, 240, 240, 240, 240, 240, 240, 240, 240, 240, 240, 240, 240, 240, 240, 240, 240, 240, 240, 240, 240, 240, 240, 240, 240, 240, 240, 240, 240, 240, 240, 240, 241, 241, 241, 241, 241, 241, 241, 241, 241, 241, 241, 241, 241, 241, 241, 241, 241, 241, 241, 241, 241, 241, 241, 241, 241, 241, 241, 241, 241, 241, 241, 241, 241, 241, 241, 241, 241, 241, 241, 241, 241, 241, 241, 241, 241, 241, 241, 241, 241, 241, 241, 241, 241, 241, 241, 241, 241, 241, 241, 241, 241, 241, 241, 241, 241, 241, 2, 2, 2, 2, 2, 2, 2, 2, 2, 2, 2, 2, 2, 2, 2, 2, 2, 2, 2, 2, 2, 2, 2, 2, 2, 2, 2, 2, 2, 2, 19, 3, 3, 3, 3, 3, 3, 3, 3, 3, 3, 3, 3, 35, 3, 3, 52, 4, 4, 4, 68, 241, 241, 241, 241, 241, 241, 241, 241, 241, 241, 241]))
noncomputable def b1 : ABlock := .cells true (.av (by8 [128, 191, 160, 191, 128, 159, 144, 191, 128, 143, 0, 0, 0, 0, 0, 0, 0, 0, 0, 0, 0, 0, 0, 0, 0, 0, 0, 0, 0, 0, 0, 0]))
noncomputable def b2 : ABlock := .cells true (.av (by8 [0, 1, 56, 2, 57, 49, 28, 3, 61, 58, 42, 50, 38, 29, 17, 4, 62, 47, 59, 36, 45, 43, 51, 22, 53, 39, 33, 30, 24, 18, 12, 5, 63, 55, 48, 27, 60, 41, 37, 16, 46, 35, 44, 21, 52, 32, 23, 11, 54, 26, 40, 15, 34, 20, 31, 10, 25, 14, 19, 9, 13, 8, 7, 6]))
noncomputable def b3 : ABlock := wc [(.str ⟨1, 116⟩), (ii 1), (.slice 8 0 1 (.is 1)), (ii 0), (ii 0), tt, ff]
noncomputable def b4 : ABlock := wc [(.str ⟨1, 116⟩), (ii 1), (.slice 202 0 1 (.is 1)), (ii 0), (ii 0), tt, ff]
noncomputable def b5 : ABlock := wc [(.slice 200 0 1 (.is 1)), (ii 64), (ii 2), (ii 0), (uu 0), ns, ns, (ii 0), ns, ns, (ii 0), ns, ns, (ii 0), ns, ns, (ii 0), ns, ns, (ii 0), ns, ns, (ii 0), ns, ns, (ii 0), ns, ns, (ii 0), ns]
noncomputable def b6 : ABlock := wc [(.str ⟨1, 116⟩), (.str ⟨4096, 0⟩), ns]
noncomputable def b7 : ABlock := wc [(.str ⟨1, 116⟩), (.str ⟨4096, 0⟩), ns, (.str ⟨1, 116⟩), (.str ⟨4096, 0⟩), ns, (.str ⟨1, 116⟩), (.str ⟨4096, 0⟩), ns, (.str ⟨1, 116⟩), (.str ⟨4096, 0⟩), ns, (.str ⟨1, 116⟩), (.str ⟨4096, 0⟩), ns, (.str ⟨1, 116⟩), (.str ⟨4096, 0⟩), ns, (.str ⟨1, 116⟩), (.str ⟨4096, 0⟩), ns, (.str ⟨1, 116⟩), (.str ⟨4096, 0⟩), ns, (.str ⟨1, 116⟩), (.str ⟨4096, 0⟩), ns, (.str ⟨1, 116⟩), (.str ⟨4096, 0⟩), ns, (.str ⟨1, 116⟩), (.str ⟨4096, 0⟩), ns, (.str ⟨1, 116⟩), (.str ⟨4096, 0⟩), ns, (.str ⟨1, 116⟩), (.str ⟨4096, 0⟩), ns, (.str ⟨1, 116⟩), (.str ⟨4096, 0⟩), ns, (.str ⟨1, 116⟩), (.str ⟨4096, 0⟩), ns, (.str ⟨1, 116⟩), (.str ⟨4096, 0⟩), ns, (.str ⟨1, 116⟩), (.str ⟨4096, 0⟩), ns, (.str ⟨1, 116⟩), (.str ⟨4096, 0⟩), ns, (.str ⟨1, 116⟩), (.str ⟨4096, 0⟩), ns, (.str ⟨1, 116⟩), (.str ⟨4096, 0⟩), ns, (.str ⟨1, 116⟩), (.str ⟨4096, 0⟩), ns, (.str ⟨1, 116⟩), (.str ⟨4096, 0⟩), ns, (.str ⟨1, 116⟩), (.str ⟨4096, 0⟩), ns, (.str ⟨1, 116⟩), (.str ⟨4096, 0⟩), ns, (.str ⟨1, 116⟩), (.str ⟨4096, 0⟩), ns, (.str ⟨1, 116⟩), (.str ⟨4096, 0⟩), ns, (.str ⟨1, 116⟩), (.str ⟨4096, 0⟩), ns, (.str ⟨1, 116⟩), (.str ⟨4096, 0⟩), ns, (.str ⟨1, 116⟩), (.str ⟨4096, 0⟩), ns, (.str ⟨1, 116⟩), (.str ⟨4096, 0⟩), ns, (.str ⟨1, 116⟩), (.str ⟨4096, 0⟩), ns, (.str ⟨1, 116⟩), (.str ⟨4096, 0⟩), ns, (.str ⟨1, 116⟩), (.str ⟨4096, 0⟩), ns, (.str ⟨1, 116⟩), (.str ⟨4096, 0⟩), ns, (.str ⟨1, 116⟩), (.str ⟨4096, 0⟩), ns, (.str ⟨1, 116⟩), (.str ⟨4096, 0⟩), ns, (.str ⟨1, 116⟩), (.str ⟨4096, 0⟩), ns, (.str ⟨1, 116⟩), (.str ⟨4096, 0⟩), ns, (.str ⟨1, 116⟩), (.str ⟨4096, 0⟩), ns, (.str ⟨1, 116⟩), (.str ⟨4096, 0⟩), ns, (.str ⟨1, 116⟩), (.str ⟨4096, 0⟩), ns, (.str ⟨1, 116⟩), (.str ⟨4096, 0⟩), ns, (.str ⟨1, 116⟩), (.str ⟨4096, 0⟩), ns, (.str ⟨1, 116⟩), (.str ⟨4096, 0⟩), ns, (.str ⟨1, 116⟩), (.str ⟨4096, 0⟩), ns, (.str ⟨1, 116⟩), (.str ⟨4096, 0⟩), ns, (.str ⟨1, 116⟩), (.str ⟨4096, 0⟩), ns, (.str ⟨1, 116⟩), (.str ⟨4096, 0⟩), ns, (.str ⟨1, 116⟩), (.str ⟨4096, 0⟩), ns, (.str ⟨1, 116⟩), (.str ⟨4096, 0⟩), ns, (.str ⟨1, 116⟩), (.str ⟨4096, 0⟩), ns, (.str ⟨1, 116⟩), (.str ⟨4096, 0⟩), ns, (.str ⟨1, 116⟩), (.str ⟨4096, 0⟩), ns, (.str ⟨1, 116⟩), (.str ⟨4096, 0⟩), ns, (.str ⟨1, 116⟩), (.str ⟨4096, 0⟩), ns, (.str ⟨1, 116⟩), (.str ⟨4096, 0⟩), ns, (.str ⟨1, 116⟩), (.str ⟨4096, 0⟩), ns, (.str ⟨1, 116⟩), (.str ⟨4096, 0⟩), ns, (.str ⟨1, 116⟩), (.str ⟨4096, 0⟩), ns, (.str ⟨1, 116⟩), (.str ⟨4096, 0⟩), ns, (.str ⟨1, 116⟩), (.str ⟨4096, 0⟩), ns, (.str ⟨1, 116⟩), (.str ⟨4096, 0⟩), ns, (.str ⟨1, 116⟩), (.str ⟨4096, 0⟩), ns]
noncomputable def b8 : ABlock := wc [(.slice 200 0 1 (.is 1)), (ii 64), (ii 2), (ii 0), (uu 3), ns, ns, (ii 0), ns, ns, (ii 0), ns, ns, (ii 0), (.slice 1448 0 3 (.room 2)), (.slice 1450 0 3 (.room 1)), (ii 262144), ns, ns, (ii 0), ns, ns, (ii 0), ns, ns, (ii 0), ns, ns, (ii 0), ns]
noncomputable def b9 : ABlock := wc [(.str ⟨1, 116⟩), (.str ⟨4095, 0⟩), ns]
noncomputable def b10 : ABlock := wc [(uu 1), (.slice 1355 0 63 (.room 3)), (uu 2), (.slice 1401 0 1 (.room 3)), (uu 3), (.slice 1446 0 1 (.room 3))]
noncomputable def b11 : ABlock := wc [ns, ns, ns, ns, ns, ns, (.slice 200 0 1 (.is 1)), (ii 0), (.map 1468)]
noncomputable def b12 : ABlock := wc [(uu 1), (.slice 1355 0 63 (.room 3))]
noncomputable def b13 : ABlock := wc [(ii 0), (.str ⟨4096, 0⟩), ns, (ii 0), (.str ⟨4096, 0⟩), ns, (ii 0), (.str ⟨4096, 0⟩), ns, (ii 0), (.str ⟨4096, 0⟩), ns, (ii 0), (.str ⟨4096, 0⟩), ns, (ii 0), (.str ⟨4096, 0⟩), ns, (ii 0), (.str ⟨4096, 0⟩), ns, (ii 0), (.str ⟨4096, 0⟩), ns, (ii 0), (.str ⟨4096, 0⟩), ns, (ii 0), (.str ⟨4096, 0⟩), ns, (ii 0), (.str ⟨4096, 0⟩), ns, (ii 0), (.str ⟨4096, 0⟩), ns, (ii 0), (.str ⟨4096, 0⟩), ns, (ii 0), (.str ⟨4096, 0⟩), ns, (ii 0), (.str ⟨4096, 0⟩), ns, (ii 0), (.str ⟨4096, 0⟩), ns, (ii 0), (.str ⟨4096, 0⟩), ns, (ii 0), (.str ⟨4096, 0⟩), ns, (ii 0), (.str ⟨4096, 0⟩), ns, (ii 0), (.str ⟨4096, 0⟩), ns, (ii 0), (.str ⟨4096, 0⟩), ns, (ii 0), (.str ⟨4096, 0⟩), ns, (ii 0), (.str ⟨4096, 0⟩), ns, (ii 0), (.str ⟨4096, 0⟩), ns, (ii 0), (.str ⟨4096, 0⟩), ns, (ii 0), (.str ⟨4096, 0⟩), ns, (ii 0), (.str ⟨4096, 0⟩), ns, (ii 0), (.str ⟨4096, 0⟩), ns, (ii 0), (.str ⟨4096, 0⟩), ns, (ii 0), (.str ⟨4096, 0⟩), ns, (ii 0), (.str ⟨4096, 0⟩), ns, (ii 0), (.str ⟨4096, 0⟩), ns, (ii 0), (.str ⟨4096, 0⟩), ns, (ii 0), (.str ⟨4096, 0⟩), ns, (ii 0), (.str ⟨4096, 0⟩), ns, (ii 0), (.str ⟨4096, 0⟩), ns, (ii 0), (.str ⟨4096, 0⟩), ns, (ii 0), (.str ⟨4096, 0⟩), ns, (ii 0), (.str ⟨4096, 0⟩), ns, (ii 0), (.str ⟨4096, 0⟩), ns, (ii 0), (.str ⟨4096, 0⟩), ns, (ii 0), (.str ⟨4096, 0⟩), ns, (ii 0), (.str ⟨4096, 0⟩), ns, (ii 0), (.str ⟨4096, 0⟩), ns, (ii 0), (.str ⟨4096, 0⟩), ns, (ii 0), (.str ⟨4096, 0⟩), ns, (ii 0), (.str ⟨4096, 0⟩), ns, (ii 0), (.str ⟨4096, 0⟩), ns, (ii 0), (.str ⟨4096, 0⟩), ns, (ii 0), (.str ⟨4096, 0⟩), ns, (ii 0), (.str ⟨4096, 0⟩), ns, (ii 0), (.str ⟨4096, 0⟩), ns, (ii 0), (.str ⟨4096, 0⟩), ns, (ii 0), (.str ⟨4096, 0⟩), ns, (ii 0), (.str ⟨4096, 0⟩), ns, (ii 0), (.str ⟨4096, 0⟩), ns, (ii 0), (.str ⟨4096, 0⟩), ns, (ii 0), (.str ⟨4096, 0⟩), ns, (ii 0), (.str ⟨4096, 0⟩), ns, (ii 0), (.str ⟨4096, 0⟩), ns, (ii 0), (.str ⟨4096, 0⟩), ns, (ii 0), (.str ⟨4096, 0⟩), ns, (ii 0), (.str ⟨4096, 0⟩), ns]
noncomputable def b14 : ABlock := wc [(.str ⟨4096, 0⟩), (ii 5555), (ii 0), (ii 4096)]
noncomputable def b15 : ABlock := wc (by6 [0, 101, 202, 303, 404, 505, 606, 707, 808, 909, 1010, 1111, 1212, 1313, 1414, 1515, 1616, 1717, 1818, 1919, 2020, 2121, 2222, 2323, 2424, 2525, 2626, 2727, 2828, 2929, 3030, 3131, 3232, 3333, 3434, 3535, 3636, 3737, 3838, 3939, 4040, 4141, 4242, 4343, 4444, 4545, 4646, 4747, 4848, 4949, 5050, 5151, 5252, 5353, 5454, 5555, 5656, 5757, 5858, 5959, 6060, 6161, 6262])
noncomputable def b16 : ABlock := wc [(.slice 2433 0 63 (.is 63)), (.slice 3114 0 1 (.is 1)), (.slice 3175 0 1 (.is 1))]
noncomputable def b17 : ABlock := wc [(.str ⟨4095, 0⟩), (.str ⟨4096, 0⟩), (.str ⟨1, 97⟩)]
noncomputable def b18 : ABlock := wc [(.slice 3172 0 3 (.is 3)), (.slice 3178 0 3 (.is 3)), (.slice 3255 0 1 (.is 1))]
noncomputable def b19 : ABlock := wc [(.slice 3223 0 1 (.is 1)), (.slice 3236 0 1 (.is 1)), (.slice 3249 0 1 (.is 1))]
noncomputable def b20 : ABlock := wc [(.slice 3251 0 3 (.is 3)), (.slice 3253 0 3 (.is 3)), (.slice 3202 0 3 (.is 3)), ns, ns, ns]
noncomputable def b21 : ABlock := (wb [(16, 43202262721256766473315924215376970499), (4097, 0), (4, 545289217), (4097, 0), (4, 545289217), (4097, 0), (4, 545289217), (4097, 0), (4, 545289217), (4097, 0), (4, 545289217), (4097, 0), (4, 545289217), (4097, 0), (4, 545289217), (4097, 0), (4, 545289217), (4097, 0), (4, 545289217), (4097, 0), (4, 545289217), (4097, 0), (4, 545289217), (4097, 0), (4, 545289217), (4097, 0), (4, 545289217), (4097, 0), (4, 545289217), (4097, 0), (4, 545289217), (4097, 0), (4, 545289217), (4097, 0), (4, 545289217), (4097, 0), (4, 545289217), (4097, 0), (4, 545289217), (4097, 0), (4, 545289217), (4097, 0), (4, 545289217), (4097, 0), (4, 545289217), (4097, 0), (4, 545289217), (4097, 0), (4, 545289217), (4097, 0), (4, 545289217), (4097, 0), (4, 545289217), (4097, 0), (4, 545289217), (4097, 0), (4, 545289217), (4097, 0), (4, 545289217), (4097, 0), (4, 545289217), (4097, 0), (4, 545289217), (4097, 0), (4, 545289217), (4097, 0), (4, 545289217), (4097, 0), (4, 545289217), (4097, 0), (4, 545289217), (4097, 0), (4, 545289217), (4097, 0), (4, 545289217), (4097, 0), (4, 545289217), (4097, 0), (4, 545289217), (4097, 0), (4, 545289217), (4097, 0), (4, 545289217), (4097, 0), (4, 545289217), (4097, 0), (4, 545289217), (4097, 0), (4, 545289217), (4097, 0), (4, 545289217), (4097, 0), (4, 545289217), (4097, 0), (4, 545289217), (4097, 0), (4, 545289217), (4097, 0), (4, 545289217), (4097, 0), (4, 545289217), (4097, 0), (4, 545289217), (4097, 0), (4, 545289217), (4097, 0), (4, 545289217), (4097, 0), (4, 545289217), (4097, 0), (4, 545289217), (4097, 0), (4, 545289217), (4097, 0), (4, 545289217), (4097, 0), (4, 545289217), (4097, 0), (4, 545289217), (4097, 0), (4, 545289217), (4097, 0), (4, 545289217), (4097, 0), (4, 545289217), (4097, 0), (5, 137429778689), (4096, 0), (6, 416636207361)])
noncomputable def b22 : ABlock := wc [(.slice 3283 0 4 (.room 1)), (.slice 4254 0 262482 (.room 1))]
noncomputable def b23 : ABlock := (.cells false (.bt ⟨83, 1090982350648806363127049362338642038171220832592476555197808608003328765775769176685365238273744482199902784315556162747399861881393005010252095047602688622302435247808097509381775689217⟩))
noncomputable def b24 : ABlock := (wb [(3, 2096899), (4095, 0), (10, 393322152962153653542911)])
noncomputable def b25 : ABlock := (wb [(33, 3763447863073145968052391431781666631773780824846104858229554600929839250756684), (4097, 0), (4, 545289217), (4097, 0), (4, 545289217), (4097, 0), (4, 545289217), (4097, 0), (4, 545289217), (4097, 0), (4, 545289217), (4097, 0), (4, 545289217), (4097, 0), (4, 545289217), (4097, 0), (4, 545289217), (4097, 0), (4, 545289217), (4097, 0), (4, 545289217), (4097, 0), (4, 545289217), (4097, 0), (4, 545289217), (4097, 0), (4, 545289217), (4097, 0), (4, 545289217), (4097, 0), (4, 545289217), (4097, 0), (4, 545289217), (4097, 0), (4, 545289217), (4097, 0), (4, 545289217), (4097, 0), (4, 545289217), (4097, 0), (4, 545289217), (4097, 0), (4, 545289217), (4097, 0), (4, 545289217), (4097, 0), (4, 545289217), (4097, 0), (4, 545289217), (4097, 0), (4, 545289217), (4097, 0), (4, 545289217), (4097, 0), (4, 545289217), (4097, 0), (4, 545289217), (4097, 0), (4, 545289217), (4097, 0), (4, 545289217), (4097, 0), (4, 545289217), (4097, 0), (4, 545289217), (4097, 0), (4, 545289217), (4097, 0), (4, 545289217), (4097, 0), (4, 545289217), (4097, 0), (4, 545289217), (4097, 0), (4, 545289217), (4097, 0), (4, 545289217), (4097, 0), (4, 545289217), (4097, 0), (4, 545289217), (4097, 0), (4, 545289217), (4097, 0), (4, 545289217), (4097, 0), (4, 545289217), (4097, 0), (4, 545289217), (4097, 0), (4, 545289217), (4097, 0), (4, 545289217), (4097, 0), (4, 545289217), (4097, 0), (4, 545289217), (4097, 0), (4, 545289217), (4097, 0), (4, 545289217), (4097, 0), (4, 545289217), (4097, 0), (4, 545289217), (4097, 0), (4, 545289217), (4097, 0), (4, 545289217), (4097, 0), (4, 545289217), (4097, 0), (4, 545289217), (4097, 0), (4, 545289217), (4097, 0), (4, 545289217), (4097, 0), (4, 545289217), (4097, 0), (4, 545289217), (4097, 0), (4, 545289217), (4097, 0), (4, 545289217), (4097, 0), (5, 137429778689), (4096, 0), (9, 590224597606234063105), (4095, 0), (102, 371434490014929589492219097298318342445631879283730400959843947546594821289788587345251455899148408254075375438126906211075682616163693023823074179926869005046874590504300729974640753440723425394032031660867697789359199693169569396974352708214783)])
noncomputable def b26 : ABlock := wc [(.slice 4690 0 4 (.is 4)), (.slice 4695 0 262482 (.is 262482)), (.slice 4700 0 4108 (.is 4108)), (.slice 4705 0 83 (.is 83)), (.slice 4710 0 5 (.is 5))]
noncomputable def b27 : ABlock := wc [(.slice 4715 0 4 (.room 1)), (ii 4), (ii 0)]
noncomputable def b28 : ABlock := wc [(.str ⟨1, 116⟩), (ii 1), (.slice 4743 0 1 (.is 1)), (ii 0), (ii 0), tt, ff]
noncomputable def b29 : ABlock := wc [(.slice 4749 0 262482 (.room 1)), (ii 258375), (ii 0)]
noncomputable def b30 : ABlock := wc [(ii 0), (ii 1), (.slice 4780 0 258364 (.is 258364)), (ii 1), (ii 2), ns, (ii 2), (ii 3), ns]
noncomputable def b31 : ABlock := (wb [(5, 139594039615), (4097, 0), (4, 545289217), (4097, 0), (4, 545289217), (4097, 0), (4, 545289217), (4097, 0), (4, 545289217), (4097, 0), (4, 545289217), (4097, 0), (4, 545289217), (4097, 0), (4, 545289217), (4097, 0), (4, 545289217), (4097, 0), (4, 545289217), (4097, 0), (4, 545289217), (4097, 0), (4, 545289217), (4097, 0), (4, 545289217), (4097, 0), (4, 545289217), (4097, 0), (4, 545289217), (4097, 0), (4, 545289217), (4097, 0), (4, 545289217), (4097, 0), (4, 545289217), (4097, 0), (4, 545289217), (4097, 0), (4, 545289217), (4097, 0), (4, 545289217), (4097, 0), (4, 545289217), (4097, 0), (4, 545289217), (4097, 0), (4, 545289217), (4097, 0), (4, 545289217), (4097, 0), (4, 545289217), (4097, 0), (4, 545289217), (4097, 0), (4, 545289217), (4097, 0), (4, 545289217), (4097, 0), (4, 545289217), (4097, 0), (4, 545289217), (4097, 0), (4, 545289217), (4097, 0), (4, 545289217), (4097, 0), (4, 545289217), (4097, 0), (4, 545289217), (4097, 0), (4, 545289217), (4097, 0), (4, 545289217), (4097, 0), (4, 545289217), (4097, 0), (4, 545289217), (4097, 0), (4, 545289217), (4097, 0), (4, 545289217), (4097, 0), (4, 545289217), (4097, 0), (4, 545289217), (4097, 0), (4, 545289217), (4097, 0), (4, 545289217), (4097, 0), (4, 545289217), (4097, 0), (4, 545289217), (4097, 0), (4, 545289217), (4097, 0), (4, 545289217), (4097, 0), (4, 545289217), (4097, 0), (4, 545289217), (4097, 0), (4, 545289217), (4097, 0), (4, 545289217), (4097, 0), (4, 545289217), (4097, 0), (4, 545289217), (4097, 0), (4, 545289217), (4097, 0), (4, 545289217), (4097, 0), (4, 545289217), (4097, 0), (4, 545289217), (4097, 0), (4, 545289217), (4097, 0), (4, 545289217), (4097, 0), (4, 545289217), (4097, 0), (4, 545289217), (4097, 0)])
noncomputable def b32 : ABlock := wc [(ii 0), (ii 1), (.slice 4780 0 258364 (.is 258364))]
noncomputable def b33 : ABlock := .loop ⟨.ready, none, 62, 150, (tr [(0, (.slice 4695 0 262482 (.is 262482))), (2, (.ptr 4746 0)), (3, (.ptr 4747 0)), (4, (.ptr 4750 0)), (5, (ii 3)), (6, (ii 3)), (7, (.slice 4756 0 3 (.is 3))), (8, (ii 2)), (9, (.ptr 4773 0)), (10, (ii 0)), (11, (.ptr 4777 0)), (17, (.func 128 [] [(.ptr 4746 0), (.ptr 4747 0)])), (18, (.slice 4695 0 262482 (.is 262482))), (19, (.ptr 4750 0)), (20, (.ptr 4750 0)), (21, (ii 3)), (22, (.agg [ns, (ii 3)])), (23, (.ptr 4753 0)), (24, (.ptr 4750 0)), (25, (.ptr 4753 0)), (26, (.ptr 4753 0)), (27, (.ptr 4753 1)), (28, (ii 3)), (29, (ii 3)), (30, (.ptr 4750 0)), (31, uv), (32, (ii 3)), (33, (.slice 4756 0 3 (.is 3))), (34, (ii 3)), (35, (ii 3)), (36, ff), (37, (ii 2)), (38, (ii 2)), (39, (ii 2)), (40, (.ptr 4750 0)), (41, (ii 1)), (42, (ii 3)), (43, (.agg [(ii 2), (ii 3), ns])), (44, (.slice 4756 0 3 (.is 3))), (45, (ii 2)), (46, (.ptr 4750 0)), (47, (.slice 4695 0 262482 (.is 262482))), (48, (ii 262482)), (49, (ii 6)), (50, (.ptr 4756 2)), (51, (.ptr 4750 0)), (52, (.ptr 4773 1)), (53, (ii 3)), (54, (.ptr 4773 0)), (55, (ii 2)), (56, tt), (57, tt), (58, (.ptr 4773 1)), (59, (ii 3)), (60, (.ptr 4753 0)), (61, (.ptr 4753 0)), (62, (.ptr 4753 1)), (63, (ii 3)), (64, tt), (65, tt), (66, uv), (67, (.ptr 4753 0)), (68, (.ptr 4753 0)), (69, (.ptr 4753 0)), (70, (.ptr 4753 0)), (71, (.slice 4770 0 2 (.room 3))), (72, (.agg [(ii 2), (ii 3), ns])), (73, (.slice 4776 0 1 (.is 1))), (74, (.slice 4777 0 3 (.room 3))), (75, (.ptr 4753 0)), (76, (.ptr 4753 0)), (77, (.ptr 4773 1)), (78, (ii 3)), (79, (ii 3)), (80, (.ptr 4750 0)), (81, (ii 3)), (82, (.ptr 4753 0)), (83, (.ptr 4753 0)), (84, (.ptr 4753 1)), (85, (ii 3)), (86, tt), (87, uv), (88, (.ptr 4753 0)), (89, (.ptr 4753 0)), (90, (.ptr 4753 0)), (91, (.slice 4777 0 3 (.room 3))), (92, (ii 3)), (93, (ii 0)), (94, tt), (95, (ii 0)), (96, (.ptr 4753 0)), (97, (.ptr 4753 0)), (98, (.ptr 4753 0)), (99, (.slice 4777 0 3 (.room 3))), (100, (ii 0)), (101, (.ptr 4777 0)), (102, (.ptr 4777 0)), (103, (.ptr 4750 0)), (104, (.slice 4756 0 3 (.is 3))), (105, (ii 0)), (106, (.ptr 4756 0)), (107, (ii 258364)), (108, (.slice 4780 0 258364 (.is 258364))), (109, (.ptr 4777 0)), (110, (.ptr 4777 2)), (111, (.ptr 4750 0)), (112, uv), (113, (.ptr 4777 0)), (114, (.ptr 4777 0)), (115, (.agg [(ii 0), (ii 1), (.slice 4780 0 258364 (.is 258364))])), (116, (.func 183 [] [(.ptr 4781 0)]))] .l), #[117, 118], (cd F 3 [1, 1, 1, 1, 0, 1, 0, 0, 0, 1, 0]), (cd F 62 [1, 1, 1, 1, 1, 1, 1, 1, 1, 0, 1, 0, 0, 1, 1, 0, 0, 1, 1, 1, 1, 1, 0, 1]), 4782⟩
noncomputable def b34 : ABlock := wc [(.slice 4749 0 262482 (.room 1)), (ii 262482), (ii 0)]
noncomputable def b35 : ABlock := wc [(ii 0), (ii 1), (.slice 4780 0 258364 (.is 258364)), (ii 1), (ii 2), (.slice 5358 0 4101 (.is 4101)), (ii 2), (ii 3), (.slice 5378 0 6 (.is 6))]
noncomputable def b36 : ABlock := wc [(ii 2), (ii 3), (.slice 5378 0 6 (.is 6))]
noncomputable def b37 : ABlock := .loop ⟨.ready, none, 62, 150, (tr [(0, (.slice 4695 0 262482 (.is 262482))), (2, (.ptr 4746 0)), (3, (.ptr 4747 0)), (4, (.ptr 4750 0)), (5, (ii 3)), (6, (ii 3)), (7, (.slice 4756 0 3 (.is 3))), (8, (ii 2)), (9, (.ptr 4773 0)), (10, (ii 2)), (11, (.ptr 4777 6)), (12, (.ptr 5396 0)), (14, (.ptr 5397 0)), (17, (.func 128 [] [(.ptr 4746 0), (.ptr 4747 0)])), (18, (.slice 4695 0 262482 (.is 262482))), (19, (.ptr 4750 0)), (20, (.ptr 4750 0)), (21, (ii 3)), (22, (.agg [ns, (ii 3)])), (23, (.ptr 4753 0)), (24, (.ptr 4750 0)), (25, (.ptr 4753 0)), (26, (.ptr 4753 0)), (27, (.ptr 4753 1)), (28, (ii 3)), (29, (ii 3)), (30, (.ptr 4750 0)), (31, uv), (32, (ii 3)), (33, (.slice 4756 0 3 (.is 3))), (34, (ii 3)), (35, (ii 3)), (36, ff), (37, (ii 2)), (38, (ii 2)), (39, (ii 2)), (40, (.ptr 4750 0)), (41, (ii 1)), (42, (ii 3)), (43, (.agg [(ii 2), (ii 3), ns])), (44, (.slice 4756 0 3 (.is 3))), (45, (ii 2)), (46, (.ptr 4750 0)), (47, (.slice 4695 0 262482 (.is 262482))), (48, (ii 262482)), (49, (ii 6)), (50, (.ptr 4756 2)), (51, (.ptr 4750 0)), (52, (.ptr 4773 1)), (53, (ii 3)), (54, (.ptr 4773 0)), (55, (ii 2)), (56, tt), (57, tt), (58, (.ptr 4773 1)), (59, (ii 3)), (60, (.ptr 4753 0)), (61, (.ptr 4753 0)), (62, (.ptr 4753 1)), (63, (ii 3)), (64, tt), (65, tt), (66, uv), (67, (.ptr 4753 0)), (68, (.ptr 4753 0)), (69, (.ptr 4753 0)), (70, (.ptr 4753 0)), (71, (.slice 4770 0 2 (.room 3))), (72, (.agg [(ii 2), (ii 3), ns])), (73, (.slice 4776 0 1 (.is 1))), (74, (.slice 4777 0 3 (.room 3))), (75, (.ptr 4753 0)), (76, (.ptr 4753 0)), (77, (.ptr 4773 1)), (78, (ii 3)), (79, (ii 3)), (80, (.ptr 4750 0)), (81, (ii 3)), (82, (.ptr 4753 0)), (83, (.ptr 4753 0)), (84, (.ptr 4753 1)), (85, (ii 3)), (86, tt), (87, uv), (88, (.ptr 4753 0)), (89, (.ptr 4753 0)), (90, (.ptr 4753 0)), (91, (.slice 4777 0 3 (.room 3))), (92, (ii 3)), (93, (ii 3)), (94, ff), (95, (ii 2)), (96, (.ptr 4753 0)), (97, (.ptr 4753 0)), (98, (.ptr 4753 0)), (99, (.slice 4777 0 3 (.room 3))), (100, (ii 2)), (101, (.ptr 4777 6)), (102, (.ptr 4777 6)), (103, (.ptr 4750 0)), (104, (.slice 4756 0 3 (.is 3))), (105, (ii 2)), (106, (.ptr 4756 2)), (107, (ii 6)), (108, (.slice 5378 0 6 (.is 6))), (109, (.ptr 4777 6)), (110, (.ptr 4777 8)), (111, (.ptr 4750 0)), (112, uv), (113, (.ptr 4777 6)), (114, (.ptr 4777 6)), (115, (.agg [(ii 2), (ii 3), (.slice 5378 0 6 (.is 6))])), (116, (.func 183 [] [(.ptr 5379 0)])), (119, (ii 3)), (120, (.ptr 4750 0)), (121, (.ptr 4750 0)), (122, (ii 0)), (123, tt), (124, uv), (125, (.ptr 4753 0)), (126, (.ptr 4753 0)), (127, (.ptr 4753 0)), (128, (.slice 4777 0 3 (.room 3))), (129, (ii 3)), (130, (ii 0)), (131, tt), (132, (.ptr 4777 0)), (133, (.agg [(ii 0), (ii 1), (.slice 4780 0 258364 (.is 258364))])), (134, (.agg [(ii 0), (ii 1), (.slice 4780 0 258364 (.is 258364))])), (135, (.func 183 [] [(.ptr 5398 0)]))] .l), #[136, 137], (cd F 62 [1, 1, 1, 1, 1, 1, 1, 1, 1, 1, 1, 1, 0, 1, 0, 0, 1, 1, 0, 0, 1, 1, 0, 0]), (cd F 62 [1, 1, 1, 1, 1, 1, 1, 1, 1, 1, 1, 1, 0, 1, 0, 0, 1, 1, 0, 0, 1, 1, 0, 1]), 5399⟩
noncomputable def b38 : ABlock := wc [(.slice 5972 0 63 (.room 3)), (.slice 5992 0 1 (.room 3)), (.slice 6012 0 1 (.room 3))]
noncomputable def b39 : ABlock := wc [(.slice 4741 0 1 (.is 1)), (.slice 4745 0 266699 (.room 1)), (.slice 6993 0 3 (.room 1)), (.ptr 4753 0), ns]
noncomputable def b40 : ABlock := wc [(.ptr 7002 0), (.slice 7158 0 1 (.room 1)), ns, np, np, np]
noncomputable def b41 : ABlock := wc [(.slice 7022 0 1 (.room 1)), (.slice 7018 0 1 (.room 1)), (ii 3)]
noncomputable def b42 : ABlock := (wb [(2, 8191), (4095, 0), (10, 393322152962153653542911)])
noncomputable def b43 : ABlock := wc [(.slice 7053 0 6 (.is 6)), (.int .i64 (.negSucc 0)), (ii 1), (ii 1)]
noncomputable def b44 : ABlock := (.cells false (.bt ⟨65, 21325804738963815859164984642815597777565605478422546947245349697888160110825641648141563844328460570026664845304489624192584915968127344680802007581277697⟩))
noncomputable def b45 : ABlock := wc [(.slice 7177 0 65 (.room 1)), (ii 65), (ii 0)]
noncomputable def b46 : ABlock := wc [(.slice 7189 0 62 (.is 62)), (.int .i64 (.negSucc 0)), (ii 0), (ii 1)]
noncomputable def b47 : ABlock := (.cells false (.bt ⟨62, 1271117016015280238340198078323340283487177221681031402781328540914545065809824564942214718122986589075724175292521096717869336364753684084463239168⟩))
noncomputable def b48 : ABlock := wc [(.slice 7700 0 6 (.is 6)), (.int .i64 (.negSucc 0)), (ii 2), (ii 1)]
noncomputable def b49 : ABlock := wc [(.slice 200 0 1 (.is 1)), (ii 64), (ii 2), (ii 0), (uu 3), ns, ns, (ii 0), ns, ns, (ii 0), ns, ns, (ii 0), ns, ns, (ii 0), ns, ns, (ii 0), ns, ns, (ii 0), ns, ns, (ii 0), ns, ns, (ii 0), (.slice 7828 0 1 (.room 1))]
noncomputable def b50 : ABlock := wc [(.slice 4741 0 1 (.is 1)), (.slice 4745 0 266699 (.room 1)), (.slice 6993 0 3 (.room 1)), (.ptr 4753 0), (.slice 7823 0 1 (.room 6))]
noncomputable def b51 : ABlock := wc [(.ptr 7045 0), (.ptr 7181 0), (.ptr 7692 0)]
noncomputable def b52 : ABlock := wc [(.ptr 7002 0), (.slice 7805 0 3 (.room 1)), (.slice 7821 0 3 (.is 3)), np, np, np]
noncomputable def b53 : ABlock := wc [(.ptr 6987 0), (.slice 7825 0 3 (.is 3)), (.slice 1450 0 3 (.room 1))]
noncomputable def b54 : ABlock := wc [(.str ⟨1, 107⟩), (ii 2), ns, (ii 0), (ii 0), ff, ff]
noncomputable def b55 : ABlock := wc [(.slice 8085 0 1 (.is 1)), (ii 2), (ii 2), (ii 0), (uu 3), (.slice 8203 0 2 (.room 2)), (.slice 8205 0 2 (.room 1)), (ii 2), (.slice 8158 0 1 (.room 2)), (.slice 8160 0 1 (.room 1)), (ii 1), ns, ns, (ii 0), ns, ns, (ii 0), ns, ns, (ii 0), ns, ns, (ii 0), ns, ns, (ii 0), ns, ns, (ii 0), ns]
noncomputable def b56 : ABlock := wc [(uu 1), (.slice 8119 0 1 (.room 3)), (uu 3), (.slice 8201 0 1 (.room 3))]
noncomputable def b57 : ABlock := wc [(.slice 8256 0 1 (.is 1)), (.slice 8305 0 1 (.is 1))]
noncomputable def b58 : ABlock := wc [(.slice 8267 0 1 (.is 1)), (.slice 8316 0 1 (.is 1))]
noncomputable def b59 : ABlock := wc [(.slice 8302 0 2 (.is 2)), (.slice 8308 0 2 (.is 2)), (.slice 8359 0 1 (.is 1))]
noncomputable def b60 : ABlock := wc [(.slice 8340 0 1 (.is 1)), (.slice 8353 0 1 (.is 1))]
noncomputable def b61 : ABlock := wc [(.slice 8355 0 2 (.is 2)), (.slice 8357 0 2 (.is 2)), ns, (.slice 8321 0 2 (.is 2)), ns, ns]
noncomputable def b62 : ABlock := (.cells false (.bt ⟨72, 178824402213277830684285821940538695915796369510797077911280723832899970640876043444753541250692923434443366236733796016517446537442142377350823700144300351628848413687239756⟩))
noncomputable def b63 : ABlock := (.cells false (.bt ⟨16, 514066149128636338256376961326776578⟩))
noncomputable def b64 : ABlock := (.cells false (.bt ⟨8, 1299678823425573122⟩))
noncomputable def b65 : ABlock := (.cells false (.bt ⟨18, 159082553325455535969230980609⟩))
noncomputable def b66 : ABlock := (.cells false (.bt ⟨12, 620178945463151815802552578⟩))
noncomputable def b67 : ABlock := wc [(.slice 8708 0 4 (.is 4)), (.slice 8713 0 16 (.is 16)), (.slice 8718 0 8 (.is 8)), (.slice 8723 0 18 (.is 18)), (.slice 8728 0 12 (.is 12))]
noncomputable def b68 : ABlock := wc [(.slice 8733 0 4 (.room 1)), (ii 4), (ii 0)]
noncomputable def b69 : ABlock := wc [(ii 0), (ii 2), (.slice 8780 0 12 (.is 12))]
noncomputable def b70 : ABlock := (.cells false (.bt ⟨12, 119690352382286530513404161⟩))
noncomputable def b71 : ABlock := wc [(.slice 8925 0 1 (.room 1)), (.slice 8921 0 1 (.room 1)), (ii 2)]
noncomputable def b72 : ABlock := (.cells false (.bt ⟨7, 5076870404006145⟩))
noncomputable def b73 : ABlock := wc [(.slice 8952 0 6 (.is 6)), (.int .i64 (.negSucc 0)), (ii 0), (ii 1)]
noncomputable def b74 : ABlock := wc [(.slice 9084 0 6 (.is 6)), (.int .i64 (.negSucc 0)), (ii 1), (ii 1)]
end Go.Proofs.YtfmopmjgohopeaaGreatDoor.Wf

/- The texts EbD, EbE, EbF, EbG, EbH of WriterFull, joined by program (tools/merge.py): walks of the functions that the law reaches, and plain facts; no condition. -/
import Derived.Test.YtfmopmjgohopeaaGreatDoorPart01
import Derived.Laws.Strings2
import Derived.Laws.Concat
import Derived.Laws.Slices
import Derived.Laws.BytesString
import Derived.LaidEql
set_option linter.unusedVariables false
set_option linter.unusedSimpArgs false

/-
  The abstract machine's memory against the model's: what keeps the relation.
-/
set_option linter.unusedVariables false
set_option linter.unusedSimpArgs false
set_option linter.constructorNameAsVariable false
namespace Go.Proofs.YtfmopmjgohopeaaGreatDoor.Ev
open Go Go.RowKit

def TmpR (σ : Sg) (X : Nat → Prop) (T : Tr AV) (nt : Nat) (c : Array Value) : Prop :=
  c.size = nt ∧ ∀ i a, ¬ X i → T.get i = some a → ∃ v, c[i]? = some v ∧ VR σ a v
theorem TmpR.mono {σ σ' : Sg} {X : Nat → Prop} {T : Tr AV} {nt : Nat} {c : Array Value} (h : σ.le σ') (r : TmpR σ X T nt c) : TmpR σ' X T nt c :=
  ⟨r.1, fun i a hx hi => let ⟨v, h1, h2⟩ := r.2 i a hx hi; ⟨v, h1, VR.mono h _ _ h2⟩⟩
def LR (σ : Sg) (l : ALoop) (r : Loop) : Prop :=
  r.state = l.state ∧ r.pending = l.pending ∧ r.fn = l.fn ∧ r.params = l.params ∧ r.assign = l.assign ∧ r.body = l.body ∧
  TmpR σ (fun _ => False) l.tmps l.nt r.tmps ∧ ∃ e, σ l.defers = some e ∧ r.defers = e.blk
theorem LR.mono {σ σ' : Sg} (h : σ.le σ') {l : ALoop} {r : Loop} : LR σ l r → LR σ' l r
  | ⟨a, b, c, d, e, f, g, x, hx, y⟩ => ⟨a, b, c, d, e, f, g.mono h, x, h _ _ hx, y⟩
def DR (σ : Sg) : ADef → Deferred → Prop
  | .call f cap args, d => ∃ cap' args', d = ⟨.fn (.func f) cap', args'⟩ ∧ VRs σ cap cap'.toList ∧ VRs σ args args'.toList
  | .collected k, d => ∃ e, σ k = some e ∧ d = ⟨.collected e.blk, #[]⟩
theorem DR.mono {σ σ' : Sg} (h : σ.le σ') {a : ADef} {d : Deferred} (r : DR σ a d) : DR σ' a d := by
  cases a with
  | call f cap args => obtain ⟨c, x, hd, r1, r2⟩ := r; exact ⟨c, x, hd, VRs.mono h _ _ r1, VRs.mono h _ _ r2⟩
  | collected k => obtain ⟨e, he, hd⟩ := r; exact ⟨e, h _ _ he, hd⟩
def DRs (σ : Sg) : List ADef → List Deferred → Prop
  | [], [] => True
  | a :: l, v :: m => DR σ a v ∧ DRs σ l m
  | _, _ => False
theorem DRs.mono {σ σ' : Sg} (h : σ.le σ') : ∀ {a : List ADef} {d : List Deferred}, DRs σ a d → DRs σ' a d
  | [], [], _ => trivial
  | _ :: _, _ :: _, r => ⟨r.1.mono h, DRs.mono h r.2⟩
  | [], _ :: _, r => r.elim
  | _ :: _, [], r => r.elim
theorem DRs.app {σ : Sg} : ∀ {a : List ADef} {v : List Deferred} {b : List ADef} {w : List Deferred}, DRs σ a v → DRs σ b w → DRs σ (a ++ b) (v ++ w)
  | [], [], _, _, _, h => h
  | _ :: _, _ :: _, _, _, r, h => ⟨r.1, DRs.app r.2 h⟩
  | [], _ :: _, _, _, r, _ => r.elim
  | _ :: _, [], _, _, r, _ => r.elim
def ER (σ : Sg) (e : AV × AV × Nat) (x : MapEntry) : Prop := VR σ e.1 x.key ∧ VR σ e.2.1 x.val ∧ x.born = e.2.2
def ERs (σ : Sg) : List (AV × AV × Nat) → List MapEntry → Prop
  | [], [] => True
  | a :: l, v :: m => ER σ a v ∧ ERs σ l m
  | _, _ => False
theorem ERs.mono {σ σ' : Sg} (h : σ.le σ') : ∀ {a : List (AV × AV × Nat)} {d : List MapEntry}, ERs σ a d → ERs σ' a d
  | [], [], _ => trivial
  | _ :: _, _ :: _, r => ⟨⟨VR.mono h _ _ r.1.1, VR.mono h _ _ r.1.2.1, r.1.2.2⟩, ERs.mono h r.2⟩
  | [], _ :: _, r => r.elim
  | _ :: _, [], r => r.elim
theorem ERs.length {σ : Sg} : ∀ {a : List (AV × AV × Nat)} {v : List MapEntry}, ERs σ a v → a.length = v.length
  | [], [], _ => rfl
  | _ :: _, _ :: _, r => by simp [ERs.length r.2]
  | [], _ :: _, r => r.elim
  | _ :: _, [], r => r.elim

def BR (σ : Sg) (w : World) (e : Loc) : ABlock → Prop
  | .cells ro cs => ∃ c t fz, w.heap[e.blk]? = some (.cells c t fz) ∧ c.size = e.size ∧ (ro = true ∨ fz.1 = fz.2 ∨ (c.size ≤ fz.1 ∧ cs.list.all isU8A = true)) ∧ VRs σ cs.list ((c.toList.drop e.base).take cs.list.length)
  | .map es clock => ∃ es', w.heap[e.blk]? = some (.map es' clock) ∧ ERs σ es es'.toList
  | .mapIter m since seen st => e.base = 0 ∧ ∃ e', σ m = some e' ∧ w.heap[e.blk]? = some (.mapIter (some e'.blk) since seen.toArray st)
  | .strIter s pos => e.base = 0 ∧ w.heap[e.blk]? = some (.stringIter (mkS s.list) pos)
  | .loop l => ∃ r, w.heap[e.blk]? = some (.loop r) ∧ LR σ l r
  | .deferred ds => ∃ ds', w.heap[e.blk]? = some (.deferred (some ds')) ∧ DRs σ ds ds'
def ABlock.ro : ABlock → Bool
  | .cells r _ => r
  | _ => false
theorem BR.keep {σ σ' : Sg} {w w' : World} {e : Loc} {b : ABlock} (r : BR σ w e b) (h : σ.le σ') (hw : w'.heap[e.blk]? = w.heap[e.blk]?) : BR σ' w' e b := by
  cases b with
  | cells ro cs => obtain ⟨c, t, fz, h1, h2, h3, h4⟩ := r; exact ⟨c, t, fz, hw.trans h1, h2, h3, VRs.mono h _ _ h4⟩
  | map es cl => obtain ⟨c, h1, h2⟩ := r; exact ⟨c, hw.trans h1, h2.mono h⟩
  | mapIter m s se st => obtain ⟨h0, e', h1, h2⟩ := r; exact ⟨h0, e', h _ _ h1, hw.trans h2⟩
  | strIter s p => exact ⟨r.1, hw.trans r.2⟩
  | loop l => obtain ⟨c, h1, h2⟩ := r; exact ⟨c, hw.trans h1, h2.mono h⟩
  | deferred ds => obtain ⟨c, h1, h2⟩ := r; exact ⟨c, hw.trans h1, h2.mono h⟩

/-! ### Abstract memory -/
theorem AH.get_put (h : AH) (k j : Nat) (b : ABlock) : (h.put k b).get j = if j = k then some b else h.get j := Tr.get_set _ _ _ _
theorem AH.get_kill (h : AH) (k j : Nat) : (h.kill k).get j = if j = k then none else h.get j := Tr.get_set _ _ _ _
theorem AH.get_new (h : AH) (j : Nat) (b : ABlock) : (h.new b).get j = if j = h.next then some b else h.get j := Tr.get_set _ _ _ _

structure HR (ng n0 : Nat) (σ : Sg) (h : AH) (w : World) : Prop where
  blk : ∀ k e b, σ k = some e → h.get k = some b → BR σ w e b
  fresh : ∀ k, h.next ≤ k → σ k = none
  freshA : ∀ k, h.next ≤ k → h.get k = none
  inj : ∀ k k' e e' b b', σ k = some e → σ k' = some e' → h.get k = some b → h.get k' = some b' → e.blk = e'.blk → k = k'
  lt : ∀ k e, σ k = some e → e.blk < w.heap.size
  glob : ∀ g, g < ng → ∃ sz, σ g = some ⟨g, 0, sz⟩
  own : ∀ k e b, σ k = some e → h.get k = some b → b.ro = false → n0 ≤ e.blk
  ngn : ng ≤ h.next
  big : n0 ≤ w.heap.size

/-- The heap is as it was but for one block; nothing else has turned (but, maybe, the number of draws). -/
structure Ex (B : Nat) (w w' : World) : Prop where
  size : w'.heap.size = w.heap.size
  block : ∀ b, b ≠ B → w'.heap[b]? = w.heap[b]?
  os : w'.os = w.os
  tape : w'.tape = w.tape
  output : w'.output = w.output
theorem Ex.below {B n0 : Nat} {w w' : World} (h : Ex B w w') (hB : n0 ≤ B) : Below n0 w w' :=
  ⟨h.os, h.tape, h.output, Nat.le_of_eq h.size.symm, fun k hk => h.block k (by omega)⟩
theorem Ex.trans {B : Nat} {a b c : World} (h : Ex B a b) (k : Ex B b c) : Ex B a c :=
  ⟨k.size.trans h.size, fun x hx => (k.block x hx).trans (h.block x hx), k.os.trans h.os, k.tape.trans h.tape, k.output.trans h.output⟩
theorem Ex.refl (B : Nat) (w : World) : Ex B w w := ⟨rfl, fun _ _ => rfl, rfl, rfl, rfl⟩
/-- One block more. -/
structure Push (o : Obj) (w w' : World) : Prop where
  heap : w'.heap = w.heap.push o
  os : w'.os = w.os
  tape : w'.tape = w.tape
  output : w'.output = w.output
theorem Push.at {o : Obj} {w w' : World} (h : Push o w w') : w'.heap[w.heap.size]? = some o := by simp [h.heap]
theorem Push.old {o : Obj} {w w' : World} (h : Push o w w') {b : Nat} (hb : b < w.heap.size) : w'.heap[b]? = w.heap[b]? := by
  rw [h.heap, Array.getElem?_push, if_neg (by omega)]
theorem Push.below {o : Obj} {n0 : Nat} {w w' : World} (h : Push o w w') (hn : n0 ≤ w.heap.size) : Below n0 w w' :=
  ⟨h.os, h.tape, h.output, by simp [h.heap], fun k hk => h.old (by omega)⟩
theorem Push.new (o : Obj) (w : World) : Push o w { w with heap := w.heap.push o } := ⟨rfl, rfl, rfl, rfl⟩
theorem Push.drawn (o : Obj) (w : World) (n : Nat) : Push o w { w with heap := w.heap.push o, drawn := n } := ⟨rfl, rfl, rfl, rfl⟩

section
variable {ng n0 : Nat} {σ : Sg} {h : AH} {w : World}

theorem HR.world (r : HR ng n0 σ h w) {w' : World} (hw : w'.heap = w.heap) : HR ng n0 σ h w' :=
  ⟨fun k e b h1 h2 => (r.blk k e b h1 h2).keep (Sg.le.refl σ) (by rw [hw]), r.fresh, r.freshA, r.inj, fun k e he => by rw [hw]; exact r.lt k e he, r.glob, r.own, r.ngn, by rw [hw]; exact r.big⟩

/-- A new abstract block that lies nowhere yet. -/
theorem HR.pend (r : HR ng n0 σ h w) (b : ABlock) : HR ng n0 σ (h.new b) w := by
  have hn : σ h.next = none := r.fresh _ (Nat.le_refl _)
  have ne : ∀ k e, σ k = some e → k ≠ h.next := fun k e hk hx => by subst hx; rw [hn] at hk; cases hk
  have old : ∀ k e b', σ k = some e → (h.new b).get k = some b' → h.get k = some b' := fun k e b' hk hb => by
    rw [AH.get_new, if_neg (ne k e hk)] at hb; exact hb
  refine ⟨fun k e b' h1 h2 => r.blk k e b' h1 (old k e b' h1 h2), fun k hk => r.fresh k ?_, fun k hk => ?_, fun k k' e e' b1 b2 h1 h2 h3 h4 => r.inj k k' e e' b1 b2 h1 h2 (old _ _ _ h1 h3) (old _ _ _ h2 h4),
    r.lt, r.glob, fun k e b' h1 h2 => r.own k e b' h1 (old _ _ _ h1 h2), ?_, r.big⟩
  · have : h.next + 1 ≤ k := hk
    omega
  · have hk' : h.next + 1 ≤ k := hk
    rw [AH.get_new, if_neg (by omega)]
    exact r.freshA k (by omega)
  · exact Nat.le_succ_of_le r.ngn

/-- An abstract block finds its place: a new block of the heap. -/
theorem HR.realize (r : HR ng n0 σ h w) {k : Nat} {b : ABlock} {e : Loc} {o : Obj} {w' : World} (hk : σ k = none) (hlt : k < h.next) (hb : ∀ b', h.get k = some b' → BR (σ.put k e) w' e b')
    (hw : Push o w w') (he : e.blk = w.heap.size) : HR ng n0 (σ.put k e) h w' := by
  have hle : σ.le (σ.put k e) := Sg.le_put hk
  have szw : w'.heap.size = w.heap.size + 1 := by rw [hw.heap]; simp
  refine ⟨fun x e' b' h1 h2 => ?_, fun x hx => ?_, r.freshA, fun x y e1 e2 b1 b2 h1 h2 h3 h4 h5 => ?_, fun x e' hx => ?_, fun g hg => ?_, fun x e' b' h1 h2 h3 => ?_, r.ngn, by have := r.big; omega⟩
  · by_cases hxk : x = k
    · subst hxk
      rw [Sg.put_same] at h1
      injection h1 with h1; subst h1
      exact hb b' h2
    · rw [Sg.put_ne σ e hxk] at h1
      exact (r.blk x e' b' h1 h2).keep hle (hw.old (r.lt x e' h1))
  · rw [Sg.put_ne σ e (by omega)]; exact r.fresh x hx
  · by_cases hxk : x = k
    · by_cases hyk : y = k
      · rw [hxk, hyk]
      · subst hxk
        rw [Sg.put_same] at h1
        rw [Sg.put_ne σ e hyk] at h2
        injection h1 with h1; subst h1
        have := r.lt y e2 h2
        omega
    · by_cases hyk : y = k
      · subst hyk
        rw [Sg.put_same] at h2
        rw [Sg.put_ne σ e hxk] at h1
        injection h2 with h2; subst h2
        have := r.lt x e1 h1
        omega
      · rw [Sg.put_ne σ e hxk] at h1
        rw [Sg.put_ne σ e hyk] at h2
        exact r.inj x y e1 e2 b1 b2 h1 h2 h3 h4 h5
  · by_cases hxk : x = k
    · subst hxk; rw [Sg.put_same] at hx; injection hx with hx; subst hx; omega
    · rw [Sg.put_ne σ e hxk] at hx
      have := r.lt x e' hx
      omega
  · obtain ⟨sz, hs⟩ := r.glob g hg
    exact ⟨sz, hle _ _ hs⟩
  · by_cases hxk : x = k
    · subst hxk; rw [Sg.put_same] at h1; injection h1 with h1; subst h1; have := r.big; omega
    · rw [Sg.put_ne σ e hxk] at h1
      exact r.own x e' b' h1 h2 h3

/-- A new block, here and there. -/
theorem HR.new (r : HR ng n0 σ h w) {b : ABlock} {e : Loc} {o : Obj} {w' : World} (hb : BR (σ.put h.next e) w' e b) (hw : Push o w w') (he : e.blk = w.heap.size) :
    HR ng n0 (σ.put h.next e) (h.new b) w' :=
  (r.pend b).realize (b := b) (r.fresh _ (Nat.le_refl _)) (Nat.lt_succ_self _) (fun b' hb' => by rw [AH.get_new, if_pos rfl] at hb'; injection hb' with hb'; exact hb' ▸ hb) hw he

/-- A block of its own is written. -/
theorem HR.write (r : HR ng n0 σ h w) {k : Nat} {e : Loc} {b b' : ABlock} {w' : World} (hk : σ k = some e) (hb : h.get k = some b) (hro : b.ro = false)
    (hw : Ex e.blk w w') (hb' : BR σ w' e b') : HR ng n0 σ (h.put k b') w' := by
  have hkn : k < h.next := by
    rcases Nat.lt_or_ge k h.next with hx | hx
    · exact hx
    · rw [r.fresh k hx] at hk; cases hk
  have old : ∀ x bx, (h.put k b').get x = some bx → ∃ by', h.get x = some by' ∧ (x ≠ k → by' = bx) := fun x bx hx => by
    rw [AH.get_put] at hx
    by_cases hxk : x = k
    · subst hxk; exact ⟨b, hb, fun hn => absurd rfl hn⟩
    · rw [if_neg hxk] at hx; exact ⟨bx, hx, fun _ => rfl⟩
  refine ⟨fun x e' bx h1 h2 => ?_, r.fresh, fun x hx => ?_, fun x y e1 e2 b1 b2 h1 h2 h3 h4 h5 => ?_, fun x e' hx => by rw [hw.size]; exact r.lt x e' hx, r.glob, fun x e' bx h1 h2 h3 => ?_, r.ngn, by rw [hw.size]; exact r.big⟩
  · by_cases hxk : x = k
    · subst hxk
      rw [AH.get_put, if_pos rfl] at h2
      injection h2 with h2; subst h2
      rw [hk] at h1; injection h1 with h1; subst h1
      exact hb'
    · rw [AH.get_put, if_neg hxk] at h2
      exact (r.blk x e' bx h1 h2).keep (Sg.le.refl σ) (hw.block _ fun hbx => hxk (r.inj x k e' e bx b h1 hk h2 hb hbx))
  · rw [AH.get_put, if_neg (by have : h.next ≤ x := hx; omega)]; exact r.freshA x hx
  · obtain ⟨c1, hc1, _⟩ := old x b1 h3
    obtain ⟨c2, hc2, _⟩ := old y b2 h4
    exact r.inj x y e1 e2 c1 c2 h1 h2 hc1 hc2 h5
  · by_cases hxk : x = k
    · subst hxk; rw [hk] at h1; injection h1 with h1; subst h1; exact r.own x e b hk hb hro
    · rw [AH.get_put, if_neg hxk] at h2; exact r.own x e' bx h1 h2 h3

theorem HR.kill (r : HR ng n0 σ h w) (k : Nat) : HR ng n0 σ (h.kill k) w := by
  have old : ∀ x bx, (h.kill k).get x = some bx → h.get x = some bx := fun x bx hx => by
    rw [AH.get_kill] at hx
    split at hx
    · cases hx
    · exact hx
  exact ⟨fun x e' bx h1 h2 => r.blk x e' bx h1 (old x bx h2), r.fresh, fun x hx => by rw [AH.get_kill, r.freshA x hx]; split <;> rfl, fun x y e1 e2 b1 b2 h1 h2 h3 h4 => r.inj x y e1 e2 b1 b2 h1 h2 (old _ _ h3) (old _ _ h4), r.lt, r.glob,
    fun x e' bx h1 h2 => r.own x e' bx h1 (old x bx h2), r.ngn, r.big⟩

/-- A block's place goes over to a new abstract block (an append in place). -/
theorem HR.move (r : HR ng n0 σ h w) {k : Nat} {e e' : Loc} {b b' : ABlock} {w' : World} (hk : σ k = some e) (hb : h.get k = some b) (hro : b.ro = false)
    (he : e'.blk = e.blk) (hw : Ex e.blk w w') (hb' : BR (σ.put h.next e') w' e' b') : HR ng n0 (σ.put h.next e') ((h.kill k).new b') w' := by
  have hle : σ.le (σ.put h.next e') := Sg.le_put (r.fresh _ (Nat.le_refl _))
  have hkn : k < h.next := by
    rcases Nat.lt_or_ge k h.next with hx | hx
    · exact hx
    · rw [r.fresh k hx] at hk; cases hk
  have get : ∀ x bx, ((h.kill k).new b').get x = some bx → (x = h.next ∧ bx = b') ∨ (x ≠ h.next ∧ x ≠ k ∧ h.get x = some bx) := fun x bx hx => by
    rw [AH.get_new] at hx
    split at hx
    · rename_i hxn; injection hx with hx; exact .inl ⟨hxn, hx.symm⟩
    · rename_i hxn
      rw [AH.get_kill] at hx
      split at hx
      · cases hx
      · rename_i hxk; exact .inr ⟨hxn, hxk, hx⟩
  refine ⟨fun x ex bx h1 h2 => ?_, fun x hx => ?_, fun x hx => ?_, fun x y e1 e2 b1 b2 h1 h2 h3 h4 h5 => ?_, fun x ex hx => ?_, fun g hg => ?_, fun x ex bx h1 h2 h3 => ?_, Nat.le_succ_of_le r.ngn, by rw [hw.size]; exact r.big⟩
  · rcases get x bx h2 with ⟨rfl, rfl⟩ | ⟨hxn, hxk, hg⟩
    · rw [Sg.put_same] at h1; injection h1 with h1; subst h1; exact hb'
    · rw [Sg.put_ne σ e' hxn] at h1
      exact (r.blk x ex bx h1 hg).keep hle (hw.block _ fun hbx => hxk (r.inj x k ex e bx b h1 hk hg hb hbx))
  · have hx' : h.next + 1 ≤ x := hx
    rw [Sg.put_ne σ e' (by omega)]; exact r.fresh x (by omega)
  · have hx' : h.next + 1 ≤ x := hx
    cases hg : ((h.kill k).new b').get x with
    | none => rfl
    | some bx =>
      rcases get x bx hg with ⟨rfl, rfl⟩ | ⟨_, _, hg'⟩
      · omega
      · rw [r.freshA x (by omega)] at hg'; cases hg'
  · rcases get x b1 h3 with ⟨hx, rfl⟩ | ⟨hxn, hxk, hgx⟩
    · rcases get y b2 h4 with ⟨hy, rfl⟩ | ⟨hyn, hyk, hgy⟩
      · rw [hx, hy]
      · subst hx
        rw [Sg.put_same] at h1; injection h1 with h1; subst h1
        rw [Sg.put_ne σ e' hyn] at h2
        exact absurd (r.inj y k e2 e b2 b h2 hk hgy hb (h5.symm.trans he)) hyk
    · rcases get y b2 h4 with ⟨hy, rfl⟩ | ⟨hyn, hyk, hgy⟩
      · subst hy
        rw [Sg.put_same] at h2; injection h2 with h2; subst h2
        rw [Sg.put_ne σ e' hxn] at h1
        exact absurd (r.inj x k e1 e b1 b h1 hk hgx hb (h5.trans he)) hxk
      · rw [Sg.put_ne σ e' hxn] at h1
        rw [Sg.put_ne σ e' hyn] at h2
        exact r.inj x y e1 e2 b1 b2 h1 h2 hgx hgy h5
  · by_cases hxn : x = h.next
    · subst hxn; rw [Sg.put_same] at hx; injection hx with hx; subst hx; rw [hw.size, he]; exact r.lt k e hk
    · rw [Sg.put_ne σ e' hxn] at hx; rw [hw.size]; exact r.lt x ex hx
  · obtain ⟨sz, hs⟩ := r.glob g hg
    exact ⟨sz, hle _ _ hs⟩
  · rcases get x bx h2 with ⟨rfl, rfl⟩ | ⟨hxn, hxk, hg⟩
    · rw [Sg.put_same] at h1; injection h1 with h1; subst h1; rw [he]; exact r.own k e b hk hb hro
    · rw [Sg.put_ne σ e' hxn] at h1; exact r.own x ex bx h1 hg h3
end
end Go.Proofs.YtfmopmjgohopeaaGreatDoor.Ev

/-
  The abstract machine's operations that read: what they answer, the model's operations answer.
-/
set_option linter.unusedVariables false
set_option linter.unusedSimpArgs false
set_option linter.constructorNameAsVariable false
namespace Go.Proofs.YtfmopmjgohopeaaGreatDoor.Ev
open Go Go.RowKit

section
variable {P : Program} {w : World}
theorem ru {t : TypeId} {d : TypeDesc} (h : P.underlying t = some d) : (underlying t).run P w = .ok d w := by
  simp [underlying, h]
theorem ri {t : TypeId} {i : TypeInfo} (h : P.info? t = some i) : (typeInfo t).run P w = .ok i w := by
  simp [typeInfo, h]
theorem rs {t : TypeId} {n : Nat} (h : sizeOf? P t = some n) : (sizeOf t).run P w = .ok n w := by
  unfold sizeOf? at h
  cases hi : P.info? t with
  | none => rw [hi] at h; cases h
  | some i => rw [hi] at h; injection h with h; simp [sizeOf, ri hi, h]
theorem ri_size {t : TypeId} {i : TypeInfo} (h : P.info? t = some i) : sizeOf? P t = some i.size := by simp [sizeOf?, h]
def isAggD : TypeDesc → Bool
  | .struct _ | .array _ _ => true
  | _ => false
theorem ra {t : TypeId} {d : TypeDesc} (h : P.underlying t = some d) : (isAgg t).run P w = .ok (isAggD d) w := by
  cases d <;> simp [isAgg, ru h, isAggD]
theorem at_add (e : Loc) (off j : Nat) : (e.at off).add j = e.at (off + j) := by
  unfold Addr.add Loc.at
  split
  · rename_i h; simp [h]
  · simp [Nat.add_assoc]
theorem semVal_run {s : Sem Value} {v : Value} (h : semVal s = some v) : s.run P w = .ok v w := by
  cases s <;> simp [semVal] at h
  rw [h]; rfl
end

section
variable {P : Program} {ng n0 : Nat} {σ : Sg} {h : AH} {w : World}

theorem br_list {e : Loc} {ro : Bool} {cs cs' : Cs} (hl : cs.list = cs'.list) (b : BR σ w e (.cells ro cs)) : BR σ w e (.cells ro cs') := by
  obtain ⟨c, t, fz, h1, h2, h3, h4⟩ := b
  rw [hl] at h3 h4
  exact ⟨c, t, fz, h1, h2, h3, h4⟩
theorem br_cell {e : Loc} {ro : Bool} {cs : Cs} (b : BR σ w e (.cells ro cs)) {i : Nat} {a : AV} (hi : cs.list[i]? = some a) : ∃ v, w.cell? (e.at i) = some v ∧ VR σ a v := by
  obtain ⟨c, t, fz, hw, _, _, hr⟩ := b
  obtain ⟨v, hv, r⟩ := VRs.get hr i a hi
  refine ⟨v, ?_, r⟩
  simp only [World.cell?, Loc.at, hw]
  rw [List.getElem?_take] at hv
  split at hv
  · simpa [List.getElem?_drop] using hv
  · cases hv
theorem br_cells {e : Loc} {ro : Bool} {cs : Cs} (b : BR σ w e (.cells ro cs)) {off n : Nat} (hn : ((cs.list.drop off).take n).length = n) :
    ∃ vs : List Value, vs.length = n ∧ VRs σ ((cs.list.drop off).take n) vs ∧ (loadCells (e.at off) n).run P w = .ok vs.toArray w := by
  obtain ⟨c, t, fz, hw, hsz, hf, hr⟩ := b
  have hr2 := VRs.take n (VRs.drop off hr)
  have hl := VRs.length hr2
  rw [hn] at hl
  refine ⟨_, hl.symm, hr2, ?_⟩
  generalize hvs : List.take n (List.drop off (List.take cs.list.length (List.drop e.base c.toList))) = vs at hl
  have key := run_loadCells_list (P := P) w (e.at off) vs (fun j v hj => by
    rw [at_add]
    simp only [World.cell?, Loc.at, hw]
    rw [← hvs, List.getElem?_take] at hj
    split at hj
    · rw [List.getElem?_drop, List.getElem?_take] at hj
      split at hj
      · simpa [List.getElem?_drop, Nat.add_assoc] using hj
      · cases hj
    · cases hj)
  rw [← hl] at key
  exact key

theorem load_sound (R : HR ng n0 σ h w) {t : TypeId} {a v : AV} {x : Value} (hx : VR σ a x) (hl : aload P h t a = some v) :
    ∃ u, (Instr.loadAt t x).run P w = .ok u w ∧ VR σ v u := by
  cases a <;> simp only [aload] at hl <;> try cases hl
  rename_i k off
  obtain ⟨e, he, rfl⟩ := hx
  cases hb : h.get k with
  | none => simp [hb] at hl
  | some b =>
    cases b <;> simp only [hb] at hl <;> try cases hl
    rename_i ro cs
    have br := R.blk k e _ he hb
    have agg : ∀ d, P.underlying t = some d → isAggD d = true → (match P.info? t with
        | some i => let l := (cs.sub off i.size).list; bif Nat.beq l.length i.size then some (AV.agg l) else none
        | none => none) = some v → ∃ u, (Instr.loadAt t (.pointer (some (e.at off)))).run P w = .ok u w ∧ VR σ v u := fun d hd ha hl => by
      cases hi : P.info? t with
      | none => simp [hi] at hl
      | some i =>
        simp only [hi, nbeq, Bool.cond_decide, Cs.list_sub] at hl
        split at hl
        · rename_i hlen
          injection hl with hl; subst hl
          obtain ⟨vs, h1, h2, h3⟩ := br_cells (P := P) br hlen
          refine ⟨.agg vs.toArray, ?_, vs.toArray, rfl, by simpa using h2⟩
          simp [Instr.loadAt, Instr.sureAddr, loadVar, ra hd, ha, rs (ri_size hi), h3]
        · cases hl
    cases hu : P.underlying t with
    | none => simp [hu] at hl
    | some d =>
      simp only [hu] at hl
      by_cases ha : isAggD d = true
      · cases d <;> simp [isAggD] at ha <;> exact agg _ hu rfl hl
      · have hl' : cs.list[off]? = some v := by rw [← Cs.list_get]; cases d <;> simp [isAggD] at ha <;> exact hl
        obtain ⟨u, hc, r⟩ := br_cell br hl'
        refine ⟨u, ?_, r⟩
        simp [Instr.loadAt, Instr.sureAddr, loadVar, ra hu, ha, hc]

theorem part_sound {t : TypeId} {cs : List AV} {c : Array Value} {off : Nat} {v : AV} (hr : VRs σ cs c.toList) (hl : apart P t cs off = some v) :
    ∃ u, (part t c off).run P w = .ok u w ∧ VR σ v u := by
  unfold apart at hl
  cases hu : P.underlying t with
  | none => simp [hu] at hl
  | some d =>
    simp only [hu] at hl
    have agg : isAggD d = true → (match P.info? t with | some i => some (AV.agg ((cs.drop off).take i.size)) | none => none) = some v → ∃ u, (part t c off).run P w = .ok u w ∧ VR σ v u := fun ha hl => by
      cases hi : P.info? t with
      | none => simp [hi] at hl
      | some i =>
        simp only [hi] at hl
        injection hl with hl; subst hl
        refine ⟨.agg (c.extract off (off + i.size)), by simp [part, ra hu, ha, rs (ri_size hi)], _, rfl, ?_⟩
        have := VRs.take i.size (VRs.drop off hr)
        rw [Array.toList_extract, List.extract_eq_take_drop, Nat.add_sub_cancel_left]
        exact this
    by_cases ha : isAggD d = true
    · cases d <;> simp [isAggD] at ha <;> exact agg rfl hl
    · have hl' : cs[off]? = some v := by cases d <;> simp [isAggD] at ha <;> exact hl
      obtain ⟨u, hc, r⟩ := VRs.get hr off v hl'
      have hc' : c[off]? = some u := by simpa using hc
      exact ⟨u, by simp [part, ra hu, ha, hc'], r⟩

/-! ### fill -/
theorem foldl_put : ∀ (l : List Value) (s off : Nat) (c : Array Value), off + s + l.length ≤ c.size →
    ((l.zipIdx s).foldl (fun (cs : Array Value) (x : Value × Nat) => cs.setIfInBounds (off + x.2) x.1) c).toList = c.toList.take (off + s) ++ (l ++ c.toList.drop (off + s + l.length))
  | [], s, off, c, _ => by simp
  | x :: l, s, off, c, hle => by
    simp only [List.length_cons] at hle
    rw [List.zipIdx_cons, List.foldl_cons, foldl_put l (s + 1) off _ (by simp; omega)]
    apply List.ext_getElem?
    intro j
    simp only [Array.toList_setIfInBounds, List.getElem?_append, List.length_take, List.length_set, Array.length_toList, List.getElem?_take, List.getElem?_set, List.getElem?_drop, List.length_cons, List.getElem?_cons]
    by_cases h1 : j < off + s
    · have e1 : j < min (off + (s + 1)) c.size := by omega
      have e2 : j < min (off + s) c.size := by omega
      have e3 : ¬ off + s = j := by omega
      simp [e1, e2, e3, h1, show j < off + (s + 1) by omega]
    · by_cases h2 : j = off + s
      · subst h2
        have e1 : off + s < min (off + (s + 1)) c.size := by omega
        have e2 : ¬ off + s < min (off + s) c.size := by omega
        simp only [e1, e2, if_true, if_false]
        rw [if_pos (by omega)]
        simp [show min (off + s) c.size = off + s by omega, show off + s < c.size by omega]
      · have e1 : ¬ j < min (off + (s + 1)) c.size := by omega
        have e2 : ¬ j < min (off + s) c.size := by omega
        simp only [e1, e2, if_false]
        rw [show min (off + (s + 1)) c.size = off + s + 1 by omega, show min (off + s) c.size = off + s by omega]
        by_cases h3 : j - (off + s + 1) < l.length
        · rw [if_pos h3, if_pos (by omega), if_neg (by omega)]
          congr 1
        · rw [if_neg h3, if_neg (by omega), if_neg (by omega)]
          congr 1
          omega
theorem fill_sound (place : Nat → Option (Nat × Nat)) : ∀ (parts : List (Nat × AV)) (ps : List (Nat × Value)) (cells cells' : List AV) (c : Array Value),
    (∀ (j : Nat) (p : Nat × AV), parts[j]? = some p → ∃ q : Nat × Value, ps[j]? = some q ∧ q.1 = p.1 ∧ VR σ p.2 q.2) → parts.length = ps.length → VRs σ cells c.toList → afill place cells parts = some cells' →
    ∃ c', Instr.fill place c ps = some c' ∧ VRs σ cells' c'.toList
  | [], [], cells, cells', c, _, _, hr, hf => by simp only [afill] at hf; injection hf with hf; subst hf; exact ⟨c, rfl, hr⟩
  | [], _ :: _, _, _, _, _, hl, _, _ => by simp at hl
  | _ :: _, [], _, _, _, _, hl, _, _ => by simp at hl
  | (i, v) :: parts, (i', u) :: ps, cells, cells', c, hp, hl, hr, hf => by
    obtain ⟨q, hq, hi, hv⟩ := hp 0 (i, v) rfl
    simp only [List.getElem?_cons_zero, Option.some.injEq] at hq
    subst hq
    simp only at hi hv
    subst hi
    simp only [afill] at hf
    cases hpl : place i' with
    | none => simp [hpl] at hf
    | some os =>
      obtain ⟨off, size⟩ := os
      cases hc : v.cells with
      | none => simp [hpl, hc] at hf
      | some vs =>
        simp only [hpl, hc, nbeq, nble] at hf
        have hvs := VR.cells hv hc
        have hlen : vs.length = u.cells.size := (VRs.length hvs).trans Array.length_toList
        have hcl : cells.length = c.size := (VRs.length hr).trans Array.length_toList
        by_cases hcond : vs.length = size ∧ off + size ≤ cells.length
        · simp only [hcond, decide_true, Bool.and_self, cond_true] at hf
          have hle : off + 0 + u.cells.toList.length ≤ c.size := by rw [Array.length_toList]; omega
          have hput := foldl_put u.cells.toList 0 off c hle
          simp only [Nat.add_zero] at hput
          obtain ⟨c', h1, h2⟩ := fill_sound place parts ps _ cells' (u.cells.zipIdx.foldl (fun cs x => cs.setIfInBounds (off + x.2) x.1) c) (fun j p hj => hp (j + 1) p hj) (by simpa using hl)
            (by
              rw [← Array.foldl_toList, Array.toList_zipIdx, hput]
              rw [List.append_assoc]
              refine VRs.app (VRs.take off hr) (VRs.app hvs ?_)
              rw [Array.length_toList, ← hlen, hcond.1]
              exact VRs.drop _ hr) hf
          refine ⟨c', ?_, h2⟩
          simp only [Instr.fill, hpl]
          rw [if_neg]
          · exact h1
          · simp; omega
        · have : (decide (vs.length = size) && decide (off + size ≤ cells.length)) = false := by
            rw [← Bool.decide_and]; exact decide_eq_false hcond
          rw [this] at hf
          cases hf
end
end Go.Proofs.YtfmopmjgohopeaaGreatDoor.Ev

/-
  The abstract machine's operations that read, one by one.
-/
set_option linter.unusedVariables false
set_option linter.unusedSimpArgs false
set_option linter.constructorNameAsVariable false
namespace Go.Proofs.YtfmopmjgohopeaaGreatDoor.Ev
open Go Go.RowKit

section
variable {P : Program} {ng n0 : Nat} {σ : Sg} {h : AH} {w : World}

theorem zero_sound {t : TypeId} {cs : List AV} (hz : zeroCells P t = some cs) : ∃ z, (zeroValue t).run P w = .ok z w ∧ VRs σ cs z.cells.toList := by
  unfold zeroCells at hz
  cases hi : P.info? t with
  | none => simp [hi] at hz
  | some i =>
    simp only [hi] at hz
    cases hzz : i.zero with
    | none => simp [hzz] at hz
    | some z =>
      refine ⟨z, by simp [zeroValue, ri hi, hzz], ?_⟩
      cases z with
      | agg c => simp only [hzz] at hz; injection hz with hz; subst hz; exact VRs.ofAtoms σ _
      | _ =>
        simp only [hzz] at hz
        generalize ho : (AV.ofAtom _).one = b at hz
        cases b with
        | false => cases hz
        | true =>
          injection hz with hz; subst hz
          exact ⟨VR.ofAtom σ _, trivial⟩

theorem mapM_run {α β : Type} {f : α → Sem β} {g : α → β} : ∀ (l : List α), (∀ x ∈ l, (f x).run P w = .ok (g x) w) → (l.mapM f).run P w = .ok (l.map g) w
  | [], _ => rfl
  | x :: l, hx => by
    simp [List.mapM_cons, hx x (List.mem_cons_self ..), mapM_run l fun y hy => hx y (List.mem_cons_of_mem _ hy)]

theorem parts_rel {T : Operand → AV} {ρ : Operand → Value} (parts : Array (Nat × Operand)) (hρ : ∀ x ∈ (parts.toList.map (·.2)), VR σ (T x) (ρ x)) :
    (∀ (j : Nat) (p : Nat × AV), (parts.toList.map fun p => (p.1, T p.2))[j]? = some p → ∃ q : Nat × Value, ((parts.map fun p => (p.1, ρ p.2)).toList)[j]? = some q ∧ q.1 = p.1 ∧ VR σ p.2 q.2) ∧
    (parts.toList.map fun p => (p.1, T p.2)).length = ((parts.map fun p => (p.1, ρ p.2)).toList).length := by
  refine ⟨fun j p hj => ?_, by simp⟩
  rw [List.getElem?_map] at hj
  cases ho : parts.toList[j]? with
  | none => simp [ho] at hj
  | some o =>
    simp only [ho, Option.map_some] at hj
    injection hj with hj; subst hj
    refine ⟨(o.1, ρ o.2), ?_, rfl, hρ _ (List.mem_map.2 ⟨o, List.mem_of_getElem? ho, rfl⟩)⟩
    rw [Array.toList_map, List.getElem?_map, ho]; rfl

theorem build_sound {T : Operand → AV} {ρ : Operand → Value} {t : TypeId} {parts : Array (Nat × Operand)} {v : AV} (hρ : ∀ x ∈ (parts.toList.map (·.2)), VR σ (T x) (ρ x)) (hq : abuild P T t parts = some v) :
    ∃ u, (Instr.build t (parts.map fun p => (p.1, ρ p.2))).run P w = .ok u w ∧ VR σ v u := by
  unfold abuild at hq
  obtain ⟨hp, hl⟩ := parts_rel parts hρ
  cases hz : zeroCells P t with
  | none => simp [hz] at hq
  | some zero =>
    obtain ⟨z, hz1, hz2⟩ := zero_sound (P := P) (σ := σ) (w := w) hz
    cases hu : P.underlying t with
    | none => simp [hz, hu] at hq
    | some d =>
      cases d <;> simp only [hz, hu] at hq <;> try cases hq
      case struct fields =>
        generalize hall : fields.toList.all (fun f => (sizeOf? P f.type).isSome) = b at hq
        cases b with
        | false => cases hq
        | true =>
          simp only [cond_true, Option.map_eq_some_iff] at hq
          obtain ⟨cells', hf, rfl⟩ := hq
          obtain ⟨c', h1, h2⟩ := fill_sound _ _ _ _ _ z.cells hp hl hz2 hf
          refine ⟨.agg c', ?_, c', rfl, h2⟩
          have hmap := mapM_run (P := P) (w := w) (f := fun (f : Field) => (do pure (f.offset, ← sizeOf f.type) : Sem (Nat × Nat))) (g := fun f => (f.offset, (sizeOf? P f.type).getD 0)) fields.toList (fun f hf => by
            have := List.all_eq_true.1 hall f hf
            obtain ⟨s, hs⟩ := Option.isSome_iff_exists.1 this
            simp [rs hs, hs])
          have hplace : (fun i : Nat => (Array.map (fun f : Field => (f.offset, (sizeOf? P f.type).getD 0)) fields)[i]?) = fieldPl P fields := by
            funext i
            unfold fieldPl
            rw [Array.getElem?_map]
            cases hf : fields[i]? with
            | none => rfl
            | some f =>
              have := List.all_eq_true.1 hall f (by simpa using Array.mem_of_getElem? hf)
              obtain ⟨s, hs⟩ := Option.isSome_iff_exists.1 this
              simp [hs]
          simp only [Instr.build, Sem.run_bind, hz1, Result.andThen_ok, ru hu, Array.mapM_eq_mapM_toList, Sem.run_map, hmap]
          have e : (List.map (fun f : Field => (f.offset, (sizeOf? P f.type).getD 0)) fields.toList).toArray = Array.map (fun f : Field => (f.offset, (sizeOf? P f.type).getD 0)) fields := by
            apply Array.ext'; simp
          rw [e, hplace, h1]
          rfl
      case array n elem =>
        cases hs : sizeOf? P elem with
        | none => simp [hs] at hq
        | some s =>
          simp only [hs, Option.map_eq_some_iff] at hq
          obtain ⟨cells', hf, rfl⟩ := hq
          obtain ⟨c', h1, h2⟩ := fill_sound _ _ _ _ _ z.cells hp hl hz2 hf
          rw [Array.toList_map] at h1
          exact ⟨.agg c', by simp [Instr.build, hz1, ru hu, rs hs, h1], c', rfl, h2⟩

/-! ### Comparison, arithmetic -/
theorem natsBeq_iff : ∀ (a b : List Nat), natsBeq a b = true ↔ a = b
  | [], [] => by simp [natsBeq]
  | [], _ :: _ => by simp [natsBeq]
  | _ :: _, [] => by simp [natsBeq]
  | a :: x, b :: y => by simp [natsBeq, nbeq, natsBeq_iff x y]
theorem mkS_toList (s : List Nat) : (mkS s).toList = s.map UInt8.ofNat := by
  unfold mkS; exact ByteArray.toList_mk _
theorem map_ofNat_inj : ∀ {a b : List Nat}, (∀ x ∈ a, x < 256) → (∀ x ∈ b, x < 256) → a.map UInt8.ofNat = b.map UInt8.ofNat → a = b
  | [], [], _, _, _ => rfl
  | [], _ :: _, _, _, h => by simp at h
  | _ :: _, [], _, _, h => by simp at h
  | a :: x, b :: y, ha, hb, h => by
    simp only [List.map_cons, List.cons.injEq] at h
    have h1 : a = b := by
      have := congrArg UInt8.toNat h.1
      rwa [UInt8.toNat_ofNat_of_lt' (ha a (List.mem_cons_self ..)), UInt8.toNat_ofNat_of_lt' (hb b (List.mem_cons_self ..))] at this
    rw [h1, map_ofNat_inj (fun x hx => ha x (List.mem_cons_of_mem _ hx)) (fun x hx => hb x (List.mem_cons_of_mem _ hx)) h.2]
theorem mkS_beq {a b : List Nat} (ha : ∀ x ∈ a, x < 256) (hb : ∀ x ∈ b, x < 256) : ((mkS a).toList == (mkS b).toList) = natsBeq a b := by
  rw [mkS_toList, mkS_toList]
  by_cases h : a = b
  · subst h; rw [(natsBeq_iff a a).2 rfl]; simp
  · have h1 : natsBeq a b = false := Bool.eq_false_iff.2 fun e => h ((natsBeq_iff a b).1 e)
    rw [h1, beq_eq_false_iff_ne]
    exact fun e => h (map_ofNat_inj ha hb e)
theorem mkS_less : ∀ {a b : List Nat}, (∀ x ∈ a, x < 256) → (∀ x ∈ b, x < 256) → Op.bytesLess (a.map UInt8.ofNat) (b.map UInt8.ofNat) = bytesLess a b
  | a, [], _, _ => by cases a <;> rfl
  | [], _ :: _, _, _ => rfl
  | a :: x, b :: y, ha, hb => by
    have a1 := ha a (List.mem_cons_self ..)
    have b1 := hb b (List.mem_cons_self ..)
    have ih := mkS_less (fun x hx => ha x (List.mem_cons_of_mem _ hx)) (fun x hx => hb x (List.mem_cons_of_mem _ hx)) (a := x) (b := y)
    have hlt : (UInt8.ofNat a < UInt8.ofNat b) ↔ a < b := by
      rw [UInt8.lt_iff_toNat_lt, UInt8.toNat_ofNat_of_lt' a1, UInt8.toNat_ofNat_of_lt' b1]
    have heq : (UInt8.ofNat a == UInt8.ofNat b) = decide (a = b) := by
      by_cases h : a = b
      · subst h; simp
      · simp only [h, decide_false, beq_eq_false_iff_ne]
        intro e
        have := congrArg UInt8.toNat e
        rw [UInt8.toNat_ofNat_of_lt' a1, UInt8.toNat_ofNat_of_lt' b1] at this
        exact h this
    simp only [List.map_cons, Op.bytesLess, bytesLess, nblt, nbeq, Bool.cond_decide, ih, hlt, heq]
    by_cases h1 : a < b
    · simp [h1]
    · by_cases h2 : a = b <;> simp [h1, h2]
theorem mkS_size (s : List Nat) : (mkS s).size = s.length := by
  show (List.toArray (s.map UInt8.ofNat)).size = _
  simp
theorem mkS_app (a b : List Nat) : mkS a ++ mkS b = mkS (a ++ b) := by
  unfold mkS; rw [ByteArray.mk_append_mk, List.map_append]
theorem lt_app {a b : List Nat} (ha : ∀ x ∈ a, x < 256) (hb : ∀ x ∈ b, x < 256) : ∀ x ∈ a ++ b, x < 256 := fun x hx => (List.mem_append.1 hx).elim (ha x) (hb x)

theorem boolBeq_eq (a b : Bool) : boolBeq a b = (a == b) := by cases a <;> cases b <;> rfl
theorem eq_run {t : TypeId} {d : TypeDesc} {x y : Value} {r : Bool} (hu : P.underlying t = some d)
    (hr : ∀ n, (Op.equalIn (n + 1) t x y).run P w = .ok r w) : (Op.equal t x y).run P w = .ok r w := hr 9999
theorem nilEq_sound {t : TypeId} {d : TypeDesc} {x : AV} {a b : Value} {r : Bool} (hu : P.underlying t = some d) (hx : VR σ x a) (hq : nilEq d x b = some r) :
    (∀ n, (Op.equalIn (n + 1) t a b).run P w = .ok r w) ∧ Go.binOp .eql t a b = (do pure (.bool (← Op.equal t a b))) ∧ Go.binOp .neq t a b = (do pure (.bool (!(← Op.equal t a b)))) := by
  have fin : ∀ (r' : Bool), r' = r → (∀ n, (Op.equalIn (n + 1) t a b).run P w = .ok r' w) → Go.binOp .eql t a b = (do pure (.bool (← Op.equal t a b))) → Go.binOp .neq t a b = (do pure (.bool (!(← Op.equal t a b)))) → _ :=
    fun r' hr h1 h2 h3 => (⟨hr ▸ h1, h2, h3⟩ : (∀ n, (Op.equalIn (n + 1) t a b).run P w = .ok r w) ∧ Go.binOp .eql t a b = (do pure (.bool (← Op.equal t a b))) ∧ Go.binOp .neq t a b = (do pure (.bool (!(← Op.equal t a b)))))
  unfold nilEq at hq
  split at hq
  · split at hq
    · split at hq <;> try (cases hq; done)
      · obtain ⟨e, he, rfl⟩ := hx
        exact fin false (by simpa using hq) (fun n => by simp only [Op.equalIn, Sem.run_bind, ru hu, Result.andThen_ok]; rfl) rfl rfl
      · obtain ⟨rfl, _⟩ := hx
        exact fin true (by simpa using hq) (fun n => by simp only [Op.equalIn, Sem.run_bind, ru hu, Result.andThen_ok]; rfl) rfl rfl
    · cases hq
  · split at hq
    · split at hq <;> try (cases hq; done)
      · obtain ⟨e, c, he, rfl, hc⟩ := hx
        exact fin false (by simpa using hq) (fun n => by simp only [Op.equalIn, Sem.run_bind, ru hu, Result.andThen_ok]; rfl) rfl rfl
      · obtain ⟨ad, c, rfl, hc⟩ := hx
        exact fin false (by simpa using hq) (fun n => by simp only [Op.equalIn, Sem.run_bind, ru hu, Result.andThen_ok]; rfl) rfl rfl
      · obtain ⟨rfl, _⟩ := hx
        exact fin true (by simpa using hq) (fun n => by simp only [Op.equalIn, Sem.run_bind, ru hu, Result.andThen_ok]; rfl) rfl rfl
    · cases hq
  · split at hq
    · split at hq <;> try (cases hq; done)
      · obtain ⟨e, he, rfl⟩ := hx
        exact fin false (by simpa using hq) (fun n => by simp only [Op.equalIn, Sem.run_bind, ru hu, Result.andThen_ok]; rfl) rfl rfl
      · obtain ⟨rfl, _⟩ := hx
        exact fin true (by simpa using hq) (fun n => by simp only [Op.equalIn, Sem.run_bind, ru hu, Result.andThen_ok]; rfl) rfl rfl
    · cases hq
  · split at hq
    · split at hq <;> try (cases hq; done)
      · obtain ⟨x', y', rfl, _, _⟩ := hx
        exact fin false (by simpa using hq) (fun n => by simp only [Op.equalIn, Sem.run_bind, ru hu, Result.andThen_ok]; rfl) rfl rfl
      · obtain ⟨e, he, rfl⟩ := hx
        exact fin false (by simpa using hq) (fun n => by simp only [Op.equalIn, Sem.run_bind, ru hu, Result.andThen_ok]; rfl) rfl rfl
      · obtain ⟨rfl, _⟩ := hx
        exact fin true (by simpa using hq) (fun n => by simp only [Op.equalIn, Sem.run_bind, ru hu, Result.andThen_ok]; rfl) rfl rfl
    · cases hq
  · split at hq
    · split at hq <;> try (cases hq; done)
      · obtain ⟨y, rfl, _⟩ := hx
        exact fin false (by simpa using hq) (fun n => by simp only [Op.equalIn, Sem.run_bind, ru hu, Result.andThen_ok]; rfl) rfl rfl
    · cases hq
  · cases hq
theorem bin_sound {op : BinOp} {t : TypeId} {x y v : AV} {a b : Value} (hx : VR σ x a) (hy : VR σ y b) (hq : abin P op t x y = some v) :
    ∃ u, (Go.binOp op t a b).run P w = .ok u w ∧ VR σ v u := by
  cases y with
  | int k n =>
    cases x <;> simp only [abin] at hq <;> try cases hq
    obtain rfl := hx; obtain rfl := hy
    cases hs : semVal (Go.binOp op t (.int ‹_› ‹_›) (.int k n)) with
    | none => simp [hs] at hq
    | some r =>
      refine ⟨r, semVal_run hs, ?_⟩
      rw [hs] at hq
      cases r <;> simp only [] at hq <;> first | (cases hq; done) | (injection hq with hq; subst hq; rfl)
  | str s =>
    cases x <;> simp only [abin] at hq <;> try cases hq
    rename_i s'
    obtain ⟨rfl, hs'⟩ := hx; obtain ⟨rfl, hs⟩ := hy
    have e1 : ((mkS s'.list).toList == (mkS s.list).toList) = s'.beq s := by rw [Bs.beq_nats]; exact mkS_beq hs' hs
    have e2 : Op.bytesLess (mkS s'.list).toList (mkS s.list).toList = s'.less s := by rw [Bs.less_eq, mkS_toList, mkS_toList]; exact mkS_less hs' hs
    have e0 : Go.binOp op t (.string (mkS s'.list)) (.string (mkS s.list)) = Op.stringOp op (mkS s'.list) (mkS s.list) := by cases op <;> rfl
    rw [e0]
    cases op <;> simp only [] at hq <;> try cases hq
    case add =>
      rw [nble, Bool.cond_decide] at hq
      split at hq
      · rename_i hle
        injection hq with hq; subst hq
        refine ⟨_, ?_, ⟨rfl, Bs.list_lt _⟩⟩
        exact (run_string_add_sum (P := P) w (mkS s'.list) (mkS s.list) (by rw [mkS_size, mkS_size, Bs.list_len, Bs.list_len]; omega)).trans (by rw [mkS_app, Bs.list_app])
      · cases hq
    all_goals exact ⟨_, by simp only [Op.stringOp, e1, e2]; rfl, rfl⟩
  | bool b' =>
    cases x <;> simp only [abin] at hq <;> try (cases hq; done)
    rename_i b0
    obtain rfl := hx; obtain rfl := hy
    have key : P.underlying t = some .bool → (Op.equal t (.bool b0) (.bool b')).run P w = .ok (b0 == b') w := fun hu =>
      eq_run hu fun n => by simp only [Op.equalIn, Sem.run_bind, ru hu, Result.andThen_ok]; rfl
    cases op <;> try (cases hq; done)
    all_goals (cases hu : P.underlying t with
      | none => simp [hu] at hq
      | some d =>
        cases d <;> simp only [hu] at hq <;> try (cases hq; done)
        injection hq with hq; subst hq
        refine ⟨_, ?_, rfl⟩
        simp [Go.binOp, key hu, boolBeq_eq])
  | lit l =>
    obtain ⟨rfl, hl⟩ := hy
    have hq' : (match P.underlying t with
        | none => none
        | some d => nilOp op (nilEq d x b)) = some v := by cases x <;> exact hq
    cases hu : P.underlying t with
    | none => simp [hu] at hq'
    | some d =>
      simp only [hu] at hq'
      cases hn : nilEq d x b with
      | none => simp [hn, nilOp] at hq'
      | some r =>
        obtain ⟨h1, h2⟩ := nilEq_sound (P := P) (w := w) hu hx hn
        cases op <;> simp only [hn, nilOp] at hq' <;> try (cases hq'; done)
        · injection hq' with hq'; subst hq'
          exact ⟨.bool r, by rw [h2.1]; simp [eq_run hu h1], rfl⟩
        · injection hq' with hq'; subst hq'
          exact ⟨.bool (!r), by rw [h2.2]; simp [eq_run hu h1], rfl⟩
  | _ => cases x <;> simp only [abin] at hq <;> cases hq
end
end Go.Proofs.YtfmopmjgohopeaaGreatDoor.Ev

/-
  The abstract machine's operations that read, the rest of them, and all together.
-/
set_option linter.unusedVariables false
set_option linter.unusedSimpArgs false
set_option linter.constructorNameAsVariable false
namespace Go.Proofs.YtfmopmjgohopeaaGreatDoor.Ev
open Go Go.RowKit

section
variable {P : Program} {ng n0 : Nat} {σ : Sg} {h : AH} {w : World}

theorem natOf_some {a : AV} {n : Nat} {v : Value} (hn : natOf a = some n) (hv : VR σ a v) : ∃ k, v = .int k (n : Int) := by
  cases a <;> simp only [natOf] at hn <;> try cases hn
  rename_i k m
  cases m <;> simp only [] at hn <;> try cases hn
  exact ⟨k, hv⟩

theorem binop_sound {T : Operand → AV} {ρ : Operand → Value} {op : BinOp} {t yt : TypeId} {x y : Operand} {v : AV} (hx : VR σ (T x) (ρ x)) (hy : VR σ (T y) (ρ y))
    (hq : abinop P T op t x y = some v) : ∃ u, (do eqGuard op t x y (ρ x) (ρ y); Go.binOp op t (ρ x) (ρ y) : Sem Value).run P w = .ok u w ∧ VR σ v u := by
  have plain : abin P op t (T x) (T y) = some v → eqGuard op t x y (ρ x) (ρ y) = pure () → ∃ u, (do eqGuard op t x y (ρ x) (ρ y); Go.binOp op t (ρ x) (ρ y) : Sem Value).run P w = .ok u w ∧ VR σ v u := fun hb hg => by
    obtain ⟨u, h1, h2⟩ := bin_sound (P := P) (w := w) hx hy hb
    exact ⟨u, by simp [hg, h1], h2⟩
  have guard : ∀ a b : Value, (¬ (a = .nilIface ∧ b = .nilIface)) → (∀ c d, ¬ (a = .agg c ∧ b = .agg d)) → eqGuard op t x y a b = pure () := fun a b h1 h2 => by
    cases a with
    | nilIface => cases b <;> first | (exact absurd ⟨rfl, rfl⟩ h1) | (cases op <;> rfl)
    | agg c => cases b <;> first | (exact absurd ⟨rfl, rfl⟩ (h2 _ _)) | (cases op <;> rfl)
    | _ => cases op <;> rfl
  unfold abinop at hq
  split at hq
  · rename_i e1 e2
    rw [e1] at hx; rw [e2] at hy
    obtain ⟨hx, _⟩ := hx; obtain ⟨hy, _⟩ := hy
    rw [hx, hy]
    cases hu : P.underlying t with
    | none => simp [hu] at hq
    | some d =>
      cases d <;> simp only [hu] at hq <;> try (cases hq; done)
      generalize hc : (isConst x || isConst y) = c at hq
      cases c with
      | false => cases hq
      | true =>
        have hg : eqGuard op t x y .nilIface .nilIface = pure () := by
          rcases Bool.or_eq_true_iff.1 hc with hc | hc
          · cases x <;> simp [isConst] at hc; exact eqGuard_nil_constL op t y _
          · cases y <;> simp [isConst] at hc; exact eqGuard_nil_constR op t x _
        have he : (Op.equal t .nilIface .nilIface).run P w = .ok true w := eq_run hu fun n => by simp only [Op.equalIn, Sem.run_bind, ru hu, Result.andThen_ok]; rfl
        cases op <;> simp only [cond_true] at hq <;> try (cases hq; done)
        · injection hq with hq; subst hq
          exact ⟨.bool true, by simp [hg, Go.binOp, he], rfl⟩
        · injection hq with hq; subst hq
          exact ⟨.bool false, by simp [hg, Go.binOp, he], rfl⟩
  · cases hq
  · rename_i hn ha
    refine plain hq (guard _ _ (fun ⟨e1, e2⟩ => ?_) (fun c d ⟨e1, e2⟩ => ?_))
    · -- the operands' abstract values would have to be the nothing of an interface, or not known
      rw [e1] at hx; rw [e2] at hy
      generalize hTx : T x = a at *
      generalize hTy : T y = b at *
      cases b with
      | lit l =>
        obtain ⟨rfl, _⟩ := hy
        cases a with
        | lit l' => obtain ⟨rfl, _⟩ := hx; exact hn rfl rfl
        | any =>
          simp only [abin] at hq
          cases hu : P.underlying t with
          | none => simp [hu] at hq
          | some d => cases d <;> simp [hu, nilEq, nilOp] at hq
        | _ => first | (obtain ⟨_, hz⟩ := hx; cases hz; done) | (obtain ⟨_, _, hz⟩ := hx; cases hz; done) | (obtain ⟨_, _, _, hz, _⟩ := hx; cases hz; done) | (obtain ⟨_, _, hz, _⟩ := hx; cases hz; done) | (obtain ⟨_, hz, _⟩ := hx; cases hz; done) | (obtain ⟨hz, _⟩ := hx; cases hz; done) | (cases hx; done)
      | any => cases a <;> simp [abin] at hq
      | _ => first | (obtain ⟨_, hz⟩ := hy; cases hz; done) | (obtain ⟨_, _, hz⟩ := hy; cases hz; done) | (obtain ⟨_, _, _, hz, _⟩ := hy; cases hz; done) | (obtain ⟨_, _, hz, _⟩ := hy; cases hz; done) | (obtain ⟨_, hz, _⟩ := hy; cases hz; done) | (obtain ⟨hz, _⟩ := hy; cases hz; done) | (cases hy; done)
    · rw [e1] at hx; rw [e2] at hy
      generalize hTx : T x = a at *
      generalize hTy : T y = b at *
      cases b with
      | lit l => obtain ⟨rfl, hl⟩ := hy; simp [litOk] at hl
      | any => cases a <;> simp [abin] at hq
      | agg l =>
        cases a <;> simp [abin] at hq
      | _ => first | (obtain ⟨_, hz⟩ := hy; cases hz; done) | (obtain ⟨_, _, hz⟩ := hy; cases hz; done) | (obtain ⟨_, _, _, hz, _⟩ := hy; cases hz; done) | (obtain ⟨_, _, hz, _⟩ := hy; cases hz; done) | (obtain ⟨_, hz, _⟩ := hy; cases hz; done) | (obtain ⟨hz, _⟩ := hy; cases hz; done) | (cases hy; done)

theorem un_sound {op : UnOp} {x v : AV} {a : Value} (hx : VR σ x a) (hq : aun op x = some v) : ∃ u, (Op.unary op a).run P w = .ok u w ∧ VR σ v u := by
  cases x <;> simp only [aun] at hq <;> try (cases hq; done)
  · obtain rfl := hx
    cases op <;> try (cases hq; done)
    injection hq with hq; subst hq
    exact ⟨_, rfl, rfl⟩
  · obtain rfl := hx
    cases hs : semVal (Op.unary op (.int ‹_› ‹_›)) with
    | none => simp [hs] at hq
    | some r =>
      refine ⟨r, semVal_run hs, ?_⟩
      rw [hs] at hq
      cases r <;> simp only [] at hq <;> first | (cases hq; done) | (injection hq with hq; subst hq; rfl)

/-! ### Slices -/
def OVR (σ : Sg) : Option AV → Option Value → Prop
  | none, none => True
  | some a, some v => VR σ a v
  | _, _ => False
theorem ovr_nat {a : Option AV} {v : Option Value} {x : AV} (hr : OVR σ a v) (ha : a = some x) : ∃ y, v = some y ∧ VR σ x y := by
  subst ha
  cases v with
  | none => exact hr.elim
  | some y => exact ⟨y, rfl, hr⟩
theorem ovr_none {a : Option AV} {v : Option Value} (hr : OVR σ a v) (ha : a = none) : v = none := by
  subst ha
  cases v with
  | none => rfl
  | some y => exact hr.elim
theorem bound_run {k : IntKind} {n y : Nat} {code : BoundsCode} (hle : n ≤ y) : (Instr.sliceBound (.int k (n : Int)) y code).run P w = .ok n w := by
  have : (0 : Int) ≤ (n : Int) ∧ (n : Int) ≤ (y : Int) := ⟨by omega, by omega⟩
  simp [Instr.sliceBound, asIntOf, this, hle]
theorem bounds_sound {isS : Bool} {len c : Nat} {cap : Option Nat} {lo hi mx : Option AV} {lo' hi' mx' : Option Value} {l hh : Nat} {m : Option Nat}
    (h1 : OVR σ lo lo') (h2 : OVR σ hi hi') (h3 : OVR σ mx mx') (hc : ∀ n, cap = some n → c = n) (hn : cap = none → len ≤ c) (hq : abounds len cap lo hi mx = some (l, hh, m)) :
    ∃ mc, (Instr.sliceBounds isS len c lo' hi' mx').run P w = .ok (l, hh, mc) w ∧ (∀ n, m = some n → mc = n) ∧ (m = none → mc = c ∧ cap = none ∧ hh ≤ len) ∧ l ≤ hh := by
  unfold abounds at hq
  cases hmo : aMax len cap mx with
  | none => simp [hmo] at hq
  | some mo =>
  cases hho : aEnd len mo hi mx with
  | none => simp [hmo, hho] at hq
  | some ho =>
  cases hlo : aLow ho lo with
  | none => simp [hmo, hho, hlo] at hq
  | some lw =>
  simp only [hmo, hho, hlo, Option.some.injEq, Prod.mk.injEq] at hq
  obtain ⟨rfl, rfl, rfl⟩ := hq
  have htop : ∃ mc, ((match (generalizing := false) mx' with
      | some v => Instr.sliceBound v c (if isS then .slice3Acap else .slice3Alen)
      | none => pure c : Sem Nat)).run P w = .ok mc w ∧ (∀ n, mo = some n → mc = n) ∧ (mo = none → mc = c ∧ cap = none) := by
    cases mx with
    | none =>
      rw [ovr_none h3 rfl]
      simp only [aMax, Option.some.injEq] at hmo
      subst hmo
      exact ⟨c, rfl, hc, fun e => ⟨rfl, e⟩⟩
    | some v =>
      obtain ⟨v', rfl, hv⟩ := ovr_nat h3 rfl
      cases hnv : natOf v with
      | none => simp [aMax, hnv] at hmo
      | some n =>
        obtain ⟨k, rfl⟩ := natOf_some hnv hv
        simp only [aMax, hnv, nble, Bool.cond_decide] at hmo
        split at hmo
        · rename_i hle
          simp only [Option.some.injEq] at hmo
          subst hmo
          refine ⟨n, bound_run ?_, fun _ e => by injection e, fun e => (by cases e)⟩
          cases hcap : cap with
          | none => rw [hcap] at hle; exact Nat.le_trans hle (hn hcap)
          | some c' => rw [hcap] at hle; rw [hc c' hcap]; exact hle
        · cases hmo
  obtain ⟨mc, t1, t2, t3⟩ := htop
  have hend : ((match (generalizing := false) hi', mx' with
      | some v, some _ => Instr.sliceBound v mc .slice3B
      | some v, none => Instr.sliceBound v mc (if isS then .sliceAcap else .sliceAlen)
      | none, none => pure len
      | none, some _ => stuck "Slice: max without high" : Sem Nat)).run P w = .ok ho w ∧ (mo = none → ho ≤ len) := by
    cases hi with
    | none =>
      rw [ovr_none h2 rfl]
      cases mx with
      | none =>
        rw [ovr_none h3 rfl]
        simp only [aEnd, Option.some.injEq] at hho
        subst hho
        exact ⟨rfl, fun _ => Nat.le_refl _⟩
      | some v => simp [aEnd] at hho
    | some v =>
      obtain ⟨v', rfl, hv⟩ := ovr_nat h2 rfl
      cases hnv : natOf v with
      | none => simp [aEnd, hnv] at hho
      | some n =>
        obtain ⟨k, rfl⟩ := natOf_some hnv hv
        simp only [aEnd, hnv, nble, Bool.cond_decide] at hho
        split at hho
        · rename_i hle
          simp only [Option.some.injEq] at hho
          subst hho
          have hle' : n ≤ mc := by
            cases hmo' : mo with
            | none => rw [hmo'] at hle; obtain ⟨e1, e2⟩ := t3 hmo'; rw [e1]; exact Nat.le_trans hle (hn e2)
            | some c' => rw [hmo'] at hle; rw [t2 c' hmo']; exact hle
          refine ⟨?_, fun e => by rw [e] at hle; exact hle⟩
          cases mx' <;> exact bound_run hle'
        · cases hho
  obtain ⟨e1, e2⟩ := hend
  have hlow : ((match (generalizing := false) lo' with
      | some v => Instr.sliceBound v ho (if mx'.isSome then .slice3C else .sliceB)
      | none => pure 0 : Sem Nat)).run P w = .ok lw w ∧ lw ≤ ho := by
    cases lo with
    | none =>
      rw [ovr_none h1 rfl]
      simp only [aLow, Option.some.injEq] at hlo
      subst hlo
      exact ⟨rfl, Nat.zero_le _⟩
    | some v =>
      obtain ⟨v', rfl, hv⟩ := ovr_nat h1 rfl
      cases hnv : natOf v with
      | none => simp [aLow, hnv] at hlo
      | some n =>
        obtain ⟨k, rfl⟩ := natOf_some hnv hv
        simp only [aLow, hnv, nble, Bool.cond_decide] at hlo
        split at hlo
        · rename_i hle
          simp only [Option.some.injEq] at hlo
          subst hlo
          exact ⟨bound_run hle, hle⟩
        · cases hlo
  refine ⟨mc, ?_, t2, fun e => ⟨(t3 e).1, (t3 e).2, e2 e⟩, hlow.2⟩
  have e3 := hlow.1
  unfold Instr.sliceBounds
  cases mx' <;> cases hi' <;> cases lo' <;> simp only [] at t1 e1 e3 ⊢ <;>
    first
      | (simp only [run_stuck] at e1; cases e1; done)
      | (simp only [Sem.run_bind, t1, Result.andThen_ok, e1, e3]; rfl)

theorem slice_sound {t : TypeId} {x v : AV} {a : Value} {lo hi mx : Option AV} {lo' hi' mx' : Option Value} (hx : VR σ x a) (h1 : OVR σ lo lo') (h2 : OVR σ hi hi') (h3 : OVR σ mx mx')
    (hq : aslice P t x lo hi mx = some v) : ∃ u, (Instr.sliceAt t a lo' hi' mx').run P w = .ok u w ∧ VR σ v u := by
  unfold aslice at hq
  split at hq
  · rename_i s hu
    obtain ⟨rfl, hs⟩ := hx
    cases mx with
    | some _ => simp at hq
    | none =>
      cases hb : abounds s.n (some s.n) lo hi none with
      | none => simp [hb] at hq
      | some r =>
        obtain ⟨l, hh, m⟩ := r
        simp only [hb] at hq
        injection hq with hq; subst hq
        obtain ⟨mc, r1, _, _, r4⟩ := bounds_sound (P := P) (w := w) (isS := false) (c := s.n) h1 h2 h3 (fun n e => by injection e) (fun e => by cases e) hb
        rw [ovr_none h3 rfl] at r1
        refine ⟨.string ((mkS s.list).extract l hh), ?_, ?_, ?_⟩
        · rw [ovr_none h3 rfl]
          simp [Instr.sliceAt, Instr.slice, ru hu, mkS_size, Bs.list_len, r1]
        · rw [Bs.list_sub]
          unfold mkS
          rw [ByteArray.extract_mk, List.map_take, List.map_drop]
        · exact Bs.list_lt _
  · rename_i elem k off len cap hu
    obtain ⟨e, c, he, rfl, hc⟩ := hx
    cases hs : sizeOf? P elem with
    | none => simp [hs] at hq
    | some size =>
      cases hb : abounds len cap.opt lo hi mx with
      | none => simp [hs, hb] at hq
      | some r =>
        obtain ⟨l, hh, m⟩ := r
        simp only [hs, hb] at hq
        obtain ⟨mc, r1, r2, r3, r4⟩ := bounds_sound (P := P) (w := w) (isS := true) (c := c) h1 h2 h3 (fun n e => by
            cases cap with
            | is c' => injection e with e; exact hc.trans e
            | room sz => cases e) (fun e => by
            cases cap with
            | is c' => cases e
            | room sz => exact hc.1) hb
        have hrun : (Instr.sliceAt t (.slice (some (e.at off)) len c) lo' hi' mx').run P w = .ok (.slice (if mc = l then some (e.at off) else some (e.at (off + l * size))) (hh - l) (mc - l)) w := by
          simp [Instr.sliceAt, Instr.slice, ru hu, r1, rs hs, at_add]
        cases m with
        | some c' =>
          simp only [] at hq
          injection hq with hq; subst hq
          refine ⟨_, hrun, ?_⟩
          have := r2 c' rfl
          subst this
          refine ⟨e, mc - l, he, ?_, rfl⟩
          rw [nbeq, Bool.cond_decide]
          split <;> rfl
        | none =>
          obtain ⟨rfl, hcap, hle⟩ := r3 rfl
          cases cap with
          | is c' => cases hcap
          | room sz =>
            simp only [] at hq
            by_cases hcond : size = sz ∧ (l < hh ∨ l = 0)
            · have : (Nat.beq size sz && (Nat.blt l hh || Nat.beq l 0)) = true := by simp [nbeq, nblt, hcond.1, hcond.2]
              rw [this, cond_true] at hq
              injection hq with hq; subst hq
              obtain ⟨hc1, hc2⟩ := hc
              refine ⟨_, hrun, e, mc - l, he, ?_, ?_⟩
              · split
                · rename_i hml
                  have hl0 : l = 0 := by omega
                  simp [hl0]
                · rfl
              · refine ⟨by omega, ?_⟩
                rw [hcond.1, Nat.sub_mul]
                have : l * sz ≤ mc * sz := Nat.mul_le_mul_right _ (by omega)
                omega
            · have : (Nat.beq size sz && (Nat.blt l hh || Nat.beq l 0)) = false := by
                rw [Bool.eq_false_iff]; intro hx; simp [nbeq, nblt] at hx; exact hcond ⟨hx.1, hx.2⟩
              rw [this, cond_false, nbeq, Bool.cond_decide] at hq
              split at hq
              · rename_i hlh
                injection hq with hq; subst hq
                refine ⟨_, hrun, ?_⟩
                subst hlh
                split <;> exact ⟨_, _, by rw [Nat.sub_self], fun n e => by cases e⟩
              · cases hq
  · rename_i elem cap hu
    obtain ⟨ad, c, rfl, hc⟩ := hx
    cases hs : sizeOf? P elem with
    | none => simp [hs] at hq
    | some size =>
      cases hb : abounds 0 cap lo hi mx with
      | none => simp [hs, hb] at hq
      | some r =>
        obtain ⟨l, hh, m⟩ := r
        obtain ⟨mc, r1, r2, r3, r4⟩ := bounds_sound (P := P) (w := w) (isS := true) (c := c) h1 h2 h3 hc (fun _ => Nat.zero_le _) hb
        simp only [hs, hb] at hq
        cases l <;> cases hh <;> simp only [] at hq <;> try (cases hq; done)
        injection hq with hq; subst hq
        refine ⟨.slice (some ad) 0 mc, ?_, ad, mc, rfl, r2⟩
        simp [Instr.sliceAt, Instr.slice, ru hu, r1, rs hs, Addr.add]
  · rename_i elem len cap hu
    obtain ⟨rfl, _⟩ := hx
    cases hs : sizeOf? P elem with
    | none => simp [hs] at hq
    | some size =>
      cases hb : abounds len (some cap) lo hi mx with
      | none => simp [hs, hb] at hq
      | some r =>
        obtain ⟨l, hh, m⟩ := r
        obtain ⟨mc, r1, r2, r3, r4⟩ := bounds_sound (P := P) (w := w) (isS := true) (c := cap) h1 h2 h3 (fun n e => by injection e) (fun e => by cases e) hb
        simp only [hs, hb] at hq
        cases m with
        | none => simp at hq
        | some c' =>
          simp only [] at hq
          injection hq with hq; subst hq
          have := r2 c' rfl
          subst this
          exact ⟨.slice none (hh - l) (mc - l), by simp [Instr.sliceAt, Instr.slice, ru hu, r1, rs hs], rfl, rfl⟩
  · rename_i n elem k off hu
    obtain ⟨e, he, rfl⟩ := hx
    cases hs : sizeOf? P elem with
    | none => simp [hs] at hq
    | some size =>
      cases hb : abounds n (some n) lo hi mx with
      | none => simp [hs, hb] at hq
      | some r =>
        obtain ⟨l, hh, m⟩ := r
        obtain ⟨mc, r1, r2, r3, r4⟩ := bounds_sound (P := P) (w := w) (isS := false) (c := n) h1 h2 h3 (fun n e => by injection e) (fun e => by cases e) hb
        simp only [hs, hb] at hq
        cases m with
        | none => simp at hq
        | some c' =>
          simp only [] at hq
          injection hq with hq; subst hq
          have := r2 c' rfl
          subst this
          refine ⟨.slice (some (if mc = l then e.at off else e.at (off + l * size))) (hh - l) (mc - l), ?_, e, mc - l, he, ?_, rfl⟩
          · simp [Instr.sliceAt, Instr.sureAddr, ru hu, r1, rs hs, at_add]
          · rw [nbeq, Bool.cond_decide]; split <;> rfl
  · cases hq
end
end Go.Proofs.YtfmopmjgohopeaaGreatDoor.Ev

/-
  The abstract machine's operations that read: indices, maps, conversions; all together: 'quiet_sound'.
-/
set_option linter.unusedVariables false
set_option linter.unusedSimpArgs false
set_option linter.constructorNameAsVariable false
namespace Go.Proofs.YtfmopmjgohopeaaGreatDoor.Ev
open Go Go.RowKit

section
variable {P : Program} {ng n0 : Nat} {σ : Sg} {h : AH} {w : World}

theorem toNat_ofNat' (n : Nat) : ((n : Nat) : Int).toNat = n := by simp
theorem indexAddr_sound {t : TypeId} {x i v : AV} {a b : Value} (hx : VR σ x a) (hi : VR σ i b) (hq : aindexAddr P t x i = some v) :
    ∃ u, (Instr.indexAt t a b).run P w = .ok u w ∧ VR σ v u := by
  unfold aindexAddr at hq
  split at hq
  · rename_i len elem k off n hu hn
    obtain ⟨e, he, rfl⟩ := hx
    obtain ⟨kk, rfl⟩ := natOf_some hn hi
    cases hs : sizeOf? P elem with
    | none => simp [hs] at hq
    | some s =>
      simp only [hs, nblt, Bool.cond_decide] at hq
      split at hq
      · rename_i hlt
        injection hq with hq; subst hq
        refine ⟨_, ?_, e, he, rfl⟩
        have h2 : (0 : Int) ≤ (n : Int) ∧ (n : Int) < (len : Int) := ⟨by omega, by omega⟩
        simp [Instr.indexAt, asIntOf, Instr.sureAddr, ru hu, rs hs, at_add, hlt]
      · cases hq
  · rename_i elem k off len cap n hu hn
    obtain ⟨e, c, he, rfl, hc⟩ := hx
    obtain ⟨kk, rfl⟩ := natOf_some hn hi
    cases hs : sizeOf? P elem with
    | none => simp [hs] at hq
    | some s =>
      simp only [hs, nblt, Bool.cond_decide] at hq
      split at hq
      · rename_i hlt
        injection hq with hq; subst hq
        refine ⟨_, ?_, e, he, rfl⟩
        simp [Instr.indexAt, asIntOf, ru hu, rs hs, at_add, hlt]
      · cases hq
  · cases hq

theorem mkS_get {s : List Nat} {n b : Nat} (hb : s[n]? = some b) : (mkS s)[n]? = some (UInt8.ofNat b) := by
  have hlt : n < s.length := (List.getElem?_eq_some_iff.1 hb).1
  have hlt' : n < (mkS s).size := by rw [mkS_size]; exact hlt
  rw [ByteArray.getElem?_lt' _ _ hlt']
  congr 1
  have : (mkS s)[n] = ((s.map UInt8.ofNat).toArray)[n]'(by simpa using hlt) := rfl
  rw [this]
  obtain ⟨_, hb'⟩ := List.getElem?_eq_some_iff.1 hb
  simp [hb']
theorem index_sound {t : TypeId} {x i v : AV} {a b : Value} (hx : VR σ x a) (hi : VR σ i b) (hq : aindex P t x i = some v) :
    ∃ u, (Instr.index t a b).run P w = .ok u w ∧ VR σ v u := by
  unfold aindex at hq
  split at hq
  · rename_i s n hu hn
    obtain ⟨rfl, hs⟩ := hx
    obtain ⟨kk, rfl⟩ := natOf_some hn hi
    rw [Bs.list_get] at hq
    cases hb : s.list[n]? with
    | none => simp [hb] at hq
    | some b =>
      simp only [hb] at hq
      injection hq with hq; subst hq
      have hlt : b < 256 := Bs.list_lt s b (List.mem_of_getElem? hb)
      refine ⟨.int .u8 (UInt8.ofNat b).toNat, ?_, ?_⟩
      · simp [Instr.index, asIntOf, ru hu, mkS_get hb]
      · simp [VR, byteA]; omega
  · rename_i len elem cs n hu hn
    obtain ⟨c, rfl, hr⟩ := hx
    obtain ⟨kk, rfl⟩ := natOf_some hn hi
    cases hs : sizeOf? P elem with
    | none => simp [hs] at hq
    | some s =>
      simp only [hs, nblt, Bool.cond_decide] at hq
      split at hq
      · rename_i hlt
        obtain ⟨u, h1, h2⟩ := part_sound (P := P) (w := w) hr hq
        exact ⟨u, by simp [Instr.index, asIntOf, ru hu, rs hs, hlt, h1], h2⟩
      · cases hq
  · cases hq

/-! ### Maps -/
theorem ikBeq_iff (a b : IntKind) : ikBeq a b = decide (a = b) := by cases a <;> cases b <;> rfl
theorem intBeq_iff (a b : Int) : intBeq a b = (a == b) := by
  cases a with
  | ofNat m => cases b with
    | ofNat n =>
      simp only [intBeq, nbeq]
      by_cases hmn : m = n
      · subst hmn; simp
      · rw [decide_eq_false hmn]; symm; rw [beq_eq_false_iff_ne]; intro e; injection e with e; exact hmn e
    | negSucc n => rfl
  | negSucc m => cases b with
    | ofNat n => rfl
    | negSucc n =>
      simp only [intBeq, nbeq]
      by_cases hmn : m = n
      · subst hmn; simp
      · rw [decide_eq_false hmn]; symm; rw [beq_eq_false_iff_ne]; intro e; injection e with e; exact hmn e
theorem dataBeq (a b : ByteArray) : (a == b) = (a.data == b.data) := rfl
theorem mkS_beqB {a b : List Nat} (ha : ∀ x ∈ a, x < 256) (hb : ∀ x ∈ b, x < 256) : (mkS a == mkS b) = natsBeq a b := by
  by_cases hab : a = b
  · subst hab; rw [(natsBeq_iff a a).2 rfl, dataBeq]; simp
  · have h1 : natsBeq a b = false := Bool.eq_false_iff.2 fun e => hab ((natsBeq_iff a b).1 e)
    rw [h1, dataBeq, beq_eq_false_iff_ne]
    intro e
    have := congrArg Array.toList e
    exact hab (map_ofNat_inj ha hb (by simpa [mkS] using this))
def keyD : TypeDesc → Bool
  | .int _ | .string => true
  | _ => false
theorem keySame_sound {d : TypeDesc} (hd : keyD d = true) {x y : AV} {a b : Value} {r : Bool} (hx : VR σ x a) (hy : VR σ y b) (hfit : kfit d x = true)
    (hq : keySame h x y = some r) : Instr.sameNow d a b = some r := by
  cases d <;> simp [keyD] at hd
  · cases x <;> simp [kfit] at hfit
    cases y <;> simp only [keySame] at hq <;> try (cases hq; done)
    obtain rfl := hx; obtain rfl := hy
    rw [ikBeq_iff, Bool.cond_decide] at hq
    split at hq
    · rename_i hk
      injection hq with hq
      simp [Instr.sameNow, hk, ← hq, intBeq_iff]
    · cases hq
  · cases x <;> simp [kfit] at hfit
    cases y <;> simp only [keySame] at hq <;> try (cases hq; done)
    obtain ⟨rfl, hs⟩ := hx; obtain ⟨rfl, hs'⟩ := hy
    injection hq with hq
    subst hq
    simp only [Instr.sameNow]
    rw [mkS_beqB hs hs', Bs.beq_nats]

/-! ### Addresses -/
theorem plain_notStringish {B : Addr} {c : Array Value} {t : TypeId} {fz : Nat × Nat} (hb : w.heap[B.block]? = some (.cells c t fz)) (hz : fz.1 = fz.2) : (stringish B).run P w = .ok false w ∧ w.frozen? B = false ∧ w.frozen? { block := B.block, off := c.size } = false := by
  have h1 : ∀ o, w.frozen? { block := B.block, off := o } = false := fun o => by
    simp only [World.frozen?, hb]
    simp only [Bool.and_eq_false_iff, decide_eq_false_iff_not]; omega
  have h2 : w.frozen? B = false := by
    simp only [World.frozen?, hb]
    simp only [Bool.and_eq_false_iff, decide_eq_false_iff_not]; omega
  refine ⟨?_, h2, h1 _⟩
  simp [stringish, h2, World.shape?, hb, h1]
theorem stringish_run {B : Addr} {c : Array Value} {t : TypeId} {fz : Nat × Nat} (hb : w.heap[B.block]? = some (.cells c t fz)) : ∃ r, (stringish B).run P w = .ok r w := by
  by_cases hf : w.frozen? B = true
  · exact ⟨true, by simp [stringish, hf]⟩
  · exact ⟨w.frozen? { block := B.block, off := c.size }, by simp [stringish, Bool.eq_false_iff.2 hf, World.shape?, hb]⟩
theorem apart_run {A B : Addr} {ca cb : Array Value} {ta tb : TypeId} {fa fb : Nat × Nat} (hne : A.block ≠ B.block) (ha : w.heap[A.block]? = some (.cells ca ta fa)) (hb : w.heap[B.block]? = some (.cells cb tb fb))
    (hz : (fa.1 = fa.2 ∧ 0 < cb.size) ∨ (fb.1 = fb.2 ∧ 0 < ca.size)) : (sameAddr A B).run P w = .ok false w := by
  have hbl : (A.block == B.block) = false := by simpa using hne
  have hsa : w.shape? A.block = some (ta, ca.size) := by simp [World.shape?, ha]
  have hsb : w.shape? B.block = some (tb, cb.size) := by simp [World.shape?, hb]
  rcases hz with ⟨hz, hn⟩ | ⟨hz, hn⟩
  · obtain ⟨p1, p2, p3⟩ := plain_notStringish (P := P) ha hz
    obtain ⟨r, q1⟩ := stringish_run (P := P) hb
    have hm : (mayBeOne A B).run P w = .ok false w := by
      have hcz : cb.size ≠ 0 := by omega
      simp [mayBeOne, p1, q1, hsb, hsa, hcz]
    cases hfb : w.frozen? B <;> simp [sameAddr, hne, p2, hfb, noView, viewAt, hsa, hsb, ha, hb, hm]
  · obtain ⟨p1, p2, p3⟩ := plain_notStringish (P := P) hb hz
    obtain ⟨r, q1⟩ := stringish_run (P := P) ha
    have hm : (mayBeOne A B).run P w = .ok false w := by
      have hcz : ca.size ≠ 0 := by omega
      simp [mayBeOne, p1, q1, hsb, hsa, hcz]
    cases hfa : w.frozen? A <;> simp [sameAddr, hne, p2, hfa, noView, viewAt, hsa, hsb, ha, hb, hm]
theorem ptrSame_sound (R : HR ng n0 σ h w) {k o k' o' : Nat} {a b : Value} {r : Bool} (hx : VR σ (.ptr k o) a) (hy : VR σ (.ptr k' o') b) (hq : ptrSame h k o k' o' = some r) :
    ∃ A B, a = .pointer (some A) ∧ b = .pointer (some B) ∧ (sameAddr A B).run P w = .ok r w ∧ (r = true → A = B) := by
  obtain ⟨e, he, rfl⟩ := hx
  obtain ⟨e', he', rfl⟩ := hy
  refine ⟨_, _, rfl, rfl, ?_⟩
  unfold ptrSame at hq
  rw [nbeq, Bool.cond_decide] at hq
  split at hq
  · rename_i hk
    subst hk
    rw [he] at he'; injection he' with he'; subst he'
    injection hq with hq
    rw [nbeq] at hq
    by_cases ho : o = o'
    · subst ho
      have hq : r = true := by rw [← hq]; simp
      subst hq
      exact ⟨run_sameAddr_same w _, fun _ => rfl⟩
    · have hq : r = false := by rw [← hq]; simpa using ho
      subst hq
      refine ⟨?_, fun h => (by cases h)⟩
      have hne : e.at o ≠ e.at o' := fun hh => by
        simp only [Loc.at, Addr.mk.injEq] at hh; omega
      have hb : ((e.at o).block == (e.at o').block) = true := by simp [Loc.at]
      have hne' : (e.at o == e.at o') = false := by simpa using hne
      simp [sameAddr, hb, hne']
  · rename_i hk
    split at hq
    · rename_i cs cs' h1 h2
      obtain ⟨c, t, fz, w1, w2, w3, w4⟩ := R.blk k e _ he h1
      obtain ⟨c', t', fz', v1, v2, v3, v4⟩ := R.blk k' e' _ he' h2
      have w3 := w3.resolve_left (by simp)
      have v3 := v3.resolve_left (by simp)
      have hblk : e.blk ≠ e'.blk := fun hh => hk (R.inj k k' e e' _ _ he he' h1 h2 hh)
      have sz : ∀ {cs : Cs} {c : Array Value} {e : Loc}, VRs σ cs.list ((c.toList.drop e.base).take cs.list.length) → 1 ≤ cs.len → 0 < c.size := fun {cs c e} hr hl => by
        have := VRs.length hr
        have h2 : c.toList.length = c.size := Array.length_toList
        rw [List.length_take, List.length_drop] at this
        rw [Cs.list_len] at hl
        omega
      generalize hcnd : ((!cs.isU8 && Nat.ble 1 cs'.len) || (!cs'.isU8 && Nat.ble 1 cs.len)) = cnd at hq
      cases cnd with
      | false => rw [cond_false] at hq; cases hq
      | true =>
        rw [cond_true] at hq; injection hq with hq; subst hq
        refine ⟨apart_run hblk w1 v1 ?_, fun h => (by cases h)⟩
        simp only [Bool.or_eq_true, Bool.and_eq_true, Bool.not_eq_true', nble, decide_eq_true_eq, Cs.list_isU8] at hcnd
        rcases hcnd with ⟨c1, c2⟩ | ⟨c1, c2⟩
        · exact .inl ⟨w3.resolve_right fun hh => by rw [c1] at hh; exact absurd hh.2 (by simp), sz v4 c2⟩
        · exact .inr ⟨v3.resolve_right fun hh => by rw [c1] at hh; exact absurd hh.2 (by simp), sz w4 c2⟩
    · cases hq
theorem ptrEq_run (R : HR ng n0 σ h w) {t e : TypeId} {m : Nat} {k o k' o' : Nat} {a b : Value} {r : Bool} (hu : P.underlying t = some (.pointer e)) (hs : sizeOf? P e = some (m + 1)) (hx : VR σ (.ptr k o) a) (hy : VR σ (.ptr k' o') b) (hq : ptrSame h k o k' o' = some r) :
    (Op.equal t a b).run P w = .ok r w := by
  obtain ⟨A, B, rfl, rfl, h1, _⟩ := ptrSame_sound (P := P) R hx hy hq
  refine eq_run hu fun n => ?_
  have hz := rs (P := P) (w := w) hs
  simp [Op.equalIn, ru hu, hz, h1]

def FindR (σ : Sg) (h : AH) (k : AV) (es : List (AV × AV × Nat)) (i : Nat) : Option (Nat × AV) → Option (Nat × Value) → Prop
  | none, none => True
  | some (j, v), some (j', v') => j = j' ∧ i ≤ j ∧ VR σ v v' ∧ ∃ e, es[j - i]? = some e ∧ e.2.1 = v ∧ keySame h k e.1 = some true
  | _, _ => False
theorem FindR.step {k : AV} {e : AV × AV × Nat} {es : List (AV × AV × Nat)} {i : Nat} {r : Option (Nat × AV)} {r' : Option (Nat × Value)} (h5 : FindR σ h k es (i + 1) r r') : FindR σ h k (e :: es) i r r' := by
  cases r with
  | none => cases r' with
    | none => trivial
    | some _ => exact h5.elim
  | some jv =>
    obtain ⟨j, v⟩ := jv
    cases r' with
    | none => exact h5.elim
    | some jv' =>
      obtain ⟨j', v'⟩ := jv'
      obtain ⟨g1, g2, g3, e2, g4, g5, g6⟩ := h5
      refine ⟨g1, by omega, g3, e2, ?_, g5, g6⟩
      rw [show j - i = (j - (i + 1)) + 1 by omega]
      simpa using g4
theorem find_sound {d : TypeDesc} (hd : keyD d = true) {k : AV} {kv : Value} (hk : VR σ k kv) (hfit : kfit d k = true) :
    ∀ (es : List (AV × AV × Nat)) (es' : List MapEntry) (i : Nat) (r : Option (Nat × AV)), ERs σ es es' → afind h k es i = some r →
      ∃ r', Instr.findNow d kv es' i = some r' ∧ FindR σ h k es i r r'
  | [], [], i, r, _, hq => by
    simp only [afind] at hq; injection hq with hq; subst hq
    exact ⟨none, rfl, trivial⟩
  | [], _ :: _, _, _, he, _ => he.elim
  | _ :: _, [], _, _, he, _ => he.elim
  | e :: es, e' :: es', i, r, he, hq => by
    simp only [afind] at hq
    obtain ⟨⟨h1, h2, h3⟩, hes⟩ := he
    cases hks : keySame h k e.1 with
    | none => simp [hks] at hq
    | some b =>
      have hnow := keySame_sound (h := h) hd hk h1 hfit hks
      cases b with
      | true =>
        simp only [hks] at hq
        injection hq with hq; subst hq
        exact ⟨some (i, e'.val), by simp [Instr.findNow, hnow], rfl, Nat.le_refl _, h2, e, by simp, rfl, hks⟩
      | false =>
        simp only [hks] at hq
        obtain ⟨r', h4, h5⟩ := find_sound hd hk hfit es es' (i + 1) r hes hq
        exact ⟨r', by simp [Instr.findNow, hnow, h4], h5.step⟩
/-- addresses are asked one by one -/
theorem ask_sound (R : HR ng n0 σ h w) {key e0 : TypeId} {m : Nat} (hu : P.underlying key = some (.pointer e0)) (hs : sizeOf? P e0 = some (m + 1)) {q o : Nat} {kv : Value} (hk : VR σ (.ptr q o) kv) :
    ∀ (es : List (AV × AV × Nat)) (es' : List MapEntry) (i : Nat) (r : Option (Nat × AV)), ERs σ es es' → afind h (.ptr q o) es i = some r →
      ∃ r', (Instr.findAsking key kv es' i).run P w = .ok r' w ∧ FindR σ h (.ptr q o) es i r r'
  | [], [], i, r, _, hq => by
    simp only [afind] at hq; injection hq with hq; subst hq
    exact ⟨none, rfl, trivial⟩
  | [], _ :: _, _, _, he, _ => he.elim
  | _ :: _, [], _, _, he, _ => he.elim
  | e :: es, e' :: es', i, r, he, hq => by
    simp only [afind] at hq
    obtain ⟨⟨h1, h2, h3⟩, hes⟩ := he
    cases hks : keySame h (.ptr q o) e.1 with
    | none => simp [hks] at hq
    | some b =>
      have hnow : (Op.equal key kv e'.key).run P w = .ok b w := by
        obtain ⟨ek, ev, eb⟩ := e
        cases ek <;> simp only [keySame] at hks <;> try (cases hks; done)
        exact ptrEq_run R hu hs hk h1 hks
      cases b with
      | true =>
        simp only [hks] at hq
        injection hq with hq; subst hq
        exact ⟨some (i, e'.val), by simp [Instr.findAsking, hnow], rfl, Nat.le_refl _, h2, e, by simp, rfl, hks⟩
      | false =>
        simp only [hks] at hq
        obtain ⟨r', h4, h5⟩ := ask_sound R hu hs hk es es' (i + 1) r hes hq
        exact ⟨r', by simp [Instr.findAsking, hnow, h4], h5.step⟩
def keyP : TypeDesc → Bool
  | .int _ | .string | .pointer _ => true
  | _ => false
theorem fits_split {key : TypeId} {k : AV} (hf : keyFits P key k = true) : ∃ d, P.underlying key = some d ∧ keyP d = true ∧ True := by
  unfold keyFits at hf
  cases hu : P.underlying key with
  | none => simp [hu] at hf
  | some d =>
    simp only [hu] at hf
    refine ⟨d, rfl, ?_, trivial⟩
    cases d <;> first | rfl | (simp [kfit] at hf)
theorem checkKey_run {key : TypeId} {d : TypeDesc} (hu : P.underlying key = some d) (hd : keyP d = true) (empty : Bool) (n : Nat) (v : Value) : (Instr.checkKey empty (n + 1) key v).run P w = .ok () w := by
  cases d <;> simp [keyP] at hd <;> simp [Instr.checkKey, ru hu]
theorem findKey_run {key : TypeId} {d : TypeDesc} {kv : Value} {es : List MapEntry} {r : Option (Nat × Value)} (hu : P.underlying key = some d) (hf : Instr.findNow d kv es 0 = some r) : (Instr.findKey key kv es).run P w = .ok r w := by
  simp [Instr.findKey, ru hu, hf]
theorem findKey_sound (R : HR ng n0 σ h w) {key : TypeId} {k : AV} (hf : keyFits P key k = true) {kv : Value} (hk : VR σ k kv) (es : List (AV × AV × Nat)) (es' : List MapEntry) (r : Option (Nat × AV)) (he : ERs σ es es') (hq : afind h k es 0 = some r) :
    ∃ r', (Instr.findKey key kv es').run P w = .ok r' w ∧ FindR σ h k es 0 r r' := by
  unfold keyFits at hf
  cases hu : P.underlying key with
  | none => simp [hu] at hf
  | some d =>
    simp only [hu] at hf
    have plain : keyD d = true → kfit d k = true → ∃ r', (Instr.findKey key kv es').run P w = .ok r' w ∧ FindR σ h k es 0 r r' := fun h1 h2 => by
      obtain ⟨r', g1, g2⟩ := find_sound h1 hk h2 es es' 0 r he hq
      exact ⟨r', findKey_run hu g1, g2⟩
    cases d <;> first | exact plain rfl hf | skip
    all_goals try (simp [kfit] at hf; done)
    rename_i e0
    simp only at hf
    split at hf
    · rename_i m q o hs
      obtain ⟨r', g1, g2⟩ := ask_sound R hu hs hk es es' 0 r he hq
      refine ⟨r', ?_, g2⟩
      cases es' with
      | nil => simpa [Instr.findKey, ru hu, Instr.findNow, Instr.findAsking] using g1
      | cons x es' =>
        have : Instr.findNow (.pointer e0) kv (x :: es') 0 = none := by
          simp [Instr.findNow, Instr.sameNow]
        simp only [Instr.findKey, Sem.run_bind, ru hu, Result.andThen_ok, this]
        exact g1
    · cases hf

theorem lookup_sound (R : HR ng n0 σ h w) {t : TypeId} {x k v : AV} {a b : Value} {ok : Bool} (hx : VR σ x a) (hk : VR σ k b) (hq : alookup P h t x k ok = some v) :
    ∃ u, (Instr.lookup t a b ok).run P w = .ok u w ∧ VR σ v u := by
  unfold alookup at hq
  cases hu : P.underlying t with
  | none => simp [hu] at hq
  | some d =>
    cases d <;> simp only [hu] at hq <;> try (cases hq; done)
    rename_i key elem
    cases hf : keyFits P key k with
    | false => simp [hf] at hq
    | true =>
      simp only [hf, cond_true] at hq
      obtain ⟨d, hd1, hd2, hd3⟩ := fits_split hf
      -- the entries
      cases hme : mapEs h x with
      | none => simp [hme] at hq
      | some es =>
      have hes : ∃ es' : Array MapEntry, ERs σ es es'.toList ∧ ((a = .map none ∧ es' = #[]) ∨ ∃ r clock, a = .map (some r) ∧ (getObj r).run P w = .ok (.map es' clock) w) := by
        cases x with
        | lit l =>
          obtain ⟨rfl, _⟩ := hx
          cases a with
          | map r =>
            cases r with
            | none => simp only [mapEs] at hme; injection hme with hme; subst hme; exact ⟨#[], trivial, .inl ⟨rfl, rfl⟩⟩
            | some r => simp [mapEs] at hme
          | _ => simp [mapEs] at hme
        | map m =>
          obtain ⟨e, he, rfl⟩ := hx
          cases hb : h.get m with
          | none => simp [mapEs, hb] at hme
          | some bl =>
            cases bl with
            | map es2 clock =>
              obtain ⟨es', hw, hr⟩ := R.blk m e _ he hb
              simp only [mapEs, hb] at hme; injection hme with hme; subst hme
              exact ⟨es', hr, .inr ⟨_, clock, rfl, by simp [getObj, Sem.run, hw]⟩⟩
            | _ => simp [mapEs, hb] at hme
        | _ => simp [mapEs] at hme
      obtain ⟨es', e2, e3⟩ := hes
      simp only [hme] at hq
      cases hfd : afind h k es 0 with
      | none => simp [hfd] at hq
      | some r =>
        obtain ⟨r', hfk, g2⟩ := findKey_sound (P := P) R hf hk es es'.toList r e2 hfd
        cases r with
        | some jv =>
          obtain ⟨j, x1⟩ := jv
          cases r' with
          | none => exact g2.elim
          | some jv' =>
            obtain ⟨j', v'⟩ := jv'
            obtain ⟨_, _, g3, _⟩ := g2
            simp only [hfd] at hq
            injection hq with hq; subst hq
            refine ⟨if ok then .tuple #[v', .bool true] else v', ?_, ?_⟩
            · rcases e3 with ⟨rfl, rfl⟩ | ⟨r, clock, rfl, hg⟩
              · simp only [Instr.lookup, Sem.run_bind, ru hu, Result.andThen_ok, Sem.run_pure, checkKey_run hd1 hd2, hfk]
              · simp only [Instr.lookup, Sem.run_bind, ru hu, Result.andThen_ok, hg, Sem.run_pure, checkKey_run hd1 hd2, hfk]
            · cases ok
              · exact g3
              · exact ⟨_, rfl, g3, rfl, trivial⟩
        | none =>
          cases r' with
          | some _ => exact g2.elim
          | none =>
            simp only [hfd] at hq
            cases hi : P.info? elem with
            | none => simp [hi] at hq
            | some i =>
              cases hz : i.zero with
              | none => simp [hi, hz] at hq
              | some z =>
                simp only [hi, hz] at hq
                injection hq with hq; subst hq
                refine ⟨if ok then .tuple #[z, .bool false] else z, ?_, ?_⟩
                · rcases e3 with ⟨rfl, rfl⟩ | ⟨r, clock, rfl, hg⟩
                  · simp only [Instr.lookup, Sem.run_bind, ru hu, Result.andThen_ok, Sem.run_pure, checkKey_run hd1 hd2, hfk, zeroValue, ri hi, hz]
                  · simp only [Instr.lookup, Sem.run_bind, ru hu, Result.andThen_ok, hg, Sem.run_pure, checkKey_run hd1 hd2, hfk, zeroValue, ri hi, hz]
                · cases ok
                  · exact VR.ofValue σ z
                  · exact ⟨_, rfl, VR.ofValue σ z, rfl, trivial⟩
end
end Go.Proofs.YtfmopmjgohopeaaGreatDoor.Ev

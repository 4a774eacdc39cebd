/-
  The abstract machine's memory against the model's: what keeps the relation.
-/
import Derived.Test.YtllipkakgjmheaaGreatDoorEvC
set_option linter.unusedVariables false
set_option linter.unusedSimpArgs false
set_option linter.constructorNameAsVariable false
namespace Go.Proofs.YtllipkakgjmheaaGreatDoor.Ev
open Go Go.RowKit

def TmpR (σ : Sg) (X : Nat → Prop) (T : Tr AV) (nt : Nat) (c : Array Value) : Prop :=
  c.size = nt ∧ ∀ i a, ¬ X i → T.get i = some a → ∃ v, c[i]? = some v ∧ VR σ a v
theorem TmpR.mono {σ σ' : Sg} {X : Nat → Prop} {T : Tr AV} {nt : Nat} {c : Array Value} (h : σ.le σ') (r : TmpR σ X T nt c) : TmpR σ' X T nt c :=
  ⟨r.1, fun i a hx hi => let ⟨v, h1, h2⟩ := r.2 i a hx hi; ⟨v, h1, VR.mono h _ _ h2⟩⟩
def LR (σ : Sg) (l : ALoop) (r : Loop) : Prop :=
  r.state = l.state ∧ r.pending = l.pending ∧ r.fn = l.fn ∧ r.params = l.params ∧ r.assign = l.assign ∧ r.body = l.body ∧
  TmpR σ (fun _ => False) l.tmps l.nt r.tmps ∧ ∃ e, σ l.defers = some e ∧ r.defers = e.blk
theorem LR.mono {σ σ' : Sg} (h : σ.le σ') {l : ALoop} {r : Loop} : LR σ l r → LR σ' l r
  | ⟨a, b, c, d, e, f, g, x, hx, y⟩ => ⟨a, b, c, d, e, f, g.mono h, x, h _ _ hx, y⟩
def DR (σ : Sg) : ADef → Deferred → Prop
  | .call f cap args, d => ∃ cap' args', d = ⟨.fn (.func f) cap', args'⟩ ∧ VRs σ cap cap'.toList ∧ VRs σ args args'.toList
  | .collected k, d => ∃ e, σ k = some e ∧ d = ⟨.collected e.blk, #[]⟩
theorem DR.mono {σ σ' : Sg} (h : σ.le σ') {a : ADef} {d : Deferred} (r : DR σ a d) : DR σ' a d := by
  cases a with
  | call f cap args => obtain ⟨c, x, hd, r1, r2⟩ := r; exact ⟨c, x, hd, VRs.mono h _ _ r1, VRs.mono h _ _ r2⟩
  | collected k => obtain ⟨e, he, hd⟩ := r; exact ⟨e, h _ _ he, hd⟩
def DRs (σ : Sg) : List ADef → List Deferred → Prop
  | [], [] => True
  | a :: l, v :: m => DR σ a v ∧ DRs σ l m
  | _, _ => False
theorem DRs.mono {σ σ' : Sg} (h : σ.le σ') : ∀ {a : List ADef} {d : List Deferred}, DRs σ a d → DRs σ' a d
  | [], [], _ => trivial
  | _ :: _, _ :: _, r => ⟨r.1.mono h, DRs.mono h r.2⟩
  | [], _ :: _, r => r.elim
  | _ :: _, [], r => r.elim
theorem DRs.app {σ : Sg} : ∀ {a : List ADef} {v : List Deferred} {b : List ADef} {w : List Deferred}, DRs σ a v → DRs σ b w → DRs σ (a ++ b) (v ++ w)
  | [], [], _, _, _, h => h
  | _ :: _, _ :: _, _, _, r, h => ⟨r.1, DRs.app r.2 h⟩
  | [], _ :: _, _, _, r, _ => r.elim
  | _ :: _, [], _, _, r, _ => r.elim
def ER (σ : Sg) (e : AV × AV × Nat) (x : MapEntry) : Prop := VR σ e.1 x.key ∧ VR σ e.2.1 x.val ∧ x.born = e.2.2
def ERs (σ : Sg) : List (AV × AV × Nat) → List MapEntry → Prop
  | [], [] => True
  | a :: l, v :: m => ER σ a v ∧ ERs σ l m
  | _, _ => False
theorem ERs.mono {σ σ' : Sg} (h : σ.le σ') : ∀ {a : List (AV × AV × Nat)} {d : List MapEntry}, ERs σ a d → ERs σ' a d
  | [], [], _ => trivial
  | _ :: _, _ :: _, r => ⟨⟨VR.mono h _ _ r.1.1, VR.mono h _ _ r.1.2.1, r.1.2.2⟩, ERs.mono h r.2⟩
  | [], _ :: _, r => r.elim
  | _ :: _, [], r => r.elim
theorem ERs.length {σ : Sg} : ∀ {a : List (AV × AV × Nat)} {v : List MapEntry}, ERs σ a v → a.length = v.length
  | [], [], _ => rfl
  | _ :: _, _ :: _, r => by simp [ERs.length r.2]
  | [], _ :: _, r => r.elim
  | _ :: _, [], r => r.elim

def BR (σ : Sg) (w : World) (e : Loc) : ABlock → Prop
  | .cells ro cs => ∃ c t fz, w.heap[e.blk]? = some (.cells c t fz) ∧ c.size = e.size ∧ (ro = true ∨ fz.1 = fz.2 ∨ c.size ≤ fz.1) ∧ VRs σ cs ((c.toList.drop e.base).take cs.length)
  | .map es clock => ∃ es', w.heap[e.blk]? = some (.map es' clock) ∧ ERs σ es es'.toList
  | .mapIter m since seen st => e.base = 0 ∧ ∃ e', σ m = some e' ∧ w.heap[e.blk]? = some (.mapIter (some e'.blk) since seen.toArray st)
  | .strIter s pos => e.base = 0 ∧ w.heap[e.blk]? = some (.stringIter (mkS s) pos)
  | .loop l => ∃ r, w.heap[e.blk]? = some (.loop r) ∧ LR σ l r
  | .deferred ds => ∃ ds', w.heap[e.blk]? = some (.deferred (some ds')) ∧ DRs σ ds ds'
def ABlock.ro : ABlock → Bool
  | .cells r _ => r
  | _ => false
theorem BR.keep {σ σ' : Sg} {w w' : World} {e : Loc} {b : ABlock} (r : BR σ w e b) (h : σ.le σ') (hw : w'.heap[e.blk]? = w.heap[e.blk]?) : BR σ' w' e b := by
  cases b with
  | cells ro cs => obtain ⟨c, t, fz, h1, h2, h3, h4⟩ := r; exact ⟨c, t, fz, hw.trans h1, h2, h3, VRs.mono h _ _ h4⟩
  | map es cl => obtain ⟨c, h1, h2⟩ := r; exact ⟨c, hw.trans h1, h2.mono h⟩
  | mapIter m s se st => obtain ⟨h0, e', h1, h2⟩ := r; exact ⟨h0, e', h _ _ h1, hw.trans h2⟩
  | strIter s p => exact ⟨r.1, hw.trans r.2⟩
  | loop l => obtain ⟨c, h1, h2⟩ := r; exact ⟨c, hw.trans h1, h2.mono h⟩
  | deferred ds => obtain ⟨c, h1, h2⟩ := r; exact ⟨c, hw.trans h1, h2.mono h⟩

/-! ### Abstract memory -/
theorem AH.get_put (h : AH) (k j : Nat) (b : ABlock) : (h.put k b).get j = if j = k then some b else h.get j := Tr.get_set _ _ _ _
theorem AH.get_kill (h : AH) (k j : Nat) : (h.kill k).get j = if j = k then none else h.get j := Tr.get_set _ _ _ _
theorem AH.get_new (h : AH) (j : Nat) (b : ABlock) : (h.new b).get j = if j = h.next then some b else h.get j := Tr.get_set _ _ _ _

structure HR (ng n0 : Nat) (σ : Sg) (h : AH) (w : World) : Prop where
  blk : ∀ k e b, σ k = some e → h.get k = some b → BR σ w e b
  fresh : ∀ k, h.next ≤ k → σ k = none
  freshA : ∀ k, h.next ≤ k → h.get k = none
  inj : ∀ k k' e e' b b', σ k = some e → σ k' = some e' → h.get k = some b → h.get k' = some b' → e.blk = e'.blk → k = k'
  lt : ∀ k e, σ k = some e → e.blk < w.heap.size
  glob : ∀ g, g < ng → ∃ sz, σ g = some ⟨g, 0, sz⟩
  own : ∀ k e b, σ k = some e → h.get k = some b → b.ro = false → n0 ≤ e.blk
  ngn : ng ≤ h.next
  big : n0 ≤ w.heap.size

/-- The heap is as it was but for one block; nothing else has turned (but, maybe, the number of draws). -/
structure Ex (B : Nat) (w w' : World) : Prop where
  size : w'.heap.size = w.heap.size
  block : ∀ b, b ≠ B → w'.heap[b]? = w.heap[b]?
  os : w'.os = w.os
  tape : w'.tape = w.tape
  output : w'.output = w.output
theorem Ex.below {B n0 : Nat} {w w' : World} (h : Ex B w w') (hB : n0 ≤ B) : Below n0 w w' :=
  ⟨h.os, h.tape, h.output, Nat.le_of_eq h.size.symm, fun k hk => h.block k (by omega)⟩
theorem Ex.trans {B : Nat} {a b c : World} (h : Ex B a b) (k : Ex B b c) : Ex B a c :=
  ⟨k.size.trans h.size, fun x hx => (k.block x hx).trans (h.block x hx), k.os.trans h.os, k.tape.trans h.tape, k.output.trans h.output⟩
theorem Ex.refl (B : Nat) (w : World) : Ex B w w := ⟨rfl, fun _ _ => rfl, rfl, rfl, rfl⟩
/-- One block more. -/
structure Push (o : Obj) (w w' : World) : Prop where
  heap : w'.heap = w.heap.push o
  os : w'.os = w.os
  tape : w'.tape = w.tape
  output : w'.output = w.output
theorem Push.at {o : Obj} {w w' : World} (h : Push o w w') : w'.heap[w.heap.size]? = some o := by simp [h.heap]
theorem Push.old {o : Obj} {w w' : World} (h : Push o w w') {b : Nat} (hb : b < w.heap.size) : w'.heap[b]? = w.heap[b]? := by
  rw [h.heap, Array.getElem?_push, if_neg (by omega)]
theorem Push.below {o : Obj} {n0 : Nat} {w w' : World} (h : Push o w w') (hn : n0 ≤ w.heap.size) : Below n0 w w' :=
  ⟨h.os, h.tape, h.output, by simp [h.heap], fun k hk => h.old (by omega)⟩
theorem Push.new (o : Obj) (w : World) : Push o w { w with heap := w.heap.push o } := ⟨rfl, rfl, rfl, rfl⟩
theorem Push.drawn (o : Obj) (w : World) (n : Nat) : Push o w { w with heap := w.heap.push o, drawn := n } := ⟨rfl, rfl, rfl, rfl⟩

section
variable {ng n0 : Nat} {σ : Sg} {h : AH} {w : World}

theorem HR.world (r : HR ng n0 σ h w) {w' : World} (hw : w'.heap = w.heap) : HR ng n0 σ h w' :=
  ⟨fun k e b h1 h2 => (r.blk k e b h1 h2).keep (Sg.le.refl σ) (by rw [hw]), r.fresh, r.freshA, r.inj, fun k e he => by rw [hw]; exact r.lt k e he, r.glob, r.own, r.ngn, by rw [hw]; exact r.big⟩

/-- A new abstract block that lies nowhere yet. -/
theorem HR.pend (r : HR ng n0 σ h w) (b : ABlock) : HR ng n0 σ (h.new b) w := by
  have hn : σ h.next = none := r.fresh _ (Nat.le_refl _)
  have ne : ∀ k e, σ k = some e → k ≠ h.next := fun k e hk hx => by subst hx; rw [hn] at hk; cases hk
  have old : ∀ k e b', σ k = some e → (h.new b).get k = some b' → h.get k = some b' := fun k e b' hk hb => by
    rw [AH.get_new, if_neg (ne k e hk)] at hb; exact hb
  refine ⟨fun k e b' h1 h2 => r.blk k e b' h1 (old k e b' h1 h2), fun k hk => r.fresh k ?_, fun k hk => ?_, fun k k' e e' b1 b2 h1 h2 h3 h4 => r.inj k k' e e' b1 b2 h1 h2 (old _ _ _ h1 h3) (old _ _ _ h2 h4),
    r.lt, r.glob, fun k e b' h1 h2 => r.own k e b' h1 (old _ _ _ h1 h2), ?_, r.big⟩
  · have : h.next + 1 ≤ k := hk
    omega
  · have hk' : h.next + 1 ≤ k := hk
    rw [AH.get_new, if_neg (by omega)]
    exact r.freshA k (by omega)
  · exact Nat.le_succ_of_le r.ngn

/-- An abstract block finds its place: a new block of the heap. -/
theorem HR.realize (r : HR ng n0 σ h w) {k : Nat} {b : ABlock} {e : Loc} {o : Obj} {w' : World} (hk : σ k = none) (hlt : k < h.next) (hb : ∀ b', h.get k = some b' → BR (σ.put k e) w' e b')
    (hw : Push o w w') (he : e.blk = w.heap.size) : HR ng n0 (σ.put k e) h w' := by
  have hle : σ.le (σ.put k e) := Sg.le_put hk
  have szw : w'.heap.size = w.heap.size + 1 := by rw [hw.heap]; simp
  refine ⟨fun x e' b' h1 h2 => ?_, fun x hx => ?_, r.freshA, fun x y e1 e2 b1 b2 h1 h2 h3 h4 h5 => ?_, fun x e' hx => ?_, fun g hg => ?_, fun x e' b' h1 h2 h3 => ?_, r.ngn, by have := r.big; omega⟩
  · by_cases hxk : x = k
    · subst hxk
      rw [Sg.put_same] at h1
      injection h1 with h1; subst h1
      exact hb b' h2
    · rw [Sg.put_ne σ e hxk] at h1
      exact (r.blk x e' b' h1 h2).keep hle (hw.old (r.lt x e' h1))
  · rw [Sg.put_ne σ e (by omega)]; exact r.fresh x hx
  · by_cases hxk : x = k
    · by_cases hyk : y = k
      · rw [hxk, hyk]
      · subst hxk
        rw [Sg.put_same] at h1
        rw [Sg.put_ne σ e hyk] at h2
        injection h1 with h1; subst h1
        have := r.lt y e2 h2
        omega
    · by_cases hyk : y = k
      · subst hyk
        rw [Sg.put_same] at h2
        rw [Sg.put_ne σ e hxk] at h1
        injection h2 with h2; subst h2
        have := r.lt x e1 h1
        omega
      · rw [Sg.put_ne σ e hxk] at h1
        rw [Sg.put_ne σ e hyk] at h2
        exact r.inj x y e1 e2 b1 b2 h1 h2 h3 h4 h5
  · by_cases hxk : x = k
    · subst hxk; rw [Sg.put_same] at hx; injection hx with hx; subst hx; omega
    · rw [Sg.put_ne σ e hxk] at hx
      have := r.lt x e' hx
      omega
  · obtain ⟨sz, hs⟩ := r.glob g hg
    exact ⟨sz, hle _ _ hs⟩
  · by_cases hxk : x = k
    · subst hxk; rw [Sg.put_same] at h1; injection h1 with h1; subst h1; have := r.big; omega
    · rw [Sg.put_ne σ e hxk] at h1
      exact r.own x e' b' h1 h2 h3

/-- A new block, here and there. -/
theorem HR.new (r : HR ng n0 σ h w) {b : ABlock} {e : Loc} {o : Obj} {w' : World} (hb : BR (σ.put h.next e) w' e b) (hw : Push o w w') (he : e.blk = w.heap.size) :
    HR ng n0 (σ.put h.next e) (h.new b) w' :=
  (r.pend b).realize (b := b) (r.fresh _ (Nat.le_refl _)) (Nat.lt_succ_self _) (fun b' hb' => by rw [AH.get_new, if_pos rfl] at hb'; injection hb' with hb'; exact hb' ▸ hb) hw he

/-- A block of its own is written. -/
theorem HR.write (r : HR ng n0 σ h w) {k : Nat} {e : Loc} {b b' : ABlock} {w' : World} (hk : σ k = some e) (hb : h.get k = some b) (hro : b.ro = false)
    (hw : Ex e.blk w w') (hb' : BR σ w' e b') : HR ng n0 σ (h.put k b') w' := by
  have hkn : k < h.next := by
    rcases Nat.lt_or_ge k h.next with hx | hx
    · exact hx
    · rw [r.fresh k hx] at hk; cases hk
  have old : ∀ x bx, (h.put k b').get x = some bx → ∃ by', h.get x = some by' ∧ (x ≠ k → by' = bx) := fun x bx hx => by
    rw [AH.get_put] at hx
    by_cases hxk : x = k
    · subst hxk; exact ⟨b, hb, fun hn => absurd rfl hn⟩
    · rw [if_neg hxk] at hx; exact ⟨bx, hx, fun _ => rfl⟩
  refine ⟨fun x e' bx h1 h2 => ?_, r.fresh, fun x hx => ?_, fun x y e1 e2 b1 b2 h1 h2 h3 h4 h5 => ?_, fun x e' hx => by rw [hw.size]; exact r.lt x e' hx, r.glob, fun x e' bx h1 h2 h3 => ?_, r.ngn, by rw [hw.size]; exact r.big⟩
  · by_cases hxk : x = k
    · subst hxk
      rw [AH.get_put, if_pos rfl] at h2
      injection h2 with h2; subst h2
      rw [hk] at h1; injection h1 with h1; subst h1
      exact hb'
    · rw [AH.get_put, if_neg hxk] at h2
      exact (r.blk x e' bx h1 h2).keep (Sg.le.refl σ) (hw.block _ fun hbx => hxk (r.inj x k e' e bx b h1 hk h2 hb hbx))
  · rw [AH.get_put, if_neg (by have : h.next ≤ x := hx; omega)]; exact r.freshA x hx
  · obtain ⟨c1, hc1, _⟩ := old x b1 h3
    obtain ⟨c2, hc2, _⟩ := old y b2 h4
    exact r.inj x y e1 e2 c1 c2 h1 h2 hc1 hc2 h5
  · by_cases hxk : x = k
    · subst hxk; rw [hk] at h1; injection h1 with h1; subst h1; exact r.own x e b hk hb hro
    · rw [AH.get_put, if_neg hxk] at h2; exact r.own x e' bx h1 h2 h3

theorem HR.kill (r : HR ng n0 σ h w) (k : Nat) : HR ng n0 σ (h.kill k) w := by
  have old : ∀ x bx, (h.kill k).get x = some bx → h.get x = some bx := fun x bx hx => by
    rw [AH.get_kill] at hx
    split at hx
    · cases hx
    · exact hx
  exact ⟨fun x e' bx h1 h2 => r.blk x e' bx h1 (old x bx h2), r.fresh, fun x hx => by rw [AH.get_kill, r.freshA x hx]; split <;> rfl, fun x y e1 e2 b1 b2 h1 h2 h3 h4 => r.inj x y e1 e2 b1 b2 h1 h2 (old _ _ h3) (old _ _ h4), r.lt, r.glob,
    fun x e' bx h1 h2 => r.own x e' bx h1 (old x bx h2), r.ngn, r.big⟩

/-- A block's place goes over to a new abstract block (an append in place). -/
theorem HR.move (r : HR ng n0 σ h w) {k : Nat} {e e' : Loc} {b b' : ABlock} {w' : World} (hk : σ k = some e) (hb : h.get k = some b) (hro : b.ro = false)
    (he : e'.blk = e.blk) (hw : Ex e.blk w w') (hb' : BR (σ.put h.next e') w' e' b') : HR ng n0 (σ.put h.next e') ((h.kill k).new b') w' := by
  have hle : σ.le (σ.put h.next e') := Sg.le_put (r.fresh _ (Nat.le_refl _))
  have hkn : k < h.next := by
    rcases Nat.lt_or_ge k h.next with hx | hx
    · exact hx
    · rw [r.fresh k hx] at hk; cases hk
  have get : ∀ x bx, ((h.kill k).new b').get x = some bx → (x = h.next ∧ bx = b') ∨ (x ≠ h.next ∧ x ≠ k ∧ h.get x = some bx) := fun x bx hx => by
    rw [AH.get_new] at hx
    split at hx
    · rename_i hxn; injection hx with hx; exact .inl ⟨hxn, hx.symm⟩
    · rename_i hxn
      rw [AH.get_kill] at hx
      split at hx
      · cases hx
      · rename_i hxk; exact .inr ⟨hxn, hxk, hx⟩
  refine ⟨fun x ex bx h1 h2 => ?_, fun x hx => ?_, fun x hx => ?_, fun x y e1 e2 b1 b2 h1 h2 h3 h4 h5 => ?_, fun x ex hx => ?_, fun g hg => ?_, fun x ex bx h1 h2 h3 => ?_, Nat.le_succ_of_le r.ngn, by rw [hw.size]; exact r.big⟩
  · rcases get x bx h2 with ⟨rfl, rfl⟩ | ⟨hxn, hxk, hg⟩
    · rw [Sg.put_same] at h1; injection h1 with h1; subst h1; exact hb'
    · rw [Sg.put_ne σ e' hxn] at h1
      exact (r.blk x ex bx h1 hg).keep hle (hw.block _ fun hbx => hxk (r.inj x k ex e bx b h1 hk hg hb hbx))
  · have hx' : h.next + 1 ≤ x := hx
    rw [Sg.put_ne σ e' (by omega)]; exact r.fresh x (by omega)
  · have hx' : h.next + 1 ≤ x := hx
    cases hg : ((h.kill k).new b').get x with
    | none => rfl
    | some bx =>
      rcases get x bx hg with ⟨rfl, rfl⟩ | ⟨_, _, hg'⟩
      · omega
      · rw [r.freshA x (by omega)] at hg'; cases hg'
  · rcases get x b1 h3 with ⟨hx, rfl⟩ | ⟨hxn, hxk, hgx⟩
    · rcases get y b2 h4 with ⟨hy, rfl⟩ | ⟨hyn, hyk, hgy⟩
      · rw [hx, hy]
      · subst hx
        rw [Sg.put_same] at h1; injection h1 with h1; subst h1
        rw [Sg.put_ne σ e' hyn] at h2
        exact absurd (r.inj y k e2 e b2 b h2 hk hgy hb (h5.symm.trans he)) hyk
    · rcases get y b2 h4 with ⟨hy, rfl⟩ | ⟨hyn, hyk, hgy⟩
      · subst hy
        rw [Sg.put_same] at h2; injection h2 with h2; subst h2
        rw [Sg.put_ne σ e' hxn] at h1
        exact absurd (r.inj x k e1 e b1 b h1 hk hgx hb (h5.trans he)) hxk
      · rw [Sg.put_ne σ e' hxn] at h1
        rw [Sg.put_ne σ e' hyn] at h2
        exact r.inj x y e1 e2 b1 b2 h1 h2 hgx hgy h5
  · by_cases hxn : x = h.next
    · subst hxn; rw [Sg.put_same] at hx; injection hx with hx; subst hx; rw [hw.size, he]; exact r.lt k e hk
    · rw [Sg.put_ne σ e' hxn] at hx; rw [hw.size]; exact r.lt x ex hx
  · obtain ⟨sz, hs⟩ := r.glob g hg
    exact ⟨sz, hle _ _ hs⟩
  · rcases get x bx h2 with ⟨rfl, rfl⟩ | ⟨hxn, hxk, hg⟩
    · rw [Sg.put_same] at h1; injection h1 with h1; subst h1; rw [he]; exact r.own k e b hk hb hro
    · rw [Sg.put_ne σ e' hxn] at h1; exact r.own x ex bx h1 hg h3
end
end Go.Proofs.YtllipkakgjmheaaGreatDoor.Ev

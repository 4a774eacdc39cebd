/-
  The abstract machine's values and memory against the model's: the relations, and what keeps them.
-/
import Derived.Test.YtllipkakgjmheaaGreatDoorEvB
import Derived.Below
import Derived.Laws.Cells
import Derived.Laws.IdiomCopy
set_option linter.unusedVariables false
set_option linter.unusedSimpArgs false
set_option linter.constructorNameAsVariable false
namespace Go.Proofs.YtllipkakgjmheaaGreatDoor.Ev
open Go

/-! ### Tries -/
theorem nbeq (a b : Nat) : Nat.beq a b = decide (a = b) := by
  by_cases h : a = b
  · simp [h, Nat.beq_refl]
  · simp only [h, decide_false]; exact Bool.eq_false_iff.2 fun e => h (Nat.eq_of_beq_eq_true e)
theorem nble (a b : Nat) : Nat.ble a b = decide (a ≤ b) := by
  by_cases h : a ≤ b
  · simp only [h, decide_true]; exact Nat.ble_eq_true_of_le h
  · simp only [h, decide_false]; exact Bool.eq_false_iff.2 fun e => h (Nat.le_of_ble_eq_true e)
theorem nblt (a b : Nat) : Nat.blt a b = decide (a < b) := by
  unfold Nat.blt; rw [nble]; rfl
theorem Tr.get_n {α : Type} (v : Option α) (a b : Tr α) (i : Nat) : (Tr.n v a b).get i = if i = 0 then v else if i % 2 = 1 then a.get (i / 2) else b.get (i / 2 - 1) := by
  simp only [Tr.get, nbeq, Bool.cond_decide]
theorem Tr.get_l {α : Type} (i : Nat) : (Tr.l : Tr α).get i = none := by cases i <;> rfl
theorem Tr.get_setAux {α : Type} : ∀ (f : Nat) (t : Tr α) (i j : Nat) (x : Option α), i < f → (t.setAux f i x).get j = if j = i then x else t.get j
  | 0, _, _, _, _, h => absurd h (Nat.not_lt_zero _)
  | f + 1, .l, i, j, x, h => by
    have e1 := fun (_ : i % 2 = 1) => Tr.get_setAux f (.l : Tr α) (i / 2) (j / 2) x (by omega)
    have e2 := fun (_ : ¬ i % 2 = 1) (_ : ¬ i = 0) => Tr.get_setAux f (.l : Tr α) (i / 2 - 1) (j / 2 - 1) x (by omega)
    simp only [Tr.setAux, nbeq, Bool.cond_decide]
    by_cases h0 : i = 0
    · rw [if_pos h0, Tr.get_n]; subst h0; by_cases hj : j = 0 <;> simp [hj, Tr.get_l]
    · rw [if_neg h0]
      by_cases h1 : i % 2 = 1
      · rw [if_pos h1, Tr.get_n, e1 h1]
        by_cases hj : j = 0
        · rw [if_pos hj, if_neg (by omega), Tr.get_l]
        · rw [if_neg hj]
          by_cases hj1 : j % 2 = 1
          · rw [if_pos hj1]
            by_cases hij : j = i
            · rw [if_pos (by omega), if_pos hij]
            · rw [if_neg (by omega), if_neg hij, Tr.get_l, Tr.get_l]
          · rw [if_neg hj1, if_neg (by omega), Tr.get_l, Tr.get_l]
      · rw [if_neg h1, Tr.get_n, e2 h1 h0]
        by_cases hj : j = 0
        · rw [if_pos hj, if_neg (by omega), Tr.get_l]
        · rw [if_neg hj]
          by_cases hj1 : j % 2 = 1
          · rw [if_pos hj1, if_neg (by omega), Tr.get_l, Tr.get_l]
          · rw [if_neg hj1]
            by_cases hij : j = i
            · rw [if_pos (by omega), if_pos hij]
            · rw [if_neg (by omega), if_neg hij, Tr.get_l, Tr.get_l]
  | f + 1, .n v a b, i, j, x, h => by
    have e1 := fun (_ : i % 2 = 1) => Tr.get_setAux f a (i / 2) (j / 2) x (by omega)
    have e2 := fun (_ : ¬ i % 2 = 1) (_ : ¬ i = 0) => Tr.get_setAux f b (i / 2 - 1) (j / 2 - 1) x (by omega)
    simp only [Tr.setAux, nbeq, Bool.cond_decide]
    by_cases h0 : i = 0
    · rw [if_pos h0, Tr.get_n, Tr.get_n]; subst h0; by_cases hj : j = 0 <;> simp [hj]
    · rw [if_neg h0]
      by_cases h1 : i % 2 = 1
      · rw [if_pos h1, Tr.get_n, Tr.get_n, e1 h1]
        by_cases hj : j = 0
        · rw [if_pos hj, if_neg (by omega), if_pos hj]
        · rw [if_neg hj, if_neg hj]
          by_cases hj1 : j % 2 = 1
          · rw [if_pos hj1, if_pos hj1]
            by_cases hij : j = i
            · rw [if_pos (by omega), if_pos hij]
            · rw [if_neg (by omega), if_neg hij]
          · rw [if_neg hj1, if_neg hj1, if_neg (by omega)]
      · rw [if_neg h1, Tr.get_n, Tr.get_n, e2 h1 h0]
        by_cases hj : j = 0
        · rw [if_pos hj, if_neg (by omega), if_pos hj]
        · rw [if_neg hj, if_neg hj]
          by_cases hj1 : j % 2 = 1
          · rw [if_pos hj1, if_pos hj1, if_neg (by omega)]
          · rw [if_neg hj1, if_neg hj1]
            by_cases hij : j = i
            · rw [if_pos (by omega), if_pos hij]
            · rw [if_neg (by omega), if_neg hij]
theorem Tr.get_set {α : Type} (t : Tr α) (i j : Nat) (x : Option α) : (t.set i x).get j = if j = i then x else t.get j := Tr.get_setAux _ _ _ _ _ (Nat.lt_succ_self i)
theorem Tr.get_set_same {α : Type} (t : Tr α) (i : Nat) (x : Option α) : (t.set i x).get i = x := by rw [Tr.get_set, if_pos rfl]
theorem Tr.get_set_ne {α : Type} (t : Tr α) {i j : Nat} (x : Option α) (h : j ≠ i) : (t.set i x).get j = t.get j := by rw [Tr.get_set, if_neg h]

/-! ### Values -/
structure Loc where
  blk : Nat
  base : Nat
  size : Nat
abbrev Sg := Nat → Option Loc
def Sg.le (σ σ' : Sg) : Prop := ∀ k e, σ k = some e → σ' k = some e
theorem Sg.le.refl (σ : Sg) : σ.le σ := fun _ _ h => h
theorem Sg.le.trans {a b c : Sg} (h : a.le b) (k : b.le c) : a.le c := fun x e hx => k x e (h x e hx)
def Sg.put (σ : Sg) (k : Nat) (e : Loc) : Sg := fun x => if x = k then some e else σ x
theorem Sg.put_same (σ : Sg) (k : Nat) (e : Loc) : σ.put k e k = some e := if_pos rfl
theorem Sg.put_ne (σ : Sg) {k x : Nat} (e : Loc) (h : x ≠ k) : σ.put k e x = σ x := if_neg h
theorem Sg.le_put {σ : Sg} {k : Nat} {e : Loc} (h : σ k = none) : σ.le (σ.put k e) := fun x e' hx => by
  by_cases hk : x = k
  · subst hk; rw [h] at hx; cases hx
  · rw [Sg.put_ne σ e hk]; exact hx

def litOk : Value → Bool
  | .pointer none | .slice none _ _ | .map none | .nilFunc | .nilIface | .float _ _ => true
  | _ => false
def mkS (s : List Nat) : ByteArray := ⟨(s.map UInt8.ofNat).toArray⟩
def capR (e : Loc) (off len : Nat) (cap : Cap) (c : Nat) : Prop :=
  match cap with
  | .is n => c = n
  | .room sz => len ≤ c ∧ e.base + off + c * sz ≤ e.size
def Loc.at (e : Loc) (off : Nat) : Addr := ⟨e.blk, e.base + off, none⟩
mutual
def VR (σ : Sg) : AV → Value → Prop
  | .any, _ => True
  | .lit a, v => v = a ∧ litOk a = true
  | .bool b, v => v = .bool b
  | .int k n, v => v = .int k n
  | .str s, v => v = .string (mkS s) ∧ ∀ b ∈ s, b < 256
  | .ptr k off, v => ∃ e, σ k = some e ∧ v = .pointer (some (e.at off))
  | .slice k off len cap, v => ∃ e c, σ k = some e ∧ v = .slice (some (e.at off)) len c ∧ capR e off len cap c
  | .empty cap, v => ∃ a c, v = .slice (some a) 0 c ∧ ∀ n, cap = some n → c = n
  | .map k, v => ∃ e, σ k = some e ∧ v = .map (some e.blk)
  | .func f x y, v => ∃ x' y', v = .func (.func f) x' y' ∧ VRs σ x x'.toList ∧ VRs σ y y'.toList
  | .yield k, v => ∃ e, σ k = some e ∧ v = .func (.yield e.blk) #[] #[]
  | .iface t x, v => ∃ y, v = .iface t y ∧ VR σ x y
  | .agg l, v => ∃ c, v = .agg c ∧ VRs σ l c.toList
  | .tuple l, v => ∃ c, v = .tuple c ∧ VRs σ l c.toList
def VRs (σ : Sg) : List AV → List Value → Prop
  | [], [] => True
  | a :: l, v :: m => VR σ a v ∧ VRs σ l m
  | _, _ => False
end

mutual
theorem VR.mono {σ σ' : Sg} (h : σ.le σ') : ∀ (a : AV) (v : Value), VR σ a v → VR σ' a v
  | .any, _, _ => trivial
  | .lit _, _, r => r
  | .bool _, _, r => r
  | .int _ _, _, r => r
  | .str _, _, r => r
  | .ptr _ _, _, ⟨e, he, r⟩ => ⟨e, h _ _ he, r⟩
  | .slice _ _ _ _, _, ⟨e, c, he, r⟩ => ⟨e, c, h _ _ he, r⟩
  | .empty _, _, r => r
  | .map _, _, ⟨e, he, r⟩ => ⟨e, h _ _ he, r⟩
  | .func _ x y, _, ⟨x', y', hv, hx, hy⟩ => ⟨x', y', hv, VRs.mono h x _ hx, VRs.mono h y _ hy⟩
  | .yield _, _, ⟨e, he, r⟩ => ⟨e, h _ _ he, r⟩
  | .iface _ x, _, ⟨y, hv, r⟩ => ⟨y, hv, VR.mono h x _ r⟩
  | .agg l, _, ⟨c, hv, r⟩ => ⟨c, hv, VRs.mono h l _ r⟩
  | .tuple l, _, ⟨c, hv, r⟩ => ⟨c, hv, VRs.mono h l _ r⟩
theorem VRs.mono {σ σ' : Sg} (h : σ.le σ') : ∀ (a : List AV) (v : List Value), VRs σ a v → VRs σ' a v
  | [], [], _ => trivial
  | a :: l, v :: m, r => ⟨VR.mono h a v r.1, VRs.mono h l m r.2⟩
  | [], _ :: _, r => r.elim
  | _ :: _, [], r => r.elim
end

theorem VRs.length {σ : Sg} : ∀ {a : List AV} {v : List Value}, VRs σ a v → a.length = v.length
  | [], [], _ => rfl
  | _ :: _, _ :: _, r => by simp [VRs.length r.2]
  | [], _ :: _, r => r.elim
  | _ :: _, [], r => r.elim
theorem VRs.get {σ : Sg} : ∀ {a : List AV} {v : List Value}, VRs σ a v → ∀ (i : Nat) x, a[i]? = some x → ∃ y, v[i]? = some y ∧ VR σ x y
  | [], [], _, i, x, h => by simp at h
  | a :: l, v :: m, r, 0, x, h => by simp at h; subst h; exact ⟨v, by simp, r.1⟩
  | a :: l, v :: m, r, i + 1, x, h => by simpa using VRs.get r.2 i x (by simpa using h)
  | [], _ :: _, r, _, _, _ => r.elim
  | _ :: _, [], r, _, _, _ => r.elim
theorem VRs.app {σ : Sg} : ∀ {a : List AV} {v : List Value} {b : List AV} {w : List Value}, VRs σ a v → VRs σ b w → VRs σ (a ++ b) (v ++ w)
  | [], [], _, _, _, h => h
  | _ :: _, _ :: _, _, _, r, h => ⟨r.1, VRs.app r.2 h⟩
  | [], _ :: _, _, _, r, _ => r.elim
  | _ :: _, [], _, _, r, _ => r.elim
theorem VRs.take {σ : Sg} : ∀ (n : Nat) {a : List AV} {v : List Value}, VRs σ a v → VRs σ (a.take n) (v.take n)
  | 0, _, _, _ => by simp [VRs]
  | _ + 1, [], [], _ => by simp [VRs]
  | n + 1, _ :: _, _ :: _, r => ⟨r.1, VRs.take n r.2⟩
  | _ + 1, [], _ :: _, r => r.elim
  | _ + 1, _ :: _, [], r => r.elim
theorem VRs.drop {σ : Sg} : ∀ (n : Nat) {a : List AV} {v : List Value}, VRs σ a v → VRs σ (a.drop n) (v.drop n)
  | 0, _, _, h => by simpa using h
  | _ + 1, [], [], _ => by simp [VRs]
  | n + 1, _ :: _, _ :: _, r => by simpa using VRs.drop n r.2
  | _ + 1, [], _ :: _, r => r.elim
  | _ + 1, _ :: _, [], r => r.elim
theorem VRs.map {σ : Sg} {α : Type} (f : α → AV) (g : α → Value) : ∀ (l : List α), (∀ x ∈ l, VR σ (f x) (g x)) → VRs σ (l.map f) (l.map g)
  | [], _ => trivial
  | x :: l, h => ⟨h x (List.mem_cons_self ..), VRs.map f g l fun y hy => h y (List.mem_cons_of_mem _ hy)⟩
theorem VRs.replicate {σ : Sg} {a : AV} {v : Value} (h : VR σ a v) : ∀ n, VRs σ (List.replicate n a) (List.replicate n v)
  | 0 => trivial
  | n + 1 => ⟨h, VRs.replicate h n⟩
theorem VRs.flatrep {σ : Sg} {a : List AV} {v : List Value} (h : VRs σ a v) : ∀ n, VRs σ (List.replicate n a).flatten (List.replicate n v).flatten
  | 0 => trivial
  | n + 1 => by simpa [List.replicate_succ] using VRs.app h (VRs.flatrep h n)

theorem ofNat_toNat_map (s : List UInt8) : (s.map UInt8.toNat).map UInt8.ofNat = s := by
  rw [List.map_map]
  conv => rhs; rw [← List.map_id s]
  apply List.map_congr_left
  intro a _
  simp
theorem VR.ofAtom (σ : Sg) (v : Value) : VR σ (AV.ofAtom v) v := by
  cases v with
  | string s =>
    refine ⟨?_, ?_⟩
    · simp only [mkS, ofNat_toNat_map]
    · intro b hb
      obtain ⟨c, _, rfl⟩ := List.mem_map.1 hb
      exact c.toNat_lt
  | pointer a => cases a <;> first | exact ⟨rfl, rfl⟩ | trivial
  | slice a _ _ => cases a <;> first | exact ⟨rfl, rfl⟩ | trivial
  | map a => cases a <;> first | exact ⟨rfl, rfl⟩ | trivial
  | _ => first | rfl | exact ⟨rfl, rfl⟩ | trivial
theorem VRs.ofAtoms (σ : Sg) : ∀ l : List Value, VRs σ (l.map AV.ofAtom) l
  | [] => trivial
  | v :: l => ⟨VR.ofAtom σ v, VRs.ofAtoms σ l⟩
theorem VR.ofValue (σ : Sg) (v : Value) : VR σ (AV.ofValue v) v := by
  cases v with
  | agg c => exact ⟨c, rfl, VRs.ofAtoms σ _⟩
  | tuple c => exact ⟨c, rfl, VRs.ofAtoms σ _⟩
  | bool b => rfl
  | int k n => rfl
  | string s => exact VR.ofAtom σ (.string s)
  | pointer a => exact VR.ofAtom σ (.pointer a)
  | slice a b c => exact VR.ofAtom σ (.slice a b c)
  | map a => exact VR.ofAtom σ (.map a)
  | _ => first | rfl | exact ⟨rfl, rfl⟩ | trivial
theorem VR.cells {σ : Sg} {a : AV} {v : Value} {l : List AV} (h : VR σ a v) (hc : a.cells = some l) : VRs σ l v.cells.toList := by
  cases a with
  | any => cases hc
  | tuple _ => cases hc
  | agg cs =>
    obtain ⟨c, rfl, r⟩ := h
    injection hc with hc; subst hc; exact r
  | lit a =>
    injection hc with hc; subst hc
    have h' := h
    obtain ⟨rfl, ha⟩ := h'
    cases v <;> first | exact ⟨h, trivial⟩ | (simp [litOk] at ha)
  | bool b => injection hc with hc; subst hc; have h' := h; obtain rfl := h'; exact ⟨h, trivial⟩
  | int b _ => injection hc with hc; subst hc; have h' := h; obtain rfl := h'; exact ⟨h, trivial⟩
  | str b => injection hc with hc; subst hc; have h' := h; obtain ⟨rfl, _⟩ := h'; exact ⟨h, trivial⟩
  | ptr _ _ => injection hc with hc; subst hc; have h' := h; obtain ⟨_, _, rfl⟩ := h'; exact ⟨h, trivial⟩
  | slice _ _ _ _ => injection hc with hc; subst hc; have h' := h; obtain ⟨_, _, _, rfl, _⟩ := h'; exact ⟨h, trivial⟩
  | empty _ => injection hc with hc; subst hc; have h' := h; obtain ⟨_, _, rfl, _⟩ := h'; exact ⟨h, trivial⟩
  | map _ => injection hc with hc; subst hc; have h' := h; obtain ⟨_, _, rfl⟩ := h'; exact ⟨h, trivial⟩
  | func _ _ _ => injection hc with hc; subst hc; have h' := h; obtain ⟨_, _, rfl, _⟩ := h'; exact ⟨h, trivial⟩
  | yield _ => injection hc with hc; subst hc; have h' := h; obtain ⟨_, _, rfl⟩ := h'; exact ⟨h, trivial⟩
  | iface _ _ => injection hc with hc; subst hc; have h' := h; obtain ⟨_, rfl, _⟩ := h'; exact ⟨h, trivial⟩
end Go.Proofs.YtllipkakgjmheaaGreatDoor.Ev

/- The texts Tok, RunsPlain of IterateWords, joined by program (tools/merge.py): walks of the functions that the law reaches, and plain facts; no condition. -/
import Derived.Test.YtajgoffeahfmfaaDoorPart09
import Derived.Test.YtajgoffeahfmfaaDoorPart07
set_option linter.unusedVariables false
set_option linter.unusedSimpArgs false

/- Tokens as plain data; what keeps all blocks but some. -/
namespace Go.Proofs.YtajgoffeahfmfaaDoor
open Rep (rep)
open Go.RowKit

structure Token where
  text : ByteArray
  pos : Int
  from_ : Int
  to_ : Int
  deriving DecidableEq
instance : Rep Token where
  size := 4
  pos := by decide
  rep _ _ cs x := cs = [.string x.text, .int .i64 x.pos, .int .i64 x.from_, .int .i64 x.to_] ∧ x.text.size ≤ 9223372036854775807 ∧ In64 x.pos ∧ In64 x.from_ ∧ In64 x.to_
  len := by rintro _ _ _ _ ⟨rfl, _⟩; rfl
  keep := fun h _ _ => h
  one := by
    rintro _ _ _ _ u ⟨rfl, _⟩ hu
    simp only [List.mem_cons, List.not_mem_nil, or_false] at hu
    rcases hu with rfl | rfl | rfl | rfl <;> rfl
def Token.cells (x : Token) : List Value := [.string x.text, .int .i64 x.pos, .int .i64 x.from_, .int .i64 x.to_]
def Token.ok (x : Token) : Prop := x.text.size ≤ 9223372036854775807 ∧ In64 x.pos ∧ In64 x.from_ ∧ In64 x.to_
theorem Token.rep_of {w : World} {F : Nat → Prop} {x : Token} (h : x.ok) : rep w F x.cells x := ⟨rfl, h⟩
theorem Token.at_ {w : World} {F : Nat → Prop} {b off k : Nat} {x : Token} (h : ElemAt w F b off k x) : w.cell? ⟨b, off + k * 4, none⟩ = some (.string x.text) ∧ w.cell? ⟨b, off + k * 4 + 1, none⟩ = some (.int .i64 x.pos) ∧ w.cell? ⟨b, off + k * 4 + 2, none⟩ = some (.int .i64 x.from_) ∧ w.cell? ⟨b, off + k * 4 + 3, none⟩ = some (.int .i64 x.to_) ∧ x.ok := by
  obtain ⟨cs, ⟨rfl, ho⟩, hc⟩ := h
  exact ⟨hc 0 _ rfl, hc 1 _ rfl, hc 2 _ rfl, hc 3 _ rfl, ho⟩

/-- Every block stands but those of a list and the rows of one type. -/
def KeepsBut (bs : List Nat) (e : TypeId) (W W' : World) : Prop :=
  W.heap.size ≤ W'.heap.size ∧ ∀ k o, W.heap[k]? = some o → k ∉ bs → (∀ c fz, o ≠ .cells c e fz) → W'.heap[k]? = some o
section
variable {bs : List Nat} {e : TypeId} {A B C : World}
theorem KeepsBut.refl (bs : List Nat) (e : TypeId) (W : World) : KeepsBut bs e W W := ⟨Nat.le_refl _, fun _ _ h _ _ => h⟩
theorem KeepsBut.trans (h : KeepsBut bs e A B) (k : KeepsBut bs e B C) : KeepsBut bs e A C := ⟨Nat.le_trans h.1 k.1, fun i o hi hn ho => k.2 i o (h.2 i o hi hn ho) hn ho⟩
theorem KeepsBut.on (bs : List Nat) (e : TypeId) (h : Below A.heap.size A B) : KeepsBut bs e A B := ⟨h.size, fun k o hk _ _ => (h.block k (Array.getElem?_eq_some_iff.1 hk).1).trans hk⟩
theorem KeepsBut.grown {row : Option Nat} (h : A.grownBy B row) (hr : ∀ r o, row = some r → A.heap[r]? = some o → r ∈ bs ∨ ∃ c fz, o = .cells c e fz) : KeepsBut bs e A B :=
  ⟨h.size, fun k o hk hn ho => (h.block k (Array.getElem?_eq_some_iff.1 hk).1 (fun e' => by
    rcases hr k o e'.symm hk with h1 | ⟨c, fz, h1⟩
    · exact hn h1
    · exact ho c fz h1)).trans hk⟩
theorem KeepsBut.set (p : Addr) (hp : p.block ∈ bs) (u : Value) (W : World) : KeepsBut bs e W (W.setCell p u) := KeepsBut.grown (grownBy_setC W p u) (fun r o hr _ => by cases hr; exact .inl hp)
theorem KeepsBut.box {b : Nat} {t : TypeId} {v : Value} (h : KeepsBut bs e A B) (hb : Boxed A b t v) (hn : b ∉ bs) (ht : t ≠ e) : Boxed B b t v := h.2 b _ hb hn (fun c fz e' => ht (by cases e'; rfl))
theorem KeepsBut.others (h : KeepsBut bs e A B) (hb : ∀ b ∈ bs, ∃ c t, A.heap[b]? = some (.cells c t (0, 0))) : KeepsOthers A B :=
  ⟨h.1, fun k o hk hc => h.2 k o hk (fun hm => by obtain ⟨c, t, h1⟩ := hb k hm; rw [h1] at hk; cases hk; cases hc) (fun c fz e' => by subst e'; cases hc)⟩
theorem KeepsBut.more {bs' : List Nat} (h : KeepsBut bs e A B) (hs : ∀ b ∈ bs, b ∈ bs') : KeepsBut bs' e A B := ⟨h.1, fun k o hk hn ho => h.2 k o hk (fun hm => hn (hs k hm)) ho⟩
end
theorem own_row_kind {α : Type} [Rep α] {D : Nat → Prop} {W : World} {base : Nat} {e : TypeId} {v : Value} {xs : List α} (h : Own D W base e v xs) {bs : List Nat} : ∀ r o, v.ownBlock = some r → W.heap[r]? = some o → r ∈ bs ∨ ∃ c fz, o = .cells c e fz := by
  intro r o hr ho
  obtain ⟨_, _, _, hh⟩ := h
  rcases hh.2 with ⟨rfl, _⟩ | ⟨g, cap, cur, rfl, _, hgb, _⟩
  · cases hr
  · cases hr; rw [hgb] at ho; cases ho; exact .inr ⟨_, _, rfl⟩
end Go.Proofs.YtajgoffeahfmfaaDoor

/- Runs of runes as plain lists: what the program does, rune by rune. No program stands here. -/
namespace Go.Proofs.YtajgoffeahfmfaaDoor
open Rep (rep)
open Go.RowKit

theorem snoc_ind {α : Type} {P : List α → Prop} (h0 : P []) (h1 : ∀ l x, P l → P (l ++ [x])) (l : List α) : P l := by
  have : ∀ l : List α, P l.reverse := by
    intro l
    induction l with
    | nil => exact h0
    | cons a l ih => rw [List.reverse_cons]; exact h1 _ _ ih
  have := this l.reverse
  rwa [List.reverse_reverse] at this

def endTok (s : ByteArray) (toks : List Token) (fr : Option Nat) (x : Nat) : List Token :=
  match fr with
  | none => toks
  | some f => toks ++ [⟨s.extract f x, toks.length, f, x⟩]
def stepRun (s : ByteArray) (p b : Int → Bool) (st : List Token × Option Nat) (x : Nat) : List Token × Option Nat :=
  if p (rn s x) = false then (endTok s st.1 st.2 x, none)
  else if st.2 = none ∧ b (rn s x) = true then (st.1, some x) else st
def runSt (s : ByteArray) (p b : Int → Bool) (pre : List Nat) : List Token × Option Nat := pre.foldl (stepRun s p b) ([], none)
def runsL (s : ByteArray) (p b : Int → Bool) : List Token := endTok s (runSt s p b (ats s)).1 (runSt s p b (ats s)).2 s.size
def frI : Option Nat → Int
  | none => -1
  | some f => f
theorem runSt_snoc (s : ByteArray) (p b : Int → Bool) (pre : List Nat) (x : Nat) : runSt s p b (pre ++ [x]) = stepRun s p b (runSt s p b pre) x := by simp [runSt]
theorem endTok_len (s : ByteArray) (toks : List Token) (fr : Option Nat) (x : Nat) : (endTok s toks fr x).length ≤ toks.length + 1 := by cases fr <;> simp [endTok]
theorem runSt_len (s : ByteArray) (p b : Int → Bool) (pre : List Nat) : (runSt s p b pre).1.length ≤ pre.length := by
  induction pre using snoc_ind with
  | h0 => simp [runSt]
  | h1 pre x ih =>
    rw [runSt_snoc, List.length_append, List.length_singleton]
    unfold stepRun
    split
    · have := endTok_len s (runSt s p b pre).1 (runSt s p b pre).2 x
      show (endTok _ _ _ _).length ≤ _
      omega
    · split
      · show (runSt s p b pre).1.length ≤ _; omega
      · omega
theorem runSt_mem (s : ByteArray) (p b : Int → Bool) (pre : List Nat) : ∀ f, (runSt s p b pre).2 = some f → f ∈ pre := by
  induction pre using snoc_ind with
  | h0 => intro f h; simp [runSt] at h
  | h1 pre x ih =>
    intro f h
    rw [runSt_snoc] at h
    unfold stepRun at h
    split at h
    · cases h
    · split at h
      · cases h; simp
      · simp [ih f h]
theorem atsF_sorted (s : ByteArray) : ∀ f i, (atsF s f i).Pairwise (· < ·)
  | 0, _ => by simp [atsF]
  | f + 1, i => by
    rw [atsF]
    by_cases hi : i < s.size
    · rw [if_pos hi, List.pairwise_cons]
      refine ⟨fun x hx => ?_, atsF_sorted s f _⟩
      have := atsF_ge s f _ x hx
      have := wd_pos hi
      omega
    · rw [if_neg hi]; exact List.Pairwise.nil
theorem ats_sorted (s : ByteArray) : (ats s).Pairwise (· < ·) := atsF_sorted s _ _
theorem ats_lt {s : ByteArray} {x : Nat} (h : x ∈ ats s) : x < s.size := (atsF_ge s _ _ x h).2
theorem ats_before {s : ByteArray} {pre : List Nat} {x : Nat} (h : pre ++ [x] <+: ats s) : ∀ f ∈ pre, f < x := by
  intro f hf
  have h1 := (ats_sorted s).sublist h.sublist
  rw [List.pairwise_append] at h1
  exact h1.2.2 f hf x (by simp)
end Go.Proofs.YtajgoffeahfmfaaDoor

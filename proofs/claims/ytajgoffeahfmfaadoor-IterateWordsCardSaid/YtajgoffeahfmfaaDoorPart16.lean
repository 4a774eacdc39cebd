/- The texts Fold, FoldL, Blank, Letters, GramsPlain of IterateWords, joined by program (tools/merge.py): walks of the functions that the law reaches, and plain facts; no condition. -/
import Derived.Test.YtajgoffeahfmfaaDoorPart07
import Derived.Test.YtajgoffeahfmfaaDoorPart05
import Derived.Test.YtajgoffeahfmfaaDoorPart15
import Derived.Test.YtajgoffeahfmfaaDoorPart13
set_option linter.unusedVariables false
set_option linter.unusedSimpArgs false

/- The walks of fold.in, step, Lower, Letter, Digit, Mark. -/
namespace Go.Proofs.YtajgoffeahfmfaaDoor
open Rep (rep)
open Go.RowKit

theorem in_any (r a b : Int) (w : World) : Calls Tryd.prog 70 #[.int .i32 r, .int .i32 a, .int .i32 b] w fun e w' => e = .returned (.bool (within r a b)) ∧ w = w' := by
  by_cases h : a ≤ r
  · by_cases h2 : r ≤ b
    · rw [show within r a b = true by simp [within, h, h2]]
      go_enter Tryd.func70, Tryd.ntmps70
      go_wp2
      go_ret
      exact ⟨rfl, rfl⟩
    · rw [show within r a b = false by simp [within, h2]]
      go_enter Tryd.func70, Tryd.ntmps70
      go_wp2
      go_ret
      exact ⟨rfl, rfl⟩
  · rw [show within r a b = false by simp [within, h]]
    go_enter Tryd.func70, Tryd.ntmps70
    go_wp2
    go_ret
    exact ⟨rfl, rfl⟩

/-- A call of 'in' parts the walk. -/
theorem in_parts {r a b : Int} {w : World} {R : Ending → World → Prop} (h1 : a ≤ r → r ≤ b → R (.returned (.bool true)) w) (h2 : r < a ∨ b < r → R (.returned (.bool false)) w) : Calls Tryd.prog 70 #[.int .i32 r, .int .i32 a, .int .i32 b] w R := by
  by_cases h : a ≤ r ∧ r ≤ b
  · refine (in_any r a b w).mono ?_
    rintro e w' ⟨rfl, rfl⟩
    rw [show within r a b = true by simp [within, h]]
    exact h1 h.1 h.2
  · refine (in_any r a b w).mono ?_
    rintro e w' ⟨rfl, rfl⟩
    rw [show within r a b = false by rw [within_false]; exact h]
    exact h2 (by omega)

set_option maxRecDepth 100000 in
set_option maxHeartbeats 4000000 in
theorem mark_any (r : Int) (w : World) : Calls Tryd.prog 55 #[.int .i32 r] w fun e w' => e = .returned (.bool (markB r)) ∧ w = w' := by
  have hx := markB_iff r
  obtain ⟨q, hq⟩ : ∃ q, markB r = q := ⟨_, rfl⟩
  rw [hq] at hx ⊢
  have Hx := Lib.hid hx
  clear hx hq
  all_goals
    go_enter Tryd.func55, Tryd.ntmps55
    go_wp2_with (go_at_call 70; refine in_parts (fun _ _ => ?_) (fun _ => ?_))
    all_goals
      go_ret
      refine ⟨ret_bool ?_, rfl⟩
      have hx := Hx.out
      clear Hx
      cases q <;> simp at hx ⊢ <;> (try simp only [beq_iff_eq, beq_eq_false_iff_ne, bne_iff_ne, bne_eq_false_iff_eq, ne_eq, Bool.not_eq_true, Bool.not_eq_false] at *) <;> omega

set_option maxRecDepth 100000 in
set_option maxHeartbeats 4000000 in
theorem digit_any (r : Int) (w : World) : Calls Tryd.prog 53 #[.int .i32 r] w fun e w' => e = .returned (.bool (digitB r)) ∧ w = w' := by
  have hx := digitB_iff r
  obtain ⟨q, hq⟩ : ∃ q, digitB r = q := ⟨_, rfl⟩
  rw [hq] at hx ⊢
  have Hx := Lib.hid hx
  clear hx hq
  all_goals
    go_enter Tryd.func53, Tryd.ntmps53
    go_wp2_with (go_at_call 70; refine in_parts (fun _ _ => ?_) (fun _ => ?_))
    all_goals
      go_ret
      refine ⟨ret_bool ?_, rfl⟩
      have hx := Hx.out
      clear Hx
      cases q <;> simp at hx ⊢ <;> (try simp only [beq_iff_eq, beq_eq_false_iff_ne, bne_iff_ne, bne_eq_false_iff_eq, ne_eq, Bool.not_eq_true, Bool.not_eq_false] at *) <;> omega

end Go.Proofs.YtajgoffeahfmfaaDoor

/- The walk of fold.Letter. -/
namespace Go.Proofs.YtajgoffeahfmfaaDoor
open Rep (rep)
open Go.RowKit
set_option maxRecDepth 100000 in
set_option maxHeartbeats 4000000 in
theorem letter_any (r : Int) (w : World) : Calls Tryd.prog 52 #[.int .i32 r] w fun e w' => e = .returned (.bool (letterB r)) ∧ w = w' := by
  have hx := letterB_iff r
  obtain ⟨q, hq⟩ : ∃ q, letterB r = q := ⟨_, rfl⟩
  rw [hq] at hx ⊢
  have Hx := Lib.hid hx
  clear hx hq
  all_goals
    go_enter Tryd.func52, Tryd.ntmps52
    go_wp2_with (go_at_call 70; refine in_parts (fun _ _ => ?_) (fun _ => ?_))
    all_goals
      go_ret
      refine ⟨ret_bool ?_, rfl⟩
      have hx := Hx.out
      clear Hx
      cases q <;> simp at hx ⊢ <;> (try simp only [beq_iff_eq, beq_eq_false_iff_ne, bne_iff_ne, bne_eq_false_iff_eq, ne_eq, Bool.not_eq_true, Bool.not_eq_false] at *) <;> omega

end Go.Proofs.YtajgoffeahfmfaaDoor

/- The walks of analysis.Blank and lecternref06.Blank. -/
namespace Go.Proofs.YtajgoffeahfmfaaDoor
open Rep (rep)
open Go.RowKit

set_option maxRecDepth 100000 in
set_option maxHeartbeats 4000000 in
theorem blank_any (r : Int) (w : World) : Calls Tryd.prog 36 #[.int .i32 r] w fun e w' => e = .returned (.bool (blankB r)) ∧ w = w' := by
  have hx := blankB_iff r
  obtain ⟨q, hq⟩ : ∃ q, blankB r = q := ⟨_, rfl⟩
  rw [hq] at hx ⊢
  have Hx := Lib.hid hx
  clear hx hq
  have hc : (r < 9) ∨ (9 ≤ r ∧ r ≤ 13) ∨ (14 ≤ r ∧ r < 32) ∨ (32 ≤ r ∧ r ≤ 32) ∨ (33 ≤ r ∧ r < 133) ∨ (133 ≤ r ∧ r ≤ 133) ∨ (134 ≤ r ∧ r < 160) ∨ (160 ≤ r ∧ r ≤ 160) ∨ (161 ≤ r ∧ r < 8192) ∨ (8192 ≤ r ∧ r ≤ 8202) ∨ (8203 ≤ r ∧ r < 8232) ∨ (8232 ≤ r ∧ r ≤ 8232) ∨ (8233 ≤ r ∧ r ≤ 8233) ∨ (8234 ≤ r ∧ r < 12288) ∨ (12288 ≤ r ∧ r ≤ 12288) ∨ 12289 ≤ r := by omega
  have fin : ∀ b : Bool, (b = true ↔ q = true) → b = q := fun b h => Bool.eq_iff_iff.2 h
  have Fin := Lib.hid fin
  clear fin
  rcases hc with h | h | h | h | h | h | h | h | h | h | h | h | h | h | h | h
  all_goals
    go_enter Tryd.func36, Tryd.ntmps36
    go_wp2
    all_goals
      go_ret
      refine ⟨ret_bool (Fin.out _ ?_), rfl⟩
      rw [Hx.out]
      clear Hx Fin
      (try simp only [beq_iff_eq, beq_eq_false_iff_ne, bne_iff_ne, ne_eq, Bool.not_eq_true, Bool.not_eq_false] at *)
      simp
      omega

set_option maxRecDepth 100000 in
set_option maxHeartbeats 4000000 in
theorem rblank_any (r : Int) (w : World) : Calls Tryd.prog 74 #[.int .i32 r] w fun e w' => e = .returned (.bool (blankB r)) ∧ w = w' := by
  have hx := blankB_iff r
  obtain ⟨q, hq⟩ : ∃ q, blankB r = q := ⟨_, rfl⟩
  rw [hq] at hx ⊢
  have Hx := Lib.hid hx
  clear hx hq
  have hc : (r < 9) ∨ (9 ≤ r ∧ r ≤ 13) ∨ (14 ≤ r ∧ r < 32) ∨ (32 ≤ r ∧ r ≤ 32) ∨ (33 ≤ r ∧ r < 133) ∨ (133 ≤ r ∧ r ≤ 133) ∨ (134 ≤ r ∧ r < 160) ∨ (160 ≤ r ∧ r ≤ 160) ∨ (161 ≤ r ∧ r < 8192) ∨ (8192 ≤ r ∧ r ≤ 8202) ∨ (8203 ≤ r ∧ r < 8232) ∨ (8232 ≤ r ∧ r ≤ 8232) ∨ (8233 ≤ r ∧ r ≤ 8233) ∨ (8234 ≤ r ∧ r < 12288) ∨ (12288 ≤ r ∧ r ≤ 12288) ∨ 12289 ≤ r := by omega
  have fin : ∀ b : Bool, (b = true ↔ q = true) → b = q := fun b h => Bool.eq_iff_iff.2 h
  have Fin := Lib.hid fin
  clear fin
  rcases hc with h | h | h | h | h | h | h | h | h | h | h | h | h | h | h | h
  all_goals
    go_enter Tryd.func74, Tryd.ntmps74
    go_wp2
    all_goals
      go_ret
      refine ⟨ret_bool (Fin.out _ ?_), rfl⟩
      rw [Hx.out]
      clear Hx Fin
      (try simp only [beq_iff_eq, beq_eq_false_iff_ne, bne_iff_ne, ne_eq, Bool.not_eq_true, Bool.not_eq_false] at *)
      simp
      omega

end Go.Proofs.YtajgoffeahfmfaaDoor

/- The walks of the tests of analysis' tokenizers, and of letters. -/
namespace Go.Proofs.YtajgoffeahfmfaaDoor
open Rep (rep)
open Go.RowKit

def wordB (r : Int) : Bool := letterB r || digitB r
def wordMark (r : Int) : Bool := wordB r || markB r
def notBlank (r : Int) : Bool := !blankB r
theorem same_below {w w' : World} (h : w = w') : Below w.heap.size w w' := by subst h; exact Below.refl _ _

theorem letters1_any (r : Int) (w : World) : Calls Tryd.prog 51 #[.int .i32 r] w fun e w' => e = .returned (.bool (wordB r)) ∧ w = w' := by
  unfold wordB
  rcases hl : letterB r with _ | _
  · have Hl := Lib.hid hl
    clear hl
    go_enter Tryd.func51, Tryd.ntmps51
    go_wp2_with (first
      | (go_at_call 52; go_must (refine (letter_any r _).mono ?_); rw [Hl.out]; rintro e w' ⟨rfl, rfl⟩)
      | (go_at_call 53; go_must (refine (digit_any r _).mono ?_); rintro e w' ⟨rfl, rfl⟩))
    go_ret
    exact ⟨rfl, rfl⟩
  · have Hl := Lib.hid hl
    clear hl
    go_enter Tryd.func51, Tryd.ntmps51
    go_wp2_with (go_at_call 52; go_must (refine (letter_any r _).mono ?_); rw [Hl.out]; rintro e w' ⟨rfl, rfl⟩)
    go_ret
    exact ⟨rfl, rfl⟩

theorem letters2_any (r : Int) (B : Nat) (w : World) (hb : Boxed w B 73 (.func (.func 51) #[] #[])) : Calls Tryd.prog 54 #[.int .i32 r, .pointer (some ⟨B, 0, none⟩)] w fun e w' => e = .returned (.bool (wordMark r)) ∧ w = w' := by
  have cb := hb.cell
  clear hb
  unfold wordMark
  rcases hl : wordB r with _ | _
  · have Hl := Lib.hid hl
    clear hl
    go_enter Tryd.func54, Tryd.ntmps54
    go_wp2_with (first
      | (go_at_call 51; go_must (refine (letters1_any r _).mono ?_); rw [Hl.out]; rintro e w' ⟨rfl, rfl⟩)
      | (go_at_call 55; go_must (refine (mark_any r _).mono ?_); rintro e w' ⟨rfl, rfl⟩))
    go_ret
    exact ⟨rfl, rfl⟩
  · have Hl := Lib.hid hl
    clear hl
    go_enter Tryd.func54, Tryd.ntmps54
    go_wp2_with (go_at_call 51; go_must (refine (letters1_any r _).mono ?_); rw [Hl.out]; rintro e w' ⟨rfl, rfl⟩)
    go_ret
    exact ⟨rfl, rfl⟩

theorem tokens1_any (r : Int) (w : World) : Calls Tryd.prog 35 #[.int .i32 r] w fun e w' => e = .returned (.bool (notBlank r)) ∧ w = w' := by
  unfold notBlank
  rcases hl : blankB r with _ | _
  all_goals
    have Hl := Lib.hid hl
    clear hl
    go_enter Tryd.func35, Tryd.ntmps35
    go_wp2_with (go_at_call 36; go_must (refine (blank_any r _).mono ?_); rw [Hl.out]; rintro e w' ⟨rfl, rfl⟩)
    go_ret
    exact ⟨rfl, rfl⟩
theorem tokens2_any (r : Int) (w : World) : Calls Tryd.prog 38 #[.int .i32 r] w fun e w' => e = .returned (.bool true) ∧ w = w' := by
  go_enter Tryd.func38, Tryd.ntmps38
  go_wp2
  go_ret
  exact ⟨rfl, rfl⟩
theorem tokens3_any (r : Int) (w : World) : Calls Tryd.prog 39 #[.int .i32 r] w fun e w' => e = .returned (.bool true) ∧ w = w' := by
  go_enter Tryd.func39, Tryd.ntmps39
  go_wp2
  go_ret
  exact ⟨rfl, rfl⟩

theorem asks_blank (w : World) : Asks 35 #[] notBlank w :=
  ⟨Go.Proofs.enters_of Tryd.func35 (by kernel_rfl) rfl, fun W r _ _ _ => (tokens1_any r W).mono fun _ _ ⟨h, k⟩ => ⟨h, same_below k⟩⟩
theorem asks_all2 (w : World) : Asks 38 #[] (fun _ => true) w :=
  ⟨Go.Proofs.enters_of Tryd.func38 (by kernel_rfl) rfl, fun W r _ _ _ => (tokens2_any r W).mono fun _ _ ⟨h, k⟩ => ⟨h, same_below k⟩⟩
theorem asks_all3 (w : World) : Asks 39 #[] (fun _ => true) w :=
  ⟨Go.Proofs.enters_of Tryd.func39 (by kernel_rfl) rfl, fun W r _ _ _ => (tokens3_any r W).mono fun _ _ ⟨h, k⟩ => ⟨h, same_below k⟩⟩
theorem asks_word (w : World) : Asks 51 #[] wordB w :=
  ⟨Go.Proofs.enters_of Tryd.func51 (by kernel_rfl) rfl, fun W r _ _ _ => (letters1_any r W).mono fun _ _ ⟨h, k⟩ => ⟨h, same_below k⟩⟩
theorem asks_mark (w : World) (B : Nat) (hb : Boxed w B 73 (.func (.func 51) #[] #[])) : Asks 54 #[.pointer (some ⟨B, 0, none⟩)] wordMark w :=
  ⟨Go.Proofs.enters_of Tryd.func54 (by kernel_rfl) rfl, fun W r h _ _ => (letters2_any r B W (Boxed.on hb h)).mono fun _ _ ⟨h, k⟩ => ⟨h, same_below k⟩⟩

/-- The tokens of TLetters. -/
def lettersL (s : ByteArray) : List Token := runsL s wordMark wordB
set_option maxRecDepth 100000 in
theorem letters_any (s : ByteArray) (hs : s.size ≤ 1000000000) (w : World) (hT : Tabs w) :
    Calls Tryd.prog 34 #[.string s] w fun e w' => ∃ v, e = .returned v ∧ Own Flat w' w.heap.size 44 v (lettersL s) ∧ Below w.heap.size w w' := by
  have hmf : ∀ (fn : Fn) (first cap : Array Value) (w : World), (Instr.makeFunc fn first cap).run Tryd.prog w = .ok (.func fn first cap) w := fun _ _ _ _ => rfl
  have HT := Lib.hid hT
  clear hT
  go_enter Tryd.func34, Tryd.ntmps34
  go_wp2_with fail
  have b0 := Boxed.new w 73 (.func (.func 51) #[] #[])
  have hb0 : Below w.heap.size w (w.alloc (.cells #[.func (.func 51) #[] #[]] 73)) := (Below.refl _ _).alloc (Nat.le_refl _) _
  refine (runs_any s hs _ _ _ _ wordMark wordB _ (HT.out.on hb0) (asks_mark _ _ b0) (asks_word _)).mono ?_
  rintro e w1 ⟨v, rfl, ho, hb1⟩
  have Ho := Lib.hid (ho.mono (Nat.le_trans (Nat.le_refl _) hb0.size))
  have Hb := Lib.hid (hb0.trans (hb1.mono hb0.size))
  clear ho hb1 hb0 b0
  go_wp2
  go_ret
  exact ⟨_, rfl, Ho.out, Hb.out⟩
end Go.Proofs.YtajgoffeahfmfaaDoor

/- The tokens of the tokenizers, as plain lists. No program stands here. -/
namespace Go.Proofs.YtajgoffeahfmfaaDoor
open Rep (rep)
open Go.RowKit

/-- One piece of a token: n runes from rune i on. -/
def pieceTok (t : Token) (p : List Nat) (n : Nat) (len i : Nat) : Token := ⟨t.text.extract (p[i]?.getD 0) (p[i + n]?.getD 0), len, t.from_ + (p[i]?.getD 0), t.from_ + (p[i + n]?.getD 0)⟩
def piecesTo (t : Token) (p : List Nat) (n : Nat) (out : List Token) : Nat → List Token
  | 0 => out
  | i + 1 => piecesTo t p n out i ++ [pieceTok t p n (piecesTo t p n out i).length i]
def gramN (p : List Nat) : Nat := min 2 (p.length - 1)
def gramsOne (out : List Token) (t : Token) : List Token := piecesTo t (places t.text) (gramN (places t.text)) out ((places t.text).length - gramN (places t.text))
def gramsL (toks : List Token) : List Token := toks.foldl gramsOne []
theorem piecesTo_len (t : Token) (p : List Nat) (n : Nat) (out : List Token) (i : Nat) : (piecesTo t p n out i).length = out.length + i := by
  induction i with
  | zero => rfl
  | succ i ih => simp [piecesTo, ih]; omega
theorem places_len (s : ByteArray) : 1 ≤ (places s).length ∧ (places s).length ≤ s.size + 1 := by
  have := ats_len s
  simp [places]; omega
theorem gramsOne_len (out : List Token) (t : Token) : (gramsOne out t).length ≤ out.length + t.text.size + 1 := by
  unfold gramsOne
  rw [piecesTo_len]
  have := places_len t.text
  omega
theorem gramsL_len (m : Nat) (toks : List Token) (h : ∀ t ∈ toks, t.text.size ≤ m) : (gramsL toks).length ≤ toks.length * (m + 1) := by
  unfold gramsL
  have : ∀ (l : List Token) (out : List Token), (∀ t ∈ l, t.text.size ≤ m) → (l.foldl gramsOne out).length ≤ out.length + l.length * (m + 1) := by
    intro l
    induction l with
    | nil => intro out _; simp
    | cons a l ih =>
      intro out hl
      have h1 := ih (gramsOne out a) (fun t ht => hl t (by simp [ht]))
      have h2 := gramsOne_len out a
      have h3 := hl a (by simp)
      simp only [List.foldl_cons, List.length_cons, Nat.add_mul]
      omega
  have := this toks [] h
  simpa using this
/-- A token as a text's part. -/
def PartOf (s : ByteArray) (t : Token) : Prop := ∃ f x : Nat, f ≤ x ∧ x ≤ s.size ∧ t.text = s.extract f x ∧ t.from_ = f ∧ t.to_ = x
theorem PartOf.size {s : ByteArray} {t : Token} (h : PartOf s t) : t.text.size ≤ s.size ∧ 0 ≤ t.from_ ∧ t.from_ + t.text.size ≤ s.size := by
  obtain ⟨f, x, h1, h2, h3, h4, h5⟩ := h
  rw [h3, h4, ByteArray.size_extract]
  omega
theorem endTok_part {s : ByteArray} {toks : List Token} {fr : Option Nat} {x : Nat} (h : ∀ t ∈ toks, PartOf s t) (hf : ∀ f, fr = some f → f ≤ x) (hx : x ≤ s.size) : ∀ t ∈ endTok s toks fr x, PartOf s t := by
  cases fr with
  | none => exact h
  | some f =>
    intro t ht
    simp only [endTok, List.mem_append, List.mem_singleton] at ht
    rcases ht with ht | rfl
    · exact h t ht
    · exact ⟨f, x, hf f rfl, hx, rfl, rfl, rfl⟩
theorem runSt_part (s : ByteArray) (p b : Int → Bool) (pre : List Nat) (hpre : pre <+: ats s) : ∀ t ∈ (runSt s p b pre).1, PartOf s t := by
  induction pre using snoc_ind with
  | h0 => simp [runSt]
  | h1 pre x ih =>
    have h1 := ih ((List.prefix_append pre [x]).trans hpre)
    have hx : x < s.size := ats_lt (hpre.subset (by simp))
    rw [runSt_snoc]
    unfold stepRun
    split
    · exact endTok_part h1 (fun f hf => Nat.le_of_lt (ats_before hpre f (runSt_mem s p b pre f hf))) (by omega)
    · split
      · exact h1
      · exact h1
theorem runsL_part (s : ByteArray) (p b : Int → Bool) : ∀ t ∈ runsL s p b, PartOf s t :=
  endTok_part (runSt_part s p b _ (List.prefix_refl _)) (fun f hf => Nat.le_of_lt (ats_lt (runSt_mem s p b _ f hf))) (Nat.le_refl _)
theorem runsL_len (s : ByteArray) (p b : Int → Bool) : (runsL s p b).length ≤ s.size + 1 := by
  have h1 := endTok_len s (runSt s p b (ats s)).1 (runSt s p b (ats s)).2 s.size
  have h2 := runSt_len s p b (ats s)
  have h3 := ats_len s
  unfold runsL
  omega
end Go.Proofs.YtajgoffeahfmfaaDoor

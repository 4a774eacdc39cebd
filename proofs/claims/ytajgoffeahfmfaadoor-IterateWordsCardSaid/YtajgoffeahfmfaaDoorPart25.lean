/- The texts RDec of IterateWords, joined by program (tools/merge.py): walks of the functions that the law reaches, and plain facts; no condition. -/
import Derived.Test.YtajgoffeahfmfaaDoorPart07
import Derived.Lib.RuneBytes
import Derived.Lib.UnsafeStr
set_option linter.unusedVariables false
set_option linter.unusedSimpArgs false

/- The plain law of lecternref05.Next: what is taken out of the bytes, and held against its own form, is what the model's decoder says. No program stands here. -/
namespace Go.Proofs.YtajgoffeahfmfaaDoor
open Rep (rep)
open Go.RowKit

/-- What has been taken out of the bytes behind the first one. -/
def racc (s : ByteArray) (at_ : Nat) (r0 : Int) : Nat → Int
  | 0 => r0
  | k + 1 => racc s at_ r0 k * 64 + (s.get! (at_ + (k + 1))).toNat % 64
theorem racc_le (s : ByteArray) (a : Nat) (r0 : Int) (h0 : 0 ≤ r0) (h1 : r0 ≤ 31) (k : Nat) (hk : k ≤ 3) : 0 ≤ racc s a r0 k ∧ racc s a r0 k ≤ 8388607 := by
  have : ∀ k, 0 ≤ racc s a r0 k ∧ racc s a r0 k < (r0 + 1) * 64 ^ k := by
    intro k
    induction k with
    | zero => simp [racc]; omega
    | succ k ih =>
      simp only [racc]
      rw [Int.pow_succ, ← Int.mul_assoc]
      generalize (r0 + 1) * 64 ^ k = P at ih ⊢
      omega
  have h2 := this k
  have : k = 0 ∨ k = 1 ∨ k = 2 ∨ k = 3 := by omega
  rcases this with rfl | rfl | rfl | rfl <;> simp at h2 <;> omega
theorem get_eq (s : ByteArray) (i : Nat) (h : i < s.size) : s[i]'h = s.get! i := by
  have : s.get! i = s.data[i]! := rfl
  rw [this, getElem!_pos s.data i h]
  rfl
theorem extract_list (s : ByteArray) (i n : Nat) (h : i + n ≤ s.size) : (s.extract i (i + n)).data.toList = (List.range n).map fun k => s.get! (i + k) := by
  apply List.ext_getElem
  · have := Lib.size_eq s
    rw [Lib.extract_data]
    simp
    omega
  · intro k h1 h2
    have hk : k < n := by simpa using h2
    simp only [Lib.extract_data, List.getElem_take, List.getElem_drop, List.getElem_map, List.getElem_range]
    rw [← get_eq s (i + k) (by omega)]
    rfl
theorem bytes_eq (zs : List Int) (hz : ∀ x ∈ zs, 0 ≤ x ∧ x < 256) (l : List UInt8) : (zs.map fun x => x.toNat.toUInt8) = l ↔ zs = l.map fun b => (b.toNat : Int) := by
  constructor
  · rintro rfl
    rw [List.map_map]
    conv => lhs; rw [← List.map_id zs]
    refine List.map_congr_left fun x hx => ?_
    have := hz x hx
    simp
    omega
  · rintro rfl
    rw [List.map_map]
    conv => rhs; rw [← List.map_id l]
    refine List.map_congr_left fun x _ => ?_
    simp
def FitsAt (s : ByteArray) (i n : Nat) (r : Int) : Prop := Lib.encodeRune r = (s.extract i (i + n)).data.toList
theorem fits_iff (s : ByteArray) (i n : Nat) (r : Int) (h : i + n ≤ s.size) : FitsAt s i n r ↔ Lib.encodeRuneZ r = (List.range n).map fun k => ((s.get! (i + k)).toNat : Int) := by
  unfold FitsAt Lib.encodeRune
  rw [bytes_eq _ (Lib.encodeRuneZ_byte r), extract_list s i n h, List.map_map]
  rfl

theorem dec_none (s : ByteArray) (i : Nat) (h : (128 ≤ (s.get! i).toNat ∧ (s.get! i).toNat < 192) ∨ 248 ≤ (s.get! i).toNat) : rn s i = 65533 ∧ wd s i = 1 := by
  unfold rn wd Utf8.decode
  simp only [Nat.add_zero]
  constructor
  all_goals
    repeat' split
    all_goals simp_all [Utf8.runeError]
    all_goals omega
theorem dec_short (s : ByteArray) (i n : Nat) (hn : (n = 2 ∧ 192 ≤ (s.get! i).toNat ∧ (s.get! i).toNat < 224) ∨ (n = 3 ∧ 224 ≤ (s.get! i).toNat ∧ (s.get! i).toNat < 240) ∨ (n = 4 ∧ 240 ≤ (s.get! i).toNat ∧ (s.get! i).toNat < 248)) (h : s.size < i + n) : rn s i = 65533 ∧ wd s i = 1 := by
  unfold rn wd Utf8.decode
  simp only [Nat.add_zero]
  constructor
  all_goals
    repeat' split
    all_goals simp_all [Utf8.runeError]
    all_goals omega
theorem enc_cases (r : Int) (hv : Utf8.valid r = true) : (r ≤ 127 ∧ Lib.encodeRuneZ r = [r]) ∨ (128 ≤ r ∧ r ≤ 2047 ∧ Lib.encodeRuneZ r = [192 + r / 64, 128 + r % 64]) ∨ (2048 ≤ r ∧ r ≤ 65535 ∧ Lib.encodeRuneZ r = [224 + r / 4096, 128 + r / 64 % 64, 128 + r % 64]) ∨ (65536 ≤ r ∧ Lib.encodeRuneZ r = [240 + r / 262144, 128 + r / 4096 % 64, 128 + r / 64 % 64, 128 + r % 64]) := by
  have hv' : (0 ≤ r ∧ r < 0xD800) ∨ (0xE000 ≤ r ∧ r ≤ 0x10FFFF) := by simpa [Utf8.valid] using hv
  by_cases a : r ≤ 127
  · exact .inl ⟨a, Lib.encodeRuneZ_one (by omega) a⟩
  by_cases b : r ≤ 2047
  · exact .inr (.inl ⟨by omega, b, Lib.encodeRuneZ_two (by omega) b⟩)
  by_cases c : r ≤ 65535
  · exact .inr (.inr (.inl ⟨by omega, c, Lib.encodeRuneZ_three (by omega)⟩))
  · exact .inr (.inr (.inr ⟨by omega, Lib.encodeRuneZ_four (by omega) (by omega)⟩))

theorem dN_two (m b0 b1 b2 b3 : Nat) (h : 2 ≤ m) (hb : 192 ≤ b0 ∧ b0 < 224) : Lib.decodeN m b0 b1 b2 b3 = if (b1 / 64 = 2) ∧ b0 % 32 * 64 + b1 % 64 ≥ 128 then (b0 % 32 * 64 + b1 % 64, 2) else (65533, 1) := by
  unfold Lib.decodeN
  rw [if_neg (by omega)]
  by_cases hc : b1 / 64 = 2
  · rw [if_pos (by omega)]
    by_cases hq : b0 % 32 * 64 + b1 % 64 ≥ 128
    · rw [if_pos (by omega), if_pos (by omega)]
    · rw [if_neg (by omega), if_neg (by omega)]
  · rw [if_neg (by omega)]
    rw [if_neg (by omega)]
    rw [if_neg (by omega)]
    rw [if_neg (by omega)]
theorem dec_two (s : ByteArray) (i : Nat) (h : i + 2 ≤ s.size) (hb : 192 ≤ (s.get! i).toNat ∧ (s.get! i).toNat < 224) (r : Int) (hr : r = racc s i ((s.get! i).toNat - 192) 1) :
    (Utf8.valid r = true → FitsAt s i 2 r → (rn s i : Int) = r ∧ wd s i = 2) ∧ (Utf8.valid r = false ∨ ¬ FitsAt s i 2 r → rn s i = 65533 ∧ wd s i = 1) := by
  simp only [racc, Nat.zero_add, Nat.reduceAdd] at hr
  have h1 := (s.get! (i + 1)).toNat_lt
  have hd : (rn s i, wd s i) = _ := Lib.decode_at s i
  rw [dN_two _ _ _ _ _ (by omega) hb] at hd
  have hf := fits_iff s i 2 r h
  simp only [List.range_succ, List.range_zero, List.nil_append, List.cons_append, List.map_cons, List.map_nil, Nat.add_zero] at hf
  obtain ⟨b0, e0⟩ : ∃ b, (s.get! i).toNat = b := ⟨_, rfl⟩
  obtain ⟨b1, e1⟩ : ∃ b, (s.get! (i + 1)).toNat = b := ⟨_, rfl⟩
  rw [e0] at hb hr hf hd
  rw [e1] at h1 hr hf hd
  clear e0 e1
  have hfi : Utf8.valid r = true → (FitsAt s i 2 r ↔ (b1 / 64 = 2) ∧ b0 % 32 * 64 + b1 % 64 ≥ 128) := by
    intro hv
    rw [hf]
    have hv' : (0 ≤ r ∧ r < 0xD800) ∨ (0xE000 ≤ r ∧ r ≤ 0x10FFFF) := by simpa [Utf8.valid] using hv
    rcases enc_cases r hv with ⟨a, e⟩ | ⟨a, b, e⟩ | ⟨a, b, e⟩ | ⟨a, e⟩ <;> rw [e] <;> simp <;> omega
  constructor
  · intro hv hc
    rw [if_pos ((hfi hv).1 hc)] at hd
    simp only [Prod.mk.injEq] at hd
    omega
  · intro hc
    by_cases hv : Utf8.valid r = true
    · have hn : ¬ ((b1 / 64 = 2) ∧ b0 % 32 * 64 + b1 % 64 ≥ 128) := fun h => by
        rcases hc with hc | hc
        · rw [hv] at hc; cases hc
        · exact hc ((hfi hv).2 h)
      rw [if_neg hn] at hd
      simpa using hd
    · have hv' : ¬ ((0 ≤ r ∧ r < 0xD800) ∨ (0xE000 ≤ r ∧ r ≤ 0x10FFFF)) := by simpa [Utf8.valid] using hv
      rw [if_neg (by omega)] at hd
      simpa using hd
theorem dN_three (m b0 b1 b2 b3 : Nat) (h : 3 ≤ m) (hb : 224 ≤ b0 ∧ b0 < 240) : Lib.decodeN m b0 b1 b2 b3 = if (b1 / 64 = 2 ∧ b2 / 64 = 2) ∧ (b0 % 16 * 4096 + b1 % 64 * 64 + b2 % 64 ≥ 2048 ∧ (b0 % 16 * 4096 + b1 % 64 * 64 + b2 % 64 < 55296 ∨ (57344 ≤ b0 % 16 * 4096 + b1 % 64 * 64 + b2 % 64 ∧ b0 % 16 * 4096 + b1 % 64 * 64 + b2 % 64 ≤ 1114111))) then (b0 % 16 * 4096 + b1 % 64 * 64 + b2 % 64, 3) else (65533, 1) := by
  unfold Lib.decodeN
  rw [if_neg (by omega)]
  rw [if_neg (by omega)]
  by_cases hc : b1 / 64 = 2 ∧ b2 / 64 = 2
  · rw [if_pos (by omega)]
    by_cases hq : (b0 % 16 * 4096 + b1 % 64 * 64 + b2 % 64 ≥ 2048 ∧ (b0 % 16 * 4096 + b1 % 64 * 64 + b2 % 64 < 55296 ∨ (57344 ≤ b0 % 16 * 4096 + b1 % 64 * 64 + b2 % 64 ∧ b0 % 16 * 4096 + b1 % 64 * 64 + b2 % 64 ≤ 1114111)))
    · rw [if_pos (by omega), if_pos (by omega)]
    · rw [if_neg (by omega), if_neg (by omega)]
  · rw [if_neg (by omega)]
    rw [if_neg (by omega)]
    rw [if_neg (by omega)]
theorem dec_three (s : ByteArray) (i : Nat) (h : i + 3 ≤ s.size) (hb : 224 ≤ (s.get! i).toNat ∧ (s.get! i).toNat < 240) (r : Int) (hr : r = racc s i ((s.get! i).toNat - 224) 2) :
    (Utf8.valid r = true → FitsAt s i 3 r → (rn s i : Int) = r ∧ wd s i = 3) ∧ (Utf8.valid r = false ∨ ¬ FitsAt s i 3 r → rn s i = 65533 ∧ wd s i = 1) := by
  simp only [racc, Nat.zero_add, Nat.reduceAdd] at hr
  have h1 := (s.get! (i + 1)).toNat_lt
  have h2 := (s.get! (i + 2)).toNat_lt
  have hd : (rn s i, wd s i) = _ := Lib.decode_at s i
  rw [dN_three _ _ _ _ _ (by omega) hb] at hd
  have hf := fits_iff s i 3 r h
  simp only [List.range_succ, List.range_zero, List.nil_append, List.cons_append, List.map_cons, List.map_nil, Nat.add_zero] at hf
  obtain ⟨b0, e0⟩ : ∃ b, (s.get! i).toNat = b := ⟨_, rfl⟩
  obtain ⟨b1, e1⟩ : ∃ b, (s.get! (i + 1)).toNat = b := ⟨_, rfl⟩
  obtain ⟨b2, e2⟩ : ∃ b, (s.get! (i + 2)).toNat = b := ⟨_, rfl⟩
  rw [e0] at hb hr hf hd
  rw [e1] at h1 hr hf hd
  rw [e2] at h2 hr hf hd
  clear e0 e1 e2
  have hfi : Utf8.valid r = true → (FitsAt s i 3 r ↔ (b1 / 64 = 2 ∧ b2 / 64 = 2) ∧ (b0 % 16 * 4096 + b1 % 64 * 64 + b2 % 64 ≥ 2048 ∧ (b0 % 16 * 4096 + b1 % 64 * 64 + b2 % 64 < 55296 ∨ (57344 ≤ b0 % 16 * 4096 + b1 % 64 * 64 + b2 % 64 ∧ b0 % 16 * 4096 + b1 % 64 * 64 + b2 % 64 ≤ 1114111)))) := by
    intro hv
    rw [hf]
    have hv' : (0 ≤ r ∧ r < 0xD800) ∨ (0xE000 ≤ r ∧ r ≤ 0x10FFFF) := by simpa [Utf8.valid] using hv
    rcases enc_cases r hv with ⟨a, e⟩ | ⟨a, b, e⟩ | ⟨a, b, e⟩ | ⟨a, e⟩ <;> rw [e] <;> simp <;> omega
  constructor
  · intro hv hc
    rw [if_pos ((hfi hv).1 hc)] at hd
    simp only [Prod.mk.injEq] at hd
    omega
  · intro hc
    by_cases hv : Utf8.valid r = true
    · have hn : ¬ ((b1 / 64 = 2 ∧ b2 / 64 = 2) ∧ (b0 % 16 * 4096 + b1 % 64 * 64 + b2 % 64 ≥ 2048 ∧ (b0 % 16 * 4096 + b1 % 64 * 64 + b2 % 64 < 55296 ∨ (57344 ≤ b0 % 16 * 4096 + b1 % 64 * 64 + b2 % 64 ∧ b0 % 16 * 4096 + b1 % 64 * 64 + b2 % 64 ≤ 1114111)))) := fun h => by
        rcases hc with hc | hc
        · rw [hv] at hc; cases hc
        · exact hc ((hfi hv).2 h)
      rw [if_neg hn] at hd
      simpa using hd
    · have hv' : ¬ ((0 ≤ r ∧ r < 0xD800) ∨ (0xE000 ≤ r ∧ r ≤ 0x10FFFF)) := by simpa [Utf8.valid] using hv
      rw [if_neg (by omega)] at hd
      simpa using hd
theorem dN_four (m b0 b1 b2 b3 : Nat) (h : 4 ≤ m) (hb : 240 ≤ b0 ∧ b0 < 248) : Lib.decodeN m b0 b1 b2 b3 = if (b1 / 64 = 2 ∧ b2 / 64 = 2 ∧ b3 / 64 = 2) ∧ (b0 % 8 * 262144 + b1 % 64 * 4096 + b2 % 64 * 64 + b3 % 64 ≥ 65536 ∧ (b0 % 8 * 262144 + b1 % 64 * 4096 + b2 % 64 * 64 + b3 % 64 < 55296 ∨ (57344 ≤ b0 % 8 * 262144 + b1 % 64 * 4096 + b2 % 64 * 64 + b3 % 64 ∧ b0 % 8 * 262144 + b1 % 64 * 4096 + b2 % 64 * 64 + b3 % 64 ≤ 1114111))) then (b0 % 8 * 262144 + b1 % 64 * 4096 + b2 % 64 * 64 + b3 % 64, 4) else (65533, 1) := by
  unfold Lib.decodeN
  rw [if_neg (by omega)]
  rw [if_neg (by omega)]
  rw [if_neg (by omega)]
  by_cases hc : b1 / 64 = 2 ∧ b2 / 64 = 2 ∧ b3 / 64 = 2
  · rw [if_pos (by omega)]
    by_cases hq : (b0 % 8 * 262144 + b1 % 64 * 4096 + b2 % 64 * 64 + b3 % 64 ≥ 65536 ∧ (b0 % 8 * 262144 + b1 % 64 * 4096 + b2 % 64 * 64 + b3 % 64 < 55296 ∨ (57344 ≤ b0 % 8 * 262144 + b1 % 64 * 4096 + b2 % 64 * 64 + b3 % 64 ∧ b0 % 8 * 262144 + b1 % 64 * 4096 + b2 % 64 * 64 + b3 % 64 ≤ 1114111)))
    · rw [if_pos (by omega), if_pos (by omega)]
    · rw [if_neg (by omega), if_neg (by omega)]
  · rw [if_neg (by omega)]
    rw [if_neg (by omega)]
theorem dec_four (s : ByteArray) (i : Nat) (h : i + 4 ≤ s.size) (hb : 240 ≤ (s.get! i).toNat ∧ (s.get! i).toNat < 248) (r : Int) (hr : r = racc s i ((s.get! i).toNat - 240) 3) :
    (Utf8.valid r = true → FitsAt s i 4 r → (rn s i : Int) = r ∧ wd s i = 4) ∧ (Utf8.valid r = false ∨ ¬ FitsAt s i 4 r → rn s i = 65533 ∧ wd s i = 1) := by
  simp only [racc, Nat.zero_add, Nat.reduceAdd] at hr
  have h1 := (s.get! (i + 1)).toNat_lt
  have h2 := (s.get! (i + 2)).toNat_lt
  have h3 := (s.get! (i + 3)).toNat_lt
  have hd : (rn s i, wd s i) = _ := Lib.decode_at s i
  rw [dN_four _ _ _ _ _ (by omega) hb] at hd
  have hf := fits_iff s i 4 r h
  simp only [List.range_succ, List.range_zero, List.nil_append, List.cons_append, List.map_cons, List.map_nil, Nat.add_zero] at hf
  obtain ⟨b0, e0⟩ : ∃ b, (s.get! i).toNat = b := ⟨_, rfl⟩
  obtain ⟨b1, e1⟩ : ∃ b, (s.get! (i + 1)).toNat = b := ⟨_, rfl⟩
  obtain ⟨b2, e2⟩ : ∃ b, (s.get! (i + 2)).toNat = b := ⟨_, rfl⟩
  obtain ⟨b3, e3⟩ : ∃ b, (s.get! (i + 3)).toNat = b := ⟨_, rfl⟩
  rw [e0] at hb hr hf hd
  rw [e1] at h1 hr hf hd
  rw [e2] at h2 hr hf hd
  rw [e3] at h3 hr hf hd
  clear e0 e1 e2 e3
  have hfi : Utf8.valid r = true → (FitsAt s i 4 r ↔ (b1 / 64 = 2 ∧ b2 / 64 = 2 ∧ b3 / 64 = 2) ∧ (b0 % 8 * 262144 + b1 % 64 * 4096 + b2 % 64 * 64 + b3 % 64 ≥ 65536 ∧ (b0 % 8 * 262144 + b1 % 64 * 4096 + b2 % 64 * 64 + b3 % 64 < 55296 ∨ (57344 ≤ b0 % 8 * 262144 + b1 % 64 * 4096 + b2 % 64 * 64 + b3 % 64 ∧ b0 % 8 * 262144 + b1 % 64 * 4096 + b2 % 64 * 64 + b3 % 64 ≤ 1114111)))) := by
    intro hv
    rw [hf]
    have hv' : (0 ≤ r ∧ r < 0xD800) ∨ (0xE000 ≤ r ∧ r ≤ 0x10FFFF) := by simpa [Utf8.valid] using hv
    rcases enc_cases r hv with ⟨a, e⟩ | ⟨a, b, e⟩ | ⟨a, b, e⟩ | ⟨a, e⟩ <;> rw [e] <;> simp <;> omega
  constructor
  · intro hv hc
    rw [if_pos ((hfi hv).1 hc)] at hd
    simp only [Prod.mk.injEq] at hd
    omega
  · intro hc
    by_cases hv : Utf8.valid r = true
    · have hn : ¬ ((b1 / 64 = 2 ∧ b2 / 64 = 2 ∧ b3 / 64 = 2) ∧ (b0 % 8 * 262144 + b1 % 64 * 4096 + b2 % 64 * 64 + b3 % 64 ≥ 65536 ∧ (b0 % 8 * 262144 + b1 % 64 * 4096 + b2 % 64 * 64 + b3 % 64 < 55296 ∨ (57344 ≤ b0 % 8 * 262144 + b1 % 64 * 4096 + b2 % 64 * 64 + b3 % 64 ∧ b0 % 8 * 262144 + b1 % 64 * 4096 + b2 % 64 * 64 + b3 % 64 ≤ 1114111)))) := fun h => by
        rcases hc with hc | hc
        · rw [hv] at hc; cases hc
        · exact hc ((hfi hv).2 h)
      rw [if_neg hn] at hd
      simpa using hd
    · have hv' : ¬ ((0 ≤ r ∧ r < 0xD800) ∨ (0xE000 ≤ r ∧ r ≤ 0x10FFFF)) := by simpa [Utf8.valid] using hv
      rw [if_neg (by omega)] at hd
      simpa using hd
end Go.Proofs.YtajgoffeahfmfaaDoor

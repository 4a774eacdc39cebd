/- The texts Rune, Dec, Runes of IterateWords, joined by program (tools/merge.py): walks of the functions that the law reaches, and plain facts; no condition. -/
import Derived.Test.YtajgoffeahfmfaaDoorPart02
import Derived.Lib.Hide
import Derived.Shelf.Unicode.DecodeSlow
import Derived.Lib.TrimUEq
import Derived.Shelf.Abstract
import Derived.Shelf.RegionOpen
import Derived.WalkKit
import Derived.OwnWalkIn
import Derived.TacticsInMore
import Derived.LoopNIn
import Derived.LoopIn
import Derived.Maps.OwnIn
import Derived.Maps.AppendAt
import Derived.Test.YtajgoffeahfmfaaDoorPart06
import Derived.Test.YtajgoffeahfmfaaDoorPart05
import Derived.Test.YtajgoffeahfmfaaDoorShelf
set_option linter.unusedVariables false
set_option linter.unusedSimpArgs false

/- Plain words on runes: ranges of runes, letters, digits, marks, blanks, lower forms; the runes of a text. No program stands here. -/
namespace Go.Proofs.YtajgoffeahfmfaaDoor
open Rep (rep)
open Go.RowKit

def within (r a b : Int) : Bool := decide (a ≤ r) && decide (r ≤ b)
theorem within_true {r a b : Int} : (within r a b = true) = (a ≤ r ∧ r ≤ b) := by simp [within]
theorem within_false {r a b : Int} : (within r a b = false) = ¬ (a ≤ r ∧ r ≤ b) := by rw [← within_true]; simp
def amongB (r : Int) : List Int → Bool
  | a :: b :: l => within r a b || amongB r l
  | _ => false
def letterL : List Int := [0x41, 0x5A, 0x61, 0x7A, 0xAA, 0xAA, 0xB5, 0xB5, 0xBA, 0xBA, 0xC0, 0xD6, 0xD8, 0xF6, 0xF8, 0x2AF, 0x370, 0x373, 0x376, 0x377, 0x37B, 0x37D, 0x37F, 0x37F, 0x386, 0x386, 0x388, 0x38A, 0x38C, 0x38C, 0x38E, 0x3A1, 0x3A3, 0x3F5, 0x3F7, 0x481, 0x48A, 0x52F, 0x5D0, 0x5EA, 0x620, 0x64A, 0x904, 0x939, 0x3041, 0x3096, 0x30A1, 0x30FA, 0x4E00, 0x9FFF, 0xAC00, 0xD7A3]
def digitL : List Int := [0x30, 0x39, 0x660, 0x669, 0x966, 0x96F, 0xFF10, 0xFF19]
def markL : List Int := [0x300, 0x36F, 0x483, 0x489, 0x591, 0x5BD, 0x64B, 0x65F, 0x93C, 0x93C, 0x20D0, 0x20F0, 0xFE20, 0xFE2F]
def letterB (r : Int) : Bool := amongB r letterL
def digitB (r : Int) : Bool := amongB r digitL
def markB (r : Int) : Bool := amongB r markL
def blankB (r : Int) : Bool := amongB r [9, 13, 32, 32, 0x85, 0x85, 0xA0, 0xA0, 0x2000, 0x200A, 0x2028, 0x2028, 0x2029, 0x2029, 0x3000, 0x3000]
theorem letterB_iff (r : Int) : (letterB r = true) = ((0x41 ≤ r ∧ r ≤ 0x5A) ∨ (0x61 ≤ r ∧ r ≤ 0x7A) ∨ (0xAA ≤ r ∧ r ≤ 0xAA) ∨ (0xB5 ≤ r ∧ r ≤ 0xB5) ∨ (0xBA ≤ r ∧ r ≤ 0xBA) ∨ (0xC0 ≤ r ∧ r ≤ 0xD6) ∨ (0xD8 ≤ r ∧ r ≤ 0xF6) ∨ (0xF8 ≤ r ∧ r ≤ 0x2AF) ∨ (0x370 ≤ r ∧ r ≤ 0x373) ∨ (0x376 ≤ r ∧ r ≤ 0x377) ∨ (0x37B ≤ r ∧ r ≤ 0x37D) ∨ (0x37F ≤ r ∧ r ≤ 0x37F) ∨ (0x386 ≤ r ∧ r ≤ 0x386) ∨ (0x388 ≤ r ∧ r ≤ 0x38A) ∨ (0x38C ≤ r ∧ r ≤ 0x38C) ∨ (0x38E ≤ r ∧ r ≤ 0x3A1) ∨ (0x3A3 ≤ r ∧ r ≤ 0x3F5) ∨ (0x3F7 ≤ r ∧ r ≤ 0x481) ∨ (0x48A ≤ r ∧ r ≤ 0x52F) ∨ (0x5D0 ≤ r ∧ r ≤ 0x5EA) ∨ (0x620 ≤ r ∧ r ≤ 0x64A) ∨ (0x904 ≤ r ∧ r ≤ 0x939) ∨ (0x3041 ≤ r ∧ r ≤ 0x3096) ∨ (0x30A1 ≤ r ∧ r ≤ 0x30FA) ∨ (0x4E00 ≤ r ∧ r ≤ 0x9FFF) ∨ (0xAC00 ≤ r ∧ r ≤ 0xD7A3)) := by
  simp [letterB, letterL, amongB, within]
theorem digitB_iff (r : Int) : (digitB r = true) = ((0x30 ≤ r ∧ r ≤ 0x39) ∨ (0x660 ≤ r ∧ r ≤ 0x669) ∨ (0x966 ≤ r ∧ r ≤ 0x96F) ∨ (0xFF10 ≤ r ∧ r ≤ 0xFF19)) := by
  simp [digitB, digitL, amongB, within]
theorem markB_iff (r : Int) : (markB r = true) = ((0x300 ≤ r ∧ r ≤ 0x36F) ∨ (0x483 ≤ r ∧ r ≤ 0x489) ∨ (0x591 ≤ r ∧ r ≤ 0x5BD) ∨ (0x64B ≤ r ∧ r ≤ 0x65F) ∨ (0x93C ≤ r ∧ r ≤ 0x93C) ∨ (0x20D0 ≤ r ∧ r ≤ 0x20F0) ∨ (0xFE20 ≤ r ∧ r ≤ 0xFE2F)) := by
  simp [markB, markL, amongB, within]
theorem blankB_iff (r : Int) : (blankB r = true) = ((9 ≤ r ∧ r ≤ 13) ∨ (32 ≤ r ∧ r ≤ 32) ∨ (0x85 ≤ r ∧ r ≤ 0x85) ∨ (0xA0 ≤ r ∧ r ≤ 0xA0) ∨ (0x2000 ≤ r ∧ r ≤ 0x200A) ∨ (0x2028 ≤ r ∧ r ≤ 0x2028) ∨ (0x2029 ≤ r ∧ r ≤ 0x2029) ∨ (0x3000 ≤ r ∧ r ≤ 0x3000)) := by
  simp [blankB, amongB, within]

/-- The lower form of a rune. -/
def lowerR (r : Int) : Int :=
  if amongB r [0x41, 0x5A, 0xC0, 0xD6, 0xD8, 0xDE, 0x391, 0x3A1, 0x3A3, 0x3AB, 0x410, 0x42F] then r + 0x20
  else if amongB r [0x100, 0x12F, 0x132, 0x137, 0x14A, 0x177, 0x460, 0x481, 0x48A, 0x4BF, 0x4D0, 0x52F] then r - r % 2 + 1
  else if amongB r [0x139, 0x148, 0x179, 0x17E, 0x4C1, 0x4CE] then r + r % 2
  else if amongB r [0x388, 0x38A] then r + 0x25
  else if amongB r [0x38E, 0x38F] then r + 0x3F
  else if amongB r [0x400, 0x40F] then r + 0x50
  else if r = 0x178 then 0xFF
  else if r = 0x4C0 then 0x4CF
  else if r = 0x386 then 0x3AC
  else if r = 0x38C then 0x3CC
  else r
theorem among_iff1 (r a b : Int) : (amongB r [a, b] = true) = (a ≤ r ∧ r ≤ b) := by simp [amongB, within]
theorem among_iff3 (r a b c d e f : Int) : (amongB r [a, b, c, d, e, f] = true) = ((a ≤ r ∧ r ≤ b) ∨ (c ≤ r ∧ r ≤ d) ∨ (e ≤ r ∧ r ≤ f)) := by simp [amongB, within]
theorem among_iff6 (r a b c d e f g h i j k l : Int) : (amongB r [a, b, c, d, e, f, g, h, i, j, k, l] = true) = ((a ≤ r ∧ r ≤ b) ∨ (c ≤ r ∧ r ≤ d) ∨ (e ≤ r ∧ r ≤ f) ∨ (g ≤ r ∧ r ≤ h) ∨ (i ≤ r ∧ r ≤ j) ∨ (k ≤ r ∧ r ≤ l)) := by simp [amongB, within]
theorem lowerR_range (r : Int) (h0 : 0 ≤ r) (h1 : r ≤ 0x10FFFF) : 0 ≤ lowerR r ∧ lowerR r ≤ 0x10FFFF := by
  unfold lowerR
  simp only [among_iff1, among_iff3, among_iff6]
  split
  · omega
  split
  · omega
  split
  · omega
  split
  · omega
  split
  · omega
  split
  · omega
  repeat (split; · omega)
  omega

end Go.Proofs.YtajgoffeahfmfaaDoor

/- The runes of a text, by the model's own decoder: how wide they are, where they begin. No program stands here. -/
namespace Go.Proofs.YtajgoffeahfmfaaDoor
open Rep (rep)
open Go.RowKit

def rn (s : ByteArray) (i : Nat) : Nat := (Utf8.decode s i).1
def wd (s : ByteArray) (i : Nat) : Nat := (Utf8.decode s i).2
theorem decodeGo_tail (s : ByteArray) (pos : Nat) (h : pos < s.size) : Lib.decodeGo (s.extract pos s.size) = Utf8.decode s pos := by
  have hx : (s.extract pos s.size).data.toList = s.data.toList.drop pos := by
    rw [Lib.extract_data, List.take_of_length_le (by rw [List.length_drop, ← Lib.size_eq]; omega)]
  have hsz : (s.extract pos s.size).size ≠ 0 := by rw [Lib.size_eq, hx, List.length_drop, ← Lib.size_eq]; omega
  unfold Lib.decodeGo
  rw [if_neg hsz, ← Lib.decodeL_drop s pos, ← hx]
  rfl
theorem wd_pos {s : ByteArray} {i : Nat} (h : i < s.size) : 1 ≤ wd s i := by
  unfold wd
  by_cases ha : (s[i]'h).toNat < 128
  · rw [decode_ascii s i h ha]; exact Nat.le_refl _
  · exact (decode_high s i h (by omega)).2
theorem wd_fit {s : ByteArray} {i : Nat} (h : i < s.size) : i + wd s i ≤ s.size := by
  unfold wd Utf8.decode
  simp only []
  repeat' split
  all_goals simp_all
  all_goals omega
theorem wd_le (s : ByteArray) (i : Nat) : wd s i ≤ 4 := by
  unfold wd Utf8.decode
  simp only []
  repeat' split
  all_goals simp
theorem rn_le (s : ByteArray) (i : Nat) : rn s i ≤ 0x10FFFF := by
  have hb : ∀ k, (s.get! (i + k)).toNat < 256 := fun k => (s.get! (i + k)).toNat_lt
  have h0 := hb 0; have h1 := hb 1; have h2 := hb 2; have h3 := hb 3
  unfold rn Utf8.decode
  simp only []
  repeat' split
  all_goals simp_all [Utf8.runeError, Utf8.valid]
  all_goals omega

def atsF (s : ByteArray) : Nat → Nat → List Nat
  | 0, _ => []
  | f + 1, i => if i < s.size then i :: atsF s f (i + wd s i) else []
theorem atsF_fuel (s : ByteArray) : ∀ f g i, s.size ≤ i + f → s.size ≤ i + g → atsF s f i = atsF s g i
  | 0, 0, _, _, _ => rfl
  | 0, g + 1, i, h, _ => by rw [atsF, atsF, if_neg (by omega)]
  | f + 1, 0, i, _, h => by rw [atsF, atsF, if_neg (by omega)]
  | f + 1, g + 1, i, h, h' => by
    rw [atsF, atsF]
    by_cases hi : i < s.size
    · have := wd_pos hi
      rw [if_pos hi, if_pos hi, atsF_fuel s f g (i + wd s i) (by omega) (by omega)]
    · rw [if_neg hi, if_neg hi]
/-- Where the runes from place i on begin. -/
def atsFrom (s : ByteArray) (i : Nat) : List Nat := atsF s (s.size - i) i
def ats (s : ByteArray) : List Nat := atsFrom s 0
theorem atsFrom_cons {s : ByteArray} {i : Nat} (h : i < s.size) : atsFrom s i = i :: atsFrom s (i + wd s i) := by
  unfold atsFrom
  rw [show s.size - i = (s.size - i - 1) + 1 by omega, atsF, if_pos h]
  have := wd_pos h
  rw [atsF_fuel s _ (s.size - (i + wd s i)) (i + wd s i) (by omega) (by omega)]
theorem atsFrom_nil {s : ByteArray} {i : Nat} (h : s.size ≤ i) : atsFrom s i = [] := by
  unfold atsFrom
  rw [show s.size - i = 0 by omega]; rfl
/-- The places of a text: where its runes begin, and its length. -/
def places (s : ByteArray) : List Nat := ats s ++ [s.size]
theorem atsF_ge (s : ByteArray) : ∀ f i, ∀ x ∈ atsF s f i, i ≤ x ∧ x < s.size
  | 0, _, _, h => by simp [atsF] at h
  | f + 1, i, x, h => by
    rw [atsF] at h
    by_cases hi : i < s.size
    · rw [if_pos hi] at h
      rcases List.mem_cons.1 h with rfl | h
      · omega
      · have := atsF_ge s f _ x h
        omega
    · rw [if_neg hi] at h; simp at h
theorem atsF_len (s : ByteArray) : ∀ f i, (atsF s f i).length ≤ s.size - i
  | 0, _ => by simp [atsF]
  | f + 1, i => by
    rw [atsF]
    by_cases hi : i < s.size
    · rw [if_pos hi, List.length_cons]
      have := atsF_len s f (i + wd s i)
      have := wd_pos hi
      omega
    · rw [if_neg hi]; simp
theorem ats_len (s : ByteArray) : (ats s).length ≤ s.size := by have := atsF_len s (s.size - 0) 0; simpa [ats, atsFrom] using this
/-- What may come next in a row that begins as the places do. -/
theorem ats_next {s : ByteArray} {pre : List Nat} {x : Nat} (h : pre ++ [x] <+: ats s) : ∀ i, ats s = pre ++ atsFrom s i → i = x ∧ x < s.size := by
  intro i hi
  obtain ⟨t, ht⟩ := h
  rw [hi, List.append_assoc, List.append_cancel_left_eq] at ht
  by_cases hlt : i < s.size
  · rw [atsFrom_cons hlt] at ht
    simp at ht
    omega
  · rw [atsFrom_nil (by omega)] at ht
    simp at ht
end Go.Proofs.YtajgoffeahfmfaaDoor

/- The walks of fold.Next, fold.Runes and of the iterator that it hands back. -/
namespace Go.Proofs.YtajgoffeahfmfaaDoor
open Rep (rep)
open Go.RowKit Go.Shelf

attribute [local go_sem] Oper.semAt_some

/-- The two tables of unicode/utf8, as their initialisers lay them. -/
def Tabs (w : World) : Prop := Lib.Utf8Tabs 0 1 w
theorem Tabs.on {w w' : World} (h : Tabs w) (hb : Below w.heap.size w w') : Tabs w' := Utf8Tabs_below h hb

set_option maxHeartbeats 400000 in
theorem next_any (s : ByteArray) (i : Nat) (hi : i < s.size) (hs : s.size ≤ 9223372036854775807) (w : World) (hT : Tabs w) :
    Calls Tryd.prog 67 #[.string s, .int .i64 i] w fun e w' => e = .returned (.tuple #[.int .i32 (rn s i), .int .i64 (wd s i)]) ∧ Below w.heap.size w w' := by
  have hd := decodeGo_tail s i hi
  have h1 : (i : Int) < (s.size : Int) := by omega
  have h2 : ¬ (s.size : Int) ≤ (i : Int) := by omega
  have Hd := Lib.hid hd
  clear hd
  go_enter Tryd.func67, Tryd.ntmps67
  go_wp2_with (go_at_call 81; refine (Tryd.utf8_DecodeRuneInString _ _ hT).mono ?_; rw [Hd.out]; rintro e w' ⟨rfl, hb⟩)
  go_ret2
  exact ⟨rfl, hb⟩

theorem runes_any (s : ByteArray) (w : World) :
    Calls Tryd.prog 57 #[.string s] w fun e w' => e = .returned (.func (.func 71) #[] #[.pointer (some ⟨w.heap.size, 0, none⟩)]) ∧ w' = w.alloc (.cells #[.string s] 9) := by
  have hmf : ∀ (fn : Fn) (first cap : Array Value) (w : World), (Instr.makeFunc fn first cap).run Tryd.prog w = .ok (.func fn first cap) w := fun _ _ _ _ => rfl
  go_enter Tryd.func57, Tryd.ntmps57
  go_wp2
  go_ret
  exact ⟨rfl, rfl⟩

/-- What a round of a range over the runes keeps. -/
def KeepsS (n0 Bs : Nat) (W W' : World) : Prop := Below n0 W W' ∧ ∀ v, Boxed W Bs 9 v → Boxed W' Bs 9 v
theorem KeepsS.trans {n0 Bs : Nat} {A B C : World} (h : KeepsS n0 Bs A B) (k : KeepsS n0 Bs B C) : KeepsS n0 Bs A C := ⟨h.1.trans k.1, fun v hv => k.2 v (h.2 v hv)⟩
theorem KeepsS.putObj {n0 Bs : Nat} {w : World} (hn : n0 ≤ w.heap.size) (W : World) (l : Nat) (o o' : Obj) (hl : w.heap.size ≤ l) (h : W.heap[l]? = some o) (hc : o.isCells = false) (hw : o.isWalk = false) : KeepsS n0 Bs W (W.putObj l o') := by
  refine ⟨?_, fun v hv => hv.kept (grownBy_putObj' W l o') (fun e => by cases e; rw [show W.heap[Bs]? = _ from hv] at h; cases h; cases hc)⟩
  exact (Below.refl _ W).grown (grownBy_putObj' W l o') (by have := (Array.getElem?_eq_some_iff.1 h).1; omega) (fun k e => by cases e; omega)
theorem Below.grownBy' {w w' : World} (h : Below w.heap.size w w') : w.grownBy w' none := ⟨h.os, h.tape, h.output, h.size, fun k hk _ => h.block k hk⟩
theorem Boxed.on {W W' : World} {B : Nat} {t : TypeId} {v : Value} (h : Boxed W B t v) (hb : Below W.heap.size W W') : Boxed W' B t v := h.kept (Below.grownBy' hb) (by simp)
theorem KeepsS.of_on {n0 Bs : Nat} {W W' : World} (hn : n0 ≤ W.heap.size) (hb : Below W.heap.size W W') : KeepsS n0 Bs W W' := ⟨hb.mono hn, fun _ hv => Boxed.on hv hb⟩

def runeEnc (s : ByteArray) (x : Nat) : Array Value := #[.int .i64 x, .int .i32 (rn s x)]

set_option maxRecDepth 100000 in
set_option maxHeartbeats 2000000 in
theorem runes1_in (n0 Bs : Nat) (s : ByteArray) (hs : s.size ≤ 9223372036854775800) (w0 : World) (hT : Tabs w0) (hn0 : w0.heap.size = n0) (d : Nat) (hd1 : 1 ≤ d)
    (l : Nat) (J Jx : List Nat → World → Prop) (W : World) (hW : Below n0 w0 W) (hJ : AbidesFrom W.heap.size J)
    (hY : ∀ pre x W1, J pre W1 → pre ++ [x] <+: ats s → YieldAt Fence.wide (d - 1) Tryd.prog l (runeEnc s x) W1 fun e W' =>
      (e = .returned (.bool true) ∧ J (pre ++ [x]) W' ∧ KeepsS n0 Bs W1 W') ∨ (e = .returned (.bool false) ∧ Jx (pre ++ [x]) W'))
    (hBs : Boxed W Bs 9 (.string s)) (h0 : J [] W) :
    CallsIn Fence.wide d Tryd.prog 71 #[.func (.yield l) #[] #[], .pointer (some ⟨Bs, 0, none⟩)] W fun e W' => (∃ v, e = .returned v) ∧
      ((∃ ys, ys = ats s ∧ J ys W') ∨ (∃ pre, pre <+: ats s ∧ Jx pre W')) := by
  have HT := Lib.hid hT
  have HY := Lib.hid hY
  have HJ := Lib.hid hJ
  have HW := Lib.hid hW
  have HBs := Lib.hid hBs
  have Hn0 := Lib.hid hn0
  clear hT hY hJ hW hBs hn0
  refine callsIn_of_wp Tryd.func71 rfl trivial ?_ rfl
  simp only [Tryd.ntmps71, List.size_toArray, List.length_cons, List.length_nil, Nat.reduceAdd, Nat.reduceSub, Array.replicate_succ, Array.replicate_zero, List.push_toArray, List.append_toArray, List.nil_append, List.cons_append]
  gi_wp2
  gi_loopw [3] (fun i wr => ∃ (pre : List Nat) (k : Nat), k ≤ s.size ∧ i = .int .i64 k ∧ ats s = pre ++ atsFrom s k ∧ J pre wr ∧ Below n0 w0 wr ∧ W.heap.size ≤ wr.heap.size ∧ Boxed wr Bs 9 (.string s)) (fun i _ => s.size - (intOf i).toNat)
  case atStart => exact ⟨[], 0, Nat.zero_le _, rfl, rfl, h0, HW.out, Nat.le_refl _, HBs.out⟩
  case round =>
    obtain ⟨pre, k, hk, rfl, hat, hJk, hbw, hsz, hBs⟩ := hrel
    have cS := hBs.cell
    have HJk := Lib.hid hJk
    have Hbw := Lib.hid hbw
    have HBs2 := Lib.hid hBs
    have Hat := Lib.hid hat
    clear hJk hbw hBs hat
    by_cases hlt : k < s.size
    · have hwf := wd_fit hlt
      have hwp := wd_pos hlt
      have hTr : Hid (Tabs wr) := HT.out.on (by rw [Hn0.out]; exact Hbw.out)
      gi_wp2_with (refine ⟨trivial, ?_⟩; gi_at_call 67; refine (callsIn_wide.2 (next_any s k hlt (by omega) _ hTr.out)).mono ?_; rintro e w2 ⟨rfl, hb2⟩; have hb3 : Hid (Below wr.heap.size wr w2) := hb2; clear hb2; have hJ2 := HJ.out _ _ _ _ HJk.out (Below.grownBy' hb3.out) (fun _ e => by cases e); have hpre : pre ++ [k] <+: ats s := (by rw [Hat.out, atsFrom_cons hlt]; exact ⟨atsFrom s (k + wd s k), by simp⟩); obtain ⟨fn, tmps, assign, body, hy, hR⟩ := HY.out _ _ w2 hJ2 hpre; simp only [runeEnc] at hy; have HR := Lib.hid hR; clear hJ2 hR hpre)
      refine HR.out.mono ?_
      rintro e W3 (⟨rfl, hJ3, hk3⟩ | ⟨rfl, hJx3⟩)
      · have Hk3 := Lib.hid hk3
        have HJ3 := Lib.hid hJ3
        clear hk3 hJ3
        gi_wp2
        go_roundw
        case rel => exact ⟨pre ++ [k], k + wd s k, by omega, by go_num, by rw [Hat.out, atsFrom_cons hlt]; simp, HJ3.out, (Hbw.out.trans (hb3.out.mono (Hn0.out ▸ Hbw.out.size))).trans Hk3.out.1, Nat.le_trans (Nat.le_trans hsz hb3.out.size) Hk3.out.1.size, Hk3.out.2 _ (Boxed.on HBs2.out hb3.out)⟩
        case measure => simp [intOf]; omega
      · gi_wp2
        refine bodyPost_ret (results_none rfl _ _ _) rfl ?_
        refine ⟨⟨_, rfl⟩, .inr ⟨_, ?_, hJx3⟩⟩
        rw [Hat.out, atsFrom_cons hlt]
        exact ⟨atsFrom s (k + wd s k), by simp⟩
    · obtain rfl : k = s.size := by omega
      have hfin : Hid (ats s = pre) := by show _ = _; rw [Hat.out, atsFrom_nil (Nat.le_refl _), List.append_nil]
      gi_wp2
      go_end0
      exact ⟨⟨_, rfl⟩, .inl ⟨_, rfl, by rw [hfin.out]; exact HJk.out⟩⟩

theorem runes_stops (n0 Bs : Nat) (s : ByteArray) (hs : s.size ≤ 9223372036854775800) (w0 : World) (hT : Tabs w0) (hn0 : w0.heap.size = n0) (d : Nat) (hd1 : 1 ≤ d) (W0 : World) (hW0 : Below n0 w0 W0) (hBs : Boxed W0 Bs 9 (.string s)) :
    SeqOk Fence.wide d Tryd.prog 71 #[.pointer (some ⟨Bs, 0, none⟩)] (runeEnc s) (KeepsS n0 Bs) (fun ys => ys = ats s) (fun pre => pre <+: ats s) (fun pre x => pre ++ [x] <+: ats s) W0 :=
  fun l J Jx W hW hJ _ hY h0 => runes1_in n0 Bs s hs w0 hT hn0 d hd1 l J Jx W (hW0.trans (hW.mono (hn0 ▸ hW0.size))) hJ hY (Boxed.on hBs hW) h0
end Go.Proofs.YtajgoffeahfmfaaDoor

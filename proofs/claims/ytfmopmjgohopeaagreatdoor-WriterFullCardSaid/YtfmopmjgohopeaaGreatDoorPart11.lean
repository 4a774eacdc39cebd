/- The texts SumE, Range, Rune, Dec, Runes, Laws, Reps, Fills, Tok, RunsPlain of WriterFull, joined by program (tools/merge.py): walks of the functions that the law reaches, and plain facts; no condition. -/
import Derived.Test.YtfmopmjgohopeaaGreatDoorPart10
import Derived.RangeFuncNested
import Derived.RangeFuncBound
import Derived.RangeFuncCalls
import Derived.RangeFuncLeaves
import Derived.Lib.Hide
import Derived.Shelf.Unicode.DecodeSlow
import Derived.Lib.TrimUEq
import Derived.Shelf.Abstract
import Derived.Shelf.RegionOpen
import Derived.WalkKit
import Derived.OwnWalkIn
import Derived.TacticsInMore
import Derived.LoopNIn
import Derived.LoopIn
import Derived.Maps.OwnIn
import Derived.Maps.AppendAt
import Derived.Test.YtfmopmjgohopeaaGreatDoorShelf
set_option linter.unusedVariables false
set_option linter.unusedSimpArgs false

/- The walks of frame.Sum and of slices.Equal at bytes, over rows that are told cell by cell. -/
namespace Go.Proofs.YtfmopmjgohopeaaGreatDoor
open Rep (rep)
open Go.RowKit

def RBy (w : World) (A : Option Addr) (n : Nat) (l : List UInt8) : Prop := l.length = n ∧ ∀ k x, l[k]? = some x → ∃ b off, A = some ⟨b, off, none⟩ ∧ b < w.heap.size ∧ w.cell? ⟨b, off + k, none⟩ = some (.int .u8 (x.toNat : Int))
theorem RBy.on {w w' : World} {A : Option Addr} {n : Nat} {l : List UInt8} (h : RBy w A n l) (hb : Below w.heap.size w w') : RBy w' A n l := by
  refine ⟨h.1, fun k x hk => ?_⟩
  obtain ⟨b, off, h1, h2, h3⟩ := h.2 k x hk
  exact ⟨b, off, h1, Nat.lt_of_lt_of_le h2 hb.size, (hb.cell (p := ⟨b, off + k, none⟩) h2).trans h3⟩
theorem RBy.at_ {w : World} {A : Option Addr} {n k : Nat} {l : List UInt8} (h : RBy w A n l) (hk : k < n) : ∃ b off x, A = some ⟨b, off, none⟩ ∧ b < w.heap.size ∧ w.cell? ⟨b, off + k, none⟩ = some (.int .u8 (x.toNat : Int)) ∧ Hid (l[k]? = some x) := by
  have hl : k < l.length := by rw [h.1]; exact hk
  obtain ⟨b, off, h1, h2, h3⟩ := h.2 k l[k] (List.getElem?_eq_getElem hl)
  exact ⟨b, off, l[k], h1, h2, h3, List.getElem?_eq_getElem hl⟩
/-- A row of byte slices that can be read. -/
def RBs (w : World) (A : Option Addr) (n : Nat) (ls : List (List UInt8)) : Prop :=
  ls.length = n ∧ ∀ k l, ls[k]? = some l → ∃ b off A' c', A = some ⟨b, off, none⟩ ∧ b < w.heap.size ∧ w.cell? ⟨b, off + k, none⟩ = some (.slice A' l.length c') ∧ RBy w A' l.length l ∧ l.length ≤ 9223372036854775807
theorem RBs.on {w w' : World} {A : Option Addr} {n : Nat} {ls : List (List UInt8)} (h : RBs w A n ls) (hb : Below w.heap.size w w') : RBs w' A n ls := by
  refine ⟨h.1, fun k l hk => ?_⟩
  obtain ⟨b, off, A', c', h1, h2, h3, h4, h5⟩ := h.2 k l hk
  exact ⟨b, off, A', c', h1, Nat.lt_of_lt_of_le h2 hb.size, (hb.cell (p := ⟨b, off + k, none⟩) h2).trans h3, h4.on hb, h5⟩

def crcStep (c : Nat) : Nat := (c / 2) ^^^ (3988292384 * (c % 2))
def crcTab (i : Nat) : Nat := crcStep (crcStep (crcStep (crcStep i)))
def crcNib (c : Nat) : Nat := (c / 16) ^^^ crcTab (c % 16)
def crcByte (c : Nat) (b : UInt8) : Nat := crcNib (crcNib (c ^^^ b.toNat))
def crcL (c : Nat) (l : List UInt8) : Nat := l.foldl crcByte c
def sumL (l : List UInt8) : Nat := 4294967295 - crcL 4294967295 l
theorem crcStep_lt {c : Nat} (h : c < 2 ^ 32) : crcStep c < 2 ^ 32 :=
  Nat.xor_lt_two_pow (by omega) (by omega)
theorem crcTab_lt {i : Nat} (h : i < 2 ^ 32) : crcTab i < 2 ^ 32 := crcStep_lt (crcStep_lt (crcStep_lt (crcStep_lt h)))
theorem crcNib_lt {c : Nat} (h : c < 2 ^ 32) : crcNib c < 2 ^ 32 := Nat.xor_lt_two_pow (by omega) (crcTab_lt (by omega))
theorem crcByte_lt {c : Nat} (b : UInt8) (h : c < 2 ^ 32) : crcByte c b < 2 ^ 32 :=
  crcNib_lt (crcNib_lt (Nat.xor_lt_two_pow h (by have := b.toNat_lt; omega)))
theorem crcL_lt : ∀ (l : List UInt8) {c : Nat}, c < 2 ^ 32 → crcL c l < 2 ^ 32
  | [], _, h => h
  | b :: l, _, h => crcL_lt l (crcByte_lt b h)

theorem xor_u32 {a b : Nat} (ha : a < 4294967296) (hb : b < 4294967296) : bits .xor .u32 (a : Int) (b : Int) = ((a ^^^ b : Nat) : Int) := by
  show IntKind.u32.wrap ((BitVec.ofInt 32 (a : Int) ^^^ BitVec.ofInt 32 (b : Int)).toNat : Int) = _
  rw [BitVec.ofInt_natCast, BitVec.ofInt_natCast, BitVec.toNat_xor, BitVec.toNat_ofNat, BitVec.toNat_ofNat, Nat.mod_eq_of_lt (by omega), Nat.mod_eq_of_lt (by omega), IntKind.wrap_u32]
  have := Nat.xor_lt_two_pow (n := 32) ha hb
  omega
theorem and_u32 {a b : Nat} (ha : a < 4294967296) (hb : b < 4294967296) : bits .and .u32 (a : Int) (b : Int) = ((a &&& b : Nat) : Int) := by
  show IntKind.u32.wrap ((BitVec.ofInt 32 (a : Int) &&& BitVec.ofInt 32 (b : Int)).toNat : Int) = _
  rw [BitVec.ofInt_natCast, BitVec.ofInt_natCast, BitVec.toNat_and, BitVec.toNat_ofNat, BitVec.toNat_ofNat, Nat.mod_eq_of_lt (by omega), Nat.mod_eq_of_lt (by omega), IntKind.wrap_u32]
  have := Nat.and_lt_two_pow (n := 32) a hb
  omega
theorem crc_stop (c k : Nat) (h : c < 4294967296) : Nat.repeat crcStep k c < 4294967296 := by
  induction k with
  | zero => exact h
  | succ k ih => exact crcStep_lt (c := Nat.repeat crcStep k c) ih
theorem step_any (c : Nat) (w : World) (hc : c < 4294967296) :
    Calls Tryz.prog 231 #[.int .u32 (c : Int)] w fun e w' => e = .returned (.int .u32 (crcTab c : Nat)) ∧ w = w' := by
  go_enter Tryz.func231, Tryz.ntmps231
  go_wp2
  go_loop [0, 3] (fun a i => ∃ k : Nat, k ≤ 4 ∧ i = .int .i64 k ∧ a = .int .u32 (Nat.repeat crcStep k c : Nat)) (fun _ i => 4 - (intOf i).toNat)
  case atStart => exact ⟨0, by omega, rfl, rfl⟩
  case round =>
    obtain ⟨k, hk, rfl, rfl⟩ := hrel
    have hlt := crc_stop c k hc
    obtain ⟨x, hx⟩ : ∃ x, Nat.repeat crcStep k c = x := ⟨_, rfl⟩
    have Hx := Lib.hid hx
    rw [hx] at hlt ⊢
    clear hx
    by_cases h4 : k < 4
    · have h1 := and_u32 (a := x) (b := 1) (by omega) (by omega)
      rw [Nat.and_one_is_mod] at h1
      have hand : bits .and .u32 (x : Int) 1 = ((x % 2 : Nat) : Int) := h1
      clear h1
      go_wp2
      go_round
      case rel =>
        refine ⟨k + 1, by omega, by go_num, ?_⟩
        have hm : x % 2 < 2 := Nat.mod_lt _ (by omega)
        have hxr := xor_u32 (a := x / 2) (b := 3988292384 * (x % 2)) (by omega) (by omega)
        have e1 : ((x / 2 : Nat) : Int) = (x : Int) / 2 := by omega
        have e2 : ((3988292384 * (x % 2) : Nat) : Int) = 3988292384 * ((x : Int) % 2) := by omega
        rw [e1, e2] at hxr
        rw [hxr, show Nat.repeat crcStep (k + 1) c = crcStep (Nat.repeat crcStep k c) from rfl, Hx.out]
        rfl
      case measure => simp [intOf]; omega
    · obtain rfl : k = 4 := by omega
      go_wp2
      go_ret
      exact ⟨by rw [← Hx.out]; rfl, rfl⟩
def tabC (k : Nat) : Array Value := ((List.range 16).map fun i => Value.int .u32 (if i < k then (crcTab i : Nat) else 0)).toArray
theorem tabC_size (k : Nat) : (tabC k).size = 16 := by simp [tabC]
theorem tabC_get {k i : Nat} (hi : i < 16) : (tabC k)[i]? = some (.int .u32 (if i < k then (crcTab i : Nat) else 0)) := by
  unfold tabC
  rw [List.getElem?_toArray, List.getElem?_map, List.getElem?_range hi]
  rfl
theorem tabC_set {k : Nat} (hk : k < 16) : (tabC k).setIfInBounds k (.int .u32 (crcTab k : Nat)) = tabC (k + 1) := by
  apply Array.ext_getElem?
  intro i
  by_cases hi : i < 16
  · rw [Array.getElem?_setIfInBounds, tabC_get hi, tabC_get hi, tabC_size]
    by_cases h : k = i
    · subst h
      rw [if_pos rfl, if_pos hk, if_pos (by omega)]
    · rw [if_neg h]
      by_cases h2 : i < k
      · rw [if_pos h2, if_pos (by omega)]
      · rw [if_neg h2, if_neg (by omega)]
  · rw [Array.getElem?_eq_none (by rw [Array.size_setIfInBounds, tabC_size]; omega), Array.getElem?_eq_none (by rw [tabC_size]; omega)]
theorem Blk.same {w : World} {g k : Nat} (hb : Blk w g 306 (tabC 16)) (hk : k < 16) : Blk (w.setCell ⟨g, k, none⟩ (.int .u32 (crcTab k : Nat))) g 306 (tabC 16) := by
  have h := hb.set_ k (.int .u32 (crcTab k : Nat))
  have e : (tabC 16).setIfInBounds k (.int .u32 (crcTab k : Nat)) = tabC 16 := by
    apply Array.ext_getElem?
    intro i
    rw [Array.getElem?_setIfInBounds, tabC_size]
    by_cases h1 : k = i
    · subst h1
      rw [if_pos rfl, if_pos hk, tabC_get hk, if_pos hk]
    · rw [if_neg h1]
  rw [e] at h
  exact h
theorem table_res {w : World} {g : Nat} {tmps : Array Value} (h0 : tmps.getD 0 undef = .pointer (some ⟨g, 0, none⟩)) (hb : Blk w g 306 (tabC 16)) : (results Tryz.f180 tmps).run Tryz.prog w = .ok (.agg (tabC 16)) w := by
  have h1 := run_loadVar_row (P := Tryz.prog) w g 306 306 (tabC 16) (0, 0) _ hb Tryz.underlying306 rfl (by rw [tabC_size]; kernel_rfl)
  have h2 : Tryz.f180.results = #[ResultVar.cell 0 306] := rfl
  have h3 : tmps[0]?.getD undef = .pointer (some ⟨g, 0, none⟩) := by simpa using h0
  simp [results, h2, h3, h1, asAddr, Result.andThen]
set_option maxHeartbeats 4000000 in
theorem table_any (w : World) :
    Calls Tryz.prog 180 #[] w fun e w' => e = .returned (.agg (tabC 16)) ∧ Below w.heap.size w w' := by
  go_enter Tryz.func180, Tryz.ntmps180
  go_wp2
  go_loopw [3] (fun i wr => ∃ k : Nat, k ≤ 16 ∧ i = .int .i64 k ∧ Blk wr w.heap.size 306 (tabC k) ∧ Below w.heap.size w wr) (fun i _ => 16 - (intOf i).toNat)
  case atStart => exact ⟨0, by omega, rfl, Blk.new _ _ _, (Below.refl _ _).alloc (Nat.le_refl _) _⟩
  case round =>
    obtain ⟨k, hk, rfl, hb, hw⟩ := hrel
    have Hb := Lib.hid hb
    have Hw := Lib.hid hw
    by_cases h16 : k < 16
    · have hc := (hb.cell k).trans (tabC_get h16)
      have hf := hb.frozen k
      rw [if_neg (Nat.lt_irrefl _)] at hc
      clear hb hw
      go_wp2_with (go_at_call 231; refine (step_any k _ (by omega)).mono ?_; rintro e w' ⟨rfl, rfl⟩)
      go_roundw
      case rel =>
        refine ⟨k + 1, by omega, by go_num, ?_, Hw.out.setCell (p := ⟨w.heap.size, k, none⟩) (Nat.le_refl _) _⟩
        rw [← tabC_set h16]
        exact Hb.out.set_ k _
      case measure => simp [intOf]; omega
    · obtain rfl : k = 16 := by omega
      have hc : ∀ i, i < 16 → wr.cell? ⟨w.heap.size, i, none⟩ = some (.int .u32 (crcTab i : Nat)) := fun i hi => by
        rw [hb.cell i, tabC_get hi, if_pos hi]
      have hf := hb.frozen 0
      have hc0 : wr.cell? ⟨w.heap.size, 0, none⟩ = some (.int .u32 (crcTab 0 : Nat)) := hc 0 (by omega)
      have hc1 : wr.cell? ⟨w.heap.size, 1, none⟩ = some (.int .u32 (crcTab 1 : Nat)) := hc 1 (by omega)
      have hc2 : wr.cell? ⟨w.heap.size, 2, none⟩ = some (.int .u32 (crcTab 2 : Nat)) := hc 2 (by omega)
      have hc3 : wr.cell? ⟨w.heap.size, 3, none⟩ = some (.int .u32 (crcTab 3 : Nat)) := hc 3 (by omega)
      have hc4 : wr.cell? ⟨w.heap.size, 4, none⟩ = some (.int .u32 (crcTab 4 : Nat)) := hc 4 (by omega)
      have hc5 : wr.cell? ⟨w.heap.size, 5, none⟩ = some (.int .u32 (crcTab 5 : Nat)) := hc 5 (by omega)
      have hc6 : wr.cell? ⟨w.heap.size, 6, none⟩ = some (.int .u32 (crcTab 6 : Nat)) := hc 6 (by omega)
      have hc7 : wr.cell? ⟨w.heap.size, 7, none⟩ = some (.int .u32 (crcTab 7 : Nat)) := hc 7 (by omega)
      have hc8 : wr.cell? ⟨w.heap.size, 8, none⟩ = some (.int .u32 (crcTab 8 : Nat)) := hc 8 (by omega)
      have hc9 : wr.cell? ⟨w.heap.size, 9, none⟩ = some (.int .u32 (crcTab 9 : Nat)) := hc 9 (by omega)
      have hc10 : wr.cell? ⟨w.heap.size, 10, none⟩ = some (.int .u32 (crcTab 10 : Nat)) := hc 10 (by omega)
      have hc11 : wr.cell? ⟨w.heap.size, 11, none⟩ = some (.int .u32 (crcTab 11 : Nat)) := hc 11 (by omega)
      have hc12 : wr.cell? ⟨w.heap.size, 12, none⟩ = some (.int .u32 (crcTab 12 : Nat)) := hc 12 (by omega)
      have hc13 : wr.cell? ⟨w.heap.size, 13, none⟩ = some (.int .u32 (crcTab 13 : Nat)) := hc 13 (by omega)
      have hc14 : wr.cell? ⟨w.heap.size, 14, none⟩ = some (.int .u32 (crcTab 14 : Nat)) := hc 14 (by omega)
      have hc15 : wr.cell? ⟨w.heap.size, 15, none⟩ = some (.int .u32 (crcTab 15 : Nat)) := hc 15 (by omega)
      have hfr : ∀ i, wr.frozen? ⟨w.heap.size, i, none⟩ = false := fun i => hb.frozen i
      have hf1 := hfr 1
      have hf2 := hfr 2
      have hf3 := hfr 3
      have hf4 := hfr 4
      have hf5 := hfr 5
      have hf6 := hfr 6
      have hf7 := hfr 7
      have hf8 := hfr 8
      have hf9 := hfr 9
      have hf10 := hfr 10
      have hf11 := hfr 11
      have hf12 := hfr 12
      have hf13 := hfr 13
      have hf14 := hfr 14
      have hf15 := hfr 15
      clear hb hw hc hfr
      go_wp2
      try simp only [Exit.inBlock, Exit.then]
      refine bodyPost_ret (table_res (g := w.heap.size) (by rfl) ?_) rfl ⟨rfl, ?_⟩
      · exact (Blk.same (k := 15) (Blk.same (k := 14) (Blk.same (k := 13) (Blk.same (k := 12) (Blk.same (k := 11) (Blk.same (k := 10) (Blk.same (k := 9) (Blk.same (k := 8) (Blk.same (k := 7) (Blk.same (k := 6) (Blk.same (k := 5) (Blk.same (k := 4) (Blk.same (k := 3) (Blk.same (k := 2) (Blk.same (k := 1) (Blk.same (k := 0) Hb.out (by decide)) (by decide)) (by decide)) (by decide)) (by decide)) (by decide)) (by decide)) (by decide)) (by decide)) (by decide)) (by decide)) (by decide)) (by decide)) (by decide)) (by decide)) (by decide))
      · exact (Below.setCell (p := ⟨w.heap.size, 15, none⟩) (Below.setCell (p := ⟨w.heap.size, 14, none⟩) (Below.setCell (p := ⟨w.heap.size, 13, none⟩) (Below.setCell (p := ⟨w.heap.size, 12, none⟩) (Below.setCell (p := ⟨w.heap.size, 11, none⟩) (Below.setCell (p := ⟨w.heap.size, 10, none⟩) (Below.setCell (p := ⟨w.heap.size, 9, none⟩) (Below.setCell (p := ⟨w.heap.size, 8, none⟩) (Below.setCell (p := ⟨w.heap.size, 7, none⟩) (Below.setCell (p := ⟨w.heap.size, 6, none⟩) (Below.setCell (p := ⟨w.heap.size, 5, none⟩) (Below.setCell (p := ⟨w.heap.size, 4, none⟩) (Below.setCell (p := ⟨w.heap.size, 3, none⟩) (Below.setCell (p := ⟨w.heap.size, 2, none⟩) (Below.setCell (p := ⟨w.heap.size, 1, none⟩) (Below.setCell (p := ⟨w.heap.size, 0, none⟩) Hw.out (Nat.le_refl _) _) (Nat.le_refl _) _) (Nat.le_refl _) _) (Nat.le_refl _) _) (Nat.le_refl _) _) (Nat.le_refl _) _) (Nat.le_refl _) _) (Nat.le_refl _) _) (Nat.le_refl _) _) (Nat.le_refl _) _) (Nat.le_refl _) _) (Nat.le_refl _) _) (Nat.le_refl _) _) (Nat.le_refl _) _) (Nat.le_refl _) _) (Nat.le_refl _) _)

theorem crcL_snoc (c : Nat) (l : List UInt8) (x : UInt8) : crcL c (l ++ [x]) = crcByte (crcL c l) x := by simp [crcL]
theorem crcL_take {c k : Nat} {l : List UInt8} {x : UInt8} (h : l[k]? = some x) : crcL c (l.take (k + 1)) = crcByte (crcL c (l.take k)) x := by
  rw [List.take_add_one, h]
  exact crcL_snoc _ _ _
theorem crcL_app (c : Nat) (a b : List UInt8) : crcL c (a ++ b) = crcL (crcL c a) b := by simp [crcL]
theorem flat_take {ls : List (List UInt8)} {k : Nat} {l : List UInt8} (h : ls[k]? = some l) : (ls.take (k + 1)).flatten = (ls.take k).flatten ++ l := by
  rw [List.take_add_one, h]
  simp
theorem and15 (x : Nat) (hx : x < 4294967296) : bits .and .u32 (x : Int) 15 = ((x % 16 : Nat) : Int) := by
  have h := and_u32 (a := x) (b := 15) hx (by omega)
  have e : x &&& 15 = x % 16 := Nat.and_two_pow_sub_one_eq_mod x 4
  rw [e] at h
  exact h
theorem nib_u32 {x : Nat} (hx : x < 4294967296) : bits .xor .u32 ((x : Int) / 16) (crcTab (x % 16) : Nat) = (crcNib x : Nat) := by
  have h := xor_u32 (a := x / 16) (b := crcTab (x % 16)) (by omega) (crcTab_lt (by omega))
  have e1 : ((x / 16 : Nat) : Int) = (x : Int) / 16 := by omega
  rw [e1] at h
  exact h
theorem tab_lit : tabC 16 = #[.int .u32 (crcTab 0 : Nat), .int .u32 (crcTab 1 : Nat), .int .u32 (crcTab 2 : Nat), .int .u32 (crcTab 3 : Nat), .int .u32 (crcTab 4 : Nat), .int .u32 (crcTab 5 : Nat), .int .u32 (crcTab 6 : Nat), .int .u32 (crcTab 7 : Nat), .int .u32 (crcTab 8 : Nat), .int .u32 (crcTab 9 : Nat), .int .u32 (crcTab 10 : Nat), .int .u32 (crcTab 11 : Nat), .int .u32 (crcTab 12 : Nat), .int .u32 (crcTab 13 : Nat), .int .u32 (crcTab 14 : Nat), .int .u32 (crcTab 15 : Nat)] := rfl
theorem not_u32 {c : Nat} (hc : c < 4294967296) : bits .xor .u32 IntKind.u32.max (c : Int) = ((4294967295 - c : Nat) : Int) := by
  show IntKind.u32.wrap ((BitVec.allOnes 32 ^^^ BitVec.ofInt 32 (c : Int)).toNat : Int) = _
  rw [BitVec.ofInt_natCast, BitVec.allOnes_xor, BitVec.toNat_not, BitVec.toNat_ofNat, Nat.mod_eq_of_lt (by omega), IntKind.wrap_u32]
  omega
theorem sum_any (A : Option Addr) (n c : Nat) (ls : List (List UInt8)) (w : World) (hn : n ≤ 9223372036854775807) (hl : RBs w A n ls) :
    Calls Tryz.prog 114 #[.slice A n c] w fun e w' => e = .returned (.int .u32 (sumL ls.flatten : Nat)) ∧ Below w.heap.size w w' := by
  have Hl := Lib.hid hl
  clear hl
  go_enter Tryz.func114, Tryz.ntmps114
  go_wp2_with (go_at_call 180; refine (table_any _).mono ?_; rw [tab_lit]; rintro e w1 ⟨rfl, hb1⟩; have Hb1 := Lib.hid hb1; clear hb1)
  rw [← tab_lit]
  obtain ⟨W1, hW1⟩ : ∃ W1, w1.alloc (.cells (tabC 16) 306) = W1 := ⟨_, rfl⟩
  obtain ⟨g, hg⟩ : ∃ g, w1.heap.size = g := ⟨_, rfl⟩
  have hblk : Blk W1 g 306 (tabC 16) := by rw [← hW1, ← hg]; exact Blk.new _ _ _
  have hbel : Below w.heap.size w W1 := by rw [← hW1]; exact Hb1.out.alloc Hb1.out.size _
  have hls : RBs W1 A n ls := Hl.out.on hbel
  rw [hW1, hg]
  have Hbel := Lib.hid hbel
  have Hls := Lib.hid hls
  have hct : ∀ x, W1.cell? ⟨g, x % 16, none⟩ = some (.int .u32 (crcTab (x % 16) : Nat)) := fun x => by rw [hblk.cell, tabC_get (by omega), if_pos (by omega)]
  have Hct := Lib.hid hct
  have hcl : ∀ l, crcL 4294967295 l < 4294967296 := fun l => crcL_lt l (by omega)
  have Hcl := Lib.hid hcl
  clear hW1 hg hblk hbel hls hct hcl
  go_loop [4, 12] (fun a i => ∃ k : Nat, k ≤ n ∧ i = .int .i64 k ∧ a = .int .u32 (crcL 4294967295 (ls.take k).flatten : Nat)) (fun _ i => n - (intOf i).toNat)
  case atStart => exact ⟨0, Nat.zero_le _, rfl, rfl⟩
  case round =>
    obtain ⟨k, hk, rfl, rfl⟩ := hrel
    by_cases hlt : k < n
    · obtain ⟨l, hkl⟩ : ∃ l, ls[k]? = some l := ⟨_, List.getElem?_eq_getElem (by rw [Hls.out.1]; exact hlt)⟩
      obtain ⟨b, off, A', c', rfl, hbl, hcp, hrb, hll⟩ := Hls.out.2 k l hkl
      have Hrb := Lib.hid hrb
      have Hft := Lib.hid (flat_take hkl)
      clear hrb hkl
      obtain ⟨m, hm⟩ : ∃ m, l.length = m := ⟨_, rfl⟩
      rw [hm] at hcp hll
      have Hm := Lib.hid hm
      clear hm
      obtain ⟨c0, hc0⟩ : ∃ c0, crcL 4294967295 (ls.take k).flatten = c0 := ⟨_, rfl⟩
      have hlt0 : c0 < 4294967296 := by rw [← hc0]; exact Hcl.out _
      rw [hc0]
      have Hc0 := Lib.hid hc0
      clear hc0
      go_wp2
      go_loop [4, 18] (fun a i => ∃ j : Nat, j ≤ m ∧ i = .int .i64 j ∧ a = .int .u32 (crcL c0 (l.take j) : Nat)) (fun _ i => m - (intOf i).toNat)
      case atStart => exact ⟨0, Nat.zero_le _, rfl, rfl⟩
      case round =>
        obtain ⟨j, hj, rfl, rfl⟩ := hrel
        by_cases hjm : j < m
        · obtain ⟨b2, off2, x, rfl, _, hcx, Hx⟩ := Hrb.out.at_ (k := j) (by rw [Hm.out]; exact hjm)
          have hy0 : crcL c0 (l.take j) < 4294967296 := crcL_lt _ hlt0
          obtain ⟨y, hy⟩ : ∃ y, crcL c0 (l.take j) = y := ⟨_, rfl⟩
          rw [hy] at hy0 ⊢
          have Hy := Lib.hid hy
          have hxb := x.toNat_lt
          obtain ⟨z, hz⟩ : ∃ z, y ^^^ x.toNat = z := ⟨_, rfl⟩
          have hzl : z < 4294967296 := by rw [← hz]; exact Nat.xor_lt_two_pow (n := 32) hy0 (by omega)
          have hxz := xor_u32 (a := y) (b := x.toNat) hy0 (by omega)
          rw [hz] at hxz
          have hz15 := and15 z hzl
          have hzc := Hct.out z
          have hzn := nib_u32 hzl
          obtain ⟨v, hv⟩ : ∃ v, crcNib z = v := ⟨_, rfl⟩
          have hvl : v < 4294967296 := by rw [← hv]; exact crcNib_lt hzl
          rw [hv] at hzn
          have hv15 := and15 v hvl
          have hvc := Hct.out v
          have hvn := nib_u32 hvl
          have Hz := Lib.hid hz
          have Hv := Lib.hid hv
          clear hy hz hv
          go_wp2
          go_round
          case rel => exact ⟨j + 1, by omega, by go_num, by rw [crcL_take Hx.out, Hy.out]; unfold crcByte; rw [Hz.out, Hv.out]⟩
          case measure => simp [intOf]; omega
        · obtain rfl : j = m := by omega
          go_wp2
          go_round
          case rel => exact ⟨k + 1, by omega, by go_num, by rw [Hft.out, crcL_app, Hc0.out, List.take_of_length_le (by rw [Hm.out]; exact Nat.le_refl _)]⟩
          case measure => simp [intOf]; omega
    · obtain rfl : k = n := by omega
      have Hf : Hid (ls.take k = ls) := List.take_of_length_le (by have := Hls.out.1; omega)
      have Hx := Lib.hid (not_u32 (Hcl.out (ls.take k).flatten))
      go_wp2
      go_ret
      exact ⟨by rw [Hx.out, Hf.out]; rfl, Hbel.out⟩

def SameA {α : Type} (xs ys : List α) (k : Nat) : Prop := xs.take k = ys.take k
theorem SameA.step {α : Type} {xs ys : List α} {k : Nat} {x : α} (h : SameA xs ys k) (hx : Hid (xs[k]? = some x)) (hy : Hid (ys[k]? = some x)) : SameA xs ys (k + 1) := by
  unfold SameA at *
  rw [List.take_add_one, List.take_add_one, h, hx.out, hy.out]
theorem SameA.all {α : Type} {xs ys : List α} {n : Nat} (h : SameA xs ys n) (hx : xs.length = n) (hy : ys.length = n) : xs = ys := by
  unfold SameA at h
  rwa [List.take_of_length_le (by omega), List.take_of_length_le (by omega)] at h
set_option maxHeartbeats 1000000 in
theorem equal_any (A A' : Option Addr) (n m c c' : Nat) (xs ys : List UInt8) (w : World) (hn : n ≤ 9223372036854775807) (hx : RBy w A n xs) (hy : RBy w A' m ys) :
    Calls Tryz.prog 131 #[.slice A n c, .slice A' m c'] w fun e w' => e = .returned (.bool (decide (xs = ys))) ∧ InDraws w w' := by
  have lx := hx.1
  have ly := hy.1
  by_cases hnm : n = m
  · subst hnm
    have Lx := Lib.hid lx
    have Ly := Lib.hid ly
    clear lx ly
    go_enter Tryz.func131, Tryz.ntmps131
    go_wp2
    go_loopw [13] (fun i wr => ∃ k : Nat, k ≤ n ∧ i = .int .i64 k ∧ SameA xs ys k ∧ InDraws w wr) (fun i _ => n - (intOf i).toNat)
    case atStart => exact ⟨0, Nat.zero_le _, rfl, rfl, 0, rfl⟩
    case round =>
      obtain ⟨k, hk, rfl, hs, hd⟩ := hrel
      by_cases hlt : k < n
      · obtain ⟨j, rfl⟩ := hd
        obtain ⟨b1, o1, x, rfl, _, hcx, Hx⟩ := hx.at_ hlt
        obtain ⟨b2, o2, y, rfl, _, hcy, Hy⟩ := hy.at_ hlt
        clear hx hy
        by_cases hxy : x = y
        · subst hxy
          have Hs := Lib.hid (hs.step Hx Hy)
          clear hs
          go_wp2
          go_quiet (fail)
          go_wp2
          go_roundw
          case rel => exact ⟨k + 1, by omega, by go_num, Hs.out, ⟨_, rfl⟩⟩
          case measure => simp [intOf]; omega
        · have hne : ((x.toNat : Int) != (y.toNat : Int)) = true := by
            simp only [bne_iff_ne, ne_eq]
            intro h
            exact hxy (UInt8.toNat_inj.1 (by omega))
          have hfin : decide (xs = ys) = false := by
            simp only [decide_eq_false_iff_not]
            rintro rfl
            have := Hx.out.symm.trans Hy.out
            cases this
            exact hxy rfl
          have Hfin := Lib.hid hfin
          clear hfin hs hxy
          go_wp2
          go_quiet (fail)
          go_wp2
          go_ret
          exact ⟨ret_bool Hfin.out.symm, InDraws.more ⟨j, rfl⟩ _⟩
      · obtain rfl : k = n := by omega
        have hfin : decide (xs = ys) = true := by simp [hs.all Lx.out Ly.out]
        have Hfin := Lib.hid hfin
        obtain ⟨j, rfl⟩ := hd
        clear hfin hs
        go_wp2
        go_ret
        exact ⟨ret_bool Hfin.out.symm, j, rfl⟩
  · have hfin : decide (xs = ys) = false := by
      simp only [decide_eq_false_iff_not]
      rintro rfl
      omega
    have Hfin := Lib.hid hfin
    have hnm' : ((n : Int) != (m : Int)) = true := by simp only [bne_iff_ne, ne_eq]; omega
    clear hfin lx ly hx hy
    go_enter Tryz.func131, Tryz.ntmps131
    go_wp2
    go_ret
    exact ⟨ret_bool Hfin.out.symm, 0, rfl⟩
end Go.Proofs.YtfmopmjgohopeaaGreatDoor

/- A range over a function whose body is told, of each thing that it is handed, how it hangs together with what came ahead of it ('Ok'). The law is the kit's own (wpIn_rangeFunc_ownH) turned to that; its lines are turned from that proof. -/
namespace Go.Proofs.YtfmopmjgohopeaaGreatDoor
open Go.RowKit

/-- What an iterator does, whatever the rounds do that are told 'Ok'. -/
def SeqOk {α : Type} (F : Fence) (n : Nat) (P : Program) (g : Nat) (lb : Array Value) (encs : α → Array Value) (Kp : World → World → Prop) (S Sp : List α → Prop) (Ok : List α → α → Prop) (w : World) : Prop :=
  ∀ (l : Nat) (J Jx : List α → World → Prop) (W : World), Below w.heap.size w W → AbidesFrom W.heap.size J → AbidesFrom W.heap.size Jx →
    (∀ pre x W1, J pre W1 → Ok pre x → YieldAt F (n - 1) P l (encs x) W1 fun e W' =>
      (e = .returned (.bool true) ∧ J (pre ++ [x]) W' ∧ Kp W1 W') ∨ (e = .returned (.bool false) ∧ Jx (pre ++ [x]) W')) →
    J [] W →
    CallsIn F n P g (#[.func (.yield l) #[] #[]] ++ lb) W fun e W' => (∃ v, e = .returned v) ∧ ((∃ xs, S xs ∧ J xs W') ∨ (∃ pre, Sp pre ∧ Jx pre W'))

variable {F : Fence} {n : Nat} {P : Program}
theorem wpIn_rangeFunc_ok {α : Type} {g : Operand} {ps : Array Tmp} {assign body : Code} {Q : Exit → Act → World → Prop} {a : Act} {w : World}
    (hro : F.round = none) (h1 : 1 ≤ n) {gf : Nat} {lb : Array Value} (hg : a.eval g = .func (.func gf) #[] lb) (hFg : F.fn gf) (eg : ∀ args w, (callFunc gf args).run P w = .ok (.enter gf args) w)
    {encs : α → Array Value} {Kp : World → World → Prop} {S Sp : List α → Prop} {Ok : List α → α → Prop} {w0 : World} (hseq : SeqOk F (n - 1) P gf lb encs Kp S Sp Ok w0)
    (hKt : ∀ {A B C : World}, Kp A B → Kp B C → Kp A C) (hKb : ∀ (W : World) (l : Nat) (o o' : Obj), w.heap.size ≤ l → W.heap[l]? = some o → o.isCells = false → o.isWalk = false → Kp W (W.putObj l o')) (hb0 : Below w0.heap.size w0 w) (hps : ∀ x, (encs x).size = ps.size)
    (I : List α → World → Prop) (Ix : Code → List α → World → Prop) (hI : OwnFrom w.heap.size I) (hIx : ∀ c, OwnFrom w.heap.size (Ix c)) (h0 : I [] w) (Ax : α → Act → World → Prop) (hAx : ∀ x a', OwnFrom w.heap.size (fun (_ : Unit) W => Ax x a' W))
    (hassign : ∀ (l : Nat) (pre : List α) (x : α) (W : World) (K : Act → World → Prop), I pre W → (∀ a' W', KeepsFrom w.heap.size W W' → Kp W W' → I pre W' → Ax x a' W' → K a' W') →
      assign.wpIn (F.inRound l) (n - 1 - 1) P (Exit.then K (fun _ _ _ => False)) { tmps := (ps.zip (encs x)).foldl (fun t (p, v) => t.setIfInBounds p v) a.tmps, defers := [] } W)
    (hbody : ∀ (l : Nat) (pre : List α) (x : α) (a' : Act) (W : World), w.heap.size ≤ l → (∃ r, W.heap[l]? = some (.loop r)) → I pre W → Ax x a' W → Ok pre x → body.wpIn (F.inRound l) (n - 1 - 1) P (ownPostG w.heap.size Kp I Ix (pre ++ [x]) W) a' W)
    (hdone : ∀ (D : Nat) (xs : List α) (W : World), w.heap.size ≤ D → S xs → I xs W → W.heap[D]? = some (.deferred (some [])) → Q .normal { a with defers := { target := .collected D, args := #[] } :: a.defers } W)
    (hstop : ∀ (D : Nat) (c : Code) (pre : List α) (W : World), w.heap.size ≤ D → Sp pre → Ix c pre W → W.heap[D]? = some (.deferred (some [])) → c.wpIn F n P Q { a with defers := { target := .collected D, args := #[] } :: a.defers } W) :
    (Code.rangeFunc g ps assign body).wpIn F n P Q a w := by
  refine wpIn_rangeFunc ?_
  intro fn hfn
  rw [hro]
  obtain ⟨rec, hrec⟩ : ∃ rec : LoopState → Option Code → Loop, rec = fun st pe => { state := st, pending := pe, fn, tmps := a.tmps, params := ps, assign, body, defers := w.heap.size } := ⟨_, rfl⟩
  obtain ⟨W1, hW1⟩ : ∃ W1, (w.alloc (.deferred (some []))).alloc (.loop (rec .ready none)) = W1 := ⟨_, rfl⟩
  have hL1 : W1.heap[w.heap.size + 1]? = some (.loop (rec .ready none)) := by
    rw [← hW1]; have := World.alloc_heap_new (w.alloc (.deferred (some []))) (.loop (rec .ready none)); rwa [World.size_alloc] at this
  have hK1 : W1.heap[w.heap.size]? = some (.deferred (some [])) := by
    rw [← hW1]; exact (Below.heap_alloc _ _ _ (by simp)).trans (World.alloc_heap_new w _)
  have hI1 : I [] W1 := by rw [← hW1]; exact hI.alloc _ (hI.alloc _ h0)
  have hb1 : Below w0.heap.size w0 W1 := by
    rw [← hW1]; exact hb0.trans ((((Below.refl _ w).alloc (Nat.le_refl _) _).alloc (by simp) _).mono hb0.size)
  refine ⟨w.heap.size + 1, [{ target := .collected w.heap.size, args := #[] }], W1, { target := .fn (.func gf) lb, args := #[.func (.yield (w.heap.size + 1)) #[] #[]] }, W1, gf,
    #[.func (.yield (w.heap.size + 1)) #[] #[]] ++ lb, W1, ?_, ?_, ?_, ?_, fun _ => h1, ?_⟩
  · rw [← hW1, hrec]; exact run_enterLoop_outer _ _ _ _ _
  · simp only [resolve, hg]
    simp [go_sem]
  · intro f' hf'; simp [Target.leads] at hf'; subst hf'; exact hFg
  · simp [invoke, go_sem, eg]
  · -- THE ITERATOR's CONTRACT, AT THE CALLER's INVARIANT WITH THE TWO FACTS OF BOOK-KEEPING BESIDE IT
    have hnw : ∀ {A B : World} {row : Option Nat}, (∀ r, row = some r → W1.heap.size ≤ r ∧ ∃ o : Obj, A.heap[r]? = some o ∧ o.isWalk = true) → (∀ r, row = some r → w.heap.size ≤ r ∧ ∃ o : Obj, A.heap[r]? = some o ∧ o.isCells = false) :=
      fun hr r e => by obtain ⟨hB, o, ho, hw⟩ := hr r e; exact ⟨by rw [← hW1] at hB; simp at hB; omega, o, ho, Obj.not_cells_of_walk hw⟩
    refine (hseq (w.heap.size + 1)
      (fun pre W => I pre W ∧ W.heap[w.heap.size + 1]? = some (.loop (rec .ready none)) ∧ W.heap[w.heap.size]? = some (.deferred (some [])))
      (fun pre W => ∃ c, Ix c pre W ∧ W.heap[w.heap.size + 1]? = some (.loop (rec .done (some c))) ∧ W.heap[w.heap.size]? = some (.deferred (some [])))
      W1 hb1
      (fun s A B row hs hg' hr => ⟨hI s A B row hs.1 hg' (hnw (B := B) hr), (grownBy_keeps hg' (fun r e => (hr r e).2) hs.2.1 rfl).trans hs.2.1, (grownBy_keeps hg' (fun r e => (hr r e).2) hs.2.2 rfl).trans hs.2.2⟩)
      (fun s A B row hs hg' hr => by
        obtain ⟨c, hc, hl, hk⟩ := hs
        exact ⟨c, hIx c s A B row hc hg' (hnw (B := B) hr), (grownBy_keeps hg' (fun r e => (hr r e).2) hl rfl).trans hl, (grownBy_keeps hg' (fun r e => (hr r e).2) hk rfl).trans hk⟩)
      ?_ ⟨hI1, hL1, hK1⟩).mono ?_
    · skip
      rintro pre x W ⟨hi, hl, hk⟩ hlen
      have hlt : w.heap.size + 1 < W.heap.size := (Array.getElem?_eq_some_iff.1 hl).1
      have hy := run_yield (P := P) (args := encs x) hl (by rw [hrec]; exact hps x)
      rw [hrec] at hy
      refine ⟨fn, _, assign, body, hy, roundIn_of_wpIn hfn (hassign _ pre x W _ hi ?_)⟩
      clear hy
      intro a' Wa hkfa hkpa hia hax
      replace hl := hkfa.same _ _ (by omega) hl rfl
      replace hk := hkfa.same _ _ (Nat.le_refl _) hk rfl
      replace hlt : w.heap.size + 1 < Wa.heap.size := (Array.getElem?_eq_some_iff.1 hl).1
      replace hi := hia
      clear hia
      revert hkpa hkfa
      generalize W = Wb
      intro hkfa hkpa
      obtain ⟨W, rfl⟩ : ∃ W, W = Wa := ⟨_, rfl⟩
      refine ⟨_, run_beginRound hl (by rw [hrec]), ?_⟩
      have hl2 : (W.putObj (w.heap.size + 1) (.loop { rec .ready none with state := .busy })).heap[w.heap.size + 1]? = some (.loop { rec .ready none with state := .busy }) := World.putObj_heap_same hlt
      have hk2 : (W.putObj (w.heap.size + 1) (.loop { rec .ready none with state := .busy })).heap[w.heap.size]? = some (.deferred (some [])) := (World.putObj_heap_other (by omega)).trans hk
      have hw2 : Kp W (W.putObj (w.heap.size + 1) (.loop { rec .ready none with state := .busy })) := hKb _ _ _ _ (by omega) hl rfl rfl
      refine wpIn_mono (hbody _ pre x a' _ (by omega) ⟨_, hl2⟩ (hI.putObj _ hi (by omega) hl rfl) ((hAx x a').putObj (s := ()) _ hax (by omega) hl rfl) hlen) ?_
      have fin : ∀ (jump : Option Code) (W3 : World), KeepsFrom w.heap.size (W.putObj (w.heap.size + 1) (.loop { rec .ready none with state := .busy })) W3 →
          (Instr.endRound (w.heap.size + 1) jump).run P W3 = .ok (.bool jump.isNone) (W3.putObj (w.heap.size + 1) (.loop (rec (if jump.isNone then .ready else .done) jump))) ∧
          W3.heap[w.heap.size + 1]? = some (.loop { rec .ready none with state := .busy }) ∧
          (W3.putObj (w.heap.size + 1) (.loop (rec (if jump.isNone then .ready else .done) jump))).heap[w.heap.size + 1]? = some (.loop (rec (if jump.isNone then .ready else .done) jump)) ∧
          (W3.putObj (w.heap.size + 1) (.loop (rec (if jump.isNone then .ready else .done) jump))).heap[w.heap.size]? = some (.deferred (some [])) := fun jump W3 hk3 => by
        have hl3 := hk3.same _ _ (by omega) hl2 rfl
        have := run_endRound (P := P) jump hl3
        rw [hrec] at this ⊢
        exact ⟨this, by rw [hrec] at hl3; exact hl3, World.putObj_heap_same (Array.getElem?_eq_some_iff.1 hl3).1, (World.putObj_heap_other (by omega)).trans (hk3.same _ _ (Nat.le_refl _) hk2 rfl)⟩
      rintro e a3 W3 hp
      cases e with
      | normal =>
        obtain ⟨hk3, hkp3, hi3⟩ := hp
        obtain ⟨hr, hl3, hl4, hk4⟩ := fin none W3 hk3
        exact ⟨_, _, hr, .inl ⟨rfl, ⟨hI.putObj _ hi3 (by omega) hl3 rfl, hl4, hk4⟩, hKt hkpa (hKt (hKt hw2 hkp3) (hKb _ _ _ _ (by omega) hl3 rfl rfl))⟩⟩
      | ret =>
        obtain ⟨hk3, hi3⟩ := hp
        obtain ⟨hr, hl3, hl4, hk4⟩ := fin (some .ret) W3 hk3
        exact ⟨_, _, hr, .inr ⟨rfl, .ret, (hIx _).putObj _ hi3 (by omega) hl3 rfl, hl4, hk4⟩⟩
      | exit id =>
        obtain ⟨hk3, hi3⟩ := hp
        obtain ⟨hr, hl3, hl4, hk4⟩ := fin (some (.exit id)) W3 hk3
        exact ⟨_, _, hr, .inr ⟨rfl, .exit id, (hIx _).putObj _ hi3 (by omega) hl3 rfl, hl4, hk4⟩⟩
      | goto t =>
        obtain ⟨hk3, hi3⟩ := hp
        obtain ⟨hr, hl3, hl4, hk4⟩ := fin (some (.goto t)) W3 hk3
        exact ⟨_, _, hr, .inr ⟨rfl, .goto t, (hIx _).putObj _ hi3 (by omega) hl3 rfl, hl4, hk4⟩⟩
      | panic ch => exact hp.elim
      | outgrown => exact hp.elim
    · skip
      rintro e W2 ⟨⟨v, rfl⟩, (⟨xs, hS, hi, hl, hk⟩ | ⟨pre, hSp, c, hi, hl, hk⟩)⟩
      · exact ⟨none, _, by have := run_endLoop (P := P) hl (by rw [hrec]; simp); rw [hrec] at this; exact this, hdone _ xs _ (Nat.le_refl _) hS (hI.putObj _ hi (by omega) hl rfl) ((World.putObj_heap_other (by omega)).trans hk)⟩
      · exact ⟨some c, _, by have := run_endLoop (P := P) hl (by rw [hrec]; simp); rw [hrec] at this; exact this, hstop _ c pre _ (Nat.le_refl _) hSp ((hIx c).putObj _ hi (by omega) hl rfl) ((World.putObj_heap_other (by omega)).trans hk)⟩

end Go.Proofs.YtfmopmjgohopeaaGreatDoor

/- Plain words on runes: ranges of runes, letters, digits, marks, blanks, lower forms; the runes of a text. No program stands here. -/
namespace Go.Proofs.YtfmopmjgohopeaaGreatDoor
open Rep (rep)
open Go.RowKit

def within (r a b : Int) : Bool := decide (a ≤ r) && decide (r ≤ b)
theorem within_true {r a b : Int} : (within r a b = true) = (a ≤ r ∧ r ≤ b) := by simp [within]
theorem within_false {r a b : Int} : (within r a b = false) = ¬ (a ≤ r ∧ r ≤ b) := by rw [← within_true]; simp
def amongB (r : Int) : List Int → Bool
  | a :: b :: l => within r a b || amongB r l
  | _ => false
def letterL : List Int := [0x41, 0x5A, 0x61, 0x7A, 0xAA, 0xAA, 0xB5, 0xB5, 0xBA, 0xBA, 0xC0, 0xD6, 0xD8, 0xF6, 0xF8, 0x2AF, 0x370, 0x373, 0x376, 0x377, 0x37B, 0x37D, 0x37F, 0x37F, 0x386, 0x386, 0x388, 0x38A, 0x38C, 0x38C, 0x38E, 0x3A1, 0x3A3, 0x3F5, 0x3F7, 0x481, 0x48A, 0x52F, 0x5D0, 0x5EA, 0x620, 0x64A, 0x904, 0x939, 0x3041, 0x3096, 0x30A1, 0x30FA, 0x4E00, 0x9FFF, 0xAC00, 0xD7A3]
def digitL : List Int := [0x30, 0x39, 0x660, 0x669, 0x966, 0x96F, 0xFF10, 0xFF19]
def markL : List Int := [0x300, 0x36F, 0x483, 0x489, 0x591, 0x5BD, 0x64B, 0x65F, 0x93C, 0x93C, 0x20D0, 0x20F0, 0xFE20, 0xFE2F]
def letterB (r : Int) : Bool := amongB r letterL
def digitB (r : Int) : Bool := amongB r digitL
def markB (r : Int) : Bool := amongB r markL
def blankB (r : Int) : Bool := amongB r [9, 13, 32, 32, 0x85, 0x85, 0xA0, 0xA0, 0x2000, 0x200A, 0x2028, 0x2028, 0x2029, 0x2029, 0x3000, 0x3000]
theorem letterB_iff (r : Int) : (letterB r = true) = ((0x41 ≤ r ∧ r ≤ 0x5A) ∨ (0x61 ≤ r ∧ r ≤ 0x7A) ∨ (0xAA ≤ r ∧ r ≤ 0xAA) ∨ (0xB5 ≤ r ∧ r ≤ 0xB5) ∨ (0xBA ≤ r ∧ r ≤ 0xBA) ∨ (0xC0 ≤ r ∧ r ≤ 0xD6) ∨ (0xD8 ≤ r ∧ r ≤ 0xF6) ∨ (0xF8 ≤ r ∧ r ≤ 0x2AF) ∨ (0x370 ≤ r ∧ r ≤ 0x373) ∨ (0x376 ≤ r ∧ r ≤ 0x377) ∨ (0x37B ≤ r ∧ r ≤ 0x37D) ∨ (0x37F ≤ r ∧ r ≤ 0x37F) ∨ (0x386 ≤ r ∧ r ≤ 0x386) ∨ (0x388 ≤ r ∧ r ≤ 0x38A) ∨ (0x38C ≤ r ∧ r ≤ 0x38C) ∨ (0x38E ≤ r ∧ r ≤ 0x3A1) ∨ (0x3A3 ≤ r ∧ r ≤ 0x3F5) ∨ (0x3F7 ≤ r ∧ r ≤ 0x481) ∨ (0x48A ≤ r ∧ r ≤ 0x52F) ∨ (0x5D0 ≤ r ∧ r ≤ 0x5EA) ∨ (0x620 ≤ r ∧ r ≤ 0x64A) ∨ (0x904 ≤ r ∧ r ≤ 0x939) ∨ (0x3041 ≤ r ∧ r ≤ 0x3096) ∨ (0x30A1 ≤ r ∧ r ≤ 0x30FA) ∨ (0x4E00 ≤ r ∧ r ≤ 0x9FFF) ∨ (0xAC00 ≤ r ∧ r ≤ 0xD7A3)) := by
  simp [letterB, letterL, amongB, within]
theorem digitB_iff (r : Int) : (digitB r = true) = ((0x30 ≤ r ∧ r ≤ 0x39) ∨ (0x660 ≤ r ∧ r ≤ 0x669) ∨ (0x966 ≤ r ∧ r ≤ 0x96F) ∨ (0xFF10 ≤ r ∧ r ≤ 0xFF19)) := by
  simp [digitB, digitL, amongB, within]
theorem markB_iff (r : Int) : (markB r = true) = ((0x300 ≤ r ∧ r ≤ 0x36F) ∨ (0x483 ≤ r ∧ r ≤ 0x489) ∨ (0x591 ≤ r ∧ r ≤ 0x5BD) ∨ (0x64B ≤ r ∧ r ≤ 0x65F) ∨ (0x93C ≤ r ∧ r ≤ 0x93C) ∨ (0x20D0 ≤ r ∧ r ≤ 0x20F0) ∨ (0xFE20 ≤ r ∧ r ≤ 0xFE2F)) := by
  simp [markB, markL, amongB, within]
theorem blankB_iff (r : Int) : (blankB r = true) = ((9 ≤ r ∧ r ≤ 13) ∨ (32 ≤ r ∧ r ≤ 32) ∨ (0x85 ≤ r ∧ r ≤ 0x85) ∨ (0xA0 ≤ r ∧ r ≤ 0xA0) ∨ (0x2000 ≤ r ∧ r ≤ 0x200A) ∨ (0x2028 ≤ r ∧ r ≤ 0x2028) ∨ (0x2029 ≤ r ∧ r ≤ 0x2029) ∨ (0x3000 ≤ r ∧ r ≤ 0x3000)) := by
  simp [blankB, amongB, within]

/-- The lower form of a rune. -/
def lowerR (r : Int) : Int :=
  if amongB r [0x41, 0x5A, 0xC0, 0xD6, 0xD8, 0xDE, 0x391, 0x3A1, 0x3A3, 0x3AB, 0x410, 0x42F] then r + 0x20
  else if amongB r [0x100, 0x12F, 0x132, 0x137, 0x14A, 0x177, 0x460, 0x481, 0x48A, 0x4BF, 0x4D0, 0x52F] then r - r % 2 + 1
  else if amongB r [0x139, 0x148, 0x179, 0x17E, 0x4C1, 0x4CE] then r + r % 2
  else if amongB r [0x388, 0x38A] then r + 0x25
  else if amongB r [0x38E, 0x38F] then r + 0x3F
  else if amongB r [0x400, 0x40F] then r + 0x50
  else if r = 0x178 then 0xFF
  else if r = 0x4C0 then 0x4CF
  else if r = 0x386 then 0x3AC
  else if r = 0x38C then 0x3CC
  else r
theorem among_iff1 (r a b : Int) : (amongB r [a, b] = true) = (a ≤ r ∧ r ≤ b) := by simp [amongB, within]
theorem among_iff3 (r a b c d e f : Int) : (amongB r [a, b, c, d, e, f] = true) = ((a ≤ r ∧ r ≤ b) ∨ (c ≤ r ∧ r ≤ d) ∨ (e ≤ r ∧ r ≤ f)) := by simp [amongB, within]
theorem among_iff6 (r a b c d e f g h i j k l : Int) : (amongB r [a, b, c, d, e, f, g, h, i, j, k, l] = true) = ((a ≤ r ∧ r ≤ b) ∨ (c ≤ r ∧ r ≤ d) ∨ (e ≤ r ∧ r ≤ f) ∨ (g ≤ r ∧ r ≤ h) ∨ (i ≤ r ∧ r ≤ j) ∨ (k ≤ r ∧ r ≤ l)) := by simp [amongB, within]
theorem lowerR_range (r : Int) (h0 : 0 ≤ r) (h1 : r ≤ 0x10FFFF) : 0 ≤ lowerR r ∧ lowerR r ≤ 0x10FFFF := by
  unfold lowerR
  simp only [among_iff1, among_iff3, among_iff6]
  split
  · omega
  split
  · omega
  split
  · omega
  split
  · omega
  split
  · omega
  split
  · omega
  repeat (split; · omega)
  omega

end Go.Proofs.YtfmopmjgohopeaaGreatDoor

/- The runes of a text, by the model's own decoder: how wide they are, where they begin. No program stands here. -/
namespace Go.Proofs.YtfmopmjgohopeaaGreatDoor
open Rep (rep)
open Go.RowKit

def rn (s : ByteArray) (i : Nat) : Nat := (Utf8.decode s i).1
def wd (s : ByteArray) (i : Nat) : Nat := (Utf8.decode s i).2
theorem decodeGo_tail (s : ByteArray) (pos : Nat) (h : pos < s.size) : Lib.decodeGo (s.extract pos s.size) = Utf8.decode s pos := by
  have hx : (s.extract pos s.size).data.toList = s.data.toList.drop pos := by
    rw [Lib.extract_data, List.take_of_length_le (by rw [List.length_drop, ← Lib.size_eq]; omega)]
  have hsz : (s.extract pos s.size).size ≠ 0 := by rw [Lib.size_eq, hx, List.length_drop, ← Lib.size_eq]; omega
  unfold Lib.decodeGo
  rw [if_neg hsz, ← Lib.decodeL_drop s pos, ← hx]
  rfl
theorem wd_pos {s : ByteArray} {i : Nat} (h : i < s.size) : 1 ≤ wd s i := by
  unfold wd
  by_cases ha : (s[i]'h).toNat < 128
  · rw [decode_ascii s i h ha]; exact Nat.le_refl _
  · exact (decode_high s i h (by omega)).2
theorem wd_fit {s : ByteArray} {i : Nat} (h : i < s.size) : i + wd s i ≤ s.size := by
  unfold wd Utf8.decode
  simp only []
  repeat' split
  all_goals simp_all
  all_goals omega
theorem wd_le (s : ByteArray) (i : Nat) : wd s i ≤ 4 := by
  unfold wd Utf8.decode
  simp only []
  repeat' split
  all_goals simp
theorem rn_le (s : ByteArray) (i : Nat) : rn s i ≤ 0x10FFFF := by
  have hb : ∀ k, (s.get! (i + k)).toNat < 256 := fun k => (s.get! (i + k)).toNat_lt
  have h0 := hb 0; have h1 := hb 1; have h2 := hb 2; have h3 := hb 3
  unfold rn Utf8.decode
  simp only []
  repeat' split
  all_goals simp_all [Utf8.runeError, Utf8.valid]
  all_goals omega

def atsF (s : ByteArray) : Nat → Nat → List Nat
  | 0, _ => []
  | f + 1, i => if i < s.size then i :: atsF s f (i + wd s i) else []
theorem atsF_fuel (s : ByteArray) : ∀ f g i, s.size ≤ i + f → s.size ≤ i + g → atsF s f i = atsF s g i
  | 0, 0, _, _, _ => rfl
  | 0, g + 1, i, h, _ => by rw [atsF, atsF, if_neg (by omega)]
  | f + 1, 0, i, _, h => by rw [atsF, atsF, if_neg (by omega)]
  | f + 1, g + 1, i, h, h' => by
    rw [atsF, atsF]
    by_cases hi : i < s.size
    · have := wd_pos hi
      rw [if_pos hi, if_pos hi, atsF_fuel s f g (i + wd s i) (by omega) (by omega)]
    · rw [if_neg hi, if_neg hi]
/-- Where the runes from place i on begin. -/
def atsFrom (s : ByteArray) (i : Nat) : List Nat := atsF s (s.size - i) i
def ats (s : ByteArray) : List Nat := atsFrom s 0
theorem atsFrom_cons {s : ByteArray} {i : Nat} (h : i < s.size) : atsFrom s i = i :: atsFrom s (i + wd s i) := by
  unfold atsFrom
  rw [show s.size - i = (s.size - i - 1) + 1 by omega, atsF, if_pos h]
  have := wd_pos h
  rw [atsF_fuel s _ (s.size - (i + wd s i)) (i + wd s i) (by omega) (by omega)]
theorem atsFrom_nil {s : ByteArray} {i : Nat} (h : s.size ≤ i) : atsFrom s i = [] := by
  unfold atsFrom
  rw [show s.size - i = 0 by omega]; rfl
/-- The places of a text: where its runes begin, and its length. -/
def places (s : ByteArray) : List Nat := ats s ++ [s.size]
theorem atsF_ge (s : ByteArray) : ∀ f i, ∀ x ∈ atsF s f i, i ≤ x ∧ x < s.size
  | 0, _, _, h => by simp [atsF] at h
  | f + 1, i, x, h => by
    rw [atsF] at h
    by_cases hi : i < s.size
    · rw [if_pos hi] at h
      rcases List.mem_cons.1 h with rfl | h
      · omega
      · have := atsF_ge s f _ x h
        omega
    · rw [if_neg hi] at h; simp at h
theorem atsF_len (s : ByteArray) : ∀ f i, (atsF s f i).length ≤ s.size - i
  | 0, _ => by simp [atsF]
  | f + 1, i => by
    rw [atsF]
    by_cases hi : i < s.size
    · rw [if_pos hi, List.length_cons]
      have := atsF_len s f (i + wd s i)
      have := wd_pos hi
      omega
    · rw [if_neg hi]; simp
theorem ats_len (s : ByteArray) : (ats s).length ≤ s.size := by have := atsF_len s (s.size - 0) 0; simpa [ats, atsFrom] using this
/-- What may come next in a row that begins as the places do. -/
theorem ats_next {s : ByteArray} {pre : List Nat} {x : Nat} (h : pre ++ [x] <+: ats s) : ∀ i, ats s = pre ++ atsFrom s i → i = x ∧ x < s.size := by
  intro i hi
  obtain ⟨t, ht⟩ := h
  rw [hi, List.append_assoc, List.append_cancel_left_eq] at ht
  by_cases hlt : i < s.size
  · rw [atsFrom_cons hlt] at ht
    simp at ht
    omega
  · rw [atsFrom_nil (by omega)] at ht
    simp at ht
end Go.Proofs.YtfmopmjgohopeaaGreatDoor

/- The walks of fold.Next, fold.Runes and of the iterator that it hands back. -/
namespace Go.Proofs.YtfmopmjgohopeaaGreatDoor
open Rep (rep)
open Go.RowKit Go.Shelf

attribute [local go_sem] Oper.semAt_some

/-- The two tables of unicode/utf8, as their initialisers lay them. -/
def Tabs (w : World) : Prop := Lib.Utf8Tabs 3 4 w
theorem Tabs.on {w w' : World} (h : Tabs w) (hb : Below w.heap.size w w') : Tabs w' := Utf8Tabs_below h hb

set_option maxHeartbeats 400000 in
theorem next_any (s : ByteArray) (i : Nat) (hi : i < s.size) (hs : s.size ≤ 9223372036854775807) (w : World) (hT : Tabs w) :
    Calls Tryz.prog 362 #[.string s, .int .i64 i] w fun e w' => e = .returned (.tuple #[.int .i32 (rn s i), .int .i64 (wd s i)]) ∧ Below w.heap.size w w' := by
  have hd := decodeGo_tail s i hi
  have h1 : (i : Int) < (s.size : Int) := by omega
  have h2 : ¬ (s.size : Int) ≤ (i : Int) := by omega
  have Hd := Lib.hid hd
  clear hd
  go_enter Tryz.func362, Tryz.ntmps362
  go_wp2_with (go_at_call 384; refine (Tryz.utf8_DecodeRuneInString _ _ hT).mono ?_; rw [Hd.out]; rintro e w' ⟨rfl, hb⟩)
  go_ret2
  exact ⟨rfl, hb⟩

theorem runes_any (s : ByteArray) (w : World) :
    Calls Tryz.prog 324 #[.string s] w fun e w' => e = .returned (.func (.func 364) #[] #[.pointer (some ⟨w.heap.size, 0, none⟩)]) ∧ w' = w.alloc (.cells #[.string s] 9) := by
  have hmf : ∀ (fn : Fn) (first cap : Array Value) (w : World), (Instr.makeFunc fn first cap).run Tryz.prog w = .ok (.func fn first cap) w := fun _ _ _ _ => rfl
  go_enter Tryz.func324, Tryz.ntmps324
  go_wp2
  go_ret
  exact ⟨rfl, rfl⟩

/-- What a round of a range over the runes keeps. -/
def KeepsS (n0 Bs : Nat) (W W' : World) : Prop := Below n0 W W' ∧ ∀ v, Boxed W Bs 9 v → Boxed W' Bs 9 v
theorem KeepsS.trans {n0 Bs : Nat} {A B C : World} (h : KeepsS n0 Bs A B) (k : KeepsS n0 Bs B C) : KeepsS n0 Bs A C := ⟨h.1.trans k.1, fun v hv => k.2 v (h.2 v hv)⟩
theorem KeepsS.putObj {n0 Bs : Nat} {w : World} (hn : n0 ≤ w.heap.size) (W : World) (l : Nat) (o o' : Obj) (hl : w.heap.size ≤ l) (h : W.heap[l]? = some o) (hc : o.isCells = false) (hw : o.isWalk = false) : KeepsS n0 Bs W (W.putObj l o') := by
  refine ⟨?_, fun v hv => hv.kept (grownBy_putObj' W l o') (fun e => by cases e; rw [show W.heap[Bs]? = _ from hv] at h; cases h; cases hc)⟩
  exact (Below.refl _ W).grown (grownBy_putObj' W l o') (by have := (Array.getElem?_eq_some_iff.1 h).1; omega) (fun k e => by cases e; omega)
theorem Below.grownBy' {w w' : World} (h : Below w.heap.size w w') : w.grownBy w' none := ⟨h.os, h.tape, h.output, h.size, fun k hk _ => h.block k hk⟩
theorem Boxed.on {W W' : World} {B : Nat} {t : TypeId} {v : Value} (h : Boxed W B t v) (hb : Below W.heap.size W W') : Boxed W' B t v := h.kept (Below.grownBy' hb) (by simp)
theorem KeepsS.of_on {n0 Bs : Nat} {W W' : World} (hn : n0 ≤ W.heap.size) (hb : Below W.heap.size W W') : KeepsS n0 Bs W W' := ⟨hb.mono hn, fun _ hv => Boxed.on hv hb⟩

def runeEnc (s : ByteArray) (x : Nat) : Array Value := #[.int .i64 x, .int .i32 (rn s x)]

set_option maxRecDepth 100000 in
set_option maxHeartbeats 2000000 in
theorem runes1_in (n0 Bs : Nat) (s : ByteArray) (hs : s.size ≤ 9223372036854775800) (w0 : World) (hT : Tabs w0) (hn0 : w0.heap.size = n0) (d : Nat) (hd1 : 1 ≤ d)
    (l : Nat) (J Jx : List Nat → World → Prop) (W : World) (hW : Below n0 w0 W) (hJ : AbidesFrom W.heap.size J)
    (hY : ∀ pre x W1, J pre W1 → pre ++ [x] <+: ats s → YieldAt Fence.wide (d - 1) Tryz.prog l (runeEnc s x) W1 fun e W' =>
      (e = .returned (.bool true) ∧ J (pre ++ [x]) W' ∧ KeepsS n0 Bs W1 W') ∨ (e = .returned (.bool false) ∧ Jx (pre ++ [x]) W'))
    (hBs : Boxed W Bs 9 (.string s)) (h0 : J [] W) :
    CallsIn Fence.wide d Tryz.prog 364 #[.func (.yield l) #[] #[], .pointer (some ⟨Bs, 0, none⟩)] W fun e W' => (∃ v, e = .returned v) ∧
      ((∃ ys, ys = ats s ∧ J ys W') ∨ (∃ pre, pre <+: ats s ∧ Jx pre W')) := by
  have HT := Lib.hid hT
  have HY := Lib.hid hY
  have HJ := Lib.hid hJ
  have HW := Lib.hid hW
  have HBs := Lib.hid hBs
  have Hn0 := Lib.hid hn0
  clear hT hY hJ hW hBs hn0
  refine callsIn_of_wp Tryz.func364 rfl trivial ?_ rfl
  simp only [Tryz.ntmps364, List.size_toArray, List.length_cons, List.length_nil, Nat.reduceAdd, Nat.reduceSub, Array.replicate_succ, Array.replicate_zero, List.push_toArray, List.append_toArray, List.nil_append, List.cons_append]
  gi_wp2
  gi_loopw [3] (fun i wr => ∃ (pre : List Nat) (k : Nat), k ≤ s.size ∧ i = .int .i64 k ∧ ats s = pre ++ atsFrom s k ∧ J pre wr ∧ Below n0 w0 wr ∧ W.heap.size ≤ wr.heap.size ∧ Boxed wr Bs 9 (.string s)) (fun i _ => s.size - (intOf i).toNat)
  case atStart => exact ⟨[], 0, Nat.zero_le _, rfl, rfl, h0, HW.out, Nat.le_refl _, HBs.out⟩
  case round =>
    obtain ⟨pre, k, hk, rfl, hat, hJk, hbw, hsz, hBs⟩ := hrel
    have cS := hBs.cell
    have HJk := Lib.hid hJk
    have Hbw := Lib.hid hbw
    have HBs2 := Lib.hid hBs
    have Hat := Lib.hid hat
    clear hJk hbw hBs hat
    by_cases hlt : k < s.size
    · have hwf := wd_fit hlt
      have hwp := wd_pos hlt
      have hTr : Hid (Tabs wr) := HT.out.on (by rw [Hn0.out]; exact Hbw.out)
      gi_wp2_with (refine ⟨trivial, ?_⟩; gi_at_call 362; refine (callsIn_wide.2 (next_any s k hlt (by omega) _ hTr.out)).mono ?_; rintro e w2 ⟨rfl, hb2⟩; have hb3 : Hid (Below wr.heap.size wr w2) := hb2; clear hb2; have hJ2 := HJ.out _ _ _ _ HJk.out (Below.grownBy' hb3.out) (fun _ e => by cases e); have hpre : pre ++ [k] <+: ats s := (by rw [Hat.out, atsFrom_cons hlt]; exact ⟨atsFrom s (k + wd s k), by simp⟩); obtain ⟨fn, tmps, assign, body, hy, hR⟩ := HY.out _ _ w2 hJ2 hpre; simp only [runeEnc] at hy; have HR := Lib.hid hR; clear hJ2 hR hpre)
      refine HR.out.mono ?_
      rintro e W3 (⟨rfl, hJ3, hk3⟩ | ⟨rfl, hJx3⟩)
      · have Hk3 := Lib.hid hk3
        have HJ3 := Lib.hid hJ3
        clear hk3 hJ3
        gi_wp2
        go_roundw
        case rel => exact ⟨pre ++ [k], k + wd s k, by omega, by go_num, by rw [Hat.out, atsFrom_cons hlt]; simp, HJ3.out, (Hbw.out.trans (hb3.out.mono (Hn0.out ▸ Hbw.out.size))).trans Hk3.out.1, Nat.le_trans (Nat.le_trans hsz hb3.out.size) Hk3.out.1.size, Hk3.out.2 _ (Boxed.on HBs2.out hb3.out)⟩
        case measure => simp [intOf]; omega
      · gi_wp2
        refine bodyPost_ret (results_none rfl _ _ _) rfl ?_
        refine ⟨⟨_, rfl⟩, .inr ⟨_, ?_, hJx3⟩⟩
        rw [Hat.out, atsFrom_cons hlt]
        exact ⟨atsFrom s (k + wd s k), by simp⟩
    · obtain rfl : k = s.size := by omega
      have hfin : Hid (ats s = pre) := by show _ = _; rw [Hat.out, atsFrom_nil (Nat.le_refl _), List.append_nil]
      gi_wp2
      go_end0
      exact ⟨⟨_, rfl⟩, .inl ⟨_, rfl, by rw [hfin.out]; exact HJk.out⟩⟩

theorem runes_stops (n0 Bs : Nat) (s : ByteArray) (hs : s.size ≤ 9223372036854775800) (w0 : World) (hT : Tabs w0) (hn0 : w0.heap.size = n0) (d : Nat) (hd1 : 1 ≤ d) (W0 : World) (hW0 : Below n0 w0 W0) (hBs : Boxed W0 Bs 9 (.string s)) :
    SeqOk Fence.wide d Tryz.prog 364 #[.pointer (some ⟨Bs, 0, none⟩)] (runeEnc s) (KeepsS n0 Bs) (fun ys => ys = ats s) (fun pre => pre <+: ats s) (fun pre x => pre ++ [x] <+: ats s) W0 :=
  fun l J Jx W hW hJ _ hY h0 => runes1_in n0 Bs s hs w0 hT hn0 d hd1 l J Jx W (hW0.trans (hW.mono (hn0 ▸ hW0.size))) hJ hY (Boxed.on hBs hW) h0
end Go.Proofs.YtfmopmjgohopeaaGreatDoor

/- Laws of append over what reads as plain data: one element behind a row of the call's own; numbers copied into a row of the call's own. No program stands here. -/
set_option linter.unusedVariables false
set_option linter.unusedSimpArgs false
namespace Go.Proofs.YtfmopmjgohopeaaGreatDoor
open Rep (rep)
open Go.RowKit

section
variable {P : Program} {w : World}

theorem rowOfBlk {B : Nat} {e : TypeId} {cs : Array Value} (h : Blk w B e cs) (m size : Nat) (hs : cs.size = m * size) : Reads w w.heap.size size (some ⟨B, 0, none⟩) m cs.toList := by
  refine ⟨by simpa using hs, fun _ => ⟨_, rfl, h.lt, fun j u hu => ?_⟩⟩
  rw [addr_head, h.cell j]
  simpa using hu

/-- append(out, y), y just laid in a block of its own. -/
theorem wpList_push {α : Type} [Rep α] {D : Nat → Prop} {ops : Array Oper} {rest : List Oper} {o : Oper} {a : Act} {Q : Exit → Act → World → Prop} (hgd : o.guard = none) (s x : Operand) (t : TypeId)
    (ho : o.op = .call { callee := .builtin .append, args := #[s, x], argTypes := #[t, t] })
    (base : Nat) (e : TypeId) (i : TypeInfo) (z : Value) (bytes : Nat) (ht : P.underlying t = some (.slice e)) (hi : P.info? e = some i) (hz : i.zero = some z)
    (hsize : i.size = Rep.size α) (hby : i.bytes = bytes) (hzs : z.cells.size = Rep.size α)
    (v : Value) (xs : List α) (hs : a.eval s = v) (hown : Own D w base e v xs)
    (B : Nat) (cs : Array Value) (y : α) (hx : a.eval x = .slice (some ⟨B, 0, none⟩) 1 1) (hblk : Blk w B e cs) (hy : rep w (Fr D w v) cs.toList y)
    (h63 : xs.length + 1 ≤ 9223372036854775807) (hbytes : (xs.length + 1) * bytes ≤ 140737488355328) (hbase : base ≤ w.heap.size)
    (h : ∀ v' w', Own D w' base e v' (xs ++ [y]) → w.grownBy w' v.ownBlock → Below base w w' → wpList P ops Q rest (a.put o.dst v') w') : wpList P ops Q (o :: rest) a w := by
  have hown0 := hown
  obtain ⟨css, hl, hr, hr2⟩ := hown
  have hsz : cs.size = 1 * Rep.size α := by have := Rep.len hy; simpa using this
  refine wpList_append_any w hgd s x t ho base e i z (Rep.size α) bytes ht hi hz hsize hby hzs Rep.pos v xs.length css.flatten hs hr2 w.heap.size (some ⟨B, 0, none⟩) 1 1 cs.toList hx (rowOfBlk hblk 1 _ hsz) (fun u hu => Rep.one hy hu) h63 hbytes hbase ?_
  intro v' w' ho' hg hat
  exact h v' w' (own_push hl hr hy ho' hg hat) hg ((Below.refl _ _).grown hg hbase (fun k hk => by
    rcases hown0.from_ with e1 | ⟨k', e1, hk'⟩
    · rw [e1] at hk; cases hk
    · rw [e1] at hk; cases hk; exact hk'))

/-- append(nil, l...), append([]int64{}, l...): the numbers in a row of the call's own. -/
theorem wpList_copyInts {ops : Array Oper} {rest : List Oper} {o : Oper} {a : Act} {Q : Exit → Act → World → Prop} (hgd : o.guard = none) (s x : Operand) (t : TypeId)
    (ho : o.op = .call { callee := .builtin .append, args := #[s, x], argTypes := #[t, t] })
    (base : Nat) (e : TypeId) (i : TypeInfo) (ht : P.underlying t = some (.slice e)) (hi : P.info? e = some i) (hz : i.zero = some (.int .i64 0))
    (hsize : i.size = 1) (hby : i.bytes = 8)
    (v : Value) (hs : a.eval s = v) (hv : w.ownsRow base e 1 v 0 [])
    (A : Option Addr) (n c : Nat) (xs : List Int) (hx : a.eval x = .slice A n c) (hr : RepList w (· < w.heap.size) A n c xs)
    (hn : n ≤ 17592186044416) (hbase : base ≤ w.heap.size)
    (h : ∀ A' c' w', w'.ownsRow base e 1 (.slice A' n c') n (ints xs) → RepList w' (fun b => base ≤ b ∧ b < w'.heap.size) A' n c' xs → w.grownBy w' v.ownBlock → Below base w w' → wpList P ops Q rest (a.put o.dst (.slice A' n c')) w') : wpList P ops Q (o :: rest) a w := by
  refine wpList_append_any w hgd s x t ho base e i (.int .i64 0) 1 8 ht hi hz hsize hby rfl (by omega) v 0 [] hs hv w.heap.size A n c (ints xs) hx hr.reads_ints (ints_one xs) (by unfold maxLen; omega) (by omega) hbase ?_
  intro v' w' ho' hg hat
  simp only [Nat.zero_add, List.nil_append] at ho'
  obtain ⟨A', c', rfl⟩ := own_slice ho'
  exact h A' c' w' ho' (own_reads ho' hr.in64) hg ((Below.refl _ _).grown hg hbase (fun k hk => by
    rcases own_from hv with e1 | ⟨k', e1, hk'⟩
    · rw [e1] at hk; cases hk
    · rw [e1] at hk; cases hk; exact hk'))
end

/-- An empty row in a block that has just been laid. -/
theorem own_empty (w : World) (e : TypeId) (size : Nat) : (w.alloc (.cells #[] e)).ownsRow w.heap.size e size (.slice (some ⟨w.heap.size, 0, none⟩) 0 0) 0 [] :=
  World.ownsRow_lit (base := w.heap.size) (e := e) (size := size) w #[] 0 (Nat.le_refl _) (by simp [maxLen]) (by simp)

/-! ### lists that are lent: a mark stands behind them -/
/-- Behind the n elements of a slice stands a mark, within its capacity. -/
def MarkAt (w : World) (F : Nat → Prop) (size : Nat) (A : Option Addr) (n c : Nat) (mark : Value) : Prop :=
  n + 1 ≤ c ∧ ∃ b off, A = some ⟨b, off, none⟩ ∧ F b ∧ w.cell? ⟨b, off + n * size, none⟩ = some mark
theorem MarkAt.keep {w w' : World} {F F' : Nat → Prop} {size : Nat} {A : Option Addr} {n c : Nat} {mark : Value} (h : MarkAt w F size A n c mark) (hc : ∀ p : Addr, F p.block → w'.cell? p = w.cell? p) (hF : ∀ b, F b → F' b) : MarkAt w' F' size A n c mark := by
  obtain ⟨h1, b, off, e, hb, hm⟩ := h
  exact ⟨h1, b, off, e, hF b hb, (hc _ hb).trans hm⟩
theorem MarkAt.on {w w' : World} {size : Nat} {A : Option Addr} {n c : Nat} {mark : Value} (h : MarkAt w (· < w.heap.size) size A n c mark) (hb : Below w.heap.size w w') : MarkAt w' (· < w'.heap.size) size A n c mark :=
  h.keep (fun _ hp => hb.cell hp) (fun b h => Nat.lt_of_lt_of_le h hb.size)

/-- Numbers that were lent. -/
structure LInts where
  val : List Int
instance : Rep LInts where
  size := 1
  pos := by decide
  rep w F cs x := ∃ A n c, cs = [.slice A n c] ∧ RepList w F A n c x.val ∧ MarkAt w F 1 A n c (.int .i64 (-7171))
  len := by rintro _ _ _ _ ⟨A, n, c, rfl, _⟩; rfl
  keep := by rintro _ _ _ _ _ _ ⟨A, n, c, rfl, h, hm⟩ hc hF; exact ⟨A, n, c, rfl, h.keep hc hF, hm.keep hc hF⟩
  one := by rintro _ _ _ _ _ ⟨A, n, c, rfl, _⟩ hu; simp at hu; subst hu; rfl

/-- A row of the call's own behind which a mark is laid: it reads as before, with the mark behind it. -/
theorem lent_of_push {α : Type} [Rep α] {D : Nat → Prop} {w w' : World} {base : Nat} {e : TypeId} {v : Value} {A' : Option Addr} {c' : Nat} {xs : List α} {css : List (List Value)} {mcs : List Value} {mark : Value}
    (hl : css.length = xs.length) (hr : ∀ (k : Nat) (cs : List Value) (x : α), css[k]? = some cs → xs[k]? = some x → rep w (Fr D w v) cs x)
    (hm : mcs[0]? = some mark) (ho' : w'.ownsRow base e (Rep.size α) (.slice A' (xs.length + 1) c') (xs.length + 1) (css.flatten ++ mcs))
    (hg : w.grownBy w' v.ownBlock) : RepList w' (fun b => (D b ∨ base ≤ b) ∧ b < w'.heap.size) A' xs.length c' xs ∧ MarkAt w' (fun b => (D b ∨ base ≤ b) ∧ b < w'.heap.size) (Rep.size α) A' xs.length c' mark := by
  have hlen := Own.lens hl hr
  have hcap := own_cap ho'
  obtain ⟨g, cap, hv, hb, hlt⟩ := ho'.form (by omega)
  injection hv with hA _ _
  subst hA
  have hfl : css.flatten.length = xs.length * Rep.size α := by rw [flat_length css hlen, hl]
  refine ⟨⟨rfl, by omega, hcap.2, fun k x hx => ?_⟩, by omega, g, 0, rfl, ⟨.inr hb, hlt⟩, ?_⟩
  · have hk := lt_of_get? hx
    refine ⟨g, 0, rfl, ⟨.inr hb, hlt⟩, css[k]'(by omega), Rep.keep (hr k _ x (List.getElem?_eq_getElem (by omega)) hx) (fun p hp => World.cell?_of_block (hg.block p.block hp.2.1 hp.2.2)) (fun b hb => ⟨.inl hb.1, Nat.lt_of_lt_of_le hb.2.1 hg.size⟩), fun j u hu => ?_⟩
    have hj : j < Rep.size α := by
      have := hlen (css[k]'(by omega)) (List.getElem_mem _)
      have := lt_of_get? hu
      omega
    have hf := flat_get css k j _ hlen (List.getElem?_eq_getElem (by omega)) hj
    have hlt2 : k * Rep.size α + j < css.flatten.length := by have := lt_of_get? (hf.trans hu); exact this
    have hc := ho'.cells (g := g) rfl (k * Rep.size α + j) u (by rw [List.getElem?_append_left hlt2, hf]; exact hu)
    rw [addr_head] at hc
    rw [Nat.zero_add]
    exact hc
  · have hc := ho'.cells (g := g) rfl (xs.length * Rep.size α) mark (by rw [List.getElem?_append_right (by omega), hfl, Nat.sub_self]; exact hm)
    rw [addr_head] at hc
    rw [Nat.zero_add]
    exact hc

section
variable {P : Program} {w : World}
/-- append(full, mark), the mark just laid in a block of its own. -/
theorem wpList_mark {α : Type} [Rep α] {D : Nat → Prop} {ops : Array Oper} {rest : List Oper} {o : Oper} {a : Act} {Q : Exit → Act → World → Prop} (hgd : o.guard = none) (s x : Operand) (t : TypeId)
    (ho : o.op = .call { callee := .builtin .append, args := #[s, x], argTypes := #[t, t] })
    (base : Nat) (e : TypeId) (i : TypeInfo) (z : Value) (bytes : Nat) (ht : P.underlying t = some (.slice e)) (hi : P.info? e = some i) (hz : i.zero = some z)
    (hsize : i.size = Rep.size α) (hby : i.bytes = bytes) (hzs : z.cells.size = Rep.size α)
    (v : Value) (xs : List α) (hs : a.eval s = v) (hown : Own D w base e v xs)
    (B : Nat) (cs : Array Value) (mark : Value) (hx : a.eval x = .slice (some ⟨B, 0, none⟩) 1 1) (hblk : Blk w B e cs) (hsz : cs.size = Rep.size α) (h1 : ∀ u ∈ cs.toList, u.oneCell' = true) (hm : cs.toList[0]? = some mark)
    (h63 : xs.length + 1 ≤ 9223372036854775807) (hbytes : (xs.length + 1) * bytes ≤ 140737488355328) (hbase : base ≤ w.heap.size)
    (h : ∀ A' c' w', RepList w' (fun b => (D b ∨ base ≤ b) ∧ b < w'.heap.size) A' xs.length c' xs → MarkAt w' (fun b => (D b ∨ base ≤ b) ∧ b < w'.heap.size) (Rep.size α) A' xs.length c' mark → Below base w w' → wpList P ops Q rest (a.put o.dst (.slice A' (xs.length + 1) c')) w') : wpList P ops Q (o :: rest) a w := by
  have hown0 := hown
  obtain ⟨css, hl, hr, hr2⟩ := hown
  refine wpList_append_any w hgd s x t ho base e i z (Rep.size α) bytes ht hi hz hsize hby hzs Rep.pos v xs.length css.flatten hs hr2 w.heap.size (some ⟨B, 0, none⟩) 1 1 cs.toList hx (rowOfBlk hblk 1 _ (by omega)) h1 h63 hbytes hbase ?_
  intro v' w' ho' hg hat
  obtain ⟨A', c', rfl⟩ := own_slice ho'
  obtain ⟨q1, q2⟩ := lent_of_push hl hr hm ho' hg
  exact h A' c' w' q1 q2 ((Below.refl _ _).grown hg hbase (fun k hk => by
    rcases hown0.from_ with e1 | ⟨k', e1, hk'⟩
    · rw [e1] at hk; cases hk
    · rw [e1] at hk; cases hk; exact hk'))
end

end Go.Proofs.YtfmopmjgohopeaaGreatDoor

/- More plain data in memory: numbers of 32 bits, bytes, pairs; a list in a block that has just been laid. No program stands here. -/
namespace Go.Proofs.YtfmopmjgohopeaaGreatDoor
open Rep (rep)
open Go.RowKit

/-- A number that lies as an int32. -/
structure I32 where
  val : Int
instance : Rep I32 where
  size := 1
  pos := by decide
  rep _ _ cs x := cs = [.int .i32 x.val]
  len := by rintro _ _ _ _ rfl; rfl
  keep := fun h _ _ => h
  one := by rintro _ _ _ _ _ rfl hu; simp at hu; subst hu; rfl
instance : Rep UInt8 where
  size := 1
  pos := by decide
  rep _ _ cs x := cs = [.int .u8 (x.toNat : Int)]
  len := by rintro _ _ _ _ rfl; rfl
  keep := fun h _ _ => h
  one := by rintro _ _ _ _ _ rfl hu; simp at hu; subst hu; rfl
theorem ElemAt.i32 {w : World} {F : Nat → Prop} {b off k : Nat} {x : I32} (h : ElemAt w F b off k x) : w.cell? ⟨b, off + k, none⟩ = some (.int .i32 x.val) := by
  obtain ⟨cs, rfl, hc⟩ := h
  have := hc 0 _ rfl
  simpa only [show Rep.size I32 = 1 from rfl, Nat.mul_one, Nat.add_zero] using this
theorem ElemAt.u8 {w : World} {F : Nat → Prop} {b off k : Nat} {x : UInt8} (h : ElemAt w F b off k x) : w.cell? ⟨b, off + k, none⟩ = some (.int .u8 (x.toNat : Int)) := by
  obtain ⟨cs, rfl, hc⟩ := h
  have := hc 0 _ rfl
  simpa only [show Rep.size UInt8 = 1 from rfl, Nat.mul_one, Nat.add_zero] using this

/-- A list whose cells stand in a block that is known whole. -/
theorem RepList.of_blk {α : Type} [Rep α] {w : World} {F : Nat → Prop} {b : Nat} {t : TypeId} {css : List (List Value)} {xs : List α} {cs : Array Value} (h : Blk w b t cs) (hcs : cs.toList = css.flatten) (hl : css.length = xs.length)
    (hr : ∀ (k : Nat) (c : List Value) (x : α), css[k]? = some c → xs[k]? = some x → rep w F c x) (hF : F b) {n c : Nat} (hn : xs.length = n) (hc : n ≤ c) (hm : c ≤ 9223372036854775807) : RepList w F (some ⟨b, 0, none⟩) n c xs := by
  have hlen : ∀ c ∈ css, c.length = Rep.size α := by
    intro c hc
    obtain ⟨k, hk⟩ := List.getElem?_of_mem hc
    have hk2 : k < xs.length := by have := lt_of_get? hk; omega
    exact Rep.len (hr k c xs[k] hk (List.getElem?_eq_getElem hk2))
  refine RepList.of_elems hn hc hm hF (fun k x hx => ?_)
  have hk := lt_of_get? hx
  refine ⟨css[k]'(by omega), hr k _ x (List.getElem?_eq_getElem (by omega)) hx, fun j u hu => ?_⟩
  have hj : j < Rep.size α := by
    have := hlen (css[k]'(by omega)) (List.getElem_mem _)
    have := lt_of_get? hu
    omega
  rw [h.cell, Nat.zero_add, ← Array.getElem?_toList, hcs, flat_get css k j _ hlen (List.getElem?_eq_getElem (by omega)) hj]
  exact hu
def i32s (xs : List Int) : List I32 := xs.map I32.mk
theorem i32s_len (xs : List Int) : (i32s xs).length = xs.length := by simp [i32s]
theorem i32s_get {xs : List Int} {k : Nat} {x : I32} (h : (i32s xs)[k]? = some x) : xs[k]? = some x.val := by
  simp [i32s] at h
  obtain ⟨a, h1, rfl⟩ := h
  exact h1
/-- A row of numbers in a block that has just been laid. -/
theorem reads_i32s (w : World) (e : TypeId) (n : Nat) (xs : List Int) (h : xs.length = n) (hn : n ≤ 100000) : RepList (w.alloc (.cells (xs.map (Value.int .i32)).toArray e)) (· < (w.alloc (.cells (xs.map (Value.int .i32)).toArray e)).heap.size) (some ⟨w.heap.size, 0, none⟩) n n (i32s xs) := by
  refine RepList.of_blk (css := xs.map fun x => [Value.int .i32 x]) (Blk.new w e _) ?_ (by simp [i32s]) (fun k c x h1 h2 => ?_) (by simp) (by simp [i32s, h]) (Nat.le_refl _) (by omega)
  · clear h hn
    induction xs with
    | nil => rfl
    | cons a l ih => simp at ih ⊢; exact ih
  · have h3 := i32s_get h2
    rw [List.getElem?_map, h3] at h1
    simp at h1
    subst h1
    rfl
/-- Element k of a list, where it lies. -/
theorem RepList.at_b {α : Type} [Rep α] {w : World} {F : Nat → Prop} {b off n c k : Nat} {xs : List α} (h : RepList w F (some ⟨b, off, none⟩) n c xs) (hk : k < n) : ∃ x, Hid (xs[k]? = some x) ∧ ElemAt w F b off k x := by
  obtain ⟨b', off', x, e, hx, _, he⟩ := h.at_ hk
  cases e
  exact ⟨x, hx, he⟩
end Go.Proofs.YtfmopmjgohopeaaGreatDoor

/- Rows that a loop over an iterator fills: append within a fence; rows whose elements lie nowhere else go on wherever their own block has not turned. No program stands here. -/
namespace Go.Proofs.YtfmopmjgohopeaaGreatDoor
open Rep (rep)
open Go.RowKit

/-- append(out, y) within a fence, y just laid in a block of its own. -/
theorem wpListIn_push {α : Type} [Rep α] {F : Fence} {nF : Nat} {P : Program} {w : World} {D : Nat → Prop} {ops : Array Oper} {rest : List Oper} {o : Oper} {a : Act} {Q : Exit → Act → World → Prop} (hgd : o.guard = none) (s x : Operand) (t : TypeId)
    (ho : o.op = .call { callee := .builtin .append, args := #[s, x], argTypes := #[t, t] })
    (base : Nat) (e : TypeId) (i : TypeInfo) (z : Value) (bytes : Nat) (ht : P.underlying t = some (.slice e)) (hi : P.info? e = some i) (hz : i.zero = some z)
    (hsize : i.size = Rep.size α) (hby : i.bytes = bytes) (hzs : z.cells.size = Rep.size α)
    (v : Value) (xs : List α) (hs : a.eval s = v) (hown : Own D w base e v xs)
    (B : Nat) (cs : Array Value) (y : α) (hx : a.eval x = .slice (some ⟨B, 0, none⟩) 1 1) (hblk : Blk w B e cs) (hy : rep w (Fr D w v) cs.toList y)
    (h63 : xs.length + 1 ≤ 9223372036854775807) (hbytes : (xs.length + 1) * bytes ≤ 140737488355328) (hbase : base ≤ w.heap.size)
    (h : ∀ v' w', Own D w' base e v' (xs ++ [y]) → w.grownBy w' v.ownBlock → Below base w w' → wpListIn F nF P ops Q rest (a.put o.dst v') w') : wpListIn F nF P ops Q (o :: rest) a w := by
  have hown0 := hown
  obtain ⟨css, hl, hr, hr2⟩ := hown
  have hsz : cs.size = 1 * Rep.size α := by have := Rep.len hy; simpa using this
  refine wpListIn_append_own_at w hgd s x t ho base e i z (Rep.size α) bytes ht hi hz hsize hby hzs Rep.pos v xs.length css.flatten hs hr2 ⟨B, 0, none⟩ 1 1 cs.toList hx (by simpa using hsz) (fun j u hu => ?_) (fun u hu => Rep.one hy hu) h63 hbytes hbase ?_
  · rw [addr_head, hblk.cell j]; simpa using hu
  intro v' w' ho' hg _ hat
  exact h v' w' (own_push hl hr hy ho' hg hat) hg ((Below.refl _ _).grown hg hbase (fun k hk => by
    rcases hown0.from_ with e1 | ⟨k', e1, hk'⟩
    · rw [e1] at hk; cases hk
    · rw [e1] at hk; cases hk; exact hk'))


/-- No block at all. -/
abbrev Flat : Nat → Prop := fun _ => False
theorem own_flat {α : Type} [Rep α] {base : Nat} {e : TypeId} {W W' : World} {row : Option Nat} {v : Value} {xs : List α} (h : Own Flat W base e v xs) (hg : W.grownBy W' row) (hv : v.ownBlock = none ∨ v.ownBlock ≠ row) : Own Flat W' base e v xs := by
  obtain ⟨css, hl, hre, ho⟩ := h
  exact ⟨css, hl, fun k cs x h1 h2 => Rep.keep (hre k cs x h1 h2) (fun p hp => hp.1.elim) (fun b hb => hb.1.elim), ho.kept hg hv⟩
theorem own_push_flat {α : Type} [Rep α] {D : Nat → Prop} {w : World} {v : Value} {cs : List Value} {y : α} (h : rep w Flat cs y) : rep w (Fr D w v) cs y := Rep.more h (fun _ hb => hb.elim)
theorem own_ne_box {α : Type} [Rep α] {D : Nat → Prop} {base : Nat} {e t : TypeId} {W : World} {B : Nat} {v u : Value} {xs : List α} (h : Own D W base e v xs) (hb : Boxed W B t u) (hte : t ≠ e) : v.ownBlock = none ∨ v.ownBlock ≠ some B := by
  obtain ⟨_, _, _, ho⟩ := h
  exact .inr (fun e => hb.not_row hte ho e.symm)
/-- What is no cells is not an owned row's block. -/
theorem own_ne_other {α : Type} [Rep α] {D : Nat → Prop} {base : Nat} {e : TypeId} {W : World} {v : Value} {xs : List α} (h : Own D W base e v xs) {row : Option Nat} (hr : ∀ r, row = some r → ∃ o : Obj, W.heap[r]? = some o ∧ o.isCells = false) : v.ownBlock = none ∨ v.ownBlock ≠ row := by
  cases hob : v.ownBlock with
  | none => exact .inl rfl
  | some g =>
    refine .inr (fun e => ?_)
    obtain ⟨_, _, _, ho'⟩ := h
    obtain ⟨o, ho, hc⟩ := hr _ e.symm
    rcases ho'.2 with ⟨rfl, _⟩ | ⟨g', cap, cur, rfl, _, hgb, _⟩
    · cases hob
    · cases hob; rw [hgb] at ho; cases ho; cases hc
/-- An owned row within a box, carried from round to round: it is of the cells alone. -/
theorem boxedOwn_from {α β : Type} [Rep α] (n0 B : Nat) (t e : TypeId) (base : Nat) (f : β → List α) : OwnFrom n0 (fun (s : β) W => ∃ v, Boxed W B t v ∧ Own Flat W base e v (f s)) := by
  rintro s X Y row ⟨v, h1, h2⟩ hg hr
  refine ⟨v, h1.kept hg (fun e => ?_), own_flat h2 hg (own_ne_other h2 (fun r e => (hr r e).2))⟩
  obtain ⟨_, o, ho, hc⟩ := hr _ e.symm
  rw [show X.heap[_]? = _ from h1] at ho; cases ho; cases hc
theorem grownBy_setC (W : World) (p : Addr) (v : Value) : W.grownBy (W.setCell p v) (some p.block) :=
  ⟨rfl, rfl, rfl, by simp [World.setCell], fun k _ hk => Below.heap_setCell _ _ _ k (fun e => hk (by rw [e]))⟩
/-- An append onto an owned row within a box, and the store back. -/
theorem boxed_appended {α : Type} [Rep α] {W w1 w2 : World} {base B : Nat} {t e : TypeId} {v v' : Value} {xs ys : List α} (hb : Boxed W B t v) (ho : Own Flat W base e v xs) (hte : t ≠ e) (hg1 : W.grownBy w1 none) (hg2 : w1.grownBy w2 v.ownBlock) (ho' : Own Flat w2 base e v' ys) :
    Boxed w2 B t v ∧ Boxed (w2.setCell ⟨B, 0, none⟩ v') B t v' ∧ Own Flat (w2.setCell ⟨B, 0, none⟩ v') base e v' ys ∧ KeepsOthers W (w2.setCell ⟨B, 0, none⟩ v') := by
  have b1 := hb.kept hg1 (by simp)
  have o1 := own_flat ho hg1 (by cases v.ownBlock <;> simp)
  have hne := own_ne_box o1 b1 hte
  have b2 := b1.kept hg2 (by rcases hne with h | h; · rw [h]; simp
                             · exact fun e => h e.symm)
  refine ⟨b2, b2.set _, own_flat ho' (grownBy_setC _ _ _) (own_ne_box ho' b2 hte), ?_⟩
  refine ((KeepsOthers.of_grownBy hg1 (fun j o ej hj => by cases ej)).trans (KeepsOthers.of_grownBy hg2 (fun j o ej hj => ?_))).trans (KeepsOthers.setCell _ _ _)
  obtain ⟨_, _, _, hr⟩ := o1
  rcases hr.2 with ⟨hv, _⟩ | ⟨g, cap, cur, hv, _, hgb, _⟩
  · rw [hv] at ej; cases ej
  · rw [hv] at ej; cases ej; rw [hgb] at hj; cases hj; rfl
/-- The block for deferred calls lies as it lay behind a new block and an append onto an owned row. -/
theorem deferred_kept {α : Type} [Rep α] {D : Nat → Prop} {W w1 : World} {o : Obj} {k base : Nat} {e : TypeId} {v : Value} {xs : List α} (h : W.heap[k]? = some (.deferred (some []))) (hg : (W.alloc o).grownBy w1 v.ownBlock) (ho : Own D (W.alloc o) base e v xs) : w1.heap[k]? = some (.deferred (some [])) := by
  have hk := (Array.getElem?_eq_some_iff.1 h).1
  have h1 : (W.alloc o).heap[k]? = some (.deferred (some [])) := (Below.heap_alloc W o k hk).trans h
  refine (hg.block k (by simp; omega) (fun e => ?_)).trans h1
  obtain ⟨_, _, _, hr⟩ := ho
  rcases hr.2 with ⟨hv, _⟩ | ⟨g, cap, cur, hv, _, hgb, _⟩
  · rw [hv] at e; cases e
  · rw [hv] at e; cases e; rw [hgb] at h1; cases h1
/-- Two owned rows of two types lie in two blocks. -/
theorem own_ne_own {α β : Type} [Rep α] [Rep β] {D D' : Nat → Prop} {b1 b2 : Nat} {e1 e2 : TypeId} {W : World} {v u : Value} {xs : List α} {ys : List β} (h : Own D W b1 e1 v xs) (k : Own D' W b2 e2 u ys) (hte : e1 ≠ e2) : v.ownBlock = none ∨ v.ownBlock ≠ u.ownBlock := by
  cases hob : v.ownBlock with
  | none => exact .inl rfl
  | some g =>
    refine .inr (fun e => ?_)
    obtain ⟨_, _, _, hr⟩ := h
    obtain ⟨_, _, _, kr⟩ := k
    rcases hr.2 with ⟨rfl, _⟩ | ⟨g1, _, _, rfl, _, hgb, _⟩
    · cases hob
    · cases hob
      rcases kr.2 with ⟨rfl, _⟩ | ⟨g2, _, _, rfl, _, kgb, _⟩
      · cases e
      · cases e
        rw [hgb] at kgb
        cases kgb
        exact hte rfl
/-- append(out, y), y of plain parts that lie nowhere else, just laid in a block of its own. -/
theorem wpList_pushF {α : Type} [Rep α] {P : Program} {w : World} {ops : Array Oper} {rest : List Oper} {o : Oper} {a : Act} {Q : Exit → Act → World → Prop} (hgd : o.guard = none) (s x : Operand) (t : TypeId)
    (ho : o.op = .call { callee := .builtin .append, args := #[s, x], argTypes := #[t, t] })
    (base : Nat) (e : TypeId) (i : TypeInfo) (z : Value) (bytes : Nat) (ht : P.underlying t = some (.slice e)) (hi : P.info? e = some i) (hz : i.zero = some z)
    (hsize : i.size = Rep.size α) (hby : i.bytes = bytes) (hzs : z.cells.size = Rep.size α)
    (v : Value) (xs : List α) (hs : a.eval s = v) (hown : Own Flat w base e v xs)
    (B : Nat) (cs : Array Value) (y : α) (hx : a.eval x = .slice (some ⟨B, 0, none⟩) 1 1) (hblk : Blk w B e cs) (hy : rep w Flat cs.toList y)
    (h63 : xs.length + 1 ≤ 9223372036854775807) (hbytes : (xs.length + 1) * bytes ≤ 140737488355328) (hbase : base ≤ w.heap.size)
    (h : ∀ A' c' w', Own Flat w' base e (.slice A' (xs.length + 1) c') (xs ++ [y]) → w.grownBy w' v.ownBlock → Below base w w' → wpList P ops Q rest (a.put o.dst (.slice A' (xs.length + 1) c')) w') : wpList P ops Q (o :: rest) a w := by
  refine wpList_push hgd s x t ho base e i z bytes ht hi hz hsize hby hzs v xs hs hown B cs y hx hblk (own_push_flat hy) h63 hbytes hbase ?_
  intro v' w' ho' hg hb
  obtain ⟨A', c', rfl⟩ := ho'.form
  rw [show (xs ++ [y]).length = xs.length + 1 by simp] at ho' ⊢
  exact h A' c' w' ho' hg hb
theorem Own.drew {α : Type} [Rep α] {D : Nat → Prop} {w : World} {base : Nat} {e : TypeId} {v : Value} {xs : List α} (h : Own D w base e v xs) : Own D w.drew base e v xs := h.on ((Below.refl _ w).drew)
/-- The same in a region that draws its order. -/
theorem step_pushF {α : Type} [Rep α] {P : Program} {w : World} {ops : Array Oper} {o : Oper} {a : Act} {K : Act → World → Prop} {Q : Exit → Act → World → Prop} {E : Prop} (hgd : o.guard = none) (s x : Operand) (t : TypeId)
    (ho : o.op = .call { callee := .builtin .append, args := #[s, x], argTypes := #[t, t] })
    (base : Nat) (e : TypeId) (i : TypeInfo) (z : Value) (bytes : Nat) (ht : P.underlying t = some (.slice e)) (hi : P.info? e = some i) (hz : i.zero = some z)
    (hsize : i.size = Rep.size α) (hby : i.bytes = bytes) (hzs : z.cells.size = Rep.size α)
    (v : Value) (xs : List α) (hs : a.eval s = v) (hown : Own Flat w base e v xs)
    (B : Nat) (cs : Array Value) (y : α) (hx : a.eval x = .slice (some ⟨B, 0, none⟩) 1 1) (hblk : Blk w B e cs) (hy : rep w Flat cs.toList y)
    (h63 : xs.length + 1 ≤ 9223372036854775807) (hbytes : (xs.length + 1) * bytes ≤ 140737488355328) (hbase : base ≤ w.heap.size)
    (h : ∀ A' c' w', Own Flat w' base e (.slice A' (xs.length + 1) c') (xs ++ [y]) → w.grownBy w' v.ownBlock → Below base w w' → K (a.put o.dst (.slice A' (xs.length + 1) c')) w') :
    if Region.wanted o (yielded ops a.tmps) = true then Oper.wp P o a w K Q else E := by
  have hown0 := hown
  obtain ⟨css, hl, hr, hr2⟩ := hown
  have hyF : rep w (Fr Flat w v) cs.toList y := own_push_flat hy
  have hsz : cs.size = 1 * Rep.size α := by have := Rep.len hy; simpa using this
  refine step_append_any w hgd s x t ho base e i z (Rep.size α) bytes ht hi hz hsize hby hzs Rep.pos v xs.length css.flatten hs hr2 w.heap.size (some ⟨B, 0, none⟩) 1 1 cs.toList hx (rowOfBlk hblk 1 _ hsz) (fun u hu => Rep.one hy hu) h63 hbytes hbase ?_
  intro v' w' ho' hg hat
  have hp := own_push hl hr hyF ho' hg hat
  obtain ⟨A', c', rfl⟩ := hp.form
  rw [show (xs ++ [y]).length = xs.length + 1 by simp] at hp ⊢
  exact h A' c' w' hp hg (below_any (v' := v) (Below.refl _ _) hbase hown0.from_ hg)
/-- The same, and where the row lies behind it. -/
theorem step_pushG {α : Type} [Rep α] {P : Program} {w : World} {ops : Array Oper} {o : Oper} {a : Act} {K : Act → World → Prop} {Q : Exit → Act → World → Prop} {E : Prop} (hgd : o.guard = none) (s x : Operand) (t : TypeId)
    (ho : o.op = .call { callee := .builtin .append, args := #[s, x], argTypes := #[t, t] })
    (base : Nat) (e : TypeId) (i : TypeInfo) (z : Value) (bytes : Nat) (ht : P.underlying t = some (.slice e)) (hi : P.info? e = some i) (hz : i.zero = some z)
    (hsize : i.size = Rep.size α) (hby : i.bytes = bytes) (hzs : z.cells.size = Rep.size α)
    (v : Value) (xs : List α) (hs : a.eval s = v) (hown : Own Flat w base e v xs)
    (B : Nat) (cs : Array Value) (y : α) (hx : a.eval x = .slice (some ⟨B, 0, none⟩) 1 1) (hblk : Blk w B e cs) (hy : rep w Flat cs.toList y)
    (h63 : xs.length + 1 ≤ 9223372036854775807) (hbytes : (xs.length + 1) * bytes ≤ 140737488355328) (hbase : base ≤ w.heap.size)
    (h : ∀ A' c' w', Own Flat w' base e (.slice A' (xs.length + 1) c') (xs ++ [y]) → w.grownBy w' v.ownBlock → Below base w w' → (∀ g, (Value.slice A' (xs.length + 1) c').ownBlock = some g → v.ownBlock = some g ∨ g = w.heap.size) → K (a.put o.dst (.slice A' (xs.length + 1) c')) w') :
    if Region.wanted o (yielded ops a.tmps) = true then Oper.wp P o a w K Q else E := by
  have hown0 := hown
  obtain ⟨css, hl, hr, hr2⟩ := hown
  have hyF : rep w (Fr Flat w v) cs.toList y := own_push_flat hy
  have hsz : cs.size = 1 * Rep.size α := by have := Rep.len hy; simpa using this
  refine step_append_any w hgd s x t ho base e i z (Rep.size α) bytes ht hi hz hsize hby hzs Rep.pos v xs.length css.flatten hs hr2 w.heap.size (some ⟨B, 0, none⟩) 1 1 cs.toList hx (rowOfBlk hblk 1 _ hsz) (fun u hu => Rep.one hy hu) h63 hbytes hbase ?_
  intro v' w' ho' hg hat
  have hp := own_push hl hr hyF ho' hg hat
  obtain ⟨A', c', rfl⟩ := hp.form
  rw [show (xs ++ [y]).length = xs.length + 1 by simp] at hp ⊢
  rw [show (xs ++ [y]).length = xs.length + 1 by simp] at hat
  exact h A' c' w' hp hg (below_any (v' := v) (Below.refl _ _) hbase hown0.from_ hg) (fun g hg' => by
    rcases hat with e | e
    · exact .inl (e ▸ hg')
    · right; rw [e] at hg'; exact (Option.some.inj hg').symm)
end Go.Proofs.YtfmopmjgohopeaaGreatDoor

/- Tokens as plain data; what keeps all blocks but some. -/
namespace Go.Proofs.YtfmopmjgohopeaaGreatDoor
open Rep (rep)
open Go.RowKit

structure Token where
  text : ByteArray
  pos : Int
  from_ : Int
  to_ : Int
  deriving DecidableEq
instance : Rep Token where
  size := 4
  pos := by decide
  rep _ _ cs x := cs = [.string x.text, .int .i64 x.pos, .int .i64 x.from_, .int .i64 x.to_] ∧ x.text.size ≤ 9223372036854775807 ∧ In64 x.pos ∧ In64 x.from_ ∧ In64 x.to_
  len := by rintro _ _ _ _ ⟨rfl, _⟩; rfl
  keep := fun h _ _ => h
  one := by
    rintro _ _ _ _ u ⟨rfl, _⟩ hu
    simp only [List.mem_cons, List.not_mem_nil, or_false] at hu
    rcases hu with rfl | rfl | rfl | rfl <;> rfl
def Token.cells (x : Token) : List Value := [.string x.text, .int .i64 x.pos, .int .i64 x.from_, .int .i64 x.to_]
def Token.ok (x : Token) : Prop := x.text.size ≤ 9223372036854775807 ∧ In64 x.pos ∧ In64 x.from_ ∧ In64 x.to_
theorem Token.rep_of {w : World} {F : Nat → Prop} {x : Token} (h : x.ok) : rep w F x.cells x := ⟨rfl, h⟩
theorem Token.at_ {w : World} {F : Nat → Prop} {b off k : Nat} {x : Token} (h : ElemAt w F b off k x) : w.cell? ⟨b, off + k * 4, none⟩ = some (.string x.text) ∧ w.cell? ⟨b, off + k * 4 + 1, none⟩ = some (.int .i64 x.pos) ∧ w.cell? ⟨b, off + k * 4 + 2, none⟩ = some (.int .i64 x.from_) ∧ w.cell? ⟨b, off + k * 4 + 3, none⟩ = some (.int .i64 x.to_) ∧ x.ok := by
  obtain ⟨cs, ⟨rfl, ho⟩, hc⟩ := h
  exact ⟨hc 0 _ rfl, hc 1 _ rfl, hc 2 _ rfl, hc 3 _ rfl, ho⟩

/-- Every block stands but those of a list and the rows of one type. -/
def KeepsBut (bs : List Nat) (e : TypeId) (W W' : World) : Prop :=
  W.heap.size ≤ W'.heap.size ∧ ∀ k o, W.heap[k]? = some o → k ∉ bs → (∀ c fz, o ≠ .cells c e fz) → W'.heap[k]? = some o
section
variable {bs : List Nat} {e : TypeId} {A B C : World}
theorem KeepsBut.refl (bs : List Nat) (e : TypeId) (W : World) : KeepsBut bs e W W := ⟨Nat.le_refl _, fun _ _ h _ _ => h⟩
theorem KeepsBut.trans (h : KeepsBut bs e A B) (k : KeepsBut bs e B C) : KeepsBut bs e A C := ⟨Nat.le_trans h.1 k.1, fun i o hi hn ho => k.2 i o (h.2 i o hi hn ho) hn ho⟩
theorem KeepsBut.on (bs : List Nat) (e : TypeId) (h : Below A.heap.size A B) : KeepsBut bs e A B := ⟨h.size, fun k o hk _ _ => (h.block k (Array.getElem?_eq_some_iff.1 hk).1).trans hk⟩
theorem KeepsBut.grown {row : Option Nat} (h : A.grownBy B row) (hr : ∀ r o, row = some r → A.heap[r]? = some o → r ∈ bs ∨ ∃ c fz, o = .cells c e fz) : KeepsBut bs e A B :=
  ⟨h.size, fun k o hk hn ho => (h.block k (Array.getElem?_eq_some_iff.1 hk).1 (fun e' => by
    rcases hr k o e'.symm hk with h1 | ⟨c, fz, h1⟩
    · exact hn h1
    · exact ho c fz h1)).trans hk⟩
theorem KeepsBut.set (p : Addr) (hp : p.block ∈ bs) (u : Value) (W : World) : KeepsBut bs e W (W.setCell p u) := KeepsBut.grown (grownBy_setC W p u) (fun r o hr _ => by cases hr; exact .inl hp)
theorem KeepsBut.box {b : Nat} {t : TypeId} {v : Value} (h : KeepsBut bs e A B) (hb : Boxed A b t v) (hn : b ∉ bs) (ht : t ≠ e) : Boxed B b t v := h.2 b _ hb hn (fun c fz e' => ht (by cases e'; rfl))
theorem KeepsBut.others (h : KeepsBut bs e A B) (hb : ∀ b ∈ bs, ∃ c t, A.heap[b]? = some (.cells c t (0, 0))) : KeepsOthers A B :=
  ⟨h.1, fun k o hk hc => h.2 k o hk (fun hm => by obtain ⟨c, t, h1⟩ := hb k hm; rw [h1] at hk; cases hk; cases hc) (fun c fz e' => by subst e'; cases hc)⟩
theorem KeepsBut.more {bs' : List Nat} (h : KeepsBut bs e A B) (hs : ∀ b ∈ bs, b ∈ bs') : KeepsBut bs' e A B := ⟨h.1, fun k o hk hn ho => h.2 k o hk (fun hm => hn (hs k hm)) ho⟩
end
theorem own_row_kind {α : Type} [Rep α] {D : Nat → Prop} {W : World} {base : Nat} {e : TypeId} {v : Value} {xs : List α} (h : Own D W base e v xs) {bs : List Nat} : ∀ r o, v.ownBlock = some r → W.heap[r]? = some o → r ∈ bs ∨ ∃ c fz, o = .cells c e fz := by
  intro r o hr ho
  obtain ⟨_, _, _, hh⟩ := h
  rcases hh.2 with ⟨rfl, _⟩ | ⟨g, cap, cur, rfl, _, hgb, _⟩
  · cases hr
  · cases hr; rw [hgb] at ho; cases ho; exact .inr ⟨_, _, rfl⟩
end Go.Proofs.YtfmopmjgohopeaaGreatDoor

/- Runs of runes as plain lists: what the program does, rune by rune. No program stands here. -/
namespace Go.Proofs.YtfmopmjgohopeaaGreatDoor
open Rep (rep)
open Go.RowKit

theorem snoc_ind {α : Type} {P : List α → Prop} (h0 : P []) (h1 : ∀ l x, P l → P (l ++ [x])) (l : List α) : P l := by
  have : ∀ l : List α, P l.reverse := by
    intro l
    induction l with
    | nil => exact h0
    | cons a l ih => rw [List.reverse_cons]; exact h1 _ _ ih
  have := this l.reverse
  rwa [List.reverse_reverse] at this

def endTok (s : ByteArray) (toks : List Token) (fr : Option Nat) (x : Nat) : List Token :=
  match fr with
  | none => toks
  | some f => toks ++ [⟨s.extract f x, toks.length, f, x⟩]
def stepRun (s : ByteArray) (p b : Int → Bool) (st : List Token × Option Nat) (x : Nat) : List Token × Option Nat :=
  if p (rn s x) = false then (endTok s st.1 st.2 x, none)
  else if st.2 = none ∧ b (rn s x) = true then (st.1, some x) else st
def runSt (s : ByteArray) (p b : Int → Bool) (pre : List Nat) : List Token × Option Nat := pre.foldl (stepRun s p b) ([], none)
def runsL (s : ByteArray) (p b : Int → Bool) : List Token := endTok s (runSt s p b (ats s)).1 (runSt s p b (ats s)).2 s.size
def frI : Option Nat → Int
  | none => -1
  | some f => f
theorem runSt_snoc (s : ByteArray) (p b : Int → Bool) (pre : List Nat) (x : Nat) : runSt s p b (pre ++ [x]) = stepRun s p b (runSt s p b pre) x := by simp [runSt]
theorem endTok_len (s : ByteArray) (toks : List Token) (fr : Option Nat) (x : Nat) : (endTok s toks fr x).length ≤ toks.length + 1 := by cases fr <;> simp [endTok]
theorem runSt_len (s : ByteArray) (p b : Int → Bool) (pre : List Nat) : (runSt s p b pre).1.length ≤ pre.length := by
  induction pre using snoc_ind with
  | h0 => simp [runSt]
  | h1 pre x ih =>
    rw [runSt_snoc, List.length_append, List.length_singleton]
    unfold stepRun
    split
    · have := endTok_len s (runSt s p b pre).1 (runSt s p b pre).2 x
      show (endTok _ _ _ _).length ≤ _
      omega
    · split
      · show (runSt s p b pre).1.length ≤ _; omega
      · omega
theorem runSt_mem (s : ByteArray) (p b : Int → Bool) (pre : List Nat) : ∀ f, (runSt s p b pre).2 = some f → f ∈ pre := by
  induction pre using snoc_ind with
  | h0 => intro f h; simp [runSt] at h
  | h1 pre x ih =>
    intro f h
    rw [runSt_snoc] at h
    unfold stepRun at h
    split at h
    · cases h
    · split at h
      · cases h; simp
      · simp [ih f h]
theorem atsF_sorted (s : ByteArray) : ∀ f i, (atsF s f i).Pairwise (· < ·)
  | 0, _ => by simp [atsF]
  | f + 1, i => by
    rw [atsF]
    by_cases hi : i < s.size
    · rw [if_pos hi, List.pairwise_cons]
      refine ⟨fun x hx => ?_, atsF_sorted s f _⟩
      have := atsF_ge s f _ x hx
      have := wd_pos hi
      omega
    · rw [if_neg hi]; exact List.Pairwise.nil
theorem ats_sorted (s : ByteArray) : (ats s).Pairwise (· < ·) := atsF_sorted s _ _
theorem ats_lt {s : ByteArray} {x : Nat} (h : x ∈ ats s) : x < s.size := (atsF_ge s _ _ x h).2
theorem ats_before {s : ByteArray} {pre : List Nat} {x : Nat} (h : pre ++ [x] <+: ats s) : ∀ f ∈ pre, f < x := by
  intro f hf
  have h1 := (ats_sorted s).sublist h.sublist
  rw [List.pairwise_append] at h1
  exact h1.2.2 f hf x (by simp)
end Go.Proofs.YtfmopmjgohopeaaGreatDoor

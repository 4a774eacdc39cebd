/- The texts Form, RNext0 of IterateWords, joined by program (tools/merge.py): walks of the functions that the law reaches, and plain facts; no condition. -/
import Derived.Test.YtajgoffeahfmfaaDoorPart07
import Derived.Test.YtajgoffeahfmfaaDoorPart36
import Derived.Lib.RuneBytes
import Derived.Lib.UnsafeStr
import Derived.Test.YtajgoffeahfmfaaDoorPart25
import Derived.Deep.RegionHeld3
import Derived.Deep.DeepMust
import Derived.Laws.IdiomStrings
import Derived.IntWalk
import Derived.Deep.DrawnRows
import Derived.Deep.RegionWith
set_option linter.unusedVariables false
set_option linter.unusedSimpArgs false

/- The walks of lecternref05.Rune and Form. -/
namespace Go.Proofs.YtajgoffeahfmfaaDoor
open Rep (rep)
open Go.RowKit

theorem rune_any (r : Int) (w : World) : Calls Tryd.prog 72 #[.int .i32 r] w fun e w' => e = .returned (.bool (Utf8.valid r)) ∧ w' = w := by
  have hv : Utf8.valid r = (decide (0 ≤ r ∧ r < 0xD800) || decide (0xE000 ≤ r ∧ r ≤ 0x10FFFF)) := by simp [Utf8.valid]
  by_cases h0 : 0 ≤ r
  · by_cases h1 : r ≤ 1114111
    · by_cases h2 : r < 55296
      · rw [show Utf8.valid r = true by rw [hv]; simp; omega]
        clear hv
        go_enter Tryd.func72, Tryd.ntmps72
        go_wp2
        go_ret
        exact ⟨rfl, rfl⟩
      · by_cases h3 : 57343 < r
        · rw [show Utf8.valid r = true by rw [hv]; simp; omega]
          clear hv
          go_enter Tryd.func72, Tryd.ntmps72
          go_wp2
          go_ret
          exact ⟨rfl, rfl⟩
        · rw [show Utf8.valid r = false by rw [hv]; simp; omega]
          clear hv
          go_enter Tryd.func72, Tryd.ntmps72
          go_wp2
          go_ret
          exact ⟨rfl, rfl⟩
    · rw [show Utf8.valid r = false by rw [hv]; simp; omega]
      have hd : decide (r ≤ 1114111) = false := by simpa using h1
      clear hv
      go_enter Tryd.func72, Tryd.ntmps72
      go_wp2
      go_ret
      exact ⟨rfl, rfl⟩
  · rw [show Utf8.valid r = false by rw [hv]; simp; omega]
    have hd : decide (0 ≤ r) = false := by simpa using h0
    clear hv
    go_enter Tryd.func72, Tryd.ntmps72
    go_wp2
    go_ret
    exact ⟨rfl, rfl⟩

theorem runeCells_one {r : Int} (h0 : 0 ≤ r) (h1 : r ≤ 127) : Lib.runeCells r = [.int .u8 r] := by simp [Lib.runeCells, Lib.encodeRuneZ_one h0 h1]
theorem runeCells_two {r : Int} (h0 : 128 ≤ r) (h1 : r ≤ 2047) : Lib.runeCells r = [.int .u8 (192 + r / 64), .int .u8 (128 + r % 64)] := by simp [Lib.runeCells, Lib.encodeRuneZ_two h0 h1]
theorem runeCells_three {r : Int} (h : (2048 ≤ r ∧ r < 55296) ∨ (57343 < r ∧ r ≤ 65535)) : Lib.runeCells r = [.int .u8 (224 + r / 4096), .int .u8 (128 + r / 64 % 64), .int .u8 (128 + r % 64)] := by simp [Lib.runeCells, Lib.encodeRuneZ_three h]
theorem runeCells_four {r : Int} (h0 : 65536 ≤ r) (h1 : r ≤ 1114111) : Lib.runeCells r = [.int .u8 (240 + r / 262144), .int .u8 (128 + r / 4096 % 64), .int .u8 (128 + r / 64 % 64), .int .u8 (128 + r % 64)] := by simp [Lib.runeCells, Lib.encodeRuneZ_four h0 h1]

theorem form_any (r : Int) (hv : Utf8.valid r = true) (w : World) : Calls Tryd.prog 73 #[.int .i32 r] w fun e w' =>
    e = .returned (.slice (some ⟨w.heap.size, 0, none⟩) (Lib.runeCells r).length (Lib.runeCells r).length) ∧ w' = w.alloc (.cells (Lib.runeCells r).toArray 5) := by
  have hv' : (0 ≤ r ∧ r < 0xD800) ∨ (0xE000 ≤ r ∧ r ≤ 0x10FFFF) := by simpa [Utf8.valid] using hv
  have h0 : 0 ≤ r := by omega
  have h1 : r ≤ 0x10FFFF := by omega
  clear hv
  by_cases a : r ≤ 127
  · rw [runeCells_one h0 a]
    clear hv'
    go_enter Tryd.func73, Tryd.ntmps73
    go_wp2
    go_ret
    exact ⟨rfl, rfl⟩
  by_cases b : r ≤ 2047
  · rw [runeCells_two (by omega) b]
    clear hv'
    go_enter Tryd.func73, Tryd.ntmps73
    go_wp2
    go_ret
    exact ⟨rfl, rfl⟩
  by_cases c : r ≤ 65535
  · rw [runeCells_three (by omega)]
    clear hv'
    go_enter Tryd.func73, Tryd.ntmps73
    go_wp2
    go_ret
    exact ⟨rfl, rfl⟩
  · rw [runeCells_four (by omega) h1]
    clear hv'
    go_enter Tryd.func73, Tryd.ntmps73
    go_wp2
    go_ret
    exact ⟨rfl, rfl⟩
end Go.Proofs.YtajgoffeahfmfaaDoor

/- What the walk of lecternref05.Next wants. -/
namespace Go.Proofs.YtajgoffeahfmfaaDoor
open Rep (rep)
open Go.RowKit
attribute [local go_sem ↓] Go.wp_at_zero Go.wp_at_succ

theorem u8_and63 (b : UInt8) : bits .and .u8 (b.toNat : Int) 63 = (b.toNat : Int) % 64 := by
  have hb := b.toNat_lt
  have h2 : b.toNat &&& 63 = b.toNat % 64 := Nat.and_two_pow_sub_one_eq_mod b.toNat 6
  have e1 : (BitVec.ofInt 8 (b.toNat : Int)).toNat = b.toNat := by rw [BitVec.ofInt_natCast, BitVec.toNat_ofNat]; exact Nat.mod_eq_of_lt (by omega)
  have e2 : (BitVec.ofInt 8 63).toNat = 63 := by decide
  show IntKind.u8.wrap ((BitVec.ofInt 8 (b.toNat : Int) &&& BitVec.ofInt 8 63).toNat : Int) = _
  rw [BitVec.toNat_and, e1, e2, h2, IntKind.wrap_u8]
  omega
theorem ret_two {a c : Int} {k j : IntKind} {x y : Int} (h1 : a = x) (h2 : c = y) : Ending.returned (.tuple #[.int k a, .int j c]) = Ending.returned (.tuple #[.int k x, .int j y]) := by rw [h1, h2]
theorem rune_is (r : Int) (q : Bool) (h : Utf8.valid r = q) (w : World) : Calls Tryd.prog 72 #[.int .i32 r] w fun e w' => e = .returned (.bool q) ∧ w' = w := by
  rw [← h]; exact rune_any r w
theorem form_is (r : Int) (L : List UInt8) (hv : Utf8.valid r = true) (hL : Lib.encodeRune r = L) (w : World) : Calls Tryd.prog 73 #[.int .i32 r] w fun e w' =>
    e = .returned (.slice (some ⟨w.heap.size, 0, none⟩) L.length L.length) ∧ w' = w.alloc (.cells (Lib.byteCells L).toArray 5) := by
  have h := form_any r hv w
  rw [Lib.runeCells_length, ← Lib.byteCells_encodeRune, hL] at h
  exact h
theorem conv_new (w : World) (L : List UInt8) (H : Nat) (hH : H = w.heap.size) : (convert 84 9 (.slice (some ⟨H, 0, none⟩) L.length L.length)).run Tryd.prog (w.alloc (.cells (Lib.byteCells L).toArray 5)).drew = .ok (.string ⟨L.toArray⟩) (w.alloc (.cells (Lib.byteCells L).toArray 5)).drew := by
  subst hH
  refine run_convert_bytes_back _ 84 9 5 ⟨w.heap.size, 0, none⟩ L.length L Tryd.underlying84 Tryd.underlying5 Tryd.underlying9 (fun j hj => ?_)
  rw [addr_head, (Blk.new w 5 (Lib.byteCells L).toArray).drew.cell j]
  simp [Lib.byteCells, hj]

end Go.Proofs.YtajgoffeahfmfaaDoor

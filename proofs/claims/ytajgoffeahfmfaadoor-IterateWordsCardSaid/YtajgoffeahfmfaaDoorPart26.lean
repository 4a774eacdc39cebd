/- The texts Name of IterateWords, joined by program (tools/merge.py): walks of the functions that the law reaches, and plain facts; no condition. -/
import Derived.Test.YtajgoffeahfmfaaDoorPart24
import Derived.Test.YtajgoffeahfmfaaDoorPart25
import Derived.Lib.ConvBytes
set_option linter.unusedVariables false
set_option linter.unusedSimpArgs false

/- The walks of schema.Name and lecternref08.Name. (Written by tools/gen_name.py.) -/
namespace Go.Proofs.YtajgoffeahfmfaaDoor
open Rep (rep)
open Go.RowKit

def byteOk (i c : Nat) : Bool := decide ((97 ≤ c ∧ c ≤ 122) ∨ c = 95 ∨ (0 < i ∧ 48 ≤ c ∧ c ≤ 57))
def nameB (s : ByteArray) : Bool := (List.range s.size).all (fun i => byteOk i (s.get! i).toNat) && decide (1 ≤ s.size ∧ s.size ≤ 24)
theorem bytesWorld_below (w : World) (e : TypeId) (s : ByteArray) : Below w.heap.size w (Lib.bytesWorld w e s) where
  os := by simp [Lib.bytesWorld, World.freeze, World.alloc, World.drew, -World.alloc_eq, -World.drew_eq]
  tape := by simp [Lib.bytesWorld, World.freeze, World.alloc, World.drew, -World.alloc_eq, -World.drew_eq]
  output := by simp [Lib.bytesWorld, World.freeze, World.alloc, World.drew, -World.alloc_eq, -World.drew_eq]
  size := by rw [Lib.bytesWorld_size]; omega
  block := fun k hk => Lib.bytesWorld_at_old w e s k hk
theorem get_getD (s : ByteArray) (k : Nat) (h : k < s.size) : (s.data.toList.getD k 0) = s.get! k := by
  rw [← get_eq s k h, List.getD_eq_getElem?_getD, List.getElem?_eq_getElem (by rw [← Lib.size_eq]; exact h)]
  simp [ByteArray.getElem_eq_getElem_data]
/-- The ways of a byte in a name. -/
theorem byte_ways (k c : Nat) : (byteOk k c = true ∧ (((97 : Int) ≤ (c : Int) ∧ (c : Int) ≤ 122) ∨ (c : Int) = 95 ∨ ((0 : Int) < (k : Int) ∧ (48 : Int) ≤ (c : Int) ∧ (c : Int) ≤ 57)))
    ∨ (byteOk k c = false ∧ (((c : Int) < 48) ∨ ((48 : Int) ≤ (c : Int) ∧ (c : Int) ≤ 57 ∧ k = 0) ∨ ((57 : Int) < (c : Int) ∧ (c : Int) < 97 ∧ (c : Int) ≠ 95) ∨ ((122 : Int) < (c : Int)))) := by
  unfold byteOk
  by_cases h : (97 ≤ c ∧ c ≤ 122) ∨ c = 95 ∨ (0 < k ∧ 48 ≤ c ∧ c ≤ 57)
  · left
    refine ⟨by simpa using h, ?_⟩
    omega
  · right
    refine ⟨by simpa using h, ?_⟩
    omega

set_option maxRecDepth 100000 in
set_option maxHeartbeats 2000000 in
theorem name_any (s : ByteArray) (hs : s.size ≤ 9223372036854775807) (w : World) :
    Calls Tryd.prog 31 #[.string s] w fun e w' => e = .returned (.bool (nameB s)) ∧ Below w.heap.size w w' := by
  obtain ⟨q, hq⟩ : ∃ q, nameB s = q := ⟨_, rfl⟩
  rw [hq]
  have Hq := Lib.hid hq
  have hcv := Lib.run_convert_string_bytes (P := Tryd.prog) w 9 84 5 s Tryd.underlying9 Tryd.underlying84 Tryd.underlying5
  have Hb := Lib.hid (bytesWorld_below w 5 s)
  have hcell := Lib.bytesWorld_cell w 5 s
  obtain ⟨W, hW⟩ : ∃ W, Lib.bytesWorld w 5 s = W := ⟨_, rfl⟩
  obtain ⟨cp, hcp⟩ : ∃ cp, grownCap w s.size 0 5 = cp := ⟨_, rfl⟩
  rw [hW, hcp] at hcv
  rw [hW] at Hb hcell
  have Hcell := Lib.hid hcell
  clear hq hW hcp hcell
  go_enter Tryd.func31, Tryd.ntmps31
  go_wp2
  go_loopw [8] (fun i wr => ∃ k : Nat, k ≤ s.size ∧ i = .int .i64 k ∧ (List.range k).all (fun i => byteOk i (s.get! i).toNat) = true ∧ wr = W) (fun i _ => s.size - (intOf i).toNat)
  case atStart => exact ⟨0, by omega, rfl, rfl, rfl⟩
  case round =>
    obtain ⟨k, hk, rfl, hall, rfl⟩ := hrel
    have Hall := Lib.hid hall
    clear hall
    by_cases hlt : k < s.size
    · have hcc : _ = _ := Hcell.out k hlt
      rw [get_getD s k hlt] at hcc
      obtain ⟨c, hc⟩ : ∃ c, (s.get! k).toNat = c := ⟨_, rfl⟩
      rw [hc] at hcc
      have Hc := Lib.hid hc
      clear hc
      rcases byte_ways k c with ⟨hok, hw⟩ | ⟨hok, hw⟩
      · have Hst := Lib.hid (show (List.range (k + 1)).all (fun i => byteOk i (s.get! i).toNat) = true by rw [range_all_succ, Hall.out, Hc.out]; exact hok)
        clear hok
        rcases hw with ⟨c1, c2⟩ | c1 | ⟨c0, c1, c2⟩
        · have c3 : (48 : Int) ≤ (c : Int) := by omega
          have c4 : (57 : Int) < (c : Int) := by omega
          go_wp2
          go_roundw
          case rel => exact ⟨k + 1, by omega, by go_num, Hst.out, by first | rfl | trivial⟩
          case measure => simp [intOf]; omega
        · have c2 : ((c : Int) == 95) = true := by simp; omega
          have c5 : ((c : Int) != 95) = false := by simp; omega
          have c3 : ¬ (97 : Int) ≤ (c : Int) := by omega
          have c4 : (57 : Int) < (c : Int) := by omega
          have c6 : (48 : Int) ≤ (c : Int) := by omega
          clear c1
          go_wp2
          go_roundw
          case rel => exact ⟨k + 1, by omega, by go_num, Hst.out, by first | rfl | trivial⟩
          case measure => simp [intOf]; omega
        · have c3 : ¬ (97 : Int) ≤ (c : Int) := by omega
          have c4 : ((c : Int) == 95) = false := by simp; omega
          have c5 : ((c : Int) != 95) = true := by simp; omega
          have c6 : ((k : Int) == 0) = false := by simp; omega
          go_wp2
          go_roundw
          case rel => exact ⟨k + 1, by omega, by go_num, Hst.out, by first | rfl | trivial⟩
          case measure => simp [intOf]; omega
      · obtain rfl : q = false := by
          rw [← Hq.out]; unfold nameB
          rw [range_all_no hlt (by simp only [Hc.out]; exact hok)]; rfl
        clear hok
        rcases hw with c1 | ⟨c1, c2, rfl⟩ | ⟨c1, c2, c0⟩ | c1
        · have c8 : ¬ (48 : Int) ≤ (c : Int) := by omega
          have c3 : ¬ (97 : Int) ≤ (c : Int) := by omega
          have c4 : ((c : Int) == 95) = false := by simp; omega
          have c5 : ((c : Int) != 95) = true := by simp; omega
          by_cases hk0 : k = 0
          · subst hk0
            go_wp2
            go_ret
            exact ⟨rfl, Hb.out⟩
          · have k1 : (0 : Int) < (k : Int) := by omega
            have k2 : ((k : Int) == 0) = false := by simp; omega
            go_wp2
            go_ret
            exact ⟨rfl, Hb.out⟩
        · have c3 : ¬ (97 : Int) ≤ (c : Int) := by omega
          have c4 : ((c : Int) == 95) = false := by simp; omega
          have c5 : ((c : Int) != 95) = true := by simp; omega
          go_wp2
          go_ret
          exact ⟨rfl, Hb.out⟩
        · have c4 : ((c : Int) == 95) = false := by simpa using c0
          have c5 : ((c : Int) != 95) = true := by simpa using c0
          have c6 : (48 : Int) ≤ (c : Int) := by omega
          have c7 : ¬ (c : Int) ≤ 57 := by omega
          have c3 : ¬ (97 : Int) ≤ (c : Int) := by omega
          clear c0
          by_cases hk0 : k = 0
          · subst hk0
            go_wp2
            go_ret
            exact ⟨rfl, Hb.out⟩
          · have k1 : (0 : Int) < (k : Int) := by omega
            have k2 : ((k : Int) == 0) = false := by simp; omega
            go_wp2
            go_ret
            exact ⟨rfl, Hb.out⟩
        · have c3 : (97 : Int) ≤ (c : Int) := by omega
          have c4 : ((c : Int) == 95) = false := by simp; omega
          have c5 : ((c : Int) != 95) = true := by simp; omega
          have c6 : (48 : Int) ≤ (c : Int) := by omega
          have c7 : ¬ (c : Int) ≤ 57 := by omega
          have c8 : ¬ (c : Int) ≤ 122 := by omega
          by_cases hk0 : k = 0
          · subst hk0
            go_wp2
            go_ret
            exact ⟨rfl, Hb.out⟩
          · have k1 : (0 : Int) < (k : Int) := by omega
            have k2 : ((k : Int) == 0) = false := by simp; omega
            go_wp2
            go_ret
            exact ⟨rfl, Hb.out⟩
    · obtain rfl : k = s.size := by omega
      have hq : decide (1 ≤ s.size ∧ s.size ≤ 24) = q := by rw [← Hq.out]; unfold nameB; rw [Hall.out]; rfl
      by_cases e1 : (1 : Int) ≤ (s.size : Int)
      · have e3 : (0 : Int) < (s.size : Int) := by omega
        by_cases e2 : (s.size : Int) ≤ 24
        · obtain rfl : q = true := by rw [← hq]; simp; omega
          clear hq
          go_wp2
          go_ret
          exact ⟨ret_bool (by simp <;> omega), Hb.out⟩
        · obtain rfl : q = false := by rw [← hq]; simp; omega
          have e4 : (24 : Int) < (s.size : Int) := by omega
          clear hq
          go_wp2
          go_ret
          exact ⟨ret_bool (by simp <;> omega), Hb.out⟩
      · obtain rfl : q = false := by rw [← hq]; simp; omega
        have e3 : (s.size : Int) < 1 := by omega
        have e5 : (s.size : Int) ≤ 0 := by omega
        clear hq
        go_wp2
        go_ret
        exact ⟨ret_bool (by simp <;> omega), Hb.out⟩

set_option maxRecDepth 100000 in
set_option maxHeartbeats 2000000 in
theorem rname_any (s : ByteArray) (hs : s.size ≤ 9223372036854775807) (w : World) :
    Calls Tryd.prog 27 #[.string s] w fun e w' => e = .returned (.bool (nameB s)) ∧ w = w' := by
  obtain ⟨q, hq⟩ : ∃ q, nameB s = q := ⟨_, rfl⟩
  rw [hq]
  have Hq := Lib.hid hq
  clear hq
  go_enter Tryd.func27, Tryd.ntmps27
  go_wp2
  go_loopw [3] (fun i wr => ∃ k : Nat, k ≤ s.size ∧ i = .int .i64 k ∧ (List.range k).all (fun i => byteOk i (s.get! i).toNat) = true ∧ w = wr) (fun i _ => s.size - (intOf i).toNat)
  case atStart => exact ⟨0, by omega, rfl, rfl, rfl⟩
  case round =>
    obtain ⟨k, hk, rfl, hall, rfl⟩ := hrel
    have Hall := Lib.hid hall
    clear hall
    by_cases hlt : k < s.size
    · obtain ⟨c, hc⟩ : ∃ c, (s.get! k).toNat = c := ⟨_, rfl⟩
      have Hc := Lib.hid hc
      have hgk : (s[k]'hlt).toNat = c := by rw [get_eq s k hlt]; exact hc
      clear hc
      rcases byte_ways k c with ⟨hok, hw⟩ | ⟨hok, hw⟩
      · have Hst := Lib.hid (show (List.range (k + 1)).all (fun i => byteOk i (s.get! i).toNat) = true by rw [range_all_succ, Hall.out, Hc.out]; exact hok)
        clear hok
        rcases hw with ⟨c1, c2⟩ | c1 | ⟨c0, c1, c2⟩
        · have c3 : (48 : Int) ≤ (c : Int) := by omega
          have c4 : (57 : Int) < (c : Int) := by omega
          go_wp2
          go_roundw
          case rel => exact ⟨k + 1, by omega, by go_num, Hst.out, by first | rfl | trivial⟩
          case measure => simp [intOf]; omega
        · have c2 : ((c : Int) == 95) = true := by simp; omega
          have c5 : ((c : Int) != 95) = false := by simp; omega
          have c3 : ¬ (97 : Int) ≤ (c : Int) := by omega
          have c4 : (57 : Int) < (c : Int) := by omega
          have c6 : (48 : Int) ≤ (c : Int) := by omega
          clear c1
          go_wp2
          go_roundw
          case rel => exact ⟨k + 1, by omega, by go_num, Hst.out, by first | rfl | trivial⟩
          case measure => simp [intOf]; omega
        · have c3 : ¬ (97 : Int) ≤ (c : Int) := by omega
          have c4 : ((c : Int) == 95) = false := by simp; omega
          have c5 : ((c : Int) != 95) = true := by simp; omega
          have c6 : ((k : Int) == 0) = false := by simp; omega
          go_wp2
          go_roundw
          case rel => exact ⟨k + 1, by omega, by go_num, Hst.out, by first | rfl | trivial⟩
          case measure => simp [intOf]; omega
      · obtain rfl : q = false := by
          rw [← Hq.out]; unfold nameB
          rw [range_all_no hlt (by simp only [Hc.out]; exact hok)]; rfl
        clear hok
        rcases hw with c1 | ⟨c1, c2, rfl⟩ | ⟨c1, c2, c0⟩ | c1
        · have c8 : ¬ (48 : Int) ≤ (c : Int) := by omega
          have c3 : ¬ (97 : Int) ≤ (c : Int) := by omega
          have c4 : ((c : Int) == 95) = false := by simp; omega
          have c5 : ((c : Int) != 95) = true := by simp; omega
          by_cases hk0 : k = 0
          · subst hk0
            go_wp2
            go_ret
            exact ⟨rfl, rfl⟩
          · have k1 : (0 : Int) < (k : Int) := by omega
            have k2 : ((k : Int) == 0) = false := by simp; omega
            go_wp2
            go_ret
            exact ⟨rfl, rfl⟩
        · have c3 : ¬ (97 : Int) ≤ (c : Int) := by omega
          have c4 : ((c : Int) == 95) = false := by simp; omega
          have c5 : ((c : Int) != 95) = true := by simp; omega
          go_wp2
          go_ret
          exact ⟨rfl, rfl⟩
        · have c4 : ((c : Int) == 95) = false := by simpa using c0
          have c5 : ((c : Int) != 95) = true := by simpa using c0
          have c6 : (48 : Int) ≤ (c : Int) := by omega
          have c7 : ¬ (c : Int) ≤ 57 := by omega
          have c3 : ¬ (97 : Int) ≤ (c : Int) := by omega
          clear c0
          by_cases hk0 : k = 0
          · subst hk0
            go_wp2
            go_ret
            exact ⟨rfl, rfl⟩
          · have k1 : (0 : Int) < (k : Int) := by omega
            have k2 : ((k : Int) == 0) = false := by simp; omega
            go_wp2
            go_ret
            exact ⟨rfl, rfl⟩
        · have c3 : (97 : Int) ≤ (c : Int) := by omega
          have c4 : ((c : Int) == 95) = false := by simp; omega
          have c5 : ((c : Int) != 95) = true := by simp; omega
          have c6 : (48 : Int) ≤ (c : Int) := by omega
          have c7 : ¬ (c : Int) ≤ 57 := by omega
          have c8 : ¬ (c : Int) ≤ 122 := by omega
          by_cases hk0 : k = 0
          · subst hk0
            go_wp2
            go_ret
            exact ⟨rfl, rfl⟩
          · have k1 : (0 : Int) < (k : Int) := by omega
            have k2 : ((k : Int) == 0) = false := by simp; omega
            go_wp2
            go_ret
            exact ⟨rfl, rfl⟩
    · obtain rfl : k = s.size := by omega
      have hq : decide (1 ≤ s.size ∧ s.size ≤ 24) = q := by rw [← Hq.out]; unfold nameB; rw [Hall.out]; rfl
      by_cases e1 : (1 : Int) ≤ (s.size : Int)
      · have e3 : (0 : Int) < (s.size : Int) := by omega
        by_cases e2 : (s.size : Int) ≤ 24
        · obtain rfl : q = true := by rw [← hq]; simp; omega
          clear hq
          go_wp2
          go_ret
          exact ⟨ret_bool (by simp <;> omega), rfl⟩
        · obtain rfl : q = false := by rw [← hq]; simp; omega
          have e4 : (24 : Int) < (s.size : Int) := by omega
          clear hq
          go_wp2
          go_ret
          exact ⟨ret_bool (by simp <;> omega), rfl⟩
      · obtain rfl : q = false := by rw [← hq]; simp; omega
        have e3 : (s.size : Int) < 1 := by omega
        have e5 : (s.size : Int) ≤ 0 := by omega
        clear hq
        go_wp2
        go_ret
        exact ⟨ret_bool (by simp <;> omega), rfl⟩
end Go.Proofs.YtajgoffeahfmfaaDoor

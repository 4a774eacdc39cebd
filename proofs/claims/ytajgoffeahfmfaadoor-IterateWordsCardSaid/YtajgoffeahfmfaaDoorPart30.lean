/- The texts RCheck6 of IterateWords, joined by program (tools/merge.py): walks of the functions that the law reaches, and plain facts; no condition. -/
import Derived.Test.YtajgoffeahfmfaaDoorPart24
import Derived.BigQuiet
set_option linter.unusedVariables false
set_option linter.unusedSimpArgs false

/- The walks of lecternref06.Filter and Check. -/
namespace Go.Proofs.YtajgoffeahfmfaaDoor
open Rep (rep)
open Go.RowKit

theorem InDraws.below {w w' : World} (h : InDraws w w') : Below w.heap.size w w' := by
  obtain ⟨j, rfl⟩ := h
  exact Go.below_drewN (Below.refl _ _) j

theorem rfilter_any (n : Int) (w : World) : Calls Tryd.prog 41 #[.int .i64 n] w fun e w' => e = .returned (.bool (isFilter n)) ∧ w = w' := by
  obtain ⟨q, hq⟩ : ∃ q, isFilter n = q := ⟨_, rfl⟩
  rw [hq]
  by_cases h1 : 10 ≤ n
  · by_cases h2 : n ≤ 15
    · obtain rfl : q = true := by rw [← hq]; simp [isFilter, h1, h2]
      clear hq
      go_enter Tryd.func41, Tryd.ntmps41
      go_wp2
      go_ret
      exact ⟨rfl, rfl⟩
    · obtain rfl : q = false := by rw [← hq]; simp [isFilter, h2]
      have h3 : 15 < n := by omega
      clear hq h2
      go_enter Tryd.func41, Tryd.ntmps41
      go_wp2
      go_ret
      exact ⟨ret_bool (by simp; omega), rfl⟩
  · obtain rfl : q = false := by rw [← hq]; simp [isFilter, h1]
    have h3 : n < 10 := by omega
    clear hq h1
    go_enter Tryd.func41, Tryd.ntmps41
    go_wp2
    go_ret
    exact ⟨rfl, rfl⟩

def okAt (xs : List Int) : Nat → Bool
  | 0 => match xs with | [] => true | a :: _ => isTok a
  | k + 1 => stepOk xs.tail k
theorem chainB_all (xs : List Int) : chainB xs = (decide (0 < xs.length ∧ xs.length ≤ 8) && (List.range xs.length).all (okAt xs)) := by
  rcases xs with _ | ⟨a, t⟩
  · rfl
  · rw [List.length_cons, List.range_succ_eq_map, List.all_cons, List.all_map]
    have : (okAt (a :: t) ∘ Nat.succ) = stepOk t := rfl
    rw [this]
    show (_ && isTok a && _) = (_ && (isTok a && _))
    rw [Bool.and_assoc]
    congr 1
    simp; omega
theorem okAt_zero {a : Int} {t : List Int} : okAt (a :: t) 0 = isTok a := rfl
theorem okAt_pos {xs : List Int} {i : Nat} {y : Int} (h0 : okAt xs 0 = true) (hi : 0 < i) (hy : xs[i]? = some y) : okAt xs i = (isFilter y && !((xs.take i).contains y)) := by
  rcases xs with _ | ⟨a, t⟩
  · simp at hy
  obtain ⟨k, rfl⟩ : ∃ k, i = k + 1 := ⟨i - 1, by omega⟩
  have hy : t[k]? = some y := by simpa using hy
  show stepOk t k = _
  rw [stepOk, hy]
  show (isFilter y && _) = _
  rcases hf : isFilter y with _ | _
  · rfl
  · have ha : isTok a = true := h0
    have : a ≠ y := by
      simp [isTok] at ha
      simp [isFilter] at hf
      omega
    have h2 : (y == a) = false := by simp; omega
    rw [List.take_succ_cons, List.contains_cons, h2]
    simp

set_option maxRecDepth 100000 in
set_option maxHeartbeats 2000000 in
theorem rcheck6_any (A : Option Addr) (n c : Nat) (xs : List Int) (w : World) (hr : RepList w (· < w.heap.size) A n c xs) :
    Calls Tryd.prog 28 #[.slice A n c] w fun e w' => e = .returned (.int .i64 (errOf (chainB xs))) ∧ Below w.heap.size w w' := by
  have hcap := hr.cap
  have hl := hr.length
  obtain ⟨q, hq⟩ : ∃ q, errOf (chainB xs) = q := ⟨_, rfl⟩
  rw [hq]
  rw [chainB_all, hl] at hq
  have Hr := Lib.hid hr
  have Hl := Lib.hid hl
  clear hr hl
  by_cases h0 : n = 0
  · subst h0
    obtain rfl : q = 60 := by rw [← hq]; rfl
    go_enter Tryd.func28, Tryd.ntmps28
    go_wp2
    go_ret
    exact ⟨rfl, Below.refl _ _⟩
  by_cases h8 : (8 : Int) < n
  · obtain rfl : q = 60 := by rw [← hq, decide_eq_false (by omega)]; rfl
    have hn0 : ((n : Int) == 0) = false := by simp; omega
    clear hq
    go_enter Tryd.func28, Tryd.ntmps28
    go_wp2
    go_ret
    exact ⟨rfl, Below.refl _ _⟩
  have hn0 : ((n : Int) == 0) = false := by simp; omega
  have hn8 : (n : Int) ≤ 8 := by omega
  have hq : errOf ((List.range n).all (okAt xs)) = q := by rw [← hq, decide_eq_true (by omega)]; rfl
  have Hq := Lib.hid hq
  clear hq h8 h0
  have bad : ∀ i, i < n → okAt xs i = false → q = 60 := fun i hi h => by rw [← Hq.out, range_all_no hi h]; rfl
  have Bad := Lib.hid bad
  clear bad
  go_enter Tryd.func28, Tryd.ntmps28
  go_wp2
  go_loopw [3] (fun i wr => ∃ j : Nat, j ≤ n ∧ i = .int .i64 j ∧ (List.range j).all (okAt xs) = true ∧ InDraws w wr) (fun i _ => n - (intOf i).toNat)
  case atStart => exact ⟨0, by omega, rfl, rfl, 0, rfl⟩
  case round =>
    obtain ⟨i, hi, rfl, hall, hd⟩ := hrel
    have Hall := Lib.hid hall
    clear hall
    by_cases hlt : i < n
    · have Hrr := Lib.hid (Hr.out.on hd.below)
      obtain ⟨b, off, y, rfl, hy, hbk, he⟩ := Hrr.out.at_ hlt
      have hey := he.int.1
      clear he
      by_cases hi0 : i = 0
      · subst hi0
        simp only [Nat.add_zero] at hey
        have hok : okAt xs 0 = isTok y := by
          rcases xs with _ | ⟨a, t⟩
          · have := hy.out; simp at this
          · have := hy.out; simp at this; rw [okAt_zero, this]
        by_cases htk : isTok y = true
        · have ht1 : (1 : Int) ≤ y ∧ y ≤ 4 := by simpa [isTok] using htk
          have hx1 := ht1.1
          have hx2 := ht1.2
          have Hst : Hid ((List.range 1).all (okAt xs) = true) := by show _ = _; rw [range_all_succ, hok, htk]; rfl
          clear ht1 htk hok
          go_wp2
          go_loopw [4] (fun k wi => k = .int .i64 0 ∧ wi = wr) (fun _ _ => 0)
          case atStart => exact ⟨rfl, rfl⟩
          case round =>
            obtain ⟨rfl, rfl⟩ := hrel
            go_wp2
            go_roundw
            case rel => exact ⟨1, by omega, by go_num, Hst.out, hd⟩
            case measure => simp [intOf]; omega
        · have hf := Bool.eq_false_iff.2 htk
          obtain rfl := Bad.out 0 hlt (by rw [hok, hf])
          have ht1 : y < 1 ∨ 4 < y := by simp [isTok] at htk; omega
          clear htk hf hok
          rcases ht1 with ht1 | ht1
          · go_wp2
            go_ret
            exact ⟨rfl, hd.below⟩
          · have ht2 : 1 ≤ y := by omega
            go_wp2
            go_ret
            exact ⟨rfl, hd.below⟩
      · have h00 : okAt xs 0 = true := by
          have := Hall.out
          rw [List.all_eq_true] at this
          exact this 0 (List.mem_range.2 (by omega))
        have hok := okAt_pos h00 (by omega) hy.out
        have hi1 : ((i : Int) == 0) = false := by simp; omega
        have hi2 : (0 : Int) < i := by omega
        by_cases hf : isFilter y = true
        · have hok : okAt xs i = !((xs.take i).contains y) := by rw [hok, hf]; rfl
          have Hok := Lib.hid hok
          have Hy := hy
          clear hok h00 hy
          go_wp2_with (go_at_call 41; go_must (refine (rfilter_any y _).mono ?_); rw [hf]; rintro e w' ⟨rfl, rfl⟩)
          go_loopw [4] (fun kv wi => ∃ k : Nat, k ≤ i ∧ kv = .int .i64 k ∧ (xs.take k).contains y = false ∧ InDraws w wi) (fun kv _ => i - (intOf kv).toNat)
          case atStart => exact ⟨0, by omega, rfl, rfl, hd⟩
          case round =>
            rename_i wr0 _
            obtain ⟨k, hk, rfl, hct, hdi⟩ := hrel
            have Hct := Lib.hid hct
            clear hct
            by_cases hki : k < i
            · have Hri := Lib.hid (Hr.out.on hdi.below)
              obtain ⟨z, hz⟩ : ∃ z, xs[k]? = some z := ⟨_, List.getElem?_eq_getElem (by have := Hl.out; omega)⟩
              have hez : _ = _ := (Hri.out.elem hz).2.int.1
              have hei : _ = _ := (Hri.out.elem Hy.out).2.int.1
              have hcs : (xs.take (k + 1)).contains y = (y == z) := by rw [List.take_add_one, hz, Option.toList_some, List.contains_eq_any_beq, List.any_append, ← List.contains_eq_any_beq, Hct.out]; simp
              have Hcs := Lib.hid hcs
              clear hz hcs hey
              by_cases hzy : z = y
              · subst hzy
                obtain rfl := Bad.out i hlt (by
                  rw [Hok.out]
                  have : (xs.take i).contains z = true := by
                    have h1 := Hcs.out
                    rw [beq_self_eq_true, List.contains_iff_mem] at h1
                    rw [List.contains_iff_mem]
                    exact (List.take_subset_take_left xs (by omega)) h1
                  rw [this]; rfl)
                go_wp2_with fail
                go_quiet (fail)
                go_wp2_with fail
                go_ret
                exact ⟨rfl, (InDraws.more hdi _).below⟩
              · have hzy1 : (z == y) = false := by simpa using hzy
                have hyz : (y == z) = false := by simpa using fun h => hzy h.symm
                have Hyz := Lib.hid hyz
                clear hzy hyz
                go_wp2_with fail
                go_quiet (fail)
                go_wp2_with fail
                go_roundw
                case rel => exact ⟨k + 1, by omega, by go_num, by rw [Hcs.out, Hyz.out], InDraws.more hdi _⟩
                case measure => simp [intOf]; omega
            · obtain rfl : k = i := by omega
              have hst : (List.range (k + 1)).all (okAt xs) = true := by rw [range_all_succ, Hall.out, Hok.out, Hct.out]; rfl
              have Hst := Lib.hid hst
              clear hst hey
              go_wp2
              go_roundw
              case rel => exact ⟨k + 1, by omega, by go_num, Hst.out, hdi⟩
              case measure => simp [intOf]; omega
        · have hf' := Bool.eq_false_iff.2 hf
          obtain rfl := Bad.out i hlt (by rw [hok, hf']; rfl)
          clear hok h00
          go_wp2_with (go_at_call 41; go_must (refine (rfilter_any y _).mono ?_); rw [hf']; rintro e w' ⟨rfl, rfl⟩)
          go_ret
          exact ⟨rfl, hd.below⟩
    · obtain rfl : i = n := by omega
      obtain rfl : q = 0 := by rw [← Hq.out, Hall.out]; rfl
      go_wp2
      go_ret
      exact ⟨rfl, hd.below⟩
end Go.Proofs.YtajgoffeahfmfaaDoor

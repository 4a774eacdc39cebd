/- The texts Check6 of IterateWords, joined by program (tools/merge.py): walks of the functions that the law reaches, and plain facts; no condition. -/
import Derived.Test.YtajgoffeahfmfaaDoorPart23
set_option linter.unusedVariables false
set_option linter.unusedSimpArgs false

/- The walk of analysis.Check. -/
namespace Go.Proofs.YtajgoffeahfmfaaDoor
open Rep (rep)
open Go.RowKit

def isTok (n : Int) : Bool := decide (1 ≤ n ∧ n ≤ 4)
/-- A filter at place j that no earlier place has. -/
def stepOk (t : List Int) (j : Nat) : Bool := match t[j]? with | some x => isFilter x && !((t.take j).contains x) | none => true
def chainB : List Int → Bool
  | [] => false
  | a :: t => decide (t.length < 8) && isTok a && (List.range t.length).all (stepOk t)
def errOf (b : Bool) : Int := if b then 0 else 60

theorem range_all_succ (p : Nat → Bool) (j : Nat) : (List.range (j + 1)).all p = ((List.range j).all p && p j) := by
  rw [List.range_succ, List.all_append]; simp
theorem range_all_no {p : Nat → Bool} {j n : Nat} (hj : j < n) (h : p j = false) : (List.range n).all p = false := by
  rw [List.all_eq_false]
  exact ⟨j, List.mem_range.2 hj, by simp [h]⟩

set_option maxRecDepth 100000 in
set_option maxHeartbeats 2000000 in
theorem check6_any (A : Option Addr) (n c : Nat) (xs : List Int) (w : World) (hT : Tabs w) (hr : RepList w (· < w.heap.size) A n c xs) :
    Calls Tryd.prog 24 #[.slice A n c] w fun e w' => e = .returned (.int .i64 (errOf (chainB xs))) ∧ Below w.heap.size w w' := by
  have hcap := hr.cap
  have hl := hr.length
  have hq1 := eql_nilFunc
  have hq2 := eql_func_nil
  rcases xs with _ | ⟨x0, t⟩
  · obtain rfl : n = 0 := by simpa using hl.symm
    rw [show errOf (chainB []) = 60 from rfl]
    clear hr hT hl hq1 hq2
    go_enter Tryd.func24, Tryd.ntmps24
    go_wp2
    go_ret
    exact ⟨rfl, Below.refl _ _⟩
  · have hn1 : n = t.length + 1 := by simpa using hl.symm
    obtain ⟨b, off, x, rfl, hx, hb, he⟩ := hr.at_ (k := 0) (by omega)
    obtain rfl : x0 = x := by simpa using hx.out
    have hc0 := he.int.1
    have hin := he.int.2
    simp only [Nat.add_zero] at hc0
    have hpos : (1 : Int) ≤ n := by omega
    obtain ⟨q, hq⟩ : ∃ q, errOf (chainB (x0 :: t)) = q := ⟨_, rfl⟩
    rw [hq]
    by_cases hbig : (8 : Int) < n
    · obtain rfl : q = 60 := by
        rw [← hq, chainB, decide_eq_false (by omega)]; rfl
      clear hr hT hl hq he hx hin hn1 hq1 hq2 hc0
      go_enter Tryd.func24, Tryd.ntmps24
      go_wp2
      go_ret
      exact ⟨rfl, Below.refl _ _⟩
    · by_cases htk : isTok x0 = true
      · have ht1 : (1 : Int) ≤ x0 ∧ x0 ≤ 4 := by simpa [isTok] using htk
        have hx1 := ht1.1
        have hx2 := ht1.2
        have hfin : errOf ((List.range t.length).all (stepOk t)) = q := by
          rw [← hq, chainB, decide_eq_true (by omega), htk]; rfl
        have Hfin := Lib.hid hfin
        have Hn1 := Lib.hid hn1
        have HT := Lib.hid hT
        have Hr := Lib.hid hr
        have hbig2 : (n : Int) ≤ 8 := by omega
        clear hr hT hl hq hfin he hx hin hn1 htk ht1 hbig
        by_cases hc1 : c = 1
        · obtain rfl : n = 1 := by omega
          subst hc1
          obtain rfl : q = 0 := by rw [← Hfin.out, show t.length = 0 by have := Hn1.out; omega]; rfl
          go_enter Tryd.func24, Tryd.ntmps24
          go_wp2
          go_loopw [28] (fun i wr => i = .int .i64 0 ∧ wr = w) (fun i _ => 0)
          case atStart => exact ⟨rfl, rfl⟩
          case round =>
            obtain ⟨rfl, rfl⟩ := hrel
            go_wp2
            go_ret
            exact ⟨rfl, Below.refl _ _⟩
        · go_enter Tryd.func24, Tryd.ntmps24
          go_wp2
          go_loopw [28] (fun i wr => ∃ j : Nat, j + 1 ≤ n ∧ i = .int .i64 j ∧ (List.range j).all (stepOk t) = true ∧ Below w.heap.size w wr) (fun i _ => n - (intOf i).toNat)
          case atStart => exact ⟨0, by omega, rfl, rfl, Below.refl _ _⟩
          case round =>
            obtain ⟨j, hj, rfl, hall, hbw⟩ := hrel
            have Hall := Lib.hid hall
            have Hbw := Lib.hid hbw
            clear hall hbw
            by_cases hlt : j < n - 1
            · obtain ⟨y, hy⟩ : ∃ y, t[j]? = some y := ⟨_, List.getElem?_eq_getElem (by have := Hn1.out; omega)⟩
              have hey : _ = _ := (((Hr.out.on Hbw.out).elem (k := j + 1) (by simpa using hy)).2.int.1)
              rw [show off + (j + 1) = off + 1 + j by omega] at hey
              have hsub : ∀ W, Below w.heap.size w W → ∀ i, i < t.length → W.cell? ⟨b, off + 1 + i, none⟩ = some (.int .i64 (t.getD i 0)) := fun W hW i hi => by
                have := ((Hr.out.on hW).elem (k := i + 1) (x := t[i]) (by simp [hi])).2.int.1
                rw [show off + (i + 1) = off + 1 + i by omega] at this
                rw [this, List.getD_eq_getElem?_getD, List.getElem?_eq_getElem hi]; rfl
              have Hsub := Lib.hid hsub
              have Hy := Lib.hid hy
              clear hy hsub
              have hj1 : j + 1 ≤ c := by omega
              have hj2 : j + 1 < n := by omega
              by_cases hf : isFilter y = true
              · by_cases hct : (t.take j).contains y = true
                · have hno : (List.range t.length).all (stepOk t) = false := range_all_no (j := j) (by have := Hn1.out; omega) (by simp only [stepOk, Hy.out]; rw [hf, hct]; rfl)
                  obtain rfl : q = 60 := by rw [← Hfin.out, hno]; rfl
                  have Hc := Lib.hid hct
                  clear hno hct
                  go_wp2_with fail
                  refine (find_is y hf _ (HT.out.on Hbw.out)).mono ?_
                  rintro e w1 ⟨k, lb, rfl, -, hb1⟩
                  have Hb1 := Lib.hid hb1
                  clear hb1
                  go_wp2_with fail
                  refine (Tryd.slices_Contains_int b (off + 1) j _ t y w1 (by have := Hn1.out; omega) (by omega) (Hsub.out w1 (Hbw.out.trans (Hb1.out.mono Hbw.out.size)))).mono ?_
                  rintro e w' ⟨rfl, rfl⟩
                  rw [Hc.out]
                  go_wp2
                  go_ret
                  exact ⟨rfl, (Hbw.out.trans (Hb1.out.mono Hbw.out.size))⟩
                · have hst : (List.range (j + 1)).all (stepOk t) = true := by
                    rw [range_all_succ, Hall.out]
                    simp only [stepOk, Hy.out]; rw [hf, Bool.eq_false_iff.2 hct]; rfl
                  have Hst := Lib.hid hst
                  have hct' : (t.take j).contains y = false := Bool.eq_false_iff.2 hct
                  have Hc := Lib.hid hct'
                  clear hst hct hct'
                  go_wp2_with fail
                  refine (find_is y hf _ (HT.out.on Hbw.out)).mono ?_
                  rintro e w1 ⟨k, lb, rfl, -, hb1⟩
                  have Hb1 := Lib.hid hb1
                  clear hb1
                  go_wp2_with fail
                  refine (Tryd.slices_Contains_int b (off + 1) j _ t y w1 (by have := Hn1.out; omega) (by omega) (Hsub.out w1 (Hbw.out.trans (Hb1.out.mono Hbw.out.size)))).mono ?_
                  rintro e w' ⟨rfl, rfl⟩
                  rw [Hc.out]
                  go_wp2
                  go_roundw
                  case rel => exact ⟨j + 1, by omega, by go_num, Hst.out, Hbw.out.trans (Hb1.out.mono Hbw.out.size)⟩
                  case measure => simp [intOf]; omega
              · have hno : (List.range t.length).all (stepOk t) = false := range_all_no (j := j) (by have := Hn1.out; omega) (by simp only [stepOk, Hy.out]; rw [Bool.eq_false_iff.2 hf]; rfl)
                obtain rfl : q = 60 := by rw [← Hfin.out, hno]; rfl
                clear hno
                go_wp2_with fail
                refine (find_not y (Bool.eq_false_iff.2 hf) _).mono ?_
                rintro e w1 ⟨rfl, rfl⟩
                go_wp2
                go_ret
                exact ⟨rfl, Hbw.out⟩
            · obtain rfl : j = n - 1 := by omega
              obtain rfl : q = 0 := by rw [← Hfin.out, show t.length = n - 1 by have := Hn1.out; omega, Hall.out]; rfl
              go_wp2
              go_ret
              exact ⟨rfl, Hbw.out⟩
      · obtain rfl : q = 60 := by
          rw [← hq, chainB, Bool.eq_false_iff.2 htk]; simp; rfl
        have ht1 : x0 < 1 ∨ 4 < x0 := by simp [isTok] at htk; omega
        have hbig2 : (n : Int) ≤ 8 := by omega
        clear hr hT hl hq he hx hin hn1 hq1 hq2 hbig htk
        rcases ht1 with ht1 | ht1
        · go_enter Tryd.func24, Tryd.ntmps24
          go_wp2
          go_ret
          exact ⟨rfl, Below.refl _ _⟩
        · have ht2 : 1 ≤ x0 := by omega
          go_enter Tryd.func24, Tryd.ntmps24
          go_wp2
          go_ret
          exact ⟨rfl, Below.refl _ _⟩
end Go.Proofs.YtajgoffeahfmfaaDoor

/- The texts May of IterateWords, joined by program (tools/merge.py): walks of the functions that the law reaches, and plain facts; no condition. -/
import Derived.Test.YtajgoffeahfmfaaDoorPart26
import Derived.Test.YtajgoffeahfmfaaDoorPart04
set_option linter.unusedVariables false
set_option linter.unusedSimpArgs false

/- The walk of schema.may. (Written by tools/gen_may.py.) -/
namespace Go.Proofs.YtajgoffeahfmfaaDoor
open Rep (rep)
open Go.RowKit

def okParts (nm : Bool) (kd : Int) (n2 : Nat) (sc dm : Int) (ch : Bool) : Bool :=
  nm && (decide (kd = 1) || decide (n2 = 0)) && (decide (kd = 4) || decide (sc = 0)) && (decide (kd = 5) || decide (dm = 0)) &&
  (if kd = 1 then ch else if kd = 2 ∨ kd = 3 then true else if kd = 4 then decide (0 ≤ sc ∧ sc ≤ 9) else if kd = 5 then decide (1 ≤ dm ∧ dm ≤ 4) else false)
def fieldOk (f : Field) : Bool := okParts (nameB f.name) f.kind f.chain.length f.scale f.dims (chainB f.chain)

set_option maxRecDepth 100000 in
set_option maxHeartbeats 4000000 in
theorem may_any (f : Field) (A2 : Option Addr) (n2 c2 : Nat) (w : World) (hT : Tabs w) (hch : RepList w (· < w.heap.size) A2 n2 c2 f.chain) (hnm : f.name.size ≤ 9223372036854775807) :
    Calls Tryd.prog 21 #[.agg #[.string f.name, .int .i64 f.kind, .slice A2 n2 c2, .int .i64 f.scale, .int .i64 f.dims, .bool f.many, .bool f.stored]] w fun e w' => e = .returned (.bool (fieldOk f)) ∧ Below w.heap.size w w' := by
  have hcl := hch.length
  have hcc := hch.cap
  obtain ⟨nm, kd, chain, sc, dm, mn, st⟩ := f
  simp only at hch hnm hcl ⊢
  have hb0 : Below w.heap.size w (w.alloc (.cells #[.string nm, .int .i64 kd, .slice A2 n2 c2, .int .i64 sc, .int .i64 dm, .bool mn, .bool st] 51)) := (Below.refl _ _).alloc (Nat.le_refl _) _
  have HN := Lib.hid (name_any nm hnm (w.alloc (.cells #[.string nm, .int .i64 kd, .slice A2 n2 c2, .int .i64 sc, .int .i64 dm, .bool mn, .bool st] 51)))
  have hblk := Blk.new w 51 #[.string nm, .int .i64 kd, .slice A2 n2 c2, .int .i64 sc, .int .i64 dm, .bool mn, .bool st]
  have Hch := Lib.hid hch
  have HT := Lib.hid hT
  obtain ⟨q, hq⟩ : ∃ q, fieldOk ⟨nm, kd, chain, sc, dm, mn, st⟩ = q := ⟨_, rfl⟩
  rw [hq]
  have hq : okParts (nameB nm) kd n2 sc dm (chainB chain) = q := by rw [← hq, ← hcl]; rfl
  obtain ⟨b, hb⟩ : ∃ b, nameB nm = b := ⟨_, rfl⟩
  obtain ⟨ch, hcb⟩ : ∃ ch, chainB chain = ch := ⟨_, rfl⟩
  rw [hb] at hq HN
  rw [hcb] at hq
  have Hcb := Lib.hid hcb
  have H0 := Lib.hid hb0
  have Hbk := Lib.hid hblk
  clear hch hT hb hcb hb0 hblk hcl
  cases b with
  | false =>
    obtain rfl : q = false := by rw [← hq]; rfl
    clear hq
    go_enter Tryd.func21, Tryd.ntmps21
    go_wp2_with fail
    refine HN.out.mono ?_
    rintro e w1 ⟨rfl, hb1⟩
    have hblk1 : Blk w1 w.heap.size _ _ := (hb1.block w.heap.size (by simp)).trans Hbk.out
    have f0 := hblk1.cell 0
    have f1 := hblk1.cell 1
    have f2 := hblk1.cell 2
    have f3 := hblk1.cell 3
    have f4 := hblk1.cell 4
    simp only [List.getElem?_toArray, List.getElem?_cons_zero, List.getElem?_cons_succ] at f0 f1 f2 f3 f4
    have Hb1 := Lib.hid (H0.out.trans (hb1.mono (by simp)))
    clear hblk1 hb1
    go_wp2
    go_ret
    exact ⟨rfl, Hb1.out⟩
  | true =>
    by_cases k1 : kd = 1
    · subst k1
      by_cases zsc : sc = 0
      · subst zsc
        by_cases zdm : dm = 0
        · subst zdm
          obtain rfl : q = ch := by rw [← hq]; simp [okParts]
          clear hq
          go_enter Tryd.func21, Tryd.ntmps21
          go_wp2_with fail
          refine HN.out.mono ?_
          rintro e w1 ⟨rfl, hb1⟩
          have hblk1 : Blk w1 w.heap.size _ _ := (hb1.block w.heap.size (by simp)).trans Hbk.out
          have f0 := hblk1.cell 0
          have f1 := hblk1.cell 1
          have f2 := hblk1.cell 2
          have f3 := hblk1.cell 3
          have f4 := hblk1.cell 4
          simp only [List.getElem?_toArray, List.getElem?_cons_zero, List.getElem?_cons_succ] at f0 f1 f2 f3 f4
          have Hb1 := Lib.hid (H0.out.trans (hb1.mono (by simp)))
          clear hblk1 hb1
          go_wp2_with fail
          refine (check6_any A2 n2 c2 chain w1 (HT.out.on Hb1.out) (Hch.out.on Hb1.out)).mono ?_
          rw [Hcb.out]
          rintro e w2 ⟨rfl, hb2⟩
          have Hb2 := Lib.hid hb2
          clear hb2
          cases q with
          | true =>
            rw [show errOf true = 0 from rfl]
            go_wp2
            go_ret
            exact ⟨rfl, Hb1.out.trans (Hb2.out.mono Hb1.out.size)⟩
          | false =>
            rw [show errOf false = 60 from rfl]
            go_wp2
            go_ret
            exact ⟨rfl, Hb1.out.trans (Hb2.out.mono Hb1.out.size)⟩
        · have zdm1 : (dm == 0) = false := by simpa using zdm
          have zdm2 : (dm != 0) = true := by simpa using zdm
          obtain rfl : q = false := by rw [← hq]; simp [okParts, zdm] <;> omega
          clear hq zdm
          go_enter Tryd.func21, Tryd.ntmps21
          go_wp2_with fail
          refine HN.out.mono ?_
          rintro e w1 ⟨rfl, hb1⟩
          have hblk1 : Blk w1 w.heap.size _ _ := (hb1.block w.heap.size (by simp)).trans Hbk.out
          have f0 := hblk1.cell 0
          have f1 := hblk1.cell 1
          have f2 := hblk1.cell 2
          have f3 := hblk1.cell 3
          have f4 := hblk1.cell 4
          simp only [List.getElem?_toArray, List.getElem?_cons_zero, List.getElem?_cons_succ] at f0 f1 f2 f3 f4
          have Hb1 := Lib.hid (H0.out.trans (hb1.mono (by simp)))
          clear hblk1 hb1
          go_wp2
          go_ret
          exact ⟨rfl, Hb1.out⟩
      · have zsc1 : (sc == 0) = false := by simpa using zsc
        have zsc2 : (sc != 0) = true := by simpa using zsc
        obtain rfl : q = false := by rw [← hq]; simp [okParts, zsc] <;> omega
        clear hq zsc
        go_enter Tryd.func21, Tryd.ntmps21
        go_wp2_with fail
        refine HN.out.mono ?_
        rintro e w1 ⟨rfl, hb1⟩
        have hblk1 : Blk w1 w.heap.size _ _ := (hb1.block w.heap.size (by simp)).trans Hbk.out
        have f0 := hblk1.cell 0
        have f1 := hblk1.cell 1
        have f2 := hblk1.cell 2
        have f3 := hblk1.cell 3
        have f4 := hblk1.cell 4
        simp only [List.getElem?_toArray, List.getElem?_cons_zero, List.getElem?_cons_succ] at f0 f1 f2 f3 f4
        have Hb1 := Lib.hid (H0.out.trans (hb1.mono (by simp)))
        clear hblk1 hb1
        go_wp2
        go_ret
        exact ⟨rfl, Hb1.out⟩
    · by_cases k2 : kd = 2
      · subst k2
        by_cases zc : n2 = 0
        · subst zc
          by_cases zsc : sc = 0
          · subst zsc
            by_cases zdm : dm = 0
            · subst zdm
              obtain rfl : q = true := by rw [← hq]; simp [okParts]
              clear hq
              go_enter Tryd.func21, Tryd.ntmps21
              go_wp2_with fail
              refine HN.out.mono ?_
              rintro e w1 ⟨rfl, hb1⟩
              have hblk1 : Blk w1 w.heap.size _ _ := (hb1.block w.heap.size (by simp)).trans Hbk.out
              have f0 := hblk1.cell 0
              have f1 := hblk1.cell 1
              have f2 := hblk1.cell 2
              have f3 := hblk1.cell 3
              have f4 := hblk1.cell 4
              simp only [List.getElem?_toArray, List.getElem?_cons_zero, List.getElem?_cons_succ] at f0 f1 f2 f3 f4
              have Hb1 := Lib.hid (H0.out.trans (hb1.mono (by simp)))
              clear hblk1 hb1
              go_wp2
              go_ret
              exact ⟨rfl, Hb1.out⟩
            · have zdm1 : (dm == 0) = false := by simpa using zdm
              have zdm2 : (dm != 0) = true := by simpa using zdm
              obtain rfl : q = false := by rw [← hq]; simp [okParts, zdm] <;> omega
              clear hq zdm
              go_enter Tryd.func21, Tryd.ntmps21
              go_wp2_with fail
              refine HN.out.mono ?_
              rintro e w1 ⟨rfl, hb1⟩
              have hblk1 : Blk w1 w.heap.size _ _ := (hb1.block w.heap.size (by simp)).trans Hbk.out
              have f0 := hblk1.cell 0
              have f1 := hblk1.cell 1
              have f2 := hblk1.cell 2
              have f3 := hblk1.cell 3
              have f4 := hblk1.cell 4
              simp only [List.getElem?_toArray, List.getElem?_cons_zero, List.getElem?_cons_succ] at f0 f1 f2 f3 f4
              have Hb1 := Lib.hid (H0.out.trans (hb1.mono (by simp)))
              clear hblk1 hb1
              go_wp2
              go_ret
              exact ⟨rfl, Hb1.out⟩
          · have zsc1 : (sc == 0) = false := by simpa using zsc
            have zsc2 : (sc != 0) = true := by simpa using zsc
            obtain rfl : q = false := by rw [← hq]; simp [okParts, zsc] <;> omega
            clear hq zsc
            go_enter Tryd.func21, Tryd.ntmps21
            go_wp2_with fail
            refine HN.out.mono ?_
            rintro e w1 ⟨rfl, hb1⟩
            have hblk1 : Blk w1 w.heap.size _ _ := (hb1.block w.heap.size (by simp)).trans Hbk.out
            have f0 := hblk1.cell 0
            have f1 := hblk1.cell 1
            have f2 := hblk1.cell 2
            have f3 := hblk1.cell 3
            have f4 := hblk1.cell 4
            simp only [List.getElem?_toArray, List.getElem?_cons_zero, List.getElem?_cons_succ] at f0 f1 f2 f3 f4
            have Hb1 := Lib.hid (H0.out.trans (hb1.mono (by simp)))
            clear hblk1 hb1
            go_wp2
            go_ret
            exact ⟨rfl, Hb1.out⟩
        · have zc2 : (0 : Int) < (n2 : Int) := by omega
          have zc3 : 0 < n2 := by omega
          obtain rfl : q = false := by rw [← hq]; simp [okParts, zc] <;> omega
          clear hq zc
          go_enter Tryd.func21, Tryd.ntmps21
          go_wp2_with fail
          refine HN.out.mono ?_
          rintro e w1 ⟨rfl, hb1⟩
          have hblk1 : Blk w1 w.heap.size _ _ := (hb1.block w.heap.size (by simp)).trans Hbk.out
          have f0 := hblk1.cell 0
          have f1 := hblk1.cell 1
          have f2 := hblk1.cell 2
          have f3 := hblk1.cell 3
          have f4 := hblk1.cell 4
          simp only [List.getElem?_toArray, List.getElem?_cons_zero, List.getElem?_cons_succ] at f0 f1 f2 f3 f4
          have Hb1 := Lib.hid (H0.out.trans (hb1.mono (by simp)))
          clear hblk1 hb1
          go_wp2
          go_ret
          exact ⟨rfl, Hb1.out⟩
      · by_cases k3 : kd = 3
        · subst k3
          by_cases zc : n2 = 0
          · subst zc
            by_cases zsc : sc = 0
            · subst zsc
              by_cases zdm : dm = 0
              · subst zdm
                obtain rfl : q = true := by rw [← hq]; simp [okParts]
                clear hq
                go_enter Tryd.func21, Tryd.ntmps21
                go_wp2_with fail
                refine HN.out.mono ?_
                rintro e w1 ⟨rfl, hb1⟩
                have hblk1 : Blk w1 w.heap.size _ _ := (hb1.block w.heap.size (by simp)).trans Hbk.out
                have f0 := hblk1.cell 0
                have f1 := hblk1.cell 1
                have f2 := hblk1.cell 2
                have f3 := hblk1.cell 3
                have f4 := hblk1.cell 4
                simp only [List.getElem?_toArray, List.getElem?_cons_zero, List.getElem?_cons_succ] at f0 f1 f2 f3 f4
                have Hb1 := Lib.hid (H0.out.trans (hb1.mono (by simp)))
                clear hblk1 hb1
                go_wp2
                go_ret
                exact ⟨rfl, Hb1.out⟩
              · have zdm1 : (dm == 0) = false := by simpa using zdm
                have zdm2 : (dm != 0) = true := by simpa using zdm
                obtain rfl : q = false := by rw [← hq]; simp [okParts, zdm] <;> omega
                clear hq zdm
                go_enter Tryd.func21, Tryd.ntmps21
                go_wp2_with fail
                refine HN.out.mono ?_
                rintro e w1 ⟨rfl, hb1⟩
                have hblk1 : Blk w1 w.heap.size _ _ := (hb1.block w.heap.size (by simp)).trans Hbk.out
                have f0 := hblk1.cell 0
                have f1 := hblk1.cell 1
                have f2 := hblk1.cell 2
                have f3 := hblk1.cell 3
                have f4 := hblk1.cell 4
                simp only [List.getElem?_toArray, List.getElem?_cons_zero, List.getElem?_cons_succ] at f0 f1 f2 f3 f4
                have Hb1 := Lib.hid (H0.out.trans (hb1.mono (by simp)))
                clear hblk1 hb1
                go_wp2
                go_ret
                exact ⟨rfl, Hb1.out⟩
            · have zsc1 : (sc == 0) = false := by simpa using zsc
              have zsc2 : (sc != 0) = true := by simpa using zsc
              obtain rfl : q = false := by rw [← hq]; simp [okParts, zsc] <;> omega
              clear hq zsc
              go_enter Tryd.func21, Tryd.ntmps21
              go_wp2_with fail
              refine HN.out.mono ?_
              rintro e w1 ⟨rfl, hb1⟩
              have hblk1 : Blk w1 w.heap.size _ _ := (hb1.block w.heap.size (by simp)).trans Hbk.out
              have f0 := hblk1.cell 0
              have f1 := hblk1.cell 1
              have f2 := hblk1.cell 2
              have f3 := hblk1.cell 3
              have f4 := hblk1.cell 4
              simp only [List.getElem?_toArray, List.getElem?_cons_zero, List.getElem?_cons_succ] at f0 f1 f2 f3 f4
              have Hb1 := Lib.hid (H0.out.trans (hb1.mono (by simp)))
              clear hblk1 hb1
              go_wp2
              go_ret
              exact ⟨rfl, Hb1.out⟩
          · have zc2 : (0 : Int) < (n2 : Int) := by omega
            have zc3 : 0 < n2 := by omega
            obtain rfl : q = false := by rw [← hq]; simp [okParts, zc] <;> omega
            clear hq zc
            go_enter Tryd.func21, Tryd.ntmps21
            go_wp2_with fail
            refine HN.out.mono ?_
            rintro e w1 ⟨rfl, hb1⟩
            have hblk1 : Blk w1 w.heap.size _ _ := (hb1.block w.heap.size (by simp)).trans Hbk.out
            have f0 := hblk1.cell 0
            have f1 := hblk1.cell 1
            have f2 := hblk1.cell 2
            have f3 := hblk1.cell 3
            have f4 := hblk1.cell 4
            simp only [List.getElem?_toArray, List.getElem?_cons_zero, List.getElem?_cons_succ] at f0 f1 f2 f3 f4
            have Hb1 := Lib.hid (H0.out.trans (hb1.mono (by simp)))
            clear hblk1 hb1
            go_wp2
            go_ret
            exact ⟨rfl, Hb1.out⟩
        · by_cases k4 : kd = 4
          · subst k4
            by_cases zc : n2 = 0
            · subst zc
              by_cases zdm : dm = 0
              · subst zdm
                by_cases r1 : (0 : Int) ≤ sc
                · by_cases r2 : sc ≤ (9 : Int)
                  · obtain rfl : q = true := by rw [← hq]; simp [okParts, r1, r2]
                    clear hq
                    go_enter Tryd.func21, Tryd.ntmps21
                    go_wp2_with fail
                    refine HN.out.mono ?_
                    rintro e w1 ⟨rfl, hb1⟩
                    have hblk1 : Blk w1 w.heap.size _ _ := (hb1.block w.heap.size (by simp)).trans Hbk.out
                    have f0 := hblk1.cell 0
                    have f1 := hblk1.cell 1
                    have f2 := hblk1.cell 2
                    have f3 := hblk1.cell 3
                    have f4 := hblk1.cell 4
                    simp only [List.getElem?_toArray, List.getElem?_cons_zero, List.getElem?_cons_succ] at f0 f1 f2 f3 f4
                    have Hb1 := Lib.hid (H0.out.trans (hb1.mono (by simp)))
                    clear hblk1 hb1
                    go_wp2
                    go_ret
                    exact ⟨ret_bool (by simp <;> omega), Hb1.out⟩
                  · obtain rfl : q = false := by rw [← hq]; simp [okParts, r1, r2] <;> omega
                    clear hq
                    go_enter Tryd.func21, Tryd.ntmps21
                    go_wp2_with fail
                    refine HN.out.mono ?_
                    rintro e w1 ⟨rfl, hb1⟩
                    have hblk1 : Blk w1 w.heap.size _ _ := (hb1.block w.heap.size (by simp)).trans Hbk.out
                    have f0 := hblk1.cell 0
                    have f1 := hblk1.cell 1
                    have f2 := hblk1.cell 2
                    have f3 := hblk1.cell 3
                    have f4 := hblk1.cell 4
                    simp only [List.getElem?_toArray, List.getElem?_cons_zero, List.getElem?_cons_succ] at f0 f1 f2 f3 f4
                    have Hb1 := Lib.hid (H0.out.trans (hb1.mono (by simp)))
                    clear hblk1 hb1
                    go_wp2
                    go_ret
                    exact ⟨ret_bool (by simp <;> omega), Hb1.out⟩
                · obtain rfl : q = false := by rw [← hq]; simp [okParts, r1] <;> omega
                  clear hq
                  go_enter Tryd.func21, Tryd.ntmps21
                  go_wp2_with fail
                  refine HN.out.mono ?_
                  rintro e w1 ⟨rfl, hb1⟩
                  have hblk1 : Blk w1 w.heap.size _ _ := (hb1.block w.heap.size (by simp)).trans Hbk.out
                  have f0 := hblk1.cell 0
                  have f1 := hblk1.cell 1
                  have f2 := hblk1.cell 2
                  have f3 := hblk1.cell 3
                  have f4 := hblk1.cell 4
                  simp only [List.getElem?_toArray, List.getElem?_cons_zero, List.getElem?_cons_succ] at f0 f1 f2 f3 f4
                  have Hb1 := Lib.hid (H0.out.trans (hb1.mono (by simp)))
                  clear hblk1 hb1
                  go_wp2
                  go_ret
                  exact ⟨ret_bool (by simp <;> omega), Hb1.out⟩
              · have zdm1 : (dm == 0) = false := by simpa using zdm
                have zdm2 : (dm != 0) = true := by simpa using zdm
                obtain rfl : q = false := by rw [← hq]; simp [okParts, zdm] <;> omega
                clear hq zdm
                go_enter Tryd.func21, Tryd.ntmps21
                go_wp2_with fail
                refine HN.out.mono ?_
                rintro e w1 ⟨rfl, hb1⟩
                have hblk1 : Blk w1 w.heap.size _ _ := (hb1.block w.heap.size (by simp)).trans Hbk.out
                have f0 := hblk1.cell 0
                have f1 := hblk1.cell 1
                have f2 := hblk1.cell 2
                have f3 := hblk1.cell 3
                have f4 := hblk1.cell 4
                simp only [List.getElem?_toArray, List.getElem?_cons_zero, List.getElem?_cons_succ] at f0 f1 f2 f3 f4
                have Hb1 := Lib.hid (H0.out.trans (hb1.mono (by simp)))
                clear hblk1 hb1
                go_wp2
                go_ret
                exact ⟨rfl, Hb1.out⟩
            · have zc2 : (0 : Int) < (n2 : Int) := by omega
              have zc3 : 0 < n2 := by omega
              obtain rfl : q = false := by rw [← hq]; simp [okParts, zc] <;> omega
              clear hq zc
              go_enter Tryd.func21, Tryd.ntmps21
              go_wp2_with fail
              refine HN.out.mono ?_
              rintro e w1 ⟨rfl, hb1⟩
              have hblk1 : Blk w1 w.heap.size _ _ := (hb1.block w.heap.size (by simp)).trans Hbk.out
              have f0 := hblk1.cell 0
              have f1 := hblk1.cell 1
              have f2 := hblk1.cell 2
              have f3 := hblk1.cell 3
              have f4 := hblk1.cell 4
              simp only [List.getElem?_toArray, List.getElem?_cons_zero, List.getElem?_cons_succ] at f0 f1 f2 f3 f4
              have Hb1 := Lib.hid (H0.out.trans (hb1.mono (by simp)))
              clear hblk1 hb1
              go_wp2
              go_ret
              exact ⟨rfl, Hb1.out⟩
          · by_cases k5 : kd = 5
            · subst k5
              by_cases zc : n2 = 0
              · subst zc
                by_cases zsc : sc = 0
                · subst zsc
                  by_cases r1 : (1 : Int) ≤ dm
                  · by_cases r2 : dm ≤ (4 : Int)
                    · obtain rfl : q = true := by rw [← hq]; simp [okParts, r1, r2]
                      clear hq
                      go_enter Tryd.func21, Tryd.ntmps21
                      go_wp2_with fail
                      refine HN.out.mono ?_
                      rintro e w1 ⟨rfl, hb1⟩
                      have hblk1 : Blk w1 w.heap.size _ _ := (hb1.block w.heap.size (by simp)).trans Hbk.out
                      have f0 := hblk1.cell 0
                      have f1 := hblk1.cell 1
                      have f2 := hblk1.cell 2
                      have f3 := hblk1.cell 3
                      have f4 := hblk1.cell 4
                      simp only [List.getElem?_toArray, List.getElem?_cons_zero, List.getElem?_cons_succ] at f0 f1 f2 f3 f4
                      have Hb1 := Lib.hid (H0.out.trans (hb1.mono (by simp)))
                      clear hblk1 hb1
                      go_wp2
                      go_ret
                      exact ⟨ret_bool (by simp <;> omega), Hb1.out⟩
                    · obtain rfl : q = false := by rw [← hq]; simp [okParts, r1, r2] <;> omega
                      clear hq
                      go_enter Tryd.func21, Tryd.ntmps21
                      go_wp2_with fail
                      refine HN.out.mono ?_
                      rintro e w1 ⟨rfl, hb1⟩
                      have hblk1 : Blk w1 w.heap.size _ _ := (hb1.block w.heap.size (by simp)).trans Hbk.out
                      have f0 := hblk1.cell 0
                      have f1 := hblk1.cell 1
                      have f2 := hblk1.cell 2
                      have f3 := hblk1.cell 3
                      have f4 := hblk1.cell 4
                      simp only [List.getElem?_toArray, List.getElem?_cons_zero, List.getElem?_cons_succ] at f0 f1 f2 f3 f4
                      have Hb1 := Lib.hid (H0.out.trans (hb1.mono (by simp)))
                      clear hblk1 hb1
                      go_wp2
                      go_ret
                      exact ⟨ret_bool (by simp <;> omega), Hb1.out⟩
                  · obtain rfl : q = false := by rw [← hq]; simp [okParts, r1] <;> omega
                    clear hq
                    go_enter Tryd.func21, Tryd.ntmps21
                    go_wp2_with fail
                    refine HN.out.mono ?_
                    rintro e w1 ⟨rfl, hb1⟩
                    have hblk1 : Blk w1 w.heap.size _ _ := (hb1.block w.heap.size (by simp)).trans Hbk.out
                    have f0 := hblk1.cell 0
                    have f1 := hblk1.cell 1
                    have f2 := hblk1.cell 2
                    have f3 := hblk1.cell 3
                    have f4 := hblk1.cell 4
                    simp only [List.getElem?_toArray, List.getElem?_cons_zero, List.getElem?_cons_succ] at f0 f1 f2 f3 f4
                    have Hb1 := Lib.hid (H0.out.trans (hb1.mono (by simp)))
                    clear hblk1 hb1
                    go_wp2
                    go_ret
                    exact ⟨ret_bool (by simp <;> omega), Hb1.out⟩
                · have zsc1 : (sc == 0) = false := by simpa using zsc
                  have zsc2 : (sc != 0) = true := by simpa using zsc
                  obtain rfl : q = false := by rw [← hq]; simp [okParts, zsc] <;> omega
                  clear hq zsc
                  go_enter Tryd.func21, Tryd.ntmps21
                  go_wp2_with fail
                  refine HN.out.mono ?_
                  rintro e w1 ⟨rfl, hb1⟩
                  have hblk1 : Blk w1 w.heap.size _ _ := (hb1.block w.heap.size (by simp)).trans Hbk.out
                  have f0 := hblk1.cell 0
                  have f1 := hblk1.cell 1
                  have f2 := hblk1.cell 2
                  have f3 := hblk1.cell 3
                  have f4 := hblk1.cell 4
                  simp only [List.getElem?_toArray, List.getElem?_cons_zero, List.getElem?_cons_succ] at f0 f1 f2 f3 f4
                  have Hb1 := Lib.hid (H0.out.trans (hb1.mono (by simp)))
                  clear hblk1 hb1
                  go_wp2
                  go_ret
                  exact ⟨rfl, Hb1.out⟩
              · have zc2 : (0 : Int) < (n2 : Int) := by omega
                have zc3 : 0 < n2 := by omega
                obtain rfl : q = false := by rw [← hq]; simp [okParts, zc] <;> omega
                clear hq zc
                go_enter Tryd.func21, Tryd.ntmps21
                go_wp2_with fail
                refine HN.out.mono ?_
                rintro e w1 ⟨rfl, hb1⟩
                have hblk1 : Blk w1 w.heap.size _ _ := (hb1.block w.heap.size (by simp)).trans Hbk.out
                have f0 := hblk1.cell 0
                have f1 := hblk1.cell 1
                have f2 := hblk1.cell 2
                have f3 := hblk1.cell 3
                have f4 := hblk1.cell 4
                simp only [List.getElem?_toArray, List.getElem?_cons_zero, List.getElem?_cons_succ] at f0 f1 f2 f3 f4
                have Hb1 := Lib.hid (H0.out.trans (hb1.mono (by simp)))
                clear hblk1 hb1
                go_wp2
                go_ret
                exact ⟨rfl, Hb1.out⟩
            · have e1 : (kd == 1) = false := by simpa using k1
              have g1 : (kd != 1) = true := by simpa using k1
              have e2 : (kd == 2) = false := by simpa using k2
              have g2 : (kd != 2) = true := by simpa using k2
              have e3 : (kd == 3) = false := by simpa using k3
              have g3 : (kd != 3) = true := by simpa using k3
              have e4 : (kd == 4) = false := by simpa using k4
              have g4 : (kd != 4) = true := by simpa using k4
              have e5 : (kd == 5) = false := by simpa using k5
              have g5 : (kd != 5) = true := by simpa using k5
              by_cases zc : n2 = 0
              · subst zc
                by_cases zsc : sc = 0
                · subst zsc
                  by_cases zdm : dm = 0
                  · subst zdm
                    obtain rfl : q = false := by rw [← hq]; simp [okParts, k1, k2, k3, k4, k5]
                    clear hq k1 k2 k3 k4 k5
                    go_enter Tryd.func21, Tryd.ntmps21
                    go_wp2_with fail
                    refine HN.out.mono ?_
                    rintro e w1 ⟨rfl, hb1⟩
                    have hblk1 : Blk w1 w.heap.size _ _ := (hb1.block w.heap.size (by simp)).trans Hbk.out
                    have f0 := hblk1.cell 0
                    have f1 := hblk1.cell 1
                    have f2 := hblk1.cell 2
                    have f3 := hblk1.cell 3
                    have f4 := hblk1.cell 4
                    simp only [List.getElem?_toArray, List.getElem?_cons_zero, List.getElem?_cons_succ] at f0 f1 f2 f3 f4
                    have Hb1 := Lib.hid (H0.out.trans (hb1.mono (by simp)))
                    clear hblk1 hb1
                    go_wp2
                    go_ret
                    exact ⟨rfl, Hb1.out⟩
                  · have zdm1 : (dm == 0) = false := by simpa using zdm
                    have zdm2 : (dm != 0) = true := by simpa using zdm
                    obtain rfl : q = false := by rw [← hq]; simp [okParts, k1, k2, k3, k4, k5]
                    clear hq k1 k2 k3 k4 k5 zdm
                    go_enter Tryd.func21, Tryd.ntmps21
                    go_wp2_with fail
                    refine HN.out.mono ?_
                    rintro e w1 ⟨rfl, hb1⟩
                    have hblk1 : Blk w1 w.heap.size _ _ := (hb1.block w.heap.size (by simp)).trans Hbk.out
                    have f0 := hblk1.cell 0
                    have f1 := hblk1.cell 1
                    have f2 := hblk1.cell 2
                    have f3 := hblk1.cell 3
                    have f4 := hblk1.cell 4
                    simp only [List.getElem?_toArray, List.getElem?_cons_zero, List.getElem?_cons_succ] at f0 f1 f2 f3 f4
                    have Hb1 := Lib.hid (H0.out.trans (hb1.mono (by simp)))
                    clear hblk1 hb1
                    go_wp2
                    go_ret
                    exact ⟨rfl, Hb1.out⟩
                · have zsc1 : (sc == 0) = false := by simpa using zsc
                  have zsc2 : (sc != 0) = true := by simpa using zsc
                  obtain rfl : q = false := by rw [← hq]; simp [okParts, k1, k2, k3, k4, k5]
                  clear hq k1 k2 k3 k4 k5 zsc
                  go_enter Tryd.func21, Tryd.ntmps21
                  go_wp2_with fail
                  refine HN.out.mono ?_
                  rintro e w1 ⟨rfl, hb1⟩
                  have hblk1 : Blk w1 w.heap.size _ _ := (hb1.block w.heap.size (by simp)).trans Hbk.out
                  have f0 := hblk1.cell 0
                  have f1 := hblk1.cell 1
                  have f2 := hblk1.cell 2
                  have f3 := hblk1.cell 3
                  have f4 := hblk1.cell 4
                  simp only [List.getElem?_toArray, List.getElem?_cons_zero, List.getElem?_cons_succ] at f0 f1 f2 f3 f4
                  have Hb1 := Lib.hid (H0.out.trans (hb1.mono (by simp)))
                  clear hblk1 hb1
                  go_wp2
                  go_ret
                  exact ⟨rfl, Hb1.out⟩
              · have zc2 : (0 : Int) < (n2 : Int) := by omega
                have zc3 : 0 < n2 := by omega
                obtain rfl : q = false := by rw [← hq]; simp [okParts, k1, k2, k3, k4, k5]
                clear hq k1 k2 k3 k4 k5 zc
                go_enter Tryd.func21, Tryd.ntmps21
                go_wp2_with fail
                refine HN.out.mono ?_
                rintro e w1 ⟨rfl, hb1⟩
                have hblk1 : Blk w1 w.heap.size _ _ := (hb1.block w.heap.size (by simp)).trans Hbk.out
                have f0 := hblk1.cell 0
                have f1 := hblk1.cell 1
                have f2 := hblk1.cell 2
                have f3 := hblk1.cell 3
                have f4 := hblk1.cell 4
                simp only [List.getElem?_toArray, List.getElem?_cons_zero, List.getElem?_cons_succ] at f0 f1 f2 f3 f4
                have Hb1 := Lib.hid (H0.out.trans (hb1.mono (by simp)))
                clear hblk1 hb1
                go_wp2
                go_ret
                exact ⟨rfl, Hb1.out⟩
end Go.Proofs.YtajgoffeahfmfaaDoor

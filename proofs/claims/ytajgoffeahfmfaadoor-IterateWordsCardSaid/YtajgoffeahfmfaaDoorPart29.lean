/- The texts SchCheck of IterateWords, joined by program (tools/merge.py): walks of the functions that the law reaches, and plain facts; no condition. -/
import Derived.Test.YtajgoffeahfmfaaDoorPart27
import Derived.Test.YtajgoffeahfmfaaDoorPart28
set_option linter.unusedVariables false
set_option linter.unusedSimpArgs false

/- The walk of schema.Check. -/
namespace Go.Proofs.YtajgoffeahfmfaaDoor
open Rep (rep)
open Go.RowKit

def fieldAt (fs : List Field) (i : Nat) : Bool := match fs[i]? with | some f => decide (findN fs f.name = some i) && fieldOk f | none => true
def schemaB (fs : List Field) : Bool := decide (1 ≤ fs.length ∧ fs.length ≤ 16) && (List.range fs.length).all (fieldAt fs)
def errS (b : Bool) : Int := if b then 0 else 80
theorem findN_has {fs : List Field} {i : Nat} {f : Field} (h : fs[i]? = some f) : ∃ k, findN fs f.name = some k ∧ k ≤ i := by
  rcases hq : findN fs f.name with _ | k
  · unfold findN at hq
    rw [List.findIdx?_eq_none_iff] at hq
    have := hq f (List.mem_of_getElem? h)
    simp at this
  · refine ⟨k, rfl, ?_⟩
    unfold findN at hq
    rw [List.findIdx?_eq_some_iff_getElem] at hq
    obtain ⟨h1, h2, h3⟩ := hq
    rcases Nat.lt_or_ge i k with hlt | hge
    · have := h3 i hlt
      rw [List.getElem?_eq_getElem (lt_of_get? h)] at h
      rw [Option.some.inj h] at this
      simp at this
    · exact hge

set_option maxRecDepth 100000 in
set_option maxHeartbeats 2000000 in
theorem schCheck_any (A : Option Addr) (n c : Nat) (fs : List Field) (w : World) (hT : Tabs w) (hs : RepList w (· < w.heap.size) A n c fs) :
    Calls Tryd.prog 13 #[.agg #[.slice A n c]] w fun e w' => e = .returned (.int .i64 (errS (schemaB fs))) ∧ Below w.heap.size w w' := by
  have hcap := hs.cap
  have hl := hs.length
  obtain ⟨q, hq⟩ : ∃ q, errS (schemaB fs) = q := ⟨_, rfl⟩
  rw [hq]
  by_cases h0 : n = 0
  · subst h0
    obtain rfl : q = 80 := by rw [← hq]; unfold schemaB; rw [hl]; rfl
    clear hs hT hq hl
    go_enter Tryd.func13, Tryd.ntmps13
    go_wp2
    go_ret
    exact ⟨rfl, (Below.refl _ _).alloc (Nat.le_refl _) _⟩
  by_cases h16 : (16 : Int) < n
  · obtain rfl : q = 80 := by rw [← hq]; unfold schemaB; rw [decide_eq_false (by omega)]; rfl
    have h1 : ¬ (n : Int) < 1 := by omega
    clear hs hT hq hl
    go_enter Tryd.func13, Tryd.ntmps13
    go_wp2
    go_ret
    exact ⟨rfl, (Below.refl _ _).alloc (Nat.le_refl _) _⟩
  have h1 : ¬ (n : Int) < 1 := by omega
  have hq2 : errS ((List.range n).all (fieldAt fs)) = q := by rw [← hq]; unfold schemaB; rw [decide_eq_true (by omega), hl]; rfl
  have Hq := Lib.hid hq2
  have Hs := Lib.hid hs
  have HT := Lib.hid hT
  have Hl := Lib.hid hl
  have bad : ∀ i, i < n → fieldAt fs i = false → q = 80 := fun i hi h => by rw [← hq2, range_all_no hi h]; rfl
  have Bad := Lib.hid bad
  have hb0 : Below w.heap.size w (w.alloc (.cells #[.slice A n c] 24)) := (Below.refl _ _).alloc (Nat.le_refl _) _
  have H0 := Lib.hid hb0
  have hbox : (w.alloc (.cells #[.slice A n c] 24)).cell? ⟨w.heap.size, 0, none⟩ = some (.slice A n c) := by simp
  obtain ⟨W0, hW0⟩ : ∃ W0, w.alloc (.cells #[.slice A n c] 24) = W0 := ⟨_, rfl⟩
  have hz0 : W0.heap.size = w.heap.size + 1 := by rw [← hW0]; simp
  have HW0 := Lib.hid hW0
  rw [hW0] at H0 hbox
  have Hbox := Lib.hid hbox
  clear hs hT hq hq2 bad hb0 hbox hl hW0
  go_enter Tryd.func13, Tryd.ntmps13
  go_wp2
  rw [HW0.out]
  go_loopw [20] (fun i wr => ∃ j : Nat, j ≤ n ∧ i = .int .i64 j ∧ (List.range j).all (fieldAt fs) = true ∧ Below W0.heap.size W0 wr) (fun i _ => n - (intOf i).toNat)
  case atStart => exact ⟨0, by omega, rfl, rfl, Below.refl _ _⟩
  case round =>
    obtain ⟨i, hi, rfl, hall, hbw⟩ := hrel
    have Hall := Lib.hid hall
    have Hbw := Lib.hid hbw
    have HwB : Hid (Below w.heap.size w wr) := H0.out.trans (hbw.mono (by omega))
    have hsw := hbw.size
    clear hall hbw
    by_cases hlt : i < n
    · obtain ⟨b, off, f, rfl, hf, hbk, he⟩ := (Hs.out.on HwB.out).at_ hlt
      obtain ⟨A2, n2, c2, e0, e1, e2, e3, e4, e5, e6, p2, p1, p3, p4, p0⟩ := Field.at_ he
      obtain ⟨k, hk, hki⟩ := findN_has hf.out
      have hbx := (Hbw.out.cell (p := ⟨w.heap.size, 0, none⟩) (by show w.heap.size < _; omega)).trans Hbox.out
      have hb1 : Below wr.heap.size wr (wr.alloc (.cells #[.string f.name, .int .i64 f.kind, .slice A2 n2 c2, .int .i64 f.scale, .int .i64 f.dims, .bool f.many, .bool f.stored] 51)) := (Below.refl _ _).alloc (Nat.le_refl _) _
      have hfd := find_some (some ⟨b, off, none⟩) n c fs f.name (wr.alloc (.cells #[.string f.name, .int .i64 f.kind, .slice A2 n2 c2, .int .i64 f.scale, .int .i64 f.dims, .bool f.many, .bool f.stored] 51)) ((Hs.out.on HwB.out).on hb1) k hk
      have Hfd := Lib.hid hfd
      have hbl := Blk.new wr 51 #[.string f.name, .int .i64 f.kind, .slice A2 n2 c2, .int .i64 f.scale, .int .i64 f.dims, .bool f.many, .bool f.stored]
      have Hbl := Lib.hid hbl
      have P2 := Lib.hid p2
      have P0 := Lib.hid p0
      have Hf := Lib.hid hf.out
      have Hk := Lib.hid hk
      have HbA := Lib.hid hb1
      have hbn : b < wr.heap.size := hbk
      have hwn : w.heap.size < wr.heap.size := by omega
      clear hf he hk hfd hbl hb1 p2 p0 p1 p3 p4
      go_wp2_with fail
      refine Hfd.out.mono ?_
      rintro e w2 ⟨rfl, hb2⟩
      have hblk1 : Blk w2 wr.heap.size _ _ := (hb2.block wr.heap.size (by simp)).trans Hbl.out
      have f0 := hblk1.cell 0
      have f1 := hblk1.cell 1
      have f2 := hblk1.cell 2
      have f3 := hblk1.cell 3
      have f4 := hblk1.cell 4
      have f5 := hblk1.cell 5
      have f6 := hblk1.cell 6
      simp only [List.getElem?_toArray, List.getElem?_cons_zero, List.getElem?_cons_succ] at f0 f1 f2 f3 f4 f5 f6
      have hbx2 : Below wr.heap.size wr w2 := HbA.out.trans (hb2.mono (by simp))
      have Hb2 : Hid (Below wr.heap.size wr w2) := hbx2
      clear hblk1 hb2 e0 e1 e2 e3 e4 e5 e6 hbx hbx2
      have HB2 : Hid (Below W0.heap.size W0 w2) := Hbw.out.trans (Hb2.out.mono hsw)
      have HwB2 : Hid (Below w.heap.size w w2) := H0.out.trans (HB2.out.mono (by omega))
      by_cases hik : k = i
      · subst hik
        have hkk : ((k : Int) != (k : Int)) = false := by simp
        have hfa : fieldAt fs k = fieldOk f := by unfold fieldAt; rw [Hf.out]; simp [Hk.out]
        have hmy := may_any f A2 n2 c2 w2 (HT.out.on HwB2.out) (P2.out.on Hb2.out) P0.out
        obtain ⟨r, hr⟩ : ∃ r, fieldOk f = r := ⟨_, rfl⟩
        rw [hr] at hfa hmy
        have Hmy := Lib.hid hmy
        have Hfa := Lib.hid hfa
        clear hfa hmy hr
        go_wp2_with fail
        refine Hmy.out.mono ?_
        rintro e w3 ⟨rfl, hb3⟩
        have HB3 : Hid (Below W0.heap.size W0 w3) := HB2.out.trans (hb3.mono HB2.out.size)
        clear hb3
        cases r with
        | true =>
          have hst : (List.range (k + 1)).all (fieldAt fs) = true := by rw [range_all_succ, Hall.out, Hfa.out]; rfl
          have Hst := Lib.hid hst
          clear hst
          go_wp2
          go_roundw
          case rel => exact ⟨k + 1, by omega, by go_num, Hst.out, HB3.out⟩
          case measure => simp [intOf]; omega
        | false =>
          obtain rfl := Bad.out k hlt Hfa.out
          go_wp2
          go_ret
          exact ⟨rfl, H0.out.trans (HB3.out.mono (by omega))⟩
      · have hfa : fieldAt fs i = false := by unfold fieldAt; rw [Hf.out]; simp [Hk.out, hik]
        obtain rfl := Bad.out i hlt hfa
        have hkk : ((k : Int) != (i : Int)) = true := by simp; omega
        clear hfa hik
        go_wp2
        go_ret
        exact ⟨rfl, HwB2.out⟩
    · obtain rfl : i = n := by omega
      obtain rfl : q = 0 := by rw [← Hq.out, Hall.out]; rfl
      go_wp2
      go_ret
      exact ⟨rfl, HwB.out⟩
end Go.Proofs.YtajgoffeahfmfaaDoor

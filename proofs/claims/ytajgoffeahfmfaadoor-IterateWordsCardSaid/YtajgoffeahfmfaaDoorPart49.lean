/- The texts Words of IterateWords, joined by program (tools/merge.py): walks of the functions that the law reaches, and plain facts; no condition. -/
import Derived.Test.YtajgoffeahfmfaaDoorPart29
import Derived.Test.YtajgoffeahfmfaaDoorPart31
import Derived.Test.YtajgoffeahfmfaaDoorPart34
import Derived.Test.YtajgoffeahfmfaaDoorPart48
import Derived.Deep.RegionHeld3
set_option linter.unusedVariables false
set_option linter.unusedSimpArgs false

/- The walks of iterate.Words, of its nil Iter's methods, and of lecternref20.Words. (Written by tools/gen_words.py.) -/
namespace Go.Proofs.YtajgoffeahfmfaaDoor
open Rep (rep)
open Go.RowKit

theorem nil_next (w : World) : Calls Tryd.prog 4 #[.pointer none] w fun e w' => e = .returned (.bool false) ∧ w = w' := by
  go_enter Tryd.func4, Tryd.ntmps4
  go_wp2
  go_ret
  exact ⟨rfl, rfl⟩
theorem nil_advance (x : Int) (w : World) : Calls Tryd.prog 5 #[.pointer none, .int .i64 x] w fun e w' => e = .returned (.bool false) ∧ w = w' := by
  go_enter Tryd.func5, Tryd.ntmps5
  go_wp2
  go_ret
  exact ⟨rfl, rfl⟩
theorem nil_doc (w : World) : Calls Tryd.prog 6 #[.pointer none] w fun e w' => e = .returned (.int .i64 16384) ∧ w = w' := by
  go_enter Tryd.func6, Tryd.ntmps6
  go_wp2
  go_ret
  exact ⟨rfl, rfl⟩
theorem nil_freq (w : World) : Calls Tryd.prog 7 #[.pointer none] w fun e w' => e = .returned (.int .i64 0) ∧ w = w' := by
  go_enter Tryd.func7, Tryd.ntmps7
  go_wp2_with (go_at_call 6; go_must (refine (nil_doc _).mono ?_); rintro e w' ⟨rfl, rfl⟩)
  go_ret
  exact ⟨rfl, rfl⟩

def wordsT (fs : List Field) (kd : Int) (fd tx : ByteArray) : List Token :=
  if schemaB fs = true ∧ (kd = 3 ∨ kd = 4) then (match findN fs fd with | some k => (match fs[k]? with | some f => if f.kind = 1 then runT f.chain tx else [] | none => []) | none => []) else []
theorem wordsT_some {fs : List Field} {kd : Int} {fd tx : ByteArray} {k : Nat} {f : Field} (h1 : schemaB fs = true) (h2 : kd = 3 ∨ kd = 4) (h3 : findN fs fd = some k) (h4 : fs[k]? = some f) : wordsT fs kd fd tx = if f.kind = 1 then runT f.chain tx else [] := by
  unfold wordsT
  rw [if_pos ⟨h1, h2⟩, h3]
  simp only [h4]
theorem wordsT_none {fs : List Field} {kd : Int} {fd tx : ByteArray} (h3 : findN fs fd = none) : wordsT fs kd fd tx = [] := by
  unfold wordsT
  split
  · rw [h3]
  · rfl
theorem findR_some {fs : List Field} {nm : ByteArray} {k : Nat} (h : findN fs nm = some k) : findR fs nm = k := by unfold findR; rw [h]
theorem findR_none {fs : List Field} {nm : ByteArray} (h : findN fs nm = none) : findR fs nm = -1 := by unfold findR; rw [h]

set_option maxRecDepth 100000 in
set_option maxHeartbeats 4000000 in
theorem words_any (A : Option Addr) (n c : Nat) (fs : List Field) (kd oc : Int) (fd tx up : ByteArray) (vL vH : Value) (bo op : Int) (vK : Value) (hv1 : vL.oneCell' = true) (hv2 : vH.oneCell' = true) (hv3 : vK.oneCell' = true) (w : World) (hT : Tabs w) (hs : RepList w (· < w.heap.size) A n c fs) :
    Calls Tryd.prog 9 #[.agg #[.slice A n c], .agg #[.int .i64 kd, .int .i64 oc, .string fd, .string tx, .string up, vL, vH, .int .i64 bo, .int .i64 op, vK]] w fun e w' => ∃ v, e = .returned v ∧ Own Flat w' w.heap.size 44 v (wordsT fs kd fd tx) ∧ Below w.heap.size w w' := by
  obtain ⟨q, hq⟩ : ∃ q, wordsT fs kd fd tx = q := ⟨_, rfl⟩
  rw [hq]
  have Hq := Lib.hid hq
  have hb0 : Below w.heap.size w ((w.alloc (.cells #[.slice A n c] 24)).alloc (.cells #[.int .i64 kd, .int .i64 oc, .string fd, .string tx, .string up, vL, vH, .int .i64 bo, .int .i64 op, vK] 28)) := (((Below.refl _ _).alloc (Nat.le_refl _) _).alloc (by simp) _)
  have B0 : Blk ((w.alloc (.cells #[.slice A n c] 24)).alloc (.cells #[.int .i64 kd, .int .i64 oc, .string fd, .string tx, .string up, vL, vH, .int .i64 bo, .int .i64 op, vK] 28)) w.heap.size 24 #[.slice A n c] := (Blk.new _ _ _).alloc _
  have B1 : Blk ((w.alloc (.cells #[.slice A n c] 24)).alloc (.cells #[.int .i64 kd, .int .i64 oc, .string fd, .string tx, .string up, vL, vH, .int .i64 bo, .int .i64 op, vK] 28)) (w.heap.size + 1) 28 #[.int .i64 kd, .int .i64 oc, .string fd, .string tx, .string up, vL, vH, .int .i64 bo, .int .i64 op, vK] := by
    have := Blk.new (w.alloc (.cells #[.slice A n c] 24)) 28 #[.int .i64 kd, .int .i64 oc, .string fd, .string tx, .string up, vL, vH, .int .i64 bo, .int .i64 op, vK]
    simpa using this
  obtain ⟨W0, hW0⟩ : ∃ W0, ((w.alloc (.cells #[.slice A n c] 24)).alloc (.cells #[.int .i64 kd, .int .i64 oc, .string fd, .string tx, .string up, vL, vH, .int .i64 bo, .int .i64 op, vK] 28)) = W0 := ⟨_, rfl⟩
  have hz : W0.heap.size = w.heap.size + 2 := by rw [← hW0]; simp
  have HW0 := Lib.hid hW0
  rw [hW0] at hb0 B0 B1
  have HB0 := Lib.hid B0
  have HB1 := Lib.hid B1
  have Hb0 := Lib.hid hb0
  have Hs := Lib.hid hs
  have HT := Lib.hid hT
  clear hs hT hb0 B0 B1 hW0 hq
  obtain ⟨sb, hsb⟩ : ∃ sb, schemaB fs = sb := ⟨_, rfl⟩
  have Hsb := Lib.hid hsb
  clear hsb
  go_enter Tryd.func9, Tryd.ntmps9
  go_wp2_with fail
  rw [HW0.out]
  refine (schCheck_any A n c fs W0 (HT.out.on Hb0.out) (Hs.out.on Hb0.out)).mono ?_
  rw [Hsb.out]
  rintro e w1 ⟨rfl, hb1⟩
  have hq0 : Blk w1 w.heap.size _ _ := HB0.out.below hb1 (by omega)
  have hq1 : Blk w1 (w.heap.size + 1) _ _ := HB1.out.below hb1 (by omega)
  have c0 := hq0.cell 0
  have d0 := hq1.cell 0
  have d2 := hq1.cell 2
  have d3 := hq1.cell 3
  simp only [List.getElem?_toArray, List.getElem?_cons_zero, List.getElem?_cons_succ] at c0 d0 d2 d3
  have Hb1 : Hid (Below w.heap.size w w1) := Hb0.out.trans (hb1.mono (by omega))
  have hz1 := hq1.lt
  have Hq0 := Lib.hid hq0
  have Hq1 := Lib.hid hq1
  clear hb1 hq0 hq1
  cases sb with
  | false =>
    rw [show errS false = 80 from rfl]
    obtain rfl : q = [] := by rw [← Hq.out]; unfold wordsT; rw [if_neg (by rw [Hsb.out]; simp)]
    go_wp2
    go_ret
    exact ⟨_, rfl, Own.nil _ _ _ _, Hb1.out⟩
  | true =>
    rw [show errS true = 0 from rfl]
    by_cases hk : kd = 3 ∨ kd = 4
    · have hsome := fun (k : Nat) (f : Field) (h3 : findN fs fd = some k) (h4 : fs[k]? = some f) => (wordsT_some (tx := tx) Hsb.out hk h3 h4 : wordsT fs kd fd tx = _)
      have Hsome := Lib.hid hsome
      have hnone := fun (h3 : findN fs fd = none) => (wordsT_none h3 : wordsT fs kd fd tx = [])
      have Hnone := Lib.hid hnone
      clear hsome hnone
      rcases hk with rfl | rfl
      · rcases hf : findN fs fd with _ | k
        · obtain rfl : q = [] := by rw [← Hq.out, Hnone.out hf]
          go_wp2_with fail
          refine (find_none A n c fs fd w1 (Hs.out.on Hb1.out) hf).mono ?_
          rintro e w2 ⟨rfl, hb2⟩
          have Hb2 : Hid (Below w.heap.size w w2) := Hb1.out.trans (hb2.mono Hb1.out.size)
          clear hb2
          go_wp2
          go_ret
          exact ⟨_, rfl, Own.nil _ _ _ _, Hb2.out⟩
        · obtain ⟨f, hfk, _⟩ := findN_lt hf
          have hl := Hs.out.length
          have hkn : k < n := by have := lt_of_get? hfk; omega
          have hk0 : (0 : Int) ≤ (k : Int) := by omega
          have hk1 : (k : Int) < (n : Int) := by omega
          have hwd := Hsome.out k f hf hfk
          obtain ⟨b, off, rfl, hbk, he⟩ := Hs.out.2.2.2 k f hfk
          obtain ⟨A2, n2, c2, e0, e1, e2, e3, e4, e5, e6, p2, p1, p3, p4, p0⟩ := Field.at_ he
          have Hf := Lib.hid hf
          have Hwd := Lib.hid hwd
          have P2 := Lib.hid p2
          have E1 := Lib.hid e1
          have E2 := Lib.hid e2
          clear hf hfk hl hwd he e0 e1 e2 e3 e4 e5 e6 p2 p1 p3 p4 p0 Hsome Hnone
          go_wp2_with fail
          refine (find_some _ n c fs fd w1 (Hs.out.on Hb1.out) k Hf.out).mono ?_
          rintro e w2 ⟨rfl, hb2⟩
          have Hb2 : Hid (Below w.heap.size w w2) := Hb1.out.trans (hb2.mono Hb1.out.size)
          have hq0 : Blk w2 w.heap.size _ _ := Hq0.out.below hb2 (by omega)
          have hq1 : Blk w2 (w.heap.size + 1) _ _ := Hq1.out.below hb2 (by omega)
          have c0' := hq0.cell 0
          have d3' := hq1.cell 3
          simp only [List.getElem?_toArray, List.getElem?_cons_zero, List.getElem?_cons_succ] at c0' d3'
          have k1 := (Hb2.out.cell (p := ⟨b, off + k * 7 + 1, none⟩) hbk).trans E1.out
          have hz2 := hq1.lt
          have Hq02 := Lib.hid hq0
          have Hq12 := Lib.hid hq1
          clear hb2 hq0 hq1 c0 d0 d2 d3
          by_cases hkd : f.kind = 1
          · have hres : runT f.chain tx = q := by rw [← Hq.out, Hwd.out, if_pos hkd]
            have Hres := Lib.hid hres
            rw [hkd] at k1
            have HS : Hid (∀ W, Below w2.heap.size w2 W → W.cell? ⟨w.heap.size, 0, none⟩ = some (.slice (some ⟨b, off, none⟩) n c) ∧ W.cell? ⟨b, off + k * 7 + 2, none⟩ = some (.slice A2 n2 c2) ∧ W.cell? ⟨w.heap.size + 1, 3, none⟩ = some (.string tx) ∧ Below w2.heap.size w2 W) := fun W hW =>
              ⟨(hW.cell (p := ⟨w.heap.size, 0, none⟩) (by show w.heap.size < _; omega)).trans c0', (hW.cell (p := ⟨b, off + k * 7 + 2, none⟩) (by show b < _; omega)).trans ((Hb2.out.cell (p := ⟨b, off + k * 7 + 2, none⟩) hbk).trans E2.out), (hW.cell (p := ⟨w.heap.size + 1, 3, none⟩) hz2).trans d3', hW⟩
            have k2 := (HS.out w2 (Below.refl _ _)).2.1
            clear hres hkd
            go_wp2
            go_region_held3 (fun W => W.cell? ⟨w.heap.size, 0, none⟩ = some (.slice (some ⟨b, off, none⟩) n c) ∧ W.cell? ⟨b, off + k * 7 + 2, none⟩ = some (.slice A2 n2 c2) ∧ W.cell? ⟨w.heap.size + 1, 3, none⟩ = some (.string tx) ∧ Below w2.heap.size w2 W)
              (first | exact HS.out _ (Below.refl _ _) | exact HS.out _ (Below.refl _ _).drew | exact HS.out _ (by assumption))
              (first | (go_at_call 15; have hcur : Below w2.heap.size w2 w2.drew := (Below.refl _ _).drew; go_must (refine (run6_any A2 n2 c2 f.chain tx _ (HT.out.on (Hb2.out.trans (hcur.mono Hb2.out.size))) (P2.out.on (Hb2.out.trans (hcur.mono Hb2.out.size)))).mono ?_); rw [Hres.out]; rintro e w3 ⟨v, er, rfl, o3, hb3⟩; have hc3 : Below w2.heap.size w2 w3 := hcur.trans (hb3.mono hcur.size); have Ho3 : Hid (Own Flat w3 w.heap.size 44 v q) := o3.mono (Nat.le_trans Hb2.out.size hcur.size); clear o3 hb3 hcur))
            go_wp2
            go_ret
            exact ⟨_, rfl, Ho3.out, Hb2.out.trans (hc3.mono Hb2.out.size)⟩
          · obtain rfl : q = [] := by rw [← Hq.out, Hwd.out, if_neg hkd]
            obtain ⟨fk, hfk⟩ : ∃ fk, f.kind = fk := ⟨_, rfl⟩
            rw [hfk] at k1 hkd
            have kk : (fk != 1) = true := by simpa using hkd
            clear hkd hfk
            go_wp2
            go_ret
            exact ⟨_, rfl, Own.nil _ _ _ _, Hb2.out⟩
      · rcases hf : findN fs fd with _ | k
        · obtain rfl : q = [] := by rw [← Hq.out, Hnone.out hf]
          go_wp2_with fail
          refine (find_none A n c fs fd w1 (Hs.out.on Hb1.out) hf).mono ?_
          rintro e w2 ⟨rfl, hb2⟩
          have Hb2 : Hid (Below w.heap.size w w2) := Hb1.out.trans (hb2.mono Hb1.out.size)
          clear hb2
          go_wp2
          go_ret
          exact ⟨_, rfl, Own.nil _ _ _ _, Hb2.out⟩
        · obtain ⟨f, hfk, _⟩ := findN_lt hf
          have hl := Hs.out.length
          have hkn : k < n := by have := lt_of_get? hfk; omega
          have hk0 : (0 : Int) ≤ (k : Int) := by omega
          have hk1 : (k : Int) < (n : Int) := by omega
          have hwd := Hsome.out k f hf hfk
          obtain ⟨b, off, rfl, hbk, he⟩ := Hs.out.2.2.2 k f hfk
          obtain ⟨A2, n2, c2, e0, e1, e2, e3, e4, e5, e6, p2, p1, p3, p4, p0⟩ := Field.at_ he
          have Hf := Lib.hid hf
          have Hwd := Lib.hid hwd
          have P2 := Lib.hid p2
          have E1 := Lib.hid e1
          have E2 := Lib.hid e2
          clear hf hfk hl hwd he e0 e1 e2 e3 e4 e5 e6 p2 p1 p3 p4 p0 Hsome Hnone
          go_wp2_with fail
          refine (find_some _ n c fs fd w1 (Hs.out.on Hb1.out) k Hf.out).mono ?_
          rintro e w2 ⟨rfl, hb2⟩
          have Hb2 : Hid (Below w.heap.size w w2) := Hb1.out.trans (hb2.mono Hb1.out.size)
          have hq0 : Blk w2 w.heap.size _ _ := Hq0.out.below hb2 (by omega)
          have hq1 : Blk w2 (w.heap.size + 1) _ _ := Hq1.out.below hb2 (by omega)
          have c0' := hq0.cell 0
          have d3' := hq1.cell 3
          simp only [List.getElem?_toArray, List.getElem?_cons_zero, List.getElem?_cons_succ] at c0' d3'
          have k1 := (Hb2.out.cell (p := ⟨b, off + k * 7 + 1, none⟩) hbk).trans E1.out
          have hz2 := hq1.lt
          have Hq02 := Lib.hid hq0
          have Hq12 := Lib.hid hq1
          clear hb2 hq0 hq1 c0 d0 d2 d3
          by_cases hkd : f.kind = 1
          · have hres : runT f.chain tx = q := by rw [← Hq.out, Hwd.out, if_pos hkd]
            have Hres := Lib.hid hres
            rw [hkd] at k1
            have HS : Hid (∀ W, Below w2.heap.size w2 W → W.cell? ⟨w.heap.size, 0, none⟩ = some (.slice (some ⟨b, off, none⟩) n c) ∧ W.cell? ⟨b, off + k * 7 + 2, none⟩ = some (.slice A2 n2 c2) ∧ W.cell? ⟨w.heap.size + 1, 3, none⟩ = some (.string tx) ∧ Below w2.heap.size w2 W) := fun W hW =>
              ⟨(hW.cell (p := ⟨w.heap.size, 0, none⟩) (by show w.heap.size < _; omega)).trans c0', (hW.cell (p := ⟨b, off + k * 7 + 2, none⟩) (by show b < _; omega)).trans ((Hb2.out.cell (p := ⟨b, off + k * 7 + 2, none⟩) hbk).trans E2.out), (hW.cell (p := ⟨w.heap.size + 1, 3, none⟩) hz2).trans d3', hW⟩
            have k2 := (HS.out w2 (Below.refl _ _)).2.1
            clear hres hkd
            go_wp2
            go_region_held3 (fun W => W.cell? ⟨w.heap.size, 0, none⟩ = some (.slice (some ⟨b, off, none⟩) n c) ∧ W.cell? ⟨b, off + k * 7 + 2, none⟩ = some (.slice A2 n2 c2) ∧ W.cell? ⟨w.heap.size + 1, 3, none⟩ = some (.string tx) ∧ Below w2.heap.size w2 W)
              (first | exact HS.out _ (Below.refl _ _) | exact HS.out _ (Below.refl _ _).drew | exact HS.out _ (by assumption))
              (first | (go_at_call 15; have hcur : Below w2.heap.size w2 w2.drew := (Below.refl _ _).drew; go_must (refine (run6_any A2 n2 c2 f.chain tx _ (HT.out.on (Hb2.out.trans (hcur.mono Hb2.out.size))) (P2.out.on (Hb2.out.trans (hcur.mono Hb2.out.size)))).mono ?_); rw [Hres.out]; rintro e w3 ⟨v, er, rfl, o3, hb3⟩; have hc3 : Below w2.heap.size w2 w3 := hcur.trans (hb3.mono hcur.size); have Ho3 : Hid (Own Flat w3 w.heap.size 44 v q) := o3.mono (Nat.le_trans Hb2.out.size hcur.size); clear o3 hb3 hcur))
            go_wp2
            go_ret
            exact ⟨_, rfl, Ho3.out, Hb2.out.trans (hc3.mono Hb2.out.size)⟩
          · obtain rfl : q = [] := by rw [← Hq.out, Hwd.out, if_neg hkd]
            obtain ⟨fk, hfk⟩ : ∃ fk, f.kind = fk := ⟨_, rfl⟩
            rw [hfk] at k1 hkd
            have kk : (fk != 1) = true := by simpa using hkd
            clear hkd hfk
            go_wp2
            go_ret
            exact ⟨_, rfl, Own.nil _ _ _ _, Hb2.out⟩
    · obtain rfl : q = [] := by rw [← Hq.out]; unfold wordsT; rw [if_neg (fun h => hk h.2)]
      have k3 : (kd != 3) = true := by simp; omega
      have k4 : (kd != 4) = true := by simp; omega
      clear hk
      go_wp2
      go_ret
      exact ⟨_, rfl, Own.nil _ _ _ _, Hb1.out⟩

set_option maxRecDepth 100000 in
set_option maxHeartbeats 4000000 in
theorem rwords_any (A : Option Addr) (n c : Nat) (fs : List Field) (kd oc : Int) (fd tx up : ByteArray) (vL vH : Value) (bo op : Int) (vK : Value) (hv1 : vL.oneCell' = true) (hv2 : vH.oneCell' = true) (hv3 : vK.oneCell' = true) (w : World) (hs : RepList w (· < w.heap.size) A n c fs) :
    Calls Tryd.prog 12 #[.agg #[.slice A n c], .agg #[.int .i64 kd, .int .i64 oc, .string fd, .string tx, .string up, vL, vH, .int .i64 bo, .int .i64 op, vK]] w fun e w' => ∃ v, e = .returned v ∧ Own Flat w' w.heap.size 44 v (wordsT fs kd fd tx) ∧ Below w.heap.size w w' := by
  obtain ⟨q, hq⟩ : ∃ q, wordsT fs kd fd tx = q := ⟨_, rfl⟩
  rw [hq]
  have Hq := Lib.hid hq
  have hb0 : Below w.heap.size w ((w.alloc (.cells #[.slice A n c] 24)).alloc (.cells #[.int .i64 kd, .int .i64 oc, .string fd, .string tx, .string up, vL, vH, .int .i64 bo, .int .i64 op, vK] 28)) := (((Below.refl _ _).alloc (Nat.le_refl _) _).alloc (by simp) _)
  have B0 : Blk ((w.alloc (.cells #[.slice A n c] 24)).alloc (.cells #[.int .i64 kd, .int .i64 oc, .string fd, .string tx, .string up, vL, vH, .int .i64 bo, .int .i64 op, vK] 28)) w.heap.size 24 #[.slice A n c] := (Blk.new _ _ _).alloc _
  have B1 : Blk ((w.alloc (.cells #[.slice A n c] 24)).alloc (.cells #[.int .i64 kd, .int .i64 oc, .string fd, .string tx, .string up, vL, vH, .int .i64 bo, .int .i64 op, vK] 28)) (w.heap.size + 1) 28 #[.int .i64 kd, .int .i64 oc, .string fd, .string tx, .string up, vL, vH, .int .i64 bo, .int .i64 op, vK] := by
    have := Blk.new (w.alloc (.cells #[.slice A n c] 24)) 28 #[.int .i64 kd, .int .i64 oc, .string fd, .string tx, .string up, vL, vH, .int .i64 bo, .int .i64 op, vK]
    simpa using this
  obtain ⟨W0, hW0⟩ : ∃ W0, ((w.alloc (.cells #[.slice A n c] 24)).alloc (.cells #[.int .i64 kd, .int .i64 oc, .string fd, .string tx, .string up, vL, vH, .int .i64 bo, .int .i64 op, vK] 28)) = W0 := ⟨_, rfl⟩
  have hz : W0.heap.size = w.heap.size + 2 := by rw [← hW0]; simp
  have HW0 := Lib.hid hW0
  rw [hW0] at hb0 B0 B1
  have HB0 := Lib.hid B0
  have HB1 := Lib.hid B1
  have Hb0 := Lib.hid hb0
  have Hs := Lib.hid hs
  clear hs hb0 B0 B1 hW0 hq
  obtain ⟨sb, hsb⟩ : ∃ sb, schemaB fs = sb := ⟨_, rfl⟩
  have Hsb := Lib.hid hsb
  clear hsb
  go_enter Tryd.func12, Tryd.ntmps12
  go_wp2_with fail
  rw [HW0.out]
  refine (rschCheck_any A n c fs W0 (Hs.out.on Hb0.out)).mono ?_
  rw [Hsb.out]
  rintro e w1 ⟨rfl, hb1⟩
  have hq0 : Blk w1 w.heap.size _ _ := HB0.out.below hb1 (by omega)
  have hq1 : Blk w1 (w.heap.size + 1) _ _ := HB1.out.below hb1 (by omega)
  have c0 := hq0.cell 0
  have d0 := hq1.cell 0
  have d2 := hq1.cell 2
  have d3 := hq1.cell 3
  simp only [List.getElem?_toArray, List.getElem?_cons_zero, List.getElem?_cons_succ] at c0 d0 d2 d3
  have Hb1 : Hid (Below w.heap.size w w1) := Hb0.out.trans (hb1.mono (by omega))
  have hz1 := hq1.lt
  have Hq0 := Lib.hid hq0
  have Hq1 := Lib.hid hq1
  clear hb1 hq0 hq1
  cases sb with
  | false =>
    rw [show errS false = 80 from rfl]
    obtain rfl : q = [] := by rw [← Hq.out]; unfold wordsT; rw [if_neg (by rw [Hsb.out]; simp)]
    go_wp2
    go_ret
    exact ⟨_, rfl, Own.nil _ _ _ _, Hb1.out⟩
  | true =>
    rw [show errS true = 0 from rfl]
    by_cases hk : kd = 3 ∨ kd = 4
    · have hsome := fun (k : Nat) (f : Field) (h3 : findN fs fd = some k) (h4 : fs[k]? = some f) => (wordsT_some (tx := tx) Hsb.out hk h3 h4 : wordsT fs kd fd tx = _)
      have Hsome := Lib.hid hsome
      have hnone := fun (h3 : findN fs fd = none) => (wordsT_none h3 : wordsT fs kd fd tx = [])
      have Hnone := Lib.hid hnone
      clear hsome hnone
      rcases hk with rfl | rfl
      · rcases hf : findN fs fd with _ | k
        · obtain rfl : q = [] := by rw [← Hq.out, Hnone.out hf]
          go_wp2_with fail
          refine (rfind_any A n c fs fd w1 (Hs.out.on Hb1.out)).mono ?_
          rw [findR_none hf]
          rintro e w2 ⟨rfl, hb2⟩
          have Hb2 : Hid (Below w.heap.size w w2) := Hb1.out.trans (hb2.mono Hb1.out.size)
          clear hb2
          go_wp2
          go_ret
          exact ⟨_, rfl, Own.nil _ _ _ _, Hb2.out⟩
        · obtain ⟨f, hfk, _⟩ := findN_lt hf
          have hl := Hs.out.length
          have hkn : k < n := by have := lt_of_get? hfk; omega
          have hk0 : (0 : Int) ≤ (k : Int) := by omega
          have hk1 : (k : Int) < (n : Int) := by omega
          have hwd := Hsome.out k f hf hfk
          obtain ⟨b, off, rfl, hbk, he⟩ := Hs.out.2.2.2 k f hfk
          obtain ⟨A2, n2, c2, e0, e1, e2, e3, e4, e5, e6, p2, p1, p3, p4, p0⟩ := Field.at_ he
          have Hf := Lib.hid hf
          have Hwd := Lib.hid hwd
          have P2 := Lib.hid p2
          have E1 := Lib.hid e1
          have E2 := Lib.hid e2
          clear hf hfk hl hwd he e0 e1 e2 e3 e4 e5 e6 p2 p1 p3 p4 p0 Hsome Hnone
          go_wp2_with fail
          refine (rfind_any _ n c fs fd w1 (Hs.out.on Hb1.out)).mono ?_
          rw [findR_some Hf.out]
          rintro e w2 ⟨rfl, hb2⟩
          have Hb2 : Hid (Below w.heap.size w w2) := Hb1.out.trans (hb2.mono Hb1.out.size)
          have hq0 : Blk w2 w.heap.size _ _ := Hq0.out.below hb2 (by omega)
          have hq1 : Blk w2 (w.heap.size + 1) _ _ := Hq1.out.below hb2 (by omega)
          have c0' := hq0.cell 0
          have d3' := hq1.cell 3
          simp only [List.getElem?_toArray, List.getElem?_cons_zero, List.getElem?_cons_succ] at c0' d3'
          have k1 := (Hb2.out.cell (p := ⟨b, off + k * 7 + 1, none⟩) hbk).trans E1.out
          have hz2 := hq1.lt
          have Hq02 := Lib.hid hq0
          have Hq12 := Lib.hid hq1
          clear hb2 hq0 hq1 c0 d0 d2 d3
          by_cases hkd : f.kind = 1
          · have hres : runT f.chain tx = q := by rw [← Hq.out, Hwd.out, if_pos hkd]
            have Hres := Lib.hid hres
            rw [hkd] at k1
            have HS : Hid (∀ W, Below w2.heap.size w2 W → W.cell? ⟨w.heap.size, 0, none⟩ = some (.slice (some ⟨b, off, none⟩) n c) ∧ W.cell? ⟨b, off + k * 7 + 2, none⟩ = some (.slice A2 n2 c2) ∧ W.cell? ⟨w.heap.size + 1, 3, none⟩ = some (.string tx) ∧ Below w2.heap.size w2 W) := fun W hW =>
              ⟨(hW.cell (p := ⟨w.heap.size, 0, none⟩) (by show w.heap.size < _; omega)).trans c0', (hW.cell (p := ⟨b, off + k * 7 + 2, none⟩) (by show b < _; omega)).trans ((Hb2.out.cell (p := ⟨b, off + k * 7 + 2, none⟩) hbk).trans E2.out), (hW.cell (p := ⟨w.heap.size + 1, 3, none⟩) hz2).trans d3', hW⟩
            have k2 := (HS.out w2 (Below.refl _ _)).2.1
            clear hres hkd
            go_wp2
            go_region_held3 (fun W => W.cell? ⟨w.heap.size, 0, none⟩ = some (.slice (some ⟨b, off, none⟩) n c) ∧ W.cell? ⟨b, off + k * 7 + 2, none⟩ = some (.slice A2 n2 c2) ∧ W.cell? ⟨w.heap.size + 1, 3, none⟩ = some (.string tx) ∧ Below w2.heap.size w2 W)
              (first | exact HS.out _ (Below.refl _ _) | exact HS.out _ (Below.refl _ _).drew | exact HS.out _ (by assumption))
              (first | (go_at_call 20; have hcur : Below w2.heap.size w2 w2.drew := (Below.refl _ _).drew; go_must (refine (rrun6_any A2 n2 c2 f.chain tx _ (P2.out.on (Hb2.out.trans (hcur.mono Hb2.out.size)))).mono ?_); rw [Hres.out]; rintro e w3 ⟨v, er, rfl, o3, hb3⟩; have hc3 : Below w2.heap.size w2 w3 := hcur.trans (hb3.mono hcur.size); have Ho3 : Hid (Own Flat w3 w.heap.size 44 v q) := o3.mono (Nat.le_trans Hb2.out.size hcur.size); clear o3 hb3 hcur))
            go_wp2
            go_ret
            exact ⟨_, rfl, Ho3.out, Hb2.out.trans (hc3.mono Hb2.out.size)⟩
          · obtain rfl : q = [] := by rw [← Hq.out, Hwd.out, if_neg hkd]
            obtain ⟨fk, hfk⟩ : ∃ fk, f.kind = fk := ⟨_, rfl⟩
            rw [hfk] at k1 hkd
            have kk : (fk != 1) = true := by simpa using hkd
            clear hkd hfk
            go_wp2
            go_ret
            exact ⟨_, rfl, Own.nil _ _ _ _, Hb2.out⟩
      · rcases hf : findN fs fd with _ | k
        · obtain rfl : q = [] := by rw [← Hq.out, Hnone.out hf]
          go_wp2_with fail
          refine (rfind_any A n c fs fd w1 (Hs.out.on Hb1.out)).mono ?_
          rw [findR_none hf]
          rintro e w2 ⟨rfl, hb2⟩
          have Hb2 : Hid (Below w.heap.size w w2) := Hb1.out.trans (hb2.mono Hb1.out.size)
          clear hb2
          go_wp2
          go_ret
          exact ⟨_, rfl, Own.nil _ _ _ _, Hb2.out⟩
        · obtain ⟨f, hfk, _⟩ := findN_lt hf
          have hl := Hs.out.length
          have hkn : k < n := by have := lt_of_get? hfk; omega
          have hk0 : (0 : Int) ≤ (k : Int) := by omega
          have hk1 : (k : Int) < (n : Int) := by omega
          have hwd := Hsome.out k f hf hfk
          obtain ⟨b, off, rfl, hbk, he⟩ := Hs.out.2.2.2 k f hfk
          obtain ⟨A2, n2, c2, e0, e1, e2, e3, e4, e5, e6, p2, p1, p3, p4, p0⟩ := Field.at_ he
          have Hf := Lib.hid hf
          have Hwd := Lib.hid hwd
          have P2 := Lib.hid p2
          have E1 := Lib.hid e1
          have E2 := Lib.hid e2
          clear hf hfk hl hwd he e0 e1 e2 e3 e4 e5 e6 p2 p1 p3 p4 p0 Hsome Hnone
          go_wp2_with fail
          refine (rfind_any _ n c fs fd w1 (Hs.out.on Hb1.out)).mono ?_
          rw [findR_some Hf.out]
          rintro e w2 ⟨rfl, hb2⟩
          have Hb2 : Hid (Below w.heap.size w w2) := Hb1.out.trans (hb2.mono Hb1.out.size)
          have hq0 : Blk w2 w.heap.size _ _ := Hq0.out.below hb2 (by omega)
          have hq1 : Blk w2 (w.heap.size + 1) _ _ := Hq1.out.below hb2 (by omega)
          have c0' := hq0.cell 0
          have d3' := hq1.cell 3
          simp only [List.getElem?_toArray, List.getElem?_cons_zero, List.getElem?_cons_succ] at c0' d3'
          have k1 := (Hb2.out.cell (p := ⟨b, off + k * 7 + 1, none⟩) hbk).trans E1.out
          have hz2 := hq1.lt
          have Hq02 := Lib.hid hq0
          have Hq12 := Lib.hid hq1
          clear hb2 hq0 hq1 c0 d0 d2 d3
          by_cases hkd : f.kind = 1
          · have hres : runT f.chain tx = q := by rw [← Hq.out, Hwd.out, if_pos hkd]
            have Hres := Lib.hid hres
            rw [hkd] at k1
            have HS : Hid (∀ W, Below w2.heap.size w2 W → W.cell? ⟨w.heap.size, 0, none⟩ = some (.slice (some ⟨b, off, none⟩) n c) ∧ W.cell? ⟨b, off + k * 7 + 2, none⟩ = some (.slice A2 n2 c2) ∧ W.cell? ⟨w.heap.size + 1, 3, none⟩ = some (.string tx) ∧ Below w2.heap.size w2 W) := fun W hW =>
              ⟨(hW.cell (p := ⟨w.heap.size, 0, none⟩) (by show w.heap.size < _; omega)).trans c0', (hW.cell (p := ⟨b, off + k * 7 + 2, none⟩) (by show b < _; omega)).trans ((Hb2.out.cell (p := ⟨b, off + k * 7 + 2, none⟩) hbk).trans E2.out), (hW.cell (p := ⟨w.heap.size + 1, 3, none⟩) hz2).trans d3', hW⟩
            have k2 := (HS.out w2 (Below.refl _ _)).2.1
            clear hres hkd
            go_wp2
            go_region_held3 (fun W => W.cell? ⟨w.heap.size, 0, none⟩ = some (.slice (some ⟨b, off, none⟩) n c) ∧ W.cell? ⟨b, off + k * 7 + 2, none⟩ = some (.slice A2 n2 c2) ∧ W.cell? ⟨w.heap.size + 1, 3, none⟩ = some (.string tx) ∧ Below w2.heap.size w2 W)
              (first | exact HS.out _ (Below.refl _ _) | exact HS.out _ (Below.refl _ _).drew | exact HS.out _ (by assumption))
              (first | (go_at_call 20; have hcur : Below w2.heap.size w2 w2.drew := (Below.refl _ _).drew; go_must (refine (rrun6_any A2 n2 c2 f.chain tx _ (P2.out.on (Hb2.out.trans (hcur.mono Hb2.out.size)))).mono ?_); rw [Hres.out]; rintro e w3 ⟨v, er, rfl, o3, hb3⟩; have hc3 : Below w2.heap.size w2 w3 := hcur.trans (hb3.mono hcur.size); have Ho3 : Hid (Own Flat w3 w.heap.size 44 v q) := o3.mono (Nat.le_trans Hb2.out.size hcur.size); clear o3 hb3 hcur))
            go_wp2
            go_ret
            exact ⟨_, rfl, Ho3.out, Hb2.out.trans (hc3.mono Hb2.out.size)⟩
          · obtain rfl : q = [] := by rw [← Hq.out, Hwd.out, if_neg hkd]
            obtain ⟨fk, hfk⟩ : ∃ fk, f.kind = fk := ⟨_, rfl⟩
            rw [hfk] at k1 hkd
            have kk : (fk != 1) = true := by simpa using hkd
            clear hkd hfk
            go_wp2
            go_ret
            exact ⟨_, rfl, Own.nil _ _ _ _, Hb2.out⟩
    · obtain rfl : q = [] := by rw [← Hq.out]; unfold wordsT; rw [if_neg (fun h => hk h.2)]
      have k3 : (kd != 3) = true := by simp; omega
      have k4 : (kd != 4) = true := by simp; omega
      clear hk
      go_wp2
      go_ret
      exact ⟨_, rfl, Own.nil _ _ _ _, Hb1.out⟩

end Go.Proofs.YtajgoffeahfmfaaDoor

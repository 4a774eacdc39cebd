/- The texts RSchCheck of IterateWords, joined by program (tools/merge.py): walks of the functions that the law reaches, and plain facts; no condition. -/
import Derived.Test.YtajgoffeahfmfaaDoorPart29
import Derived.Test.YtajgoffeahfmfaaDoorPart30
import Derived.BigQuiet
set_option linter.unusedVariables false
set_option linter.unusedSimpArgs false

/- The walk of lecternref08.Check. (Written by tools/gen_rsch.py.) -/
namespace Go.Proofs.YtajgoffeahfmfaaDoor
open Rep (rep)
open Go.RowKit

set_option maxRecDepth 100000 in
set_option maxHeartbeats 4000000 in
theorem rschCheck_any (A : Option Addr) (n c : Nat) (fs : List Field) (w : World) (hs : RepList w (· < w.heap.size) A n c fs) :
    Calls Tryd.prog 18 #[.agg #[.slice A n c]] w fun e w' => e = .returned (.int .i64 (errS (schemaB fs))) ∧ Below w.heap.size w w' := by
  have hcap := hs.cap
  have hl := hs.length
  obtain ⟨q, hq⟩ : ∃ q, errS (schemaB fs) = q := ⟨_, rfl⟩
  rw [hq]
  by_cases h0 : n = 0
  · subst h0
    obtain rfl : q = 80 := by rw [← hq]; unfold schemaB; rw [hl]; rfl
    clear hs hq hl
    go_enter Tryd.func18, Tryd.ntmps18
    go_wp2
    go_ret
    exact ⟨rfl, (Below.refl _ _).alloc (Nat.le_refl _) _⟩
  have h1 : ((n : Int) == 0) = false := by simp; omega
  by_cases h16 : (16 : Int) < n
  · obtain rfl : q = 80 := by rw [← hq]; unfold schemaB; rw [decide_eq_false (by omega)]; rfl
    clear hs hq hl
    go_enter Tryd.func18, Tryd.ntmps18
    go_wp2
    go_ret
    exact ⟨rfl, (Below.refl _ _).alloc (Nat.le_refl _) _⟩
  have hq2 : errS ((List.range n).all (fieldAt fs)) = q := by rw [← hq]; unfold schemaB; rw [decide_eq_true (by omega), hl]; rfl
  have Hq := Lib.hid hq2
  have Hs := Lib.hid hs
  have Hl := Lib.hid hl
  have bad : ∀ i, i < n → fieldAt fs i = false → q = 80 := fun i hi h => by rw [← hq2, range_all_no hi h]; rfl
  have Bad := Lib.hid bad
  have hb0 : Below w.heap.size w (w.alloc (.cells #[.slice A n c] 24)) := (Below.refl _ _).alloc (Nat.le_refl _) _
  have H0 := Lib.hid hb0
  have hbox : (w.alloc (.cells #[.slice A n c] 24)).cell? ⟨w.heap.size, 0, none⟩ = some (.slice A n c) := by simp
  obtain ⟨W0, hW0⟩ : ∃ W0, w.alloc (.cells #[.slice A n c] 24) = W0 := ⟨_, rfl⟩
  have hz0 : W0.heap.size = w.heap.size + 1 := by rw [← hW0]; simp
  have HW0 := Lib.hid hW0
  rw [hW0] at H0 hbox
  have Hbox := Lib.hid hbox
  clear hs hq hq2 bad hb0 hbox hl hW0
  go_enter Tryd.func18, Tryd.ntmps18
  go_wp2
  rw [HW0.out]
  go_loopw [3] (fun i wr => ∃ j : Nat, j ≤ n ∧ i = .int .i64 j ∧ (List.range j).all (fieldAt fs) = true ∧ Below W0.heap.size W0 wr) (fun i _ => n - (intOf i).toNat)
  case atStart => exact ⟨0, by omega, rfl, rfl, Below.refl _ _⟩
  case round =>
    obtain ⟨wo, rfl⟩ : ∃ wo, wo = wr := ⟨_, rfl⟩
    obtain ⟨i, hi, rfl, hall, hbw⟩ := hrel
    have Hall := Lib.hid hall
    have Hbw := Lib.hid hbw
    have HwB : Hid (Below w.heap.size w wo) := H0.out.trans (hbw.mono (by omega))
    have hsw := hbw.size
    have hbx := (hbw.cell (p := ⟨w.heap.size, 0, none⟩) (by show w.heap.size < _; omega)).trans Hbox.out
    clear hall hbw
    by_cases hlt : i < n
    · obtain ⟨b, off, f, rfl, hf, hbk, he⟩ := (Hs.out.on HwB.out).at_ hlt
      obtain ⟨A2, n2, c2, e0, e1, e2, e3, e4, e5, e6, p2, p1, p3, p4, p0⟩ := Field.at_ he
      have hcl := p2.length
      have hcc := p2.cap
      obtain ⟨nm, kd, chain, sc, dm, mn, st⟩ := f
      simp only at e0 e1 e2 e3 e4 e5 e6 p2 p0 hcl
      obtain ⟨W1, hW1⟩ : ∃ W1, wo.alloc (.cells #[.string nm, .int .i64 kd, .slice A2 n2 c2, .int .i64 sc, .int .i64 dm, .bool mn, .bool st] 51) = W1 := ⟨_, rfl⟩
      have hb1 : Below wo.heap.size wo W1 := by rw [← hW1]; exact (Below.refl _ _).alloc (Nat.le_refl _) _
      have hz1 : W1.heap.size = wo.heap.size + 1 := by rw [← hW1]; simp
      have hbl : Blk W1 wo.heap.size 51 #[.string nm, .int .i64 kd, .slice A2 n2 c2, .int .i64 sc, .int .i64 dm, .bool mn, .bool st] := by rw [← hW1]; exact Blk.new _ _ _
      have Hbl := Lib.hid hbl
      have P2 := Lib.hid p2
      have Hf := Lib.hid hf.out
      have HbA := Lib.hid hb1
      have HB1 : Hid (Below W0.heap.size W0 W1) := Hbw.out.trans (hb1.mono hsw)
      have HwB1 : Hid (Below w.heap.size w W1) := H0.out.trans (HB1.out.mono (by omega))
      have HN := Lib.hid (rname_any nm p0 W1)
      have g0 := hbl.cell 0
      simp only [List.getElem?_toArray, List.getElem?_cons_zero, List.getElem?_cons_succ] at g0
      have hfa : fieldAt fs i = (decide (findN fs nm = some i) && okParts (nameB nm) kd n2 sc dm (chainB chain)) := by unfold fieldAt; rw [hf.out, ← hcl]; rfl
      have HW1 := Lib.hid hW1
      have G0 := Lib.hid g0
      obtain ⟨bn, hbn⟩ : ∃ bn, nameB nm = bn := ⟨_, rfl⟩
      obtain ⟨ch, hch⟩ : ∃ ch, chainB chain = ch := ⟨_, rfl⟩
      rw [hbn] at hfa HN
      rw [hch] at hfa
      have Hfa := Lib.hid hfa
      have Hch := Lib.hid hch
      clear hf he hbl hb1 p2 p0 p1 p3 p4 hfa hbn hch hW1 g0 hcl
      go_wp2_with fail
      rw [HW1.out]
      cases bn with
      | false =>
        refine HN.out.mono ?_
        rintro e w2 ⟨rfl, rfl⟩
        obtain rfl := Bad.out i hlt (by rw [Hfa.out]; simp [okParts])
        go_wp2
        go_ret
        exact ⟨rfl, HwB1.out⟩
      | true =>
        refine HN.out.mono ?_
        rintro e w2 ⟨rfl, rfl⟩
        clear e0 e1 e2 e3 e4 e5 e6
        go_wp2
        go_loopw [5] (fun kv wi => ∃ k : Nat, k ≤ i ∧ kv = .int .i64 k ∧ (∀ j g, j < k → fs[j]? = some g → g.name ≠ nm) ∧ InDraws W1 wi) (fun kv _ => i - (intOf kv).toNat)
        case atStart => exact ⟨0, by omega, rfl, fun j g h => by omega, 0, rfl⟩
        case round =>
          obtain ⟨k, hk, rfl, hno, hdi⟩ := hrel
          have Hno := Lib.hid hno
          have Hdi := Lib.hid hdi
          have hblk1 : Blk wr wo.heap.size _ _ := (hdi.below.block wo.heap.size (by omega)).trans Hbl.out
          have f0 := hblk1.cell 0
          have f1 := hblk1.cell 1
          have f2 := hblk1.cell 2
          have f3 := hblk1.cell 3
          have f4 := hblk1.cell 4
          simp only [List.getElem?_toArray, List.getElem?_cons_zero, List.getElem?_cons_succ] at f0 f1 f2 f3 f4
          have HBi : Hid (Below W0.heap.size W0 wr) := HB1.out.trans (hdi.below.mono HB1.out.size)
          have HwBi : Hid (Below w.heap.size w wr) := H0.out.trans (HBi.out.mono (by omega))
          have hbx2 := (HBi.out.cell (p := ⟨w.heap.size, 0, none⟩) (by show w.heap.size < _; omega)).trans Hbox.out
          clear hno hdi hblk1 hbx
          by_cases hki : k < i
          · obtain ⟨g, hg⟩ : ∃ g, fs[k]? = some g := ⟨_, List.getElem?_eq_getElem (by rw [Hl.out]; omega)⟩
            obtain ⟨_, _, _, g0, _⟩ := Field.at_ (((Hs.out.on HwBi.out).elem hg).2)
            by_cases hnm : g.name = nm
            · have hbad : fieldAt fs i = false := by
                rw [Hfa.out]
                have : ¬ findN fs nm = some i := by
                  intro hh
                  unfold findN at hh
                  rw [List.findIdx?_eq_some_iff_getElem] at hh
                  obtain ⟨h1, h2, h3⟩ := hh
                  have := h3 k hki
                  rw [List.getElem?_eq_getElem (lt_of_get? hg)] at hg
                  rw [Option.some.inj hg] at this
                  simp [hnm] at this
                simp [this]
              obtain rfl := Bad.out i hlt hbad
              obtain ⟨gn, hgn⟩ : ∃ gn, g.name = gn := ⟨_, rfl⟩
              rw [hgn] at g0 hnm
              have hb1 : (gn.toList == nm.toList) = true := str_yes hnm
              clear hg hbad hgn hnm
              go_wp2_with fail
              go_quiet (fail)
              go_wp2_with fail
              go_ret
              exact ⟨rfl, Go.below_drewN HwBi.out _⟩
            · have hno2 : ∀ j x, j < k + 1 → fs[j]? = some x → x.name ≠ nm := by
                intro j x hj hx
                rcases Nat.lt_or_ge j k with h | h
                · exact Hno.out j x h hx
                · obtain rfl : j = k := by omega
                  cases hx.symm.trans hg
                  exact hnm
              have Hno2 := Lib.hid hno2
              obtain ⟨gn, hgn⟩ : ∃ gn, g.name = gn := ⟨_, rfl⟩
              rw [hgn] at g0 hnm
              have hb1 : (gn.toList == nm.toList) = false := str_no hnm
              clear hg hgn hnm hno2
              go_wp2_with fail
              go_quiet (fail)
              go_wp2_with fail
              go_roundw
              case rel => exact ⟨k + 1, by omega, by go_num, Hno2.out, InDraws.more Hdi.out _⟩
              case measure => simp [intOf]; omega
          · obtain rfl : k = i := by omega
            have hfd : findN fs nm = some k := findN_some Hf.out rfl Hno.out
            have hfa : fieldAt fs k = okParts true kd n2 sc dm ch := by rw [Hfa.out, hfd]; simp
            have P3 := Lib.hid (P2.out.on (HbA.out.trans (Hdi.out.below.mono (by omega))))
            clear hfd Hfa
            by_cases k1 : kd = 1
            · subst k1
              have hck := rcheck6_any A2 n2 c2 chain wr P3.out
              rw [Hch.out] at hck
              have Hck := Lib.hid hck
              clear hck
              cases ch with
              | false =>
                obtain rfl := Bad.out k hlt (by rw [hfa]; simp [okParts])
                clear hfa
                go_wp2_with fail
                refine Hck.out.mono ?_
                rw [show errOf false = 60 from rfl]
                rintro e w3 ⟨rfl, hb3⟩
                have Hb3 := Lib.hid hb3
                clear hb3
                go_wp2
                go_ret
                exact ⟨rfl, HwBi.out.trans (Hb3.out.mono HwBi.out.size)⟩
              | true =>
                go_wp2_with fail
                refine Hck.out.mono ?_
                rw [show errOf true = 0 from rfl]
                rintro e w3 ⟨rfl, hb3⟩
                have h1' := (hb3.cell (p := ⟨wo.heap.size, 1, none⟩) (cell_lt f1)).trans f1
                have h2' := (hb3.cell (p := ⟨wo.heap.size, 2, none⟩) (cell_lt f2)).trans f2
                have h3' := (hb3.cell (p := ⟨wo.heap.size, 3, none⟩) (cell_lt f3)).trans f3
                have h4' := (hb3.cell (p := ⟨wo.heap.size, 4, none⟩) (cell_lt f4)).trans f4
                have hb0' := (hb3.cell (p := ⟨w.heap.size, 0, none⟩) (cell_lt hbx2)).trans hbx2
                have Hb3 := Lib.hid hb3
                have hnn : ((n2 : Int) != (n2 : Int)) = false := by simp
                clear hb3 f0 f1 f2 f3 f4 hbx2
                by_cases s1 : sc < 0
                · have s2 : sc ≠ 0 := by omega
                  obtain rfl := Bad.out k hlt (by rw [hfa]; simp [okParts, s2] <;> omega)
                  clear hfa  s2
                  go_wp2
                  all_goals (go_ret; exact ⟨rfl, HwBi.out.trans (Hb3.out.mono HwBi.out.size)⟩)
                · by_cases s3 : 0 < sc
                  · have s2 : sc ≠ 0 := by omega
                    have s4 : ¬ sc < 0 := by omega
                    obtain rfl := Bad.out k hlt (by rw [hfa]; simp [okParts, s2] <;> omega)
                    clear hfa  s2
                    go_wp2
                    all_goals (go_ret; exact ⟨rfl, HwBi.out.trans (Hb3.out.mono HwBi.out.size)⟩)
                  · obtain rfl : sc = 0 := by omega
                    clear s1 s3
                    by_cases d1 : dm = 0
                    · subst d1
                      have Hst := Lib.hid (show (List.range (k + 1)).all (fieldAt fs) = true by rw [range_all_succ, Hall.out, hfa]; simp [okParts] <;> omega)
                      clear hfa 
                      go_wp2
                      go_roundw
                      case rel => exact ⟨k + 1, by omega, by go_num, Hst.out, HBi.out.trans (Hb3.out.mono HBi.out.size)⟩
                      case measure => simp [intOf]; omega
                    · have d2 : (dm != 0) = true := by simpa using d1
                      have d3 : (dm == 0) = false := by simpa using d1
                      obtain rfl := Bad.out k hlt (by rw [hfa]; simp [okParts, d1] <;> omega)
                      clear hfa  d1
                      go_wp2
                      all_goals (go_ret; exact ⟨rfl, HwBi.out.trans (Hb3.out.mono HwBi.out.size)⟩)
            · by_cases k2 : kd = 2
              · subst k2
                by_cases zc : n2 = 0
                · subst zc
                  by_cases s1 : sc < 0
                  · have s2 : sc ≠ 0 := by omega
                    obtain rfl := Bad.out k hlt (by rw [hfa]; simp [okParts, s2] <;> omega)
                    clear hfa  s2
                    go_wp2
                    all_goals (go_ret; exact ⟨rfl, HwBi.out⟩)
                  · by_cases s3 : 0 < sc
                    · have s2 : sc ≠ 0 := by omega
                      have s4 : ¬ sc < 0 := by omega
                      obtain rfl := Bad.out k hlt (by rw [hfa]; simp [okParts, s2] <;> omega)
                      clear hfa  s2
                      go_wp2
                      all_goals (go_ret; exact ⟨rfl, HwBi.out⟩)
                    · obtain rfl : sc = 0 := by omega
                      clear s1 s3
                      by_cases d1 : dm = 0
                      · subst d1
                        have Hst := Lib.hid (show (List.range (k + 1)).all (fieldAt fs) = true by rw [range_all_succ, Hall.out, hfa]; simp [okParts] <;> omega)
                        clear hfa 
                        go_wp2
                        go_roundw
                        case rel => exact ⟨k + 1, by omega, by go_num, Hst.out, HBi.out⟩
                        case measure => simp [intOf]; omega
                      · have d2 : (dm != 0) = true := by simpa using d1
                        have d3 : (dm == 0) = false := by simpa using d1
                        obtain rfl := Bad.out k hlt (by rw [hfa]; simp [okParts, d1] <;> omega)
                        clear hfa  d1
                        go_wp2
                        all_goals (go_ret; exact ⟨rfl, HwBi.out⟩)
                · have zc2 : ((n2 : Int) != 0) = true := by simp; omega
                  have zc3 : ((n2 : Nat) == 0) = false := by simpa using zc
                  obtain rfl := Bad.out k hlt (by rw [hfa]; simp [okParts, zc] <;> omega)
                  clear hfa  zc
                  go_wp2
                  all_goals (go_ret; exact ⟨rfl, HwBi.out⟩)
              · by_cases k3 : kd = 3
                · subst k3
                  by_cases zc : n2 = 0
                  · subst zc
                    by_cases s1 : sc < 0
                    · have s2 : sc ≠ 0 := by omega
                      obtain rfl := Bad.out k hlt (by rw [hfa]; simp [okParts, s2] <;> omega)
                      clear hfa  s2
                      go_wp2
                      all_goals (go_ret; exact ⟨rfl, HwBi.out⟩)
                    · by_cases s3 : 0 < sc
                      · have s2 : sc ≠ 0 := by omega
                        have s4 : ¬ sc < 0 := by omega
                        obtain rfl := Bad.out k hlt (by rw [hfa]; simp [okParts, s2] <;> omega)
                        clear hfa  s2
                        go_wp2
                        all_goals (go_ret; exact ⟨rfl, HwBi.out⟩)
                      · obtain rfl : sc = 0 := by omega
                        clear s1 s3
                        by_cases d1 : dm = 0
                        · subst d1
                          have Hst := Lib.hid (show (List.range (k + 1)).all (fieldAt fs) = true by rw [range_all_succ, Hall.out, hfa]; simp [okParts] <;> omega)
                          clear hfa 
                          go_wp2
                          go_roundw
                          case rel => exact ⟨k + 1, by omega, by go_num, Hst.out, HBi.out⟩
                          case measure => simp [intOf]; omega
                        · have d2 : (dm != 0) = true := by simpa using d1
                          have d3 : (dm == 0) = false := by simpa using d1
                          obtain rfl := Bad.out k hlt (by rw [hfa]; simp [okParts, d1] <;> omega)
                          clear hfa  d1
                          go_wp2
                          all_goals (go_ret; exact ⟨rfl, HwBi.out⟩)
                  · have zc2 : ((n2 : Int) != 0) = true := by simp; omega
                    have zc3 : ((n2 : Nat) == 0) = false := by simpa using zc
                    obtain rfl := Bad.out k hlt (by rw [hfa]; simp [okParts, zc] <;> omega)
                    clear hfa  zc
                    go_wp2
                    all_goals (go_ret; exact ⟨rfl, HwBi.out⟩)
                · by_cases k4 : kd = 4
                  · subst k4
                    by_cases r1 : sc < 0
                    · obtain rfl := Bad.out k hlt (by rw [hfa]; simp [okParts] <;> omega)
                      clear hfa 
                      go_wp2
                      all_goals (go_ret; exact ⟨rfl, HwBi.out⟩)
                    · by_cases r2 : 9 < sc
                      · obtain rfl := Bad.out k hlt (by rw [hfa]; simp [okParts] <;> omega)
                        clear hfa 
                        go_wp2
                        all_goals (go_ret; exact ⟨rfl, HwBi.out⟩)
                      · by_cases zc : n2 = 0
                        · subst zc
                          by_cases d1 : dm = 0
                          · subst d1
                            have Hst := Lib.hid (show (List.range (k + 1)).all (fieldAt fs) = true by rw [range_all_succ, Hall.out, hfa]; simp [okParts] <;> omega)
                            clear hfa 
                            go_wp2
                            go_roundw
                            case rel => exact ⟨k + 1, by omega, by go_num, Hst.out, HBi.out⟩
                            case measure => simp [intOf]; omega
                          · have d2 : (dm != 0) = true := by simpa using d1
                            have d3 : (dm == 0) = false := by simpa using d1
                            obtain rfl := Bad.out k hlt (by rw [hfa]; simp [okParts, d1] <;> omega)
                            clear hfa  d1
                            go_wp2
                            all_goals (go_ret; exact ⟨rfl, HwBi.out⟩)
                        · have zc2 : ((n2 : Int) != 0) = true := by simp; omega
                          have zc3 : ((n2 : Nat) == 0) = false := by simpa using zc
                          obtain rfl := Bad.out k hlt (by rw [hfa]; simp [okParts, zc] <;> omega)
                          clear hfa  zc
                          go_wp2
                          all_goals (go_ret; exact ⟨rfl, HwBi.out⟩)
                  · by_cases k5 : kd = 5
                    · subst k5
                      by_cases r1 : dm < 1
                      · obtain rfl := Bad.out k hlt (by rw [hfa]; simp [okParts] <;> omega)
                        clear hfa 
                        go_wp2
                        all_goals (go_ret; exact ⟨rfl, HwBi.out⟩)
                      · by_cases r2 : 4 < dm
                        · obtain rfl := Bad.out k hlt (by rw [hfa]; simp [okParts] <;> omega)
                          clear hfa 
                          go_wp2
                          all_goals (go_ret; exact ⟨rfl, HwBi.out⟩)
                        · have d9 : (dm != dm) = false := by simp
                          by_cases zc : n2 = 0
                          · subst zc
                            by_cases s1 : sc < 0
                            · have s2 : sc ≠ 0 := by omega
                              obtain rfl := Bad.out k hlt (by rw [hfa]; simp [okParts, s2] <;> omega)
                              clear hfa  s2
                              go_wp2
                              all_goals (go_ret; exact ⟨rfl, HwBi.out⟩)
                            · by_cases s3 : 0 < sc
                              · have s2 : sc ≠ 0 := by omega
                                have s4 : ¬ sc < 0 := by omega
                                obtain rfl := Bad.out k hlt (by rw [hfa]; simp [okParts, s2] <;> omega)
                                clear hfa  s2
                                go_wp2
                                all_goals (go_ret; exact ⟨rfl, HwBi.out⟩)
                              · obtain rfl : sc = 0 := by omega
                                clear s1 s3
                                have Hst := Lib.hid (show (List.range (k + 1)).all (fieldAt fs) = true by rw [range_all_succ, Hall.out, hfa]; simp [okParts] <;> omega)
                                clear hfa 
                                go_wp2
                                go_roundw
                                case rel => exact ⟨k + 1, by omega, by go_num, Hst.out, HBi.out⟩
                                case measure => simp [intOf]; omega
                          · have zc2 : ((n2 : Int) != 0) = true := by simp; omega
                            have zc3 : ((n2 : Nat) == 0) = false := by simpa using zc
                            obtain rfl := Bad.out k hlt (by rw [hfa]; simp [okParts, zc] <;> omega)
                            clear hfa  zc
                            go_wp2
                            all_goals (go_ret; exact ⟨rfl, HwBi.out⟩)
                    · have e1 : (kd == 1) = false := by simpa using k1
                      have e2 : (kd == 2) = false := by simpa using k2
                      have e3 : (kd == 3) = false := by simpa using k3
                      have e4 : (kd == 4) = false := by simpa using k4
                      have e5 : (kd == 5) = false := by simpa using k5
                      obtain rfl := Bad.out k hlt (by rw [hfa]; simp [okParts, k1, k2, k3, k4, k5])
                      clear hfa k1 k2 k3 k4 k5
                      go_wp2
                      go_ret
                      exact ⟨rfl, HwBi.out⟩
    · obtain rfl : i = n := by omega
      obtain rfl : q = 0 := by rw [← Hq.out, Hall.out]; rfl
      go_wp2
      go_ret
      exact ⟨rfl, HwB.out⟩
end Go.Proofs.YtajgoffeahfmfaaDoor

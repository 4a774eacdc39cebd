/- The texts MarksF of IterateWords, joined by program (tools/merge.py): walks of the functions that the law reaches, and plain facts; no condition. -/
import Derived.Test.YtajgoffeahfmfaaDoorPart20
import Derived.Test.YtajgoffeahfmfaaDoorPart18
set_option linter.unusedVariables false
set_option linter.unusedSimpArgs false

/- The walk of analysis.marks. -/
namespace Go.Proofs.YtajgoffeahfmfaaDoor
open Rep (rep)
open Go.RowKit

/-- A text without its marks, up to rune j. -/
def marksTo (s : ByteArray) (p : List Nat) : Nat → List UInt8
  | 0 => []
  | j + 1 => marksTo s p j ++ (if markB (rn s (p[j]?.getD 0)) then [] else (s.extract (p[j]?.getD 0) (p[j + 1]?.getD 0)).data.toList)
def marksL (s : ByteArray) : List UInt8 := marksTo s (places s) ((places s).length - 1)
def marksT (t : Token) : List Token := if marksL t.text = [] then [] else [{ t with text := ⟨(marksL t.text).toArray⟩ }]
theorem marksTo_len (s : ByteArray) : ∀ j x, (places s)[j]? = some x → (marksTo s (places s) j).length ≤ x
  | 0, x, _ => by simp [marksTo]
  | j + 1, x, hx => by
    obtain ⟨y, hy⟩ : ∃ y, (places s)[j]? = some y := ⟨_, List.getElem?_eq_getElem (by have := lt_of_get? hx; omega)⟩
    have h1 := marksTo_len s j y hy
    have h2 := places_mono hy hx (by omega)
    have h3 : x ≤ s.size := places_le (List.mem_of_getElem? hx)
    rw [marksTo, List.length_append, hy, hx]
    split
    · simp; omega
    · have : ((s.extract y x).data.toList).length = x - y := by
        rw [Lib.extract_data, List.length_take, List.length_drop, ← Lib.size_eq]; omega
      simp only [Option.getD_some]
      omega
theorem places_in {s : ByteArray} {j x : Nat} (h : (places s)[j]? = some x) (hj : j + 1 < (places s).length) : x < s.size := by
  have : j < (ats s).length := by simp [places] at hj; omega
  rw [places, List.getElem?_append_left this] at h
  exact ats_lt (List.mem_of_getElem? h)
/-- A row of places as a block that is known whole. -/
theorem own_blk {w : World} {base : Nat} {A : Option Addr} {n c : Nat} {p : List Nat} (h : Own Flat w base 3 (.slice A n c) (natI p)) (hp : 0 < p.length) : ∃ g cur, A = some ⟨g, 0, none⟩ ∧ Blk w g 3 cur ∧ ∀ (i x : Nat), p[i]? = some x → cur[i]? = some (.int .i64 (x : Int)) := by
  have h0 := h
  obtain ⟨css, hl, hr, ho⟩ := h
  have hn : (natI p).length = p.length := by simp [natI]
  rcases ho.2 with ⟨h1, h2⟩ | ⟨g, cap, cur, h1, hb, hg, _⟩
  · rw [hn] at h2; omega
  · cases h1
    refine ⟨g, cur, rfl, hg, fun i x hx => ?_⟩
    obtain ⟨b, hb', hc⟩ := own_place h0 hx
    cases hb'
    rw [Blk.cell (show Blk w g 3 cur from hg) i] at hc
    exact hc
theorem Blk.others {W W' : World} {b g : Nat} {t : TypeId} {cs : Array Value} (h : Blk W g t cs) (hk : Lib.OthersKept 5 (some b) W W') (hne : g ≠ b) (ht : t ≠ 5) : Blk W' g t cs :=
  hk g _ h (fun e => hne (by cases e; rfl)) (fun c fz e => ht (by cases e; rfl))

set_option maxRecDepth 100000 in
set_option maxHeartbeats 4000000 in
theorem marks_filter (t : Token) (ht : t.ok) (hs : t.text.size ≤ 1000000000) (w : World) (hT : Tabs w) :
    Calls Tryd.prog 49 #[.agg #[.string t.text, .int .i64 t.pos, .int .i64 t.from_, .int .i64 t.to_]] w fun e w' => ∃ v, e = .returned v ∧ Own Flat w' w.heap.size 44 v (marksT t) ∧ Below w.heap.size w w' := by
  have b0 := (Blk.new w 44 #[.string t.text, .int .i64 t.pos, .int .i64 t.from_, .int .i64 t.to_]).alloc (.cells #[.pointer none, .slice none 0 0] 96)
  have hbd : Bld (w.heap.size + 1) (w.heap.size + 1) [] ((w.alloc (.cells #[.string t.text, .int .i64 t.pos, .int .i64 t.from_, .int .i64 t.to_] 44)).alloc (.cells #[.pointer none, .slice none 0 0] 96)) := by
    have := Lib.fresh_isBuilder 96 5 (w.alloc (.cells #[.string t.text, .int .i64 t.pos, .int .i64 t.from_, .int .i64 t.to_] 44))
    rw [World.size_alloc] at this
    exact this
  have hb0 : Below w.heap.size w ((w.alloc (.cells #[.string t.text, .int .i64 t.pos, .int .i64 t.from_, .int .i64 t.to_] 44)).alloc (.cells #[.pointer none, .slice none 0 0] 96)) := ((Below.refl _ _).alloc (Nat.le_refl _) _).alloc (by simp) _
  have B0 := Lib.hid b0
  have Bd0 := Lib.hid hbd
  have Ht := Lib.hid ht
  have HT := Lib.hid hT
  have Hb0 := Lib.hid hb0
  have hpl := places_len t.text
  clear b0 hbd ht hT hb0
  go_enter Tryd.func49, Tryd.ntmps49
  go_wp2_with fail
  refine (places_any t.text (by omega) _ (HT.out.on Hb0.out)).mono ?_
  rintro e w1 ⟨vp, rfl, op, hb1⟩
  obtain ⟨Ap, cp, rfl⟩ := op.form
  obtain ⟨p, hp⟩ : ∃ p, places t.text = p := ⟨_, rfl⟩
  have Hpin := Lib.hid (fun j x (h : (places t.text)[j]? = some x) hj => places_in h hj)
  have Hmon := Lib.hid (fun i j a b (h1 : (places t.text)[i]? = some a) (h2 : (places t.text)[j]? = some b) h => places_mono h1 h2 h)
  have Hple := Lib.hid (fun j x (h : (places t.text)[j]? = some x) => places_le (List.mem_of_getElem? h))
  have Hml := Lib.hid (marksTo_len t.text)
  rw [hp] at op hpl Hpin Hmon Hple Hml ⊢
  have hnl : (natI p).length = p.length := by simp [natI]
  obtain ⟨gp, cur, rfl, bp, hcur⟩ := own_blk op (by omega)
  rw [hnl] at ⊢
  obtain ⟨np, hnp⟩ : ∃ np, p.length = np := ⟨_, rfl⟩
  rw [hnp] at hpl Hpin ⊢
  have hgp : w.heap.size + 1 < gp := by
    obtain ⟨_, _, _, hr⟩ := op
    rcases hr.2 with ⟨h, _⟩ | ⟨g', _, _, h, hb, _⟩
    · cases h
    · cases h; simp at hb; omega
  have b1 := B0.out.below hb1 (by simp; omega)
  have bd1 := Bd0.out.on hb1
  have hb1' := Hb0.out.trans (hb1.mono Hb0.out.size)
  have Hb1 := Lib.hid hb1'
  have B1 := Lib.hid b1
  have Bd1 := Lib.hid bd1
  have Bp := Lib.hid bp
  have Hcur := Lib.hid hcur
  have Hnp := Lib.hid hnp
  have Hp := Lib.hid hp
  have hnb : np ≤ 1000000001 := by omega
  clear b1 bd1 hb1 hb1' op hnl hnp hp bp hcur
  go_wp2
  go_loopw [14] (fun i wr => ∃ j : Nat, j + 1 ≤ np ∧ i = .int .i64 j ∧ Blk wr w.heap.size 44 #[.string t.text, .int .i64 t.pos, .int .i64 t.from_, .int .i64 t.to_] ∧ Blk wr gp 3 cur ∧ Bld (w.heap.size + 1) (w.heap.size + 1) (marksTo t.text p j) wr ∧ Below w.heap.size w wr) (fun i _ => np - (intOf i).toNat)
  case atStart => exact ⟨0, by omega, rfl, B1.out, Bp.out, Bd1.out, Hb1.out⟩
  case round =>
    obtain ⟨j, hj, rfl, bt, bp, bd, hbw⟩ := hrel
    have Bt := Lib.hid bt
    have Bp2 := Lib.hid bp
    have Bd := Lib.hid bd
    have Hbw := Lib.hid hbw
    have hsw := hbw.size
    have hbl := bd.le.2
    clear bt bp bd hbw
    by_cases hjt : j + 1 < np
    · obtain ⟨a, ha⟩ : ∃ a, p[j]? = some a := ⟨_, List.getElem?_eq_getElem (by have := Hnp.out; omega)⟩
      obtain ⟨c, hc⟩ : ∃ c, p[j + 1]? = some c := ⟨_, List.getElem?_eq_getElem (by have := Hnp.out; omega)⟩
      have hac : a ≤ c := Hmon.out _ _ _ _ ha hc (by omega)
      have hcs : c ≤ t.text.size := Hple.out _ _ hc
      have has : a < t.text.size := Hpin.out _ _ ha hjt
      have hml := Hml.out j a ha
      have e0 := Bt.out.cell 0
      simp only [List.getElem?_toArray, List.getElem?_cons_zero] at e0
      have ea := (Bp2.out.cell j).trans (Hcur.out j a ha)
      have ec := (Bp2.out.cell (j + 1)).trans (Hcur.out (j + 1) c hc)
      have g0 : (0 : Int) ≤ (j : Int) := by omega
      have g1 : (j : Int) < (np : Int) := by omega
      have hTr : Tabs wr := HT.out.on Hbw.out
      have HTr := Lib.hid hTr
      have E0 := Lib.hid e0
      have Ea := Lib.hid ea
      have Ec := Lib.hid ec
      clear hTr ec
      go_wp2
      go_region_held3 (fun w' => w'.cell? ⟨w.heap.size, 0, none⟩ = some (.string t.text) ∧ w'.cell? ⟨gp, j, none⟩ = some (.int .i64 (a : Int))) (go_keep)
        ((go_at_call 67
          refine (next_any t.text a has (by omega) _ (HTr.out.on (Below.refl _ wr).drew)).mono ?_
          rintro e w3 ⟨rfl, hb3⟩
          have hb4 : Below wr.heap.size wr w3 := (Below.refl _ wr).drew.trans hb3
          have e03 := (hb4.cell (p := ⟨w.heap.size, 0, none⟩) (cell_lt E0.out)).trans E0.out
          have ea3 := (hb4.cell (p := ⟨gp, j, none⟩) (cell_lt Ea.out)).trans Ea.out
          have Hb4 := Lib.hid hb4
          clear hb3 hb4))
      have bt3 := Bt.out.below Hb4.out Bt.out.lt
      have bp3 := Bp2.out.below Hb4.out Bp2.out.lt
      have bd3 := Bd.out.on Hb4.out
      have ec3 := (bp3.cell (j + 1)).trans (Hcur.out (j + 1) c hc)
      have hs3 := Hb4.out.size
      have Bt3 := Lib.hid bt3
      have Bp3 := Lib.hid bp3
      have Bd3 := Lib.hid bd3
      have Ec3 := Lib.hid ec3
      have E03 := Lib.hid e03
      have Ea3 := Lib.hid ea3
      have hstep : marksTo t.text p (j + 1) = marksTo t.text p j ++ (if markB (rn t.text a) then [] else (t.text.extract a c).data.toList) := by rw [marksTo, ha, hc]; rfl
      have Hstep := Lib.hid hstep
      have g2 : (j : Int) + 1 < (np : Int) := by omega
      have g3 : (0 : Int) ≤ (j : Int) + 1 := by omega
      have g4 : ((j : Int) + 1).toNat = j + 1 := by omega
      have g5 : IntKind.i64.wrap ((j : Int) + 1) = (j : Int) + 1 := IntWalk.i64_in _ (by omega)
      have g6 : (0 : Int) ≤ (a : Int) := by omega
      have g7 : (a : Int) ≤ (c : Int) := by omega
      have g8 : (c : Int) ≤ (t.text.size : Int) := by omega
      have g9 : (0 : Int) ≤ (c : Int) := by omega
      have hes : (t.text.extract a c).size = c - a := by rw [ByteArray.size_extract]; omega
      have Hes := Lib.hid hes
      clear bt3 bp3 bd3 ec3 hstep ha hc e0 ea e03 ea3 hes
      rcases hm : markB (rn t.text a) with _ | _
      · have Hm := Lib.hid hm
        rw [hm] at Hstep
        clear hm
        have e03 := E03.out
        have ea3 := Ea3.out
        have ec3 := Ec3.out
        go_wp2_with (go_at_call 55; go_must (refine (mark_any _ _).mono ?_); rw [Hm.out]; rintro e w' ⟨rfl, rfl⟩)
        go_region_held3 (fun w' => w'.cell? ⟨w.heap.size, 0, none⟩ = some (.string t.text) ∧ w'.cell? ⟨gp, j, none⟩ = some (.int .i64 (a : Int)) ∧ w'.cell? ⟨gp, j + 1, none⟩ = some (.int .i64 (c : Int))) (go_keep)
          ((go_at_call 68
            refine (writeString_any (w.heap.size + 1) (w.heap.size + 1) _ _ w3.drew (Bd3.out.on (Below.refl _ w3).drew) (by rw [Lib.byteCells_length, Hes.out]; omega) (by show _ ≤ w3.heap.size; omega)).mono ?_
            rintro e w4 ⟨rfl, h4, b4, k4⟩
            have b5 : Below (w.heap.size + 1) w3 w4 := (Below.refl _ w3).drew.trans b4
            have k5 : Lib.OthersKept 5 (some (w.heap.size + 1)) w3 w4 := fun k o h => k4 k o h
            have bt4 := Blk.others Bt3.out k5 (by omega) (by decide)
            have bp4 := Blk.others Bp3.out k5 (by omega) (by decide)
            have e04 := (bt4.cell 0)
            have ea4 := (bp4.cell j).trans ((Bp3.out.cell j).symm.trans Ea3.out)
            have ec4 := (bp4.cell (j + 1)).trans ((Bp3.out.cell (j + 1)).symm.trans Ec3.out)
            simp only [List.getElem?_toArray, List.getElem?_cons_zero] at e04
            have Bt4 := Lib.hid bt4
            have Bp4 := Lib.hid bp4
            have B5 := Lib.hid b5
            have H4 := Lib.hid h4
            clear bt4 bp4 b5 h4 b4 k4 k5))
        go_wp2
        go_roundw
        case rel =>
          refine ⟨j + 1, by omega, by go_num, Bt4.out, Bp4.out, ?_, Hbw.out.trans ((Hb4.out.mono hsw).trans (B5.out.mono (by omega)))⟩
          rw [Hstep.out]
          show Lib.IsBuilder _ _ _ _ _ _
          rw [if_neg (by simp), Lib.byteCells_append, ← extract_cells]
          exact .inr H4.out
        case measure => simp [intOf]; omega
      · have Hm := Lib.hid hm
        rw [hm] at Hstep
        clear hm
        go_wp2_with (go_at_call 55; go_must (refine (mark_any _ _).mono ?_); rw [Hm.out]; rintro e w' ⟨rfl, rfl⟩)
        go_roundw
        case rel => exact ⟨j + 1, by omega, by go_num, Bt3.out, Bp3.out, by rw [Hstep.out, if_pos trivial, List.append_nil]; exact Bd3.out, Hbw.out.trans (Hb4.out.mono hsw)⟩
        case measure => simp [intOf]; omega
    · obtain rfl : j + 1 = np := by omega
      obtain ⟨M, hM⟩ : ∃ M, marksTo t.text p j = M := ⟨_, rfl⟩
      have hfin : marksL t.text = M := by unfold marksL; rw [Hp.out, Hnp.out]; exact hM
      have hml : M.length ≤ t.text.size := by
        obtain ⟨x, hx⟩ : ∃ x, p[j]? = some x := ⟨_, List.getElem?_eq_getElem (by have := Hnp.out; omega)⟩
        have h1 := Hml.out j x hx
        have h2 := Hple.out _ _ hx
        rw [hM] at h1
        omega
      rw [hM] at Bd
      have Hfin := Lib.hid hfin
      clear hM hfin
      have hbl2 := Bd.out.le
      go_wp2_with fail
      refine (Tryd.Builder_String_any_k (w.heap.size + 1) (w.heap.size + 1) M _ (Lib.IsBuilderF.of Bd.out) (by omega)).mono ?_
      rintro e w4 ⟨rfl, _, b4, k4⟩
      have bt4 := Blk.others Bt.out k4 (by omega) (by decide)
      have f4 := bt4.frozen 0
      have bt5 := bt4.set_ 0 (.string ⟨M.toArray⟩)
      have c1 := bt5.cell 0
      have c2 := bt5.cell 1
      have c3 := bt5.cell 2
      have c4 := bt5.cell 3
      have d0 := bt4.cell 0
      simp only [List.getElem?_toArray, List.getElem?_cons_zero, List.getElem?_cons_succ, List.setIfInBounds_toArray, List.set_cons_zero] at c1 c2 c3 c4 d0
      have Hb5 : Hid (Below w.heap.size w (w4.setCell ⟨w.heap.size, 0, none⟩ (.string ⟨M.toArray⟩))) := (Hbw.out.trans (b4.mono (by omega))).setCell (p := ⟨w.heap.size, 0, none⟩) (Nat.le_refl _) _
      have hMs : (⟨M.toArray⟩ : ByteArray).size = M.length := by simp [ByteArray.size]
      have Hok : Hid (Token.ok { t with text := ⟨M.toArray⟩ }) := ⟨by simp only [hMs]; omega, Ht.out.2⟩
      clear b4 k4 bt4 bt5 hMs
      by_cases hM0 : M = []
      · have hr : Hid (marksT t = []) := by show _ = _; unfold marksT; rw [Hfin.out, if_pos hM0]
        subst hM0
        go_wp2
        go_ret
        exact ⟨_, rfl, by rw [hr.out]; exact Own.nil _ _ _ _, Hb5.out⟩
      · have hr : Hid (marksT t = [{ t with text := ⟨M.toArray⟩ }]) := by show _ = _; unfold marksT; rw [Hfin.out, if_neg hM0]
        have h1 : (M == []) = false := by simpa using hM0
        have h2 : M.isEmpty = false := by simpa using hM0
        clear hM0
        go_wp2
        go_ret
        exact ⟨_, rfl, by rw [hr.out]; exact own_one _ _ Hb5.out.size { t with text := ⟨M.toArray⟩ } Hok.out _ rfl _ (by simp [World.setCell]), Hb5.out.alloc Hb5.out.size _⟩
end Go.Proofs.YtajgoffeahfmfaaDoor

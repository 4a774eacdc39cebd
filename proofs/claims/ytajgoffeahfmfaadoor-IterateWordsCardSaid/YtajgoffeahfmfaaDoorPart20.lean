/- The texts Filters of IterateWords, joined by program (tools/merge.py): walks of the functions that the law reaches, and plain facts; no condition. -/
import Derived.Test.YtajgoffeahfmfaaDoorPart17
import Derived.Test.YtajgoffeahfmfaaDoorPart18
import Derived.Test.YtajgoffeahfmfaaDoorPart19
import Derived.Deep.RegionHeld3
import Derived.Deep.DeepMust
set_option linter.unusedVariables false
set_option linter.unusedSimpArgs false

/- The walks of analysis' filters lower, stop, short. -/
namespace Go.Proofs.YtajgoffeahfmfaaDoor
open Rep (rep)
open Go.RowKit

theorem ret_slice {A : Option Addr} {n c : Nat} {v : Value} (h : Value.slice A n c = v) : Ending.returned (.slice A n c) = .returned v := by rw [h]
/-- One token in a block that has just been laid. -/
theorem own_one (w : World) (base : Nat) (hb : base ≤ w.heap.size) (t : Token) (ht : t.ok) (cs : Array Value) (hc : cs = t.cells.toArray) (H : Nat) (hH : H = w.heap.size) :
    Own Flat (w.alloc (.cells cs 44)) base 44 (.slice (some ⟨H, 0, none⟩) 1 1) [t] := by
  subst hc hH
  refine ⟨[t.cells], rfl, fun k cs x h1 h2 => ?_, ?_⟩
  · have hk := lt_of_get? h2
    simp at hk
    subst hk
    simp at h1 h2
    subst h1 h2
    exact Token.rep_of ht
  · have := World.ownsRow_lit (base := base) (e := 44) (size := 4) w t.cells.toArray 1 hb (by simp [maxLen]) (by simp [Token.cells])
    show World.ownsRow _ base _ 4 _ 1 [t.cells].flatten
    rw [show [t.cells].flatten = t.cells.toArray.toList by simp]
    exact this

def lowerT (t : Token) : Token := { t with text := foldS t.text }
set_option maxRecDepth 100000 in
theorem lower_filter (t : Token) (ht : t.ok) (hs : t.text.size ≤ 1000000000) (w : World) (hT : Tabs w) :
    Calls Tryd.prog 45 #[.agg #[.string t.text, .int .i64 t.pos, .int .i64 t.from_, .int .i64 t.to_]] w fun e w' => ∃ v, e = .returned v ∧ Own Flat w' w.heap.size 44 v [lowerT t] ∧ Below w.heap.size w w' := by
  have hfl : (foldS t.text).size ≤ 4000000000 := by
    have h1 := flat_len t.text (ats t.text)
    have h2 := ats_len t.text
    have : (foldS t.text).size = (foldL t.text).length := by simp [foldS, ByteArray.size]
    rw [this]; unfold foldL; omega
  have hok : (lowerT t).ok := ⟨by unfold lowerT; simp only; omega, ht.2⟩
  have b0 := Blk.new w 44 #[.string t.text, .int .i64 t.pos, .int .i64 t.from_, .int .i64 t.to_]
  have hb0 : Below w.heap.size w (w.alloc (.cells #[.string t.text, .int .i64 t.pos, .int .i64 t.from_, .int .i64 t.to_] 44)) := (Below.refl _ _).alloc (Nat.le_refl _) _
  have B0 := Lib.hid b0
  have Hok := Lib.hid hok
  have HT := Lib.hid (hT.on hb0)
  have Hb0 := Lib.hid hb0
  clear b0 hok hT hb0 hfl
  go_enter Tryd.func45, Tryd.ntmps45
  go_wp2_with fail
  refine (fold_any t.text (by omega) _ HT.out).mono ?_
  rintro e w1 ⟨rfl, hb1⟩
  have b1 := B0.out.below hb1 (by simp)
  have b2 := b1.set_ 0 (.string (foldS t.text))
  have c1 := b2.cell 0
  have c2 := b2.cell 1
  have c3 := b2.cell 2
  have c4 := b2.cell 3
  have f1 := b1.frozen 0
  have d1 := b1.cell 0
  simp only [List.getElem?_toArray, List.getElem?_cons_zero, List.getElem?_cons_succ, List.setIfInBounds_toArray, List.set_cons_zero] at c1 c2 c3 c4 d1
  have hs1 := hb1.size
  simp only [World.size_alloc] at hs1
  have Hb2 : Hid (Below w.heap.size w (w1.setCell ⟨w.heap.size, 0, none⟩ (.string (foldS t.text)))) := (Hb0.out.trans (hb1.mono (by simp))).setCell (p := ⟨w.heap.size, 0, none⟩) (Nat.le_refl _) _
  clear hb1 b1 b2
  go_wp2
  go_ret
  exact ⟨_, rfl, own_one _ _ Hb2.out.size (lowerT t) Hok.out _ rfl w1.heap.size (by simp [World.setCell]), Hb2.out.alloc Hb2.out.size _⟩
def stopTok (t : Token) : List Token := if stopB t.text then [] else [t]
set_option maxRecDepth 100000 in
theorem stop_filter (t : Token) (ht : t.ok) (w : World) :
    Calls Tryd.prog 46 #[.agg #[.string t.text, .int .i64 t.pos, .int .i64 t.from_, .int .i64 t.to_]] w fun e w' => ∃ v, e = .returned v ∧ Own Flat w' w.heap.size 44 v (stopTok t) ∧ Below w.heap.size w w' := by
  have Ht := Lib.hid ht
  clear ht
  unfold stopTok
  rcases hs : stopB t.text with _ | _
  · have Hs := Lib.hid hs
    clear hs
    go_enter Tryd.func46, Tryd.ntmps46
    go_wp2_with (go_at_call 65; go_must (refine (stop_no _ Hs.out _).mono ?_); rintro e w' ⟨rfl, rfl⟩)
    go_ret
    have hb : Below w.heap.size w (w.alloc (.cells #[.string t.text, .int .i64 t.pos, .int .i64 t.from_, .int .i64 t.to_] 44)) := (Below.refl _ _).alloc (Nat.le_refl _) _
    exact ⟨_, rfl, own_one _ _ hb.size t Ht.out _ rfl _ (by simp), hb.alloc hb.size _⟩
  · have Hs := Lib.hid hs
    clear hs
    go_enter Tryd.func46, Tryd.ntmps46
    go_wp2_with (go_at_call 65; go_must (refine (stop_yes _ Hs.out _).mono ?_); rintro e w' ⟨rfl, rfl⟩)
    go_ret
    exact ⟨_, rfl, Own.nil _ _ _ _, (Below.refl _ _).alloc (Nat.le_refl _) _⟩

def shortT (t : Token) : Token := if 17 < (places t.text).length then { t with text := t.text.extract 0 ((places t.text)[16]?.getD 0) } else t
set_option maxRecDepth 100000 in
set_option maxHeartbeats 2000000 in
theorem short_filter (t : Token) (ht : t.ok) (hs : t.text.size ≤ 1000000000) (w : World) (hT : Tabs w) :
    Calls Tryd.prog 48 #[.agg #[.string t.text, .int .i64 t.pos, .int .i64 t.from_, .int .i64 t.to_]] w fun e w' => ∃ v, e = .returned v ∧ Own Flat w' w.heap.size 44 v [shortT t] ∧ Below w.heap.size w w' := by
  have b0 := Blk.new w 44 #[.string t.text, .int .i64 t.pos, .int .i64 t.from_, .int .i64 t.to_]
  have hb0 : Below w.heap.size w (w.alloc (.cells #[.string t.text, .int .i64 t.pos, .int .i64 t.from_, .int .i64 t.to_] 44)) := (Below.refl _ _).alloc (Nat.le_refl _) _
  have B0 := Lib.hid b0
  have Ht := Lib.hid ht
  have HT := Lib.hid (hT.on hb0)
  have Hb0 := Lib.hid hb0
  have hpl := places_len t.text
  clear b0 ht hT hb0
  go_enter Tryd.func48, Tryd.ntmps48
  go_wp2_with fail
  refine (places_any t.text (by omega) _ HT.out).mono ?_
  rintro e w1 ⟨vp, rfl, op, hb1⟩
  obtain ⟨Ap, cp, rfl⟩ := op.form
  have hnl : (natI (places t.text)).length = (places t.text).length := by simp [natI]
  rw [hnl] at op ⊢
  obtain ⟨np, hnp⟩ : ∃ np, (places t.text).length = np := ⟨_, rfl⟩
  rw [hnp] at op hpl ⊢
  have b1 := B0.out.below hb1 (by simp)
  have c0 := b1.cell 0
  have c1 := b1.cell 1
  have c2 := b1.cell 2
  have c3 := b1.cell 3
  have f0 := b1.frozen 0
  simp only [List.getElem?_toArray, List.getElem?_cons_zero, List.getElem?_cons_succ] at c0 c1 c2 c3
  have Hb1 := Lib.hid (Hb0.out.trans (hb1.mono Hb0.out.size))
  have hs1 := hb1.size
  simp only [World.size_alloc] at hs1
  have B1 := Lib.hid b1
  have Op := Lib.hid op
  have Hnp := Lib.hid hnp
  clear b1 hb1 op hnl hnp
  by_cases hc : 17 < np
  · obtain ⟨a, ha⟩ : ∃ a, (places t.text)[16]? = some a := ⟨_, List.getElem?_eq_getElem (by have := Hnp.out; omega)⟩
    have has : a ≤ t.text.size := places_le (List.mem_of_getElem? ha)
    obtain ⟨gp, rfl, ca⟩ := own_place Op.out ha
    have hfin : shortT t = { t with text := t.text.extract 0 a } := by unfold shortT; rw [Hnp.out, if_pos hc, ha]; rfl
    have Hfin := Lib.hid hfin
    have hgn : gp ≠ w.heap.size := by
      rintro rfl
      obtain ⟨_, _, _, hr⟩ := Op.out
      rcases hr.2 with ⟨h, _⟩ | ⟨g', _, _, h, _, hgb, _⟩
      · cases h
      · cases h; have := B1.out; unfold Blk at this; rw [this] at hgb; simp at hgb
    have g0 : (0 : Int) ≤ (a : Int) := by omega
    have g1 : (a : Int) ≤ (t.text.size : Int) := by omega
    have g2 : (16 : Int) < (np : Int) := by omega
    clear ha hfin
    go_wp2
    refine wp_region_held_drew (S := (fun w' => w'.cell? ⟨gp, 16, none⟩ = some (.int .i64 (a : Int)))) (by kernel_rfl) ca (fun hHeld => ?_)
    refine wpAnyH_take (i := 0) (oi := ?_) (v := ?_) (by simp only [List.getElem?_toArray, List.getElem?_cons_succ, List.getElem?_cons_zero]; rfl) (by kernel_rfl) (by kernel_rfl) (by kernel_rfl) (by exact fun _ _ _ h => h) (Or.inl ⟨by rfl, ?_⟩) (by assumption) ?_
    rotate_left
    · (intro w hSw; (try dsimp only at hSw); (try go_split_ands); go_simp; try (with_reducible rfl))
    try simp only [Act.put, List.setIfInBounds_toArray, List.set_cons_zero, List.set_cons_succ]
    refine wpAnyH_take (i := 2) (oi := ?_) (v := ?_) (by simp only [List.getElem?_toArray, List.getElem?_cons_succ, List.getElem?_cons_zero]; rfl) (by kernel_rfl) (by kernel_rfl) (by kernel_rfl) (by exact fun _ _ _ h => h) (Or.inl ⟨by rfl, ?_⟩) (by assumption) ?_
    rotate_left
    · (intro w hSw; (try dsimp only at hSw); (try go_split_ands); go_simp; try (with_reducible rfl))
    try simp only [Act.put, List.setIfInBounds_toArray, List.set_cons_zero, List.set_cons_succ]
    refine wpAnyH_take (i := 3) (oi := ?_) (v := ?_) (by simp only [List.getElem?_toArray, List.getElem?_cons_succ, List.getElem?_cons_zero]; rfl) (by kernel_rfl) (by kernel_rfl) (by kernel_rfl) (by exact fun _ _ _ h => h) (Or.inl ⟨by rfl, ?_⟩) (by assumption) ?_
    rotate_left
    · (intro w hSw; (try dsimp only at hSw); (try go_split_ands); go_simp; try (with_reducible rfl))
    try simp only [Act.put, List.setIfInBounds_toArray, List.set_cons_zero, List.set_cons_succ]
    refine wpAnyH_take (i := 4) (oi := ?_) (v := ?_) (by simp only [List.getElem?_toArray, List.getElem?_cons_succ, List.getElem?_cons_zero]; rfl) (by kernel_rfl) (by kernel_rfl) (by kernel_rfl) (by exact fun _ _ _ h => h) (Or.inl ⟨by rfl, ?_⟩) (by assumption) ?_
    rotate_left
    · (intro w hSw; (try dsimp only at hSw); (try go_split_ands); go_simp; try (with_reducible rfl))
    try simp only [Act.put, List.setIfInBounds_toArray, List.set_cons_zero, List.set_cons_succ]
    refine wpAnyH_ready (rs := [1]) (by kernel_rfl) (by simp) ?_
    refine AllReadyH.cons (o := _) rfl (fun K hK => ?_) (AllReadyH.nil)
    go_simp
    refine hK.out _ _ ca (fun hHeld => ?_)
    clear hK K
    try simp only [Act.put, List.setIfInBounds_toArray, List.set_cons_zero, List.set_cons_succ]
    refine wpAnyH_take (i := 5) (oi := ?_) (v := ?_) (by simp only [List.getElem?_toArray, List.getElem?_cons_succ, List.getElem?_cons_zero]; rfl) (by kernel_rfl) (by kernel_rfl) (by kernel_rfl) (by exact fun _ _ _ h => h) (Or.inl ⟨by rfl, ?_⟩) (by assumption) ?_
    rotate_left
    · (intro w hSw; (try dsimp only at hSw); (try go_split_ands); go_simp; try (with_reducible rfl))
    try simp only [Act.put, List.setIfInBounds_toArray, List.set_cons_zero, List.set_cons_succ]
    refine wpAnyH_take (i := 6) (oi := ?_) (v := ?_) (by simp only [List.getElem?_toArray, List.getElem?_cons_succ, List.getElem?_cons_zero]; rfl) (by kernel_rfl) (by kernel_rfl) (by kernel_rfl) (by exact fun _ _ _ h => h) (Or.inl ⟨by rfl, ?_⟩) (by assumption) ?_
    rotate_left
    · (intro w hSw; (try dsimp only at hSw); (try go_split_ands); go_simp; try (with_reducible rfl))
    try simp only [Act.put, List.setIfInBounds_toArray, List.set_cons_zero, List.set_cons_succ]
    refine wpAnyH_ready (rs := [7]) (by kernel_rfl) (by simp) ?_
    refine AllReadyH.cons (o := _) rfl (fun K hK => ?_) (AllReadyH.nil)
    go_simp
    refine hK.out _ _ ((World.cell?_setCell_other _ _ _ _ (by intro e; cases e)).trans ca) (fun hHeld => ?_)
    clear hK K
    try simp only [Act.put, List.setIfInBounds_toArray, List.set_cons_zero, List.set_cons_succ]
    refine wpAnyH_done (by kernel_rfl) ?_ _
    have b2 := B1.out.set_ 0 (.string (t.text.extract 0 a))
    have d0 := b2.cell 0
    have d1 := b2.cell 1
    have d2 := b2.cell 2
    have d3 := b2.cell 3
    simp only [List.getElem?_toArray, List.getElem?_cons_zero, List.getElem?_cons_succ, List.setIfInBounds_toArray, List.set_cons_zero] at d0 d1 d2 d3
    have Hb2 : Hid (Below w.heap.size w (w1.setCell ⟨w.heap.size, 0, none⟩ (.string (t.text.extract 0 a)))) := Hb1.out.setCell (p := ⟨w.heap.size, 0, none⟩) (Nat.le_refl _) _
    have Hok : Hid (Token.ok { t with text := t.text.extract 0 a }) := ⟨by first | (simp only [ByteArray.size_extract]; omega) | (simp only [ByteArray.size_extract]; done), Ht.out.2⟩
    clear b2 c0 c1 c2 c3
    go_wp2
    go_ret
    refine ⟨_, rfl, ?_, (Below.drew Hb2.out).alloc Hb2.out.size _⟩
    rw [Hfin.out]
    exact own_one _ _ Hb2.out.size { t with text := t.text.extract 0 a } Hok.out _ rfl _ (by simp [World.setCell])
  · have hfin : shortT t = t := by unfold shortT; rw [Hnp.out, if_neg hc]
    have Hfin := Lib.hid hfin
    clear hfin
    go_wp2
    go_ret
    refine ⟨_, rfl, ?_, Hb1.out.alloc Hb1.out.size _⟩
    rw [Hfin.out]
    exact own_one _ _ Hb1.out.size t Ht.out _ rfl _ (by simp)
end Go.Proofs.YtajgoffeahfmfaaDoor

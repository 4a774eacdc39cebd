/- The texts LentSch of IterateWords, joined by program (tools/merge.py): walks of the functions that the law reaches, and plain facts; no condition. -/
import Derived.Test.YtajgoffeahfmfaaDoorPart10
import Derived.Test.YtajgoffeahfmfaaDoorPart03
set_option linter.unusedVariables false
set_option linter.unusedSimpArgs false

/- The walk of lecternkit.LentSchema. -/
namespace Go.Proofs.YtajgoffeahfmfaaDoor
open Rep (rep)
open Go.RowKit

theorem field_info : (Tryd.prog.info? 51).map (fun i => (i.zero, i.size, i.bytes)) = some (some (.agg #[.string ByteArray.empty, .int .i64 0, .slice none 0 0, .int .i64 0, .int .i64 0, .bool false, .bool false]), 7, 72) := by kernel_rfl

set_option maxRecDepth 100000 in
set_option maxHeartbeats 2000000 in
theorem lentSchema_rep (A : Option Addr) (n c : Nat) (fs : List Field) (w : World) (hn : n ≤ 1954687338211) (hN : ∀ f ∈ fs, f.chain.length ≤ 17592186043904) (hx : RepList w (· < w.heap.size) A n c fs) :
    Calls Tryd.prog 10 #[.agg #[.slice A n c]] w fun e w' => ∃ A' c', e = .returned (.agg #[.slice A' n c']) ∧ RepList w' (· < w'.heap.size) A' n c' fs ∧ Below w.heap.size w w' := by
  obtain ⟨i0, hi0, hz0, hz1, hz2⟩ := info_parts field_info
  have hl := hx.length
  have hcap := hx.cap
  have Hl := Lib.hid hl
  have HN := Lib.hid hN
  have hb0 : Below w.heap.size w ((w.alloc (.cells #[.slice A n c] 24)).alloc (.cells #[.slice none 0 0] 24)) := (((Below.refl _ _).alloc (Nat.le_refl _) _).alloc (by simp) _)
  have B0 : Blk ((w.alloc (.cells #[.slice A n c] 24)).alloc (.cells #[.slice none 0 0] 24)) w.heap.size 24 #[.slice A n c] := by
    exact (((Below.refl _ _).alloc (Nat.le_refl _) (.cells #[.slice none 0 0] 24)).block w.heap.size (by simp)).trans (Blk.new w 24 #[.slice A n c])
  have B1 : Blk ((w.alloc (.cells #[.slice A n c] 24)).alloc (.cells #[.slice none 0 0] 24)) (w.heap.size + 1) 24 #[.slice none 0 0] := by
    have := Blk.new (w.alloc (.cells #[.slice A n c] 24)) 24 #[.slice none 0 0]
    simpa using this
  obtain ⟨W0, hW0⟩ : ∃ W0, ((w.alloc (.cells #[.slice A n c] 24)).alloc (.cells #[.slice none 0 0] 24)) = W0 := ⟨_, rfl⟩
  have hz : W0.heap.size = w.heap.size + 2 := by rw [← hW0]; simp
  have HW0 := Lib.hid hW0
  rw [hW0] at hb0 B0 B1
  have Hx := Lib.hid (hx.on hb0)
  have HB0 := Lib.hid B0
  have HB1 := Lib.hid B1
  have Hb0 := Lib.hid hb0
  clear hl hN hx hb0 B0 B1 hW0
  go_enter Tryd.func10, Tryd.ntmps10
  go_wp2
  rw [HW0.out]
  go_loopw [3, 4] (fun v i wr => ∃ k : Nat, k ≤ n ∧ i = .int .i64 k ∧ Own (W0.heap.size ≤ ·) wr W0.heap.size 51 v (fs.take k) ∧ Below W0.heap.size W0 wr) (fun _ i _ => n - (intOf i).toNat)
  case atStart => exact ⟨0, Nat.zero_le _, rfl, Own.nil _ _ _ _, Below.refl _ _⟩
  case round =>
    obtain ⟨k, hk, rfl, hown, hb⟩ := hrel
    have hbx : _ = _ := (hb.cell (p := ⟨w.heap.size, 0, none⟩) (by show w.heap.size < _; omega)).trans (HB0.out.cell 0)
    simp only [List.getElem?_toArray, List.getElem?_cons_zero] at hbx
    have hsw := hb.size
    by_cases hlt : k < n
    · obtain ⟨bb, off, f, rfl, He, hbk, he⟩ := (Hx.out.on hb).at_ hlt
      obtain ⟨A2, n2, c2, e0, e1, e2, e3, e4, e5, e6, q1, q2, q3, q4, q5⟩ := Field.at_ he
      obtain ⟨nm, kd, chain, sc, dm, mn, st⟩ := f
      simp only at e0 e1 e2 e3 e4 e5 e6 q1 q2 q3 q4 q5
      have hn2 : n2 ≤ 17592186043904 := by have := HN.out _ (List.mem_of_getElem? He.out); have := q1.length; simp only at *; omega
      have Q1 := Lib.hid q1
      have Q2 := Lib.hid q2
      have Q3 := Lib.hid q3
      have Q4 := Lib.hid q4
      have Q5 := Lib.hid q5
      have Hown := Lib.hid hown
      have hbe : Below wr.heap.size wr (wr.alloc (.cells #[.string nm, .int .i64 kd, .slice A2 n2 c2, .int .i64 sc, .int .i64 dm, .bool mn, .bool st] 51)) := (Below.refl _ _).alloc (Nat.le_refl _) _
      have hBe := Blk.new wr 51 #[.string nm, .int .i64 kd, .slice A2 n2 c2, .int .i64 sc, .int .i64 dm, .bool mn, .bool st]
      have Hbe := Lib.hid hbe
      have HBe := Lib.hid hBe
      clear he q1 q2 q3 q4 q5 hown hbe hBe
      go_wp2_with fail
      refine (lentInts_rep A2 n2 c2 chain _ hn2 (Q1.out.on Hbe.out)).mono ?_
      rintro e' w2 ⟨A3, c3, rfl, hr3, hm3, hb3⟩
      clear hm3
      have hb3' : Below wr.heap.size wr w2 := Hbe.out.trans (hb3.mono Hbe.out.size)
      have hE3 : Blk w2 wr.heap.size 51 #[.string nm, .int .i64 kd, .slice A2 n2 c2, .int .i64 sc, .int .i64 dm, .bool mn, .bool st] := (hb3.block wr.heap.size (by simp)).trans HBe.out
      have b0 := hE3.cell 0
      have b1 := hE3.cell 1
      have b2 := hE3.cell 2
      have b3 := hE3.cell 3
      have b4 := hE3.cell 4
      have b5 := hE3.cell 5
      have b6 := hE3.cell 6
      have bf := hE3.frozen 2
      simp only [List.getElem?_toArray, List.getElem?_cons_zero, List.getElem?_cons_succ] at b0 b1 b2 b3 b4 b5 b6
      have hsz3 : wr.heap.size < w2.heap.size := by have := hb3.size; simp at this; omega
      have hb33 : Below wr.heap.size wr ((w2.setCell ⟨wr.heap.size, 2, none⟩ (.slice A3 n2 c3)).alloc (.cells #[.string nm, .int .i64 kd, .slice A3 n2 c3, .int .i64 sc, .int .i64 dm, .bool mn, .bool st] 51)) := (hb3'.setCell (p := ⟨wr.heap.size, 2, none⟩) (Nat.le_refl _) _).alloc (by simp; omega) _
      have kp : ∀ p : Addr, Fresh (wr.alloc (.cells #[.string nm, .int .i64 kd, .slice A2 n2 c2, .int .i64 sc, .int .i64 dm, .bool mn, .bool st] 51)).heap.size w2 p.block → ((w2.setCell ⟨wr.heap.size, 2, none⟩ (.slice A3 n2 c3)).alloc (.cells #[.string nm, .int .i64 kd, .slice A3 n2 c3, .int .i64 sc, .int .i64 dm, .bool mn, .bool st] 51)).cell? p = w2.cell? p := by
        intro p hp
        have hp1 := hp.1
        have hp2 := hp.2
        simp at hp1
        rw [((Below.refl (w2.setCell ⟨wr.heap.size, 2, none⟩ (.slice A3 n2 c3)).heap.size (w2.setCell ⟨wr.heap.size, 2, none⟩ (.slice A3 n2 c3))).alloc (Nat.le_refl _) _).cell (by simp; omega)]
        exact World.cell?_setCell_other _ _ p _ (fun e => by subst e; simp at hp1; omega)
      have hr4 := hr3.keep kp (fun _ h => h)
      have hfl : (fs.take k).length = k := by have := Hl.out; simp; omega
      have hown4 := Hown.out.on hb33
      have hblk : Blk ((w2.setCell ⟨wr.heap.size, 2, none⟩ (.slice A3 n2 c3)).alloc (.cells #[.string nm, .int .i64 kd, .slice A3 n2 c3, .int .i64 sc, .int .i64 dm, .bool mn, .bool st] 51)) w2.heap.size 51 #[.string nm, .int .i64 kd, .slice A3 n2 c3, .int .i64 sc, .int .i64 dm, .bool mn, .bool st] := by
        have := Blk.new (w2.setCell ⟨wr.heap.size, 2, none⟩ (.slice A3 n2 c3)) 51 #[.string nm, .int .i64 kd, .slice A3 n2 c3, .int .i64 sc, .int .i64 dm, .bool mn, .bool st]
        simpa using this
      have hb4 : Below W0.heap.size W0 ((w2.setCell ⟨wr.heap.size, 2, none⟩ (.slice A3 n2 c3)).alloc (.cells #[.string nm, .int .i64 kd, .slice A3 n2 c3, .int .i64 sc, .int .i64 dm, .bool mn, .bool st] 51)) := hb.trans (hb33.mono hb.size)
      have hrep : rep ((w2.setCell ⟨wr.heap.size, 2, none⟩ (.slice A3 n2 c3)).alloc (.cells #[.string nm, .int .i64 kd, .slice A3 n2 c3, .int .i64 sc, .int .i64 dm, .bool mn, .bool st] 51)) (Fr (W0.heap.size ≤ ·) ((w2.setCell ⟨wr.heap.size, 2, none⟩ (.slice A3 n2 c3)).alloc (.cells #[.string nm, .int .i64 kd, .slice A3 n2 c3, .int .i64 sc, .int .i64 dm, .bool mn, .bool st] 51)) u3) #[.string nm, .int .i64 kd, .slice A3 n2 c3, .int .i64 sc, .int .i64 dm, .bool mn, .bool st].toList (Field.mk nm kd chain sc dm mn st) :=
        Field.of_cells (x := Field.mk nm kd chain sc dm mn st) (hr4.more (fun b h => ⟨by have := hb.size; have h1 := h.1; simp at h1 ⊢; omega, by have h2 := h.2; simp; omega, fun h' => by have := Hown.out.block_lt h'.symm; have h1 := h.1; simp at h1; omega⟩)) Q2.out Q3.out Q4.out Q5.out
      have Hrep := Lib.hid hrep
      have Hblk := Lib.hid hblk
      have Hown4 := Lib.hid hown4
      have Hb4 := Lib.hid hb4
      have Hfl := Lib.hid hfl
      clear hr3 hb3 hb3' hE3 hb33 kp hr4 hown4 hblk hb4 hrep hfl hb e0 e1 e2 e3 e4 e5 e6
      go_wp2_with (at_builtin; go_must (refine wpList_push rfl (.tmp 22) (.tmp 24) _ rfl W0.heap.size 51 i0 _ 72 Tryd.underlying22 hi0 hz0 hz1 hz2 rfl u3 (fs.take k) rfl Hown4.out w2.heap.size #[.string nm, .int .i64 kd, .slice A3 n2 c3, .int .i64 sc, .int .i64 dm, .bool mn, .bool st] (Field.mk nm kd chain sc dm mn st) rfl Hblk.out Hrep.out (by rw [Hfl.out]; omega) (by rw [Hfl.out]; omega) Hb4.out.size ?_); intro v5 w5 hown5 hg5 hb5; have Hown5 := Lib.hid hown5; have hb6 := Hb4.out.trans hb5; clear hown5 hg5 hb5)
      have hfin : fs.take (k + 1) = fs.take k ++ [Field.mk nm kd chain sc dm mn st] := by rw [List.take_add_one, He.out]; simp
      go_roundw
      case rel => exact ⟨k + 1, by omega, by go_num, by rw [hfin]; exact Hown5.out, hb6⟩
      case measure => simp [intOf]; omega
    · obtain rfl : k = n := by omega
      have Hf : Hid (fs.take k = fs) := List.take_of_length_le (by have := Hl.out; omega)
      have hown' : Own (W0.heap.size ≤ ·) wr W0.heap.size 51 u3 fs := by rw [← Hf.out]; exact hown
      have Hown := Lib.hid hown'
      have hres : Blk wr (w.heap.size + 1) 24 #[.slice none 0 0] := (hb.block (w.heap.size + 1) (by omega)).trans HB1.out
      have Hres := Lib.hid hres
      clear hown hown' hres
      go_wp2_with (at_builtin; go_must (refine wpList_mark rfl (.tmp 26) (.tmp 28) _ rfl W0.heap.size 51 i0 _ 72 Tryd.underlying22 hi0 hz0 hz1 hz2 rfl u3 fs rfl (Hown.out.alloc _) wr.heap.size #[.string ⟨#[109, 97, 114, 107]⟩, .int .i64 0, .slice none 0 0, .int .i64 0, .int .i64 0, .bool false, .bool false] (.string ⟨#[109, 97, 114, 107]⟩) rfl (Blk.new _ _ _) rfl (by simp [Value.oneCell']) rfl (by rw [Hl.out]; omega) (by rw [Hl.out]; omega) (by have := hb.size; simp; omega) ?_); intro A2 c2 w2 hr2 hm2 hb2; rw [Hl.out] at hr2 hm2 ⊢; have hb3 : Below W0.heap.size W0 w2 := (hb.alloc hb.size _).trans hb2; have hc2 := hm2.1; have Hr2 := Lib.hid hr2; have hc3 := hr2.cap; have Hb3 := Lib.hid hb3; have hbx2 : _ = _ := (hb3.cell (p := ⟨w.heap.size, 0, none⟩) (by show w.heap.size < _; omega)).trans (HB0.out.cell 0); simp only [List.getElem?_toArray, List.getElem?_cons_zero] at hbx2; have hrb : Blk w2 (w.heap.size + 1) 24 #[.slice none 0 0] := (hb3.block (w.heap.size + 1) (by omega)).trans HB1.out; have b0 := hrb.cell 0; have bf := hrb.frozen 0; have hzz : w.heap.size + 1 < w2.heap.size := hrb.lt; simp only [List.getElem?_toArray, List.getElem?_cons_zero] at b0; clear hr2 hm2 hb2 hb3 hrb hbx)
      have hcell : (w2.setCell ⟨w.heap.size + 1, 0, none⟩ (.slice A2 k c2)).cell? ⟨w.heap.size + 1, 0, none⟩ = some (.slice A2 k c2) := World.cell?_setCell_same' _ _ _ (by rw [b0]; rfl)
      have kp : ∀ p : Addr, Fresh W0.heap.size w2 p.block → (w2.setCell ⟨w.heap.size + 1, 0, none⟩ (.slice A2 k c2)).cell? p = w2.cell? p := fun p hp => World.cell?_setCell_other _ _ p _ (fun e => by subst e; have := hp.1; simp at this; omega)
      exact bodyPost_ret (v := .agg #[.slice A2 k c2]) (by simp [results, Tryd.results10, go_sem, hcell, hzz]) rfl ⟨A2, c2, rfl, ((Hr2.out.more (F' := Fresh W0.heap.size w2) (fun b h => ⟨by rcases h.1 with h | h <;> exact h, h.2⟩)).keep kp (fun _ h => h)).more (fun b h => by have := h.2; simpa using this), (Hb0.out.trans (Hb3.out.mono (by omega))).setCell (by simp) _⟩
end Go.Proofs.YtajgoffeahfmfaaDoor

/- The texts LentQ of IterateWords, joined by program (tools/merge.py): walks of the functions that the law reaches, and plain facts; no condition. -/
import Derived.Test.YtajgoffeahfmfaaDoorPart10
import Derived.Test.YtajgoffeahfmfaaDoorPart03
import Derived.Test.YtajgoffeahfmfaaDoorPart09
set_option linter.unusedVariables false
set_option linter.unusedSimpArgs false

/- The walk of lecternkit.LentQuery, whatever the depth. -/
namespace Go.Proofs.YtajgoffeahfmfaaDoor
open Rep (rep)
open Go.RowKit

/-- Ten cells, whatever they hold. -/
structure Raw10 where
  val : List Value
instance : Rep Raw10 where
  size := 10
  pos := by decide
  rep _ _ cs x := cs = x.val ∧ cs.length = 10 ∧ ∀ u ∈ cs, u.oneCell' = true
  len := by rintro _ _ _ _ ⟨_, h, _⟩; exact h
  keep := fun h _ _ => h
  one := by rintro _ _ _ _ _ ⟨_, _, h⟩ hu; exact h _ hu
/-- A query that lies below block B, its kids to the depth d. -/
def QOk (w : World) (B : Nat) : Nat → List Value → Prop
  | 0, _ => False
  | d + 1, cs => ∃ (kd oc : Int) (fd tx up : ByteArray) (AL : Option Addr) (nL cL : Nat) (AH : Option Addr) (nH cH : Nat) (bo op : Int) (AK : Option Addr) (nK cK : Nat) (low high : List Int),
      cs = [.int .i64 kd, .int .i64 oc, .string fd, .string tx, .string up, .slice AL nL cL, .slice AH nH cH, .int .i64 bo, .int .i64 op, .slice AK nK cK] ∧
      RepList w (· < B) AL nL cL low ∧ RepList w (· < B) AH nH cH high ∧ nL ≤ 17592186043904 ∧ nH ≤ 17592186043904 ∧ nK ≤ 925904528626 ∧ nK ≤ cK ∧ cK ≤ 9223372036854775807 ∧
      ∀ k, k < nK → ∃ b off cs', AK = some ⟨b, off, none⟩ ∧ b < B ∧ QOk w B d cs' ∧ ∀ j u, cs'[j]? = some u → w.cell? ⟨b, off + k * 10 + j, none⟩ = some u
theorem QOk.on {w w' : World} {B B' : Nat} (hb : Below B w w') (hB : B ≤ B') : ∀ {d : Nat} {cs : List Value}, QOk w B d cs → QOk w' B' d cs
  | 0, _, h => h.elim
  | d + 1, cs, ⟨kd, oc, fd, tx, up, AL, nL, cL, AH, nH, cH, bo, op, AK, nK, cK, low, high, e, h1, h2, h3, h4, h5, h6, h7, h8⟩ =>
    ⟨kd, oc, fd, tx, up, AL, nL, cL, AH, nH, cH, bo, op, AK, nK, cK, low, high, e, (h1.below hb).more (fun _ h => Nat.lt_of_lt_of_le h hB), (h2.below hb).more (fun _ h => Nat.lt_of_lt_of_le h hB), h3, h4, h5, h6, h7, fun k hk => by
      obtain ⟨b, off, cs', e1, e2, e3, e4⟩ := h8 k hk
      exact ⟨b, off, cs', e1, Nat.lt_of_lt_of_le e2 hB, QOk.on hb hB e3, fun j u hu => (hb.cell (p := ⟨b, off + k * 10 + j, none⟩) e2).trans (e4 j u hu)⟩⟩
theorem query_info : (Tryd.prog.info? 28).map (fun i => (i.zero, i.size, i.bytes)) = some (some (.agg #[.int .i64 0, .int .i64 0, .string ByteArray.empty, .string ByteArray.empty, .string ByteArray.empty, .slice none 0 0, .slice none 0 0, .int .i64 0, .int .i64 0, .slice none 0 0]), 10, 152) := by kernel_rfl

set_option maxRecDepth 100000 in
set_option maxHeartbeats 4000000 in
theorem lentQuery_any : ∀ (d : Nat) (w : World) (kd oc : Int) (fd tx up : ByteArray) (vL vH : Value) (bo op : Int) (vK : Value), QOk w w.heap.size d [.int .i64 kd, .int .i64 oc, .string fd, .string tx, .string up, vL, vH, .int .i64 bo, .int .i64 op, vK] →
    Calls Tryd.prog 11 #[.agg #[.int .i64 kd, .int .i64 oc, .string fd, .string tx, .string up, vL, vH, .int .i64 bo, .int .i64 op, vK]] w fun e w' => ∃ A1 n1 c1 A2 n2 c2 A3 n3 c3, e = .returned (.agg #[.int .i64 kd, .int .i64 oc, .string fd, .string tx, .string up, .slice A1 n1 c1, .slice A2 n2 c2, .int .i64 bo, .int .i64 op, .slice A3 n3 c3]) ∧ Below w.heap.size w w'
  | 0, _, _, _, _, _, _, _, _, _, _, _, h => h.elim
  | d + 1, w, kd, oc, fd, tx, up, vL, vH, bo, op, vK, h => by
    have ih := lentQuery_any d
    obtain ⟨i0, hi0, hz0, hz1, hz2⟩ := info_parts query_info
    obtain ⟨_, _, _, _, _, AL, nL, cL, AH, nH, cH, _, _, AK, nK, cK, low, high, e, hlow, hhigh, bL, bH, bK, hk1, hk2, hkids⟩ := h
    simp only [List.cons.injEq, Value.int.injEq, Value.string.injEq, and_true, true_and] at e
    obtain ⟨rfl, rfl, rfl, rfl, rfl, rfl, rfl, rfl, rfl, rfl⟩ := e
    have hb0 : Below w.heap.size w ((w.alloc (.cells #[.int .i64 kd, .int .i64 oc, .string fd, .string tx, .string up, .slice AL nL cL, .slice AH nH cH, .int .i64 bo, .int .i64 op, .slice AK nK cK] 28)).alloc (.cells #[.int .i64 0, .int .i64 0, .string ⟨#[]⟩, .string ⟨#[]⟩, .string ⟨#[]⟩, .slice none 0 0, .slice none 0 0, .int .i64 0, .int .i64 0, .slice none 0 0] 28)) := (((Below.refl _ _).alloc (Nat.le_refl _) _).alloc (by simp) _)
    have B0 : Blk ((w.alloc (.cells #[.int .i64 kd, .int .i64 oc, .string fd, .string tx, .string up, .slice AL nL cL, .slice AH nH cH, .int .i64 bo, .int .i64 op, .slice AK nK cK] 28)).alloc (.cells #[.int .i64 0, .int .i64 0, .string ⟨#[]⟩, .string ⟨#[]⟩, .string ⟨#[]⟩, .slice none 0 0, .slice none 0 0, .int .i64 0, .int .i64 0, .slice none 0 0] 28)) w.heap.size 28 #[.int .i64 kd, .int .i64 oc, .string fd, .string tx, .string up, .slice AL nL cL, .slice AH nH cH, .int .i64 bo, .int .i64 op, .slice AK nK cK] := (Blk.new _ _ _).alloc _
    have B1 : Blk ((w.alloc (.cells #[.int .i64 kd, .int .i64 oc, .string fd, .string tx, .string up, .slice AL nL cL, .slice AH nH cH, .int .i64 bo, .int .i64 op, .slice AK nK cK] 28)).alloc (.cells #[.int .i64 0, .int .i64 0, .string ⟨#[]⟩, .string ⟨#[]⟩, .string ⟨#[]⟩, .slice none 0 0, .slice none 0 0, .int .i64 0, .int .i64 0, .slice none 0 0] 28)) (w.heap.size + 1) 28 #[.int .i64 0, .int .i64 0, .string ⟨#[]⟩, .string ⟨#[]⟩, .string ⟨#[]⟩, .slice none 0 0, .slice none 0 0, .int .i64 0, .int .i64 0, .slice none 0 0] := by
      have := Blk.new (w.alloc (.cells #[.int .i64 kd, .int .i64 oc, .string fd, .string tx, .string up, .slice AL nL cL, .slice AH nH cH, .int .i64 bo, .int .i64 op, .slice AK nK cK] 28)) 28 #[.int .i64 0, .int .i64 0, .string ⟨#[]⟩, .string ⟨#[]⟩, .string ⟨#[]⟩, .slice none 0 0, .slice none 0 0, .int .i64 0, .int .i64 0, .slice none 0 0]
      simpa using this
    obtain ⟨W0, hW0⟩ : ∃ W0, ((w.alloc (.cells #[.int .i64 kd, .int .i64 oc, .string fd, .string tx, .string up, .slice AL nL cL, .slice AH nH cH, .int .i64 bo, .int .i64 op, .slice AK nK cK] 28)).alloc (.cells #[.int .i64 0, .int .i64 0, .string ⟨#[]⟩, .string ⟨#[]⟩, .string ⟨#[]⟩, .slice none 0 0, .slice none 0 0, .int .i64 0, .int .i64 0, .slice none 0 0] 28)) = W0 := ⟨_, rfl⟩
    have hz : W0.heap.size = w.heap.size + 2 := by rw [← hW0]; simp
    have HW0 := Lib.hid hW0
    rw [hW0] at hb0 B0 B1
    have HB0 := Lib.hid B0
    have HB1 := Lib.hid B1
    have Hb0 := Lib.hid hb0
    have Hlow := Lib.hid hlow
    have Hhigh := Lib.hid hhigh
    have Hkids := Lib.hid hkids
    have Ih := Lib.hid ih
    clear hlow hhigh hkids ih hb0 B0 B1 hW0
    go_enter Tryd.func11, Tryd.ntmps11
    go_wp2_with fail
    rw [HW0.out]
    refine (lentInt64s_rep AL nL cL low _ bL (Hlow.out.on Hb0.out)).mono ?_
    rintro e w1 ⟨A1, c1, rfl, hr1, -, hb1⟩
    have hq1 : Blk w1 w.heap.size _ _ := HB0.out.below hb1 (by omega)
    have hq0 : Blk w1 (w.heap.size + 1) _ _ := HB1.out.below hb1 (by omega)
    have hl1 := hq1.lt
    have bf := hq1.frozen 5
    have f5 := hq1.cell 5
    have f6 := hq1.cell 6
    simp only [List.getElem?_toArray, List.getElem?_cons_zero, List.getElem?_cons_succ] at f5 f6
    have hbA : Below w.heap.size w (w1.setCell ⟨w.heap.size, 5, none⟩ (.slice A1 nL c1)) := (Hb0.out.trans (hb1.mono (by omega))).setCell (Nat.le_refl _) _
    have hqA : Blk (w1.setCell ⟨w.heap.size, 5, none⟩ (.slice A1 nL c1)) w.heap.size _ _ := hq1.set_ 5 (.slice A1 nL c1)
    have hqB : Blk (w1.setCell ⟨w.heap.size, 5, none⟩ (.slice A1 nL c1)) (w.heap.size + 1) _ _ := hq0.far (by simp) (.slice A1 nL c1)
    simp only [List.setIfInBounds_toArray, List.set_cons_zero, List.set_cons_succ] at hqA
    obtain ⟨W1, hW1⟩ : ∃ W1, w1.setCell ⟨w.heap.size, 5, none⟩ (.slice A1 nL c1) = W1 := ⟨_, rfl⟩
    have HW1 := Lib.hid hW1
    rw [hW1] at hbA hqA hqB
    have HbA := Lib.hid hbA
    have HqA := Lib.hid hqA
    have HqB := Lib.hid hqB
    clear hr1 hb1 hq1 hq0 hbA hqA hqB hW1
    go_wp2_with fail
    rw [HW1.out]
    refine (lentInt64s_rep AH nH cH high _ bH (Hhigh.out.on HbA.out)).mono ?_
    rintro e w2 ⟨A2, c2, rfl, hr2, -, hb2⟩
    have hl2' := HqA.out.lt
    have hl3' := HqB.out.lt
    have hq1 : Blk w2 w.heap.size _ _ := HqA.out.below hb2 (by omega)
    have hq0 : Blk w2 (w.heap.size + 1) _ _ := HqB.out.below hb2 (by omega)
    have hl2 := hq1.lt
    have bf2 := hq1.frozen 6
    have g6 := hq1.cell 6
    simp only [List.getElem?_toArray, List.getElem?_cons_zero, List.getElem?_cons_succ] at g6
    have hbA : Below w.heap.size w (w2.setCell ⟨w.heap.size, 6, none⟩ (.slice A2 nH c2)) := (HbA.out.trans (hb2.mono (by omega))).setCell (Nat.le_refl _) _
    have hqA : Blk (w2.setCell ⟨w.heap.size, 6, none⟩ (.slice A2 nH c2)) w.heap.size _ _ := hq1.set_ 6 (.slice A2 nH c2)
    have hqB : Blk (w2.setCell ⟨w.heap.size, 6, none⟩ (.slice A2 nH c2)) (w.heap.size + 1) _ _ := hq0.far (by simp) (.slice A2 nH c2)
    simp only [List.setIfInBounds_toArray, List.set_cons_zero, List.set_cons_succ] at hqA
    obtain ⟨W2, hW2⟩ : ∃ W2, w2.setCell ⟨w.heap.size, 6, none⟩ (.slice A2 nH c2) = W2 := ⟨_, rfl⟩
    have HW2 := Lib.hid hW2
    rw [hW2] at hbA hqA hqB
    have hz2' : w.heap.size + 1 < W2.heap.size := hqB.lt
    have Hb2 := Lib.hid hbA
    have Hq2 := Lib.hid hqA
    have Hr2 := Lib.hid hqB
    clear hr2 hb2 hq1 hq0 hbA hqA hqB hW2 HbA HqA HqB HB0 HB1 Hb0 HW0 f5 f6 bf hl1 hl2' hl3'
    go_wp2_with fail
    rw [HW2.out]
    go_loopw [3, 4] (fun v i wr => ∃ (k : Nat) (out : List Raw10), k ≤ nK ∧ i = .int .i64 k ∧ out.length = k ∧ Own Flat wr W2.heap.size 28 v out ∧ Below W2.heap.size W2 wr) (fun _ i _ => nK - (intOf i).toNat)
    case atStart => exact ⟨0, [], Nat.zero_le _, rfl, rfl, Own.nil _ _ _ _, Below.refl _ _⟩
    case round =>
      obtain ⟨k, out, hk, rfl, hlo, hown, hb⟩ := hrel
      have hqr : Blk wr w.heap.size _ _ := Hq2.out.below hb (by omega)
      have hbr : Below w.heap.size w wr := Hb2.out.trans (hb.mono (by omega))
      have hsw := hb.size
      obtain ⟨Ao, co, rfl⟩ := hown.form
      rw [hlo] at hown ⊢
      have g9 := hqr.cell 9
      simp only [List.getElem?_toArray, List.getElem?_cons_zero, List.getElem?_cons_succ] at g9
      have Hlo := Lib.hid hlo
      have Hown := Lib.hid hown
      have Hb := Lib.hid hb
      have Hbr := Lib.hid hbr
      have Hqr := Lib.hid hqr
      clear hlo hown hb hbr hqr
      by_cases hlt : k < nK
      · obtain ⟨b, off, cs', rfl, hbk, hq, hcs⟩ := Hkids.out k hlt
        have hcs2 : ∀ j u, cs'[j]? = some u → wr.cell? ⟨b, off + k * 10 + j, none⟩ = some u := fun j u hu => (Hbr.out.cell (p := ⟨b, off + k * 10 + j, none⟩) hbk).trans (hcs j u hu)
        have hq' := QOk.on Hbr.out Hbr.out.size hq
        cases d with
        | zero => exact hq.elim
        | succ d =>
          obtain ⟨kd2, oc2, fd2, tx2, up2, AL2, nL2, cL2, AH2, nH2, cH2, bo2, op2, AK2, nK2, cK2, low2, high2, rfl, hrest⟩ := hq
          have e0 := hcs2 0 _ rfl
          have e1 := hcs2 1 _ rfl
          have e2 := hcs2 2 _ rfl
          have e3 := hcs2 3 _ rfl
          have e4 := hcs2 4 _ rfl
          have e5 := hcs2 5 _ rfl
          have e6 := hcs2 6 _ rfl
          have e7 := hcs2 7 _ rfl
          have e8 := hcs2 8 _ rfl
          have e9 := hcs2 9 _ rfl
          simp only [Nat.add_zero] at e0
          have hc := Ih.out wr kd2 oc2 fd2 tx2 up2 _ _ bo2 op2 _ hq'
          have Hc := Lib.hid hc
          clear hc hq' hrest hcs hcs2
          go_wp2_with fail
          refine Hc.out.mono ?_
          rintro e w4 ⟨B1, m1, d1, B2, m2, d2, B3, m3, d3, rfl, hb4⟩
          have Hown4 := Lib.hid (Hown.out.on hb4)
          have Hb4 : Hid (Below W2.heap.size W2 w4) := Hb.out.trans (hb4.mono hsw)
          have hs4 := Hb4.out.size
          clear hb4 e0 e1 e2 e3 e4 e5 e6 e7 e8 e9
          go_wp2_with (at_builtin
                       go_must (refine wpList_pushF rfl (.tmp 27) (.tmp 29) _ rfl W2.heap.size 28 i0 _ 152 Tryd.underlying26 hi0 hz0 hz1 hz2 rfl (.slice Ao k co) out rfl ((Hown4.out.alloc (.cells #[.int .i64 kd2, .int .i64 oc2, .string fd2, .string tx2, .string up2, .slice B1 m1 d1, .slice B2 m2 d2, .int .i64 bo2, .int .i64 op2, .slice B3 m3 d3] 28)).alloc (.cells #[.int .i64 kd2, .int .i64 oc2, .string fd2, .string tx2, .string up2, .slice B1 m1 d1, .slice B2 m2 d2, .int .i64 bo2, .int .i64 op2, .slice B3 m3 d3] 28)) _ #[.int .i64 kd2, .int .i64 oc2, .string fd2, .string tx2, .string up2, .slice B1 m1 d1, .slice B2 m2 d2, .int .i64 bo2, .int .i64 op2, .slice B3 m3 d3] ⟨[.int .i64 kd2, .int .i64 oc2, .string fd2, .string tx2, .string up2, .slice B1 m1 d1, .slice B2 m2 d2, .int .i64 bo2, .int .i64 op2, .slice B3 m3 d3]⟩ rfl (by have hh := Blk.new (w4.alloc (.cells #[.int .i64 kd2, .int .i64 oc2, .string fd2, .string tx2, .string up2, .slice B1 m1 d1, .slice B2 m2 d2, .int .i64 bo2, .int .i64 op2, .slice B3 m3 d3] 28)) 28 #[.int .i64 kd2, .int .i64 oc2, .string fd2, .string tx2, .string up2, .slice B1 m1 d1, .slice B2 m2 d2, .int .i64 bo2, .int .i64 op2, .slice B3 m3 d3]; simp only [World.size_alloc] at hh; exact hh) ⟨rfl, rfl, by simp [Value.oneCell']⟩ (by rw [Hlo.out]; omega) (by rw [Hlo.out]; omega) (by simp; omega) ?_)
                       rw [Hlo.out]
                       intro A5 c5 w5 ho5 hg5 hb5
                       have Ho5 := Lib.hid ho5
                       have Hb5 : Hid (Below W2.heap.size W2 w5) := ((Hb4.out.alloc hs4 _).alloc (by simp; omega) _).trans hb5
                       clear ho5 hg5 hb5)
          go_roundw
          case rel => exact ⟨k + 1, out ++ [⟨[.int .i64 kd2, .int .i64 oc2, .string fd2, .string tx2, .string up2, .slice B1 m1 d1, .slice B2 m2 d2, .int .i64 bo2, .int .i64 op2, .slice B3 m3 d3]⟩], by omega, by go_num, by rw [List.length_append, Hlo.out]; rfl, Ho5.out, Hb5.out⟩
          case measure => simp [intOf]; omega
      · obtain rfl : k = nK := by omega
        go_wp2_with (at_builtin
                     go_must (refine wpList_mark rfl (.tmp 31) (.tmp 33) _ rfl W2.heap.size 28 i0 _ 152 Tryd.underlying26 hi0 hz0 hz1 hz2 rfl (.slice Ao k co) out rfl (Hown.out.alloc _) wr.heap.size #[.int .i64 (-71), .int .i64 0, .string ⟨#[]⟩, .string ⟨#[]⟩, .string ⟨#[]⟩, .slice none 0 0, .slice none 0 0, .int .i64 0, .int .i64 0, .slice none 0 0] (.int .i64 (-71)) rfl (Blk.new _ _ _) rfl (by simp [Value.oneCell']) rfl (by rw [Hlo.out]; omega) (by rw [Hlo.out]; omega) (by simp; omega) ?_)
                     rw [Hlo.out]
                     intro A5 c5 w5 hr5 hm5 hb5
                     have hc5 := hm5.1
                     have hc6 := hr5.cap
                     have hb6 : Below W2.heap.size W2 w5 := (Hb.out.alloc hsw _).trans hb5
                     have hq5 : Blk w5 w.heap.size _ _ := Hq2.out.below hb6 (by omega)
                     have hq6 : Blk w5 (w.heap.size + 1) _ _ := Hr2.out.below hb6 (by omega)
                     have hl5 := hq5.lt
                     have hl6 := hq6.lt
                     have k0 := hq5.cell 0
                     have k1 := hq5.cell 1
                     have k2 := hq5.cell 2
                     have k3 := hq5.cell 3
                     have k4 := hq5.cell 4
                     have k5 := hq5.cell 5
                     have k6 := hq5.cell 6
                     have k7 := hq5.cell 7
                     have k8 := hq5.cell 8
                     have k9 := hq5.cell 9
                     have bf9 := hq5.frozen 9
                     have n0 := hq6.cell 0
                     have fz0 := hq6.frozen 0
                     have n1 := hq6.cell 1
                     have fz1 := hq6.frozen 1
                     have n2 := hq6.cell 2
                     have fz2 := hq6.frozen 2
                     have n3 := hq6.cell 3
                     have fz3 := hq6.frozen 3
                     have n4 := hq6.cell 4
                     have fz4 := hq6.frozen 4
                     have n5 := hq6.cell 5
                     have fz5 := hq6.frozen 5
                     have n6 := hq6.cell 6
                     have fz6 := hq6.frozen 6
                     have n7 := hq6.cell 7
                     have fz7 := hq6.frozen 7
                     have n8 := hq6.cell 8
                     have fz8 := hq6.frozen 8
                     have n9 := hq6.cell 9
                     have fz9 := hq6.frozen 9
                     simp only [List.getElem?_toArray, List.getElem?_cons_zero, List.getElem?_cons_succ] at k0 k1 k2 k3 k4 k5 k6 k7 k8 k9 n0 n1 n2 n3 n4 n5 n6 n7 n8 n9
                     have Hb6 := Lib.hid hb6
                     have Hq5 := Lib.hid hq5
                     have Hq6 := Lib.hid hq6
                     clear hr5 hm5 hb5 hb6 hq5 hq6 g9)
        have hB : Blk (((((((((((w5.setCell ⟨w.heap.size, 9, none⟩ (.slice A5 k c5)).setCell ⟨w.heap.size + 1, 0, none⟩ (.int .i64 kd)).setCell ⟨w.heap.size + 1, 1, none⟩ (.int .i64 oc)).setCell ⟨w.heap.size + 1, 2, none⟩ (.string fd)).setCell ⟨w.heap.size + 1, 3, none⟩ (.string tx)).setCell ⟨w.heap.size + 1, 4, none⟩ (.string up)).setCell ⟨w.heap.size + 1, 5, none⟩ (.slice A1 nL c1)).setCell ⟨w.heap.size + 1, 6, none⟩ (.slice A2 nH c2)).setCell ⟨w.heap.size + 1, 7, none⟩ (.int .i64 bo)).setCell ⟨w.heap.size + 1, 8, none⟩ (.int .i64 op)).setCell ⟨w.heap.size + 1, 9, none⟩ (.slice A5 k c5)) (w.heap.size + 1) 28 _ := (((((((((((Hq6.out.far (p := ⟨w.heap.size, 9, none⟩) (by simp) (.slice A5 k c5)).set_ 0 (.int .i64 kd)).set_ 1 (.int .i64 oc)).set_ 2 (.string fd)).set_ 3 (.string tx)).set_ 4 (.string up)).set_ 5 (.slice A1 nL c1)).set_ 6 (.slice A2 nH c2)).set_ 7 (.int .i64 bo)).set_ 8 (.int .i64 op)).set_ 9 (.slice A5 k c5))
        have hL : Below w.heap.size w (((((((((((w5.setCell ⟨w.heap.size, 9, none⟩ (.slice A5 k c5)).setCell ⟨w.heap.size + 1, 0, none⟩ (.int .i64 kd)).setCell ⟨w.heap.size + 1, 1, none⟩ (.int .i64 oc)).setCell ⟨w.heap.size + 1, 2, none⟩ (.string fd)).setCell ⟨w.heap.size + 1, 3, none⟩ (.string tx)).setCell ⟨w.heap.size + 1, 4, none⟩ (.string up)).setCell ⟨w.heap.size + 1, 5, none⟩ (.slice A1 nL c1)).setCell ⟨w.heap.size + 1, 6, none⟩ (.slice A2 nH c2)).setCell ⟨w.heap.size + 1, 7, none⟩ (.int .i64 bo)).setCell ⟨w.heap.size + 1, 8, none⟩ (.int .i64 op)).setCell ⟨w.heap.size + 1, 9, none⟩ (.slice A5 k c5)) := ((((((((((((Hb2.out.trans (Hb6.out.mono (by omega))).setCell (p := ⟨w.heap.size, 9, none⟩) (Nat.le_refl _) (.slice A5 k c5)).setCell (p := ⟨w.heap.size + 1, 0, none⟩) (by simp) (.int .i64 kd)).setCell (p := ⟨w.heap.size + 1, 1, none⟩) (by simp) (.int .i64 oc)).setCell (p := ⟨w.heap.size + 1, 2, none⟩) (by simp) (.string fd)).setCell (p := ⟨w.heap.size + 1, 3, none⟩) (by simp) (.string tx)).setCell (p := ⟨w.heap.size + 1, 4, none⟩) (by simp) (.string up)).setCell (p := ⟨w.heap.size + 1, 5, none⟩) (by simp) (.slice A1 nL c1)).setCell (p := ⟨w.heap.size + 1, 6, none⟩) (by simp) (.slice A2 nH c2)).setCell (p := ⟨w.heap.size + 1, 7, none⟩) (by simp) (.int .i64 bo)).setCell (p := ⟨w.heap.size + 1, 8, none⟩) (by simp) (.int .i64 op)).setCell (p := ⟨w.heap.size + 1, 9, none⟩) (by simp) (.slice A5 k c5))
        obtain ⟨Z, hZ⟩ : ∃ Z, (((((((((((w5.setCell ⟨w.heap.size, 9, none⟩ (.slice A5 k c5)).setCell ⟨w.heap.size + 1, 0, none⟩ (.int .i64 kd)).setCell ⟨w.heap.size + 1, 1, none⟩ (.int .i64 oc)).setCell ⟨w.heap.size + 1, 2, none⟩ (.string fd)).setCell ⟨w.heap.size + 1, 3, none⟩ (.string tx)).setCell ⟨w.heap.size + 1, 4, none⟩ (.string up)).setCell ⟨w.heap.size + 1, 5, none⟩ (.slice A1 nL c1)).setCell ⟨w.heap.size + 1, 6, none⟩ (.slice A2 nH c2)).setCell ⟨w.heap.size + 1, 7, none⟩ (.int .i64 bo)).setCell ⟨w.heap.size + 1, 8, none⟩ (.int .i64 op)).setCell ⟨w.heap.size + 1, 9, none⟩ (.slice A5 k c5)) = Z := ⟨_, rfl⟩
        rw [hZ] at hB hL ⊢
        simp only [List.setIfInBounds_toArray, List.set_cons_zero, List.set_cons_succ] at hB
        have y0 := hB.cell 0
        have y1 := hB.cell 1
        have y2 := hB.cell 2
        have y3 := hB.cell 3
        have y4 := hB.cell 4
        have y5 := hB.cell 5
        have y6 := hB.cell 6
        have y7 := hB.cell 7
        have y8 := hB.cell 8
        have y9 := hB.cell 9
        simp only [List.getElem?_toArray, List.getElem?_cons_zero, List.getElem?_cons_succ] at y0 y1 y2 y3 y4 y5 y6 y7 y8 y9
        have hzz := hB.lt
        exact bodyPost_ret (v := .agg #[.int .i64 kd, .int .i64 oc, .string fd, .string tx, .string up, .slice A1 nL c1, .slice A2 nH c2, .int .i64 bo, .int .i64 op, .slice A5 k c5]) (by simp [results, Tryd.results11, go_sem, y0, y1, y2, y3, y4, y5, y6, y7, y8, y9, hzz]) rfl ⟨_, _, _, _, _, _, _, _, _, rfl, hL⟩
end Go.Proofs.YtajgoffeahfmfaaDoor

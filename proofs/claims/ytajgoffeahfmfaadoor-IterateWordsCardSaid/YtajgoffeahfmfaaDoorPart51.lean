/- The texts KTokens, Law20 of IterateWords, joined by program (tools/merge.py): walks of the functions that the law reaches, and plain facts; no condition. -/
import Derived.Test.YtajgoffeahfmfaaDoorPart13
import Derived.Test.YtajgoffeahfmfaaDoorPart05
import Derived.Test.YtajgoffeahfmfaaDoorPart28
import Derived.Laws.StructEq
import Derived.Test.YtajgoffeahfmfaaDoorPart30
import Derived.Test.YtajgoffeahfmfaaDoorPart49
import Derived.Test.YtajgoffeahfmfaaDoorPart50
import Derived.Test.YtajgoffeahfmfaaDoorPart11
set_option linter.unusedVariables false
set_option linter.unusedSimpArgs false

/- The walk of lecternkit.Tokens at two rows of the same tokens. -/
namespace Go.Proofs.YtajgoffeahfmfaaDoor
open Rep (rep)
open Go.RowKit

set_option maxRecDepth 100000 in
set_option maxHeartbeats 1000000 in
theorem tokens_same (A A' : Option Addr) (n c c' : Nat) (xs : List Token) (w : World) (hx : RepList w (· < w.heap.size) A n c xs) (hy : RepList w (· < w.heap.size) A' n c' xs) :
    Calls Tryd.prog 8 #[.slice A n c, .slice A' n c'] w fun e w' => e = .returned (.bool true) ∧ Below w.heap.size w w' := by
  have hcap := hx.cap
  have hnn : ((n : Int) != (n : Int)) = false := by simp
  go_enter Tryd.func8, Tryd.ntmps8
  go_wp2
  go_loopw [5] (fun i wr => ∃ k : Nat, k ≤ n ∧ i = .int .i64 k ∧ InDraws w wr) (fun i _ => n - (intOf i).toNat)
  case atStart => exact ⟨0, Nat.zero_le _, rfl, 0, rfl⟩
  case round =>
    obtain ⟨k, hk, rfl, hd⟩ := hrel
    by_cases hlt : k < n
    · obtain ⟨b1, o1, x, rfl, Hx, _, ex⟩ := (hx.on hd.below).at_ hlt
      obtain ⟨b2, o2, y, rfl, Hy, _, ey⟩ := (hy.on hd.below).at_ hlt
      obtain rfl : x = y := by have := Hx.out.symm.trans Hy.out; exact Option.some.inj this
      obtain ⟨e0, e1, e2, e3, _⟩ := Token.at_ ex
      obtain ⟨f0, f1, f2, f3, _⟩ := Token.at_ ey
      obtain ⟨tx, ps, fr, to_⟩ := x
      simp only at e0 e1 e2 e3 f0 f1 f2 f3
      have Hd := Lib.hid hd
      have hb1 : (tx.toList == tx.toList) = true := str_yes rfl
      have q1 : (ps == ps) = true := by simp
      have q2 : (fr == fr) = true := by simp
      have q3 : (to_ == to_) = true := by simp
      clear ex ey Hx Hy hd
      go_wp2_with fail
      go_quiet (fail)
      go_wp2_with fail
      go_roundw
      case rel => exact ⟨k + 1, by omega, by go_num, InDraws.more Hd.out _⟩
      case measure => simp [intOf]; omega
    · obtain rfl : k = n := by omega
      have Hd := Lib.hid hd
      go_wp2
      go_ret
      exact ⟨rfl, Hd.out.below⟩
end Go.Proofs.YtajgoffeahfmfaaDoor

/- The walk of the law IterateWords. -/
namespace Go.Proofs.YtajgoffeahfmfaaDoor
open Rep (rep)
open Go.RowKit

set_option maxRecDepth 100000 in
set_option maxHeartbeats 4000000 in
theorem law20 (A : Option Addr) (n c : Nat) (fs : List Field) (d : Nat) (kd oc : Int) (fd tx up : ByteArray) (AL : Option Addr) (nL cL : Nat) (AH : Option Addr) (nH cH : Nat) (bo op : Int) (AK : Option Addr) (nK cK : Nat) (w : World) (hT : Tabs w)
    (hn : n ≤ 1954687338211) (hN : ∀ f ∈ fs, f.chain.length ≤ 17592186043904) (hs : RepList w (· < w.heap.size) A n c fs)
    (hqk : QOk w w.heap.size d [.int .i64 kd, .int .i64 oc, .string fd, .string tx, .string up, .slice AL nL cL, .slice AH nH cH, .int .i64 bo, .int .i64 op, .slice AK nK cK]) :
    Calls Tryd.prog 3 #[.agg #[.slice A n c], .agg #[.int .i64 kd, .int .i64 oc, .string fd, .string tx, .string up, .slice AL nL cL, .slice AH nH cH, .int .i64 bo, .int .i64 op, .slice AK nK cK]] w fun e w' => e = .returned (.bool true) ∧ Below w.heap.size w w' := by
  obtain ⟨ws, hws⟩ : ∃ ws, wordsT fs kd fd tx = ws := ⟨_, rfl⟩
  obtain ⟨L, hL⟩ : ∃ L, ws.length = L := ⟨_, rfl⟩
  have Hws := Lib.hid hws
  have HL := Lib.hid hL
  have hb0 : Below w.heap.size w ((w.alloc (.cells #[.slice A n c] 24)).alloc (.cells #[.int .i64 kd, .int .i64 oc, .string fd, .string tx, .string up, .slice AL nL cL, .slice AH nH cH, .int .i64 bo, .int .i64 op, .slice AK nK cK] 28)) := (((Below.refl _ _).alloc (Nat.le_refl _) _).alloc (by simp) _)
  have B0 : Blk ((w.alloc (.cells #[.slice A n c] 24)).alloc (.cells #[.int .i64 kd, .int .i64 oc, .string fd, .string tx, .string up, .slice AL nL cL, .slice AH nH cH, .int .i64 bo, .int .i64 op, .slice AK nK cK] 28)) w.heap.size 24 #[.slice A n c] := (Blk.new _ _ _).alloc _
  have B1 : Blk ((w.alloc (.cells #[.slice A n c] 24)).alloc (.cells #[.int .i64 kd, .int .i64 oc, .string fd, .string tx, .string up, .slice AL nL cL, .slice AH nH cH, .int .i64 bo, .int .i64 op, .slice AK nK cK] 28)) (w.heap.size + 1) 28 #[.int .i64 kd, .int .i64 oc, .string fd, .string tx, .string up, .slice AL nL cL, .slice AH nH cH, .int .i64 bo, .int .i64 op, .slice AK nK cK] := by
    have := Blk.new (w.alloc (.cells #[.slice A n c] 24)) 28 #[.int .i64 kd, .int .i64 oc, .string fd, .string tx, .string up, .slice AL nL cL, .slice AH nH cH, .int .i64 bo, .int .i64 op, .slice AK nK cK]
    simpa using this
  obtain ⟨W0, hW0⟩ : ∃ W0, ((w.alloc (.cells #[.slice A n c] 24)).alloc (.cells #[.int .i64 kd, .int .i64 oc, .string fd, .string tx, .string up, .slice AL nL cL, .slice AH nH cH, .int .i64 bo, .int .i64 op, .slice AK nK cK] 28)) = W0 := ⟨_, rfl⟩
  have hz : W0.heap.size = w.heap.size + 2 := by rw [← hW0]; simp
  have HW0 := Lib.hid hW0
  rw [hW0] at hb0 B0 B1
  have hs0 := hs.on hb0
  have Hs := Lib.hid hs0
  have HT0 := Lib.hid (hT.on hb0)
  have hqk0 := QOk.on hb0 hb0.size hqk
  have Hqk := Lib.hid hqk0
  have HN := Lib.hid hN
  have Hb0 := Lib.hid hb0
  have c0 := B0.cell 0
  have d0 := B1.cell 0
  have d1 := B1.cell 1
  have d2 := B1.cell 2
  have d3 := B1.cell 3
  have d4 := B1.cell 4
  have d5 := B1.cell 5
  have d6 := B1.cell 6
  have d7 := B1.cell 7
  have d8 := B1.cell 8
  have d9 := B1.cell 9
  simp only [List.getElem?_toArray, List.getElem?_cons_zero, List.getElem?_cons_succ] at c0 d0 d1 d2 d3 d4 d5 d6 d7 d8 d9
  have HS : Hid (∀ W, Below W0.heap.size W0 W → W.cell? ⟨w.heap.size, 0, none⟩ = some (.slice A n c) ∧ W.cell? ⟨w.heap.size + 1, 0, none⟩ = some (.int .i64 kd) ∧ W.cell? ⟨w.heap.size + 1, 1, none⟩ = some (.int .i64 oc) ∧ W.cell? ⟨w.heap.size + 1, 2, none⟩ = some (.string fd) ∧ W.cell? ⟨w.heap.size + 1, 3, none⟩ = some (.string tx) ∧ W.cell? ⟨w.heap.size + 1, 4, none⟩ = some (.string up) ∧ W.cell? ⟨w.heap.size + 1, 5, none⟩ = some (.slice AL nL cL) ∧ W.cell? ⟨w.heap.size + 1, 6, none⟩ = some (.slice AH nH cH) ∧ W.cell? ⟨w.heap.size + 1, 7, none⟩ = some (.int .i64 bo) ∧ W.cell? ⟨w.heap.size + 1, 8, none⟩ = some (.int .i64 op) ∧ W.cell? ⟨w.heap.size + 1, 9, none⟩ = some (.slice AK nK cK) ∧ Below W0.heap.size W0 W) := fun W hW =>
    ⟨(hW.cell (p := ⟨w.heap.size, 0, none⟩) (by show w.heap.size < _; omega)).trans c0,
     (hW.cell (p := ⟨w.heap.size + 1, 0, none⟩) (by show w.heap.size + 1 < _; omega)).trans d0,
     (hW.cell (p := ⟨w.heap.size + 1, 1, none⟩) (by show w.heap.size + 1 < _; omega)).trans d1,
     (hW.cell (p := ⟨w.heap.size + 1, 2, none⟩) (by show w.heap.size + 1 < _; omega)).trans d2,
     (hW.cell (p := ⟨w.heap.size + 1, 3, none⟩) (by show w.heap.size + 1 < _; omega)).trans d3,
     (hW.cell (p := ⟨w.heap.size + 1, 4, none⟩) (by show w.heap.size + 1 < _; omega)).trans d4,
     (hW.cell (p := ⟨w.heap.size + 1, 5, none⟩) (by show w.heap.size + 1 < _; omega)).trans d5,
     (hW.cell (p := ⟨w.heap.size + 1, 6, none⟩) (by show w.heap.size + 1 < _; omega)).trans d6,
     (hW.cell (p := ⟨w.heap.size + 1, 7, none⟩) (by show w.heap.size + 1 < _; omega)).trans d7,
     (hW.cell (p := ⟨w.heap.size + 1, 8, none⟩) (by show w.heap.size + 1 < _; omega)).trans d8,
     (hW.cell (p := ⟨w.heap.size + 1, 9, none⟩) (by show w.heap.size + 1 < _; omega)).trans d9, hW⟩
  clear hT hN hs hqk hb0 B0 B1 hW0 hs0 hqk0 c0 d0 d1 d2 d3 d4 d5 d6 d7 d8 d9 hws hL
  go_enter Tryd.func3, Tryd.ntmps3
  go_wp2_with (first
    | (go_at_call 4; go_must (refine (nil_next _).mono ?_); rintro e w' ⟨rfl, rfl⟩)
    | (go_at_call 5; go_must (refine (nil_advance 0 _).mono ?_); rintro e w' ⟨rfl, rfl⟩)
    | (go_at_call 6; go_must (refine (nil_doc _).mono ?_); rintro e w' ⟨rfl, rfl⟩)
    | (go_at_call 7; go_must (refine (nil_freq _).mono ?_); rintro e w' ⟨rfl, rfl⟩))
  rw [HW0.out]
  go_region_held3 (fun W => W.cell? ⟨w.heap.size, 0, none⟩ = some (.slice A n c) ∧ W.cell? ⟨w.heap.size + 1, 0, none⟩ = some (.int .i64 kd) ∧ W.cell? ⟨w.heap.size + 1, 1, none⟩ = some (.int .i64 oc) ∧ W.cell? ⟨w.heap.size + 1, 2, none⟩ = some (.string fd) ∧ W.cell? ⟨w.heap.size + 1, 3, none⟩ = some (.string tx) ∧ W.cell? ⟨w.heap.size + 1, 4, none⟩ = some (.string up) ∧ W.cell? ⟨w.heap.size + 1, 5, none⟩ = some (.slice AL nL cL) ∧ W.cell? ⟨w.heap.size + 1, 6, none⟩ = some (.slice AH nH cH) ∧ W.cell? ⟨w.heap.size + 1, 7, none⟩ = some (.int .i64 bo) ∧ W.cell? ⟨w.heap.size + 1, 8, none⟩ = some (.int .i64 op) ∧ W.cell? ⟨w.heap.size + 1, 9, none⟩ = some (.slice AK nK cK) ∧ Below W0.heap.size W0 W)
    (first | exact HS.out _ (Below.refl _ _) | exact HS.out _ (Below.refl _ _).drew | exact HS.out _ (by assumption))
    (first
      | (go_at_call 10; have hcur : Below W0.heap.size W0 W0.drew := (Below.refl _ _).drew; go_must (refine (lentSchema_rep A n c fs _ hn HN.out (Hs.out.on hcur)).mono ?_); rintro e w1 ⟨A1, c1, rfl, hr1, hb1⟩; have hc1 : Below W0.heap.size W0 w1 := hcur.trans (hb1.mono hcur.size); have Hr1 := Lib.hid hr1; clear hr1 hb1 hcur)
      | (go_at_call 11; have hcur := hc1; go_must (refine (lentQuery_any d _ kd oc fd tx up _ _ bo op _ (QOk.on hcur hcur.size Hqk.out)).mono ?_); rintro e w2 ⟨B1, m1, d1, B2, m2, d2, B3, m3, d3, rfl, hb2⟩; have hc2 : Below W0.heap.size W0 w2 := hcur.trans (hb2.mono hcur.size); have Hr2 := Lib.hid (Hr1.out.on hb2); clear hb2 hcur)
      | (go_at_call 9; have hcur := hc2; go_must (refine (words_any A1 n c1 fs kd oc fd tx up _ _ bo op _ rfl rfl rfl _ (HT0.out.on hcur) Hr2.out).mono ?_); rw [Hws.out]; rintro e w3 ⟨v3, rfl, o3, hb3⟩; obtain ⟨A3, c3, rfl⟩ := o3.form; rw [HL.out] at o3 ⊢; have hc3 : Below W0.heap.size W0 w3 := hcur.trans (hb3.mono hcur.size); have Hr3 := Lib.hid (o3.reads.more (F' := (· < w3.heap.size)) (fun _ h => h.2)); clear hb3 hcur o3)
      | (go_at_call 12; have hcur := hc3; go_must (refine (rwords_any A n c fs kd oc fd tx up _ _ bo op _ rfl rfl rfl _ (Hs.out.on hcur)).mono ?_); rw [Hws.out]; rintro e w4 ⟨v4, rfl, o4, hb4⟩; obtain ⟨A4, c4, rfl⟩ := o4.form; rw [HL.out] at o4 ⊢; have hc4 : Below W0.heap.size W0 w4 := hcur.trans (hb4.mono hcur.size); have Hr4 := Lib.hid (o4.reads.more (F' := (· < w4.heap.size)) (fun _ h => h.2)); have Hr5 := Lib.hid (Hr3.out.on hb4); clear hb4 hcur o4)
      | (go_at_call 8; have hcur := hc4; go_must (refine (tokens_same A3 A4 L c3 c4 ws _ Hr5.out Hr4.out).mono ?_); rintro e w5 ⟨rfl, hb5⟩; have hc5 : Below W0.heap.size W0 w5 := hcur.trans (hb5.mono hcur.size); clear hb5 hcur))
  go_wp2
  go_ret
  exact ⟨rfl, Hb0.out.trans (hc5.mono (by omega))⟩
end Go.Proofs.YtajgoffeahfmfaaDoor

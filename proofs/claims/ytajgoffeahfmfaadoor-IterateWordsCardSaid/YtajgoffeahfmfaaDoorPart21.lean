/- The texts GramsF of IterateWords, joined by program (tools/merge.py): walks of the functions that the law reaches, and plain facts; no condition. -/
import Derived.Test.YtajgoffeahfmfaaDoorPart20
set_option linter.unusedVariables false
set_option linter.unusedSimpArgs false

/- The walk of analysis.grams. -/
namespace Go.Proofs.YtajgoffeahfmfaaDoor
open Rep (rep)
open Go.RowKit

/-- The grams of n runes, up to the place j. -/
def gramsTo (t : Token) (p : List Nat) (n : Nat) : Nat → List Token
  | 0 => []
  | j + 1 => gramsTo t p n j ++ [{ t with text := t.text.extract (p[j]?.getD 0) (p[j + n]?.getD 0) }]
def gramsT (n : Nat) (t : Token) : List Token := if (places t.text).length ≤ n + 1 then [t] else gramsTo t (places t.text) n ((places t.text).length - n)
theorem gramsTo_len (t : Token) (p : List Nat) (n j : Nat) : (gramsTo t p n j).length = j := by
  induction j with
  | zero => rfl
  | succ j ih => simp [gramsTo, ih]
theorem World.drew_heap (w : World) : w.drew.heap = w.heap := rfl
theorem World.size_setCell (w : World) (p : Addr) (v : Value) : (w.setCell p v).heap.size = w.heap.size := by simp [World.setCell]

set_option maxRecDepth 100000 in
set_option maxHeartbeats 4000000 in
theorem grams_filter (n : Nat) (hn : n ≤ 1000) (Bn : Nat) (t : Token) (ht : t.ok) (hs : t.text.size ≤ 1000000000) (w : World) (hT : Tabs w) (hbn : Boxed w Bn 3 (.int .i64 (n : Int))) :
    Calls Tryd.prog 66 #[.agg #[.string t.text, .int .i64 t.pos, .int .i64 t.from_, .int .i64 t.to_], .pointer (some ⟨Bn, 0, none⟩)] w fun e w' => ∃ v, e = .returned v ∧ Own Flat w' w.heap.size 44 v (gramsT n t) ∧ Below w.heap.size w w' := by
  obtain ⟨i0, hi0, hz0, hz1, hz2⟩ := info_parts token_info
  have b0 := Blk.new w 44 #[.string t.text, .int .i64 t.pos, .int .i64 t.from_, .int .i64 t.to_]
  have hb0 : Below w.heap.size w (w.alloc (.cells #[.string t.text, .int .i64 t.pos, .int .i64 t.from_, .int .i64 t.to_] 44)) := (Below.refl _ _).alloc (Nat.le_refl _) _
  have B0 := Lib.hid b0
  have Ht := Lib.hid ht
  have HT := Lib.hid (hT.on hb0)
  have Hb0 := Lib.hid hb0
  have Hbn := Lib.hid hbn
  have hbl := hbn.lt
  have hpl := places_len t.text
  clear b0 ht hT hb0 hbn
  go_enter Tryd.func66, Tryd.ntmps66
  go_wp2_with fail
  refine (places_any t.text (by omega) _ HT.out).mono ?_
  rintro e w1 ⟨vp, rfl, op, hb1⟩
  obtain ⟨Ap, cp, rfl⟩ := op.form
  obtain ⟨p, hp⟩ : ∃ p, places t.text = p := ⟨_, rfl⟩
  rw [hp] at op hpl ⊢
  have hnl : (natI p).length = p.length := by simp [natI]
  rw [hnl] at op ⊢
  obtain ⟨np, hnp⟩ : ∃ np, p.length = np := ⟨_, rfl⟩
  rw [hnp] at op hpl ⊢
  have b1 := B0.out.below hb1 (by simp)
  have c0 := b1.cell 0
  have c1 := b1.cell 1
  have c2 := b1.cell 2
  have c3 := b1.cell 3
  simp only [List.getElem?_toArray, List.getElem?_cons_zero, List.getElem?_cons_succ] at c0 c1 c2 c3
  have hb1' := Hb0.out.trans (hb1.mono Hb0.out.size)
  have cn := (Boxed.on Hbn.out hb1').cell
  have Hb1 := Lib.hid hb1'
  have hs1 := hb1.size
  simp only [World.size_alloc] at hs1
  have B1 := Lib.hid b1
  have Op := Lib.hid op
  have Hnp := Lib.hid hnp
  have Hp := Lib.hid hp
  clear b1 hb1 hb1' op hnl hnp hp
  by_cases hc : np ≤ n + 1
  · have hfin : gramsT n t = [t] := by unfold gramsT; rw [Hp.out, Hnp.out, if_pos hc]
    have Hfin := Lib.hid hfin
    have hc' : (np : Int) - 1 ≤ (n : Int) := by omega
    clear hfin
    go_wp2
    go_ret
    refine ⟨_, rfl, ?_, Hb1.out.alloc Hb1.out.size _⟩
    rw [Hfin.out]
    exact own_one _ _ Hb1.out.size t Ht.out _ rfl _ (by simp)
  · have hfin : gramsT n t = gramsTo t p n (np - n) := by unfold gramsT; rw [Hp.out, Hnp.out, if_neg hc]
    have Hfin := Lib.hid hfin
    have hc' : ¬ (np : Int) - 1 ≤ (n : Int) := by omega
    have Hpt := Lib.hid (show (∀ i x, p[i]? = some x → x ≤ t.text.size) ∧ ∀ i j a b, p[i]? = some a → p[j]? = some b → i ≤ j → a ≤ b by
      rw [← Hp.out]
      exact ⟨fun i x h => places_le (List.mem_of_getElem? h), fun i j a b h1 h2 h3 => places_mono h1 h2 h3⟩)
    have C0 := Lib.hid c0
    have C1 := Lib.hid c1
    have C2 := Lib.hid c2
    have C3 := Lib.hid c3
    have Cn := Lib.hid cn
    clear hfin
    go_wp2
    clear c0 c1 c2 c3 cn
    go_loopw [5, 6] (fun v i wr => ∃ j : Nat, j + n ≤ np ∧ i = .int .i64 j ∧ Own Flat wr w1.heap.size 44 v (gramsTo t p n j) ∧ Below w1.heap.size w1 wr) (fun _ i _ => np - (intOf i).toNat)
    case atStart => exact ⟨0, by omega, rfl, Own.nil _ _ _ _, Below.refl _ _⟩
    case round =>
      obtain ⟨j, hj, rfl, oo, hbw⟩ := hrel
      have en := (hbw.cell (p := ⟨Bn, 0, none⟩) (by simp only; omega)).trans Cn.out
      obtain ⟨out, hout⟩ : ∃ out, gramsTo t p n j = out := ⟨_, rfl⟩
      have hlen := gramsTo_len t p n j
      rw [hout] at oo hlen
      obtain ⟨Aq, cq, rfl⟩ := oo.form
      obtain ⟨L, hL⟩ : ∃ L, out.length = L := ⟨_, rfl⟩
      rw [hL] at oo hlen ⊢
      have hLb : L ≤ np := by omega
      have HL := Lib.hid hL
      have Hout := Lib.hid hout
      have Oo := Lib.hid oo
      have Hbw := Lib.hid hbw
      have hsw := hbw.size
      clear hL hout oo hlen
      by_cases hjt : j + n < np
      · obtain ⟨a, ha⟩ : ∃ a, p[j]? = some a := ⟨_, List.getElem?_eq_getElem (by have := Hnp.out; omega)⟩
        obtain ⟨c, hc⟩ : ∃ c, p[j + n]? = some c := ⟨_, List.getElem?_eq_getElem (by have := Hnp.out; omega)⟩
        obtain ⟨gp, hAp, ca⟩ := own_place Op.out ha
        subst hAp
        obtain ⟨gp', hAp, cc⟩ := own_place Op.out hc
        cases hAp
        have hac : a ≤ c := Hpt.out.2 _ _ _ _ ha hc (by omega)
        have hcs : c ≤ t.text.size := Hpt.out.1 _ _ hc
        have hpc : ({ t with text := t.text.extract (p[j]?.getD 0) (p[j + n]?.getD 0) } : Token) = { t with text := t.text.extract a c } := by rw [ha, hc]; rfl
        have Hpc := Lib.hid hpc
        have Hok : Hid (Token.ok { t with text := t.text.extract a c }) := ⟨by simp only [ByteArray.size_extract]; omega, Ht.out.2⟩
        have hgl := (cell_lt ca)
        simp only at hgl
        have ea := (hbw.cell (p := ⟨gp, j, none⟩) hgl).trans ca
        have ec := (hbw.cell (p := ⟨gp, j + n, none⟩) hgl).trans cc
        have e0 := (hbw.cell (p := ⟨w.heap.size, 0, none⟩) (by simp only; omega)).trans C0.out
        have e1 := (hbw.cell (p := ⟨w.heap.size, 1, none⟩) (by simp only; omega)).trans C1.out
        have e2 := (hbw.cell (p := ⟨w.heap.size, 2, none⟩) (by simp only; omega)).trans C2.out
        have e3 := (hbw.cell (p := ⟨w.heap.size, 3, none⟩) (by simp only; omega)).trans C3.out
        have g0 : (0 : Int) ≤ (j : Int) := by omega
        have g1 : (j : Int) < (np : Int) := by omega
        have g2 : (j : Int) + (n : Int) < (np : Int) := by omega
        have g3 : (0 : Int) ≤ (j : Int) + (n : Int) := by omega
        have g4 : ((j : Int) + (n : Int)).toNat = j + n := by omega
        have g5 : IntKind.i64.wrap ((j : Int) + (n : Int)) = (j : Int) + (n : Int) := IntWalk.i64_in _ (by omega)
        have g6 : (0 : Int) ≤ (a : Int) := by omega
        have g7 : (a : Int) ≤ (c : Int) := by omega
        have g8 : (c : Int) ≤ (t.text.size : Int) := by omega
        have g11 : (0 : Int) ≤ (c : Int) := by omega
        have B0 := Lib.hid (Blk.new wr 44 #[.string t.text, .int .i64 t.pos, .int .i64 t.from_, .int .i64 t.to_])
        have E0 := Lib.hid e0
        have En := Lib.hid en
        have Ea := Lib.hid ea
        have Ec := Lib.hid ec
        clear ha hc hpc hbw ca cc
        go_wp2
        have e0 := (World.cell?_alloc_lt wr (.cells #[.string t.text, .int .i64 t.pos, .int .i64 t.from_, .int .i64 t.to_] 44) _ (cell_lt e0)).trans e0
        have en := (World.cell?_alloc_lt wr (.cells #[.string t.text, .int .i64 t.pos, .int .i64 t.from_, .int .i64 t.to_] 44) _ (cell_lt en)).trans en
        have ea := (World.cell?_alloc_lt wr (.cells #[.string t.text, .int .i64 t.pos, .int .i64 t.from_, .int .i64 t.to_] 44) _ (cell_lt ea)).trans ea
        have ec := (World.cell?_alloc_lt wr (.cells #[.string t.text, .int .i64 t.pos, .int .i64 t.from_, .int .i64 t.to_] 44) _ (cell_lt ec)).trans ec
        refine wp_region_held_drew (S := (fun w' => w'.cell? ⟨w.heap.size, 0, none⟩ = some (.string t.text) ∧ w'.cell? ⟨Bn, 0, none⟩ = some (.int .i64 (n : Int)) ∧ w'.cell? ⟨gp, j, none⟩ = some (.int .i64 (a : Int)) ∧ w'.cell? ⟨gp, j + n, none⟩ = some (.int .i64 (c : Int)))) (by kernel_rfl) ⟨e0, en, ea, ec⟩ (fun hHeld => ?_)
        refine wpAnyH_take (i := 0) (oi := ?_) (v := ?_) (by simp only [List.getElem?_toArray, List.getElem?_cons_succ, List.getElem?_cons_zero]; rfl) (by kernel_rfl) (by kernel_rfl) (by kernel_rfl) (by exact fun _ _ _ h => h) (Or.inl ⟨by rfl, ?_⟩) (by assumption) ?_
        rotate_left
        · (intro w hSw; (try dsimp only at hSw); (try go_split_ands); go_simp; try (with_reducible rfl))
        try simp only [Act.put, List.setIfInBounds_toArray, List.set_cons_zero, List.set_cons_succ]
        refine wpAnyH_take (i := 1) (oi := ?_) (v := ?_) (by simp only [List.getElem?_toArray, List.getElem?_cons_succ, List.getElem?_cons_zero]; rfl) (by kernel_rfl) (by kernel_rfl) (by kernel_rfl) (by exact fun _ _ _ h => h) (Or.inl ⟨by rfl, ?_⟩) (by assumption) ?_
        rotate_left
        · (intro w hSw; (try dsimp only at hSw); (try go_split_ands); go_simp; try (with_reducible rfl))
        try simp only [Act.put, List.setIfInBounds_toArray, List.set_cons_zero, List.set_cons_succ]
        refine wpAnyH_take (i := 2) (oi := ?_) (v := ?_) (by simp only [List.getElem?_toArray, List.getElem?_cons_succ, List.getElem?_cons_zero]; rfl) (by kernel_rfl) (by kernel_rfl) (by kernel_rfl) (by exact fun _ _ _ h => h) (Or.inl ⟨by rfl, ?_⟩) (by assumption) ?_
        rotate_left
        · (intro w hSw; (try dsimp only at hSw); (try go_split_ands); go_simp; try (with_reducible rfl))
        try simp only [Act.put, List.setIfInBounds_toArray, List.set_cons_zero, List.set_cons_succ]
        refine wpAnyH_take (i := 3) (oi := ?_) (v := ?_) (by simp only [List.getElem?_toArray, List.getElem?_cons_succ, List.getElem?_cons_zero]; rfl) (by kernel_rfl) (by kernel_rfl) (by kernel_rfl) (by exact fun _ _ _ h => h) (Or.inl ⟨by rfl, ?_⟩) (by assumption) ?_
        rotate_left
        · (intro w hSw; (try dsimp only at hSw); (try go_split_ands); go_simp; try (with_reducible rfl))
        try simp only [Act.put, List.setIfInBounds_toArray, List.set_cons_zero, List.set_cons_succ]
        refine wpAnyH_take (i := 4) (oi := ?_) (v := ?_) (by simp only [List.getElem?_toArray, List.getElem?_cons_succ, List.getElem?_cons_zero]; rfl) (by kernel_rfl) (by kernel_rfl) (by kernel_rfl) (by exact fun _ _ _ h => h) (Or.inl ⟨by rfl, ?_⟩) (by assumption) ?_
        rotate_left
        · (intro w hSw; (try dsimp only at hSw); (try go_split_ands); go_simp; try (with_reducible rfl))
        try simp only [Act.put, List.setIfInBounds_toArray, List.set_cons_zero, List.set_cons_succ]
        refine wpAnyH_take (i := 5) (oi := ?_) (v := ?_) (by simp only [List.getElem?_toArray, List.getElem?_cons_succ, List.getElem?_cons_zero]; rfl) (by kernel_rfl) (by kernel_rfl) (by kernel_rfl) (by exact fun _ _ _ h => h) (Or.inl ⟨by rfl, ?_⟩) (by assumption) ?_
        rotate_left
        · (intro w hSw; (try dsimp only at hSw); (try go_split_ands); go_simp; try (with_reducible rfl))
        try simp only [Act.put, List.setIfInBounds_toArray, List.set_cons_zero, List.set_cons_succ]
        refine wpAnyH_take (i := 6) (oi := ?_) (v := ?_) (by simp only [List.getElem?_toArray, List.getElem?_cons_succ, List.getElem?_cons_zero]; rfl) (by kernel_rfl) (by kernel_rfl) (by kernel_rfl) (by exact fun _ _ _ h => h) (Or.inl ⟨by rfl, ?_⟩) (by assumption) ?_
        rotate_left
        · (intro w hSw; (try dsimp only at hSw); (try go_split_ands); go_simp; try (with_reducible rfl))
        try simp only [Act.put, List.setIfInBounds_toArray, List.set_cons_zero, List.set_cons_succ]
        refine wpAnyH_take (i := 7) (oi := ?_) (v := ?_) (by simp only [List.getElem?_toArray, List.getElem?_cons_succ, List.getElem?_cons_zero]; rfl) (by kernel_rfl) (by kernel_rfl) (by kernel_rfl) (by exact fun _ _ _ h => h) (Or.inl ⟨by rfl, ?_⟩) (by assumption) ?_
        rotate_left
        · (intro w hSw; (try dsimp only at hSw); (try go_split_ands); go_simp; try (with_reducible rfl))
        try simp only [Act.put, List.setIfInBounds_toArray, List.set_cons_zero, List.set_cons_succ]
        refine wpAnyH_take (i := 8) (oi := ?_) (v := ?_) (by simp only [List.getElem?_toArray, List.getElem?_cons_succ, List.getElem?_cons_zero]; rfl) (by kernel_rfl) (by kernel_rfl) (by kernel_rfl) (by exact fun _ _ _ h => h) (Or.inl ⟨by rfl, ?_⟩) (by assumption) ?_
        rotate_left
        · (intro w hSw; (try dsimp only at hSw); (try go_split_ands); go_simp; try (with_reducible rfl))
        try simp only [Act.put, List.setIfInBounds_toArray, List.set_cons_zero, List.set_cons_succ]
        refine wpAnyH_take (i := 9) (oi := ?_) (v := ?_) (by simp only [List.getElem?_toArray, List.getElem?_cons_succ, List.getElem?_cons_zero]; rfl) (by kernel_rfl) (by kernel_rfl) (by kernel_rfl) (by exact fun _ _ _ h => h) (Or.inl ⟨by rfl, ?_⟩) (by assumption) ?_
        rotate_left
        · (intro w hSw; (try dsimp only at hSw); (try go_split_ands); go_simp; try (with_reducible rfl))
        try simp only [Act.put, List.setIfInBounds_toArray, List.set_cons_zero, List.set_cons_succ]
        refine wpAnyH_take (i := 10) (oi := ?_) (v := ?_) (by simp only [List.getElem?_toArray, List.getElem?_cons_succ, List.getElem?_cons_zero]; rfl) (by kernel_rfl) (by kernel_rfl) (by kernel_rfl) (by exact fun _ _ _ h => h) (Or.inl ⟨by rfl, ?_⟩) (by assumption) ?_
        rotate_left
        · (intro w hSw; (try dsimp only at hSw); (try go_split_ands); go_simp; try (with_reducible rfl))
        try simp only [Act.put, List.setIfInBounds_toArray, List.set_cons_zero, List.set_cons_succ]
        refine wpAnyH_take (i := 11) (oi := ?_) (v := ?_) (by simp only [List.getElem?_toArray, List.getElem?_cons_succ, List.getElem?_cons_zero]; rfl) (by kernel_rfl) (by kernel_rfl) (by kernel_rfl) (by exact fun _ _ _ h => h) (Or.inl ⟨by rfl, ?_⟩) (by assumption) ?_
        rotate_left
        · (intro w hSw; (try dsimp only at hSw); (try go_split_ands); go_simp; try (with_reducible rfl))
        try simp only [Act.put, List.setIfInBounds_toArray, List.set_cons_zero, List.set_cons_succ]
        refine wpAnyH_take (i := 12) (oi := ?_) (v := ?_) (by simp only [List.getElem?_toArray, List.getElem?_cons_succ, List.getElem?_cons_zero]; rfl) (by kernel_rfl) (by kernel_rfl) (by kernel_rfl) (by exact fun _ _ _ h => h) (Or.inl ⟨by rfl, ?_⟩) (by assumption) ?_
        rotate_left
        · (intro w hSw; (try dsimp only at hSw); (try go_split_ands); go_simp; try (with_reducible rfl))
        try simp only [Act.put, List.setIfInBounds_toArray, List.set_cons_zero, List.set_cons_succ]
        refine wpAnyH_take (i := 13) (oi := ?_) (v := ?_) (by simp only [List.getElem?_toArray, List.getElem?_cons_succ, List.getElem?_cons_zero]; rfl) (by kernel_rfl) (by kernel_rfl) (by kernel_rfl) (by exact fun _ _ _ h => h) (Or.inl ⟨by rfl, ?_⟩) (by assumption) ?_
        rotate_left
        · (intro w hSw; (try dsimp only at hSw); (try go_split_ands); go_simp; try (with_reducible rfl))
        try simp only [Act.put, List.setIfInBounds_toArray, List.set_cons_zero, List.set_cons_succ]
        refine wpAnyH_ready (rs := [14]) (by kernel_rfl) (by simp) ?_
        refine AllReadyH.cons (o := _) rfl (fun K hK => ?_) (AllReadyH.nil)
        go_simp
        refine hK.out _ _ ⟨(World.cell?_alloc_lt _ _ _ (cell_lt E0.out)).trans E0.out, (World.cell?_alloc_lt _ _ _ (cell_lt En.out)).trans En.out, (World.cell?_alloc_lt _ _ _ (cell_lt Ea.out)).trans Ea.out, (World.cell?_alloc_lt _ _ _ (cell_lt Ec.out)).trans Ec.out⟩ (fun hHeld => ?_)
        clear hK K
        try simp only [Act.put, List.setIfInBounds_toArray, List.set_cons_zero, List.set_cons_succ]
        refine wpAnyH_done (by kernel_rfl) ?_ _
        have b2 := Blk.new wr 44 #[.string (t.text.extract a c), .int .i64 t.pos, .int .i64 t.from_, .int .i64 t.to_]
        have f0 := b2.cell 0
        have f1 := b2.cell 1
        have f2 := b2.cell 2
        have f3 := b2.cell 3
        simp only [List.getElem?_toArray, List.getElem?_cons_zero, List.getElem?_cons_succ] at f0 f1 f2 f3
        have Hbs : Hid (Below w1.heap.size wr (wr.alloc (.cells #[.string (t.text.extract a c), .int .i64 t.pos, .int .i64 t.from_, .int .i64 t.to_] 44)).drew) := ((Below.refl _ wr).alloc Hbw.out.size _).drew
        have Oo2 : Hid (Own Flat (wr.alloc (.cells #[.string (t.text.extract a c), .int .i64 t.pos, .int .i64 t.from_, .int .i64 t.to_] 44)).drew w1.heap.size 44 (.slice Aq L cq) out) := (Oo.out.alloc _).drew
        clear b2 e0 e1 e2 e3 en ea ec
        go_wp2_with (at_builtin
                     go_must (refine wpList_pushF rfl (.tmp 41) (.tmp 43) _ rfl w1.heap.size 44 i0 _ 40 Tryd.underlying34 hi0 hz0 hz1 hz2 rfl (.slice Aq L cq) out rfl (Oo2.out.alloc _) (wr.heap.size + 1) #[.string (t.text.extract a c), .int .i64 t.pos, .int .i64 t.from_, .int .i64 t.to_] { t with text := t.text.extract a c } rfl (by have hh := Blk.new (wr.alloc (.cells #[.string (t.text.extract a c), .int .i64 t.pos, .int .i64 t.from_, .int .i64 t.to_] 44)).drew 44 #[.string (t.text.extract a c), .int .i64 t.pos, .int .i64 t.from_, .int .i64 t.to_]; simp only [World.drew_heap, World.size_alloc] at hh; exact hh) (Token.rep_of Hok.out) (by rw [HL.out]; omega) (by rw [HL.out]; omega) (by have := Hbs.out.size; have := Hbw.out.size; simp at *; omega) ?_)
                     rw [HL.out]
                     intro A3 c3 w3 ho3 hg3 hb3
                     have Ho3 := Lib.hid ho3
                     have Hb3 := Lib.hid hb3
                     clear ho3 hg3 hb3)
        go_roundw
        case rel => exact ⟨j + 1, by omega, by go_num, by rw [gramsTo, Hout.out, Hpc.out]; exact Ho3.out, Hbw.out.trans ((Hbs.out.alloc (by have := Hbw.out.size; have := Hbs.out.size; omega) _).trans Hb3.out)⟩
        case measure => simp [intOf]; omega
      · have hjq : Hid (out = gramsTo t p n (np - n)) := by
          show _ = _
          rw [← Hout.out, show j = np - n by omega]
        have hjt' : ¬ (j : Int) + (n : Int) < (np : Int) := by omega
        clear hjt hbw
        go_wp2
        go_ret
        refine ⟨_, rfl, ?_, Hb1.out.trans (Hbw.out.mono Hb1.out.size)⟩
        rw [Hfin.out, ← hjq.out]
        exact Oo.out.mono Hb1.out.size
end Go.Proofs.YtajgoffeahfmfaaDoor

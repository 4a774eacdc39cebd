/- The texts End of IterateWords, joined by program (tools/merge.py): walks of the functions that the law reaches, and plain facts; no condition. -/
import Derived.Test.YtajgoffeahfmfaaDoorPart13
import Derived.Test.YtajgoffeahfmfaaDoorPart07
import Derived.Test.YtajgoffeahfmfaaDoorPart05
import Derived.Deep.RegionHeld3
import Derived.Deep.DrawnRows
import Derived.Deep.DeepMust
import Derived.IntWalk
set_option linter.unusedVariables false
set_option linter.unusedSimpArgs false

/- The walk of the closure that ends a run (analysis.runs$1). -/
namespace Go.Proofs.YtajgoffeahfmfaaDoor
open Rep (rep)
open Go.RowKit
attribute [local go_sem ↓] Go.wp_at_zero Go.wp_at_succ

theorem token_info : (Tryd.prog.info? 44).map (fun i => (i.zero, i.size, i.bytes)) = some (some (.agg #[.string { data := #[] }, .int .i64 0, .int .i64 0, .int .i64 0]), 4, 40) := by kernel_rfl

theorem end_facts {α : Type} [Rep α] {D : Nat → Prop} {W w3 : World} {base Bf Bo : Nat} {e t1 t2 : TypeId} {v u1 u2 : Value} {xs : List α} (o : Obj) (h : Own D W base e v xs) {Bt : Nat} {t3 : TypeId} {u3 : Value} (h1 : Boxed W Bf t1 u1) (h2 : Boxed W Bo t2 u2) (h3 : Boxed W Bt t3 u3) (d1 : t1 ≠ e) (d2 : t2 ≠ e) (d3 : t3 ≠ e)
    (hg : (W.alloc o).drew.grownBy w3 v.ownBlock) (hb : Below base (W.alloc o).drew w3) : Boxed w3 Bo t2 u2 ∧ Boxed w3 Bf t1 u1 ∧ Boxed w3 Bt t3 u3 ∧ (W.alloc o).grownBy w3 v.ownBlock ∧ Below base (W.alloc o) w3 := by
  have hg' : (W.alloc o).grownBy w3 v.ownBlock := ⟨hg.os, hg.tape, hg.output, hg.size, hg.block⟩
  have go : ∀ {B : Nat} {t : TypeId} {u : Value}, Boxed W B t u → t ≠ e → Boxed w3 B t u := fun hb hd => (hb.alloc o).kept hg' (by
    rcases own_ne_box (h.alloc o) (hb.alloc o) hd with h | h
    · rw [h]; simp
    · exact fun e => h e.symm)
  exact ⟨go h2 d2, go h1 d1, go h3 d3, hg', hb.os, hb.tape, hb.output, hb.size, hb.block⟩

set_option maxRecDepth 100000 in
set_option maxHeartbeats 2000000 in
theorem end_none (x : Int) (Bf Bo Bt : Nat) (W : World) (hf : Boxed W Bf 3 (.int .i64 (-1))) :
    Calls Tryd.prog 56 #[.int .i64 x, .pointer (some ⟨Bf, 0, none⟩), .pointer (some ⟨Bo, 0, none⟩), .pointer (some ⟨Bt, 0, none⟩)] W fun e W' => e = .returned (.tuple #[]) ∧ W' = W.setCell ⟨Bf, 0, none⟩ (.int .i64 (-1)) := by
  have cf := hf.cell
  have ff := hf.frozen
  clear hf
  go_enter Tryd.func56, Tryd.ntmps56
  go_wp2
  go_end0
  exact ⟨rfl, rfl⟩

set_option maxRecDepth 100000 in
set_option maxHeartbeats 2000000 in
theorem end_some (s : ByteArray) (x f : Nat) (hfx : f ≤ x) (hx : x ≤ s.size) (hs : s.size ≤ 9223372036854775807) (toks : List Token) (base Bf Bo Bt : Nat) (v : Value) (W : World) (hbase : base ≤ W.heap.size) (hbf : base ≤ Bf) (hbo : base ≤ Bo) (hne : Bf ≠ Bo)
    (hf : Boxed W Bf 3 (.int .i64 (f : Int))) (ho : Boxed W Bo 34 v) (ht : Boxed W Bt 9 (.string s)) (hown : Own Flat W base 44 v toks) (hlen : toks.length ≤ 1000000000000) :
    Calls Tryd.prog 56 #[.int .i64 x, .pointer (some ⟨Bf, 0, none⟩), .pointer (some ⟨Bo, 0, none⟩), .pointer (some ⟨Bt, 0, none⟩)] W fun e W' => e = .returned (.tuple #[]) ∧ ∃ v', Boxed W' Bf 3 (.int .i64 (-1)) ∧ Boxed W' Bo 34 v' ∧ Own Flat W' base 44 v' (toks ++ [⟨s.extract f x, toks.length, f, x⟩]) ∧ Below base W W' ∧ KeepsBut [Bf, Bo] 44 W W' := by
  obtain ⟨i0, hi0, hz0, hz1, hz2⟩ := info_parts token_info
  obtain ⟨A, c, rfl⟩ := hown.form
  obtain ⟨L, hL⟩ : ∃ L, toks.length = L := ⟨_, rfl⟩
  rw [hL] at hlen ho hown
  have HL := Lib.hid hL
  rw [hL]
  clear hL
  have cf := hf.cell
  have ff := hf.frozen
  have co := ho.cell
  have fo := ho.frozen
  have ct := ht.cell
  have hf0 : ¬ (f : Int) < 0 := by omega
  have g0 : (0 : Int) ≤ (f : Int) := by omega
  have g1 : (f : Int) ≤ (x : Int) := by omega
  have g2 : (x : Int) ≤ (s.size : Int) := by omega
  have g3 : (0 : Int) ≤ (x : Int) := by omega
  have Hf := Lib.hid hf
  have Ho := Lib.hid ho
  have Ht := Lib.hid ht
  have htn : Bt ≠ Bo := by
    rintro rfl
    rw [ct] at co
    cases co
  have Hown := Lib.hid hown
  clear hf ho ht hown
  have Htok : Hid (Token.ok ⟨s.extract f x, L, f, x⟩) := by
    refine ⟨?_, ?_, ?_, ?_⟩
    · simp only [ByteArray.size_extract]; omega
    all_goals (unfold In64; simp only; omega)
  go_enter Tryd.func56, Tryd.ntmps56
  go_wp2
  refine wp_region_held_drew (S := (fun w' => w'.cell? ⟨Bf, 0, none⟩ = some (.int .i64 (f : Int)) ∧ w'.cell? ⟨Bt, 0, none⟩ = some (.string s))) (by kernel_rfl) ⟨cf, ct⟩ (fun hHeld => ?_)
  refine wpAnyH_take (i := 1) (oi := ?_) (v := ?_) (by simp only [List.getElem?_toArray, List.getElem?_cons_succ, List.getElem?_cons_zero]; rfl) (by kernel_rfl) (by kernel_rfl) (by kernel_rfl) (by exact fun _ _ _ h => h) (Or.inl ⟨by rfl, ?_⟩) (by assumption) ?_
  rotate_left
  · (intro w hSw; (try dsimp only at hSw); (try go_split_ands); go_simp; try (with_reducible rfl))
  try simp only [Act.put, List.setIfInBounds_toArray, List.set_cons_zero, List.set_cons_succ]
  refine wpAnyH_take (i := 2) (oi := ?_) (v := ?_) (by simp only [List.getElem?_toArray, List.getElem?_cons_succ, List.getElem?_cons_zero]; rfl) (by kernel_rfl) (by kernel_rfl) (by kernel_rfl) (by exact fun _ _ _ h => h) (Or.inl ⟨by rfl, ?_⟩) (by assumption) ?_
  rotate_left
  · (intro w hSw; (try dsimp only at hSw); (try go_split_ands); go_simp; try (with_reducible rfl))
  try simp only [Act.put, List.setIfInBounds_toArray, List.set_cons_zero, List.set_cons_succ]
  refine wpAnyH_take (i := 3) (oi := ?_) (v := ?_) (by simp only [List.getElem?_toArray, List.getElem?_cons_succ, List.getElem?_cons_zero]; rfl) (by kernel_rfl) (by kernel_rfl) (by kernel_rfl) (by exact fun _ _ _ h => h) (Or.inl ⟨by rfl, ?_⟩) (by assumption) ?_
  rotate_left
  · (intro w hSw; (try dsimp only at hSw); (try go_split_ands); go_simp; try (with_reducible rfl))
  try simp only [Act.put, List.setIfInBounds_toArray, List.set_cons_zero, List.set_cons_succ]
  refine wpAnyH_take (i := 4) (oi := ?_) (v := ?_) (by simp only [List.getElem?_toArray, List.getElem?_cons_succ, List.getElem?_cons_zero]; rfl) (by kernel_rfl) (by kernel_rfl) (by kernel_rfl) (by exact fun _ _ _ h => h) (Or.inl ⟨by rfl, ?_⟩) (by assumption) ?_
  rotate_left
  · (intro w hSw; (try dsimp only at hSw); (try go_split_ands); go_simp; try (with_reducible rfl))
  try simp only [Act.put, List.setIfInBounds_toArray, List.set_cons_zero, List.set_cons_succ]
  refine wpAnyH_take (i := 7) (oi := ?_) (v := ?_) (by simp only [List.getElem?_toArray, List.getElem?_cons_succ, List.getElem?_cons_zero]; rfl) (by kernel_rfl) (by kernel_rfl) (by kernel_rfl) (by exact fun _ _ _ h => h) (Or.inl ⟨by rfl, ?_⟩) (by assumption) ?_
  rotate_left
  · (intro w hSw; (try dsimp only at hSw); (try go_split_ands); go_simp; try (with_reducible rfl))
  try simp only [Act.put, List.setIfInBounds_toArray, List.set_cons_zero, List.set_cons_succ]
  refine wpAnyH_take (i := 8) (oi := ?_) (v := ?_) (by simp only [List.getElem?_toArray, List.getElem?_cons_succ, List.getElem?_cons_zero]; rfl) (by kernel_rfl) (by kernel_rfl) (by kernel_rfl) (by exact fun _ _ _ h => h) (Or.inl ⟨by rfl, ?_⟩) (by assumption) ?_
  rotate_left
  · (intro w hSw; (try dsimp only at hSw); (try go_split_ands); go_simp; try (with_reducible rfl))
  try simp only [Act.put, List.setIfInBounds_toArray, List.set_cons_zero, List.set_cons_succ]
  refine wpAnyH_ready (rs := [0, 5]) (by kernel_rfl) (by simp) ?_
  refine AllReadyH.cons (o := _) rfl (fun K hK => ?_) (AllReadyH.cons (o := _) rfl (fun K hK => ?_) (AllReadyH.nil))
  · go_simp
    refine hK.out _ _ ⟨cf, ct⟩ (fun hHeld => ?_)
    clear hK K
    try simp only [Act.put, List.setIfInBounds_toArray, List.set_cons_zero, List.set_cons_succ]
    refine wpAnyH_ready (rs := [5]) (by kernel_rfl) (by simp) ?_
    refine AllReadyH.cons (o := _) rfl (fun K hK => ?_) (AllReadyH.nil)
    go_simp
    refine hK.out _ _ ⟨cf, ct⟩ (fun hHeld => ?_)
    clear hK K
    try simp only [Act.put, List.setIfInBounds_toArray, List.set_cons_zero, List.set_cons_succ]
    refine wpAnyH_take (i := 6) (oi := ?_) (v := ?_) (by simp only [List.getElem?_toArray, List.getElem?_cons_succ, List.getElem?_cons_zero]; rfl) (by kernel_rfl) (by kernel_rfl) (by kernel_rfl) (by exact fun _ _ _ h => h) (Or.inl ⟨by rfl, ?_⟩) (by assumption) ?_
    rotate_left
    · (intro w hSw; (try dsimp only at hSw); (try go_split_ands); go_simp; try (with_reducible rfl))
    try simp only [Act.put, List.setIfInBounds_toArray, List.set_cons_zero, List.set_cons_succ]
    refine wpAnyH_take (i := 9) (oi := ?_) (v := ?_) (by simp only [List.getElem?_toArray, List.getElem?_cons_succ, List.getElem?_cons_zero]; rfl) (by kernel_rfl) (by kernel_rfl) (by kernel_rfl) (by exact fun _ _ _ h => h) (Or.inl ⟨by rfl, ?_⟩) (by assumption) ?_
    rotate_left
    · (intro w hSw; (try dsimp only at hSw); (try go_split_ands); go_simp; try (with_reducible rfl))
    try simp only [Act.put, List.setIfInBounds_toArray, List.set_cons_zero, List.set_cons_succ]
    refine wpAnyH_ready (rs := [10]) (by kernel_rfl) (by simp) ?_
    refine AllReadyH.cons (o := _) rfl (fun K hK => ?_) (AllReadyH.nil)
    go_simp
    refine hK.out _ _ ⟨(World.cell?_alloc_lt _ _ _ (cell_lt cf)).trans cf, (World.cell?_alloc_lt _ _ _ (cell_lt ct)).trans ct⟩ (fun hHeld => ?_)
    clear hK K
    try simp only [Act.put, List.setIfInBounds_toArray, List.set_cons_zero, List.set_cons_succ]
    refine wpAnyH_ready (rs := [11]) (by kernel_rfl) (by simp) ?_
    refine AllReadyH.cons (o := _) rfl (fun K hK => ?_) (AllReadyH.nil)
    refine step_pushF rfl (.tmp 7) (.tmp 17) _ rfl base 44 i0 _ 40 Tryd.underlying34 hi0 hz0 hz1 hz2 rfl (.slice A L c) toks rfl (by first | exact Hown.out.alloc _ | exact (Hown.out.alloc _).drew) W.heap.size #[.string (s.extract f x), .int .i64 (L : Int), .int .i64 (f : Int), .int .i64 (x : Int)] ⟨s.extract f x, L, f, x⟩ rfl (by first | exact Blk.new _ _ _ | exact (Blk.new _ _ _).drew) (Token.rep_of Htok.out) (by rw [HL.out]; omega) (by rw [HL.out]; omega) (by simp; omega) ?_
    rw [HL.out]
    intro A3 c3 w3 ho3 hg3 hb3
    obtain ⟨bo3, bf3, bt3, hg4, hb4⟩ := end_facts _ Hown.out Hf.out Ho.out Ht.out (by decide) (by decide) (by decide) hg3 hb3
    have co3 := bo3.cell
    have fo3 := bo3.frozen
    have cf3 := bf3.cell
    have ct3 := bt3.cell
    have Bo3 := Lib.hid bo3
    have Bf3 := Lib.hid bf3
    have Ho3 := Lib.hid ho3
    have Hg3 := Lib.hid hg4
    have Hb3 := Lib.hid hb4
    clear bo3 bf3 bt3 ho3 hg3 hb3 hg4 hb4
    refine hK.out _ _ ⟨cf3, ct3⟩ (fun hHeld => ?_)
    clear hK K
    try simp only [Act.put, List.setIfInBounds_toArray, List.set_cons_zero, List.set_cons_succ]
    refine wpAnyH_ready (rs := [12]) (by kernel_rfl) (by simp) ?_
    refine AllReadyH.cons (o := _) rfl (fun K hK => ?_) (AllReadyH.nil)
    go_simp
    refine hK.out _ _ ⟨(Boxed.other Bf3.out hne _).cell, (World.cell?_setCell_other _ _ _ _ (by intro e; cases e; exact htn rfl)).trans ct3⟩ (fun hHeld => ?_)
    clear hK K
    try simp only [Act.put, List.setIfInBounds_toArray, List.set_cons_zero, List.set_cons_succ]
    refine wpAnyH_done (by kernel_rfl) ?_ _
    have bo4 := Bo3.out.set (.slice A3 (L + 1) c3)
    have bf4 := Boxed.other Bf3.out hne (.slice A3 (L + 1) c3)
    have ho4 := own_flat Ho3.out (grownBy_setC w3 ⟨Bo, 0, none⟩ (.slice A3 (L + 1) c3)) (own_ne_box Ho3.out Bo3.out (by decide))
    have cf4 := bf4.cell
    have ff4 := bf4.frozen
    have Bo4 := Lib.hid bo4
    have Bf4 := Lib.hid bf4
    have Ho4 := Lib.hid ho4
    clear bo4 bf4 ho4 cf ff co fo ct
    go_wp2
    go_end0
    refine ⟨rfl, _, Bf4.out.set _, Boxed.other Bo4.out (Ne.symm hne) _, own_flat Ho4.out (grownBy_setC _ _ _) (own_ne_box Ho4.out Bf4.out (by decide)), ?_, ?_⟩
    · exact ((((Below.refl base W).alloc hbase _).trans Hb3.out).setCell (p := ⟨Bo, 0, none⟩) hbo _).setCell (p := ⟨Bf, 0, none⟩) hbf _
    · exact (((KeepsBut.on _ _ ((Below.refl _ W).alloc (Nat.le_refl _) _)).trans (KeepsBut.grown Hg3.out (own_row_kind (Hown.out.alloc _)))).trans (KeepsBut.set ⟨Bo, 0, none⟩ (by simp) _ _)).trans (KeepsBut.set ⟨Bf, 0, none⟩ (by simp) _ _)
  · go_simp
    refine hK.out _ _ ⟨cf, ct⟩ (fun hHeld => ?_)
    clear hK K
    try simp only [Act.put, List.setIfInBounds_toArray, List.set_cons_zero, List.set_cons_succ]
    refine wpAnyH_take (i := 6) (oi := ?_) (v := ?_) (by simp only [List.getElem?_toArray, List.getElem?_cons_succ, List.getElem?_cons_zero]; rfl) (by kernel_rfl) (by kernel_rfl) (by kernel_rfl) (by exact fun _ _ _ h => h) (Or.inl ⟨by rfl, ?_⟩) (by assumption) ?_
    rotate_left
    · (intro w hSw; (try dsimp only at hSw); (try go_split_ands); go_simp; try (with_reducible rfl))
    try simp only [Act.put, List.setIfInBounds_toArray, List.set_cons_zero, List.set_cons_succ]
    refine wpAnyH_take (i := 9) (oi := ?_) (v := ?_) (by simp only [List.getElem?_toArray, List.getElem?_cons_succ, List.getElem?_cons_zero]; rfl) (by kernel_rfl) (by kernel_rfl) (by kernel_rfl) (by exact fun _ _ _ h => h) (Or.inl ⟨by rfl, ?_⟩) (by assumption) ?_
    rotate_left
    · (intro w hSw; (try dsimp only at hSw); (try go_split_ands); go_simp; try (with_reducible rfl))
    try simp only [Act.put, List.setIfInBounds_toArray, List.set_cons_zero, List.set_cons_succ]
    refine wpAnyH_ready (rs := [0, 10]) (by kernel_rfl) (by simp) ?_
    refine AllReadyH.cons (o := _) rfl (fun K hK => ?_) (AllReadyH.cons (o := _) rfl (fun K hK => ?_) (AllReadyH.nil))
    · go_simp
      refine hK.out _ _ ⟨cf, ct⟩ (fun hHeld => ?_)
      clear hK K
      try simp only [Act.put, List.setIfInBounds_toArray, List.set_cons_zero, List.set_cons_succ]
      refine wpAnyH_ready (rs := [10]) (by kernel_rfl) (by simp) ?_
      refine AllReadyH.cons (o := _) rfl (fun K hK => ?_) (AllReadyH.nil)
      go_simp
      refine hK.out _ _ ⟨(World.cell?_alloc_lt _ _ _ (cell_lt cf)).trans cf, (World.cell?_alloc_lt _ _ _ (cell_lt ct)).trans ct⟩ (fun hHeld => ?_)
      clear hK K
      try simp only [Act.put, List.setIfInBounds_toArray, List.set_cons_zero, List.set_cons_succ]
      refine wpAnyH_ready (rs := [11]) (by kernel_rfl) (by simp) ?_
      refine AllReadyH.cons (o := _) rfl (fun K hK => ?_) (AllReadyH.nil)
      refine step_pushF rfl (.tmp 7) (.tmp 17) _ rfl base 44 i0 _ 40 Tryd.underlying34 hi0 hz0 hz1 hz2 rfl (.slice A L c) toks rfl (by first | exact Hown.out.alloc _ | exact (Hown.out.alloc _).drew) W.heap.size #[.string (s.extract f x), .int .i64 (L : Int), .int .i64 (f : Int), .int .i64 (x : Int)] ⟨s.extract f x, L, f, x⟩ rfl (by first | exact Blk.new _ _ _ | exact (Blk.new _ _ _).drew) (Token.rep_of Htok.out) (by rw [HL.out]; omega) (by rw [HL.out]; omega) (by simp; omega) ?_
      rw [HL.out]
      intro A3 c3 w3 ho3 hg3 hb3
      obtain ⟨bo3, bf3, bt3, hg4, hb4⟩ := end_facts _ Hown.out Hf.out Ho.out Ht.out (by decide) (by decide) (by decide) hg3 hb3
      have co3 := bo3.cell
      have fo3 := bo3.frozen
      have cf3 := bf3.cell
      have ct3 := bt3.cell
      have Bo3 := Lib.hid bo3
      have Bf3 := Lib.hid bf3
      have Ho3 := Lib.hid ho3
      have Hg3 := Lib.hid hg4
      have Hb3 := Lib.hid hb4
      clear bo3 bf3 bt3 ho3 hg3 hb3 hg4 hb4
      refine hK.out _ _ ⟨cf3, ct3⟩ (fun hHeld => ?_)
      clear hK K
      try simp only [Act.put, List.setIfInBounds_toArray, List.set_cons_zero, List.set_cons_succ]
      refine wpAnyH_ready (rs := [12]) (by kernel_rfl) (by simp) ?_
      refine AllReadyH.cons (o := _) rfl (fun K hK => ?_) (AllReadyH.nil)
      go_simp
      refine hK.out _ _ ⟨(Boxed.other Bf3.out hne _).cell, (World.cell?_setCell_other _ _ _ _ (by intro e; cases e; exact htn rfl)).trans ct3⟩ (fun hHeld => ?_)
      clear hK K
      try simp only [Act.put, List.setIfInBounds_toArray, List.set_cons_zero, List.set_cons_succ]
      refine wpAnyH_done (by kernel_rfl) ?_ _
      have bo4 := Bo3.out.set (.slice A3 (L + 1) c3)
      have bf4 := Boxed.other Bf3.out hne (.slice A3 (L + 1) c3)
      have ho4 := own_flat Ho3.out (grownBy_setC w3 ⟨Bo, 0, none⟩ (.slice A3 (L + 1) c3)) (own_ne_box Ho3.out Bo3.out (by decide))
      have cf4 := bf4.cell
      have ff4 := bf4.frozen
      have Bo4 := Lib.hid bo4
      have Bf4 := Lib.hid bf4
      have Ho4 := Lib.hid ho4
      clear bo4 bf4 ho4 cf ff co fo ct
      go_wp2
      go_end0
      refine ⟨rfl, _, Bf4.out.set _, Boxed.other Bo4.out (Ne.symm hne) _, own_flat Ho4.out (grownBy_setC _ _ _) (own_ne_box Ho4.out Bf4.out (by decide)), ?_, ?_⟩
      · exact ((((Below.refl base W).alloc hbase _).trans Hb3.out).setCell (p := ⟨Bo, 0, none⟩) hbo _).setCell (p := ⟨Bf, 0, none⟩) hbf _
      · exact (((KeepsBut.on _ _ ((Below.refl _ W).alloc (Nat.le_refl _) _)).trans (KeepsBut.grown Hg3.out (own_row_kind (Hown.out.alloc _)))).trans (KeepsBut.set ⟨Bo, 0, none⟩ (by simp) _ _)).trans (KeepsBut.set ⟨Bf, 0, none⟩ (by simp) _ _)
    · go_simp
      refine hK.out _ _ ⟨(World.cell?_alloc_lt _ _ _ (cell_lt cf)).trans cf, (World.cell?_alloc_lt _ _ _ (cell_lt ct)).trans ct⟩ (fun hHeld => ?_)
      clear hK K
      try simp only [Act.put, List.setIfInBounds_toArray, List.set_cons_zero, List.set_cons_succ]
      refine wpAnyH_ready (rs := [0]) (by kernel_rfl) (by simp) ?_
      refine AllReadyH.cons (o := _) rfl (fun K hK => ?_) (AllReadyH.nil)
      have coA := (World.cell?_alloc_lt W (.cells #[.string (s.extract f x), .int .i64 (L : Int), .int .i64 (f : Int), .int .i64 (x : Int)] 44) _ (cell_lt co)).trans co
      go_simp
      refine hK.out _ _ ⟨(World.cell?_alloc_lt _ _ _ (cell_lt cf)).trans cf, (World.cell?_alloc_lt _ _ _ (cell_lt ct)).trans ct⟩ (fun hHeld => ?_)
      clear hK K
      try simp only [Act.put, List.setIfInBounds_toArray, List.set_cons_zero, List.set_cons_succ]
      refine wpAnyH_ready (rs := [11]) (by kernel_rfl) (by simp) ?_
      refine AllReadyH.cons (o := _) rfl (fun K hK => ?_) (AllReadyH.nil)
      refine step_pushF rfl (.tmp 7) (.tmp 17) _ rfl base 44 i0 _ 40 Tryd.underlying34 hi0 hz0 hz1 hz2 rfl (.slice A L c) toks rfl (by first | exact Hown.out.alloc _ | exact (Hown.out.alloc _).drew) W.heap.size #[.string (s.extract f x), .int .i64 (L : Int), .int .i64 (f : Int), .int .i64 (x : Int)] ⟨s.extract f x, L, f, x⟩ rfl (by first | exact Blk.new _ _ _ | exact (Blk.new _ _ _).drew) (Token.rep_of Htok.out) (by rw [HL.out]; omega) (by rw [HL.out]; omega) (by simp; omega) ?_
      rw [HL.out]
      intro A3 c3 w3 ho3 hg3 hb3
      obtain ⟨bo3, bf3, bt3, hg4, hb4⟩ := end_facts _ Hown.out Hf.out Ho.out Ht.out (by decide) (by decide) (by decide) hg3 hb3
      have co3 := bo3.cell
      have fo3 := bo3.frozen
      have cf3 := bf3.cell
      have ct3 := bt3.cell
      have Bo3 := Lib.hid bo3
      have Bf3 := Lib.hid bf3
      have Ho3 := Lib.hid ho3
      have Hg3 := Lib.hid hg4
      have Hb3 := Lib.hid hb4
      clear bo3 bf3 bt3 ho3 hg3 hb3 hg4 hb4
      refine hK.out _ _ ⟨cf3, ct3⟩ (fun hHeld => ?_)
      clear hK K
      try simp only [Act.put, List.setIfInBounds_toArray, List.set_cons_zero, List.set_cons_succ]
      refine wpAnyH_ready (rs := [12]) (by kernel_rfl) (by simp) ?_
      refine AllReadyH.cons (o := _) rfl (fun K hK => ?_) (AllReadyH.nil)
      go_simp
      refine hK.out _ _ ⟨(Boxed.other Bf3.out hne _).cell, (World.cell?_setCell_other _ _ _ _ (by intro e; cases e; exact htn rfl)).trans ct3⟩ (fun hHeld => ?_)
      clear hK K
      try simp only [Act.put, List.setIfInBounds_toArray, List.set_cons_zero, List.set_cons_succ]
      refine wpAnyH_done (by kernel_rfl) ?_ _
      have bo4 := Bo3.out.set (.slice A3 (L + 1) c3)
      have bf4 := Boxed.other Bf3.out hne (.slice A3 (L + 1) c3)
      have ho4 := own_flat Ho3.out (grownBy_setC w3 ⟨Bo, 0, none⟩ (.slice A3 (L + 1) c3)) (own_ne_box Ho3.out Bo3.out (by decide))
      have cf4 := bf4.cell
      have ff4 := bf4.frozen
      have Bo4 := Lib.hid bo4
      have Bf4 := Lib.hid bf4
      have Ho4 := Lib.hid ho4
      clear bo4 bf4 ho4 cf ff co fo ct
      go_wp2
      go_end0
      refine ⟨rfl, _, Bf4.out.set _, Boxed.other Bo4.out (Ne.symm hne) _, own_flat Ho4.out (grownBy_setC _ _ _) (own_ne_box Ho4.out Bf4.out (by decide)), ?_, ?_⟩
      · exact ((((Below.refl base W).alloc hbase _).trans Hb3.out).setCell (p := ⟨Bo, 0, none⟩) hbo _).setCell (p := ⟨Bf, 0, none⟩) hbf _
      · exact (((KeepsBut.on _ _ ((Below.refl _ W).alloc (Nat.le_refl _) _)).trans (KeepsBut.grown Hg3.out (own_row_kind (Hown.out.alloc _)))).trans (KeepsBut.set ⟨Bo, 0, none⟩ (by simp) _ _)).trans (KeepsBut.set ⟨Bf, 0, none⟩ (by simp) _ _)
end Go.Proofs.YtajgoffeahfmfaaDoor

/- The texts End, Runs, ShE, WfTold of WriterFull, joined by program (tools/merge.py): walks of the functions that the law reaches, and plain facts; no condition. -/
import Derived.Test.YtfmopmjgohopeaaGreatDoorPart11
import Derived.Test.YtfmopmjgohopeaaGreatDoorPart10
import Derived.Deep.RegionHeld3
import Derived.Deep.DrawnRows
import Derived.Deep.DeepMust
import Derived.IntWalk
import Derived.Shelf.AbstractIn
import Derived.Laws.EntriesVeiled
import Derived.BigQuiet
import Derived.Test.YtfmopmjgohopeaaGreatDoorPart08
import Derived.Lib.LaidU8T
set_option linter.unusedVariables false
set_option linter.unusedSimpArgs false

/- The walk of the closure that ends a run (analysis.runs$1). -/
namespace Go.Proofs.YtfmopmjgohopeaaGreatDoor
open Rep (rep)
open Go.RowKit
attribute [local go_sem ↓] Go.wp_at_zero Go.wp_at_succ

theorem token_info : (Tryz.prog.info? 299).map (fun i => (i.zero, i.size, i.bytes)) = some (some (.agg #[.string { data := #[] }, .int .i64 0, .int .i64 0, .int .i64 0]), 4, 40) := by kernel_rfl

theorem end_facts {α : Type} [Rep α] {D : Nat → Prop} {W w3 : World} {base Bf Bo : Nat} {e t1 t2 : TypeId} {v u1 u2 : Value} {xs : List α} (o : Obj) (h : Own D W base e v xs) {Bt : Nat} {t3 : TypeId} {u3 : Value} (h1 : Boxed W Bf t1 u1) (h2 : Boxed W Bo t2 u2) (h3 : Boxed W Bt t3 u3) (d1 : t1 ≠ e) (d2 : t2 ≠ e) (d3 : t3 ≠ e)
    (hg : (W.alloc o).drew.grownBy w3 v.ownBlock) (hb : Below base (W.alloc o).drew w3) : Boxed w3 Bo t2 u2 ∧ Boxed w3 Bf t1 u1 ∧ Boxed w3 Bt t3 u3 ∧ (W.alloc o).grownBy w3 v.ownBlock ∧ Below base (W.alloc o) w3 := by
  have hg' : (W.alloc o).grownBy w3 v.ownBlock := ⟨hg.os, hg.tape, hg.output, hg.size, hg.block⟩
  have go : ∀ {B : Nat} {t : TypeId} {u : Value}, Boxed W B t u → t ≠ e → Boxed w3 B t u := fun hb hd => (hb.alloc o).kept hg' (by
    rcases own_ne_box (h.alloc o) (hb.alloc o) hd with h | h
    · rw [h]; simp
    · exact fun e => h e.symm)
  exact ⟨go h2 d2, go h1 d1, go h3 d3, hg', hb.os, hb.tape, hb.output, hb.size, hb.block⟩

set_option maxRecDepth 100000 in
set_option maxHeartbeats 2000000 in
theorem end_none (x : Int) (Bf Bo Bt : Nat) (W : World) (hf : Boxed W Bf 3 (.int .i64 (-1))) :
    Calls Tryz.prog 323 #[.int .i64 x, .pointer (some ⟨Bf, 0, none⟩), .pointer (some ⟨Bo, 0, none⟩), .pointer (some ⟨Bt, 0, none⟩)] W fun e W' => e = .returned (.tuple #[]) ∧ W' = W.setCell ⟨Bf, 0, none⟩ (.int .i64 (-1)) := by
  have cf := hf.cell
  have ff := hf.frozen
  clear hf
  go_enter Tryz.func323, Tryz.ntmps323
  go_wp2
  go_end0
  exact ⟨rfl, rfl⟩

set_option maxRecDepth 100000 in
set_option maxHeartbeats 2000000 in
theorem end_some (s : ByteArray) (x f : Nat) (hfx : f ≤ x) (hx : x ≤ s.size) (hs : s.size ≤ 9223372036854775807) (toks : List Token) (base Bf Bo Bt : Nat) (v : Value) (W : World) (hbase : base ≤ W.heap.size) (hbf : base ≤ Bf) (hbo : base ≤ Bo) (hne : Bf ≠ Bo)
    (hf : Boxed W Bf 3 (.int .i64 (f : Int))) (ho : Boxed W Bo 286 v) (ht : Boxed W Bt 9 (.string s)) (hown : Own Flat W base 299 v toks) (hlen : toks.length ≤ 1000000000000) :
    Calls Tryz.prog 323 #[.int .i64 x, .pointer (some ⟨Bf, 0, none⟩), .pointer (some ⟨Bo, 0, none⟩), .pointer (some ⟨Bt, 0, none⟩)] W fun e W' => e = .returned (.tuple #[]) ∧ ∃ v', Boxed W' Bf 3 (.int .i64 (-1)) ∧ Boxed W' Bo 286 v' ∧ Own Flat W' base 299 v' (toks ++ [⟨s.extract f x, toks.length, f, x⟩]) ∧ Below base W W' ∧ KeepsBut [Bf, Bo] 299 W W' := by
  obtain ⟨i0, hi0, hz0, hz1, hz2⟩ := info_parts token_info
  obtain ⟨A, c, rfl⟩ := hown.form
  obtain ⟨L, hL⟩ : ∃ L, toks.length = L := ⟨_, rfl⟩
  rw [hL] at hlen ho hown
  have HL := Lib.hid hL
  rw [hL]
  clear hL
  have cf := hf.cell
  have ff := hf.frozen
  have co := ho.cell
  have fo := ho.frozen
  have ct := ht.cell
  have hf0 : ¬ (f : Int) < 0 := by omega
  have g0 : (0 : Int) ≤ (f : Int) := by omega
  have g1 : (f : Int) ≤ (x : Int) := by omega
  have g2 : (x : Int) ≤ (s.size : Int) := by omega
  have g3 : (0 : Int) ≤ (x : Int) := by omega
  have Hf := Lib.hid hf
  have Ho := Lib.hid ho
  have Ht := Lib.hid ht
  have htn : Bt ≠ Bo := by
    rintro rfl
    rw [ct] at co
    cases co
  have Hown := Lib.hid hown
  clear hf ho ht hown
  have Htok : Hid (Token.ok ⟨s.extract f x, L, f, x⟩) := by
    refine ⟨?_, ?_, ?_, ?_⟩
    · simp only [ByteArray.size_extract]; omega
    all_goals (unfold In64; simp only; omega)
  go_enter Tryz.func323, Tryz.ntmps323
  go_wp2
  refine wp_region_held_drew (S := (fun w' => w'.cell? ⟨Bf, 0, none⟩ = some (.int .i64 (f : Int)) ∧ w'.cell? ⟨Bt, 0, none⟩ = some (.string s))) (by kernel_rfl) ⟨cf, ct⟩ (fun hHeld => ?_)
  refine wpAnyH_take (i := 1) (oi := ?_) (v := ?_) (by simp only [List.getElem?_toArray, List.getElem?_cons_succ, List.getElem?_cons_zero]; rfl) (by kernel_rfl) (by kernel_rfl) (by kernel_rfl) (by exact fun _ _ _ h => h) (Or.inl ⟨by rfl, ?_⟩) (by assumption) ?_
  rotate_left
  · (intro w hSw; (try dsimp only at hSw); (try go_split_ands); go_simp; try (with_reducible rfl))
  try simp only [Act.put, List.setIfInBounds_toArray, List.set_cons_zero, List.set_cons_succ]
  refine wpAnyH_take (i := 2) (oi := ?_) (v := ?_) (by simp only [List.getElem?_toArray, List.getElem?_cons_succ, List.getElem?_cons_zero]; rfl) (by kernel_rfl) (by kernel_rfl) (by kernel_rfl) (by exact fun _ _ _ h => h) (Or.inl ⟨by rfl, ?_⟩) (by assumption) ?_
  rotate_left
  · (intro w hSw; (try dsimp only at hSw); (try go_split_ands); go_simp; try (with_reducible rfl))
  try simp only [Act.put, List.setIfInBounds_toArray, List.set_cons_zero, List.set_cons_succ]
  refine wpAnyH_take (i := 3) (oi := ?_) (v := ?_) (by simp only [List.getElem?_toArray, List.getElem?_cons_succ, List.getElem?_cons_zero]; rfl) (by kernel_rfl) (by kernel_rfl) (by kernel_rfl) (by exact fun _ _ _ h => h) (Or.inl ⟨by rfl, ?_⟩) (by assumption) ?_
  rotate_left
  · (intro w hSw; (try dsimp only at hSw); (try go_split_ands); go_simp; try (with_reducible rfl))
  try simp only [Act.put, List.setIfInBounds_toArray, List.set_cons_zero, List.set_cons_succ]
  refine wpAnyH_take (i := 4) (oi := ?_) (v := ?_) (by simp only [List.getElem?_toArray, List.getElem?_cons_succ, List.getElem?_cons_zero]; rfl) (by kernel_rfl) (by kernel_rfl) (by kernel_rfl) (by exact fun _ _ _ h => h) (Or.inl ⟨by rfl, ?_⟩) (by assumption) ?_
  rotate_left
  · (intro w hSw; (try dsimp only at hSw); (try go_split_ands); go_simp; try (with_reducible rfl))
  try simp only [Act.put, List.setIfInBounds_toArray, List.set_cons_zero, List.set_cons_succ]
  refine wpAnyH_take (i := 7) (oi := ?_) (v := ?_) (by simp only [List.getElem?_toArray, List.getElem?_cons_succ, List.getElem?_cons_zero]; rfl) (by kernel_rfl) (by kernel_rfl) (by kernel_rfl) (by exact fun _ _ _ h => h) (Or.inl ⟨by rfl, ?_⟩) (by assumption) ?_
  rotate_left
  · (intro w hSw; (try dsimp only at hSw); (try go_split_ands); go_simp; try (with_reducible rfl))
  try simp only [Act.put, List.setIfInBounds_toArray, List.set_cons_zero, List.set_cons_succ]
  refine wpAnyH_take (i := 8) (oi := ?_) (v := ?_) (by simp only [List.getElem?_toArray, List.getElem?_cons_succ, List.getElem?_cons_zero]; rfl) (by kernel_rfl) (by kernel_rfl) (by kernel_rfl) (by exact fun _ _ _ h => h) (Or.inl ⟨by rfl, ?_⟩) (by assumption) ?_
  rotate_left
  · (intro w hSw; (try dsimp only at hSw); (try go_split_ands); go_simp; try (with_reducible rfl))
  try simp only [Act.put, List.setIfInBounds_toArray, List.set_cons_zero, List.set_cons_succ]
  refine wpAnyH_ready (rs := [0, 5]) (by kernel_rfl) (by simp) ?_
  refine AllReadyH.cons (o := _) rfl (fun K hK => ?_) (AllReadyH.cons (o := _) rfl (fun K hK => ?_) (AllReadyH.nil))
  · go_simp
    refine hK.out _ _ ⟨cf, ct⟩ (fun hHeld => ?_)
    clear hK K
    try simp only [Act.put, List.setIfInBounds_toArray, List.set_cons_zero, List.set_cons_succ]
    refine wpAnyH_ready (rs := [5]) (by kernel_rfl) (by simp) ?_
    refine AllReadyH.cons (o := _) rfl (fun K hK => ?_) (AllReadyH.nil)
    go_simp
    refine hK.out _ _ ⟨cf, ct⟩ (fun hHeld => ?_)
    clear hK K
    try simp only [Act.put, List.setIfInBounds_toArray, List.set_cons_zero, List.set_cons_succ]
    refine wpAnyH_take (i := 6) (oi := ?_) (v := ?_) (by simp only [List.getElem?_toArray, List.getElem?_cons_succ, List.getElem?_cons_zero]; rfl) (by kernel_rfl) (by kernel_rfl) (by kernel_rfl) (by exact fun _ _ _ h => h) (Or.inl ⟨by rfl, ?_⟩) (by assumption) ?_
    rotate_left
    · (intro w hSw; (try dsimp only at hSw); (try go_split_ands); go_simp; try (with_reducible rfl))
    try simp only [Act.put, List.setIfInBounds_toArray, List.set_cons_zero, List.set_cons_succ]
    refine wpAnyH_take (i := 9) (oi := ?_) (v := ?_) (by simp only [List.getElem?_toArray, List.getElem?_cons_succ, List.getElem?_cons_zero]; rfl) (by kernel_rfl) (by kernel_rfl) (by kernel_rfl) (by exact fun _ _ _ h => h) (Or.inl ⟨by rfl, ?_⟩) (by assumption) ?_
    rotate_left
    · (intro w hSw; (try dsimp only at hSw); (try go_split_ands); go_simp; try (with_reducible rfl))
    try simp only [Act.put, List.setIfInBounds_toArray, List.set_cons_zero, List.set_cons_succ]
    refine wpAnyH_ready (rs := [10]) (by kernel_rfl) (by simp) ?_
    refine AllReadyH.cons (o := _) rfl (fun K hK => ?_) (AllReadyH.nil)
    go_simp
    refine hK.out _ _ ⟨(World.cell?_alloc_lt _ _ _ (cell_lt cf)).trans cf, (World.cell?_alloc_lt _ _ _ (cell_lt ct)).trans ct⟩ (fun hHeld => ?_)
    clear hK K
    try simp only [Act.put, List.setIfInBounds_toArray, List.set_cons_zero, List.set_cons_succ]
    refine wpAnyH_ready (rs := [11]) (by kernel_rfl) (by simp) ?_
    refine AllReadyH.cons (o := _) rfl (fun K hK => ?_) (AllReadyH.nil)
    refine step_pushF rfl (.tmp 7) (.tmp 17) _ rfl base 299 i0 _ 40 Tryz.underlying286 hi0 hz0 hz1 hz2 rfl (.slice A L c) toks rfl (by first | exact Hown.out.alloc _ | exact (Hown.out.alloc _).drew) W.heap.size #[.string (s.extract f x), .int .i64 (L : Int), .int .i64 (f : Int), .int .i64 (x : Int)] ⟨s.extract f x, L, f, x⟩ rfl (by first | exact Blk.new _ _ _ | exact (Blk.new _ _ _).drew) (Token.rep_of Htok.out) (by rw [HL.out]; omega) (by rw [HL.out]; omega) (by simp; omega) ?_
    rw [HL.out]
    intro A3 c3 w3 ho3 hg3 hb3
    obtain ⟨bo3, bf3, bt3, hg4, hb4⟩ := end_facts _ Hown.out Hf.out Ho.out Ht.out (by decide) (by decide) (by decide) hg3 hb3
    have co3 := bo3.cell
    have fo3 := bo3.frozen
    have cf3 := bf3.cell
    have ct3 := bt3.cell
    have Bo3 := Lib.hid bo3
    have Bf3 := Lib.hid bf3
    have Ho3 := Lib.hid ho3
    have Hg3 := Lib.hid hg4
    have Hb3 := Lib.hid hb4
    clear bo3 bf3 bt3 ho3 hg3 hb3 hg4 hb4
    refine hK.out _ _ ⟨cf3, ct3⟩ (fun hHeld => ?_)
    clear hK K
    try simp only [Act.put, List.setIfInBounds_toArray, List.set_cons_zero, List.set_cons_succ]
    refine wpAnyH_ready (rs := [12]) (by kernel_rfl) (by simp) ?_
    refine AllReadyH.cons (o := _) rfl (fun K hK => ?_) (AllReadyH.nil)
    go_simp
    refine hK.out _ _ ⟨(Boxed.other Bf3.out hne _).cell, (World.cell?_setCell_other _ _ _ _ (by intro e; cases e; exact htn rfl)).trans ct3⟩ (fun hHeld => ?_)
    clear hK K
    try simp only [Act.put, List.setIfInBounds_toArray, List.set_cons_zero, List.set_cons_succ]
    refine wpAnyH_done (by kernel_rfl) ?_ _
    have bo4 := Bo3.out.set (.slice A3 (L + 1) c3)
    have bf4 := Boxed.other Bf3.out hne (.slice A3 (L + 1) c3)
    have ho4 := own_flat Ho3.out (grownBy_setC w3 ⟨Bo, 0, none⟩ (.slice A3 (L + 1) c3)) (own_ne_box Ho3.out Bo3.out (by decide))
    have cf4 := bf4.cell
    have ff4 := bf4.frozen
    have Bo4 := Lib.hid bo4
    have Bf4 := Lib.hid bf4
    have Ho4 := Lib.hid ho4
    clear bo4 bf4 ho4 cf ff co fo ct
    go_wp2
    go_end0
    refine ⟨rfl, _, Bf4.out.set _, Boxed.other Bo4.out (Ne.symm hne) _, own_flat Ho4.out (grownBy_setC _ _ _) (own_ne_box Ho4.out Bf4.out (by decide)), ?_, ?_⟩
    · exact ((((Below.refl base W).alloc hbase _).trans Hb3.out).setCell (p := ⟨Bo, 0, none⟩) hbo _).setCell (p := ⟨Bf, 0, none⟩) hbf _
    · exact (((KeepsBut.on _ _ ((Below.refl _ W).alloc (Nat.le_refl _) _)).trans (KeepsBut.grown Hg3.out (own_row_kind (Hown.out.alloc _)))).trans (KeepsBut.set ⟨Bo, 0, none⟩ (by simp) _ _)).trans (KeepsBut.set ⟨Bf, 0, none⟩ (by simp) _ _)
  · go_simp
    refine hK.out _ _ ⟨cf, ct⟩ (fun hHeld => ?_)
    clear hK K
    try simp only [Act.put, List.setIfInBounds_toArray, List.set_cons_zero, List.set_cons_succ]
    refine wpAnyH_take (i := 6) (oi := ?_) (v := ?_) (by simp only [List.getElem?_toArray, List.getElem?_cons_succ, List.getElem?_cons_zero]; rfl) (by kernel_rfl) (by kernel_rfl) (by kernel_rfl) (by exact fun _ _ _ h => h) (Or.inl ⟨by rfl, ?_⟩) (by assumption) ?_
    rotate_left
    · (intro w hSw; (try dsimp only at hSw); (try go_split_ands); go_simp; try (with_reducible rfl))
    try simp only [Act.put, List.setIfInBounds_toArray, List.set_cons_zero, List.set_cons_succ]
    refine wpAnyH_take (i := 9) (oi := ?_) (v := ?_) (by simp only [List.getElem?_toArray, List.getElem?_cons_succ, List.getElem?_cons_zero]; rfl) (by kernel_rfl) (by kernel_rfl) (by kernel_rfl) (by exact fun _ _ _ h => h) (Or.inl ⟨by rfl, ?_⟩) (by assumption) ?_
    rotate_left
    · (intro w hSw; (try dsimp only at hSw); (try go_split_ands); go_simp; try (with_reducible rfl))
    try simp only [Act.put, List.setIfInBounds_toArray, List.set_cons_zero, List.set_cons_succ]
    refine wpAnyH_ready (rs := [0, 10]) (by kernel_rfl) (by simp) ?_
    refine AllReadyH.cons (o := _) rfl (fun K hK => ?_) (AllReadyH.cons (o := _) rfl (fun K hK => ?_) (AllReadyH.nil))
    · go_simp
      refine hK.out _ _ ⟨cf, ct⟩ (fun hHeld => ?_)
      clear hK K
      try simp only [Act.put, List.setIfInBounds_toArray, List.set_cons_zero, List.set_cons_succ]
      refine wpAnyH_ready (rs := [10]) (by kernel_rfl) (by simp) ?_
      refine AllReadyH.cons (o := _) rfl (fun K hK => ?_) (AllReadyH.nil)
      go_simp
      refine hK.out _ _ ⟨(World.cell?_alloc_lt _ _ _ (cell_lt cf)).trans cf, (World.cell?_alloc_lt _ _ _ (cell_lt ct)).trans ct⟩ (fun hHeld => ?_)
      clear hK K
      try simp only [Act.put, List.setIfInBounds_toArray, List.set_cons_zero, List.set_cons_succ]
      refine wpAnyH_ready (rs := [11]) (by kernel_rfl) (by simp) ?_
      refine AllReadyH.cons (o := _) rfl (fun K hK => ?_) (AllReadyH.nil)
      refine step_pushF rfl (.tmp 7) (.tmp 17) _ rfl base 299 i0 _ 40 Tryz.underlying286 hi0 hz0 hz1 hz2 rfl (.slice A L c) toks rfl (by first | exact Hown.out.alloc _ | exact (Hown.out.alloc _).drew) W.heap.size #[.string (s.extract f x), .int .i64 (L : Int), .int .i64 (f : Int), .int .i64 (x : Int)] ⟨s.extract f x, L, f, x⟩ rfl (by first | exact Blk.new _ _ _ | exact (Blk.new _ _ _).drew) (Token.rep_of Htok.out) (by rw [HL.out]; omega) (by rw [HL.out]; omega) (by simp; omega) ?_
      rw [HL.out]
      intro A3 c3 w3 ho3 hg3 hb3
      obtain ⟨bo3, bf3, bt3, hg4, hb4⟩ := end_facts _ Hown.out Hf.out Ho.out Ht.out (by decide) (by decide) (by decide) hg3 hb3
      have co3 := bo3.cell
      have fo3 := bo3.frozen
      have cf3 := bf3.cell
      have ct3 := bt3.cell
      have Bo3 := Lib.hid bo3
      have Bf3 := Lib.hid bf3
      have Ho3 := Lib.hid ho3
      have Hg3 := Lib.hid hg4
      have Hb3 := Lib.hid hb4
      clear bo3 bf3 bt3 ho3 hg3 hb3 hg4 hb4
      refine hK.out _ _ ⟨cf3, ct3⟩ (fun hHeld => ?_)
      clear hK K
      try simp only [Act.put, List.setIfInBounds_toArray, List.set_cons_zero, List.set_cons_succ]
      refine wpAnyH_ready (rs := [12]) (by kernel_rfl) (by simp) ?_
      refine AllReadyH.cons (o := _) rfl (fun K hK => ?_) (AllReadyH.nil)
      go_simp
      refine hK.out _ _ ⟨(Boxed.other Bf3.out hne _).cell, (World.cell?_setCell_other _ _ _ _ (by intro e; cases e; exact htn rfl)).trans ct3⟩ (fun hHeld => ?_)
      clear hK K
      try simp only [Act.put, List.setIfInBounds_toArray, List.set_cons_zero, List.set_cons_succ]
      refine wpAnyH_done (by kernel_rfl) ?_ _
      have bo4 := Bo3.out.set (.slice A3 (L + 1) c3)
      have bf4 := Boxed.other Bf3.out hne (.slice A3 (L + 1) c3)
      have ho4 := own_flat Ho3.out (grownBy_setC w3 ⟨Bo, 0, none⟩ (.slice A3 (L + 1) c3)) (own_ne_box Ho3.out Bo3.out (by decide))
      have cf4 := bf4.cell
      have ff4 := bf4.frozen
      have Bo4 := Lib.hid bo4
      have Bf4 := Lib.hid bf4
      have Ho4 := Lib.hid ho4
      clear bo4 bf4 ho4 cf ff co fo ct
      go_wp2
      go_end0
      refine ⟨rfl, _, Bf4.out.set _, Boxed.other Bo4.out (Ne.symm hne) _, own_flat Ho4.out (grownBy_setC _ _ _) (own_ne_box Ho4.out Bf4.out (by decide)), ?_, ?_⟩
      · exact ((((Below.refl base W).alloc hbase _).trans Hb3.out).setCell (p := ⟨Bo, 0, none⟩) hbo _).setCell (p := ⟨Bf, 0, none⟩) hbf _
      · exact (((KeepsBut.on _ _ ((Below.refl _ W).alloc (Nat.le_refl _) _)).trans (KeepsBut.grown Hg3.out (own_row_kind (Hown.out.alloc _)))).trans (KeepsBut.set ⟨Bo, 0, none⟩ (by simp) _ _)).trans (KeepsBut.set ⟨Bf, 0, none⟩ (by simp) _ _)
    · go_simp
      refine hK.out _ _ ⟨(World.cell?_alloc_lt _ _ _ (cell_lt cf)).trans cf, (World.cell?_alloc_lt _ _ _ (cell_lt ct)).trans ct⟩ (fun hHeld => ?_)
      clear hK K
      try simp only [Act.put, List.setIfInBounds_toArray, List.set_cons_zero, List.set_cons_succ]
      refine wpAnyH_ready (rs := [0]) (by kernel_rfl) (by simp) ?_
      refine AllReadyH.cons (o := _) rfl (fun K hK => ?_) (AllReadyH.nil)
      have coA := (World.cell?_alloc_lt W (.cells #[.string (s.extract f x), .int .i64 (L : Int), .int .i64 (f : Int), .int .i64 (x : Int)] 299) _ (cell_lt co)).trans co
      go_simp
      refine hK.out _ _ ⟨(World.cell?_alloc_lt _ _ _ (cell_lt cf)).trans cf, (World.cell?_alloc_lt _ _ _ (cell_lt ct)).trans ct⟩ (fun hHeld => ?_)
      clear hK K
      try simp only [Act.put, List.setIfInBounds_toArray, List.set_cons_zero, List.set_cons_succ]
      refine wpAnyH_ready (rs := [11]) (by kernel_rfl) (by simp) ?_
      refine AllReadyH.cons (o := _) rfl (fun K hK => ?_) (AllReadyH.nil)
      refine step_pushF rfl (.tmp 7) (.tmp 17) _ rfl base 299 i0 _ 40 Tryz.underlying286 hi0 hz0 hz1 hz2 rfl (.slice A L c) toks rfl (by first | exact Hown.out.alloc _ | exact (Hown.out.alloc _).drew) W.heap.size #[.string (s.extract f x), .int .i64 (L : Int), .int .i64 (f : Int), .int .i64 (x : Int)] ⟨s.extract f x, L, f, x⟩ rfl (by first | exact Blk.new _ _ _ | exact (Blk.new _ _ _).drew) (Token.rep_of Htok.out) (by rw [HL.out]; omega) (by rw [HL.out]; omega) (by simp; omega) ?_
      rw [HL.out]
      intro A3 c3 w3 ho3 hg3 hb3
      obtain ⟨bo3, bf3, bt3, hg4, hb4⟩ := end_facts _ Hown.out Hf.out Ho.out Ht.out (by decide) (by decide) (by decide) hg3 hb3
      have co3 := bo3.cell
      have fo3 := bo3.frozen
      have cf3 := bf3.cell
      have ct3 := bt3.cell
      have Bo3 := Lib.hid bo3
      have Bf3 := Lib.hid bf3
      have Ho3 := Lib.hid ho3
      have Hg3 := Lib.hid hg4
      have Hb3 := Lib.hid hb4
      clear bo3 bf3 bt3 ho3 hg3 hb3 hg4 hb4
      refine hK.out _ _ ⟨cf3, ct3⟩ (fun hHeld => ?_)
      clear hK K
      try simp only [Act.put, List.setIfInBounds_toArray, List.set_cons_zero, List.set_cons_succ]
      refine wpAnyH_ready (rs := [12]) (by kernel_rfl) (by simp) ?_
      refine AllReadyH.cons (o := _) rfl (fun K hK => ?_) (AllReadyH.nil)
      go_simp
      refine hK.out _ _ ⟨(Boxed.other Bf3.out hne _).cell, (World.cell?_setCell_other _ _ _ _ (by intro e; cases e; exact htn rfl)).trans ct3⟩ (fun hHeld => ?_)
      clear hK K
      try simp only [Act.put, List.setIfInBounds_toArray, List.set_cons_zero, List.set_cons_succ]
      refine wpAnyH_done (by kernel_rfl) ?_ _
      have bo4 := Bo3.out.set (.slice A3 (L + 1) c3)
      have bf4 := Boxed.other Bf3.out hne (.slice A3 (L + 1) c3)
      have ho4 := own_flat Ho3.out (grownBy_setC w3 ⟨Bo, 0, none⟩ (.slice A3 (L + 1) c3)) (own_ne_box Ho3.out Bo3.out (by decide))
      have cf4 := bf4.cell
      have ff4 := bf4.frozen
      have Bo4 := Lib.hid bo4
      have Bf4 := Lib.hid bf4
      have Ho4 := Lib.hid ho4
      clear bo4 bf4 ho4 cf ff co fo ct
      go_wp2
      go_end0
      refine ⟨rfl, _, Bf4.out.set _, Boxed.other Bo4.out (Ne.symm hne) _, own_flat Ho4.out (grownBy_setC _ _ _) (own_ne_box Ho4.out Bf4.out (by decide)), ?_, ?_⟩
      · exact ((((Below.refl base W).alloc hbase _).trans Hb3.out).setCell (p := ⟨Bo, 0, none⟩) hbo _).setCell (p := ⟨Bf, 0, none⟩) hbf _
      · exact (((KeepsBut.on _ _ ((Below.refl _ W).alloc (Nat.le_refl _) _)).trans (KeepsBut.grown Hg3.out (own_row_kind (Hown.out.alloc _)))).trans (KeepsBut.set ⟨Bo, 0, none⟩ (by simp) _ _)).trans (KeepsBut.set ⟨Bf, 0, none⟩ (by simp) _ _)
end Go.Proofs.YtfmopmjgohopeaaGreatDoor

/- The walk of analysis.runs, whatever the two tests. -/
namespace Go.Proofs.YtfmopmjgohopeaaGreatDoor
open Rep (rep)
open Go.RowKit Go.Shelf

attribute [local go_sem] Oper.semAt_some

/-- A function value that tells of each rune whether p holds. -/
def Asks (k : FuncId) (lb : Array Value) (p : Int → Bool) (w : World) : Prop :=
  (∀ (args : Array Value) (W : World), (callFunc k args).run Tryz.prog W = .ok (.enter k args) W) ∧
  ∀ (W : World) (r : Int), Below w.heap.size w W → 0 ≤ r → r ≤ 0x10FFFF → Calls Tryz.prog k (#[.int .i32 r] ++ lb) W fun e W' => e = .returned (.bool (p r)) ∧ Below W.heap.size W W'

/-- What holds between two rounds of analysis.runs. -/
def RunI (s : ByteArray) (k1 k2 : FuncId) (lb1 lb2 : Array Value) (p b : Int → Bool) (w : World) (pre : List Nat) (W : World) : Prop :=
  (∃ v, Boxed W (w.heap.size + 1 + 1 + 1) 286 v ∧ Own Flat W w.heap.size 299 v (runSt s p b pre).1) ∧ Boxed W (w.heap.size + 1 + 1 + 1 + 1) 3 (.int .i64 (frI (runSt s p b pre).2)) ∧ Boxed W (w.heap.size) 9 (.string s) ∧ Boxed W (w.heap.size + 1) 413 (.func (.func k1) #[] lb1) ∧ Boxed W (w.heap.size + 1 + 1) 413 (.func (.func k2) #[] lb2) ∧ Boxed W (w.heap.size + 1 + 1 + 1 + 1 + 1) 197 (.func (.func 323) #[] #[.pointer (some ⟨w.heap.size + 1 + 1 + 1 + 1, 0, none⟩), .pointer (some ⟨w.heap.size + 1 + 1 + 1, 0, none⟩), .pointer (some ⟨w.heap.size, 0, none⟩)]) ∧ Below w.heap.size w W ∧ w.heap.size + 7 ≤ W.heap.size
theorem RunI.from_ (s : ByteArray) (k1 k2 : FuncId) (lb1 lb2 : Array Value) (p b : Int → Bool) (w : World) (n0 : Nat) (hn : w.heap.size ≤ n0) : OwnFrom n0 (RunI s k1 k2 lb1 lb2 p b w) :=
  OwnFrom.and (boxedOwn_from _ _ _ _ _ _) (OwnFrom.and (Own.from (boxed_own _ _ _) _) (OwnFrom.and (Own.from (boxed_own _ _ _) _) (OwnFrom.and (Own.from (boxed_own _ _ _) _) (OwnFrom.and (Own.from (boxed_own _ _ _) _) (OwnFrom.and (Own.from (boxed_own _ _ _) _) (OwnFrom.and (ownFrom_below (Nat.le_refl _) hn) (fun _ _ _ _ hs hg _ => Nat.le_trans hs hg.size)))))))
theorem RunI.on {s : ByteArray} {k1 k2 : FuncId} {lb1 lb2 : Array Value} {p b : Int → Bool} {w : World} {pre : List Nat} {W W' : World} (h : RunI s k1 k2 lb1 lb2 p b w pre W) (hb : Below W.heap.size W W') : RunI s k1 k2 lb1 lb2 p b w pre W' :=
  RunI.from_ s k1 k2 lb1 lb2 p b w _ (Nat.le_refl _) pre W W' none h (Below.grownBy' hb) (fun _ e => by cases e)

theorem RunI.parts {s : ByteArray} {k1 k2 : FuncId} {lb1 lb2 : Array Value} {p b : Int → Bool} {w : World} {pre : List Nat} {W : World} {toks : List Token} {fr : Option Nat} (h : RunI s k1 k2 lb1 lb2 p b w pre W) (hst : runSt s p b pre = (toks, fr)) :
    ∃ A c, Boxed W (w.heap.size + 1 + 1 + 1) 286 (.slice A toks.length c) ∧ Own Flat W w.heap.size 299 (.slice A toks.length c) toks ∧ Boxed W (w.heap.size + 1 + 1 + 1 + 1) 3 (.int .i64 (frI fr)) ∧ Boxed W (w.heap.size) 9 (.string s) ∧ Boxed W (w.heap.size + 1) 413 (.func (.func k1) #[] lb1) ∧ Boxed W (w.heap.size + 1 + 1) 413 (.func (.func k2) #[] lb2) ∧ Boxed W (w.heap.size + 1 + 1 + 1 + 1 + 1) 197 (.func (.func 323) #[] #[.pointer (some ⟨w.heap.size + 1 + 1 + 1 + 1, 0, none⟩), .pointer (some ⟨w.heap.size + 1 + 1 + 1, 0, none⟩), .pointer (some ⟨w.heap.size, 0, none⟩)]) ∧ Below w.heap.size w W ∧ w.heap.size + 7 ≤ W.heap.size := by
  obtain ⟨⟨v, h1, h2⟩, h3, h4, h5, h6, h7, h8, h9⟩ := h
  rw [hst] at h2 h3
  obtain ⟨A, c, rfl⟩ := h2.form
  exact ⟨A, c, h1, h2, h3, h4, h5, h6, h7, h8, h9⟩
theorem RunI.finish {s : ByteArray} {k1 k2 : FuncId} {lb1 lb2 : Array Value} {p b : Int → Bool} {w : World} {pre : List Nat} {x : Nat} {W w3 W' : World} {toks : List Token} {fr : Option Nat} (n : Nat) (hI : RunI s k1 k2 lb1 lb2 p b w pre W) (hb3 : Below W.heap.size W w3) (hk : KeepsBut [w.heap.size + 1 + 1 + 1 + 1, w.heap.size + 1 + 1 + 1] 299 w3 W') (hb : Below w.heap.size w3 W')
    (hst : runSt s p b (pre ++ [x]) = (toks, fr)) (ho : ∃ v, Boxed W' (w.heap.size + 1 + 1 + 1) 286 v ∧ Own Flat W' w.heap.size 299 v toks) (hf : Boxed W' (w.heap.size + 1 + 1 + 1 + 1) 3 (.int .i64 (frI fr))) :
    KeepsFrom n W W' ∧ KeepsS w.heap.size (w.heap.size + 1 + 1 + 1 + 1 + 1 + 1) W W' ∧ RunI s k1 k2 lb1 lb2 p b w (pre ++ [x]) W' := by
  have hI3 := hI.on hb3
  have hI4 := hI3
  obtain ⟨⟨v, h1, h2⟩, h3, h4, h5, h6, h7, h8, h9⟩ := hI3
  have hB : Below w.heap.size W W' := (hb3.mono (by have := hI.2.2.2.2.2.2.2; omega)).trans hb
  refine ⟨((Below.grownBy' hb3 |> fun hg => KeepsOthers.of_grownBy hg (fun _ _ e _ => by cases e)).trans (hk.others (fun r hr => ?_))).from _, ⟨hB, fun u hu => hk.box (Boxed.on hu hb3) (by simp; omega) (by decide)⟩, ?_⟩
  · simp only [List.mem_cons, List.not_mem_nil, or_false] at hr
    rcases hr with rfl | rfl
    · exact ⟨_, _, h3⟩
    · exact ⟨_, _, h1⟩
  · rw [RunI, hst]
    exact ⟨ho, hf, hk.box h4 (by first | (simp; done) | (simp; omega)) (by decide), hk.box h5 (by first | (simp; done) | (simp; omega)) (by decide), hk.box h6 (by first | (simp; done) | (simp; omega)) (by decide), hk.box h7 (by first | (simp; done) | (simp; omega)) (by decide), h8.trans hb, Nat.le_trans h9 hk.1⟩

set_option maxRecDepth 100000 in
set_option maxHeartbeats 4000000 in
theorem runs_any (s : ByteArray) (hs : s.size ≤ 1000000000) (k1 k2 : FuncId) (lb1 lb2 : Array Value) (p b : Int → Bool) (w : World) (hT : Tabs w) (h1 : Asks k1 lb1 p w) (h2 : Asks k2 lb2 b w) :
    Calls Tryz.prog 257 #[.string s, .func (.func k1) #[] lb1, .func (.func k2) #[] lb2] w fun e w' => ∃ v, e = .returned v ∧ Own Flat w' w.heap.size 299 v (runsL s p b) ∧ Below w.heap.size w w' := by
  have hal := ats_len s
  have hmf : ∀ (fn : Fn) (first cap : Array Value) (w : World), (Instr.makeFunc fn first cap).run Tryz.prog w = .ok (.func fn first cap) w := fun _ _ _ _ => rfl
  obtain ⟨e1, hp⟩ := h1
  obtain ⟨e2, hb⟩ := h2
  have Hp := Lib.hid hp
  have Hb := Lib.hid hb
  have HT := Lib.hid hT
  clear hp hb hT
  refine (callsIn_wide (n := 6)).1 ?_
  refine callsIn_of_wp_marks Tryz.func257 rfl trivial ?_ rfl
  simp only [Tryz.ntmps257, List.size_toArray, List.length_cons, List.length_nil, Nat.reduceAdd, Nat.reduceSub, Array.replicate_succ, Array.replicate_zero, List.push_toArray, List.append_toArray, List.nil_append, List.cons_append]
  gi_wp2_with (refine ⟨trivial, ?_⟩; gi_at_call 324; refine (callsIn_wide.2 (runes_any s _)).mono ?_; rintro e w2 ⟨rfl, rfl⟩)
  have bT := ((((((Boxed.new (w) 9 (.string s)).alloc (.cells #[.func (.func k1) #[] lb1] 413)).alloc (.cells #[.func (.func k2) #[] lb2] 413)).alloc (.cells #[.slice none 0 0] 286)).alloc (.cells #[.int .i64 (-1)] 3)).alloc (.cells #[.func (.func 323) #[] #[.pointer (some ⟨w.heap.size + 1 + 1 + 1 + 1, 0, none⟩), .pointer (some ⟨w.heap.size + 1 + 1 + 1, 0, none⟩), .pointer (some ⟨w.heap.size, 0, none⟩)]] 197)).alloc (.cells #[.string s] 9)
  have bM := (((((Boxed.new ((w).alloc (.cells #[.string s] 9)) 413 (.func (.func k1) #[] lb1)).alloc (.cells #[.func (.func k2) #[] lb2] 413)).alloc (.cells #[.slice none 0 0] 286)).alloc (.cells #[.int .i64 (-1)] 3)).alloc (.cells #[.func (.func 323) #[] #[.pointer (some ⟨w.heap.size + 1 + 1 + 1 + 1, 0, none⟩), .pointer (some ⟨w.heap.size + 1 + 1 + 1, 0, none⟩), .pointer (some ⟨w.heap.size, 0, none⟩)]] 197)).alloc (.cells #[.string s] 9)
  have bB := ((((Boxed.new (((w).alloc (.cells #[.string s] 9)).alloc (.cells #[.func (.func k1) #[] lb1] 413)) 413 (.func (.func k2) #[] lb2)).alloc (.cells #[.slice none 0 0] 286)).alloc (.cells #[.int .i64 (-1)] 3)).alloc (.cells #[.func (.func 323) #[] #[.pointer (some ⟨w.heap.size + 1 + 1 + 1 + 1, 0, none⟩), .pointer (some ⟨w.heap.size + 1 + 1 + 1, 0, none⟩), .pointer (some ⟨w.heap.size, 0, none⟩)]] 197)).alloc (.cells #[.string s] 9)
  have bO := (((Boxed.new ((((w).alloc (.cells #[.string s] 9)).alloc (.cells #[.func (.func k1) #[] lb1] 413)).alloc (.cells #[.func (.func k2) #[] lb2] 413)) 286 (.slice none 0 0)).alloc (.cells #[.int .i64 (-1)] 3)).alloc (.cells #[.func (.func 323) #[] #[.pointer (some ⟨w.heap.size + 1 + 1 + 1 + 1, 0, none⟩), .pointer (some ⟨w.heap.size + 1 + 1 + 1, 0, none⟩), .pointer (some ⟨w.heap.size, 0, none⟩)]] 197)).alloc (.cells #[.string s] 9)
  have bF := ((Boxed.new (((((w).alloc (.cells #[.string s] 9)).alloc (.cells #[.func (.func k1) #[] lb1] 413)).alloc (.cells #[.func (.func k2) #[] lb2] 413)).alloc (.cells #[.slice none 0 0] 286)) 3 (.int .i64 (-1))).alloc (.cells #[.func (.func 323) #[] #[.pointer (some ⟨w.heap.size + 1 + 1 + 1 + 1, 0, none⟩), .pointer (some ⟨w.heap.size + 1 + 1 + 1, 0, none⟩), .pointer (some ⟨w.heap.size, 0, none⟩)]] 197)).alloc (.cells #[.string s] 9)
  have bE := (Boxed.new ((((((w).alloc (.cells #[.string s] 9)).alloc (.cells #[.func (.func k1) #[] lb1] 413)).alloc (.cells #[.func (.func k2) #[] lb2] 413)).alloc (.cells #[.slice none 0 0] 286)).alloc (.cells #[.int .i64 (-1)] 3)) 197 (.func (.func 323) #[] #[.pointer (some ⟨w.heap.size + 1 + 1 + 1 + 1, 0, none⟩), .pointer (some ⟨w.heap.size + 1 + 1 + 1, 0, none⟩), .pointer (some ⟨w.heap.size, 0, none⟩)])).alloc (.cells #[.string s] 9)
  have bR := Boxed.new (((((((w).alloc (.cells #[.string s] 9)).alloc (.cells #[.func (.func k1) #[] lb1] 413)).alloc (.cells #[.func (.func k2) #[] lb2] 413)).alloc (.cells #[.slice none 0 0] 286)).alloc (.cells #[.int .i64 (-1)] 3)).alloc (.cells #[.func (.func 323) #[] #[.pointer (some ⟨w.heap.size + 1 + 1 + 1 + 1, 0, none⟩), .pointer (some ⟨w.heap.size + 1 + 1 + 1, 0, none⟩), .pointer (some ⟨w.heap.size, 0, none⟩)]] 197)) 9 (.string s)
  simp only [World.size_alloc] at bT bM bB bO bF bE bR
  have hB0 : Below w.heap.size w ((((((((w).alloc (.cells #[.string s] 9)).alloc (.cells #[.func (.func k1) #[] lb1] 413)).alloc (.cells #[.func (.func k2) #[] lb2] 413)).alloc (.cells #[.slice none 0 0] 286)).alloc (.cells #[.int .i64 (-1)] 3)).alloc (.cells #[.func (.func 323) #[] #[.pointer (some ⟨w.heap.size + 1 + 1 + 1 + 1, 0, none⟩), .pointer (some ⟨w.heap.size + 1 + 1 + 1, 0, none⟩), .pointer (some ⟨w.heap.size, 0, none⟩)]] 197)).alloc (.cells #[.string s] 9)) := (((((((Below.refl _ w).alloc (Nat.le_refl _) _).alloc (by simp <;> omega) _).alloc (by simp <;> omega) _).alloc (by simp <;> omega) _).alloc (by simp <;> omega) _).alloc (by simp <;> omega) _).alloc (by simp <;> omega) _
  have hsz : ((((((((w).alloc (.cells #[.string s] 9)).alloc (.cells #[.func (.func k1) #[] lb1] 413)).alloc (.cells #[.func (.func k2) #[] lb2] 413)).alloc (.cells #[.slice none 0 0] 286)).alloc (.cells #[.int .i64 (-1)] 3)).alloc (.cells #[.func (.func 323) #[] #[.pointer (some ⟨w.heap.size + 1 + 1 + 1 + 1, 0, none⟩), .pointer (some ⟨w.heap.size + 1 + 1 + 1, 0, none⟩), .pointer (some ⟨w.heap.size, 0, none⟩)]] 197)).alloc (.cells #[.string s] 9)).heap.size = w.heap.size + 7 := by simp
  obtain ⟨W0, hW0⟩ : ∃ W0, (((((((w).alloc (.cells #[.string s] 9)).alloc (.cells #[.func (.func k1) #[] lb1] 413)).alloc (.cells #[.func (.func k2) #[] lb2] 413)).alloc (.cells #[.slice none 0 0] 286)).alloc (.cells #[.int .i64 (-1)] 3)).alloc (.cells #[.func (.func 323) #[] #[.pointer (some ⟨w.heap.size + 1 + 1 + 1 + 1, 0, none⟩), .pointer (some ⟨w.heap.size + 1 + 1 + 1, 0, none⟩), .pointer (some ⟨w.heap.size, 0, none⟩)]] 197)).alloc (.cells #[.string s] 9) = W0 := ⟨_, rfl⟩
  rw [hW0] at bT bM bB bO bF bE bR hB0 hsz ⊢
  clear hW0
  have hI0 : RunI s k1 k2 lb1 lb2 p b w [] W0 := ⟨⟨_, bO, Own.nil _ _ _ _⟩, bF, bT, bM, bB, bE, hB0, by omega⟩
  refine wpIn_rangeFunc_ok (n := 6) (F := Fence.wide) rfl (by omega) (gf := 364) (lb := #[.pointer (some ⟨w.heap.size + 1 + 1 + 1 + 1 + 1 + 1, 0, none⟩)]) rfl trivial (enters_of Tryz.func364 (by kernel_rfl) rfl)
    (runes_stops w.heap.size (w.heap.size + 1 + 1 + 1 + 1 + 1 + 1) s (by omega) w HT.out rfl (6 - 1) (by omega) W0 hB0 bR) KeepsS.trans (KeepsS.putObj hB0.size) (Below.refl _ _) (fun _ => rfl)
    (RunI s k1 k2 lb1 lb2 p b w)
    (fun _ _ _ => False)
    (RunI.from_ s k1 k2 lb1 lb2 p b w _ hB0.size)
    (fun _ _ _ _ _ hs _ _ => hs)
    hI0
    (fun x a' _ => a' = { tmps := #[.string s, .func (.func k1) #[] lb1, .func (.func k2) #[] lb2, .pointer (some ⟨w.heap.size, 0, none⟩), .pointer (some ⟨w.heap.size + 1, 0, none⟩), .pointer (some ⟨w.heap.size + 1 + 1, 0, none⟩), .slice none 0 0, .pointer (some ⟨w.heap.size + 1 + 1 + 1, 0, none⟩), .pointer (some ⟨w.heap.size + 1 + 1 + 1 + 1, 0, none⟩), .pointer (some ⟨w.heap.size + 1 + 1 + 1 + 1 + 1, 0, none⟩), .int .i64 x, .int .i32 (rn s x), (.func (.func 323) #[] #[.pointer (some ⟨w.heap.size + 1 + 1 + 1 + 1, 0, none⟩), .pointer (some ⟨w.heap.size + 1 + 1 + 1, 0, none⟩), .pointer (some ⟨w.heap.size, 0, none⟩)]), .string s, .func (.func 364) #[] #[.pointer (some ⟨w.heap.size + 1 + 1 + 1 + 1 + 1 + 1, 0, none⟩)], .int .i64 x, .int .i32 (rn s x), undef, undef, undef, undef, undef, undef, undef, undef, undef, undef, undef, undef, undef, undef, undef, undef, undef, undef, undef, undef, undef, undef], defers := [] })
    (fun x a' _ X Y row hs hg hr => hs)
    ?assign ?body ?done ?stop
  case assign =>
    rintro l pre x W K hI hK
    simp only [runeEnc] at hK ⊢
    gi_wp2
    exact hK _ _ ((KeepsOthers.refl _).from _) ⟨Below.refl _ W, fun _ h => h⟩ hI rfl
  case body =>
    rintro l pre x a' W hl ⟨r, hr⟩ hI rfl hok
    have hx : x < s.size := ats_lt (hok.subset (by simp))
    have hpl : pre.length ≤ s.size := by
      have h1 := hok.length_le
      simp at h1
      omega
    have hrn := rn_le s x
    have hsn := runSt_snoc s p b pre x
    have hlen := runSt_len s p b pre
    have hmem := runSt_mem s p b pre
    have hbef := ats_before hok
    have hB := hI.2.2.2.2.2.2.1
    have cM := hI.2.2.2.1.cell
    have HI := Lib.hid hI
    have HB := Lib.hid hB
    have hS : w.heap.size + 7 ≤ W.heap.size := hI.2.2.2.2.2.2.2
    obtain ⟨toks, fr, hst⟩ : ∃ toks fr, runSt s p b pre = (toks, fr) := ⟨_, _, rfl⟩
    rw [hst] at hsn hlen hmem
    have hmem' : ∀ f, fr = some f → f < x := fun f h => hbef f (hmem f h)
    have Hst := Lib.hid hst
    have Hsn := Lib.hid hsn
    have Hmem := Lib.hid hmem'
    simp only at hlen
    clear hI hB hok hr hst hsn hmem hmem' hbef bT bM bB bO bF bE bR hI0
    have hn1 : 1 ≤ 6 - 1 - 1 := by omega
    rcases hpv : p (rn s x : Int) with _ | _
    · have Hpv := Lib.hid hpv
      have hfin : stepRun s p b (toks, fr) x = (endTok s toks fr x, none) := by simp [stepRun, hpv]
      have Hfin := Lib.hid hfin
      clear hpv hfin
      cases fr with
      | none =>
        gi_wp2_with fail
        refine ⟨trivial, ?_⟩
        refine (CallsIn.inRound l (callsIn_wide.2 (Hp.out W (rn s x : Int) HB.out (by omega) (by omega)))).mono ?_
        rw [Hpv.out]
        rintro e w3 ⟨rfl, hb3⟩
        have hI3 := HI.out.on hb3
        obtain ⟨A3, c3, bO, oO, bF, bT, bM, bB, bE, hB3, hS3⟩ := hI3.parts Hst.out
        rw [show frI none = -1 from rfl] at bF
        have cF := bF.cell
        have fF := bF.frozen
        have cE := bE.cell
        have cB := bB.cell
        have Hb3 := Lib.hid hb3
        have HI3 := Lib.hid hI3
        have BO3 := Lib.hid bO
        have BF3 := Lib.hid bF
        have BT3 := Lib.hid bT
        have BM3 := Lib.hid bM
        have BB3 := Lib.hid bB
        have BE3 := Lib.hid bE
        have OO3 := Lib.hid oO
        have HB3 := Lib.hid hB3
        clear hb3 hI3 bO oO bF bT bM bB bE hB3
        gi_wp2_with fail
        refine ⟨trivial, ?_⟩
        refine (CallsIn.inRound l (callsIn_wide.2 (end_none (x : Int) _ _ _ _ BF3.out))).mono ?_
        rintro e w4 ⟨rfl, rfl⟩
        gi_wp2
        exact RunI.finish _ HI.out Hb3.out (KeepsBut.set ⟨w.heap.size + 1 + 1 + 1 + 1, 0, none⟩ (by simp) _ _) ((Below.refl _ w3).setCell (p := ⟨w.heap.size + 1 + 1 + 1 + 1, 0, none⟩) (by simp; omega) _) (Hsn.out.trans Hfin.out) ⟨_, Boxed.other BO3.out (by omega) _, own_flat OO3.out (grownBy_setC _ _ _) (own_ne_box OO3.out BF3.out (by decide))⟩ (BF3.out.set _)
      | some f =>
        have hfx := Hmem.out f rfl
        gi_wp2_with fail
        refine ⟨trivial, ?_⟩
        refine (CallsIn.inRound l (callsIn_wide.2 (Hp.out W (rn s x : Int) HB.out (by omega) (by omega)))).mono ?_
        rw [Hpv.out]
        rintro e w3 ⟨rfl, hb3⟩
        have hI3 := HI.out.on hb3
        obtain ⟨A3, c3, bO, oO, bF, bT, bM, bB, bE, hB3, hS3⟩ := hI3.parts Hst.out
        rw [show frI (some f) = (f : Int) from rfl] at bF
        have cF := bF.cell
        have fF := bF.frozen
        have cE := bE.cell
        have cB := bB.cell
        have Hb3 := Lib.hid hb3
        have HI3 := Lib.hid hI3
        have BO3 := Lib.hid bO
        have BF3 := Lib.hid bF
        have BT3 := Lib.hid bT
        have BM3 := Lib.hid bM
        have BB3 := Lib.hid bB
        have BE3 := Lib.hid bE
        have OO3 := Lib.hid oO
        have HB3 := Lib.hid hB3
        clear hb3 hI3 bO oO bF bT bM bB bE hB3
        gi_wp2_with fail
        refine ⟨trivial, ?_⟩
        refine (CallsIn.inRound l (callsIn_wide.2 (end_some s x f (by omega) (by omega) (by omega) toks w.heap.size _ _ _ _ w3 (by omega) (by omega) (by omega) (by omega) BF3.out BO3.out BT3.out OO3.out (by omega)))).mono ?_
        rintro e w4 ⟨rfl, v4, f4, o4, ow4, b4, kb4⟩
        gi_wp2
        exact RunI.finish _ HI.out Hb3.out kb4 b4 (Hsn.out.trans Hfin.out) ⟨_, o4, ow4⟩ f4
    · have Hpv := Lib.hid hpv
      cases fr with
      | none =>
        rcases hbv : b (rn s x : Int) with _ | _
        · have Hbv := Lib.hid hbv
          have hfin : stepRun s p b (toks, none) x = (toks, none) := by simp [stepRun, hpv, hbv]
          have Hfin := Lib.hid hfin
          clear hpv hbv hfin
          gi_wp2_with fail
          refine ⟨trivial, ?_⟩
          refine (CallsIn.inRound l (callsIn_wide.2 (Hp.out W (rn s x : Int) HB.out (by omega) (by omega)))).mono ?_
          rw [Hpv.out]
          rintro e w3 ⟨rfl, hb3⟩
          have hI3 := HI.out.on hb3
          obtain ⟨A3, c3, bO, oO, bF, bT, bM, bB, bE, hB3, hS3⟩ := hI3.parts Hst.out
          rw [show frI none = -1 from rfl] at bF
          have cF := bF.cell
          have fF := bF.frozen
          have cE := bE.cell
          have cB := bB.cell
          have Hb3 := Lib.hid hb3
          have HI3 := Lib.hid hI3
          have BO3 := Lib.hid bO
          have BF3 := Lib.hid bF
          have BT3 := Lib.hid bT
          have BM3 := Lib.hid bM
          have BB3 := Lib.hid bB
          have BE3 := Lib.hid bE
          have OO3 := Lib.hid oO
          have HB3 := Lib.hid hB3
          clear hb3 hI3 bO oO bF bT bM bB bE hB3
          gi_wp2_with fail
          refine ⟨trivial, ?_⟩
          refine (CallsIn.inRound l (callsIn_wide.2 (Hb.out w3 (rn s x : Int) HB3.out (by omega) (by omega)))).mono ?_
          rw [Hbv.out]
          rintro e w4 ⟨rfl, hb3⟩
          have hI3 := HI3.out.on hb3
          obtain ⟨A4, c4, bO, oO, bF, bT, bM, bB, bE, hB3, hS4⟩ := hI3.parts Hst.out
          rw [show frI none = -1 from rfl] at bF
          have cF := bF.cell
          have fF := bF.frozen
          have cE := bE.cell
          have cB := bB.cell
          have Hb4 := Lib.hid hb3
          have HI4 := Lib.hid hI3
          have BO4 := Lib.hid bO
          have BF4 := Lib.hid bF
          have BT4 := Lib.hid bT
          have BM4 := Lib.hid bM
          have BB4 := Lib.hid bB
          have BE4 := Lib.hid bE
          have OO4 := Lib.hid oO
          have HB4 := Lib.hid hB3
          clear hb3 hI3 bO oO bF bT bM bB bE hB3
          gi_wp2
          exact RunI.finish _ HI.out (Hb3.out.trans (Hb4.out.mono Hb3.out.size)) (KeepsBut.refl _ _ _) (Below.refl _ _) (Hsn.out.trans Hfin.out) ⟨_, BO4.out, OO4.out⟩ BF4.out
        · have Hbv := Lib.hid hbv
          have hfin : stepRun s p b (toks, none) x = (toks, some x) := by simp [stepRun, hpv, hbv]
          have Hfin := Lib.hid hfin
          clear hpv hbv hfin
          gi_wp2_with fail
          refine ⟨trivial, ?_⟩
          refine (CallsIn.inRound l (callsIn_wide.2 (Hp.out W (rn s x : Int) HB.out (by omega) (by omega)))).mono ?_
          rw [Hpv.out]
          rintro e w3 ⟨rfl, hb3⟩
          have hI3 := HI.out.on hb3
          obtain ⟨A3, c3, bO, oO, bF, bT, bM, bB, bE, hB3, hS3⟩ := hI3.parts Hst.out
          rw [show frI none = -1 from rfl] at bF
          have cF := bF.cell
          have fF := bF.frozen
          have cE := bE.cell
          have cB := bB.cell
          have Hb3 := Lib.hid hb3
          have HI3 := Lib.hid hI3
          have BO3 := Lib.hid bO
          have BF3 := Lib.hid bF
          have BT3 := Lib.hid bT
          have BM3 := Lib.hid bM
          have BB3 := Lib.hid bB
          have BE3 := Lib.hid bE
          have OO3 := Lib.hid oO
          have HB3 := Lib.hid hB3
          clear hb3 hI3 bO oO bF bT bM bB bE hB3
          gi_wp2_with fail
          refine ⟨trivial, ?_⟩
          refine (CallsIn.inRound l (callsIn_wide.2 (Hb.out w3 (rn s x : Int) HB3.out (by omega) (by omega)))).mono ?_
          rw [Hbv.out]
          rintro e w4 ⟨rfl, hb3⟩
          have hI3 := HI3.out.on hb3
          obtain ⟨A4, c4, bO, oO, bF, bT, bM, bB, bE, hB3, hS4⟩ := hI3.parts Hst.out
          rw [show frI none = -1 from rfl] at bF
          have cF := bF.cell
          have fF := bF.frozen
          have cE := bE.cell
          have cB := bB.cell
          have Hb4 := Lib.hid hb3
          have HI4 := Lib.hid hI3
          have BO4 := Lib.hid bO
          have BF4 := Lib.hid bF
          have BT4 := Lib.hid bT
          have BM4 := Lib.hid bM
          have BB4 := Lib.hid bB
          have BE4 := Lib.hid bE
          have OO4 := Lib.hid oO
          have HB4 := Lib.hid hB3
          clear hb3 hI3 bO oO bF bT bM bB bE hB3
          gi_wp2
          exact RunI.finish _ HI.out (Hb3.out.trans (Hb4.out.mono Hb3.out.size)) (KeepsBut.set ⟨w.heap.size + 1 + 1 + 1 + 1, 0, none⟩ (by simp) _ _) ((Below.refl _ w4).setCell (p := ⟨w.heap.size + 1 + 1 + 1 + 1, 0, none⟩) (by simp; omega) _) (Hsn.out.trans Hfin.out) ⟨_, Boxed.other BO4.out (by omega) _, own_flat OO4.out (grownBy_setC _ _ _) (own_ne_box OO4.out BF4.out (by decide))⟩ (BF4.out.set _)
      | some f =>
        have hfx := Hmem.out f rfl
        have hf0 : decide ((f : Int) < 0) = false := by simp
        have hfin : stepRun s p b (toks, some f) x = (toks, some f) := by simp [stepRun, hpv]
        have Hfin := Lib.hid hfin
        clear hpv hfin
        gi_wp2_with fail
        refine ⟨trivial, ?_⟩
        refine (CallsIn.inRound l (callsIn_wide.2 (Hp.out W (rn s x : Int) HB.out (by omega) (by omega)))).mono ?_
        rw [Hpv.out]
        rintro e w3 ⟨rfl, hb3⟩
        have hI3 := HI.out.on hb3
        obtain ⟨A3, c3, bO, oO, bF, bT, bM, bB, bE, hB3, hS3⟩ := hI3.parts Hst.out
        rw [show frI (some f) = (f : Int) from rfl] at bF
        have cF := bF.cell
        have fF := bF.frozen
        have cE := bE.cell
        have cB := bB.cell
        have Hb3 := Lib.hid hb3
        have HI3 := Lib.hid hI3
        have BO3 := Lib.hid bO
        have BF3 := Lib.hid bF
        have BT3 := Lib.hid bT
        have BM3 := Lib.hid bM
        have BB3 := Lib.hid bB
        have BE3 := Lib.hid bE
        have OO3 := Lib.hid oO
        have HB3 := Lib.hid hB3
        clear hb3 hI3 bO oO bF bT bM bB bE hB3
        gi_wp2
        refine ⟨fun _ h => (by cases h), ?_⟩
        gi_wp2
        exact RunI.finish _ HI.out Hb3.out (KeepsBut.refl _ _ _) (Below.refl _ _) (Hsn.out.trans Hfin.out) ⟨_, BO3.out, OO3.out⟩ BF3.out
  case done =>
    rintro D ys W hD rfl hI hK
    have hlen := runSt_len s p b (ats s)
    have hmem := runSt_mem s p b (ats s)
    obtain ⟨toks, fr, hst⟩ : ∃ toks fr, runSt s p b (ats s) = (toks, fr) := ⟨_, _, rfl⟩
    have hfin : runsL s p b = endTok s toks fr s.size := by unfold runsL; rw [hst]
    rw [hst] at hlen hmem
    obtain ⟨A3, c3, bO, oO, bF, bT, bM, bB, bE, hB3, hS3⟩ := hI.parts hst
    have cE := bE.cell
    have cT := bT.cell
    have HI := Lib.hid hI
    have BO := Lib.hid bO
    have BF := Lib.hid bF
    have BT := Lib.hid bT
    have BE := Lib.hid bE
    have OO := Lib.hid oO
    have HB3 := Lib.hid hB3
    have HK := Lib.hid hK
    have Hfin := Lib.hid hfin
    have Hmem : Hid (∀ f, fr = some f → f < s.size) := fun f h => ats_lt (hmem f h)
    simp only at hlen
    clear hI bO bF bM bB bE oO hB3 hK hst hfin hmem bR hI0 hB0
    cases fr with
    | none =>
      gi_wp2_with fail
      refine ⟨trivial, ?_⟩
      refine (callsIn_wide.2 (end_none (s.size : Int) _ _ _ _ BF.out)).mono ?_
      rintro e w4 ⟨rfl, rfl⟩
      have cO := (Boxed.other BO.out (show w.heap.size + 1 + 1 + 1 ≠ w.heap.size + 1 + 1 + 1 + 1 by omega) (.int .i64 (-1))).cell
      have oO := own_flat OO.out (grownBy_setC W ⟨w.heap.size + 1 + 1 + 1 + 1, 0, none⟩ (.int .i64 (-1))) (own_ne_box OO.out BF.out (by decide))
      have hk4 := (KeepsBut.set (e := 299) (bs := [w.heap.size + 1 + 1 + 1 + 1]) ⟨w.heap.size + 1 + 1 + 1 + 1, 0, none⟩ (by simp) (.int .i64 (-1)) W).2 D _ HK.out (by
        intro hm; simp only [List.mem_cons, List.not_mem_nil, or_false] at hm; subst hm; have := HK.out; rw [show W.heap[_]? = _ from BF.out] at this; cases this) (fun c fz e => by cases e)
      have hb4 : Below w.heap.size w (W.setCell ⟨w.heap.size + 1 + 1 + 1 + 1, 0, none⟩ (.int .i64 (-1))) := HB3.out.setCell (p := ⟨w.heap.size + 1 + 1 + 1 + 1, 0, none⟩) (by simp; omega) _
      have OO4 := Lib.hid oO
      have HK4 := Lib.hid hk4
      have Hb4 := Lib.hid hb4
      clear oO hk4 hb4
      gi_wp2
      refine ⟨by simp, .inl ⟨_, _, rfl, run_takeDeferred HK4.out, ?_⟩⟩
      refine ⟨_, results_tmp rfl _ _ _, _, rfl, ?_, Hb4.out.trans (belowK_b (w := w) (Nat.le_refl _) _ D _ _ (by omega) HK4.out rfl rfl)⟩
      rw [Hfin.out]
      exact own_flat OO4.out (grownBy_putObj' _ D (.deferred none)) (own_ne_other OO4.out (fun r e => by cases e; exact ⟨_, HK4.out, rfl⟩))
    | some f =>
      have hfx := Hmem.out f rfl
      gi_wp2_with fail
      refine ⟨trivial, ?_⟩
      refine (callsIn_wide.2 (end_some s s.size f (by omega) (by omega) (by omega) toks w.heap.size _ _ _ _ W (by omega) (by omega) (by omega) (by omega) BF.out BO.out BT.out OO.out (by omega))).mono ?_
      rintro e w4 ⟨rfl, v4, f4, o4, ow4, b4, kb4⟩
      obtain ⟨A4, c4, rfl⟩ := ow4.form
      rw [show (toks ++ [(⟨s.extract f s.size, toks.length, f, s.size⟩ : Token)]).length = toks.length + 1 by simp] at ow4 o4
      have cO := o4.cell
      have hk4 := kb4.2 D _ HK.out (by
        intro hm; simp only [List.mem_cons, List.not_mem_nil, or_false] at hm
        have := HK.out
        rcases hm with rfl | rfl
        · rw [show W.heap[_]? = _ from BF.out] at this; cases this
        · rw [show W.heap[_]? = _ from BO.out] at this; cases this) (fun c fz e => by cases e)
      have OO4 := Lib.hid ow4
      have HK4 := Lib.hid hk4
      have Hb4 := Lib.hid (HB3.out.trans b4)
      clear f4 o4 ow4 b4 kb4 hk4
      gi_wp2
      refine ⟨by simp, .inl ⟨_, _, rfl, run_takeDeferred HK4.out, ?_⟩⟩
      refine ⟨_, results_tmp rfl _ _ _, _, rfl, ?_, Hb4.out.trans (belowK_b (w := w) (Nat.le_refl _) _ D _ _ (by omega) HK4.out rfl rfl)⟩
      rw [Hfin.out]
      exact own_flat OO4.out (grownBy_putObj' _ D (.deferred none)) (own_ne_other OO4.out (fun r e => by cases e; exact ⟨_, HK4.out, rfl⟩))
  case stop =>
    rintro D c pre W _ _ h _
    exact h.elim
end Go.Proofs.YtfmopmjgohopeaaGreatDoor

/- The walk of terms.shared: how many bytes two texts begin with that are the same. -/
namespace Go.Proofs.YtfmopmjgohopeaaGreatDoor
open Rep (rep)
open Go.RowKit

def shN : List UInt8 → List UInt8 → Nat
  | a :: x, b :: y => if a = b then shN x y + 1 else 0
  | _, _ => 0
theorem shN_step {a b : List UInt8} {i : Nat} {x y : UInt8} (h1 : a[i]? = some x) (h2 : b[i]? = some y) : shN (a.drop i) (b.drop i) = if x = y then shN (a.drop (i + 1)) (b.drop (i + 1)) + 1 else 0 := by
  obtain ⟨h3, rfl⟩ := List.getElem?_eq_some_iff.1 h1
  obtain ⟨h4, rfl⟩ := List.getElem?_eq_some_iff.1 h2
  rw [List.drop_eq_getElem_cons h3, List.drop_eq_getElem_cons h4]; rfl
theorem shN_end {a b : List UInt8} {i : Nat} (h : a.length ≤ i ∨ b.length ≤ i) : shN (a.drop i) (b.drop i) = 0 := by
  rcases h with h | h
  · rw [List.drop_eq_nil_of_le h]; rfl
  · rw [List.drop_eq_nil_of_le h]; cases a.drop i <;> rfl
theorem str_index {s : ByteArray} {k : Nat} {x : UInt8} (h : s.data.toList[k]? = some x) (w : World) : (Instr.index 9 (.string s) (.int .i64 (k : Int))).run Tryz.prog w = .ok (.int .u8 (x.toNat : Int)) w := by
  obtain ⟨h1, h2⟩ := List.getElem?_eq_some_iff.1 h
  have hs : k < s.size := by simpa using h1
  have h3 : s[k]? = some x := by
    rw [getElem?_pos s k hs]
    congr 1
  have hu : (underlying 9).run Tryz.prog w = .ok .string w := by
    have := Tryz.underlying9
    simp [underlying, this]
  simp [Instr.index, asIntOf, hu, h3]
set_option maxHeartbeats 1000000 in
theorem shared_any (a b : ByteArray) (w : World) (ha : a.size ≤ 1000000000) (hb : b.size ≤ 1000000000) :
    Calls Tryz.prog 235 #[.string a, .string b] w fun e w' => e = .returned (.int .i64 (shN a.data.toList b.data.toList : Nat)) ∧ InDraws w w' := by
  obtain ⟨n, hn⟩ : ∃ n, a.size = n := ⟨_, rfl⟩
  obtain ⟨m, hm⟩ : ∃ m, b.size = m := ⟨_, rfl⟩
  have la : a.data.toList.length = n := by rw [← hn]; simp
  have lb : b.data.toList.length = m := by rw [← hm]; simp
  obtain ⟨t, ht⟩ : ∃ t, shN a.data.toList b.data.toList = t := ⟨_, rfl⟩
  have Ht := Lib.hid ht
  have La := Lib.hid la
  have Lb := Lib.hid lb
  rw [ht]
  rw [hn] at ha
  rw [hm] at hb
  clear ht la lb
  go_enter Tryz.func235, Tryz.ntmps235
  go_wp2
  go_loopw [5] (fun i wr => ∃ k : Nat, k ≤ n ∧ k ≤ m ∧ i = .int .i64 k ∧ Hid (t = k + shN (a.data.toList.drop k) (b.data.toList.drop k)) ∧ InDraws w wr) (fun i _ => n - (intOf i).toNat)
  case atStart => exact ⟨0, Nat.zero_le _, Nat.zero_le _, rfl, by show t = _; rw [← Ht.out]; simp, 0, rfl⟩
  case round =>
    obtain ⟨k, hk, hk2, rfl, Hs, hd⟩ := hrel
    obtain ⟨j, rfl⟩ := hd
    by_cases h1 : k < n
    · have d1 : decide ((k : Int) < (n : Int)) = true := by simp; omega
      by_cases h2 : k < m
      · have d2 : decide ((k : Int) < (m : Int)) = true := by simp; omega
        obtain ⟨x, hx⟩ : ∃ x, a.data.toList[k]? = some x := ⟨_, List.getElem?_eq_getElem (by rw [La.out]; exact h1)⟩
        obtain ⟨y, hy⟩ : ∃ y, b.data.toList[k]? = some y := ⟨_, List.getElem?_eq_getElem (by rw [Lb.out]; exact h2)⟩
        have hst := shN_step hx hy
        have ix := str_index hx
        have iy := str_index hy
        clear hx hy
        by_cases hxy : x = y
        · subst hxy
          rw [if_pos rfl] at hst
          have Hst := Lib.hid hst
          clear hst
          go_wp2
          go_quiet (fail)
          go_wp2
          go_roundw
          case rel => exact ⟨k + 1, by omega, by omega, by go_num, by show t = _; rw [Hs.out, Hst.out]; omega, ⟨_, rfl⟩⟩
          case measure => simp [intOf]; omega
        · have hne : ((x.toNat : Int) == (y.toNat : Int)) = false := by
            simp only [beq_eq_false_iff_ne, ne_eq]
            intro h
            exact hxy (UInt8.toNat_inj.1 (by omega))
          rw [if_neg hxy] at hst
          have Hst := Lib.hid hst
          clear hst
          go_wp2
          go_quiet (fail)
          go_wp2
          go_ret
          exact ⟨by rw [Hs.out, Hst.out]; rfl, InDraws.more ⟨j, rfl⟩ _⟩
      · have d2 : decide ((k : Int) < (m : Int)) = false := by simp; omega
        have hst := shN_end (a := a.data.toList) (b := b.data.toList) (i := k) (.inr (by rw [Lb.out]; omega))
        have Hst := Lib.hid hst
        clear hst
        go_wp2
        go_quiet (fail)
        go_wp2
        go_ret
        exact ⟨by rw [Hs.out, Hst.out]; rfl, InDraws.more ⟨j, rfl⟩ _⟩
    · have d1 : decide ((k : Int) < (n : Int)) = false := by simp; omega
      have hst := shN_end (a := a.data.toList) (b := b.data.toList) (i := k) (.inl (by rw [La.out]; omega))
      have Hst := Lib.hid hst
      clear hst
      go_wp2
      go_quiet (fail)
      go_wp2
      go_ret
      exact ⟨by rw [Hs.out, Hst.out]; rfl, InDraws.more ⟨j, rfl⟩ _⟩
end Go.Proofs.YtfmopmjgohopeaaGreatDoor

/-
  The calls that are told in the run of WriterFull, each shown by its function's walk: analysis.runs where all runes may stand in one token, frame.Sum, slices.Equal at bytes.
-/
set_option linter.unusedVariables false
set_option linter.unusedSimpArgs false
set_option linter.constructorNameAsVariable false
namespace Go.Proofs.YtfmopmjgohopeaaGreatDoor
open Go Ev Go.RowKit

def firstC : List AV := (List.range 256).map fun c => AV.int .u8 (.ofNat (Lib.firstT c))
def accC : List AV := (List.range 32).map fun i => AV.int .u8 (.ofNat (bif Nat.beq (i % 2) 0 then Lib.accLo (i / 2) else Lib.accHi (i / 2)))
theorem ro_cell {ng n0 g i : Nat} {σ : Sg} {h : AH} {w : World} {cs : List AV} {k : IntKind} {x : Int} (R : HR ng n0 σ h w) (hg : g < ng) (hb : h.get g = some (.cells true (.av cs))) (hx : cs[i]? = some (.int k x)) : w.cell? ⟨g, i, none⟩ = some (.int k x) := by
  obtain ⟨sz, hs⟩ := R.glob g hg
  obtain ⟨v, h1, h2⟩ := br_cell (R.blk g _ _ hs hb) (i := i) hx
  have h2 : v = .int k x := h2
  subst h2
  simpa [Ev.Loc.at] using h1
theorem tabs_of_HR {ng n0 : Nat} {σ : Sg} {h : AH} {w : World} (R : HR ng n0 σ h w) (hf : 3 < ng) (ha : 4 < ng) (h1 : h.get 3 = some (.cells true (.av firstC))) (h2 : h.get 4 = some (.cells true (.av accC))) : Tabs w := by
  refine ⟨fun c hc => ro_cell R hf h1 (by simp [firstC, List.getElem?_range, hc]), fun i hi => ⟨ro_cell R ha h2 ?_, ro_cell R ha h2 ?_⟩⟩
  · have e1 : 2 * i < 32 := by omega
    have e2 : 2 * i % 2 = 0 := by omega
    have e3 : 2 * i / 2 = i := by omega
    simp only [accC, List.getElem?_map, List.getElem?_range e1, Option.map_some, e2, e3]
    rfl
  · have e1 : 2 * i + 1 < 32 := by omega
    have e2 : (2 * i + 1) % 2 = 1 := by omega
    have e3 : (2 * i + 1) / 2 = i := by omega
    simp only [accC, List.getElem?_map, List.getElem?_range e1, Option.map_some, e2, e3]
    rfl

/-! ### Bytes -/
def u8s' (b : Bs) : List UInt8 := b.list.map UInt8.ofNat
theorem u8s_len (b : Bs) : (u8s' b).length = b.n := by simp [u8s', Bs.list_len]
theorem u8s_get {b : Bs} {k : Nat} {x : UInt8} (h : (u8s' b)[k]? = some x) : b.list[k]? = some x.toNat := by
  unfold u8s' at h
  rw [List.getElem?_map] at h
  cases hk : b.list[k]? with
  | none => rw [hk] at h; cases h
  | some n =>
    rw [hk] at h
    injection h with h
    subst h
    have hn : n < 256 := Bs.list_lt b n (List.mem_of_getElem? hk)
    have : (UInt8.ofNat n).toNat = n := UInt8.toNat_ofNat_of_lt' hn
    rw [this]
theorem u8s_inj {a b : Bs} : u8s' a = u8s' b ↔ a.list = b.list := by
  constructor
  · intro h
    apply List.ext_getElem?
    intro i
    cases ha : (u8s' a)[i]? with
    | some x => rw [u8s_get ha, u8s_get (h ▸ ha)]
    | none =>
      have h1 : a.list[i]? = none := by simpa [u8s'] using ha
      have h2 : b.list[i]? = none := by rw [h] at ha; simpa [u8s'] using ha
      rw [h1, h2]
  · intro h; unfold u8s'; rw [h]
theorem u8s_app (a b : Bs) : u8s' (a.app b) = u8s' a ++ u8s' b := by unfold u8s'; rw [Bs.list_app, List.map_append]
section
variable {ng n0 : Nat} {σ : Sg} {h : AH} {w : World}
theorem bytes_RBy (R : HR ng n0 σ h w) {x : AV} {xv : Value} {b : Bs} (hx : VR σ x xv) (hq : bytesB h x = some b) : (∃ A c, xv = .slice A b.n c ∧ RBy w A b.n (u8s' b)) ∧ b.n ≤ 1000000000 := by
  unfold bytesB at hq
  split at hq
  · rename_i k off n cap
    obtain ⟨e, c, he, rfl, _⟩ := hx
    split at hq
    · rename_i ro cs hb
      split at hq
      · rename_i b' hb'
        cases hn : (Nat.beq b'.n n && Nat.ble n 1000000000) with
        | false => rw [hn] at hq; cases hq
        | true =>
          rw [hn, cond_true] at hq
          injection hq with hq; subst hq
          rw [Bool.and_eq_true, nble, decide_eq_true_eq] at hn
          obtain ⟨hn, hm⟩ := hn
          have hn := Nat.eq_of_beq_eq_true hn
          subst hn
          have hl : b'.list.map byteA = (cs.list.drop off).take b'.n := (Cs.bt_list hb').trans (Cs.list_sub _ _ _)
          refine ⟨⟨_, _, rfl, u8s_len _, fun j y hy => ⟨e.blk, e.base + off, rfl, R.lt k e he, ?_⟩⟩, hm⟩
          have hj := u8s_get hy
          have hlt : j < b'.n := by rw [← Bs.list_len]; exact (List.getElem?_eq_some_iff.1 hj).1
          have hc : cs.list[off + j]? = some (byteA y.toNat) := by
            have : (b'.list.map byteA)[j]? = some (byteA y.toNat) := by rw [List.getElem?_map, hj]; rfl
            rw [hl, List.getElem?_take, if_pos hlt, List.getElem?_drop] at this
            exact this
          obtain ⟨v, h1, h2⟩ := br_cell (R.blk k e _ he hb) hc
          have h2 : v = .int .u8 (y.toNat : Int) := h2
          subst h2
          simpa [Ev.Loc.at, Nat.add_assoc] using h1
      · cases hq
    · cases hq
  · rename_i n c
    obtain ⟨rfl, _⟩ := hx
    cases hn : Nat.beq n 0 with
    | false => rw [hn] at hq; cases hq
    | true =>
      rw [hn, cond_true] at hq
      injection hq with hq; subst hq
      have hn := Nat.eq_of_beq_eq_true hn
      subst hn
      exact ⟨⟨_, _, rfl, rfl, fun j y hy => by cases hy⟩, Nat.zero_le _⟩
  · obtain ⟨a, c, rfl, _⟩ := hx
    injection hq with hq; subst hq
    exact ⟨⟨_, _, rfl, rfl, fun j y hy => by cases hy⟩, Nat.zero_le _⟩
  · cases hq
theorem rows_RBs (R : HR ng n0 σ h w) : ∀ {l : List AV} {b : Bs}, rowsB h l = some b → ∃ ls : List (List UInt8), ls.length = l.length ∧ ls.flatten = u8s' b ∧ ∀ (k : Nat) (x : AV) (y : List UInt8) (v : Value), l[k]? = some x → ls[k]? = some y → VR σ x v → (∃ A c, v = .slice A y.length c ∧ RBy w A y.length y) ∧ y.length ≤ 1000000000
  | [], b, hq => by injection hq with hq; subst hq; exact ⟨[], rfl, rfl, fun k x y v h1 => by simp at h1⟩
  | x :: l, b, hq => by
    unfold rowsB at hq
    cases hx : bytesB h x with
    | none => rw [hx] at hq; cases hq
    | some a =>
      cases hl : rowsB h l with
      | none => rw [hx, hl] at hq; cases hq
      | some r =>
        rw [hx, hl] at hq
        injection hq with hq; subst hq
        obtain ⟨ls, h1, h2, h3⟩ := rows_RBs R hl
        refine ⟨u8s' a :: ls, by simp [h1], by simp [h2, u8s_app], fun k x' y v e1 e2 hv => ?_⟩
        cases k with
        | zero =>
          simp only [List.getElem?_cons_zero, Option.some.injEq] at e1 e2
          subst e1 e2
          obtain ⟨⟨A, c, g1, g2⟩, g3⟩ := bytes_RBy R hv hx
          exact ⟨⟨A, c, by rw [g1, u8s_len], by rw [u8s_len]; exact g2⟩, by rw [u8s_len]; exact g3⟩
        | succ k =>
          simp only [List.getElem?_cons_succ] at e1 e2
          exact h3 k x' y v e1 e2 hv
/-- a new block that a call has made -/
theorem Ev.HR.adopt (R : HR ng n0 σ h w) {w' : World} (hb : Below w.heap.size w w') {b : ABlock} {e : Ev.Loc} (h1 : w.heap.size ≤ e.blk) (h2 : e.blk < w'.heap.size) (hB : BR (σ.put h.next e) w' e b) : HR ng n0 (σ.put h.next e) (h.new b) w' := by
  have hn : σ h.next = none := R.fresh _ (Nat.le_refl _)
  have hle : σ.le (σ.put h.next e) := Sg.le_put hn
  have R' := R.beyond hb
  have old : ∀ k x, (σ.put h.next e) k = some x → (k = h.next ∧ x = e) ∨ (k ≠ h.next ∧ σ k = some x) := fun k x hx => by
    by_cases hk : k = h.next
    · subst hk; rw [Sg.put_same] at hx; injection hx with hx; exact .inl ⟨rfl, hx.symm⟩
    · rw [Sg.put_ne σ e hk] at hx; exact .inr ⟨hk, hx⟩
  have get : ∀ k x, (h.new b).get k = some x → (k = h.next ∧ x = b) ∨ (k ≠ h.next ∧ h.get k = some x) := fun k x hx => by
    rw [AH.get_new] at hx
    by_cases hk : k = h.next
    · rw [if_pos hk] at hx; injection hx with hx; exact .inl ⟨hk, hx.symm⟩
    · rw [if_neg hk] at hx; exact .inr ⟨hk, hx⟩
  refine ⟨fun k x y g1 g2 => ?_, fun k hk => ?_, fun k hk => ?_, fun k k' x x' y y' g1 g2 g3 g4 g5 => ?_, fun k x g => ?_, fun g hg => ?_, fun k x y g1 g2 g3 => ?_, Nat.le_succ_of_le R.ngn, Nat.le_trans R.big hb.size⟩
  · rcases old k x g1 with ⟨a1, rfl⟩ | ⟨a1, a2⟩ <;> rcases get k y g2 with ⟨b1, rfl⟩ | ⟨b1, b2⟩
    · exact hB
    · exact absurd a1 b1
    · exact absurd b1 a1
    · exact (R'.blk k x y a2 b2).keep hle rfl
  · have hk : h.next + 1 ≤ k := hk
    rw [Sg.put_ne σ e (by omega)]; exact R.fresh k (by omega)
  · have hk : h.next + 1 ≤ k := hk
    rw [AH.get_new, if_neg (by omega)]; exact R.freshA k (by omega)
  · rcases old k x g1 with ⟨a1, rfl⟩ | ⟨a1, a2⟩ <;> rcases old k' x' g2 with ⟨b1, rfl⟩ | ⟨b1, b2⟩
    · rw [a1, b1]
    · have := R.lt k' x' b2; omega
    · have := R.lt k x a2; omega
    · rcases get k y g3 with ⟨c1, _⟩ | ⟨c1, c2⟩
      · exact absurd c1 a1
      · rcases get k' y' g4 with ⟨d1, _⟩ | ⟨d1, d2⟩
        · exact absurd d1 b1
        · exact R.inj k k' x x' y y' a2 b2 c2 d2 g5
  · rcases old k x g with ⟨a1, rfl⟩ | ⟨a1, a2⟩
    · exact h2
    · exact R'.lt k x a2
  · obtain ⟨s, hs⟩ := R.glob g hg
    exact ⟨s, hle _ _ hs⟩
  · rcases old k x g1 with ⟨a1, rfl⟩ | ⟨a1, a2⟩
    · exact Nat.le_trans R.big h1
    · rcases get k y g2 with ⟨b1, _⟩ | ⟨b1, b2⟩
      · exact absurd b1 a1
      · exact R.own k x y a2 b2 g3
end

/-! ### One token -/
theorem runSt_all (s : ByteArray) : ∀ (pre : List Nat), pre ≠ [] → (∀ a, pre.head? = some a → a = 0) → runSt s (fun _ => true) (fun _ => true) pre = ([], some 0) := by
  have key : ∀ (l : List Nat), l.foldl (stepRun s (fun _ => true) (fun _ => true)) ([], some 0) = ([], some 0) := by
    intro l
    induction l with
    | nil => rfl
    | cons a l ih => rw [List.foldl_cons]; exact ih
  intro pre h0 h1
  cases pre with
  | nil => exact absurd rfl h0
  | cons a l =>
    obtain rfl := h1 a rfl
    unfold runSt
    rw [List.foldl_cons]
    exact key l
theorem runs_one (s : ByteArray) (h : 0 < s.size) : runsL s (fun _ => true) (fun _ => true) = [⟨s.extract 0 s.size, 0, 0, s.size⟩] := by
  have e : ats s = 0 :: atsFrom s (0 + wd s 0) := by unfold ats; rw [atsFrom_cons h]
  have : runSt s (fun _ => true) (fun _ => true) (ats s) = ([], some 0) := runSt_all s _ (by rw [e]; simp) (fun a ha => by rw [e] at ha; simpa using ha.symm)
  unfold runsL
  rw [this]; rfl
theorem tokens2_any (r : Int) (w : World) : Calls Tryz.prog 258 #[.int .i32 r] w fun e w' => e = .returned (.bool true) ∧ w = w' := by
  go_enter Tryz.func258, Tryz.ntmps258
  go_wp2
  go_ret
  exact ⟨rfl, rfl⟩
theorem tokens3_any (r : Int) (w : World) : Calls Tryz.prog 259 #[.int .i32 r] w fun e w' => e = .returned (.bool true) ∧ w = w' := by
  go_enter Tryz.func259, Tryz.ntmps259
  go_wp2
  go_ret
  exact ⟨rfl, rfl⟩
theorem below_same {a b : World} (h : a = b) : Below a.heap.size a b := h ▸ Below.refl _ _
theorem asks_all2 (w : World) : Asks 258 #[] (fun _ => true) w :=
  ⟨Go.Proofs.enters_of Tryz.func258 (by kernel_rfl) rfl, fun W r _ _ _ => (tokens2_any r W).mono fun _ _ ⟨h, k⟩ => ⟨h, below_same k⟩⟩
theorem asks_all3 (w : World) : Asks 259 #[] (fun _ => true) w :=
  ⟨Go.Proofs.enters_of Tryz.func259 (by kernel_rfl) rfl, fun W r _ _ _ => (tokens3_any r W).mono fun _ _ ⟨h, k⟩ => ⟨h, below_same k⟩⟩
theorem no_vals {σ : Sg} {a : Array Value} (h : VRs σ [] a.toList) : a = #[] := by
  have := VRs.length h
  apply Array.eq_empty_of_size_eq_zero
  simpa using this.symm
theorem cByte_eq (c : Nat) (n : Nat) (hn : n < 256) : cByte c n = crcByte c (UInt8.ofNat n) := by
  have : (UInt8.ofNat n).toNat = n := UInt8.toNat_ofNat_of_lt' hn
  unfold crcByte
  rw [this]; rfl
theorem crc_eq : ∀ (l : List Nat) (c : Nat), (∀ b ∈ l, b < 256) → l.foldl cByte c = crcL c (l.map UInt8.ofNat)
  | [], _, _ => rfl
  | n :: l, c, h => by
    show l.foldl cByte (cByte c n) = crcL (crcByte c (UInt8.ofNat n)) (l.map UInt8.ofNat)
    rw [crc_eq l _ (fun b hb => h b (List.mem_cons_of_mem _ hb)), cByte_eq c n (h n (List.mem_cons_self ..))]
theorem sum_eq (b : Bs) : crcBs b = sumL (u8s' b) := by
  rw [crcBs_eq, crc_eq _ _ (Bs.list_lt b)]; rfl

/-! ### What is told -/
def wfT : Tolds := ⟨257, 114, 131, 235, 258, 259, 3, 4, firstC, accC, bigB, bigSum⟩
section
variable {ng n0 : Nat} {σ : Sg} {h : AH} {w : World}
/-- what a told call must show -/
def Shows (ng n0 : Nat) (σ : Sg) (h : AH) (w : World) (v : AV) (h' : AH) (e : Ending) (w' : World) : Prop := ∃ u σ', e = .returned u ∧ σ.le σ' ∧ VR σ' v u ∧ HR ng n0 σ' h' w' ∧ (∀ k, k < h.next → σ' k = σ k) ∧ h.next ≤ h'.next ∧ Below n0 w w'
theorem Shows.plain (R : HR ng n0 σ h w) {w' : World} {u : Value} {v : AV} (hv : VR σ v u) (hb : Below w.heap.size w w') : Shows ng n0 σ h w v h (.returned u) w' :=
  ⟨u, σ, rfl, Sg.le.refl σ, hv, R.beyond hb, fun _ _ => rfl, Nat.le_refl _, hb.mono R.big⟩
theorem told_runs (R : HR ng n0 σ h w) (hf : 3 < ng) (ha : 4 < ng) {s : Bs} {k1 k2 : FuncId} {v : AV} {h' : AH} (hq : runsS wfT h s k1 k2 = some (v, h')) :
    Calls Tryz.prog 257 #[.string (mkS s.list), .func (.func k1) #[] #[], .func (.func k2) #[] #[]] w (Shows ng n0 σ h w v h') := by
  unfold runsS at hq
  split at hq
  · rename_i c1 c2 h1 h2
    generalize hc : (Nat.beq k1 wfT.t1 && Nat.beq k2 wfT.t2 && AV.beqs c1 wfT.c1 && AV.beqs c2 wfT.c2 && Nat.ble 1 s.n && Nat.ble s.n 1000000) = c at hq
    cases c with
    | false => cases hq
    | true =>
      rw [cond_true] at hq
      simp only [Bool.and_eq_true, nbeq, nble, decide_eq_true_eq] at hc
      obtain ⟨⟨⟨⟨⟨g1, g2⟩, g3⟩, g4⟩, g5⟩, g6⟩ := hc
      have g3 := AV.beqs_eq _ _ g3
      have g4 := AV.beqs_eq _ _ g4
      subst g1 g2 g3 g4
      injection hq with hq
      unfold oneTok at hq
      injection hq with q1 q2
      subst q1 q2
      have hsz : (mkS s.list).size = s.n := by rw [mkS_size, Bs.list_len]
      have hex : (mkS s.list).extract 0 s.n = mkS s.list := by
        unfold mkS; rw [ByteArray.extract_mk, Nat.sub_zero, List.drop_zero, List.take_of_length_le (by simp [Bs.list_len])]
      refine (runs_any (mkS s.list) (by rw [hsz]; omega) _ _ #[] #[] (fun _ => true) (fun _ => true) w (tabs_of_HR R hf ha h1 h2) (asks_all2 w) (asks_all3 w)).mono ?_
      rintro e w' ⟨u, rfl, hown, hb⟩
      rw [runs_one _ (by rw [hsz]; omega), hsz, hex] at hown
      obtain ⟨css, hl, hrep, hrow1, hrow⟩ := hown
      match css, hl with
      | [cs], _ =>
        obtain ⟨hcs, _⟩ := hrep 0 cs _ rfl rfl
        rcases hrow with ⟨_, h0⟩ | ⟨g, cap, cur, rfl, hg, hcur, hcap, _, hsize, htake⟩
        · cases h0
        · have hlt : g < w'.heap.size := (Array.getElem?_eq_some_iff.1 hcur).1
          have hfl : [cs].flatten = [.string (mkS s.list), .int .i64 0, .int .i64 0, .int .i64 (s.n : Int)] := by simp [hcs]
          rw [hfl] at htake
          have hB : BR (σ.put h.next ⟨g, 0, cur.size⟩) w' ⟨g, 0, cur.size⟩ (.cells false (.av [.str s, ii 0, ii 0, ii s.n])) := by
            refine ⟨cur, _, (0, 0), hcur, rfl, .inr (.inl rfl), ?_⟩
            show VRs _ _ ((cur.toList.drop 0).take 4)
            rw [List.drop_zero]
            have : cur.toList.take 4 = _ := htake
            rw [this]
            exact ⟨⟨rfl, Bs.list_lt s⟩, rfl, rfl, rfl, trivial⟩
          refine ⟨_, _, rfl, Sg.le_put (R.fresh _ (Nat.le_refl _)), ⟨_, cap, Sg.put_same _ _ _, rfl, hcap, ?_⟩, R.adopt hb hg hlt hB, fun k hk => Sg.put_ne σ _ (by omega), Nat.le_succ _, hb.mono R.big⟩
          show 0 + 0 + cap * 4 ≤ cur.size
          have : cur.size = cap * 4 := hsize
          omega
  · cases hq
theorem told_sum (R : HR ng n0 σ h w) {k off n : Nat} {cap : Cap} {ro : Bool} {cs : List AV} {b : Bs} {x : Value} (hx : VR σ (.slice k off n cap) x) (hb : h.get k = some (.cells ro (.av cs))) (hn : off + n ≤ cs.length) (hm : n ≤ 1000000000) (hq : rowsB h ((cs.drop off).take n) = some b) :
    Calls Tryz.prog 114 #[x] w (Shows ng n0 σ h w (.int .u32 (.ofNat (wfT.crc b))) h) := by
  obtain ⟨e, c, he, rfl, _⟩ := hx
  obtain ⟨ls, h1, h2, h3⟩ := rows_RBs R hq
  have hlen : ls.length = n := by rw [h1, List.length_take, List.length_drop]; omega
  refine (sum_any (some (e.at off)) n c ls w (by omega) ⟨hlen, fun j l hl => ?_⟩).mono ?_
  · have hj : j < n := by rw [← hlen]; exact (List.getElem?_eq_some_iff.1 hl).1
    obtain ⟨y, hy⟩ : ∃ y, cs[off + j]? = some y := ⟨_, List.getElem?_eq_getElem (by omega)⟩
    have hy2 : ((cs.drop off).take n)[j]? = some y := by rw [List.getElem?_take, if_pos hj, List.getElem?_drop]; exact hy
    obtain ⟨v, g1, g2⟩ := br_cell (R.blk k e _ he hb) (i := off + j) hy
    obtain ⟨⟨A, c', rfl, g3⟩, g4⟩ := h3 j y l v hy2 hl g2
    refine ⟨e.blk, e.base + off, A, c', rfl, R.lt k e he, ?_, g3, by omega⟩
    simpa [Ev.Loc.at, Nat.add_assoc] using g1
  · rintro e' w' ⟨rfl, hb'⟩
    rw [h2, ← sum_eq, ← Tolds.crc_eq (T := wfT) bigSum_ok]
    exact Shows.plain R rfl hb'
theorem InDraws.below {w w' : World} (h : InDraws w w') : Below w.heap.size w w' := by
  obtain ⟨j, rfl⟩ := h
  exact ⟨rfl, rfl, rfl, Nat.le_refl _, fun _ _ => rfl⟩
theorem told_equal (R : HR ng n0 σ h w) {x y : AV} {xv yv : Value} {a b : Bs} (hx : VR σ x xv) (hy : VR σ y yv) (ha : bytesB h x = some a) (hb : bytesB h y = some b) :
    Calls Tryz.prog 131 #[xv, yv] w (Shows ng n0 σ h w (.bool (a.beq b)) h) := by
  obtain ⟨⟨A, c, rfl, h1⟩, h2⟩ := bytes_RBy R hx ha
  obtain ⟨⟨A', c', rfl, h1'⟩, h2'⟩ := bytes_RBy R hy hb
  refine (equal_any A A' a.n b.n c c' _ _ w (by omega) h1 h1').mono ?_
  rintro e' w' ⟨rfl, hb'⟩
  refine Shows.plain R ?_ hb'.below
  show Value.bool _ = Value.bool _
  rw [Bs.beq_eq]
  congr 1
  exact decide_eq_decide.2 u8s_inj
end
theorem shGo_eq : ∀ (n v m w acc : Nat), shGo n v m w acc = acc + shN ((digits n v).map UInt8.ofNat) ((digits m w).map UInt8.ofNat)
  | 0, _, _, _, _ => by simp [shGo, digits, shN]
  | _ + 1, _, 0, _, _ => by simp [shGo, digits, shN]
  | n + 1, v, m + 1, w, acc => by
    simp only [shGo, nfN_eq, digits, List.map_cons, shN, nbeq, Bool.cond_decide]
    have hv : v % 256 < 256 := Nat.mod_lt _ (by decide)
    have hw : w % 256 < 256 := Nat.mod_lt _ (by decide)
    by_cases h : v % 256 = w % 256
    · rw [if_pos h, if_pos (by rw [h]), shGo_eq n]; omega
    · rw [if_neg h, if_neg (fun e => h (by
        have := congrArg UInt8.toNat e
        rwa [UInt8.toNat_ofNat_of_lt' hv, UInt8.toNat_ofNat_of_lt' hw] at this))]
      rfl
theorem told_shared {ng n0 : Nat} {σ : Sg} {h : AH} {w : World} (R : HR ng n0 σ h w) {a b : Bs} (ha : a.n ≤ 1000000000) (hb : b.n ≤ 1000000000) :
    Calls Tryz.prog 235 #[.string (mkS a.list), .string (mkS b.list)] w (Shows ng n0 σ h w (.int .i64 (.ofNat (shGo a.n a.v b.n b.v 0))) h) := by
  refine (shared_any (mkS a.list) (mkS b.list) w (by rw [mkS_size, Bs.list_len]; exact ha) (by rw [mkS_size, Bs.list_len]; exact hb)).mono ?_
  rintro e' w' ⟨rfl, hb'⟩
  refine Shows.plain R ?_ hb'.below
  show Value.int _ _ = Value.int _ _
  rw [shGo_eq, Nat.zero_add]
  rfl
theorem body_shared : ∃ fn c, Tryz.prog.funcs[wfT.shared]? = some fn ∧ fn.body = some c ∧ (fn.name == "runtime.NumGoroutine") = false := ⟨_, _, Tryz.func235, rfl, by kernel_rfl⟩
theorem body_runs : ∃ fn c, Tryz.prog.funcs[wfT.runs]? = some fn ∧ fn.body = some c ∧ (fn.name == "runtime.NumGoroutine") = false := ⟨_, _, Tryz.func257, rfl, by kernel_rfl⟩
theorem body_sum : ∃ fn c, Tryz.prog.funcs[wfT.sum]? = some fn ∧ fn.body = some c ∧ (fn.name == "runtime.NumGoroutine") = false := ⟨_, _, Tryz.func114, rfl, by kernel_rfl⟩
theorem body_equal : ∃ fn c, Tryz.prog.funcs[wfT.equal]? = some fn ∧ fn.body = some c ∧ (fn.name == "runtime.NumGoroutine") = false := ⟨_, _, Tryz.func131, rfl, by kernel_rfl⟩
theorem told_ok {ng : Nat} (hf : 3 < ng) (ha : 4 < ng) : SumOk Tryz.prog ng (toldS wfT) := by
  intro n0 σ h w g args v h' argv R hargs hS
  obtain ⟨l⟩ := argv
  unfold toldS at hS
  cases hg : Nat.beq g wfT.runs with
  | true =>
    rw [hg, cond_true] at hS
    have hg := Nat.eq_of_beq_eq_true hg
    subst hg
    refine ⟨body_runs, ?_⟩
    split at hS
    · rename_i s k1 k2
      match l, hargs with
      | [x, y, z], ⟨⟨hx, _⟩, ⟨y1, y2, hy, hy1, hy2⟩, ⟨z1, z2, hz, hz1, hz2⟩, _⟩ =>
        subst hx hy hz
        rw [no_vals hy1, no_vals hy2, no_vals hz1, no_vals hz2]
        exact told_runs R hf ha hS
    · cases hS
  | false =>
    rw [hg, cond_false] at hS
    cases hg2 : Nat.beq g wfT.sum with
    | true =>
      rw [hg2, cond_true] at hS
      have hg := Nat.eq_of_beq_eq_true hg2
      subst hg
      refine ⟨body_sum, ?_⟩
      split at hS
      · rename_i k off n cap
        split at hS
        · rename_i ro cs hb
          generalize hc : (Nat.ble (off + n) cs.length && Nat.ble n 1000000000) = c at hS
          cases c with
          | false => cases hS
          | true =>
            rw [cond_true] at hS
            rw [Bool.and_eq_true, nble, nble, decide_eq_true_eq, decide_eq_true_eq] at hc
            split at hS
            · rename_i b hq
              injection hS with hS
              injection hS with q1 q2
              subst q1 q2
              match l, hargs with
              | [x], ⟨hx, _⟩ => exact told_sum R hx hb hc.1 hc.2 hq
            · cases hS
        · cases hS
      · cases hS
    | false =>
      rw [hg2, cond_false] at hS
      cases hg3 : Nat.beq g wfT.equal with
      | false =>
        rw [hg3, cond_false] at hS
        cases hg4 : Nat.beq g wfT.shared with
        | false => rw [hg4] at hS; cases hS
        | true =>
          rw [hg4, cond_true] at hS
          have hg := Nat.eq_of_beq_eq_true hg4
          subst hg
          refine ⟨body_shared, ?_⟩
          split at hS
          · rename_i a b
            generalize hc : (Nat.ble a.n 1000000000 && Nat.ble b.n 1000000000) = c at hS
            cases c with
            | false => cases hS
            | true =>
              rw [cond_true] at hS
              rw [Bool.and_eq_true, nble, nble, decide_eq_true_eq, decide_eq_true_eq] at hc
              injection hS with hS
              injection hS with q1 q2
              subst q1 q2
              match l, hargs with
              | [x, y], ⟨⟨hx, _⟩, ⟨hy, _⟩, _⟩ =>
                subst hx hy
                exact told_shared R hc.1 hc.2
          · cases hS
      | true =>
        rw [hg3, cond_true] at hS
        have hg := Nat.eq_of_beq_eq_true hg3
        subst hg
        refine ⟨body_equal, ?_⟩
        split at hS
        · rename_i x y
          split at hS
          · rename_i a b h1 h2
            injection hS with hS
            injection hS with q1 q2
            subst q1 q2
            match l, hargs with
            | [xv, yv], ⟨hx, hy, _⟩ => exact told_equal R hx hy h1 h2
          · cases hS
        · cases hS
/-! ### The tables that the row lists -/
theorem vrs_of_get {σ : Sg} : ∀ {a : List AV} {v : List Value}, a.length = v.length → (∀ (i : Nat) (x : AV), a[i]? = some x → ∃ y, v[i]? = some y ∧ VR σ x y) → VRs σ a v
  | [], [], _, _ => trivial
  | x :: a, y :: v, hl, h => by
    obtain ⟨z, h1, h2⟩ := h 0 x rfl
    have h1 : y = z := by simpa using h1
    subst h1
    exact ⟨h2, vrs_of_get (by simpa using hl) fun i x hx => by simpa using h (i + 1) x (by simpa using hx)⟩
  | [], _ :: _, hl, _ => by cases hl
  | _ :: _, [], hl, _ => by cases hl
theorem glob_of_cells {w : World} {g : Nat} {cs : List AV} (h0 : cs ≠ []) (h : ∀ (i : Nat) (x : AV), cs[i]? = some x → ∃ y, w.cell? ⟨g, i, none⟩ = some y ∧ ∀ σ : Sg, VR σ x y) : GlobIs w g cs := by
  have hc : ∃ c t fz, w.heap[g]? = some (.cells c t fz) := by
    cases cs with
    | nil => exact absurd rfl h0
    | cons x l =>
      obtain ⟨y, h1, _⟩ := h 0 x rfl
      unfold World.cell? at h1
      split at h1
      · rename_i c t fz e; exact ⟨c, t, fz, e⟩
      · cases h1
  obtain ⟨c, t, fz, hc⟩ := hc
  have hget : ∀ (i : Nat) (x : AV), cs[i]? = some x → ∃ y, c[i]? = some y ∧ ∀ σ : Sg, VR σ x y := fun i x hx => by
    obtain ⟨y, h1, h2⟩ := h i x hx
    exact ⟨y, by simpa [World.cell?, hc] using h1, h2⟩
  have hlen : cs.length ≤ c.size := by
    rcases Nat.lt_or_ge c.size cs.length with hlt | hge
    · obtain ⟨y, h1, _⟩ := hget c.size cs[c.size] (List.getElem?_eq_getElem hlt)
      simp at h1
    · exact hge
  refine ⟨c, t, fz, hc, fun σ => vrs_of_get (by rw [List.length_take]; simp; omega) fun i x hx => ?_⟩
  obtain ⟨y, h1, h2⟩ := hget i x hx
  have hi : i < cs.length := (List.getElem?_eq_some_iff.1 hx).1
  exact ⟨y, by rw [List.getElem?_take, if_pos hi]; simpa using h1, h2 σ⟩
theorem first_glob {w : World} (h : Tabs w) : GlobIs w 3 firstC := by
  refine glob_of_cells (by simp [firstC]) fun i x hx => ?_
  have hi : i < 256 := by simpa [firstC] using (List.getElem?_eq_some_iff.1 hx).1
  simp [firstC, List.getElem?_range, hi] at hx
  subst hx
  exact ⟨_, h.1 i hi, fun σ => rfl⟩
theorem acc_glob {w : World} (h : Tabs w) : GlobIs w 4 accC := by
  refine glob_of_cells (by simp [accC]) fun i x hx => ?_
  have hi : i < 32 := by simpa [accC] using (List.getElem?_eq_some_iff.1 hx).1
  obtain ⟨q1, q2⟩ := h.2 (i / 2) (by omega)
  by_cases he : i % 2 = 0
  · simp [accC, List.getElem?_range, hi, he] at hx
    subst hx
    rw [show 2 * (i / 2) = i by omega] at q1
    exact ⟨_, q1, fun σ => rfl⟩
  · have he : i % 2 = 1 := by omega
    simp [accC, List.getElem?_range, hi, he] at hx
    subst hx
    rw [show 2 * (i / 2) + 1 = i by omega] at q2
    exact ⟨_, q2, fun σ => rfl⟩
end Go.Proofs.YtfmopmjgohopeaaGreatDoor

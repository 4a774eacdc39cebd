/- The texts Places, LentNums of IterateWords, joined by program (tools/merge.py): walks of the functions that the law reaches, and plain facts; no condition. -/
import Derived.Test.YtajgoffeahfmfaaDoorPart07
import Derived.Test.YtajgoffeahfmfaaDoorPart09
import Derived.Test.YtajgoffeahfmfaaDoorPart04
import Derived.Test.YtajgoffeahfmfaaDoorPart05
set_option linter.unusedVariables false
set_option linter.unusedSimpArgs false

/- The walk of analysis.places. -/
namespace Go.Proofs.YtajgoffeahfmfaaDoor
open Rep (rep)
open Go.RowKit Go.Shelf

attribute [local go_sem] Oper.semAt_some

def natI (l : List Nat) : List Int := l.map (fun (x : Nat) => (x : Int))
theorem natI_snoc (l : List Nat) (x : Nat) : natI (l ++ [x]) = natI l ++ [(x : Int)] := by simp [natI]
theorem int_info : (Tryd.prog.info? 3).map (fun i => (i.zero, i.size, i.bytes)) = some (some (.int .i64 0), 1, 8) := by kernel_rfl

set_option maxRecDepth 100000 in
set_option maxHeartbeats 2000000 in
theorem places_any (s : ByteArray) (hs : s.size ≤ 17592186044000) (w : World) (hT : Tabs w) :
    Calls Tryd.prog 40 #[.string s] w fun e w' => ∃ v, e = .returned v ∧ Own Flat w' w.heap.size 3 v (natI (places s)) ∧ Below w.heap.size w w' := by
  obtain ⟨i0, hi0, hz0, hz1, hz2⟩ := info_parts int_info
  have hal := ats_len s
  refine (callsIn_wide (n := 6)).1 ?_
  refine callsIn_of_wp_marks Tryd.func40 rfl trivial ?_ rfl
  simp only [Tryd.ntmps40, List.size_toArray, List.length_cons, List.length_nil, Nat.reduceAdd, Nat.reduceSub, Array.replicate_succ, Array.replicate_zero, List.push_toArray, List.append_toArray, List.nil_append, List.cons_append]
  gi_wp2_with (refine ⟨trivial, ?_⟩; gi_at_call 57; refine (callsIn_wide.2 (runes_any s _)).mono ?_; rintro e w2 ⟨rfl, rfl⟩)
  have bO := (Boxed.new w 49 (.slice none 0 0)).alloc (.cells #[.string s] 9)
  have bS := Boxed.new (w.alloc (.cells #[.slice none 0 0] 49)) 9 (.string s)
  simp only [World.size_alloc] at bO bS
  have hB0 : Below w.heap.size w ((w.alloc (.cells #[.slice none 0 0] 49)).alloc (.cells #[.string s] 9)) := ((Below.refl _ w).alloc (Nat.le_refl _) _).alloc (by simp) _
  have hsz : ((w.alloc (.cells #[.slice none 0 0] 49)).alloc (.cells #[.string s] 9)).heap.size = w.heap.size + 2 := by simp
  obtain ⟨W0, hW0⟩ : ∃ W0, (w.alloc (.cells #[.slice none 0 0] 49)).alloc (.cells #[.string s] 9) = W0 := ⟨_, rfl⟩
  rw [hW0] at bO bS hB0 hsz ⊢
  clear hW0
  refine wpIn_rangeFunc_ok (n := 6) (F := Fence.wide) rfl (by omega) (gf := 71) (lb := #[.pointer (some ⟨w.heap.size + 1, 0, none⟩)]) rfl trivial (enters_of Tryd.func71 (by kernel_rfl) rfl)
    (runes_stops w.heap.size (w.heap.size + 1) s (by omega) w hT rfl (6 - 1) (by omega) W0 hB0 bS) KeepsS.trans (KeepsS.putObj hB0.size) (Below.refl _ _) (fun _ => rfl)
    (fun pre W => (∃ v, Boxed W w.heap.size 49 v ∧ Own Flat W w.heap.size 3 v (natI pre)) ∧ Below w.heap.size w W ∧ W0.heap.size ≤ W.heap.size)
    (fun _ _ _ => False)
    (OwnFrom.and (boxedOwn_from _ _ _ _ _ _) (OwnFrom.and (ownFrom_below (Nat.le_refl _) (by omega)) (fun _ _ _ _ hs hg _ => Nat.le_trans hs hg.size)))
    (fun _ _ _ _ _ hs _ _ => hs)
    ⟨⟨_, bO, Own.nil _ _ _ _⟩, hB0, Nat.le_refl _⟩
    (fun x a' _ => a' = { tmps := #[.string s, undef, .slice none 0 0, .pointer (some ⟨w.heap.size, 0, none⟩), .int .i64 x, .string s, .func (.func 71) #[] #[.pointer (some ⟨w.heap.size + 1, 0, none⟩)], .int .i64 x, .int .i32 (rn s x), undef, undef, undef, undef, undef, undef, undef, undef, undef], defers := [] })
    (fun x a' _ X Y row hs hg hr => hs)
    ?assign ?body ?done ?stop
  case assign =>
    rintro l pre x W K hI hK
    simp only [runeEnc] at hK ⊢
    gi_wp2
    exact hK _ _ ((KeepsOthers.refl _).from _) ⟨Below.refl _ W, fun _ h => h⟩ hI rfl
  case body =>
    rintro l pre x a' W hl ⟨r, hr⟩ ⟨⟨v, bv, ov⟩, hB, hS⟩ rfl hok
    obtain ⟨L, hL⟩ : ∃ L, (natI pre).length = L := ⟨_, rfl⟩
    have hLm : L < s.size := by
      have h1 := hok.length_le
      have h2 : (natI pre).length = pre.length := by simp [natI]
      simp at h1
      omega
    have hx : x < s.size := by
      have h1 : x ∈ ats s := hok.subset (by simp)
      exact (atsF_ge s _ _ x h1).2
    obtain ⟨AV, cV, rfl⟩ := ov.form
    rw [hL] at bv ov
    have cv := bv.cell
    have HL := Lib.hid hL
    have Hov := Lib.hid ov
    have Hbv := Lib.hid bv
    have HB := Lib.hid hB
    clear ov bv hB hT bS bO hr hL hok
    gi_wp2_with (gi_at_builtin
                 go_must (refine wpListIn_push rfl (.tmp 9) (.tmp 11) _ rfl w.heap.size 3 i0 _ 8 Tryd.underlying49 hi0 hz0 hz1 hz2 rfl (.slice AV L cV) (natI pre) rfl (Hov.out.alloc _) W.heap.size #[.int .i64 x] (x : Int) rfl (Blk.new _ _ _) (own_push_flat ⟨rfl, by unfold In64; have := HL.out; omega⟩) (by rw [HL.out]; omega) (by rw [HL.out]; omega) (by have := HB.out.size; simp; omega) ?_)
                 intro v5 w5 hown5 hg5 hb5
                 obtain ⟨A5, c5, rfl⟩ := hown5.form
                 rw [show (natI pre ++ [(x : Int)]).length = (natI pre).length + 1 by simp] at hown5
                 obtain ⟨b6, b7, o7, k7⟩ := boxed_appended Hbv.out Hov.out (by decide) (World.grownBy_alloc W _ none) hg5 hown5
                 have c6 := b6.cell
                 have f6 := b6.frozen
                 have B7 := Lib.hid b7
                 have O7 := Lib.hid o7
                 have K7 := Lib.hid k7
                 have Hb5 := Lib.hid hb5
                 have Hg5 := Lib.hid hg5
                 clear b6 b7 o7 k7 hown5 hb5 hg5)
    have hB1 : Below w.heap.size W (w5.setCell ⟨w.heap.size, 0, none⟩ (.slice A5 ((natI pre).length + 1) c5)) := (((Below.refl _ W).alloc HB.out.size _).trans Hb5.out).setCell (p := ⟨w.heap.size, 0, none⟩) (Nat.le_refl _) _
    refine ⟨K7.out.from _, ⟨hB1, fun u hu => ?_⟩, ⟨_, B7.out, ?_⟩, HB.out.trans hB1, Nat.le_trans hS hB1.size⟩
    · refine ((hu.alloc _).kept Hg5.out ?_).kept (grownBy_setC _ _ _) (by simp)
      obtain ⟨_, _, _, hr⟩ := Hov.out.alloc (.cells #[.int .i64 (x : Int)] 3)
      exact (hu.alloc _).not_row (by decide) hr
    · rw [natI_snoc]; exact O7.out
  case done =>
    rintro D ys W hD rfl ⟨⟨v, bv, ov⟩, hB, hS⟩ hK
    obtain ⟨L, hL⟩ : ∃ L, (natI (ats s)).length = L := ⟨_, rfl⟩
    have hLm : L ≤ s.size := by rw [← hL]; simpa [natI] using hal
    obtain ⟨AV, cV, rfl⟩ := ov.form
    rw [hL] at bv ov
    have cv := bv.cell
    have HL := Lib.hid hL
    have Hov := Lib.hid ov
    have HB := Lib.hid hB
    have HK := Lib.hid hK
    clear ov bv hB hT bS bO hL hK
    gi_wp2_with (gi_at_builtin
                 go_must (refine wpListIn_push rfl (.tmp 13) (.tmp 16) _ rfl w.heap.size 3 i0 _ 8 Tryd.underlying49 hi0 hz0 hz1 hz2 rfl (.slice AV L cV) (natI (ats s)) rfl (Hov.out.alloc _) W.heap.size #[.int .i64 s.size] (s.size : Int) rfl (Blk.new _ _ _) (own_push_flat ⟨rfl, by unfold In64; omega⟩) (by rw [HL.out]; omega) (by rw [HL.out]; omega) (by have := HB.out.size; simp; omega) ?_)
                 intro v5 w5 hown5 hg5 hb5
                 obtain ⟨A5, c5, rfl⟩ := hown5.form
                 rw [show (natI (ats s) ++ [(s.size : Int)]).length = (natI (ats s)).length + 1 by simp] at hown5
                 have Hown5 := Lib.hid hown5
                 have Hb5 := Lib.hid hb5
                 have Hg5 := Lib.hid hg5
                 clear hown5 hb5 hg5)
    have hB5 : Below w.heap.size w w5 := HB.out.trans (((Below.refl _ W).alloc HB.out.size _).trans Hb5.out)
    have hK5 := deferred_kept HK.out Hg5.out (Hov.out.alloc _)
    refine ⟨by simp, .inl ⟨_, _, rfl, run_takeDeferred hK5, ?_⟩⟩
    refine ⟨_, results_tmp rfl _ _ _, _, rfl, ?_, hB5.trans (belowK_b (w := w) (Nat.le_refl _) w5 D _ _ (by omega) hK5 rfl rfl)⟩
    have := own_flat Hown5.out (grownBy_putObj' w5 D (.deferred none)) (own_ne_other Hown5.out (fun r e => by cases e; exact ⟨_, hK5, rfl⟩))
    simpa [places, natI] using this
  case stop =>
    rintro D c pre W _ _ h _
    exact h.elim
end Go.Proofs.YtajgoffeahfmfaaDoor

/- The walks of lecternkit.LentInts and LentInt64s. (Written by tools/gen_lentnums.py.) -/
namespace Go.Proofs.YtajgoffeahfmfaaDoor
open Rep (rep)
open Go.RowKit

theorem int64_info : (Tryd.prog.info? 2).map (fun i => (i.zero, i.size, i.bytes)) = some (some (.int .i64 0), 1, 8) := by kernel_rfl
/-- The slice value v holds xs with the mark behind, in memory of its own. -/
def Marked (w : World) (base : Nat) (v : Value) (n : Nat) (xs : List Int) : Prop :=
  ∃ g cap, v = .slice (some ⟨g, 0, none⟩) n cap ∧ w.ownsRow base 2 1 (.slice (some ⟨g, 0, none⟩) (n + 1) cap) (n + 1) (ints (xs ++ [-7171]))

set_option maxHeartbeats 1000000 in
theorem lentInt64s_any (A : Option Addr) (n c : Nat) (xs : List Int) (w : World) (hn : n * 8 ≤ 140737488351232) (hx : Reads w w.heap.size 1 A n (ints xs)) :
    Calls Tryd.prog 17 #[.slice A n c] w fun e w' => ∃ v, e = .returned v ∧ Marked w' w.heap.size v n xs ∧ Below w.heap.size w w' := by
  obtain ⟨i0, hi0, hz0, hz1, hz2⟩ := info_parts int64_info
  go_enter Tryd.func17, Tryd.ntmps17
  go_wp2_with (first
    | (at_builtin
       refine wpList_append_any _ rfl (.tmp 4) (.tmp 5) _ rfl w.heap.size 2 i0 _ 1 8 Tryd.underlying25 hi0 hz0 hz1 hz2 rfl (by omega) (.slice none 0 0) 0 [] rfl
         ⟨by simp, .inl ⟨rfl, rfl⟩⟩ w.heap.size A n c (ints xs) rfl hx (ints_one xs) (by simp only [maxLen]; omega) (by omega) (Nat.le_refl _) ?_
       intro v1 w1 hown1 hg1 hat1
       have hbw1 : Below w.heap.size w w1 := (Below.refl _ _).grown hg1 (Nat.le_refl _) (by simp [Value.ownBlock]))
    | (at_builtin
       refine wpList_append_any _ rfl (.tmp 7) (.tmp 8) _ rfl w.heap.size 2 i0 _ 1 8 Tryd.underlying25 hi0 hz0 hz1 hz2 rfl (by omega) v1 (0 + n) ([] ++ ints xs) rfl
         (hown1.alloc _) (w1.heap.size + 1) (some ⟨w1.heap.size, 0, none⟩) 1 1 [.int .i64 (-7171)] rfl (reads_new w1 #[.int .i64 (-7171)] 2 1 1 rfl) (by simp [Value.oneCell']) (by simp only [maxLen]; omega) (by omega) (by have := hbw1.size; simp; omega) ?_
       intro v2 w2 hown2 hg2 hat2
       obtain ⟨g, cap, hv2, _, _⟩ := hown2.form (by omega)
       have hbw2 : Below w.heap.size w w2 := below_any (v' := v2) (hbw1.alloc hbw1.size _) (by have := hbw1.size; simp; omega) (own_from hown1) hg2
       subst hv2
       have hcap2 := own_cap hown2))
  go_ret
  exact ⟨_, rfl, ⟨g, cap, rfl, by simpa [ints] using hown2⟩, hbw2⟩

theorem lentInt64s_rep (A : Option Addr) (n c : Nat) (xs : List Int) (w : World) (hn : n ≤ 17592186043904) (hx : RepList w (· < w.heap.size) A n c xs) :
    Calls Tryd.prog 17 #[.slice A n c] w fun e w' => ∃ A' c', e = .returned (.slice A' n c') ∧ RepList w' (Fresh w.heap.size w') A' n c' xs ∧ MarkAt w' (Fresh w.heap.size w') 1 A' n c' (.int .i64 (-7171)) ∧ Below w.heap.size w w' := by
  refine (lentInt64s_any A n c xs w (by omega) hx.reads_ints).mono ?_
  rintro e w' ⟨v, rfl, ⟨g, cap, rfl, ho⟩, hb⟩
  have hcap := own_cap ho
  have hl := hx.length
  obtain ⟨g', cap', hv', hbg, hlt⟩ := ho.form (by omega)
  cases hv'
  have hr := own_reads ho (by
    intro x hx'
    rcases List.mem_append.1 hx' with h | h
    · exact hx.in64 x h
    · simp at h; subst h; unfold In64; omega)
  refine ⟨_, _, rfl, ⟨hl, by omega, hcap.2, fun k x hk => ?_⟩, ⟨by omega, g, 0, rfl, ⟨hbg, hlt⟩, ?_⟩, hb⟩
  · exact hr.2.2.2 k x (by rw [List.getElem?_append_left (lt_of_get? hk)]; exact hk)
  · obtain ⟨_, he⟩ := hr.elem (k := n) (x := -7171) (by rw [List.getElem?_append_right (by omega)]; simp [hl])
    have := he.int.1
    simpa using this

/-- The slice value v holds xs with the mark behind, in memory of its own. -/
def MarkedI (w : World) (base : Nat) (v : Value) (n : Nat) (xs : List Int) : Prop :=
  ∃ g cap, v = .slice (some ⟨g, 0, none⟩) n cap ∧ w.ownsRow base 3 1 (.slice (some ⟨g, 0, none⟩) (n + 1) cap) (n + 1) (ints (xs ++ [-7171]))

set_option maxHeartbeats 1000000 in
theorem lentInts_any (A : Option Addr) (n c : Nat) (xs : List Int) (w : World) (hn : n * 8 ≤ 140737488351232) (hx : Reads w w.heap.size 1 A n (ints xs)) :
    Calls Tryd.prog 16 #[.slice A n c] w fun e w' => ∃ v, e = .returned v ∧ MarkedI w' w.heap.size v n xs ∧ Below w.heap.size w w' := by
  obtain ⟨i0, hi0, hz0, hz1, hz2⟩ := info_parts int_info
  go_enter Tryd.func16, Tryd.ntmps16
  go_wp2_with (first
    | (at_builtin
       refine wpList_append_any _ rfl (.tmp 4) (.tmp 5) _ rfl w.heap.size 3 i0 _ 1 8 Tryd.underlying49 hi0 hz0 hz1 hz2 rfl (by omega) (.slice none 0 0) 0 [] rfl
         ⟨by simp, .inl ⟨rfl, rfl⟩⟩ w.heap.size A n c (ints xs) rfl hx (ints_one xs) (by simp only [maxLen]; omega) (by omega) (Nat.le_refl _) ?_
       intro v1 w1 hown1 hg1 hat1
       have hbw1 : Below w.heap.size w w1 := (Below.refl _ _).grown hg1 (Nat.le_refl _) (by simp [Value.ownBlock]))
    | (at_builtin
       refine wpList_append_any _ rfl (.tmp 7) (.tmp 8) _ rfl w.heap.size 3 i0 _ 1 8 Tryd.underlying49 hi0 hz0 hz1 hz2 rfl (by omega) v1 (0 + n) ([] ++ ints xs) rfl
         (hown1.alloc _) (w1.heap.size + 1) (some ⟨w1.heap.size, 0, none⟩) 1 1 [.int .i64 (-7171)] rfl (reads_new w1 #[.int .i64 (-7171)] 3 1 1 rfl) (by simp [Value.oneCell']) (by simp only [maxLen]; omega) (by omega) (by have := hbw1.size; simp; omega) ?_
       intro v2 w2 hown2 hg2 hat2
       obtain ⟨g, cap, hv2, _, _⟩ := hown2.form (by omega)
       have hbw2 : Below w.heap.size w w2 := below_any (v' := v2) (hbw1.alloc hbw1.size _) (by have := hbw1.size; simp; omega) (own_from hown1) hg2
       subst hv2
       have hcap2 := own_cap hown2))
  go_ret
  exact ⟨_, rfl, ⟨g, cap, rfl, by simpa [ints] using hown2⟩, hbw2⟩

theorem lentInts_rep (A : Option Addr) (n c : Nat) (xs : List Int) (w : World) (hn : n ≤ 17592186043904) (hx : RepList w (· < w.heap.size) A n c xs) :
    Calls Tryd.prog 16 #[.slice A n c] w fun e w' => ∃ A' c', e = .returned (.slice A' n c') ∧ RepList w' (Fresh w.heap.size w') A' n c' xs ∧ MarkAt w' (Fresh w.heap.size w') 1 A' n c' (.int .i64 (-7171)) ∧ Below w.heap.size w w' := by
  refine (lentInts_any A n c xs w (by omega) hx.reads_ints).mono ?_
  rintro e w' ⟨v, rfl, ⟨g, cap, rfl, ho⟩, hb⟩
  have hcap := own_cap ho
  have hl := hx.length
  obtain ⟨g', cap', hv', hbg, hlt⟩ := ho.form (by omega)
  cases hv'
  have hr := own_reads ho (by
    intro x hx'
    rcases List.mem_append.1 hx' with h | h
    · exact hx.in64 x h
    · simp at h; subst h; unfold In64; omega)
  refine ⟨_, _, rfl, ⟨hl, by omega, hcap.2, fun k x hk => ?_⟩, ⟨by omega, g, 0, rfl, ⟨hbg, hlt⟩, ?_⟩, hb⟩
  · exact hr.2.2.2 k x (by rw [List.getElem?_append_left (lt_of_get? hk)]; exact hk)
  · obtain ⟨_, he⟩ := hr.elem (k := n) (x := -7171) (by rw [List.getElem?_append_right (by omega)]; simp [hl])
    have := he.int.1
    simpa using this

end Go.Proofs.YtajgoffeahfmfaaDoor

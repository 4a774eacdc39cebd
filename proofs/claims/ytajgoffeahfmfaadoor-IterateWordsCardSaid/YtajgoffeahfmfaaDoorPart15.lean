/- The texts Runs of IterateWords, joined by program (tools/merge.py): walks of the functions that the law reaches, and plain facts; no condition. -/
import Derived.Shelf.AbstractIn
import Derived.Laws.EntriesVeiled
import Derived.Test.YtajgoffeahfmfaaDoorPart07
import Derived.Test.YtajgoffeahfmfaaDoorPart13
import Derived.Test.YtajgoffeahfmfaaDoorPart14
set_option linter.unusedVariables false
set_option linter.unusedSimpArgs false

/- The walk of analysis.runs, whatever the two tests. -/
namespace Go.Proofs.YtajgoffeahfmfaaDoor
open Rep (rep)
open Go.RowKit Go.Shelf

attribute [local go_sem] Oper.semAt_some

/-- A function value that tells of each rune whether p holds. -/
def Asks (k : FuncId) (lb : Array Value) (p : Int → Bool) (w : World) : Prop :=
  (∀ (args : Array Value) (W : World), (callFunc k args).run Tryd.prog W = .ok (.enter k args) W) ∧
  ∀ (W : World) (r : Int), Below w.heap.size w W → 0 ≤ r → r ≤ 0x10FFFF → Calls Tryd.prog k (#[.int .i32 r] ++ lb) W fun e W' => e = .returned (.bool (p r)) ∧ Below W.heap.size W W'

/-- What holds between two rounds of analysis.runs. -/
def RunI (s : ByteArray) (k1 k2 : FuncId) (lb1 lb2 : Array Value) (p b : Int → Bool) (w : World) (pre : List Nat) (W : World) : Prop :=
  (∃ v, Boxed W (w.heap.size + 1 + 1 + 1) 34 v ∧ Own Flat W w.heap.size 44 v (runSt s p b pre).1) ∧ Boxed W (w.heap.size + 1 + 1 + 1 + 1) 3 (.int .i64 (frI (runSt s p b pre).2)) ∧ Boxed W (w.heap.size) 9 (.string s) ∧ Boxed W (w.heap.size + 1) 73 (.func (.func k1) #[] lb1) ∧ Boxed W (w.heap.size + 1 + 1) 73 (.func (.func k2) #[] lb2) ∧ Boxed W (w.heap.size + 1 + 1 + 1 + 1 + 1) 86 (.func (.func 56) #[] #[.pointer (some ⟨w.heap.size + 1 + 1 + 1 + 1, 0, none⟩), .pointer (some ⟨w.heap.size + 1 + 1 + 1, 0, none⟩), .pointer (some ⟨w.heap.size, 0, none⟩)]) ∧ Below w.heap.size w W ∧ w.heap.size + 7 ≤ W.heap.size
theorem RunI.from_ (s : ByteArray) (k1 k2 : FuncId) (lb1 lb2 : Array Value) (p b : Int → Bool) (w : World) (n0 : Nat) (hn : w.heap.size ≤ n0) : OwnFrom n0 (RunI s k1 k2 lb1 lb2 p b w) :=
  OwnFrom.and (boxedOwn_from _ _ _ _ _ _) (OwnFrom.and (Own.from (boxed_own _ _ _) _) (OwnFrom.and (Own.from (boxed_own _ _ _) _) (OwnFrom.and (Own.from (boxed_own _ _ _) _) (OwnFrom.and (Own.from (boxed_own _ _ _) _) (OwnFrom.and (Own.from (boxed_own _ _ _) _) (OwnFrom.and (ownFrom_below (Nat.le_refl _) hn) (fun _ _ _ _ hs hg _ => Nat.le_trans hs hg.size)))))))
theorem RunI.on {s : ByteArray} {k1 k2 : FuncId} {lb1 lb2 : Array Value} {p b : Int → Bool} {w : World} {pre : List Nat} {W W' : World} (h : RunI s k1 k2 lb1 lb2 p b w pre W) (hb : Below W.heap.size W W') : RunI s k1 k2 lb1 lb2 p b w pre W' :=
  RunI.from_ s k1 k2 lb1 lb2 p b w _ (Nat.le_refl _) pre W W' none h (Below.grownBy' hb) (fun _ e => by cases e)

theorem RunI.parts {s : ByteArray} {k1 k2 : FuncId} {lb1 lb2 : Array Value} {p b : Int → Bool} {w : World} {pre : List Nat} {W : World} {toks : List Token} {fr : Option Nat} (h : RunI s k1 k2 lb1 lb2 p b w pre W) (hst : runSt s p b pre = (toks, fr)) :
    ∃ A c, Boxed W (w.heap.size + 1 + 1 + 1) 34 (.slice A toks.length c) ∧ Own Flat W w.heap.size 44 (.slice A toks.length c) toks ∧ Boxed W (w.heap.size + 1 + 1 + 1 + 1) 3 (.int .i64 (frI fr)) ∧ Boxed W (w.heap.size) 9 (.string s) ∧ Boxed W (w.heap.size + 1) 73 (.func (.func k1) #[] lb1) ∧ Boxed W (w.heap.size + 1 + 1) 73 (.func (.func k2) #[] lb2) ∧ Boxed W (w.heap.size + 1 + 1 + 1 + 1 + 1) 86 (.func (.func 56) #[] #[.pointer (some ⟨w.heap.size + 1 + 1 + 1 + 1, 0, none⟩), .pointer (some ⟨w.heap.size + 1 + 1 + 1, 0, none⟩), .pointer (some ⟨w.heap.size, 0, none⟩)]) ∧ Below w.heap.size w W ∧ w.heap.size + 7 ≤ W.heap.size := by
  obtain ⟨⟨v, h1, h2⟩, h3, h4, h5, h6, h7, h8, h9⟩ := h
  rw [hst] at h2 h3
  obtain ⟨A, c, rfl⟩ := h2.form
  exact ⟨A, c, h1, h2, h3, h4, h5, h6, h7, h8, h9⟩
theorem RunI.finish {s : ByteArray} {k1 k2 : FuncId} {lb1 lb2 : Array Value} {p b : Int → Bool} {w : World} {pre : List Nat} {x : Nat} {W w3 W' : World} {toks : List Token} {fr : Option Nat} (n : Nat) (hI : RunI s k1 k2 lb1 lb2 p b w pre W) (hb3 : Below W.heap.size W w3) (hk : KeepsBut [w.heap.size + 1 + 1 + 1 + 1, w.heap.size + 1 + 1 + 1] 44 w3 W') (hb : Below w.heap.size w3 W')
    (hst : runSt s p b (pre ++ [x]) = (toks, fr)) (ho : ∃ v, Boxed W' (w.heap.size + 1 + 1 + 1) 34 v ∧ Own Flat W' w.heap.size 44 v toks) (hf : Boxed W' (w.heap.size + 1 + 1 + 1 + 1) 3 (.int .i64 (frI fr))) :
    KeepsFrom n W W' ∧ KeepsS w.heap.size (w.heap.size + 1 + 1 + 1 + 1 + 1 + 1) W W' ∧ RunI s k1 k2 lb1 lb2 p b w (pre ++ [x]) W' := by
  have hI3 := hI.on hb3
  have hI4 := hI3
  obtain ⟨⟨v, h1, h2⟩, h3, h4, h5, h6, h7, h8, h9⟩ := hI3
  have hB : Below w.heap.size W W' := (hb3.mono (by have := hI.2.2.2.2.2.2.2; omega)).trans hb
  refine ⟨((Below.grownBy' hb3 |> fun hg => KeepsOthers.of_grownBy hg (fun _ _ e _ => by cases e)).trans (hk.others (fun r hr => ?_))).from _, ⟨hB, fun u hu => hk.box (Boxed.on hu hb3) (by simp; omega) (by decide)⟩, ?_⟩
  · simp only [List.mem_cons, List.not_mem_nil, or_false] at hr
    rcases hr with rfl | rfl
    · exact ⟨_, _, h3⟩
    · exact ⟨_, _, h1⟩
  · rw [RunI, hst]
    exact ⟨ho, hf, hk.box h4 (by first | (simp; done) | (simp; omega)) (by decide), hk.box h5 (by first | (simp; done) | (simp; omega)) (by decide), hk.box h6 (by first | (simp; done) | (simp; omega)) (by decide), hk.box h7 (by first | (simp; done) | (simp; omega)) (by decide), h8.trans hb, Nat.le_trans h9 hk.1⟩

set_option maxRecDepth 100000 in
set_option maxHeartbeats 4000000 in
theorem runs_any (s : ByteArray) (hs : s.size ≤ 1000000000) (k1 k2 : FuncId) (lb1 lb2 : Array Value) (p b : Int → Bool) (w : World) (hT : Tabs w) (h1 : Asks k1 lb1 p w) (h2 : Asks k2 lb2 b w) :
    Calls Tryd.prog 37 #[.string s, .func (.func k1) #[] lb1, .func (.func k2) #[] lb2] w fun e w' => ∃ v, e = .returned v ∧ Own Flat w' w.heap.size 44 v (runsL s p b) ∧ Below w.heap.size w w' := by
  have hal := ats_len s
  have hmf : ∀ (fn : Fn) (first cap : Array Value) (w : World), (Instr.makeFunc fn first cap).run Tryd.prog w = .ok (.func fn first cap) w := fun _ _ _ _ => rfl
  obtain ⟨e1, hp⟩ := h1
  obtain ⟨e2, hb⟩ := h2
  have Hp := Lib.hid hp
  have Hb := Lib.hid hb
  have HT := Lib.hid hT
  clear hp hb hT
  refine (callsIn_wide (n := 6)).1 ?_
  refine callsIn_of_wp_marks Tryd.func37 rfl trivial ?_ rfl
  simp only [Tryd.ntmps37, List.size_toArray, List.length_cons, List.length_nil, Nat.reduceAdd, Nat.reduceSub, Array.replicate_succ, Array.replicate_zero, List.push_toArray, List.append_toArray, List.nil_append, List.cons_append]
  gi_wp2_with (refine ⟨trivial, ?_⟩; gi_at_call 57; refine (callsIn_wide.2 (runes_any s _)).mono ?_; rintro e w2 ⟨rfl, rfl⟩)
  have bT := ((((((Boxed.new (w) 9 (.string s)).alloc (.cells #[.func (.func k1) #[] lb1] 73)).alloc (.cells #[.func (.func k2) #[] lb2] 73)).alloc (.cells #[.slice none 0 0] 34)).alloc (.cells #[.int .i64 (-1)] 3)).alloc (.cells #[.func (.func 56) #[] #[.pointer (some ⟨w.heap.size + 1 + 1 + 1 + 1, 0, none⟩), .pointer (some ⟨w.heap.size + 1 + 1 + 1, 0, none⟩), .pointer (some ⟨w.heap.size, 0, none⟩)]] 86)).alloc (.cells #[.string s] 9)
  have bM := (((((Boxed.new ((w).alloc (.cells #[.string s] 9)) 73 (.func (.func k1) #[] lb1)).alloc (.cells #[.func (.func k2) #[] lb2] 73)).alloc (.cells #[.slice none 0 0] 34)).alloc (.cells #[.int .i64 (-1)] 3)).alloc (.cells #[.func (.func 56) #[] #[.pointer (some ⟨w.heap.size + 1 + 1 + 1 + 1, 0, none⟩), .pointer (some ⟨w.heap.size + 1 + 1 + 1, 0, none⟩), .pointer (some ⟨w.heap.size, 0, none⟩)]] 86)).alloc (.cells #[.string s] 9)
  have bB := ((((Boxed.new (((w).alloc (.cells #[.string s] 9)).alloc (.cells #[.func (.func k1) #[] lb1] 73)) 73 (.func (.func k2) #[] lb2)).alloc (.cells #[.slice none 0 0] 34)).alloc (.cells #[.int .i64 (-1)] 3)).alloc (.cells #[.func (.func 56) #[] #[.pointer (some ⟨w.heap.size + 1 + 1 + 1 + 1, 0, none⟩), .pointer (some ⟨w.heap.size + 1 + 1 + 1, 0, none⟩), .pointer (some ⟨w.heap.size, 0, none⟩)]] 86)).alloc (.cells #[.string s] 9)
  have bO := (((Boxed.new ((((w).alloc (.cells #[.string s] 9)).alloc (.cells #[.func (.func k1) #[] lb1] 73)).alloc (.cells #[.func (.func k2) #[] lb2] 73)) 34 (.slice none 0 0)).alloc (.cells #[.int .i64 (-1)] 3)).alloc (.cells #[.func (.func 56) #[] #[.pointer (some ⟨w.heap.size + 1 + 1 + 1 + 1, 0, none⟩), .pointer (some ⟨w.heap.size + 1 + 1 + 1, 0, none⟩), .pointer (some ⟨w.heap.size, 0, none⟩)]] 86)).alloc (.cells #[.string s] 9)
  have bF := ((Boxed.new (((((w).alloc (.cells #[.string s] 9)).alloc (.cells #[.func (.func k1) #[] lb1] 73)).alloc (.cells #[.func (.func k2) #[] lb2] 73)).alloc (.cells #[.slice none 0 0] 34)) 3 (.int .i64 (-1))).alloc (.cells #[.func (.func 56) #[] #[.pointer (some ⟨w.heap.size + 1 + 1 + 1 + 1, 0, none⟩), .pointer (some ⟨w.heap.size + 1 + 1 + 1, 0, none⟩), .pointer (some ⟨w.heap.size, 0, none⟩)]] 86)).alloc (.cells #[.string s] 9)
  have bE := (Boxed.new ((((((w).alloc (.cells #[.string s] 9)).alloc (.cells #[.func (.func k1) #[] lb1] 73)).alloc (.cells #[.func (.func k2) #[] lb2] 73)).alloc (.cells #[.slice none 0 0] 34)).alloc (.cells #[.int .i64 (-1)] 3)) 86 (.func (.func 56) #[] #[.pointer (some ⟨w.heap.size + 1 + 1 + 1 + 1, 0, none⟩), .pointer (some ⟨w.heap.size + 1 + 1 + 1, 0, none⟩), .pointer (some ⟨w.heap.size, 0, none⟩)])).alloc (.cells #[.string s] 9)
  have bR := Boxed.new (((((((w).alloc (.cells #[.string s] 9)).alloc (.cells #[.func (.func k1) #[] lb1] 73)).alloc (.cells #[.func (.func k2) #[] lb2] 73)).alloc (.cells #[.slice none 0 0] 34)).alloc (.cells #[.int .i64 (-1)] 3)).alloc (.cells #[.func (.func 56) #[] #[.pointer (some ⟨w.heap.size + 1 + 1 + 1 + 1, 0, none⟩), .pointer (some ⟨w.heap.size + 1 + 1 + 1, 0, none⟩), .pointer (some ⟨w.heap.size, 0, none⟩)]] 86)) 9 (.string s)
  simp only [World.size_alloc] at bT bM bB bO bF bE bR
  have hB0 : Below w.heap.size w ((((((((w).alloc (.cells #[.string s] 9)).alloc (.cells #[.func (.func k1) #[] lb1] 73)).alloc (.cells #[.func (.func k2) #[] lb2] 73)).alloc (.cells #[.slice none 0 0] 34)).alloc (.cells #[.int .i64 (-1)] 3)).alloc (.cells #[.func (.func 56) #[] #[.pointer (some ⟨w.heap.size + 1 + 1 + 1 + 1, 0, none⟩), .pointer (some ⟨w.heap.size + 1 + 1 + 1, 0, none⟩), .pointer (some ⟨w.heap.size, 0, none⟩)]] 86)).alloc (.cells #[.string s] 9)) := (((((((Below.refl _ w).alloc (Nat.le_refl _) _).alloc (by simp <;> omega) _).alloc (by simp <;> omega) _).alloc (by simp <;> omega) _).alloc (by simp <;> omega) _).alloc (by simp <;> omega) _).alloc (by simp <;> omega) _
  have hsz : ((((((((w).alloc (.cells #[.string s] 9)).alloc (.cells #[.func (.func k1) #[] lb1] 73)).alloc (.cells #[.func (.func k2) #[] lb2] 73)).alloc (.cells #[.slice none 0 0] 34)).alloc (.cells #[.int .i64 (-1)] 3)).alloc (.cells #[.func (.func 56) #[] #[.pointer (some ⟨w.heap.size + 1 + 1 + 1 + 1, 0, none⟩), .pointer (some ⟨w.heap.size + 1 + 1 + 1, 0, none⟩), .pointer (some ⟨w.heap.size, 0, none⟩)]] 86)).alloc (.cells #[.string s] 9)).heap.size = w.heap.size + 7 := by simp
  obtain ⟨W0, hW0⟩ : ∃ W0, (((((((w).alloc (.cells #[.string s] 9)).alloc (.cells #[.func (.func k1) #[] lb1] 73)).alloc (.cells #[.func (.func k2) #[] lb2] 73)).alloc (.cells #[.slice none 0 0] 34)).alloc (.cells #[.int .i64 (-1)] 3)).alloc (.cells #[.func (.func 56) #[] #[.pointer (some ⟨w.heap.size + 1 + 1 + 1 + 1, 0, none⟩), .pointer (some ⟨w.heap.size + 1 + 1 + 1, 0, none⟩), .pointer (some ⟨w.heap.size, 0, none⟩)]] 86)).alloc (.cells #[.string s] 9) = W0 := ⟨_, rfl⟩
  rw [hW0] at bT bM bB bO bF bE bR hB0 hsz ⊢
  clear hW0
  have hI0 : RunI s k1 k2 lb1 lb2 p b w [] W0 := ⟨⟨_, bO, Own.nil _ _ _ _⟩, bF, bT, bM, bB, bE, hB0, by omega⟩
  refine wpIn_rangeFunc_ok (n := 6) (F := Fence.wide) rfl (by omega) (gf := 71) (lb := #[.pointer (some ⟨w.heap.size + 1 + 1 + 1 + 1 + 1 + 1, 0, none⟩)]) rfl trivial (enters_of Tryd.func71 (by kernel_rfl) rfl)
    (runes_stops w.heap.size (w.heap.size + 1 + 1 + 1 + 1 + 1 + 1) s (by omega) w HT.out rfl (6 - 1) (by omega) W0 hB0 bR) KeepsS.trans (KeepsS.putObj hB0.size) (Below.refl _ _) (fun _ => rfl)
    (RunI s k1 k2 lb1 lb2 p b w)
    (fun _ _ _ => False)
    (RunI.from_ s k1 k2 lb1 lb2 p b w _ hB0.size)
    (fun _ _ _ _ _ hs _ _ => hs)
    hI0
    (fun x a' _ => a' = { tmps := #[.string s, .func (.func k1) #[] lb1, .func (.func k2) #[] lb2, .pointer (some ⟨w.heap.size, 0, none⟩), .pointer (some ⟨w.heap.size + 1, 0, none⟩), .pointer (some ⟨w.heap.size + 1 + 1, 0, none⟩), .slice none 0 0, .pointer (some ⟨w.heap.size + 1 + 1 + 1, 0, none⟩), .pointer (some ⟨w.heap.size + 1 + 1 + 1 + 1, 0, none⟩), .pointer (some ⟨w.heap.size + 1 + 1 + 1 + 1 + 1, 0, none⟩), .int .i64 x, .int .i32 (rn s x), (.func (.func 56) #[] #[.pointer (some ⟨w.heap.size + 1 + 1 + 1 + 1, 0, none⟩), .pointer (some ⟨w.heap.size + 1 + 1 + 1, 0, none⟩), .pointer (some ⟨w.heap.size, 0, none⟩)]), .string s, .func (.func 71) #[] #[.pointer (some ⟨w.heap.size + 1 + 1 + 1 + 1 + 1 + 1, 0, none⟩)], .int .i64 x, .int .i32 (rn s x), undef, undef, undef, undef, undef, undef, undef, undef, undef, undef, undef, undef, undef, undef, undef, undef, undef, undef, undef, undef, undef, undef], defers := [] })
    (fun x a' _ X Y row hs hg hr => hs)
    ?assign ?body ?done ?stop
  case assign =>
    rintro l pre x W K hI hK
    simp only [runeEnc] at hK ⊢
    gi_wp2
    exact hK _ _ ((KeepsOthers.refl _).from _) ⟨Below.refl _ W, fun _ h => h⟩ hI rfl
  case body =>
    rintro l pre x a' W hl ⟨r, hr⟩ hI rfl hok
    have hx : x < s.size := ats_lt (hok.subset (by simp))
    have hpl : pre.length ≤ s.size := by
      have h1 := hok.length_le
      simp at h1
      omega
    have hrn := rn_le s x
    have hsn := runSt_snoc s p b pre x
    have hlen := runSt_len s p b pre
    have hmem := runSt_mem s p b pre
    have hbef := ats_before hok
    have hB := hI.2.2.2.2.2.2.1
    have cM := hI.2.2.2.1.cell
    have HI := Lib.hid hI
    have HB := Lib.hid hB
    have hS : w.heap.size + 7 ≤ W.heap.size := hI.2.2.2.2.2.2.2
    obtain ⟨toks, fr, hst⟩ : ∃ toks fr, runSt s p b pre = (toks, fr) := ⟨_, _, rfl⟩
    rw [hst] at hsn hlen hmem
    have hmem' : ∀ f, fr = some f → f < x := fun f h => hbef f (hmem f h)
    have Hst := Lib.hid hst
    have Hsn := Lib.hid hsn
    have Hmem := Lib.hid hmem'
    simp only at hlen
    clear hI hB hok hr hst hsn hmem hmem' hbef bT bM bB bO bF bE bR hI0
    have hn1 : 1 ≤ 6 - 1 - 1 := by omega
    rcases hpv : p (rn s x : Int) with _ | _
    · have Hpv := Lib.hid hpv
      have hfin : stepRun s p b (toks, fr) x = (endTok s toks fr x, none) := by simp [stepRun, hpv]
      have Hfin := Lib.hid hfin
      clear hpv hfin
      cases fr with
      | none =>
        gi_wp2_with fail
        refine ⟨trivial, ?_⟩
        refine (CallsIn.inRound l (callsIn_wide.2 (Hp.out W (rn s x : Int) HB.out (by omega) (by omega)))).mono ?_
        rw [Hpv.out]
        rintro e w3 ⟨rfl, hb3⟩
        have hI3 := HI.out.on hb3
        obtain ⟨A3, c3, bO, oO, bF, bT, bM, bB, bE, hB3, hS3⟩ := hI3.parts Hst.out
        rw [show frI none = -1 from rfl] at bF
        have cF := bF.cell
        have fF := bF.frozen
        have cE := bE.cell
        have cB := bB.cell
        have Hb3 := Lib.hid hb3
        have HI3 := Lib.hid hI3
        have BO3 := Lib.hid bO
        have BF3 := Lib.hid bF
        have BT3 := Lib.hid bT
        have BM3 := Lib.hid bM
        have BB3 := Lib.hid bB
        have BE3 := Lib.hid bE
        have OO3 := Lib.hid oO
        have HB3 := Lib.hid hB3
        clear hb3 hI3 bO oO bF bT bM bB bE hB3
        gi_wp2_with fail
        refine ⟨trivial, ?_⟩
        refine (CallsIn.inRound l (callsIn_wide.2 (end_none (x : Int) _ _ _ _ BF3.out))).mono ?_
        rintro e w4 ⟨rfl, rfl⟩
        gi_wp2
        exact RunI.finish _ HI.out Hb3.out (KeepsBut.set ⟨w.heap.size + 1 + 1 + 1 + 1, 0, none⟩ (by simp) _ _) ((Below.refl _ w3).setCell (p := ⟨w.heap.size + 1 + 1 + 1 + 1, 0, none⟩) (by simp; omega) _) (Hsn.out.trans Hfin.out) ⟨_, Boxed.other BO3.out (by omega) _, own_flat OO3.out (grownBy_setC _ _ _) (own_ne_box OO3.out BF3.out (by decide))⟩ (BF3.out.set _)
      | some f =>
        have hfx := Hmem.out f rfl
        gi_wp2_with fail
        refine ⟨trivial, ?_⟩
        refine (CallsIn.inRound l (callsIn_wide.2 (Hp.out W (rn s x : Int) HB.out (by omega) (by omega)))).mono ?_
        rw [Hpv.out]
        rintro e w3 ⟨rfl, hb3⟩
        have hI3 := HI.out.on hb3
        obtain ⟨A3, c3, bO, oO, bF, bT, bM, bB, bE, hB3, hS3⟩ := hI3.parts Hst.out
        rw [show frI (some f) = (f : Int) from rfl] at bF
        have cF := bF.cell
        have fF := bF.frozen
        have cE := bE.cell
        have cB := bB.cell
        have Hb3 := Lib.hid hb3
        have HI3 := Lib.hid hI3
        have BO3 := Lib.hid bO
        have BF3 := Lib.hid bF
        have BT3 := Lib.hid bT
        have BM3 := Lib.hid bM
        have BB3 := Lib.hid bB
        have BE3 := Lib.hid bE
        have OO3 := Lib.hid oO
        have HB3 := Lib.hid hB3
        clear hb3 hI3 bO oO bF bT bM bB bE hB3
        gi_wp2_with fail
        refine ⟨trivial, ?_⟩
        refine (CallsIn.inRound l (callsIn_wide.2 (end_some s x f (by omega) (by omega) (by omega) toks w.heap.size _ _ _ _ w3 (by omega) (by omega) (by omega) (by omega) BF3.out BO3.out BT3.out OO3.out (by omega)))).mono ?_
        rintro e w4 ⟨rfl, v4, f4, o4, ow4, b4, kb4⟩
        gi_wp2
        exact RunI.finish _ HI.out Hb3.out kb4 b4 (Hsn.out.trans Hfin.out) ⟨_, o4, ow4⟩ f4
    · have Hpv := Lib.hid hpv
      cases fr with
      | none =>
        rcases hbv : b (rn s x : Int) with _ | _
        · have Hbv := Lib.hid hbv
          have hfin : stepRun s p b (toks, none) x = (toks, none) := by simp [stepRun, hpv, hbv]
          have Hfin := Lib.hid hfin
          clear hpv hbv hfin
          gi_wp2_with fail
          refine ⟨trivial, ?_⟩
          refine (CallsIn.inRound l (callsIn_wide.2 (Hp.out W (rn s x : Int) HB.out (by omega) (by omega)))).mono ?_
          rw [Hpv.out]
          rintro e w3 ⟨rfl, hb3⟩
          have hI3 := HI.out.on hb3
          obtain ⟨A3, c3, bO, oO, bF, bT, bM, bB, bE, hB3, hS3⟩ := hI3.parts Hst.out
          rw [show frI none = -1 from rfl] at bF
          have cF := bF.cell
          have fF := bF.frozen
          have cE := bE.cell
          have cB := bB.cell
          have Hb3 := Lib.hid hb3
          have HI3 := Lib.hid hI3
          have BO3 := Lib.hid bO
          have BF3 := Lib.hid bF
          have BT3 := Lib.hid bT
          have BM3 := Lib.hid bM
          have BB3 := Lib.hid bB
          have BE3 := Lib.hid bE
          have OO3 := Lib.hid oO
          have HB3 := Lib.hid hB3
          clear hb3 hI3 bO oO bF bT bM bB bE hB3
          gi_wp2_with fail
          refine ⟨trivial, ?_⟩
          refine (CallsIn.inRound l (callsIn_wide.2 (Hb.out w3 (rn s x : Int) HB3.out (by omega) (by omega)))).mono ?_
          rw [Hbv.out]
          rintro e w4 ⟨rfl, hb3⟩
          have hI3 := HI3.out.on hb3
          obtain ⟨A4, c4, bO, oO, bF, bT, bM, bB, bE, hB3, hS4⟩ := hI3.parts Hst.out
          rw [show frI none = -1 from rfl] at bF
          have cF := bF.cell
          have fF := bF.frozen
          have cE := bE.cell
          have cB := bB.cell
          have Hb4 := Lib.hid hb3
          have HI4 := Lib.hid hI3
          have BO4 := Lib.hid bO
          have BF4 := Lib.hid bF
          have BT4 := Lib.hid bT
          have BM4 := Lib.hid bM
          have BB4 := Lib.hid bB
          have BE4 := Lib.hid bE
          have OO4 := Lib.hid oO
          have HB4 := Lib.hid hB3
          clear hb3 hI3 bO oO bF bT bM bB bE hB3
          gi_wp2
          exact RunI.finish _ HI.out (Hb3.out.trans (Hb4.out.mono Hb3.out.size)) (KeepsBut.refl _ _ _) (Below.refl _ _) (Hsn.out.trans Hfin.out) ⟨_, BO4.out, OO4.out⟩ BF4.out
        · have Hbv := Lib.hid hbv
          have hfin : stepRun s p b (toks, none) x = (toks, some x) := by simp [stepRun, hpv, hbv]
          have Hfin := Lib.hid hfin
          clear hpv hbv hfin
          gi_wp2_with fail
          refine ⟨trivial, ?_⟩
          refine (CallsIn.inRound l (callsIn_wide.2 (Hp.out W (rn s x : Int) HB.out (by omega) (by omega)))).mono ?_
          rw [Hpv.out]
          rintro e w3 ⟨rfl, hb3⟩
          have hI3 := HI.out.on hb3
          obtain ⟨A3, c3, bO, oO, bF, bT, bM, bB, bE, hB3, hS3⟩ := hI3.parts Hst.out
          rw [show frI none = -1 from rfl] at bF
          have cF := bF.cell
          have fF := bF.frozen
          have cE := bE.cell
          have cB := bB.cell
          have Hb3 := Lib.hid hb3
          have HI3 := Lib.hid hI3
          have BO3 := Lib.hid bO
          have BF3 := Lib.hid bF
          have BT3 := Lib.hid bT
          have BM3 := Lib.hid bM
          have BB3 := Lib.hid bB
          have BE3 := Lib.hid bE
          have OO3 := Lib.hid oO
          have HB3 := Lib.hid hB3
          clear hb3 hI3 bO oO bF bT bM bB bE hB3
          gi_wp2_with fail
          refine ⟨trivial, ?_⟩
          refine (CallsIn.inRound l (callsIn_wide.2 (Hb.out w3 (rn s x : Int) HB3.out (by omega) (by omega)))).mono ?_
          rw [Hbv.out]
          rintro e w4 ⟨rfl, hb3⟩
          have hI3 := HI3.out.on hb3
          obtain ⟨A4, c4, bO, oO, bF, bT, bM, bB, bE, hB3, hS4⟩ := hI3.parts Hst.out
          rw [show frI none = -1 from rfl] at bF
          have cF := bF.cell
          have fF := bF.frozen
          have cE := bE.cell
          have cB := bB.cell
          have Hb4 := Lib.hid hb3
          have HI4 := Lib.hid hI3
          have BO4 := Lib.hid bO
          have BF4 := Lib.hid bF
          have BT4 := Lib.hid bT
          have BM4 := Lib.hid bM
          have BB4 := Lib.hid bB
          have BE4 := Lib.hid bE
          have OO4 := Lib.hid oO
          have HB4 := Lib.hid hB3
          clear hb3 hI3 bO oO bF bT bM bB bE hB3
          gi_wp2
          exact RunI.finish _ HI.out (Hb3.out.trans (Hb4.out.mono Hb3.out.size)) (KeepsBut.set ⟨w.heap.size + 1 + 1 + 1 + 1, 0, none⟩ (by simp) _ _) ((Below.refl _ w4).setCell (p := ⟨w.heap.size + 1 + 1 + 1 + 1, 0, none⟩) (by simp; omega) _) (Hsn.out.trans Hfin.out) ⟨_, Boxed.other BO4.out (by omega) _, own_flat OO4.out (grownBy_setC _ _ _) (own_ne_box OO4.out BF4.out (by decide))⟩ (BF4.out.set _)
      | some f =>
        have hfx := Hmem.out f rfl
        have hf0 : decide ((f : Int) < 0) = false := by simp
        have hfin : stepRun s p b (toks, some f) x = (toks, some f) := by simp [stepRun, hpv]
        have Hfin := Lib.hid hfin
        clear hpv hfin
        gi_wp2_with fail
        refine ⟨trivial, ?_⟩
        refine (CallsIn.inRound l (callsIn_wide.2 (Hp.out W (rn s x : Int) HB.out (by omega) (by omega)))).mono ?_
        rw [Hpv.out]
        rintro e w3 ⟨rfl, hb3⟩
        have hI3 := HI.out.on hb3
        obtain ⟨A3, c3, bO, oO, bF, bT, bM, bB, bE, hB3, hS3⟩ := hI3.parts Hst.out
        rw [show frI (some f) = (f : Int) from rfl] at bF
        have cF := bF.cell
        have fF := bF.frozen
        have cE := bE.cell
        have cB := bB.cell
        have Hb3 := Lib.hid hb3
        have HI3 := Lib.hid hI3
        have BO3 := Lib.hid bO
        have BF3 := Lib.hid bF
        have BT3 := Lib.hid bT
        have BM3 := Lib.hid bM
        have BB3 := Lib.hid bB
        have BE3 := Lib.hid bE
        have OO3 := Lib.hid oO
        have HB3 := Lib.hid hB3
        clear hb3 hI3 bO oO bF bT bM bB bE hB3
        gi_wp2
        refine ⟨fun _ h => (by cases h), ?_⟩
        gi_wp2
        exact RunI.finish _ HI.out Hb3.out (KeepsBut.refl _ _ _) (Below.refl _ _) (Hsn.out.trans Hfin.out) ⟨_, BO3.out, OO3.out⟩ BF3.out
  case done =>
    rintro D ys W hD rfl hI hK
    have hlen := runSt_len s p b (ats s)
    have hmem := runSt_mem s p b (ats s)
    obtain ⟨toks, fr, hst⟩ : ∃ toks fr, runSt s p b (ats s) = (toks, fr) := ⟨_, _, rfl⟩
    have hfin : runsL s p b = endTok s toks fr s.size := by unfold runsL; rw [hst]
    rw [hst] at hlen hmem
    obtain ⟨A3, c3, bO, oO, bF, bT, bM, bB, bE, hB3, hS3⟩ := hI.parts hst
    have cE := bE.cell
    have cT := bT.cell
    have HI := Lib.hid hI
    have BO := Lib.hid bO
    have BF := Lib.hid bF
    have BT := Lib.hid bT
    have BE := Lib.hid bE
    have OO := Lib.hid oO
    have HB3 := Lib.hid hB3
    have HK := Lib.hid hK
    have Hfin := Lib.hid hfin
    have Hmem : Hid (∀ f, fr = some f → f < s.size) := fun f h => ats_lt (hmem f h)
    simp only at hlen
    clear hI bO bF bM bB bE oO hB3 hK hst hfin hmem bR hI0 hB0
    cases fr with
    | none =>
      gi_wp2_with fail
      refine ⟨trivial, ?_⟩
      refine (callsIn_wide.2 (end_none (s.size : Int) _ _ _ _ BF.out)).mono ?_
      rintro e w4 ⟨rfl, rfl⟩
      have cO := (Boxed.other BO.out (show w.heap.size + 1 + 1 + 1 ≠ w.heap.size + 1 + 1 + 1 + 1 by omega) (.int .i64 (-1))).cell
      have oO := own_flat OO.out (grownBy_setC W ⟨w.heap.size + 1 + 1 + 1 + 1, 0, none⟩ (.int .i64 (-1))) (own_ne_box OO.out BF.out (by decide))
      have hk4 := (KeepsBut.set (e := 44) (bs := [w.heap.size + 1 + 1 + 1 + 1]) ⟨w.heap.size + 1 + 1 + 1 + 1, 0, none⟩ (by simp) (.int .i64 (-1)) W).2 D _ HK.out (by
        intro hm; simp only [List.mem_cons, List.not_mem_nil, or_false] at hm; subst hm; have := HK.out; rw [show W.heap[_]? = _ from BF.out] at this; cases this) (fun c fz e => by cases e)
      have hb4 : Below w.heap.size w (W.setCell ⟨w.heap.size + 1 + 1 + 1 + 1, 0, none⟩ (.int .i64 (-1))) := HB3.out.setCell (p := ⟨w.heap.size + 1 + 1 + 1 + 1, 0, none⟩) (by simp; omega) _
      have OO4 := Lib.hid oO
      have HK4 := Lib.hid hk4
      have Hb4 := Lib.hid hb4
      clear oO hk4 hb4
      gi_wp2
      refine ⟨by simp, .inl ⟨_, _, rfl, run_takeDeferred HK4.out, ?_⟩⟩
      refine ⟨_, results_tmp rfl _ _ _, _, rfl, ?_, Hb4.out.trans (belowK_b (w := w) (Nat.le_refl _) _ D _ _ (by omega) HK4.out rfl rfl)⟩
      rw [Hfin.out]
      exact own_flat OO4.out (grownBy_putObj' _ D (.deferred none)) (own_ne_other OO4.out (fun r e => by cases e; exact ⟨_, HK4.out, rfl⟩))
    | some f =>
      have hfx := Hmem.out f rfl
      gi_wp2_with fail
      refine ⟨trivial, ?_⟩
      refine (callsIn_wide.2 (end_some s s.size f (by omega) (by omega) (by omega) toks w.heap.size _ _ _ _ W (by omega) (by omega) (by omega) (by omega) BF.out BO.out BT.out OO.out (by omega))).mono ?_
      rintro e w4 ⟨rfl, v4, f4, o4, ow4, b4, kb4⟩
      obtain ⟨A4, c4, rfl⟩ := ow4.form
      rw [show (toks ++ [(⟨s.extract f s.size, toks.length, f, s.size⟩ : Token)]).length = toks.length + 1 by simp] at ow4 o4
      have cO := o4.cell
      have hk4 := kb4.2 D _ HK.out (by
        intro hm; simp only [List.mem_cons, List.not_mem_nil, or_false] at hm
        have := HK.out
        rcases hm with rfl | rfl
        · rw [show W.heap[_]? = _ from BF.out] at this; cases this
        · rw [show W.heap[_]? = _ from BO.out] at this; cases this) (fun c fz e => by cases e)
      have OO4 := Lib.hid ow4
      have HK4 := Lib.hid hk4
      have Hb4 := Lib.hid (HB3.out.trans b4)
      clear f4 o4 ow4 b4 kb4 hk4
      gi_wp2
      refine ⟨by simp, .inl ⟨_, _, rfl, run_takeDeferred HK4.out, ?_⟩⟩
      refine ⟨_, results_tmp rfl _ _ _, _, rfl, ?_, Hb4.out.trans (belowK_b (w := w) (Nat.le_refl _) _ D _ _ (by omega) HK4.out rfl rfl)⟩
      rw [Hfin.out]
      exact own_flat OO4.out (grownBy_putObj' _ D (.deferred none)) (own_ne_other OO4.out (fun r e => by cases e; exact ⟨_, HK4.out, rfl⟩))
  case stop =>
    rintro D c pre W _ _ h _
    exact h.elim
end Go.Proofs.YtajgoffeahfmfaaDoor

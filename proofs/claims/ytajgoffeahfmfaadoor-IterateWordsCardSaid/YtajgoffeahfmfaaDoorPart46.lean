/- The texts ROne of IterateWords, joined by program (tools/merge.py): walks of the functions that the law reaches, and plain facts; no condition. -/
import Derived.Test.YtajgoffeahfmfaaDoorPart43
import Derived.Test.YtajgoffeahfmfaaDoorPart45
import Derived.Test.YtajgoffeahfmfaaDoorPart22
import Derived.Test.YtajgoffeahfmfaaDoorPart23
set_option linter.unusedVariables false
set_option linter.unusedSimpArgs false

/- The walk of lecternref06.one. (Written by tools/gen_rone.py.) -/
namespace Go.Proofs.YtajgoffeahfmfaaDoor
open Rep (rep)
open Go.RowKit

def grR (s : ByteArray) (p : List Nat) (n : Nat) : Nat → List ByteArray
  | 0 => []
  | j + 1 => grR s p n j ++ [s.extract (p[j]?.getD 0) (p[j + n]?.getD 0)]
def grS (n : Nat) (s : ByteArray) : List ByteArray := if (places s).length ≤ n + 1 then [s] else grR s (places s) n ((places s).length - n)
def oneR (number : Int) (s : ByteArray) : List ByteArray :=
  if number = 10 then [foldS s] else if number = 11 then (if stopB s then [] else [s]) else if number = 12 then grS 2 s else if number = 13 then grS 3 s
  else if number = 14 then (if 17 < (places s).length then [s.extract 0 ((places s)[16]?.getD 0)] else [s])
  else if number = 15 then (if marksL s = [] then [] else [⟨(marksL s).toArray⟩]) else [s]
theorem grR_len (s : ByteArray) (p : List Nat) (n j : Nat) : (grR s p n j).length = j := by
  induction j with
  | zero => rfl
  | succ j ih => simp [grR, ih]
theorem one_text (w : World) (base : Nat) (hb : base ≤ w.heap.size) (x : ByteArray) (hx : x.size ≤ 9223372036854775807) : Own Flat (w.alloc (.cells #[.string x] 9)) base 9 (.slice (some ⟨w.heap.size, 0, none⟩) 1 1) [x] := by
  refine ⟨[[.string x]], rfl, fun k cs y h1 h2 => ?_, ?_⟩
  · have hk := lt_of_get? h2
    simp at hk
    subst hk
    simp at h1 h2
    subst h1 h2
    exact ⟨rfl, hx⟩
  · have := World.ownsRow_lit (base := base) (e := 9) (size := 1) w #[.string x] 1 hb (by simp [maxLen]) (by simp)
    exact this
theorem str_info : (Tryd.prog.info? 9).map (fun i => (i.zero, i.size, i.bytes)) = some (some (.string ⟨#[]⟩), 1, 16) := by kernel_rfl
theorem foldS_size (s : ByteArray) : (foldS s).size ≤ 4 * s.size := by
  have h1 := flat_len s (ats s)
  have h2 := ats_len s
  have : (foldS s).size = (foldL s).length := by simp [foldS, ByteArray.size]
  rw [this]; unfold foldL; omega
theorem marksS_size (s : ByteArray) : (ByteArray.mk (marksL s).toArray).size ≤ s.size := by
  have h1 := marksTo_len s ((places s).length - 1) s.size (by simp [places])
  have : (ByteArray.mk (marksL s).toArray).size = (marksL s).length := by simp [ByteArray.size]
  rw [this]; exact h1

/-- append(b, text...), in a region that draws its order. -/
theorem step_text {w : World} {ops : Array Oper} {o : Oper} {a : Act} {K : Act → World → Prop} {Q : Exit → Act → World → Prop} {E : Prop} (hgd : o.guard = none) (sl x : Operand) (ho : o.op = .call { callee := .builtin .append, args := #[sl, x], argTypes := #[84, 9] })
    (base : Nat) (v : Value) (l : List UInt8) (hs : a.eval sl = v) (hown : BRow w base v l) (s : ByteArray) (hx : a.eval x = .string s) (hlen : l.length + s.size ≤ 140737488355328) (hbase : base ≤ w.heap.size)
    (h : ∀ A n c w', BRow w' base (.slice A n c) (l ++ s.data.toList) → w.grownBy w' v.ownBlock → Below base w w' → K (a.put o.dst (.slice A n c)) w') :
    if Region.wanted o (yielded ops a.tmps) = true then Oper.wp Tryd.prog o a w K Q else E := by
  have hw : Region.wanted o (yielded ops a.tmps) = true := by simp [Region.wanted, hgd]
  rw [if_pos hw]
  obtain ⟨i0, hi, hz0, hz1, hz2⟩ := info_parts byte_info
  obtain ⟨v', w', hr, h2, h3, h4⟩ := Lib.run_append_own_string (P := Tryd.prog) w base 84 9 o.type 5 i0 Tryd.underlying84 Tryd.underlying9 hi hz0 hz1 hz2 v l.length (Lib.byteCells l) hown s (by unfold maxLen; omega) hlen hbase
  rw [Lib.strCells_eq, ← Lib.byteCells_append, Lib.size_eq, ← List.length_append] at h2
  obtain ⟨A, c, rfl⟩ := BRow.form h2
  unfold Oper.wp execOp
  simp only [ho, resolve, invoke, builtin, Sem.run_bind, Sem.run_pure, Result.andThen_ok, List.map_toArray, List.map_cons, List.map_nil, hs, hx, hr]
  exact h A _ c w' h2 h3 (below_of_own hbase hown.from_ h3)

set_option maxRecDepth 100000 in
set_option maxHeartbeats 2000000 in
theorem one10 (s : ByteArray) (hs : s.size ≤ 1000000000) (w : World) :
    Calls Tryd.prog 44 #[.int .i64 10, .string s] w fun e w' => ∃ v, e = .returned v ∧ Own Flat w' w.heap.size 9 v ([foldS s]) ∧ Below w.heap.size w w' := by
  obtain ⟨i1, hi1, hy0, hy1, hy2⟩ := info_parts int_info
  have hal := ats_len s
  obtain ⟨n, hn⟩ : ∃ n, (ats s).length = n := ⟨_, rfl⟩
  rw [hn] at hal
  have hl1 : (natI (ats s)).length = n := by simp [natI, hn]
  have hl2 : (i32s (rnI s (ats s))).length = n := by simp [i32s, rnI, hn]
  have hpl : (places s).length = n + 1 := by rw [places_last, hn]
  have Hl1 := Lib.hid hl1
  have Hl2 := Lib.hid hl2
  have Hpl := Lib.hid hpl
  have Hn := Lib.hid hn
  clear hl1 hl2 hpl hn
  go_enter Tryd.func44, Tryd.ntmps44
  go_wp2_with fail
  refine (rrunes_any s (by omega) w).mono ?_
  rintro e w1 ⟨v1, u1, rfl, ov, ou, hb1⟩
  obtain ⟨A1, c1, rfl⟩ := ov.form
  obtain ⟨A2, c2, rfl⟩ := ou.form
  rw [Hl1.out] at ov ⊢
  rw [Hl2.out] at ou ⊢
  have Hov := Lib.hid ov
  have Hou := Lib.hid ou
  have Hb1 := Lib.hid hb1
  have hs1 := hb1.size
  clear ov ou hb1
  go_wp2_with (first
            | (at_builtin
               refine wpList_pushF rfl (.tmp 18) (.tmp 21) _ rfl w.heap.size 3 i1 _ 8 Tryd.underlying49 hi1 hy0 hy1 hy2 rfl (.slice A1 n c1) (natI (ats s)) rfl (Hov.out.alloc (.cells #[.int .i64 (s.size : Int)] 3)) _ #[.int .i64 (s.size : Int)] (s.size : Int) rfl (Blk.new _ _ _) ⟨rfl, by unfold In64; omega⟩ (by rw [Hl1.out]; omega) (by rw [Hl1.out]; omega) (by simp; omega) ?_
               rw [Hl1.out, ← natI_snoc]
               intro A3 c3 w3 ho3 hg3 hb3
               have hou3 := own_flat (Hou.out.alloc (.cells #[.int .i64 (s.size : Int)] 3)) hg3 (own_ne_own (Hou.out.alloc (.cells #[.int .i64 (s.size : Int)] 3)) (Hov.out.alloc (.cells #[.int .i64 (s.size : Int)] 3)) (by decide))
               have hs3 := hb3.size
               simp only [World.size_alloc] at hs3
               have Hat : Hid (RepList w3 (· < w3.heap.size) A3 (n + 1) c3 (natI (places s))) := ho3.reads.more (fun _ h => h.2)
               have Hru : Hid (RepList w3 (· < w3.heap.size) A2 n c2 (i32s (rnI s (ats s)))) := hou3.reads.more (fun _ h => h.2)
               have Hb3 : Hid (Below w.heap.size w w3) := (Hb1.out.alloc hs1 _).trans hb3
               clear ho3 hou3 hg3 hb3 Hou Hov)
            | (go_at_call 61
               go_must (refine (rfold_any s (by omega) _).mono ?_)
               rintro e w4 ⟨rfl, hb4⟩
               have Hb4 := Lib.hid hb4
               clear hb4)
            )
  go_ret
  have hb5 : Below w.heap.size w w4 := Hb3.out.trans (Hb4.out.mono Hb3.out.size)
  exact ⟨_, rfl, one_text _ _ hb5.size _ (by have := foldS_size s; omega), hb5.alloc hb5.size _⟩

set_option maxRecDepth 100000 in
set_option maxHeartbeats 2000000 in
theorem one11y (s : ByteArray) (hs : s.size ≤ 1000000000) (hst : stopB s = true) (w : World) :
    Calls Tryd.prog 44 #[.int .i64 11, .string s] w fun e w' => ∃ v, e = .returned v ∧ Own Flat w' w.heap.size 9 v (([] : List ByteArray)) ∧ Below w.heap.size w w' := by
  obtain ⟨i1, hi1, hy0, hy1, hy2⟩ := info_parts int_info
  have hal := ats_len s
  obtain ⟨n, hn⟩ : ∃ n, (ats s).length = n := ⟨_, rfl⟩
  rw [hn] at hal
  have hl1 : (natI (ats s)).length = n := by simp [natI, hn]
  have hl2 : (i32s (rnI s (ats s))).length = n := by simp [i32s, rnI, hn]
  have hpl : (places s).length = n + 1 := by rw [places_last, hn]
  have Hl1 := Lib.hid hl1
  have Hl2 := Lib.hid hl2
  have Hpl := Lib.hid hpl
  have Hn := Lib.hid hn
  clear hl1 hl2 hpl hn
  have Hst := Lib.hid hst
  clear hst
  go_enter Tryd.func44, Tryd.ntmps44
  go_wp2_with fail
  refine (rrunes_any s (by omega) w).mono ?_
  rintro e w1 ⟨v1, u1, rfl, ov, ou, hb1⟩
  obtain ⟨A1, c1, rfl⟩ := ov.form
  obtain ⟨A2, c2, rfl⟩ := ou.form
  rw [Hl1.out] at ov ⊢
  rw [Hl2.out] at ou ⊢
  have Hov := Lib.hid ov
  have Hou := Lib.hid ou
  have Hb1 := Lib.hid hb1
  have hs1 := hb1.size
  clear ov ou hb1
  go_wp2_with (first
            | (at_builtin
               refine wpList_pushF rfl (.tmp 18) (.tmp 21) _ rfl w.heap.size 3 i1 _ 8 Tryd.underlying49 hi1 hy0 hy1 hy2 rfl (.slice A1 n c1) (natI (ats s)) rfl (Hov.out.alloc (.cells #[.int .i64 (s.size : Int)] 3)) _ #[.int .i64 (s.size : Int)] (s.size : Int) rfl (Blk.new _ _ _) ⟨rfl, by unfold In64; omega⟩ (by rw [Hl1.out]; omega) (by rw [Hl1.out]; omega) (by simp; omega) ?_
               rw [Hl1.out, ← natI_snoc]
               intro A3 c3 w3 ho3 hg3 hb3
               have hou3 := own_flat (Hou.out.alloc (.cells #[.int .i64 (s.size : Int)] 3)) hg3 (own_ne_own (Hou.out.alloc (.cells #[.int .i64 (s.size : Int)] 3)) (Hov.out.alloc (.cells #[.int .i64 (s.size : Int)] 3)) (by decide))
               have hs3 := hb3.size
               simp only [World.size_alloc] at hs3
               have Hat : Hid (RepList w3 (· < w3.heap.size) A3 (n + 1) c3 (natI (places s))) := ho3.reads.more (fun _ h => h.2)
               have Hru : Hid (RepList w3 (· < w3.heap.size) A2 n c2 (i32s (rnI s (ats s)))) := hou3.reads.more (fun _ h => h.2)
               have Hb3 : Hid (Below w.heap.size w w3) := (Hb1.out.alloc hs1 _).trans hb3
               clear ho3 hou3 hg3 hb3 Hou Hov)
            | (go_at_call 62
               go_must (refine (rstop_any s _).mono ?_)
               rw [Hst.out]
               rintro e w4 ⟨rfl, hb4⟩
               have Hb4 := Lib.hid hb4
               clear hb4)
            )
  go_ret
  have hb5 : Below w.heap.size w w4 := Hb3.out.trans (Hb4.out.mono Hb3.out.size)
  exact ⟨_, rfl, Own.nil _ _ _ _, hb5⟩

set_option maxRecDepth 100000 in
set_option maxHeartbeats 2000000 in
theorem one11n (s : ByteArray) (hs : s.size ≤ 1000000000) (hst : stopB s = false) (w : World) :
    Calls Tryd.prog 44 #[.int .i64 11, .string s] w fun e w' => ∃ v, e = .returned v ∧ Own Flat w' w.heap.size 9 v ([s]) ∧ Below w.heap.size w w' := by
  obtain ⟨i1, hi1, hy0, hy1, hy2⟩ := info_parts int_info
  have hal := ats_len s
  obtain ⟨n, hn⟩ : ∃ n, (ats s).length = n := ⟨_, rfl⟩
  rw [hn] at hal
  have hl1 : (natI (ats s)).length = n := by simp [natI, hn]
  have hl2 : (i32s (rnI s (ats s))).length = n := by simp [i32s, rnI, hn]
  have hpl : (places s).length = n + 1 := by rw [places_last, hn]
  have Hl1 := Lib.hid hl1
  have Hl2 := Lib.hid hl2
  have Hpl := Lib.hid hpl
  have Hn := Lib.hid hn
  clear hl1 hl2 hpl hn
  have Hst := Lib.hid hst
  clear hst
  go_enter Tryd.func44, Tryd.ntmps44
  go_wp2_with fail
  refine (rrunes_any s (by omega) w).mono ?_
  rintro e w1 ⟨v1, u1, rfl, ov, ou, hb1⟩
  obtain ⟨A1, c1, rfl⟩ := ov.form
  obtain ⟨A2, c2, rfl⟩ := ou.form
  rw [Hl1.out] at ov ⊢
  rw [Hl2.out] at ou ⊢
  have Hov := Lib.hid ov
  have Hou := Lib.hid ou
  have Hb1 := Lib.hid hb1
  have hs1 := hb1.size
  clear ov ou hb1
  go_wp2_with (first
            | (at_builtin
               refine wpList_pushF rfl (.tmp 18) (.tmp 21) _ rfl w.heap.size 3 i1 _ 8 Tryd.underlying49 hi1 hy0 hy1 hy2 rfl (.slice A1 n c1) (natI (ats s)) rfl (Hov.out.alloc (.cells #[.int .i64 (s.size : Int)] 3)) _ #[.int .i64 (s.size : Int)] (s.size : Int) rfl (Blk.new _ _ _) ⟨rfl, by unfold In64; omega⟩ (by rw [Hl1.out]; omega) (by rw [Hl1.out]; omega) (by simp; omega) ?_
               rw [Hl1.out, ← natI_snoc]
               intro A3 c3 w3 ho3 hg3 hb3
               have hou3 := own_flat (Hou.out.alloc (.cells #[.int .i64 (s.size : Int)] 3)) hg3 (own_ne_own (Hou.out.alloc (.cells #[.int .i64 (s.size : Int)] 3)) (Hov.out.alloc (.cells #[.int .i64 (s.size : Int)] 3)) (by decide))
               have hs3 := hb3.size
               simp only [World.size_alloc] at hs3
               have Hat : Hid (RepList w3 (· < w3.heap.size) A3 (n + 1) c3 (natI (places s))) := ho3.reads.more (fun _ h => h.2)
               have Hru : Hid (RepList w3 (· < w3.heap.size) A2 n c2 (i32s (rnI s (ats s)))) := hou3.reads.more (fun _ h => h.2)
               have Hb3 : Hid (Below w.heap.size w w3) := (Hb1.out.alloc hs1 _).trans hb3
               clear ho3 hou3 hg3 hb3 Hou Hov)
            | (go_at_call 62
               go_must (refine (rstop_any s _).mono ?_)
               rw [Hst.out]
               rintro e w4 ⟨rfl, hb4⟩
               have Hb4 := Lib.hid hb4
               clear hb4)
            )
  go_ret
  have hb5 : Below w.heap.size w w4 := Hb3.out.trans (Hb4.out.mono Hb3.out.size)
  exact ⟨_, rfl, one_text _ _ hb5.size _ (by omega), hb5.alloc hb5.size _⟩

set_option maxRecDepth 100000 in
set_option maxHeartbeats 2000000 in
theorem one14a (s : ByteArray) (hs : s.size ≤ 1000000000) (h17 : 17 < (places s).length) (w : World) :
    Calls Tryd.prog 44 #[.int .i64 14, .string s] w fun e w' => ∃ v, e = .returned v ∧ Own Flat w' w.heap.size 9 v ([s.extract 0 ((places s)[16]?.getD 0)]) ∧ Below w.heap.size w w' := by
  obtain ⟨i1, hi1, hy0, hy1, hy2⟩ := info_parts int_info
  have hal := ats_len s
  obtain ⟨n, hn⟩ : ∃ n, (ats s).length = n := ⟨_, rfl⟩
  rw [hn] at hal
  have hl1 : (natI (ats s)).length = n := by simp [natI, hn]
  have hl2 : (i32s (rnI s (ats s))).length = n := by simp [i32s, rnI, hn]
  have hpl : (places s).length = n + 1 := by rw [places_last, hn]
  have Hl1 := Lib.hid hl1
  have Hl2 := Lib.hid hl2
  have Hpl := Lib.hid hpl
  have Hn := Lib.hid hn
  clear hl1 hl2 hpl hn
  have hn16 : (16 : Int) < (n : Int) := by have := Hpl.out; omega
  clear h17
  obtain ⟨a, ha⟩ : ∃ a, (places s)[16]? = some a := ⟨_, List.getElem?_eq_getElem (by have := Hpl.out; omega)⟩
  have has : a ≤ s.size := places_le (List.mem_of_getElem? ha)
  rw [ha, Option.getD_some]
  have ha0 : (0 : Int) ≤ (a : Int) := by omega
  have ha1 : (a : Int) ≤ (s.size : Int) := by omega
  have h16 : (16 : Int) < (n : Int) + 1 := by omega
  have h16' : (16 : Int) < ((n + 1 : Nat) : Int) := by omega
  have Ha := Lib.hid ha
  have hxs : (s.extract 0 a).size ≤ s.size := by rw [ByteArray.size_extract]; omega
  clear ha
  go_enter Tryd.func44, Tryd.ntmps44
  go_wp2_with fail
  refine (rrunes_any s (by omega) w).mono ?_
  rintro e w1 ⟨v1, u1, rfl, ov, ou, hb1⟩
  obtain ⟨A1, c1, rfl⟩ := ov.form
  obtain ⟨A2, c2, rfl⟩ := ou.form
  rw [Hl1.out] at ov ⊢
  rw [Hl2.out] at ou ⊢
  have Hov := Lib.hid ov
  have Hou := Lib.hid ou
  have Hb1 := Lib.hid hb1
  have hs1 := hb1.size
  clear ov ou hb1
  go_wp2_with (first
            | (at_builtin
               refine wpList_pushF rfl (.tmp 18) (.tmp 21) _ rfl w.heap.size 3 i1 _ 8 Tryd.underlying49 hi1 hy0 hy1 hy2 rfl (.slice A1 n c1) (natI (ats s)) rfl (Hov.out.alloc (.cells #[.int .i64 (s.size : Int)] 3)) _ #[.int .i64 (s.size : Int)] (s.size : Int) rfl (Blk.new _ _ _) ⟨rfl, by unfold In64; omega⟩ (by rw [Hl1.out]; omega) (by rw [Hl1.out]; omega) (by simp; omega) ?_
               rw [Hl1.out, ← natI_snoc]
               intro A3 c3 w3 ho3 hg3 hb3
               have hou3 := own_flat (Hou.out.alloc (.cells #[.int .i64 (s.size : Int)] 3)) hg3 (own_ne_own (Hou.out.alloc (.cells #[.int .i64 (s.size : Int)] 3)) (Hov.out.alloc (.cells #[.int .i64 (s.size : Int)] 3)) (by decide))
               have hs3 := hb3.size
               simp only [World.size_alloc] at hs3
               have Hat : Hid (RepList w3 (· < w3.heap.size) A3 (n + 1) c3 (natI (places s))) := ho3.reads.more (fun _ h => h.2)
               have Hru : Hid (RepList w3 (· < w3.heap.size) A2 n c2 (i32s (rnI s (ats s)))) := hou3.reads.more (fun _ h => h.2)
               have Hb3 : Hid (Below w.heap.size w w3) := (Hb1.out.alloc hs1 _).trans hb3
               obtain ⟨ba, oa, rfl, hba, _⟩ := Hat.out.2.2.2 _ _ (natI_get Ha.out)
               have ea : _ = _ := (Hat.out.elem (natI_get Ha.out)).2.int.1
               clear ho3 hou3 hg3 hb3 Hou Hov)
            )
  go_ret
  exact ⟨_, rfl, one_text _ _ Hb3.out.size _ (by omega), Hb3.out.alloc Hb3.out.size _⟩

set_option maxRecDepth 100000 in
set_option maxHeartbeats 2000000 in
theorem one14b (s : ByteArray) (hs : s.size ≤ 1000000000) (h17 : ¬ 17 < (places s).length) (w : World) :
    Calls Tryd.prog 44 #[.int .i64 14, .string s] w fun e w' => ∃ v, e = .returned v ∧ Own Flat w' w.heap.size 9 v ([s]) ∧ Below w.heap.size w w' := by
  obtain ⟨i1, hi1, hy0, hy1, hy2⟩ := info_parts int_info
  have hal := ats_len s
  obtain ⟨n, hn⟩ : ∃ n, (ats s).length = n := ⟨_, rfl⟩
  rw [hn] at hal
  have hl1 : (natI (ats s)).length = n := by simp [natI, hn]
  have hl2 : (i32s (rnI s (ats s))).length = n := by simp [i32s, rnI, hn]
  have hpl : (places s).length = n + 1 := by rw [places_last, hn]
  have Hl1 := Lib.hid hl1
  have Hl2 := Lib.hid hl2
  have Hpl := Lib.hid hpl
  have Hn := Lib.hid hn
  clear hl1 hl2 hpl hn
  have hn16 : (n : Int) ≤ 16 := by rw [Hpl.out] at h17; omega
  clear h17
  go_enter Tryd.func44, Tryd.ntmps44
  go_wp2_with fail
  refine (rrunes_any s (by omega) w).mono ?_
  rintro e w1 ⟨v1, u1, rfl, ov, ou, hb1⟩
  obtain ⟨A1, c1, rfl⟩ := ov.form
  obtain ⟨A2, c2, rfl⟩ := ou.form
  rw [Hl1.out] at ov ⊢
  rw [Hl2.out] at ou ⊢
  have Hov := Lib.hid ov
  have Hou := Lib.hid ou
  have Hb1 := Lib.hid hb1
  have hs1 := hb1.size
  clear ov ou hb1
  go_wp2_with (first
            | (at_builtin
               refine wpList_pushF rfl (.tmp 18) (.tmp 21) _ rfl w.heap.size 3 i1 _ 8 Tryd.underlying49 hi1 hy0 hy1 hy2 rfl (.slice A1 n c1) (natI (ats s)) rfl (Hov.out.alloc (.cells #[.int .i64 (s.size : Int)] 3)) _ #[.int .i64 (s.size : Int)] (s.size : Int) rfl (Blk.new _ _ _) ⟨rfl, by unfold In64; omega⟩ (by rw [Hl1.out]; omega) (by rw [Hl1.out]; omega) (by simp; omega) ?_
               rw [Hl1.out, ← natI_snoc]
               intro A3 c3 w3 ho3 hg3 hb3
               have hou3 := own_flat (Hou.out.alloc (.cells #[.int .i64 (s.size : Int)] 3)) hg3 (own_ne_own (Hou.out.alloc (.cells #[.int .i64 (s.size : Int)] 3)) (Hov.out.alloc (.cells #[.int .i64 (s.size : Int)] 3)) (by decide))
               have hs3 := hb3.size
               simp only [World.size_alloc] at hs3
               have Hat : Hid (RepList w3 (· < w3.heap.size) A3 (n + 1) c3 (natI (places s))) := ho3.reads.more (fun _ h => h.2)
               have Hru : Hid (RepList w3 (· < w3.heap.size) A2 n c2 (i32s (rnI s (ats s)))) := hou3.reads.more (fun _ h => h.2)
               have Hb3 : Hid (Below w.heap.size w w3) := (Hb1.out.alloc hs1 _).trans hb3
               clear ho3 hou3 hg3 hb3 Hou Hov)
            )
  go_ret
  exact ⟨_, rfl, one_text _ _ Hb3.out.size _ (by omega), Hb3.out.alloc Hb3.out.size _⟩

set_option maxRecDepth 100000 in
set_option maxHeartbeats 2000000 in
theorem one12a (s : ByteArray) (hs : s.size ≤ 1000000000) (hlen : 2 + 1 < (places s).length) (w : World) :
    Calls Tryd.prog 44 #[.int .i64 12, .string s] w fun e w' => ∃ v, e = .returned v ∧ Own Flat w' w.heap.size 9 v (grR s (places s) 2 ((places s).length - 2)) ∧ Below w.heap.size w w' := by
  obtain ⟨i1, hi1, hy0, hy1, hy2⟩ := info_parts int_info
  have hal := ats_len s
  obtain ⟨n, hn⟩ : ∃ n, (ats s).length = n := ⟨_, rfl⟩
  rw [hn] at hal
  have hl1 : (natI (ats s)).length = n := by simp [natI, hn]
  have hl2 : (i32s (rnI s (ats s))).length = n := by simp [i32s, rnI, hn]
  have hpl : (places s).length = n + 1 := by rw [places_last, hn]
  have Hl1 := Lib.hid hl1
  have Hl2 := Lib.hid hl2
  have Hpl := Lib.hid hpl
  have Hn := Lib.hid hn
  clear hl1 hl2 hpl hn
  have hnl : (2 : Int) < (n : Int) := by rw [Hpl.out] at hlen; omega
  obtain ⟨i3, hi3, hv0, hv1, hv2⟩ := info_parts str_info
  clear hlen
  go_enter Tryd.func44, Tryd.ntmps44
  go_wp2_with fail
  refine (rrunes_any s (by omega) w).mono ?_
  rintro e w1 ⟨v1, u1, rfl, ov, ou, hb1⟩
  obtain ⟨A1, c1, rfl⟩ := ov.form
  obtain ⟨A2, c2, rfl⟩ := ou.form
  rw [Hl1.out] at ov ⊢
  rw [Hl2.out] at ou ⊢
  have Hov := Lib.hid ov
  have Hou := Lib.hid ou
  have Hb1 := Lib.hid hb1
  have hs1 := hb1.size
  clear ov ou hb1
  go_wp2_with (first
            | (at_builtin
               refine wpList_pushF rfl (.tmp 18) (.tmp 21) _ rfl w.heap.size 3 i1 _ 8 Tryd.underlying49 hi1 hy0 hy1 hy2 rfl (.slice A1 n c1) (natI (ats s)) rfl (Hov.out.alloc (.cells #[.int .i64 (s.size : Int)] 3)) _ #[.int .i64 (s.size : Int)] (s.size : Int) rfl (Blk.new _ _ _) ⟨rfl, by unfold In64; omega⟩ (by rw [Hl1.out]; omega) (by rw [Hl1.out]; omega) (by simp; omega) ?_
               rw [Hl1.out, ← natI_snoc]
               intro A3 c3 w3 ho3 hg3 hb3
               have hou3 := own_flat (Hou.out.alloc (.cells #[.int .i64 (s.size : Int)] 3)) hg3 (own_ne_own (Hou.out.alloc (.cells #[.int .i64 (s.size : Int)] 3)) (Hov.out.alloc (.cells #[.int .i64 (s.size : Int)] 3)) (by decide))
               have hs3 := hb3.size
               simp only [World.size_alloc] at hs3
               have Hat : Hid (RepList w3 (· < w3.heap.size) A3 (n + 1) c3 (natI (places s))) := ho3.reads.more (fun _ h => h.2)
               have Hru : Hid (RepList w3 (· < w3.heap.size) A2 n c2 (i32s (rnI s (ats s)))) := hou3.reads.more (fun _ h => h.2)
               have Hb3 : Hid (Below w.heap.size w w3) := (Hb1.out.alloc hs1 _).trans hb3
               clear ho3 hou3 hg3 hb3 Hou Hov)
            )
  go_loopw [9, 10] (fun v i wr => ∃ j : Nat, j + 2 ≤ n + 1 ∧ i = .int .i64 j ∧ Own Flat wr w3.heap.size 9 v (grR s (places s) 2 j) ∧ Below w3.heap.size w3 wr) (fun _ i _ => n + 1 - (intOf i).toNat)
  case atStart => exact ⟨0, by omega, rfl, Own.nil _ _ _ _, Below.refl _ _⟩
  case round =>
    obtain ⟨j, hj, rfl, oo, hbw⟩ := hrel
    obtain ⟨Ao, co, rfl⟩ := oo.form
    have hlj := grR_len s (places s) 2 j
    rw [hlj] at oo ⊢
    have Hlj := Lib.hid hlj
    have Hoo := Lib.hid oo
    have Hbw := Lib.hid hbw
    have hsw := hbw.size
    clear oo hbw hlj
    by_cases hlt : (j : Int) + 2 ≤ (n : Int)
    · obtain ⟨a, ha⟩ : ∃ a, (places s)[j]? = some a := ⟨_, List.getElem?_eq_getElem (by rw [Hpl.out]; omega)⟩
      obtain ⟨b, hb⟩ : ∃ b, (places s)[j + 2]? = some b := ⟨_, List.getElem?_eq_getElem (by rw [Hpl.out]; omega)⟩
      obtain ⟨ba, oa, rfl, hba, _⟩ := (Hat.out.below Hbw.out).2.2.2 _ _ (natI_get ha)
      have ea : _ = _ := ((Hat.out.below Hbw.out).elem (natI_get ha)).2.int.1
      have eb : _ = _ := ((Hat.out.below Hbw.out).elem (natI_get hb)).2.int.1
      have Ha := Lib.hid ha
      have Hb := Lib.hid hb
      have hab : a ≤ b := places_mono ha hb (by omega)
      have hbs : b ≤ s.size := places_le (List.mem_of_getElem? hb)
      have hst : grR s (places s) 2 (j + 1) = grR s (places s) 2 j ++ [s.extract a b] := by
        show _ ++ [s.extract ((places s)[j]?.getD 0) ((places s)[j + 2]?.getD 0)] = _
        rw [ha, hb]; rfl
      have Hst := Lib.hid hst
      have hxs : (s.extract a b).size ≤ s.size := by rw [ByteArray.size_extract]; omega
      have g0 : (0 : Int) ≤ (j : Int) := by omega
      have g1 : (j : Int) < ((n + 1 : Nat) : Int) := by omega
      have g1' : (j : Int) < (n : Int) + 1 := by omega
      have g2 : (j : Int) + 2 < ((n + 1 : Nat) : Int) := by omega
      have g2' : (j : Int) + 2 < (n : Int) + 1 := by omega
      have g3 : (0 : Int) ≤ (j : Int) + 2 := by omega
      have g4 : ((j : Int) + 2).toNat = j + 2 := by omega
      have g5 : IntKind.i64.wrap ((j : Int) + 2) = (j : Int) + 2 := IntWalk.i64_in _ (by omega)
      have g6 : (0 : Int) ≤ (a : Int) := by omega
      have g7 : (a : Int) ≤ (b : Int) := by omega
      have g8 : (b : Int) ≤ (s.size : Int) := by omega
      have g11 : (0 : Int) ≤ (b : Int) := by omega
      clear hst ha hb
      go_wp2
      go_region_held3 (fun w' => w'.cell? ⟨ba, oa + j, none⟩ = some (.int .i64 (a : Int)) ∧ w'.cell? ⟨ba, oa + (j + 2), none⟩ = some (.int .i64 (b : Int))) (go_keep)
        (go_must (
          refine step_pushG rfl (.tmp 52) (.tmp 65) _ rfl w3.heap.size 9 i3 _ 16 Tryd.underlying82 hi3 hv0 hv1 hv2 rfl (.slice Ao j co) (grR s (places s) 2 j) rfl (Hoo.out.alloc _).drew wr.heap.size #[.string (s.extract a b)] (s.extract a b) rfl (Blk.new _ _ _).drew ⟨rfl, by omega⟩ (by rw [Hlj.out]; omega) (by rw [Hlj.out]; omega) (by simp; omega) ?_
          rw [Hlj.out]
          intro A5 c5 w5 ho5 hg5 hb5 hat5
          have Hb5 : Hid (Below w3.heap.size w3 w5) := ((Hbw.out.alloc hsw _).drew).trans hb5
          have k1 : _ = _ := ((Hat.out.below Hb5.out).elem (natI_get Ha.out)).2.int.1
          have k2 : _ = _ := ((Hat.out.below Hb5.out).elem (natI_get Hb.out)).2.int.1
          have Ho5 := Lib.hid ho5
          clear ho5 hg5 hb5 hat5))
      go_wp2
      go_roundw
      case rel => exact ⟨j + 1, by omega, by go_num, by rw [Hst.out]; exact Ho5.out, Hb5.out⟩
      case measure => simp [intOf]; omega
    · obtain rfl : j = n + 1 - 2 := by omega
      go_wp2
      go_ret
      exact ⟨_, rfl, by rw [Hpl.out]; exact Hoo.out.mono Hb3.out.size, Hb3.out.trans (Hbw.out.mono Hb3.out.size)⟩

set_option maxRecDepth 100000 in
set_option maxHeartbeats 2000000 in
theorem one12b (s : ByteArray) (hs : s.size ≤ 1000000000) (hlen : (places s).length ≤ 2 + 1) (w : World) :
    Calls Tryd.prog 44 #[.int .i64 12, .string s] w fun e w' => ∃ v, e = .returned v ∧ Own Flat w' w.heap.size 9 v ([s]) ∧ Below w.heap.size w w' := by
  obtain ⟨i1, hi1, hy0, hy1, hy2⟩ := info_parts int_info
  have hal := ats_len s
  obtain ⟨n, hn⟩ : ∃ n, (ats s).length = n := ⟨_, rfl⟩
  rw [hn] at hal
  have hl1 : (natI (ats s)).length = n := by simp [natI, hn]
  have hl2 : (i32s (rnI s (ats s))).length = n := by simp [i32s, rnI, hn]
  have hpl : (places s).length = n + 1 := by rw [places_last, hn]
  have Hl1 := Lib.hid hl1
  have Hl2 := Lib.hid hl2
  have Hpl := Lib.hid hpl
  have Hn := Lib.hid hn
  clear hl1 hl2 hpl hn
  have hnl : (n : Int) ≤ 2 := by rw [Hpl.out] at hlen; omega
  clear hlen
  go_enter Tryd.func44, Tryd.ntmps44
  go_wp2_with fail
  refine (rrunes_any s (by omega) w).mono ?_
  rintro e w1 ⟨v1, u1, rfl, ov, ou, hb1⟩
  obtain ⟨A1, c1, rfl⟩ := ov.form
  obtain ⟨A2, c2, rfl⟩ := ou.form
  rw [Hl1.out] at ov ⊢
  rw [Hl2.out] at ou ⊢
  have Hov := Lib.hid ov
  have Hou := Lib.hid ou
  have Hb1 := Lib.hid hb1
  have hs1 := hb1.size
  clear ov ou hb1
  go_wp2_with (first
            | (at_builtin
               refine wpList_pushF rfl (.tmp 18) (.tmp 21) _ rfl w.heap.size 3 i1 _ 8 Tryd.underlying49 hi1 hy0 hy1 hy2 rfl (.slice A1 n c1) (natI (ats s)) rfl (Hov.out.alloc (.cells #[.int .i64 (s.size : Int)] 3)) _ #[.int .i64 (s.size : Int)] (s.size : Int) rfl (Blk.new _ _ _) ⟨rfl, by unfold In64; omega⟩ (by rw [Hl1.out]; omega) (by rw [Hl1.out]; omega) (by simp; omega) ?_
               rw [Hl1.out, ← natI_snoc]
               intro A3 c3 w3 ho3 hg3 hb3
               have hou3 := own_flat (Hou.out.alloc (.cells #[.int .i64 (s.size : Int)] 3)) hg3 (own_ne_own (Hou.out.alloc (.cells #[.int .i64 (s.size : Int)] 3)) (Hov.out.alloc (.cells #[.int .i64 (s.size : Int)] 3)) (by decide))
               have hs3 := hb3.size
               simp only [World.size_alloc] at hs3
               have Hat : Hid (RepList w3 (· < w3.heap.size) A3 (n + 1) c3 (natI (places s))) := ho3.reads.more (fun _ h => h.2)
               have Hru : Hid (RepList w3 (· < w3.heap.size) A2 n c2 (i32s (rnI s (ats s)))) := hou3.reads.more (fun _ h => h.2)
               have Hb3 : Hid (Below w.heap.size w w3) := (Hb1.out.alloc hs1 _).trans hb3
               clear ho3 hou3 hg3 hb3 Hou Hov)
            )
  go_loopw [9, 10] (fun v i wr => v = .slice none 0 0 ∧ i = .int .i64 0 ∧ wr = w3) (fun _ _ _ => 0)
  case atStart => exact ⟨rfl, rfl, rfl⟩
  case round =>
    obtain ⟨rfl, rfl, rfl⟩ := hrel
    by_cases h2 : (2 : Int) ≤ (n : Int)
    · go_wp2
      go_ret
      exact ⟨_, rfl, one_text _ _ Hb3.out.size _ (by omega), Hb3.out.alloc Hb3.out.size _⟩
    · have h3 : (n : Int) < 2 := by omega
      go_wp2
      go_ret
      exact ⟨_, rfl, one_text _ _ Hb3.out.size _ (by omega), Hb3.out.alloc Hb3.out.size _⟩

set_option maxRecDepth 100000 in
set_option maxHeartbeats 2000000 in
theorem one13a (s : ByteArray) (hs : s.size ≤ 1000000000) (hlen : 3 + 1 < (places s).length) (w : World) :
    Calls Tryd.prog 44 #[.int .i64 13, .string s] w fun e w' => ∃ v, e = .returned v ∧ Own Flat w' w.heap.size 9 v (grR s (places s) 3 ((places s).length - 3)) ∧ Below w.heap.size w w' := by
  obtain ⟨i1, hi1, hy0, hy1, hy2⟩ := info_parts int_info
  have hal := ats_len s
  obtain ⟨n, hn⟩ : ∃ n, (ats s).length = n := ⟨_, rfl⟩
  rw [hn] at hal
  have hl1 : (natI (ats s)).length = n := by simp [natI, hn]
  have hl2 : (i32s (rnI s (ats s))).length = n := by simp [i32s, rnI, hn]
  have hpl : (places s).length = n + 1 := by rw [places_last, hn]
  have Hl1 := Lib.hid hl1
  have Hl2 := Lib.hid hl2
  have Hpl := Lib.hid hpl
  have Hn := Lib.hid hn
  clear hl1 hl2 hpl hn
  have hnl : (3 : Int) < (n : Int) := by rw [Hpl.out] at hlen; omega
  obtain ⟨i3, hi3, hv0, hv1, hv2⟩ := info_parts str_info
  clear hlen
  go_enter Tryd.func44, Tryd.ntmps44
  go_wp2_with fail
  refine (rrunes_any s (by omega) w).mono ?_
  rintro e w1 ⟨v1, u1, rfl, ov, ou, hb1⟩
  obtain ⟨A1, c1, rfl⟩ := ov.form
  obtain ⟨A2, c2, rfl⟩ := ou.form
  rw [Hl1.out] at ov ⊢
  rw [Hl2.out] at ou ⊢
  have Hov := Lib.hid ov
  have Hou := Lib.hid ou
  have Hb1 := Lib.hid hb1
  have hs1 := hb1.size
  clear ov ou hb1
  go_wp2_with (first
            | (at_builtin
               refine wpList_pushF rfl (.tmp 18) (.tmp 21) _ rfl w.heap.size 3 i1 _ 8 Tryd.underlying49 hi1 hy0 hy1 hy2 rfl (.slice A1 n c1) (natI (ats s)) rfl (Hov.out.alloc (.cells #[.int .i64 (s.size : Int)] 3)) _ #[.int .i64 (s.size : Int)] (s.size : Int) rfl (Blk.new _ _ _) ⟨rfl, by unfold In64; omega⟩ (by rw [Hl1.out]; omega) (by rw [Hl1.out]; omega) (by simp; omega) ?_
               rw [Hl1.out, ← natI_snoc]
               intro A3 c3 w3 ho3 hg3 hb3
               have hou3 := own_flat (Hou.out.alloc (.cells #[.int .i64 (s.size : Int)] 3)) hg3 (own_ne_own (Hou.out.alloc (.cells #[.int .i64 (s.size : Int)] 3)) (Hov.out.alloc (.cells #[.int .i64 (s.size : Int)] 3)) (by decide))
               have hs3 := hb3.size
               simp only [World.size_alloc] at hs3
               have Hat : Hid (RepList w3 (· < w3.heap.size) A3 (n + 1) c3 (natI (places s))) := ho3.reads.more (fun _ h => h.2)
               have Hru : Hid (RepList w3 (· < w3.heap.size) A2 n c2 (i32s (rnI s (ats s)))) := hou3.reads.more (fun _ h => h.2)
               have Hb3 : Hid (Below w.heap.size w w3) := (Hb1.out.alloc hs1 _).trans hb3
               clear ho3 hou3 hg3 hb3 Hou Hov)
            )
  go_loopw [9, 10] (fun v i wr => ∃ j : Nat, j + 3 ≤ n + 1 ∧ i = .int .i64 j ∧ Own Flat wr w3.heap.size 9 v (grR s (places s) 3 j) ∧ Below w3.heap.size w3 wr) (fun _ i _ => n + 1 - (intOf i).toNat)
  case atStart => exact ⟨0, by omega, rfl, Own.nil _ _ _ _, Below.refl _ _⟩
  case round =>
    obtain ⟨j, hj, rfl, oo, hbw⟩ := hrel
    obtain ⟨Ao, co, rfl⟩ := oo.form
    have hlj := grR_len s (places s) 3 j
    rw [hlj] at oo ⊢
    have Hlj := Lib.hid hlj
    have Hoo := Lib.hid oo
    have Hbw := Lib.hid hbw
    have hsw := hbw.size
    clear oo hbw hlj
    by_cases hlt : (j : Int) + 3 ≤ (n : Int)
    · obtain ⟨a, ha⟩ : ∃ a, (places s)[j]? = some a := ⟨_, List.getElem?_eq_getElem (by rw [Hpl.out]; omega)⟩
      obtain ⟨b, hb⟩ : ∃ b, (places s)[j + 3]? = some b := ⟨_, List.getElem?_eq_getElem (by rw [Hpl.out]; omega)⟩
      obtain ⟨ba, oa, rfl, hba, _⟩ := (Hat.out.below Hbw.out).2.2.2 _ _ (natI_get ha)
      have ea : _ = _ := ((Hat.out.below Hbw.out).elem (natI_get ha)).2.int.1
      have eb : _ = _ := ((Hat.out.below Hbw.out).elem (natI_get hb)).2.int.1
      have Ha := Lib.hid ha
      have Hb := Lib.hid hb
      have hab : a ≤ b := places_mono ha hb (by omega)
      have hbs : b ≤ s.size := places_le (List.mem_of_getElem? hb)
      have hst : grR s (places s) 3 (j + 1) = grR s (places s) 3 j ++ [s.extract a b] := by
        show _ ++ [s.extract ((places s)[j]?.getD 0) ((places s)[j + 3]?.getD 0)] = _
        rw [ha, hb]; rfl
      have Hst := Lib.hid hst
      have hxs : (s.extract a b).size ≤ s.size := by rw [ByteArray.size_extract]; omega
      have g0 : (0 : Int) ≤ (j : Int) := by omega
      have g1 : (j : Int) < ((n + 1 : Nat) : Int) := by omega
      have g1' : (j : Int) < (n : Int) + 1 := by omega
      have g2 : (j : Int) + 3 < ((n + 1 : Nat) : Int) := by omega
      have g2' : (j : Int) + 3 < (n : Int) + 1 := by omega
      have g3 : (0 : Int) ≤ (j : Int) + 3 := by omega
      have g4 : ((j : Int) + 3).toNat = j + 3 := by omega
      have g5 : IntKind.i64.wrap ((j : Int) + 3) = (j : Int) + 3 := IntWalk.i64_in _ (by omega)
      have g6 : (0 : Int) ≤ (a : Int) := by omega
      have g7 : (a : Int) ≤ (b : Int) := by omega
      have g8 : (b : Int) ≤ (s.size : Int) := by omega
      have g11 : (0 : Int) ≤ (b : Int) := by omega
      clear hst ha hb
      go_wp2
      go_region_held3 (fun w' => w'.cell? ⟨ba, oa + j, none⟩ = some (.int .i64 (a : Int)) ∧ w'.cell? ⟨ba, oa + (j + 3), none⟩ = some (.int .i64 (b : Int))) (go_keep)
        (go_must (
          refine step_pushG rfl (.tmp 52) (.tmp 65) _ rfl w3.heap.size 9 i3 _ 16 Tryd.underlying82 hi3 hv0 hv1 hv2 rfl (.slice Ao j co) (grR s (places s) 3 j) rfl (Hoo.out.alloc _).drew wr.heap.size #[.string (s.extract a b)] (s.extract a b) rfl (Blk.new _ _ _).drew ⟨rfl, by omega⟩ (by rw [Hlj.out]; omega) (by rw [Hlj.out]; omega) (by simp; omega) ?_
          rw [Hlj.out]
          intro A5 c5 w5 ho5 hg5 hb5 hat5
          have Hb5 : Hid (Below w3.heap.size w3 w5) := ((Hbw.out.alloc hsw _).drew).trans hb5
          have k1 : _ = _ := ((Hat.out.below Hb5.out).elem (natI_get Ha.out)).2.int.1
          have k2 : _ = _ := ((Hat.out.below Hb5.out).elem (natI_get Hb.out)).2.int.1
          have Ho5 := Lib.hid ho5
          clear ho5 hg5 hb5 hat5))
      go_wp2
      go_roundw
      case rel => exact ⟨j + 1, by omega, by go_num, by rw [Hst.out]; exact Ho5.out, Hb5.out⟩
      case measure => simp [intOf]; omega
    · obtain rfl : j = n + 1 - 3 := by omega
      go_wp2
      go_ret
      exact ⟨_, rfl, by rw [Hpl.out]; exact Hoo.out.mono Hb3.out.size, Hb3.out.trans (Hbw.out.mono Hb3.out.size)⟩

set_option maxRecDepth 100000 in
set_option maxHeartbeats 2000000 in
theorem one13b (s : ByteArray) (hs : s.size ≤ 1000000000) (hlen : (places s).length ≤ 3 + 1) (w : World) :
    Calls Tryd.prog 44 #[.int .i64 13, .string s] w fun e w' => ∃ v, e = .returned v ∧ Own Flat w' w.heap.size 9 v ([s]) ∧ Below w.heap.size w w' := by
  obtain ⟨i1, hi1, hy0, hy1, hy2⟩ := info_parts int_info
  have hal := ats_len s
  obtain ⟨n, hn⟩ : ∃ n, (ats s).length = n := ⟨_, rfl⟩
  rw [hn] at hal
  have hl1 : (natI (ats s)).length = n := by simp [natI, hn]
  have hl2 : (i32s (rnI s (ats s))).length = n := by simp [i32s, rnI, hn]
  have hpl : (places s).length = n + 1 := by rw [places_last, hn]
  have Hl1 := Lib.hid hl1
  have Hl2 := Lib.hid hl2
  have Hpl := Lib.hid hpl
  have Hn := Lib.hid hn
  clear hl1 hl2 hpl hn
  have hnl : (n : Int) ≤ 3 := by rw [Hpl.out] at hlen; omega
  clear hlen
  go_enter Tryd.func44, Tryd.ntmps44
  go_wp2_with fail
  refine (rrunes_any s (by omega) w).mono ?_
  rintro e w1 ⟨v1, u1, rfl, ov, ou, hb1⟩
  obtain ⟨A1, c1, rfl⟩ := ov.form
  obtain ⟨A2, c2, rfl⟩ := ou.form
  rw [Hl1.out] at ov ⊢
  rw [Hl2.out] at ou ⊢
  have Hov := Lib.hid ov
  have Hou := Lib.hid ou
  have Hb1 := Lib.hid hb1
  have hs1 := hb1.size
  clear ov ou hb1
  go_wp2_with (first
            | (at_builtin
               refine wpList_pushF rfl (.tmp 18) (.tmp 21) _ rfl w.heap.size 3 i1 _ 8 Tryd.underlying49 hi1 hy0 hy1 hy2 rfl (.slice A1 n c1) (natI (ats s)) rfl (Hov.out.alloc (.cells #[.int .i64 (s.size : Int)] 3)) _ #[.int .i64 (s.size : Int)] (s.size : Int) rfl (Blk.new _ _ _) ⟨rfl, by unfold In64; omega⟩ (by rw [Hl1.out]; omega) (by rw [Hl1.out]; omega) (by simp; omega) ?_
               rw [Hl1.out, ← natI_snoc]
               intro A3 c3 w3 ho3 hg3 hb3
               have hou3 := own_flat (Hou.out.alloc (.cells #[.int .i64 (s.size : Int)] 3)) hg3 (own_ne_own (Hou.out.alloc (.cells #[.int .i64 (s.size : Int)] 3)) (Hov.out.alloc (.cells #[.int .i64 (s.size : Int)] 3)) (by decide))
               have hs3 := hb3.size
               simp only [World.size_alloc] at hs3
               have Hat : Hid (RepList w3 (· < w3.heap.size) A3 (n + 1) c3 (natI (places s))) := ho3.reads.more (fun _ h => h.2)
               have Hru : Hid (RepList w3 (· < w3.heap.size) A2 n c2 (i32s (rnI s (ats s)))) := hou3.reads.more (fun _ h => h.2)
               have Hb3 : Hid (Below w.heap.size w w3) := (Hb1.out.alloc hs1 _).trans hb3
               clear ho3 hou3 hg3 hb3 Hou Hov)
            )
  go_loopw [9, 10] (fun v i wr => v = .slice none 0 0 ∧ i = .int .i64 0 ∧ wr = w3) (fun _ _ _ => 0)
  case atStart => exact ⟨rfl, rfl, rfl⟩
  case round =>
    obtain ⟨rfl, rfl, rfl⟩ := hrel
    by_cases h2 : (3 : Int) ≤ (n : Int)
    · go_wp2
      go_ret
      exact ⟨_, rfl, one_text _ _ Hb3.out.size _ (by omega), Hb3.out.alloc Hb3.out.size _⟩
    · have h3 : (n : Int) < 3 := by omega
      go_wp2
      go_ret
      exact ⟨_, rfl, one_text _ _ Hb3.out.size _ (by omega), Hb3.out.alloc Hb3.out.size _⟩

set_option maxRecDepth 100000 in
set_option maxHeartbeats 4000000 in
theorem one15 (s : ByteArray) (hs : s.size ≤ 1000000000) (w : World) :
    Calls Tryd.prog 44 #[.int .i64 15, .string s] w fun e w' => ∃ v, e = .returned v ∧ Own Flat w' w.heap.size 9 v (if marksL s = [] then [] else [(⟨(marksL s).toArray⟩ : ByteArray)]) ∧ Below w.heap.size w w' := by
  obtain ⟨i1, hi1, hy0, hy1, hy2⟩ := info_parts int_info
  have hal := ats_len s
  obtain ⟨n, hn⟩ : ∃ n, (ats s).length = n := ⟨_, rfl⟩
  rw [hn] at hal
  have hl1 : (natI (ats s)).length = n := by simp [natI, hn]
  have hl2 : (i32s (rnI s (ats s))).length = n := by simp [i32s, rnI, hn]
  have hpl : (places s).length = n + 1 := by rw [places_last, hn]
  have Hl1 := Lib.hid hl1
  have Hl2 := Lib.hid hl2
  have Hpl := Lib.hid hpl
  have Hn := Lib.hid hn
  clear hl1 hl2 hpl hn
  obtain ⟨res, hres⟩ : ∃ res : List ByteArray, (if marksL s = [] then ([] : List ByteArray) else [⟨(marksL s).toArray⟩]) = res := ⟨_, rfl⟩
  rw [hres]
  have Hres := Lib.hid hres
  clear hres
  go_enter Tryd.func44, Tryd.ntmps44
  go_wp2_with fail
  refine (rrunes_any s (by omega) w).mono ?_
  rintro e w1 ⟨v1, u1, rfl, ov, ou, hb1⟩
  obtain ⟨A1, c1, rfl⟩ := ov.form
  obtain ⟨A2, c2, rfl⟩ := ou.form
  rw [Hl1.out] at ov ⊢
  rw [Hl2.out] at ou ⊢
  have Hov := Lib.hid ov
  have Hou := Lib.hid ou
  have Hb1 := Lib.hid hb1
  have hs1 := hb1.size
  clear ov ou hb1
  go_wp2_with (first
            | (at_builtin
               refine wpList_pushF rfl (.tmp 18) (.tmp 21) _ rfl w.heap.size 3 i1 _ 8 Tryd.underlying49 hi1 hy0 hy1 hy2 rfl (.slice A1 n c1) (natI (ats s)) rfl (Hov.out.alloc (.cells #[.int .i64 (s.size : Int)] 3)) _ #[.int .i64 (s.size : Int)] (s.size : Int) rfl (Blk.new _ _ _) ⟨rfl, by unfold In64; omega⟩ (by rw [Hl1.out]; omega) (by rw [Hl1.out]; omega) (by simp; omega) ?_
               rw [Hl1.out, ← natI_snoc]
               intro A3 c3 w3 ho3 hg3 hb3
               have hou3 := own_flat (Hou.out.alloc (.cells #[.int .i64 (s.size : Int)] 3)) hg3 (own_ne_own (Hou.out.alloc (.cells #[.int .i64 (s.size : Int)] 3)) (Hov.out.alloc (.cells #[.int .i64 (s.size : Int)] 3)) (by decide))
               have hs3 := hb3.size
               simp only [World.size_alloc] at hs3
               have Hat : Hid (RepList w3 (· < w3.heap.size) A3 (n + 1) c3 (natI (places s))) := ho3.reads.more (fun _ h => h.2)
               have Hru : Hid (RepList w3 (· < w3.heap.size) A2 n c2 (i32s (rnI s (ats s)))) := hou3.reads.more (fun _ h => h.2)
               have Hb3 : Hid (Below w.heap.size w w3) := (Hb1.out.alloc hs1 _).trans hb3
               clear ho3 hou3 hg3 hb3 Hou Hov)
            )
  go_loopw [11, 12] (fun v i wr => ∃ j : Nat, j ≤ n ∧ i = .int .i64 j ∧ BRow wr w3.heap.size v (marksTo s (places s) j) ∧ Below w3.heap.size w3 wr) (fun _ i _ => n - (intOf i).toNat)
  case atStart => exact ⟨0, by omega, rfl, BRow.nil _ _, Below.refl _ _⟩
  case round =>
    obtain ⟨j, hj, rfl, oo, hbw⟩ := hrel
    obtain ⟨Ao, co, rfl⟩ := oo.form
    obtain ⟨x, hx⟩ : ∃ x, (places s)[j]? = some x := ⟨_, List.getElem?_eq_getElem (by rw [Hpl.out]; omega)⟩
    have hlj := marksTo_len s j x hx
    have hxs := places_le (List.mem_of_getElem? hx)
    obtain ⟨M, hM⟩ : ∃ M, marksTo s (places s) j = M := ⟨_, rfl⟩
    rw [hM] at hlj oo ⊢
    have HM := Lib.hid hM
    have Hoo := Lib.hid oo
    have Hbw := Lib.hid hbw
    have hsw := hbw.size
    clear oo hbw hM
    by_cases hlt : j < n
    · obtain ⟨y, hy⟩ : ∃ y, (places s)[j + 1]? = some y := ⟨_, List.getElem?_eq_getElem (by rw [Hpl.out]; omega)⟩
      have hats : (ats s)[j]? = some x := by
        have := hx
        rw [places, List.getElem?_append_left (by rw [Hn.out]; exact hlt)] at this
        exact this
      have hrx : (i32s (rnI s (ats s)))[j]? = some ⟨(rn s x : Int)⟩ := by simp [i32s, rnI, hats]
      obtain ⟨br, orr, rfl, hbr, _⟩ := (Hru.out.below Hbw.out).2.2.2 _ _ hrx
      have er : _ = _ := ((Hru.out.below Hbw.out).elem hrx).2.i32
      simp only at er
      obtain ⟨ba, oa, rfl, hba, _⟩ := (Hat.out.below Hbw.out).2.2.2 _ _ (natI_get hx)
      have hxy : x ≤ y := places_mono hx hy (by omega)
      have hys : y ≤ s.size := places_le (List.mem_of_getElem? hy)
      obtain ⟨mk, hmk⟩ : ∃ mk, markB (rn s x) = mk := ⟨_, rfl⟩
      have hst : marksTo s (places s) (j + 1) = M ++ (if mk = true then [] else (s.extract x y).data.toList) := by
        show marksTo s (places s) j ++ (if markB (rn s ((places s)[j]?.getD 0)) then [] else (s.extract ((places s)[j]?.getD 0) ((places s)[j + 1]?.getD 0)).data.toList) = _
        rw [hx, hy, HM.out, Option.getD_some, Option.getD_some, hmk]
      have Hst := Lib.hid hst
      have Hmk := Lib.hid hmk
      have Hx := Lib.hid hx
      have Hy := Lib.hid hy
      clear hst hmk hx hy hats hrx
      cases mk with
      | true =>
        have Hst2 : Hid (marksTo s (places s) (j + 1) = M) := by show _ = _; rw [Hst.out]; simp
        clear Hst
        go_wp2_with fail
        refine (rmark_any _ _).mono ?_
        rw [Hmk.out]
        rintro e w4 ⟨rfl, hb4⟩
        have Hb4 := Lib.hid hb4
        clear hb4
        go_wp2
        go_roundw
        case rel => exact ⟨j + 1, by omega, by go_num, by rw [Hst2.out]; exact Hoo.out.on Hb4.out, Hbw.out.trans (Hb4.out.mono hsw)⟩
        case measure => simp [intOf]; omega
      | false =>
        have Hst2 : Hid (marksTo s (places s) (j + 1) = M ++ (s.extract x y).data.toList) := by show _ = _; rw [Hst.out]; simp
        clear Hst
        go_wp2_with fail
        refine (rmark_any _ _).mono ?_
        rw [Hmk.out]
        rintro e w4 ⟨rfl, hb4⟩
        have Hb4 : Hid (Below w3.heap.size w3 w4) := Hbw.out.trans (hb4.mono hsw)
        have Ho4 : Hid (BRow w4 w3.heap.size (.slice Ao M.length co) M) := by
          show BRow _ _ _ _
          exact Hoo.out.on hb4
        have hs4 := Hb4.out.size
        have ea : _ = _ := ((Hat.out.below Hb4.out).elem (natI_get Hx.out)).2.int.1
        have eb : _ = _ := ((Hat.out.below Hb4.out).elem (natI_get Hy.out)).2.int.1
        have hes : (s.extract x y).size = y - x := by rw [ByteArray.size_extract]; omega
        have Hes := Lib.hid hes
        have g0 : (0 : Int) ≤ (j : Int) := by omega
        have g1 : (j : Int) < ((n + 1 : Nat) : Int) := by omega
        have g1' : (j : Int) < (n : Int) + 1 := by omega
        have g2' : (j : Int) + 1 < (n : Int) + 1 := by omega
        have g2 : (j : Int) + 1 < ((n + 1 : Nat) : Int) := by omega
        have g3 : (0 : Int) ≤ (j : Int) + 1 := by omega
        have g4 : ((j : Int) + 1).toNat = j + 1 := by omega
        have g5 : IntKind.i64.wrap ((j : Int) + 1) = (j : Int) + 1 := IntWalk.i64_in _ (by omega)
        have g6 : (0 : Int) ≤ (x : Int) := by omega
        have g7 : (x : Int) ≤ (y : Int) := by omega
        have g8 : (y : Int) ≤ (s.size : Int) := by omega
        have g11 : (0 : Int) ≤ (y : Int) := by omega
        clear hb4 er hes
        go_wp2
        go_region_held3 (fun w' => w'.cell? ⟨ba, oa + j, none⟩ = some (.int .i64 (x : Int)) ∧ w'.cell? ⟨ba, oa + (j + 1), none⟩ = some (.int .i64 (y : Int))) (go_keep)
          (go_must (
            refine step_text rfl (.tmp 94) (.tmp 105) rfl w3.heap.size (.slice Ao M.length co) M rfl (Ho4.out.on ((Below.refl _ w4).drew)) (s.extract x y) rfl (by have := Hes.out; omega) (by simp; omega) ?_
            intro A5 n5 c5 w5 ho5 hg5 hb5
            have Hb5 : Hid (Below w3.heap.size w3 w5) := Hb4.out.drew.trans hb5
            have k1 : _ = _ := ((Hat.out.below Hb5.out).elem (natI_get Hx.out)).2.int.1
            have k2 : _ = _ := ((Hat.out.below Hb5.out).elem (natI_get Hy.out)).2.int.1
            have Ho5 := Lib.hid ho5
            clear ho5 hg5 hb5))
        go_wp2
        go_roundw
        case rel => exact ⟨j + 1, by omega, by go_num, by rw [Hst2.out]; exact Ho5.out, Hb5.out⟩
        case measure => simp [intOf]; omega
    · obtain rfl : j = n := by omega
      have hfin : marksL s = M := by unfold marksL; rw [Hpl.out]; exact HM.out
      have hr := Hres.out
      rw [hfin] at hr
      have hsz := marksS_size s
      rw [hfin] at hsz
      have htx := Hoo.out.text
      clear hfin
      cases M with
      | nil =>
        rw [if_pos rfl] at hr
        subst hr
        go_wp2
        go_ret
        exact ⟨_, rfl, Own.nil _ _ _ _, Hb3.out.trans (Hbw.out.mono Hb3.out.size)⟩
      | cons m0 M0 =>
        rw [if_neg (by simp)] at hr
        have hne : ((((m0 :: M0).length : Nat) : Int) == 0) = false := by simp; omega
        obtain ⟨T, hT⟩ : ∃ T : ByteArray, ⟨(m0 :: M0).toArray⟩ = T := ⟨_, rfl⟩
        obtain ⟨K, hK⟩ : ∃ K, (m0 :: M0).length = K := ⟨_, rfl⟩
        rw [hT] at htx hsz hr
        rw [hK] at hne htx ⊢
        subst hr
        clear hT hK
        go_wp2
        go_ret
        have hb5 : Below w.heap.size w wr := Hb3.out.trans (Hbw.out.mono Hb3.out.size)
        exact ⟨_, rfl, one_text _ _ hb5.size _ (by omega), hb5.alloc hb5.size _⟩

theorem one_any (number : Int) (hf : isFilter number = true) (s : ByteArray) (hs : s.size ≤ 1000000000) (w : World) :
    Calls Tryd.prog 44 #[.int .i64 number, .string s] w fun e w' => ∃ v, e = .returned v ∧ Own Flat w' w.heap.size 9 v (oneR number s) ∧ Below w.heap.size w w' := by
  have h : number = 10 ∨ number = 11 ∨ number = 12 ∨ number = 13 ∨ number = 14 ∨ number = 15 := by simp [isFilter] at hf; omega
  rcases h with rfl | rfl | rfl | rfl | rfl | rfl
  · exact one10 s hs w
  · by_cases h : stopB s = true
    · rw [show oneR 11 s = [] by simp [oneR, h]]; exact one11y s hs h w
    · rw [show oneR 11 s = [s] by simp [oneR, h]]; exact one11n s hs (Bool.eq_false_iff.2 h) w
  · by_cases h : (places s).length ≤ 2 + 1
    · rw [show oneR 12 s = [s] by show grS 2 s = _; unfold grS; rw [if_pos h]]; exact one12b s hs h w
    · rw [show oneR 12 s = grR s (places s) 2 ((places s).length - 2) by show grS 2 s = _; unfold grS; rw [if_neg h]]; exact one12a s hs (by omega) w
  · by_cases h : (places s).length ≤ 3 + 1
    · rw [show oneR 13 s = [s] by show grS 3 s = _; unfold grS; rw [if_pos h]]; exact one13b s hs h w
    · rw [show oneR 13 s = grR s (places s) 3 ((places s).length - 3) by show grS 3 s = _; unfold grS; rw [if_neg h]]; exact one13a s hs (by omega) w
  · by_cases h : 17 < (places s).length
    · rw [show oneR 14 s = [s.extract 0 ((places s)[16]?.getD 0)] by simp [oneR, h]]; exact one14a s hs h w
    · rw [show oneR 14 s = [s] by simp [oneR, h]]; exact one14b s hs h w
  · exact one15 s hs w
end Go.Proofs.YtajgoffeahfmfaaDoor

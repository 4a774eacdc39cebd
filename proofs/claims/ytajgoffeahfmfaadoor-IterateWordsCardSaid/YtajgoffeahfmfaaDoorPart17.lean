/- The texts Tokens, FoldLow, Builder of IterateWords, joined by program (tools/merge.py): walks of the functions that the law reaches, and plain facts; no condition. -/
import Derived.Test.YtajgoffeahfmfaaDoorPart16
import Derived.Test.YtajgoffeahfmfaaDoorPart10
import Derived.Laws.BitsAllLaws
import Derived.Laws.BitsLemmas
import Derived.Test.YtajgoffeahfmfaaDoorShelf
import Derived.Test.YtajgoffeahfmfaaDoorPart05
set_option linter.unusedVariables false
set_option linter.unusedSimpArgs false

/- The walk of analysis.tokens. -/
namespace Go.Proofs.YtajgoffeahfmfaaDoor
open Rep (rep)
open Go.RowKit

theorem places_sorted (s : ByteArray) : (places s).Pairwise (· < ·) := by
  unfold places
  rw [List.pairwise_append]
  exact ⟨ats_sorted s, by simp, fun a ha b hb => by simp at hb; subst hb; exact ats_lt ha⟩
theorem places_le {s : ByteArray} {x : Nat} (h : x ∈ places s) : x ≤ s.size := by
  unfold places at h
  rcases List.mem_append.1 h with h | h
  · exact Nat.le_of_lt (ats_lt h)
  · simp at h; omega
theorem places_mono {s : ByteArray} {i j a b : Nat} (ha : (places s)[i]? = some a) (hb : (places s)[j]? = some b) (h : i ≤ j) : a ≤ b := by
  have h1 := lt_of_get? ha
  have h2 := lt_of_get? hb
  rcases Nat.lt_or_ge i j with hl | hl
  · have := List.pairwise_iff_getElem.1 (places_sorted s) i j h1 h2 hl
    rw [List.getElem?_eq_getElem h1] at ha
    rw [List.getElem?_eq_getElem h2] at hb
    cases ha; cases hb
    omega
  · obtain rfl : i = j := by omega
    rw [ha] at hb
    cases hb
    exact Nat.le_refl _
/-- A place, where it lies. -/
theorem own_place {w : World} {base : Nat} {A : Option Addr} {n c i x : Nat} {p : List Nat} (h : Own Flat w base 3 (.slice A n c) (natI p)) (hx : p[i]? = some x) : ∃ b, A = some ⟨b, 0, none⟩ ∧ w.cell? ⟨b, i, none⟩ = some (.int .i64 (x : Int)) := by
  obtain ⟨css, hl, hr, ho⟩ := h
  have hk := lt_of_get? hx
  have hn : (natI p).length = p.length := by simp [natI]
  obtain ⟨g, cap, hv, hb, hlt⟩ := ho.form (by rw [hn]; omega)
  injection hv with hA _ _
  subst hA
  have hr2 := Own.reads ⟨css, hl, hr, ho⟩
  obtain ⟨_, he⟩ := hr2.elem (k := i) (x := (x : Int)) (by simp [natI, hx])
  have := he.int.1
  simp only [Nat.zero_add] at this
  exact ⟨g, rfl, this⟩

/-- The tokens of a tokenizer. -/
def tokensL (number : Int) (s : ByteArray) : List Token :=
  if number = 1 then lettersL s else if number = 2 then runsL s notBlank notBlank else if number = 3 then runsL s (fun _ => true) (fun _ => true) else gramsL (lettersL s)

set_option maxRecDepth 100000 in
theorem tokens_three (number : Int) (hn : number = 1 ∨ number = 2 ∨ number = 3) (s : ByteArray) (hs : s.size ≤ 1000000000) (w : World) (hT : Tabs w) :
    Calls Tryd.prog 25 #[.int .i64 number, .string s] w fun e w' => ∃ v, e = .returned v ∧ Own Flat w' w.heap.size 44 v (tokensL number s) ∧ Below w.heap.size w w' := by
  have HT := Lib.hid hT
  clear hT
  rcases hn with rfl | rfl | rfl
  · rw [show tokensL 1 s = lettersL s by simp [tokensL]]
    go_enter Tryd.func25, Tryd.ntmps25
    go_wp2_with (go_at_call 34; go_must (refine (letters_any s hs _ HT.out).mono ?_); rintro e w1 ⟨v, rfl, ho, hb⟩; have Ho := Lib.hid ho; have Hb := Lib.hid hb; clear ho hb)
    go_ret
    exact ⟨_, rfl, Ho.out, Hb.out⟩
  · rw [show tokensL 2 s = runsL s notBlank notBlank by simp [tokensL]]
    go_enter Tryd.func25, Tryd.ntmps25
    go_wp2_with (go_at_call 37; go_must (refine (runs_any s hs _ _ _ _ notBlank notBlank _ HT.out (asks_blank _) (asks_blank _)).mono ?_); rintro e w1 ⟨v, rfl, ho, hb⟩; have Ho := Lib.hid ho; have Hb := Lib.hid hb; clear ho hb)
    go_ret
    exact ⟨_, rfl, Ho.out, Hb.out⟩
  · rw [show tokensL 3 s = runsL s (fun _ => true) (fun _ => true) by simp [tokensL]]
    go_enter Tryd.func25, Tryd.ntmps25
    go_wp2_with (go_at_call 37; go_must (refine (runs_any s hs _ _ _ _ (fun _ => true) (fun _ => true) _ HT.out (asks_all2 _) (asks_all3 _)).mono ?_); rintro e w1 ⟨v, rfl, ho, hb⟩; have Ho := Lib.hid ho; have Hb := Lib.hid hb; clear ho hb)
    go_ret
    exact ⟨_, rfl, Ho.out, Hb.out⟩
end Go.Proofs.YtajgoffeahfmfaaDoor

/- The walks of fold.step and fold.Lower. -/
namespace Go.Proofs.YtajgoffeahfmfaaDoor
open Rep (rep)
open Go.RowKit

theorem i32_and_one (r : Int) (h0 : 0 ≤ r) (h1 : r ≤ 0x10FFFF) : bits .and .i32 r 1 = r % 2 := by
  obtain ⟨n, rfl⟩ := Int.eq_ofNat_of_zero_le h0
  have h2 : n &&& 1 = n % 2 := Nat.and_one_is_mod n
  have e1 : (BitVec.ofInt 32 (n : Int)).toNat = n := by rw [BitVec.ofInt_natCast, BitVec.toNat_ofNat]; exact Nat.mod_eq_of_lt (by omega)
  have e2 : (BitVec.ofInt 32 1).toNat = 1 := by decide
  show IntKind.i32.wrap ((BitVec.ofInt 32 (n : Int) &&& BitVec.ofInt 32 1).toNat : Int) = _
  rw [BitVec.toNat_and, e1, e2, h2, IntKind.wrap_i32]
  omega

theorem step_any (r odd : Int) (h0 : 0 ≤ r) (h1 : r ≤ 0x10FFFF) (w : World) : Calls Tryd.prog 83 #[.int .i32 r, .int .i32 odd] w fun e w' => e = .returned (.int .i32 (if r % 2 = odd then r + 1 else r)) ∧ w = w' := by
  have hb := i32_and_one r h0 h1
  by_cases h : r % 2 = odd
  · rw [if_pos h]
    have h' : (r % 2 == odd) = true := by simp [h]
    clear h
    go_enter Tryd.func83, Tryd.ntmps83
    go_wp2
    go_ret
    exact ⟨rfl, rfl⟩
  · rw [if_neg h]
    have h' : (r % 2 == odd) = false := by simp [h]
    clear h
    go_enter Tryd.func83, Tryd.ntmps83
    go_wp2
    go_ret
    exact ⟨rfl, rfl⟩

set_option maxRecDepth 100000 in
set_option maxHeartbeats 4000000 in
theorem lower_any (r : Int) (h0 : 0 ≤ r) (h1 : r ≤ 0x10FFFF) (w : World) : Calls Tryd.prog 79 #[.int .i32 r] w fun e w' => e = .returned (.int .i32 (lowerR r)) ∧ w = w' := by
  go_enter Tryd.func79, Tryd.ntmps79
  go_wp2_with (first
    | (go_at_call 70; refine in_parts (fun _ _ => ?_) (fun _ => ?_))
    | (go_at_call 83; refine (step_any _ _ h0 h1 _).mono ?_; rintro e w' ⟨rfl, rfl⟩))
  all_goals
    go_ret
    refine ⟨ret_num ?_, rfl⟩
    (try simp only [beq_iff_eq, beq_eq_false_iff_ne, bne_iff_ne, bne_eq_false_iff_eq, ne_eq, Bool.not_eq_true, Bool.not_eq_false] at *)
    unfold lowerR
    simp only [among_iff1, among_iff3, among_iff6]
    first
    | omega
    | ((repeat (first | rw [if_pos (by omega)] | rw [if_neg (by omega)])); first | done | omega | (split <;> omega))
end Go.Proofs.YtajgoffeahfmfaaDoor

/- strings.Builder at this translation (its copyCheck bears a statement that the loader refuses, behind a test that never says yes): copyCheck, WriteString, WriteRune of a builder that the call itself has made. Lines turned from the shelf's own proofs. -/
namespace Go.Proofs.YtajgoffeahfmfaaDoor
open Rep (rep)
open Go.RowKit Go.Shelf
set_option linter.unusedVariables false

theorem bsize : (Tryd.prog.info? 96).map (·.size) = some 2 := by kernel_rfl
set_option maxRecDepth 100000 in
theorem copyCheck_used (b : Nat) (w : World) (h0 : w.cell? ⟨b, 0, none⟩ = some (.pointer (some ⟨b, 0, none⟩))) :
    Calls Tryd.prog 82 #[.pointer (some ⟨b, 0, none⟩)] w fun e w' => e = .returned (.tuple #[]) ∧ w = w' := by
  obtain ⟨j, hj, _⟩ := Option.map_eq_some_iff.1 bsize
  go_enter Tryd.func82, Tryd.ntmps82
  go_wp2
  rw [Lib.run_neq_ptr_same w _ Tryd.underlying94 hj]
  go_wp2
  go_end0
  exact ⟨rfl, rfl⟩
set_option maxHeartbeats 1000000 in
set_option maxRecDepth 100000 in
theorem copyCheck_fresh (b : Nat) (w : World) (h0 : w.cell? ⟨b, 0, none⟩ = some (.pointer none)) (hsh : w.shape? b = some (96, 2)) (hfz : w.frozen? ⟨b, 0, none⟩ = false) :
    Calls Tryd.prog 82 #[.pointer (some ⟨b, 0, none⟩)] w fun e w' => e = .returned (.tuple #[]) ∧ w' = w.setCell ⟨b, 0, none⟩ (.pointer (some ⟨b, 0, none⟩)) := by
  obtain ⟨j, hj, hjs⟩ := Option.map_eq_some_iff.1 bsize
  go_enter Tryd.func82, Tryd.ntmps82
  go_wp2
  rw [Lib.run_to_unsafe w ⟨b, 0, none⟩ Tryd.underlying94 Tryd.underlying111 hj (by rw [hjs]; decide) hsh (Nat.zero_lt_succ 1)]
  simp only [Result.andThen]
  rw [Oper.upon_value]
  go_wp2
  rw [run_callFunc_extern Tryd.func86 (by kernel_rfl) (by kernel_rfl) (by kernel_rfl) (e := Extern.AbiNoEscape.same) (by kernel_rfl)]
  rw [Lib.run_noEscape]
  simp only [Result.andThen]
  rw [Oper.upon_value]
  go_wp2
  rw [Lib.run_from_unsafe w ⟨b, 0, none⟩ Tryd.underlying111 Tryd.underlying94 hj hsh Tryd.Builder_Extra_169.liesBuilder]
  simp only [Result.andThen]
  rw [Oper.upon_value]
  go_wp2
  go_end0
  exact ⟨rfl, rfl⟩
theorem copyCheck_any (B b : Nat) (bs : List Value) (w : World) (h : Lib.IsBuilder 96 5 B b bs w) :
    Calls Tryd.prog 82 #[.pointer (some ⟨b, 0, none⟩)] w fun e w' => e = .returned (.tuple #[]) ∧ (Lib.BuilderAt 96 5 B b (.pointer (some ⟨b, 0, none⟩)) bs w' ∧ Below B w w' ∧ Lib.OthersKept 5 (some b) w w') := by
  rcases h with h | h
  · refine (copyCheck_fresh b w h.cell0 h.shape h.frozen0).mono ?_
    rintro e w' ⟨rfl, rfl⟩
    exact ⟨rfl, h.used _, (Below.refl B w).setCell (p := ⟨b, 0, none⟩) h.1 _, (Lib.OthersKept.refl _ _ w).setCell ⟨b, 0, none⟩ rfl _⟩
  · refine (copyCheck_used b w h.cell0).mono ?_
    rintro e w' ⟨rfl, rfl⟩
    exact ⟨rfl, h, Below.refl B _, Lib.OthersKept.refl _ _ _⟩

theorem ownsRow_kind {B : Nat} {e : TypeId} {size n : Nat} {v : Value} {xs : List Value} {w : World} (h : w.ownsRow B e size v n xs) : ∀ k o, v.ownBlock = some k → w.heap[k]? = some o → ∃ c fz, o = .cells c e fz := by
  intro k o hk ho
  rcases h.2 with ⟨rfl, _⟩ | ⟨g, cap, cur, rfl, _, hg, _⟩
  · cases hk
  · cases hk
    rw [hg] at ho
    cases ho
    exact ⟨_, _, rfl⟩

set_option maxHeartbeats 2000000 in
set_option maxRecDepth 100000 in
theorem writeString_any (B b : Nat) (bs : List Value) (s : ByteArray) (w : World) (h : Lib.IsBuilder 96 5 B b bs w) (hlen : bs.length + s.size ≤ 140737488355328) (hBw : B ≤ w.heap.size) :
    Calls Tryd.prog 68 #[.pointer (some ⟨b, 0, none⟩), .string s] w fun e w' => e = .returned (.tuple #[.int .i64 s.size, .nilIface]) ∧ (Lib.BuilderAt 96 5 B b (.pointer (some ⟨b, 0, none⟩)) (bs ++ Lib.strCells s) w' ∧ Below B w w' ∧ Lib.OthersKept 5 (some b) w w') := by
  obtain ⟨i0, hi, hz0, hz1, hz2⟩ := info_parts Tryd.Builder_Extra_169.infoByte
  go_enter Tryd.func68, Tryd.ntmps68
  go_wp2_with (go_at_call 82; refine (copyCheck_any B b bs _ h).mono ?_)
  rintro e w1 ⟨rfl, h1, hb1, hk1⟩
  obtain ⟨hB, v, hbk, hown, hne⟩ := h1
  have c0 : w1.cell? ⟨b, 0, none⟩ = some (.pointer (some ⟨b, 0, none⟩)) := by rw [Lib.cell_of_heap hbk]; rfl
  have c1 : w1.cell? ⟨b, 1, none⟩ = some v := by rw [Lib.cell_of_heap hbk]; rfl
  go_wp2_with (at_builtin; refine Lib.wpList_append_own_string _ rfl _ _ 84 9 rfl B 5 i0 Tryd.underlying84 Tryd.underlying9 hi hz0 hz1 hz2 _ _ _ rfl hown s rfl ?c3 ?c4 ?c5 ?_)
  case c3 => unfold maxLen; omega
  case c4 => omega
  case c5 => have := hb1.size; omega
  intro v' w2 hown' hgrow _
  have hlt : b < w1.heap.size := by
    rcases Nat.lt_or_ge b w1.heap.size with h' | h'
    · exact h'
    · simp [Array.getElem?_eq_none h'] at hbk
  have hb2 : w2.heap[b]? = some (.cells #[.pointer (some ⟨b, 0, none⟩), v] 96 (0, 0)) := by
    rw [hgrow.block b hlt (fun e => hne e.symm)]
    exact hbk
  have d0 : w2.cell? ⟨b, 0, none⟩ = some (.pointer (some ⟨b, 0, none⟩)) := by rw [Lib.cell_of_heap hb2]; rfl
  have d1 : w2.cell? ⟨b, 1, none⟩ = some v := by rw [Lib.cell_of_heap hb2]; rfl
  have f1 : w2.frozen? ⟨b, 1, none⟩ = false := Lib.frozen_of_heap hb2 1
  obtain ⟨ao, n', cap, rfl⟩ : ∃ ao n' cap, v' = .slice ao n' cap := by
    rcases hown'.2 with ⟨hv, _⟩ | ⟨g, cap, cur, hv, _⟩
    · exact ⟨_, _, _, hv⟩
    · exact ⟨_, _, _, hv⟩
  go_wp2
  go_ret2
  refine ⟨rfl, ?_, ?_, (hk1.grown hgrow (Lib.ownsRowF_kind (World.ownsRowF_of hown))).setCell ⟨b, 1, none⟩ rfl _⟩
  · exact Lib.BuilderAt.put (T := 96) (e := 5) hB hb2 (bs' := bs ++ Lib.strCells s) (by simpa [Lib.strCells_length] using hown') (by decide)
  · exact (hb1.grown hgrow (by have := hb1.size; omega) (fun k hk => (hown.lt k hk).1)).setCell (p := ⟨b, 1, none⟩) hB _

set_option maxHeartbeats 4000000 in
set_option maxRecDepth 100000 in
theorem writeRune_any (B b : Nat) (bs : List Value) (r : Int) (hr0 : -2147483648 ≤ r) (hr1 : r ≤ 2147483647) (w : World) (h : Lib.IsBuilder 96 5 B b bs w) (hlen : bs.length + 4 ≤ 140737488355328) (hBw : B ≤ w.heap.size) :
    Calls Tryd.prog 80 #[.pointer (some ⟨b, 0, none⟩), .int .i32 r] w fun e w' => e = .returned (.tuple #[.int .i64 (Lib.runeCells r).length, .nilIface]) ∧ (Lib.BuilderAt 96 5 B b (.pointer (some ⟨b, 0, none⟩)) (bs ++ Lib.runeCells r) w' ∧ Below B w w' ∧ Lib.OthersKept 5 (some b) w w') := by
  have hk4 := Lib.runeCells_le r
  go_enter Tryd.func80, Tryd.ntmps80
  go_wp2_with (go_at_call 82; refine (copyCheck_any B b bs _ h).mono ?_)
  rintro e w1 ⟨rfl, h1, hb1, hk1⟩
  obtain ⟨hB, v, hbk, hown, hne⟩ := h1
  obtain ⟨ao, cap, rfl⟩ : ∃ ao cap, v = .slice ao bs.length cap := by
    rcases hown.2 with ⟨hv, h0⟩ | ⟨g, cap, cur, hv, _⟩
    · exact ⟨none, 0, by rw [hv, h0]⟩
    · exact ⟨_, _, hv⟩
  have c0 : w1.cell? ⟨b, 0, none⟩ = some (.pointer (some ⟨b, 0, none⟩)) := by rw [Lib.cell_of_heap hbk]; rfl
  have c1 : w1.cell? ⟨b, 1, none⟩ = some (.slice ao bs.length cap) := by rw [Lib.cell_of_heap hbk]; rfl
  go_wp2_with (go_at_call 84; refine (Tryd.utf8_AppendRune_plain B _ bs.length bs r hr0 hr1 _ hown hlen (by have := hb1.size; omega)).mono ?_)
  rintro e w2 ⟨v', rfl, hown', o, hgrow⟩
  have hlt : b < w1.heap.size := by
    rcases Nat.lt_or_ge b w1.heap.size with h' | h'
    · exact h'
    · simp [Array.getElem?_eq_none h'] at hbk
  have hb2 : w2.heap[b]? = some (.cells #[.pointer (some ⟨b, 0, none⟩), .slice ao bs.length cap] 96 (0, 0)) := by
    rw [hgrow.block b (by simp; omega) (fun e => hne e.symm), Lib.alloc_old w1 _ b hlt]
    exact hbk
  have d0 : w2.cell? ⟨b, 0, none⟩ = some (.pointer (some ⟨b, 0, none⟩)) := by rw [Lib.cell_of_heap hb2]; rfl
  have d1 : w2.cell? ⟨b, 1, none⟩ = some (.slice ao bs.length cap) := by rw [Lib.cell_of_heap hb2]; rfl
  have f1 : w2.frozen? ⟨b, 1, none⟩ = false := Lib.frozen_of_heap hb2 1
  obtain ⟨g, cap', rfl⟩ : ∃ g cap', v' = .slice (some ⟨g, 0, none⟩) (bs.length + (Lib.runeCells r).length) cap' := by
    rcases hown'.2 with ⟨_, h0⟩ | ⟨g, cap', cur, hv, _⟩
    · omega
    · exact ⟨g, cap', hv⟩
  have hown1 : (w1.alloc o).ownsRow B 5 1 (.slice ao bs.length cap) bs.length bs := hown.alloc _
  go_wp2
  go_ret2
  refine ⟨?_, ?_, ?_, ((hk1.alloc _).grown hgrow (Lib.ownsRowF_kind (World.ownsRowF_of hown1))).setCell ⟨b, 1, none⟩ rfl _⟩
  · have e : ((bs.length : Int) + ((Lib.runeCells r).length : Int) - (bs.length : Int)) = ((Lib.runeCells r).length : Int) := by omega
    simp [e]
  · exact Lib.BuilderAt.put (T := 96) (e := 5) hB hb2 (bs' := bs ++ Lib.runeCells r) (by simpa using hown') (by decide)
  · exact ((hb1.alloc (by have := hb1.size; omega) o).grown hgrow (by have := hb1.size; simp; omega) (fun k hk => (hown.lt k hk).1)).setCell (p := ⟨b, 1, none⟩) hB _
end Go.Proofs.YtajgoffeahfmfaaDoor

/- The walk of lecternref08.Stored: the stored entries of a document. -/
import Derived.Test.YtnngapfbeappcaaSchemaFind
import Derived.StillTailTactics
namespace Go.Proofs.Ytnngapfbeappcaa
open Rep (rep)
open Go.RowKit

/-- Is an entry kept? -/
def keptB (fs : List Field) (e : Entry) : Bool := match findN fs e.field with
  | some k => (fs[k]?.map (·.stored)).getD false
  | none => false

theorem entry_info : (Try.prog.info? 54).map (fun i => (i.zero, i.size, i.bytes)) = some (some (.agg #[.string ByteArray.empty, .string ByteArray.empty, .slice none 0 0]), 3, 56) := by kernel_rfl

/-- A cell of a block that lies below. -/
theorem cell_on {w w' : World} {p : Addr} {v : Value} (hb : Below w.heap.size w w') (h : w.cell? p = some v) : w'.cell? p = some v := (hb.cell (cell_lt h)).trans h

theorem filter_no {α : Type} {xs : List α} {p : α → Bool} {k : Nat} {x : α} (hx : xs[k]? = some x) (hp : p x = false) : (xs.take (k + 1)).filter p = (xs.take k).filter p := by
  rw [List.take_add_one, hx, List.filter_append]; simp [hp]
theorem filter_yes {α : Type} {xs : List α} {p : α → Bool} {k : Nat} {x : α} (hx : xs[k]? = some x) (hp : p x = true) : (xs.take (k + 1)).filter p = (xs.take k).filter p ++ [x] := by
  rw [List.take_add_one, hx, List.filter_append]; simp [hp]

set_option maxRecDepth 100000 in
set_option maxHeartbeats 1000000 in
theorem rstored_any (A A' : Option Addr) (n c m c' : Nat) (fs : List Field) (es : List Entry) (w : World) (hs : RepList w (· < w.heap.size) A n c fs) (hd : RepList w (· < w.heap.size) A' m c' es) (hm : m ≤ 2513169434843) (hN : ∀ e ∈ es, e.numbers.length ≤ 17592186044416) :
    Calls Try.prog 36 #[.agg #[.slice A n c], .agg #[.slice A' m c']] w fun e w' => ∃ v, e = .returned v ∧ Own (w.heap.size ≤ ·) w' w.heap.size 54 v (es.filter (keptB fs)) ∧ Below w.heap.size w w' := by
  obtain ⟨i0, hi0, hz0, hz1, hz2⟩ := info_parts entry_info
  obtain ⟨j0, hj0', hjz0, hjz1, hjz2⟩ := info_parts int64_info
  have hb0 : Below w.heap.size w ((w.alloc (.cells #[.slice A n c] 31)).alloc (.cells #[.slice A' m c'] 34)) := (((Below.refl _ _).alloc (Nat.le_refl _) _).alloc (by simp) _)
  have B0 : Blk ((w.alloc (.cells #[.slice A n c] 31)).alloc (.cells #[.slice A' m c'] 34)) w.heap.size 31 #[.slice A n c] := (Blk.new w _ _).alloc _
  have B1 : Blk ((w.alloc (.cells #[.slice A n c] 31)).alloc (.cells #[.slice A' m c'] 34)) (w.heap.size + 1) 34 #[.slice A' m c'] := by
    have := Blk.new (w.alloc (.cells #[.slice A n c] 31)) 34 #[.slice A' m c']
    simpa using this
  have hsz : ((w.alloc (.cells #[.slice A n c] 31)).alloc (.cells #[.slice A' m c'] 34)).heap.size = w.heap.size + 2 := by simp
  have hcap := hd.cap
  go_enter Try.func36, Try.ntmps36
  go_wp2
  obtain ⟨W0, hW0⟩ : ∃ W0, (w.alloc (.cells #[.slice A n c] 31)).alloc (.cells #[.slice A' m c'] 34) = W0 := ⟨_, rfl⟩
  rw [hW0] at hb0 B0 B1 hsz ⊢
  clear hW0
  have hs0 := hs.on hb0
  have hd0 := hd.on hb0
  go_loopw [5, 6] (fun v i wr => ∃ k : Nat, k ≤ m ∧ i = .int .i64 k ∧ Own (w.heap.size ≤ ·) wr W0.heap.size 54 v ((es.take k).filter (keptB fs)) ∧ Below W0.heap.size W0 wr) (fun _ i _ => m - (intOf i).toNat)
  case atStart => exact ⟨0, Nat.zero_le _, rfl, by simpa using Own.nil _ _ _ _, Below.refl _ _⟩
  case round =>
    obtain ⟨k, hk, rfl, hown, hb⟩ := hrel
    have c0 := (B0.below hb (by omega)).cell 0
    have c1 := (B1.below hb (by omega)).cell 0
    simp only [List.getElem?_toArray, List.getElem?_cons_zero] at c0 c1
    by_cases hlt : k < m
    · obtain ⟨bb, off, e, rfl, He, hbk, he⟩ := (hd0.on hb).at_ hlt
      obtain ⟨A2, n2, c2, e0, e1, e2, q1, q2, q3⟩ := Entry.at_ he
      have hs1 := hs0.on hb
      clear hs hd hs0 hd0 he
      go_wp2_with fail
      go_still_tail 7, (by kernel_rfl)
      change wpList _ _ _ _ _ wr.drew
      go_wp2_with fail
      refine (rfind_any A n c fs e.field _ (hs1.on ((Below.refl _ _).drew))).mono ?_
      rintro e' w1 ⟨rfl, hb1⟩
      have hb2 : Below wr.heap.size wr w1 := ((Below.refl _ _).drew).trans hb1
      have c0' := cell_on hb2 c0
      have c1' := cell_on hb2 c1
      have e0' := cell_on hb2 e0
      have e1' := cell_on hb2 e1
      have e2' := cell_on hb2 e2
      have hown1 := hown.on hb2
      have hs2 := hs1.on hb2
      have q1' := q1.on hb2
      clear hown hs1 q1
      rcases hfn : findN fs e.field with _ | j
      · have hkeep : keptB fs e = false := by unfold keptB; rw [hfn]
        have hr : findR fs e.field = -1 := by unfold findR; rw [hfn]
        rw [hr]
        have Hk := Lib.hid hkeep
        clear hr hfn hkeep
        have hb3 := hb.trans (hb2.mono hb.size)
        clear hb hb1 hb2 c0 c1 e0 e1 e2
        go_wp2
        go_roundw
        case rel => exact ⟨k + 1, by omega, by go_num, by rw [filter_no He.out Hk.out]; exact hown1, hb3⟩
        case measure => simp [intOf]; omega
      · have hr : findR fs e.field = j := by unfold findR; rw [hfn]
        rw [hr]
        obtain ⟨f', hf', _⟩ := findN_lt hfn
        have hjn : j < n := by have := lt_of_get? hf'; have := hs2.length; omega
        obtain ⟨bs, os, f, rfl, Hf, hbs, hfe⟩ := hs2.at_ hjn
        obtain ⟨A3, n3, c3, f0, f1, f2, f3, f4, f5, f6, _⟩ := Field.at_ hfe
        have hkeep : keptB fs e = f.stored := by unfold keptB; rw [hfn]; simp only; rw [Hf.out]; rfl
        have hcs := hs2.cap
        have hb3 := hb.trans (hb2.mono hb.size)
        have hj0 : (0 : Int) ≤ j := by omega
        clear hr hfn hf' hfe hb hb1 hb2 c0 c1 e0 e1 e2 f0 f1 f2 f3 f4 f5
        rcases hst : f.stored with _ | _
        · rw [hst] at f6 hkeep
          have Hk := Lib.hid hkeep
          clear hkeep hst
          go_wp2
          go_roundw
          case rel => exact ⟨k + 1, by omega, by go_num, by rw [filter_no He.out Hk.out]; exact hown1, hb3⟩
          case measure => simp [intOf]; omega
        · rw [hst] at f6 hkeep
          have Hk := Lib.hid hkeep
          have hn2 : n2 ≤ 17592186044416 := by have := hN e (List.mem_of_getElem? He.out); have := q1'.length; omega
          have q1r := q1'.reads_ints
          have hin := q1'.in64
          have hR := ((q1r.alloc (Nat.le_refl _) (.cells #[.string e.field, .string e.text, .slice A2 n2 c2] 54)).alloc (by simp) (.cells #[] 2))
          have hO : ((w1.alloc (.cells #[.string e.field, .string e.text, .slice A2 n2 c2] 54)).alloc (.cells #[] 2)).ownsRow (w1.heap.size + 1) 2 1 (.slice (some ⟨w1.heap.size + 1, 0, none⟩) 0 0) 0 [] := by
            have := World.ownsRow_lit (base := w1.heap.size + 1) (e := 2) (size := 1) (w1.alloc (.cells #[.string e.field, .string e.text, .slice A2 n2 c2] 54)) #[] 0 (by simp) (by simp [maxLen]) rfl
            simpa using this
          have hE : Blk ((w1.alloc (.cells #[.string e.field, .string e.text, .slice A2 n2 c2] 54)).alloc (.cells #[] 2)) w1.heap.size 54 #[.string e.field, .string e.text, .slice A2 n2 c2] := (Blk.new w1 _ _).alloc _
          have hB : Below w1.heap.size w1 ((w1.alloc (.cells #[.string e.field, .string e.text, .slice A2 n2 c2] 54)).alloc (.cells #[] 2)) := ((Below.refl _ _).alloc (Nat.le_refl _) _).alloc (by simp) _
          have hfl : ((es.take k).filter (keptB fs)).length ≤ k := Nat.le_trans (List.length_filter_le _ _) (List.length_take_le _ _)
          obtain ⟨L, hL⟩ : ∃ L, ((es.take k).filter (keptB fs)).length = L := ⟨_, rfl⟩
          rw [hL] at hfl
          have HL := Lib.hid hL
          have Hown1 := Lib.hid hown1
          have HR := Lib.hid hR
          have HO := Lib.hid hO
          have HE := Lib.hid hE
          have HB := Lib.hid hB
          have Hin := Lib.hid hin
          clear hkeep hst hN hL hR hO hE hB hin hown1 q1r
          go_wp2_with (first
            | (at_builtin
               refine wpList_append_any _ rfl (.tmp 39) (.tmp 41) _ rfl (w1.heap.size + 1) 2 j0 _ 1 8 Try.underlying22 hj0' hjz0 hjz1 hjz2 rfl (by omega) (.slice (some ⟨w1.heap.size + 1, 0, none⟩) 0 0) 0 [] rfl
                 HO.out _ A2 n2 c2 (ints e.numbers) rfl HR.out (ints_one _) (by simp only [maxLen]; omega) (by omega) (by simp) ?_
               intro v3 w3 ho3 hg3 hat3
               simp only [Nat.zero_add, List.nil_append] at ho3 hat3
               obtain ⟨A3, c3, rfl⟩ := own_slice ho3
               have hE3 := HE.out.grown hg3 (by simp [Value.ownBlock])
               have b0 := hE3.cell 0
               have b1 := hE3.cell 1
               have b2 := hE3.cell 2
               have bf := hE3.frozen 2
               simp only [List.getElem?_toArray, List.getElem?_cons_zero, List.getElem?_cons_succ] at b0 b1 b2
               have hb31 : Below w1.heap.size w1 w3 := HB.out.grown hg3 (by simp; omega) (by intro q hq; simp [Value.ownBlock] at hq; omega)
               have hb32 : Below w1.heap.size w1 (w3.setCell ⟨w1.heap.size, 2, none⟩ (.slice A3 n2 c3)) := hb31.setCell (Nat.le_refl _) _
               have hnum : RepList w3 (fun b => w1.heap.size + 1 ≤ b ∧ b < w3.heap.size) A3 n2 c3 e.numbers := own_reads ho3 Hin.out
               have hnum2 : RepList (w3.setCell ⟨w1.heap.size, 2, none⟩ (.slice A3 n2 c3)) (fun b => w1.heap.size + 1 ≤ b ∧ b < w3.heap.size) A3 n2 c3 e.numbers := hnum.keep (fun p hp => World.cell?_setCell_other _ _ p _ (fun e => by subst e; simp at hp; omega)) (fun _ h => h)
               have hsz3 : w1.heap.size < w3.heap.size := by have := hg3.size; simp at this; omega
               have hb33 : Below w1.heap.size w1 ((w3.setCell ⟨w1.heap.size, 2, none⟩ (.slice A3 n2 c3)).alloc (.cells #[.string e.field, .string e.text, .slice A3 n2 c3] 54)) := hb32.alloc (by simp; omega) _
               have hb34 : Below W0.heap.size W0 ((w3.setCell ⟨w1.heap.size, 2, none⟩ (.slice A3 n2 c3)).alloc (.cells #[.string e.field, .string e.text, .slice A3 n2 c3] 54)) := hb3.trans (hb33.mono hb3.size)
               have hnum3 := (hnum2.keep (w' := ((w3.setCell ⟨w1.heap.size, 2, none⟩ (.slice A3 n2 c3)).alloc (.cells #[.string e.field, .string e.text, .slice A3 n2 c3] 54))) (F' := fun b => w1.heap.size + 1 ≤ b ∧ b < w3.heap.size) (fun p hp => ((Below.refl (w3.setCell ⟨w1.heap.size, 2, none⟩ (.slice A3 n2 c3)).heap.size (w3.setCell ⟨w1.heap.size, 2, none⟩ (.slice A3 n2 c3))).alloc (Nat.le_refl _) _).cell (by simp; omega)) (fun _ h => h))
               have Hb4 := Lib.hid hb34
               have Hnum := Lib.hid hnum3
               obtain ⟨css, hcl, hcr, hco⟩ := Hown1.out.on hb33
               rw [HL.out] at hco
               have hnew : Reads ((w3.setCell ⟨w1.heap.size, 2, none⟩ (.slice A3 n2 c3)).alloc (.cells #[.string e.field, .string e.text, .slice A3 n2 c3] 54)) (w3.heap.size + 1) 3 (some ⟨w3.heap.size, 0, none⟩) 1 [.string e.field, .string e.text, .slice A3 n2 c3] := by
                 have := reads_new (w3.setCell ⟨w1.heap.size, 2, none⟩ (.slice A3 n2 c3)) #[.string e.field, .string e.text, .slice A3 n2 c3] 54 1 3 rfl
                 simpa using this
               have Hcl := Lib.hid hcl
               have Hcr := Lib.hid hcr
               have Hco := Lib.hid hco
               clear hb31 hb32 hb33 hb34 hnum hnum2 hnum3 hcl hcr hco ho3 hg3 hat3 hE3)
            | (at_builtin
               refine wpList_append_any _ rfl (.tmp 44) (.tmp 46) _ rfl W0.heap.size 54 i0 _ 3 56 Try.underlying32 hi0 hz0 hz1 hz2 rfl (by omega) _ _ css.flatten rfl Hco.out (w3.heap.size + 1) (some ⟨w3.heap.size, 0, none⟩) 1 1 [.string e.field, .string e.text, .slice A3 n2 c3] rfl hnew (by simp [Value.oneCell']) (by simp only [maxLen]; omega) (by omega) Hb4.out.size ?_
               intro v5 w5 ho5 hg5 hat5
               have hb5 : Below W0.heap.size W0 w5 := below_any (v' := v5) Hb4.out Hb4.out.size (own_from Hco.out) hg5
               have Ho5 := Lib.hid ho5
               have Hg5 := Lib.hid hg5
               have Hat5 := Lib.hid hat5
               clear ho5 hg5 hat5))
          have hfin : Own (w.heap.size ≤ ·) w5 W0.heap.size 54 v5 ((es.take (k + 1)).filter (keptB fs)) := by
            rw [filter_yes He.out Hk.out]
            have hnum := Hnum.out
            exact own_push (cs := [.string e.field, .string e.text, .slice A3 n2 c3]) Hcl.out Hcr.out
              (Entry.of_cells (hnum.more (fun b hb => ⟨by have := hb0.size; have := hb3.size; omega, by simp; omega, fun h => by have := Hown1.out.block_lt h.symm; omega⟩)) q2 q3) (by rw [HL.out]; exact Ho5.out) Hg5.out Hat5.out
          go_roundw
          case rel => exact ⟨k + 1, by omega, by go_num, hfin, hb5⟩
          case measure => simp [intOf]; omega
    · obtain rfl : k = m := by omega
      have hl := hd0.length
      have Hf : Hid (es.take k = es) := by show _ = _; exact List.take_of_length_le (by omega)
      clear hs hd hs0 hd0 hl
      go_wp2
      go_ret
      exact ⟨_, rfl, by rw [← Hf.out]; exact hown.mono hb0.size, hb0.trans (hb.mono hb0.size)⟩
end Go.Proofs.Ytnngapfbeappcaa

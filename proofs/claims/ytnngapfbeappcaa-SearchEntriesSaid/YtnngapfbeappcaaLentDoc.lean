/- The walks of lecternkit's LentStrings, KeptStrings, LentEntries, LentDoc. -/
import Derived.Test.YtnngapfbeappcaaLent
import Derived.Test.YtnngapfbeappcaaRStored
namespace Go.Proofs.Ytnngapfbeappcaa
open Rep (rep)
open Go.RowKit

theorem string_info : (Try.prog.info? 9).map (fun i => (i.zero, i.size, i.bytes)) = some (some (.string ByteArray.empty), 1, 16) := by kernel_rfl

set_option maxHeartbeats 1000000 in
theorem lentStrings_rep (A : Option Addr) (n c : Nat) (xs : List ByteArray) (w : World) (hn : n ≤ 8796093021952) (hx : RepList w (· < w.heap.size) A n c xs) :
    Calls Try.prog 13 #[.slice A n c] w fun e w' => ∃ A' c', e = .returned (.slice A' n c') ∧ RepList w' (Fresh w.heap.size w') A' n c' xs ∧ MarkAt w' (Fresh w.heap.size w') 1 A' n c' (.string ⟨#[109, 97, 114, 107]⟩) ∧ Below w.heap.size w w' := by
  obtain ⟨i0, hi0, hz0, hz1, hz2⟩ := info_parts string_info
  have hl := hx.length
  have Hs := Lib.hid hx.str_size
  have Hr := Lib.hid hx.reads_strs
  have Hl := Lib.hid hl
  clear hl hx
  go_enter Try.func13, Try.ntmps13
  go_wp2_with (first
    | (at_builtin
       refine wpList_append_any _ rfl (.tmp 4) (.tmp 5) _ rfl w.heap.size 9 i0 _ 1 16 Try.underlying35 hi0 hz0 hz1 hz2 rfl (by omega) (.slice none 0 0) 0 [] rfl (World.ownsRow_nil _ _ _ _) w.heap.size A n c (strs xs) rfl Hr.out (strs_one xs) (by simp only [maxLen]; omega) (by omega) (Nat.le_refl _) ?_
       intro v1 w1 ho1 hg1 hat1
       simp only [Nat.zero_add, List.nil_append] at ho1
       have hb1 : Below w.heap.size w w1 := (Below.refl _ _).grown hg1 (Nat.le_refl _) (by simp [Value.ownBlock])
       have Hown1 := Lib.hid (own_strs (fun _ => False) ho1 Hs.out)
       clear ho1 hg1 hat1)
    | (at_builtin
       refine wpList_mark rfl (.tmp 7) (.tmp 8) _ rfl w.heap.size 9 i0 _ 16 Try.underlying35 hi0 hz0 hz1 hz2 rfl v1 xs rfl (Hown1.out.alloc _) w1.heap.size #[.string ⟨#[109, 97, 114, 107]⟩] (.string ⟨#[109, 97, 114, 107]⟩) rfl (Blk.new _ _ _) rfl (by simp [Value.oneCell']) rfl (by have := Hl.out; omega) (by have := Hl.out; omega) (by have := hb1.size; simp; omega) ?_
       intro A2 c2 w2 hr2 hm2 hb2
       rw [Hl.out] at hr2 hm2 ⊢
       have hb3 : Below w.heap.size w w2 := (hb1.alloc hb1.size _).trans hb2
       have hc2 := hm2.1
       have Hr2 := Lib.hid hr2
       have Hm2 := Lib.hid hm2
       have hc3 := hr2.cap
       clear hr2 hm2 hb2))
  go_ret
  exact ⟨_, _, rfl, Hr2.out.more (fun b h => ⟨by rcases h.1 with h | h; exact h.elim; exact h, h.2⟩), Hm2.out.keep (fun _ _ => rfl) (fun b h => ⟨by rcases h.1 with h | h; exact h.elim; exact h, h.2⟩), hb3⟩

set_option maxHeartbeats 400000 in
theorem keptStrings_rep (A A' : Option Addr) (n c n' c' : Nat) (xs : List ByteArray) (w : World) (hn : n ≤ 8796093021952) (hx : RepList w (· < w.heap.size) A n c xs) (hm : MarkAt w (· < w.heap.size) 1 A n c (.string ⟨#[109, 97, 114, 107]⟩)) (hy : RepList w (· < w.heap.size) A' n' c' xs) :
    Calls Try.prog 20 #[.slice A n c, .slice A' n' c'] w fun e w' => e = .returned (.bool true) ∧ InDraws w w' := by
  obtain ⟨h1, b, off, rfl, _, hc⟩ := hm
  have hcap := hx.cap
  rw [Nat.mul_one] at hc
  go_enter Try.func20, Try.ntmps20
  go_wp2_with fail
  refine (strings_rep _ _ n n' _ _ xs xs _ hx hy).mono ?_
  rintro e w' ⟨rfl, j, rfl⟩
  simp only [decide_true]
  clear hx hy
  go_wp2
  go_ret
  exact ⟨rfl, j, rfl⟩

set_option maxRecDepth 100000 in
set_option maxHeartbeats 1000000 in
theorem lentEntries_rep (A : Option Addr) (n c : Nat) (es : List Entry) (w : World) (hn : n ≤ 2513169434843) (hN : ∀ e ∈ es, e.numbers.length ≤ 17592186043904) (hx : RepList w (· < w.heap.size) A n c es) :
    Calls Try.prog 31 #[.slice A n c] w fun e w' => ∃ A' c', e = .returned (.slice A' n c') ∧ RepList w' (Fresh w.heap.size w') A' n c' (es.map lentEntry) ∧ MarkAt w' (Fresh w.heap.size w') 3 A' n c' (.string ⟨#[109, 97, 114, 107]⟩) ∧ Below w.heap.size w w' := by
  obtain ⟨i0, hi0, hz0, hz1, hz2⟩ := info_parts entry_info
  have hl := hx.length
  have hcap := hx.cap
  have Hl := Lib.hid hl
  have HN := Lib.hid hN
  clear hl hN
  go_enter Try.func31, Try.ntmps31
  go_wp2
  go_loopw [3, 4] (fun v i wr => ∃ k : Nat, k ≤ n ∧ i = .int .i64 k ∧ Own (w.heap.size ≤ ·) wr w.heap.size 54 v ((es.take k).map lentEntry) ∧ Below w.heap.size w wr) (fun _ i _ => n - (intOf i).toNat)
  case atStart => exact ⟨0, Nat.zero_le _, rfl, by simpa using Own.nil _ _ _ _, Below.refl _ _⟩
  case round =>
    obtain ⟨k, hk, rfl, hown, hb⟩ := hrel
    by_cases hlt : k < n
    · obtain ⟨bb, off, e, rfl, He, hbk, he⟩ := (hx.on hb).at_ hlt
      obtain ⟨A2, n2, c2, e0, e1, e2, q1, q2, q3⟩ := Entry.at_ he
      have hn2 : n2 ≤ 17592186043904 := by have := HN.out e (List.mem_of_getElem? He.out); have := q1.length; omega
      have Q1 := Lib.hid q1
      have Hown := Lib.hid hown
      have hbe : Below wr.heap.size wr (wr.alloc (.cells #[.string e.field, .string e.text, .slice A2 n2 c2] 54)) := (Below.refl _ _).alloc (Nat.le_refl _) _
      have hBe := Blk.new wr 54 #[.string e.field, .string e.text, .slice A2 n2 c2]
      clear hx he q1 hown
      have Hbe := Lib.hid hbe
      have HBe := Lib.hid hBe
      clear hbe hBe
      go_wp2_with fail
      refine (lentInt64s_rep A2 n2 c2 e.numbers _ hn2 (Q1.out.on Hbe.out)).mono ?_
      rintro e' w2 ⟨A3, c3, rfl, hr3, hm3, hb3⟩
      have hb3' : Below wr.heap.size wr w2 := Hbe.out.trans (hb3.mono Hbe.out.size)
      have hE3 := HBe.out.below hb3 (by simp)
      have b0 := hE3.cell 0
      have b1 := hE3.cell 1
      have b2 := hE3.cell 2
      have bf := hE3.frozen 2
      simp only [List.getElem?_toArray, List.getElem?_cons_zero, List.getElem?_cons_succ] at b0 b1 b2
      have hsz3 : wr.heap.size < w2.heap.size := by have := hb3.size; simp at this; omega
      have hb33 : Below wr.heap.size wr ((w2.setCell ⟨wr.heap.size, 2, none⟩ (.slice A3 n2 c3)).alloc (.cells #[.string e.field, .string e.text, .slice A3 n2 c3] 54)) := (hb3'.setCell (p := ⟨wr.heap.size, 2, none⟩) (Nat.le_refl _) _).alloc (by simp; omega) _
      have kp : ∀ p : Addr, Fresh (wr.alloc (.cells #[.string e.field, .string e.text, .slice A2 n2 c2] 54)).heap.size w2 p.block → ((w2.setCell ⟨wr.heap.size, 2, none⟩ (.slice A3 n2 c3)).alloc (.cells #[.string e.field, .string e.text, .slice A3 n2 c3] 54)).cell? p = w2.cell? p := by
        intro p hp
        have hp1 := hp.1
        have hp2 := hp.2
        simp at hp1
        rw [((Below.refl (w2.setCell ⟨wr.heap.size, 2, none⟩ (.slice A3 n2 c3)).heap.size (w2.setCell ⟨wr.heap.size, 2, none⟩ (.slice A3 n2 c3))).alloc (Nat.le_refl _) _).cell (by simp; omega)]
        exact World.cell?_setCell_other _ _ p _ (fun e => by subst e; simp at hp1; omega)
      have hr4 := hr3.keep kp (fun _ h => h)
      have hm4 := hm3.keep kp (fun _ h => h)
      have hfl : ((es.take k).map lentEntry).length = k := by have := Hl.out; simp; omega
      have hown4 := Hown.out.on hb33
      have hblk : Blk ((w2.setCell ⟨wr.heap.size, 2, none⟩ (.slice A3 n2 c3)).alloc (.cells #[.string e.field, .string e.text, .slice A3 n2 c3] 54)) w2.heap.size 54 #[.string e.field, .string e.text, .slice A3 n2 c3] := by
        have := Blk.new (w2.setCell ⟨wr.heap.size, 2, none⟩ (.slice A3 n2 c3)) 54 #[.string e.field, .string e.text, .slice A3 n2 c3]
        simpa using this
      have hb4 : Below w.heap.size w ((w2.setCell ⟨wr.heap.size, 2, none⟩ (.slice A3 n2 c3)).alloc (.cells #[.string e.field, .string e.text, .slice A3 n2 c3] 54)) := hb.trans (hb33.mono hb.size)
      have hrep : rep ((w2.setCell ⟨wr.heap.size, 2, none⟩ (.slice A3 n2 c3)).alloc (.cells #[.string e.field, .string e.text, .slice A3 n2 c3] 54)) (Fr (w.heap.size ≤ ·) ((w2.setCell ⟨wr.heap.size, 2, none⟩ (.slice A3 n2 c3)).alloc (.cells #[.string e.field, .string e.text, .slice A3 n2 c3] 54)) u3) #[.string e.field, .string e.text, .slice A3 n2 c3].toList (lentEntry e) :=
        LEntry.of_cells (x := lentEntry e) ⟨hr4.more (fun b h => ⟨by have := hb.size; have h1 := h.1; simp at h1 ⊢; omega, by have h2 := h.2; simp; omega, fun h' => by have := Hown.out.block_lt h'.symm; have h1 := h.1; simp at h1; omega⟩), hm4.keep (fun _ _ => rfl) (fun b h => ⟨by have := hb.size; have h1 := h.1; simp at h1 ⊢; omega, by have h2 := h.2; simp; omega, fun h' => by have := Hown.out.block_lt h'.symm; have h1 := h.1; simp at h1; omega⟩)⟩ q2 q3
      have Hrep := Lib.hid hrep
      have Hblk := Lib.hid hblk
      have Hown4 := Lib.hid hown4
      have Hb4 := Lib.hid hb4
      have Hfl := Lib.hid hfl
      clear hr3 hm3 hb3 hb3' hE3 hb33 kp hr4 hm4 hown4 hblk hb4 hrep hfl hb e0 e1 e2
      go_wp2_with (at_builtin; refine wpList_push rfl (.tmp 20) (.tmp 22) _ rfl w.heap.size 54 i0 _ 56 Try.underlying32 hi0 hz0 hz1 hz2 rfl u3 ((es.take k).map lentEntry) rfl Hown4.out w2.heap.size #[.string e.field, .string e.text, .slice A3 n2 c3] (lentEntry e) rfl Hblk.out Hrep.out (by rw [Hfl.out]; omega) (by rw [Hfl.out]; omega) Hb4.out.size ?_; intro v5 w5 hown5 hg5 hb5; have Hown5 := Lib.hid hown5; have hb6 := Hb4.out.trans hb5; clear hown5 hg5 hb5)
      have hfin : (es.take (k + 1)).map lentEntry = (es.take k).map lentEntry ++ [lentEntry e] := by rw [List.take_add_one, He.out]; simp
      go_roundw
      case rel => exact ⟨k + 1, by omega, by go_num, by rw [hfin]; exact Hown5.out, hb6⟩
      case measure => simp [intOf]; omega
    · obtain rfl : k = n := by omega
      have Hf : Hid (es.take k = es) := List.take_of_length_le (by have := Hl.out; omega)
      have hown' : Own (w.heap.size ≤ ·) wr w.heap.size 54 u3 (es.map lentEntry) := by rw [← Hf.out]; exact hown
      have Hown := Lib.hid hown'
      have Hml : Hid ((es.map lentEntry).length = k) := by show _ = _; have := Hl.out; simp; omega
      clear hown hown' hx
      go_wp2_with (at_builtin; refine wpList_mark rfl (.tmp 24) (.tmp 26) _ rfl w.heap.size 54 i0 _ 56 Try.underlying32 hi0 hz0 hz1 hz2 rfl u3 (es.map lentEntry) rfl (Hown.out.alloc _) wr.heap.size #[.string ⟨#[109, 97, 114, 107]⟩, .string ByteArray.empty, .slice none 0 0] (.string ⟨#[109, 97, 114, 107]⟩) rfl (Blk.new _ _ _) rfl (by simp [Value.oneCell']) rfl (by rw [Hml.out]; omega) (by rw [Hml.out]; omega) (by have := hb.size; simp; omega) ?_; intro A2 c2 w2 hr2 hm2 hb2; rw [Hml.out] at hr2 hm2 ⊢; have hb3 : Below w.heap.size w w2 := (hb.alloc hb.size _).trans hb2; have hc2 := hm2.1; have Hr2 := Lib.hid hr2; have Hm2 := Lib.hid hm2; have hc3 := hr2.cap; clear hr2 hm2 hb2)
      go_ret
      exact ⟨_, _, rfl, Hr2.out.more (fun b h => ⟨by rcases h.1 with h | h <;> exact h, h.2⟩), Hm2.out.keep (fun _ _ => rfl) (fun b h => ⟨by rcases h.1 with h | h <;> exact h, h.2⟩), hb3⟩
end Go.Proofs.Ytnngapfbeappcaa

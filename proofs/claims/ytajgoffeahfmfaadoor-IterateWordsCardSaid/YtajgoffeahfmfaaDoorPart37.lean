/- The texts RRuns of IterateWords, joined by program (tools/merge.py): walks of the functions that the law reaches, and plain facts; no condition. -/
import Derived.Test.YtajgoffeahfmfaaDoorPart35
import Derived.Test.YtajgoffeahfmfaaDoorPart36
import Derived.Test.YtajgoffeahfmfaaDoorPart16
set_option linter.unusedVariables false
set_option linter.unusedSimpArgs false

/- The walks of lecternref06.word, may and runs. (Written by tools/gen_rruns.py.) -/
namespace Go.Proofs.YtajgoffeahfmfaaDoor
open Rep (rep)
open Go.RowKit

theorem rword_any (r : Int) (w : World) : Calls Tryd.prog 60 #[.int .i32 r] w fun e w' => e = .returned (.bool (wordB r)) ∧ Below w.heap.size w w' := by
  rcases hl : letterB r with _ | _
  · have Hl := Lib.hid hl
    clear hl
    go_enter Tryd.func60, Tryd.ntmps60
    go_wp2_with fail
    refine (rletter_any r w).mono ?_
    rw [Hl.out]
    rintro e w1 ⟨rfl, hb1⟩
    have Hb1 := Lib.hid hb1
    clear hb1
    go_wp2_with fail
    refine (rdigit_any r w1).mono ?_
    rintro e w2 ⟨rfl, hb2⟩
    have Hb2 := Lib.hid hb2
    clear hb2
    go_wp2
    go_ret
    exact ⟨ret_bool (by simp [wordB, Hl.out]), Hb1.out.trans (Hb2.out.mono Hb1.out.size)⟩
  · have Hl := Lib.hid hl
    clear hl
    go_enter Tryd.func60, Tryd.ntmps60
    go_wp2_with fail
    refine (rletter_any r w).mono ?_
    rw [Hl.out]
    rintro e w1 ⟨rfl, hb1⟩
    have Hb1 := Lib.hid hb1
    clear hb1
    go_wp2
    go_ret
    exact ⟨ret_bool (by simp [wordB, Hl.out]), Hb1.out⟩

theorem rmay_any (number r : Int) (w : World) : Calls Tryd.prog 59 #[.int .i64 number, .int .i32 r] w fun e w' => e = .returned (.bool (mN number r)) ∧ Below w.heap.size w w' := by
  by_cases hn : number = 2
  · subst hn
    go_enter Tryd.func59, Tryd.ntmps59
    go_wp2_with fail
    refine (rblank_any r w).mono ?_
    rintro e w1 ⟨rfl, rfl⟩
    go_wp2
    go_ret
    exact ⟨ret_bool (by simp [mN, notBlank]), Below.refl _ _⟩
  · have hn2 : (number == 2) = false := by simpa using hn
    have hm : mN number r = wordMark r := by simp [mN, hn]
    rw [hm]
    clear hn hm
    rcases hl : wordB r with _ | _
    · have Hl := Lib.hid hl
      clear hl
      go_enter Tryd.func59, Tryd.ntmps59
      go_wp2_with fail
      refine (rword_any r w).mono ?_
      rw [Hl.out]
      rintro e w1 ⟨rfl, hb1⟩
      have Hb1 := Lib.hid hb1
      clear hb1
      go_wp2_with fail
      refine (rmark_any r w1).mono ?_
      rintro e w2 ⟨rfl, hb2⟩
      have Hb2 := Lib.hid hb2
      clear hb2
      go_wp2
      go_ret
      exact ⟨ret_bool (by simp [wordMark, Hl.out]), Hb1.out.trans (Hb2.out.mono Hb1.out.size)⟩
    · have Hl := Lib.hid hl
      clear hl
      go_enter Tryd.func59, Tryd.ntmps59
      go_wp2_with fail
      refine (rword_any r w).mono ?_
      rw [Hl.out]
      rintro e w1 ⟨rfl, hb1⟩
      have Hb1 := Lib.hid hb1
      clear hb1
      go_wp2
      go_ret
      exact ⟨ret_bool (by simp [wordMark, Hl.out]), Hb1.out⟩

set_option maxRecDepth 100000 in
set_option maxHeartbeats 4000000 in
theorem rruns_any (number : Int) (A : Option Addr) (n c : Nat) (l : List Int) (w : World) (hn : n ≤ 8000000000000) (hx : RepList w (· < w.heap.size) A n c (i32s l)) :
    Calls Tryd.prog 43 #[.int .i64 number, .slice A n c] w fun e w' => ∃ v, e = .returned v ∧ Own Flat w' w.heap.size 80 v (runC (mN number) (bN number) l) ∧ Below w.heap.size w w' := by
  obtain ⟨i0, hi0, hz0, hz1, hz2⟩ := info_parts pair_info
  have lx : l.length = n := by have := hx.length; rw [i32s_len] at this; exact this
  have hcap := hx.cap
  have Lx := Lib.hid lx
  have Hx := Lib.hid hx
  clear lx hx
  go_enter Tryd.func43, Tryd.ntmps43
  go_wp2
  go_loopw [5, 6] (fun v i wr => ∃ (j : Nat) (out : List (Nat × Nat)), j ≤ n ∧ i = .int .i64 j ∧ OutI (mN number) (bN number) l j out ∧ Own Flat wr w.heap.size 80 v out ∧ Below w.heap.size w wr) (fun _ i _ => n - (intOf i).toNat)
  case atStart => exact ⟨0, [], by omega, rfl, OutI.zero, Own.nil _ _ _ _, Below.refl _ _⟩
  case round =>
    obtain ⟨i, out, hi, rfl, hout, oo, hbw⟩ := hrel
    obtain ⟨Ao, co, rfl⟩ := oo.form
    have Hout := Lib.hid hout
    have Hoo := Lib.hid oo
    have Hbw := Lib.hid hbw
    obtain ⟨L, hL⟩ : ∃ L, out.length = L := ⟨_, rfl⟩
    rw [hL] at Hoo oo ⊢
    have HL := Lib.hid hL
    clear hout oo hbw hL
    by_cases hlt : i < n
    · have Hxr := Lib.hid (Hx.out.on Hbw.out)
      obtain ⟨bl, off, ⟨r⟩, rfl, hr, hbk, he⟩ := Hxr.out.at_ hlt
      have hc1 := he.i32
      have hr := Lib.hid (i32s_get hr.out)
      simp only at hr hc1
      clear he
      rcases hm : mN number r with _ | _
      · have Hm := Lib.hid hm
        have Hst := Lib.hid (Hout.out.out_m hr.out hm)
        clear hm
        go_wp2_with fail
        refine (rmay_any number r _).mono ?_
        rw [Hm.out]
        rintro e w1 ⟨rfl, hb1⟩
        have Hb1 := Lib.hid hb1
        clear hb1
        go_wp2
        go_roundw
        case rel => exact ⟨i + 1, out, by omega, by go_num, Hst.out, Hoo.out.on Hb1.out, Hbw.out.trans (Hb1.out.mono Hbw.out.size)⟩
        case measure => simp [intOf]; omega
      · have Hm := Lib.hid hm
        clear hm
        by_cases hn2 : number = 2
        · subst hn2
          have Hin := Lib.hid (Hout.out.in_ hr.out Hm.out rfl)
          go_wp2_with fail
          refine (rmay_any 2 r _).mono ?_
          rw [Hm.out]
          rintro e w1 ⟨rfl, hb1⟩
          have Hb1 : Hid (Below w.heap.size w w1) := Hbw.out.trans (hb1.mono Hbw.out.size)
          have Ho1 : Hid (Own Flat w1 w.heap.size 80 (.slice Ao L co) out) := by
            show Own _ _ _ _ _ _
            exact Hoo.out.on hb1
          clear hb1 hc1
          go_wp2_with fail
          go_loopw [7] (fun kv wi => ∃ k : Nat, k ≤ n ∧ kv = .int .i64 k ∧ InI (mN 2) (bN 2) l i k out ∧ Own Flat wi w.heap.size 80 (.slice Ao L co) out ∧ Below w.heap.size w wi) (fun kv _ => n - (intOf kv).toNat)
          case atStart => exact ⟨i, by omega, rfl, Hin.out, Ho1.out, Hb1.out⟩
          case round =>

            obtain ⟨k, hk, rfl, hin, oi, hbi⟩ := hrel
            have Hin := Lib.hid hin
            have Hoi := Lib.hid oi
            have Hbi := Lib.hid hbi
            have hik := hin.le
            have hln := hin.len
            rw [HL.out] at hln
            clear hin oi hbi
            by_cases hkn : k < n
            · have Hxi := Lib.hid (Hx.out.on Hbi.out)
              obtain ⟨⟨r2⟩, hr2, he2⟩ := Hxi.out.at_b hkn
              have hc3 := he2.i32
              have Hr2 := Lib.hid (i32s_get hr2.out)
              simp only at Hr2 hc3
              clear he2 hr2
              rcases hm2 : mN 2 r2 with _ | _
              · have Hm2 := Lib.hid hm2
                have hne : i ≠ k := by
                  intro h
                  subst h
                  cases hr.out.symm.trans Hr2.out
                  cases hm2.symm.trans Hm.out
                have Hcl := Lib.hid (Hin.out.close (by rw [Lx.out]; exact hlt) (.inr ⟨r2, Hr2.out, hm2, hne⟩))
                clear hm2
                go_wp2_with fail
                refine (rmay_any 2 r2 _).mono ?_
                rw [Hm2.out]
                rintro e w3 ⟨rfl, hb3⟩
                have Hb3 : Hid (Below w.heap.size w w3) := Hbi.out.trans (hb3.mono Hbi.out.size)
                have Ho3 : Hid (Own Flat w3 w.heap.size 80 (.slice Ao L co) out) := by
                  show Own _ _ _ _ _ _
                  exact Hoi.out.on hb3
                have hs3 := Hb3.out.size
                clear hb3 hc3
                go_wp2_with (at_builtin
                             go_must (refine wpList_pushF rfl (.tmp 48) (.tmp 52) _ rfl w.heap.size 80 i0 _ 16 Tryd.underlying79 hi0 hz0 hz1 hz2 rfl (.slice Ao L co) out rfl (Ho3.out.alloc (.cells #[.int .i64 (i : Int), .int .i64 (k : Int)] 80)) _ #[.int .i64 (i : Int), .int .i64 (k : Int)] (i, k) rfl (Blk.new _ _ _) rfl (by rw [HL.out]; omega) (by rw [HL.out]; omega) (by simp; omega) ?_)
                             rw [HL.out]
                             intro A4 c4 w4 ho4 hg4 hb4
                             have Ho4 := Lib.hid ho4
                             have Hb4 := Lib.hid hb4
                             clear ho4 hg4 hb4)
                go_roundw
                case rel => exact ⟨k, out ++ [(i, k)], by omega, by go_num, Hcl.out, Ho4.out, (Hb3.out.alloc (by omega) _).trans Hb4.out⟩
                case measure => simp [intOf]; omega
              · have Hm2 := Lib.hid hm2
                have Hst := Lib.hid (Hin.out.step Hr2.out hm2)
                clear hm2
                go_wp2_with fail
                refine (rmay_any 2 r2 _).mono ?_
                rw [Hm2.out]
                rintro e w3 ⟨rfl, hb3⟩
                have Hb3 := Lib.hid hb3
                clear hb3 hc3
                go_wp2
                go_roundw
                case rel => exact ⟨k + 1, by omega, by go_num, Hst.out, Hoi.out.on Hb3.out, Hbi.out.trans (Hb3.out.mono Hbi.out.size)⟩
                case measure => simp [intOf]; omega
            · obtain rfl : k = n := by omega
              have Hcl := Lib.hid (Hin.out.close (by rw [Lx.out]; exact hlt) (.inl Lx.out.symm))
              have hs3 := Hbi.out.size
              go_wp2_with (at_builtin
                           go_must (refine wpList_pushF rfl (.tmp 48) (.tmp 52) _ rfl w.heap.size 80 i0 _ 16 Tryd.underlying79 hi0 hz0 hz1 hz2 rfl (.slice Ao L co) out rfl (Hoi.out.alloc (.cells #[.int .i64 (i : Int), .int .i64 (k : Int)] 80)) _ #[.int .i64 (i : Int), .int .i64 (k : Int)] (i, k) rfl (Blk.new _ _ _) rfl (by rw [HL.out]; omega) (by rw [HL.out]; omega) (by simp; omega) ?_)
                           rw [HL.out]
                           intro A4 c4 w4 ho4 hg4 hb4
                           have Ho4 := Lib.hid ho4
                           have Hb4 := Lib.hid hb4
                           clear ho4 hg4 hb4)
              go_roundw
              case rel => exact ⟨k, out ++ [(i, k)], by omega, by go_num, Hcl.out, Ho4.out, (Hbi.out.alloc (by omega) _).trans Hb4.out⟩
              case measure => simp [intOf]; omega
        · have hn3 : (number == 2) = false := by simpa using hn2
          have Hn2 := Lib.hid hn2
          rcases hwd : wordB r with _ | _
          · have Hwd := Lib.hid hwd
            have Hst := Lib.hid (Hout.out.out_b hr.out Hm.out (by simp [bN, hn2, hwd]))
            clear hwd hn2
            go_wp2_with fail
            refine (rmay_any number r _).mono ?_
            rw [Hm.out]
            rintro e w1 ⟨rfl, hb1⟩
            have hc2 := (hb1.cell (p := ⟨bl, off + i, none⟩) hbk).trans hc1
            have Hb1 : Hid (Below w.heap.size w w1) := Hbw.out.trans (hb1.mono Hbw.out.size)
            have Ho1 : Hid (Own Flat w1 w.heap.size 80 (.slice Ao L co) out) := by
              show Own _ _ _ _ _ _
              exact Hoo.out.on hb1
            clear hb1 hc1
            go_wp2_with fail
            refine (rword_any r _).mono ?_
            rw [Hwd.out]
            rintro e w2 ⟨rfl, hb2⟩
            have Hb2 := Lib.hid hb2
            clear hb2 hc2
            go_wp2
            go_roundw
            case rel => exact ⟨i + 1, out, by omega, by go_num, Hst.out, Ho1.out.on Hb2.out, Hb1.out.trans (Hb2.out.mono Hb1.out.size)⟩
            case measure => simp [intOf]; omega
          · have Hwd := Lib.hid hwd
            have Hin := Lib.hid (Hout.out.in_ hr.out Hm.out (by simp [bN, hn2, hwd]))
            clear hwd hn2
            go_wp2_with fail
            refine (rmay_any number r _).mono ?_
            rw [Hm.out]
            rintro e w1 ⟨rfl, hb1⟩
            have hc2 := (hb1.cell (p := ⟨bl, off + i, none⟩) hbk).trans hc1
            have Hb1 : Hid (Below w.heap.size w w1) := Hbw.out.trans (hb1.mono Hbw.out.size)
            have Ho1 : Hid (Own Flat w1 w.heap.size 80 (.slice Ao L co) out) := by
              show Own _ _ _ _ _ _
              exact Hoo.out.on hb1
            clear hb1 hc1
            go_wp2_with fail
            refine (rword_any r _).mono ?_
            rw [Hwd.out]
            rintro e w2 ⟨rfl, hb2⟩
            have Hb1 : Hid (Below w.heap.size w w2) := Hb1.out.trans (hb2.mono Hb1.out.size)
            have Ho1 : Hid (Own Flat w2 w.heap.size 80 (.slice Ao L co) out) := by
              show Own _ _ _ _ _ _
              exact Ho1.out.on hb2
            clear hb2 hc2
            go_wp2_with fail
            go_loopw [7] (fun kv wi => ∃ k : Nat, k ≤ n ∧ kv = .int .i64 k ∧ InI (mN number) (bN number) l i k out ∧ Own Flat wi w.heap.size 80 (.slice Ao L co) out ∧ Below w.heap.size w wi) (fun kv _ => n - (intOf kv).toNat)
            case atStart => exact ⟨i, by omega, rfl, Hin.out, Ho1.out, Hb1.out⟩
            case round =>

              obtain ⟨k, hk, rfl, hin, oi, hbi⟩ := hrel
              have Hin := Lib.hid hin
              have Hoi := Lib.hid oi
              have Hbi := Lib.hid hbi
              have hik := hin.le
              have hln := hin.len
              rw [HL.out] at hln
              clear hin oi hbi
              by_cases hkn : k < n
              · have Hxi := Lib.hid (Hx.out.on Hbi.out)
                obtain ⟨⟨r2⟩, hr2, he2⟩ := Hxi.out.at_b hkn
                have hc3 := he2.i32
                have Hr2 := Lib.hid (i32s_get hr2.out)
                simp only at Hr2 hc3
                clear he2 hr2
                rcases hm2 : mN number r2 with _ | _
                · have Hm2 := Lib.hid hm2
                  have hne : i ≠ k := by
                    intro h
                    subst h
                    cases hr.out.symm.trans Hr2.out
                    cases hm2.symm.trans Hm.out
                  have Hcl := Lib.hid (Hin.out.close (by rw [Lx.out]; exact hlt) (.inr ⟨r2, Hr2.out, hm2, hne⟩))
                  clear hm2
                  go_wp2_with fail
                  refine (rmay_any number r2 _).mono ?_
                  rw [Hm2.out]
                  rintro e w3 ⟨rfl, hb3⟩
                  have Hb3 : Hid (Below w.heap.size w w3) := Hbi.out.trans (hb3.mono Hbi.out.size)
                  have Ho3 : Hid (Own Flat w3 w.heap.size 80 (.slice Ao L co) out) := by
                    show Own _ _ _ _ _ _
                    exact Hoi.out.on hb3
                  have hs3 := Hb3.out.size
                  clear hb3 hc3
                  go_wp2_with (at_builtin
                               go_must (refine wpList_pushF rfl (.tmp 48) (.tmp 52) _ rfl w.heap.size 80 i0 _ 16 Tryd.underlying79 hi0 hz0 hz1 hz2 rfl (.slice Ao L co) out rfl (Ho3.out.alloc (.cells #[.int .i64 (i : Int), .int .i64 (k : Int)] 80)) _ #[.int .i64 (i : Int), .int .i64 (k : Int)] (i, k) rfl (Blk.new _ _ _) rfl (by rw [HL.out]; omega) (by rw [HL.out]; omega) (by simp; omega) ?_)
                               rw [HL.out]
                               intro A4 c4 w4 ho4 hg4 hb4
                               have Ho4 := Lib.hid ho4
                               have Hb4 := Lib.hid hb4
                               clear ho4 hg4 hb4)
                  go_roundw
                  case rel => exact ⟨k, out ++ [(i, k)], by omega, by go_num, Hcl.out, Ho4.out, (Hb3.out.alloc (by omega) _).trans Hb4.out⟩
                  case measure => simp [intOf]; omega
                · have Hm2 := Lib.hid hm2
                  have Hst := Lib.hid (Hin.out.step Hr2.out hm2)
                  clear hm2
                  go_wp2_with fail
                  refine (rmay_any number r2 _).mono ?_
                  rw [Hm2.out]
                  rintro e w3 ⟨rfl, hb3⟩
                  have Hb3 := Lib.hid hb3
                  clear hb3 hc3
                  go_wp2
                  go_roundw
                  case rel => exact ⟨k + 1, by omega, by go_num, Hst.out, Hoi.out.on Hb3.out, Hbi.out.trans (Hb3.out.mono Hbi.out.size)⟩
                  case measure => simp [intOf]; omega
              · obtain rfl : k = n := by omega
                have Hcl := Lib.hid (Hin.out.close (by rw [Lx.out]; exact hlt) (.inl Lx.out.symm))
                have hs3 := Hbi.out.size
                go_wp2_with (at_builtin
                             go_must (refine wpList_pushF rfl (.tmp 48) (.tmp 52) _ rfl w.heap.size 80 i0 _ 16 Tryd.underlying79 hi0 hz0 hz1 hz2 rfl (.slice Ao L co) out rfl (Hoi.out.alloc (.cells #[.int .i64 (i : Int), .int .i64 (k : Int)] 80)) _ #[.int .i64 (i : Int), .int .i64 (k : Int)] (i, k) rfl (Blk.new _ _ _) rfl (by rw [HL.out]; omega) (by rw [HL.out]; omega) (by simp; omega) ?_)
                             rw [HL.out]
                             intro A4 c4 w4 ho4 hg4 hb4
                             have Ho4 := Lib.hid ho4
                             have Hb4 := Lib.hid hb4
                             clear ho4 hg4 hb4)
                go_roundw
                case rel => exact ⟨k, out ++ [(i, k)], by omega, by go_num, Hcl.out, Ho4.out, (Hbi.out.alloc (by omega) _).trans Hb4.out⟩
                case measure => simp [intOf]; omega
    · obtain rfl : i = n := by omega
      have hfin : Hid (runC (mN number) (bN number) l = out) := by
        show _ = _
        have := Hout.out
        rw [← Lx.out] at this
        exact this.done
      go_wp2
      go_ret
      exact ⟨_, rfl, by rw [hfin.out]; exact Hoo.out, Hbw.out⟩
end Go.Proofs.YtajgoffeahfmfaaDoor

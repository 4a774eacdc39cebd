/- The texts Run6 of IterateWords, joined by program (tools/merge.py): walks of the functions that the law reaches, and plain facts; no condition. -/
import Derived.Test.YtajgoffeahfmfaaDoorPart32
import Derived.Test.YtajgoffeahfmfaaDoorPart33
set_option linter.unusedVariables false
set_option linter.unusedSimpArgs false

/- The walk of analysis.Run. -/
namespace Go.Proofs.YtajgoffeahfmfaaDoor
open Rep (rep)
open Go.RowKit

set_option maxRecDepth 100000 in
set_option maxHeartbeats 2000000 in
theorem run6_any (A : Option Addr) (n c : Nat) (xs : List Int) (s : ByteArray) (w : World) (hT : Tabs w) (hr : RepList w (· < w.heap.size) A n c xs) :
    Calls Tryd.prog 15 #[.slice A n c, .string s] w fun e w' => ∃ v er, e = .returned (.tuple #[v, .int .i64 er]) ∧ Own Flat w' w.heap.size 44 v (runT xs s) ∧ Below w.heap.size w w' := by
  have hcap := hr.cap
  have hl := hr.length
  have HT := Lib.hid hT
  have Hr := Lib.hid hr
  clear hr hT
  obtain ⟨q, hq⟩ : ∃ q, runT xs s = q := ⟨_, rfl⟩
  rw [hq]
  by_cases hch : chainB xs = true
  · rcases xs with _ | ⟨x0, t⟩
    · cases hch
    have h7 := chain_len hch
    have hn1 : n = t.length + 1 := by simpa using hl.symm
    obtain ⟨b, off, x, rfl, hx, hb, he⟩ := Hr.out.at_ (k := 0) (by omega)
    obtain rfl : x0 = x := by simpa using hx.out
    have hc0 : ∀ W, Below w.heap.size w W → W.cell? ⟨b, off, none⟩ = some (.int .i64 x0) := fun W hW => (hW.cell (p := ⟨b, off, none⟩) hb).trans (by simpa using he.int.1)
    have Hc0 := Lib.hid hc0
    have hck := check6_any (some ⟨b, off, none⟩) n c (x0 :: t) w HT.out Hr.out
    rw [hch, show errOf true = 0 from rfl] at hck
    have Hck := Lib.hid hck
    clear hck
    have Hch := Lib.hid hch
    have Hq := Lib.hid hq
    clear hx he hch hq hl hc0
    by_cases hs : (4096 : Int) < s.size
    · obtain rfl : q = [] := Hq.out.symm.trans (runT_long (by omega))
      clear hn1
      go_enter Tryd.func15, Tryd.ntmps15
      go_wp2_with fail
      refine Hck.out.mono ?_
      rintro e w1 ⟨rfl, hb1⟩
      have Hb1 := Lib.hid hb1
      clear hb1
      go_wp2
      go_ret2
      exact ⟨_, _, rfl, Own.nil _ _ _ _, Hb1.out⟩
    · have hs2 : s.size ≤ 4096 := by omega
      have hs3 : (s.size : Int) ≤ 4096 := by omega
      have hpos : 0 < n := by omega
      obtain ⟨toks, htk⟩ : ∃ l, tokensL x0 s = l := ⟨_, rfl⟩
      have hsm : Small 4096 toks := by rw [← htk]; exact fun t ht => Nat.le_trans (tokensL_small x0 s t ht) hs2
      have hfin : (if toks.length ≤ 4096 then (lks t toks).getD [] else []) = q := (runT_ok Hch.out hs2 htk).symm.trans Hq.out
      have Hsm := Lib.hid hsm
      have Hfin := Lib.hid hfin
      have Htk := Lib.hid htk
      have Hn1 := Lib.hid hn1
      clear hsm hfin htk hs hn1 Hq
      by_cases hc1 : c = 1
      · obtain rfl : n = 1 := by omega
        subst hc1
        go_enter Tryd.func15, Tryd.ntmps15
        go_wp2_with fail
        refine Hck.out.mono ?_
        rintro e w1 ⟨rfl, hb1⟩
        have hc01 := Hc0.out w1 hb1
        have Hb1 := Lib.hid hb1
        clear hb1
        go_wp2_with fail
        refine (tokens_any x0 s hs2 w1 (HT.out.on Hb1.out)).mono ?_
        rw [Htk.out]
        rintro e w2 ⟨v, rfl, o2, hb2⟩
        obtain ⟨A2, c2, rfl⟩ := o2.form
        have hs1 := Hb1.out.size
        have Hb2 : Hid (Below w.heap.size w w2) := Hb1.out.trans (hb2.mono hs1)
        have Ho2 : Hid (Own Flat w2 w.heap.size 44 (.slice A2 toks.length c2) toks) := o2.mono hs1
        clear o2 hb2 hs1
        by_cases hmany : (4096 : Int) < toks.length
        · obtain rfl : q = [] := by rw [← Hfin.out, if_neg (by omega)]
          go_wp2
          go_ret2
          exact ⟨_, _, rfl, Own.nil _ _ _ _, Hb2.out⟩
        · have hfew : (toks.length : Int) ≤ 4096 := by omega
          have hfin : (lks t toks).getD [] = q := by rw [← Hfin.out, if_pos (by omega)]
          have Hfin := Lib.hid hfin
          clear hfin hmany hc01
          go_wp2
          go_loopw [7, 31] (fun v i wr => v = .slice A2 toks.length c2 ∧ i = .int .i64 0 ∧ wr = w2) (fun _ _ _ => 0)
          case atStart => exact ⟨rfl, rfl, rfl⟩
          case round =>
            obtain ⟨rfl, rfl, rfl⟩ := hrel
            go_wp2
            go_ret2
            exact ⟨_, _, rfl, by rw [← Hfin.out, List.eq_nil_of_length_eq_zero (show t.length = 0 by have := Hn1.out; omega)]; exact Ho2.out, Hb2.out⟩
      · go_enter Tryd.func15, Tryd.ntmps15
        go_wp2_with fail
        refine Hck.out.mono ?_
        rintro e w1 ⟨rfl, hb1⟩
        have hc01 := Hc0.out w1 hb1
        have Hb1 := Lib.hid hb1
        clear hb1
        go_wp2_with fail
        refine (tokens_any x0 s hs2 w1 (HT.out.on Hb1.out)).mono ?_
        rw [Htk.out]
        rintro e w2 ⟨v, rfl, o2, hb2⟩
        obtain ⟨A2, c2, rfl⟩ := o2.form
        have hs1 := Hb1.out.size
        have Hb2 : Hid (Below w.heap.size w w2) := Hb1.out.trans (hb2.mono hs1)
        have Ho2 : Hid (Own Flat w2 w.heap.size 44 (.slice A2 toks.length c2) toks) := o2.mono hs1
        clear o2 hb2 hs1
        by_cases hmany : (4096 : Int) < toks.length
        · obtain rfl : q = [] := by rw [← Hfin.out, if_neg (by omega)]
          go_wp2
          go_ret2
          exact ⟨_, _, rfl, Own.nil _ _ _ _, Hb2.out⟩
        · have hfew : (toks.length : Int) ≤ 4096 := by omega
          have hfin : (lks t toks).getD [] = q := by rw [← Hfin.out, if_pos (by omega)]
          have Hfin := Lib.hid hfin
          clear hfin hmany hc01
          go_wp2
          go_loopw [7, 31] (fun v i wr => ∃ (j : Nat) (cur : List Token), j + 1 ≤ n ∧ i = .int .i64 j ∧ lks (t.take j) toks = some cur ∧ Small (4096 * 4 ^ j) cur ∧ Own Flat wr w.heap.size 44 v cur ∧ Below w.heap.size w wr) (fun _ i _ => n - (intOf i).toNat)
          case atStart => exact ⟨0, toks, by omega, rfl, rfl, by simpa using Hsm.out, Ho2.out, Hb2.out⟩
          case round =>
            obtain ⟨j, cur, hj, rfl, hlk, hsc, oc, hbw⟩ := hrel
            obtain ⟨Ac, cc, rfl⟩ := oc.form
            have Hlk := Lib.hid hlk
            have Hsc := Lib.hid hsc
            have Hoc := Lib.hid oc
            have Hbw := Lib.hid hbw
            obtain ⟨L, hL⟩ : ∃ L, cur.length = L := ⟨_, rfl⟩
            rw [hL] at Hoc oc ⊢
            have HL := Lib.hid hL
            clear hlk hsc oc hbw hL
            by_cases hlt : j < n - 1
            · obtain ⟨y, hy⟩ : ∃ y, t[j]? = some y := ⟨_, List.getElem?_eq_getElem (by have := Hn1.out; omega)⟩
              have hey : _ = _ := (((Hr.out.on Hbw.out).elem (k := j + 1) (by simpa using hy)).2.int.1)
              rw [show off + (j + 1) = off + 1 + j by omega] at hey
              have hf := chain_filter Hch.out hy
              have hsz : 4096 * 4 ^ j ≤ 1000000000 := by
                have : 4 ^ j ≤ 4 ^ 7 := Nat.pow_le_pow_right (by omega) (by have := Hn1.out; omega)
                omega
              have hst := lks_succ (toks := toks) hy
              rw [Hlk.out] at hst
              have hst : lks (t.take (j + 1)) toks = if (linkL y cur).length ≤ 4096 then some (linkL y cur) else none := hst
              have Hst := Lib.hid hst
              have Hy := Lib.hid hy
              have Hsz := Lib.hid hsz
              clear hy hst hsz
              have hrd := Hoc.out.reads.more (F' := (· < wr.heap.size)) (fun _ h => h.2)
              have hcl := link_is y hf Ac L cc cur wr (HT.out.on Hbw.out) hrd (fun t ht => Nat.le_trans (Hsc.out t ht) Hsz.out)
              have Hcl := Lib.hid hcl
              clear hrd hcl hf
              go_wp2_with fail
              refine Hcl.out.mono ?_
              rintro e w3 ⟨⟨hle, v3, rfl, o3⟩ | ⟨hgt, rfl⟩, hb3⟩
              · have hsw := Hbw.out.size
                have Hb3 : Hid (Below w.heap.size w w3) := Hbw.out.trans (hb3.mono hsw)
                have Ho3 : Hid (Own Flat w3 w.heap.size 44 v3 (linkL y cur)) := o3.mono hsw
                have Hle := Lib.hid hle
                clear hle o3 hb3 hsw
                go_wp2
                go_roundw
                case rel => exact ⟨j + 1, linkL y cur, by omega, by go_num, by rw [Hst.out, if_pos Hle.out], by rw [Nat.pow_succ, ← Nat.mul_assoc, Nat.mul_comm]; exact linkL_small Hsc.out, Ho3.out, Hb3.out⟩
                case measure => simp [intOf]; omega
              · have hdead : q = [] := by
                  rw [← Hfin.out, lks_dead (j := j + 1) (by rw [Hst.out, if_neg (by omega)])]; rfl
                subst hdead
                have Hb3 : Hid (Below w.heap.size w w3) := Hbw.out.trans (hb3.mono Hbw.out.size)
                clear hgt hb3
                go_wp2
                go_ret2
                exact ⟨_, _, rfl, Own.nil _ _ _ _, Hb3.out⟩
            · obtain rfl : j = n - 1 := by omega
              have hfin : cur = q := by
                rw [← Hfin.out, ← Option.getD_some (a := cur) (b := []), ← Hlk.out, List.take_of_length_le (by have := Hn1.out; omega)]
              subst hfin
              go_wp2
              go_ret2
              exact ⟨_, _, rfl, Hoc.out, Hbw.out⟩
  · obtain rfl : q = [] := hq.symm.trans (runT_bad (Bool.eq_false_iff.2 hch))
    have hch := Lib.hid (Bool.eq_false_iff.2 hch)
    clear hq hl
    go_enter Tryd.func15, Tryd.ntmps15
    go_wp2_with fail
    refine (check6_any A n c xs w HT.out Hr.out).mono ?_
    rw [hch.out, show errOf false = 60 from rfl]
    rintro e w1 ⟨rfl, hb1⟩
    have Hb1 := Lib.hid hb1
    clear hb1
    go_wp2
    go_ret2
    exact ⟨_, _, rfl, Own.nil _ _ _ _, Hb1.out⟩
end Go.Proofs.YtajgoffeahfmfaaDoor

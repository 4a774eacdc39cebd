/- The texts TokGrams of IterateWords, joined by program (tools/merge.py): walks of the functions that the law reaches, and plain facts; no condition. -/
import Derived.Test.YtajgoffeahfmfaaDoorPart17
import Derived.Deep.RegionHeld3
import Derived.Deep.DeepMust
import Derived.IntWalk
set_option linter.unusedVariables false
set_option linter.unusedSimpArgs false

/- The walk of analysis.tokens at TGrams. -/
namespace Go.Proofs.YtajgoffeahfmfaaDoor
open Rep (rep)
open Go.RowKit

theorem piece_facts {W w3 : World} {base base2 B8 : Nat} {t8 : Array Value} {n L cq cp A3n c3 : Nat} {Aq Ap A3 : Option Addr} {out : List Token} {p : List Nat} (o : Obj) (h8 : Blk W B8 44 t8) (hn : (Value.slice Aq L cq).ownBlock ≠ some B8) (hp : Own Flat W base2 3 (.slice Ap n cp) (natI p)) (ho : Own Flat W base 44 (.slice Aq L cq) out)
    (hg : (W.alloc o).drew.grownBy w3 (Value.slice Aq L cq).ownBlock) (hb : Below base (W.alloc o).drew w3) (hat : ∀ g, (Value.slice A3 A3n c3).ownBlock = some g → (Value.slice Aq L cq).ownBlock = some g ∨ g = (W.alloc o).drew.heap.size) :
    Blk w3 B8 44 t8 ∧ Own Flat w3 base2 3 (.slice Ap n cp) (natI p) ∧ (Value.slice A3 A3n c3).ownBlock ≠ some B8 ∧ (base ≤ W.heap.size → Below base W w3) := by
  refine ⟨(show Blk (W.alloc o).drew B8 _ _ from h8.alloc o).grown hg (Ne.symm hn), own_flat (hp.alloc o).drew hg (own_ne_own (hp.alloc o).drew (ho.alloc o).drew (by decide)), fun e => ?_, fun hB => ((Below.refl base W).alloc hB o).drew.trans hb⟩
  rcases hat _ e with h | h
  · exact hn h
  · have := h8.lt
    simp at h
    omega

set_option maxRecDepth 100000 in
set_option maxHeartbeats 4000000 in
theorem tokens_grams (number : Int) (h1 : number ≠ 1) (h2 : number ≠ 2) (h3 : number ≠ 3) (s : ByteArray) (hs : s.size ≤ 4096) (w : World) (hT : Tabs w) :
    Calls Tryd.prog 25 #[.int .i64 number, .string s] w fun e w' => ∃ v, e = .returned v ∧ Own Flat w' w.heap.size 44 v (gramsL (lettersL s)) ∧ Below w.heap.size w w' := by
  obtain ⟨i0, hi0, hz0, hz1, hz2⟩ := info_parts token_info
  have n1 : (number == 1) = false := by simpa using h1
  have n2 : (number == 2) = false := by simpa using h2
  have n3 : (number == 3) = false := by simpa using h3
  have hlen := runsL_len s wordMark wordB
  have hpart := runsL_part s wordMark wordB
  obtain ⟨toks, htk⟩ : ∃ toks, lettersL s = toks := ⟨_, rfl⟩
  rw [show runsL s wordMark wordB = toks from htk] at hlen hpart
  have Htk := Lib.hid htk
  have Hpart := Lib.hid hpart
  have HT := Lib.hid hT
  clear hT htk hpart h1 h2 h3
  rw [Htk.out]
  go_enter Tryd.func25, Tryd.ntmps25
  go_wp2_with fail
  refine (letters_any s (by omega) _ HT.out).mono ?_
  rw [Htk.out]
  rintro e w1 ⟨v, rfl, ho, hb⟩
  obtain ⟨At, ct, rfl⟩ := ho.form
  obtain ⟨nt, hnt⟩ : ∃ nt, toks.length = nt := ⟨_, rfl⟩
  rw [hnt] at ho hlen ⊢
  have hrd : RepList w1 (· < w1.heap.size) At nt ct toks := ho.reads.more (fun b h => h.2)
  have hcap := hrd.cap
  have hTW := HT.out.on hb
  have Hrd := Lib.hid hrd
  have HB1 := Lib.hid hb
  have HT1 := Lib.hid hTW
  have hs1 := hb.size
  clear ho hrd hb hTW hnt
  go_wp2_with fail
  go_loopw [6, 30] (fun v j wr => ∃ k : Nat, k ≤ nt ∧ j = .int .i64 k ∧ Own Flat wr w1.heap.size 44 v ((toks.take k).foldl gramsOne []) ∧ Below w1.heap.size w1 wr) (fun _ j _ => nt - (intOf j).toNat)
  case atStart => exact ⟨0, Nat.zero_le _, rfl, Own.nil _ _ _ _, Below.refl _ _⟩
  case round =>
    obtain ⟨k, hk, rfl, oo, hbw⟩ := hrel
    obtain ⟨wo, rfl⟩ : ∃ wo : World, wo = wr := ⟨_, rfl⟩
    obtain ⟨out, hout⟩ : ∃ out, (toks.take k).foldl gramsOne [] = out := ⟨_, rfl⟩
    rw [hout] at oo
    by_cases hlt : k < nt
    · obtain ⟨bt, ot, t, rfl, htk, hbt, hel⟩ := Hrd.out.at_ hlt
      obtain ⟨e0, e1, e2, e3, hok⟩ := Token.at_ hel
      have hpt := Hpart.out t (List.mem_of_getElem? htk.out)
      have hsz := hpt.size
      have e0' := (hbw.cell (p := ⟨bt, ot + k * 4, none⟩) hbt).trans e0
      have e1' := (hbw.cell (p := ⟨bt, ot + k * 4 + 1, none⟩) hbt).trans e1
      have e2' := (hbw.cell (p := ⟨bt, ot + k * 4 + 2, none⟩) hbt).trans e2
      have e3' := (hbw.cell (p := ⟨bt, ot + k * 4 + 3, none⟩) hbt).trans e3
      have Hok := Lib.hid hok
      have Hoo := Lib.hid oo
      have Hout := Lib.hid hout
      have HBw := Lib.hid hbw
      have hsw := hbw.size
      have Hptk := Lib.hid hpt
      have Hsz := Lib.hid hsz
      clear hel e0 e1 e2 e3 hok oo hout hbw hpt hsz
      have b8 := Blk.new wo 44 #[.string t.text, .int .i64 t.pos, .int .i64 t.from_, .int .i64 t.to_]
      have B8 := Lib.hid b8
      clear b8
      go_wp2_with fail
      refine (places_any t.text (by have := Hsz.out; omega) _ ((HT1.out.on HBw.out).on ((Below.refl _ _).alloc (Nat.le_refl _) _))).mono ?_
      rintro e w2 ⟨vp, rfl, op, hb2⟩
      obtain ⟨Ap, cp, rfl⟩ := op.form
      have hpl := places_len t.text
      obtain ⟨p, hp⟩ : ∃ p, places t.text = p := ⟨_, rfl⟩
      rw [hp] at op hpl ⊢
      have hnl : (natI p).length = p.length := by simp [natI]
      rw [hnl] at op ⊢
      obtain ⟨np, hnp⟩ : ∃ np, p.length = np := ⟨_, rfl⟩
      rw [hnp] at op hpl ⊢
      have b82 := B8.out.below hb2 (by simp)
      have oo2 := (Hoo.out.alloc (.cells #[.string t.text, .int .i64 t.pos, .int .i64 t.from_, .int .i64 t.to_] 44)).on hb2
      have B82 := Lib.hid b82
      have Oo2 := Lib.hid oo2
      have Op2 := Lib.hid op
      have Hb2 : Hid (Below wo.heap.size wo w2) := ((Below.refl _ wo).alloc (Nat.le_refl _) _).trans (hb2.mono (by simp))
      have hs2 := hb2.size
      simp only [World.size_alloc] at hs2
      have Hp := Lib.hid hp
      have Hnp := Lib.hid hnp
      clear b82 oo2 op hb2 hp hnp hnl
      have hnb : np ≤ 4097 := by have := Hsz.out; omega
      obtain ⟨g, hg⟩ : ∃ g, gramN p = g := ⟨_, rfl⟩
      have hg2 : g ≤ 2 ∧ g + 1 ≤ np := by rw [← hg]; unfold gramN; rw [Hnp.out]; omega
      have hmin : min 2 ((np : Int) - 1) = (g : Int) := by rw [← hg]; unfold gramN; rw [Hnp.out]; omega
      have Hg := Lib.hid hg
      clear hg
      go_wp2_with fail
      clear hmin
      go_loopw [6, 11] (fun v i wi => ∃ j : Nat, j + g ≤ np ∧ i = .int .i64 j ∧ Own Flat wi w1.heap.size 44 v (piecesTo t p g out j) ∧ Own Flat wi (wo.heap.size + 1) 3 (.slice Ap np cp) (natI p) ∧ Blk wi wo.heap.size 44 #[.string t.text, .int .i64 t.pos, .int .i64 t.from_, .int .i64 t.to_] ∧ v.ownBlock ≠ some wo.heap.size ∧ Below w1.heap.size w1 wi ∧ wo.heap.size + 1 ≤ wi.heap.size) (fun _ i _ => np - (intOf i).toNat)
      case atStart =>
        refine ⟨0, by omega, rfl, Oo2.out, by simpa using Op2.out, B82.out, fun e => ?_, HBw.out.trans (Hb2.out.mono hsw), hs2⟩
        have := Hoo.out.block_lt e
        omega
      case round =>
        obtain ⟨j, hj, rfl, oi, opi, b8i, hni, hbi, hsi⟩ := hrel
        have Oi := Lib.hid oi
        have Opi := Lib.hid opi
        have B8i := Lib.hid b8i
        have Hni := Lib.hid hni
        have Hbi := Lib.hid hbi
        clear oi opi b8i hni hbi
        have hsz2 := Hsz.out
        obtain ⟨Aq, cq, rfl⟩ := Oi.out.form
        have hpl2 := piecesTo_len t p g out j
        obtain ⟨L, hL⟩ : ∃ L, (piecesTo t p g out j).length = L := ⟨_, rfl⟩
        rw [hL] at Oi Hni hpl2 ⊢
        have HL := Lib.hid hL
        have hLb : L ≤ out.length + j := by omega
        have Hpl2 := Lib.hid hpl2
        clear hpl2
        have hol : out.length ≤ 16793604 := by
          have h1 := gramsL_len 4096 (toks.take k) (fun t ht => by have := (Hpart.out t (List.mem_of_mem_take ht)).size; omega)
          unfold gramsL at h1
          rw [Hout.out] at h1
          have h2 : (toks.take k).length ≤ k := List.length_take_le _ _
          have h3 : (toks.take k).length * (4096 + 1) ≤ 4097 * 4097 := Nat.mul_le_mul (by omega) (by omega)
          omega
        clear hL
        by_cases hjt : j + g < np
        · obtain ⟨a, ha⟩ : ∃ a, p[j]? = some a := ⟨_, List.getElem?_eq_getElem (by have := Hnp.out; omega)⟩
          obtain ⟨c, hc⟩ : ∃ c, p[j + g]? = some c := ⟨_, List.getElem?_eq_getElem (by have := Hnp.out; omega)⟩
          obtain ⟨gp, hAp, ca⟩ := own_place Opi.out ha
          subst hAp
          obtain ⟨gp', hAp, cc⟩ := own_place Opi.out hc
          cases hAp
          have hac : a ≤ c := places_mono (s := t.text) (by rw [Hp.out]; exact ha) (by rw [Hp.out]; exact hc) (by omega)
          have hcs : c ≤ t.text.size := places_le (s := t.text) (by rw [Hp.out]; exact List.mem_of_getElem? hc)
          have hpc : pieceTok t p g L j = ⟨t.text.extract a c, L, t.from_ + a, t.from_ + c⟩ := by unfold pieceTok; rw [ha, hc]; rfl
          have Hpc := Lib.hid hpc
          have Htok : Hid (Token.ok ⟨t.text.extract a c, L, t.from_ + a, t.from_ + c⟩) := by
            refine ⟨?_, ?_, ?_, ?_⟩
            · simp only [ByteArray.size_extract]; omega
            all_goals (unfold In64; simp only; omega)
          obtain ⟨fr, hfr⟩ : ∃ fr, t.from_ = fr := ⟨_, rfl⟩
          rw [hfr] at hsz2 Htok Hpc
          have hgl := (cell_lt ca)
          have hgn : gp ≠ wo.heap.size := by
            rintro rfl
            obtain ⟨_, _, _, hr⟩ := Opi.out
            rcases hr.2 with ⟨h, _⟩ | ⟨g', _, _, h, _, hgb, _⟩
            · cases h
            · cases h; have := B8i.out; unfold Blk at this; rw [this] at hgb; simp at hgb
          have k0 := B8i.out.cell 0
          have k2 := B8i.out.cell 2
          simp only [List.getElem?_toArray, List.getElem?_cons_zero, List.getElem?_cons_succ] at k0 k2
          rw [hfr] at k2
          have g0 : (0 : Int) ≤ (j : Int) := by omega
          have g1 : (j : Int) < (np : Int) := by omega
          have g2 : (j : Int) + (g : Int) < (np : Int) := by omega
          have g3 : (0 : Int) ≤ (j : Int) + (g : Int) := by omega
          have g4 : ((j : Int) + (g : Int)).toNat = j + g := by omega
          have g5 : IntKind.i64.wrap ((j : Int) + (g : Int)) = (j : Int) + (g : Int) := IntWalk.i64_in _ (by omega)
          have g6 : (0 : Int) ≤ (a : Int) := by omega
          have g7 : (a : Int) ≤ (c : Int) := by omega
          have g8 : (c : Int) ≤ (t.text.size : Int) := by omega
          have g9 : IntKind.i64.wrap (fr + (a : Int)) = fr + (a : Int) := IntWalk.i64_in _ (by omega)
          have g10 : IntKind.i64.wrap (fr + (c : Int)) = fr + (c : Int) := IntWalk.i64_in _ (by omega)
          have g11 : (0 : Int) ≤ (c : Int) := by omega
          have Ha := Lib.hid ha
          have Hc := Lib.hid hc
          have Hfr := Lib.hid hfr
          clear ha hc hpc hfr
          go_wp2
          go_region_held3 (fun w' => w'.cell? ⟨wo.heap.size, 0, none⟩ = some (.string t.text) ∧ w'.cell? ⟨wo.heap.size, 2, none⟩ = some (.int .i64 fr) ∧ w'.cell? ⟨gp, j, none⟩ = some (.int .i64 (a : Int)) ∧ w'.cell? ⟨gp, j + g, none⟩ = some (.int .i64 (c : Int))) (go_keep)
            (go_must (
              refine step_pushG rfl (.tmp 49) (.tmp 82) _ rfl w1.heap.size 44 i0 _ 40 Tryd.underlying34 hi0 hz0 hz1 hz2 rfl (.slice Aq L cq) (piecesTo t p g out j) rfl (Oi.out.alloc _).drew wr.heap.size #[.string (t.text.extract a c), .int .i64 (L : Int), .int .i64 (fr + (a : Int)), .int .i64 (fr + (c : Int))] ⟨t.text.extract a c, L, fr + a, fr + c⟩ rfl (Blk.new _ _ _).drew (Token.rep_of Htok.out) (by rw [HL.out]; omega) (by rw [HL.out]; omega) (by have := Hbi.out.size; simp; omega) ?_
              rw [HL.out]
              intro A3 c3 w3 ho3 hg3 hb3 hat3
              obtain ⟨b83, op3, hn3, hb4⟩ := piece_facts (.cells #[.string (t.text.extract a c), .int .i64 (L : Int), .int .i64 (fr + (a : Int)), .int .i64 (fr + (c : Int))] 44) B8i.out Hni.out Opi.out Oi.out hg3 hb3 hat3
              have k03 := b83.cell 0
              have k23 := b83.cell 2
              simp only [List.getElem?_toArray, List.getElem?_cons_zero, List.getElem?_cons_succ] at k03 k23
              rw [Hfr.out] at k23
              obtain ⟨gq, hq, ca3⟩ := own_place op3 Ha.out
              cases hq
              obtain ⟨gq, hq, cc3⟩ := own_place op3 Hc.out
              cases hq
              have B83 := Lib.hid b83
              have Op3 := Lib.hid op3
              have Ho3 := Lib.hid ho3
              have Hn3 := Lib.hid hn3
              have Hb4 := Lib.hid (hb4 Hbi.out.size)
              clear b83 op3 ho3 hn3 hb4 hg3 hb3 hat3))
          go_wp2
          go_roundw
          case rel => exact ⟨j + 1, by omega, by go_num, by rw [piecesTo, HL.out, Hpc.out]; exact Ho3.out, Op3.out, B83.out, Hn3.out, Hbi.out.trans Hb4.out, by have := Hb4.out.size; omega⟩
          case measure => simp [intOf]; omega
        · have hjq : Hid (piecesTo t p g out j = (toks.take (k + 1)).foldl gramsOne []) := by
            show _ = _
            rw [List.take_add_one, htk.out, Option.toList_some, List.foldl_append, Hout.out, List.foldl_cons, List.foldl_nil]
            unfold gramsOne
            rw [Hp.out, Hg.out, Hnp.out, show j = np - g by omega]
          have hjt' : ¬ (j : Int) + (g : Int) < (np : Int) := by omega
          clear hjt
          go_wp2
          go_roundw
          case rel => exact ⟨k + 1, by omega, by go_num, by rw [← hjq.out]; exact Oi.out, Hbi.out⟩
          case measure => simp [intOf]; omega
    · obtain rfl : k = nt := by omega
      have hfin : Hid (out = gramsL toks) := by
        show _ = _
        rw [← hout, List.take_of_length_le (by have := Hrd.out.length; omega)]
        rfl
      have Hoo := Lib.hid oo
      have HBw := Lib.hid hbw
      clear hout oo hbw
      go_wp2
      go_ret
      exact ⟨_, rfl, by rw [← hfin.out]; exact Hoo.out.mono hs1, HB1.out.trans (HBw.out.mono hs1)⟩
theorem tokens_any (number : Int) (s : ByteArray) (hs : s.size ≤ 4096) (w : World) (hT : Tabs w) :
    Calls Tryd.prog 25 #[.int .i64 number, .string s] w fun e w' => ∃ v, e = .returned v ∧ Own Flat w' w.heap.size 44 v (tokensL number s) ∧ Below w.heap.size w w' := by
  by_cases h1 : number = 1
  · exact tokens_three number (.inl h1) s (by omega) w hT
  by_cases h2 : number = 2
  · exact tokens_three number (.inr (.inl h2)) s (by omega) w hT
  by_cases h3 : number = 3
  · exact tokens_three number (.inr (.inr h3)) s (by omega) w hT
  · have : tokensL number s = gramsL (lettersL s) := by simp [tokensL, h1, h2, h3]
    rw [this]
    exact tokens_grams number h1 h2 h3 s hs w hT
end Go.Proofs.YtajgoffeahfmfaaDoor

/- The texts RLink of IterateWords, joined by program (tools/merge.py): walks of the functions that the law reaches, and plain facts; no condition. -/
import Derived.Test.YtajgoffeahfmfaaDoorPart46
import Derived.Test.YtajgoffeahfmfaaDoorPart23
import Derived.Test.YtajgoffeahfmfaaDoorPart30
import Derived.Test.YtajgoffeahfmfaaDoorPart32
set_option linter.unusedVariables false
set_option linter.unusedSimpArgs false

/- The walk of lecternref06.Link. -/
namespace Go.Proofs.YtajgoffeahfmfaaDoor
open Rep (rep)
open Go.RowKit

def withT (t : Token) (x : ByteArray) : Token := { t with text := x }
theorem gramsTo_map (t : Token) (p : List Nat) (n : Nat) : ∀ j, gramsTo t p n j = (grR t.text p n j).map (withT t)
  | 0 => rfl
  | j + 1 => by rw [gramsTo, grR, List.map_append, gramsTo_map t p n j]; rfl
theorem gramsT_map (n : Nat) (t : Token) : gramsT n t = (grS n t.text).map (withT t) := by
  unfold gramsT grS
  split
  · rfl
  · exact gramsTo_map t _ n _
theorem oneL_map (number : Int) (hf : isFilter number = true) (t : Token) : oneL number t = (oneR number t.text).map (withT t) := by
  have h : number = 10 ∨ number = 11 ∨ number = 12 ∨ number = 13 ∨ number = 14 ∨ number = 15 := by simp [isFilter] at hf; omega
  rcases h with rfl | rfl | rfl | rfl | rfl | rfl
  · rfl
  · by_cases h : stopB t.text = true
    · simp [oneL, oneR, stopTok, h]
    · simp [oneL, oneR, stopTok, h, withT]
  · exact gramsT_map 2 t
  · exact gramsT_map 3 t
  · by_cases h : 17 < (places t.text).length
    · simp [oneL, oneR, shortT, h, withT]
    · simp [oneL, oneR, shortT, h, withT]
  · by_cases h : marksL t.text = []
    · simp [oneL, oneR, marksT, h]
    · simp [oneL, oneR, marksT, h, withT]

theorem rlink_not (n : Int) (hn : isFilter n = false) (A : Option Addr) (m c : Nat) (w : World) :
    Calls Tryd.prog 30 #[.int .i64 n, .slice A m c] w fun e w' => e = .returned (.tuple #[.slice none 0 0, .int .i64 60]) ∧ w = w' := by
  go_enter Tryd.func30, Tryd.ntmps30
  go_wp2_with (go_at_call 41; go_must (refine (rfilter_any n _).mono ?_); rw [hn]; rintro e w' ⟨rfl, rfl⟩)
  go_ret2
  exact ⟨rfl, rfl⟩

set_option maxRecDepth 100000 in
set_option maxHeartbeats 2000000 in
theorem rlink_is (n : Int) (hn : isFilter n = true) (A : Option Addr) (m c : Nat) (toks : List Token) (w : World) (hr : RepList w (· < w.heap.size) A m c toks) (hts : ∀ t ∈ toks, t.text.size ≤ 1000000000) :
    Calls Tryd.prog 30 #[.int .i64 n, .slice A m c] w fun e w' => (((linkL n toks).length ≤ 4096 ∧ ∃ v, e = .returned (.tuple #[v, .int .i64 0]) ∧ Own Flat w' w.heap.size 44 v (linkL n toks)) ∨ (4096 < (linkL n toks).length ∧ e = .returned (.tuple #[.slice none 0 0, .int .i64 84]))) ∧ Below w.heap.size w w' := by
  obtain ⟨i0, hi0, hz0, hz1, hz2⟩ := info_parts token_info
  have hcap := hr.cap
  have hlm := hr.length
  have Hr := Lib.hid hr
  have Hts := Lib.hid hts
  have Hlm := Lib.hid hlm
  clear hr hts hlm
  go_enter Tryd.func30, Tryd.ntmps30
  go_wp2_with (go_at_call 41; go_must (refine (rfilter_any n _).mono ?_); rw [hn]; rintro e w' ⟨rfl, rfl⟩)
  have Hn := Lib.hid hn
  clear hn
  go_loopw [6, 7] (fun v i wr => ∃ j : Nat, j ≤ m ∧ i = .int .i64 j ∧ Own Flat wr w.heap.size 44 v (linkL n (toks.take j)) ∧ (linkL n (toks.take j)).length ≤ 4096 ∧ Below w.heap.size w wr) (fun _ i _ => m - (intOf i).toNat)
  case atStart => exact ⟨0, by omega, rfl, Own.nil _ _ _ _, by simp [linkL], Below.refl _ _⟩
  case round =>
    obtain ⟨wo, rfl⟩ : ∃ wo, wo = wr := ⟨_, rfl⟩
    obtain ⟨j, hj, rfl, oo, hol, hbw⟩ := hrel
    obtain ⟨out, hout⟩ : ∃ out, linkL n (toks.take j) = out := ⟨_, rfl⟩
    rw [hout] at oo hol
    obtain ⟨Aq, cq, rfl⟩ := oo.form
    obtain ⟨L, hL⟩ : ∃ L, out.length = L := ⟨_, rfl⟩
    rw [hL] at oo hol ⊢
    have HL := Lib.hid hL
    have Hout := Lib.hid hout
    have Oo := Lib.hid oo
    have Hbw := Lib.hid hbw
    have hsw := hbw.size
    clear hL hout oo
    by_cases hlt : j < m
    · obtain ⟨bt, ot, t, rfl, htk, hbt, hel⟩ := Hr.out.at_ hlt
      obtain ⟨e0, e1, e2, e3, hok⟩ := Token.at_ hel
      have hsz := Hts.out t (List.mem_of_getElem? htk.out)
      have tr : ∀ W, Below w.heap.size w W → ∀ x v, w.cell? ⟨bt, x, none⟩ = some v → W.cell? ⟨bt, x, none⟩ = some v := fun W hW x v h => (hW.cell (p := ⟨bt, x, none⟩) hbt).trans h
      have He : Hid (∀ W, Below w.heap.size w W → W.cell? ⟨bt, ot + j * 4, none⟩ = some (.string t.text) ∧ W.cell? ⟨bt, ot + j * 4 + 1, none⟩ = some (.int .i64 t.pos) ∧ W.cell? ⟨bt, ot + j * 4 + 2, none⟩ = some (.int .i64 t.from_) ∧ W.cell? ⟨bt, ot + j * 4 + 3, none⟩ = some (.int .i64 t.to_)) := fun W hW => ⟨tr W hW _ _ e0, tr W hW _ _ e1, tr W hW _ _ e2, tr W hW _ _ e3⟩
      have k0 := (He.out wo Hbw.out).1
      have Hok := Lib.hid hok
      have hol1 := oneL_len n t
      have hmap := oneL_map n Hn.out t
      obtain ⟨ys, hys⟩ : ∃ ys, oneR n t.text = ys := ⟨_, rfl⟩
      have hst : linkL n (toks.take (j + 1)) = out ++ ys.map (withT t) := by
        rw [← Hout.out, ← hys, ← hmap]
        unfold linkL
        rw [List.take_add_one, htk.out, Option.toList_some, List.flatMap_append, List.flatMap_singleton]
      rw [hmap, hys, List.length_map] at hol1
      have hyz : ∀ y ∈ ys, y.size ≤ 4000000000 := by
        intro y hy
        have h1 : withT t y ∈ oneL n t := by rw [oneL_map n Hn.out t, hys]; exact List.mem_map_of_mem hy
        have h2 := oneL_small n t _ h1
        have : (withT t y).text.size = y.size := rfl
        omega
      have Hst := Lib.hid hst
      have Hys := Lib.hid hys
      have Hyz := Lib.hid hyz
      clear hel hok hbw tr hst hys hmap e0 e1 e2 e3 hyz
      go_wp2_with fail
      refine (one_any n Hn.out t.text hsz _).mono ?_
      rw [Hys.out]
      rintro e w2 ⟨vy, rfl, oy, hb2⟩
      obtain ⟨Ay, cy, rfl⟩ := oy.form
      have Hb2 : Hid (Below w.heap.size w w2) := Hbw.out.trans (hb2.mono hsw)
      have Oo2 : Hid (Own Flat w2 w.heap.size 44 (.slice Aq L cq) out) := Oo.out.on hb2
      have Oy : Hid (Own Flat w2 w.heap.size 9 (.slice Ay ys.length cy) ys) := oy.mono hsw
      obtain ⟨Ly, hLy⟩ : ∃ Ly, ys.length = Ly := ⟨_, rfl⟩
      rw [hLy] at hol1 Oy oy ⊢
      have HLy := Lib.hid hLy
      clear oy hb2 hLy k0
      go_wp2
      go_loopw [6, 9] (fun v i wr => ∃ k : Nat, k ≤ Ly ∧ i = .int .i64 k ∧ Own Flat wr w.heap.size 44 v (out ++ (ys.take k).map (withT t)) ∧ Own Flat wr w.heap.size 9 (.slice Ay Ly cy) ys ∧ Below w.heap.size w wr) (fun _ i _ => Ly - (intOf i).toNat)
      case atStart => exact ⟨0, by omega, rfl, by simpa using Oo2.out, Oy.out, Hb2.out⟩
      case round =>
        obtain ⟨k, hk, rfl, oi, oyi, hbi⟩ := hrel
        have hli : (out ++ (ys.take k).map (withT t)).length = L + k := by rw [List.length_append, List.length_map, List.length_take, HL.out, HLy.out]; omega
        obtain ⟨Ai, ci, rfl⟩ := oi.form
        rw [hli] at oi ⊢
        have Hli := Lib.hid hli
        have Oi := Lib.hid oi
        have Oyi := Lib.hid oyi
        have Hbi := Lib.hid hbi
        have hsi := hbi.size
        clear hli oi oyi hbi
        by_cases hki : k < Ly
        · obtain ⟨y, hy⟩ : ∃ y, ys[k]? = some y := ⟨_, List.getElem?_eq_getElem (by rw [HLy.out]; exact hki)⟩
          have hry := Oyi.out.reads
          obtain ⟨by_, oy_, rfl, hby, _⟩ := hry.2.2.2 _ _ hy
          have ey : _ = _ := (hry.elem hy).2.str.1
          have hyz := Hyz.out y (List.mem_of_getElem? hy)
          obtain ⟨f0, f1, f2, f3⟩ := He.out wr Hbi.out
          have hst2 : out ++ (ys.take (k + 1)).map (withT t) = (out ++ (ys.take k).map (withT t)) ++ [withT t y] := by
            rw [List.take_add_one, hy, Option.toList_some, List.map_append, List.append_assoc]; rfl
          have Hst2 := Lib.hid hst2
          have hok2 : (withT t y).ok := ⟨by show y.size ≤ _; omega, Hok.out.2⟩
          have Hok2 := Lib.hid hok2
          have hby2 : by_ < wr.heap.size := hby.2
          clear hst2 hry hy hok2 hby
          go_wp2_with (at_builtin
                       go_must (refine wpList_pushF rfl (.tmp 42) (.tmp 44) _ rfl w.heap.size 44 i0 _ 40 Tryd.underlying34 hi0 hz0 hz1 hz2 rfl (.slice Ai (L + k) ci) (out ++ (ys.take k).map (withT t)) rfl ((Oi.out.alloc (.cells #[.string y, .int .i64 t.pos, .int .i64 t.from_, .int .i64 t.to_] 44)).alloc (.cells #[.string y, .int .i64 t.pos, .int .i64 t.from_, .int .i64 t.to_] 44)) _ #[.string y, .int .i64 t.pos, .int .i64 t.from_, .int .i64 t.to_] (withT t y) rfl (by have hh := Blk.new (wr.alloc (.cells #[.string y, .int .i64 t.pos, .int .i64 t.from_, .int .i64 t.to_] 44)) 44 #[.string y, .int .i64 t.pos, .int .i64 t.from_, .int .i64 t.to_]; simp only [World.size_alloc] at hh; exact hh) (Token.rep_of Hok2.out) (by rw [Hli.out]; omega) (by rw [Hli.out]; omega) (by simp; omega) ?_)
                       rw [Hli.out]
                       intro A3 c3 w3 ho3 hg3 hb3
                       have oy3 := own_flat ((Oyi.out.alloc (.cells #[.string y, .int .i64 t.pos, .int .i64 t.from_, .int .i64 t.to_] 44)).alloc (.cells #[.string y, .int .i64 t.pos, .int .i64 t.from_, .int .i64 t.to_] 44)) hg3 (own_ne_own ((Oyi.out.alloc (.cells #[.string y, .int .i64 t.pos, .int .i64 t.from_, .int .i64 t.to_] 44)).alloc (.cells #[.string y, .int .i64 t.pos, .int .i64 t.from_, .int .i64 t.to_] 44)) ((Oi.out.alloc (.cells #[.string y, .int .i64 t.pos, .int .i64 t.from_, .int .i64 t.to_] 44)).alloc (.cells #[.string y, .int .i64 t.pos, .int .i64 t.from_, .int .i64 t.to_] 44)) (by decide))
                       have Ho3 := Lib.hid ho3
                       have Oy3 := Lib.hid oy3
                       have Hb3 : Hid (Below w.heap.size w w3) := ((Hbi.out.alloc hsi _).alloc (by simp; omega) _).trans hb3
                       clear ho3 hg3 hb3 oy3)
          go_roundw
          case rel => exact ⟨k + 1, by omega, by go_num, by rw [Hst2.out]; exact Ho3.out, Oy3.out, Hb3.out⟩
          case measure => simp [intOf]; omega
        · obtain rfl : k = Ly := by omega
          have hst3 : linkL n (toks.take (j + 1)) = out ++ (ys.take k).map (withT t) := by rw [Hst.out, List.take_of_length_le (by rw [HLy.out]; omega)]
          have Hst3 := Lib.hid hst3
          clear hst3
          by_cases hmany : (4096 : Int) < ((L + k : Nat) : Int)
          · have hfin : 4096 < (linkL n toks).length := by
              have h1 := linkL_take n toks (j + 1)
              rw [Hst3.out, Hli.out] at h1
              omega
            have Hfin := Lib.hid hfin
            clear hfin
            go_wp2
            go_ret2
            exact ⟨.inr ⟨Hfin.out, rfl⟩, Hbi.out⟩
          · have hfew : ((L + k : Nat) : Int) ≤ 4096 := by omega
            go_wp2
            go_roundw
            case rel => exact ⟨j + 1, by omega, by go_num, by rw [Hst3.out]; exact Oi.out, by rw [Hst3.out, Hli.out]; omega, Hbi.out⟩
            case measure => simp [intOf]; omega
    · obtain rfl : j = m := by omega
      have hfin : linkL n toks = out := by rw [← Hout.out, List.take_of_length_le (by have := Hlm.out; omega)]
      have Hfin := Lib.hid hfin
      clear hfin hbw
      go_wp2
      go_ret2
      refine ⟨.inl ⟨by rw [Hfin.out, HL.out]; exact hol, _, rfl, by rw [Hfin.out]; exact Oo.out⟩, Hbw.out⟩
end Go.Proofs.YtajgoffeahfmfaaDoor

/- The texts RNext, RRunes of IterateWords, joined by program (tools/merge.py): walks of the functions that the law reaches, and plain facts; no condition. -/
import Derived.Test.YtajgoffeahfmfaaDoorPart39
import Derived.Test.YtajgoffeahfmfaaDoorPart40
import Derived.Test.YtajgoffeahfmfaaDoorPart41
import Derived.Test.YtajgoffeahfmfaaDoorPart09
import Derived.Test.YtajgoffeahfmfaaDoorPart10
set_option linter.unusedVariables false
set_option linter.unusedSimpArgs false

/- The walk of lecternref05.Next. -/
namespace Go.Proofs.YtajgoffeahfmfaaDoor
open Rep (rep)
open Go.RowKit
attribute [local go_sem ↓] Go.wp_at_zero Go.wp_at_succ
section
variable (s : ByteArray) (i : Nat) (hi : i < s.size) (w : World)
include hi

set_option maxRecDepth 100000 in
set_option maxHeartbeats 1000000 in
theorem rnext_one (c1 : (s.get! i).toNat < 128 ∨ (128 ≤ (s.get! i).toNat ∧ (s.get! i).toNat < 192) ∨ 248 ≤ (s.get! i).toNat) :
    Calls Tryd.prog 58 #[.string s, .int .i64 i] w fun e w' => e = .returned (.tuple #[.int .i32 (rn s i), .int .i64 (wd s i)]) ∧ Below w.heap.size w w' := by
  have h1 : (i : Int) < (s.size : Int) := by omega
  have h2 : ¬ (s.size : Int) ≤ (i : Int) := by omega
  have hg := get_eq s i hi
  have hb := (s.get! i).toNat_lt
  have hone := fun h => decode_ascii s i hi h
  rw [hg] at hone
  have hnone := dec_none s i
  have H1 := Lib.hid hone
  have H2 := Lib.hid hnone
  clear hone hnone
  obtain ⟨b, hbq⟩ : ∃ b, s.get! i = b := ⟨_, rfl⟩
  rw [hbq] at hb H1 H2 hg c1
  clear hbq
  rcases c1 with c1 | c1 | c1
  · have c1' : (b.toNat : Int) < 128 := by omega
    have hr := H1.out c1
    have Hr : Hid (rn s i = b.toNat ∧ wd s i = 1) := by show _ ∧ _; unfold rn wd; rw [hr]; exact ⟨rfl, rfl⟩
    clear hr H1 H2
    go_enter Tryd.func58, Tryd.ntmps58
    go_wp2
    go_ret2
    exact ⟨ret_two (by rw [Hr.out.1]) (by rw [Hr.out.2]; rfl), Below.refl _ _⟩
  · have c1' : ¬ (b.toNat : Int) < 128 := by omega
    have c2' : decide (192 ≤ (b.toNat : Int)) = false := by simp; omega
    have c3' : decide (224 ≤ (b.toNat : Int)) = false := by simp; omega
    have c4' : decide (240 ≤ (b.toNat : Int)) = false := by simp; omega
    have Hr := Lib.hid (H2.out (.inl c1))
    clear H1 H2 c1
    go_enter Tryd.func58, Tryd.ntmps58
    go_wp2
    go_ret2
    exact ⟨ret_two (by rw [Hr.out.1]; rfl) (by rw [Hr.out.2]; rfl), Below.refl _ _⟩
  · have c1' : ¬ (b.toNat : Int) < 128 := by omega
    have c2' : decide ((b.toNat : Int) < 224) = false := by simp; omega
    have c3' : decide ((b.toNat : Int) < 240) = false := by simp; omega
    have c4' : decide ((b.toNat : Int) < 248) = false := by simp; omega
    have Hr := Lib.hid (H2.out (.inr c1))
    clear H1 H2
    go_enter Tryd.func58, Tryd.ntmps58
    go_wp2
    go_ret2
    exact ⟨ret_two (by rw [Hr.out.1]; rfl) (by rw [Hr.out.2]; rfl), Below.refl _ _⟩
end

theorem rnext_any (s : ByteArray) (i : Nat) (hi : i < s.size) (hs : s.size ≤ 9223372036854775807) (w : World) :
    Calls Tryd.prog 58 #[.string s, .int .i64 i] w fun e w' => e = .returned (.tuple #[.int .i32 (rn s i), .int .i64 (wd s i)]) ∧ Below w.heap.size w w' := by
  have hb := (s.get! i).toNat_lt
  by_cases c1 : (s.get! i).toNat < 192 ∨ 248 ≤ (s.get! i).toNat
  · exact rnext_one s i hi w (by omega)
  by_cases c2 : (s.get! i).toNat < 224
  · exact rnext_two s i hi w hs (by omega)
  by_cases c3 : (s.get! i).toNat < 240
  · exact rnext_three s i hi w hs (by omega)
  · exact rnext_four s i hi w hs (by omega)
end Go.Proofs.YtajgoffeahfmfaaDoor

/- The walk of lecternref05.Runes. -/
namespace Go.Proofs.YtajgoffeahfmfaaDoor
open Rep (rep)
open Go.RowKit

theorem int32_info : (Tryd.prog.info? 21).map (fun i => (i.zero, i.size, i.bytes)) = some (some (.int .i32 0), 1, 4) := by kernel_rfl
def rnI (s : ByteArray) (l : List Nat) : List Int := l.map (fun (x : Nat) => (rn s x : Int))
theorem rnI_snoc (s : ByteArray) (l : List Nat) (x : Nat) : rnI s (l ++ [x]) = rnI s l ++ [(rn s x : Int)] := by simp [rnI]
theorem i32s_snoc (l : List Int) (x : Int) : i32s (l ++ [x]) = i32s l ++ [I32.mk x] := by simp [i32s]

set_option maxRecDepth 100000 in
set_option maxHeartbeats 2000000 in
theorem rrunes_any (s : ByteArray) (hs : s.size ≤ 17592186044000) (w : World) :
    Calls Tryd.prog 42 #[.string s] w fun e w' => ∃ v u, e = .returned (.tuple #[v, u]) ∧ Own Flat w' w.heap.size 3 v (natI (ats s)) ∧ Own Flat w' w.heap.size 21 u (i32s (rnI s (ats s))) ∧ Below w.heap.size w w' := by
  obtain ⟨i0, hi0, hz0, hz1, hz2⟩ := info_parts int_info
  obtain ⟨i1, hi1, hy0, hy1, hy2⟩ := info_parts int32_info
  have hal := ats_len s
  go_enter Tryd.func42, Tryd.ntmps42
  go_wp2
  go_loopw [4, 5, 6] (fun v u j wr => ∃ (pre : List Nat) (k : Nat), k ≤ s.size ∧ j = .int .i64 k ∧ ats s = pre ++ atsFrom s k ∧ Own Flat wr w.heap.size 3 v (natI pre) ∧ Own Flat wr w.heap.size 21 u (i32s (rnI s pre)) ∧ Below w.heap.size w wr) (fun _ _ j _ => s.size - (intOf j).toNat)
  case atStart => exact ⟨[], 0, Nat.zero_le _, rfl, rfl, Own.nil _ _ _ _, Own.nil _ _ _ _, Below.refl _ _⟩
  case round =>
    obtain ⟨pre, k, hk, rfl, hat, ov, ou, hbw⟩ := hrel
    obtain ⟨A1, c1, rfl⟩ := ov.form
    obtain ⟨A2, c2, rfl⟩ := ou.form
    have hl1 : (natI pre).length = pre.length := by simp [natI]
    have hl2 : (i32s (rnI s pre)).length = pre.length := by simp [i32s, rnI]
    have hpl : pre.length ≤ s.size := by
      have := congrArg List.length hat
      simp at this; omega
    rw [hl1] at ov ⊢
    rw [hl2] at ou ⊢
    have HL1 := Lib.hid hl1
    have HL2 := Lib.hid hl2
    have Hov := Lib.hid ov
    have Hou := Lib.hid ou
    have HB := Lib.hid hbw
    have Hat := Lib.hid hat
    have hsz := hbw.size
    clear hl1 hl2 ov ou hbw hat
    by_cases hlt : k < s.size
    · have hwf := wd_fit hlt
      have hwp := wd_pos hlt
      have hrn := rn_le s k
      go_wp2_with (first
        | (go_at_call 58
           go_must (refine (rnext_any s k hlt (by omega) _).mono ?_)
           rintro e w1 ⟨rfl, hb1⟩
           have hs1 := hb1.size
           have ov1 := Hov.out.on hb1
           have ou1 := Hou.out.on hb1
           have Hov1 := Lib.hid (ov1.alloc (.cells #[.int .i64 (k : Int)] 3))
           have Hou1 := Lib.hid (ou1.alloc (.cells #[.int .i64 (k : Int)] 3))
           have Hb1 := Lib.hid hb1
           clear ov1 ou1 hb1)
        | (at_builtin
           refine wpList_pushF rfl (.tmp 19) (.tmp 21) _ rfl w.heap.size 3 i0 _ 8 Tryd.underlying49 hi0 hz0 hz1 hz2 rfl (.slice A1 pre.length c1) (natI pre) rfl Hov1.out w1.heap.size #[.int .i64 (k : Int)] (k : Int) rfl (Blk.new _ _ _) ⟨rfl, by unfold In64; omega⟩ (by rw [HL1.out]; omega) (by rw [HL1.out]; omega) (by simp; omega) ?_
           rw [HL1.out]
           intro A3 c3 w3 ho3 hg3 hb3
           have ou3 := own_flat Hou1.out hg3 (own_ne_own Hou1.out Hov1.out (by decide))
           have Hov3 := Lib.hid (ho3.alloc (.cells #[.int .i32 (rn s k : Int)] 21))
           have Hou3 := Lib.hid (ou3.alloc (.cells #[.int .i32 (rn s k : Int)] 21))
           have hs3 := hb3.size
           simp only [World.size_alloc] at hs3
           have Hb3 := Lib.hid hb3
           clear ou3 ho3 hg3 hb3)
        | (at_builtin
           refine wpList_pushF rfl (.tmp 23) (.tmp 25) _ rfl w.heap.size 21 i1 _ 4 Tryd.underlying76 hi1 hy0 hy1 hy2 rfl (.slice A2 pre.length c2) (i32s (rnI s pre)) rfl Hou3.out w3.heap.size #[.int .i32 (rn s k : Int)] (I32.mk (rn s k : Int)) rfl (Blk.new _ _ _) rfl (by rw [HL2.out]; omega) (by rw [HL2.out]; omega) (by simp; omega) ?_
           rw [HL2.out]
           intro A4 c4 w4 ho4 hg4 hb4
           have ov4 := own_flat Hov3.out hg4 (own_ne_own Hov3.out Hou3.out (by decide))
           have Hov4 := Lib.hid ov4
           have Hou4 := Lib.hid ho4
           have Hb4 := Lib.hid hb4
           clear ov4 ho4 hg4 hb4))
      go_roundw
      case rel => exact ⟨pre ++ [k], k + wd s k, by omega, by go_num, by rw [Hat.out, atsFrom_cons hlt]; simp, by rw [natI_snoc]; exact Hov4.out, by rw [rnI_snoc, i32s_snoc]; exact Hou4.out, HB.out.trans ((((Hb1.out.mono hsz).alloc (by omega) _).trans Hb3.out).trans ((((Below.refl _ w3).alloc (by omega) _)).trans Hb4.out))⟩
      case measure => simp [intOf]; omega
    · have hfin : Hid (ats s = pre) := by show _ = _; rw [Hat.out, atsFrom_nil (by omega), List.append_nil]
      go_wp2
      go_ret2
      exact ⟨_, _, rfl, by rw [hfin.out]; exact Hov.out, by rw [hfin.out]; exact Hou.out, HB.out⟩
end Go.Proofs.YtajgoffeahfmfaaDoor

/- The texts RTok of IterateWords, joined by program (tools/merge.py): walks of the functions that the law reaches, and plain facts; no condition. -/
import Derived.Test.YtajgoffeahfmfaaDoorPart37
import Derived.Test.YtajgoffeahfmfaaDoorPart42
import Derived.Test.YtajgoffeahfmfaaDoorPart17
import Derived.BigQuiet
set_option linter.unusedVariables false
set_option linter.unusedSimpArgs false

/- The walk of lecternref06.tokens. (Written by tools/gen_rtok.py.) -/
namespace Go.Proofs.YtajgoffeahfmfaaDoor
open Rep (rep)
open Go.RowKit

def gr4To (out : List (Nat × Nat)) (p : Nat × Nat) (j : Nat) : List (Nat × Nat) := (out ++ if p.2 = p.1 + 1 then [p] else []) ++ (List.range j).map fun d => (p.1 + d, p.1 + d + 2)
def gr4 (out : List (Nat × Nat)) (p : Nat × Nat) : List (Nat × Nat) := gr4To out p (p.2 - 1 - p.1)
def cutT (number : Int) (l : List Int) : List (Nat × Nat) :=
  if number = 3 then (if 0 < l.length then [(0, l.length)] else []) else if number = 4 then (runC wordMark wordB l).foldl gr4 [] else runC (mN number) (bN number) l
def tokAt (s : ByteArray) (p : Nat × Nat) (i : Nat) : Token := ⟨s.extract ((places s)[p.1]?.getD 0) ((places s)[p.2]?.getD 0), i, ((places s)[p.1]?.getD 0 : Nat), ((places s)[p.2]?.getD 0 : Nat)⟩
def toksR (s : ByteArray) (cut : List (Nat × Nat)) : Nat → List Token
  | 0 => []
  | j + 1 => toksR s cut j ++ [tokAt s (cut[j]?.getD (0, 0)) j]
def tokensR (number : Int) (s : ByteArray) : List Token := toksR s (cutT number (rnI s (ats s))) (cutT number (rnI s (ats s))).length
theorem toksR_len (s : ByteArray) (cut : List (Nat × Nat)) (j : Nat) : (toksR s cut j).length = j := by
  induction j with
  | zero => rfl
  | succ j ih => simp [toksR, ih]
def Fits (n : Nat) (cut : List (Nat × Nat)) : Prop := ∀ p ∈ cut, p.1 < p.2 ∧ p.2 ≤ n
theorem stC_fits (m b : Int → Bool) (l : List Int) : ∀ i, Fits i (stC m b l i).1 ∧ ∀ f, (stC m b l i).2 = some f → f < i
  | 0 => ⟨fun p hp => by simp [stC] at hp, fun f hf => by simp [stC] at hf⟩
  | i + 1 => by
    obtain ⟨h1, h2⟩ := stC_fits m b l i
    rw [show stC m b l (i + 1) = stepC m b (l[i]?.getD 0) (stC m b l i) i from rfl]
    have h3 : Fits (i + 1) (stC m b l i).1 := fun p hp => by have := h1 p hp; omega
    unfold stepC
    split
    · refine ⟨?_, fun f hf => by cases hf⟩
      show Fits _ (closeC _ _)
      unfold closeC
      split
      · exact h3
      · rename_i f hf
        intro p hp
        rcases List.mem_append.1 hp with hp | hp
        · exact h3 p hp
        · simp at hp; subst hp
          have := h2 f hf
          exact ⟨this, by omega⟩
    · split
      · exact ⟨h3, fun f hf => by simp at hf; omega⟩
      · exact ⟨h3, fun f hf => by have := h2 f hf; omega⟩
theorem runC_fits (m b : Int → Bool) (l : List Int) : Fits l.length (runC m b l) := by
  obtain ⟨h1, h2⟩ := stC_fits m b l l.length
  unfold runC closeC
  split
  · exact h1
  · rename_i f hf
    intro p hp
    rcases List.mem_append.1 hp with hp | hp
    · exact h1 p hp
    · simp at hp; subst hp
      exact ⟨h2 f hf, Nat.le_refl _⟩
theorem gr4_fits {n : Nat} {out : List (Nat × Nat)} {p : Nat × Nat} (h : Fits n out) (hp : p.1 < p.2 ∧ p.2 ≤ n) : Fits n (gr4 out p) := by
  intro q hq
  unfold gr4 gr4To at hq
  rcases List.mem_append.1 hq with hq | hq
  · rcases List.mem_append.1 hq with hq | hq
    · exact h q hq
    · split at hq
      · simp at hq; subst hq; exact hp
      · cases hq
  · obtain ⟨d, hd, rfl⟩ := List.mem_map.1 hq
    have := List.mem_range.1 hd
    simp only
    omega
theorem foldl_fits {n : Nat} : ∀ (l out : List (Nat × Nat)), Fits n l → Fits n out → Fits n (l.foldl gr4 out)
  | [], _, _, h => h
  | p :: l, out, h1, h2 => foldl_fits l _ (fun q hq => h1 q (List.mem_cons_of_mem _ hq)) (gr4_fits h2 (h1 p List.mem_cons_self))
theorem cutT_fits (number : Int) (l : List Int) : Fits l.length (cutT number l) := by
  unfold cutT
  split
  · split
    · intro p hp; simp at hp; subst hp; simp; omega
    · intro p hp; cases hp
  · split
    · exact foldl_fits _ _ (runC_fits _ _ _) (fun p hp => by cases hp)
    · exact runC_fits _ _ _
theorem gr4To_len (out : List (Nat × Nat)) (p : Nat × Nat) (j : Nat) : (gr4To out p j).length ≤ out.length + 1 + j := by
  unfold gr4To
  rw [List.length_append, List.length_append, List.length_map, List.length_range]
  split <;> simp <;> omega
theorem foldl_len (n : Nat) : ∀ (l out : List (Nat × Nat)), Fits n l → (l.foldl gr4 out).length ≤ out.length + l.length * (n + 1)
  | [], out, _ => by simp
  | p :: l, out, h => by
    have h1 := foldl_len n l (gr4 out p) (fun q hq => h q (List.mem_cons_of_mem _ hq))
    have h2 := gr4To_len out p (p.2 - 1 - p.1)
    have h3 := h p List.mem_cons_self
    show (l.foldl gr4 (gr4 out p)).length ≤ _
    have : (gr4 out p).length ≤ out.length + 1 + (p.2 - 1 - p.1) := h2
    rw [List.length_cons, Nat.add_mul]
    omega
theorem runC_len (m b : Int → Bool) (l : List Int) : (runC m b l).length ≤ l.length + 1 := by
  have := stC_len m b l l.length
  unfold runC closeC
  split <;> simp_all <;> omega
theorem cutT_len (number : Int) (l : List Int) : (cutT number l).length ≤ (l.length + 1) * (l.length + 1) + 1 := by
  have h1 : l.length + 1 ≤ (l.length + 1) * (l.length + 1) := Nat.le_mul_self _
  unfold cutT
  split
  · split <;> simp
  · split
    · have h2 := foldl_len l.length (runC wordMark wordB l) [] (runC_fits _ _ _)
      have h3 := runC_len wordMark wordB l
      have h4 : (runC wordMark wordB l).length * (l.length + 1) ≤ (l.length + 1) * (l.length + 1) := Nat.mul_le_mul_right _ h3
      simp at h2
      omega
    · have := runC_len (mN number) (bN number) l
      omega
theorem natI_get {l : List Nat} {k : Nat} {x : Nat} (h : l[k]? = some x) : (natI l)[k]? = some (x : Int) := by simp [natI, h]
theorem natI_len (l : List Nat) : (natI l).length = l.length := by simp [natI]
theorem places_last (s : ByteArray) : (places s).length = (ats s).length + 1 := by simp [places]

set_option maxRecDepth 100000 in
set_option maxHeartbeats 4000000 in
theorem rtokens_any (number : Int) (s : ByteArray) (hs : s.size ≤ 4096) (w : World) :
    Calls Tryd.prog 29 #[.int .i64 number, .string s] w fun e w' => ∃ v, e = .returned v ∧ Own Flat w' w.heap.size 44 v (tokensR number s) ∧ Below w.heap.size w w' := by
  obtain ⟨i0, hi0, hz0, hz1, hz2⟩ := info_parts pair_info
  obtain ⟨i1, hi1, hy0, hy1, hy2⟩ := info_parts int_info
  obtain ⟨i2, hi2, hx0, hx1, hx2⟩ := info_parts token_info
  have hal := ats_len s
  obtain ⟨n, hn⟩ : ∃ n, (ats s).length = n := ⟨_, rfl⟩
  rw [hn] at hal
  have hl1 : (natI (ats s)).length = n := by simp [natI, hn]
  have hl2 : (i32s (rnI s (ats s))).length = n := by simp [i32s, rnI, hn]
  have hl3 : (rnI s (ats s)).length = n := by simp [rnI, hn]
  have hpl : (natI (places s)).length = n + 1 := by rw [natI_len, places_last, hn]
  obtain ⟨cut, hcut⟩ : ∃ cut, cutT number (rnI s (ats s)) = cut := ⟨_, rfl⟩
  have hfit := cutT_fits number (rnI s (ats s))
  have hcl := cutT_len number (rnI s (ats s))
  rw [hcut, hl3] at hfit hcl
  have hcl2 : cut.length ≤ 17000000 := by
    have : (n + 1) * (n + 1) ≤ 4097 * 4097 := Nat.mul_le_mul (by omega) (by omega)
    omega
  have hres : tokensR number s = toksR s cut cut.length := by unfold tokensR; rw [hcut]
  rw [hres]
  obtain ⟨q, hq⟩ : ∃ q, cut.length = q := ⟨_, rfl⟩
  rw [hq] at hcl2 ⊢
  have Hq := Lib.hid hq
  have Hfit := Lib.hid hfit
  have Hcut := Lib.hid hcut
  have Hl1 := Lib.hid hl1
  have Hl2 := Lib.hid hl2
  have Hl3 := Lib.hid hl3
  have Hpl := Lib.hid hpl
  have Hn := Lib.hid hn
  clear hres hcut hfit hcl hl1 hl2 hl3 hn hq hpl
  by_cases h3 : number = 3
  · subst h3
    by_cases hn0 : 0 < n
    · have hc3 : cut = [(0, n)] := by rw [← Hcut.out]; unfold cutT; rw [if_pos rfl, if_pos (by rw [Hl3.out]; omega), Hl3.out]
      obtain rfl : q = 1 := by rw [← Hq.out, hc3]; rfl
      have Hc3 := Lib.hid hc3
      clear hc3
      go_enter Tryd.func29, Tryd.ntmps29
      go_wp2_with fail
      refine (rrunes_any s (by omega) w).mono ?_
      rintro e w1 ⟨v1, u1, rfl, ov, ou, hb1⟩
      obtain ⟨A1, c1, rfl⟩ := ov.form
      obtain ⟨A2, c2, rfl⟩ := ou.form
      rw [Hl1.out] at ov ⊢
      rw [Hl2.out] at ou ⊢
      have Hov := Lib.hid ov
      have hru := ou.reads.more (F' := (· < w1.heap.size)) (fun _ h => h.2)
      have Hou := Lib.hid ou
      have Hb1 := Lib.hid hb1
      have hs1 := hb1.size
      clear ov ou hb1 hru
      go_wp2_with (first
                | (at_builtin
                   refine wpList_pushF rfl (.tmp 20) (.tmp 23) _ rfl w.heap.size 3 i1 _ 8 Tryd.underlying49 hi1 hy0 hy1 hy2 rfl (.slice A1 n c1) (natI (ats s)) rfl (Hov.out.alloc (.cells #[.int .i64 (s.size : Int)] 3)) _ #[.int .i64 (s.size : Int)] (s.size : Int) rfl (Blk.new _ _ _) ⟨rfl, by unfold In64; omega⟩ (by rw [Hl1.out]; omega) (by rw [Hl1.out]; omega) (by simp; omega) ?_
                   rw [Hl1.out, ← natI_snoc]
                   intro A3 c3 w3 ho3 hg3 hb3
                   have hou3 := own_flat (Hou.out.alloc (.cells #[.int .i64 (s.size : Int)] 3)) hg3 (own_ne_own (Hou.out.alloc (.cells #[.int .i64 (s.size : Int)] 3)) (Hov.out.alloc (.cells #[.int .i64 (s.size : Int)] 3)) (by decide))
                   have hs3 := hb3.size
                   simp only [World.size_alloc] at hs3
                   have Hat : Hid (RepList w3 (· < w3.heap.size) A3 (n + 1) c3 (natI (places s))) := ho3.reads.more (fun _ h => h.2)
                   have Hru : Hid (RepList w3 (· < w3.heap.size) A2 n c2 (i32s (rnI s (ats s)))) := hou3.reads.more (fun _ h => h.2)
                   have Hb3 : Hid (Below w.heap.size w w3) := (Hb1.out.alloc hs1 _).trans hb3
                   clear ho3 hou3 hg3 hb3 Hou Hov)
                | (at_builtin
                   refine wpList_pushF rfl (.tmp 34) (.tmp 38) _ rfl w3.heap.size 80 i0 _ 16 Tryd.underlying79 hi0 hz0 hz1 hz2 rfl (.slice none 0 0) [] rfl (Own.nil _ _ _ _) _ #[.int .i64 0, .int .i64 (n : Int)] (0, n) rfl (Blk.new _ _ _) rfl (by simp) (by simp) (by simp) ?_
                   intro A4 c4 w4 ho4 hg4 hb4
                   have Hcc : Hid (RepList w4 (· < w4.heap.size) A4 1 c4 [(0, n)]) := ho4.reads.more (fun _ h => h.2)
                   have Hb4 : Hid (Below w3.heap.size w3 w4) := ((Below.refl _ _).alloc (Nat.le_refl _) _).trans hb4
                   clear ho4 hg4 hb4))
      -- the tokens of the cuts: at w4
      have hatF : RepList w4 (· < w4.heap.size) A3 (n + 1) c3 (natI (places s)) := Hat.out.on Hb4.out
      have hcutF : RepList w4 (· < w4.heap.size) A4 1 c4 cut := by rw [Hc3.out]; exact Hcc.out
      have HatF := Lib.hid hatF
      have HcutF := Lib.hid hcutF
      have HbF : Hid (Below w.heap.size w w4) := Hb3.out.trans (Hb4.out.mono Hb3.out.size)
      clear hatF hcutF
      have hsF := HbF.out.size
      go_wp2
      go_loopw [11, 12] (fun v i wz => ∃ j : Nat, j ≤ 1 ∧ i = .int .i64 j ∧ Own Flat wz w4.heap.size 44 v (toksR s cut j) ∧ Below w4.heap.size w4 wz) (fun _ i _ => 1 - (intOf i).toNat)
      case atStart => exact ⟨0, by omega, rfl, Own.nil _ _ _ _, Below.refl _ _⟩
      case round =>
        obtain ⟨j, hj, rfl, oo, hbw⟩ := hrel
        obtain ⟨Ao, co, rfl⟩ := oo.form
        have hlj := toksR_len s cut j
        rw [hlj] at oo ⊢
        have Hlj := Lib.hid hlj
        have Hoo := Lib.hid oo
        have Hbw := Lib.hid hbw
        have hsw := hbw.size
        clear oo hbw hlj
        by_cases hlt : j < 1
        · obtain ⟨bp, op, p, rfl, hp, hbp, hep⟩ := (HcutF.out.on Hbw.out).at_ hlt
          obtain ⟨e0, e1⟩ := hep.pair
          have hpf := Hfit.out p (List.mem_of_getElem? hp.out)
          obtain ⟨a, ha⟩ : ∃ a, (places s)[p.1]? = some a := ⟨_, List.getElem?_eq_getElem (by rw [places_last, Hn.out]; omega)⟩
          obtain ⟨b, hb⟩ : ∃ b, (places s)[p.2]? = some b := ⟨_, List.getElem?_eq_getElem (by rw [places_last, Hn.out]; omega)⟩
          obtain ⟨ba, oa, rfl, hba, _⟩ := (HatF.out.on Hbw.out).2.2.2 _ _ (natI_get ha)
          have ea : _ = _ := ((HatF.out.on Hbw.out).elem (natI_get ha)).2.int.1
          have eb : _ = _ := ((HatF.out.on Hbw.out).elem (natI_get hb)).2.int.1
          have hab : a ≤ b := places_mono ha hb (by omega)
          have hbs : b ≤ s.size := places_le (List.mem_of_getElem? hb)
          have hst : toksR s cut (j + 1) = toksR s cut j ++ [⟨s.extract a b, j, (a : Int), (b : Int)⟩] := by
            show toksR s cut j ++ [tokAt s (cut[j]?.getD (0, 0)) j] = _
            rw [hp.out, Option.getD_some]
            unfold tokAt
            rw [ha, hb]; rfl
          have Hst := Lib.hid hst
          obtain ⟨p1, p2⟩ := p
          simp only at hpf e0 e1 ea eb
          obtain ⟨hp1, hp2⟩ := hpf
          have hxs : (s.extract a b).size ≤ s.size := by rw [ByteArray.size_extract]; omega
          have ht : (⟨s.extract a b, j, (a : Int), (b : Int)⟩ : Token).ok := by
            refine ⟨?_, ?_, ?_, ?_⟩ <;> simp only [In64] <;> omega
          have Ht := Lib.hid ht
          clear hst hep ha hb ht hp hxs
          go_wp2_with (at_builtin
                       go_must (refine wpList_pushF rfl (.tmp 113) (.tmp 122) _ rfl w4.heap.size 44 i2 _ 40 Tryd.underlying34 hi2 hx0 hx1 hx2 rfl (.slice Ao j co) (toksR s cut j) rfl (Hoo.out.alloc (.cells #[.string (s.extract a b), .int .i64 (j : Int), .int .i64 (a : Int), .int .i64 (b : Int)] 44)) _ #[.string (s.extract a b), .int .i64 (j : Int), .int .i64 (a : Int), .int .i64 (b : Int)] ⟨s.extract a b, j, (a : Int), (b : Int)⟩ rfl (Blk.new _ _ _) ⟨rfl, Ht.out⟩ (by rw [Hlj.out]; omega) (by rw [Hlj.out]; omega) (by simp; omega) ?_)
                       rw [Hlj.out]
                       intro A5 c5 w5 ho5 hg5 hb5
                       have Ho5 := Lib.hid ho5
                       have Hb5 := Lib.hid hb5
                       clear ho5 hg5 hb5)
          go_roundw
          case rel => exact ⟨j + 1, by omega, by go_num, by rw [Hst.out]; exact Ho5.out, (Hbw.out.alloc hsw _).trans Hb5.out⟩
          case measure => simp [intOf]; omega
        · obtain rfl : j = 1 := by omega
          go_wp2
          go_ret
          exact ⟨_, rfl, Hoo.out.mono hsF, HbF.out.trans (Hbw.out.mono hsF)⟩
    · have hc3 : cut = [] := by rw [← Hcut.out]; unfold cutT; rw [if_pos rfl, if_neg (by rw [Hl3.out]; omega)]
      obtain rfl : q = 0 := by rw [← Hq.out, hc3]; rfl
      have Hc3 := Lib.hid hc3
      clear hc3
      go_enter Tryd.func29, Tryd.ntmps29
      go_wp2_with fail
      refine (rrunes_any s (by omega) w).mono ?_
      rintro e w1 ⟨v1, u1, rfl, ov, ou, hb1⟩
      obtain ⟨A1, c1, rfl⟩ := ov.form
      obtain ⟨A2, c2, rfl⟩ := ou.form
      rw [Hl1.out] at ov ⊢
      rw [Hl2.out] at ou ⊢
      have Hov := Lib.hid ov
      have hru := ou.reads.more (F' := (· < w1.heap.size)) (fun _ h => h.2)
      have Hou := Lib.hid ou
      have Hb1 := Lib.hid hb1
      have hs1 := hb1.size
      clear ov ou hb1 hru
      go_wp2_with (first
                | (at_builtin
                   refine wpList_pushF rfl (.tmp 20) (.tmp 23) _ rfl w.heap.size 3 i1 _ 8 Tryd.underlying49 hi1 hy0 hy1 hy2 rfl (.slice A1 n c1) (natI (ats s)) rfl (Hov.out.alloc (.cells #[.int .i64 (s.size : Int)] 3)) _ #[.int .i64 (s.size : Int)] (s.size : Int) rfl (Blk.new _ _ _) ⟨rfl, by unfold In64; omega⟩ (by rw [Hl1.out]; omega) (by rw [Hl1.out]; omega) (by simp; omega) ?_
                   rw [Hl1.out, ← natI_snoc]
                   intro A3 c3 w3 ho3 hg3 hb3
                   have hou3 := own_flat (Hou.out.alloc (.cells #[.int .i64 (s.size : Int)] 3)) hg3 (own_ne_own (Hou.out.alloc (.cells #[.int .i64 (s.size : Int)] 3)) (Hov.out.alloc (.cells #[.int .i64 (s.size : Int)] 3)) (by decide))
                   have hs3 := hb3.size
                   simp only [World.size_alloc] at hs3
                   have Hat : Hid (RepList w3 (· < w3.heap.size) A3 (n + 1) c3 (natI (places s))) := ho3.reads.more (fun _ h => h.2)
                   have Hru : Hid (RepList w3 (· < w3.heap.size) A2 n c2 (i32s (rnI s (ats s)))) := hou3.reads.more (fun _ h => h.2)
                   have Hb3 : Hid (Below w.heap.size w w3) := (Hb1.out.alloc hs1 _).trans hb3
                   clear ho3 hou3 hg3 hb3 Hou Hov))
      -- the tokens of the cuts: at w3
      have hatF : RepList w3 (· < w3.heap.size) A3 (n + 1) c3 (natI (places s)) := Hat.out
      have hcutF : RepList w3 (· < w3.heap.size) none 0 0 cut := by rw [Hc3.out]; exact RepList.nil
      have HatF := Lib.hid hatF
      have HcutF := Lib.hid hcutF
      have HbF : Hid (Below w.heap.size w w3) := Hb3.out
      clear hatF hcutF
      have hsF := HbF.out.size
      go_wp2
      go_loopw [11, 12] (fun v i wz => ∃ j : Nat, j ≤ 0 ∧ i = .int .i64 j ∧ Own Flat wz w3.heap.size 44 v (toksR s cut j) ∧ Below w3.heap.size w3 wz) (fun _ i _ => 0 - (intOf i).toNat)
      case atStart => exact ⟨0, by omega, rfl, Own.nil _ _ _ _, Below.refl _ _⟩
      case round =>
        obtain ⟨j, hj, rfl, oo, hbw⟩ := hrel
        obtain ⟨Ao, co, rfl⟩ := oo.form
        have hlj := toksR_len s cut j
        rw [hlj] at oo ⊢
        have Hlj := Lib.hid hlj
        have Hoo := Lib.hid oo
        have Hbw := Lib.hid hbw
        have hsw := hbw.size
        clear oo hbw hlj
        by_cases hlt : j < 0
        · exact absurd hlt (by omega)
        · obtain rfl : j = 0 := by omega
          go_wp2
          go_ret
          exact ⟨_, rfl, Hoo.out.mono hsF, HbF.out.trans (Hbw.out.mono hsF)⟩
  · by_cases h4 : number = 4
    · have h4 : number = 4 := h4
      subst h4
      clear h3
      have hc3 : (runC wordMark wordB (rnI s (ats s))).foldl gr4 [] = cut := by rw [← Hcut.out]; rfl
      obtain ⟨all, hall⟩ : ∃ all, runC wordMark wordB (rnI s (ats s)) = all := ⟨_, rfl⟩
      have hfa : Fits n all := by rw [← hall, ← Hl3.out]; exact runC_fits _ _ _
      have hla : all.length ≤ n + 1 := by rw [← hall, ← Hl3.out]; exact runC_len _ _ _
      rw [hall] at hc3
      have hruns := rruns_any 1 
      obtain ⟨m, hm⟩ : ∃ m, all.length = m := ⟨_, rfl⟩
      rw [hm] at hla
      have Hm := Lib.hid hm
      have Hfa := Lib.hid hfa
      have Hall := Lib.hid hall
      have Hc3 := Lib.hid hc3
      clear hc3 hall hfa hm hruns
      go_enter Tryd.func29, Tryd.ntmps29
      go_wp2_with fail
      refine (rrunes_any s (by omega) w).mono ?_
      rintro e w1 ⟨v1, u1, rfl, ov, ou, hb1⟩
      obtain ⟨A1, c1, rfl⟩ := ov.form
      obtain ⟨A2, c2, rfl⟩ := ou.form
      rw [Hl1.out] at ov ⊢
      rw [Hl2.out] at ou ⊢
      have Hov := Lib.hid ov
      have hru := ou.reads.more (F' := (· < w1.heap.size)) (fun _ h => h.2)
      have Hou := Lib.hid ou
      have Hb1 := Lib.hid hb1
      have hs1 := hb1.size
      clear ov ou hb1 hru
      go_wp2_with (first
                | (at_builtin
                   refine wpList_pushF rfl (.tmp 20) (.tmp 23) _ rfl w.heap.size 3 i1 _ 8 Tryd.underlying49 hi1 hy0 hy1 hy2 rfl (.slice A1 n c1) (natI (ats s)) rfl (Hov.out.alloc (.cells #[.int .i64 (s.size : Int)] 3)) _ #[.int .i64 (s.size : Int)] (s.size : Int) rfl (Blk.new _ _ _) ⟨rfl, by unfold In64; omega⟩ (by rw [Hl1.out]; omega) (by rw [Hl1.out]; omega) (by simp; omega) ?_
                   rw [Hl1.out, ← natI_snoc]
                   intro A3 c3 w3 ho3 hg3 hb3
                   have hou3 := own_flat (Hou.out.alloc (.cells #[.int .i64 (s.size : Int)] 3)) hg3 (own_ne_own (Hou.out.alloc (.cells #[.int .i64 (s.size : Int)] 3)) (Hov.out.alloc (.cells #[.int .i64 (s.size : Int)] 3)) (by decide))
                   have hs3 := hb3.size
                   simp only [World.size_alloc] at hs3
                   have Hat : Hid (RepList w3 (· < w3.heap.size) A3 (n + 1) c3 (natI (places s))) := ho3.reads.more (fun _ h => h.2)
                   have Hru : Hid (RepList w3 (· < w3.heap.size) A2 n c2 (i32s (rnI s (ats s)))) := hou3.reads.more (fun _ h => h.2)
                   have Hb3 : Hid (Below w.heap.size w w3) := (Hb1.out.alloc hs1 _).trans hb3
                   clear ho3 hou3 hg3 hb3 Hou Hov))
      go_wp2_with fail
      refine (rruns_any 1 A2 n c2 _ w3 (by omega) Hru.out).mono ?_
      rw [show runC (mN 1) (bN 1) (rnI s (ats s)) = all from Hall.out]
      rintro e w4 ⟨v4, rfl, o4, hb4⟩
      obtain ⟨A4, c4, rfl⟩ := o4.form
      rw [Hm.out] at o4 ⊢
      have Haa : Hid (RepList w4 (· < w4.heap.size) A4 m c4 all) := o4.reads.more (fun _ h => h.2)
      have Hb4 := Lib.hid hb4
      clear o4 hb4
      go_wp2
      go_loopw [7, 9] (fun v i wr => ∃ j : Nat, j ≤ m ∧ i = .int .i64 j ∧ Own Flat wr w4.heap.size 80 v ((all.take j).foldl gr4 []) ∧ Below w4.heap.size w4 wr) (fun _ i _ => m - (intOf i).toNat)
      case atStart => exact ⟨0, by omega, rfl, Own.nil _ _ _ _, Below.refl _ _⟩
      case round =>
        obtain ⟨i, hi, rfl, oo, hbw⟩ := hrel
        obtain ⟨Ao, co, rfl⟩ := oo.form
        have hlo := foldl_len n (all.take i) [] (fun p hp => Hfa.out p (List.mem_of_mem_take hp))
        have hlo2 : ((all.take i).foldl gr4 []).length ≤ 16900000 := by
          have h1 : (all.take i).length * (n + 1) ≤ 4097 * 4097 := Nat.mul_le_mul (by rw [List.length_take]; omega) (by omega)
          simp only [List.length_nil] at hlo
          omega
        obtain ⟨out, hout⟩ : ∃ out, (all.take i).foldl gr4 [] = out := ⟨_, rfl⟩
        rw [hout] at oo hlo2 ⊢
        obtain ⟨L, hL⟩ : ∃ L, out.length = L := ⟨_, rfl⟩
        rw [hL] at oo hlo2 ⊢
        have HL := Lib.hid hL
        have Hout := Lib.hid hout
        have Hoo := Lib.hid oo
        have Hbw := Lib.hid hbw
        have hsw := hbw.size
        clear hL hout oo hbw hlo
        by_cases hlt : i < m
        · have Haw := Lib.hid (Haa.out.on Hbw.out)
          obtain ⟨bp, op, p, rfl, hp, hbp, hep⟩ := Haw.out.at_ hlt
          obtain ⟨e0, e1⟩ := hep.pair
          have hpf := Hfa.out p (List.mem_of_getElem? hp.out)
          have hstep : (all.take (i + 1)).foldl gr4 [] = gr4 out p := by
            rw [List.take_add_one, hp.out, Option.toList_some, List.foldl_append, Hout.out]; rfl
          obtain ⟨p1, p2⟩ := p
          simp only at hpf e0 e1
          obtain ⟨hp1, hp2⟩ := hpf
          have Hstep := Lib.hid hstep
          have Hp : Hid (all[i]? = some (p1, p2)) := hp.out
          clear hep hstep hp
          by_cases hone : p2 = p1 + 1
          · have hz : gr4To out (p1, p2) 0 = out ++ [(p1, p2)] := by simp [gr4To, hone]
            have Hz := Lib.hid hz
            have Hone := Lib.hid hone
            have hq1 : ((p2 : Int) == p1 + 1) = true := by simp; omega
            clear hz hone
            go_wp2_with fail
            go_quiet (fail)
            go_wp2_with (at_builtin
                         go_must (refine wpList_pushF rfl (.tmp 62) (.tmp 67) _ rfl w4.heap.size 80 i0 _ 16 Tryd.underlying79 hi0 hz0 hz1 hz2 rfl (.slice Ao L co) out rfl ((Hoo.out.drewN _).alloc (.cells #[.int .i64 (p1 : Int), .int .i64 (p2 : Int)] 80)) _ #[.int .i64 (p1 : Int), .int .i64 (p2 : Int)] (p1, p2) rfl (Blk.new _ _ _) rfl (by rw [HL.out]; omega) (by rw [HL.out]; omega) (by simp; omega) ?_)
                         rw [HL.out]
                         intro A5 c5 w5 ho5 hg5 hb5
                         have Ho5 := Lib.hid ho5
                         have Hb5 : Hid (Below w4.heap.size w4 w5) := ((Go.below_drewN Hbw.out _).alloc (by simpa using hsw) _).trans hb5
                         have e5 := ((Haa.out.on Hb5.out).elem Hp.out).2.pair
                         simp only at e5
                         obtain ⟨e50, e51⟩ := e5
                         clear ho5 hg5 hb5)
            go_loopw [7, 10] (fun v kv wi => ∃ d : Nat, d + p1 + 1 ≤ p2 ∧ kv = .int .i64 ((p1 + d : Nat) : Int) ∧ Own Flat wi w4.heap.size 80 v (gr4To out (p1, p2) d) ∧ Below w4.heap.size w4 wi) (fun _ kv _ => p2 - (intOf kv).toNat)
            case atStart => exact ⟨0, by omega, rfl, by rw [Hz.out]; exact Ho5.out, Hb5.out⟩
            case round =>
              obtain ⟨d, hd, rfl, oi, hbi⟩ := hrel
              have hle := gr4To_len out (p1, p2) d
              obtain ⟨Ai, ci, rfl⟩ := oi.form
              obtain ⟨Li, hLi⟩ : ∃ Li, (gr4To out (p1, p2) d).length = Li := ⟨_, rfl⟩
              rw [HL.out, hLi] at hle
              rw [hLi] at oi ⊢
              have HLi := Lib.hid hLi
              have Hoi := Lib.hid oi
              have Hbi := Lib.hid hbi
              have hsi := hbi.size
              have Hai := Lib.hid (Haa.out.on Hbi.out)
              have ei := (Haa.out.on Hbi.out)
              obtain ⟨p, hp⟩ : ∃ p, all[i]? = some p := ⟨_, List.getElem?_eq_getElem (by rw [Hm.out]; omega)⟩
              have hpp : p = (p1, p2) := by have := hp.symm.trans Hp.out; exact Option.some.inj this
              subst hpp
              obtain ⟨f0, f1⟩ := (ei.elem hp).2.pair
              simp only at f0 f1
              clear hLi oi hbi ei hp e0 e1
              by_cases hmore : p1 + d + 2 ≤ p2
              · have hst : gr4To out (p1, p2) (d + 1) = gr4To out (p1, p2) d ++ [(p1 + d, p1 + d + 2)] := by simp [gr4To, List.range_succ]
                have Hst := Lib.hid hst
                clear hst
                go_wp2_with (at_builtin
                             go_must (refine wpList_pushF rfl (.tmp 84) (.tmp 89) _ rfl w4.heap.size 80 i0 _ 16 Tryd.underlying79 hi0 hz0 hz1 hz2 rfl (.slice Ai Li ci) (gr4To out (p1, p2) d) rfl (Hoi.out.alloc (.cells #[.int .i64 ((p1 + d : Nat) : Int), .int .i64 (((p1 + d : Nat) : Int) + 2)] 80)) _ #[.int .i64 ((p1 + d : Nat) : Int), .int .i64 (((p1 + d : Nat) : Int) + 2)] (p1 + d, p1 + d + 2) rfl (Blk.new _ _ _) (by show _ = _; simp) (by rw [HLi.out]; omega) (by rw [HLi.out]; omega) (by simp; omega) ?_)
                             rw [HLi.out]
                             intro A6 c6 w6 ho6 hg6 hb6
                             have Ho6 := Lib.hid ho6
                             have Hb6 := Lib.hid hb6
                             clear ho6 hg6 hb6)
                go_roundw
                case rel => exact ⟨d + 1, by omega, by go_num, by rw [Hst.out]; exact Ho6.out, (Hbi.out.alloc hsi _).trans Hb6.out⟩
                case measure => simp [intOf]; omega
              · obtain rfl : d = p2 - 1 - p1 := by omega
                go_wp2
                go_roundw
                case rel => exact ⟨i + 1, by omega, by go_num, by rw [Hstep.out]; exact Hoi.out, Hbi.out⟩
                case measure => simp [intOf]; omega
          · have hz : gr4To out (p1, p2) 0 = out := by simp [gr4To, hone]
            have Hz := Lib.hid hz
            have hq1 : ((p2 : Int) == p1 + 1) = false := by simp; omega
            clear hz hone
            go_wp2_with fail
            go_quiet (fail)
            go_wp2_with fail
            go_loopw [7, 10] (fun v kv wi => ∃ d : Nat, d + p1 + 1 ≤ p2 ∧ kv = .int .i64 ((p1 + d : Nat) : Int) ∧ Own Flat wi w4.heap.size 80 v (gr4To out (p1, p2) d) ∧ Below w4.heap.size w4 wi) (fun _ kv _ => p2 - (intOf kv).toNat)
            case atStart => exact ⟨0, by omega, rfl, by rw [Hz.out]; exact (Hoo.out.drewN _), (Go.below_drewN Hbw.out _)⟩
            case round =>
              obtain ⟨d, hd, rfl, oi, hbi⟩ := hrel
              have hle := gr4To_len out (p1, p2) d
              obtain ⟨Ai, ci, rfl⟩ := oi.form
              obtain ⟨Li, hLi⟩ : ∃ Li, (gr4To out (p1, p2) d).length = Li := ⟨_, rfl⟩
              rw [HL.out, hLi] at hle
              rw [hLi] at oi ⊢
              have HLi := Lib.hid hLi
              have Hoi := Lib.hid oi
              have Hbi := Lib.hid hbi
              have hsi := hbi.size
              have Hai := Lib.hid (Haa.out.on Hbi.out)
              have ei := (Haa.out.on Hbi.out)
              obtain ⟨p, hp⟩ : ∃ p, all[i]? = some p := ⟨_, List.getElem?_eq_getElem (by rw [Hm.out]; omega)⟩
              have hpp : p = (p1, p2) := by have := hp.symm.trans Hp.out; exact Option.some.inj this
              subst hpp
              obtain ⟨f0, f1⟩ := (ei.elem hp).2.pair
              simp only at f0 f1
              clear hLi oi hbi ei hp e0 e1
              by_cases hmore : p1 + d + 2 ≤ p2
              · have hst : gr4To out (p1, p2) (d + 1) = gr4To out (p1, p2) d ++ [(p1 + d, p1 + d + 2)] := by simp [gr4To, List.range_succ]
                have Hst := Lib.hid hst
                clear hst
                go_wp2_with (at_builtin
                             go_must (refine wpList_pushF rfl (.tmp 84) (.tmp 89) _ rfl w4.heap.size 80 i0 _ 16 Tryd.underlying79 hi0 hz0 hz1 hz2 rfl (.slice Ai Li ci) (gr4To out (p1, p2) d) rfl (Hoi.out.alloc (.cells #[.int .i64 ((p1 + d : Nat) : Int), .int .i64 (((p1 + d : Nat) : Int) + 2)] 80)) _ #[.int .i64 ((p1 + d : Nat) : Int), .int .i64 (((p1 + d : Nat) : Int) + 2)] (p1 + d, p1 + d + 2) rfl (Blk.new _ _ _) (by show _ = _; simp) (by rw [HLi.out]; omega) (by rw [HLi.out]; omega) (by simp; omega) ?_)
                             rw [HLi.out]
                             intro A6 c6 w6 ho6 hg6 hb6
                             have Ho6 := Lib.hid ho6
                             have Hb6 := Lib.hid hb6
                             clear ho6 hg6 hb6)
                go_roundw
                case rel => exact ⟨d + 1, by omega, by go_num, by rw [Hst.out]; exact Ho6.out, (Hbi.out.alloc hsi _).trans Hb6.out⟩
                case measure => simp [intOf]; omega
              · obtain rfl : d = p2 - 1 - p1 := by omega
                go_wp2
                go_roundw
                case rel => exact ⟨i + 1, by omega, by go_num, by rw [Hstep.out]; exact Hoi.out, Hbi.out⟩
                case measure => simp [intOf]; omega
        · obtain rfl : i = m := by omega
          have hfin : cut = out := by rw [← Hc3.out, ← Hout.out, List.take_of_length_le (by rw [Hm.out]; omega)]
          obtain rfl : q = L := by rw [← Hq.out, hfin]; exact HL.out
          have Hfin := Lib.hid hfin
          clear hfin
          obtain ⟨wo, rfl⟩ : ∃ wo, wo = wr := ⟨_, rfl⟩
          have HcG : Hid (RepList wo (· < wo.heap.size) Ao q co cut) := by show RepList _ _ _ _ _ _; rw [Hfin.out]; exact Hoo.out.reads.more (fun _ h => h.2)
          have HbG : Hid (Below w4.heap.size w4 wo) := Hbw
          clear Hoo Hbw Hout HL hsw
          -- the tokens of the cuts: at wo
          have hatF : RepList wo (· < wo.heap.size) A3 (n + 1) c3 (natI (places s)) := (Hat.out.on Hb4.out).on HbG.out
          have hcutF : RepList wo (· < wo.heap.size) Ao q co cut := HcG.out
          have HatF := Lib.hid hatF
          have HcutF := Lib.hid hcutF
          have HbF : Hid (Below w.heap.size w wo) := Hb3.out.trans ((Hb4.out.trans (HbG.out.mono Hb4.out.size)).mono Hb3.out.size)
          clear hatF hcutF
          have hsF := HbF.out.size
          go_wp2
          go_loopw [11, 12] (fun v i wz => ∃ j : Nat, j ≤ q ∧ i = .int .i64 j ∧ Own Flat wz wo.heap.size 44 v (toksR s cut j) ∧ Below wo.heap.size wo wz) (fun _ i _ => q - (intOf i).toNat)
          case atStart => exact ⟨0, by omega, rfl, Own.nil _ _ _ _, Below.refl _ _⟩
          case round =>
            obtain ⟨j, hj, rfl, oo, hbw⟩ := hrel
            obtain ⟨Ao, co, rfl⟩ := oo.form
            have hlj := toksR_len s cut j
            rw [hlj] at oo ⊢
            have Hlj := Lib.hid hlj
            have Hoo := Lib.hid oo
            have Hbw := Lib.hid hbw
            have hsw := hbw.size
            clear oo hbw hlj
            by_cases hlt : j < q
            · obtain ⟨bp, op, p, rfl, hp, hbp, hep⟩ := (HcutF.out.on Hbw.out).at_ hlt
              obtain ⟨e0, e1⟩ := hep.pair
              have hpf := Hfit.out p (List.mem_of_getElem? hp.out)
              obtain ⟨a, ha⟩ : ∃ a, (places s)[p.1]? = some a := ⟨_, List.getElem?_eq_getElem (by rw [places_last, Hn.out]; omega)⟩
              obtain ⟨b, hb⟩ : ∃ b, (places s)[p.2]? = some b := ⟨_, List.getElem?_eq_getElem (by rw [places_last, Hn.out]; omega)⟩
              obtain ⟨ba, oa, rfl, hba, _⟩ := (HatF.out.on Hbw.out).2.2.2 _ _ (natI_get ha)
              have ea : _ = _ := ((HatF.out.on Hbw.out).elem (natI_get ha)).2.int.1
              have eb : _ = _ := ((HatF.out.on Hbw.out).elem (natI_get hb)).2.int.1
              have hab : a ≤ b := places_mono ha hb (by omega)
              have hbs : b ≤ s.size := places_le (List.mem_of_getElem? hb)
              have hst : toksR s cut (j + 1) = toksR s cut j ++ [⟨s.extract a b, j, (a : Int), (b : Int)⟩] := by
                show toksR s cut j ++ [tokAt s (cut[j]?.getD (0, 0)) j] = _
                rw [hp.out, Option.getD_some]
                unfold tokAt
                rw [ha, hb]; rfl
              have Hst := Lib.hid hst
              obtain ⟨p1, p2⟩ := p
              simp only at hpf e0 e1 ea eb
              obtain ⟨hp1, hp2⟩ := hpf
              have hxs : (s.extract a b).size ≤ s.size := by rw [ByteArray.size_extract]; omega
              have ht : (⟨s.extract a b, j, (a : Int), (b : Int)⟩ : Token).ok := by
                refine ⟨?_, ?_, ?_, ?_⟩ <;> simp only [In64] <;> omega
              have Ht := Lib.hid ht
              clear hst hep ha hb ht hp hxs
              go_wp2_with (at_builtin
                           go_must (refine wpList_pushF rfl (.tmp 113) (.tmp 122) _ rfl wo.heap.size 44 i2 _ 40 Tryd.underlying34 hi2 hx0 hx1 hx2 rfl (.slice Ao j co) (toksR s cut j) rfl (Hoo.out.alloc (.cells #[.string (s.extract a b), .int .i64 (j : Int), .int .i64 (a : Int), .int .i64 (b : Int)] 44)) _ #[.string (s.extract a b), .int .i64 (j : Int), .int .i64 (a : Int), .int .i64 (b : Int)] ⟨s.extract a b, j, (a : Int), (b : Int)⟩ rfl (Blk.new _ _ _) ⟨rfl, Ht.out⟩ (by rw [Hlj.out]; omega) (by rw [Hlj.out]; omega) (by simp; omega) ?_)
                           rw [Hlj.out]
                           intro A5 c5 w5 ho5 hg5 hb5
                           have Ho5 := Lib.hid ho5
                           have Hb5 := Lib.hid hb5
                           clear ho5 hg5 hb5)
              go_roundw
              case rel => exact ⟨j + 1, by omega, by go_num, by rw [Hst.out]; exact Ho5.out, (Hbw.out.alloc hsw _).trans Hb5.out⟩
              case measure => simp [intOf]; omega
            · obtain rfl : j = q := by omega
              go_wp2
              go_ret
              exact ⟨_, rfl, Hoo.out.mono hsF, HbF.out.trans (Hbw.out.mono hsF)⟩
    · have hn3 : (number == 3) = false := by simpa using h3
      have hn4 : (number == 4) = false := by simpa using h4
      have hc3 : runC (mN number) (bN number) (rnI s (ats s)) = cut := by rw [← Hcut.out]; unfold cutT; rw [if_neg h3, if_neg h4]
      have Hc3 := Lib.hid hc3
      clear hc3 h3 h4
      go_enter Tryd.func29, Tryd.ntmps29
      go_wp2_with fail
      refine (rrunes_any s (by omega) w).mono ?_
      rintro e w1 ⟨v1, u1, rfl, ov, ou, hb1⟩
      obtain ⟨A1, c1, rfl⟩ := ov.form
      obtain ⟨A2, c2, rfl⟩ := ou.form
      rw [Hl1.out] at ov ⊢
      rw [Hl2.out] at ou ⊢
      have Hov := Lib.hid ov
      have hru := ou.reads.more (F' := (· < w1.heap.size)) (fun _ h => h.2)
      have Hou := Lib.hid ou
      have Hb1 := Lib.hid hb1
      have hs1 := hb1.size
      clear ov ou hb1 hru
      go_wp2_with (first
                | (at_builtin
                   refine wpList_pushF rfl (.tmp 20) (.tmp 23) _ rfl w.heap.size 3 i1 _ 8 Tryd.underlying49 hi1 hy0 hy1 hy2 rfl (.slice A1 n c1) (natI (ats s)) rfl (Hov.out.alloc (.cells #[.int .i64 (s.size : Int)] 3)) _ #[.int .i64 (s.size : Int)] (s.size : Int) rfl (Blk.new _ _ _) ⟨rfl, by unfold In64; omega⟩ (by rw [Hl1.out]; omega) (by rw [Hl1.out]; omega) (by simp; omega) ?_
                   rw [Hl1.out, ← natI_snoc]
                   intro A3 c3 w3 ho3 hg3 hb3
                   have hou3 := own_flat (Hou.out.alloc (.cells #[.int .i64 (s.size : Int)] 3)) hg3 (own_ne_own (Hou.out.alloc (.cells #[.int .i64 (s.size : Int)] 3)) (Hov.out.alloc (.cells #[.int .i64 (s.size : Int)] 3)) (by decide))
                   have hs3 := hb3.size
                   simp only [World.size_alloc] at hs3
                   have Hat : Hid (RepList w3 (· < w3.heap.size) A3 (n + 1) c3 (natI (places s))) := ho3.reads.more (fun _ h => h.2)
                   have Hru : Hid (RepList w3 (· < w3.heap.size) A2 n c2 (i32s (rnI s (ats s)))) := hou3.reads.more (fun _ h => h.2)
                   have Hb3 : Hid (Below w.heap.size w w3) := (Hb1.out.alloc hs1 _).trans hb3
                   clear ho3 hou3 hg3 hb3 Hou Hov))
      go_wp2_with fail
      refine (rruns_any number A2 n c2 _ w3 (by omega) Hru.out).mono ?_
      rw [Hc3.out]
      rintro e w4 ⟨v4, rfl, o4, hb4⟩
      obtain ⟨A4, c4, rfl⟩ := o4.form
      rw [Hq.out] at o4 ⊢
      have Hcc : Hid (RepList w4 (· < w4.heap.size) A4 q c4 cut) := o4.reads.more (fun _ h => h.2)
      have Hb4 := Lib.hid hb4
      clear o4 hb4
      -- the tokens of the cuts: at w4
      have hatF : RepList w4 (· < w4.heap.size) A3 (n + 1) c3 (natI (places s)) := Hat.out.on Hb4.out
      have hcutF : RepList w4 (· < w4.heap.size) A4 q c4 cut := Hcc.out
      have HatF := Lib.hid hatF
      have HcutF := Lib.hid hcutF
      have HbF : Hid (Below w.heap.size w w4) := Hb3.out.trans (Hb4.out.mono Hb3.out.size)
      clear hatF hcutF
      have hsF := HbF.out.size
      go_wp2
      go_loopw [11, 12] (fun v i wz => ∃ j : Nat, j ≤ q ∧ i = .int .i64 j ∧ Own Flat wz w4.heap.size 44 v (toksR s cut j) ∧ Below w4.heap.size w4 wz) (fun _ i _ => q - (intOf i).toNat)
      case atStart => exact ⟨0, by omega, rfl, Own.nil _ _ _ _, Below.refl _ _⟩
      case round =>
        obtain ⟨j, hj, rfl, oo, hbw⟩ := hrel
        obtain ⟨Ao, co, rfl⟩ := oo.form
        have hlj := toksR_len s cut j
        rw [hlj] at oo ⊢
        have Hlj := Lib.hid hlj
        have Hoo := Lib.hid oo
        have Hbw := Lib.hid hbw
        have hsw := hbw.size
        clear oo hbw hlj
        by_cases hlt : j < q
        · obtain ⟨bp, op, p, rfl, hp, hbp, hep⟩ := (HcutF.out.on Hbw.out).at_ hlt
          obtain ⟨e0, e1⟩ := hep.pair
          have hpf := Hfit.out p (List.mem_of_getElem? hp.out)
          obtain ⟨a, ha⟩ : ∃ a, (places s)[p.1]? = some a := ⟨_, List.getElem?_eq_getElem (by rw [places_last, Hn.out]; omega)⟩
          obtain ⟨b, hb⟩ : ∃ b, (places s)[p.2]? = some b := ⟨_, List.getElem?_eq_getElem (by rw [places_last, Hn.out]; omega)⟩
          obtain ⟨ba, oa, rfl, hba, _⟩ := (HatF.out.on Hbw.out).2.2.2 _ _ (natI_get ha)
          have ea : _ = _ := ((HatF.out.on Hbw.out).elem (natI_get ha)).2.int.1
          have eb : _ = _ := ((HatF.out.on Hbw.out).elem (natI_get hb)).2.int.1
          have hab : a ≤ b := places_mono ha hb (by omega)
          have hbs : b ≤ s.size := places_le (List.mem_of_getElem? hb)
          have hst : toksR s cut (j + 1) = toksR s cut j ++ [⟨s.extract a b, j, (a : Int), (b : Int)⟩] := by
            show toksR s cut j ++ [tokAt s (cut[j]?.getD (0, 0)) j] = _
            rw [hp.out, Option.getD_some]
            unfold tokAt
            rw [ha, hb]; rfl
          have Hst := Lib.hid hst
          obtain ⟨p1, p2⟩ := p
          simp only at hpf e0 e1 ea eb
          obtain ⟨hp1, hp2⟩ := hpf
          have hxs : (s.extract a b).size ≤ s.size := by rw [ByteArray.size_extract]; omega
          have ht : (⟨s.extract a b, j, (a : Int), (b : Int)⟩ : Token).ok := by
            refine ⟨?_, ?_, ?_, ?_⟩ <;> simp only [In64] <;> omega
          have Ht := Lib.hid ht
          clear hst hep ha hb ht hp hxs
          go_wp2_with (at_builtin
                       go_must (refine wpList_pushF rfl (.tmp 113) (.tmp 122) _ rfl w4.heap.size 44 i2 _ 40 Tryd.underlying34 hi2 hx0 hx1 hx2 rfl (.slice Ao j co) (toksR s cut j) rfl (Hoo.out.alloc (.cells #[.string (s.extract a b), .int .i64 (j : Int), .int .i64 (a : Int), .int .i64 (b : Int)] 44)) _ #[.string (s.extract a b), .int .i64 (j : Int), .int .i64 (a : Int), .int .i64 (b : Int)] ⟨s.extract a b, j, (a : Int), (b : Int)⟩ rfl (Blk.new _ _ _) ⟨rfl, Ht.out⟩ (by rw [Hlj.out]; omega) (by rw [Hlj.out]; omega) (by simp; omega) ?_)
                       rw [Hlj.out]
                       intro A5 c5 w5 ho5 hg5 hb5
                       have Ho5 := Lib.hid ho5
                       have Hb5 := Lib.hid hb5
                       clear ho5 hg5 hb5)
          go_roundw
          case rel => exact ⟨j + 1, by omega, by go_num, by rw [Hst.out]; exact Ho5.out, (Hbw.out.alloc hsw _).trans Hb5.out⟩
          case measure => simp [intOf]; omega
        · obtain rfl : j = q := by omega
          go_wp2
          go_ret
          exact ⟨_, rfl, Hoo.out.mono hsF, HbF.out.trans (Hbw.out.mono hsF)⟩
end Go.Proofs.YtajgoffeahfmfaaDoor

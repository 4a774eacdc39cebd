/- The texts Agree6 of IterateWords, joined by program (tools/merge.py): walks of the functions that the law reaches, and plain facts; no condition. -/
import Derived.Test.YtajgoffeahfmfaaDoorPart43
import Derived.Test.YtajgoffeahfmfaaDoorPart25
import Derived.Test.YtajgoffeahfmfaaDoorPart24
set_option linter.unusedVariables false
set_option linter.unusedSimpArgs false

/- THE PLAIN LAW: runs by a pass over runes are runs by their ends; the grams of a part of a text are grams of the text. No program stands here. -/
namespace Go.Proofs.YtajgoffeahfmfaaDoor
open Rep (rep)
open Go.RowKit

theorem decN_cut (n n' b0 b1 b2 b3 c1 c2 c3 : Nat) (hn : n' ≤ n) (h1 : 1 < n' → c1 = b1) (h2 : 2 < n' → c2 = b2) (h3 : 3 < n' → c3 = b3) (h : (Lib.decodeN n b0 b1 b2 b3).2 ≤ n') : Lib.decodeN n' b0 c1 c2 c3 = Lib.decodeN n b0 b1 b2 b3 := by
  by_cases k1 : 1 < n'
  · obtain rfl := h1 k1
    by_cases k2 : 2 < n'
    · obtain rfl := h2 k2
      by_cases k3 : 3 < n'
      · obtain rfl := h3 k3
        have e1 : (1 < n) = True := by simp; omega
        have e2 : (2 < n) = True := by simp; omega
        have e3 : (3 < n) = True := by simp; omega
        unfold Lib.decodeN
        simp only [k1, k2, k3, e1, e2, e3, true_and]
      · have e1 : (1 < n) = True := by simp; omega
        have e2 : (2 < n) = True := by simp; omega
        unfold Lib.decodeN at h ⊢
        simp only [k1, k2, k3, e1, e2, true_and, false_and, and_false, if_false] at h ⊢
        repeat' split at h
        all_goals (try split)
        all_goals simp_all
        all_goals omega
    · have e1 : (1 < n) = True := by simp; omega
      have k3 : (3 < n') = False := by simp; omega
      unfold Lib.decodeN at h ⊢
      simp only [k1, k2, k3, e1, true_and, false_and, and_false, if_false] at h ⊢
      repeat' split at h
      all_goals (try split)
      all_goals simp_all
      all_goals omega
  · have k2 : (2 < n') = False := by simp; omega
    have k3 : (3 < n') = False := by simp; omega
    unfold Lib.decodeN at h ⊢
    simp only [k1, k2, k3, false_and, and_false, if_false] at h ⊢
    repeat' split at h
    all_goals (try split)
    all_goals simp_all
    all_goals omega
theorem get_ext (s : ByteArray) (a b i : Nat) (hb : b ≤ s.size) (h : a + i < b) : (s.extract a b).get! i = s.get! (a + i) := by
  have h1 : i < (s.extract a b).size := by rw [ByteArray.size_extract]; omega
  rw [← get_eq _ _ h1, ← get_eq s (a + i) (by omega)]
  exact ByteArray.getElem_extract ..
theorem dec_ext (s : ByteArray) (a b i : Nat) (hb : b ≤ s.size) (h : a + i < b) (hw : a + i + wd s (a + i) ≤ b) : Utf8.decode (s.extract a b) i = Utf8.decode s (a + i) := by
  have hs : (s.extract a b).size = b - a := by rw [ByteArray.size_extract]; omega
  rw [wd, Lib.decode_at] at hw
  rw [Lib.decode_at, Lib.decode_at, hs, get_ext s a b i hb h]
  refine decN_cut _ _ _ _ _ _ _ _ _ (by omega) (fun h1 => ?_) (fun h2 => ?_) (fun h3 => ?_) (by omega)
  · rw [get_ext s a b _ hb (by omega)]; rfl
  · rw [get_ext s a b _ hb (by omega)]; rfl
  · rw [get_ext s a b _ hb (by omega)]; rfl

theorem ats_split (s : ByteArray) : ∀ j, j ≤ (ats s).length → ∃ i, i ≤ s.size ∧ ats s = (ats s).take j ++ atsFrom s i
  | 0, _ => ⟨0, by omega, rfl⟩
  | j + 1, hj => by
    obtain ⟨i, h1, h2⟩ := ats_split s j (by omega)
    have hi : i < s.size := by
      rcases Nat.lt_or_ge i s.size with h | h
      · exact h
      · rw [atsFrom_nil h, List.append_nil] at h2
        have := congrArg List.length h2
        rw [List.length_take] at this; omega
    refine ⟨i + wd s i, wd_fit hi, ?_⟩
    rw [atsFrom_cons hi] at h2
    have hg : (ats s)[j]? = some i := by
      rw [h2, List.getElem?_append_right (by rw [List.length_take]; omega), List.length_take, show j - min j (ats s).length = 0 by omega]; rfl
    rw [List.take_add_one, hg, Option.toList_some, List.append_assoc]
    exact h2
theorem places_step {s : ByteArray} {j x : Nat} (hj : j < (ats s).length) (hx : (places s)[j]? = some x) : x < s.size ∧ (places s)[j + 1]? = some (x + wd s x) := by
  obtain ⟨i, h1, h2⟩ := ats_split s j (by omega)
  have hi : i < s.size := by
    rcases Nat.lt_or_ge i s.size with h | h
    · exact h
    · rw [atsFrom_nil h, List.append_nil] at h2
      have := congrArg List.length h2
      rw [List.length_take] at this; omega
  have hp : places s = (ats s).take j ++ (i :: (atsFrom s (i + wd s i) ++ [s.size])) := by
    unfold places
    conv => lhs; rw [h2]
    rw [atsFrom_cons hi]; simp
  have hl : ((ats s).take j).length = j := by rw [List.length_take]; omega
  have hxi : x = i := by
    rw [hp, List.getElem?_append_right (by omega), hl, Nat.sub_self] at hx
    simpa using hx.symm
  subst hxi
  refine ⟨hi, ?_⟩
  rw [hp, List.getElem?_append_right (by omega), hl, show j + 1 - j = 1 by omega]
  have hf := wd_fit hi
  rcases Nat.lt_or_ge (x + wd s x) s.size with h | h
  · rw [atsFrom_cons h]; rfl
  · rw [atsFrom_nil h]
    show some s.size = _
    rw [show s.size = x + wd s x by omega]
/-- The places of a part of a text whose ends are places. -/
theorem places_part {s : ByteArray} {f k A B : Nat} (hfk : f ≤ k) (hk : k ≤ (ats s).length) (hA : (places s)[f]? = some A) (hB : (places s)[k]? = some B) :
    places (s.extract A B) = (((places s).drop f).take (k - f + 1)).map (· - A) := by
  have hBs : B ≤ s.size := places_le (List.mem_of_getElem? hB)
  have hAB : A ≤ B := places_mono hA hB hfk
  have hsz : (s.extract A B).size = B - A := by rw [ByteArray.size_extract]; omega
  have main : ∀ d j x, k - j = d → f ≤ j → j ≤ k → (places s)[j]? = some x → atsFrom (s.extract A B) (x - A) ++ [B - A] = (((places s).drop j).take (k - j + 1)).map (· - A) := by
    intro d
    induction d with
    | zero =>
      intro j x hd h1 h2 hx
      obtain rfl : j = k := by omega
      cases hx.symm.trans hB
      have hd2 : (places s).drop j = B :: (places s).drop (j + 1) := by
        have hl := lt_of_get? hB
        rw [List.drop_eq_getElem_cons hl]
        rw [List.getElem?_eq_getElem hl] at hB
        rw [Option.some.inj hB]
      rw [atsFrom_nil (by omega), hd2, show j - j + 1 = 1 by omega]
      rfl
    | succ d ih =>
      intro j x hd h1 h2 hx
      obtain ⟨hxs, hn⟩ := places_step (by omega) hx
      have hAx : A ≤ x := places_mono hA hx h1
      have hxB : x + wd s x ≤ B := places_mono hn hB (by omega)
      have hwp := wd_pos hxs
      have hdec := dec_ext s A B (x - A) hBs (by omega) (by rw [show A + (x - A) = x by omega]; exact hxB)
      rw [show A + (x - A) = x by omega] at hdec
      have hw : wd (s.extract A B) (x - A) = wd s x := by unfold wd; rw [hdec]
      rw [atsFrom_cons (by omega), hw, show x - A + wd s x = x + wd s x - A by omega, List.cons_append, ih (j + 1) (x + wd s x) (by omega) (by omega) (by omega) hn]
      have hd2 : (places s).drop j = x :: (places s).drop (j + 1) := by
        have hl := lt_of_get? hx
        rw [List.drop_eq_getElem_cons hl]
        rw [List.getElem?_eq_getElem hl] at hx
        rw [Option.some.inj hx]
      rw [hd2, show k - j + 1 = (k - (j + 1) + 1) + 1 by omega, List.take_succ_cons, List.map_cons]
  have := main (k - f) f A rfl (Nat.le_refl _) hfk hA
  rw [Nat.sub_self] at this
  unfold places ats
  rw [hsz]
  exact this
theorem places_part_at {s : ByteArray} {f k A B d x : Nat} (hfk : f ≤ k) (hk : k ≤ (ats s).length) (hA : (places s)[f]? = some A) (hB : (places s)[k]? = some B) (hd : f + d ≤ k) (hx : (places s)[f + d]? = some x) :
    (places (s.extract A B))[d]? = some (x - A) := by
  rw [places_part hfk hk hA hB, List.getElem?_map, List.getElem?_take, if_pos (by omega), List.getElem?_drop, hx]; rfl
theorem places_part_len {s : ByteArray} {f k A B : Nat} (hfk : f ≤ k) (hk : k ≤ (ats s).length) (hA : (places s)[f]? = some A) (hB : (places s)[k]? = some B) : (places (s.extract A B)).length = k - f + 1 := by
  rw [places_part hfk hk hA hB, List.length_map, List.length_take, List.length_drop, places_last]; omega

def tokL (s : ByteArray) (cut : List (Nat × Nat)) : List Token := toksR s cut cut.length
theorem toksR_app (s : ByteArray) (c d : List (Nat × Nat)) : ∀ j, j ≤ c.length → toksR s (c ++ d) j = toksR s c j
  | 0, _ => rfl
  | j + 1, h => by rw [toksR, toksR, toksR_app s c d j (by omega), List.getElem?_append_left (by omega)]
theorem tokL_snoc (s : ByteArray) (c : List (Nat × Nat)) (p : Nat × Nat) : tokL s (c ++ [p]) = tokL s c ++ [tokAt s p c.length] := by
  unfold tokL
  rw [List.length_append, List.length_singleton, toksR, toksR_app s c [p] c.length (Nat.le_refl _), List.getElem?_append_right (Nat.le_refl _), Nat.sub_self]; rfl
theorem tokL_len (s : ByteArray) (c : List (Nat × Nat)) : (tokL s c).length = c.length := toksR_len s c _

theorem run_sim (s : ByteArray) (m b : Int → Bool) : ∀ i, i ≤ (ats s).length →
    runSt s m b ((ats s).take i) = (tokL s (stC m b (rnI s (ats s)) i).1, (stC m b (rnI s (ats s)) i).2.map fun f => (places s)[f]?.getD 0)
  | 0, _ => rfl
  | i + 1, hi => by
    have ih := run_sim s m b i (by omega)
    obtain ⟨x, hx⟩ : ∃ x, (ats s)[i]? = some x := ⟨_, List.getElem?_eq_getElem (by omega)⟩
    have hr : (rnI s (ats s))[i]? = some (rn s x : Int) := by simp [rnI, hx]
    have hp : (places s)[i]? = some x := by rw [places, List.getElem?_append_left (by omega)]; exact hx
    rw [List.take_add_one, hx, Option.toList_some, runSt_snoc, ih]
    rw [show stC m b (rnI s (ats s)) (i + 1) = stepC m b ((rnI s (ats s))[i]?.getD 0) (stC m b (rnI s (ats s)) i) i from rfl, hr, Option.getD_some]
    rcases hst : stC m b (rnI s (ats s)) i with ⟨o, fr⟩
    unfold stepRun stepC
    by_cases hm : m (rn s x) = false
    · rw [if_pos hm, if_pos hm]
      cases fr with
      | none => rfl
      | some f =>
        show (endTok s (tokL s o) (some _) x, none) = (tokL s (o ++ [(f, i)]), none)
        rw [tokL_snoc]
        unfold endTok tokAt
        rw [tokL_len, hp]; rfl
    · rw [if_neg hm, if_neg hm]
      cases fr with
      | none =>
        by_cases hb : b (rn s x) = true
        · rw [if_pos ⟨rfl, hb⟩, if_pos ⟨rfl, hb⟩]
          show (tokL s o, some x) = (tokL s o, some ((places s)[i]?.getD 0))
          rw [hp]; rfl
        · rw [if_neg (by simp [hb]), if_neg (by simp [hb])]
      | some f =>
        rw [if_neg (by simp), if_neg (by simp)]
theorem runs_sim (s : ByteArray) (m b : Int → Bool) : runsL s m b = tokL s (runC m b (rnI s (ats s))) := by
  have h := run_sim s m b (ats s).length (Nat.le_refl _)
  rw [List.take_length] at h
  have hl : (rnI s (ats s)).length = (ats s).length := by simp [rnI]
  unfold runsL runC
  rw [h, hl]
  have hp : (places s)[(ats s).length]? = some s.size := by simp [places]
  rcases hst : stC m b (rnI s (ats s)) (ats s).length with ⟨o, fr⟩
  cases fr with
  | none => rfl
  | some f =>
    show endTok s (tokL s o) (some _) s.size = tokL s (o ++ [(f, _)])
    rw [tokL_snoc]
    unfold endTok tokAt
    rw [tokL_len, hp]; rfl

theorem stC_all (l : List Int) : ∀ i, stC (fun _ => true) (fun _ => true) l (i + 1) = ([], some 0)
  | 0 => rfl
  | i + 1 => by
    rw [show stC (fun _ => true) (fun _ => true) l (i + 1 + 1) = stepC (fun _ => true) (fun _ => true) (l[i + 1]?.getD 0) (stC (fun _ => true) (fun _ => true) l (i + 1)) (i + 1) from rfl, stC_all l i]
    rfl
theorem runC_all (l : List Int) : runC (fun _ => true) (fun _ => true) l = if 0 < l.length then [(0, l.length)] else [] := by
  unfold runC
  rcases h : l.length with _ | k
  · rfl
  · rw [stC_all]; rfl

theorem pieces_sim {s : ByteArray} {f k A B g : Nat} (c : List (Nat × Nat)) (hfk : f ≤ k) (hk : k ≤ (ats s).length) (hA : (places s)[f]? = some A) (hB : (places s)[k]? = some B) (len : Int) :
    ∀ cnt, f + cnt + g ≤ k + 1 → piecesTo ⟨s.extract A B, len, (A : Int), (B : Int)⟩ (places (s.extract A B)) g (tokL s c) cnt = tokL s (c ++ (List.range cnt).map fun d => (f + d, f + d + g)) := by
  intro cnt
  induction cnt with
  | zero => intro _; simp [piecesTo]
  | succ cnt ih =>
    intro h
    rw [piecesTo, ih (by omega), List.range_succ, List.map_append, List.map_singleton, ← List.append_assoc, tokL_snoc]
    obtain ⟨x, hx⟩ : ∃ x, (places s)[f + cnt]? = some x := ⟨_, List.getElem?_eq_getElem (by rw [places_last]; omega)⟩
    obtain ⟨y, hy⟩ : ∃ y, (places s)[f + cnt + g]? = some y := ⟨_, List.getElem?_eq_getElem (by rw [places_last]; omega)⟩
    have hAx := places_mono hA hx (by omega)
    have hxy := places_mono hx hy (by omega)
    have hyB := places_mono hy hB (by omega)
    have e1 := places_part_at (d := cnt) hfk hk hA hB (by omega) hx
    have e2 := places_part_at (d := cnt + g) hfk hk hA hB (by omega) (by rw [← Nat.add_assoc]; exact hy)
    refine congrArg (fun z => tokL s (c ++ (List.range cnt).map fun d => (f + d, f + d + g)) ++ [z]) ?_
    unfold pieceTok tokAt
    simp only
    rw [e1, e2, hx, hy, tokL_len]
    simp only [Option.getD_some]
    have hxx : (s.extract A B).extract (x - A) (y - A) = s.extract x y := by
      rw [ByteArray.extract_extract, show A + (x - A) = x by omega, show min (A + (y - A)) B = y by omega]
    rw [hxx, show ((A : Int) + ((x - A : Nat) : Int)) = (x : Int) by omega, show ((A : Int) + ((y - A : Nat) : Int)) = (y : Int) by omega]
theorem grams_sim {s : ByteArray} (c : List (Nat × Nat)) (p : Nat × Nat) (i : Nat) (hp : p.1 < p.2 ∧ p.2 ≤ (ats s).length) : gramsOne (tokL s c) (tokAt s p i) = tokL s (gr4 c p) := by
  obtain ⟨f, k⟩ := p
  simp only at hp
  obtain ⟨A, hA⟩ : ∃ A, (places s)[f]? = some A := ⟨_, List.getElem?_eq_getElem (by rw [places_last]; omega)⟩
  obtain ⟨B, hB⟩ : ∃ B, (places s)[k]? = some B := ⟨_, List.getElem?_eq_getElem (by rw [places_last]; omega)⟩
  have hl := places_part_len (Nat.le_of_lt hp.1) hp.2 hA hB
  have ht : tokAt s (f, k) i = ⟨s.extract A B, i, (A : Int), (B : Int)⟩ := by unfold tokAt; rw [hA, hB]; rfl
  rw [ht]
  unfold gramsOne gramN
  rw [hl, pieces_sim c (Nat.le_of_lt hp.1) hp.2 hA hB _ _ (by omega)]
  unfold gr4 gr4To
  simp only
  by_cases h1 : k = f + 1
  · subst h1
    rw [if_pos rfl, show f + 1 - f + 1 - min 2 (f + 1 - f + 1 - 1) = 1 by omega, show f + 1 - 1 - f = 0 by omega, show min 2 (f + 1 - f + 1 - 1) = 1 by omega]
    simp
  · rw [if_neg h1, show k - f + 1 - min 2 (k - f + 1 - 1) = k - 1 - f by omega, show min 2 (k - f + 1 - 1) = 2 by omega, List.append_nil]
theorem gramsL_sim {s : ByteArray} (cut : List (Nat × Nat)) (hf : Fits (ats s).length cut) : ∀ j, j ≤ cut.length → (toksR s cut j).foldl gramsOne [] = tokL s ((cut.take j).foldl gr4 [])
  | 0, _ => by simp [toksR, tokL]
  | j + 1, hj => by
    obtain ⟨p, hp⟩ : ∃ p, cut[j]? = some p := ⟨_, List.getElem?_eq_getElem (by omega)⟩
    rw [toksR, List.foldl_append, gramsL_sim cut hf j (by omega), List.take_add_one, hp, Option.toList_some, List.foldl_append]
    rw [Option.getD_some, List.foldl_cons, List.foldl_nil, List.foldl_cons, List.foldl_nil]
    exact grams_sim _ p j (hf p (List.mem_of_getElem? hp))

/-- Both tokenizers answer the same. -/
theorem tokens_agree (number : Int) (hn : isTok number = true) (s : ByteArray) : tokensR number s = tokensL number s := by
  have h : number = 1 ∨ number = 2 ∨ number = 3 ∨ number = 4 := by simp [isTok] at hn; omega
  have hl : (rnI s (ats s)).length = (ats s).length := by simp [rnI]
  show tokL s (cutT number (rnI s (ats s))) = _
  rcases h with rfl | rfl | rfl | rfl
  · exact (runs_sim s wordMark wordB).symm
  · show tokL s (runC (mN 2) (bN 2) (rnI s (ats s))) = runsL s notBlank notBlank
    rw [runs_sim]
    congr 1
    have : ∀ i, stC (mN 2) (bN 2) (rnI s (ats s)) i = stC notBlank notBlank (rnI s (ats s)) i := by
      intro i
      induction i with
      | zero => rfl
      | succ i ih =>
        show stepC _ _ _ (stC (mN 2) (bN 2) _ i) i = stepC _ _ _ (stC notBlank notBlank _ i) i
        rw [ih]
        unfold stepC
        have hm : ∀ r, mN 2 r = notBlank r := fun r => rfl
        have hb : ∀ r, bN 2 r = true := fun r => rfl
        rw [hm, hb]
        by_cases h : notBlank ((rnI s (ats s))[i]?.getD 0) = false
        · rw [if_pos h, if_pos h]
        · rw [if_neg h, if_neg h]
          have h2 : notBlank ((rnI s (ats s))[i]?.getD 0) = true := by simpa using h
          rw [h2]
    unfold runC
    rw [this]
  · show tokL s (if 0 < (rnI s (ats s)).length then [(0, (rnI s (ats s)).length)] else []) = runsL s (fun _ => true) (fun _ => true)
    rw [runs_sim, runC_all]
  · show tokL s ((runC wordMark wordB (rnI s (ats s))).foldl gr4 []) = gramsL (lettersL s)
    unfold gramsL lettersL
    rw [runs_sim]
    have hf := runC_fits wordMark wordB (rnI s (ats s))
    rw [hl] at hf
    have := gramsL_sim (runC wordMark wordB (rnI s (ats s))) hf _ (Nat.le_refl _)
    rw [List.take_length] at this
    exact this.symm
end Go.Proofs.YtajgoffeahfmfaaDoor

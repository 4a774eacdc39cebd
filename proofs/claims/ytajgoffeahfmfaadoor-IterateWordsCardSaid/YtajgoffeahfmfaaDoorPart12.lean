/- The texts OpensQ of IterateWords, joined by program (tools/merge.py): walks of the functions that the law reaches, and plain facts; no condition. -/
import Derived.Test.YtajgoffeahfmfaaDoorPart04
import Derived.Test.YtajgoffeahfmfaaDoorPart11
import Derived.Test.YtajgoffeahfmfaaDoorPart07
import Derived.Lib.LaidU8T
import Derived.PinnedBridge
set_option linter.unusedVariables false
set_option linter.unusedSimpArgs false

/- A query that comes in, as far as its kids go; the tables that the rows list, as the walks take them. -/
namespace Go.Proofs.YtajgoffeahfmfaaDoor
open Rep (rep)
open Go.RowKit Go.ChangeShapes Go.WideShapes Go.Deep

theorem QOk.mono {w : World} {B : Nat} : ∀ {d d' : Nat} {cs : List Value}, d ≤ d' → QOk w B d cs → QOk w B d' cs
  | 0, _, _, _, h => h.elim
  | d + 1, 0, _, hd, _ => by omega
  | d + 1, d' + 1, cs, hd, ⟨kd, oc, fd, tx, up, AL, nL, cL, AH, nH, cH, bo, op, AK, nK, cK, low, high, e, h1, h2, h3, h4, h5, h6, h7, h8⟩ =>
    ⟨kd, oc, fd, tx, up, AL, nL, cL, AH, nH, cH, bo, op, AK, nK, cK, low, high, e, h1, h2, h3, h4, h5, h6, h7, fun k hk => by
      obtain ⟨b, off, cs', e1, e2, e3, e4⟩ := h8 k hk
      exact ⟨b, off, cs', e1, e2, QOk.mono (by omega) e3, e4⟩⟩

section
variable {P : Program} {H : Type} {enc : TypeId × Value → H} {w : World} {base : Nat} {spare : Nat → Bool} {held : Bool}
theorem open_partsN {t : TypeId} {fs : Array _root_.Go.Field} {fuel : Nat} {cs : List Value} {x : DataW H × List MemPlace} (ht : P.underlying t = some (.struct fs)) (h : DataW.trod enc P w base spare held fuel t cs = some x) (hw : ∀ k ∈ x.1.weights P t, k ≤ reachBytes) :
    cs.length = P.cellsOf t ∧ ∃ n, fuel = n + 1 ∧ ∀ (i : Nat) (f : _root_.Go.Field), fs[i]? = some f → ∃ y, DataW.trod enc P w base spare held n f.type ((cs.drop f.offset).take (P.cellsOf f.type)) = some y ∧ ∀ k ∈ y.1.weights P f.type, k ≤ reachBytes := by
  obtain ⟨xs, n, hn, rfl, hl, hlen, hf⟩ := DataW.trod_struct ht h
  refine ⟨hl, n, hn, fun i f hi => ?_⟩
  have hil : i < xs.length := by rw [hlen]; exact (Array.getElem?_eq_some_iff.1 hi).1
  have h1 := hf i f hi
  rw [List.getElem?_eq_getElem hil] at h1
  refine ⟨_, h1, fun k hk => hw k ?_⟩
  unfold DataW.weights
  rw [ht]
  exact DataW.weights_mem_each (j := i) (t := f.type) (d := (xs[i]).1) (by rw [List.getElem?_map]; rw [← Array.getElem?_toList] at hi; rw [hi]; rfl) (by rw [List.getElem?_map, List.getElem?_eq_getElem hil]; rfl) k hk
/-- A slice's elements, each read with less fuel; where they lie. -/
theorem open_elems {t e : TypeId} {fuel : Nat} {cs : List Value} {x : DataW H × List MemPlace} (ht : P.underlying t = some (.slice e)) (hpos : 0 < P.cellsOf e) (h : DataW.trod enc P w base spare held fuel t cs = some x) (hw : ∀ k ∈ x.1.weights P t, k ≤ reachBytes) :
    ∃ A n c, cs = [.slice A n c] ∧ n ≤ c ∧ c ≤ 9223372036854775807 ∧ n * P.bytesOf e ≤ reachBytes ∧ ∀ k, k < n → ∃ b off cs' m y, A = some ⟨b, off, none⟩ ∧ b < w.heap.size ∧ m < fuel ∧ DataW.trod enc P w base spare held m e cs' = some y ∧ (∀ k ∈ y.1.weights P e, k ≤ reachBytes) ∧
      ∀ j u, cs'[j]? = some u → w.cell? ⟨b, off + k * P.cellsOf e + j, none⟩ = some u := by
  rcases DataW.trod_slice ht h with ⟨rfl, _⟩ | ⟨a, len, cap, elems, rest, n, hf, rfl, rfl, hb, hl, hm, hlen, hel, _, _⟩
  · exact ⟨none, 0, 0, rfl, by omega, by omega, by simp, fun k hk => by omega⟩
  · refine ⟨some a, len, cap, rfl, hl, hm, ?_, fun k hk => ?_⟩
    · have hwt : (elems.map (·.1)).length * P.bytesOf e + (rest.map (·.1)).length * P.bytesOf e ≤ reachBytes := by
        refine hw _ ?_
        unfold DataW.weights
        rw [ht]
        refine List.mem_cons.2 (.inl ?_)
        rw [Nat.add_mul]
      rw [List.length_map, hlen] at hwt
      omega
    · have hkl : k < elems.length := by omega
      have h1 := hel k hk
      rw [List.getElem?_eq_getElem hkl] at h1
      obtain ⟨cs', hc, ht'⟩ := Option.bind_eq_some_iff.1 h1
      obtain ⟨_, hcl, hat⟩ := World.cells?_some hc
      have h0 := hat 0 hpos
      obtain ⟨u, hu⟩ : ∃ u, cs'[0]? = some u := ⟨_, List.getElem?_eq_getElem (by omega)⟩
      rw [hu] at h0
      obtain ⟨b, off, spot⟩ := a
      have hspot : spot = none := by
        obtain ⟨cs0, hc0, _⟩ := Option.bind_eq_some_iff.1 ((hel 0 (by omega)).trans (List.getElem?_eq_getElem (show 0 < elems.length by omega)))
        obtain ⟨_, hcl0, hat0⟩ := World.cells?_some hc0
        have h00 := hat0 0 hpos
        obtain ⟨u0, hu0⟩ : ∃ u, cs0[0]? = some u := ⟨_, List.getElem?_eq_getElem (by omega)⟩
        rw [hu0] at h00
        have hs1 := World.cell?_spot h00
        simpa [Addr.add] using hs1
      subst hspot
      have hadd : ∀ i j : Nat, ((⟨b, off, none⟩ : Addr).add i).add j = ⟨b, off + i + j, none⟩ := by
        intro i j; unfold Addr.add; split <;> split <;> simp_all
      have hblk : b < w.heap.size := by
        have := cell_lt h0
        rw [hadd] at this
        exact this
      refine ⟨b, off, cs', n, _, rfl, hblk, by omega, ht', fun q hq => hw q ?_, fun j u hu => ?_⟩
      · unfold DataW.weights
        rw [ht]
        exact List.mem_cons.2 (.inr (List.mem_append.2 (.inl (mem_weightsAll (List.mem_map.2 ⟨_, List.getElem_mem hkl, rfl⟩) hq))))
      · have hj : j < P.cellsOf e := by have := lt_of_get? hu; omega
        have := hat j hj
        rw [hadd, hu] at this
        exact this
end

set_option maxRecDepth 100000 in
set_option maxHeartbeats 1000000 in
theorem opens_query {H : Type} {enc : TypeId × Value → H} {w : World} {base : Nat} {spare : Nat → Bool} {held : Bool} : ∀ (fuel : Nat) (cs : List Value) (x : DataW H × List MemPlace), DataW.trod enc Tryd.prog w base spare held fuel 28 cs = some x → (∀ k ∈ x.1.weights Tryd.prog 28, k ≤ reachBytes) → QOk w w.heap.size fuel cs := by
  intro fuel
  induction fuel using Nat.strongRecOn with
  | _ fuel ih =>
    intro cs x h hw
    obtain ⟨hl, n, rfl, hp⟩ := open_partsN Tryd.underlying28 h hw
    rw [show Tryd.prog.cellsOf 28 = 10 by kernel_rfl] at hl
    match cs, hl with
    | [c0, c1, c2, c3, c4, c5, c6, c7, c8, c9], _ =>
      obtain ⟨_, h0, w0⟩ := hp 0 _ rfl
      obtain ⟨_, h1, w1⟩ := hp 1 _ rfl
      obtain ⟨_, h2, w2⟩ := hp 2 _ rfl
      obtain ⟨_, h3, w3⟩ := hp 3 _ rfl
      obtain ⟨_, h4, w4⟩ := hp 4 _ rfl
      obtain ⟨_, h5, w5⟩ := hp 5 _ rfl
      obtain ⟨_, h6, w6⟩ := hp 6 _ rfl
      obtain ⟨_, h7, w7⟩ := hp 7 _ rfl
      obtain ⟨_, h8, w8⟩ := hp 8 _ rfl
      obtain ⟨_, h9, w9⟩ := hp 9 _ rfl
      obtain ⟨v0, r0, _⟩ := opens_int Tryd.underlying3 h0 w0
      obtain ⟨v1, r1, _⟩ := opens_int Tryd.underlying3 h1 w1
      obtain ⟨v2, r2, _⟩ := opens_str Tryd.underlying9 h2 w2
      obtain ⟨v3, r3, _⟩ := opens_str Tryd.underlying9 h3 w3
      obtain ⟨v4, r4, _⟩ := opens_str Tryd.underlying9 h4 w4
      obtain ⟨v5, ⟨A5, n5, d5, e5, r5⟩, q5, _⟩ := opens_list Tryd.underlying25 (show Tryd.prog.cellsOf 2 = 1 by kernel_rfl) (opens_int Tryd.underlying2) h5 w5
      obtain ⟨v6, ⟨A6, n6, d6, e6, r6⟩, q6, _⟩ := opens_list Tryd.underlying25 (show Tryd.prog.cellsOf 2 = 1 by kernel_rfl) (opens_int Tryd.underlying2) h6 w6
      obtain ⟨v7, r7, _⟩ := opens_int Tryd.underlying2 h7 w7
      obtain ⟨v8, r8, _⟩ := opens_int Tryd.underlying3 h8 w8
      obtain ⟨A9, n9, d9, e9, hn9, hc9, q9, hk9⟩ := open_elems Tryd.underlying26 (by rw [show Tryd.prog.cellsOf 28 = 10 by kernel_rfl]; omega) h9 w9
      rw [show Tryd.prog.bytesOf 2 = 8 by kernel_rfl, r5.length] at q5
      rw [show Tryd.prog.bytesOf 2 = 8 by kernel_rfl, r6.length] at q6
      rw [show Tryd.prog.bytesOf 28 = 152 by kernel_rfl] at q9
      rw [show Tryd.prog.cellsOf 28 = 10 by kernel_rfl] at hk9
      simp only [reachBytes] at q5 q6 q9
      have k0 : c0 = .int .i64 v0 := by simpa using (show [c0] = [.int .i64 v0] from r0.1)
      have k1 : c1 = .int .i64 v1 := by simpa using (show [c1] = [.int .i64 v1] from r1.1)
      have k2 : c2 = .string v2 := by simpa using (show [c2] = [.string v2] from r2.1)
      have k3 : c3 = .string v3 := by simpa using (show [c3] = [.string v3] from r3.1)
      have k4 : c4 = .string v4 := by simpa using (show [c4] = [.string v4] from r4.1)
      have k5 : c5 = .slice A5 n5 d5 := by simpa using (show [c5] = [.slice A5 n5 d5] from e5)
      have k6 : c6 = .slice A6 n6 d6 := by simpa using (show [c6] = [.slice A6 n6 d6] from e6)
      have k7 : c7 = .int .i64 v7 := by simpa using (show [c7] = [.int .i64 v7] from r7.1)
      have k8 : c8 = .int .i64 v8 := by simpa using (show [c8] = [.int .i64 v8] from r8.1)
      have k9 : c9 = .slice A9 n9 d9 := by simpa using (show [c9] = [.slice A9 n9 d9] from e9)
      subst k0 k1 k2 k3 k4 k5 k6 k7 k8 k9
      refine ⟨v0, v1, v2, v3, v4, A5, n5, d5, A6, n6, d6, v7, v8, A9, n9, d9, v5, v6, rfl, r5, r6, by omega, by omega, by omega, hn9, hc9, fun k hk => ?_⟩
      obtain ⟨b, off, cs', m, y, ea, hb, hm, ht, hwt, hat⟩ := hk9 k hk
      exact ⟨b, off, cs', ea, hb, QOk.mono (by omega) (ih m (by omega) cs' y ht hwt), hat⟩

def tabsRen : Go.Shelf.Ren := ⟨fun n => n, fun | 5 => 5 | 119 => 114 | 138 => 117 | 139 => 118 | n => n, fun | 3 => 0 | 4 => 1 | n => n⟩
theorem tabsTypes : U8Types Tryd.prog tabsRen := ⟨by kernel_rfl, by kernel_rfl, by kernel_rfl, by kernel_rfl⟩
theorem tabsExtra : U8Extra Tryd.prog tabsRen := ⟨by kernel_rfl, by kernel_rfl, by kernel_rfl, by kernel_rfl, by kernel_rfl, by kernel_rfl, by kernel_rfl⟩
theorem accept_eq : (Rows.laid_unicode_utf8_acceptRanges : DataW Unit) = Lib.acceptData := by kernel_rfl
theorem tabs_of_laid {w : World} (h : laidMet Tryd.prog Rows.iterateWordsRow.laid w) : Tabs w :=
  utf8Tabs_of_readsT tabsTypes tabsExtra (Pinned.utf8First_eq ▸ Lib.laidMet.reads h (by unfold Rows.iterateWordsRow; exact .tail _ (.head _))) (accept_eq ▸ Lib.laidMet.reads h (by unfold Rows.iterateWordsRow; exact .head _))
end Go.Proofs.YtajgoffeahfmfaaDoor

/- The walks of lecternref08.Find and schema.Find: the place of a field's name. -/
import Derived.Test.YtnngapfbeappcaaApi
import Derived.Test.YtnngapfbeappcaaKit
import Derived.Laws.StructEq
namespace Go.Proofs.Ytnngapfbeappcaa
open Rep (rep)
open Go.RowKit

theorem str_yes {a b : ByteArray} (h : a = b) : (a.toList == b.toList) = true := by subst h; simp
theorem str_no {a b : ByteArray} (h : a ≠ b) : (a.toList == b.toList) = false := by
  rw [beq_eq_false_iff_ne]
  intro e
  rw [ByteArray.toList_eq, ByteArray.toList_eq] at e
  exact h (ByteArray.ext (Array.toList_inj.1 e))

/-- The place of the first field of a name. -/
def findN (fs : List Field) (nm : ByteArray) : Option Nat := fs.findIdx? (fun f => decide (f.name = nm))
def findR (fs : List Field) (nm : ByteArray) : Int := match findN fs nm with | some k => k | none => -1
theorem findN_some {fs : List Field} {nm : ByteArray} {k : Nat} {f : Field} (hf : fs[k]? = some f) (he : f.name = nm) (hno : ∀ j f, j < k → fs[j]? = some f → f.name ≠ nm) : findN fs nm = some k := by
  have hk : k < fs.length := by
    rcases Nat.lt_or_ge k fs.length with h | h
    · exact h
    · rw [List.getElem?_eq_none h] at hf; cases hf
  unfold findN
  rw [List.findIdx?_eq_some_iff_getElem]
  rw [List.getElem?_eq_getElem hk] at hf
  cases hf
  exact ⟨hk, by simpa using he, fun j hj => by simpa using hno j _ hj (List.getElem?_eq_getElem (by omega))⟩
theorem findN_none {fs : List Field} {nm : ByteArray} (hno : ∀ j f, j < fs.length → fs[j]? = some f → f.name ≠ nm) : findN fs nm = none := by
  unfold findN
  rw [List.findIdx?_eq_none_iff]
  intro f hf
  obtain ⟨j, hj⟩ := List.getElem?_of_mem hf
  have hl : j < fs.length := by
    rcases Nat.lt_or_ge j fs.length with h | h
    · exact h
    · rw [List.getElem?_eq_none h] at hj; cases hj
  simpa using hno j f hl hj
theorem findN_lt {fs : List Field} {nm : ByteArray} {k : Nat} (h : findN fs nm = some k) : ∃ f, fs[k]? = some f ∧ f.name = nm := by
  unfold findN at h
  rw [List.findIdx?_eq_some_iff_getElem] at h
  obtain ⟨hk, h1, _⟩ := h
  exact ⟨_, List.getElem?_eq_getElem hk, by simpa using h1⟩

set_option maxHeartbeats 1000000 in
theorem rfind_any (A : Option Addr) (n c : Nat) (fs : List Field) (nm : ByteArray) (w : World) (hs : RepList w (· < w.heap.size) A n c fs) :
    Calls Try.prog 47 #[.agg #[.slice A n c], .string nm] w fun e w' => e = .returned (.int .i64 (findR fs nm)) ∧ Below w.heap.size w w' := by
  have hcap := hs.cap
  have hlen := Lib.hid hs.length
  go_enter Try.func47, Try.ntmps47
  go_wp2
  go_loop [5] (fun i => ∃ k : Nat, k ≤ n ∧ i = .int .i64 k ∧ ∀ j f, j < k → fs[j]? = some f → f.name ≠ nm) (fun i => n - (intOf i).toNat)
  case atStart => exact ⟨0, Nat.zero_le _, rfl, fun j f h => by omega⟩
  case round =>
    obtain ⟨k, hk, rfl, hno⟩ := hrel
    have Hno := Lib.hid hno
    clear hno
    by_cases hlt : k < n
    · obtain ⟨bb, off, f, rfl, Hf, hb, he⟩ := (hs.on ((Below.refl _ _).alloc (Nat.le_refl _) (.cells #[.slice A n c] 31))).at_ hlt
      obtain ⟨_, _, _, hc, _⟩ := Field.at_ he
      clear hs he
      obtain ⟨g, hg⟩ : ∃ g, f.name = g := ⟨_, rfl⟩
      rw [hg] at hc
      by_cases hq : f.name = nm
      · have hb1 : (g.toList == nm.toList) = true := str_yes (hg.symm.trans hq)
        have Hr : Hid (findR fs nm = k) := by show _ = _; unfold findR; rw [findN_some Hf.out hq Hno.out]
        clear hg hq
        go_wp2
        go_ret
        exact ⟨ret_num Hr.out.symm, (Below.refl _ _).alloc (Nat.le_refl _) _⟩
      · have hb1 : (g.toList == nm.toList) = false := str_no (fun h => hq (hg.trans h))
        have Hr : Hid (∀ j f, j < k + 1 → fs[j]? = some f → f.name ≠ nm) := by
          intro j f' hj hf'
          rcases Nat.lt_or_ge j k with h | h
          · exact Hno.out j f' h hf'
          · obtain rfl : j = k := by omega
            have := Hf.out.symm.trans hf'
            cases this
            exact hq
        clear hg hq
        go_wp2
        go_round
        case rel => exact ⟨k + 1, by omega, by go_num, Hr.out⟩
        case measure => simp [intOf]; omega
    · obtain rfl : k = n := by omega
      have Hr : Hid (findR fs nm = -1) := by show _ = _; unfold findR; rw [findN_none (fun j f hj => Hno.out j f (by have := hlen.out; omega))]
      clear hs
      go_wp2
      go_ret
      exact ⟨ret_num Hr.out.symm, (Below.refl _ _).alloc (Nat.le_refl _) _⟩

end Go.Proofs.Ytnngapfbeappcaa

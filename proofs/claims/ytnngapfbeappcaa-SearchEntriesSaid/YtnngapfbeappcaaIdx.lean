/- The walk of slices.IndexFunc over fields, whatever the test. -/
import Derived.Test.YtnngapfbeappcaaFind
namespace Go.Proofs.Ytnngapfbeappcaa
open Rep (rep)
open Go.RowKit

theorem idx_some {α : Type} {xs : List α} {p : α → Bool} {j : Nat} {x : α} (hx : xs[j]? = some x) (hp : p x = true) (hno : ∀ i y, i < j → xs[i]? = some y → p y = false) : xs.findIdx? p = some j := by
  have hk := lt_of_get? hx
  rw [List.findIdx?_eq_some_iff_getElem]
  rw [List.getElem?_eq_getElem hk] at hx
  cases hx
  exact ⟨hk, hp, fun i hi => by simpa using hno i _ hi (List.getElem?_eq_getElem (by omega))⟩
theorem idx_none {α : Type} {xs : List α} {p : α → Bool} (hno : ∀ i y, i < xs.length → xs[i]? = some y → p y = false) : xs.findIdx? p = none := by
  rw [List.findIdx?_eq_none_iff]
  intro f hf
  obtain ⟨j, hj⟩ := List.getElem?_of_mem hf
  simpa using hno j f (lt_of_get? hj) hj
theorem idx_more {α : Type} {xs : List α} {p : α → Bool} {j : Nat} {x : α} (hx : xs[j]? = some x) (hp : p x = false) (hno : ∀ i y, i < j → xs[i]? = some y → p y = false) : ∀ i y, i < j + 1 → xs[i]? = some y → p y = false := by
  intro i y hi hy
  rcases Nat.lt_or_ge i j with h | h
  · exact hno i y h hy
  · obtain rfl : i = j := by omega
    cases hx.symm.trans hy
    exact hp

set_option maxHeartbeats 1000000 in
theorem indexFunc_field (A : Option Addr) (n c : Nat) (fs : List Field) (k : FuncId) (cv : Value) (p : Field → Bool) (w : World) (hs : RepList w (· < w.heap.size) A n c fs)
    (hent : ∀ (args : Array Value) (W : World), (callFunc k args).run Try.prog W = .ok (.enter k args) W)
    (hp : ∀ W cs x, Below w.heap.size w W → rep W (· < W.heap.size) cs x → Calls Try.prog k #[.agg cs.toArray, cv] W fun e W' => e = .returned (.bool (p x)) ∧ Below W.heap.size W W') :
    Calls Try.prog 52 #[.slice A n c, .func (.func k) #[] #[cv]] w fun e w' => e = .returned (.int .i64 (match fs.findIdx? p with | some k => k | none => -1)) ∧ Below w.heap.size w w' := by
  have hcap := hs.cap
  have hlen := Lib.hid hs.length
  have Hp := Lib.hid hp
  clear hp
  obtain ⟨r, hr⟩ : ∃ r : Int, (match fs.findIdx? p with | some k => (k : Int) | none => -1) = r := ⟨_, rfl⟩
  rw [hr]
  have Hr := Lib.hid hr
  clear hr
  go_enter Try.func52, Try.ntmps52
  go_wp2
  go_loopw [8] (fun i wr => ∃ k : Nat, k ≤ n ∧ i = .int .i64 k ∧ (∀ j f, j < k → fs[j]? = some f → p f = false) ∧ Below w.heap.size w wr) (fun i _ => n - (intOf i).toNat)
  case atStart => exact ⟨0, Nat.zero_le _, rfl, fun j f h => by omega, Below.refl _ _⟩
  case round =>
    obtain ⟨j, hj, rfl, hno, hb⟩ := hrel
    have Hno := Lib.hid hno
    clear hno
    by_cases hlt : j < n
    · obtain ⟨bb, off, f, rfl, Hf, hbk, he⟩ := (hs.on hb).at_ hlt
      obtain ⟨A2, n2, c2, g0, g1, g2, g3, g4, g5, g6, q1, q2, q3, q4, q5⟩ := Field.at_ he
      have Hcs : Hid (rep wr (· < wr.heap.size) [.string f.name, .int .i64 f.kind, .slice A2 n2 c2, .int .i64 f.scale, .int .i64 f.dims, .bool f.many, .bool f.stored] f) := Field.of_cells q1 q2 q3 q4 q5
      clear hs he q1 q2 q3 q4 q5
      have ha := Hp.out wr _ f hb Hcs.out
      have Ha := Lib.hid ha
      clear ha
      go_wp2_with fail
      refine Ha.out.mono ?_
      rintro e w1 ⟨rfl, hb1⟩
      have hb2 := hb.trans (hb1.mono hb.size)
      by_cases hpf : p f = true
      · have Hfin : Hid (r = j) := by
          show _ = _
          rw [← Hr.out, idx_some Hf.out hpf Hno.out]
        clear hb
        go_wp2
        go_ret
        exact ⟨ret_num Hfin.out.symm, hb2⟩
      · have hpf' : p f = false := by simpa using hpf
        have Hn : Hid (∀ j' f, j' < j + 1 → fs[j']? = some f → p f = false) := idx_more Hf.out hpf' Hno.out
        clear hb hpf
        go_wp2
        go_roundw
        case rel => exact ⟨j + 1, by omega, by go_num, Hn.out, hb2⟩
        case measure => simp [intOf]; omega
    · obtain rfl : j = n := by omega
      have Hfin : Hid (r = -1) := by
        show _ = _
        rw [← Hr.out, idx_none (fun j' f hj' => Hno.out j' f (by have := hlen.out; omega))]
      clear hs
      go_wp2
      go_ret
      exact ⟨ret_num Hfin.out.symm, hb⟩

end Go.Proofs.Ytnngapfbeappcaa

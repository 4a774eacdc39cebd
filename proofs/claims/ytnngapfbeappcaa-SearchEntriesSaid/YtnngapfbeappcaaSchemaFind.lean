/- The walks of schema.Find and its closure. -/
import Derived.Test.YtnngapfbeappcaaIdx
import Derived.Shelf.Abstract
namespace Go.Proofs.Ytnngapfbeappcaa
open Rep (rep)
open Go.RowKit

set_option maxHeartbeats 400000 in
theorem find1_any (cs : List Value) (f : Field) (pb : Nat) (nm : ByteArray) (F : Nat → Prop) (w : World) (hf : rep w F cs f) (hn : w.cell? ⟨pb, 0, none⟩ = some (.string nm)) :
    Calls Try.prog 53 #[.agg cs.toArray, .pointer (some ⟨pb, 0, none⟩)] w fun e w' => e = .returned (.bool (decide (f.name = nm))) ∧ Below w.heap.size w w' := by
  obtain ⟨A2, n2, c2, rfl, _⟩ := Field.cells_of hf
  have hn' : ∀ o, (w.alloc o).cell? ⟨pb, 0, none⟩ = some (.string nm) := fun o => ((Below.refl _ _).alloc (Nat.le_refl _) o).cell (p := ⟨pb, 0, none⟩) (cell_lt hn) |>.trans hn
  clear hf hn
  obtain ⟨g, hg⟩ : ∃ g, f.name = g := ⟨_, rfl⟩
  rw [hg]
  by_cases hq : g = nm
  · have hb1 : (g.toList == nm.toList) = true := str_yes hq
    rw [decide_eq_true hq]
    clear hg hq
    go_enter Try.func53, Try.ntmps53
    go_wp2
    go_ret
    exact ⟨rfl, (Below.refl _ _).alloc (Nat.le_refl _) _⟩
  · have hb1 : (g.toList == nm.toList) = false := str_no hq
    rw [decide_eq_false hq]
    clear hg hq
    go_enter Try.func53, Try.ntmps53
    go_wp2
    go_ret
    exact ⟨rfl, (Below.refl _ _).alloc (Nat.le_refl _) _⟩

set_option maxHeartbeats 1000000 in
theorem find_core (A : Option Addr) (n c : Nat) (fs : List Field) (nm : ByteArray) (w : World) (hs : RepList w (· < w.heap.size) A n c fs) (r : Int) (q : Bool)
    (H : Hid ((findN fs nm = none ∧ r = 0 ∧ q = false) ∨ ∃ k : Nat, findN fs nm = some k ∧ r = k ∧ q = true)) :
    Calls Try.prog 50 #[.agg #[.slice A n c], .string nm] w fun e w' => e = .returned (.tuple #[.int .i64 r, .bool q]) ∧ Below w.heap.size w w' := by
  have hmf : ∀ (fn : Fn) (first cap : Array Value) (w : World), (Instr.makeFunc fn first cap).run Try.prog w = .ok (.func fn first cap) w := fun _ _ _ _ => rfl
  have hlen := hs.length
  have hcap := hs.cap
  have hb0 : Below w.heap.size w ((w.alloc (.cells #[.slice A n c] 31)).alloc (.cells #[.string nm] 9)) := (((Below.refl _ _).alloc (Nat.le_refl _) _).alloc (by simp) _)
  have hs1 := hs.on hb0
  have hcell : ((w.alloc (.cells #[.slice A n c] 31)).alloc (.cells #[.string nm] 9)).cell? ⟨w.heap.size + 1, 0, none⟩ = some (.string nm) := by
    simp
  have H1 := Lib.hid hs1
  have H2 := Lib.hid hcell
  have H0 := Lib.hid hb0
  clear hs1 hcell hs hb0
  go_enter Try.func50, Try.ntmps50
  go_wp2_with fail
  have hb2 := fun w1 (h : Below ((w.alloc (.cells #[.slice A n c] 31)).alloc (.cells #[.string nm] 9)).heap.size ((w.alloc (.cells #[.slice A n c] 31)).alloc (.cells #[.string nm] 9)) w1) => H0.out.trans (h.mono H0.out.size)
  have Hb2 := Lib.hid hb2
  clear hb2
  refine (indexFunc_field A n c fs 53 _ (fun f => decide (f.name = nm)) _ H1.out (Go.Proofs.enters_of Try.func53 (by kernel_rfl) rfl) ?_).mono ?_
  · intro W cs x hb hx
    exact find1_any cs x _ nm _ W hx ((hb.cell (p := ⟨w.heap.size + 1, 0, none⟩) (by simp)).trans H2.out)
  · rintro e w1 ⟨rfl, hb1⟩
    have hb3 := Hb2.out w1 hb1
    rcases H.out with ⟨hfn, rfl, rfl⟩ | ⟨k, hfn, rfl, rfl⟩
    · have hfn' : fs.findIdx? (fun f => decide (f.name = nm)) = none := hfn
      rw [hfn']
      clear hfn hfn' hb1 H
      go_wp2
      go_ret2
      exact ⟨rfl, hb3⟩
    · have hfn' : fs.findIdx? (fun f => decide (f.name = nm)) = some k := hfn
      have hk : k < n := by obtain ⟨f, hf, _⟩ := findN_lt hfn; have := lt_of_get? hf; omega
      rw [hfn']
      clear hfn hfn' hb1 hlen H
      rcases Nat.eq_zero_or_pos k with rfl | hk0
      · go_wp2
        go_ret2
        exact ⟨rfl, hb3⟩
      · have hk1 : (0 : Int) < k := by omega
        have hk2 : (0 : Int) ≤ k := by omega
        go_wp2
        go_ret2
        exact ⟨rfl, hb3⟩

theorem find_none (A : Option Addr) (n c : Nat) (fs : List Field) (nm : ByteArray) (w : World) (hs : RepList w (· < w.heap.size) A n c fs) (h : findN fs nm = none) :
    Calls Try.prog 50 #[.agg #[.slice A n c], .string nm] w fun e w' => e = .returned (.tuple #[.int .i64 0, .bool false]) ∧ Below w.heap.size w w' :=
  find_core A n c fs nm w hs 0 false (.inl ⟨h, rfl, rfl⟩)
theorem find_some (A : Option Addr) (n c : Nat) (fs : List Field) (nm : ByteArray) (w : World) (hs : RepList w (· < w.heap.size) A n c fs) (k : Nat) (h : findN fs nm = some k) :
    Calls Try.prog 50 #[.agg #[.slice A n c], .string nm] w fun e w' => e = .returned (.tuple #[.int .i64 k, .bool true]) ∧ Below w.heap.size w w' :=
  find_core A n c fs nm w hs k true (.inr ⟨k, h, rfl, rfl⟩)

end Go.Proofs.Ytnngapfbeappcaa

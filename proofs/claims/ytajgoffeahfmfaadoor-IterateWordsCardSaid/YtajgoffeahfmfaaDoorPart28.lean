/- The texts Find, Idx, SchemaFind of IterateWords, joined by program (tools/merge.py): walks of the functions that the law reaches, and plain facts; no condition. -/
import Derived.Test.YtajgoffeahfmfaaDoorPart04
import Derived.Test.YtajgoffeahfmfaaDoorPart05
import Derived.Laws.StructEq
import Derived.Shelf.Abstract
set_option linter.unusedVariables false
set_option linter.unusedSimpArgs false

/- The walks of lecternref08.Find and schema.Find: the place of a field's name. -/
namespace Go.Proofs.YtajgoffeahfmfaaDoor
open Rep (rep)
open Go.RowKit

theorem str_yes {a b : ByteArray} (h : a = b) : (a.toList == b.toList) = true := by subst h; simp
theorem str_no {a b : ByteArray} (h : a ≠ b) : (a.toList == b.toList) = false := by
  rw [beq_eq_false_iff_ne]
  intro e
  rw [ByteArray.toList_eq, ByteArray.toList_eq] at e
  exact h (ByteArray.ext (Array.toList_inj.1 e))

/-- The place of the first field of a name. -/
def findN (fs : List Field) (nm : ByteArray) : Option Nat := fs.findIdx? (fun f => decide (f.name = nm))
def findR (fs : List Field) (nm : ByteArray) : Int := match findN fs nm with | some k => k | none => -1
theorem findN_some {fs : List Field} {nm : ByteArray} {k : Nat} {f : Field} (hf : fs[k]? = some f) (he : f.name = nm) (hno : ∀ j f, j < k → fs[j]? = some f → f.name ≠ nm) : findN fs nm = some k := by
  have hk : k < fs.length := by
    rcases Nat.lt_or_ge k fs.length with h | h
    · exact h
    · rw [List.getElem?_eq_none h] at hf; cases hf
  unfold findN
  rw [List.findIdx?_eq_some_iff_getElem]
  rw [List.getElem?_eq_getElem hk] at hf
  cases hf
  exact ⟨hk, by simpa using he, fun j hj => by simpa using hno j _ hj (List.getElem?_eq_getElem (by omega))⟩
theorem findN_none {fs : List Field} {nm : ByteArray} (hno : ∀ j f, j < fs.length → fs[j]? = some f → f.name ≠ nm) : findN fs nm = none := by
  unfold findN
  rw [List.findIdx?_eq_none_iff]
  intro f hf
  obtain ⟨j, hj⟩ := List.getElem?_of_mem hf
  have hl : j < fs.length := by
    rcases Nat.lt_or_ge j fs.length with h | h
    · exact h
    · rw [List.getElem?_eq_none h] at hj; cases hj
  simpa using hno j f hl hj
theorem findN_lt {fs : List Field} {nm : ByteArray} {k : Nat} (h : findN fs nm = some k) : ∃ f, fs[k]? = some f ∧ f.name = nm := by
  unfold findN at h
  rw [List.findIdx?_eq_some_iff_getElem] at h
  obtain ⟨hk, h1, _⟩ := h
  exact ⟨_, List.getElem?_eq_getElem hk, by simpa using h1⟩

set_option maxHeartbeats 1000000 in
theorem rfind_any (A : Option Addr) (n c : Nat) (fs : List Field) (nm : ByteArray) (w : World) (hs : RepList w (· < w.heap.size) A n c fs) :
    Calls Tryd.prog 19 #[.agg #[.slice A n c], .string nm] w fun e w' => e = .returned (.int .i64 (findR fs nm)) ∧ Below w.heap.size w w' := by
  have hcap := hs.cap
  have hlen := Lib.hid hs.length
  go_enter Tryd.func19, Tryd.ntmps19
  go_wp2
  go_loop [5] (fun i => ∃ k : Nat, k ≤ n ∧ i = .int .i64 k ∧ ∀ j f, j < k → fs[j]? = some f → f.name ≠ nm) (fun i => n - (intOf i).toNat)
  case atStart => exact ⟨0, Nat.zero_le _, rfl, fun j f h => by omega⟩
  case round =>
    obtain ⟨k, hk, rfl, hno⟩ := hrel
    have Hno := Lib.hid hno
    clear hno
    by_cases hlt : k < n
    · obtain ⟨bb, off, f, rfl, Hf, hb, he⟩ := (hs.on ((Below.refl _ _).alloc (Nat.le_refl _) (.cells #[.slice A n c] 24))).at_ hlt
      obtain ⟨_, _, _, hc, _⟩ := Field.at_ he
      clear hs he
      obtain ⟨g, hg⟩ : ∃ g, f.name = g := ⟨_, rfl⟩
      rw [hg] at hc
      by_cases hq : f.name = nm
      · have hb1 : (g.toList == nm.toList) = true := str_yes (hg.symm.trans hq)
        have Hr : Hid (findR fs nm = k) := by show _ = _; unfold findR; rw [findN_some Hf.out hq Hno.out]
        clear hg hq
        go_wp2
        go_ret
        exact ⟨ret_num Hr.out.symm, (Below.refl _ _).alloc (Nat.le_refl _) _⟩
      · have hb1 : (g.toList == nm.toList) = false := str_no (fun h => hq (hg.trans h))
        have Hr : Hid (∀ j f, j < k + 1 → fs[j]? = some f → f.name ≠ nm) := by
          intro j f' hj hf'
          rcases Nat.lt_or_ge j k with h | h
          · exact Hno.out j f' h hf'
          · obtain rfl : j = k := by omega
            have := Hf.out.symm.trans hf'
            cases this
            exact hq
        clear hg hq
        go_wp2
        go_round
        case rel => exact ⟨k + 1, by omega, by go_num, Hr.out⟩
        case measure => simp [intOf]; omega
    · obtain rfl : k = n := by omega
      have Hr : Hid (findR fs nm = -1) := by show _ = _; unfold findR; rw [findN_none (fun j f hj => Hno.out j f (by have := hlen.out; omega))]
      clear hs
      go_wp2
      go_ret
      exact ⟨ret_num Hr.out.symm, (Below.refl _ _).alloc (Nat.le_refl _) _⟩

end Go.Proofs.YtajgoffeahfmfaaDoor

/- The walk of slices.IndexFunc over fields, whatever the test. -/
namespace Go.Proofs.YtajgoffeahfmfaaDoor
open Rep (rep)
open Go.RowKit

theorem idx_some {α : Type} {xs : List α} {p : α → Bool} {j : Nat} {x : α} (hx : xs[j]? = some x) (hp : p x = true) (hno : ∀ i y, i < j → xs[i]? = some y → p y = false) : xs.findIdx? p = some j := by
  have hk := lt_of_get? hx
  rw [List.findIdx?_eq_some_iff_getElem]
  rw [List.getElem?_eq_getElem hk] at hx
  cases hx
  exact ⟨hk, hp, fun i hi => by simpa using hno i _ hi (List.getElem?_eq_getElem (by omega))⟩
theorem idx_none {α : Type} {xs : List α} {p : α → Bool} (hno : ∀ i y, i < xs.length → xs[i]? = some y → p y = false) : xs.findIdx? p = none := by
  rw [List.findIdx?_eq_none_iff]
  intro f hf
  obtain ⟨j, hj⟩ := List.getElem?_of_mem hf
  simpa using hno j f (lt_of_get? hj) hj
theorem idx_more {α : Type} {xs : List α} {p : α → Bool} {j : Nat} {x : α} (hx : xs[j]? = some x) (hp : p x = false) (hno : ∀ i y, i < j → xs[i]? = some y → p y = false) : ∀ i y, i < j + 1 → xs[i]? = some y → p y = false := by
  intro i y hi hy
  rcases Nat.lt_or_ge i j with h | h
  · exact hno i y h hy
  · obtain rfl : i = j := by omega
    cases hx.symm.trans hy
    exact hp

set_option maxHeartbeats 1000000 in
theorem indexFunc_field (A : Option Addr) (n c : Nat) (fs : List Field) (k : FuncId) (cv : Value) (p : Field → Bool) (w : World) (hs : RepList w (· < w.heap.size) A n c fs)
    (hent : ∀ (args : Array Value) (W : World), (callFunc k args).run Tryd.prog W = .ok (.enter k args) W)
    (hp : ∀ W cs x, Below w.heap.size w W → rep W (· < W.heap.size) cs x → Calls Tryd.prog k #[.agg cs.toArray, cv] W fun e W' => e = .returned (.bool (p x)) ∧ Below W.heap.size W W') :
    Calls Tryd.prog 22 #[.slice A n c, .func (.func k) #[] #[cv]] w fun e w' => e = .returned (.int .i64 (match fs.findIdx? p with | some k => k | none => -1)) ∧ Below w.heap.size w w' := by
  have hcap := hs.cap
  have hlen := Lib.hid hs.length
  have Hp := Lib.hid hp
  clear hp
  obtain ⟨r, hr⟩ : ∃ r : Int, (match fs.findIdx? p with | some k => (k : Int) | none => -1) = r := ⟨_, rfl⟩
  rw [hr]
  have Hr := Lib.hid hr
  clear hr
  go_enter Tryd.func22, Tryd.ntmps22
  go_wp2
  go_loopw [8] (fun i wr => ∃ k : Nat, k ≤ n ∧ i = .int .i64 k ∧ (∀ j f, j < k → fs[j]? = some f → p f = false) ∧ Below w.heap.size w wr) (fun i _ => n - (intOf i).toNat)
  case atStart => exact ⟨0, Nat.zero_le _, rfl, fun j f h => by omega, Below.refl _ _⟩
  case round =>
    obtain ⟨j, hj, rfl, hno, hb⟩ := hrel
    have Hno := Lib.hid hno
    clear hno
    by_cases hlt : j < n
    · obtain ⟨bb, off, f, rfl, Hf, hbk, he⟩ := (hs.on hb).at_ hlt
      obtain ⟨A2, n2, c2, g0, g1, g2, g3, g4, g5, g6, q1, q2, q3, q4, q5⟩ := Field.at_ he
      have Hcs : Hid (rep wr (· < wr.heap.size) [.string f.name, .int .i64 f.kind, .slice A2 n2 c2, .int .i64 f.scale, .int .i64 f.dims, .bool f.many, .bool f.stored] f) := Field.of_cells q1 q2 q3 q4 q5
      clear hs he q1 q2 q3 q4 q5
      have ha := Hp.out wr _ f hb Hcs.out
      have Ha := Lib.hid ha
      clear ha
      go_wp2_with fail
      refine Ha.out.mono ?_
      rintro e w1 ⟨rfl, hb1⟩
      have hb2 := hb.trans (hb1.mono hb.size)
      by_cases hpf : p f = true
      · have Hfin : Hid (r = j) := by
          show _ = _
          rw [← Hr.out, idx_some Hf.out hpf Hno.out]
        clear hb
        go_wp2
        go_ret
        exact ⟨ret_num Hfin.out.symm, hb2⟩
      · have hpf' : p f = false := by simpa using hpf
        have Hn : Hid (∀ j' f, j' < j + 1 → fs[j']? = some f → p f = false) := idx_more Hf.out hpf' Hno.out
        clear hb hpf
        go_wp2
        go_roundw
        case rel => exact ⟨j + 1, by omega, by go_num, Hn.out, hb2⟩
        case measure => simp [intOf]; omega
    · obtain rfl : j = n := by omega
      have Hfin : Hid (r = -1) := by
        show _ = _
        rw [← Hr.out, idx_none (fun j' f hj' => Hno.out j' f (by have := hlen.out; omega))]
      clear hs
      go_wp2
      go_ret
      exact ⟨ret_num Hfin.out.symm, hb⟩

end Go.Proofs.YtajgoffeahfmfaaDoor

/- The walks of schema.Find and its closure. -/
namespace Go.Proofs.YtajgoffeahfmfaaDoor
open Rep (rep)
open Go.RowKit

set_option maxHeartbeats 400000 in
theorem find1_any (cs : List Value) (f : Field) (pb : Nat) (nm : ByteArray) (F : Nat → Prop) (w : World) (hf : rep w F cs f) (hn : w.cell? ⟨pb, 0, none⟩ = some (.string nm)) :
    Calls Tryd.prog 23 #[.agg cs.toArray, .pointer (some ⟨pb, 0, none⟩)] w fun e w' => e = .returned (.bool (decide (f.name = nm))) ∧ Below w.heap.size w w' := by
  obtain ⟨A2, n2, c2, rfl, _⟩ := Field.cells_of hf
  have hn' : ∀ o, (w.alloc o).cell? ⟨pb, 0, none⟩ = some (.string nm) := fun o => ((Below.refl _ _).alloc (Nat.le_refl _) o).cell (p := ⟨pb, 0, none⟩) (cell_lt hn) |>.trans hn
  clear hf hn
  obtain ⟨g, hg⟩ : ∃ g, f.name = g := ⟨_, rfl⟩
  rw [hg]
  by_cases hq : g = nm
  · have hb1 : (g.toList == nm.toList) = true := str_yes hq
    rw [decide_eq_true hq]
    clear hg hq
    go_enter Tryd.func23, Tryd.ntmps23
    go_wp2
    go_ret
    exact ⟨rfl, (Below.refl _ _).alloc (Nat.le_refl _) _⟩
  · have hb1 : (g.toList == nm.toList) = false := str_no hq
    rw [decide_eq_false hq]
    clear hg hq
    go_enter Tryd.func23, Tryd.ntmps23
    go_wp2
    go_ret
    exact ⟨rfl, (Below.refl _ _).alloc (Nat.le_refl _) _⟩

set_option maxHeartbeats 1000000 in
theorem find_core (A : Option Addr) (n c : Nat) (fs : List Field) (nm : ByteArray) (w : World) (hs : RepList w (· < w.heap.size) A n c fs) (r : Int) (q : Bool)
    (H : Hid ((findN fs nm = none ∧ r = 0 ∧ q = false) ∨ ∃ k : Nat, findN fs nm = some k ∧ r = k ∧ q = true)) :
    Calls Tryd.prog 14 #[.agg #[.slice A n c], .string nm] w fun e w' => e = .returned (.tuple #[.int .i64 r, .bool q]) ∧ Below w.heap.size w w' := by
  have hmf : ∀ (fn : Fn) (first cap : Array Value) (w : World), (Instr.makeFunc fn first cap).run Tryd.prog w = .ok (.func fn first cap) w := fun _ _ _ _ => rfl
  have hlen := hs.length
  have hcap := hs.cap
  have hb0 : Below w.heap.size w ((w.alloc (.cells #[.slice A n c] 24)).alloc (.cells #[.string nm] 9)) := (((Below.refl _ _).alloc (Nat.le_refl _) _).alloc (by simp) _)
  have hs1 := hs.on hb0
  have hcell : ((w.alloc (.cells #[.slice A n c] 24)).alloc (.cells #[.string nm] 9)).cell? ⟨w.heap.size + 1, 0, none⟩ = some (.string nm) := by
    simp
  have H1 := Lib.hid hs1
  have H2 := Lib.hid hcell
  have H0 := Lib.hid hb0
  clear hs1 hcell hs hb0
  go_enter Tryd.func14, Tryd.ntmps14
  go_wp2_with fail
  have hb2 := fun w1 (h : Below ((w.alloc (.cells #[.slice A n c] 24)).alloc (.cells #[.string nm] 9)).heap.size ((w.alloc (.cells #[.slice A n c] 24)).alloc (.cells #[.string nm] 9)) w1) => H0.out.trans (h.mono H0.out.size)
  have Hb2 := Lib.hid hb2
  clear hb2
  refine (indexFunc_field A n c fs 23 _ (fun f => decide (f.name = nm)) _ H1.out (Go.Proofs.enters_of Tryd.func23 (by kernel_rfl) rfl) ?_).mono ?_
  · intro W cs x hb hx
    exact find1_any cs x _ nm _ W hx ((hb.cell (p := ⟨w.heap.size + 1, 0, none⟩) (by simp)).trans H2.out)
  · rintro e w1 ⟨rfl, hb1⟩
    have hb3 := Hb2.out w1 hb1
    rcases H.out with ⟨hfn, rfl, rfl⟩ | ⟨k, hfn, rfl, rfl⟩
    · have hfn' : fs.findIdx? (fun f => decide (f.name = nm)) = none := hfn
      rw [hfn']
      clear hfn hfn' hb1 H
      go_wp2
      go_ret2
      exact ⟨rfl, hb3⟩
    · have hfn' : fs.findIdx? (fun f => decide (f.name = nm)) = some k := hfn
      have hk : k < n := by obtain ⟨f, hf, _⟩ := findN_lt hfn; have := lt_of_get? hf; omega
      rw [hfn']
      clear hfn hfn' hb1 hlen H
      rcases Nat.eq_zero_or_pos k with rfl | hk0
      · go_wp2
        go_ret2
        exact ⟨rfl, hb3⟩
      · have hk1 : (0 : Int) < k := by omega
        have hk2 : (0 : Int) ≤ k := by omega
        go_wp2
        go_ret2
        exact ⟨rfl, hb3⟩

theorem find_none (A : Option Addr) (n c : Nat) (fs : List Field) (nm : ByteArray) (w : World) (hs : RepList w (· < w.heap.size) A n c fs) (h : findN fs nm = none) :
    Calls Tryd.prog 14 #[.agg #[.slice A n c], .string nm] w fun e w' => e = .returned (.tuple #[.int .i64 0, .bool false]) ∧ Below w.heap.size w w' :=
  find_core A n c fs nm w hs 0 false (.inl ⟨h, rfl, rfl⟩)
theorem find_some (A : Option Addr) (n c : Nat) (fs : List Field) (nm : ByteArray) (w : World) (hs : RepList w (· < w.heap.size) A n c fs) (k : Nat) (h : findN fs nm = some k) :
    Calls Tryd.prog 14 #[.agg #[.slice A n c], .string nm] w fun e w' => e = .returned (.tuple #[.int .i64 k, .bool true]) ∧ Below w.heap.size w w' :=
  find_core A n c fs nm w hs k true (.inr ⟨k, h, rfl, rfl⟩)

end Go.Proofs.YtajgoffeahfmfaaDoor

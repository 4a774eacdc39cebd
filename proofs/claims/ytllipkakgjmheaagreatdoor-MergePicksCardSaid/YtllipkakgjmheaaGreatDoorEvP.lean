/-
  The abstract machine: what is left of a region that draws its order; the masks.
-/
import Derived.Test.YtllipkakgjmheaaGreatDoorEvO
import Derived.Orders
set_option linter.unusedVariables false
set_option linter.unusedSimpArgs false
set_option linter.constructorNameAsVariable false
namespace Go.Proofs.YtllipkakgjmheaaGreatDoor.Ev
open Go Go.RowKit

/-- edges lead back -/
def Back (ops : Array Oper) : Prop := ∀ i o, ops[i]? = some o → ∀ e ∈ o.after.toList, Region.binds .any e = true → e.on < i
def dep (ops : Array Oper) (i j : Nat) : Prop := ∃ o, ops[i]? = some o ∧ ∃ e ∈ o.after.toList, Region.binds .any e = true ∧ e.on = j

structure Sched (ops : Array Oper) (l : List Nat) : Prop where
  nodup : l.Nodup
  lt : ∀ i ∈ l, i < ops.size
  pre : l.Pairwise (fun i j => ¬ dep ops i j)
  closed : ∀ i, i ∉ l → ∀ j, dep ops i j → j ∉ l

theorem Sched.head_dep {ops : Array Oper} {i : Nat} {l : List Nat} (hb : Back ops) (s : Sched ops (i :: l)) {j : Nat} (hd : dep ops i j) : j ∉ i :: l := by
  intro hj
  cases List.mem_cons.1 hj with
  | inl h =>
    subst h
    obtain ⟨o, ho, e, he, h1, h2⟩ := hd
    have := hb j o ho e he h1
    omega
  | inr h => exact (List.pairwise_cons.1 s.pre).1 j h hd
theorem Sched.tail {ops : Array Oper} {i : Nat} {l : List Nat} (hb : Back ops) (s : Sched ops (i :: l)) : Sched ops l := by
  refine ⟨(List.nodup_cons.1 s.nodup).2, fun j hj => s.lt j (List.mem_cons_of_mem _ hj), (List.pairwise_cons.1 s.pre).2, fun j hj k hk => ?_⟩
  by_cases h : j = i
  · subst h
    exact fun hx => s.head_dep hb hk (List.mem_cons_of_mem _ hx)
  · have : j ∉ i :: l := fun hx => (List.mem_cons.1 hx).elim h hj
    exact fun hx => s.closed j this k hk (List.mem_cons_of_mem _ hx)

theorem least (p : Nat → Prop) : ∀ n, p n → ∃ i, p i ∧ ∀ j, j < i → ¬ p j := fun n => by
  induction n using Nat.strongRecOn with
  | ind n ih =>
    intro hn
    by_cases h : ∃ j, j < n ∧ p j
    · obtain ⟨j, hj, hp⟩ := h; exact ih j hj hp
    · exact ⟨n, hn, fun j hj hp => h ⟨j, hj, hp⟩⟩

def unl (n : Nat) (listed : Array Bool) : List Nat := (List.range n).filter fun i => listed[i]? == some false
theorem mem_unl {n : Nat} {listed : Array Bool} {i : Nat} : i ∈ unl n listed ↔ i < n ∧ listed[i]? = some false := by
  simp [unl]
theorem unl_set {n : Nat} {listed : Array Bool} {i : Nat} (hs : listed.size = n) (hi : i < n) (j : Nat) :
    (listed.setIfInBounds i true)[j]? = some false ↔ listed[j]? = some false ∧ j ≠ i := by
  rw [Array.getElem?_setIfInBounds]
  by_cases h : i = j
  · subst h; simp [hs, hi]
  · simp [h]; intro _; exact fun hx => h hx.symm

theorem unl_len {n : Nat} {listed : Array Bool} {i : Nat} (hs : listed.size = n) (hi : i ∈ unl n listed) : (unl n (listed.setIfInBounds i true)).length < (unl n listed).length := by
  have hin : i < n := (mem_unl.1 hi).1
  have e : unl n (listed.setIfInBounds i true) = (unl n listed).filter (fun j => j != i) := by
    unfold unl
    rw [List.filter_filter]
    apply List.filter_congr
    intro j _
    have := unl_set hs hin j
    rw [Bool.eq_iff_iff]
    simp only [beq_iff_eq, Bool.and_eq_true, bne_iff_ne, ne_eq]
    rw [this]
    exact ⟨fun ⟨a, b⟩ => ⟨b, a⟩, fun ⟨a, b⟩ => ⟨b, a⟩⟩
  rw [e]
  exact List.length_filter_lt_length_iff_exists.2 ⟨i, hi, by simp⟩

theorem mem_ready {ops : Array Oper} {listed : Array Bool} {i : Nat} (hs : listed.size = ops.size) :
    i ∈ Region.ready .any ops listed ↔ i < ops.size ∧ listed[i]? = some false ∧ ∀ j, dep ops i j → listed[j]? = some true := by
  unfold Region.ready
  simp only [List.mem_filter, List.mem_range, Bool.and_eq_true, Bool.not_eq_true']
  constructor
  · rintro ⟨h1, h2, h3⟩
    have hl : listed[i]? = some listed[i] := by simp [hs, h1]
    have e1 : listed[i]'(by omega) = false := by
      simpa [Array.getD, hs, h1] using h2
    refine ⟨h1, by rw [hl, e1], fun j hd => ?_⟩
    obtain ⟨o, ho, e, he, hb, rfl⟩ := hd
    simp only [ho, Option.map_some, Option.getD_some, Array.all_eq_true] at h3
    obtain ⟨k, hk, hke⟩ := List.getElem_of_mem he
    have := h3 k (by simpa using hk)
    have hke' : o.after[k]'(by simpa using hk) = e := by simpa using hke
    rw [hke', hb] at this
    simp only [Bool.not_true, Bool.false_or] at this
    rw [Array.getD_eq_getD_getElem?] at this
    cases hx : listed[e.on]? with
    | none => simp [hx] at this
    | some b => simp [hx] at this; rw [this]
  · rintro ⟨h1, h2, h3⟩
    refine ⟨h1, by rw [Array.getD_eq_getD_getElem?, h2]; rfl, ?_⟩
    have : ∃ o, ops[i]? = some o := ⟨ops[i], by simp [h1]⟩
    obtain ⟨o, ho⟩ := this
    simp only [ho, Option.map_some, Option.getD_some, Array.all_eq_true]
    intro k hk
    cases hb : Region.binds .any o.after[k] with
    | false => rfl
    | true =>
      have := h3 (o.after[k]).on ⟨o, ho, o.after[k], by simp, hb, rfl⟩
      rw [Array.getD_eq_getD_getElem?, this]; rfl

theorem ready_ne {ops : Array Oper} {listed : Array Bool} (hb : Back ops) (hs : listed.size = ops.size) (h : Region.ready .any ops listed = []) : ∀ i, i ∉ unl ops.size listed := by
  intro i hi
  obtain ⟨k, hk, hmin⟩ := least (fun i => i ∈ unl ops.size listed) i hi
  have : k ∈ Region.ready .any ops listed := by
    rw [mem_ready hs]
    obtain ⟨h1, h2⟩ := mem_unl.1 hk
    refine ⟨h1, h2, fun j hd => ?_⟩
    obtain ⟨o, ho, e, he, hbb, rfl⟩ := hd
    have hlt := hb k o ho e he hbb
    have hsz : e.on < listed.size := by omega
    have hn := hmin _ hlt
    rw [mem_unl] at hn
    have hx : listed[e.on]? = some listed[e.on] := by simp [hsz]
    cases hv : listed[e.on] with
    | true => rw [hx, hv]
    | false => exact absurd ⟨by omega, by rw [hx, hv]⟩ hn
  rw [h] at this; cases this

theorem lin_facts {ops : Array Oper} (hb : Back ops) : ∀ (fuel t : Nat) (listed : Array Bool), listed.size = ops.size → (unl ops.size listed).length ≤ fuel →
    (Region.linearise.go .any ops fuel t listed []).Nodup ∧ (∀ i, i ∈ Region.linearise.go .any ops fuel t listed [] ↔ i ∈ unl ops.size listed) ∧ (Region.linearise.go .any ops fuel t listed []).Pairwise (fun i j => ¬ dep ops i j)
  | 0, t, listed, hs, hl => by
    have h0 : unl ops.size listed = [] := List.eq_nil_of_length_eq_zero (by omega)
    simp [Region.linearise.go, h0]
  | fuel + 1, t, listed, hs, hl => by
    simp only [Region.linearise.go]
    change (match (Region.ready .any ops listed)[t % (Region.ready .any ops listed).length]? with
      | some i => Region.linearise.go .any ops fuel (t / (Region.ready .any ops listed).length) (listed.setIfInBounds i true) [i]
      | none => [].reverse).Nodup ∧ (∀ i, i ∈ (match (Region.ready .any ops listed)[t % (Region.ready .any ops listed).length]? with
      | some i => Region.linearise.go .any ops fuel (t / (Region.ready .any ops listed).length) (listed.setIfInBounds i true) [i]
      | none => [].reverse) ↔ i ∈ unl ops.size listed) ∧ (match (Region.ready .any ops listed)[t % (Region.ready .any ops listed).length]? with
      | some i => Region.linearise.go .any ops fuel (t / (Region.ready .any ops listed).length) (listed.setIfInBounds i true) [i]
      | none => [].reverse).Pairwise (fun i j => ¬ dep ops i j)
    cases hi : (Region.ready .any ops listed)[t % (Region.ready .any ops listed).length]? with
    | none =>
      have hnil : Region.ready .any ops listed = [] := by
        cases hr : Region.ready .any ops listed with
        | nil => rfl
        | cons x xs =>
          rw [hr] at hi
          have hlt : t % (x :: xs).length < (x :: xs).length := Nat.mod_lt _ (by simp)
          simp at hi
          simp at hlt
          omega
      have := ready_ne hb hs hnil
      simp only [List.reverse_nil]
      exact ⟨List.nodup_nil, fun i => ⟨fun h => by simp at h, fun h => (this i h).elim⟩, List.Pairwise.nil⟩
    | some i =>
      have hmem : i ∈ Region.ready .any ops listed := List.mem_of_getElem? hi
      obtain ⟨r1, r2, r3⟩ := (mem_ready hs).1 hmem
      have hu : i ∈ unl ops.size listed := mem_unl.2 ⟨r1, r2⟩
      have hlen := unl_len hs hu
      obtain ⟨i1, i2, i3⟩ := lin_facts hb fuel (t / (Region.ready .any ops listed).length) (listed.setIfInBounds i true) (by simp [hs]) (by omega)
      simp only []
      rw [linearise_go_acc, List.reverse_singleton, List.singleton_append]
      have key : ∀ j, j ∈ Region.linearise.go .any ops fuel (t / (Region.ready .any ops listed).length) (listed.setIfInBounds i true) [] ↔ j < ops.size ∧ listed[j]? = some false ∧ j ≠ i := fun j => by
        rw [i2, mem_unl, unl_set hs r1]
      refine ⟨List.nodup_cons.2 ⟨fun hx => ((key i).1 hx).2.2 rfl, i1⟩, fun j => ?_, List.pairwise_cons.2 ⟨fun j hj hd => ?_, i3⟩⟩
      · rw [List.mem_cons, key, mem_unl]
        constructor
        · rintro (rfl | ⟨a, b, _⟩)
          · exact ⟨r1, r2⟩
          · exact ⟨a, b⟩
        · rintro ⟨a, b⟩
          by_cases h : j = i
          · exact .inl h
          · exact .inr ⟨a, b, h⟩
      · have h1 := ((key j).1 hj).2.1
        have h2 := r3 j hd
        rw [h1] at h2; cases h2

theorem lin_sched {ops : Array Oper} (hb : Back ops) (t : Nat) : Sched ops (Region.linearise .any ops t) ∧ ∀ i, i < ops.size → i ∈ Region.linearise .any ops t := by
  have hl : (unl ops.size (Array.replicate ops.size false)).length ≤ ops.size := by
    have := List.length_filter_le (fun i => (Array.replicate ops.size false)[i]? == some false) (List.range ops.size)
    simpa [unl] using this
  obtain ⟨h1, h2, h3⟩ := lin_facts hb ops.size t (Array.replicate ops.size false) (by simp) hl
  have hall : ∀ i, i ∈ Region.linearise .any ops t ↔ i < ops.size := fun i => by
    unfold Region.linearise
    rw [h2, mem_unl]
    constructor
    · exact fun h => h.1
    · exact fun h => ⟨h, by simp [h]⟩
  exact ⟨⟨h1, fun i hi => (hall i).1 hi, h3, fun i hi j hd => by
    obtain ⟨o, ho, _⟩ := hd
    have : ¬ i < ops.size := fun h => hi ((hall i).2 h)
    rw [Array.getElem?_eq_none (by omega)] at ho; cases ho⟩, fun i hi => (hall i).2 hi⟩

/-! ### masks -/
theorem has_eq (m i : Nat) : has m i = m.testBit i := by
  unfold has
  rw [nbeq]
  show decide ((m >>> i) &&& 1 = 1) = _
  rw [Nat.testBit, Nat.and_comm]
  have : (m >>> i) &&& 1 = 0 ∨ (m >>> i) &&& 1 = 1 := by rw [Nat.and_one_is_mod]; omega
  rw [Nat.and_comm 1]
  rcases this with h | h <;> rw [h] <;> rfl
theorem has_lor (a b i : Nat) : has (Nat.lor a b) i = (has a i || has b i) := by
  rw [has_eq, has_eq, has_eq]; exact Nat.testBit_or a b i
theorem has_pow (i j : Nat) : has (2 ^ i) j = decide (i = j) := by
  rw [has_eq, Nat.testBit_two_pow]
theorem has_zero (i : Nat) : has 0 i = false := by rw [has_eq]; exact Nat.zero_testBit i
theorem emask_has {t : Tr Nat} {j : Nat} : ∀ {es : List Edge}, has (emask t es) j = true → ∃ e ∈ es, Region.binds .any e = true ∧ (e.on = j ∨ has ((t.get e.on).getD 0) j = true)
  | [], h => by simp [emask, has_zero] at h
  | e :: es, h => by
    unfold emask at h
    cases hb : Region.binds .any e with
    | true =>
      simp only [hb, cond_true, has_lor, has_pow, Bool.or_eq_true, decide_eq_true_eq] at h
      rcases h with (h | h) | h
      · exact ⟨e, List.mem_cons_self .., hb, .inl h⟩
      · exact ⟨e, List.mem_cons_self .., hb, .inr h⟩
      · obtain ⟨e', h1, h2⟩ := emask_has h; exact ⟨e', List.mem_cons_of_mem _ h1, h2⟩
    | false =>
      simp only [hb, cond_false] at h
      obtain ⟨e', h1, h2⟩ := emask_has h; exact ⟨e', List.mem_cons_of_mem _ h1, h2⟩
theorem rmaskGo_old : ∀ (l : List Oper) (i : Nat) (t : Tr Nat) (j : Nat), j < i → (rmaskGo l i t).get j = t.get j
  | [], _, _, _, _ => rfl
  | o :: l, i, t, j, h => by
    unfold rmaskGo
    rw [rmaskGo_old l (i + 1) _ j (by omega), Tr.get_set_ne _ _ (by omega)]
theorem rmaskGo_get : ∀ (l : List Oper) (i : Nat) (t : Tr Nat) (j : Nat) (o : Oper), l[j]? = some o → ∃ t', (rmaskGo l i t).get (i + j) = some (emask t' o.after.toList) ∧ ∀ x, x < i + j → t'.get x = (rmaskGo l i t).get x
  | [], _, _, _, _, h => by simp at h
  | o :: l, i, t, 0, o', h => by
    simp only [List.getElem?_cons_zero, Option.some.injEq] at h
    subst h
    refine ⟨t, ?_, fun x hx => ?_⟩
    · unfold rmaskGo
      show (rmaskGo l (i + 1) (t.set i (some (emask t o.after.toList)))).get i = _
      rw [rmaskGo_old l (i + 1) _ i (by omega), Tr.get_set_same]
    · unfold rmaskGo
      rw [rmaskGo_old l (i + 1) _ x (by omega), Tr.get_set_ne _ _ (by omega)]
  | o :: l, i, t, j + 1, o', h => by
    simp only [List.getElem?_cons_succ] at h
    obtain ⟨t', h1, h2⟩ := rmaskGo_get l (i + 1) (t.set i (some (emask t o.after.toList))) j o' h
    unfold rmaskGo
    rw [show i + (j + 1) = i + 1 + j by omega]
    exact ⟨t', h1, h2⟩
theorem mask_has {ops : Array Oper} (hb : Back ops) {i j : Nat} (h : has (maskOf ops i) j = true) : ∃ k, dep ops i k ∧ (k = j ∨ has (maskOf ops k) j = true) := by
  unfold maskOf at h
  cases ho : ops[i]? with
  | none =>
    have : (rmask ops).get i = none := by
      have hsz : ops.size ≤ i := by rcases Nat.lt_or_ge i ops.size with hlt | hge
                                    · simp [hlt] at ho
                                    · exact hge
      have aux : ∀ (l : List Oper) (k : Nat) (t : Tr Nat), k + l.length ≤ i → (rmaskGo l k t).get i = t.get i := by
        intro l
        induction l with
        | nil => intro k t _; rfl
        | cons o l ih =>
          intro k t hk
          simp only [List.length_cons] at hk
          unfold rmaskGo
          rw [ih (k + 1) _ (by omega), Tr.get_set_ne _ _ (by omega)]
      unfold rmask
      rw [aux _ 0 .l (by simpa using hsz), Tr.get_l]
    rw [this] at h
    simp [has_zero] at h
  | some o =>
    have hl : ops.toList[i]? = some o := by simpa using ho
    obtain ⟨t', h1, h2⟩ := rmaskGo_get ops.toList 0 .l i o hl
    rw [Nat.zero_add] at h1 h2
    have h1' : (rmask ops).get i = some (emask t' o.after.toList) := h1
    rw [h1'] at h
    obtain ⟨e, he, hbb, hx⟩ := emask_has (by simpa using h)
    refine ⟨e.on, ⟨o, ho, e, he, hbb, rfl⟩, hx.imp id fun hx => ?_⟩
    have hlt := hb i o ho e he hbb
    rw [h2 _ hlt] at hx
    exact hx

/-- what a mask names has been run, for what has been run, and for what is next -/
theorem mask_done {ops : Array Oper} (hb : Back ops) {l : List Nat} (s : Sched ops l) : ∀ (i j : Nat), i ∉ l → has (maskOf ops i) j = true → j ∉ l := by
  intro i
  induction i using Nat.strongRecOn with
  | ind i ih =>
    intro j hi h
    obtain ⟨k, hd, hk⟩ := mask_has hb h
    have hkl := s.closed i hi k hd
    rcases hk with rfl | hk
    · exact hkl
    · obtain ⟨o, ho, e, he, hbb, rfl⟩ := hd
      exact ih e.on (hb i o ho e he hbb) j hkl hk
theorem mask_head {ops : Array Oper} (hb : Back ops) {i : Nat} {l : List Nat} (s : Sched ops (i :: l)) (j : Nat) (h : has (maskOf ops i) j = true) : j ∉ i :: l := by
  obtain ⟨k, hd, hk⟩ := mask_has hb h
  have hkl := s.head_dep hb hd
  rcases hk with rfl | hk
  · exact hkl
  · exact mask_done hb s k j hkl hk
end Go.Proofs.YtllipkakgjmheaaGreatDoor.Ev

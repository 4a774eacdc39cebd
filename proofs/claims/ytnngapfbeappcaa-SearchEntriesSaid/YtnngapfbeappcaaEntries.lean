/- The walks of search.Entries and its closure. -/
import Derived.Test.YtnngapfbeappcaaShelf
import Derived.Test.YtnngapfbeappcaaStored
import Derived.Test.YtnngapfbeappcaaDel
import Derived.Test.YtnngapfbeappcaaRef24
namespace Go.Proofs.Ytnngapfbeappcaa
open Rep (rep)
open Go.RowKit

theorem containsS_eq (ns : List ByteArray) (x : ByteArray) : Lib.containsS ns x = ns.any fun y => decide (y = x) := by
  rw [Bool.eq_iff_iff, Lib.containsS_iff]
  simp

theorem contains_rep (A : Option Addr) (q cq : Nat) (ns : List ByteArray) (x : ByteArray) (w : World) (hns : RepList w (· < w.heap.size) A q cq ns) :
    Calls Try.prog 35 #[.slice A q cq, .string x] w fun e w' => e = .returned (.bool (ns.any fun y => decide (y = x))) ∧ w' = w := by
  rcases Nat.eq_zero_or_pos q with h | h
  · subst h
    have : ns = [] := List.eq_nil_of_length_eq_zero hns.length
    subst this
    exact Try.slices_Contains_string_empty A cq x w
  · obtain ⟨b, off, _, rfl, _⟩ := hns.at_ h
    have hl := hns.length
    have := Try.slices_Contains_string b off q cq ns x w (by omega) (by have := hns.cap; omega) (fun j hj => by
      obtain ⟨_, he⟩ := hns.elem (List.getElem?_eq_getElem hj)
      rw [he.str.1, List.getD_eq_getElem?_getD, List.getElem?_eq_getElem hj]; rfl)
    rwa [List.take_of_length_le (by omega), containsS_eq] at this

set_option maxHeartbeats 400000 in
theorem entries1_any (cs : List Value) (e : Entry) (pb : Nat) (AN : Option Addr) (q cq : Nat) (ns : List ByteArray) (F : Nat → Prop) (w : World) (hf : rep w F cs e) (hns : RepList w (· < w.heap.size) AN q cq ns) (hc : w.cell? ⟨pb, 0, none⟩ = some (.slice AN q cq)) :
    Calls Try.prog 34 #[.agg cs.toArray, .pointer (some ⟨pb, 0, none⟩)] w fun r w' => r = .returned (.bool (!namedB ns e)) ∧ Below w.heap.size w w' := by
  obtain ⟨A2, n2, c2, rfl, _⟩ := Entry.cells_of hf
  have hb : Below w.heap.size w (w.alloc (.cells #[.string e.field, .string e.text, .slice A2 n2 c2] 54)) := (Below.refl _ _).alloc (Nat.le_refl _) _
  have hc' := cell_on hb hc
  have hcap := hns.cap
  have hl := hns.length
  have Hns := Lib.hid (hns.on hb)
  have Hb := Lib.hid hb
  have Hl := Lib.hid hl
  clear hf hns hc hb hl
  rcases Nat.eq_zero_or_pos q with h | h
  · subst h
    have hfin : (!namedB ns e) = false := by unfold namedB; rw [Hl.out]; simp
    rw [hfin]
    clear hfin
    go_enter Try.func34, Try.ntmps34
    go_wp2
    go_ret
    exact ⟨rfl, Hb.out⟩
  · have hq : (0 : Int) < q := by omega
    have hfin : (!namedB ns e) = !(ns.any fun y => decide (y = e.field)) := by unfold namedB; rw [Hl.out]; simp; omega
    rw [hfin]
    obtain ⟨r, hr⟩ : ∃ r, (ns.any fun y => decide (y = e.field)) = r := ⟨_, rfl⟩
    rw [hr]
    have Hr := Lib.hid hr
    clear hfin hr
    go_enter Try.func34, Try.ntmps34
    go_wp2_with fail
    refine (contains_rep AN q cq ns e.field _ Hns.out).mono ?_
    rintro e' w1 ⟨rfl, rfl⟩
    rw [Hr.out]
    go_wp2
    go_ret
    exact ⟨rfl, Hb.out⟩

set_option maxRecDepth 100000 in
set_option maxHeartbeats 1000000 in
theorem searchEntries_any (A A' AN : Option Addr) (n c m c' q cq : Nat) (fs : List Field) (es : List Entry) (ns : List ByteArray) (w : World) (hs : RepList w (· < w.heap.size) A n c fs) (hd : RepList w (· < w.heap.size) A' m c' es) (hns : RepList w (· < w.heap.size) AN q cq ns)
    (hm : m ≤ 2513169434843) (hN : ∀ e ∈ es, e.numbers.length ≤ 17592186044416) :
    Calls Try.prog 14 #[.agg #[.slice A n c], .agg #[.slice A' m c'], .slice AN q cq] w fun e w' => ∃ A1 n1 c1, e = .returned (.slice A1 n1 c1) ∧ RepList w' (Fresh w.heap.size w') A1 n1 c1 ((es.filter (keptB fs)).filter (namedB ns)) ∧ Below w.heap.size w w' := by
  have hmf : ∀ (fn : Fn) (first cap : Array Value) (w : World), (Instr.makeFunc fn first cap).run Try.prog w = .ok (.func fn first cap) w := fun _ _ _ _ => rfl
  have hb0 : Below w.heap.size w (((w.alloc (.cells #[.slice A n c] 31)).alloc (.cells #[.slice A' m c'] 34)).alloc (.cells #[.slice AN q cq] 35)) := ((((Below.refl _ _).alloc (Nat.le_refl _) _).alloc (by simp) _).alloc (by simp; omega) _)
  have B2 : Blk (((w.alloc (.cells #[.slice A n c] 31)).alloc (.cells #[.slice A' m c'] 34)).alloc (.cells #[.slice AN q cq] 35)) (w.heap.size + 1 + 1) 35 #[.slice AN q cq] := by
    have := Blk.new ((w.alloc (.cells #[.slice A n c] 31)).alloc (.cells #[.slice A' m c'] 34)) 35 #[.slice AN q cq]
    simpa using this
  have hsz : (((w.alloc (.cells #[.slice A n c] 31)).alloc (.cells #[.slice A' m c'] 34)).alloc (.cells #[.slice AN q cq] 35)).heap.size = w.heap.size + 3 := by simp
  have Hs := Lib.hid (hs.on hb0)
  have Hd := Lib.hid (hd.on hb0)
  have Hns := Lib.hid (hns.on hb0)
  have HN := Lib.hid hN
  have hm' : (es.filter (keptB fs)).length ≤ m := Nat.le_trans (List.length_filter_le _ _) (by have := hd.length; omega)
  have Hm := Lib.hid hm'
  clear hs hd hns hN hm'
  go_enter Try.func14, Try.ntmps14
  go_wp2_with fail
  obtain ⟨W0, hW0⟩ : ∃ W0, (((w.alloc (.cells #[.slice A n c] 31)).alloc (.cells #[.slice A' m c'] 34)).alloc (.cells #[.slice AN q cq] 35)) = W0 := ⟨_, rfl⟩
  rw [hW0] at hb0 B2 hsz Hs Hd Hns ⊢
  clear hW0
  refine (stored_any A A' n c m c' fs es W0 Hs.out Hd.out hm HN.out).mono ?_
  rintro e w1 ⟨v1, rfl, ho1, hb1⟩
  obtain ⟨A1, c1, rfl⟩ := ho1.form
  obtain ⟨l, hl⟩ : ∃ l, es.filter (keptB fs) = l := ⟨_, rfl⟩
  rw [hl] at ho1 Hm ⊢
  have Hl := Lib.hid hl
  obtain ⟨p, hp⟩ : ∃ p, l.length = p := ⟨_, rfl⟩
  rw [hp] at ho1 Hm ⊢
  have Ho1 := Lib.hid ho1
  have Hb1 := Lib.hid hb1
  have Hp := Lib.hid hp
  have HB2 := Lib.hid B2
  have Hb0 := Lib.hid hb0
  clear hl hp ho1 hb1 B2 hb0
  go_wp2_with fail
  refine (deleteFunc_any A1 p c1 l 34 _ (fun e => !namedB ns e) w1 W0.heap.size (W0.heap.size ≤ ·) Hb1.out.size Ho1.out (by have := Hm.out; omega) (Go.Proofs.enters_of Try.func34 (by kernel_rfl) rfl) ?_).mono ?_
  · intro W cs x hb hx
    have hbW := Hb1.out.trans hb
    refine (entries1_any cs x (w.heap.size + 1 + 1) AN q cq ns _ W hx (Hns.out.on hbW) ?_)
    exact (hbW.cell (p := ⟨w.heap.size + 1 + 1, 0, none⟩) (by simp; omega)).trans (HB2.out.cell 0)
  · rintro e w2 ⟨A2, n2, c2, rfl, hr2, hb2⟩
    have Hr2 := Lib.hid hr2
    have Hb2 := Lib.hid hb2
    clear hr2 hb2
    go_wp2_with fail
    go_ret
    refine ⟨A2, n2, c2, rfl, ?_, Hb0.out.trans ((Hb1.out.trans Hb2.out).mono (by omega))⟩
    have := Hr2.out.more (F' := Fresh w.heap.size w2) (fun b h => ⟨by have := h.1; omega, h.2⟩)
    rw [Hl.out]
    simpa using this
end Go.Proofs.Ytnngapfbeappcaa

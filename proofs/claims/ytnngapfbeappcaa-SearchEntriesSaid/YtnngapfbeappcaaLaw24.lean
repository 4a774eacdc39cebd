/- The walk of the law SearchEntries. -/
import Derived.Test.YtnngapfbeappcaaSample
import Derived.Deep.RegionHeld3
namespace Go.Proofs.Ytnngapfbeappcaa
open Rep (rep)
open Go.RowKit

theorem entries_same (A A' : Option Addr) (n m c c' : Nat) (xs : List Entry) (w : World) (hx : RepList w (· < w.heap.size) A n c xs) (hy : RepList w (· < w.heap.size) A' m c' xs) :
    Calls Try.prog 17 #[.slice A n c, .slice A' m c'] w fun e w' => e = .returned (.bool true) ∧ Below w.heap.size w w' := by
  refine (entries_rep A A' n m c c' xs xs w hx hy).mono ?_
  rintro e w' ⟨rfl, hd⟩
  exact ⟨by simp, hd.below⟩

theorem len_one (xs : List Entry) {w : World} {F : Nat → Prop} {A : Option Addr} {n c : Nat} (h : RepList w F A n c xs) (h1 : xs.length = 1) : n = 1 := by rw [← h.length, h1]

set_option maxRecDepth 100000 in
set_option maxHeartbeats 600000 in
theorem law24 (A A' AN : Option Addr) (n c m c' q cq : Nat) (fs : List Field) (es : List Entry) (ns : List ByteArray) (w : World) (hs : RepList w (· < w.heap.size) A n c fs) (hd : RepList w (· < w.heap.size) A' m c' es) (hns : RepList w (· < w.heap.size) AN q cq ns)
    (hm : m ≤ 2513169434843) (hN : ∀ e ∈ es, e.numbers.length ≤ 17592186043904) (hq : q ≤ 8796093021952) :
    Calls Try.prog 4 #[.agg #[.slice A n c], .agg #[.slice A' m c'], .slice AN q cq] w fun e w' => e = .returned (.bool true) ∧ Below w.heap.size w w' := by
  have hb0 : Below w.heap.size w ((w.alloc (.cells #[.slice A n c] 31)).alloc (.cells #[.slice A' m c'] 34)) := (((Below.refl _ _).alloc (Nat.le_refl _) _).alloc (by simp) _)
  have B0 : Blk ((w.alloc (.cells #[.slice A n c] 31)).alloc (.cells #[.slice A' m c'] 34)) w.heap.size 31 #[.slice A n c] := (Blk.new w _ _).alloc _
  have B1 : Blk ((w.alloc (.cells #[.slice A n c] 31)).alloc (.cells #[.slice A' m c'] 34)) (w.heap.size + 1) 34 #[.slice A' m c'] := by
    have := Blk.new (w.alloc (.cells #[.slice A n c] 31)) 34 #[.slice A' m c']
    simpa using this
  have Hs := Lib.hid (hs.on hb0)
  have Hd := Lib.hid (hd.on hb0)
  have Hns := Lib.hid (hns.on hb0)
  have HN := Lib.hid hN
  have HN2 : Hid (∀ e ∈ es, e.numbers.length ≤ 17592186044416) := fun e he => Nat.le_trans (hN e he) (by omega)
  clear hs hd hns hN
  go_enter Try.func4, Try.ntmps4
  go_wp2_with fail
  obtain ⟨W0, hW0⟩ : ∃ W0, (w.alloc (.cells #[.slice A n c] 31)).alloc (.cells #[.slice A' m c'] 34) = W0 := ⟨_, rfl⟩
  have hsz0 : W0.heap.size = w.heap.size + 2 := by rw [← hW0]; simp
  rw [hW0] at hb0 B0 B1 Hs Hd Hns ⊢
  clear hW0
  have HB0 := Lib.hid B0
  have HB1 := Lib.hid B1
  have Hb0 := Lib.hid hb0
  clear B0 B1 hb0
  refine (lentDoc_rep A' m c' es W0 hm HN.out Hd.out).mono ?_
  rintro e W1 ⟨A1, c1, rfl, hr1, hm1, hb1⟩
  have Hr1 := Lib.hid hr1
  have Hm1 := Lib.hid hm1
  have Hb1 := Lib.hid hb1
  clear hr1 hm1 hb1
  go_wp2_with fail
  refine (lentStrings_rep AN q cq ns W1 hq (Hns.out.on Hb1.out)).mono ?_
  rintro e W2 ⟨A2, c2, rfl, hr2, hm2, hb2⟩
  have Hr2 := Lib.hid hr2
  have Hm2 := Lib.hid hm2
  have Hb2 := Lib.hid hb2
  clear hr2 hm2 hb2
  have B7 := Blk.new W2 34 #[.slice A1 m c1]
  have hb3 : Below W2.heap.size W2 (W2.alloc (.cells #[.slice A1 m c1] 34)) := (Below.refl _ _).alloc (Nat.le_refl _) _
  have HB7 := Lib.hid B7
  have Hb3 := Lib.hid hb3
  clear B7 hb3
  go_wp2_with fail
  refine (sample_any _).mono ?_
  rintro e W4 ⟨A4, c4, rfl, hr4, hb4⟩
  have Hr4 := Lib.hid hr4
  have Hb4 := Lib.hid hb4
  clear hr4 hb4
  go_wp2_with fail
  refine (sampleDoc_any _).mono ?_
  rintro e W5 ⟨A5, c5, rfl, hr5, hb5⟩
  have Hr5 := Lib.hid hr5
  have Hb5 := Lib.hid hb5
  clear hr5 hb5
  go_wp2_with fail
  refine (searchEntries_any A4 A5 none 2 c4 2 c5 0 0 sampleF sampleE [] W5 (Hr4.out.whole.on Hb5.out) Hr5.out.whole RepList.nil (by decide) (by decide)).mono ?_
  rintro e W6 ⟨A6, n6, c6, rfl, hr6, hb6⟩
  obtain rfl := len_one _ hr6 sample_one
  have Hb6 := Lib.hid hb6
  clear hr6 hb6
  go_wp2_with fail
  -- what holds from here on
  have hall : Below W0.heap.size W0 W6 := Hb1.out.trans ((Hb2.out.trans ((Hb3.out.trans ((Hb4.out.trans ((Hb5.out.trans (Hb6.out.mono Hb5.out.size)).mono Hb4.out.size)).mono Hb3.out.size)).mono Hb2.out.size)).mono Hb1.out.size)
  have h26 : Below W2.heap.size W2 W6 := (Hb3.out.trans ((Hb4.out.trans ((Hb5.out.trans (Hb6.out.mono Hb5.out.size)).mono Hb4.out.size)).mono Hb3.out.size))
  have h16 : Below W1.heap.size W1 W6 := Hb2.out.trans (h26.mono Hb2.out.size)
  have h36 : Below (W2.alloc (.cells #[.slice A1 m c1] 34)).heap.size (W2.alloc (.cells #[.slice A1 m c1] 34)) W6 := (Hb4.out.trans ((Hb5.out.trans (Hb6.out.mono Hb5.out.size)).mono Hb4.out.size))
  have hS : ∀ W, Below W6.heap.size W6 W → W.cell? ⟨w.heap.size, 0, none⟩ = some (.slice A n c) ∧ W.cell? ⟨w.heap.size + 1, 0, none⟩ = some (.slice A' m c') ∧ W.cell? ⟨W2.heap.size, 0, none⟩ = some (.slice A1 m c1) ∧ Below W6.heap.size W6 W := by
    intro W hW
    have h0 := hall.trans (hW.mono hall.size)
    refine ⟨(h0.cell (p := ⟨w.heap.size, 0, none⟩) (by simp; omega)).trans (HB0.out.cell 0), (h0.cell (p := ⟨w.heap.size + 1, 0, none⟩) (by simp; omega)).trans (HB1.out.cell 0), ?_, hW⟩
    exact ((h36.trans (hW.mono h36.size)).cell (p := ⟨W2.heap.size, 0, none⟩) (by simp)).trans (HB7.out.cell 0)
  have HS := Lib.hid hS
  obtain ⟨L, hL⟩ : ∃ L, (es.filter (keptB fs)).filter (namedB ns) = L := ⟨_, rfl⟩
  obtain ⟨n8, hn8⟩ : ∃ n8, L.length = n8 := ⟨_, rfl⟩
  have HL := Lib.hid hL
  have Hn8 := Lib.hid hn8
  clear hL hn8
  have Hall := Lib.hid hall
  have H16 := Lib.hid h16
  have H26 := Lib.hid h26
  clear hS hall h26 h16 h36
  go_region_held3 (fun W => W.cell? ⟨w.heap.size, 0, none⟩ = some (.slice A n c) ∧ W.cell? ⟨w.heap.size + 1, 0, none⟩ = some (.slice A' m c') ∧ W.cell? ⟨W2.heap.size, 0, none⟩ = some (.slice A1 m c1) ∧ Below W6.heap.size W6 W)
    (first | exact HS.out _ (Below.refl _ _) | exact HS.out _ (Below.refl _ _).drew | exact HS.out _ (by assumption))
    (first
      | (go_at_call 14; have hcur : Below W6.heap.size W6 W6.drew := (Below.refl _ _).drew; refine (searchEntries_any A A1 A2 n c m c1 q c2 fs es ns _ (Hs.out.on (Hall.out.trans (hcur.mono Hall.out.size))) (LEntry.list_plain (Hr1.out.whole.on (H16.out.trans (hcur.mono H16.out.size)))) (Hr2.out.whole.on (H26.out.trans (hcur.mono H26.out.size))) hm HN2.out).mono ?_; rintro e W7 ⟨A7, n7, c7, rfl, hr7, hb7⟩; have hc7 : Below W6.heap.size W6 W7 := hcur.trans (hb7.mono hcur.size); rw [HL.out] at hr7; have Hr7 := Lib.hid hr7; have Hb7 := Lib.hid hb7; clear hr7 hb7 hcur)
      | (go_at_call 18; have hcur := hc7; refine (rentries_any A A' AN n c m c' q cq fs es ns _ (Hs.out.on (Hall.out.trans (hcur.mono Hall.out.size))) (Hd.out.on (Hall.out.trans (hcur.mono Hall.out.size))) (Hns.out.on (Hall.out.trans (hcur.mono Hall.out.size))) hm HN2.out).mono ?_; rintro e W8 ⟨v8, rfl, ho8, hb8⟩; rw [HL.out] at ho8; obtain ⟨A8, c8, rfl⟩ := ho8.form; rw [Hn8.out] at ho8 ⊢; have hc8 : Below W6.heap.size W6 W8 := hcur.trans (hb8.mono hcur.size); have Ho8 := Lib.hid ho8; have Hb8 := Lib.hid hb8; clear ho8 hb8 hcur)
      | (go_at_call 17; have hcur := hc8; refine (entries_same A7 A8 n7 n8 c7 c8 L _ (Hr7.out.whole.on Hb8.out) (Ho8.out.reads.more (fun b h => h.2))).mono ?_; rintro e W9 ⟨rfl, hd9⟩; have hc9 : Below W6.heap.size W6 W9 := hcur.trans (hd9.mono hcur.size); clear hcur hd9)
      | (go_at_call 19; have hcur := hc9; refine (keptDoc_rep A1 A' m c1 m c' es _ hm HN.out (Hr1.out.whole.on (H16.out.trans (hcur.mono H16.out.size))) ((Hm1.out.keep (fun _ _ => rfl) (fun b h => h.2)).on (H16.out.trans (hcur.mono H16.out.size))) (Hd.out.on (Hall.out.trans (hcur.mono Hall.out.size)))).mono ?_; rintro e W10 ⟨rfl, hb10⟩; have hc10 : Below W6.heap.size W6 W10 := hcur.trans (hb10.mono hcur.size); clear hcur hb10)
      | (go_at_call 20; have hcur := hc10; refine (keptStrings_rep A2 AN q c2 q cq ns _ hq (Hr2.out.whole.on (H26.out.trans (hcur.mono H26.out.size))) ((Hm2.out.keep (fun _ _ => rfl) (fun b h => h.2)).on (H26.out.trans (hcur.mono H26.out.size))) (Hns.out.on (Hall.out.trans (hcur.mono Hall.out.size)))).mono ?_; rintro e W11 ⟨rfl, hd11⟩; have hc11 : Below W6.heap.size W6 W11 := hcur.trans (hd11.below.mono hcur.size); clear hcur hd11))
  go_wp2
  go_ret
  exact ⟨rfl, Hb0.out.trans ((Hall.out.trans (hc11.mono Hall.out.size)).mono Hb0.out.size)⟩
end Go.Proofs.Ytnngapfbeappcaa

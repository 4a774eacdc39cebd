/- The walk of lecternref24.Entries: the stored entries that are named. -/
import Derived.Test.YtnngapfbeappcaaRStored
import Derived.Test.YtnngapfbeappcaaKitEnt
namespace Go.Proofs.Ytnngapfbeappcaa
open Rep (rep)
open Go.RowKit

def namedTo (ns : List ByteArray) (f : ByteArray) (j : Nat) : Bool := decide (ns.length = 0) || (ns.take j).any fun x => decide (x = f)
def namedB (ns : List ByteArray) (e : Entry) : Bool := decide (ns.length = 0) || ns.any fun x => decide (x = e.field)
theorem namedTo_zero (ns : List ByteArray) (f : ByteArray) : namedTo ns f 0 = decide (ns.length = 0) := by simp [namedTo]
theorem namedTo_step {ns : List ByteArray} {f x : ByteArray} {j : Nat} (hx : ns[j]? = some x) : namedTo ns f (j + 1) = (namedTo ns f j || decide (x = f)) := by
  unfold namedTo
  rw [List.take_add_one, hx]
  simp [Bool.or_assoc]
theorem namedTo_all {ns : List ByteArray} {e : Entry} {q : Nat} (h : ns.length = q) : namedTo ns e.field q = namedB ns e := by
  unfold namedTo namedB
  rw [List.take_of_length_le (by omega)]

set_option maxRecDepth 100000 in
set_option maxHeartbeats 1000000 in
theorem rentries_any (A A' AN : Option Addr) (n c m c' q cq : Nat) (fs : List Field) (es : List Entry) (ns : List ByteArray) (w : World) (hs : RepList w (· < w.heap.size) A n c fs) (hd : RepList w (· < w.heap.size) A' m c' es) (hns : RepList w (· < w.heap.size) AN q cq ns)
    (hm : m ≤ 2513169434843) (hN : ∀ e ∈ es, e.numbers.length ≤ 17592186044416) :
    Calls Try.prog 18 #[.agg #[.slice A n c], .agg #[.slice A' m c'], .slice AN q cq] w fun e w' => ∃ v, e = .returned v ∧ Own (w.heap.size ≤ ·) w' w.heap.size 54 v ((es.filter (keptB fs)).filter (namedB ns)) ∧ Below w.heap.size w w' := by
  obtain ⟨i0, hi0, hz0, hz1, hz2⟩ := info_parts entry_info
  have hb0 : Below w.heap.size w ((w.alloc (.cells #[.slice A n c] 31)).alloc (.cells #[.slice A' m c'] 34)) := (((Below.refl _ _).alloc (Nat.le_refl _) _).alloc (by simp) _)
  have hcq := hns.cap
  have Hns := Lib.hid (hns.on hb0)
  have Hs := Lib.hid (hs.on hb0)
  have Hd := Lib.hid (hd.on hb0)
  have HN := Lib.hid hN
  have hle : (es.filter (keptB fs)).length ≤ m := Nat.le_trans (List.length_filter_le _ _) (by have := hd.length; omega)
  have Hle := Lib.hid hle
  obtain ⟨B0, hB0⟩ : ∃ B0, decide (ns.length = 0) = B0 := ⟨_, rfl⟩
  have hq0 : ((q : Int) == 0) = B0 := by rw [← hB0, hns.length]; simp [BEq.beq]
  have HB0 := Lib.hid hB0
  have Hlq := Lib.hid hns.length
  clear hs hd hns hN hB0 hle
  go_enter Try.func18, Try.ntmps18
  go_wp2_with fail
  obtain ⟨W0, hW0⟩ : ∃ W0, (w.alloc (.cells #[.slice A n c] 31)).alloc (.cells #[.slice A' m c'] 34) = W0 := ⟨_, rfl⟩
  rw [hW0] at hb0 Hns Hs Hd ⊢
  clear hW0
  refine (rstored_any A A' n c m c' fs es W0 Hs.out Hd.out hm HN.out).mono ?_
  rintro e W1 ⟨v1, rfl, ho1, hb1⟩
  obtain ⟨AL, cL, rfl⟩ := ho1.form
  obtain ⟨l, hl⟩ : ∃ l, es.filter (keptB fs) = l := ⟨_, rfl⟩
  have Hl := Lib.hid hl
  rw [hl] at ho1 Hle ⊢
  obtain ⟨p, hp⟩ : ∃ p, l.length = p := ⟨_, rfl⟩
  rw [hp] at ho1 Hle ⊢
  have hpm : p ≤ m := Hle.out
  have Hp := Lib.hid hp
  have hcL := ho1.reads.cap
  have HL := Lib.hid (ho1.reads.more (F' := fun b => W0.heap.size ≤ b ∧ b < W1.heap.size) (fun b h => ⟨by rcases h.1 with h | h <;> exact h, h.2⟩))
  have Hns1 := Lib.hid (Hns.out.on hb1)
  have hb01 := hb0.trans (hb1.mono hb0.size)
  have Hb01 := Lib.hid hb01
  clear ho1 hp hb1 hb01 hl Hle Hs Hd Hns
  go_wp2_with fail
  go_loopw [7, 9] (fun v i wr => ∃ k : Nat, k ≤ p ∧ i = .int .i64 k ∧ Own (fun b => W0.heap.size ≤ b ∧ b < W1.heap.size) wr W1.heap.size 54 v ((l.take k).filter (namedB ns)) ∧ Below W1.heap.size W1 wr) (fun _ i _ => p - (intOf i).toNat)
  case atStart => exact ⟨0, Nat.zero_le _, rfl, by simpa using Own.nil _ _ _ _, Below.refl _ _⟩
  case round =>
    obtain ⟨k, hk, rfl, hown, hb⟩ := hrel
    obtain ⟨wo, hwo⟩ : ∃ wo, wo = wr := ⟨_, rfl⟩
    subst hwo
    by_cases hlt : k < p
    · have hl2 := HL.out.keep (w' := wo) (F' := fun b => W0.heap.size ≤ b ∧ b < W1.heap.size) (fun p hp => hb.cell hp.2) (fun _ h => h)
      obtain ⟨bb, off, e, rfl, He, hbk, he⟩ := hl2.at_ hlt
      obtain ⟨A2, n2, c2, e0, e1, e2, q1, q2, q3⟩ := Entry.at_ he
      obtain ⟨g, hg⟩ : ∃ g, e.field = g := ⟨_, rfl⟩
      have Hg := Lib.hid hg
      rw [hg] at e0
      have Hns2 := Lib.hid (Hns1.out.on hb)
      have Q1 := Lib.hid q1
      have Hown := Lib.hid hown
      have Hb := Lib.hid hb
      clear hl2 he q1 hown hb hg
      go_wp2_with fail
      go_loopw [10, 11] (fun b i wi => ∃ j : Nat, j ≤ q ∧ i = .int .i64 j ∧ b = .bool (namedTo ns g j) ∧ InDraws wo wi) (fun _ i _ => q - (intOf i).toNat)
      case atStart => exact ⟨0, Nat.zero_le _, rfl, by rw [namedTo_zero, HB0.out], 0, rfl⟩
      case round =>
        obtain ⟨j, hj, rfl, rfl, hd⟩ := hrel
        by_cases hjq : j < q
        · obtain ⟨b3, o3, x, rfl, Hx, _, ex⟩ := (Hns2.out.on hd.below).at_ hjq
          have hcx := ex.str.1
          have e0' := cell_on hd.below e0
          have Hst := Lib.hid (namedTo_step (f := g) Hx.out)
          obtain ⟨d, hdd⟩ : ∃ d, decide (x = g) = d := ⟨_, rfl⟩
          have hbx : (x.toList == g.toList) = d := by
            rw [← hdd]
            by_cases h : x = g
            · rw [str_yes h]; simp [h]
            · rw [str_no h]; simp [h]
          have Hdd := Lib.hid hdd
          clear ex e0 e1 e2 hdd
          cases hnt : namedTo ns g j with
          | true =>
            have Hnt := Lib.hid hnt
            clear hnt
            go_wp2_with fail
            go_quiet (fail)
            go_wp2_with fail
            go_roundw
            case rel => exact ⟨j + 1, by omega, by go_num, by rw [Hst.out, Hnt.out, Hdd.out]; simp, InDraws.more hd _⟩
            case measure => simp [intOf]; omega
          | false =>
            have Hnt := Lib.hid hnt
            clear hnt
            go_wp2_with fail
            go_quiet (fail)
            go_wp2_with fail
            go_roundw
            case rel => exact ⟨j + 1, by omega, by go_num, by rw [Hst.out, Hnt.out, Hdd.out]; simp, InDraws.more hd _⟩
            case measure => simp [intOf]; omega
        · obtain rfl : j = q := by omega
          have hnm : namedTo ns g j = namedB ns e := by rw [← Hg.out]; exact namedTo_all Hlq.out
          rw [hnm]
          have hbi := hd.below
          have e0' := cell_on hbi e0
          have e1' := cell_on hbi e1
          have e2' := cell_on hbi e2
          rw [← Hg.out] at e0'
          have hb2 := Hb.out.trans (hbi.mono Hb.out.size)
          clear hnm e0 e1 e2
          cases hnb : namedB ns e with
          | false =>
            have Hnb := Lib.hid hnb
            clear hnb hbi
            go_wp2_with fail
            go_roundw
            case rel => exact ⟨k + 1, by omega, by go_num, by rw [filter_no He.out Hnb.out]; exact Hown.out.on (hd.below), hb2⟩
            case measure => simp [intOf]; omega
          | true =>
            have Hnb := Lib.hid hnb
            clear hnb
            have hown1 := Hown.out.on hbi
            have hq1 : RepList (wr.alloc (.cells #[.string e.field, .string e.text, .slice A2 n2 c2] 54)) (fun b => W0.heap.size ≤ b ∧ b < W1.heap.size) A2 n2 c2 e.numbers :=
              Q1.out.keep (fun p hp => ((hbi.alloc (hbi.size) _).cell (Nat.lt_of_lt_of_le hp.2 Hb.out.size))) (fun _ h => h)
            have hblk := Blk.new wr 54 #[.string e.field, .string e.text, .slice A2 n2 c2]
            have hrep : rep (wr.alloc (.cells #[.string e.field, .string e.text, .slice A2 n2 c2] 54)) (Fr (fun b => W0.heap.size ≤ b ∧ b < W1.heap.size) (wr.alloc (.cells #[.string e.field, .string e.text, .slice A2 n2 c2] 54)) u7) #[.string e.field, .string e.text, .slice A2 n2 c2].toList e :=
              Entry.of_cells (hq1.more (fun b h => ⟨h, by have := hb2.size; have := h.2; simp; omega, fun h' => by
                rcases hown1.from_ with h1 | ⟨k1, h1, h2⟩
                · rw [h1] at h'; cases h'
                · rw [h1] at h'; cases h'; have := h.2; omega⟩)) q2 q3
            have hfl : ((l.take k).filter (namedB ns)).length ≤ k := Nat.le_trans (List.length_filter_le _ _) (List.length_take_le _ _)
            have hb3 : Below W1.heap.size W1 (wr.alloc (.cells #[.string e.field, .string e.text, .slice A2 n2 c2] 54)) := hb2.alloc hb2.size _
            have Hown1 := Lib.hid (hown1.alloc (.cells #[.string e.field, .string e.text, .slice A2 n2 c2] 54))
            have Hblk := Lib.hid hblk
            have Hrep := Lib.hid hrep
            have Hfl := Lib.hid hfl
            have Hb3 := Lib.hid hb3
            clear hown1 hq1 hblk hrep hfl hb3 hbi
            go_wp2_with (at_builtin; refine wpList_push rfl (.tmp 44) (.tmp 49) _ rfl W1.heap.size 54 i0 _ 56 Try.underlying32 hi0 hz0 hz1 hz2 rfl u7 ((l.take k).filter (namedB ns)) rfl Hown1.out wr.heap.size #[.string e.field, .string e.text, .slice A2 n2 c2] e rfl Hblk.out Hrep.out (by have := Hfl.out; omega) (by have := Hfl.out; omega) Hb3.out.size ?_; intro v5 w5 hown5 hg5 hb5; have Hown5 := Lib.hid hown5; have hb6 := Hb3.out.trans (hb5.mono (Nat.le_refl _)); clear hown5 hg5 hb5)
            go_roundw
            case rel => exact ⟨k + 1, by omega, by go_num, by rw [filter_yes He.out Hnb.out]; exact Hown5.out, hb6⟩
            case measure => simp [intOf]; omega
    · obtain rfl : k = p := by omega
      have Hf : Hid (l.take k = l) := List.take_of_length_le (by have := Hp.out; omega)
      have hb2 := Hb01.out.trans (hb.mono Hb01.out.size)
      have Hown := Lib.hid hown
      clear hown hb
      go_wp2_with fail
      go_ret
      exact ⟨_, rfl, by rw [Hl.out, ← Hf.out]; exact (Hown.out.mono Hb01.out.size).wide (fun b h => Nat.le_trans hb0.size h.1), hb2⟩
end Go.Proofs.Ytnngapfbeappcaa

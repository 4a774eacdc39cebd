/- The texts Bytes, RFold, RStop of IterateWords, joined by program (tools/merge.py): walks of the functions that the law reaches, and plain facts; no condition. -/
import Derived.Test.YtajgoffeahfmfaaDoorPart09
import Derived.Test.YtajgoffeahfmfaaDoorRows
import Derived.Lib.AppendStr
import Derived.Lib.UnsafeStr
import Derived.Lib.Strings
import Derived.Laws.IdiomStrings
import Derived.Laws.BytesArg
import Derived.Test.YtajgoffeahfmfaaDoorPart42
import Derived.Test.YtajgoffeahfmfaaDoorPart18
import Derived.Test.YtajgoffeahfmfaaDoorPart19
import Derived.Test.YtajgoffeahfmfaaDoorPart08
import Derived.Test.YtajgoffeahfmfaaDoorPart05
set_option linter.unusedVariables false
set_option linter.unusedSimpArgs false

/- Rows of bytes of the call's own: appending bytes and texts; as a text. -/
namespace Go.Proofs.YtajgoffeahfmfaaDoor
open Rep (rep)
open Go.RowKit

/-- The slice value v, of the call's own, holds these bytes. -/
def BRow (w : World) (base : Nat) (v : Value) (l : List UInt8) : Prop := w.ownsRow base 5 1 v l.length (Lib.byteCells l)
theorem BRow.nil (w : World) (base : Nat) : BRow w base (.slice none 0 0) [] := World.ownsRow_nil _ _ _ _
theorem BRow.grown {w w' : World} {base : Nat} {v : Value} {l : List UInt8} {row : Option Nat} (h : BRow w base v l) (hg : w.grownBy w' row) (hv : v.ownBlock = none ∨ v.ownBlock ≠ row) : BRow w' base v l := World.ownsRow.kept h hg hv
theorem BRow.on {w w' : World} {base : Nat} {v : Value} {l : List UInt8} (h : BRow w base v l) (hb : Below w.heap.size w w') : BRow w' base v l := h.grown (row := none) ⟨hb.os, hb.tape, hb.output, hb.size, fun k hk _ => hb.block k hk⟩ (by cases v.ownBlock <;> simp)
theorem BRow.form {w : World} {base : Nat} {v : Value} {l : List UInt8} (h : BRow w base v l) : ∃ A c, v = .slice A l.length c := own_slice h
theorem BRow.from_ {w : World} {base : Nat} {v : Value} {l : List UInt8} (h : BRow w base v l) : v.ownBlock = none ∨ ∃ k, v.ownBlock = some k ∧ base ≤ k := own_from h
theorem byte_info : (Tryd.prog.info? 5).map (fun i => (i.zero, i.size, i.bytes)) = some (some (.int .u8 0), 1, 1) := by kernel_rfl
theorem BRow.text {w : World} {base : Nat} {v : Value} {l : List UInt8} (h : BRow w base v l) : (convert 84 9 v).run Tryd.prog w = .ok (.string ⟨l.toArray⟩) w := by
  rcases h.2 with ⟨rfl, hn⟩ | ⟨g, cap, cur, rfl, _⟩
  · have : l = [] := by simpa using hn
    subst this
    exact run_convert_bytes_nil w 84 5 Tryd.underlying84 Tryd.underlying5 0 0 9 Tryd.underlying9
  · refine run_convert_bytes_back _ 84 9 5 ⟨g, 0, none⟩ cap l Tryd.underlying84 Tryd.underlying5 Tryd.underlying9 (fun j hj => ?_)
    have hc : ∀ j u, (Lib.byteCells l)[j]? = some u → w.cell? ((⟨g, 0, none⟩ : Addr).add j) = some u := World.ownsRow.cells h (g := g) rfl
    exact hc j _ (by simp [Lib.byteCells, hj])
theorem below_of_own {base : Nat} {w w' : World} {v : Value} (hb : base ≤ w.heap.size) (hv : v.ownBlock = none ∨ ∃ k, v.ownBlock = some k ∧ base ≤ k) (hg : w.grownBy w' v.ownBlock) : Below base w w' := below_any (v' := v) (Below.refl _ _) hb hv hg

section
variable {w : World} {ops : Array Oper} {rest : List Oper} {o : Oper} {a : Act} {Q : Exit → Act → World → Prop}
/-- append(b, text...). -/
theorem wpList_text (hgd : o.guard = none) (sl x : Operand) (ho : o.op = .call { callee := .builtin .append, args := #[sl, x], argTypes := #[84, 9] })
    (base : Nat) (v : Value) (l : List UInt8) (hs : a.eval sl = v) (hown : BRow w base v l) (s : ByteArray) (hx : a.eval x = .string s) (hlen : l.length + s.size ≤ 140737488355328) (hbase : base ≤ w.heap.size)
    (h : ∀ A n c w', BRow w' base (.slice A n c) (l ++ s.data.toList) → w.grownBy w' v.ownBlock → Below base w w' → wpList Tryd.prog ops Q rest (a.put o.dst (.slice A n c)) w') : wpList Tryd.prog ops Q (o :: rest) a w := by
  obtain ⟨i0, hi, hz0, hz1, hz2⟩ := info_parts byte_info
  refine Lib.wpList_append_own_string w hgd sl x _ _ ho base 5 i0 Tryd.underlying84 Tryd.underlying9 hi hz0 hz1 hz2 v l.length (Lib.byteCells l) hs hown s hx (by unfold maxLen; omega) hlen hbase ?_
  intro v' w' ho' hg _
  rw [Lib.strCells_eq, ← Lib.byteCells_append, Lib.size_eq, ← List.length_append] at ho'
  obtain ⟨A, c, rfl⟩ := BRow.form ho'
  exact h A _ c w' ho' hg (below_of_own hbase hown.from_ hg)
/-- append(b, bytes...), the bytes known where they lie. -/
theorem wpList_bytes (hgd : o.guard = none) (sl x : Operand) (ho : o.op = .call { callee := .builtin .append, args := #[sl, x], argTypes := #[84, 84] })
    (base : Nat) (v : Value) (l : List UInt8) (hs : a.eval sl = v) (hown : BRow w base v l) (A' : Option Addr) (n' c' : Nat) (l' : List UInt8) (hx : a.eval x = .slice A' n' c') (hr : Reads w w.heap.size 1 A' n' (Lib.byteCells l')) (hlen : l.length + l'.length ≤ 140737488355328) (hbase : base ≤ w.heap.size)
    (h : ∀ A n c w', BRow w' base (.slice A n c) (l ++ l') → w.grownBy w' v.ownBlock → Below base w w' → wpList Tryd.prog ops Q rest (a.put o.dst (.slice A n c)) w') : wpList Tryd.prog ops Q (o :: rest) a w := by
  obtain ⟨i0, hi, hz0, hz1, hz2⟩ := info_parts byte_info
  have hn : l'.length = n' := by have := hr.1; rw [Lib.byteCells_length] at this; omega
  refine wpList_append_any w hgd sl x _ ho base 5 i0 _ 1 1 Tryd.underlying84 hi hz0 hz1 hz2 rfl (by omega) v l.length (Lib.byteCells l) hs hown w.heap.size A' n' c' (Lib.byteCells l') hx hr (fun u hu => by
    unfold Lib.byteCells at hu; obtain ⟨_, _, rfl⟩ := List.mem_map.1 hu; rfl) (by unfold maxLen; omega) (by omega) hbase ?_
  intro v' w' ho' hg _
  rw [← Lib.byteCells_append, ← hn, ← List.length_append] at ho'
  obtain ⟨A, c, rfl⟩ := BRow.form ho'
  exact h A _ c w' ho' hg (below_of_own hbase hown.from_ hg)
end
/-- Bytes in a block that has just been laid. -/
theorem reads_bytes (w : World) (l : List UInt8) : Reads (w.alloc (.cells (Lib.byteCells l).toArray 5)) (w.alloc (.cells (Lib.byteCells l).toArray 5)).heap.size 1 (some ⟨w.heap.size, 0, none⟩) l.length (Lib.byteCells l) := by
  have := reads_new w (Lib.byteCells l).toArray 5 l.length 1 (by simp [Lib.byteCells_length])
  simpa using this
end Go.Proofs.YtajgoffeahfmfaaDoor

/- The walk of lecternref05.Fold. -/
namespace Go.Proofs.YtajgoffeahfmfaaDoor
open Rep (rep)
open Go.RowKit

theorem lower_valid (r : Int) (h0 : 0 ≤ r) (h1 : r ≤ 0x10FFFF) (h : lowerR r ≠ r) : Utf8.valid (lowerR r) = true := by
  have : r ≤ 0x52F ∧ 0 ≤ lowerR r ∧ lowerR r ≤ 0x600 := by
    revert h
    unfold lowerR
    simp only [among_iff1, among_iff3, among_iff6]
    repeat (split; · intro _; omega)
    intro h
    exact absurd rfl h
  simp [Utf8.valid]
  omega

set_option maxRecDepth 100000 in
set_option maxHeartbeats 2000000 in
theorem rfold_any (s : ByteArray) (hs : s.size ≤ 17592186044000) (w : World) :
    Calls Tryd.prog 61 #[.string s] w fun e w' => e = .returned (.string (foldS s)) ∧ Below w.heap.size w w' := by
  have hal := ats_len s
  go_enter Tryd.func61, Tryd.ntmps61
  go_wp2
  go_loopw [3, 4] (fun v j wr => ∃ (pre : List Nat) (k : Nat), k ≤ s.size ∧ j = .int .i64 k ∧ ats s = pre ++ atsFrom s k ∧ BRow wr w.heap.size v (pre.flatMap (foldAt s)) ∧ Below w.heap.size w wr) (fun _ j _ => s.size - (intOf j).toNat)
  case atStart => exact ⟨[], 0, Nat.zero_le _, rfl, rfl, BRow.nil _ _, Below.refl _ _⟩
  case round =>
    obtain ⟨pre, k, hk, rfl, hat, ov, hbw⟩ := hrel
    obtain ⟨L, hL⟩ : ∃ L, pre.flatMap (foldAt s) = L := ⟨_, rfl⟩
    have hpl : pre.length ≤ s.size := by
      have := congrArg List.length hat
      simp at this; omega
    have hfl := flat_len s pre
    rw [hL] at hfl ov
    obtain ⟨A1, c1, rfl⟩ := ov.form
    have HL := Lib.hid hL
    have Hov := Lib.hid ov
    have HB := Lib.hid hbw
    have Hat := Lib.hid hat
    have hsz := hbw.size
    clear hL ov hbw hat
    by_cases hlt : k < s.size
    · have hwf := wd_fit hlt
      have hwp := wd_pos hlt
      have hw4 := wd_le s k
      have hrn := rn_le s k
      obtain ⟨ru, hru⟩ : ∃ ru : Nat, rn s k = ru := ⟨_, rfl⟩
      obtain ⟨q, hq⟩ : ∃ q, lowerR (ru : Int) = q := ⟨_, rfl⟩
      have hlv := lower_valid (ru : Int) (by omega) (by omega)
      have hnx := fun W => rnext_any s k hlt (by omega) W
      rw [hru] at hrn hnx
      rw [hq] at hlv
      have Hru := Lib.hid hru
      have Hq := Lib.hid hq
      have Hnx := Lib.hid hnx
      have Hes : Hid ((s.extract k (k + wd s k)).size = wd s k) := by show _ = _; rw [ByteArray.size_extract]; omega
      clear hru hq hnx
      by_cases heq : q = (ru : Int)
      · have Hfin : Hid (foldAt s k = (s.extract k (k + wd s k)).data.toList) := by show _ = _; unfold foldAt; rw [Hru.out, Hq.out, if_pos heq]
        subst heq
        clear hlv
        go_wp2_with (first
          | (go_at_call 58
             go_must (refine (Hnx.out _).mono ?_)
             rintro e w1 ⟨rfl, hb1⟩
             have hs1 := hb1.size
             have Hov1 := Lib.hid (Hov.out.on hb1)
             have Hb1 := Lib.hid hb1
             clear hb1)
          | (go_at_call 77
             go_must (refine (rlower_any (ru : Int) (by omega) (by omega) _).mono ?_)
             rw [Hq.out]
             rintro e w2 ⟨rfl, hb2⟩
             have hs2 := hb2.size
             have Hov2 := Lib.hid (Hov1.out.on hb2)
             have Hb2 := Lib.hid hb2
             clear hb2)
          | (at_builtin
             go_must (refine wpList_text rfl (.tmp 26) (.tmp 32) rfl w.heap.size _ L rfl Hov2.out (s.extract k (k + wd s k)) rfl (by have := Hes.out; omega) (by omega) ?_)
             intro A3 n3 c3 w3 ho3 hg3 hb3
             have Ho3 := Lib.hid ho3
             have Hb3 := Lib.hid hb3
             clear ho3 hg3 hb3))
        go_roundw
        case rel => exact ⟨pre ++ [k], k + wd s k, by omega, by go_num, by rw [Hat.out, atsFrom_cons hlt]; simp, by rw [List.flatMap_append, List.flatMap_singleton, Hfin.out, HL.out]; exact Ho3.out, HB.out.trans (((Hb1.out.mono hsz).trans (Hb2.out.mono (by omega))).trans Hb3.out)⟩
        case measure => simp [intOf]; omega
      · have Hfin : Hid (foldAt s k = Lib.encodeRune q) := by show _ = _; unfold foldAt; rw [Hru.out, Hq.out, if_neg heq]
        have hv := hlv heq
        have hne : (q != (ru : Int)) = true := by simpa using heq
        have Hv := Lib.hid hv
        have h4 := Lib.runeCells_le q
        rw [Lib.runeCells_length] at h4
        clear hlv heq hv
        go_wp2_with (first
          | (go_at_call 58
             go_must (refine (Hnx.out _).mono ?_)
             rintro e w1 ⟨rfl, hb1⟩
             have hs1 := hb1.size
             have Hov1 := Lib.hid (Hov.out.on hb1)
             have Hb1 := Lib.hid hb1
             have tok : True := trivial
             clear hb1)
          | (go_at_call 77
             have _t := tok
             go_must (refine (rlower_any (ru : Int) (by omega) (by omega) _).mono ?_)
             rw [Hq.out]
             rintro e w2 ⟨rfl, hb2⟩
             have hs2 := hb2.size
             have Hov2 := Lib.hid (Hov1.out.on hb2)
             have Hb2 := Lib.hid hb2
             clear hb2 tok)
          | (go_at_call 77
             go_must (refine (rlower_any (ru : Int) (by omega) (by omega) _).mono ?_)
             rw [Hq.out]
             rintro e w4 ⟨rfl, hb4⟩
             have hs4 := hb4.size
             have Hov4 := Lib.hid (Hov2.out.on hb4)
             have Hb4 := Lib.hid hb4
             clear hb4)
          | (go_at_call 73
             go_must (refine (form_is q (Lib.encodeRune q) Hv.out rfl _).mono ?_)
             rintro e w5 ⟨rfl, rfl⟩
             have Hov5 := Lib.hid (Hov4.out.on ((Below.refl _ w4).alloc (Nat.le_refl _) (.cells (Lib.byteCells (Lib.encodeRune q)).toArray 5))))
          | (at_builtin
             go_must (refine wpList_bytes rfl (.tmp 21) (.tmp 24) rfl w.heap.size _ L rfl Hov5.out _ _ _ (Lib.encodeRune q) rfl (reads_bytes w4 (Lib.encodeRune q)) (by omega) (by simp; omega) ?_)
             intro A3 n3 c3 w3 ho3 hg3 hb3
             have Ho3 := Lib.hid ho3
             have Hb3 := Lib.hid hb3
             clear ho3 hg3 hb3))
        go_roundw
        case rel => exact ⟨pre ++ [k], k + wd s k, by omega, by go_num, by rw [Hat.out, atsFrom_cons hlt]; simp, by rw [List.flatMap_append, List.flatMap_singleton, Hfin.out, HL.out]; exact Ho3.out, HB.out.trans (((((Hb1.out.mono hsz).trans (Hb2.out.mono (by omega))).trans (Hb4.out.mono (by omega))).alloc (by omega) _).trans Hb3.out)⟩
        case measure => simp [intOf]; omega
    · have hfin : Hid (ats s = pre) := by show _ = _; rw [Hat.out, atsFrom_nil (by omega), List.append_nil]
      have htx := Hov.out.text
      go_wp2
      go_ret
      refine ⟨?_, HB.out⟩
      unfold foldS foldL
      rw [hfin.out, HL.out]
      rfl
end Go.Proofs.YtajgoffeahfmfaaDoor

/- The walk of lecternref06.Stop. -/
namespace Go.Proofs.YtajgoffeahfmfaaDoor
open Rep (rep)
open Go.RowKit

def stopT : List ByteArray := stopW.map fun l => ⟨l.toArray⟩
theorem stopB_iff (s : ByteArray) : stopB s = true ↔ s ∈ stopT := by
  unfold stopB stopT
  rw [List.contains_iff_mem, List.mem_map]
  constructor
  · intro h; exact ⟨_, h, text_ext rfl⟩
  · rintro ⟨l, h, rfl⟩; exact h
/-- A row of texts in a block that has just been laid. -/
theorem reads_texts (w : World) (e : TypeId) (n : Nat) (xs : List ByteArray) (h : xs.length = n) (hn : n ≤ 100000) (hx : ∀ x ∈ xs, x.size ≤ 9223372036854775807) : RepList (w.alloc (.cells (xs.map Value.string).toArray e)) (· < (w.alloc (.cells (xs.map Value.string).toArray e)).heap.size) (some ⟨w.heap.size, 0, none⟩) n n xs := by
  refine RepList.of_blk (css := xs.map fun x => [Value.string x]) (Blk.new w e _) ?_ (by simp) (fun k c x h1 h2 => ?_) (by simp) (by simp [h]) (Nat.le_refl _) (by omega)
  · clear h hn hx
    induction xs with
    | nil => rfl
    | cons a l ih => simp at ih ⊢; exact ih
  · rw [List.getElem?_map, h2] at h1
    simp at h1
    subst h1
    exact ⟨rfl, hx x (List.mem_of_getElem? h2)⟩
theorem stopT_small : ∀ x ∈ stopT, x.size ≤ 9223372036854775807 := by
  intro x hx
  unfold stopT at hx
  obtain ⟨l, hl, rfl⟩ := List.mem_map.1 hx
  have : ∀ l ∈ stopW, l.length ≤ 10 := by decide
  have := this l hl
  simp [ByteArray.size]
  omega

set_option maxRecDepth 100000 in
set_option maxHeartbeats 1000000 in
theorem rstop_any (s : ByteArray) (w : World) : Calls Tryd.prog 62 #[.string s] w fun e w' => e = .returned (.bool (stopB s)) ∧ Below w.heap.size w w' := by
  have hr := reads_texts w 9 33 stopT rfl (by omega) stopT_small
  obtain ⟨q, hq⟩ : ∃ q, stopB s = q := ⟨_, rfl⟩
  have hqi := stopB_iff s
  rw [hq] at hqi ⊢
  have Hr := Lib.hid hr
  have Hqi := Lib.hid hqi
  have hb : Below w.heap.size w (w.alloc (.cells (stopT.map Value.string).toArray 9)) := (Below.refl _ _).alloc (Nat.le_refl _) _
  have HB := Lib.hid hb
  clear hr hq hqi hb
  go_enter Tryd.func62, Tryd.ntmps62
  go_wp2
  generalize hW : w.alloc _ = W
  have HB : Hid (Below w.heap.size w W) := by rw [← hW]; exact HB.out
  have Hr : Hid (RepList W (· < W.heap.size) (some ⟨w.heap.size, 0, none⟩) 33 33 stopT) := by rw [← hW]; exact Hr.out
  clear hW
  go_loop [4] (fun i => ∃ k : Nat, k ≤ 33 ∧ i = .int .i64 k ∧ ∀ j x, j < k → stopT[j]? = some x → x ≠ s) (fun i => 33 - (intOf i).toNat)
  case atStart => exact ⟨0, by omega, rfl, fun j x h => by omega⟩
  case round =>
    obtain ⟨k, hk, rfl, hno⟩ := hrel
    have Hno := Lib.hid hno
    clear hno
    by_cases hlt : k < 33
    · obtain ⟨x, hx, he⟩ := Hr.out.at_b hlt
      have hc := he.str.1
      simp only [Nat.zero_add] at hc
      clear he
      by_cases hxs : x = s
      · have hfin : Hid (true = q) := by
          show _ = _
          rw [Hqi.out.2 (by rw [← hxs]; exact List.mem_of_getElem? hx.out)]
        have h1 : (x.toList == s.toList) = true := by simp [hxs]
        clear hxs
        go_wp2
        go_ret
        exact ⟨ret_bool hfin.out, HB.out⟩
      · have h1 : (x.toList == s.toList) = false := by
          rw [beq_eq_false_iff_ne, ByteArray.toList_eq, ByteArray.toList_eq]
          exact fun e => hxs (text_ext e)
        have hn2 : Hid (∀ j y, j < k + 1 → stopT[j]? = some y → y ≠ s) := by
          intro j y hj hy
          rcases Nat.lt_or_ge j k with h | h
          · exact Hno.out j y h hy
          · obtain rfl : j = k := by omega
            rw [hx.out] at hy; cases hy; exact hxs
        clear hxs
        go_wp2
        go_round
        case rel => exact ⟨k + 1, by omega, by go_num, hn2.out⟩
        case measure => simp [intOf]; omega
    · have hfin : Hid (false = q) := by
        show _ = _
        cases q with
        | false => rfl
        | true =>
          obtain ⟨j, hj⟩ := List.getElem?_of_mem (Hqi.out.1 rfl)
          have : j < 33 := lt_of_get? hj
          exact absurd rfl (Hno.out j s (by omega) hj)
      go_wp2
      go_ret
      exact ⟨ret_bool hfin.out, HB.out⟩
end Go.Proofs.YtajgoffeahfmfaaDoor

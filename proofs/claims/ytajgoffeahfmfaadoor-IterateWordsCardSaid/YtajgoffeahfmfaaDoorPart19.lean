/- The texts StopPlain, Stop of IterateWords, joined by program (tools/merge.py): walks of the functions that the law reaches, and plain facts; no condition. -/
import Derived.Test.YtajgoffeahfmfaaDoorPart02
import Derived.Test.YtajgoffeahfmfaaDoorPart05
set_option linter.unusedVariables false
set_option linter.unusedSimpArgs false

/- Words that stop: plain. No program stands here. -/
namespace Go.Proofs.YtajgoffeahfmfaaDoor
open Rep (rep)
open Go.RowKit

def stopW : List (List UInt8) := [[97], [97, 110], [97, 110, 100], [97, 114, 101], [97, 115], [97, 116], [98, 101], [98, 117, 116], [98, 121], [102, 111, 114], [105, 102], [105, 110], [105, 110, 116, 111], [105, 115], [105, 116], [110, 111], [110, 111, 116], [111, 102], [111, 110], [111, 114], [115, 117, 99, 104], [116, 104, 97, 116], [116, 104, 101], [116, 104, 101, 105, 114], [116, 104, 101, 110], [116, 104, 101, 114, 101], [116, 104, 101, 115, 101], [116, 104, 101, 121], [116, 104, 105, 115], [116, 111], [119, 97, 115], [119, 105, 108, 108], [119, 105, 116, 104]]
def stopB (s : ByteArray) : Bool := stopW.contains s.data.toList
theorem text_ext {a b : ByteArray} (h : a.data.toList = b.data.toList) : a = b := by
  cases a; cases b
  simp only [ByteArray.mk.injEq]
  exact Array.ext' h
theorem stop_cases (s : ByteArray) (h : stopB s = true) : s = ⟨#[97]⟩ ∨ s = ⟨#[97, 110]⟩ ∨ s = ⟨#[97, 110, 100]⟩ ∨ s = ⟨#[97, 114, 101]⟩ ∨ s = ⟨#[97, 115]⟩ ∨ s = ⟨#[97, 116]⟩ ∨ s = ⟨#[98, 101]⟩ ∨ s = ⟨#[98, 117, 116]⟩ ∨ s = ⟨#[98, 121]⟩ ∨ s = ⟨#[102, 111, 114]⟩ ∨ s = ⟨#[105, 102]⟩ ∨ s = ⟨#[105, 110]⟩ ∨ s = ⟨#[105, 110, 116, 111]⟩ ∨ s = ⟨#[105, 115]⟩ ∨ s = ⟨#[105, 116]⟩ ∨ s = ⟨#[110, 111]⟩ ∨ s = ⟨#[110, 111, 116]⟩ ∨ s = ⟨#[111, 102]⟩ ∨ s = ⟨#[111, 110]⟩ ∨ s = ⟨#[111, 114]⟩ ∨ s = ⟨#[115, 117, 99, 104]⟩ ∨ s = ⟨#[116, 104, 97, 116]⟩ ∨ s = ⟨#[116, 104, 101]⟩ ∨ s = ⟨#[116, 104, 101, 105, 114]⟩ ∨ s = ⟨#[116, 104, 101, 110]⟩ ∨ s = ⟨#[116, 104, 101, 114, 101]⟩ ∨ s = ⟨#[116, 104, 101, 115, 101]⟩ ∨ s = ⟨#[116, 104, 101, 121]⟩ ∨ s = ⟨#[116, 104, 105, 115]⟩ ∨ s = ⟨#[116, 111]⟩ ∨ s = ⟨#[119, 97, 115]⟩ ∨ s = ⟨#[119, 105, 108, 108]⟩ ∨ s = ⟨#[119, 105, 116, 104]⟩ := by
  unfold stopB stopW at h
  simp only [List.contains_cons, List.contains_nil, Bool.or_eq_true, beq_iff_eq, Bool.false_eq_true, or_false] at h
  rcases h with h | h | h | h | h | h | h | h | h | h | h | h | h | h | h | h | h | h | h | h | h | h | h | h | h | h | h | h | h | h | h | h | h
  · exact .inl (text_ext h)
  · exact .inr (.inl (text_ext h))
  · exact .inr (.inr (.inl (text_ext h)))
  · exact .inr (.inr (.inr (.inl (text_ext h))))
  · exact .inr (.inr (.inr (.inr (.inl (text_ext h)))))
  · exact .inr (.inr (.inr (.inr (.inr (.inl (text_ext h))))))
  · exact .inr (.inr (.inr (.inr (.inr (.inr (.inl (text_ext h)))))))
  · exact .inr (.inr (.inr (.inr (.inr (.inr (.inr (.inl (text_ext h))))))))
  · exact .inr (.inr (.inr (.inr (.inr (.inr (.inr (.inr (.inl (text_ext h)))))))))
  · exact .inr (.inr (.inr (.inr (.inr (.inr (.inr (.inr (.inr (.inl (text_ext h))))))))))
  · exact .inr (.inr (.inr (.inr (.inr (.inr (.inr (.inr (.inr (.inr (.inl (text_ext h)))))))))))
  · exact .inr (.inr (.inr (.inr (.inr (.inr (.inr (.inr (.inr (.inr (.inr (.inl (text_ext h))))))))))))
  · exact .inr (.inr (.inr (.inr (.inr (.inr (.inr (.inr (.inr (.inr (.inr (.inr (.inl (text_ext h)))))))))))))
  · exact .inr (.inr (.inr (.inr (.inr (.inr (.inr (.inr (.inr (.inr (.inr (.inr (.inr (.inl (text_ext h))))))))))))))
  · exact .inr (.inr (.inr (.inr (.inr (.inr (.inr (.inr (.inr (.inr (.inr (.inr (.inr (.inr (.inl (text_ext h)))))))))))))))
  · exact .inr (.inr (.inr (.inr (.inr (.inr (.inr (.inr (.inr (.inr (.inr (.inr (.inr (.inr (.inr (.inl (text_ext h))))))))))))))))
  · exact .inr (.inr (.inr (.inr (.inr (.inr (.inr (.inr (.inr (.inr (.inr (.inr (.inr (.inr (.inr (.inr (.inl (text_ext h)))))))))))))))))
  · exact .inr (.inr (.inr (.inr (.inr (.inr (.inr (.inr (.inr (.inr (.inr (.inr (.inr (.inr (.inr (.inr (.inr (.inl (text_ext h))))))))))))))))))
  · exact .inr (.inr (.inr (.inr (.inr (.inr (.inr (.inr (.inr (.inr (.inr (.inr (.inr (.inr (.inr (.inr (.inr (.inr (.inl (text_ext h)))))))))))))))))))
  · exact .inr (.inr (.inr (.inr (.inr (.inr (.inr (.inr (.inr (.inr (.inr (.inr (.inr (.inr (.inr (.inr (.inr (.inr (.inr (.inl (text_ext h))))))))))))))))))))
  · exact .inr (.inr (.inr (.inr (.inr (.inr (.inr (.inr (.inr (.inr (.inr (.inr (.inr (.inr (.inr (.inr (.inr (.inr (.inr (.inr (.inl (text_ext h)))))))))))))))))))))
  · exact .inr (.inr (.inr (.inr (.inr (.inr (.inr (.inr (.inr (.inr (.inr (.inr (.inr (.inr (.inr (.inr (.inr (.inr (.inr (.inr (.inr (.inl (text_ext h))))))))))))))))))))))
  · exact .inr (.inr (.inr (.inr (.inr (.inr (.inr (.inr (.inr (.inr (.inr (.inr (.inr (.inr (.inr (.inr (.inr (.inr (.inr (.inr (.inr (.inr (.inl (text_ext h)))))))))))))))))))))))
  · exact .inr (.inr (.inr (.inr (.inr (.inr (.inr (.inr (.inr (.inr (.inr (.inr (.inr (.inr (.inr (.inr (.inr (.inr (.inr (.inr (.inr (.inr (.inr (.inl (text_ext h))))))))))))))))))))))))
  · exact .inr (.inr (.inr (.inr (.inr (.inr (.inr (.inr (.inr (.inr (.inr (.inr (.inr (.inr (.inr (.inr (.inr (.inr (.inr (.inr (.inr (.inr (.inr (.inr (.inl (text_ext h)))))))))))))))))))))))))
  · exact .inr (.inr (.inr (.inr (.inr (.inr (.inr (.inr (.inr (.inr (.inr (.inr (.inr (.inr (.inr (.inr (.inr (.inr (.inr (.inr (.inr (.inr (.inr (.inr (.inr (.inl (text_ext h))))))))))))))))))))))))))
  · exact .inr (.inr (.inr (.inr (.inr (.inr (.inr (.inr (.inr (.inr (.inr (.inr (.inr (.inr (.inr (.inr (.inr (.inr (.inr (.inr (.inr (.inr (.inr (.inr (.inr (.inr (.inl (text_ext h)))))))))))))))))))))))))))
  · exact .inr (.inr (.inr (.inr (.inr (.inr (.inr (.inr (.inr (.inr (.inr (.inr (.inr (.inr (.inr (.inr (.inr (.inr (.inr (.inr (.inr (.inr (.inr (.inr (.inr (.inr (.inr (.inl (text_ext h))))))))))))))))))))))))))))
  · exact .inr (.inr (.inr (.inr (.inr (.inr (.inr (.inr (.inr (.inr (.inr (.inr (.inr (.inr (.inr (.inr (.inr (.inr (.inr (.inr (.inr (.inr (.inr (.inr (.inr (.inr (.inr (.inr (.inl (text_ext h)))))))))))))))))))))))))))))
  · exact .inr (.inr (.inr (.inr (.inr (.inr (.inr (.inr (.inr (.inr (.inr (.inr (.inr (.inr (.inr (.inr (.inr (.inr (.inr (.inr (.inr (.inr (.inr (.inr (.inr (.inr (.inr (.inr (.inr (.inl (text_ext h))))))))))))))))))))))))))))))
  · exact .inr (.inr (.inr (.inr (.inr (.inr (.inr (.inr (.inr (.inr (.inr (.inr (.inr (.inr (.inr (.inr (.inr (.inr (.inr (.inr (.inr (.inr (.inr (.inr (.inr (.inr (.inr (.inr (.inr (.inr (.inl (text_ext h)))))))))))))))))))))))))))))))
  · exact .inr (.inr (.inr (.inr (.inr (.inr (.inr (.inr (.inr (.inr (.inr (.inr (.inr (.inr (.inr (.inr (.inr (.inr (.inr (.inr (.inr (.inr (.inr (.inr (.inr (.inr (.inr (.inr (.inr (.inr (.inr (.inl (text_ext h))))))))))))))))))))))))))))))))
  · exact .inr (.inr (.inr (.inr (.inr (.inr (.inr (.inr (.inr (.inr (.inr (.inr (.inr (.inr (.inr (.inr (.inr (.inr (.inr (.inr (.inr (.inr (.inr (.inr (.inr (.inr (.inr (.inr (.inr (.inr (.inr (.inr ((text_ext h)))))))))))))))))))))))))))))))))
end Go.Proofs.YtajgoffeahfmfaaDoor

/- The walk of analysis.Stop. -/
namespace Go.Proofs.YtajgoffeahfmfaaDoor
open Rep (rep)
open Go.RowKit

set_option maxRecDepth 100000 in
set_option maxHeartbeats 4000000 in
theorem stop_yes (s : ByteArray) (hs : stopB s = true) (w : World) : Calls Tryd.prog 65 #[.string s] w fun e w' => e = .returned (.bool true) ∧ w = w' := by
  rcases stop_cases s hs with rfl | rfl | rfl | rfl | rfl | rfl | rfl | rfl | rfl | rfl | rfl | rfl | rfl | rfl | rfl | rfl | rfl | rfl | rfl | rfl | rfl | rfl | rfl | rfl | rfl | rfl | rfl | rfl | rfl | rfl | rfl | rfl | rfl
  all_goals
    clear hs
    go_enter Tryd.func65, Tryd.ntmps65
    go_wp2
    go_ret
    exact ⟨rfl, rfl⟩
set_option maxRecDepth 100000 in
set_option maxHeartbeats 4000000 in
theorem stop_no (s : ByteArray) (hs : stopB s = false) (w : World) : Calls Tryd.prog 65 #[.string s] w fun e w' => e = .returned (.bool false) ∧ w = w' := by
  have h0 : (s.toList == [97]) = false := by
    rw [beq_eq_false_iff_ne, ByteArray.toList_eq]; intro e; rw [stopB, e] at hs; revert hs; decide
  have h1 : (s.toList == [97, 110]) = false := by
    rw [beq_eq_false_iff_ne, ByteArray.toList_eq]; intro e; rw [stopB, e] at hs; revert hs; decide
  have h2 : (s.toList == [97, 110, 100]) = false := by
    rw [beq_eq_false_iff_ne, ByteArray.toList_eq]; intro e; rw [stopB, e] at hs; revert hs; decide
  have h3 : (s.toList == [97, 114, 101]) = false := by
    rw [beq_eq_false_iff_ne, ByteArray.toList_eq]; intro e; rw [stopB, e] at hs; revert hs; decide
  have h4 : (s.toList == [97, 115]) = false := by
    rw [beq_eq_false_iff_ne, ByteArray.toList_eq]; intro e; rw [stopB, e] at hs; revert hs; decide
  have h5 : (s.toList == [97, 116]) = false := by
    rw [beq_eq_false_iff_ne, ByteArray.toList_eq]; intro e; rw [stopB, e] at hs; revert hs; decide
  have h6 : (s.toList == [98, 101]) = false := by
    rw [beq_eq_false_iff_ne, ByteArray.toList_eq]; intro e; rw [stopB, e] at hs; revert hs; decide
  have h7 : (s.toList == [98, 117, 116]) = false := by
    rw [beq_eq_false_iff_ne, ByteArray.toList_eq]; intro e; rw [stopB, e] at hs; revert hs; decide
  have h8 : (s.toList == [98, 121]) = false := by
    rw [beq_eq_false_iff_ne, ByteArray.toList_eq]; intro e; rw [stopB, e] at hs; revert hs; decide
  have h9 : (s.toList == [102, 111, 114]) = false := by
    rw [beq_eq_false_iff_ne, ByteArray.toList_eq]; intro e; rw [stopB, e] at hs; revert hs; decide
  have h10 : (s.toList == [105, 102]) = false := by
    rw [beq_eq_false_iff_ne, ByteArray.toList_eq]; intro e; rw [stopB, e] at hs; revert hs; decide
  have h11 : (s.toList == [105, 110]) = false := by
    rw [beq_eq_false_iff_ne, ByteArray.toList_eq]; intro e; rw [stopB, e] at hs; revert hs; decide
  have h12 : (s.toList == [105, 110, 116, 111]) = false := by
    rw [beq_eq_false_iff_ne, ByteArray.toList_eq]; intro e; rw [stopB, e] at hs; revert hs; decide
  have h13 : (s.toList == [105, 115]) = false := by
    rw [beq_eq_false_iff_ne, ByteArray.toList_eq]; intro e; rw [stopB, e] at hs; revert hs; decide
  have h14 : (s.toList == [105, 116]) = false := by
    rw [beq_eq_false_iff_ne, ByteArray.toList_eq]; intro e; rw [stopB, e] at hs; revert hs; decide
  have h15 : (s.toList == [110, 111]) = false := by
    rw [beq_eq_false_iff_ne, ByteArray.toList_eq]; intro e; rw [stopB, e] at hs; revert hs; decide
  have h16 : (s.toList == [110, 111, 116]) = false := by
    rw [beq_eq_false_iff_ne, ByteArray.toList_eq]; intro e; rw [stopB, e] at hs; revert hs; decide
  have h17 : (s.toList == [111, 102]) = false := by
    rw [beq_eq_false_iff_ne, ByteArray.toList_eq]; intro e; rw [stopB, e] at hs; revert hs; decide
  have h18 : (s.toList == [111, 110]) = false := by
    rw [beq_eq_false_iff_ne, ByteArray.toList_eq]; intro e; rw [stopB, e] at hs; revert hs; decide
  have h19 : (s.toList == [111, 114]) = false := by
    rw [beq_eq_false_iff_ne, ByteArray.toList_eq]; intro e; rw [stopB, e] at hs; revert hs; decide
  have h20 : (s.toList == [115, 117, 99, 104]) = false := by
    rw [beq_eq_false_iff_ne, ByteArray.toList_eq]; intro e; rw [stopB, e] at hs; revert hs; decide
  have h21 : (s.toList == [116, 104, 97, 116]) = false := by
    rw [beq_eq_false_iff_ne, ByteArray.toList_eq]; intro e; rw [stopB, e] at hs; revert hs; decide
  have h22 : (s.toList == [116, 104, 101]) = false := by
    rw [beq_eq_false_iff_ne, ByteArray.toList_eq]; intro e; rw [stopB, e] at hs; revert hs; decide
  have h23 : (s.toList == [116, 104, 101, 105, 114]) = false := by
    rw [beq_eq_false_iff_ne, ByteArray.toList_eq]; intro e; rw [stopB, e] at hs; revert hs; decide
  have h24 : (s.toList == [116, 104, 101, 110]) = false := by
    rw [beq_eq_false_iff_ne, ByteArray.toList_eq]; intro e; rw [stopB, e] at hs; revert hs; decide
  have h25 : (s.toList == [116, 104, 101, 114, 101]) = false := by
    rw [beq_eq_false_iff_ne, ByteArray.toList_eq]; intro e; rw [stopB, e] at hs; revert hs; decide
  have h26 : (s.toList == [116, 104, 101, 115, 101]) = false := by
    rw [beq_eq_false_iff_ne, ByteArray.toList_eq]; intro e; rw [stopB, e] at hs; revert hs; decide
  have h27 : (s.toList == [116, 104, 101, 121]) = false := by
    rw [beq_eq_false_iff_ne, ByteArray.toList_eq]; intro e; rw [stopB, e] at hs; revert hs; decide
  have h28 : (s.toList == [116, 104, 105, 115]) = false := by
    rw [beq_eq_false_iff_ne, ByteArray.toList_eq]; intro e; rw [stopB, e] at hs; revert hs; decide
  have h29 : (s.toList == [116, 111]) = false := by
    rw [beq_eq_false_iff_ne, ByteArray.toList_eq]; intro e; rw [stopB, e] at hs; revert hs; decide
  have h30 : (s.toList == [119, 97, 115]) = false := by
    rw [beq_eq_false_iff_ne, ByteArray.toList_eq]; intro e; rw [stopB, e] at hs; revert hs; decide
  have h31 : (s.toList == [119, 105, 108, 108]) = false := by
    rw [beq_eq_false_iff_ne, ByteArray.toList_eq]; intro e; rw [stopB, e] at hs; revert hs; decide
  have h32 : (s.toList == [119, 105, 116, 104]) = false := by
    rw [beq_eq_false_iff_ne, ByteArray.toList_eq]; intro e; rw [stopB, e] at hs; revert hs; decide
  clear hs
  go_enter Tryd.func65, Tryd.ntmps65
  go_wp2
  go_ret
  exact ⟨rfl, rfl⟩
end Go.Proofs.YtajgoffeahfmfaaDoor

/- The texts WeightsWalk of ScoreWeights, joined by program (tools/merge.py): walks of the functions that the law reaches, and plain facts; no condition. -/
import Derived.Test.YtblfelhnljdgnaaGreatDoorWPart12
import Derived.Lib.Hide
import Derived.WalkKit
import Derived.ProofKit
import Derived.OpenShut
import Derived.ChangeOld
import Derived.Below
import Derived.SizedLaws
set_option linter.unusedVariables false
set_option linter.unusedSimpArgs false

/-
  ScoreWeights: the walk, in range.
-/
namespace Go.Proofs.YtblfelhnljdgnaaGreatDoor.scoreWeights
open Go ScoreMath Ev
open Go.ChangeShapes Go.WideShapes Go.ChangeAt Go.RowKit
set_option linter.unusedVariables false
set_option linter.unusedSimpArgs false
theorem below_drewN {B : Nat} {w v : World} (h : Below B w v) : ∀ n, Below B w (v.drewN n)
  | 0 => h
  | n + 1 => (below_drewN h n).trans ⟨rfl, rfl, rfl, Nat.le_refl _, fun _ _ => rfl⟩
set_option maxHeartbeats 2000000 in
theorem within (a0 a1 a2 a3 a4 R R1 R2 R3 M : Int) (w : World) (HT : Hid (Known w))
    (HE : Hid (wtR a0 a1 a2 a3 a4 = R ∧ wtR (a0 + 1) a1 a2 a3 a4 = R1 ∧ wtR a0 (a1 + 1) a2 a3 a4 = R2 ∧ wtR a0 a1 (a2 + 1) a3 a4 = R3))
    (h0 : ¬ a0 < 0) (h1 : ¬ 1099511627776 ≤ a0) (h2 : ¬ a1 < 1) (h3 : ¬ 1048576 ≤ a1) (h4 : ¬ a2 < 1) (h5 : ¬ 1048576 ≤ a2) (h6 : ¬ a3 < 1) (h7 : ¬ 1048576 < a3) (h8 : ¬ a4 < 1) (h9 : ¬ 1099511627776 < a4)
    (k0 : 0 ≤ R) (k1 : R ≤ R1) (k2 : R ≤ R2) (k3 : R3 ≤ R) (k4 : R ≤ M) (hM : (a0 * 22).tdiv 10 = M) (hM2 : M ≤ 9223372036854775807) :
    Calls Tryz.prog 3 #[.int .i64 a0, .int .i64 a1, .int .i64 a2, .int .i64 a3, .int .i64 a4] w fun e w' => e = .returned (.bool true) ∧ Below w.heap.size w w' := by
  have hk0 : ¬ R < 0 := by omega
  go_enter Tryz.func3, Tryz.ntmps3
  go_wp2_with fail
  refine (known_any HT).mono ?_
  rintro e w1 ⟨rfl, hb1⟩
  go_wp2_with fail
  refine (weight_any _ _ _ _ _ (by omega) (by omega) (by omega) (by omega) (by omega) _).mono ?_
  rintro e w' ⟨rfl, n0, rfl⟩
  rw [(show _ ∧ _ from HE).1]
  go_wp2_with fail
  refine (weight_any _ _ _ _ _ (by omega) (by omega) (by omega) (by omega) (by omega) _).mono ?_
  rintro e w' ⟨rfl, n1, rfl⟩
  rw [(show _ ∧ _ from HE).2.1]
  go_wp2_with fail
  refine (weight_any _ _ _ _ _ (by omega) (by omega) (by omega) (by omega) (by omega) _).mono ?_
  rintro e w' ⟨rfl, n2, rfl⟩
  rw [(show _ ∧ _ from HE).2.2.1]
  go_wp2_with fail
  refine (weight_any _ _ _ _ _ (by omega) (by omega) (by omega) (by omega) (by omega) _).mono ?_
  rintro e w' ⟨rfl, n3, rfl⟩
  rw [(show _ ∧ _ from HE).2.2.2]
  go_wp2
  go_ret
  exact ⟨rfl, below_drewN hb1 _⟩
-- beside the range
set_option maxHeartbeats 2000000 in
theorem beside0 (a0 a1 a2 a3 a4 R : Int) (b0 : -9223372036854775808 ≤ a0 ∧ a0 ≤ 9223372036854775807) (b1 : -9223372036854775808 ≤ a1 ∧ a1 ≤ 9223372036854775807) (b2 : -9223372036854775808 ≤ a2 ∧ a2 ≤ 9223372036854775807) (b3 : -9223372036854775808 ≤ a3 ∧ a3 ≤ 9223372036854775807) (b4 : -9223372036854775808 ≤ a4 ∧ a4 ≤ 9223372036854775807) (w : World) (HT : Hid (Known w)) (HE : Hid (wtR a0 a1 a2 a3 a4 = R)) (h0 : a0 < 0) (k0 : 0 ≤ R) :
    Calls Tryz.prog 3 #[.int .i64 a0, .int .i64 a1, .int .i64 a2, .int .i64 a3, .int .i64 a4] w fun e w' => e = .returned (.bool true) ∧ Below w.heap.size w w' := by
  go_enter Tryz.func3, Tryz.ntmps3
  go_wp2_with fail
  refine (known_any HT).mono ?_
  rintro e w1 ⟨rfl, hb1⟩
  go_wp2_with fail
  refine (weight_any _ _ _ _ _ b0 b1 b2 b3 b4 _).mono ?_
  rintro e w' ⟨rfl, n0, rfl⟩
  rw [show wtR a0 a1 a2 a3 a4 = R from HE]
  go_wp2
  go_ret
  exact ⟨rfl, below_drewN hb1 _⟩
set_option maxHeartbeats 2000000 in
theorem beside1 (a0 a1 a2 a3 a4 R : Int) (b0 : -9223372036854775808 ≤ a0 ∧ a0 ≤ 9223372036854775807) (b1 : -9223372036854775808 ≤ a1 ∧ a1 ≤ 9223372036854775807) (b2 : -9223372036854775808 ≤ a2 ∧ a2 ≤ 9223372036854775807) (b3 : -9223372036854775808 ≤ a3 ∧ a3 ≤ 9223372036854775807) (b4 : -9223372036854775808 ≤ a4 ∧ a4 ≤ 9223372036854775807) (w : World) (HT : Hid (Known w)) (HE : Hid (wtR a0 a1 a2 a3 a4 = R)) (h0 : ¬ a0 < 0) (h1 : 1099511627776 ≤ a0) (k0 : 0 ≤ R) :
    Calls Tryz.prog 3 #[.int .i64 a0, .int .i64 a1, .int .i64 a2, .int .i64 a3, .int .i64 a4] w fun e w' => e = .returned (.bool true) ∧ Below w.heap.size w w' := by
  go_enter Tryz.func3, Tryz.ntmps3
  go_wp2_with fail
  refine (known_any HT).mono ?_
  rintro e w1 ⟨rfl, hb1⟩
  go_wp2_with fail
  refine (weight_any _ _ _ _ _ b0 b1 b2 b3 b4 _).mono ?_
  rintro e w' ⟨rfl, n0, rfl⟩
  rw [show wtR a0 a1 a2 a3 a4 = R from HE]
  go_wp2
  go_ret
  exact ⟨rfl, below_drewN hb1 _⟩
set_option maxHeartbeats 2000000 in
theorem beside2 (a0 a1 a2 a3 a4 R : Int) (b0 : -9223372036854775808 ≤ a0 ∧ a0 ≤ 9223372036854775807) (b1 : -9223372036854775808 ≤ a1 ∧ a1 ≤ 9223372036854775807) (b2 : -9223372036854775808 ≤ a2 ∧ a2 ≤ 9223372036854775807) (b3 : -9223372036854775808 ≤ a3 ∧ a3 ≤ 9223372036854775807) (b4 : -9223372036854775808 ≤ a4 ∧ a4 ≤ 9223372036854775807) (w : World) (HT : Hid (Known w)) (HE : Hid (wtR a0 a1 a2 a3 a4 = R)) (h0 : ¬ a0 < 0) (h1 : ¬ 1099511627776 ≤ a0) (h2 : a1 < 1) (k0 : 0 ≤ R) :
    Calls Tryz.prog 3 #[.int .i64 a0, .int .i64 a1, .int .i64 a2, .int .i64 a3, .int .i64 a4] w fun e w' => e = .returned (.bool true) ∧ Below w.heap.size w w' := by
  go_enter Tryz.func3, Tryz.ntmps3
  go_wp2_with fail
  refine (known_any HT).mono ?_
  rintro e w1 ⟨rfl, hb1⟩
  go_wp2_with fail
  refine (weight_any _ _ _ _ _ b0 b1 b2 b3 b4 _).mono ?_
  rintro e w' ⟨rfl, n0, rfl⟩
  rw [show wtR a0 a1 a2 a3 a4 = R from HE]
  go_wp2
  go_ret
  exact ⟨rfl, below_drewN hb1 _⟩
set_option maxHeartbeats 2000000 in
theorem beside3 (a0 a1 a2 a3 a4 R : Int) (b0 : -9223372036854775808 ≤ a0 ∧ a0 ≤ 9223372036854775807) (b1 : -9223372036854775808 ≤ a1 ∧ a1 ≤ 9223372036854775807) (b2 : -9223372036854775808 ≤ a2 ∧ a2 ≤ 9223372036854775807) (b3 : -9223372036854775808 ≤ a3 ∧ a3 ≤ 9223372036854775807) (b4 : -9223372036854775808 ≤ a4 ∧ a4 ≤ 9223372036854775807) (w : World) (HT : Hid (Known w)) (HE : Hid (wtR a0 a1 a2 a3 a4 = R)) (h0 : ¬ a0 < 0) (h1 : ¬ 1099511627776 ≤ a0) (h2 : ¬ a1 < 1) (h3 : 1048576 ≤ a1) (k0 : 0 ≤ R) :
    Calls Tryz.prog 3 #[.int .i64 a0, .int .i64 a1, .int .i64 a2, .int .i64 a3, .int .i64 a4] w fun e w' => e = .returned (.bool true) ∧ Below w.heap.size w w' := by
  go_enter Tryz.func3, Tryz.ntmps3
  go_wp2_with fail
  refine (known_any HT).mono ?_
  rintro e w1 ⟨rfl, hb1⟩
  go_wp2_with fail
  refine (weight_any _ _ _ _ _ b0 b1 b2 b3 b4 _).mono ?_
  rintro e w' ⟨rfl, n0, rfl⟩
  rw [show wtR a0 a1 a2 a3 a4 = R from HE]
  go_wp2
  go_ret
  exact ⟨rfl, below_drewN hb1 _⟩
set_option maxHeartbeats 2000000 in
theorem beside4 (a0 a1 a2 a3 a4 R : Int) (b0 : -9223372036854775808 ≤ a0 ∧ a0 ≤ 9223372036854775807) (b1 : -9223372036854775808 ≤ a1 ∧ a1 ≤ 9223372036854775807) (b2 : -9223372036854775808 ≤ a2 ∧ a2 ≤ 9223372036854775807) (b3 : -9223372036854775808 ≤ a3 ∧ a3 ≤ 9223372036854775807) (b4 : -9223372036854775808 ≤ a4 ∧ a4 ≤ 9223372036854775807) (w : World) (HT : Hid (Known w)) (HE : Hid (wtR a0 a1 a2 a3 a4 = R)) (h0 : ¬ a0 < 0) (h1 : ¬ 1099511627776 ≤ a0) (h2 : ¬ a1 < 1) (h3 : ¬ 1048576 ≤ a1) (h4 : a2 < 1) (k0 : 0 ≤ R) :
    Calls Tryz.prog 3 #[.int .i64 a0, .int .i64 a1, .int .i64 a2, .int .i64 a3, .int .i64 a4] w fun e w' => e = .returned (.bool true) ∧ Below w.heap.size w w' := by
  go_enter Tryz.func3, Tryz.ntmps3
  go_wp2_with fail
  refine (known_any HT).mono ?_
  rintro e w1 ⟨rfl, hb1⟩
  go_wp2_with fail
  refine (weight_any _ _ _ _ _ b0 b1 b2 b3 b4 _).mono ?_
  rintro e w' ⟨rfl, n0, rfl⟩
  rw [show wtR a0 a1 a2 a3 a4 = R from HE]
  go_wp2
  go_ret
  exact ⟨rfl, below_drewN hb1 _⟩
set_option maxHeartbeats 2000000 in
theorem beside5 (a0 a1 a2 a3 a4 R : Int) (b0 : -9223372036854775808 ≤ a0 ∧ a0 ≤ 9223372036854775807) (b1 : -9223372036854775808 ≤ a1 ∧ a1 ≤ 9223372036854775807) (b2 : -9223372036854775808 ≤ a2 ∧ a2 ≤ 9223372036854775807) (b3 : -9223372036854775808 ≤ a3 ∧ a3 ≤ 9223372036854775807) (b4 : -9223372036854775808 ≤ a4 ∧ a4 ≤ 9223372036854775807) (w : World) (HT : Hid (Known w)) (HE : Hid (wtR a0 a1 a2 a3 a4 = R)) (h0 : ¬ a0 < 0) (h1 : ¬ 1099511627776 ≤ a0) (h2 : ¬ a1 < 1) (h3 : ¬ 1048576 ≤ a1) (h4 : ¬ a2 < 1) (h5 : 1048576 ≤ a2) (k0 : 0 ≤ R) :
    Calls Tryz.prog 3 #[.int .i64 a0, .int .i64 a1, .int .i64 a2, .int .i64 a3, .int .i64 a4] w fun e w' => e = .returned (.bool true) ∧ Below w.heap.size w w' := by
  go_enter Tryz.func3, Tryz.ntmps3
  go_wp2_with fail
  refine (known_any HT).mono ?_
  rintro e w1 ⟨rfl, hb1⟩
  go_wp2_with fail
  refine (weight_any _ _ _ _ _ b0 b1 b2 b3 b4 _).mono ?_
  rintro e w' ⟨rfl, n0, rfl⟩
  rw [show wtR a0 a1 a2 a3 a4 = R from HE]
  go_wp2
  go_ret
  exact ⟨rfl, below_drewN hb1 _⟩
set_option maxHeartbeats 2000000 in
theorem beside6 (a0 a1 a2 a3 a4 R : Int) (b0 : -9223372036854775808 ≤ a0 ∧ a0 ≤ 9223372036854775807) (b1 : -9223372036854775808 ≤ a1 ∧ a1 ≤ 9223372036854775807) (b2 : -9223372036854775808 ≤ a2 ∧ a2 ≤ 9223372036854775807) (b3 : -9223372036854775808 ≤ a3 ∧ a3 ≤ 9223372036854775807) (b4 : -9223372036854775808 ≤ a4 ∧ a4 ≤ 9223372036854775807) (w : World) (HT : Hid (Known w)) (HE : Hid (wtR a0 a1 a2 a3 a4 = R)) (h0 : ¬ a0 < 0) (h1 : ¬ 1099511627776 ≤ a0) (h2 : ¬ a1 < 1) (h3 : ¬ 1048576 ≤ a1) (h4 : ¬ a2 < 1) (h5 : ¬ 1048576 ≤ a2) (h6 : a3 < 1) (k0 : 0 ≤ R) :
    Calls Tryz.prog 3 #[.int .i64 a0, .int .i64 a1, .int .i64 a2, .int .i64 a3, .int .i64 a4] w fun e w' => e = .returned (.bool true) ∧ Below w.heap.size w w' := by
  go_enter Tryz.func3, Tryz.ntmps3
  go_wp2_with fail
  refine (known_any HT).mono ?_
  rintro e w1 ⟨rfl, hb1⟩
  go_wp2_with fail
  refine (weight_any _ _ _ _ _ b0 b1 b2 b3 b4 _).mono ?_
  rintro e w' ⟨rfl, n0, rfl⟩
  rw [show wtR a0 a1 a2 a3 a4 = R from HE]
  go_wp2
  go_ret
  exact ⟨rfl, below_drewN hb1 _⟩
set_option maxHeartbeats 2000000 in
theorem beside7 (a0 a1 a2 a3 a4 R : Int) (b0 : -9223372036854775808 ≤ a0 ∧ a0 ≤ 9223372036854775807) (b1 : -9223372036854775808 ≤ a1 ∧ a1 ≤ 9223372036854775807) (b2 : -9223372036854775808 ≤ a2 ∧ a2 ≤ 9223372036854775807) (b3 : -9223372036854775808 ≤ a3 ∧ a3 ≤ 9223372036854775807) (b4 : -9223372036854775808 ≤ a4 ∧ a4 ≤ 9223372036854775807) (w : World) (HT : Hid (Known w)) (HE : Hid (wtR a0 a1 a2 a3 a4 = R)) (h0 : ¬ a0 < 0) (h1 : ¬ 1099511627776 ≤ a0) (h2 : ¬ a1 < 1) (h3 : ¬ 1048576 ≤ a1) (h4 : ¬ a2 < 1) (h5 : ¬ 1048576 ≤ a2) (h6 : ¬ a3 < 1) (h7 : 1048576 < a3) (k0 : 0 ≤ R) :
    Calls Tryz.prog 3 #[.int .i64 a0, .int .i64 a1, .int .i64 a2, .int .i64 a3, .int .i64 a4] w fun e w' => e = .returned (.bool true) ∧ Below w.heap.size w w' := by
  go_enter Tryz.func3, Tryz.ntmps3
  go_wp2_with fail
  refine (known_any HT).mono ?_
  rintro e w1 ⟨rfl, hb1⟩
  go_wp2_with fail
  refine (weight_any _ _ _ _ _ b0 b1 b2 b3 b4 _).mono ?_
  rintro e w' ⟨rfl, n0, rfl⟩
  rw [show wtR a0 a1 a2 a3 a4 = R from HE]
  go_wp2
  go_ret
  exact ⟨rfl, below_drewN hb1 _⟩
set_option maxHeartbeats 2000000 in
theorem beside8 (a0 a1 a2 a3 a4 R : Int) (b0 : -9223372036854775808 ≤ a0 ∧ a0 ≤ 9223372036854775807) (b1 : -9223372036854775808 ≤ a1 ∧ a1 ≤ 9223372036854775807) (b2 : -9223372036854775808 ≤ a2 ∧ a2 ≤ 9223372036854775807) (b3 : -9223372036854775808 ≤ a3 ∧ a3 ≤ 9223372036854775807) (b4 : -9223372036854775808 ≤ a4 ∧ a4 ≤ 9223372036854775807) (w : World) (HT : Hid (Known w)) (HE : Hid (wtR a0 a1 a2 a3 a4 = R)) (h0 : ¬ a0 < 0) (h1 : ¬ 1099511627776 ≤ a0) (h2 : ¬ a1 < 1) (h3 : ¬ 1048576 ≤ a1) (h4 : ¬ a2 < 1) (h5 : ¬ 1048576 ≤ a2) (h6 : ¬ a3 < 1) (h7 : ¬ 1048576 < a3) (h8 : a4 < 1) (k0 : 0 ≤ R) :
    Calls Tryz.prog 3 #[.int .i64 a0, .int .i64 a1, .int .i64 a2, .int .i64 a3, .int .i64 a4] w fun e w' => e = .returned (.bool true) ∧ Below w.heap.size w w' := by
  go_enter Tryz.func3, Tryz.ntmps3
  go_wp2_with fail
  refine (known_any HT).mono ?_
  rintro e w1 ⟨rfl, hb1⟩
  go_wp2_with fail
  refine (weight_any _ _ _ _ _ b0 b1 b2 b3 b4 _).mono ?_
  rintro e w' ⟨rfl, n0, rfl⟩
  rw [show wtR a0 a1 a2 a3 a4 = R from HE]
  go_wp2
  go_ret
  exact ⟨rfl, below_drewN hb1 _⟩
set_option maxHeartbeats 2000000 in
theorem beside9 (a0 a1 a2 a3 a4 R : Int) (b0 : -9223372036854775808 ≤ a0 ∧ a0 ≤ 9223372036854775807) (b1 : -9223372036854775808 ≤ a1 ∧ a1 ≤ 9223372036854775807) (b2 : -9223372036854775808 ≤ a2 ∧ a2 ≤ 9223372036854775807) (b3 : -9223372036854775808 ≤ a3 ∧ a3 ≤ 9223372036854775807) (b4 : -9223372036854775808 ≤ a4 ∧ a4 ≤ 9223372036854775807) (w : World) (HT : Hid (Known w)) (HE : Hid (wtR a0 a1 a2 a3 a4 = R)) (h0 : ¬ a0 < 0) (h1 : ¬ 1099511627776 ≤ a0) (h2 : ¬ a1 < 1) (h3 : ¬ 1048576 ≤ a1) (h4 : ¬ a2 < 1) (h5 : ¬ 1048576 ≤ a2) (h6 : ¬ a3 < 1) (h7 : ¬ 1048576 < a3) (h8 : ¬ a4 < 1) (h9 : 1099511627776 < a4) (k0 : 0 ≤ R) :
    Calls Tryz.prog 3 #[.int .i64 a0, .int .i64 a1, .int .i64 a2, .int .i64 a3, .int .i64 a4] w fun e w' => e = .returned (.bool true) ∧ Below w.heap.size w w' := by
  go_enter Tryz.func3, Tryz.ntmps3
  go_wp2_with fail
  refine (known_any HT).mono ?_
  rintro e w1 ⟨rfl, hb1⟩
  go_wp2_with fail
  refine (weight_any _ _ _ _ _ b0 b1 b2 b3 b4 _).mono ?_
  rintro e w' ⟨rfl, n0, rfl⟩
  rw [show wtR a0 a1 a2 a3 a4 = R from HE]
  go_wp2
  go_ret
  exact ⟨rfl, below_drewN hb1 _⟩
theorem walk (a0 a1 a2 a3 a4 : Int) (w0 : (Lit.int .i64 a0).wf = true) (w1 : (Lit.int .i64 a1).wf = true) (w2 : (Lit.int .i64 a2).wf = true) (w3 : (Lit.int .i64 a3).wf = true) (w4 : (Lit.int .i64 a4).wf = true) (w : World) (hT : Known w) :
    Calls Tryz.prog 3 #[.int .i64 a0, .int .i64 a1, .int .i64 a2, .int .i64 a3, .int .i64 a4] w fun e w' => e = .returned (.bool true) ∧ Below w.heap.size w w' := by
  have b0 := bounds_i64 w0
  have b1 := bounds_i64 w1
  have b2 := bounds_i64 w2
  have b3 := bounds_i64 w3
  have b4 := bounds_i64 w4
  clear w0 w1 w2 w3 w4
  have k0 := wtR_nonneg a0 a1 a2 a3 a4
  by_cases h0 : a0 < 0
  · exact beside0 a0 a1 a2 a3 a4 _ b0 b1 b2 b3 b4 w hT rfl h0 k0
  by_cases h1 : 1099511627776 ≤ a0
  · exact beside1 a0 a1 a2 a3 a4 _ b0 b1 b2 b3 b4 w hT rfl h0 h1 k0
  by_cases h2 : a1 < 1
  · exact beside2 a0 a1 a2 a3 a4 _ b0 b1 b2 b3 b4 w hT rfl h0 h1 h2 k0
  by_cases h3 : 1048576 ≤ a1
  · exact beside3 a0 a1 a2 a3 a4 _ b0 b1 b2 b3 b4 w hT rfl h0 h1 h2 h3 k0
  by_cases h4 : a2 < 1
  · exact beside4 a0 a1 a2 a3 a4 _ b0 b1 b2 b3 b4 w hT rfl h0 h1 h2 h3 h4 k0
  by_cases h5 : 1048576 ≤ a2
  · exact beside5 a0 a1 a2 a3 a4 _ b0 b1 b2 b3 b4 w hT rfl h0 h1 h2 h3 h4 h5 k0
  by_cases h6 : a3 < 1
  · exact beside6 a0 a1 a2 a3 a4 _ b0 b1 b2 b3 b4 w hT rfl h0 h1 h2 h3 h4 h5 h6 k0
  by_cases h7 : 1048576 < a3
  · exact beside7 a0 a1 a2 a3 a4 _ b0 b1 b2 b3 b4 w hT rfl h0 h1 h2 h3 h4 h5 h6 h7 k0
  by_cases h8 : a4 < 1
  · exact beside8 a0 a1 a2 a3 a4 _ b0 b1 b2 b3 b4 w hT rfl h0 h1 h2 h3 h4 h5 h6 h7 h8 k0
  by_cases h9 : 1099511627776 < a4
  · exact beside9 a0 a1 a2 a3 a4 _ b0 b1 b2 b3 b4 w hT rfl h0 h1 h2 h3 h4 h5 h6 h7 h8 h9 k0
  obtain ⟨k1, k2, k3, k4⟩ := wtR_laws (W := a0) (o := a1) (l := a2) (dd := a3) (t := a4) (by omega)
  exact within a0 a1 a2 a3 a4 _ _ _ _ _ w hT ⟨rfl, rfl, rfl, rfl⟩ h0 h1 h2 h3 h4 h5 h6 h7 h8 h9 k0 k1 k2 k3 k4 rfl (by
    have : (a0 * 22).tdiv 10 ≤ a0 * 22 := by
      rw [Int.tdiv_eq_ediv_of_nonneg (by omega)]; omega
    omega)
end Go.Proofs.YtblfelhnljdgnaaGreatDoor.scoreWeights

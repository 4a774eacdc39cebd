/- The texts KnRun, EvTab, KnKnown, Goes, DivMath, DivNorm, ScoreDiv, ScoreMath, PSum, LogMath, PWt, PWeigh, PLaws of ScoreWeights, joined by program (tools/merge.py): walks of the functions that the law reaches, and plain facts; no condition. -/
import Derived.Test.YtblfelhnljdgnaaGreatDoorWPart10
import Derived.Test.YtblfelhnljdgnaaGreatDoorWPart11
import Derived.KernelRfl
import Derived.Test.YtblfelhnljdgnaaGreatDoorRows
import Derived.Test.YtblfelhnljdgnaaGreatDoorWPart08
import Derived.Test.YtblfelhnljdgnaaGreatDoorCards
import Derived.JoinedOf
import Derived.IntWalk
import Derived.Lib.BitFns
import Derived.Laws.Bits64b
import Derived.Below
import Derived.Test.YtblfelhnljdgnaaGreatDoorShelf
import Derived.WalkKit
import Derived.WalkSpells
import Derived.Lib.Hide
import Derived.WalkLawsBesides
import Derived.Deep.QuietTactic
import Derived.BigQuiet
set_option linter.unusedVariables false
set_option linter.unusedSimpArgs false

/-
  A closed run, whole, printed by a program; the kernel runs them.
-/
set_option linter.unusedVariables false
set_option linter.unusedSimpArgs false
set_option linter.constructorNameAsVariable false
namespace Go.Proofs.YtblfelhnljdgnaaGreatDoor.Kn
open Go Go.Proofs.YtblfelhnljdgnaaGreatDoor.Ev
set_option maxRecDepth 1000000
set_option maxHeartbeats 0
open Go.RowKit
theorem leads : Leads Tryz.prog 3 s0 s2 :=
  (leads_piece hTypes hMix hLK p0).trans <|
  leads_piece hTypes hMix hLK p1
theorem ans : answer Tryz.prog 5 s2 = some (.bool true) := by kernel_rfl
theorem ent : (K.AFrame.enter LK 5 [] false).isSome = true := by kernel_rfl
/-- The run: it answers true, in every world in which the listed variables hold what they hold. -/
theorem run {w : World} (hng : 3 ≤ w.heap.size) (hl : ∀ p ∈ ([(2, (by8 [0, 1, 56, 2, 57, 49, 28, 3, 61, 58, 42, 50, 38, 29, 17, 4, 62, 47, 59, 36, 45, 43, 51, 22, 53, 39, 33, 30, 24, 18, 12, 5, 63, 55, 48, 27, 60, 41, 37, 16, 46, 35, 44, 21, 52, 32, 23, 11, 54, 26, 40, 15, 34, 20, 31, 10, 25, 14, 19, 9, 13, 8, 7, 6]))] : List (Nat × List AV)), p.1 < 3 ∧ GlobIs w p.1 p.2) :
    Calls Tryz.prog 5 #[] w fun e w' => e = .returned (.bool true) ∧ Below w.heap.size w w' :=
  calls_closed hLK ent leads ans hng hl
end Go.Proofs.YtblfelhnljdgnaaGreatDoor.Kn

/-
  The one table of the library that closed runs read: math/bits.deBruijn64tab.
-/
set_option linter.unusedVariables false
set_option linter.unusedSimpArgs false
set_option linter.constructorNameAsVariable false
namespace Go.Proofs.YtblfelhnljdgnaaGreatDoor
open Go Ev Go.RowKit

def deBruijn : List Int := [0, 1, 56, 2, 57, 49, 28, 3, 61, 58, 42, 50, 38, 29, 17, 4, 62, 47, 59, 36, 45, 43, 51, 22, 53, 39, 33, 30, 24, 18, 12, 5, 63, 55, 48, 27, 60, 41, 37, 16, 46, 35, 44, 21, 52, 32, 23, 11, 54, 26, 40, 15, 34, 20, 31, 10, 25, 14, 19, 9, 13, 8, 7, 6]
theorem deBruijn_eq : (Rows.laid_math_bits_deBruijn64tab : DataW Unit) = Lib.tabData .u8 deBruijn := by kernel_rfl
/-- the table holds what the library's text lays -/
def Known (w : World) : Prop := Lib.TabIs Tryz.prog w "math/bits.deBruijn64tab" .u8 deBruijn
theorem known_of_reads {w : World} (h : Lib.VarReads Tryz.prog w "math/bits.deBruijn64tab" Rows.laid_math_bits_deBruijn64tab) : Known w :=
  tab_of_reads (g := 2) (len := 64) (t := 535) (e := 5) (by kernel_rfl) (by kernel_rfl) Tryz.underlying535 Tryz.underlying5 (by kernel_rfl) (by kernel_rfl) (deBruijn_eq ▸ h)
theorem known_glob {w : World} (h : Known w) : GlobIs w 2 (deBruijn.map (AV.int .u8)) := GlobIs.of_tab h (by kernel_rfl)
theorem known_size {w : World} (h : Known w) : 2 + 1 ≤ w.heap.size := Nat.succ_le_of_lt (known_glob h).lt
theorem known_cells {w : World} (h : Known w) : ∀ p ∈ ([(2, by8 [0, 1, 56, 2, 57, 49, 28, 3, 61, 58, 42, 50, 38, 29, 17, 4, 62, 47, 59, 36, 45, 43, 51, 22, 53, 39, 33, 30, 24, 18, 12, 5, 63, 55, 48, 27, 60, 41, 37, 16, 46, 35, 44, 21, 52, 32, 23, 11, 54, 26, 40, 15, 34, 20, 31, 10, 25, 14, 19, 9, 13, 8, 7, 6])] : List (Nat × List AV)), p.1 < 2 + 1 ∧ GlobIs w p.1 p.2 := by
  intro p hp
  simp only [List.mem_cons, List.not_mem_nil, or_false] at hp
  subst hp
  exact ⟨Nat.lt_succ_self _, known_glob h⟩
theorem Known.on {w w' : World} (h : Known w) (hb : Below w.heap.size w w') : Known w' := by
  have hl := (known_glob h).lt
  unfold Known Lib.TabIs World.var? at *
  rw [show Tryz.prog.globalNamed "math/bits.deBruijn64tab" = some 2 by kernel_rfl] at *
  simp only [Option.bind_some] at *
  rw [hb.block _ hl]
  exact h
end Go.Proofs.YtblfelhnljdgnaaGreatDoor

/-
  lecternlaw21.known: numbers that the document names, and a score: it answers true, in every world in which the library's table holds what it holds.
-/
namespace Go.Proofs.YtblfelhnljdgnaaGreatDoor
open Go Ev Go.RowKit
theorem known_any {w : World} (h : Known w) : Calls Tryz.prog 5 #[] w fun e w' => e = .returned (.bool true) ∧ Below w.heap.size w w' :=
  Kn.run (known_size h) (known_cells h)
end Go.Proofs.YtblfelhnljdgnaaGreatDoor

/-
  A card's fact on goroutines: where no body of the whole translation holds a go statement, no road comes to one.
-/
set_option linter.unusedVariables false
set_option linter.unusedSimpArgs false
set_option linter.constructorNameAsVariable false
namespace Go.Proofs.YtblfelhnljdgnaaGreatDoor
open Go
theorem any_none (P : Program) (h : P.funcs.any Func.goes = false) (f : FuncId) : P.goes f = false := by
  have h1 : ∀ g : FuncId, (P.funcs[g]?).any Func.goes = false := fun g => by
    cases hg : P.funcs[g]? with
    | none => rfl
    | some fn =>
      have hm : fn ∈ P.funcs := Array.mem_of_getElem? hg
      have := Array.any_eq_false.1 h
      simp only [Option.any_some]
      obtain ⟨i, hi, rfl⟩ := Array.getElem_of_mem hm
      exact Bool.eq_false_iff.2 (this i hi)
  unfold Program.goes
  rw [h]
  simp only [h1, Bool.and_false, Bool.or_false]
  simp
theorem goes_none {P : Program} {c : OpenClaim} (hs : c.start = .entering) (h : P.funcs.any Func.goes = false) : false = c.goesBy P := by
  unfold OpenClaim.goesBy Program.goesAt Program.goesFrom
  rw [hs]
  cases P.funcNamed c.func with
  | none => rfl
  | some f => simp [any_none P h f]
theorem no_go : Tryz.pinned.checked.prog.funcs.any Func.goes = false := by kernel_rfl
end Go.Proofs.YtblfelhnljdgnaaGreatDoor

/- Plain arithmetic of a division of 128 bits by 64, two digits of 32 bits at a time. No program stands here. -/
namespace Go.Proofs.YtblfelhnljdgnaaGreatDoor.DivMath

theorem q_exit (y1 y0 u u1 q r : Nat) (h : q * y1 + r = u) (hy : 0 < y1 * 4294967296 + y0)
    (hq : (u * 4294967296 + u1) / (y1 * 4294967296 + y0) ≤ q) (hle : q * y0 ≤ 4294967296 * r + u1) :
    q = (u * 4294967296 + u1) / (y1 * 4294967296 + y0) := by
  refine Nat.le_antisymm ?_ hq
  rw [Nat.le_div_iff_mul_le hy, Nat.mul_add, ← Nat.mul_assoc, ← h]
  omega

theorem q_more (y1 y0 u u1 q r : Nat) (h : q * y1 + r = u) (hu1 : u1 < 4294967296) (hu : u < y1 * 4294967296 + y0)
    (hgt : 4294967296 ≤ q ∨ 4294967296 * r + u1 < q * y0) :
    (u * 4294967296 + u1) / (y1 * 4294967296 + y0) < q := by
  rw [Nat.div_lt_iff_lt_mul (by omega)]
  rcases hgt with hb | hb
  · have h1 : 4294967296 * (y1 * 4294967296 + y0) ≤ q * (y1 * 4294967296 + y0) := Nat.mul_le_mul_right _ hb
    omega
  · rw [Nat.mul_add, ← Nat.mul_assoc, ← h]
    omega

theorem q_break (y1 y0 u u1 q r : Nat) (h : q * y1 + r = u) (hy0 : y0 < 4294967296) (hu : u < y1 * 4294967296 + y0) (hr : 4294967296 ≤ r) :
    q < 4294967296 ∧ q * y0 ≤ 4294967296 * r + u1 := by
  have hq : q < 4294967296 := by
    have h1 : q * y1 < 4294967296 * y1 := by rw [Nat.mul_comm 4294967296]; omega
    exact Nat.lt_of_mul_lt_mul_right h1
  refine ⟨hq, ?_⟩
  have h2 : q * y0 ≤ 4294967296 * 4294967296 := Nat.mul_le_mul (by omega) (by omega)
  omega

/-- Where the digit begins: no less than the true one, and at most one above the base. -/
theorem q_start (y1 y0 u u1 : Nat) (hy1 : 2147483648 ≤ y1) (hy0 : y0 < 4294967296) (hu1 : u1 < 4294967296) (hu : u < y1 * 4294967296 + y0) :
    (u * 4294967296 + u1) / (y1 * 4294967296 + y0) ≤ u / y1 ∧ u / y1 ≤ 4294967297 ∧ u / y1 * y1 + u % y1 = u ∧ u % y1 < y1 := by
  refine ⟨?_, ?_, ?_, Nat.mod_lt _ (by omega)⟩
  · have h1 : (u * 4294967296 + u1) / (y1 * 4294967296 + y0) ≤ (u * 4294967296 + u1) / (y1 * 4294967296) := Nat.div_le_div_left (by omega) (by omega)
    have h2 : (u * 4294967296 + u1) / (y1 * 4294967296) = u / y1 := by
      rw [Nat.mul_comm y1, ← Nat.div_div_eq_div_mul]
      congr 1
      omega
    omega
  · have h3 : u / y1 < 4294967298 := by
      rw [Nat.div_lt_iff_lt_mul (by omega)]
      omega
    omega
  · rw [Nat.mul_comm]; exact Nat.div_add_mod u y1

theorem prod_bd (q y0 : Nat) (hq : q ≤ 4294967297) (hy0 : y0 < 4294967296) : q * y0 < 18446744073709551616 := by
  have := Nat.mul_le_mul hq (show y0 ≤ 4294967295 by omega)
  omega

/-- The rest behind a digit: what wraps comes to the true rest. -/
theorem rest_is (N y : Nat) (hy : 0 < y) (hy2 : y < 18446744073709551616) :
    ∃ r : Nat, r = N % y ∧ r < y ∧ N = y * (N / y) + r ∧ (((N : Int) - (N / y : Nat) * y) % 18446744073709551616) = (r : Int) := by
  refine ⟨N % y, rfl, Nat.mod_lt _ hy, (Nat.div_add_mod N y).symm, ?_⟩
  have h := Nat.div_add_mod N y
  have hm := Nat.mod_lt N hy
  rw [Nat.mul_comm] at h
  have h2 : ((N : Int)) = ((N / y * y : Nat) : Int) + ((N % y : Nat) : Int) := by rw [← Int.natCast_add]; exact congrArg _ h.symm
  rw [← Int.natCast_mul]
  omega

/-- Two digits are the quotient. -/
theorem two_digits_B (n u0 y B : Nat) (hy : 0 < y) :
    n / y * B + (n % y * B + u0) / y = (n * B + u0) / y := by
  have h := Nat.div_add_mod n y
  have h2 : n * B = (y * (n / y) + n % y) * B := by rw [h]
  have e : n * B + u0 = (n % y * B + u0) + y * (n / y * B) := by
    rw [h2, Nat.add_mul, ← Nat.mul_assoc]
    omega
  rw [e, Nat.add_mul_div_left _ _ hy]
  omega

theorem two_digits (n u0 y : Nat) (hy : 0 < y) :
    n / y * 4294967296 + (n % y * 4294967296 + u0) / y = (n * 4294967296 + u0) / y := two_digits_B n u0 y 4294967296 hy

/-- Both sides shifted alike: the same quotient. -/
theorem shifted (n y s : Nat) : (n * 2 ^ s) / (y * 2 ^ s) = n / y := Nat.mul_div_mul_right n y (Nat.two_pow_pos s)

theorem join_digits (U L : Nat) : (U * 4294967296 + L / 4294967296) * 4294967296 + L % 4294967296 = U * 18446744073709551616 + L := by
  have h := Nat.div_add_mod' L 4294967296
  rw [Nat.add_mul, Nat.mul_assoc, Nat.add_assoc, h]

theorem digit_lt (u u1 Y : Nat) (hu : u < Y) (hu1 : u1 < 4294967296) : (u * 4294967296 + u1) / Y < 4294967296 := by
  rw [Nat.div_lt_iff_lt_mul (by omega)]; omega

end Go.Proofs.YtblfelhnljdgnaaGreatDoor.DivMath

/- Plain arithmetic of a division of 128 bits by 64: the divisor shifted till its highest bit stands. No program stands here. -/
namespace Go.Proofs.YtblfelhnljdgnaaGreatDoor.DivMath
open Go.RowKit

theorem lt_bitLen : ∀ (f x : Nat), x < 2 ^ f → f ≤ 64 → x < 2 ^ Lib.bitLenAux f x
  | 0, x, h, _ => by simp at h; subst h; simp [Lib.bitLenAux]
  | f + 1, x, h, hf => by
    simp only [Lib.bitLenAux]
    split
    · omega
    · have := lt_bitLen f (x / 2) (by rw [Nat.pow_succ] at h; omega) (by omega)
      rw [Nat.add_comm, Nat.pow_succ]
      omega

theorem bitLen_bd (y : Nat) (h0 : 0 < y) (h : y < 18446744073709551616) : 1 ≤ Lib.bitLen y ∧ Lib.bitLen y ≤ 64 ∧ y < 2 ^ Lib.bitLen y ∧ 2 ^ (Lib.bitLen y - 1) ≤ y := by
  have h1 : y < 2 ^ Lib.bitLen y := lt_bitLen 64 y h (Nat.le_refl _)
  have h2 : 1 ≤ Lib.bitLen y := by
    rcases Nat.eq_zero_or_pos (Lib.bitLen y) with e | e
    · rw [e] at h1; omega
    · exact e
  have h3 := Lib.bitLen_le y 64 (Nat.le_refl _) h
  refine ⟨h2, h3, h1, ?_⟩
  rcases Nat.lt_or_ge y (2 ^ (Lib.bitLen y - 1)) with hl | hg
  · have := Lib.bitLen_le y (Lib.bitLen y - 1) (by omega) hl
    omega
  · exact hg

theorem wrapU (n : Nat) : IntKind.u64.wrap (n : Int) = ((n % 18446744073709551616 : Nat) : Int) := by
  rw [IntKind.wrap_u64]; omega

/-- The numbers behind the shift. -/
theorem norm (hi lo y s : Nat) (hlt : hi < y) (hy : y < 18446744073709551616) (hlo : lo < 18446744073709551616) (hs : Lib.bitLen y + s = 64) :
    ∃ Y H D U L : Nat, IntKind.u64.wrap ((y : Int) * 2 ^ s) = (Y : Int) ∧ IntKind.u64.wrap ((hi : Int) * 2 ^ s) = (H : Int) ∧ ((lo : Int) / 2 ^ (64 - s)) = (D : Int) ∧
      bits .or .u64 (H : Int) (D : Int) = (U : Int) ∧ IntKind.u64.wrap ((lo : Int) * 2 ^ s) = (L : Int) ∧ 9223372036854775808 ≤ Y ∧ Y < 18446744073709551616 ∧ U < Y ∧ L < 18446744073709551616 ∧
      (U * 18446744073709551616 + L) / Y = (hi * 18446744073709551616 + lo) / y := by
  obtain ⟨b1, b2, b3, b4⟩ := bitLen_bd y (by omega) hy
  have hp : 0 < 2 ^ s := Nat.two_pow_pos s
  have hps : 2 ^ Lib.bitLen y * 2 ^ s = 18446744073709551616 := by rw [← Nat.pow_add, hs]
  have hps1 : 2 ^ (Lib.bitLen y - 1) * 2 ^ s = 9223372036854775808 := by
    rw [← Nat.pow_add, show Lib.bitLen y - 1 + s = 63 by omega]
  have hps2 : 2 ^ (64 - s) * 2 ^ s = 18446744073709551616 := by rw [← Nat.pow_add, show 64 - s + s = 64 by omega]
  have y1 : y * 2 ^ s < 18446744073709551616 := by rw [← hps]; exact (Nat.mul_lt_mul_right hp).2 b3
  have y0 : 9223372036854775808 ≤ y * 2 ^ s := by rw [← hps1]; exact Nat.mul_le_mul_right _ b4
  have h1 : hi * 2 ^ s < y * 2 ^ s := (Nat.mul_lt_mul_right hp).2 hlt
  have cast : ∀ n : Nat, (n : Int) * 2 ^ s = ((n * 2 ^ s : Nat) : Int) := fun n => by simp
  have d1 : lo / 2 ^ (64 - s) < 2 ^ s := by
    rw [Nat.div_lt_iff_lt_mul (Nat.two_pow_pos _), Nat.mul_comm, hps2]; exact hlo
  have l1 : lo * 2 ^ s / 18446744073709551616 = lo / 2 ^ (64 - s) := by
    rw [← hps2, Nat.mul_div_mul_right _ _ hp]
  have l2 := Nat.div_add_mod (lo * 2 ^ s) 18446744073709551616
  rw [l1] at l2
  have u1 : hi * 2 ^ s ||| lo / 2 ^ (64 - s) = hi * 2 ^ s + lo / 2 ^ (64 - s) := by
    rw [Nat.mul_comm hi]; exact (Nat.two_pow_add_eq_or_of_lt d1 hi).symm
  have hN : (hi * 2 ^ s + lo / 2 ^ (64 - s)) * 18446744073709551616 + lo * 2 ^ s % 18446744073709551616 = (hi * 18446744073709551616 + lo) * 2 ^ s := by
    rw [Nat.add_mul (hi * 18446744073709551616), Nat.mul_right_comm hi, Nat.add_mul]
    omega
  have hNlt : (hi * 18446744073709551616 + lo) * 2 ^ s < y * 2 ^ s * 18446744073709551616 := by
    rw [Nat.mul_right_comm]
    refine (Nat.mul_lt_mul_right hp).2 ?_
    omega
  refine ⟨y * 2 ^ s, hi * 2 ^ s, lo / 2 ^ (64 - s), hi * 2 ^ s + lo / 2 ^ (64 - s), lo * 2 ^ s % 18446744073709551616, ?_, ?_, ?_, ?_, ?_, y0, y1, ?_, by omega, ?_⟩
  · rw [cast, wrapU, Nat.mod_eq_of_lt y1]
  · rw [cast, wrapU, Nat.mod_eq_of_lt (by omega)]
  · simp
  · rw [bits_or_u64_nat _ _ (by omega) (by have := Nat.div_le_self lo (2 ^ (64 - s)); omega), u1]
  · rw [cast, wrapU]
  · rw [← hN] at hNlt
    generalize hi * 2 ^ s + lo / 2 ^ (64 - s) = U at *
    generalize y * 2 ^ s = Y at *
    omega
  · rw [hN, Nat.mul_div_mul_right _ _ hp]

theorem maskU (a : Nat) (ha : a < 18446744073709551616) : bits .and .u64 (a : Int) 4294967295 = ((a % 4294967296 : Nat) : Int) := by
  have h := bits_and_u64_nat a 4294967295 ha (by omega)
  have e : a &&& 4294967295 = a % 4294967296 := Nat.and_two_pow_sub_one_eq_mod a 32
  rw [e] at h
  exact h

/-- The rest of a digit, as the walk spells it. -/
theorem rest_wrap (u u1 y : Nat) (hy : 0 < y) (hy2 : y < 18446744073709551616) :
    IntKind.u64.wrap (IntKind.u64.wrap (IntKind.u64.wrap ((u : Int) * 4294967296) + (u1 : Int)) - IntKind.u64.wrap ((((u * 4294967296 + u1) / y : Nat) : Int) * (y : Int))) = (((u * 4294967296 + u1) % y : Nat) : Int) := by
  obtain ⟨r, e1, e2, _, e4⟩ := rest_is (u * 4294967296 + u1) y hy hy2
  rw [← e1, ← e4]
  have ec : ((u : Int) * 4294967296 + (u1 : Int)) = ((u * 4294967296 + u1 : Nat) : Int) := by simp
  generalize ((u * 4294967296 + u1) / y : Nat) * (y : Int) = p at *
  simp only [IntKind.wrap_u64]
  omega

/-- The invariant of a digit's loop, closed to the walk. -/
def Dig (y1 u q r : Nat) : Prop := q * y1 + r = u

theorem dig_step (y1 u q r : Nat) (h : Dig y1 u q r) (hq : 1 ≤ q) : Dig y1 u (q - 1) (r + y1) := by
  unfold Dig at *
  obtain ⟨q', rfl⟩ : ∃ q', q = q' + 1 := ⟨q - 1, by omega⟩
  rw [Nat.add_mul] at h
  simp only [Nat.add_sub_cancel]
  omega

theorem dig_more (y1 y0 Y u u1 q r Q : Nat) (h : Dig y1 u q r) (hu1 : u1 < 4294967296) (hu : u < Y) (eY : Hid (Y = y1 * 4294967296 + y0))
    (eQ : Hid (Q = (u * 4294967296 + u1) / (y1 * 4294967296 + y0))) (hgt : 4294967296 ≤ q ∨ 4294967296 * r + u1 < q * y0) : Q < q := by
  rw [eQ.out]; exact q_more y1 y0 u u1 q r h hu1 (by rw [← eY.out]; exact hu) hgt

theorem dig_exit (y1 y0 Y u u1 q r Q : Nat) (h : Dig y1 u q r) (hY : 0 < Y) (eY : Hid (Y = y1 * 4294967296 + y0))
    (eQ : Hid (Q = (u * 4294967296 + u1) / (y1 * 4294967296 + y0))) (hq : Q ≤ q) (hle : q * y0 ≤ 4294967296 * r + u1) : q = Q := by
  have e := eQ.out
  rw [e]; exact q_exit y1 y0 u u1 q r h (by rw [← eY.out]; exact hY) (by rw [← e]; exact hq) hle

theorem dig_break (y1 y0 Y u u1 q r Q : Nat) (h : Dig y1 u q r) (hq1 : 1 ≤ q) (hY : 0 < Y) (hy0 : y0 < 4294967296) (hu : u < Y) (eY : Hid (Y = y1 * 4294967296 + y0))
    (eQ : Hid (Q = (u * 4294967296 + u1) / (y1 * 4294967296 + y0))) (hq : Q < q) (hr : 4294967296 ≤ r + y1) : q = Q + 1 := by
  have hs := dig_step y1 u q r h hq1
  have hb := q_break y1 y0 u u1 (q - 1) (r + y1) hs hy0 (by rw [← eY.out]; exact hu) hr
  have := dig_exit y1 y0 Y u u1 (q - 1) (r + y1) Q hs hY eY eQ (by omega) hb.2
  omega

end Go.Proofs.YtblfelhnljdgnaaGreatDoor.DivMath

/- The walk of math/bits.Div64: a division of 128 bits by 64. -/
namespace Go.Proofs.YtblfelhnljdgnaaGreatDoor
open Go.RowKit DivMath

set_option maxHeartbeats 400000 in
theorem div64_small (lo y : Nat) (hy0 : 0 < y) (hy : y < 18446744073709551616) (hlo : lo < 18446744073709551616) (w : World) :
    Calls Tryz.prog 15 #[.int .u64 0, .int .u64 lo, .int .u64 y] w fun e w' => (∃ r : Int, e = .returned (.tuple #[.int .u64 ((lo / y : Nat) : Int), .int .u64 r])) ∧ (∃ n, w' = w.drewN n) := by
  have hz : ((y : Int) == 0) = false := by simp; omega
  go_enter Tryz.func15, Tryz.ntmps15
  go_wp2
  go_quiet (fail)
  have hq : ((lo : Int) / y) = ((lo / y : Nat) : Int) := rfl
  have hb : lo / y < 18446744073709551616 := Nat.lt_of_le_of_lt (Nat.div_le_self _ _) hlo
  rw [hq] at *
  rw [IntWalk.u64_in ((lo / y : Nat) : Int) ⟨Int.natCast_nonneg _, by omega⟩]
  go_wp2
  go_ret2
  exact ⟨⟨_, rfl⟩, ⟨_, rfl⟩⟩

theorem lz_any (y s : Nat) (hy : y < 18446744073709551616) (hs : (Lib.bitLen y) + s = 64) (w : World) :
    Calls Tryz.prog 29 #[.int .u64 y] w fun e w' => e = .returned (.int .i64 (s : Int)) ∧ w = w' := by
  refine (Tryz.bits_LeadingZeros64 _ _ (by omega) (by omega)).mono ?_
  rintro e w' ⟨rfl, rfl⟩
  refine ⟨?_, rfl⟩
  rw [Int.toNat_natCast, show (64 - (Lib.bitLen y : Int)) = (s : Int) by omega]

set_option maxRecDepth 100000 in
set_option maxHeartbeats 1000000 in
theorem div64_core (hi lo y s Y H D U L y1 y0 l1 l0 q p r Q1 R1 q2 p2 r2 Q2 : Nat) (hs1 : Lib.bitLen y + s = 64) (hs2 : s ≤ 63)
    (hY : IntKind.u64.wrap ((y : Int) * 2 ^ s) = (Y : Int)) (hH : IntKind.u64.wrap ((hi : Int) * 2 ^ s) = (H : Int)) (hD : ((lo : Int) / 2 ^ (64 - s)) = (D : Int))
    (hU : bits .or .u64 (H : Int) (D : Int) = (U : Int)) (hL : IntKind.u64.wrap ((lo : Int) * 2 ^ s) = (L : Int))
    (hy1 : (Y : Int) / 4294967296 = (y1 : Int)) (hy0 : bits .and .u64 (Y : Int) 4294967295 = (y0 : Int))
    (hl1 : (L : Int) / 4294967296 = (l1 : Int)) (hl0 : bits .and .u64 (L : Int) 4294967295 = (l0 : Int))
    (hq : (U : Int) / (y1 : Int) = (q : Int)) (hp : (q : Int) * (y1 : Int) = (p : Int)) (hr : (U : Int) - (p : Int) = (r : Int))
    (hR1 : IntKind.u64.wrap (IntKind.u64.wrap (IntKind.u64.wrap ((U : Int) * 4294967296) + (l1 : Int)) - IntKind.u64.wrap ((Q1 : Int) * (Y : Int))) = (R1 : Int))
    (hq2 : (R1 : Int) / (y1 : Int) = (q2 : Int)) (hp2 : (q2 : Int) * (y1 : Int) = (p2 : Int)) (hr2 : (R1 : Int) - (p2 : Int) = (r2 : Int))
    (hhi : 0 < hi) (hlt : hi < y) (hyb : y < 18446744073709551616) (hlo : lo < 18446744073709551616)
    (bY0 : 9223372036854775808 ≤ Y) (bY1 : Y < 18446744073709551616) (bU : U < Y) (bR1 : R1 < Y) (by1 : 2147483648 ≤ y1) (by1' : y1 < 4294967296) (by0 : y0 < 4294967296) (bl1 : l1 < 4294967296) (bl0 : l0 < 4294967296)
    (bp : p ≤ U) (br : r < y1) (bp2 : p2 ≤ R1) (br2 : r2 < y1) (bq : q ≤ 4294967297) (bq2 : q2 ≤ 4294967297) (bQ1 : Q1 < 4294967296) (bQ2 : Q2 < 4294967296)
    (gq : Dig y1 U q r ∧ Q1 ≤ q) (gq2 : Dig y1 R1 q2 r2 ∧ Q2 ≤ q2)
    (eQ1 : Hid (Q1 = (U * 4294967296 + l1) / (y1 * 4294967296 + y0))) (eQ2 : Hid (Q2 = (R1 * 4294967296 + l0) / (y1 * 4294967296 + y0)))
    (eY : Hid (Y = y1 * 4294967296 + y0)) (w : World) :
    Calls Tryz.prog 15 #[.int .u64 hi, .int .u64 lo, .int .u64 y] w fun e w' => (∃ r : Int, e = .returned (.tuple #[.int .u64 ((Q1 : Int) * 4294967296 + (Q2 : Int)), .int .u64 r])) ∧ (∃ n, w' = w.drewN n) := by
  have hz : ((y : Int) == 0) = false := by simp; omega
  have hz' : ((hi : Int) == 0) = false := by simp; omega
  have hs := Lib.hid hs1
  have eu1 : U < y1 * 4294967296 + y0 := by rw [← eY.out]; exact bU
  have eu2 : R1 < y1 * 4294967296 + y0 := by rw [← eY.out]; exact bR1
  have Hu1 := Lib.hid eu1
  have Hu2 := Lib.hid eu2
  have Hgq := Lib.hid gq
  have Hgq2 := Lib.hid gq2
  clear hs1 eu1 eu2 gq gq2
  go_enter Tryz.func15, Tryz.ntmps15
  go_wp2_with fail
  refine (lz_any _ _ hyb hs.out _).mono ?_
  rintro e w' ⟨rfl, rfl⟩
  go_wp2_with fail
  go_loop [15, 16] (fun a b => ∃ q r : Nat, a = .int .u64 q ∧ b = .int .u64 r ∧ Dig y1 U q r ∧ Q1 ≤ q ∧ q ≤ 4294967297 ∧ r < 4294967296) (fun a _ => (intOf a).toNat)
  case atStart => exact ⟨q, r, rfl, rfl, Hgq.out.1, Hgq.out.2, bq, by omega⟩
  case round =>
    clear hY hH hD hU hL hq hp hr
    obtain ⟨qq, rr, rfl, rfl, hdig, hQq1, hqb1, hrb1⟩ := hrel
    have hpb0 := prod_bd qq y0 hqb1 by0
    have hpb1 : (qq : Int) * (y0 : Int) ≤ 18446744073709551615 := by rw [← Int.natCast_mul]; omega
    have hpn1 : 0 ≤ (qq : Int) * (y0 : Int) := by rw [← Int.natCast_mul]; omega
    have hpc : ((qq * y0 : Nat) : Int) = (qq : Int) * (y0 : Int) := Int.natCast_mul _ _
    have Hpc1 := Lib.hid hpc
    clear hpb0 hpc
    by_cases hgt : 4294967296 ≤ qq ∨ 4294967296 * rr + l1 < qq * y0
    · have hlt1 := dig_more y1 y0 Y U l1 qq rr Q1 hdig bl1 bU eY eQ1 hgt
      have Hgt1 := Lib.hid hgt
      clear hgt
      by_cases hbr1 : 4294967296 ≤ rr + y1
      · have hqe := dig_break y1 y0 Y U l1 qq rr Q1 hdig (by omega) (by omega) by0 bU eY eQ1 hlt1 hbr1
        have hbrI1 : (4294967296 : Int) ≤ (rr : Int) + (y1 : Int) := by omega
        have hqm1 : (qq : Int) - 1 = (Q1 : Int) := by omega
        clear hqe
        by_cases hge1 : 4294967296 ≤ qq
        · have hgeI1 : (4294967296 : Int) ≤ qq := by omega
          go_wp2_with fail
          go_loop [18, 16] (fun a b => ∃ q r : Nat, a = .int .u64 q ∧ b = .int .u64 r ∧ Dig y1 R1 q r ∧ Q2 ≤ q ∧ q ≤ 4294967297 ∧ r < 4294967296) (fun a _ => (intOf a).toNat)
          case atStart => exact ⟨q2, r2, rfl, rfl, Hgq2.out.1, Hgq2.out.2, bq2, by omega⟩
          case round =>
            clear hR1 hq2 hp2 hr2
            obtain ⟨qq2, rr2, rfl, rfl, hdig2, hQq2, hqb2, hrb2⟩ := hrel
            have hpb0 := prod_bd qq2 y0 hqb2 by0
            have hpb2 : (qq2 : Int) * (y0 : Int) ≤ 18446744073709551615 := by rw [← Int.natCast_mul]; omega
            have hpn2 : 0 ≤ (qq2 : Int) * (y0 : Int) := by rw [← Int.natCast_mul]; omega
            have hpc : ((qq2 * y0 : Nat) : Int) = (qq2 : Int) * (y0 : Int) := Int.natCast_mul _ _
            have Hpc2 := Lib.hid hpc
            clear hpb0 hpc
            by_cases hgt : 4294967296 ≤ qq2 ∨ 4294967296 * rr2 + l0 < qq2 * y0
            · have hlt2 := dig_more y1 y0 Y R1 l0 qq2 rr2 Q2 hdig2 bl0 bR1 eY eQ2 hgt
              have Hgt2 := Lib.hid hgt
              clear hgt
              by_cases hbr2 : 4294967296 ≤ rr2 + y1
              · have hqe := dig_break y1 y0 Y R1 l0 qq2 rr2 Q2 hdig2 (by omega) (by omega) by0 bR1 eY eQ2 hlt2 hbr2
                have hbrI2 : (4294967296 : Int) ≤ (rr2 : Int) + (y1 : Int) := by omega
                have hqm2 : (qq2 : Int) - 1 = (Q2 : Int) := by omega
                clear hqe
                by_cases hge2 : 4294967296 ≤ qq2
                · have hgeI2 : (4294967296 : Int) ≤ qq2 := by omega
                  go_wp2_with fail
                  go_ret2
                  exact ⟨⟨_, rfl⟩, ⟨0, rfl⟩⟩
                · have hgeI2 : ¬ (4294967296 : Int) ≤ qq2 := by omega
                  have hgtI2 : 4294967296 * (rr2 : Int) + (l0 : Int) < (qq2 : Int) * (y0 : Int) := by have := Hgt2.out; have := Hpc2.out; omega
                  go_wp2_with fail
                  go_ret2
                  exact ⟨⟨_, rfl⟩, ⟨0, rfl⟩⟩
              · have hbrI2 : ¬ (4294967296 : Int) ≤ (rr2 : Int) + (y1 : Int) := by omega
                have Hst2 := Lib.hid (dig_step y1 R1 qq2 rr2 hdig2 (by omega))
                by_cases hge2 : 4294967296 ≤ qq2
                · have hgeI2 : (4294967296 : Int) ≤ qq2 := by omega
                  go_wp2_with fail
                  go_round
                  case rel => exact ⟨qq2 - 1, rr2 + y1, by go_num, by go_num, Hst2.out, by omega, by omega, by omega⟩
                  case measure => simp [intOf]; omega
                · have hgeI2 : ¬ (4294967296 : Int) ≤ qq2 := by omega
                  have hgtI2 : 4294967296 * (rr2 : Int) + (l0 : Int) < (qq2 : Int) * (y0 : Int) := by have := Hgt2.out; have := Hpc2.out; omega
                  go_wp2_with fail
                  go_round
                  case rel => exact ⟨qq2 - 1, rr2 + y1, by go_num, by go_num, Hst2.out, by omega, by omega, by omega⟩
                  case measure => simp [intOf]; omega
            · have hqe := dig_exit y1 y0 Y R1 l0 qq2 rr2 Q2 hdig2 (by omega) eY eQ2 hQq2 (by omega)
              have hgtI2 : ¬ 4294967296 * (rr2 : Int) + (l0 : Int) < (qq2 : Int) * (y0 : Int) := by have := Hpc2.out; omega
              have hgeI2 : ¬ (4294967296 : Int) ≤ qq2 := by omega
              clear hgt
              subst hqe
              go_wp2_with fail
              go_ret2
              exact ⟨⟨_, rfl⟩, ⟨0, rfl⟩⟩
        · have hgeI1 : ¬ (4294967296 : Int) ≤ qq := by omega
          have hgtI1 : 4294967296 * (rr : Int) + (l1 : Int) < (qq : Int) * (y0 : Int) := by have := Hgt1.out; have := Hpc1.out; omega
          go_wp2_with fail
          go_loop [18, 16] (fun a b => ∃ q r : Nat, a = .int .u64 q ∧ b = .int .u64 r ∧ Dig y1 R1 q r ∧ Q2 ≤ q ∧ q ≤ 4294967297 ∧ r < 4294967296) (fun a _ => (intOf a).toNat)
          case atStart => exact ⟨q2, r2, rfl, rfl, Hgq2.out.1, Hgq2.out.2, bq2, by omega⟩
          case round =>
            clear hR1 hq2 hp2 hr2
            obtain ⟨qq2, rr2, rfl, rfl, hdig2, hQq2, hqb2, hrb2⟩ := hrel
            have hpb0 := prod_bd qq2 y0 hqb2 by0
            have hpb2 : (qq2 : Int) * (y0 : Int) ≤ 18446744073709551615 := by rw [← Int.natCast_mul]; omega
            have hpn2 : 0 ≤ (qq2 : Int) * (y0 : Int) := by rw [← Int.natCast_mul]; omega
            have hpc : ((qq2 * y0 : Nat) : Int) = (qq2 : Int) * (y0 : Int) := Int.natCast_mul _ _
            have Hpc2 := Lib.hid hpc
            clear hpb0 hpc
            by_cases hgt : 4294967296 ≤ qq2 ∨ 4294967296 * rr2 + l0 < qq2 * y0
            · have hlt2 := dig_more y1 y0 Y R1 l0 qq2 rr2 Q2 hdig2 bl0 bR1 eY eQ2 hgt
              have Hgt2 := Lib.hid hgt
              clear hgt
              by_cases hbr2 : 4294967296 ≤ rr2 + y1
              · have hqe := dig_break y1 y0 Y R1 l0 qq2 rr2 Q2 hdig2 (by omega) (by omega) by0 bR1 eY eQ2 hlt2 hbr2
                have hbrI2 : (4294967296 : Int) ≤ (rr2 : Int) + (y1 : Int) := by omega
                have hqm2 : (qq2 : Int) - 1 = (Q2 : Int) := by omega
                clear hqe
                by_cases hge2 : 4294967296 ≤ qq2
                · have hgeI2 : (4294967296 : Int) ≤ qq2 := by omega
                  go_wp2_with fail
                  go_ret2
                  exact ⟨⟨_, rfl⟩, ⟨0, rfl⟩⟩
                · have hgeI2 : ¬ (4294967296 : Int) ≤ qq2 := by omega
                  have hgtI2 : 4294967296 * (rr2 : Int) + (l0 : Int) < (qq2 : Int) * (y0 : Int) := by have := Hgt2.out; have := Hpc2.out; omega
                  go_wp2_with fail
                  go_ret2
                  exact ⟨⟨_, rfl⟩, ⟨0, rfl⟩⟩
              · have hbrI2 : ¬ (4294967296 : Int) ≤ (rr2 : Int) + (y1 : Int) := by omega
                have Hst2 := Lib.hid (dig_step y1 R1 qq2 rr2 hdig2 (by omega))
                by_cases hge2 : 4294967296 ≤ qq2
                · have hgeI2 : (4294967296 : Int) ≤ qq2 := by omega
                  go_wp2_with fail
                  go_round
                  case rel => exact ⟨qq2 - 1, rr2 + y1, by go_num, by go_num, Hst2.out, by omega, by omega, by omega⟩
                  case measure => simp [intOf]; omega
                · have hgeI2 : ¬ (4294967296 : Int) ≤ qq2 := by omega
                  have hgtI2 : 4294967296 * (rr2 : Int) + (l0 : Int) < (qq2 : Int) * (y0 : Int) := by have := Hgt2.out; have := Hpc2.out; omega
                  go_wp2_with fail
                  go_round
                  case rel => exact ⟨qq2 - 1, rr2 + y1, by go_num, by go_num, Hst2.out, by omega, by omega, by omega⟩
                  case measure => simp [intOf]; omega
            · have hqe := dig_exit y1 y0 Y R1 l0 qq2 rr2 Q2 hdig2 (by omega) eY eQ2 hQq2 (by omega)
              have hgtI2 : ¬ 4294967296 * (rr2 : Int) + (l0 : Int) < (qq2 : Int) * (y0 : Int) := by have := Hpc2.out; omega
              have hgeI2 : ¬ (4294967296 : Int) ≤ qq2 := by omega
              clear hgt
              subst hqe
              go_wp2_with fail
              go_ret2
              exact ⟨⟨_, rfl⟩, ⟨0, rfl⟩⟩
      · have hbrI1 : ¬ (4294967296 : Int) ≤ (rr : Int) + (y1 : Int) := by omega
        have Hst1 := Lib.hid (dig_step y1 U qq rr hdig (by omega))
        by_cases hge1 : 4294967296 ≤ qq
        · have hgeI1 : (4294967296 : Int) ≤ qq := by omega
          go_wp2_with fail
          go_round
          case rel => exact ⟨qq - 1, rr + y1, by go_num, by go_num, Hst1.out, by omega, by omega, by omega⟩
          case measure => simp [intOf]; omega
        · have hgeI1 : ¬ (4294967296 : Int) ≤ qq := by omega
          have hgtI1 : 4294967296 * (rr : Int) + (l1 : Int) < (qq : Int) * (y0 : Int) := by have := Hgt1.out; have := Hpc1.out; omega
          go_wp2_with fail
          go_round
          case rel => exact ⟨qq - 1, rr + y1, by go_num, by go_num, Hst1.out, by omega, by omega, by omega⟩
          case measure => simp [intOf]; omega
    · have hqe := dig_exit y1 y0 Y U l1 qq rr Q1 hdig (by omega) eY eQ1 hQq1 (by omega)
      have hgtI1 : ¬ 4294967296 * (rr : Int) + (l1 : Int) < (qq : Int) * (y0 : Int) := by have := Hpc1.out; omega
      have hgeI1 : ¬ (4294967296 : Int) ≤ qq := by omega
      clear hgt
      subst hqe
      go_wp2_with fail
      go_loop [18, 16] (fun a b => ∃ q r : Nat, a = .int .u64 q ∧ b = .int .u64 r ∧ Dig y1 R1 q r ∧ Q2 ≤ q ∧ q ≤ 4294967297 ∧ r < 4294967296) (fun a _ => (intOf a).toNat)
      case atStart => exact ⟨q2, r2, rfl, rfl, Hgq2.out.1, Hgq2.out.2, bq2, by omega⟩
      case round =>
        clear hR1 hq2 hp2 hr2
        obtain ⟨qq2, rr2, rfl, rfl, hdig2, hQq2, hqb2, hrb2⟩ := hrel
        have hpb0 := prod_bd qq2 y0 hqb2 by0
        have hpb2 : (qq2 : Int) * (y0 : Int) ≤ 18446744073709551615 := by rw [← Int.natCast_mul]; omega
        have hpn2 : 0 ≤ (qq2 : Int) * (y0 : Int) := by rw [← Int.natCast_mul]; omega
        have hpc : ((qq2 * y0 : Nat) : Int) = (qq2 : Int) * (y0 : Int) := Int.natCast_mul _ _
        have Hpc2 := Lib.hid hpc
        clear hpb0 hpc
        by_cases hgt : 4294967296 ≤ qq2 ∨ 4294967296 * rr2 + l0 < qq2 * y0
        · have hlt2 := dig_more y1 y0 Y R1 l0 qq2 rr2 Q2 hdig2 bl0 bR1 eY eQ2 hgt
          have Hgt2 := Lib.hid hgt
          clear hgt
          by_cases hbr2 : 4294967296 ≤ rr2 + y1
          · have hqe := dig_break y1 y0 Y R1 l0 qq2 rr2 Q2 hdig2 (by omega) (by omega) by0 bR1 eY eQ2 hlt2 hbr2
            have hbrI2 : (4294967296 : Int) ≤ (rr2 : Int) + (y1 : Int) := by omega
            have hqm2 : (qq2 : Int) - 1 = (Q2 : Int) := by omega
            clear hqe
            by_cases hge2 : 4294967296 ≤ qq2
            · have hgeI2 : (4294967296 : Int) ≤ qq2 := by omega
              go_wp2_with fail
              go_ret2
              exact ⟨⟨_, rfl⟩, ⟨0, rfl⟩⟩
            · have hgeI2 : ¬ (4294967296 : Int) ≤ qq2 := by omega
              have hgtI2 : 4294967296 * (rr2 : Int) + (l0 : Int) < (qq2 : Int) * (y0 : Int) := by have := Hgt2.out; have := Hpc2.out; omega
              go_wp2_with fail
              go_ret2
              exact ⟨⟨_, rfl⟩, ⟨0, rfl⟩⟩
          · have hbrI2 : ¬ (4294967296 : Int) ≤ (rr2 : Int) + (y1 : Int) := by omega
            have Hst2 := Lib.hid (dig_step y1 R1 qq2 rr2 hdig2 (by omega))
            by_cases hge2 : 4294967296 ≤ qq2
            · have hgeI2 : (4294967296 : Int) ≤ qq2 := by omega
              go_wp2_with fail
              go_round
              case rel => exact ⟨qq2 - 1, rr2 + y1, by go_num, by go_num, Hst2.out, by omega, by omega, by omega⟩
              case measure => simp [intOf]; omega
            · have hgeI2 : ¬ (4294967296 : Int) ≤ qq2 := by omega
              have hgtI2 : 4294967296 * (rr2 : Int) + (l0 : Int) < (qq2 : Int) * (y0 : Int) := by have := Hgt2.out; have := Hpc2.out; omega
              go_wp2_with fail
              go_round
              case rel => exact ⟨qq2 - 1, rr2 + y1, by go_num, by go_num, Hst2.out, by omega, by omega, by omega⟩
              case measure => simp [intOf]; omega
        · have hqe := dig_exit y1 y0 Y R1 l0 qq2 rr2 Q2 hdig2 (by omega) eY eQ2 hQq2 (by omega)
          have hgtI2 : ¬ 4294967296 * (rr2 : Int) + (l0 : Int) < (qq2 : Int) * (y0 : Int) := by have := Hpc2.out; omega
          have hgeI2 : ¬ (4294967296 : Int) ≤ qq2 := by omega
          clear hgt
          subst hqe
          go_wp2_with fail
          go_ret2
          exact ⟨⟨_, rfl⟩, ⟨0, rfl⟩⟩
end Go.Proofs.YtblfelhnljdgnaaGreatDoor

/- Plain arithmetic for the statement ScoreNumbers: sums and products that are held, a logarithm, a quotient of 128 bits. No program stands here. -/
namespace Go.Proofs.YtblfelhnljdgnaaGreatDoor.ScoreMath
open Go.RowKit

/-- A number held between the least and the greatest of 64 bits. -/
def held (n : Int) : Int := if 9223372036854775807 < n then 9223372036854775807 else if n < -9223372036854775808 then -9223372036854775808 else n

theorem held_hi {n : Int} (h : 9223372036854775807 < n) : held n = 9223372036854775807 := by unfold held; rw [if_pos h]
theorem held_lo {n : Int} (h : n < -9223372036854775808) : held n = -9223372036854775808 := by
  unfold held; rw [if_neg (by omega), if_pos h]
theorem held_in {n : Int} (h : -9223372036854775808 ≤ n ∧ n ≤ 9223372036854775807) : held n = n := by
  unfold held; rw [if_neg (by omega), if_neg (by omega)]

/-! ### the quotient that tells whether a product has wrapped -/
theorem tdiv_bound (c b : Int) (hb : 2 ≤ b.natAbs) (hc : c.natAbs ≤ 9223372036854775808) : -4611686018427387904 ≤ c.tdiv b ∧ c.tdiv b ≤ 4611686018427387904 := by
  have h : (c.tdiv b).natAbs = c.natAbs / b.natAbs := Int.natAbs_tdiv c b
  have h2 : c.natAbs / b.natAbs ≤ 9223372036854775808 / 2 := Nat.div_le_div hc hb (by omega)
  omega

theorem wrapped_mod (n : Int) : ∃ k : Int, wrap64 n = n + 18446744073709551616 * k := by
  refine ⟨-((n + 9223372036854775808) / 18446744073709551616), ?_⟩
  unfold wrap64; omega

theorem wrap64_bd (n : Int) : -9223372036854775808 ≤ wrap64 n ∧ wrap64 n ≤ 9223372036854775807 := by unfold wrap64; omega

theorem times_over (a b : Int) (ha : -9223372036854775808 ≤ a ∧ a ≤ 9223372036854775807) (hb : -9223372036854775808 ≤ b ∧ b ≤ 9223372036854775807)
    (hb0 : b ≠ 0) (hout : a * b < -9223372036854775808 ∨ 9223372036854775807 < a * b) (hx : ¬ (b = -1 ∧ a = -9223372036854775808)) :
    wrap64 ((wrap64 (a * b)).tdiv b) ≠ a := by
  intro h
  obtain ⟨k, hk⟩ := wrapped_mod (a * b)
  have hbd := wrap64_bd (a * b)
  generalize wrap64 (a * b) = c at *
  by_cases h1 : b = 1
  · subst h1; rw [Int.mul_one] at *; omega
  · by_cases hm : b = -1
    · subst hm; rw [Int.mul_neg, Int.mul_one] at *; omega
    · have hbn : 2 ≤ b.natAbs := by omega
      have hq := tdiv_bound c b hbn (by omega)
      rw [IntWalk.wrap64_in _ (by omega)] at h
      have hdm := Int.mul_tdiv_add_tmod c b
      have hr : (c.tmod b).natAbs < b.natAbs := by rw [Int.natAbs_tmod]; exact Nat.mod_lt _ (by omega)
      rw [h, Int.mul_comm b a] at hdm
      generalize a * b = p at *
      have : k = 0 := by omega
      subst this
      omega

theorem times_in (a b : Int) (ha : -9223372036854775808 ≤ a ∧ a ≤ 9223372036854775807) (hb0 : b ≠ 0)
    (hin : -9223372036854775808 ≤ a * b ∧ a * b ≤ 9223372036854775807) : wrap64 ((wrap64 (a * b)).tdiv b) = a := by
  rw [IntWalk.wrap64_in (a * b) hin, Int.mul_tdiv_cancel _ hb0, IntWalk.wrap64_in a ha]

theorem wrap_hi {n : Int} (h : 9223372036854775807 < n) (h2 : n ≤ 18446744073709551614) : wrap64 n < 0 := by unfold wrap64; omega
theorem wrap_lo {n : Int} (h : n < -9223372036854775808) (h2 : -18446744073709551616 ≤ n) : 0 ≤ wrap64 n := by unfold wrap64; omega

theorem mul_pp {a b : Int} (ha : 0 ≤ a) (hb : 0 ≤ b) : 0 ≤ a * b := Int.mul_nonneg ha hb
theorem mul_nn {a b : Int} (ha : a < 0) (hb : b < 0) : 0 ≤ a * b := Int.mul_nonneg_of_nonpos_of_nonpos (by omega) (by omega)
theorem mul_np {a b : Int} (ha : a < 0) (hb : 0 ≤ b) : a * b ≤ 0 := Int.mul_nonpos_of_nonpos_of_nonneg (by omega) hb
theorem mul_pn {a b : Int} (ha : 0 ≤ a) (hb : b < 0) : a * b ≤ 0 := Int.mul_nonpos_of_nonneg_of_nonpos ha (by omega)

theorem neg_back (lo : Nat) (h : lo ≤ 9223372036854775808) : wrap64 (IntKind.u64.wrap (-(lo : Int))) = -(lo : Int) := by
  rw [IntKind.wrap_u64]; unfold wrap64; omega

theorem ret_int {k : IntKind} {a b : Int} (h : a = b) : Ending.returned (.int k a) = Ending.returned (.int k b) := by rw [h]

end Go.Proofs.YtblfelhnljdgnaaGreatDoor.ScoreMath

namespace Go.Proofs.YtblfelhnljdgnaaGreatDoor
open Go.RowKit ScoreMath

set_option maxHeartbeats 400000 in
theorem sum_any (a b : Int) (ha : -9223372036854775808 ≤ a ∧ a ≤ 9223372036854775807) (hb : -9223372036854775808 ≤ b ∧ b ≤ 9223372036854775807) (w : World) :
    Calls Tryz.prog 7 #[.int .i64 a, .int .i64 b] w fun e w' => e = .returned (.int .i64 (held (a + b))) ∧ w = w' := by
  by_cases h1 : 9223372036854775807 < a + b
  · rw [held_hi h1]
    have hw := wrap_hi h1 (by omega)
    go_enter Tryz.func7, Tryz.ntmps7
    go_wp2
    go_ret
    exact ⟨rfl, rfl⟩
  · by_cases h2 : a + b < -9223372036854775808
    · rw [held_lo h2]
      have hw := wrap_lo h2 (by omega)
      go_enter Tryz.func7, Tryz.ntmps7
      go_wp2
      go_ret
      exact ⟨rfl, rfl⟩
    · rw [held_in (by omega)]
      go_enter Tryz.func7, Tryz.ntmps7
      go_wp2
      all_goals (go_ret; exact ⟨rfl, rfl⟩)

end Go.Proofs.YtblfelhnljdgnaaGreatDoor

/- Plain arithmetic of the logarithm and the weight of score. No program stands here. -/
namespace Go.Proofs.YtblfelhnljdgnaaGreatDoor.ScoreMath
open Go.RowKit

/-- One bit of the logarithm: the number squared, halved where it has reached 2. -/
def lstep (p : Nat × Nat) : Nat × Nat :=
  if 4294967296 ≤ p.1 * p.1 / 2147483648 then (p.1 * p.1 / 2147483648 / 2, p.2 * 2 + 1) else (p.1 * p.1 / 2147483648, p.2 * 2)
def lit (p : Nat × Nat) : Nat → Nat × Nat
  | 0 => p
  | n + 1 => lstep (lit p n)

theorem lit_yes (p : Nat × Nat) (n y o : Nat) (h : lit p n = (y, o)) (hz : 4294967296 ≤ y * y / 2147483648) : lit p (n + 1) = (y * y / 2147483648 / 2, o * 2 + 1) := by
  show lstep (lit p n) = _
  rw [h]; unfold lstep; rw [if_pos hz]
theorem lit_no (p : Nat × Nat) (n y o : Nat) (h : lit p n = (y, o)) (hz : ¬ 4294967296 ≤ y * y / 2147483648) : lit p (n + 1) = (y * y / 2147483648, o * 2) := by
  show lstep (lit p n) = _
  rw [h]; unfold lstep; rw [if_neg hz]

theorem sq_bd (y : Nat) (h : y < 4294967296) : y * y ≤ 18446744065119617025 ∧ y * y / 2147483648 < 8589934592 := by
  have h1 : y * y ≤ 4294967295 * 4294967295 := Nat.mul_le_mul (by omega) (by omega)
  have h2 : y * y ≤ 18446744065119617025 := h1
  refine ⟨h2, ?_⟩
  have : y * y / 2147483648 ≤ 18446744065119617025 / 2147483648 := Nat.div_le_div_right h2
  have e : 18446744065119617025 / 2147483648 = 8589934588 := by decide
  omega

theorem lit_bd (y k : Nat) (hy : y < 4294967296) : ∀ n, (lit (y, k) n).1 < 4294967296 ∧ (lit (y, k) n).2 + 1 ≤ (k + 1) * 2 ^ n
  | 0 => by simpa [lit] using hy
  | n + 1 => by
    obtain ⟨h1, h2⟩ := lit_bd y k hy n
    have hs := sq_bd _ h1
    have e : (k + 1) * 2 ^ (n + 1) = (k + 1) * 2 ^ n * 2 := by rw [Nat.pow_succ, Nat.mul_assoc]
    show (lstep (lit (y, k) n)).1 < _ ∧ (lstep (lit (y, k) n)).2 + 1 ≤ _
    rw [e]
    generalize (k + 1) * 2 ^ n = m at *
    unfold lstep
    split
    · exact ⟨by simp only; omega, by simp only; omega⟩
    · exact ⟨by simp only; omega, by simp only; omega⟩

theorem lit_bits (y k : Nat) : ∀ n, (lit (y, k) n).1 = (lit (y, 0) n).1 ∧ (lit (y, k) n).2 = k * 2 ^ n + (lit (y, 0) n).2
  | 0 => by simp [lit]
  | n + 1 => by
    obtain ⟨h1, h2⟩ := lit_bits y k n
    show (lstep (lit (y, k) n)).1 = (lstep (lit (y, 0) n)).1 ∧ (lstep (lit (y, k) n)).2 = _ + (lstep (lit (y, 0) n)).2
    have e : k * 2 ^ (n + 1) = k * 2 ^ n * 2 := by rw [Nat.pow_succ, Nat.mul_assoc]
    rw [e]
    unfold lstep
    rw [h1, h2]
    generalize k * 2 ^ n = m
    split
    · exact ⟨rfl, by simp only; omega⟩
    · exact ⟨rfl, by simp only; omega⟩

/-- How often b can be doubled below a. -/
def lgK (a b : Nat) : Nat := (a / b).log2
def lgY (a b : Nat) : Nat := a * 2147483648 / (b * 2 ^ lgK a b)
/-- The logarithm in units of 2^-16. -/
def lgV (a b : Nat) : Nat := lgK a b * 65536 + (lit (lgY a b, 0) 16).2

/-- Where the doubling stands, closed to the walk. -/
def Dbl (b B k : Nat) : Prop := B = b * 2 ^ k
def LitAt (y k n z o : Nat) : Prop := lit (y, k) n = (z, o)

theorem dbl_step {b B k : Nat} (h : Dbl b B k) : Dbl b (B * 2) (k + 1) := by unfold Dbl at *; rw [h, Nat.pow_succ, Nat.mul_assoc]
theorem dbl_bd {b B k a : Nat} (h : Dbl b B k) (hb : 1 ≤ b) (ha : B ≤ a) (h2 : a ≤ 2147483648) : k ≤ 31 := by
  unfold Dbl at h
  have h1 : 2 ^ k ≤ B := by rw [h]; exact Nat.le_mul_of_pos_left _ hb
  rcases Nat.lt_or_ge 31 k with hk | hk
  · have := Nat.pow_lt_pow_right (a := 2) (by omega) hk
    have e : 2 ^ 31 = 2147483648 := by decide
    omega
  · exact hk
theorem dbl_end {b B k a : Nat} (h : Dbl b B k) (hb : 1 ≤ b) (ha : B ≤ a) (hlt : a < B * 2) : k = lgK a b ∧ a * 2147483648 / B = lgY a b := by
  unfold Dbl at h
  have hk : k = lgK a b := by
    unfold lgK
    have hne : a / b ≠ 0 := by
      have : 1 ≤ a / b := by
        rw [Nat.le_div_iff_mul_le hb, Nat.one_mul]
        have : b * 1 ≤ b * 2 ^ k := Nat.mul_le_mul_left _ (Nat.two_pow_pos k)
        omega
      omega
    symm
    rw [Nat.log2_eq_iff hne]
    constructor
    · rw [Nat.le_div_iff_mul_le hb, Nat.mul_comm, ← h]; exact ha
    · rw [Nat.div_lt_iff_lt_mul hb, Nat.pow_succ, Nat.mul_right_comm, Nat.mul_comm (2 ^ k), ← h]; exact hlt
  refine ⟨hk, ?_⟩
  unfold lgY
  rw [← hk, ← h]
theorem y_bd {a B : Nat} (hB : 1 ≤ B) (hlt : a < B * 2) : a * 2147483648 / B < 4294967296 := by
  rw [Nat.div_lt_iff_lt_mul hB]; omega

theorem litAt_yes {y k n z o : Nat} (h : LitAt y k n z o) (hz : 4294967296 ≤ z * z / 2147483648) : LitAt y k (n + 1) (z * z / 2147483648 / 2) (o * 2 + 1) := lit_yes _ _ _ _ h hz
theorem litAt_no {y k n z o : Nat} (h : LitAt y k n z o) (hz : ¬ 4294967296 ≤ z * z / 2147483648) : LitAt y k (n + 1) (z * z / 2147483648) (o * 2) := lit_no _ _ _ _ h hz
theorem litAt_bd {y k n z o : Nat} (h : LitAt y k n z o) (hy : y < 4294967296) (hk : k ≤ 31) (hn : n ≤ 16) : z < 4294967296 ∧ o ≤ 2097151 := by
  have hb := lit_bd y k hy n
  unfold LitAt at h
  rw [h] at hb
  refine ⟨hb.1, ?_⟩
  have h1 : (k + 1) * 2 ^ n ≤ 32 * 2 ^ 16 := Nat.mul_le_mul (by omega) (Nat.pow_le_pow_right (by omega) hn)
  have e : 32 * 2 ^ 16 = 2097152 := by decide
  have h2 := hb.2
  simp only at h2
  omega
theorem litAt_end {y k z o : Nat} (h : LitAt y k 16 z o) : o = k * 65536 + (lit (y, 0) 16).2 := by
  unfold LitAt at h
  have := (lit_bits y k 16).2
  rw [h] at this
  exact this

/-! ### the quotient, bit by bit -/
def QAt (a b d n q r : Nat) : Prop := q = a / 2 ^ n * b / d ∧ r = a / 2 ^ n * b % d
def QD (X d q r : Nat) : Prop := q * d + r = X

theorem qat_start (a b d : Nat) (ha : a < 18446744073709551616) : QAt a b d 64 0 0 := by
  have : a / 2 ^ 64 = 0 := Nat.div_eq_of_lt ha
  unfold QAt; rw [this]; simp
theorem qat_dbl {a b d m q r t : Nat} (h : QAt a b d (m + 1) q r) (ht : a / 2 ^ m % 2 = t) : QD (a / 2 ^ m * b) d (q * 2) (r * 2 + t * b) := by
  obtain ⟨hq, hr⟩ := h
  have e : a / 2 ^ (m + 1) = a / 2 ^ m / 2 := by rw [Nat.pow_succ, Nat.div_div_eq_div_mul]
  rw [e] at hq hr
  have hd := Nat.div_add_mod (a / 2 ^ m / 2 * b) d
  rw [← hq, ← hr] at hd
  have ha : a / 2 ^ m = a / 2 ^ m / 2 * 2 + t := by omega
  unfold QD
  generalize a / 2 ^ m / 2 = T at *
  rw [ha, Nat.add_mul, Nat.mul_right_comm T 2 b, ← hd, Nat.mul_right_comm q 2 d, Nat.mul_comm q d, Nat.add_mul]
  omega
theorem qd_step {X d q r : Nat} (h : QD X d q r) (hr : d ≤ r) : QD X d (q + 1) (r - d) := by
  unfold QD at *; rw [Nat.add_mul]; omega
theorem qd_end {X d q r : Nat} (h : QD X d q r) (hr : r < d) : q = X / d ∧ r = X % d := by
  unfold QD at h
  have e : X = r + d * q := by rw [Nat.mul_comm d q]; omega
  constructor
  · rw [e, Nat.add_mul_div_left _ _ (by omega), Nat.div_eq_of_lt hr]; omega
  · rw [e, Nat.add_mul_mod_self_left, Nat.mod_eq_of_lt hr]
theorem qd_bd {X d q r : Nat} (h : QD X d q r) (hd : 0 < d) : q ≤ X / d := by
  unfold QD at h
  rw [Nat.le_div_iff_mul_le hd]; omega
theorem x_bd (a b d m : Nat) : a / 2 ^ m * b / d ≤ a * b / d :=
  Nat.div_le_div_right (Nat.mul_le_mul_right _ (Nat.div_le_self _ _))

/-! ### the weight -/
def wtP (l dd : Nat) : Nat := 9 * l * dd
def wtK (l dd t : Nat) : Nat := 65536 * (3 * t + wtP l dd) / (10 * t)
def wtD (o l dd t : Nat) : Nat := 10 * (65536 * o + wtK l dd t)
def wtV (W o l dd t : Nat) : Nat := 22 * W * (65536 * o) / wtD o l dd t

theorem wtP_bd {l dd : Nat} (hl : l ≤ 1048576) (hd : dd ≤ 1048576) : wtP l dd ≤ 9895604649984 := by
  unfold wtP
  have := Nat.mul_le_mul (Nat.mul_le_mul_left 9 hl) hd
  exact this
theorem wtK_bd {l dd t : Nat} (hl : l ≤ 1048576) (hd : dd ≤ 1048576) (ht : 1 ≤ t) : wtK l dd t ≤ 72057594037927936 := by
  have hp := wtP_bd hl hd
  unfold wtK
  refine Nat.div_le_of_le_mul ?_
  have : 720575940379279360 * t ≤ 10 * t * 72057594037927936 := by omega
  omega
theorem wtV_bd {W o l dd t : Nat} (hW : W ≤ 1099511627776) (ho : 1 ≤ o) : wtV W o l dd t ≤ 24189255811072 := by
  unfold wtV
  refine Nat.div_le_of_le_mul ?_
  have h1 : 655360 * o ≤ wtD o l dd t := by unfold wtD; omega
  have h2 : 655360 * o * 24189255811072 ≤ wtD o l dd t * 24189255811072 := Nat.mul_le_mul_right _ h1
  have h3 : 22 * W * (65536 * o) ≤ 24189255811072 * (65536 * o) := Nat.mul_le_mul_right _ (by omega)
  omega

end Go.Proofs.YtblfelhnljdgnaaGreatDoor.ScoreMath

/- The contract of math/bits.Div64 at all its arguments; the walks of score.size, score.Times, score.Log, score.Weight and of their references. -/
namespace Go.Proofs.YtblfelhnljdgnaaGreatDoor
open Go.RowKit DivMath ScoreMath

theorem cast_div (a b : Nat) : (a : Int) / (b : Int) = ((a / b : Nat) : Int) := rfl

theorem div64_any (hi lo y : Nat) (hlt : hi < y) (hy : y < 18446744073709551616) (hlo : lo < 18446744073709551616) (w : World) :
    Calls Tryz.prog 15 #[.int .u64 hi, .int .u64 lo, .int .u64 y] w fun e w' => (∃ r : Int, e = .returned (.tuple #[.int .u64 (((hi * 18446744073709551616 + lo) / y : Nat) : Int), .int .u64 r])) ∧ (∃ n, w' = w.drewN n) := by
  rcases Nat.eq_zero_or_pos hi with rfl | hhi
  · rw [Nat.zero_mul, Nat.zero_add]
    exact div64_small lo y (by omega) hy hlo w
  · obtain ⟨b1, b2, _, _⟩ := bitLen_bd y (by omega) hy
    have hs : Lib.bitLen y + (64 - Lib.bitLen y) = 64 := by omega
    obtain ⟨Y, H, D, U, L, eY, eH, eD, eU, eL, bY0, bY1, bU, bL, eN⟩ := norm hi lo y (64 - Lib.bitLen y) hlt hy hlo hs
    generalize hS : 64 - Lib.bitLen y = s at *
    have hYs : Y = Y / 4294967296 * 4294967296 + Y % 4294967296 := by omega
    have y1 : 2147483648 ≤ Y / 4294967296 := by omega
    have y1' : Y / 4294967296 < 4294967296 := by omega
    have y0 : Y % 4294967296 < 4294967296 := by omega
    have s1 := q_start (Y / 4294967296) (Y % 4294967296) U (L / 4294967296) y1 y0 (by omega) (by omega)
    have R1 : (U * 4294967296 + L / 4294967296) % Y < Y := Nat.mod_lt _ (by omega)
    have s2 := q_start (Y / 4294967296) (Y % 4294967296) ((U * 4294967296 + L / 4294967296) % Y) (L % 4294967296) y1 y0 (by omega) (by omega)
    have t := two_digits (U * 4294967296 + L / 4294967296) (L % 4294967296) Y (by omega)
    have e2 : (U * 4294967296 + L / 4294967296) * 4294967296 + L % 4294967296 = U * 18446744073709551616 + L := join_digits U L
    rw [e2, eN] at t
    have lt1 : (U * 4294967296 + L / 4294967296) / Y < 4294967296 := digit_lt _ _ _ bU (by omega)
    have lt2 : ((U * 4294967296 + L / 4294967296) % Y * 4294967296 + L % 4294967296) / Y < 4294967296 := digit_lt _ _ _ R1 (by omega)
    rw [← hYs] at s1 s2
    have c := div64_core hi lo y s Y H D U L (Y / 4294967296) (Y % 4294967296) (L / 4294967296) (L % 4294967296) (U / (Y / 4294967296)) (U / (Y / 4294967296) * (Y / 4294967296)) (U % (Y / 4294967296))
      ((U * 4294967296 + L / 4294967296) / Y) ((U * 4294967296 + L / 4294967296) % Y) ((U * 4294967296 + L / 4294967296) % Y / (Y / 4294967296)) ((U * 4294967296 + L / 4294967296) % Y / (Y / 4294967296) * (Y / 4294967296)) ((U * 4294967296 + L / 4294967296) % Y % (Y / 4294967296))
      (((U * 4294967296 + L / 4294967296) % Y * 4294967296 + L % 4294967296) / Y) hs (by omega) eY eH eD eU eL rfl (maskU Y bY1) rfl (maskU L bL) rfl (Int.natCast_mul _ _).symm (by have := s1.2.2.1; omega) (rest_wrap U (L / 4294967296) Y (by omega) bY1) rfl (Int.natCast_mul _ _).symm (by have := s2.2.2.1; omega)
      hhi hlt hy hlo bY0 bY1 bU R1 y1 y1' y0 (by omega) (by omega) (by have := s1.2.2.1; omega) (s1.2.2.2) (by have := s2.2.2.1; omega) s2.2.2.2 s1.2.1 s2.2.1 lt1 lt2
      ⟨s1.2.2.1, s1.1⟩ ⟨s2.2.2.1, s2.1⟩ (by rw [← hYs]; exact Lib.hid rfl) (by rw [← hYs]; exact Lib.hid rfl) (Lib.hid hYs) w
    refine c.mono fun e w' ⟨⟨r, he⟩, hw⟩ => ⟨⟨r, ?_⟩, hw⟩
    rw [he, ← t]
    simp

set_option maxHeartbeats 400000 in
theorem size_any (a : Int) (na : Nat) (ha : -9223372036854775808 ≤ a ∧ a ≤ 9223372036854775807) (h : a.natAbs = na) (w : World) :
    Calls Tryz.prog 16 #[.int .i64 a] w fun e w' => e = .returned (.int .u64 (na : Int)) ∧ w = w' := by
  have H := Lib.hid h
  clear h
  by_cases h0 : a < 0
  · have e : IntKind.u64.wrap (-IntKind.u64.wrap a) = (na : Int) := by have := H.out; simp only [IntKind.wrap_u64]; omega
    go_enter Tryz.func16, Tryz.ntmps16
    go_wp2
    go_ret
    exact ⟨rfl, rfl⟩
  · obtain ⟨n, rfl⟩ := Int.eq_ofNat_of_zero_le (show 0 ≤ a by omega)
    have e : n = na := H.out
    subst e
    go_enter Tryz.func16, Tryz.ntmps16
    go_wp2
    go_ret
    exact ⟨rfl, rfl⟩

theorem mul64_any (x y hi lo : Nat) (hx : x < 18446744073709551616) (hy : y < 18446744073709551616) (h1 : x * y / 18446744073709551616 = hi) (h2 : x * y % 18446744073709551616 = lo) (w : World) :
    Calls Tryz.prog 14 #[.int .u64 x, .int .u64 y] w fun e w' => e = .returned (.tuple #[.int .u64 (hi : Int), .int .u64 (lo : Int)]) ∧ w = w' := by
  refine (Tryz.bits_Mul64 x y hx hy w).mono fun e w' ⟨he, hw⟩ => ⟨?_, hw.symm⟩
  rw [he, h1, h2]

set_option maxHeartbeats 1000000 in
theorem times_any (a b : Int) (ha : -9223372036854775808 ≤ a ∧ a ≤ 9223372036854775807) (hb : -9223372036854775808 ≤ b ∧ b ≤ 9223372036854775807) (w : World) :
    Calls Tryz.prog 8 #[.int .i64 a, .int .i64 b] w fun e w' => e = .returned (.int .i64 (held (a * b))) ∧ w = w' := by
  obtain ⟨na, hna⟩ : ∃ n, a.natAbs = n := ⟨_, rfl⟩
  obtain ⟨nb, hnb⟩ : ∃ n, b.natAbs = n := ⟨_, rfl⟩
  have hab : (a * b).natAbs = na * nb := by rw [Int.natAbs_mul, hna, hnb]
  obtain ⟨hi, hhi⟩ : ∃ n, na * nb / 18446744073709551616 = n := ⟨_, rfl⟩
  obtain ⟨lo, hlo⟩ : ∃ n, na * nb % 18446744073709551616 = n := ⟨_, rfl⟩
  have hM : na * nb = hi * 18446744073709551616 + lo := by omega
  have hloB : lo ≤ 18446744073709551615 := by omega
  rw [hM] at hab
  have bna : na ≤ 9223372036854775808 := by omega
  have bnb : nb ≤ 9223372036854775808 := by omega
  have Ha := Lib.hid hna
  have Hb := Lib.hid hnb
  have Hhi := Lib.hid hhi
  have Hlo := Lib.hid hlo
  have Hab := Lib.hid hab
  clear hna hnb hhi hlo hab hM
  by_cases hneg : (decide (a < 0) == decide (b < 0)) = true
  · have hp : a * b = ((hi * 18446744073709551616 + lo : Nat) : Int) := by
      have : 0 ≤ a * b := by
        by_cases h1 : a < 0
        · by_cases h2 : b < 0
          · exact mul_nn h1 h2
          · simp [h1, h2] at hneg
        · by_cases h2 : b < 0
          · simp [h1, h2] at hneg
          · exact mul_pp (by omega) (by omega)
      have := Hab.out; omega
    by_cases h0 : hi = 0
    · subst h0
      by_cases hl : 9223372036854775807 < lo
      · rw [hp, held_hi (by omega)]
        clear hp
        have hlI : (9223372036854775807 : Int) < lo := by omega
        go_enter Tryz.func8, Tryz.ntmps8
        go_wp2_with fail
        refine (size_any _ na ha Ha.out _).mono ?_
        rintro e w' ⟨rfl, rfl⟩
        go_wp2_with fail
        refine (size_any _ nb hb Hb.out _).mono ?_
        rintro e w' ⟨rfl, rfl⟩
        go_wp2_with fail
        refine (mul64_any na nb 0 lo (by omega) (by omega) Hhi.out Hlo.out _).mono ?_
        rintro e w' ⟨rfl, rfl⟩
        go_wp2
        go_ret
        exact ⟨rfl, rfl⟩
      · have e : a * b = (lo : Int) := by omega
        rw [e, held_in (by omega)]
        clear hp e
        have hlI : ¬ (9223372036854775807 : Int) < lo := by omega
        go_enter Tryz.func8, Tryz.ntmps8
        go_wp2_with fail
        refine (size_any _ na ha Ha.out _).mono ?_
        rintro e w' ⟨rfl, rfl⟩
        go_wp2_with fail
        refine (size_any _ nb hb Hb.out _).mono ?_
        rintro e w' ⟨rfl, rfl⟩
        go_wp2_with fail
        refine (mul64_any na nb 0 lo (by omega) (by omega) Hhi.out Hlo.out _).mono ?_
        rintro e w' ⟨rfl, rfl⟩
        go_wp2
        go_ret
        exact ⟨rfl, rfl⟩
    · have hpos : 0 < hi := by omega
      rw [hp, held_hi (by omega)]
      clear hp
      go_enter Tryz.func8, Tryz.ntmps8
      go_wp2_with fail
      refine (size_any _ na ha Ha.out _).mono ?_
      rintro e w' ⟨rfl, rfl⟩
      go_wp2_with fail
      refine (size_any _ nb hb Hb.out _).mono ?_
      rintro e w' ⟨rfl, rfl⟩
      go_wp2_with fail
      refine (mul64_any na nb hi lo (by omega) (by omega) Hhi.out Hlo.out _).mono ?_
      rintro e w' ⟨rfl, rfl⟩
      go_wp2
      go_ret
      exact ⟨rfl, rfl⟩
  · have hp : a * b = -((hi * 18446744073709551616 + lo : Nat) : Int) := by
      have : a * b ≤ 0 := by
        by_cases h1 : a < 0
        · by_cases h2 : b < 0
          · simp [h1, h2] at hneg
          · exact mul_np h1 (by omega)
        · by_cases h2 : b < 0
          · exact mul_pn (by omega) h2
          · simp [h1, h2] at hneg
      have := Hab.out; omega
    have hneg' : (decide (a < 0) == decide (b < 0)) = false := by simpa using hneg
    clear hneg
    by_cases h0 : hi = 0
    · subst h0
      by_cases hl : 9223372036854775808 < lo
      · rw [hp, held_lo (by omega)]
        clear hp
        have hlI : (9223372036854775808 : Int) < lo := by omega
        go_enter Tryz.func8, Tryz.ntmps8
        go_wp2_with fail
        refine (size_any _ na ha Ha.out _).mono ?_
        rintro e w' ⟨rfl, rfl⟩
        go_wp2_with fail
        refine (size_any _ nb hb Hb.out _).mono ?_
        rintro e w' ⟨rfl, rfl⟩
        go_wp2_with fail
        refine (mul64_any na nb 0 lo (by omega) (by omega) Hhi.out Hlo.out _).mono ?_
        rintro e w' ⟨rfl, rfl⟩
        go_wp2
        go_ret
        exact ⟨rfl, rfl⟩
      · have e : a * b = -(lo : Int) := by omega
        rw [e, held_in (by omega)]
        clear hp e
        have hlI : ¬ (9223372036854775808 : Int) < lo := by omega
        have hwr : wrap64 (IntKind.u64.wrap (-(lo : Int))) = -(lo : Int) := neg_back lo (by omega)
        go_enter Tryz.func8, Tryz.ntmps8
        go_wp2_with fail
        refine (size_any _ na ha Ha.out _).mono ?_
        rintro e w' ⟨rfl, rfl⟩
        go_wp2_with fail
        refine (size_any _ nb hb Hb.out _).mono ?_
        rintro e w' ⟨rfl, rfl⟩
        go_wp2_with fail
        refine (mul64_any na nb 0 lo (by omega) (by omega) Hhi.out Hlo.out _).mono ?_
        rintro e w' ⟨rfl, rfl⟩
        go_wp2
        go_ret
        exact ⟨ret_int hwr, rfl⟩
    · have hpos : 0 < hi := by omega
      rw [hp, held_lo (by omega)]
      clear hp
      go_enter Tryz.func8, Tryz.ntmps8
      go_wp2_with fail
      refine (size_any _ na ha Ha.out _).mono ?_
      rintro e w' ⟨rfl, rfl⟩
      go_wp2_with fail
      refine (size_any _ nb hb Hb.out _).mono ?_
      rintro e w' ⟨rfl, rfl⟩
      go_wp2_with fail
      refine (mul64_any na nb hi lo (by omega) (by omega) Hhi.out Hlo.out _).mono ?_
      rintro e w' ⟨rfl, rfl⟩
      go_wp2
      go_ret
      exact ⟨rfl, rfl⟩

end Go.Proofs.YtblfelhnljdgnaaGreatDoor

/- The walks of score.Weight, of its reference and of the reference's quotient. -/
namespace Go.Proofs.YtblfelhnljdgnaaGreatDoor
open Go.RowKit DivMath ScoreMath

theorem mul64_at (x y : Int) (X Y hi lo : Nat) (ex : x = (X : Int)) (ey : y = (Y : Int)) (hx : X < 18446744073709551616) (hy : Y < 18446744073709551616) (h1 : X * Y / 18446744073709551616 = hi) (h2 : X * Y % 18446744073709551616 = lo) (w : World) :
    Calls Tryz.prog 14 #[.int .u64 x, .int .u64 y] w fun e w' => e = .returned (.tuple #[.int .u64 (hi : Int), .int .u64 (lo : Int)]) ∧ w = w' := by
  subst ex ey; exact mul64_any X Y hi lo hx hy h1 h2 w

theorem div64_at (hi lo y q : Nat) (yi : Int) (ey : yi = (y : Int)) (hlt : hi < y) (hy : y < 18446744073709551616) (hlo : lo < 18446744073709551616) (hq : (hi * 18446744073709551616 + lo) / y = q) (w : World) :
    Calls Tryz.prog 15 #[.int .u64 hi, .int .u64 lo, .int .u64 yi] w fun e w' => (∃ r : Int, e = .returned (.tuple #[.int .u64 (q : Int), .int .u64 r])) ∧ (∃ n, w' = w.drewN n) := by
  subst ey hq; exact div64_any hi lo y hlt hy hlo w

def good (W o l dd t : Int) : Bool := decide (0 ≤ W ∧ W ≤ 1099511627776 ∧ 1 ≤ o ∧ o ≤ 1048576 ∧ 1 ≤ l ∧ l ≤ 1048576 ∧ 1 ≤ dd ∧ dd ≤ 1048576 ∧ 1 ≤ t ∧ t ≤ 1099511627776)
def wtR (W o l dd t : Int) : Int := if good W o l dd t then (wtV W.toNat o.toNat l.toNat dd.toNat t.toNat : Int) else 0

theorem wtR_0 {W o l dd t : Int} (h : ¬ (0 ≤ W ∧ W ≤ 1099511627776 ∧ 1 ≤ o ∧ o ≤ 1048576 ∧ 1 ≤ l ∧ l ≤ 1048576 ∧ 1 ≤ dd ∧ dd ≤ 1048576 ∧ 1 ≤ t ∧ t ≤ 1099511627776)) : wtR W o l dd t = 0 := by
  unfold wtR good; rw [if_neg (by simpa using h)]
theorem wtR_1 {W o l dd t : Nat} (h : 0 ≤ (W : Int) ∧ (W : Int) ≤ 1099511627776 ∧ 1 ≤ (o : Int) ∧ (o : Int) ≤ 1048576 ∧ 1 ≤ (l : Int) ∧ (l : Int) ≤ 1048576 ∧ 1 ≤ (dd : Int) ∧ (dd : Int) ≤ 1048576 ∧ 1 ≤ (t : Int) ∧ (t : Int) ≤ 1099511627776) : wtR W o l dd t = (wtV W o l dd t : Int) := by
  unfold wtR good; rw [if_pos (by simpa using h)]; rfl

set_option maxHeartbeats 2000000 in
theorem weight_no (W o l dd t : Int) (hW : -9223372036854775808 ≤ W ∧ W ≤ 9223372036854775807) (ho : -9223372036854775808 ≤ o ∧ o ≤ 9223372036854775807) (hl : -9223372036854775808 ≤ l ∧ l ≤ 9223372036854775807) (hd : -9223372036854775808 ≤ dd ∧ dd ≤ 9223372036854775807) (ht : -9223372036854775808 ≤ t ∧ t ≤ 9223372036854775807)
    (hbad : ¬ (0 ≤ W ∧ W ≤ 1099511627776 ∧ 1 ≤ o ∧ o ≤ 1048576 ∧ 1 ≤ l ∧ l ≤ 1048576 ∧ 1 ≤ dd ∧ dd ≤ 1048576 ∧ 1 ≤ t ∧ t ≤ 1099511627776)) (w : World) :
    Calls Tryz.prog 6 #[.int .i64 W, .int .i64 o, .int .i64 l, .int .i64 dd, .int .i64 t] w fun e w' => e = .returned (.int .i64 0) ∧ w = w' := by
  by_cases b0 : W < 0
  · clear hbad
    go_enter Tryz.func6, Tryz.ntmps6
    go_wp2
    go_ret
    exact ⟨rfl, rfl⟩
  by_cases b1 : 1099511627776 < W
  · clear hbad
    go_enter Tryz.func6, Tryz.ntmps6
    go_wp2
    go_ret
    exact ⟨rfl, rfl⟩
  by_cases b2 : o < 1
  · clear hbad
    go_enter Tryz.func6, Tryz.ntmps6
    go_wp2
    go_ret
    exact ⟨rfl, rfl⟩
  by_cases b3 : 1048576 < o
  · clear hbad
    go_enter Tryz.func6, Tryz.ntmps6
    go_wp2
    go_ret
    exact ⟨rfl, rfl⟩
  by_cases b4 : l < 1
  · clear hbad
    go_enter Tryz.func6, Tryz.ntmps6
    go_wp2
    go_ret
    exact ⟨rfl, rfl⟩
  by_cases b5 : 1048576 < l
  · clear hbad
    go_enter Tryz.func6, Tryz.ntmps6
    go_wp2
    go_ret
    exact ⟨rfl, rfl⟩
  by_cases b6 : dd < 1
  · clear hbad
    go_enter Tryz.func6, Tryz.ntmps6
    go_wp2
    go_ret
    exact ⟨rfl, rfl⟩
  by_cases b7 : 1048576 < dd
  · clear hbad
    go_enter Tryz.func6, Tryz.ntmps6
    go_wp2
    go_ret
    exact ⟨rfl, rfl⟩
  by_cases b8 : t < 1
  · clear hbad
    go_enter Tryz.func6, Tryz.ntmps6
    go_wp2
    go_ret
    exact ⟨rfl, rfl⟩
  by_cases b9 : 1099511627776 < t
  · clear hbad
    go_enter Tryz.func6, Tryz.ntmps6
    go_wp2
    go_ret
    exact ⟨rfl, rfl⟩
  exact absurd ⟨by omega, by omega, by omega, by omega, by omega, by omega, by omega, by omega, by omega, by omega⟩ hbad

set_option maxRecDepth 100000 in
set_option maxHeartbeats 1000000 in
theorem weight_yes (W o l dd t P k D hi lo V : Nat) (hW : W ≤ 1099511627776) (ho : 1 ≤ o ∧ o ≤ 1048576) (hl : 1 ≤ l ∧ l ≤ 1048576) (hd : 1 ≤ dd ∧ dd ≤ 1048576) (ht : 1 ≤ t ∧ t ≤ 1099511627776)
    (bP : P ≤ 9895604649984) (bk : k ≤ 72057594037927936) (eP : (9 : Int) * (l : Int) * (dd : Int) = (P : Int)) (ek : (65536 * (3 * (t : Int) + (P : Int))) / (10 * (t : Int)) = (k : Int))
    (eD : Hid (D = 10 * (65536 * o + k))) (e1 : Hid (22 * W * (65536 * o) / 18446744073709551616 = hi)) (e2 : Hid (22 * W * (65536 * o) % 18446744073709551616 = lo)) (hhi : hi < D) (hDb : D ≤ 1152921504606846976)
    (eV : Hid (22 * W * (65536 * o) / D = V)) (bV : V ≤ 24189255811072) (w : World) :
    Calls Tryz.prog 6 #[.int .i64 W, .int .i64 o, .int .i64 l, .int .i64 dd, .int .i64 t] w fun e w' => e = .returned (.int .i64 (V : Int)) ∧ (∃ n, w' = w.drewN n) := by
  have a0 : ¬ (W : Int) < 0 := by omega
  have a1 : ¬ (1099511627776 : Int) < W := by omega
  have a2 : ¬ (o : Int) < 1 := by omega
  have a3 : ¬ (1048576 : Int) < o := by omega
  have a4 : ¬ (l : Int) < 1 := by omega
  have a5 : ¬ (1048576 : Int) < l := by omega
  have a6 : ¬ (dd : Int) < 1 := by omega
  have a7 : ¬ (1048576 : Int) < dd := by omega
  have a8 : ¬ (t : Int) < 1 := by omega
  have a9 : ¬ (1099511627776 : Int) < t := by omega
  go_enter Tryz.func6, Tryz.ntmps6
  go_wp2_with fail
  refine (mul64_at _ _ (22 * W) (65536 * o) hi lo (by omega) (by omega) (by omega) (by omega) e1.out e2.out _).mono ?_
  rintro e w' ⟨rfl, rfl⟩
  go_wp2_with fail
  have hlo : lo < 18446744073709551616 := by rw [← e2.out]; exact Nat.mod_lt _ (by omega)
  refine (div64_at hi lo D V _ (by have := eD.out; omega) hhi (by omega) hlo (by rw [← eV.out, ← e1.out, ← e2.out, Nat.div_add_mod']) _).mono ?_
  rintro e w' ⟨⟨r, rfl⟩, ⟨n, rfl⟩⟩
  go_wp2
  go_ret
  exact ⟨rfl, ⟨n, rfl⟩⟩

theorem weight_any (W o l dd t : Int) (hW : -9223372036854775808 ≤ W ∧ W ≤ 9223372036854775807) (ho : -9223372036854775808 ≤ o ∧ o ≤ 9223372036854775807) (hl : -9223372036854775808 ≤ l ∧ l ≤ 9223372036854775807) (hd : -9223372036854775808 ≤ dd ∧ dd ≤ 9223372036854775807) (ht : -9223372036854775808 ≤ t ∧ t ≤ 9223372036854775807) (w : World) :
    Calls Tryz.prog 6 #[.int .i64 W, .int .i64 o, .int .i64 l, .int .i64 dd, .int .i64 t] w fun e w' => e = .returned (.int .i64 (wtR W o l dd t)) ∧ (∃ n, w' = w.drewN n) := by
  by_cases hg : 0 ≤ W ∧ W ≤ 1099511627776 ∧ 1 ≤ o ∧ o ≤ 1048576 ∧ 1 ≤ l ∧ l ≤ 1048576 ∧ 1 ≤ dd ∧ dd ≤ 1048576 ∧ 1 ≤ t ∧ t ≤ 1099511627776
  · obtain ⟨A, rfl⟩ := Int.eq_ofNat_of_zero_le (show 0 ≤ W by omega)
    obtain ⟨B, rfl⟩ := Int.eq_ofNat_of_zero_le (show 0 ≤ o by omega)
    obtain ⟨L, rfl⟩ := Int.eq_ofNat_of_zero_le (show 0 ≤ l by omega)
    obtain ⟨E, rfl⟩ := Int.eq_ofNat_of_zero_le (show 0 ≤ dd by omega)
    obtain ⟨T, rfl⟩ := Int.eq_ofNat_of_zero_le (show 0 ≤ t by omega)
    rw [wtR_1 hg]
    have hk := wtK_bd (l := L) (dd := E) (t := T) (by omega) (by omega) (by omega)
    have hD : wtD B L E T = 10 * (65536 * B + wtK L E T) := rfl
    have hhi : 22 * A * (65536 * B) / 18446744073709551616 < wtD B L E T := by
      have h1 : 22 * A * (65536 * B) ≤ 24189255811072 * (65536 * 1048576) := Nat.mul_le_mul (by omega) (by omega)
      have h2 : 22 * A * (65536 * B) / 18446744073709551616 ≤ 24189255811072 * (65536 * 1048576) / 18446744073709551616 := Nat.div_le_div_right h1
      have h3 : 24189255811072 * (65536 * 1048576) / 18446744073709551616 = 90112 := by decide
      omega
    exact weight_yes A B L E T (wtP L E) (wtK L E T) (wtD B L E T) _ _ (wtV A B L E T) (by omega) (by omega) (by omega) (by omega) (by omega)
      (wtP_bd (by omega) (by omega)) hk (by unfold wtP; simp) (by unfold wtK; simp) (Lib.hid hD) (Lib.hid rfl) (Lib.hid rfl) hhi (by omega) (Lib.hid rfl) (wtV_bd (by omega) (by omega)) w
  · rw [wtR_0 hg]
    exact (weight_no W o l dd t hW ho hl hd ht hg w).mono fun e w' ⟨he, hw⟩ => ⟨he, 0, hw.symm⟩

end Go.Proofs.YtblfelhnljdgnaaGreatDoor

/- Plain laws of the weight: more worth, or more often, is not less; longer is not more; it is at most 22 tenths of the worth. No program stands here. -/
namespace Go.Proofs.YtblfelhnljdgnaaGreatDoor
open Go.RowKit ScoreMath

theorem div_le_cross {a b c d : Nat} (hb : 0 < b) (hd : 0 < d) (h : a * d ≤ c * b) : a / b ≤ c / d := by
  rw [Nat.le_div_iff_mul_le hd]
  have h1 : a / b * b ≤ a := Nat.div_mul_le_self a b
  have h2 : a / b * b * d ≤ a * d := Nat.mul_le_mul_right d h1
  have h3 : a / b * d * b ≤ c * b := by
    rw [Nat.mul_assoc, Nat.mul_comm d b, ← Nat.mul_assoc]; omega
  exact Nat.le_of_mul_le_mul_right h3 hb
theorem wtD_pos {o l dd t : Nat} (ho : 1 ≤ o) : 0 < wtD o l dd t := by unfold wtD; omega
theorem wtV_worth {W o l dd t : Nat} : wtV W o l dd t ≤ wtV (W + 1) o l dd t := by
  unfold wtV
  exact Nat.div_le_div_right (Nat.mul_le_mul_right _ (by omega))
theorem wtV_often {W o l dd t : Nat} (ho : 1 ≤ o) : wtV W o l dd t ≤ wtV W (o + 1) l dd t := by
  unfold wtV
  refine div_le_cross (wtD_pos ho) (wtD_pos (by omega)) ?_
  unfold wtD
  generalize wtK l dd t = K
  have e1 : 22 * W * (65536 * o) * (10 * (65536 * (o + 1) + K)) = 22 * W * (65536 * o * (10 * (65536 * (o + 1) + K))) := by rw [Nat.mul_assoc]
  have e2 : 22 * W * (65536 * (o + 1)) * (10 * (65536 * o + K)) = 22 * W * (65536 * (o + 1) * (10 * (65536 * o + K))) := by rw [Nat.mul_assoc]
  rw [e1, e2]
  refine Nat.mul_le_mul_left _ ?_
  have e3 : 65536 * o * (10 * (65536 * (o + 1) + K)) = 42949672960 * (o * o) + 42949672960 * o + 655360 * (o * K) := by
    simp only [Nat.mul_add, Nat.mul_one]
    have : 65536 * o * (10 * (65536 * o)) = 42949672960 * (o * o) := by
      rw [show 65536 * o * (10 * (65536 * o)) = (65536 * (10 * 65536)) * (o * o) by simp only [Nat.mul_assoc, Nat.mul_left_comm, Nat.mul_comm]]
    have h2 : 65536 * o * (10 * K) = 655360 * (o * K) := by
      rw [show 65536 * o * (10 * K) = (65536 * 10) * (o * K) by simp only [Nat.mul_assoc, Nat.mul_left_comm, Nat.mul_comm]]
    omega
  have e4 : 65536 * (o + 1) * (10 * (65536 * o + K)) = 42949672960 * (o * o) + 42949672960 * o + 655360 * (o * K) + 655360 * K := by
    have h1 : 65536 * (o + 1) * (10 * (65536 * o + K)) = 65536 * o * (10 * (65536 * o)) + 65536 * o * (10 * K) + 65536 * (10 * (65536 * o)) + 65536 * (10 * K) := by
      simp only [Nat.mul_add, Nat.add_mul, Nat.mul_one]; omega
    have : 65536 * o * (10 * (65536 * o)) = 42949672960 * (o * o) := by
      rw [show 65536 * o * (10 * (65536 * o)) = (65536 * (10 * 65536)) * (o * o) by simp only [Nat.mul_assoc, Nat.mul_left_comm, Nat.mul_comm]]
    have h2 : 65536 * o * (10 * K) = 655360 * (o * K) := by
      rw [show 65536 * o * (10 * K) = (65536 * 10) * (o * K) by simp only [Nat.mul_assoc, Nat.mul_left_comm, Nat.mul_comm]]
    omega
  omega
theorem wtV_length {W o l dd t : Nat} (ho : 1 ≤ o) : wtV W o (l + 1) dd t ≤ wtV W o l dd t := by
  unfold wtV
  refine Nat.div_le_div_left ?_ (wtD_pos ho)
  have hp : wtP l dd ≤ wtP (l + 1) dd := Nat.mul_le_mul_right _ (by omega)
  have hk : wtK l dd t ≤ wtK (l + 1) dd t := Nat.div_le_div_right (Nat.mul_le_mul_left _ (by omega))
  unfold wtD
  omega
theorem wtV_most {W o l dd t : Nat} (ho : 1 ≤ o) : wtV W o l dd t ≤ W * 22 / 10 := by
  unfold wtV
  refine div_le_cross (wtD_pos ho) (by omega) ?_
  unfold wtD
  generalize wtK l dd t = K
  have h1 : 22 * W * (65536 * o) * 10 = 22 * W * (655360 * o) := by
    rw [Nat.mul_assoc]; congr 1; omega
  rw [h1, Nat.mul_comm W 22]
  exact Nat.mul_le_mul_left _ (by omega)

/-- The statement's text, in numbers. -/
theorem wtR_nonneg (W o l dd t : Int) : 0 ≤ wtR W o l dd t := by
  unfold wtR
  split
  · exact Int.natCast_nonneg _
  · exact Int.le_refl 0
theorem wtR_laws {W o l dd t : Int} (h : 0 ≤ W ∧ W < 1099511627776 ∧ 1 ≤ o ∧ o < 1048576 ∧ 1 ≤ l ∧ l < 1048576 ∧ 1 ≤ dd ∧ dd ≤ 1048576 ∧ 1 ≤ t ∧ t ≤ 1099511627776) :
    wtR W o l dd t ≤ wtR (W + 1) o l dd t ∧ wtR W o l dd t ≤ wtR W (o + 1) l dd t ∧ wtR W o (l + 1) dd t ≤ wtR W o l dd t ∧ wtR W o l dd t ≤ (W * 22).tdiv 10 := by
  obtain ⟨A, rfl⟩ := Int.eq_ofNat_of_zero_le (show 0 ≤ W by omega)
  obtain ⟨B, rfl⟩ := Int.eq_ofNat_of_zero_le (show 0 ≤ o by omega)
  obtain ⟨L, rfl⟩ := Int.eq_ofNat_of_zero_le (show 0 ≤ l by omega)
  obtain ⟨E, rfl⟩ := Int.eq_ofNat_of_zero_le (show 0 ≤ dd by omega)
  obtain ⟨T, rfl⟩ := Int.eq_ofNat_of_zero_le (show 0 ≤ t by omega)
  have e0 := wtR_1 (W := A) (o := B) (l := L) (dd := E) (t := T) (by omega)
  have e1 := wtR_1 (W := A + 1) (o := B) (l := L) (dd := E) (t := T) (by omega)
  have e2 := wtR_1 (W := A) (o := B + 1) (l := L) (dd := E) (t := T) (by omega)
  have e3 := wtR_1 (W := A) (o := B) (l := L + 1) (dd := E) (t := T) (by omega)
  simp only [Int.natCast_add, Int.natCast_one] at e1 e2 e3
  rw [e0, e1, e2, e3]
  have h1 := wtV_worth (W := A) (o := B) (l := L) (dd := E) (t := T)
  have h2 := wtV_often (W := A) (o := B) (l := L) (dd := E) (t := T) (by omega)
  have h3 := wtV_length (W := A) (o := B) (l := L) (dd := E) (t := T) (by omega)
  have h4 := wtV_most (W := A) (o := B) (l := L) (dd := E) (t := T) (by omega)
  refine ⟨by omega, by omega, by omega, ?_⟩
  rw [Int.tdiv_eq_ediv_of_nonneg (by omega)]
  omega
end Go.Proofs.YtblfelhnljdgnaaGreatDoor

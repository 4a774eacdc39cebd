/-
  The seat's program on the abstract machine: its tables, the start of a run; short words for what is printed.
-/
import Derived.Test.YtllipkakgjmheaaGreatDoorProg
import Derived.Test.YtllipkakgjmheaaGreatDoorEvZ
set_option linter.unusedVariables false
set_option linter.unusedSimpArgs false
set_option linter.constructorNameAsVariable false
namespace Go.Proofs.YtllipkakgjmheaaGreatDoor.Ev
open Go
set_option maxRecDepth 1000000
noncomputable def F : Tr Func := ofL 12 Tryz.prog.funcs.toList
noncomputable def TY : Tr TypeInfo := ofL 12 Tryz.prog.types.toList
noncomputable def LK : Lk := lkOf Tryz.prog TY F
theorem hLK : LK = Lk.of Tryz.prog :=
  lk_eq (Nat.le_of_ble_eq_true (show Nat.ble (Tryz.prog.types.toList.length + 1) (2 ^ 12) = true by kernel_rfl)) (Nat.le_of_ble_eq_true (show Nat.ble (Tryz.prog.funcs.toList.length + 1) (2 ^ 12) = true by kernel_rfl))
theorem hTypes : 8 ≤ Tryz.prog.types.size := Nat.le_of_ble_eq_true (show Nat.ble 8 Tryz.prog.types.size = true by kernel_rfl)
theorem hMix : Tryz.prog.follows .mixedOrders = true := by kernel_rfl
noncomputable def R := rg F
noncomputable def D := dw F
noncomputable def C := ci F
noncomputable def L := li F
noncomputable def S := si F
def np : AV := .lit (.pointer none)
def ns : AV := .lit (.slice none 0 0)
def nm : AV := .lit (.map none)
def nf : AV := .lit .nilFunc
def ni : AV := .lit .nilIface
def tt : AV := .bool true
def ff : AV := .bool false
def uv : AV := .tuple []
end Go.Proofs.YtllipkakgjmheaaGreatDoor.Ev

/- The texts EbBs, EbA, EbB, EbC of WriterFull, joined by program (tools/merge.py): walks of the functions that the law reaches, and plain facts; no condition. -/
import Derived.Calls
import Derived.AtR
import Derived.Below
import Derived.Laws.Cells
import Derived.Laws.IdiomCopy
set_option linter.unusedVariables false
set_option linter.unusedSimpArgs false

/-
  Bytes as one number (the first one lowest), for the abstract machine: plain facts.
-/
set_option linter.unusedVariables false
namespace Go.Proofs.YtfmopmjgohopeaaGreatDoor.Ev

structure Bs where
  n : Nat
  v : Nat
  deriving Inhabited
def digits : Nat → Nat → List Nat
  | 0, _ => []
  | n + 1, v => (v % 256) :: digits n (v / 256)
def Bs.list (b : Bs) : List Nat := digits b.n b.v
def Bs.get (b : Bs) (i : Nat) : Option Nat := bif Nat.blt i b.n then some (Nat.shiftRight b.v (8 * i) % 256) else none
/-- so many from a place on -/
def Bs.sub (b : Bs) (off m : Nat) : Bs :=
  let k := bif Nat.ble m (b.n - off) then m else b.n - off
  ⟨k, Nat.shiftRight b.v (8 * off) % 2 ^ (8 * k)⟩
def Bs.app (a b : Bs) : Bs := ⟨a.n + b.n, a.v % 2 ^ (8 * a.n) + Nat.shiftLeft b.v (8 * a.n)⟩
def Bs.beq (a b : Bs) : Bool := Nat.beq a.n b.n && Nat.beq (a.v % 2 ^ (8 * a.n)) (b.v % 2 ^ (8 * b.n))
def lessGo : Nat → Nat → Nat → Nat → Bool
  | _, _, 0, _ => false
  | 0, _, _ + 1, _ => true
  | n + 1, v, m + 1, w => bif Nat.blt (v % 256) (w % 256) then true else bif Nat.beq (v % 256) (w % 256) then lessGo n (v / 256) m (w / 256) else false
def Bs.less (a b : Bs) : Bool := lessGo a.n a.v b.n b.v
def valOf : List Nat → Nat
  | [] => 0
  | b :: l => b + 256 * valOf l
def Bs.of (l : List Nat) : Bs := ⟨l.length, valOf l⟩
/-- pieces one behind the other: how printed states say long ones -/
def bs : List (Nat × Nat) → Bs
  | [] => ⟨0, 0⟩
  | (n, v) :: l => let r := bs l; ⟨n + r.n, v + Nat.shiftLeft r.v (8 * n)⟩

def natsBeq : List Nat → List Nat → Bool
  | [], [] => true
  | a :: x, b :: y => Nat.beq a b && natsBeq x y
  | _, _ => false
def bytesLess : List Nat → List Nat → Bool
  | _, [] => false
  | [], _ :: _ => true
  | a :: x, b :: y => bif Nat.blt a b then true else bif Nat.beq a b then bytesLess x y else false
theorem less_eq : ∀ (n v m w : Nat), lessGo n v m w = bytesLess (digits n v) (digits m w)
  | 0, _, 0, _ => rfl
  | _ + 1, _, 0, _ => rfl
  | 0, _, _ + 1, _ => rfl
  | n + 1, v, m + 1, w => by simp only [lessGo, digits, bytesLess, less_eq n]
theorem Bs.less_eq (a b : Bs) : a.less b = bytesLess a.list b.list := Ev.less_eq _ _ _ _
theorem pow256 (k : Nat) : 2 ^ (8 * k) = 256 ^ k := by rw [Nat.pow_mul]
theorem shr256 (v k : Nat) : Nat.shiftRight v (8 * k) = v / 256 ^ k := by rw [← pow256]; exact Nat.shiftRight_eq_div_pow v (8 * k)
theorem shl256 (v k : Nat) : Nat.shiftLeft v (8 * k) = v * 256 ^ k := by rw [← pow256]; exact Nat.shiftLeft_eq v (8 * k)
theorem digits_len : ∀ (n v : Nat), (digits n v).length = n
  | 0, _ => rfl
  | n + 1, v => congrArg (· + 1) (digits_len n (v / 256))
theorem digits_lt : ∀ (n v : Nat), ∀ b ∈ digits n v, b < 256
  | 0, _, b, h => by cases h
  | n + 1, v, b, h => by
    rcases List.mem_cons.1 h with rfl | h
    · exact Nat.mod_lt _ (by decide)
    · exact digits_lt n _ b h
theorem digits_get : ∀ (n v i : Nat), (digits n v)[i]? = if i < n then some (v / 256 ^ i % 256) else none
  | 0, v, i => by simp [digits]
  | n + 1, v, 0 => by simp [digits]
  | n + 1, v, i + 1 => by
    simp only [digits, List.getElem?_cons_succ, digits_get n, Nat.add_lt_add_iff_right]
    rw [Nat.div_div_eq_div_mul, Nat.pow_succ, Nat.mul_comm 256]
theorem digits_drop (n v k : Nat) : (digits n v).drop k = digits (n - k) (v / 256 ^ k) := by
  apply List.ext_getElem?
  intro i
  rw [List.getElem?_drop, digits_get, digits_get, Nat.div_div_eq_div_mul, ← Nat.pow_add]
  by_cases h : k + i < n
  · rw [if_pos h, if_pos (by omega)]
  · rw [if_neg h, if_neg (by omega)]
theorem digits_take (n v k : Nat) : (digits n v).take k = digits (if k ≤ n then k else n) v := by
  apply List.ext_getElem?
  intro i
  rw [List.getElem?_take, digits_get, digits_get]
  by_cases h : i < k
  · rw [if_pos h]
    by_cases h2 : i < n
    · rw [if_pos h2, if_pos (by split <;> omega)]
    · rw [if_neg h2, if_neg (by split <;> omega)]
  · rw [if_neg h, if_neg (by split <;> omega)]
theorem digits_mod : ∀ (n v k : Nat), n ≤ k → digits n (v % 256 ^ k) = digits n v
  | 0, _, _, _ => rfl
  | n + 1, v, 0, h => by omega
  | n + 1, v, k + 1, h => by
    have e1 : v % 256 ^ (k + 1) % 256 = v % 256 := by rw [Nat.pow_succ]; exact Nat.mod_mul_left_mod v _ 256
    have e2 : v % 256 ^ (k + 1) / 256 = v / 256 % 256 ^ k := by rw [Nat.pow_succ, Nat.mul_comm]; exact Nat.mod_mul_right_div_self v 256 _
    simp only [digits, e1, e2, digits_mod n (v / 256) k (by omega)]
theorem digits_app : ∀ (m n a b : Nat), digits m a ++ digits n b = digits (m + n) (a % 256 ^ m + b * 256 ^ m)
  | 0, n, a, b => by simp [digits, Nat.mod_one]
  | m + 1, n, a, b => by
    have e0 : a % 256 ^ (m + 1) = a % 256 + 256 * (a / 256 % 256 ^ m) := by rw [Nat.pow_succ, Nat.mul_comm (256 ^ m)]; exact Nat.mod_mul
    have e1 : (a % 256 ^ (m + 1) + b * 256 ^ (m + 1)) = a % 256 + 256 * (a / 256 % 256 ^ m + b * 256 ^ m) := by
      rw [e0, Nat.pow_succ, Nat.mul_add, ← Nat.mul_assoc b, Nat.mul_comm 256 (b * 256 ^ m)]; omega
    have hl : a % 256 < 256 := Nat.mod_lt _ (by decide)
    rw [e1, show m + 1 + n = (m + n) + 1 by omega]
    simp only [digits, List.cons_append, digits_app m n (a / 256) b]
    rw [show (a % 256 + 256 * (a / 256 % 256 ^ m + b * 256 ^ m)) % 256 = a % 256 by omega, show (a % 256 + 256 * (a / 256 % 256 ^ m + b * 256 ^ m)) / 256 = a / 256 % 256 ^ m + b * 256 ^ m by omega]
theorem digits_inj : ∀ (n v w : Nat), digits n v = digits n w ↔ v % 256 ^ n = w % 256 ^ n
  | 0, v, w => by simp [digits, Nat.mod_one]
  | n + 1, v, w => by
    have e0 : ∀ a : Nat, a % 256 ^ (n + 1) = a % 256 + 256 * (a / 256 % 256 ^ n) := fun a => by rw [Nat.pow_succ, Nat.mul_comm (256 ^ n)]; exact Nat.mod_mul
    simp only [digits, List.cons.injEq, digits_inj n, e0]
    constructor
    · rintro ⟨h1, h2⟩; rw [h1, h2]
    · intro h
      have h1 : v % 256 < 256 := Nat.mod_lt _ (by decide)
      have h2 : w % 256 < 256 := Nat.mod_lt _ (by decide)
      omega

theorem Bs.list_len (b : Bs) : b.list.length = b.n := digits_len _ _
theorem Bs.list_lt (b : Bs) : ∀ x ∈ b.list, x < 256 := digits_lt _ _
theorem Bs.list_get (b : Bs) (i : Nat) : b.get i = b.list[i]? := by
  unfold Bs.get Bs.list
  rw [digits_get, shr256]
  by_cases h : i < b.n
  · rw [if_pos h]
    have : Nat.blt i b.n = true := by unfold Nat.blt; exact Nat.ble_eq_true_of_le h
    rw [this]; rfl
  · rw [if_neg h]
    have : Nat.blt i b.n = false := Bool.eq_false_iff.2 fun e => h (Nat.le_of_ble_eq_true e)
    rw [this]; rfl
theorem Bs.list_sub (b : Bs) (off m : Nat) : (b.sub off m).list = (b.list.drop off).take m := by
  unfold Bs.sub Bs.list
  rw [digits_drop, digits_take]
  have hk : (bif Nat.ble m (b.n - off) then m else b.n - off) = if m ≤ b.n - off then m else b.n - off := by
    by_cases h : m ≤ b.n - off
    · rw [if_pos h, Nat.ble_eq_true_of_le h]; rfl
    · rw [if_neg h, Bool.eq_false_iff.2 fun e => h (Nat.le_of_ble_eq_true e)]; rfl
  show digits (bif Nat.ble m (b.n - off) then m else b.n - off) (Nat.shiftRight b.v (8 * off) % 2 ^ (8 * (bif Nat.ble m (b.n - off) then m else b.n - off))) = _
  rw [hk, pow256, shr256, digits_mod _ _ _ (Nat.le_refl _)]
theorem Bs.list_app (a b : Bs) : (a.app b).list = a.list ++ b.list := by
  unfold Bs.app Bs.list
  rw [digits_app, pow256, shl256]
theorem Bs.beq_eq (a b : Bs) : a.beq b = decide (a.list = b.list) := by
  unfold Bs.beq
  rw [pow256, pow256]
  by_cases hn : a.n = b.n
  · rw [hn, Nat.beq_refl, Bool.true_and]
    by_cases h : a.list = b.list
    · rw [decide_eq_true h]
      unfold Bs.list at h
      rw [hn, digits_inj] at h
      rw [h, Nat.beq_refl]
    · rw [decide_eq_false h]
      refine Bool.eq_false_iff.2 fun e => h ?_
      unfold Bs.list
      rw [hn, digits_inj]
      exact Nat.eq_of_beq_eq_true e
  · have h : ¬ a.list = b.list := fun e => hn (by rw [← a.list_len, ← b.list_len, e])
    rw [decide_eq_false h, Bool.and_eq_false_iff]
    left
    exact Bool.eq_false_iff.2 fun e => hn (Nat.eq_of_beq_eq_true e)
theorem natsBeq_dec : ∀ (a b : List Nat), natsBeq a b = decide (a = b)
  | [], [] => rfl
  | [], _ :: _ => rfl
  | _ :: _, [] => rfl
  | a :: x, b :: y => by
    simp only [natsBeq, natsBeq_dec x y]
    by_cases h : a = b
    · subst h; simp [Nat.beq_refl]
    · have : Nat.beq a b = false := Bool.eq_false_iff.2 fun e => h (Nat.eq_of_beq_eq_true e)
      simp [this, h]
theorem Bs.beq_nats (a b : Bs) : a.beq b = natsBeq a.list b.list := by rw [Bs.beq_eq, natsBeq_dec]
theorem Bs.of_list : ∀ (l : List Nat), (∀ b ∈ l, b < 256) → (Bs.of l).list = l
  | [], _ => rfl
  | b :: l, h => by
    have hb := h b (List.mem_cons_self ..)
    have ih := Bs.of_list l fun x hx => h x (List.mem_cons_of_mem _ hx)
    show digits (l.length + 1) (b + 256 * valOf l) = b :: l
    unfold digits
    rw [show (b + 256 * valOf l) % 256 = b by omega, show (b + 256 * valOf l) / 256 = valOf l by omega]
    exact congrArg _ ih
end Go.Proofs.YtfmopmjgohopeaaGreatDoor.Ev

/-
  An abstract machine for closed runs: its values, memory, operations (no proof here).
-/
set_option linter.unusedVariables false
set_option linter.unusedSimpArgs false
set_option linter.constructorNameAsVariable false
namespace Go.Proofs.YtfmopmjgohopeaaGreatDoor.Ev
open Go

/-! ### Tries -/
inductive Tr (α : Type) where
  | l
  | n (v : Option α) (a b : Tr α)
def Tr.get {α : Type} : Tr α → Nat → Option α
  | .l, _ => none
  | .n v a b, i => bif Nat.beq i 0 then v else bif Nat.beq (i % 2) 1 then a.get (i / 2) else b.get (i / 2 - 1)
def Tr.setAux {α : Type} : Nat → Tr α → Nat → Option α → Tr α
  | 0, t, _, _ => t
  | f + 1, .l, i, x => bif Nat.beq i 0 then .n x .l .l else bif Nat.beq (i % 2) 1 then .n none (setAux f .l (i / 2) x) .l else .n none .l (setAux f .l (i / 2 - 1) x)
  | f + 1, .n v a b, i, x => bif Nat.beq i 0 then .n x a b else bif Nat.beq (i % 2) 1 then .n v (setAux f a (i / 2) x) b else .n v a (setAux f b (i / 2 - 1) x)
def Tr.set {α : Type} (t : Tr α) (i : Nat) (x : Option α) : Tr α := t.setAux (i + 1) i x

/-! ### Values -/
/-- A slice's capacity: known; or whatever (at least the length) fits its block, at so many cells an element. -/
inductive Cap where
  | is (n : Nat)
  | room (sz : Nat)
  deriving Inhabited
inductive AV where
  | any
  | lit (v : Value)
  | bool (b : Bool)
  | int (k : IntKind) (n : Int)
  | str (s : Bs)
  | ptr (k off : Nat)
  | slice (k off len : Nat) (cap : Cap)
  /-- a slice of length 0 that is not nil, wherever it lies; its capacity, if it is known -/
  | empty (cap : Option Nat)
  | map (k : Nat)
  | func (f : FuncId) (first captured : List AV)
  | yield (k : Nat)
  | iface (t : TypeId) (v : AV)
  | agg (cs : List AV)
  | tuple (vs : List AV)
  deriving Inhabited

def AV.ofAtom : Value → AV
  | .bool b => .bool b
  | .int k n => .int k n
  | .string s => .str (Bs.of (s.data.toList.map UInt8.toNat))
  | .pointer none => .lit (.pointer none)
  | .slice none l c => .lit (.slice none l c)
  | .map none => .lit (.map none)
  | .nilFunc => .lit .nilFunc
  | .nilIface => .lit .nilIface
  | .float k b => .lit (.float k b)
  | _ => .any
def AV.ofValue : Value → AV
  | .agg cs => .agg (cs.toList.map AV.ofAtom)
  | .tuple vs => .tuple (vs.toList.map AV.ofAtom)
  | v => AV.ofAtom v

def AV.one : AV → Bool
  | .any | .agg _ | .tuple _ => false
  | _ => true
def AV.cells : AV → Option (List AV)
  | .any | .tuple _ => none
  | .agg l => some l
  | v => some [v]

def ikBeq : IntKind → IntKind → Bool
  | .i8, .i8 | .i16, .i16 | .i32, .i32 | .i64, .i64 | .u8, .u8 | .u16, .u16 | .u32, .u32 | .u64, .u64 => true
  | _, _ => false
def intBeq : Int → Int → Bool
  | .ofNat a, .ofNat b => Nat.beq a b
  | .negSucc a, .negSucc b => Nat.beq a b
  | _, _ => false
def boolBeq : Bool → Bool → Bool
  | true, true | false, false => true
  | _, _ => false
def capBeq : Cap → Cap → Bool
  | .is a, .is b => Nat.beq a b
  | .room a, .room b => Nat.beq a b
  | _, _ => false
/-- Nothing-values alike (enough for what stands in a region that draws). -/
def litBeq : Value → Value → Bool
  | .pointer none, .pointer none | .map none, .map none | .nilFunc, .nilFunc | .nilIface, .nilIface => true
  | .slice none a b, .slice none c d => Nat.beq a c && Nat.beq b d
  | _, _ => false
mutual
def AV.beq : AV → AV → Bool
  | .lit a, .lit b => litBeq a b
  | .bool a, .bool b => boolBeq a b
  | .int j a, .int k b => ikBeq j k && intBeq a b
  | .str a, .str b => Nat.beq a.n b.n && Nat.beq a.v b.v
  | .ptr a b, .ptr c d => Nat.beq a c && Nat.beq b d
  | .slice a b c d, .slice a' b' c' d' => Nat.beq a a' && Nat.beq b b' && Nat.beq c c' && capBeq d d'
  | .empty none, .empty none => true
  | .empty (some a), .empty (some b) => Nat.beq a b
  | .map a, .map b => Nat.beq a b
  | .func f x y, .func g x' y' => Nat.beq f g && AV.beqs x x' && AV.beqs y y'
  | .yield a, .yield b => Nat.beq a b
  | .iface t v, .iface u w => Nat.beq t u && AV.beq v w
  | .agg a, .agg b => AV.beqs a b
  | .tuple a, .tuple b => AV.beqs a b
  | _, _ => false
def AV.beqs : List AV → List AV → Bool
  | [], [] => true
  | a :: x, b :: y => AV.beq a b && AV.beqs x y
  | _, _ => false
end

/-! ### Cells: written out, or bytes as one number -/
/-- a byte -/
def isU8A : AV → Bool
  | .int .u8 _ => true
  | _ => false
def byteA (n : Nat) : AV := .int .u8 (.ofNat n)
inductive Cs where
  | av (l : List AV)
  | bt (b : Bs)
def Cs.list : Cs → List AV
  | .av l => l
  | .bt b => b.list.map byteA
def Cs.len : Cs → Nat
  | .av l => l.length
  | .bt b => b.n
def Cs.get : Cs → Nat → Option AV
  | .av l, i => l[i]?
  | .bt b, i => match b.get i with | some x => some (byteA x) | none => none
def Cs.sub : Cs → Nat → Nat → Cs
  | .av l, off, n => .av ((l.drop off).take n)
  | .bt b, off, n => .bt (b.sub off n)
def toBt : List AV → Option Bs
  | [] => some ⟨0, 0⟩
  | .int .u8 (.ofNat x) :: l => bif Nat.blt x 256 then (match toBt l with | some b => some ⟨b.n + 1, x + 256 * b.v⟩ | none => none) else none
  | _ :: _ => none
def Cs.bt? : Cs → Option Bs
  | .av l => toBt l
  | .bt b => some b
def Cs.of (l : List AV) : Cs := match toBt l with | some b => .bt b | none => .av l
def Cs.app (x y : Cs) : Cs := match y.bt? with
  | some b => (match x.bt? with | some a => .bt (a.app b) | none => .av (x.list ++ y.list))
  | none => .av (x.list ++ y.list)
def Cs.isU8 : Cs → Bool
  | .av l => l.all isU8A
  | .bt _ => true
def Cs.one : Cs → Bool
  | .av l => l.all AV.one
  | .bt _ => true
def Cs.beq : Cs → Cs → Bool
  | .av a, .av b => AV.beqs a b
  | .bt a, .bt b => Nat.beq a.n b.n && Nat.beq a.v b.v
  | _, _ => false

/-! ### Memory -/
inductive ADef where
  | call (f : FuncId) (captured args : List AV)
  | collected (k : Nat)
structure ALoop where
  state : LoopState
  pending : Option Code
  fn : FuncId
  nt : Nat
  tmps : Tr AV
  params : Array Tmp
  assign : Code
  body : Code
  defers : Nat
inductive ABlock where
  /-- cells; ro: never written (a package-level variable, or bytes that a string shares) -/
  | cells (ro : Bool) (cs : Cs)
  | map (es : List (AV × AV × Nat)) (clock : Nat)
  | mapIter (m : Nat) (since : Nat) (seen : List Nat) (stepped : Nat)
  | strIter (s : Bs) (pos : Nat)
  | loop (l : ALoop)
  | deferred (ds : List ADef)
structure AH where
  next : Nat
  m : Tr ABlock
def AH.get (h : AH) (k : Nat) : Option ABlock := h.m.get k
def AH.put (h : AH) (k : Nat) (b : ABlock) : AH := { h with m := h.m.set k (some b) }
def AH.kill (h : AH) (k : Nat) : AH := { h with m := h.m.set k none }
def AH.new (h : AH) (b : ABlock) : AH := { next := h.next + 1, m := h.m.set h.next (some b) }

/-- two addresses: one and the same? (Of two blocks that strings may share nothing is said.) -/
def ptrSame (h : AH) (k o k' o' : Nat) : Option Bool :=
  bif Nat.beq k k' then some (Nat.beq o o') else
    match h.get k, h.get k' with
    | some (.cells false cs), some (.cells false cs') =>
      bif (!cs.isU8 && Nat.ble 1 cs'.len) || (!cs'.isU8 && Nat.ble 1 cs.len) then some false else none
    | _, _ => none

/-! ### Operands -/
section
variable (P : Program) (ng : Nat)
def ev (T : Tr AV) : Operand → AV
  | .tmp t => (T.get t).getD .any
  | .const v => AV.ofValue v
  | .global g => bif Nat.blt g ng then .ptr g 0 else .any
  | .func f => .func f [] []

/-! ### Operations that only read -/
def aload (h : AH) (t : TypeId) : AV → Option AV
  | .ptr k off =>
    match h.get k with
    | some (.cells _ cs) =>
      match P.underlying t with
      | some (.struct _) | some (.array _ _) =>
        match P.info? t with
        | some i => let l := (cs.sub off i.size).list; bif Nat.beq l.length i.size then some (.agg l) else none
        | none => none
      | some _ => cs.get off
      | none => none
    | _ => none
  | _ => none

/-- A part of an aggregate. -/
def apart (t : TypeId) (cs : List AV) (off : Nat) : Option AV :=
  match P.underlying t with
  | some (.struct _) | some (.array _ _) =>
    match P.info? t with
    | some i => some (.agg ((cs.drop off).take i.size))
    | none => none
  | some _ => cs[off]?
  | none => none

def afill (place : Nat → Option (Nat × Nat)) (cells : List AV) : List (Nat × AV) → Option (List AV)
  | [] => some cells
  | (i, v) :: rest =>
    match place i, v.cells with
    | some (off, size), some vs => bif Nat.beq vs.length size && Nat.ble (off + size) cells.length then afill place (cells.take off ++ vs ++ cells.drop (off + size)) rest else none
    | _, _ => none

def zeroCells (t : TypeId) : Option (List AV) :=
  match P.info? t with
  | some i =>
    match i.zero with
    | some (.agg cs) => some (cs.toList.map AV.ofAtom)
    | some v => bif (AV.ofAtom v).one then some [AV.ofAtom v] else none
    | none => none
  | none => none

def sizeOf? (t : TypeId) : Option Nat := (P.info? t).map (·.size)

def fieldPl (fields : Array Field) (i : Nat) : Option (Nat × Nat) :=
  match fields[i]? with
  | some f => (sizeOf? P f.type).map fun s => (f.offset, s)
  | none => none
def abuild (T : Operand → AV) (t : TypeId) (parts : Array (Nat × Operand)) : Option AV :=
  match zeroCells P t, P.underlying t with
  | some zero, some (.struct fields) =>
    bif fields.toList.all (fun f => (sizeOf? P f.type).isSome) then
    (afill (fieldPl P fields) zero (parts.toList.map fun p => (p.1, T p.2))).map .agg
    else none
  | some zero, some (.array _ elem) =>
    match sizeOf? P elem with
    | some s => (afill (fun i => some (i * s, s)) zero (parts.toList.map fun p => (p.1, T p.2))).map .agg
    | none => none
  | _, _ => none

def semVal : Sem Value → Option Value
  | .pure v => some v
  | _ => none

def nilEq (d : TypeDesc) (x : AV) (v : Value) : Option Bool :=
  match d with
  | .pointer _ => (match v with
    | .pointer none => (match x with | .ptr _ _ => some false | .lit (.pointer none) => some true | _ => none)
    | _ => none)
  | .slice _ => (match v with
    | .slice none _ _ => (match x with | .slice _ _ _ _ => some false | .empty _ => some false | .lit (.slice none _ _) => some true | _ => none)
    | _ => none)
  | .map _ _ => (match v with
    | .map none => (match x with | .map _ => some false | .lit (.map none) => some true | _ => none)
    | _ => none)
  | .func _ _ _ => (match v with
    | .nilFunc => (match x with | .func _ _ _ => some false | .yield _ => some false | .lit .nilFunc => some true | _ => none)
    | _ => none)
  | .interface _ => (match v with
    | .nilIface => (match x with | .iface _ _ => some false | _ => none)
    | _ => none)
  | _ => none
def nilOp (op : BinOp) (r : Option Bool) : Option AV :=
  match r, op with
  | some r, .eql => some (.bool r)
  | some r, .neq => some (.bool (!r))
  | _, _ => none
def abin (op : BinOp) (t : TypeId) (x y : AV) : Option AV :=
  match x, y with
  | .int j a, .int k b => match semVal (Go.binOp op t (.int j a) (.int k b)) with
    | some (.int k n) => some (.int k n)
    | some (.bool b) => some (.bool b)
    | _ => none
  | .str a, .str b =>
    match op with
    | .add => bif Nat.ble (a.n + b.n) 1000000 then some (.str (a.app b)) else none
    | .eql => some (.bool (a.beq b))
    | .neq => some (.bool (!a.beq b))
    | .lss => some (.bool (a.less b))
    | .leq => some (.bool (a.less b || a.beq b))
    | .gtr => some (.bool (!(a.less b || a.beq b)))
    | .geq => some (.bool (!a.less b))
    | _ => none
  | .bool a, .bool b =>
    match op, P.underlying t with
    | .eql, some .bool => some (.bool (boolBeq a b))
    | .neq, some .bool => some (.bool (!boolBeq a b))
    | _, _ => none
  | x, .lit v =>
    match P.underlying t with
    | none => none
    | some d => nilOp op (nilEq d x v)
  | _, _ => none

/-- 'x == nil' at an interface type, nil both: told by the operand that is the literal. -/
def isConst : Operand → Bool
  | .const _ => true
  | _ => false
def abinop (T : Operand → AV) (op : BinOp) (t : TypeId) (x y : Operand) : Option AV :=
  match T x, T y with
  | .lit .nilIface, .lit .nilIface =>
    match P.underlying t with
    | some (.interface _) => bif isConst x || isConst y then (match op with | .eql => some (.bool true) | .neq => some (.bool false) | _ => none) else none
    | _ => none
  | .agg _, .agg _ => none
  | a, b => abin P op t a b

def abinopH (h : AH) (T : Operand → AV) (op : BinOp) (t : TypeId) (x y : Operand) : Option AV :=
  match T x, T y with
  | .ptr k o, .ptr k' o' => match P.underlying t with
    | some (.pointer e) => match sizeOf? P e with
      | some (_ + 1) => nilOp op (ptrSame h k o k' o')
      | _ => none
    | _ => none
  | _, _ => abinop P T op t x y

def aun (op : UnOp) : AV → Option AV
  | .int k n => match semVal (Op.unary op (.int k n)) with
    | some (.int k n) => some (.int k n)
    | _ => none
  | .bool b => match op with
    | .not => some (.bool (!b))
    | _ => none
  | _ => none

def natOf : AV → Option Nat
  | .int _ (.ofNat n) => some n
  | _ => none

/-- slice bounds of what has a length and a capacity ('none': not known, at least the length) -/
def topOf (cap : Option Nat) (len : Nat) : Nat :=
  match cap with
  | some c => c
  | none => len
def aMax (len : Nat) (cap : Option Nat) : Option AV → Option (Option Nat)
  | some v => match natOf v with
    | some n => bif Nat.ble n (topOf cap len) then some (some n) else none
    | none => none
  | none => some cap
def aEnd (len : Nat) (m : Option Nat) : Option AV → Option AV → Option Nat
  | some v, _ => match natOf v with
    | some n => bif Nat.ble n (topOf m len) then some n else none
    | none => none
  | none, none => some len
  | none, some _ => none
def aLow (h : Nat) : Option AV → Option Nat
  | some v => match natOf v with
    | some n => bif Nat.ble n h then some n else none
    | none => none
  | none => some 0
def abounds (len : Nat) (cap : Option Nat) (low high max : Option AV) : Option (Nat × Nat × Option Nat) :=
  match aMax len cap max with
  | none => none
  | some m => match aEnd len m high max with
    | none => none
    | some h => match aLow h low with
      | none => none
      | some l => some (l, h, m)
def Cap.opt : Cap → Option Nat
  | .is c => some c
  | .room _ => none

def aslice (t : TypeId) (x : AV) (low high max : Option AV) : Option AV :=
  match P.underlying t, x with
  | some .string, .str s =>
    match max with
    | some _ => none
    | none => match abounds s.n (some s.n) low high none with
      | some (l, h, _) => some (.str (s.sub l (h - l)))
      | none => none
  | some (.slice elem), .slice k off len cap =>
    match sizeOf? P elem, abounds len cap.opt low high max with
    | some size, some (l, h, m) =>
      -- the model keeps the address where nothing is left: told only if the room is known, or surely more
      match m, cap with
      | some c, _ => some (.slice k (bif Nat.beq c l then off else off + l * size) (h - l) (.is (c - l)))
      | none, .room sz => bif Nat.beq size sz && (Nat.blt l h || Nat.beq l 0) then some (.slice k (off + l * size) (h - l) (.room sz)) else bif Nat.beq l h then some (.empty none) else none
      | none, .is _ => none
    | _, _ => none
  | some (.slice elem), .empty cap =>
    match sizeOf? P elem, abounds 0 cap low high max with
    | some _, some (0, 0, m) => some (.empty m)
    | _, _ => none
  | some (.slice elem), .lit (.slice none len cap) =>
    match sizeOf? P elem, abounds len (some cap) low high max with
    | some _, some (l, h, some c) => some (.lit (.slice none (h - l) (c - l)))
    | _, _ => none
  | some (.array n elem), .ptr k off =>
    match sizeOf? P elem, abounds n (some n) low high max with
    | some size, some (l, h, some c) => some (.slice k (bif Nat.beq c l then off else off + l * size) (h - l) (.is (c - l)))
    | _, _ => none
  | _, _ => none

def aindexAddr (t : TypeId) (x i : AV) : Option AV :=
  match P.underlying t, x, natOf i with
  | some (.array len elem), .ptr k off, some n =>
    match sizeOf? P elem with
    | some s => bif Nat.blt n len then some (.ptr k (off + n * s)) else none
    | none => none
  | some (.slice elem), .slice k off len _, some n =>
    match sizeOf? P elem with
    | some s => bif Nat.blt n len then some (.ptr k (off + n * s)) else none
    | none => none
  | _, _, _ => none

def aindex (t : TypeId) (x i : AV) : Option AV :=
  match P.underlying t, x, natOf i with
  | some .string, .str s, some n => match s.get n with | some b => some (byteA b) | none => none
  | some (.array len elem), .agg cs, some n =>
    match sizeOf? P elem with
    | some s => bif Nat.blt n len then apart P elem cs (n * s) else none
    | none => none
  | _, _, _ => none

/-- the key sought among a map's entries: integers, strings, addresses -/
def keySame (h : AH) : AV → AV → Option Bool
  | .int j a, .int k b => bif ikBeq j k then some (intBeq a b) else none
  | .str a, .str b => some (a.beq b)
  | .ptr k o, .ptr k' o' => ptrSame h k o k' o'
  | _, _ => none
def afind (h : AH) (k : AV) : List (AV × AV × Nat) → Nat → Option (Option (Nat × AV))
  | [], _ => some none
  | e :: es, i => match keySame h k e.1 with
    | some true => some (some (i, e.2.1))
    | some false => afind h k es (i + 1)
    | none => none
def kfit (d : TypeDesc) (k : AV) : Bool :=
  match d, k with
  | .int _, .int _ _ => true
  | .string, .str _ => true
  | _, _ => false
def keyFits (key : TypeId) (k : AV) : Bool :=
  match P.underlying key with
  | some (.pointer e) => match sizeOf? P e, k with
    | some (_ + 1), .ptr _ _ => true
    | _, _ => false
  | some d => kfit d k
  | none => false

def mapEs (h : AH) : AV → Option (List (AV × AV × Nat))
  | .lit (.map none) => some []
  | .map m => match h.get m with
    | some (.map es _) => some es
    | _ => none
  | _ => none
def alookup (h : AH) (t : TypeId) (x k : AV) (ok : Bool) : Option AV :=
  match P.underlying t with
  | some (.map key elem) =>
    bif keyFits P key k then
      match mapEs h x with
      | none => none
      | some es =>
        match afind h k es 0 with
        | none => none
        | some (some (_, v)) => some (bif ok then .tuple [v, .bool true] else v)
        | some none =>
          match P.info? elem with
          | some i => match i.zero with
            | some z => some (bif ok then .tuple [AV.ofValue z, .bool false] else AV.ofValue z)
            | none => none
          | none => none
    else none
  | _ => none

def atypeAssert (x : AV) (t : TypeId) (ok : Bool) : Option AV :=
  match P.underlying t, x with
  | some (.interface _), _ => none
  | some _, .lit .nilIface =>
    bif ok then
      match P.info? t with
      | some i => match i.zero with | some z => some (.tuple [AV.ofValue z, .bool false]) | none => none
      | none => none
    else none
  | some _, .iface u v =>
    bif Nat.beq u t then some (bif ok then .tuple [v, .bool true] else v)
    else bif ok then
      match P.info? t with
      | some i => match i.zero with | some z => some (.tuple [AV.ofValue z, .bool false]) | none => none
      | none => none
    else none
  | _, _ => none

def alenD (h : AH) : TypeDesc → AV → Option Nat
  | .string, .str s => some s.n
  | .slice _, .slice _ _ n _ => some n
  | .slice _, .lit (.slice none n _) => some n
  | .slice _, .empty _ => some 0
  | .map _ _, .lit (.map none) => some 0
  | .map _ _, .map m => match h.get m with
    | some (.map es _) => some es.length
    | _ => none
  | _, _ => none
def alen (h : AH) (t : TypeId) (x : AV) : Option Nat :=
  match P.underlying t with
  | some d => alenD h d x
  | none => none
def acapD : TypeDesc → AV → Option Nat
  | .slice _, .slice _ _ _ (.is c) => some c
  | .slice _, .lit (.slice none _ c) => some c
  | .slice _, .empty (some c) => some c
  | _, _ => none
def acap (t : TypeId) (x : AV) : Option Nat :=
  match P.underlying t with
  | some d => acapD d x
  | none => none

def aminmax (max : Bool) : List AV → Option AV
  | [.int j a, .int k b] =>
    match semVal ((bif max then Builtin.max2 else Builtin.min2) (.int j a) (.int k b)) with
    | some (.int k n) => some (.int k n)
    | _ => none
  | [.int j a] => some (.int j a)
  | _ => none

def aentry (h : AH) : AV → Option AV
  | .ptr k 0 =>
    match h.get k with
    | some (.mapIter m _ seen stepped) =>
      match seen.getLast?, h.get m with
      | some stamp, some (.map es clock) =>
        bif Nat.beq clock stepped then
          match es.find? (fun e => Nat.beq e.2.2 stamp) with
          | some e => some (.tuple [e.1, e.2.1])
          | none => none
        else none
      | _, _ => none
    | _ => none
  | _ => none

def aconv (h : AH) (src dst : TypeId) (x : AV) : Option AV :=
  match P.underlying src, P.underlying dst, x with
  | some _, some (.int k), .int _ n => some (.int k (k.wrap n))
  | some (.slice e), some .string, .slice k off len _ =>
    match P.underlying e, h.get k with
    | some (.int .u8), some (.cells _ cs) =>
      match (cs.sub off len).bt? with
      | some b => bif Nat.beq b.n len then some (.str b) else none
      | none => none
    | _, _ => none
  | some (.slice e), some .string, .lit (.slice none _ _) =>
    match P.underlying e with | some (.int .u8) => some (.str ⟨0, 0⟩) | _ => none
  | some (.slice e), some .string, .empty _ =>
    match P.underlying e with | some (.int .u8) => some (.str ⟨0, 0⟩) | _ => none
  | some _, some .string, .str s => some (.str s)
  | _, _, _ => none

def afieldAddr (s : TypeId) (x : AV) (f : Nat) : Option AV :=
  match P.underlying s, x with
  | some (.struct fields), .ptr k off => match fields[f]? with
    | some fd => match sizeOf? P fd.type with
      | some (_ + 1) => some (.ptr k (off + fd.offset))
      | _ => none
    | none => none
  | _, _ => none
def afield (t : TypeId) (x : AV) (f : Nat) : Option AV :=
  match P.underlying t, x with
  | some (.struct fields), .agg cs => match fields[f]? with
    | some fd => apart P fd.type cs fd.offset
    | none => none
  | _, _ => none
def anilCheck : AV → Option AV
  | .ptr a b => some (.ptr a b)
  | .iface a b => some (.iface a b)
  | .func a b c => some (.func a b c)
  | .yield a => some (.yield a)
  | _ => none
/-- an operation that reads: its value -/
def aquiet (h : AH) (T : Operand → AV) : Op → Option AV
  | .move x | .assign x => some (T x)
  | .pick c a b => match T c with | .bool t => some (bif t then T a else T b) | _ => none
  | .build t parts => abuild P T t parts
  | .load t a => aload P h t (T a)
  | .nilCheck x => anilCheck (T x)
  | .binOp op t x y _ => abinopH P h T op t x y
  | .unOp op _ x => aun op (T x)
  | .convert src dst x => aconv P h src dst (T x)
  | .makeInterface t x => match P.underlying t with
    | some (.interface _) => none
    | some _ => some (.iface t (T x))
    | none => none
  | .makeFunc (.func f) first captured => some (.func f (first.toList.map T) (captured.toList.map T))
  | .slice t x lo hi mx => aslice P t (T x) (lo.map T) (hi.map T) (mx.map T)
  | .fieldAddr s x f => afieldAddr P s (T x) f
  | .field t x f => afield P t (T x) f
  | .indexAddr t x i => aindexAddr P t (T x) (T i)
  | .index t x i => aindex P t (T x) (T i)
  | .lookup t x k ok => alookup P h t (T x) (T k) ok
  | .typeAssert x _ t ok => atypeAssert P (T x) t ok
  | .extract x i => match T x with | .tuple vs => vs[i]? | _ => none
  | .entry x => aentry h (T x)
  | .call c => match c.callee with
    | .builtin .len => match c.argTypes[0]?, c.args.toList with
      | some t, [x] => (alen P h t (T x)).map fun n => .int .i64 (.ofNat n)
      | _, _ => none
    | .builtin .cap => match c.argTypes[0]?, c.args.toList with
      | some t, [x] => (acap P t (T x)).map fun n => .int .i64 (.ofNat n)
      | _, _ => none
    | .builtin .min => aminmax false (c.args.toList.map T)
    | .builtin .max => aminmax true (c.args.toList.map T)
    | _ => none
  | _ => none

/-! ### Operations that make one block -/
inductive Mk where
  | ptr
  | slice (len : Nat) (cap : Cap)
  | map
def Mk.av : Mk → Nat → AV
  | .ptr, k => .ptr k 0
  | .slice n c, k => .slice k 0 n c
  | .map, k => .map k

def repl (n : Nat) (zero : List AV) : List AV :=
  match zero with
  | [z] => List.replicate n z
  | z => (List.replicate n z).flatten

def isZeroB : List AV → Bool
  | [.int .u8 (.ofNat 0)] => true
  | _ => false
def replC (n : Nat) (zero : List AV) : Cs := bif isZeroB zero then .bt ⟨n, 0⟩ else .av (repl n zero)
def zeros (elem : TypeId) (size n : Nat) : Option Cs :=
  bif Nat.beq (n * size) 0 then some (.av []) else
    match zeroCells P elem with
    | some z => bif Nat.beq z.length size then some (replC n z) else none
    | none => none
def aalloc (T : Operand → AV) : Op → Option (ABlock × Mk)
  | .alloc t => (zeroCells P t).map fun cs => (.cells false (.av cs), .ptr)
  | .box _ x => (T x).cells.map fun cs => (.cells false (.av cs), .ptr)
  | .buildSlice t len parts => match P.underlying t with
    | some (.slice elem) => match sizeOf? P elem with
      | some size =>
        bif Nat.ble (len * size) 1000000 then
          match zeros P elem size len with
          | some zero => (afill (fun i => some (i * size, size)) zero.list (parts.toList.map fun p => (p.1, T p.2))).map fun cs => (.cells false (.of cs), .slice len (.is len))
          | none => none
        else none
      | none => none
    | _ => none
  | .makeSlice t l c => match P.underlying t, natOf (T l), natOf (T c) with
    | some (.slice elem), some l, some c => match P.info? elem with
      | some i =>
        bif Nat.ble l c && Nat.ble c 1000000 && Nat.ble i.bytes 1000000 then
          (zeros P elem i.size c).map fun cs => (.cells false cs, .slice l (.is c))
        else bif Nat.ble l c && Nat.ble c 1000000000 && Nat.ble i.bytes 1000 && Nat.ble 1 i.size then
          -- too long to be written out: a block of which nothing is known
          (zeros P elem i.size 1).map fun _ => (.cells false (.av []), .slice l (.is c))
        else none
      | none => none
    | _, _, _ => none
  | .convert src dst x => match P.underlying src, P.underlying dst, T x with
    | some .string, some (.slice e), .str s => match P.underlying e with
      | some (.int .u8) => some (.cells false (.bt s), .slice s.n (.room 1))
      | _ => none
    | _, _, _ => none
  | .makeMap _ none => some (.map [] 0, .map)
  | _ => none
end
end Go.Proofs.YtfmopmjgohopeaaGreatDoor.Ev

/-
  An abstract machine for closed runs: frames, the operations that write or call, regions that draw their order, the step.
-/
set_option linter.unusedVariables false
set_option linter.unusedSimpArgs false
set_option linter.constructorNameAsVariable false
namespace Go.Proofs.YtfmopmjgohopeaaGreatDoor.Ev
open Go

inductive AItem where
  | code (c : Code)
  | inBlock (id : Nat)
  | inLoop (c : Code)
  | inScope (c : Code)
  /-- a region in its order: the operations that are left, the first one's number -/
  | reg (ops : Array Oper) (i : Nat) (rest : List Oper)
  /-- a region that draws: effects done, what had to stand before them, what is reckoned (as sets of numbers); 'true': what can be reckoned is -/
  | drw (ops : Array Oper) (dm um ed : Nat) (ready : Bool)
  | rangeF (k : Nat)
  | endF (k : Nat)
  | beginRound

structure AFrame where
  fn : FuncId
  nt : Nat
  tmps : Tr AV
  todo : List AItem
  defers : List ADef
  ret : Bool
  dfd : Bool
  round : Option Nat
structure AM where
  fr : AFrame
  cs : List AFrame
  h : AH

def putT (nt : Nat) (T : Tr AV) (dst : Option Tmp) (v : AV) : Tr AV :=
  match dst with
  | some d => bif Nat.blt d nt then T.set d (some v) else T
  | none => T
def undefA : AV := .tuple []

/-! ### Regions that draw -/
def emask (t : Tr Nat) : List Edge → Nat
  | [] => 0
  | e :: es => bif Region.binds .any e then Nat.lor (Nat.lor (2 ^ e.on) ((t.get e.on).getD 0)) (emask t es) else emask t es
def rmaskGo : List Oper → Nat → Tr Nat → Tr Nat
  | [], _, t => t
  | o :: l, i, t => rmaskGo l (i + 1) (t.set i (some (emask t o.after.toList)))
def rmask (ops : Array Oper) : Tr Nat := rmaskGo ops.toList 0 .l
def maskOf (ops : Array Oper) (i : Nat) : Nat := ((rmask ops).get i).getD 0
def has (m i : Nat) : Bool := Nat.beq (Nat.land (Nat.shiftRight m i) 1) 1

section
variable (P : Program) (ng : Nat)

def isEff : Op → Bool
  | .assign _ => true
  | .store .. | .mapUpdate .. | .insert .. | .mapEntry .. | .entryStore .. | .range .. | .next .. | .go _ | .defer _ | .panic _ | .send .. | .recv .. | .select .. | .ready _ => true
  | .convert s d _ => match P.underlying s, P.underlying d with
    | some (.slice _), some (.slice _) => true
    | _, _ => false
  | .call c => match c.callee with
    | .builtin .len | .builtin .cap | .builtin .min | .builtin .max => false
    | _ => true
  | _ => false
def isAlloc : Op → Bool
  | .alloc _ | .box .. | .buildSlice .. | .makeSlice .. | .makeMap .. => true
  | .convert s d _ => match P.underlying s, P.underlying d with
    | some .string, some (.slice _) => true
    | _, _ => false
  | _ => false

/-- what is asked of a region's text: edges lead back; a slot that a quiet operation writes is written by no other, and looked at behind it alone -/
def operTmps (o : Oper) : List Nat := o.op.operands.toList.filterMap fun | .tmp t => some t | _ => none
def rcheck1 (ops : Array Oper) (dsts : List (Nat × Nat)) (o : Oper) (i : Nat) : Bool :=
  o.after.toList.all (fun e => !Region.binds .any e || Nat.blt e.on i) &&
  (operTmps o).all (fun t => dsts.all fun p => !(Nat.beq p.1 t) || has (maskOf ops i) p.2) &&
  (match o.guard with
   | none => true
   | some (g, _) => match (ops[g]?).bind (·.dst) with
     | some t => dsts.all fun p => !(Nat.beq p.1 t) || has (maskOf ops i) p.2
     | none => true)
def rdsts (eff : Bool) : List Oper → Nat → List (Nat × Nat)
  | [], _ => []
  | o :: l, i => match o.dst with
    | some d => bif boolBeq (isEff P o.op) eff then (d, i) :: rdsts eff l (i + 1) else rdsts eff l (i + 1)
    | none => rdsts eff l (i + 1)
def nodupB : List (Nat × Nat) → Bool
  | [] => true
  | p :: l => l.all (fun q => !(Nat.beq p.1 q.1)) && nodupB l
def rcheckGo (ops : Array Oper) (dsts : List (Nat × Nat)) : List Oper → Nat → Bool
  | [], _ => true
  | o :: l, i => rcheck1 ops dsts o i && rcheckGo ops dsts l (i + 1)
def rcheck (ops : Array Oper) : Bool :=
  nodupB (rdsts P false ops.toList 0) && (rdsts P true ops.toList 0).all (fun p => (rdsts P false ops.toList 0).all fun q => !(Nat.beq p.1 q.1)) &&
  rcheckGo ops (rdsts P false ops.toList 0) ops.toList 0

/-- the numbers of a region's effects -/
def effs : List Oper → Nat → List Nat
  | [], _ => []
  | o :: l, i => bif isEff P o.op then i :: effs l (i + 1) else effs l (i + 1)
def effMask : List Nat → Nat
  | [] => 0
  | i :: l => Nat.lor (2 ^ i) (effMask l)

/-- may a quiet operation run at this stage? -/
def inWindow (ops : Array Oper) (em dm um i : Nat) : Bool :=
  Nat.beq (Nat.lor (Nat.land (maskOf ops i) em) dm) dm && !has um i

def awanted (ops : Array Oper) (T : Tr AV) (o : Oper) : Option Bool :=
  match o.guard with
  | none => some true
  | some (g, b) => match (ops[g]?).bind (·.dst) with
    | some d => match T.get d with
      | some (.bool c) => some (boolBeq c b)
      | some (.tuple _) => some false
      | _ => none
    | none => none

/-- first pass: what can be reckoned and is not -/
def passOne (ops : Array Oper) (em dm um nt : Nat) : List Oper → Nat → Nat → Tr AV → AH → Option (Nat × Tr AV × AH)
  | [], _, ed, T, h => some (ed, T, h)
  | o :: l, i, ed, T, h =>
    bif isEff P o.op || has ed i || !inWindow ops em dm um i then passOne ops em dm um nt l (i + 1) ed T h else
    match awanted ops T o with
    | none => none
    | some false => passOne ops em dm um nt l (i + 1) (Nat.lor ed (2 ^ i)) (putT nt T o.dst undefA) h
    | some true =>
      match aalloc P (ev ng T) o.op with
      | some (b, mk) => passOne ops em dm um nt l (i + 1) (Nat.lor ed (2 ^ i)) (putT nt T o.dst (mk.av h.next)) (h.new b)
      | none =>
        match aquiet P h (ev ng T) o.op with
        | some v => passOne ops em dm um nt l (i + 1) (Nat.lor ed (2 ^ i)) (putT nt T o.dst v) h
        | none => none

def ABlock.beq : ABlock → ABlock → Bool
  | .cells _ a, .cells _ b => Cs.beq a b
  | .map [] a, .map [] b => Nat.beq a b
  | _, _ => false
def Mk.of : Mk → AV → Option Nat
  | .ptr, .ptr k 0 => some k
  | .slice n c, .slice k 0 m d => bif Nat.beq n m && capBeq c d then some k else none
  | .map, .map k => some k
  | _, _ => none

/-- second pass: whatever may run at this stage answers what is reckoned -/
def passTwo (ops : Array Oper) (em dm um nt : Nat) (T : Tr AV) (h : AH) : List Oper → Nat → Bool
  | [], _ => true
  | o :: l, i =>
    (bif isEff P o.op || !inWindow ops em dm um i then true else
      match awanted ops T o, o.dst with
      | some false, some d => Nat.blt d nt && (match T.get d with | some (.tuple []) => true | _ => false)
      | some true, some d => Nat.blt d nt &&
        match T.get d with
        | none => false
        | some v =>
          match aalloc P (ev ng T) o.op with
          | some (b, mk) => match mk.of v with
            | some k => match h.get k with | some b' => b.beq b' | none => false
            | none => false
          | none => match aquiet P h (ev ng T) o.op with
            | some v' => v'.beq v
            | none => false
      | _, _ => false) && passTwo ops em dm um nt T h l (i + 1)

/-- the next effect; all others that are left stand behind it -/
def nextEff (ops : Array Oper) (dm : Nat) : List Nat → Option Nat
  | [] => none
  | i :: l => bif has dm i then nextEff ops dm l else bif l.all (fun j => has (maskOf ops j) i) then some i else none

/-! ### Frames -/
def AFrame.finish (fr : AFrame) (v : AV) : Option AFrame :=
  match fr.todo with
  | .reg ops i (o :: rest) :: k => some { fr with tmps := putT fr.nt fr.tmps o.dst v, todo := .reg ops (i + 1) rest :: k }
  | .drw ops dm um ed true :: k =>
    match nextEff ops dm (effs P ops.toList 0) with
    | some i => match ops[i]? with
      | some o => some { fr with tmps := putT fr.nt fr.tmps o.dst v, todo := .drw ops (Nat.lor dm (2 ^ i)) (Nat.lor um (maskOf ops i)) ed false :: k }
      | none => none
    | none => none
  | .rangeF l :: k => some { fr with todo := .endF l :: k }
  | _ => none

def argsT (nt : Nat) : List AV → Nat → Tr AV → Tr AV
  | [], _, T => T
  | a :: l, i, T => argsT nt l (i + 1) (T.set i (some a))
def AFrame.enter (f : FuncId) (args : List AV) (dfd : Bool) : Option AFrame :=
  match P.funcs[f]? with
  | some fn => match fn.body with
    | some c => bif fn.name == "runtime.NumGoroutine" then none else
      let nt := args.length + (fn.ntmps - args.length)
      some { fn := f, nt, tmps := argsT nt args 0 .l, todo := [.code c], defers := [], ret := false, dfd, round := none }
    | none => none
  | none => none

def push (m : AM) (f : FuncId) (args : List AV) : Option AM :=
  match AFrame.enter P f args false with
  | some fr => some { m with fr, cs := m.fr :: m.cs }
  | none => none

def AM.done (m : AM) (v : AV) (h : AH) : Option AM :=
  match AFrame.finish P m.fr v with
  | some fr => some { m with fr, h }
  | none => none

/-! ### Operations that write or call -/
def putCells (cs : Cs) (off : Nat) (vs : Cs) : Option Cs :=
  bif Nat.ble (off + vs.len) cs.len && (vs.isU8 || !cs.isU8) then some ((cs.sub 0 off).app (vs.app (cs.sub (off + vs.len) cs.len))) else none

def astore (h : AH) (t : TypeId) (a v : AV) : Option AH :=
  match a, v.cells, sizeOf? P t with
  | .ptr k off, some vs, some n =>
    bif Nat.beq vs.length n && vs.all AV.one then
      match h.get k with
      | some (.cells false cs) => (putCells cs off (.av vs)).map fun cs' => h.put k (.cells false cs')
      | _ => none
    else none
  | _, _, _ => none

def setEntry : List (AV × AV × Nat) → Nat → AV → AV → List (AV × AV × Nat)
  | [], _, _, _ => []
  | e :: es, 0, k, v => (k, v, e.2.2) :: es
  | e :: es, i + 1, k, v => e :: setEntry es i k v
def amapUpdate (h : AH) (t : TypeId) (m k v : AV) : Option AH :=
  match P.underlying t, m with
  | some (.map key _), .map r =>
    bif keyFits P key k then
      match h.get r with
      | some (.map es clock) =>
        match afind h k es 0 with
        | some (some (i, _)) => some (h.put r (.map (setEntry es i k v) clock))
        | some none => some (h.put r (.map (es ++ [(k, v, clock)]) (clock + 1)))
        | none => none
      | _ => none
    else none
  | _, _ => none

def arange (h : AH) (t : TypeId) (x : AV) : Option ABlock :=
  match P.underlying t, x with
  | some .string, .str s => some (.strIter s 0)
  | some (.map _ _), .map m => match h.get m with
    | some (.map _ clock) => some (.mapIter m clock [] clock)
    | _ => none
  | _, _ => none

def hasNat (l : List Nat) (n : Nat) : Bool := l.any (Nat.beq n)
/-- a step of a range over a map: told where the next entry is forced -/
def anext (h : AH) (x : AV) : Option (AV × AH) :=
  match x with
  | .ptr k 0 =>
    match h.get k with
    | some (.mapIter m since seen last) =>
      match h.get m with
      | some (.map es clock) =>
        match seen, es.filter (fun e => !hasNat seen e.2.2) with
        | [], [] => some (.tuple [.bool false], h)
        | [], [e] => bif Nat.blt e.2.2 since then some (.tuple [.bool true, e.1, e.2.1], h.put k (.mapIter m since (seen ++ [e.2.2]) clock)) else none
        | _ :: _, [] => bif es.any (fun e => Nat.blt e.2.2 last) then some (.tuple [.bool false], h) else none
        | _ :: _, [e] => bif es.any (fun e => Nat.blt e.2.2 last) && Nat.blt e.2.2 since then some (.tuple [.bool true, e.1, e.2.1], h.put k (.mapIter m since (seen ++ [e.2.2]) clock)) else none
        | _, _ => none
      | _ => none
    | _ => none
  | _ => none

/-- the cells that are appended -/
def appended (h : AH) (size : Nat) (x : AV) : Option (Nat × Cs) :=
  match x with
  | .lit (.slice none n _) => bif Nat.beq n 0 then some (0, .av []) else none
  | .empty _ => some (0, .av [])
  | .slice k off n _ =>
    bif Nat.beq n 0 then some (0, .av []) else
    match h.get k with
    | some (.cells _ cs) => let l := cs.sub off (n * size); bif Nat.beq l.len (n * size) && l.one then some (n, l) else none
    | _ => none
  | .str s => bif Nat.beq size 1 then some (s.n, .bt s) else none
  | _ => none

/-- what is appended: how many elements, and their cells -/
def anew (h : AH) (elem : TypeId) (size bytes : Nat) (xd : TypeDesc) (x : AV) : Option (Nat × Cs) :=
  match xd with
  | .int _ => match natOf x with
    | some n => bif Nat.ble n 1000000 then (zeros P elem size n).map fun l => (n, l) else none
    | none => none
  | _ => appended h size x
def aappendTo (h : AH) (size : Nat) (s : AV) (n : Nat) (vs : Cs) : Option (AV × AH) :=
  match s with
  | .lit (.slice none l c) =>
    bif Nat.beq l 0 && Nat.beq c 0 then
      bif Nat.beq n 0 then some (s, h) else some (.slice h.next 0 n (.room size), h.new (.cells false vs))
    else none
  | .empty c =>
    bif Nat.beq n 0 then some (s, h) else
    match c with
    | some 0 => some (.slice h.next 0 n (.room size), h.new (.cells false vs))
    | _ => none
  | .slice k off len (.is c) =>
    bif Nat.beq n 0 && Nat.ble len c then some (s, h) else
    bif Nat.ble len 1000000 then
      match h.get k with
      | some (.cells ro cs) =>
        bif Nat.ble (len + n) c then
          bif ro then none else (putCells cs (off + len * size) vs).map fun cs' => (.slice k off (len + n) (.is c), h.put k (.cells false cs'))
        else
          bif Nat.beq (cs.sub off (len * size)).len (len * size) then
            some (.slice h.next 0 (len + n) (.room size), h.new (.cells false ((cs.sub off (len * size)).app vs)))
          else none
      | _ => none
    else none
  | .slice k off len (.room sz) =>
    bif Nat.beq n 0 then some (s, h) else
    bif Nat.ble len 1000000 && Nat.beq sz size then
      match h.get k with
      | some (.cells false cs) =>
        bif Nat.beq (cs.sub off (len * size)).len (len * size) && (vs.isU8 || !cs.isU8) then
          some (.slice h.next 0 (len + n) (.room size), (h.kill k).new (.cells false ((cs.sub off (len * size)).app vs)))
        else none
      | _ => none
    else none
  | _ => none
def aappend (h : AH) (argTypes : Array TypeId) (s x : AV) : Option (AV × AH) :=
  match argTypes[0]?, argTypes[1]? with
  | some sType, some xType =>
    match P.underlying sType, P.underlying xType with
    | some (.slice elem), some xd =>
      match P.info? elem, zeroCells P elem with
      | some info, some z =>
        match anew P h elem info.size info.bytes xd x with
        | none => none
        | some (n, vs) =>
          bif Nat.ble info.bytes 1000000 && Nat.ble n 1000000 && Nat.beq z.length info.size && vs.one then aappendTo h info.size s n vs else none
      | _, _ => none
    | _, _ => none
  | _, _ => none

/-- a slice's or a string's length, whatever its type -/
def aLen : AV → Option Nat
  | .slice _ _ n _ => some n
  | .lit (.slice none n _) => some n
  | .empty _ => some 0
  | .str s => some s.n
  | _ => none
/-- the first cells of a slice or a string -/
def firstN (h : AH) (size n : Nat) : AV → Option Cs
  | .slice k off _ _ => match h.get k with
    | some (.cells _ cs) => bif Nat.beq (cs.sub off (n * size)).len (n * size) && (cs.sub off (n * size)).one then some (cs.sub off (n * size)) else none
    | _ => none
  | .str s => bif Nat.beq size 1 && Nat.ble n s.n then some (.bt (s.sub 0 n)) else none
  | _ => none
def acopy (h : AH) (t : TypeId) (d s : AV) : Option (Nat × AH) :=
  match P.underlying t with
  | some (.slice elem) => match sizeOf? P elem, aLen s, aLen d with
    | some size, some ls, some ld =>
      bif Nat.beq (Nat.min ls ld) 0 then
        match d with
        | .str _ => none
        | _ => some (0, h)
      else match d with
        | .slice k off _ _ => match firstN h size (Nat.min ls ld) s, h.get k with
          | some vs, some (.cells false cs) => match putCells cs off vs with
            | some cs' => some (Nat.min ls ld, h.put k (.cells false cs'))
            | none => none
          | _, _ => none
        | _ => none
    | _, _, _ => none
  | _ => none

/-- delete of a map's entry -/
def adelete (h : AH) (t : TypeId) (m k : AV) : Option AH :=
  match P.underlying t, m with
  | some (.map key _), .map r =>
    bif keyFits P key k then
      match h.get r with
      | some (.map es clock) =>
        match afind h k es 0 with
        | some (some (i, _)) => some (h.put r (.map (es.eraseIdx i) clock))
        | some none => some (h.put r (.map es clock))
        | none => none
      | _ => none
    else none
  | _, _ => none
/-- where a byte stands first -/
def idxByte (c : Nat) : List Nat → Nat → Option Nat
  | [], _ => none
  | b :: l, i => bif Nat.beq b c then some i else idxByte c l (i + 1)
/-- functions of the library's without a body: maps.clone, bytealg.IndexByteString -/
def aextern (h : AH) (f : FuncId) (args : List AV) : Option (AV × AH) :=
  match P.funcs[f]?, args with
  | some fn, [.str s, .int .u8 (.ofNat c)] =>
    bif fn.body.isNone && fn.name == "internal/bytealg.IndexByteString" && fn.origin == "" && Nat.blt c 256 then
      match idxByte c s.list 0 with
      | some i => some (.int .i64 (.ofNat i), h)
      | none => some (.int .i64 (.negSucc 0), h)
    else none
  | some fn, [.iface t (.map k)] =>
    bif fn.body.isNone && fn.name == "maps.clone" && fn.origin == "" then
      match h.get k with
      | some (.map es clock) => some (.iface t (.map h.next), h.new (.map es clock))
      | _ => none
    else none
  | _, _ => none
/-- clear of a slice -/
def aclear (h : AH) (t : TypeId) (x : AV) : Option AH :=
  match P.underlying t, x with
  | some (.slice elem), .slice k off n _ =>
    bif Nat.beq n 0 then some h else
    match zeroCells P elem, sizeOf? P elem, h.get k with
    | some z, some size, some (.cells false cs) =>
      bif Nat.beq z.length size && Nat.ble 1 size && (replC n z).one then (putCells cs off (replC n z)).map fun cs' => h.put k (.cells false cs') else none
    | _, _, _ => none
  | some (.slice _), .lit (.slice none _ _) => some h
  | some (.slice _), .empty _ => some h
  | _, _ => none

inductive APlace where
  | val (v : AV)
  | var (k off : Nat)
def APlace.get (h : AH) (t : TypeId) : APlace → Option AV
  | .val v => some v
  | .var k off => aload P h t (.ptr k off)
def afollow (h : AH) : List FieldStep → TypeId → APlace → Option (TypeId × APlace)
  | [], t, x => some (t, x)
  | s :: rest, t, x =>
    match P.underlying s.struct with
    | some (.struct fields) => match fields[s.index]? with
      | some f => match sizeOf? P f.type with
        | some (_ + 1) =>
          bif s.deref then
            match x.get P h t with
            | some (.ptr k off) => afollow h rest f.type (.var k (off + f.offset))
            | _ => none
          else match x with
            | .var k off => afollow h rest f.type (.var k (off + f.offset))
            | .val (.agg cs) => match apart P f.type cs f.offset with
              | some v => afollow h rest f.type (.val v)
              | none => none
            | .val _ => none
        | _ => none
      | none => none
    | _ => none
def areceiver (h : AH) (xt : TypeId) (x : APlace) (ptr whole : Bool) : Option AV :=
  match P.underlying xt, ptr, x with
  | some (.pointer _), true, x => x.get P h xt
  | some (.pointer elem), false, x => bif whole then none else
    match x.get P h xt with
    | some (.ptr k off) => aload P h elem (.ptr k off)
    | _ => none
  | some _, true, .var k off => some (.ptr k off)
  | some _, true, .val _ => none
  | some _, false, x => x.get P h xt
  | none, _, _ => none
def amethod (h : AH) : Nat → TypeId → AV → String → Option (FuncId × AV)
  | 0, _, _, _ => none
  | fuel + 1, t, v, name =>
    match P.info? t with
    | some i => match i.methods.find? (·.name == name) with
      | some m => match afollow P h m.path.toList t (.val v) with
        | some (xt, x) =>
          match m.func with
          | none => match x.get P h xt with
            | some (.iface t' v') => amethod h fuel t' v' name
            | _ => none
          | some (f, ptr) => match areceiver P h xt x ptr m.path.isEmpty with
            | some v => some (f, v)
            | none => none
        | none => none
      | none => none
    | none => none

def roundFrame (l : Nat) (r : ALoop) (args : List AV) : Option AFrame :=
  bif Nat.beq args.length r.params.size then
    some { fn := r.fn, nt := r.nt, tmps := (r.params.toList.zip args).foldl (fun T p => putT r.nt T (some p.1) p.2) r.tmps,
           todo := [.code r.assign, .beginRound, .code r.body], defers := [], ret := false, dfd := false, round := some l }
  else none

def aeff (m : AM) (o : Oper) : Option AM :=
  let T := ev ng m.fr.tmps
  match o.op with
  | .assign x => AM.done P m (T x) m.h
  | .store t a x => match astore P m.h t (T a) (T x) with
    | some h => AM.done P m undefA h
    | none => none
  | .mapUpdate t r k x => match amapUpdate P m.h t (T r) (T k) (T x) with
    | some h => AM.done P m undefA h
    | none => none
  | .range t x => match arange P m.h t (T x) with
    | some b => AM.done P m (.ptr m.h.next 0) (m.h.new b)
    | none => none
  | .next x false => match anext m.h (T x) with
    | some (v, h) => AM.done P m v h
    | none => none
  | .convert src dst x => match P.underlying src, P.underlying dst, T x with
    | some (.slice _), some (.slice e), .slice k off len cap => bif Nat.beq src dst then
        match P.underlying e, m.h.get k with
        | some (.int .u8), some (.cells false cs) => bif cs.isU8 then AM.done P m (.slice k off len cap) m.h else none
        | _, _ => none
      else none
    | _, _, _ => none
  | .defer c => match m.fr.round, c.callee with
    | none, .value f => match T f with
      | .func f first cap => match AFrame.finish P { m.fr with defers := .call f cap (first ++ c.args.toList.map T) :: m.fr.defers } undefA with
        | some fr => some { m with fr }
        | none => none
      | _ => none
    | _, _ => none
  | .call c => match c.callee with
    | .value f => match T f with
      | .func f first cap => match push P m f (first ++ c.args.toList.map T ++ cap) with
        | some m' => some m'
        | none => match aextern P m.h f (first ++ c.args.toList.map T ++ cap) with
          | some (v, h) => AM.done P m v h
          | none => none
      | .yield l => match m.h.get l with
        | some (.loop r) => match roundFrame l r (c.args.toList.map T) with
          | some fr => some { m with fr, cs := m.fr :: m.cs }
          | none => none
        | _ => none
      | _ => none
    | .invoke r name => match T r with
      | .iface t v => match amethod P m.h 8 t v name with
        | some (f, x) => push P m f (x :: c.args.toList.map T)
        | none => none
      | _ => none
    | .builtin .append => match c.args.toList with
      | [s, x] => match aappend P m.h c.argTypes (T s) (T x) with
        | some (v, h) => AM.done P m v h
        | none => none
      | _ => none
    | .builtin .copy => match c.argTypes[0]?, c.args.toList with
      | some t, [d, s] => match acopy P m.h t (T d) (T s) with
        | some (n, h) => AM.done P m (.int .i64 (.ofNat n)) h
        | none => none
      | _, _ => none
    | .builtin .delete => match c.argTypes[0]?, c.args.toList with
      | some t, [x, k] => match adelete P m.h t (T x) (T k) with
        | some h => AM.done P m undefA h
        | none => none
      | _, _ => none
    | .builtin .clear => match c.argTypes[0]?, c.args.toList with
      | some t, [x] => match aclear P m.h t (T x) with
        | some h => AM.done P m undefA h
        | none => none
      | _, _ => none
    | .builtin .recover => match m.fr.round, m.fr.dfd, m.cs with
      | none, true, c :: _ => bif c.ret then AM.done P m (.lit .nilIface) m.h else none
      | none, false, _ => AM.done P m (.lit .nilIface) m.h
      | _, _, _ => none
    | _ => none
  | _ => none

def aexec (m : AM) (o : Oper) : Option AM :=
  let T := ev ng m.fr.tmps
  match aquiet P m.h T o.op with
  | some v => AM.done P m v m.h
  | none => match aalloc P T o.op with
    | some (b, mk) => AM.done P m (mk.av m.h.next) (m.h.new b)
    | none => aeff P ng m o

/-! ### The step -/
def aexitTo (id : Nat) : List AItem → Option (List AItem)
  | .inBlock id' :: k => bif Nat.beq id' id then some k else aexitTo id k
  | _ :: k => aexitTo id k
  | [] => none
def agotoIn (l : Nat) : List AItem → Option (List AItem)
  | .inScope body :: k => match findLabel body l with
    | some rest => some (.code rest :: .inScope body :: k)
    | none => agotoIn l k
  | _ :: k => agotoIn l k
  | [] => none

def AM.to (m : AM) (k : List AItem) : AM := { m with fr := { m.fr with todo := k } }

/-- a frame gives a value to the one below -/
def giveBack (m : AM) (v : AV) (h : AH) : Option AM :=
  match m.cs with
  | c :: cs => match AFrame.finish P c v with
    | some fr => some { fr, cs, h }
    | none => none
  | [] => none

def aleave (m : AM) (jump : Option Code) : Option AM :=
  match m.fr.round with
  | none => match jump with
    | none | some .ret => some { m with fr := { m.fr with ret := true } }
    | _ => none
  | some l => match m.h.get l with
    | some (.loop r) =>
      bif m.fr.dfd then none else
      giveBack P m (.bool (match jump with | none => true | some _ => false))
        (m.h.put l (.loop { r with state := match jump with | none => .ready | some _ => .done, pending := jump }))
    | _ => none

def aresults (h : AH) (T : Tr AV) : List ResultVar → Option (List AV)
  | [] => some []
  | .tmp t :: l => match aresults h T l with
    | some vs => some ((T.get t).getD .any :: vs)
    | none => none
  | .cell a t :: l => match aload P h t ((T.get a).getD .any), aresults h T l with
    | some v, some vs => some (v :: vs)
    | _, _ => none

def tupled : List AV → AV
  | [v] => v
  | vs => .tuple vs

def plainTop : List AItem → Bool
  | .drw .. :: _ => false
  | .reg .. :: _ => false
  | _ => true
def areturn (m : AM) : Option AM :=
  bif !plainTop m.fr.todo then none else
  match m.fr.defers with
  | .collected k :: ds => match m.h.get k with
    | some (.deferred l) => some { m with fr := { m.fr with defers := l ++ ds }, h := m.h.kill k }
    | _ => none
  | .call f cap args :: ds =>
    match AFrame.enter P f (args ++ cap) true with
    | some fr => some { m with fr, cs := { m.fr with defers := ds } :: m.cs }
    | none => none
  | [] =>
    match P.funcs[m.fr.fn]? with
    | some fn => match aresults P m.h m.fr.tmps fn.results.toList with
      | some vs =>
        bif m.fr.dfd then
          match m.cs with
          | c :: cs => bif c.ret && plainTop c.todo then some { fr := c, cs, h := m.h } else none
          | [] => none
        else giveBack P m (tupled vs) m.h
      | none => none
    | none => none

def aenterLoop (m : AM) (ps : Array Tmp) (assign body : Code) : Option (Nat × List ADef × AH) :=
  match m.fr.round with
  | none =>
    let h := m.h.new (.deferred [])
    some (h.next, [.collected m.h.next], h.new (.loop { state := .ready, pending := none, fn := m.fr.fn, nt := m.fr.nt, tmps := m.fr.tmps, params := ps, assign, body, defers := m.h.next }))
  | some l => match m.h.get l with
    | some (.loop r) => some (m.h.next, [], m.h.new (.loop { state := .ready, pending := none, fn := m.fr.fn, nt := m.fr.nt, tmps := m.fr.tmps, params := ps, assign, body, defers := r.defers }))
    | _ => none

def astepCode (m : AM) (k : List AItem) : Code → Option AM
  | .skip | .label _ => some (m.to k)
  | .seq a b => some (m.to (.code a :: .code b :: k))
  | .cond c thn els => match ev ng m.fr.tmps c with
    | .bool b => some (m.to (.code (bif b then thn else els) :: k))
    | _ => none
  | .block id body => some (m.to (.code body :: .inBlock id :: k))
  | .loop body => some (m.to (.code body :: .inLoop body :: k))
  | .scope body => some (m.to (.code body :: .inScope body :: k))
  | .exit id => match aexitTo id k with
    | some k' => some (m.to k')
    | none => aleave P m (some (.exit id))
  | .goto l => match agotoIn l k with
    | some k' => some (m.to k')
    | none => aleave P m (some (.goto l))
  | .ret => aleave P m (some .ret)
  | .region _ ops draw => bif draw then (bif rcheck P ops then some (m.to (.drw ops 0 0 0 false :: k)) else none) else some (m.to (.reg ops 0 ops.toList :: k))
  | .rangeFunc f ps assign body =>
    match ev ng m.fr.tmps f, aenterLoop m ps assign body with
    | .func g first cap, some (l, mark, h) =>
      match AFrame.enter P g (first ++ [.yield l] ++ cap) false with
      | some fr => some { fr, cs := { m.fr with todo := .rangeF l :: k, defers := mark ++ m.fr.defers } :: m.cs, h }
      | none => none
    | _, _ => none
  | .refuse _ => none

def astep (m : AM) : Option AM :=
  bif m.fr.ret then areturn P m else
  match m.fr.todo with
  | [] => aleave P m none
  | .code c :: k => astepCode P ng m k c
  | .inBlock _ :: k => some (m.to k)
  | .inScope _ :: k => some (m.to k)
  | .inLoop body :: k => some (m.to (.code body :: .inLoop body :: k))
  | .reg _ _ [] :: k => some (m.to k)
  | .reg ops _ (o :: _) :: _ => match awanted ops m.fr.tmps o with
    | some true => aexec P ng m o
    | some false => AM.done P m undefA m.h
    | none => none
  | .drw ops dm um ed false :: k =>
    match passOne P ng ops (effMask (effs P ops.toList 0)) dm um m.fr.nt ops.toList 0 ed m.fr.tmps m.h with
    | some (ed', T, h) =>
      bif passTwo P ng ops (effMask (effs P ops.toList 0)) dm um m.fr.nt T h ops.toList 0 then
        some { m with fr := { m.fr with tmps := T, todo := .drw ops dm um ed' true :: k }, h }
      else none
    | none => none
  | .drw ops dm um ed true :: k =>
    match nextEff ops dm (effs P ops.toList 0) with
    | some i => match ops[i]? with
      | some o => match awanted ops m.fr.tmps o with
        | some true => aeff P ng m o
        | some false => AM.done P m undefA m.h
        | none => none
      | none => none
    | none => bif Nat.beq (Nat.lor (effMask (effs P ops.toList 0)) dm) dm then some (m.to k) else none
  | .rangeF _ :: _ => none
  | .endF l :: k => match m.h.get l with
    | some (.loop r) =>
      match r.state with
      | .busy => none
      | _ => some { m with fr := { m.fr with todo := (r.pending.map AItem.code).toList ++ k }, h := m.h.put l (.loop { r with state := .exhausted }) }
    | _ => none
  | .beginRound :: k => match m.fr.round with
    | some l => match m.h.get l with
      | some (.loop r) => match r.state with
        | .ready => some { m with fr := { m.fr with todo := k }, h := m.h.put l (.loop { r with state := .busy }) }
        | _ => none
      | _ => none
    | none => none

def arun : Nat → AM → Option AM
  | 0, m => some m
  | n + 1, m => match astep P ng m with
    | some m' => arun n m'
    | none => none

/-! ### A range over a map: whichever entry comes next -/
def anexts (h : AH) (x : AV) : Option (List (AV × AH)) :=
  match x with
  | .ptr k 0 =>
    match h.get k with
    | some (.mapIter m since seen last) =>
      match h.get m with
      | some (.map es clock) =>
        match es.filter (fun e => !hasNat seen e.2.2) with
        | [] => none
        | l => bif l.all (fun e => Nat.blt e.2.2 since) && (seen.isEmpty || es.any (fun e => Nat.blt e.2.2 last)) then
            some (l.map fun e => (.tuple [.bool true, e.1, e.2.1], h.put k (.mapIter m since (seen ++ [e.2.2]) clock)))
          else none
      | _ => none
    | _ => none
  | _ => none
def adones (m : AM) : List (AV × AH) → Option (List AM)
  | [] => some []
  | p :: l => match AM.done P m p.1 p.2, adones m l with
    | some m', some ms => some (m' :: ms)
    | _, _ => none
def aforks (m : AM) : Option (List AM) :=
  bif m.fr.ret then none else
  match m.fr.todo with
  | .reg ops _ (o :: _) :: _ => match awanted ops m.fr.tmps o with
    | some true => match o.op with
      | .next x false => match anexts m.h (ev ng m.fr.tmps x) with
        | some l => adones P m l
        | none => none
      | _ => none
    | _ => none
  | _ => none
/-- a call that is told by its contract -/
def asumOp (S : AH → FuncId → List AV → Option (AV × AH)) (m : AM) (o : Oper) : Option AM :=
  match o.op with
  | .call c => match c.callee with
    | .value g => match ev ng m.fr.tmps g with
      | .func f first [] => match S m.h f (first ++ c.args.toList.map (ev ng m.fr.tmps)) with
        | some (v, h) => AM.done P m v h
        | none => none
      | _ => none
    | _ => none
  | _ => none
def asum (S : AH → FuncId → List AV → Option (AV × AH)) (m : AM) : Option AM :=
  bif m.fr.ret then none else
  match m.fr.todo with
  | .reg ops _ (o :: _) :: _ => match awanted ops m.fr.tmps o with
    | some true => asumOp P ng S m o
    | _ => none
  | .drw ops dm _ _ true :: _ => match nextEff ops dm (effs P ops.toList 0) with
    | some i => match ops[i]? with
      | some o => match awanted ops m.fr.tmps o with
        | some true => asumOp P ng S m o
        | _ => none
      | none => none
    | none => none
  | _ => none
/-! ### A panic, and what a deferred call makes of it -/
def notDrw : List AItem → Bool
  | .drw .. :: _ => false
  | _ => true
/-- the first frame that defers, of those that a panic leaves -/
def catcher : List AFrame → Option (AFrame × List AFrame)
  | [] => none
  | c :: cs => match c.defers with
    | [] => match P.funcs[c.fn]? with
      | some _ => catcher cs
      | none => none
    | _ :: _ => some (c, cs)
/-- a deferred call that asks for the panic: what it finds -/
def arecover (m : AM) (v : AV) : Option AM :=
  bif m.fr.ret || !m.fr.dfd then none else
  match m.fr.todo, m.cs, m.fr.round with
  | .reg ops _ (o :: _) :: _, [], none => match awanted ops m.fr.tmps o with
    | some true => match o.op with
      | .call c => match c.callee with
        | .builtin .recover => AM.done P m v m.h
        | _ => none
      | _ => none
    | _ => none
  | _, _, _ => none
/-- the frame that caught it returns -/
def acaught (c b : AFrame) (B : List AFrame) (m : AM) : Option AM :=
  match m.cs, m.fr.defers with
  | [], [] =>
    bif m.fr.ret && m.fr.dfd && plainTop m.fr.todo then
      match P.funcs[m.fr.fn]?, P.funcs[c.fn]? with
      | some gn, some fn => match aresults P m.h m.fr.tmps gn.results.toList, aresults P m.h c.tmps fn.results.toList with
        | some _, some vs => match AFrame.finish P b (tupled vs) with
          | some fr => some { fr, cs := B, h := m.h }
          | none => none
        | _, _ => none
      | _, _ => none
    else none
  | _, _ => none
def araise (m : AM) : Option (AV × AFrame × AFrame × List AFrame × AM) :=
  bif m.fr.ret then none else
  match m.fr.todo, m.fr.defers, P.funcs[m.fr.fn]? with
  | .reg ops _ (o :: _) :: _, [], some _ => match awanted ops m.fr.tmps o with
    | some true => match o.op with
      | .panic x => match ev ng m.fr.tmps x with
        | .iface t v => match catcher P m.cs with
          | some (c, b :: B) => match c.todo, c.defers with
            | .reg .. :: _, [.call g cap args] =>
              bif c.dfd then none else
              match AFrame.enter P g (args ++ cap) true with
              | some fr => some (.iface t v, c, b, B, { fr, cs := [], h := m.h })
              | none => none
            | _, _ => none
          | _ => none
        | _ => none
      | _ => none
    | _ => none
  | _, _, _ => none
def apanic (n1 n2 : Nat) (m : AM) : Option AM :=
  match araise P ng m with
  | some (v, c, b, B, m1) => match arun P ng n1 m1 with
    | some m2 => match arecover P m2 v with
      | some m3 => match arun P ng n2 m3 with
        | some m4 => acaught P c b B m4
        | none => none
      | none => none
    | none => none
  | none => none
/-- How a run goes: so many steps; a fork, and a run for each way; one way's run, then the others'. -/
inductive Sc where
  | stop
  | go (n : Nat) (s : Sc)
  | fork (s : Sc)
  | sum (s : Sc)
  | alt (a b : Sc)
  | nil
def scr (S : AH → FuncId → List AV → Option (AV × AH)) : Sc → List AM → Option (List AM)
  | .stop, [m] => some [m]
  | .go n s, [m] => match arun P ng n m with
    | some m' => scr S s [m']
    | none => none
  | .fork s, [m] => match aforks P ng m with
    | some ms => scr S s ms
    | none => none
  | .sum s, [m] => match asum P ng S m with
    | some m' => scr S s [m']
    | none => none
  | .alt a b, m :: ms => match scr S a [m], scr S b ms with
    | some l, some r => some (l ++ r)
    | _, _ => none
  | .nil, [] => some []
  | _, _ => none
end
end Go.Proofs.YtfmopmjgohopeaaGreatDoor.Ev

/-
  The abstract machine's values and memory against the model's: the relations, and what keeps them.
-/
set_option linter.unusedVariables false
set_option linter.unusedSimpArgs false
set_option linter.constructorNameAsVariable false
namespace Go.Proofs.YtfmopmjgohopeaaGreatDoor.Ev
open Go

/-! ### Tries -/
theorem nbeq (a b : Nat) : Nat.beq a b = decide (a = b) := by
  by_cases h : a = b
  · simp [h, Nat.beq_refl]
  · simp only [h, decide_false]; exact Bool.eq_false_iff.2 fun e => h (Nat.eq_of_beq_eq_true e)
theorem nble (a b : Nat) : Nat.ble a b = decide (a ≤ b) := by
  by_cases h : a ≤ b
  · simp only [h, decide_true]; exact Nat.ble_eq_true_of_le h
  · simp only [h, decide_false]; exact Bool.eq_false_iff.2 fun e => h (Nat.le_of_ble_eq_true e)
theorem nblt (a b : Nat) : Nat.blt a b = decide (a < b) := by
  unfold Nat.blt; rw [nble]; rfl
theorem Tr.get_n {α : Type} (v : Option α) (a b : Tr α) (i : Nat) : (Tr.n v a b).get i = if i = 0 then v else if i % 2 = 1 then a.get (i / 2) else b.get (i / 2 - 1) := by
  simp only [Tr.get, nbeq, Bool.cond_decide]
theorem Tr.get_l {α : Type} (i : Nat) : (Tr.l : Tr α).get i = none := by cases i <;> rfl
theorem Tr.get_setAux {α : Type} : ∀ (f : Nat) (t : Tr α) (i j : Nat) (x : Option α), i < f → (t.setAux f i x).get j = if j = i then x else t.get j
  | 0, _, _, _, _, h => absurd h (Nat.not_lt_zero _)
  | f + 1, .l, i, j, x, h => by
    have e1 := fun (_ : i % 2 = 1) => Tr.get_setAux f (.l : Tr α) (i / 2) (j / 2) x (by omega)
    have e2 := fun (_ : ¬ i % 2 = 1) (_ : ¬ i = 0) => Tr.get_setAux f (.l : Tr α) (i / 2 - 1) (j / 2 - 1) x (by omega)
    simp only [Tr.setAux, nbeq, Bool.cond_decide]
    by_cases h0 : i = 0
    · rw [if_pos h0, Tr.get_n]; subst h0; by_cases hj : j = 0 <;> simp [hj, Tr.get_l]
    · rw [if_neg h0]
      by_cases h1 : i % 2 = 1
      · rw [if_pos h1, Tr.get_n, e1 h1]
        by_cases hj : j = 0
        · rw [if_pos hj, if_neg (by omega), Tr.get_l]
        · rw [if_neg hj]
          by_cases hj1 : j % 2 = 1
          · rw [if_pos hj1]
            by_cases hij : j = i
            · rw [if_pos (by omega), if_pos hij]
            · rw [if_neg (by omega), if_neg hij, Tr.get_l, Tr.get_l]
          · rw [if_neg hj1, if_neg (by omega), Tr.get_l, Tr.get_l]
      · rw [if_neg h1, Tr.get_n, e2 h1 h0]
        by_cases hj : j = 0
        · rw [if_pos hj, if_neg (by omega), Tr.get_l]
        · rw [if_neg hj]
          by_cases hj1 : j % 2 = 1
          · rw [if_pos hj1, if_neg (by omega), Tr.get_l, Tr.get_l]
          · rw [if_neg hj1]
            by_cases hij : j = i
            · rw [if_pos (by omega), if_pos hij]
            · rw [if_neg (by omega), if_neg hij, Tr.get_l, Tr.get_l]
  | f + 1, .n v a b, i, j, x, h => by
    have e1 := fun (_ : i % 2 = 1) => Tr.get_setAux f a (i / 2) (j / 2) x (by omega)
    have e2 := fun (_ : ¬ i % 2 = 1) (_ : ¬ i = 0) => Tr.get_setAux f b (i / 2 - 1) (j / 2 - 1) x (by omega)
    simp only [Tr.setAux, nbeq, Bool.cond_decide]
    by_cases h0 : i = 0
    · rw [if_pos h0, Tr.get_n, Tr.get_n]; subst h0; by_cases hj : j = 0 <;> simp [hj]
    · rw [if_neg h0]
      by_cases h1 : i % 2 = 1
      · rw [if_pos h1, Tr.get_n, Tr.get_n, e1 h1]
        by_cases hj : j = 0
        · rw [if_pos hj, if_neg (by omega), if_pos hj]
        · rw [if_neg hj, if_neg hj]
          by_cases hj1 : j % 2 = 1
          · rw [if_pos hj1, if_pos hj1]
            by_cases hij : j = i
            · rw [if_pos (by omega), if_pos hij]
            · rw [if_neg (by omega), if_neg hij]
          · rw [if_neg hj1, if_neg hj1, if_neg (by omega)]
      · rw [if_neg h1, Tr.get_n, Tr.get_n, e2 h1 h0]
        by_cases hj : j = 0
        · rw [if_pos hj, if_neg (by omega), if_pos hj]
        · rw [if_neg hj, if_neg hj]
          by_cases hj1 : j % 2 = 1
          · rw [if_pos hj1, if_pos hj1, if_neg (by omega)]
          · rw [if_neg hj1, if_neg hj1]
            by_cases hij : j = i
            · rw [if_pos (by omega), if_pos hij]
            · rw [if_neg (by omega), if_neg hij]
theorem Tr.get_set {α : Type} (t : Tr α) (i j : Nat) (x : Option α) : (t.set i x).get j = if j = i then x else t.get j := Tr.get_setAux _ _ _ _ _ (Nat.lt_succ_self i)
theorem Tr.get_set_same {α : Type} (t : Tr α) (i : Nat) (x : Option α) : (t.set i x).get i = x := by rw [Tr.get_set, if_pos rfl]
theorem Tr.get_set_ne {α : Type} (t : Tr α) {i j : Nat} (x : Option α) (h : j ≠ i) : (t.set i x).get j = t.get j := by rw [Tr.get_set, if_neg h]

/-! ### Cells -/
theorem toBt_list : ∀ {l : List AV} {b : Bs}, toBt l = some b → b.list.map byteA = l
  | [], b, h => by injection h with h; subst h; rfl
  | a :: l, b, h => by
    unfold toBt at h
    split at h
    · cases ‹_ :: _ = []›
    · rename_i x l' e
      injection e with e1 e2
      subst e1 e2
      cases hx : Nat.blt x 256 with
      | false => rw [hx] at h; cases h
      | true =>
        rw [hx, cond_true] at h
        cases hl : toBt l with
        | none => rw [hl] at h; cases h
        | some c =>
          rw [hl] at h
          injection h with h
          subst h
          have hx : x < 256 := by rw [nblt] at hx; exact of_decide_eq_true hx
          have ih := toBt_list hl
          show (digits (c.n + 1) (x + 256 * c.v)).map byteA = _
          unfold digits
          rw [show (x + 256 * c.v) % 256 = x by omega, show (x + 256 * c.v) / 256 = c.v by omega]
          exact congrArg _ ih
    · cases h
theorem Cs.bt_list {c : Cs} {b : Bs} (h : c.bt? = some b) : b.list.map byteA = c.list := by
  cases c with
  | av l => exact toBt_list h
  | bt b' => injection h with h; subst h; rfl
theorem Cs.list_of (l : List AV) : (Cs.of l).list = l := by
  unfold Cs.of
  cases h : toBt l with
  | none => rfl
  | some b => exact toBt_list h
theorem Cs.list_len (c : Cs) : c.len = c.list.length := by
  cases c with
  | av l => rfl
  | bt b => simp [Cs.len, Cs.list, Bs.list_len]
theorem Cs.list_get (c : Cs) (i : Nat) : c.get i = c.list[i]? := by
  cases c with
  | av l => rfl
  | bt b =>
    simp only [Cs.get, Cs.list, List.getElem?_map, Bs.list_get]
    cases b.list[i]? <;> rfl
theorem Cs.list_sub (c : Cs) (off n : Nat) : (c.sub off n).list = (c.list.drop off).take n := by
  cases c with
  | av l => rfl
  | bt b => simp only [Cs.sub, Cs.list, Bs.list_sub, List.map_take, List.map_drop]
theorem Cs.list_app (x y : Cs) : (x.app y).list = x.list ++ y.list := by
  unfold Cs.app
  cases hy : y.bt? with
  | none => rfl
  | some b =>
    cases hx : x.bt? with
    | none => rfl
    | some a =>
      show (a.app b).list.map byteA = _
      rw [Bs.list_app, List.map_append, Cs.bt_list hx, Cs.bt_list hy]
theorem bytes_isU8 (l : List Nat) : (l.map byteA).all isU8A = true := by
  rw [List.all_eq_true]
  intro x hx
  obtain ⟨n, _, rfl⟩ := List.mem_map.1 hx
  rfl
theorem bytes_one (l : List Nat) : (l.map byteA).all AV.one = true := by
  rw [List.all_eq_true]
  intro x hx
  obtain ⟨n, _, rfl⟩ := List.mem_map.1 hx
  rfl
theorem Cs.list_isU8 (c : Cs) : c.isU8 = c.list.all isU8A := by
  cases c with
  | av l => rfl
  | bt b => exact (bytes_isU8 _).symm
theorem Cs.list_one (c : Cs) : c.one = c.list.all AV.one := by
  cases c with
  | av l => rfl
  | bt b => exact (bytes_one _).symm
/-! ### Values -/
structure Loc where
  blk : Nat
  base : Nat
  size : Nat
abbrev Sg := Nat → Option Loc
def Sg.le (σ σ' : Sg) : Prop := ∀ k e, σ k = some e → σ' k = some e
theorem Sg.le.refl (σ : Sg) : σ.le σ := fun _ _ h => h
theorem Sg.le.trans {a b c : Sg} (h : a.le b) (k : b.le c) : a.le c := fun x e hx => k x e (h x e hx)
def Sg.put (σ : Sg) (k : Nat) (e : Loc) : Sg := fun x => if x = k then some e else σ x
theorem Sg.put_same (σ : Sg) (k : Nat) (e : Loc) : σ.put k e k = some e := if_pos rfl
theorem Sg.put_ne (σ : Sg) {k x : Nat} (e : Loc) (h : x ≠ k) : σ.put k e x = σ x := if_neg h
theorem Sg.le_put {σ : Sg} {k : Nat} {e : Loc} (h : σ k = none) : σ.le (σ.put k e) := fun x e' hx => by
  by_cases hk : x = k
  · subst hk; rw [h] at hx; cases hx
  · rw [Sg.put_ne σ e hk]; exact hx

def litOk : Value → Bool
  | .pointer none | .slice none _ _ | .map none | .nilFunc | .nilIface | .float _ _ => true
  | _ => false
def mkS (s : List Nat) : ByteArray := ⟨(s.map UInt8.ofNat).toArray⟩
def capR (e : Loc) (off len : Nat) (cap : Cap) (c : Nat) : Prop :=
  match cap with
  | .is n => c = n
  | .room sz => len ≤ c ∧ e.base + off + c * sz ≤ e.size
def Loc.at (e : Loc) (off : Nat) : Addr := ⟨e.blk, e.base + off, none⟩
mutual
def VR (σ : Sg) : AV → Value → Prop
  | .any, _ => True
  | .lit a, v => v = a ∧ litOk a = true
  | .bool b, v => v = .bool b
  | .int k n, v => v = .int k n
  | .str s, v => v = .string (mkS s.list) ∧ ∀ b ∈ s.list, b < 256
  | .ptr k off, v => ∃ e, σ k = some e ∧ v = .pointer (some (e.at off))
  | .slice k off len cap, v => ∃ e c, σ k = some e ∧ v = .slice (some (e.at off)) len c ∧ capR e off len cap c
  | .empty cap, v => ∃ a c, v = .slice (some a) 0 c ∧ ∀ n, cap = some n → c = n
  | .map k, v => ∃ e, σ k = some e ∧ v = .map (some e.blk)
  | .func f x y, v => ∃ x' y', v = .func (.func f) x' y' ∧ VRs σ x x'.toList ∧ VRs σ y y'.toList
  | .yield k, v => ∃ e, σ k = some e ∧ v = .func (.yield e.blk) #[] #[]
  | .iface t x, v => ∃ y, v = .iface t y ∧ VR σ x y
  | .agg l, v => ∃ c, v = .agg c ∧ VRs σ l c.toList
  | .tuple l, v => ∃ c, v = .tuple c ∧ VRs σ l c.toList
def VRs (σ : Sg) : List AV → List Value → Prop
  | [], [] => True
  | a :: l, v :: m => VR σ a v ∧ VRs σ l m
  | _, _ => False
end

mutual
theorem VR.mono {σ σ' : Sg} (h : σ.le σ') : ∀ (a : AV) (v : Value), VR σ a v → VR σ' a v
  | .any, _, _ => trivial
  | .lit _, _, r => r
  | .bool _, _, r => r
  | .int _ _, _, r => r
  | .str _, _, r => r
  | .ptr _ _, _, ⟨e, he, r⟩ => ⟨e, h _ _ he, r⟩
  | .slice _ _ _ _, _, ⟨e, c, he, r⟩ => ⟨e, c, h _ _ he, r⟩
  | .empty _, _, r => r
  | .map _, _, ⟨e, he, r⟩ => ⟨e, h _ _ he, r⟩
  | .func _ x y, _, ⟨x', y', hv, hx, hy⟩ => ⟨x', y', hv, VRs.mono h x _ hx, VRs.mono h y _ hy⟩
  | .yield _, _, ⟨e, he, r⟩ => ⟨e, h _ _ he, r⟩
  | .iface _ x, _, ⟨y, hv, r⟩ => ⟨y, hv, VR.mono h x _ r⟩
  | .agg l, _, ⟨c, hv, r⟩ => ⟨c, hv, VRs.mono h l _ r⟩
  | .tuple l, _, ⟨c, hv, r⟩ => ⟨c, hv, VRs.mono h l _ r⟩
theorem VRs.mono {σ σ' : Sg} (h : σ.le σ') : ∀ (a : List AV) (v : List Value), VRs σ a v → VRs σ' a v
  | [], [], _ => trivial
  | a :: l, v :: m, r => ⟨VR.mono h a v r.1, VRs.mono h l m r.2⟩
  | [], _ :: _, r => r.elim
  | _ :: _, [], r => r.elim
end

theorem VRs.length {σ : Sg} : ∀ {a : List AV} {v : List Value}, VRs σ a v → a.length = v.length
  | [], [], _ => rfl
  | _ :: _, _ :: _, r => by simp [VRs.length r.2]
  | [], _ :: _, r => r.elim
  | _ :: _, [], r => r.elim
theorem VRs.get {σ : Sg} : ∀ {a : List AV} {v : List Value}, VRs σ a v → ∀ (i : Nat) x, a[i]? = some x → ∃ y, v[i]? = some y ∧ VR σ x y
  | [], [], _, i, x, h => by simp at h
  | a :: l, v :: m, r, 0, x, h => by simp at h; subst h; exact ⟨v, by simp, r.1⟩
  | a :: l, v :: m, r, i + 1, x, h => by simpa using VRs.get r.2 i x (by simpa using h)
  | [], _ :: _, r, _, _, _ => r.elim
  | _ :: _, [], r, _, _, _ => r.elim
theorem VRs.app {σ : Sg} : ∀ {a : List AV} {v : List Value} {b : List AV} {w : List Value}, VRs σ a v → VRs σ b w → VRs σ (a ++ b) (v ++ w)
  | [], [], _, _, _, h => h
  | _ :: _, _ :: _, _, _, r, h => ⟨r.1, VRs.app r.2 h⟩
  | [], _ :: _, _, _, r, _ => r.elim
  | _ :: _, [], _, _, r, _ => r.elim
theorem VRs.take {σ : Sg} : ∀ (n : Nat) {a : List AV} {v : List Value}, VRs σ a v → VRs σ (a.take n) (v.take n)
  | 0, _, _, _ => by simp [VRs]
  | _ + 1, [], [], _ => by simp [VRs]
  | n + 1, _ :: _, _ :: _, r => ⟨r.1, VRs.take n r.2⟩
  | _ + 1, [], _ :: _, r => r.elim
  | _ + 1, _ :: _, [], r => r.elim
theorem VRs.drop {σ : Sg} : ∀ (n : Nat) {a : List AV} {v : List Value}, VRs σ a v → VRs σ (a.drop n) (v.drop n)
  | 0, _, _, h => by simpa using h
  | _ + 1, [], [], _ => by simp [VRs]
  | n + 1, _ :: _, _ :: _, r => by simpa using VRs.drop n r.2
  | _ + 1, [], _ :: _, r => r.elim
  | _ + 1, _ :: _, [], r => r.elim
theorem VRs.map {σ : Sg} {α : Type} (f : α → AV) (g : α → Value) : ∀ (l : List α), (∀ x ∈ l, VR σ (f x) (g x)) → VRs σ (l.map f) (l.map g)
  | [], _ => trivial
  | x :: l, h => ⟨h x (List.mem_cons_self ..), VRs.map f g l fun y hy => h y (List.mem_cons_of_mem _ hy)⟩
theorem VRs.replicate {σ : Sg} {a : AV} {v : Value} (h : VR σ a v) : ∀ n, VRs σ (List.replicate n a) (List.replicate n v)
  | 0 => trivial
  | n + 1 => ⟨h, VRs.replicate h n⟩
theorem VRs.flatrep {σ : Sg} {a : List AV} {v : List Value} (h : VRs σ a v) : ∀ n, VRs σ (List.replicate n a).flatten (List.replicate n v).flatten
  | 0 => trivial
  | n + 1 => by simpa [List.replicate_succ] using VRs.app h (VRs.flatrep h n)

theorem ofNat_toNat_map (s : List UInt8) : (s.map UInt8.toNat).map UInt8.ofNat = s := by
  rw [List.map_map]
  conv => rhs; rw [← List.map_id s]
  apply List.map_congr_left
  intro a _
  simp
theorem toNat_lt (s : List UInt8) : ∀ b ∈ s.map UInt8.toNat, b < 256 := fun b hb => by
  obtain ⟨c, _, rfl⟩ := List.mem_map.1 hb
  exact c.toNat_lt
theorem VR.ofAtom (σ : Sg) (v : Value) : VR σ (AV.ofAtom v) v := by
  cases v with
  | string s =>
    refine ⟨?_, ?_⟩
    · rw [Bs.of_list _ (toNat_lt _)]
      simp only [mkS, ofNat_toNat_map]
    · exact Bs.list_lt _
  | pointer a => cases a <;> first | exact ⟨rfl, rfl⟩ | trivial
  | slice a _ _ => cases a <;> first | exact ⟨rfl, rfl⟩ | trivial
  | map a => cases a <;> first | exact ⟨rfl, rfl⟩ | trivial
  | _ => first | rfl | exact ⟨rfl, rfl⟩ | trivial
theorem VRs.ofAtoms (σ : Sg) : ∀ l : List Value, VRs σ (l.map AV.ofAtom) l
  | [] => trivial
  | v :: l => ⟨VR.ofAtom σ v, VRs.ofAtoms σ l⟩
theorem VR.ofValue (σ : Sg) (v : Value) : VR σ (AV.ofValue v) v := by
  cases v with
  | agg c => exact ⟨c, rfl, VRs.ofAtoms σ _⟩
  | tuple c => exact ⟨c, rfl, VRs.ofAtoms σ _⟩
  | bool b => rfl
  | int k n => rfl
  | string s => exact VR.ofAtom σ (.string s)
  | pointer a => exact VR.ofAtom σ (.pointer a)
  | slice a b c => exact VR.ofAtom σ (.slice a b c)
  | map a => exact VR.ofAtom σ (.map a)
  | _ => first | rfl | exact ⟨rfl, rfl⟩ | trivial
theorem VR.cells {σ : Sg} {a : AV} {v : Value} {l : List AV} (h : VR σ a v) (hc : a.cells = some l) : VRs σ l v.cells.toList := by
  cases a with
  | any => cases hc
  | tuple _ => cases hc
  | agg cs =>
    obtain ⟨c, rfl, r⟩ := h
    injection hc with hc; subst hc; exact r
  | lit a =>
    injection hc with hc; subst hc
    have h' := h
    obtain ⟨rfl, ha⟩ := h'
    cases v <;> first | exact ⟨h, trivial⟩ | (simp [litOk] at ha)
  | bool b => injection hc with hc; subst hc; have h' := h; obtain rfl := h'; exact ⟨h, trivial⟩
  | int b _ => injection hc with hc; subst hc; have h' := h; obtain rfl := h'; exact ⟨h, trivial⟩
  | str b => injection hc with hc; subst hc; have h' := h; obtain ⟨rfl, _⟩ := h'; exact ⟨h, trivial⟩
  | ptr _ _ => injection hc with hc; subst hc; have h' := h; obtain ⟨_, _, rfl⟩ := h'; exact ⟨h, trivial⟩
  | slice _ _ _ _ => injection hc with hc; subst hc; have h' := h; obtain ⟨_, _, _, rfl, _⟩ := h'; exact ⟨h, trivial⟩
  | empty _ => injection hc with hc; subst hc; have h' := h; obtain ⟨_, _, rfl, _⟩ := h'; exact ⟨h, trivial⟩
  | map _ => injection hc with hc; subst hc; have h' := h; obtain ⟨_, _, rfl⟩ := h'; exact ⟨h, trivial⟩
  | func _ _ _ => injection hc with hc; subst hc; have h' := h; obtain ⟨_, _, rfl, _⟩ := h'; exact ⟨h, trivial⟩
  | yield _ => injection hc with hc; subst hc; have h' := h; obtain ⟨_, _, rfl⟩ := h'; exact ⟨h, trivial⟩
  | iface _ _ => injection hc with hc; subst hc; have h' := h; obtain ⟨_, rfl, _⟩ := h'; exact ⟨h, trivial⟩
end Go.Proofs.YtfmopmjgohopeaaGreatDoor.Ev

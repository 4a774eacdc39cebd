/-
  An abstract machine for closed runs: its values, memory, operations (no proof here).
-/
import Derived.Calls
import Derived.AtR
set_option linter.unusedVariables false
set_option linter.unusedSimpArgs false
set_option linter.constructorNameAsVariable false
namespace Go.Proofs.YtllipkakgjmheaaGreatDoor.Ev
open Go

/-! ### Tries -/
inductive Tr (α : Type) where
  | l
  | n (v : Option α) (a b : Tr α)
def Tr.get {α : Type} : Tr α → Nat → Option α
  | .l, _ => none
  | .n v a b, i => bif Nat.beq i 0 then v else bif Nat.beq (i % 2) 1 then a.get (i / 2) else b.get (i / 2 - 1)
def Tr.setAux {α : Type} : Nat → Tr α → Nat → Option α → Tr α
  | 0, t, _, _ => t
  | f + 1, .l, i, x => bif Nat.beq i 0 then .n x .l .l else bif Nat.beq (i % 2) 1 then .n none (setAux f .l (i / 2) x) .l else .n none .l (setAux f .l (i / 2 - 1) x)
  | f + 1, .n v a b, i, x => bif Nat.beq i 0 then .n x a b else bif Nat.beq (i % 2) 1 then .n v (setAux f a (i / 2) x) b else .n v a (setAux f b (i / 2 - 1) x)
def Tr.set {α : Type} (t : Tr α) (i : Nat) (x : Option α) : Tr α := t.setAux (i + 1) i x

/-! ### Values -/
/-- A slice's capacity: known; or whatever (at least the length) fits its block, at so many cells an element. -/
inductive Cap where
  | is (n : Nat)
  | room (sz : Nat)
  deriving Inhabited
inductive AV where
  | any
  | lit (v : Value)
  | bool (b : Bool)
  | int (k : IntKind) (n : Int)
  | str (s : List Nat)
  | ptr (k off : Nat)
  | slice (k off len : Nat) (cap : Cap)
  /-- a slice of length 0 that is not nil, wherever it lies; its capacity, if it is known -/
  | empty (cap : Option Nat)
  | map (k : Nat)
  | func (f : FuncId) (first captured : List AV)
  | yield (k : Nat)
  | iface (t : TypeId) (v : AV)
  | agg (cs : List AV)
  | tuple (vs : List AV)
  deriving Inhabited

def AV.ofAtom : Value → AV
  | .bool b => .bool b
  | .int k n => .int k n
  | .string s => .str (s.data.toList.map UInt8.toNat)
  | .pointer none => .lit (.pointer none)
  | .slice none l c => .lit (.slice none l c)
  | .map none => .lit (.map none)
  | .nilFunc => .lit .nilFunc
  | .nilIface => .lit .nilIface
  | .float k b => .lit (.float k b)
  | _ => .any
def AV.ofValue : Value → AV
  | .agg cs => .agg (cs.toList.map AV.ofAtom)
  | .tuple vs => .tuple (vs.toList.map AV.ofAtom)
  | v => AV.ofAtom v

def AV.one : AV → Bool
  | .any | .agg _ | .tuple _ => false
  | _ => true
def AV.cells : AV → Option (List AV)
  | .any | .tuple _ => none
  | .agg l => some l
  | v => some [v]

def ikBeq : IntKind → IntKind → Bool
  | .i8, .i8 | .i16, .i16 | .i32, .i32 | .i64, .i64 | .u8, .u8 | .u16, .u16 | .u32, .u32 | .u64, .u64 => true
  | _, _ => false
def intBeq : Int → Int → Bool
  | .ofNat a, .ofNat b => Nat.beq a b
  | .negSucc a, .negSucc b => Nat.beq a b
  | _, _ => false
def natsBeq : List Nat → List Nat → Bool
  | [], [] => true
  | a :: x, b :: y => Nat.beq a b && natsBeq x y
  | _, _ => false
def boolBeq : Bool → Bool → Bool
  | true, true | false, false => true
  | _, _ => false
def capBeq : Cap → Cap → Bool
  | .is a, .is b => Nat.beq a b
  | .room a, .room b => Nat.beq a b
  | _, _ => false
/-- Nothing-values alike (enough for what stands in a region that draws). -/
def litBeq : Value → Value → Bool
  | .pointer none, .pointer none | .map none, .map none | .nilFunc, .nilFunc | .nilIface, .nilIface => true
  | .slice none a b, .slice none c d => Nat.beq a c && Nat.beq b d
  | _, _ => false
mutual
def AV.beq : AV → AV → Bool
  | .lit a, .lit b => litBeq a b
  | .bool a, .bool b => boolBeq a b
  | .int j a, .int k b => ikBeq j k && intBeq a b
  | .str a, .str b => natsBeq a b
  | .ptr a b, .ptr c d => Nat.beq a c && Nat.beq b d
  | .slice a b c d, .slice a' b' c' d' => Nat.beq a a' && Nat.beq b b' && Nat.beq c c' && capBeq d d'
  | .empty none, .empty none => true
  | .empty (some a), .empty (some b) => Nat.beq a b
  | .map a, .map b => Nat.beq a b
  | .func f x y, .func g x' y' => Nat.beq f g && AV.beqs x x' && AV.beqs y y'
  | .yield a, .yield b => Nat.beq a b
  | .iface t v, .iface u w => Nat.beq t u && AV.beq v w
  | .agg a, .agg b => AV.beqs a b
  | .tuple a, .tuple b => AV.beqs a b
  | _, _ => false
def AV.beqs : List AV → List AV → Bool
  | [], [] => true
  | a :: x, b :: y => AV.beq a b && AV.beqs x y
  | _, _ => false
end

/-! ### Memory -/
inductive ADef where
  | call (f : FuncId) (captured args : List AV)
  | collected (k : Nat)
structure ALoop where
  state : LoopState
  pending : Option Code
  fn : FuncId
  nt : Nat
  tmps : Tr AV
  params : Array Tmp
  assign : Code
  body : Code
  defers : Nat
inductive ABlock where
  /-- cells; ro: never written (a package-level variable, or bytes that a string shares) -/
  | cells (ro : Bool) (cs : List AV)
  | map (es : List (AV × AV × Nat)) (clock : Nat)
  | mapIter (m : Nat) (since : Nat) (seen : List Nat) (stepped : Nat)
  | strIter (s : List Nat) (pos : Nat)
  | loop (l : ALoop)
  | deferred (ds : List ADef)
structure AH where
  next : Nat
  m : Tr ABlock
def AH.get (h : AH) (k : Nat) : Option ABlock := h.m.get k
def AH.put (h : AH) (k : Nat) (b : ABlock) : AH := { h with m := h.m.set k (some b) }
def AH.kill (h : AH) (k : Nat) : AH := { h with m := h.m.set k none }
def AH.new (h : AH) (b : ABlock) : AH := { next := h.next + 1, m := h.m.set h.next (some b) }

/-! ### Operands -/
section
variable (P : Program) (ng : Nat)
def ev (T : Tr AV) : Operand → AV
  | .tmp t => (T.get t).getD .any
  | .const v => AV.ofValue v
  | .global g => bif Nat.blt g ng then .ptr g 0 else .any
  | .func f => .func f [] []

/-! ### Operations that only read -/
def aload (h : AH) (t : TypeId) : AV → Option AV
  | .ptr k off =>
    match h.get k with
    | some (.cells _ cs) =>
      match P.underlying t with
      | some (.struct _) | some (.array _ _) =>
        match P.info? t with
        | some i => let l := (cs.drop off).take i.size; bif Nat.beq l.length i.size then some (.agg l) else none
        | none => none
      | some _ => cs[off]?
      | none => none
    | _ => none
  | _ => none

/-- A part of an aggregate. -/
def apart (t : TypeId) (cs : List AV) (off : Nat) : Option AV :=
  match P.underlying t with
  | some (.struct _) | some (.array _ _) =>
    match P.info? t with
    | some i => some (.agg ((cs.drop off).take i.size))
    | none => none
  | some _ => cs[off]?
  | none => none

def afill (place : Nat → Option (Nat × Nat)) (cells : List AV) : List (Nat × AV) → Option (List AV)
  | [] => some cells
  | (i, v) :: rest =>
    match place i, v.cells with
    | some (off, size), some vs => bif Nat.beq vs.length size && Nat.ble (off + size) cells.length then afill place (cells.take off ++ vs ++ cells.drop (off + size)) rest else none
    | _, _ => none

def zeroCells (t : TypeId) : Option (List AV) :=
  match P.info? t with
  | some i =>
    match i.zero with
    | some (.agg cs) => some (cs.toList.map AV.ofAtom)
    | some v => bif (AV.ofAtom v).one then some [AV.ofAtom v] else none
    | none => none
  | none => none

def sizeOf? (t : TypeId) : Option Nat := (P.info? t).map (·.size)

def fieldPl (fields : Array Field) (i : Nat) : Option (Nat × Nat) :=
  match fields[i]? with
  | some f => (sizeOf? P f.type).map fun s => (f.offset, s)
  | none => none
def abuild (T : Operand → AV) (t : TypeId) (parts : Array (Nat × Operand)) : Option AV :=
  match zeroCells P t, P.underlying t with
  | some zero, some (.struct fields) =>
    bif fields.toList.all (fun f => (sizeOf? P f.type).isSome) then
    (afill (fieldPl P fields) zero (parts.toList.map fun p => (p.1, T p.2))).map .agg
    else none
  | some zero, some (.array _ elem) =>
    match sizeOf? P elem with
    | some s => (afill (fun i => some (i * s, s)) zero (parts.toList.map fun p => (p.1, T p.2))).map .agg
    | none => none
  | _, _ => none

def bytesLess : List Nat → List Nat → Bool
  | _, [] => false
  | [], _ :: _ => true
  | a :: x, b :: y => bif Nat.blt a b then true else bif Nat.beq a b then bytesLess x y else false

def semVal : Sem Value → Option Value
  | .pure v => some v
  | _ => none

def nilEq (d : TypeDesc) (x : AV) (v : Value) : Option Bool :=
  match d with
  | .pointer _ => (match v with
    | .pointer none => (match x with | .ptr _ _ => some false | .lit (.pointer none) => some true | _ => none)
    | _ => none)
  | .slice _ => (match v with
    | .slice none _ _ => (match x with | .slice _ _ _ _ => some false | .empty _ => some false | .lit (.slice none _ _) => some true | _ => none)
    | _ => none)
  | .map _ _ => (match v with
    | .map none => (match x with | .map _ => some false | .lit (.map none) => some true | _ => none)
    | _ => none)
  | .func _ _ _ => (match v with
    | .nilFunc => (match x with | .func _ _ _ => some false | .yield _ => some false | .lit .nilFunc => some true | _ => none)
    | _ => none)
  | .interface _ => (match v with
    | .nilIface => (match x with | .iface _ _ => some false | _ => none)
    | _ => none)
  | _ => none
def nilOp (op : BinOp) (r : Option Bool) : Option AV :=
  match r, op with
  | some r, .eql => some (.bool r)
  | some r, .neq => some (.bool (!r))
  | _, _ => none
def abin (op : BinOp) (t : TypeId) (x y : AV) : Option AV :=
  match x, y with
  | .int j a, .int k b => match semVal (Go.binOp op t (.int j a) (.int k b)) with
    | some (.int k n) => some (.int k n)
    | some (.bool b) => some (.bool b)
    | _ => none
  | .str a, .str b =>
    match op with
    | .add => bif Nat.ble (a.length + b.length) 1000000 then some (.str (a ++ b)) else none
    | .eql => some (.bool (natsBeq a b))
    | .neq => some (.bool (!natsBeq a b))
    | .lss => some (.bool (bytesLess a b))
    | .leq => some (.bool (bytesLess a b || natsBeq a b))
    | .gtr => some (.bool (!(bytesLess a b || natsBeq a b)))
    | .geq => some (.bool (!bytesLess a b))
    | _ => none
  | .bool a, .bool b =>
    match op, P.underlying t with
    | .eql, some .bool => some (.bool (boolBeq a b))
    | .neq, some .bool => some (.bool (!boolBeq a b))
    | _, _ => none
  | x, .lit v =>
    match P.underlying t with
    | none => none
    | some d => nilOp op (nilEq d x v)
  | _, _ => none

/-- 'x == nil' at an interface type, nil both: told by the operand that is the literal. -/
def isConst : Operand → Bool
  | .const _ => true
  | _ => false
def abinop (T : Operand → AV) (op : BinOp) (t : TypeId) (x y : Operand) : Option AV :=
  match T x, T y with
  | .lit .nilIface, .lit .nilIface =>
    match P.underlying t with
    | some (.interface _) => bif isConst x || isConst y then (match op with | .eql => some (.bool true) | .neq => some (.bool false) | _ => none) else none
    | _ => none
  | .agg _, .agg _ => none
  | a, b => abin P op t a b

def aun (op : UnOp) : AV → Option AV
  | .int k n => match semVal (Op.unary op (.int k n)) with
    | some (.int k n) => some (.int k n)
    | _ => none
  | .bool b => match op with
    | .not => some (.bool (!b))
    | _ => none
  | _ => none

def natOf : AV → Option Nat
  | .int _ (.ofNat n) => some n
  | _ => none

/-- slice bounds of what has a length and a capacity ('none': not known, at least the length) -/
def topOf (cap : Option Nat) (len : Nat) : Nat :=
  match cap with
  | some c => c
  | none => len
def aMax (len : Nat) (cap : Option Nat) : Option AV → Option (Option Nat)
  | some v => match natOf v with
    | some n => bif Nat.ble n (topOf cap len) then some (some n) else none
    | none => none
  | none => some cap
def aEnd (len : Nat) (m : Option Nat) : Option AV → Option AV → Option Nat
  | some v, _ => match natOf v with
    | some n => bif Nat.ble n (topOf m len) then some n else none
    | none => none
  | none, none => some len
  | none, some _ => none
def aLow (h : Nat) : Option AV → Option Nat
  | some v => match natOf v with
    | some n => bif Nat.ble n h then some n else none
    | none => none
  | none => some 0
def abounds (len : Nat) (cap : Option Nat) (low high max : Option AV) : Option (Nat × Nat × Option Nat) :=
  match aMax len cap max with
  | none => none
  | some m => match aEnd len m high max with
    | none => none
    | some h => match aLow h low with
      | none => none
      | some l => some (l, h, m)
def Cap.opt : Cap → Option Nat
  | .is c => some c
  | .room _ => none

def aslice (t : TypeId) (x : AV) (low high max : Option AV) : Option AV :=
  match P.underlying t, x with
  | some .string, .str s =>
    match max with
    | some _ => none
    | none => match abounds s.length (some s.length) low high none with
      | some (l, h, _) => some (.str ((s.take h).drop l))
      | none => none
  | some (.slice elem), .slice k off len cap =>
    match sizeOf? P elem, abounds len cap.opt low high max with
    | some size, some (l, h, m) =>
      -- the model keeps the address where nothing is left: told only if the room is known, or surely more
      match m, cap with
      | some c, _ => some (.slice k (bif Nat.beq c l then off else off + l * size) (h - l) (.is (c - l)))
      | none, .room sz => bif Nat.beq size sz && (Nat.blt l h || Nat.beq l 0) then some (.slice k (off + l * size) (h - l) (.room sz)) else bif Nat.beq l h then some (.empty none) else none
      | none, .is _ => none
    | _, _ => none
  | some (.slice elem), .empty cap =>
    match sizeOf? P elem, abounds 0 cap low high max with
    | some _, some (0, 0, m) => some (.empty m)
    | _, _ => none
  | some (.slice elem), .lit (.slice none len cap) =>
    match sizeOf? P elem, abounds len (some cap) low high max with
    | some _, some (l, h, some c) => some (.lit (.slice none (h - l) (c - l)))
    | _, _ => none
  | some (.array n elem), .ptr k off =>
    match sizeOf? P elem, abounds n (some n) low high max with
    | some size, some (l, h, some c) => some (.slice k (bif Nat.beq c l then off else off + l * size) (h - l) (.is (c - l)))
    | _, _ => none
  | _, _ => none

def aindexAddr (t : TypeId) (x i : AV) : Option AV :=
  match P.underlying t, x, natOf i with
  | some (.array len elem), .ptr k off, some n =>
    match sizeOf? P elem with
    | some s => bif Nat.blt n len then some (.ptr k (off + n * s)) else none
    | none => none
  | some (.slice elem), .slice k off len _, some n =>
    match sizeOf? P elem with
    | some s => bif Nat.blt n len then some (.ptr k (off + n * s)) else none
    | none => none
  | _, _, _ => none

def aindex (t : TypeId) (x i : AV) : Option AV :=
  match P.underlying t, x, natOf i with
  | some .string, .str s, some n => match s[n]? with | some b => some (.int .u8 (.ofNat (b % 256))) | none => none
  | some (.array len elem), .agg cs, some n =>
    match sizeOf? P elem with
    | some s => bif Nat.blt n len then apart P elem cs (n * s) else none
    | none => none
  | _, _, _ => none

/-- the key sought among a map's entries: integers and strings -/
def keySame : AV → AV → Option Bool
  | .int j a, .int k b => bif ikBeq j k then some (intBeq a b) else none
  | .str a, .str b => some (natsBeq a b)
  | _, _ => none
def afind (k : AV) : List (AV × AV × Nat) → Nat → Option (Option (Nat × AV))
  | [], _ => some none
  | e :: es, i => match keySame k e.1 with
    | some true => some (some (i, e.2.1))
    | some false => afind k es (i + 1)
    | none => none
def kfit (d : TypeDesc) (k : AV) : Bool :=
  match d, k with
  | .int _, .int _ _ => true
  | .string, .str _ => true
  | _, _ => false
def keyFits (key : TypeId) (k : AV) : Bool :=
  match P.underlying key with
  | some d => kfit d k
  | none => false

def mapEs (h : AH) : AV → Option (List (AV × AV × Nat))
  | .lit (.map none) => some []
  | .map m => match h.get m with
    | some (.map es _) => some es
    | _ => none
  | _ => none
def alookup (h : AH) (t : TypeId) (x k : AV) (ok : Bool) : Option AV :=
  match P.underlying t with
  | some (.map key elem) =>
    bif keyFits P key k then
      match mapEs h x with
      | none => none
      | some es =>
        match afind k es 0 with
        | none => none
        | some (some (_, v)) => some (bif ok then .tuple [v, .bool true] else v)
        | some none =>
          match P.info? elem with
          | some i => match i.zero with
            | some z => some (bif ok then .tuple [AV.ofValue z, .bool false] else AV.ofValue z)
            | none => none
          | none => none
    else none
  | _ => none

def atypeAssert (x : AV) (t : TypeId) (ok : Bool) : Option AV :=
  match P.underlying t, x with
  | some (.interface _), _ => none
  | some _, .lit .nilIface =>
    bif ok then
      match P.info? t with
      | some i => match i.zero with | some z => some (.tuple [AV.ofValue z, .bool false]) | none => none
      | none => none
    else none
  | some _, .iface u v =>
    bif Nat.beq u t then some (bif ok then .tuple [v, .bool true] else v)
    else bif ok then
      match P.info? t with
      | some i => match i.zero with | some z => some (.tuple [AV.ofValue z, .bool false]) | none => none
      | none => none
    else none
  | _, _ => none

def alenD (h : AH) : TypeDesc → AV → Option Nat
  | .string, .str s => some s.length
  | .slice _, .slice _ _ n _ => some n
  | .slice _, .lit (.slice none n _) => some n
  | .slice _, .empty _ => some 0
  | .map _ _, .lit (.map none) => some 0
  | .map _ _, .map m => match h.get m with
    | some (.map es _) => some es.length
    | _ => none
  | _, _ => none
def alen (h : AH) (t : TypeId) (x : AV) : Option Nat :=
  match P.underlying t with
  | some d => alenD h d x
  | none => none
def acapD : TypeDesc → AV → Option Nat
  | .slice _, .slice _ _ _ (.is c) => some c
  | .slice _, .lit (.slice none _ c) => some c
  | .slice _, .empty (some c) => some c
  | _, _ => none
def acap (t : TypeId) (x : AV) : Option Nat :=
  match P.underlying t with
  | some d => acapD d x
  | none => none

def aminmax (max : Bool) : List AV → Option AV
  | [.int j a, .int k b] =>
    match semVal ((bif max then Builtin.max2 else Builtin.min2) (.int j a) (.int k b)) with
    | some (.int k n) => some (.int k n)
    | _ => none
  | [.int j a] => some (.int j a)
  | _ => none

def aentry (h : AH) : AV → Option AV
  | .ptr k 0 =>
    match h.get k with
    | some (.mapIter m _ seen stepped) =>
      match seen.getLast?, h.get m with
      | some stamp, some (.map es clock) =>
        bif Nat.beq clock stepped then
          match es.find? (fun e => Nat.beq e.2.2 stamp) with
          | some e => some (.tuple [e.1, e.2.1])
          | none => none
        else none
      | _, _ => none
    | _ => none
  | _ => none

def bytesOf : List AV → Option (List Nat)
  | [] => some []
  | .int .u8 (.ofNat n) :: l => bif Nat.blt n 256 then (match bytesOf l with | some s => some (n :: s) | none => none) else none
  | _ :: _ => none

def aconv (h : AH) (src dst : TypeId) (x : AV) : Option AV :=
  match P.underlying src, P.underlying dst, x with
  | some _, some (.int k), .int _ n => some (.int k (k.wrap n))
  | some (.slice e), some .string, .slice k off len _ =>
    match P.underlying e, h.get k with
    | some (.int .u8), some (.cells _ cs) =>
      bif Nat.beq ((cs.drop off).take len).length len then (bytesOf ((cs.drop off).take len)).map .str else none
    | _, _ => none
  | some (.slice e), some .string, .lit (.slice none _ _) =>
    match P.underlying e with | some (.int .u8) => some (.str []) | _ => none
  | some (.slice e), some .string, .empty _ =>
    match P.underlying e with | some (.int .u8) => some (.str []) | _ => none
  | some _, some .string, .str s => some (.str s)
  | _, _, _ => none

def afieldAddr (s : TypeId) (x : AV) (f : Nat) : Option AV :=
  match P.underlying s, x with
  | some (.struct fields), .ptr k off => match fields[f]? with
    | some fd => match sizeOf? P fd.type with
      | some (_ + 1) => some (.ptr k (off + fd.offset))
      | _ => none
    | none => none
  | _, _ => none
def afield (t : TypeId) (x : AV) (f : Nat) : Option AV :=
  match P.underlying t, x with
  | some (.struct fields), .agg cs => match fields[f]? with
    | some fd => apart P fd.type cs fd.offset
    | none => none
  | _, _ => none
def anilCheck : AV → Option AV
  | .ptr a b => some (.ptr a b)
  | .iface a b => some (.iface a b)
  | .func a b c => some (.func a b c)
  | .yield a => some (.yield a)
  | _ => none
/-- an operation that reads: its value -/
def aquiet (h : AH) (T : Operand → AV) : Op → Option AV
  | .move x | .assign x => some (T x)
  | .pick c a b => match T c with | .bool t => some (bif t then T a else T b) | _ => none
  | .build t parts => abuild P T t parts
  | .load t a => aload P h t (T a)
  | .nilCheck x => anilCheck (T x)
  | .binOp op t x y _ => abinop P T op t x y
  | .unOp op _ x => aun op (T x)
  | .convert src dst x => aconv P h src dst (T x)
  | .makeInterface t x => match P.underlying t with
    | some (.interface _) => none
    | some _ => some (.iface t (T x))
    | none => none
  | .makeFunc (.func f) first captured => some (.func f (first.toList.map T) (captured.toList.map T))
  | .slice t x lo hi mx => aslice P t (T x) (lo.map T) (hi.map T) (mx.map T)
  | .fieldAddr s x f => afieldAddr P s (T x) f
  | .field t x f => afield P t (T x) f
  | .indexAddr t x i => aindexAddr P t (T x) (T i)
  | .index t x i => aindex P t (T x) (T i)
  | .lookup t x k ok => alookup P h t (T x) (T k) ok
  | .typeAssert x _ t ok => atypeAssert P (T x) t ok
  | .extract x i => match T x with | .tuple vs => vs[i]? | _ => none
  | .entry x => aentry h (T x)
  | .call c => match c.callee with
    | .builtin .len => match c.argTypes[0]?, c.args.toList with
      | some t, [x] => (alen P h t (T x)).map fun n => .int .i64 (.ofNat n)
      | _, _ => none
    | .builtin .cap => match c.argTypes[0]?, c.args.toList with
      | some t, [x] => (acap P t (T x)).map fun n => .int .i64 (.ofNat n)
      | _, _ => none
    | .builtin .min => aminmax false (c.args.toList.map T)
    | .builtin .max => aminmax true (c.args.toList.map T)
    | _ => none
  | _ => none

/-! ### Operations that make one block -/
inductive Mk where
  | ptr
  | slice (len : Nat) (cap : Cap)
  | map
def Mk.av : Mk → Nat → AV
  | .ptr, k => .ptr k 0
  | .slice n c, k => .slice k 0 n c
  | .map, k => .map k

def repl (n : Nat) (zero : List AV) : List AV :=
  match zero with
  | [z] => List.replicate n z
  | z => (List.replicate n z).flatten

def zeros (elem : TypeId) (size n : Nat) : Option (List AV) :=
  bif Nat.beq (n * size) 0 then some [] else
    match zeroCells P elem with
    | some z => bif Nat.beq z.length size then some (repl n z) else none
    | none => none
def aalloc (T : Operand → AV) : Op → Option (ABlock × Mk)
  | .alloc t => (zeroCells P t).map fun cs => (.cells false cs, .ptr)
  | .box _ x => (T x).cells.map fun cs => (.cells false cs, .ptr)
  | .buildSlice t len parts => match P.underlying t with
    | some (.slice elem) => match sizeOf? P elem with
      | some size =>
        bif Nat.ble (len * size) 1000000 then
          match zeros P elem size len with
          | some zero => (afill (fun i => some (i * size, size)) zero (parts.toList.map fun p => (p.1, T p.2))).map fun cs => (.cells false cs, .slice len (.is len))
          | none => none
        else none
      | none => none
    | _ => none
  | .makeSlice t l c => match P.underlying t, natOf (T l), natOf (T c) with
    | some (.slice elem), some l, some c => match P.info? elem with
      | some i =>
        bif Nat.ble l c && Nat.ble c 1000000 && Nat.ble i.bytes 1000000 then
          (zeros P elem i.size c).map fun cs => (.cells false cs, .slice l (.is c))
        else bif Nat.ble l c && Nat.ble c 1000000000 && Nat.ble i.bytes 1000 && Nat.ble 1 i.size then
          -- too long to be written out: a block of which nothing is known
          (zeros P elem i.size 1).map fun _ => (.cells false [], .slice l (.is c))
        else none
      | none => none
    | _, _, _ => none
  | .convert src dst x => match P.underlying src, P.underlying dst, T x with
    | some .string, some (.slice e), .str s => match P.underlying e with
      | some (.int .u8) => some (.cells false (s.map fun b => .int .u8 (.ofNat (b % 256))), .slice s.length (.room 1))
      | _ => none
    | _, _, _ => none
  | .makeMap _ none => some (.map [] 0, .map)
  | _ => none
end
end Go.Proofs.YtllipkakgjmheaaGreatDoor.Ev

/- The texts EvX of WriterKnown, joined by program (tools/merge.py): walks of the functions that the law reaches, and plain facts; no condition. -/
import Derived.Test.YtkcfcmliaonppaaGreatDoorPart06
import Derived.KernelRfl
set_option linter.unusedVariables false
set_option linter.unusedSimpArgs false

/-
  The abstract machine over quick tables: printed by a program out of EvA and EvB; it is the same machine.
-/
set_option linter.unusedVariables false
set_option linter.unusedSimpArgs false
set_option linter.constructorNameAsVariable false
namespace Go.Proofs.YtkcfcmliaonppaaGreatDoor.Ev
open Go
structure Lk where
  info? : TypeId → Option TypeInfo
  underlying : TypeId → Option TypeDesc
  fn : FuncId → Option Func
def Lk.of (P : Program) : Lk := ⟨P.info?, P.underlying, fun f => P.funcs[f]?⟩
namespace K
section
variable (P : Lk) (ng : Nat)
def aload (h : AH) (t : TypeId) : AV → Option AV
  | .ptr k off =>
    match h.get k with
    | some (.cells _ cs) =>
      match P.underlying t with
      | some (.struct _) | some (.array _ _) =>
        match P.info? t with
        | some i => let l := (cs.drop off).take i.size; bif Nat.beq l.length i.size then some (.agg l) else none
        | none => none
      | some _ => cs[off]?
      | none => none
    | _ => none
  | _ => none
def apart (t : TypeId) (cs : List AV) (off : Nat) : Option AV :=
  match P.underlying t with
  | some (.struct _) | some (.array _ _) =>
    match P.info? t with
    | some i => some (.agg ((cs.drop off).take i.size))
    | none => none
  | some _ => cs[off]?
  | none => none
def zeroCells (t : TypeId) : Option (List AV) :=
  match P.info? t with
  | some i =>
    match i.zero with
    | some (.agg cs) => some (cs.toList.map AV.ofAtom)
    | some v => bif (AV.ofAtom v).one then some [AV.ofAtom v] else none
    | none => none
  | none => none
def sizeOf? (t : TypeId) : Option Nat := (P.info? t).map (·.size)
def fieldPl (fields : Array Field) (i : Nat) : Option (Nat × Nat) :=
  match fields[i]? with
  | some f => (sizeOf? P f.type).map fun s => (f.offset, s)
  | none => none
def abuild (T : Operand → AV) (t : TypeId) (parts : Array (Nat × Operand)) : Option AV :=
  match zeroCells P t, P.underlying t with
  | some zero, some (.struct fields) =>
    bif fields.toList.all (fun f => (sizeOf? P f.type).isSome) then
    (afill (fieldPl P fields) zero (parts.toList.map fun p => (p.1, T p.2))).map .agg
    else none
  | some zero, some (.array _ elem) =>
    match sizeOf? P elem with
    | some s => (afill (fun i => some (i * s, s)) zero (parts.toList.map fun p => (p.1, T p.2))).map .agg
    | none => none
  | _, _ => none
def abin (op : BinOp) (t : TypeId) (x y : AV) : Option AV :=
  match x, y with
  | .int j a, .int k b => match semVal (Go.binOp op t (.int j a) (.int k b)) with
    | some (.int k n) => some (.int k n)
    | some (.bool b) => some (.bool b)
    | _ => none
  | .str a, .str b =>
    match op with
    | .add => bif Nat.ble (a.length + b.length) 1000000 then some (.str (a ++ b)) else none
    | .eql => some (.bool (natsBeq a b))
    | .neq => some (.bool (!natsBeq a b))
    | .lss => some (.bool (bytesLess a b))
    | .leq => some (.bool (bytesLess a b || natsBeq a b))
    | .gtr => some (.bool (!(bytesLess a b || natsBeq a b)))
    | .geq => some (.bool (!bytesLess a b))
    | _ => none
  | .bool a, .bool b =>
    match op, P.underlying t with
    | .eql, some .bool => some (.bool (boolBeq a b))
    | .neq, some .bool => some (.bool (!boolBeq a b))
    | _, _ => none
  | x, .lit v =>
    match P.underlying t with
    | none => none
    | some d => nilOp op (nilEq d x v)
  | _, _ => none
def abinop (T : Operand → AV) (op : BinOp) (t : TypeId) (x y : Operand) : Option AV :=
  match T x, T y with
  | .lit .nilIface, .lit .nilIface =>
    match P.underlying t with
    | some (.interface _) => bif isConst x || isConst y then (match op with | .eql => some (.bool true) | .neq => some (.bool false) | _ => none) else none
    | _ => none
  | .agg _, .agg _ => none
  | a, b => abin P op t a b
def abinopH (h : AH) (T : Operand → AV) (op : BinOp) (t : TypeId) (x y : Operand) : Option AV :=
  match T x, T y with
  | .ptr k o, .ptr k' o' => match P.underlying t with
    | some (.pointer e) => match sizeOf? P e with
      | some (_ + 1) => nilOp op (ptrSame h k o k' o')
      | _ => none
    | _ => none
  | _, _ => abinop P T op t x y
def aslice (t : TypeId) (x : AV) (low high max : Option AV) : Option AV :=
  match P.underlying t, x with
  | some .string, .str s =>
    match max with
    | some _ => none
    | none => match abounds s.length (some s.length) low high none with
      | some (l, h, _) => some (.str ((s.take h).drop l))
      | none => none
  | some (.slice elem), .slice k off len cap =>
    match sizeOf? P elem, abounds len cap.opt low high max with
    | some size, some (l, h, m) =>
      -- the model keeps the address where nothing is left: told only if the room is known, or surely more
      match m, cap with
      | some c, _ => some (.slice k (bif Nat.beq c l then off else off + l * size) (h - l) (.is (c - l)))
      | none, .room sz => bif Nat.beq size sz && (Nat.blt l h || Nat.beq l 0) then some (.slice k (off + l * size) (h - l) (.room sz)) else bif Nat.beq l h then some (.empty none) else none
      | none, .is _ => none
    | _, _ => none
  | some (.slice elem), .empty cap =>
    match sizeOf? P elem, abounds 0 cap low high max with
    | some _, some (0, 0, m) => some (.empty m)
    | _, _ => none
  | some (.slice elem), .lit (.slice none len cap) =>
    match sizeOf? P elem, abounds len (some cap) low high max with
    | some _, some (l, h, some c) => some (.lit (.slice none (h - l) (c - l)))
    | _, _ => none
  | some (.array n elem), .ptr k off =>
    match sizeOf? P elem, abounds n (some n) low high max with
    | some size, some (l, h, some c) => some (.slice k (bif Nat.beq c l then off else off + l * size) (h - l) (.is (c - l)))
    | _, _ => none
  | _, _ => none
def aindexAddr (t : TypeId) (x i : AV) : Option AV :=
  match P.underlying t, x, natOf i with
  | some (.array len elem), .ptr k off, some n =>
    match sizeOf? P elem with
    | some s => bif Nat.blt n len then some (.ptr k (off + n * s)) else none
    | none => none
  | some (.slice elem), .slice k off len _, some n =>
    match sizeOf? P elem with
    | some s => bif Nat.blt n len then some (.ptr k (off + n * s)) else none
    | none => none
  | _, _, _ => none
def aindex (t : TypeId) (x i : AV) : Option AV :=
  match P.underlying t, x, natOf i with
  | some .string, .str s, some n => match s[n]? with | some b => some (.int .u8 (.ofNat (b % 256))) | none => none
  | some (.array len elem), .agg cs, some n =>
    match sizeOf? P elem with
    | some s => bif Nat.blt n len then apart P elem cs (n * s) else none
    | none => none
  | _, _, _ => none
def keyFits (key : TypeId) (k : AV) : Bool :=
  match P.underlying key with
  | some (.pointer e) => match sizeOf? P e, k with
    | some (_ + 1), .ptr _ _ => true
    | _, _ => false
  | some d => kfit d k
  | none => false
def alookup (h : AH) (t : TypeId) (x k : AV) (ok : Bool) : Option AV :=
  match P.underlying t with
  | some (.map key elem) =>
    bif keyFits P key k then
      match mapEs h x with
      | none => none
      | some es =>
        match afind h k es 0 with
        | none => none
        | some (some (_, v)) => some (bif ok then .tuple [v, .bool true] else v)
        | some none =>
          match P.info? elem with
          | some i => match i.zero with
            | some z => some (bif ok then .tuple [AV.ofValue z, .bool false] else AV.ofValue z)
            | none => none
          | none => none
    else none
  | _ => none
def atypeAssert (x : AV) (t : TypeId) (ok : Bool) : Option AV :=
  match P.underlying t, x with
  | some (.interface _), _ => none
  | some _, .lit .nilIface =>
    bif ok then
      match P.info? t with
      | some i => match i.zero with | some z => some (.tuple [AV.ofValue z, .bool false]) | none => none
      | none => none
    else none
  | some _, .iface u v =>
    bif Nat.beq u t then some (bif ok then .tuple [v, .bool true] else v)
    else bif ok then
      match P.info? t with
      | some i => match i.zero with | some z => some (.tuple [AV.ofValue z, .bool false]) | none => none
      | none => none
    else none
  | _, _ => none
def alen (h : AH) (t : TypeId) (x : AV) : Option Nat :=
  match P.underlying t with
  | some d => alenD h d x
  | none => none
def acap (t : TypeId) (x : AV) : Option Nat :=
  match P.underlying t with
  | some d => acapD d x
  | none => none
def aconv (h : AH) (src dst : TypeId) (x : AV) : Option AV :=
  match P.underlying src, P.underlying dst, x with
  | some _, some (.int k), .int _ n => some (.int k (k.wrap n))
  | some (.slice e), some .string, .slice k off len _ =>
    match P.underlying e, h.get k with
    | some (.int .u8), some (.cells _ cs) =>
      bif Nat.beq ((cs.drop off).take len).length len then (bytesOf ((cs.drop off).take len)).map .str else none
    | _, _ => none
  | some (.slice e), some .string, .lit (.slice none _ _) =>
    match P.underlying e with | some (.int .u8) => some (.str []) | _ => none
  | some (.slice e), some .string, .empty _ =>
    match P.underlying e with | some (.int .u8) => some (.str []) | _ => none
  | some _, some .string, .str s => some (.str s)
  | _, _, _ => none
def afieldAddr (s : TypeId) (x : AV) (f : Nat) : Option AV :=
  match P.underlying s, x with
  | some (.struct fields), .ptr k off => match fields[f]? with
    | some fd => match sizeOf? P fd.type with
      | some (_ + 1) => some (.ptr k (off + fd.offset))
      | _ => none
    | none => none
  | _, _ => none
def afield (t : TypeId) (x : AV) (f : Nat) : Option AV :=
  match P.underlying t, x with
  | some (.struct fields), .agg cs => match fields[f]? with
    | some fd => apart P fd.type cs fd.offset
    | none => none
  | _, _ => none
def aquiet (h : AH) (T : Operand → AV) : Op → Option AV
  | .move x | .assign x => some (T x)
  | .pick c a b => match T c with | .bool t => some (bif t then T a else T b) | _ => none
  | .build t parts => abuild P T t parts
  | .load t a => aload P h t (T a)
  | .nilCheck x => anilCheck (T x)
  | .binOp op t x y _ => abinopH P h T op t x y
  | .unOp op _ x => aun op (T x)
  | .convert src dst x => aconv P h src dst (T x)
  | .makeInterface t x => match P.underlying t with
    | some (.interface _) => none
    | some _ => some (.iface t (T x))
    | none => none
  | .makeFunc (.func f) first captured => some (.func f (first.toList.map T) (captured.toList.map T))
  | .slice t x lo hi mx => aslice P t (T x) (lo.map T) (hi.map T) (mx.map T)
  | .fieldAddr s x f => afieldAddr P s (T x) f
  | .field t x f => afield P t (T x) f
  | .indexAddr t x i => aindexAddr P t (T x) (T i)
  | .index t x i => aindex P t (T x) (T i)
  | .lookup t x k ok => alookup P h t (T x) (T k) ok
  | .typeAssert x _ t ok => atypeAssert P (T x) t ok
  | .extract x i => match T x with | .tuple vs => vs[i]? | _ => none
  | .entry x => aentry h (T x)
  | .call c => match c.callee with
    | .builtin .len => match c.argTypes[0]?, c.args.toList with
      | some t, [x] => (alen P h t (T x)).map fun n => .int .i64 (.ofNat n)
      | _, _ => none
    | .builtin .cap => match c.argTypes[0]?, c.args.toList with
      | some t, [x] => (acap P t (T x)).map fun n => .int .i64 (.ofNat n)
      | _, _ => none
    | .builtin .min => aminmax false (c.args.toList.map T)
    | .builtin .max => aminmax true (c.args.toList.map T)
    | _ => none
  | _ => none
def zeros (elem : TypeId) (size n : Nat) : Option (List AV) :=
  bif Nat.beq (n * size) 0 then some [] else
    match zeroCells P elem with
    | some z => bif Nat.beq z.length size then some (repl n z) else none
    | none => none
def aalloc (T : Operand → AV) : Op → Option (ABlock × Mk)
  | .alloc t => (zeroCells P t).map fun cs => (.cells false cs, .ptr)
  | .box _ x => (T x).cells.map fun cs => (.cells false cs, .ptr)
  | .buildSlice t len parts => match P.underlying t with
    | some (.slice elem) => match sizeOf? P elem with
      | some size =>
        bif Nat.ble (len * size) 1000000 then
          match zeros P elem size len with
          | some zero => (afill (fun i => some (i * size, size)) zero (parts.toList.map fun p => (p.1, T p.2))).map fun cs => (.cells false cs, .slice len (.is len))
          | none => none
        else none
      | none => none
    | _ => none
  | .makeSlice t l c => match P.underlying t, natOf (T l), natOf (T c) with
    | some (.slice elem), some l, some c => match P.info? elem with
      | some i =>
        bif Nat.ble l c && Nat.ble c 1000000 && Nat.ble i.bytes 1000000 then
          (zeros P elem i.size c).map fun cs => (.cells false cs, .slice l (.is c))
        else bif Nat.ble l c && Nat.ble c 1000000000 && Nat.ble i.bytes 1000 && Nat.ble 1 i.size then
          -- too long to be written out: a block of which nothing is known
          (zeros P elem i.size 1).map fun _ => (.cells false [], .slice l (.is c))
        else none
      | none => none
    | _, _, _ => none
  | .convert src dst x => match P.underlying src, P.underlying dst, T x with
    | some .string, some (.slice e), .str s => match P.underlying e with
      | some (.int .u8) => some (.cells false (s.map fun b => .int .u8 (.ofNat (b % 256))), .slice s.length (.room 1))
      | _ => none
    | _, _, _ => none
  | .makeMap _ none => some (.map [] 0, .map)
  | _ => none
def isEff : Op → Bool
  | .assign _ => true
  | .store .. | .mapUpdate .. | .insert .. | .mapEntry .. | .entryStore .. | .range .. | .next .. | .go _ | .defer _ | .panic _ | .send .. | .recv .. | .select .. | .ready _ => true
  | .convert s d _ => match P.underlying s, P.underlying d with
    | some (.slice _), some (.slice _) => true
    | _, _ => false
  | .call c => match c.callee with
    | .builtin .len | .builtin .cap | .builtin .min | .builtin .max => false
    | _ => true
  | _ => false
def isAlloc : Op → Bool
  | .alloc _ | .box .. | .buildSlice .. | .makeSlice .. | .makeMap .. => true
  | .convert s d _ => match P.underlying s, P.underlying d with
    | some .string, some (.slice _) => true
    | _, _ => false
  | _ => false
def rdsts (eff : Bool) : List Oper → Nat → List (Nat × Nat)
  | [], _ => []
  | o :: l, i => match o.dst with
    | some d => bif boolBeq (isEff P o.op) eff then (d, i) :: rdsts eff l (i + 1) else rdsts eff l (i + 1)
    | none => rdsts eff l (i + 1)
def rcheck (ops : Array Oper) : Bool :=
  nodupB (rdsts P false ops.toList 0) && (rdsts P true ops.toList 0).all (fun p => (rdsts P false ops.toList 0).all fun q => !(Nat.beq p.1 q.1)) &&
  rcheckGo ops (rdsts P false ops.toList 0) ops.toList 0
def effs : List Oper → Nat → List Nat
  | [], _ => []
  | o :: l, i => bif isEff P o.op then i :: effs l (i + 1) else effs l (i + 1)
def passOne (ops : Array Oper) (em dm um nt : Nat) : List Oper → Nat → Nat → Tr AV → AH → Option (Nat × Tr AV × AH)
  | [], _, ed, T, h => some (ed, T, h)
  | o :: l, i, ed, T, h =>
    bif isEff P o.op || has ed i || !inWindow ops em dm um i then passOne ops em dm um nt l (i + 1) ed T h else
    match awanted ops T o with
    | none => none
    | some false => passOne ops em dm um nt l (i + 1) (Nat.lor ed (2 ^ i)) (putT nt T o.dst undefA) h
    | some true =>
      match aalloc P (ev ng T) o.op with
      | some (b, mk) => passOne ops em dm um nt l (i + 1) (Nat.lor ed (2 ^ i)) (putT nt T o.dst (mk.av h.next)) (h.new b)
      | none =>
        match aquiet P h (ev ng T) o.op with
        | some v => passOne ops em dm um nt l (i + 1) (Nat.lor ed (2 ^ i)) (putT nt T o.dst v) h
        | none => none
def passTwo (ops : Array Oper) (em dm um nt : Nat) (T : Tr AV) (h : AH) : List Oper → Nat → Bool
  | [], _ => true
  | o :: l, i =>
    (bif isEff P o.op || !inWindow ops em dm um i then true else
      match awanted ops T o, o.dst with
      | some false, some d => Nat.blt d nt && (match T.get d with | some (.tuple []) => true | _ => false)
      | some true, some d => Nat.blt d nt &&
        match T.get d with
        | none => false
        | some v =>
          match aalloc P (ev ng T) o.op with
          | some (b, mk) => match mk.of v with
            | some k => match h.get k with | some b' => b.beq b' | none => false
            | none => false
          | none => match aquiet P h (ev ng T) o.op with
            | some v' => v'.beq v
            | none => false
      | _, _ => false) && passTwo ops em dm um nt T h l (i + 1)
def AFrame.finish (fr : AFrame) (v : AV) : Option AFrame :=
  match fr.todo with
  | .reg ops i (o :: rest) :: k => some { fr with tmps := putT fr.nt fr.tmps o.dst v, todo := .reg ops (i + 1) rest :: k }
  | .drw ops dm um ed true :: k =>
    match nextEff ops dm (effs P ops.toList 0) with
    | some i => match ops[i]? with
      | some o => some { fr with tmps := putT fr.nt fr.tmps o.dst v, todo := .drw ops (Nat.lor dm (2 ^ i)) (Nat.lor um (maskOf ops i)) ed false :: k }
      | none => none
    | none => none
  | .rangeF l :: k => some { fr with todo := .endF l :: k }
  | _ => none
def AFrame.enter (f : FuncId) (args : List AV) (dfd : Bool) : Option AFrame :=
  match P.fn f with
  | some fn => match fn.body with
    | some c => bif fn.name == "runtime.NumGoroutine" then none else
      let nt := args.length + (fn.ntmps - args.length)
      some { fn := f, nt, tmps := argsT nt args 0 .l, todo := [.code c], defers := [], ret := false, dfd, round := none }
    | none => none
  | none => none
def push (m : AM) (f : FuncId) (args : List AV) : Option AM :=
  match AFrame.enter P f args false with
  | some fr => some { m with fr, cs := m.fr :: m.cs }
  | none => none
def AM.done (m : AM) (v : AV) (h : AH) : Option AM :=
  match AFrame.finish P m.fr v with
  | some fr => some { m with fr, h }
  | none => none
def astore (h : AH) (t : TypeId) (a v : AV) : Option AH :=
  match a, v.cells, sizeOf? P t with
  | .ptr k off, some vs, some n =>
    bif Nat.beq vs.length n && vs.all AV.one then
      match h.get k with
      | some (.cells false cs) => (putCells cs off vs).map fun cs' => h.put k (.cells false cs')
      | _ => none
    else none
  | _, _, _ => none
def amapUpdate (h : AH) (t : TypeId) (m k v : AV) : Option AH :=
  match P.underlying t, m with
  | some (.map key _), .map r =>
    bif keyFits P key k then
      match h.get r with
      | some (.map es clock) =>
        match afind h k es 0 with
        | some (some (i, _)) => some (h.put r (.map (setEntry es i k v) clock))
        | some none => some (h.put r (.map (es ++ [(k, v, clock)]) (clock + 1)))
        | none => none
      | _ => none
    else none
  | _, _ => none
def arange (h : AH) (t : TypeId) (x : AV) : Option ABlock :=
  match P.underlying t, x with
  | some .string, .str s => some (.strIter s 0)
  | some (.map _ _), .map m => match h.get m with
    | some (.map _ clock) => some (.mapIter m clock [] clock)
    | _ => none
  | _, _ => none
def anew (h : AH) (elem : TypeId) (size bytes : Nat) (xd : TypeDesc) (x : AV) : Option (Nat × List AV) :=
  match xd with
  | .int _ => match natOf x with
    | some n => bif Nat.ble n 1000000 then (zeros P elem size n).map fun l => (n, l) else none
    | none => none
  | _ => appended h size x
def aappend (h : AH) (argTypes : Array TypeId) (s x : AV) : Option (AV × AH) :=
  match argTypes[0]?, argTypes[1]? with
  | some sType, some xType =>
    match P.underlying sType, P.underlying xType with
    | some (.slice elem), some xd =>
      match P.info? elem, zeroCells P elem with
      | some info, some z =>
        match anew P h elem info.size info.bytes xd x with
        | none => none
        | some (n, vs) =>
          bif Nat.ble info.bytes 1000000 && Nat.ble n 1000000 && Nat.beq z.length info.size && vs.all AV.one then aappendTo h info.size s n vs else none
      | _, _ => none
    | _, _ => none
  | _, _ => none
def acopy (h : AH) (t : TypeId) (d s : AV) : Option (Nat × AH) :=
  match P.underlying t with
  | some (.slice elem) => match sizeOf? P elem, aLen s, aLen d with
    | some size, some ls, some ld =>
      bif Nat.beq (Nat.min ls ld) 0 then
        match d with
        | .str _ => none
        | _ => some (0, h)
      else match d with
        | .slice k off _ _ => match firstN h size (Nat.min ls ld) s, h.get k with
          | some vs, some (.cells false cs) => match putCells cs off vs with
            | some cs' => some (Nat.min ls ld, h.put k (.cells false cs'))
            | none => none
          | _, _ => none
        | _ => none
    | _, _, _ => none
  | _ => none
def adelete (h : AH) (t : TypeId) (m k : AV) : Option AH :=
  match P.underlying t, m with
  | some (.map key _), .map r =>
    bif keyFits P key k then
      match h.get r with
      | some (.map es clock) =>
        match afind h k es 0 with
        | some (some (i, _)) => some (h.put r (.map (es.eraseIdx i) clock))
        | some none => some (h.put r (.map es clock))
        | none => none
      | _ => none
    else none
  | _, _ => none
def aextern (h : AH) (f : FuncId) (args : List AV) : Option (AV × AH) :=
  match P.fn f, args with
  | some fn, [.str s, .int .u8 (.ofNat c)] =>
    bif fn.body.isNone && fn.name == "internal/bytealg.IndexByteString" && fn.origin == "" && Nat.blt c 256 then
      match idxByte c s 0 with
      | some i => some (.int .i64 (.ofNat i), h)
      | none => some (.int .i64 (.negSucc 0), h)
    else none
  | some fn, [.iface t (.map k)] =>
    bif fn.body.isNone && fn.name == "maps.clone" && fn.origin == "" then
      match h.get k with
      | some (.map es clock) => some (.iface t (.map h.next), h.new (.map es clock))
      | _ => none
    else none
  | _, _ => none
def aclear (h : AH) (t : TypeId) (x : AV) : Option AH :=
  match P.underlying t, x with
  | some (.slice elem), .slice k off n _ =>
    bif Nat.beq n 0 then some h else
    match zeroCells P elem, sizeOf? P elem, h.get k with
    | some z, some size, some (.cells false cs) =>
      bif Nat.beq z.length size && Nat.ble 1 size && (repl n z).all AV.one then (putCells cs off (repl n z)).map fun cs' => h.put k (.cells false cs') else none
    | _, _, _ => none
  | some (.slice _), .lit (.slice none _ _) => some h
  | some (.slice _), .empty _ => some h
  | _, _ => none
def APlace.get (h : AH) (t : TypeId) : APlace → Option AV
  | .val v => some v
  | .var k off => aload P h t (.ptr k off)
def afollow (h : AH) : List FieldStep → TypeId → APlace → Option (TypeId × APlace)
  | [], t, x => some (t, x)
  | s :: rest, t, x =>
    match P.underlying s.struct with
    | some (.struct fields) => match fields[s.index]? with
      | some f => match sizeOf? P f.type with
        | some (_ + 1) =>
          bif s.deref then
            match APlace.get P h t x with
            | some (.ptr k off) => afollow h rest f.type (.var k (off + f.offset))
            | _ => none
          else match x with
            | .var k off => afollow h rest f.type (.var k (off + f.offset))
            | .val (.agg cs) => match apart P f.type cs f.offset with
              | some v => afollow h rest f.type (.val v)
              | none => none
            | .val _ => none
        | _ => none
      | none => none
    | _ => none
def areceiver (h : AH) (xt : TypeId) (x : APlace) (ptr whole : Bool) : Option AV :=
  match P.underlying xt, ptr, x with
  | some (.pointer _), true, x => APlace.get P h xt x
  | some (.pointer elem), false, x => bif whole then none else
    match APlace.get P h xt x with
    | some (.ptr k off) => aload P h elem (.ptr k off)
    | _ => none
  | some _, true, .var k off => some (.ptr k off)
  | some _, true, .val _ => none
  | some _, false, x => APlace.get P h xt x
  | none, _, _ => none
def amethod (h : AH) : Nat → TypeId → AV → String → Option (FuncId × AV)
  | 0, _, _, _ => none
  | fuel + 1, t, v, name =>
    match P.info? t with
    | some i => match i.methods.find? (·.name == name) with
      | some m => match afollow P h m.path.toList t (.val v) with
        | some (xt, x) =>
          match m.func with
          | none => match APlace.get P h xt x with
            | some (.iface t' v') => amethod h fuel t' v' name
            | _ => none
          | some (f, ptr) => match areceiver P h xt x ptr m.path.isEmpty with
            | some v => some (f, v)
            | none => none
        | none => none
      | none => none
    | none => none
def aeff (m : AM) (o : Oper) : Option AM :=
  let T := ev ng m.fr.tmps
  match o.op with
  | .assign x => AM.done P m (T x) m.h
  | .store t a x => match astore P m.h t (T a) (T x) with
    | some h => AM.done P m undefA h
    | none => none
  | .mapUpdate t r k x => match amapUpdate P m.h t (T r) (T k) (T x) with
    | some h => AM.done P m undefA h
    | none => none
  | .range t x => match arange P m.h t (T x) with
    | some b => AM.done P m (.ptr m.h.next 0) (m.h.new b)
    | none => none
  | .next x false => match anext m.h (T x) with
    | some (v, h) => AM.done P m v h
    | none => none
  | .convert src dst x => match P.underlying src, P.underlying dst, T x with
    | some (.slice _), some (.slice e), .slice k off len cap => bif Nat.beq src dst then
        match P.underlying e, m.h.get k with
        | some (.int .u8), some (.cells false cs) => bif cs.all isU8A then AM.done P m (.slice k off len cap) m.h else none
        | _, _ => none
      else none
    | _, _, _ => none
  | .defer c => match m.fr.round, c.callee with
    | none, .value f => match T f with
      | .func f first cap => match AFrame.finish P { m.fr with defers := .call f cap (first ++ c.args.toList.map T) :: m.fr.defers } undefA with
        | some fr => some { m with fr }
        | none => none
      | _ => none
    | _, _ => none
  | .call c => match c.callee with
    | .value f => match T f with
      | .func f first cap => match push P m f (first ++ c.args.toList.map T ++ cap) with
        | some m' => some m'
        | none => match aextern P m.h f (first ++ c.args.toList.map T ++ cap) with
          | some (v, h) => AM.done P m v h
          | none => none
      | .yield l => match m.h.get l with
        | some (.loop r) => match roundFrame l r (c.args.toList.map T) with
          | some fr => some { m with fr, cs := m.fr :: m.cs }
          | none => none
        | _ => none
      | _ => none
    | .invoke r name => match T r with
      | .iface t v => match amethod P m.h 8 t v name with
        | some (f, x) => push P m f (x :: c.args.toList.map T)
        | none => none
      | _ => none
    | .builtin .append => match c.args.toList with
      | [s, x] => match aappend P m.h c.argTypes (T s) (T x) with
        | some (v, h) => AM.done P m v h
        | none => none
      | _ => none
    | .builtin .copy => match c.argTypes[0]?, c.args.toList with
      | some t, [d, s] => match acopy P m.h t (T d) (T s) with
        | some (n, h) => AM.done P m (.int .i64 (.ofNat n)) h
        | none => none
      | _, _ => none
    | .builtin .delete => match c.argTypes[0]?, c.args.toList with
      | some t, [x, k] => match adelete P m.h t (T x) (T k) with
        | some h => AM.done P m undefA h
        | none => none
      | _, _ => none
    | .builtin .clear => match c.argTypes[0]?, c.args.toList with
      | some t, [x] => match aclear P m.h t (T x) with
        | some h => AM.done P m undefA h
        | none => none
      | _, _ => none
    | .builtin .recover => match m.fr.round, m.fr.dfd, m.cs with
      | none, true, c :: _ => bif c.ret then AM.done P m (.lit .nilIface) m.h else none
      | none, false, _ => AM.done P m (.lit .nilIface) m.h
      | _, _, _ => none
    | _ => none
  | _ => none
def aexec (m : AM) (o : Oper) : Option AM :=
  let T := ev ng m.fr.tmps
  match aquiet P m.h T o.op with
  | some v => AM.done P m v m.h
  | none => match aalloc P T o.op with
    | some (b, mk) => AM.done P m (mk.av m.h.next) (m.h.new b)
    | none => aeff P ng m o
def giveBack (m : AM) (v : AV) (h : AH) : Option AM :=
  match m.cs with
  | c :: cs => match AFrame.finish P c v with
    | some fr => some { fr, cs, h }
    | none => none
  | [] => none
def aleave (m : AM) (jump : Option Code) : Option AM :=
  match m.fr.round with
  | none => match jump with
    | none | some .ret => some { m with fr := { m.fr with ret := true } }
    | _ => none
  | some l => match m.h.get l with
    | some (.loop r) =>
      bif m.fr.dfd then none else
      giveBack P m (.bool (match jump with | none => true | some _ => false))
        (m.h.put l (.loop { r with state := match jump with | none => .ready | some _ => .done, pending := jump }))
    | _ => none
def aresults (h : AH) (T : Tr AV) : List ResultVar → Option (List AV)
  | [] => some []
  | .tmp t :: l => match aresults h T l with
    | some vs => some ((T.get t).getD .any :: vs)
    | none => none
  | .cell a t :: l => match aload P h t ((T.get a).getD .any), aresults h T l with
    | some v, some vs => some (v :: vs)
    | _, _ => none
def areturn (m : AM) : Option AM :=
  bif !plainTop m.fr.todo then none else
  match m.fr.defers with
  | .collected k :: ds => match m.h.get k with
    | some (.deferred l) => some { m with fr := { m.fr with defers := l ++ ds }, h := m.h.kill k }
    | _ => none
  | .call f cap args :: ds =>
    match AFrame.enter P f (args ++ cap) true with
    | some fr => some { m with fr, cs := { m.fr with defers := ds } :: m.cs }
    | none => none
  | [] =>
    match P.fn m.fr.fn with
    | some fn => match aresults P m.h m.fr.tmps fn.results.toList with
      | some vs =>
        bif m.fr.dfd then
          match m.cs with
          | c :: cs => bif c.ret && plainTop c.todo then some { fr := c, cs, h := m.h } else none
          | [] => none
        else giveBack P m (tupled vs) m.h
      | none => none
    | none => none
def astepCode (m : AM) (k : List AItem) : Code → Option AM
  | .skip | .label _ => some (m.to k)
  | .seq a b => some (m.to (.code a :: .code b :: k))
  | .cond c thn els => match ev ng m.fr.tmps c with
    | .bool b => some (m.to (.code (bif b then thn else els) :: k))
    | _ => none
  | .block id body => some (m.to (.code body :: .inBlock id :: k))
  | .loop body => some (m.to (.code body :: .inLoop body :: k))
  | .scope body => some (m.to (.code body :: .inScope body :: k))
  | .exit id => match aexitTo id k with
    | some k' => some (m.to k')
    | none => aleave P m (some (.exit id))
  | .goto l => match agotoIn l k with
    | some k' => some (m.to k')
    | none => aleave P m (some (.goto l))
  | .ret => aleave P m (some .ret)
  | .region _ ops draw => bif draw then (bif rcheck P ops then some (m.to (.drw ops 0 0 0 false :: k)) else none) else some (m.to (.reg ops 0 ops.toList :: k))
  | .rangeFunc f ps assign body =>
    match ev ng m.fr.tmps f, aenterLoop m ps assign body with
    | .func g first cap, some (l, mark, h) =>
      match AFrame.enter P g (first ++ [.yield l] ++ cap) false with
      | some fr => some { fr, cs := { m.fr with todo := .rangeF l :: k, defers := mark ++ m.fr.defers } :: m.cs, h }
      | none => none
    | _, _ => none
  | .refuse _ => none
def astep (m : AM) : Option AM :=
  bif m.fr.ret then areturn P m else
  match m.fr.todo with
  | [] => aleave P m none
  | .code c :: k => astepCode P ng m k c
  | .inBlock _ :: k => some (m.to k)
  | .inScope _ :: k => some (m.to k)
  | .inLoop body :: k => some (m.to (.code body :: .inLoop body :: k))
  | .reg _ _ [] :: k => some (m.to k)
  | .reg ops _ (o :: _) :: _ => match awanted ops m.fr.tmps o with
    | some true => aexec P ng m o
    | some false => AM.done P m undefA m.h
    | none => none
  | .drw ops dm um ed false :: k =>
    match passOne P ng ops (effMask (effs P ops.toList 0)) dm um m.fr.nt ops.toList 0 ed m.fr.tmps m.h with
    | some (ed', T, h) =>
      bif passTwo P ng ops (effMask (effs P ops.toList 0)) dm um m.fr.nt T h ops.toList 0 then
        some { m with fr := { m.fr with tmps := T, todo := .drw ops dm um ed' true :: k }, h }
      else none
    | none => none
  | .drw ops dm um ed true :: k =>
    match nextEff ops dm (effs P ops.toList 0) with
    | some i => match ops[i]? with
      | some o => match awanted ops m.fr.tmps o with
        | some true => aeff P ng m o
        | some false => AM.done P m undefA m.h
        | none => none
      | none => none
    | none => bif Nat.beq (Nat.lor (effMask (effs P ops.toList 0)) dm) dm then some (m.to k) else none
  | .rangeF _ :: _ => none
  | .endF l :: k => match m.h.get l with
    | some (.loop r) =>
      match r.state with
      | .busy => none
      | _ => some { m with fr := { m.fr with todo := (r.pending.map AItem.code).toList ++ k }, h := m.h.put l (.loop { r with state := .exhausted }) }
    | _ => none
  | .beginRound :: k => match m.fr.round with
    | some l => match m.h.get l with
      | some (.loop r) => match r.state with
        | .ready => some { m with fr := { m.fr with todo := k }, h := m.h.put l (.loop { r with state := .busy }) }
        | _ => none
      | _ => none
    | none => none
def arun : Nat → AM → Option AM
  | 0, m => some m
  | n + 1, m => match astep P ng m with
    | some m' => arun n m'
    | none => none
def adones (m : AM) : List (AV × AH) → Option (List AM)
  | [] => some []
  | p :: l => match AM.done P m p.1 p.2, adones m l with
    | some m', some ms => some (m' :: ms)
    | _, _ => none
def aforks (m : AM) : Option (List AM) :=
  bif m.fr.ret then none else
  match m.fr.todo with
  | .reg ops _ (o :: _) :: _ => match awanted ops m.fr.tmps o with
    | some true => match o.op with
      | .next x false => match anexts m.h (ev ng m.fr.tmps x) with
        | some l => adones P m l
        | none => none
      | _ => none
    | _ => none
  | _ => none
def asum (S : AH → FuncId → List AV → Option AV) (m : AM) : Option AM :=
  bif m.fr.ret then none else
  match m.fr.todo with
  | .reg ops _ (o :: _) :: _ => match awanted ops m.fr.tmps o with
    | some true => match o.op with
      | .call c => match c.callee with
        | .value g => match ev ng m.fr.tmps g with
          | .func f first [] => match S m.h f (first ++ c.args.toList.map (ev ng m.fr.tmps)) with
            | some v => AM.done P m v m.h
            | none => none
          | _ => none
        | _ => none
      | _ => none
    | _ => none
  | _ => none
def catcher : List AFrame → Option (AFrame × List AFrame)
  | [] => none
  | c :: cs => match c.defers with
    | [] => match P.fn c.fn with
      | some _ => catcher cs
      | none => none
    | _ :: _ => some (c, cs)
def arecover (m : AM) (v : AV) : Option AM :=
  bif m.fr.ret || !m.fr.dfd then none else
  match m.fr.todo, m.cs, m.fr.round with
  | .reg ops _ (o :: _) :: _, [], none => match awanted ops m.fr.tmps o with
    | some true => match o.op with
      | .call c => match c.callee with
        | .builtin .recover => AM.done P m v m.h
        | _ => none
      | _ => none
    | _ => none
  | _, _, _ => none
def acaught (c b : AFrame) (B : List AFrame) (m : AM) : Option AM :=
  match m.cs, m.fr.defers with
  | [], [] =>
    bif m.fr.ret && m.fr.dfd && plainTop m.fr.todo then
      match P.fn m.fr.fn, P.fn c.fn with
      | some gn, some fn => match aresults P m.h m.fr.tmps gn.results.toList, aresults P m.h c.tmps fn.results.toList with
        | some _, some vs => match AFrame.finish P b (tupled vs) with
          | some fr => some { fr, cs := B, h := m.h }
          | none => none
        | _, _ => none
      | _, _ => none
    else none
  | _, _ => none
def araise (m : AM) : Option (AV × AFrame × AFrame × List AFrame × AM) :=
  bif m.fr.ret then none else
  match m.fr.todo, m.fr.defers, P.fn m.fr.fn with
  | .reg ops _ (o :: _) :: _, [], some _ => match awanted ops m.fr.tmps o with
    | some true => match o.op with
      | .panic x => match ev ng m.fr.tmps x with
        | .iface t v => match catcher P m.cs with
          | some (c, b :: B) => match c.todo, c.defers with
            | .reg .. :: _, [.call g cap args] =>
              bif c.dfd then none else
              match AFrame.enter P g (args ++ cap) true with
              | some fr => some (.iface t v, c, b, B, { fr, cs := [], h := m.h })
              | none => none
            | _, _ => none
          | _ => none
        | _ => none
      | _ => none
    | _ => none
  | _, _, _ => none
def apanic (n1 n2 : Nat) (m : AM) : Option AM :=
  match araise P ng m with
  | some (v, c, b, B, m1) => match arun P ng n1 m1 with
    | some m2 => match arecover P m2 v with
      | some m3 => match arun P ng n2 m3 with
        | some m4 => acaught P c b B m4
        | none => none
      | none => none
    | none => none
  | none => none
def scr (S : AH → FuncId → List AV → Option AV) : Sc → List AM → Option (List AM)
  | .stop, [m] => some [m]
  | .go n s, [m] => match arun P ng n m with
    | some m' => scr S s [m']
    | none => none
  | .fork s, [m] => match aforks P ng m with
    | some ms => scr S s ms
    | none => none
  | .sum s, [m] => match asum P ng S m with
    | some m' => scr S s [m']
    | none => none
  | .alt a b, m :: ms => match scr S a [m], scr S b ms with
    | some l, some r => some (l ++ r)
    | _, _ => none
  | .nil, [] => some []
  | _, _ => none
end
theorem aload_eq {P : Program} : K.aload (Lk.of P) = Ev.aload P := by kernel_rfl
theorem apart_eq {P : Program} : K.apart (Lk.of P) = Ev.apart P := by kernel_rfl
theorem zeroCells_eq {P : Program} : K.zeroCells (Lk.of P) = Ev.zeroCells P := by kernel_rfl
theorem sizeOf?_eq {P : Program} : K.sizeOf? (Lk.of P) = Ev.sizeOf? P := by kernel_rfl
theorem fieldPl_eq {P : Program} : K.fieldPl (Lk.of P) = Ev.fieldPl P := by kernel_rfl
theorem abuild_eq {P : Program} : K.abuild (Lk.of P) = Ev.abuild P := by kernel_rfl
theorem abin_eq {P : Program} : K.abin (Lk.of P) = Ev.abin P := by kernel_rfl
theorem abinop_eq {P : Program} : K.abinop (Lk.of P) = Ev.abinop P := by kernel_rfl
theorem abinopH_eq {P : Program} : K.abinopH (Lk.of P) = Ev.abinopH P := by kernel_rfl
theorem aslice_eq {P : Program} : K.aslice (Lk.of P) = Ev.aslice P := by kernel_rfl
theorem aindexAddr_eq {P : Program} : K.aindexAddr (Lk.of P) = Ev.aindexAddr P := by kernel_rfl
theorem aindex_eq {P : Program} : K.aindex (Lk.of P) = Ev.aindex P := by kernel_rfl
theorem keyFits_eq {P : Program} : K.keyFits (Lk.of P) = Ev.keyFits P := by kernel_rfl
theorem alookup_eq {P : Program} : K.alookup (Lk.of P) = Ev.alookup P := by kernel_rfl
theorem atypeAssert_eq {P : Program} : K.atypeAssert (Lk.of P) = Ev.atypeAssert P := by kernel_rfl
theorem alen_eq {P : Program} : K.alen (Lk.of P) = Ev.alen P := by kernel_rfl
theorem acap_eq {P : Program} : K.acap (Lk.of P) = Ev.acap P := by kernel_rfl
theorem aconv_eq {P : Program} : K.aconv (Lk.of P) = Ev.aconv P := by kernel_rfl
theorem afieldAddr_eq {P : Program} : K.afieldAddr (Lk.of P) = Ev.afieldAddr P := by kernel_rfl
theorem afield_eq {P : Program} : K.afield (Lk.of P) = Ev.afield P := by kernel_rfl
theorem aquiet_eq {P : Program} : K.aquiet (Lk.of P) = Ev.aquiet P := by kernel_rfl
theorem zeros_eq {P : Program} : K.zeros (Lk.of P) = Ev.zeros P := by kernel_rfl
theorem aalloc_eq {P : Program} : K.aalloc (Lk.of P) = Ev.aalloc P := by kernel_rfl
theorem isEff_eq {P : Program} : K.isEff (Lk.of P) = Ev.isEff P := by kernel_rfl
theorem isAlloc_eq {P : Program} : K.isAlloc (Lk.of P) = Ev.isAlloc P := by kernel_rfl
theorem rdsts_eq {P : Program} : K.rdsts (Lk.of P) = Ev.rdsts P := by kernel_rfl
theorem rcheck_eq {P : Program} : K.rcheck (Lk.of P) = Ev.rcheck P := by kernel_rfl
theorem effs_eq {P : Program} : K.effs (Lk.of P) = Ev.effs P := by kernel_rfl
theorem passOne_eq {P : Program} {ng : Nat} : K.passOne (Lk.of P) ng = Ev.passOne P ng := by kernel_rfl
theorem passTwo_eq {P : Program} {ng : Nat} : K.passTwo (Lk.of P) ng = Ev.passTwo P ng := by kernel_rfl
theorem AFrame_finish_eq {P : Program} : K.AFrame.finish (Lk.of P) = Ev.AFrame.finish P := by kernel_rfl
theorem AFrame_enter_eq {P : Program} : K.AFrame.enter (Lk.of P) = Ev.AFrame.enter P := by kernel_rfl
theorem push_eq {P : Program} : K.push (Lk.of P) = Ev.push P := by kernel_rfl
theorem AM_done_eq {P : Program} : K.AM.done (Lk.of P) = Ev.AM.done P := by kernel_rfl
theorem astore_eq {P : Program} : K.astore (Lk.of P) = Ev.astore P := by kernel_rfl
theorem amapUpdate_eq {P : Program} : K.amapUpdate (Lk.of P) = Ev.amapUpdate P := by kernel_rfl
theorem arange_eq {P : Program} : K.arange (Lk.of P) = Ev.arange P := by kernel_rfl
theorem anew_eq {P : Program} : K.anew (Lk.of P) = Ev.anew P := by kernel_rfl
theorem aappend_eq {P : Program} : K.aappend (Lk.of P) = Ev.aappend P := by kernel_rfl
theorem acopy_eq {P : Program} : K.acopy (Lk.of P) = Ev.acopy P := by kernel_rfl
theorem adelete_eq {P : Program} : K.adelete (Lk.of P) = Ev.adelete P := by kernel_rfl
theorem aextern_eq {P : Program} : K.aextern (Lk.of P) = Ev.aextern P := by kernel_rfl
theorem aclear_eq {P : Program} : K.aclear (Lk.of P) = Ev.aclear P := by kernel_rfl
theorem APlace_get_eq {P : Program} : K.APlace.get (Lk.of P) = Ev.APlace.get P := by kernel_rfl
theorem afollow_eq {P : Program} : K.afollow (Lk.of P) = Ev.afollow P := by kernel_rfl
theorem areceiver_eq {P : Program} : K.areceiver (Lk.of P) = Ev.areceiver P := by kernel_rfl
theorem amethod_eq {P : Program} : K.amethod (Lk.of P) = Ev.amethod P := by kernel_rfl
theorem aeff_eq {P : Program} {ng : Nat} : K.aeff (Lk.of P) ng = Ev.aeff P ng := by kernel_rfl
theorem aexec_eq {P : Program} {ng : Nat} : K.aexec (Lk.of P) ng = Ev.aexec P ng := by kernel_rfl
theorem giveBack_eq {P : Program} : K.giveBack (Lk.of P) = Ev.giveBack P := by kernel_rfl
theorem aleave_eq {P : Program} : K.aleave (Lk.of P) = Ev.aleave P := by kernel_rfl
theorem aresults_eq {P : Program} : K.aresults (Lk.of P) = Ev.aresults P := by kernel_rfl
theorem areturn_eq {P : Program} : K.areturn (Lk.of P) = Ev.areturn P := by kernel_rfl
theorem astepCode_eq {P : Program} {ng : Nat} : K.astepCode (Lk.of P) ng = Ev.astepCode P ng := by kernel_rfl
theorem astep_eq {P : Program} {ng : Nat} : K.astep (Lk.of P) ng = Ev.astep P ng := by kernel_rfl
theorem arun_eq {P : Program} {ng : Nat} : K.arun (Lk.of P) ng = Ev.arun P ng := by kernel_rfl
theorem adones_eq {P : Program} : K.adones (Lk.of P) = Ev.adones P := by kernel_rfl
theorem aforks_eq {P : Program} {ng : Nat} : K.aforks (Lk.of P) ng = Ev.aforks P ng := by kernel_rfl
theorem asum_eq {P : Program} {ng : Nat} : K.asum (Lk.of P) ng = Ev.asum P ng := by kernel_rfl
theorem catcher_eq {P : Program} : K.catcher (Lk.of P) = Ev.catcher P := by kernel_rfl
theorem arecover_eq {P : Program} : K.arecover (Lk.of P) = Ev.arecover P := by kernel_rfl
theorem acaught_eq {P : Program} : K.acaught (Lk.of P) = Ev.acaught P := by kernel_rfl
theorem araise_eq {P : Program} {ng : Nat} : K.araise (Lk.of P) ng = Ev.araise P ng := by kernel_rfl
theorem apanic_eq {P : Program} {ng : Nat} : K.apanic (Lk.of P) ng = Ev.apanic P ng := by kernel_rfl
theorem scr_eq {P : Program} {ng : Nat} : K.scr (Lk.of P) ng = Ev.scr P ng := by kernel_rfl
end K
end Go.Proofs.YtkcfcmliaonppaaGreatDoor.Ev

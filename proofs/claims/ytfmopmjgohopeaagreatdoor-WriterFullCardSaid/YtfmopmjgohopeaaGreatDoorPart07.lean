/- The texts EbX, EbWk, EbY of WriterFull, joined by program (tools/merge.py): walks of the functions that the law reaches, and plain facts; no condition. -/
import Derived.Test.YtfmopmjgohopeaaGreatDoorPart06
import Derived.KernelRfl
set_option linter.unusedVariables false
set_option linter.unusedSimpArgs false

/-
  The abstract machine over quick tables: printed by a program out of EbA and EbB; it is the same machine.
-/
set_option linter.unusedVariables false
set_option linter.unusedSimpArgs false
set_option linter.constructorNameAsVariable false
namespace Go.Proofs.YtfmopmjgohopeaaGreatDoor.Ev
open Go
structure Lk where
  info? : TypeId → Option TypeInfo
  underlying : TypeId → Option TypeDesc
  fn : FuncId → Option Func
def Lk.of (P : Program) : Lk := ⟨P.info?, P.underlying, fun f => P.funcs[f]?⟩
namespace K
section
variable (P : Lk) (ng : Nat)
def aload (h : AH) (t : TypeId) : AV → Option AV
  | .ptr k off =>
    match h.get k with
    | some (.cells _ cs) =>
      match P.underlying t with
      | some (.struct _) | some (.array _ _) =>
        match P.info? t with
        | some i => let l := (cs.sub off i.size).list; bif Nat.beq l.length i.size then some (.agg l) else none
        | none => none
      | some _ => cs.get off
      | none => none
    | _ => none
  | _ => none
def apart (t : TypeId) (cs : List AV) (off : Nat) : Option AV :=
  match P.underlying t with
  | some (.struct _) | some (.array _ _) =>
    match P.info? t with
    | some i => some (.agg ((cs.drop off).take i.size))
    | none => none
  | some _ => cs[off]?
  | none => none
def zeroCells (t : TypeId) : Option (List AV) :=
  match P.info? t with
  | some i =>
    match i.zero with
    | some (.agg cs) => some (cs.toList.map AV.ofAtom)
    | some v => bif (AV.ofAtom v).one then some [AV.ofAtom v] else none
    | none => none
  | none => none
def sizeOf? (t : TypeId) : Option Nat := (P.info? t).map (·.size)
def fieldPl (fields : Array Field) (i : Nat) : Option (Nat × Nat) :=
  match fields[i]? with
  | some f => (sizeOf? P f.type).map fun s => (f.offset, s)
  | none => none
def abuild (T : Operand → AV) (t : TypeId) (parts : Array (Nat × Operand)) : Option AV :=
  match zeroCells P t, P.underlying t with
  | some zero, some (.struct fields) =>
    bif fields.toList.all (fun f => (sizeOf? P f.type).isSome) then
    (afill (fieldPl P fields) zero (parts.toList.map fun p => (p.1, T p.2))).map .agg
    else none
  | some zero, some (.array _ elem) =>
    match sizeOf? P elem with
    | some s => (afill (fun i => some (i * s, s)) zero (parts.toList.map fun p => (p.1, T p.2))).map .agg
    | none => none
  | _, _ => none
def abin (op : BinOp) (t : TypeId) (x y : AV) : Option AV :=
  match x, y with
  | .int j a, .int k b => match semVal (Go.binOp op t (.int j a) (.int k b)) with
    | some (.int k n) => some (.int k n)
    | some (.bool b) => some (.bool b)
    | _ => none
  | .str a, .str b =>
    match op with
    | .add => bif Nat.ble (a.n + b.n) 1000000 then some (.str (a.app b)) else none
    | .eql => some (.bool (a.beq b))
    | .neq => some (.bool (!a.beq b))
    | .lss => some (.bool (a.less b))
    | .leq => some (.bool (a.less b || a.beq b))
    | .gtr => some (.bool (!(a.less b || a.beq b)))
    | .geq => some (.bool (!a.less b))
    | _ => none
  | .bool a, .bool b =>
    match op, P.underlying t with
    | .eql, some .bool => some (.bool (boolBeq a b))
    | .neq, some .bool => some (.bool (!boolBeq a b))
    | _, _ => none
  | x, .lit v =>
    match P.underlying t with
    | none => none
    | some d => nilOp op (nilEq d x v)
  | _, _ => none
def abinop (T : Operand → AV) (op : BinOp) (t : TypeId) (x y : Operand) : Option AV :=
  match T x, T y with
  | .lit .nilIface, .lit .nilIface =>
    match P.underlying t with
    | some (.interface _) => bif isConst x || isConst y then (match op with | .eql => some (.bool true) | .neq => some (.bool false) | _ => none) else none
    | _ => none
  | .agg _, .agg _ => none
  | a, b => abin P op t a b
def abinopH (h : AH) (T : Operand → AV) (op : BinOp) (t : TypeId) (x y : Operand) : Option AV :=
  match T x, T y with
  | .ptr k o, .ptr k' o' => match P.underlying t with
    | some (.pointer e) => match sizeOf? P e with
      | some (_ + 1) => nilOp op (ptrSame h k o k' o')
      | _ => none
    | _ => none
  | _, _ => abinop P T op t x y
def aslice (t : TypeId) (x : AV) (low high max : Option AV) : Option AV :=
  match P.underlying t, x with
  | some .string, .str s =>
    match max with
    | some _ => none
    | none => match abounds s.n (some s.n) low high none with
      | some (l, h, _) => some (.str (s.sub l (h - l)))
      | none => none
  | some (.slice elem), .slice k off len cap =>
    match sizeOf? P elem, abounds len cap.opt low high max with
    | some size, some (l, h, m) =>
      -- the model keeps the address where nothing is left: told only if the room is known, or surely more
      match m, cap with
      | some c, _ => some (.slice k (bif Nat.beq c l then off else off + l * size) (h - l) (.is (c - l)))
      | none, .room sz => bif Nat.beq size sz && (Nat.blt l h || Nat.beq l 0) then some (.slice k (off + l * size) (h - l) (.room sz)) else bif Nat.beq l h then some (.empty none) else none
      | none, .is _ => none
    | _, _ => none
  | some (.slice elem), .empty cap =>
    match sizeOf? P elem, abounds 0 cap low high max with
    | some _, some (0, 0, m) => some (.empty m)
    | _, _ => none
  | some (.slice elem), .lit (.slice none len cap) =>
    match sizeOf? P elem, abounds len (some cap) low high max with
    | some _, some (l, h, some c) => some (.lit (.slice none (h - l) (c - l)))
    | _, _ => none
  | some (.array n elem), .ptr k off =>
    match sizeOf? P elem, abounds n (some n) low high max with
    | some size, some (l, h, some c) => some (.slice k (bif Nat.beq c l then off else off + l * size) (h - l) (.is (c - l)))
    | _, _ => none
  | _, _ => none
def aindexAddr (t : TypeId) (x i : AV) : Option AV :=
  match P.underlying t, x, natOf i with
  | some (.array len elem), .ptr k off, some n =>
    match sizeOf? P elem with
    | some s => bif Nat.blt n len then some (.ptr k (off + n * s)) else none
    | none => none
  | some (.slice elem), .slice k off len _, some n =>
    match sizeOf? P elem with
    | some s => bif Nat.blt n len then some (.ptr k (off + n * s)) else none
    | none => none
  | _, _, _ => none
def aindex (t : TypeId) (x i : AV) : Option AV :=
  match P.underlying t, x, natOf i with
  | some .string, .str s, some n => match s.get n with | some b => some (byteA b) | none => none
  | some (.array len elem), .agg cs, some n =>
    match sizeOf? P elem with
    | some s => bif Nat.blt n len then apart P elem cs (n * s) else none
    | none => none
  | _, _, _ => none
def keyFits (key : TypeId) (k : AV) : Bool :=
  match P.underlying key with
  | some (.pointer e) => match sizeOf? P e, k with
    | some (_ + 1), .ptr _ _ => true
    | _, _ => false
  | some d => kfit d k
  | none => false
def alookup (h : AH) (t : TypeId) (x k : AV) (ok : Bool) : Option AV :=
  match P.underlying t with
  | some (.map key elem) =>
    bif keyFits P key k then
      match mapEs h x with
      | none => none
      | some es =>
        match afind h k es 0 with
        | none => none
        | some (some (_, v)) => some (bif ok then .tuple [v, .bool true] else v)
        | some none =>
          match P.info? elem with
          | some i => match i.zero with
            | some z => some (bif ok then .tuple [AV.ofValue z, .bool false] else AV.ofValue z)
            | none => none
          | none => none
    else none
  | _ => none
def atypeAssert (x : AV) (t : TypeId) (ok : Bool) : Option AV :=
  match P.underlying t, x with
  | some (.interface _), _ => none
  | some _, .lit .nilIface =>
    bif ok then
      match P.info? t with
      | some i => match i.zero with | some z => some (.tuple [AV.ofValue z, .bool false]) | none => none
      | none => none
    else none
  | some _, .iface u v =>
    bif Nat.beq u t then some (bif ok then .tuple [v, .bool true] else v)
    else bif ok then
      match P.info? t with
      | some i => match i.zero with | some z => some (.tuple [AV.ofValue z, .bool false]) | none => none
      | none => none
    else none
  | _, _ => none
def alen (h : AH) (t : TypeId) (x : AV) : Option Nat :=
  match P.underlying t with
  | some d => alenD h d x
  | none => none
def acap (t : TypeId) (x : AV) : Option Nat :=
  match P.underlying t with
  | some d => acapD d x
  | none => none
def aconv (h : AH) (src dst : TypeId) (x : AV) : Option AV :=
  match P.underlying src, P.underlying dst, x with
  | some _, some (.int k), .int _ n => some (.int k (k.wrap n))
  | some (.slice e), some .string, .slice k off len _ =>
    match P.underlying e, h.get k with
    | some (.int .u8), some (.cells _ cs) =>
      match (cs.sub off len).bt? with
      | some b => bif Nat.beq b.n len then some (.str b) else none
      | none => none
    | _, _ => none
  | some (.slice e), some .string, .lit (.slice none _ _) =>
    match P.underlying e with | some (.int .u8) => some (.str ⟨0, 0⟩) | _ => none
  | some (.slice e), some .string, .empty _ =>
    match P.underlying e with | some (.int .u8) => some (.str ⟨0, 0⟩) | _ => none
  | some _, some .string, .str s => some (.str s)
  | _, _, _ => none
def afieldAddr (s : TypeId) (x : AV) (f : Nat) : Option AV :=
  match P.underlying s, x with
  | some (.struct fields), .ptr k off => match fields[f]? with
    | some fd => match sizeOf? P fd.type with
      | some (_ + 1) => some (.ptr k (off + fd.offset))
      | _ => none
    | none => none
  | _, _ => none
def afield (t : TypeId) (x : AV) (f : Nat) : Option AV :=
  match P.underlying t, x with
  | some (.struct fields), .agg cs => match fields[f]? with
    | some fd => apart P fd.type cs fd.offset
    | none => none
  | _, _ => none
def aquiet (h : AH) (T : Operand → AV) : Op → Option AV
  | .move x | .assign x => some (T x)
  | .pick c a b => match T c with | .bool t => some (bif t then T a else T b) | _ => none
  | .build t parts => abuild P T t parts
  | .load t a => aload P h t (T a)
  | .nilCheck x => anilCheck (T x)
  | .binOp op t x y _ => abinopH P h T op t x y
  | .unOp op _ x => aun op (T x)
  | .convert src dst x => aconv P h src dst (T x)
  | .makeInterface t x => match P.underlying t with
    | some (.interface _) => none
    | some _ => some (.iface t (T x))
    | none => none
  | .makeFunc (.func f) first captured => some (.func f (first.toList.map T) (captured.toList.map T))
  | .slice t x lo hi mx => aslice P t (T x) (lo.map T) (hi.map T) (mx.map T)
  | .fieldAddr s x f => afieldAddr P s (T x) f
  | .field t x f => afield P t (T x) f
  | .indexAddr t x i => aindexAddr P t (T x) (T i)
  | .index t x i => aindex P t (T x) (T i)
  | .lookup t x k ok => alookup P h t (T x) (T k) ok
  | .typeAssert x _ t ok => atypeAssert P (T x) t ok
  | .extract x i => match T x with | .tuple vs => vs[i]? | _ => none
  | .entry x => aentry h (T x)
  | .call c => match c.callee with
    | .builtin .len => match c.argTypes[0]?, c.args.toList with
      | some t, [x] => (alen P h t (T x)).map fun n => .int .i64 (.ofNat n)
      | _, _ => none
    | .builtin .cap => match c.argTypes[0]?, c.args.toList with
      | some t, [x] => (acap P t (T x)).map fun n => .int .i64 (.ofNat n)
      | _, _ => none
    | .builtin .min => aminmax false (c.args.toList.map T)
    | .builtin .max => aminmax true (c.args.toList.map T)
    | _ => none
  | _ => none
def zeros (elem : TypeId) (size n : Nat) : Option Cs :=
  bif Nat.beq (n * size) 0 then some (.av []) else
    match zeroCells P elem with
    | some z => bif Nat.beq z.length size then some (replC n z) else none
    | none => none
def aalloc (T : Operand → AV) : Op → Option (ABlock × Mk)
  | .alloc t => (zeroCells P t).map fun cs => (.cells false (.av cs), .ptr)
  | .box _ x => (T x).cells.map fun cs => (.cells false (.av cs), .ptr)
  | .buildSlice t len parts => match P.underlying t with
    | some (.slice elem) => match sizeOf? P elem with
      | some size =>
        bif Nat.ble (len * size) 1000000 then
          match zeros P elem size len with
          | some zero => (afill (fun i => some (i * size, size)) zero.list (parts.toList.map fun p => (p.1, T p.2))).map fun cs => (.cells false (.of cs), .slice len (.is len))
          | none => none
        else none
      | none => none
    | _ => none
  | .makeSlice t l c => match P.underlying t, natOf (T l), natOf (T c) with
    | some (.slice elem), some l, some c => match P.info? elem with
      | some i =>
        bif Nat.ble l c && Nat.ble c 1000000 && Nat.ble i.bytes 1000000 then
          (zeros P elem i.size c).map fun cs => (.cells false cs, .slice l (.is c))
        else bif Nat.ble l c && Nat.ble c 1000000000 && Nat.ble i.bytes 1000 && Nat.ble 1 i.size then
          -- too long to be written out: a block of which nothing is known
          (zeros P elem i.size 1).map fun _ => (.cells false (.av []), .slice l (.is c))
        else none
      | none => none
    | _, _, _ => none
  | .convert src dst x => match P.underlying src, P.underlying dst, T x with
    | some .string, some (.slice e), .str s => match P.underlying e with
      | some (.int .u8) => some (.cells false (.bt s), .slice s.n (.room 1))
      | _ => none
    | _, _, _ => none
  | .makeMap _ none => some (.map [] 0, .map)
  | _ => none
def isEff : Op → Bool
  | .assign _ => true
  | .store .. | .mapUpdate .. | .insert .. | .mapEntry .. | .entryStore .. | .range .. | .next .. | .go _ | .defer _ | .panic _ | .send .. | .recv .. | .select .. | .ready _ => true
  | .convert s d _ => match P.underlying s, P.underlying d with
    | some (.slice _), some (.slice _) => true
    | _, _ => false
  | .call c => match c.callee with
    | .builtin .len | .builtin .cap | .builtin .min | .builtin .max => false
    | _ => true
  | _ => false
def isAlloc : Op → Bool
  | .alloc _ | .box .. | .buildSlice .. | .makeSlice .. | .makeMap .. => true
  | .convert s d _ => match P.underlying s, P.underlying d with
    | some .string, some (.slice _) => true
    | _, _ => false
  | _ => false
def rdsts (eff : Bool) : List Oper → Nat → List (Nat × Nat)
  | [], _ => []
  | o :: l, i => match o.dst with
    | some d => bif boolBeq (isEff P o.op) eff then (d, i) :: rdsts eff l (i + 1) else rdsts eff l (i + 1)
    | none => rdsts eff l (i + 1)
def rcheck (ops : Array Oper) : Bool :=
  nodupB (rdsts P false ops.toList 0) && (rdsts P true ops.toList 0).all (fun p => (rdsts P false ops.toList 0).all fun q => !(Nat.beq p.1 q.1)) &&
  rcheckGo ops (rdsts P false ops.toList 0) ops.toList 0
def effs : List Oper → Nat → List Nat
  | [], _ => []
  | o :: l, i => bif isEff P o.op then i :: effs l (i + 1) else effs l (i + 1)
def passOne (ops : Array Oper) (em dm um nt : Nat) : List Oper → Nat → Nat → Tr AV → AH → Option (Nat × Tr AV × AH)
  | [], _, ed, T, h => some (ed, T, h)
  | o :: l, i, ed, T, h =>
    bif isEff P o.op || has ed i || !inWindow ops em dm um i then passOne ops em dm um nt l (i + 1) ed T h else
    match awanted ops T o with
    | none => none
    | some false => passOne ops em dm um nt l (i + 1) (Nat.lor ed (2 ^ i)) (putT nt T o.dst undefA) h
    | some true =>
      match aalloc P (ev ng T) o.op with
      | some (b, mk) => passOne ops em dm um nt l (i + 1) (Nat.lor ed (2 ^ i)) (putT nt T o.dst (mk.av h.next)) (h.new b)
      | none =>
        match aquiet P h (ev ng T) o.op with
        | some v => passOne ops em dm um nt l (i + 1) (Nat.lor ed (2 ^ i)) (putT nt T o.dst v) h
        | none => none
def passTwo (ops : Array Oper) (em dm um nt : Nat) (T : Tr AV) (h : AH) : List Oper → Nat → Bool
  | [], _ => true
  | o :: l, i =>
    (bif isEff P o.op || !inWindow ops em dm um i then true else
      match awanted ops T o, o.dst with
      | some false, some d => Nat.blt d nt && (match T.get d with | some (.tuple []) => true | _ => false)
      | some true, some d => Nat.blt d nt &&
        match T.get d with
        | none => false
        | some v =>
          match aalloc P (ev ng T) o.op with
          | some (b, mk) => match mk.of v with
            | some k => match h.get k with | some b' => b.beq b' | none => false
            | none => false
          | none => match aquiet P h (ev ng T) o.op with
            | some v' => v'.beq v
            | none => false
      | _, _ => false) && passTwo ops em dm um nt T h l (i + 1)
def AFrame.finish (fr : AFrame) (v : AV) : Option AFrame :=
  match fr.todo with
  | .reg ops i (o :: rest) :: k => some { fr with tmps := putT fr.nt fr.tmps o.dst v, todo := .reg ops (i + 1) rest :: k }
  | .drw ops dm um ed true :: k =>
    match nextEff ops dm (effs P ops.toList 0) with
    | some i => match ops[i]? with
      | some o => some { fr with tmps := putT fr.nt fr.tmps o.dst v, todo := .drw ops (Nat.lor dm (2 ^ i)) (Nat.lor um (maskOf ops i)) ed false :: k }
      | none => none
    | none => none
  | .rangeF l :: k => some { fr with todo := .endF l :: k }
  | _ => none
def AFrame.enter (f : FuncId) (args : List AV) (dfd : Bool) : Option AFrame :=
  match P.fn f with
  | some fn => match fn.body with
    | some c => bif fn.name == "runtime.NumGoroutine" then none else
      let nt := args.length + (fn.ntmps - args.length)
      some { fn := f, nt, tmps := argsT nt args 0 .l, todo := [.code c], defers := [], ret := false, dfd, round := none }
    | none => none
  | none => none
def push (m : AM) (f : FuncId) (args : List AV) : Option AM :=
  match AFrame.enter P f args false with
  | some fr => some { m with fr, cs := m.fr :: m.cs }
  | none => none
def AM.done (m : AM) (v : AV) (h : AH) : Option AM :=
  match AFrame.finish P m.fr v with
  | some fr => some { m with fr, h }
  | none => none
def astore (h : AH) (t : TypeId) (a v : AV) : Option AH :=
  match a, v.cells, sizeOf? P t with
  | .ptr k off, some vs, some n =>
    bif Nat.beq vs.length n && vs.all AV.one then
      match h.get k with
      | some (.cells false cs) => (putCells cs off (.av vs)).map fun cs' => h.put k (.cells false cs')
      | _ => none
    else none
  | _, _, _ => none
def amapUpdate (h : AH) (t : TypeId) (m k v : AV) : Option AH :=
  match P.underlying t, m with
  | some (.map key _), .map r =>
    bif keyFits P key k then
      match h.get r with
      | some (.map es clock) =>
        match afind h k es 0 with
        | some (some (i, _)) => some (h.put r (.map (setEntry es i k v) clock))
        | some none => some (h.put r (.map (es ++ [(k, v, clock)]) (clock + 1)))
        | none => none
      | _ => none
    else none
  | _, _ => none
def arange (h : AH) (t : TypeId) (x : AV) : Option ABlock :=
  match P.underlying t, x with
  | some .string, .str s => some (.strIter s 0)
  | some (.map _ _), .map m => match h.get m with
    | some (.map _ clock) => some (.mapIter m clock [] clock)
    | _ => none
  | _, _ => none
def anew (h : AH) (elem : TypeId) (size bytes : Nat) (xd : TypeDesc) (x : AV) : Option (Nat × Cs) :=
  match xd with
  | .int _ => match natOf x with
    | some n => bif Nat.ble n 1000000 then (zeros P elem size n).map fun l => (n, l) else none
    | none => none
  | _ => appended h size x
def aappend (h : AH) (argTypes : Array TypeId) (s x : AV) : Option (AV × AH) :=
  match argTypes[0]?, argTypes[1]? with
  | some sType, some xType =>
    match P.underlying sType, P.underlying xType with
    | some (.slice elem), some xd =>
      match P.info? elem, zeroCells P elem with
      | some info, some z =>
        match anew P h elem info.size info.bytes xd x with
        | none => none
        | some (n, vs) =>
          bif Nat.ble info.bytes 1000000 && Nat.ble n 1000000 && Nat.beq z.length info.size && vs.one then aappendTo h info.size s n vs else none
      | _, _ => none
    | _, _ => none
  | _, _ => none
def acopy (h : AH) (t : TypeId) (d s : AV) : Option (Nat × AH) :=
  match P.underlying t with
  | some (.slice elem) => match sizeOf? P elem, aLen s, aLen d with
    | some size, some ls, some ld =>
      bif Nat.beq (Nat.min ls ld) 0 then
        match d with
        | .str _ => none
        | _ => some (0, h)
      else match d with
        | .slice k off _ _ => match firstN h size (Nat.min ls ld) s, h.get k with
          | some vs, some (.cells false cs) => match putCells cs off vs with
            | some cs' => some (Nat.min ls ld, h.put k (.cells false cs'))
            | none => none
          | _, _ => none
        | _ => none
    | _, _, _ => none
  | _ => none
def adelete (h : AH) (t : TypeId) (m k : AV) : Option AH :=
  match P.underlying t, m with
  | some (.map key _), .map r =>
    bif keyFits P key k then
      match h.get r with
      | some (.map es clock) =>
        match afind h k es 0 with
        | some (some (i, _)) => some (h.put r (.map (es.eraseIdx i) clock))
        | some none => some (h.put r (.map es clock))
        | none => none
      | _ => none
    else none
  | _, _ => none
def aextern (h : AH) (f : FuncId) (args : List AV) : Option (AV × AH) :=
  match P.fn f, args with
  | some fn, [.str s, .int .u8 (.ofNat c)] =>
    bif fn.body.isNone && fn.name == "internal/bytealg.IndexByteString" && fn.origin == "" && Nat.blt c 256 then
      match idxByte c s.list 0 with
      | some i => some (.int .i64 (.ofNat i), h)
      | none => some (.int .i64 (.negSucc 0), h)
    else none
  | some fn, [.iface t (.map k)] =>
    bif fn.body.isNone && fn.name == "maps.clone" && fn.origin == "" then
      match h.get k with
      | some (.map es clock) => some (.iface t (.map h.next), h.new (.map es clock))
      | _ => none
    else none
  | _, _ => none
def aclear (h : AH) (t : TypeId) (x : AV) : Option AH :=
  match P.underlying t, x with
  | some (.slice elem), .slice k off n _ =>
    bif Nat.beq n 0 then some h else
    match zeroCells P elem, sizeOf? P elem, h.get k with
    | some z, some size, some (.cells false cs) =>
      bif Nat.beq z.length size && Nat.ble 1 size && (replC n z).one then (putCells cs off (replC n z)).map fun cs' => h.put k (.cells false cs') else none
    | _, _, _ => none
  | some (.slice _), .lit (.slice none _ _) => some h
  | some (.slice _), .empty _ => some h
  | _, _ => none
def APlace.get (h : AH) (t : TypeId) : APlace → Option AV
  | .val v => some v
  | .var k off => aload P h t (.ptr k off)
def afollow (h : AH) : List FieldStep → TypeId → APlace → Option (TypeId × APlace)
  | [], t, x => some (t, x)
  | s :: rest, t, x =>
    match P.underlying s.struct with
    | some (.struct fields) => match fields[s.index]? with
      | some f => match sizeOf? P f.type with
        | some (_ + 1) =>
          bif s.deref then
            match APlace.get P h t x with
            | some (.ptr k off) => afollow h rest f.type (.var k (off + f.offset))
            | _ => none
          else match x with
            | .var k off => afollow h rest f.type (.var k (off + f.offset))
            | .val (.agg cs) => match apart P f.type cs f.offset with
              | some v => afollow h rest f.type (.val v)
              | none => none
            | .val _ => none
        | _ => none
      | none => none
    | _ => none
def areceiver (h : AH) (xt : TypeId) (x : APlace) (ptr whole : Bool) : Option AV :=
  match P.underlying xt, ptr, x with
  | some (.pointer _), true, x => APlace.get P h xt x
  | some (.pointer elem), false, x => bif whole then none else
    match APlace.get P h xt x with
    | some (.ptr k off) => aload P h elem (.ptr k off)
    | _ => none
  | some _, true, .var k off => some (.ptr k off)
  | some _, true, .val _ => none
  | some _, false, x => APlace.get P h xt x
  | none, _, _ => none
def amethod (h : AH) : Nat → TypeId → AV → String → Option (FuncId × AV)
  | 0, _, _, _ => none
  | fuel + 1, t, v, name =>
    match P.info? t with
    | some i => match i.methods.find? (·.name == name) with
      | some m => match afollow P h m.path.toList t (.val v) with
        | some (xt, x) =>
          match m.func with
          | none => match APlace.get P h xt x with
            | some (.iface t' v') => amethod h fuel t' v' name
            | _ => none
          | some (f, ptr) => match areceiver P h xt x ptr m.path.isEmpty with
            | some v => some (f, v)
            | none => none
        | none => none
      | none => none
    | none => none
def aeff (m : AM) (o : Oper) : Option AM :=
  let T := ev ng m.fr.tmps
  match o.op with
  | .assign x => AM.done P m (T x) m.h
  | .store t a x => match astore P m.h t (T a) (T x) with
    | some h => AM.done P m undefA h
    | none => none
  | .mapUpdate t r k x => match amapUpdate P m.h t (T r) (T k) (T x) with
    | some h => AM.done P m undefA h
    | none => none
  | .range t x => match arange P m.h t (T x) with
    | some b => AM.done P m (.ptr m.h.next 0) (m.h.new b)
    | none => none
  | .next x false => match anext m.h (T x) with
    | some (v, h) => AM.done P m v h
    | none => none
  | .convert src dst x => match P.underlying src, P.underlying dst, T x with
    | some (.slice _), some (.slice e), .slice k off len cap => bif Nat.beq src dst then
        match P.underlying e, m.h.get k with
        | some (.int .u8), some (.cells false cs) => bif cs.isU8 then AM.done P m (.slice k off len cap) m.h else none
        | _, _ => none
      else none
    | _, _, _ => none
  | .defer c => match m.fr.round, c.callee with
    | none, .value f => match T f with
      | .func f first cap => match AFrame.finish P { m.fr with defers := .call f cap (first ++ c.args.toList.map T) :: m.fr.defers } undefA with
        | some fr => some { m with fr }
        | none => none
      | _ => none
    | _, _ => none
  | .call c => match c.callee with
    | .value f => match T f with
      | .func f first cap => match push P m f (first ++ c.args.toList.map T ++ cap) with
        | some m' => some m'
        | none => match aextern P m.h f (first ++ c.args.toList.map T ++ cap) with
          | some (v, h) => AM.done P m v h
          | none => none
      | .yield l => match m.h.get l with
        | some (.loop r) => match roundFrame l r (c.args.toList.map T) with
          | some fr => some { m with fr, cs := m.fr :: m.cs }
          | none => none
        | _ => none
      | _ => none
    | .invoke r name => match T r with
      | .iface t v => match amethod P m.h 8 t v name with
        | some (f, x) => push P m f (x :: c.args.toList.map T)
        | none => none
      | _ => none
    | .builtin .append => match c.args.toList with
      | [s, x] => match aappend P m.h c.argTypes (T s) (T x) with
        | some (v, h) => AM.done P m v h
        | none => none
      | _ => none
    | .builtin .copy => match c.argTypes[0]?, c.args.toList with
      | some t, [d, s] => match acopy P m.h t (T d) (T s) with
        | some (n, h) => AM.done P m (.int .i64 (.ofNat n)) h
        | none => none
      | _, _ => none
    | .builtin .delete => match c.argTypes[0]?, c.args.toList with
      | some t, [x, k] => match adelete P m.h t (T x) (T k) with
        | some h => AM.done P m undefA h
        | none => none
      | _, _ => none
    | .builtin .clear => match c.argTypes[0]?, c.args.toList with
      | some t, [x] => match aclear P m.h t (T x) with
        | some h => AM.done P m undefA h
        | none => none
      | _, _ => none
    | .builtin .recover => match m.fr.round, m.fr.dfd, m.cs with
      | none, true, c :: _ => bif c.ret then AM.done P m (.lit .nilIface) m.h else none
      | none, false, _ => AM.done P m (.lit .nilIface) m.h
      | _, _, _ => none
    | _ => none
  | _ => none
def aexec (m : AM) (o : Oper) : Option AM :=
  let T := ev ng m.fr.tmps
  match aquiet P m.h T o.op with
  | some v => AM.done P m v m.h
  | none => match aalloc P T o.op with
    | some (b, mk) => AM.done P m (mk.av m.h.next) (m.h.new b)
    | none => aeff P ng m o
def giveBack (m : AM) (v : AV) (h : AH) : Option AM :=
  match m.cs with
  | c :: cs => match AFrame.finish P c v with
    | some fr => some { fr, cs, h }
    | none => none
  | [] => none
def aleave (m : AM) (jump : Option Code) : Option AM :=
  match m.fr.round with
  | none => match jump with
    | none | some .ret => some { m with fr := { m.fr with ret := true } }
    | _ => none
  | some l => match m.h.get l with
    | some (.loop r) =>
      bif m.fr.dfd then none else
      giveBack P m (.bool (match jump with | none => true | some _ => false))
        (m.h.put l (.loop { r with state := match jump with | none => .ready | some _ => .done, pending := jump }))
    | _ => none
def aresults (h : AH) (T : Tr AV) : List ResultVar → Option (List AV)
  | [] => some []
  | .tmp t :: l => match aresults h T l with
    | some vs => some ((T.get t).getD .any :: vs)
    | none => none
  | .cell a t :: l => match aload P h t ((T.get a).getD .any), aresults h T l with
    | some v, some vs => some (v :: vs)
    | _, _ => none
def areturn (m : AM) : Option AM :=
  bif !plainTop m.fr.todo then none else
  match m.fr.defers with
  | .collected k :: ds => match m.h.get k with
    | some (.deferred l) => some { m with fr := { m.fr with defers := l ++ ds }, h := m.h.kill k }
    | _ => none
  | .call f cap args :: ds =>
    match AFrame.enter P f (args ++ cap) true with
    | some fr => some { m with fr, cs := { m.fr with defers := ds } :: m.cs }
    | none => none
  | [] =>
    match P.fn m.fr.fn with
    | some fn => match aresults P m.h m.fr.tmps fn.results.toList with
      | some vs =>
        bif m.fr.dfd then
          match m.cs with
          | c :: cs => bif c.ret && plainTop c.todo then some { fr := c, cs, h := m.h } else none
          | [] => none
        else giveBack P m (tupled vs) m.h
      | none => none
    | none => none
def astepCode (m : AM) (k : List AItem) : Code → Option AM
  | .skip | .label _ => some (m.to k)
  | .seq a b => some (m.to (.code a :: .code b :: k))
  | .cond c thn els => match ev ng m.fr.tmps c with
    | .bool b => some (m.to (.code (bif b then thn else els) :: k))
    | _ => none
  | .block id body => some (m.to (.code body :: .inBlock id :: k))
  | .loop body => some (m.to (.code body :: .inLoop body :: k))
  | .scope body => some (m.to (.code body :: .inScope body :: k))
  | .exit id => match aexitTo id k with
    | some k' => some (m.to k')
    | none => aleave P m (some (.exit id))
  | .goto l => match agotoIn l k with
    | some k' => some (m.to k')
    | none => aleave P m (some (.goto l))
  | .ret => aleave P m (some .ret)
  | .region _ ops draw => bif draw then (bif rcheck P ops then some (m.to (.drw ops 0 0 0 false :: k)) else none) else some (m.to (.reg ops 0 ops.toList :: k))
  | .rangeFunc f ps assign body =>
    match ev ng m.fr.tmps f, aenterLoop m ps assign body with
    | .func g first cap, some (l, mark, h) =>
      match AFrame.enter P g (first ++ [.yield l] ++ cap) false with
      | some fr => some { fr, cs := { m.fr with todo := .rangeF l :: k, defers := mark ++ m.fr.defers } :: m.cs, h }
      | none => none
    | _, _ => none
  | .refuse _ => none
def astep (m : AM) : Option AM :=
  bif m.fr.ret then areturn P m else
  match m.fr.todo with
  | [] => aleave P m none
  | .code c :: k => astepCode P ng m k c
  | .inBlock _ :: k => some (m.to k)
  | .inScope _ :: k => some (m.to k)
  | .inLoop body :: k => some (m.to (.code body :: .inLoop body :: k))
  | .reg _ _ [] :: k => some (m.to k)
  | .reg ops _ (o :: _) :: _ => match awanted ops m.fr.tmps o with
    | some true => aexec P ng m o
    | some false => AM.done P m undefA m.h
    | none => none
  | .drw ops dm um ed false :: k =>
    match passOne P ng ops (effMask (effs P ops.toList 0)) dm um m.fr.nt ops.toList 0 ed m.fr.tmps m.h with
    | some (ed', T, h) =>
      bif passTwo P ng ops (effMask (effs P ops.toList 0)) dm um m.fr.nt T h ops.toList 0 then
        some { m with fr := { m.fr with tmps := T, todo := .drw ops dm um ed' true :: k }, h }
      else none
    | none => none
  | .drw ops dm um ed true :: k =>
    match nextEff ops dm (effs P ops.toList 0) with
    | some i => match ops[i]? with
      | some o => match awanted ops m.fr.tmps o with
        | some true => aeff P ng m o
        | some false => AM.done P m undefA m.h
        | none => none
      | none => none
    | none => bif Nat.beq (Nat.lor (effMask (effs P ops.toList 0)) dm) dm then some (m.to k) else none
  | .rangeF _ :: _ => none
  | .endF l :: k => match m.h.get l with
    | some (.loop r) =>
      match r.state with
      | .busy => none
      | _ => some { m with fr := { m.fr with todo := (r.pending.map AItem.code).toList ++ k }, h := m.h.put l (.loop { r with state := .exhausted }) }
    | _ => none
  | .beginRound :: k => match m.fr.round with
    | some l => match m.h.get l with
      | some (.loop r) => match r.state with
        | .ready => some { m with fr := { m.fr with todo := k }, h := m.h.put l (.loop { r with state := .busy }) }
        | _ => none
      | _ => none
    | none => none
def arun : Nat → AM → Option AM
  | 0, m => some m
  | n + 1, m => match astep P ng m with
    | some m' => arun n m'
    | none => none
def adones (m : AM) : List (AV × AH) → Option (List AM)
  | [] => some []
  | p :: l => match AM.done P m p.1 p.2, adones m l with
    | some m', some ms => some (m' :: ms)
    | _, _ => none
def aforks (m : AM) : Option (List AM) :=
  bif m.fr.ret then none else
  match m.fr.todo with
  | .reg ops _ (o :: _) :: _ => match awanted ops m.fr.tmps o with
    | some true => match o.op with
      | .next x false => match anexts m.h (ev ng m.fr.tmps x) with
        | some l => adones P m l
        | none => none
      | _ => none
    | _ => none
  | _ => none
def asumOp (S : AH → FuncId → List AV → Option (AV × AH)) (m : AM) (o : Oper) : Option AM :=
  match o.op with
  | .call c => match c.callee with
    | .value g => match ev ng m.fr.tmps g with
      | .func f first [] => match S m.h f (first ++ c.args.toList.map (ev ng m.fr.tmps)) with
        | some (v, h) => AM.done P m v h
        | none => none
      | _ => none
    | _ => none
  | _ => none
def asum (S : AH → FuncId → List AV → Option (AV × AH)) (m : AM) : Option AM :=
  bif m.fr.ret then none else
  match m.fr.todo with
  | .reg ops _ (o :: _) :: _ => match awanted ops m.fr.tmps o with
    | some true => asumOp P ng S m o
    | _ => none
  | .drw ops dm _ _ true :: _ => match nextEff ops dm (effs P ops.toList 0) with
    | some i => match ops[i]? with
      | some o => match awanted ops m.fr.tmps o with
        | some true => asumOp P ng S m o
        | _ => none
      | none => none
    | none => none
  | _ => none
def catcher : List AFrame → Option (AFrame × List AFrame)
  | [] => none
  | c :: cs => match c.defers with
    | [] => match P.fn c.fn with
      | some _ => catcher cs
      | none => none
    | _ :: _ => some (c, cs)
def arecover (m : AM) (v : AV) : Option AM :=
  bif m.fr.ret || !m.fr.dfd then none else
  match m.fr.todo, m.cs, m.fr.round with
  | .reg ops _ (o :: _) :: _, [], none => match awanted ops m.fr.tmps o with
    | some true => match o.op with
      | .call c => match c.callee with
        | .builtin .recover => AM.done P m v m.h
        | _ => none
      | _ => none
    | _ => none
  | _, _, _ => none
def acaught (c b : AFrame) (B : List AFrame) (m : AM) : Option AM :=
  match m.cs, m.fr.defers with
  | [], [] =>
    bif m.fr.ret && m.fr.dfd && plainTop m.fr.todo then
      match P.fn m.fr.fn, P.fn c.fn with
      | some gn, some fn => match aresults P m.h m.fr.tmps gn.results.toList, aresults P m.h c.tmps fn.results.toList with
        | some _, some vs => match AFrame.finish P b (tupled vs) with
          | some fr => some { fr, cs := B, h := m.h }
          | none => none
        | _, _ => none
      | _, _ => none
    else none
  | _, _ => none
def araise (m : AM) : Option (AV × AFrame × AFrame × List AFrame × AM) :=
  bif m.fr.ret then none else
  match m.fr.todo, m.fr.defers, P.fn m.fr.fn with
  | .reg ops _ (o :: _) :: _, [], some _ => match awanted ops m.fr.tmps o with
    | some true => match o.op with
      | .panic x => match ev ng m.fr.tmps x with
        | .iface t v => match catcher P m.cs with
          | some (c, b :: B) => match c.todo, c.defers with
            | .reg .. :: _, [.call g cap args] =>
              bif c.dfd then none else
              match AFrame.enter P g (args ++ cap) true with
              | some fr => some (.iface t v, c, b, B, { fr, cs := [], h := m.h })
              | none => none
            | _, _ => none
          | _ => none
        | _ => none
      | _ => none
    | _ => none
  | _, _, _ => none
def apanic (n1 n2 : Nat) (m : AM) : Option AM :=
  match araise P ng m with
  | some (v, c, b, B, m1) => match arun P ng n1 m1 with
    | some m2 => match arecover P m2 v with
      | some m3 => match arun P ng n2 m3 with
        | some m4 => acaught P c b B m4
        | none => none
      | none => none
    | none => none
  | none => none
def scr (S : AH → FuncId → List AV → Option (AV × AH)) : Sc → List AM → Option (List AM)
  | .stop, [m] => some [m]
  | .go n s, [m] => match arun P ng n m with
    | some m' => scr S s [m']
    | none => none
  | .fork s, [m] => match aforks P ng m with
    | some ms => scr S s ms
    | none => none
  | .sum s, [m] => match asum P ng S m with
    | some m' => scr S s [m']
    | none => none
  | .alt a b, m :: ms => match scr S a [m], scr S b ms with
    | some l, some r => some (l ++ r)
    | _, _ => none
  | .nil, [] => some []
  | _, _ => none
end
theorem aload_eq {P : Program} : K.aload (Lk.of P) = Ev.aload P := by kernel_rfl
theorem apart_eq {P : Program} : K.apart (Lk.of P) = Ev.apart P := by kernel_rfl
theorem zeroCells_eq {P : Program} : K.zeroCells (Lk.of P) = Ev.zeroCells P := by kernel_rfl
theorem sizeOf?_eq {P : Program} : K.sizeOf? (Lk.of P) = Ev.sizeOf? P := by kernel_rfl
theorem fieldPl_eq {P : Program} : K.fieldPl (Lk.of P) = Ev.fieldPl P := by kernel_rfl
theorem abuild_eq {P : Program} : K.abuild (Lk.of P) = Ev.abuild P := by kernel_rfl
theorem abin_eq {P : Program} : K.abin (Lk.of P) = Ev.abin P := by kernel_rfl
theorem abinop_eq {P : Program} : K.abinop (Lk.of P) = Ev.abinop P := by kernel_rfl
theorem abinopH_eq {P : Program} : K.abinopH (Lk.of P) = Ev.abinopH P := by kernel_rfl
theorem aslice_eq {P : Program} : K.aslice (Lk.of P) = Ev.aslice P := by kernel_rfl
theorem aindexAddr_eq {P : Program} : K.aindexAddr (Lk.of P) = Ev.aindexAddr P := by kernel_rfl
theorem aindex_eq {P : Program} : K.aindex (Lk.of P) = Ev.aindex P := by kernel_rfl
theorem keyFits_eq {P : Program} : K.keyFits (Lk.of P) = Ev.keyFits P := by kernel_rfl
theorem alookup_eq {P : Program} : K.alookup (Lk.of P) = Ev.alookup P := by kernel_rfl
theorem atypeAssert_eq {P : Program} : K.atypeAssert (Lk.of P) = Ev.atypeAssert P := by kernel_rfl
theorem alen_eq {P : Program} : K.alen (Lk.of P) = Ev.alen P := by kernel_rfl
theorem acap_eq {P : Program} : K.acap (Lk.of P) = Ev.acap P := by kernel_rfl
theorem aconv_eq {P : Program} : K.aconv (Lk.of P) = Ev.aconv P := by kernel_rfl
theorem afieldAddr_eq {P : Program} : K.afieldAddr (Lk.of P) = Ev.afieldAddr P := by kernel_rfl
theorem afield_eq {P : Program} : K.afield (Lk.of P) = Ev.afield P := by kernel_rfl
theorem aquiet_eq {P : Program} : K.aquiet (Lk.of P) = Ev.aquiet P := by kernel_rfl
theorem zeros_eq {P : Program} : K.zeros (Lk.of P) = Ev.zeros P := by kernel_rfl
theorem aalloc_eq {P : Program} : K.aalloc (Lk.of P) = Ev.aalloc P := by kernel_rfl
theorem isEff_eq {P : Program} : K.isEff (Lk.of P) = Ev.isEff P := by kernel_rfl
theorem isAlloc_eq {P : Program} : K.isAlloc (Lk.of P) = Ev.isAlloc P := by kernel_rfl
theorem rdsts_eq {P : Program} : K.rdsts (Lk.of P) = Ev.rdsts P := by kernel_rfl
theorem rcheck_eq {P : Program} : K.rcheck (Lk.of P) = Ev.rcheck P := by kernel_rfl
theorem effs_eq {P : Program} : K.effs (Lk.of P) = Ev.effs P := by kernel_rfl
theorem passOne_eq {P : Program} {ng : Nat} : K.passOne (Lk.of P) ng = Ev.passOne P ng := by kernel_rfl
theorem passTwo_eq {P : Program} {ng : Nat} : K.passTwo (Lk.of P) ng = Ev.passTwo P ng := by kernel_rfl
theorem AFrame_finish_eq {P : Program} : K.AFrame.finish (Lk.of P) = Ev.AFrame.finish P := by kernel_rfl
theorem AFrame_enter_eq {P : Program} : K.AFrame.enter (Lk.of P) = Ev.AFrame.enter P := by kernel_rfl
theorem push_eq {P : Program} : K.push (Lk.of P) = Ev.push P := by kernel_rfl
theorem AM_done_eq {P : Program} : K.AM.done (Lk.of P) = Ev.AM.done P := by kernel_rfl
theorem astore_eq {P : Program} : K.astore (Lk.of P) = Ev.astore P := by kernel_rfl
theorem amapUpdate_eq {P : Program} : K.amapUpdate (Lk.of P) = Ev.amapUpdate P := by kernel_rfl
theorem arange_eq {P : Program} : K.arange (Lk.of P) = Ev.arange P := by kernel_rfl
theorem anew_eq {P : Program} : K.anew (Lk.of P) = Ev.anew P := by kernel_rfl
theorem aappend_eq {P : Program} : K.aappend (Lk.of P) = Ev.aappend P := by kernel_rfl
theorem acopy_eq {P : Program} : K.acopy (Lk.of P) = Ev.acopy P := by kernel_rfl
theorem adelete_eq {P : Program} : K.adelete (Lk.of P) = Ev.adelete P := by kernel_rfl
theorem aextern_eq {P : Program} : K.aextern (Lk.of P) = Ev.aextern P := by kernel_rfl
theorem aclear_eq {P : Program} : K.aclear (Lk.of P) = Ev.aclear P := by kernel_rfl
theorem APlace_get_eq {P : Program} : K.APlace.get (Lk.of P) = Ev.APlace.get P := by kernel_rfl
theorem afollow_eq {P : Program} : K.afollow (Lk.of P) = Ev.afollow P := by kernel_rfl
theorem areceiver_eq {P : Program} : K.areceiver (Lk.of P) = Ev.areceiver P := by kernel_rfl
theorem amethod_eq {P : Program} : K.amethod (Lk.of P) = Ev.amethod P := by kernel_rfl
theorem aeff_eq {P : Program} {ng : Nat} : K.aeff (Lk.of P) ng = Ev.aeff P ng := by kernel_rfl
theorem aexec_eq {P : Program} {ng : Nat} : K.aexec (Lk.of P) ng = Ev.aexec P ng := by kernel_rfl
theorem giveBack_eq {P : Program} : K.giveBack (Lk.of P) = Ev.giveBack P := by kernel_rfl
theorem aleave_eq {P : Program} : K.aleave (Lk.of P) = Ev.aleave P := by kernel_rfl
theorem aresults_eq {P : Program} : K.aresults (Lk.of P) = Ev.aresults P := by kernel_rfl
theorem areturn_eq {P : Program} : K.areturn (Lk.of P) = Ev.areturn P := by kernel_rfl
theorem astepCode_eq {P : Program} {ng : Nat} : K.astepCode (Lk.of P) ng = Ev.astepCode P ng := by kernel_rfl
theorem astep_eq {P : Program} {ng : Nat} : K.astep (Lk.of P) ng = Ev.astep P ng := by kernel_rfl
theorem arun_eq {P : Program} {ng : Nat} : K.arun (Lk.of P) ng = Ev.arun P ng := by kernel_rfl
theorem adones_eq {P : Program} : K.adones (Lk.of P) = Ev.adones P := by kernel_rfl
theorem aforks_eq {P : Program} {ng : Nat} : K.aforks (Lk.of P) ng = Ev.aforks P ng := by kernel_rfl
theorem asumOp_eq {P : Program} {ng : Nat} : K.asumOp (Lk.of P) ng = Ev.asumOp P ng := by kernel_rfl
theorem asum_eq {P : Program} {ng : Nat} : K.asum (Lk.of P) ng = Ev.asum P ng := by kernel_rfl
theorem catcher_eq {P : Program} : K.catcher (Lk.of P) = Ev.catcher P := by kernel_rfl
theorem arecover_eq {P : Program} : K.arecover (Lk.of P) = Ev.arecover P := by kernel_rfl
theorem acaught_eq {P : Program} : K.acaught (Lk.of P) = Ev.acaught P := by kernel_rfl
theorem araise_eq {P : Program} {ng : Nat} : K.araise (Lk.of P) ng = Ev.araise P ng := by kernel_rfl
theorem apanic_eq {P : Program} {ng : Nat} : K.apanic (Lk.of P) ng = Ev.apanic P ng := by kernel_rfl
theorem scr_eq {P : Program} {ng : Nat} : K.scr (Lk.of P) ng = Ev.scr P ng := by kernel_rfl
end K
end Go.Proofs.YtfmopmjgohopeaaGreatDoor.Ev

/-
  The abstract machine: a range over a map goes on to whichever entry comes next; runs that part and meet again.
-/
set_option linter.unusedVariables false
set_option linter.unusedSectionVars false
set_option linter.unusedSimpArgs false
set_option linter.constructorNameAsVariable false
namespace Go.Proofs.YtfmopmjgohopeaaGreatDoor.Ev
open Go Go.RowKit

section
variable [Xt] {P : Program} {ng n0 : Nat} {σ : Sg} {h : AH} {w : World}

theorem ERs.at {σ : Sg} : ∀ {a : List (AV × AV × Nat)} {v : List MapEntry}, ERs σ a v → ∀ (i : Nat) y, v[i]? = some y → ∃ x, a[i]? = some x ∧ ER σ x y
  | [], [], _, i, y, h => by simp at h
  | a :: l, v :: m, r, 0, y, h => by simp at h; subst h; exact ⟨a, by simp, r.1⟩
  | a :: l, v :: m, r, i + 1, y, h => by simpa using ERs.at r.2 i y (by simpa using h)
  | [], _ :: _, r, _, _, _ => r.elim
  | _ :: _, [], r, _, _, _ => r.elim
theorem ERs.all_lt {σ : Sg} {n : Nat} : ∀ {a : List (AV × AV × Nat)} {v : List MapEntry}, ERs σ a v → a.all (fun e => Nat.blt e.2.2 n) = true → ∀ e ∈ v, e.born < n
  | [], [], _, _, e, he => by simp at he
  | a :: l, v :: m, r, h, e, he => by
    simp only [List.all_cons, Bool.and_eq_true] at h
    rcases List.mem_cons.1 he with rfl | he
    · rw [r.1.2.2]; simpa [nblt] using h.1
    · exact ERs.all_lt r.2 h.2 e he
  | [], _ :: _, r, _, _, _ => r.elim
  | _ :: _, [], r, _, _, _ => r.elim

/-- whatever is asked, one of so many is answered -/
theorem choose_map (n : Nat) (hn : 0 < n) (w : World) : ∃ i w1, i < n ∧ (choose (.mapNext n)).run P w = .ok i w1 ∧ w1.heap = w.heap ∧ Below n0 w w1 := by
  by_cases hf : (Question.mapNext n).forced = true
  · exact ⟨0, w, hn, by simp [choose, Sem.run, hf], rfl, Below.refl _ _⟩
  · exact ⟨w.tape w.drawn (.mapNext n) % n, { w with drawn := w.drawn + 1 }, Nat.mod_lt _ hn, by simp [choose, Sem.run, hf, Question.cut], rfl, ⟨rfl, rfl, rfl, Nat.le_refl _, fun _ _ => rfl⟩⟩

theorem nexts_sound (R : HR ng n0 σ h w) {ty : TypeId} {x : AV} {xv : Value} {l : List (AV × AH)} (hx : VR σ x xv) (hq : anexts h x = some l) :
    ∃ p ∈ l, Eff P ng n0 σ h w p.1 p.2 (do pure (.value (← Instr.next xv false ty))) := by
  unfold anexts at hq
  split at hq
  · rename_i k
    obtain ⟨e, he, rfl⟩ := hx
    cases hb : h.get k with
    | none => simp [hb] at hq
    | some bl =>
      cases bl <;> simp only [hb] at hq <;> try (cases hq; done)
      rename_i m since seen last
      obtain ⟨hbase, e', he', hw⟩ := R.blk k e _ he hb
      cases hm : h.get m with
      | none => simp [hm] at hq
      | some bm =>
        cases bm <;> simp only [hm] at hq <;> try (cases hq; done)
        rename_i es clock
        obtain ⟨es', hw', hr⟩ := R.blk m e' _ he' hm
        have hfil := filter_rel seen hr
        have hleft : (es'.filter fun e => !seen.toArray.contains e.born).toList = es'.toList.filter fun e => !seen.toArray.contains e.born := Array.toList_filter ..
        have hg1 : (getObj e.blk).run P w = .ok (.mapIter (some e'.blk) since seen.toArray last) w := by simp [getObj, Sem.run, hw]
        have hg2 : (getObj e'.blk).run P w = .ok (.map es' clock) w := by simp [getObj, Sem.run, hw']
        generalize hL : es.filter (fun e => !hasNat seen e.2.2) = L at hq hfil
        generalize hL' : es'.filter (fun e => !seen.toArray.contains e.born) = L' at hleft
        rw [← hleft] at hfil
        cases L with
        | nil => cases hq
        | cons e0 L0 =>
          simp only at hq
          cases hc : ((e0 :: L0).all (fun e => Nat.blt e.2.2 since) && (seen.isEmpty || es.any (fun e => Nat.blt e.2.2 last))) with
          | false => rw [hc] at hq; cases hq
          | true =>
            rw [hc, cond_true] at hq
            injection hq with hq; subst hq
            rw [Bool.and_eq_true] at hc
            obtain ⟨c1, c2⟩ := hc
            have hcond : (!seen.toArray.isEmpty && !es'.isEmpty && es'.all (fun e => decide (e.born ≥ last))) = false := by
              rw [Bool.or_eq_true] at c2
              rcases c2 with c2 | c2
              · have : seen = [] := by simpa using c2
                subst this; simp
              · have := (any_rel last hr c2).1
                rw [Array.all_toList] at this
                simp [this]
            have hlt := ERs.all_lt hfil c1
            have hlen := ERs.length hfil
            have hold : L'.filter (fun e => decide (e.born < since)) = L' := by
              rw [Array.filter_eq_self]
              intro a ha
              exact decide_eq_true (hlt a (by simpa using ha))
            have hnew : L'.filter (fun e => decide (e.born ≥ since)) = #[] := by
              rw [Array.filter_eq_empty_iff]
              intro a ha
              have := hlt a (by simpa using ha)
              simp; omega
            have hsz : 0 < L'.size := by
              have : L'.toList.length = L'.size := by simp
              simp only [List.length_cons] at hlen; omega
            have hne : L'.isEmpty = false := by
              cases hx : L'.isEmpty with
              | false => rfl
              | true => rw [Array.isEmpty_iff_size_eq_zero] at hx; omega
            obtain ⟨i, w1, hi, hch, hw1, hb1⟩ := choose_map (P := P) (n0 := n0) L'.size hsz w
            obtain ⟨y, hy⟩ : ∃ y, L'[i]? = some y := ⟨L'[i], by simp [hi]⟩
            obtain ⟨z, hz, hzy⟩ := ERs.at hfil i y (by simpa using hy)
            have hzm : z ∈ e0 :: L0 := List.mem_of_getElem? hz
            have R1 : HR ng n0 σ h w1 := R.world hw1
            have hwk : w1.heap[e.blk]? = some (.mapIter (some e'.blk) since seen.toArray last) := by rw [hw1]; exact hw
            have hob := obj_sound (P := P) R1 (b' := .mapIter m since (seen ++ [z.2.2]) clock) (o' := .mapIter (some e'.blk) since (seen.toArray.push y.born) clock) he hb rfl hwk rfl (fun w' hw2 => ⟨hbase, e', he', by rw [hw2, hzy.2.2]; simp⟩)
            refine ⟨_, List.mem_map.2 ⟨z, hzm, rfl⟩, σ, _, .value (.tuple #[.bool true, y.key, y.val]), ?_, Sg.le.refl σ, hob.2.1, hb1.trans hob.2.2, fun _ _ => rfl, Nat.le_refl _, .inl ⟨_, rfl, _, rfl, rfl, hzy.1, hzy.2.1, trivial⟩⟩
            have hcand : ((if (L'.filter (fun e => decide (e.born < since))).isEmpty then #[(none : Option MapEntry)] else #[]) ++ (L'.filter (fun e => decide (e.born < since)) ++ L'.filter (fun e => decide (e.born ≥ since))).map some) = L'.map some := by
              rw [hold, hnew, hne]; simp
            have hob1 := hob.1
            simp only [Instr.next, Loc.at, hbase, Nat.add_zero, Sem.run_bind, hg1, Result.andThen_ok, hg2, hcond, Bool.false_eq_true, if_false, hL', hcand, Array.size_map, hch, Array.getElem?_map, hy, Option.map_some, hob1, Sem.run_pure]
  · cases hq

variable {m : AM} {f : Frame} {cs base : List Frame} {p : List (Nat × Nat)} {ks : List Nat}

theorem adones_at {m : AM} : ∀ {l : List (AV × AH)} {ms : List AM}, adones P m l = some ms → ∀ q ∈ l, ∃ m' ∈ ms, AM.done P m q.1 q.2 = some m'
  | [], _, _, q, h => by cases h
  | x :: l, ms, h, q, hq => by
    simp only [adones] at h
    cases h1 : AM.done P m x.1 x.2 with
    | none => simp [h1] at h
    | some m1 =>
      cases h2 : adones P m l with
      | none => simp [h1, h2] at h
      | some ms' =>
        simp only [h1, h2] at h
        injection h with h; subst h
        rcases List.mem_cons.1 hq with rfl | hq
        · exact ⟨m1, List.mem_cons_self .., h1⟩
        · obtain ⟨m', h3, h4⟩ := adones_at h2 q hq
          exact ⟨m', List.mem_cons_of_mem _ h3, h4⟩

theorem forks_sound {ms : List AM} (M : MRx P ng n0 σ m f cs w p ks) (hq : aforks P ng m = some ms) : ∃ m' ∈ ms, Post P ng n0 σ w f cs base m' := by
  unfold aforks at hq
  cases hr : m.fr.ret with
  | true => rw [hr] at hq; cases hq
  | false =>
    rw [hr, cond_false] at hq
    split at hq
    · rename_i ops i o rest k ht
      have hm := M.run hr
      have htop := M.top.top
      rw [ht] at htop
      obtain ⟨k', e1, e2, e3, e4, e5⟩ := htop
      have hat : AtEff P m.fr.todo f.todo := by rw [ht]; unfold AtEff; trivial
      have hi : ops.toList[i]? = some o := by
        have : (ops.toList.drop i)[0]? = some o := by rw [← e2]; rfl
        simpa using this
      have hlt : i < ops.size := by
        have := (List.getElem?_eq_some_iff.1 hi).1; simpa using this
      have hr' : (List.range ops.size).drop i = i :: (List.range ops.size).drop (i + 1) := by
        rw [List.drop_eq_getElem_cons (by simpa using hlt)]; simp
      have ho : ops[i]? = some o := by simpa using hi
      rw [hr'] at e1
      split at hq
      · rename_i ha
        have hw := wanted_sound e4 (fun _ _ _ _ _ _ _ h => h) ha
        have A : AtOp f ops i _ k' o := ⟨e1, hm, ho, hw⟩
        have hops : ∀ x ∈ o.op.operands, VR σ (ev ng m.fr.tmps x) ((Frame.act f).eval x) := fun x _ => ev_sound M.heap e4 fun _ _ h => h
        split at hq
        · rename_i x hop
          split at hq
          · rename_i l hl
            obtain ⟨q, hql, he⟩ := nexts_sound (P := P) (ty := o.type) M.heap (hops x (by simp [hop, Op.operands])) hl
            obtain ⟨m', hm', hd⟩ := adones_at hq q hql
            refine ⟨m', hm', eff_done M hat hd he fun rr w' hrun hk => ?_⟩
            have hsem : o.semAt f.roundOf (Frame.act f).eval = execOp (Frame.act f).eval o := Oper.semAt_eq _ _ _ (by simp [hop])
            have hs : execOp (Frame.act f).eval o = (do pure (.value (← Instr.next ((Frame.act f).eval x) false o.type))) := by simp only [execOp, hop]
            rw [← hs, ← hsem] at hrun
            rcases hk with ⟨u, rfl⟩ | rfl
            · exact step_val A hrun
            · exact step_skp A hrun
          · cases hq
        · cases hq
      · cases hq
    · cases hq

/-! ### Calls told by their contracts -/
theorem HR.beyond (R : HR ng n0 σ h w) {w' : World} (hb : Below w.heap.size w w') : HR ng n0 σ h w' :=
  ⟨fun k e b h1 h2 => (R.blk k e b h1 h2).keep (Sg.le.refl σ) (hb.block _ (R.lt k e h1)), R.fresh, R.freshA, R.inj, fun k e he => Nat.lt_of_lt_of_le (R.lt k e he) hb.size, R.glob, R.own, R.ngn, Nat.le_trans R.big hb.size⟩
/-- what is asked of such contracts -/
def SumOk (P : Program) (ng : Nat) (S : AH → FuncId → List AV → Option (AV × AH)) : Prop :=
  ∀ (n0 : Nat) (σ : Sg) (h : AH) (w : World) (g : FuncId) (args : List AV) (v : AV) (h' : AH) (argv : Array Value), HR ng n0 σ h w → VRs σ args argv.toList → S h g args = some (v, h') →
    (∃ fn c, P.funcs[g]? = some fn ∧ fn.body = some c ∧ (fn.name == "runtime.NumGoroutine") = false) ∧
    Calls P g argv w fun e w' => ∃ u σ', e = .returned u ∧ σ.le σ' ∧ VR σ' v u ∧ HR ng n0 σ' h' w' ∧ (∀ k, k < h.next → σ' k = σ k) ∧ h.next ≤ h'.next ∧ Below n0 w w'
theorem sumOp_sound {S : AH → FuncId → List AV → Option (AV × AH)} (hS : SumOk P ng S) {m' : AM} {ops : Array Oper} {i : Nat} {r : List Nat} {k : List Item} {o : Oper} (M : MRx P ng n0 σ m f cs w p ks) (hat : AtEff P m.fr.todo f.todo) (A : AtOp f ops i r k o)
    (hops : ∀ x ∈ o.op.operands, VR σ (ev ng m.fr.tmps x) ((Frame.act f).eval x)) (hq : asumOp P ng S m o = some m') : Post P ng n0 σ w f cs base m' := by
  unfold asumOp at hq
  split at hq
  · rename_i c hop
    split at hq
    · rename_i g hc
      have hgv := hops g (by simp [hop, Op.operands, Call.operands, hc])
      have hargs := ops_map (σ := σ) (T := ev ng m.fr.tmps) (ρ := (Frame.act f).eval) (xs := c.args) fun x hx => hops x (by simp [hop, Op.operands, Call.operands]; right; exact hx)
      split at hq
      · rename_i fn first hg
        rw [hg] at hgv
        obtain ⟨x', y', hgv, hx', hy'⟩ := hgv
        have hy0 : y' = #[] := by
          have := VRs.length hy'
          apply Array.eq_empty_of_size_eq_zero
          simpa using this.symm
        subst hy0
        split at hq
        · rename_i v h' hv
          obtain ⟨⟨fnd, cd, f1, f2, f3⟩, hcall⟩ := hS n0 σ m.h w fn _ v h' (x' ++ c.args.map (Frame.act f).eval) M.heap (by rw [Array.toList_append]; exact VRs.app hx' hargs) hv
          obtain ⟨e, w', f', ⟨u, σ', rfl, hle, hu, hR, hs, hn, hb⟩, hst, hff, hret⟩ := hcall (f :: (cs ++ base))
          have hst : Steps P _ _ := hst
          have hcf : ∀ w, (callFunc fn (x' ++ c.args.map (Frame.act f).eval)).run P w = .ok (.enter fn (x' ++ c.args.map (Frame.act f).eval)) w := fun w => by
            have hn' : ¬ fnd.name = "runtime.NumGoroutine" := by simpa using f3
            simp [callFunc, f1, f2, hn', program, Sem.run]
          have hent := step_ent (P := P) (cs := cs ++ base) (w := w) A (g := fn) (args := x' ++ c.args.map (Frame.act f).eval) (w' := w) (by
            rw [Oper.semAt_eq _ _ _ (by simp [hop])]
            simp only [execOp, hop, resolve, hc, hgv, Deferred.ofValue, invoke, Sem.run_bind, Sem.run_pure, Result.andThen_ok, Array.append_empty, hcf])
          have hlv := step_leave_returned (c := f) (cs := cs ++ base) hret
          unfold AM.done at hq
          cases hf : AFrame.finish P m.fr v with
          | none => simp [hf] at hq
          | some fr =>
            simp only [hf] at hq
            injection hq with hq; subst hq
            obtain ⟨h1, h2, h3⟩ := finish_sound (ng := ng) (M.top.mono hle) hat hf hu
            exact ⟨σ', f.finish u, cs, w', p, ks, .head hent (hst.trans (.one hlv)), hle, ⟨h1, M.stack.mono hle, M.pg.keep hs hn, hR, h3 h'⟩, hb⟩
        · cases hq
      · cases hq
    · cases hq
  · cases hq
/-- in a region that draws its order: what is quiet runs first -/
theorem drw_call {m' : AM} (M : MRx P ng n0 σ m f cs w p ks) (hr : m.fr.ret = false) {ops : Array Oper} {dm um ed i : Nat} {o : Oper} {k : List AItem} (ht : m.fr.todo = .drw ops dm um ed true :: k)
    (hn : nextEff ops dm (effs P ops.toList 0) = some i) (ho0 : ops[i]? = some o) (ha : awanted ops m.fr.tmps o = some true)
    (K : ∀ (σ' : Sg) (f1 : Frame) (w' : World) (p' : List (Nat × Nat)) (r : List Nat) (k' : List Item), MRx P ng n0 σ' m f1 cs w' p' ks → AtEff P m.fr.todo f1.todo → AtOp f1 ops i r k' o → (∀ x ∈ o.op.operands, VR σ' (ev ng m.fr.tmps x) ((Frame.act f1).eval x)) → Post P ng n0 σ' w' f1 cs base m') :
    Post P ng n0 σ w f cs base m' := by
  have hm := M.run hr
  have htop := M.top.top
  rw [ht] at htop
  obtain ⟨l, k', e1, e3, hc, d, t⟩ := htop
  have hrdy := M.rdy
  rw [ht] at hrdy
  obtain ⟨l', c', w', σ', pend', s1, s2, s3, s4, s5, s6, s7, s8⟩ := quiet_run (P := P) (ng := ng) (b := f) (k := k') (cs := cs ++ base) (ks := ks) hc hrdy.1 hrdy.2 l f.tmps f.defers w σ p M.heap d t M.pg
  have hself : f.atR ⟨f.tmps, f.defers⟩ (.inRegion ops l :: k') = f := by rw [← e1]; exact atR_self hm
  rw [hself] at s1
  let f1 : Frame := f.atR ⟨c', f.defers⟩ (.inRegion ops l' :: k')
  have hmode1 : FrameMode.run = bif m.fr.ret then .returning else .run := by rw [hr]; rfl
  have M1 : MRx P ng n0 σ' m f1 cs w' pend' ks := by
    refine ⟨⟨M.top.fn, ?_, M.top.defers.mono s3, hmode1, M.top.kind, M.top.round.mono s3⟩, M.stack.mono s3, s7, s4, M.rdy⟩
    rw [ht]
    exact ⟨l', k', rfl, e3.mono s3, hc, s5, s6⟩
  refine Post.after s1 s3 s8 ?_
  have hne : ∃ r o, l' = i :: r ∧ ops[i]? = some o ∧ isEff P o.op = true := by
    rcases s2 with h | ⟨x, r, o, h1, h2, h3⟩
    · subst h
      obtain ⟨g1, g2, _⟩ := nextEff_spec hn
      obtain ⟨kk, o, h4, h5, h6⟩ := mem_effs.1 g1
      rw [Nat.zero_add] at h5; subst h5
      rw [(s5.eff i o (by simpa using h4) h6).1 (by simp)] at g2; cases g2
    · subst h1
      have := head_is hc s5 h2 h3 hn
      subst this
      exact ⟨r, o, rfl, h2, h3⟩
  obtain ⟨r, o', hl, ho, he⟩ := hne
  obtain rfl : o = o' := Option.some.inj (ho0.symm.trans ho)
  subst hl
  have nx : ∀ q oq x, ops[q]? = some oq → oq.dst = some x → isEff P oq.op = false → has (maskOf ops i) q = true → ¬ q ∈ i :: r := fun q _ _ _ _ _ hm => mask_head hc.back s5.sched q hm
  have hguard : ∀ g q og x, o.guard = some (g, q) → ops[g]? = some og → og.dst = some x → ¬ RX P ops (i :: r) x := fun g q og x h3 h4 h5 ⟨y, hy, oy, h6, h7, h8⟩ =>
    nx y oy x h6 h8 h7 (hc.guard i o g q og x y oy ho h3 h4 h5 h6 h8 h7) hy
  have hops : ∀ x ∈ o.op.operands, VR σ' (ev ng m.fr.tmps x) ((Frame.act f1).eval x) := fun x hx => ev_sound s4 s6 fun y hy ⟨q, hq, oq, h6, h7, h8⟩ => by
    subst hy
    have : y ∈ operTmps o := by
      unfold operTmps
      rw [List.mem_filterMap]
      exact ⟨.tmp y, by simpa using hx, rfl⟩
    exact nx q oq y h6 h8 h7 (hc.looks i o y q oq ho this h6 h8 h7) hq
  have hat : AtEff P m.fr.todo f1.todo := by rw [ht]; exact ⟨o, ho, he⟩
  have hw := wanted_sound s6 hguard ha
  exact K σ' f1 w' pend' r k' M1 hat ⟨rfl, rfl, ho, hw⟩ hops
theorem sum_sound {S : AH → FuncId → List AV → Option (AV × AH)} (hS : SumOk P ng S) {m' : AM} (M : MRx P ng n0 σ m f cs w p ks) (hq : asum P ng S m = some m') : Post P ng n0 σ w f cs base m' := by
  unfold asum at hq
  cases hr : m.fr.ret with
  | true => rw [hr] at hq; cases hq
  | false =>
    rw [hr, cond_false] at hq
    split at hq
    · rename_i ops i o rest k ht
      have hm := M.run hr
      have htop := M.top.top
      rw [ht] at htop
      obtain ⟨k', e1, e2, e3, e4, e5⟩ := htop
      have hat : AtEff P m.fr.todo f.todo := by rw [ht]; unfold AtEff; trivial
      have hi : ops.toList[i]? = some o := by
        have : (ops.toList.drop i)[0]? = some o := by rw [← e2]; rfl
        simpa using this
      have hlt : i < ops.size := by
        have := (List.getElem?_eq_some_iff.1 hi).1; simpa using this
      have hr' : (List.range ops.size).drop i = i :: (List.range ops.size).drop (i + 1) := by
        rw [List.drop_eq_getElem_cons (by simpa using hlt)]; simp
      have ho : ops[i]? = some o := by simpa using hi
      rw [hr'] at e1
      split at hq
      · rename_i ha
        have hw := wanted_sound e4 (fun _ _ _ _ _ _ _ h => h) ha
        have A : AtOp f ops i _ k' o := ⟨e1, hm, ho, hw⟩
        exact sumOp_sound hS M hat A (fun x _ => ev_sound M.heap e4 fun _ _ h => h) hq
      · cases hq
    · rename_i ops dm um ed k ht
      split at hq
      · rename_i i hn
        split at hq
        · rename_i o ho
          split at hq
          · rename_i ha
            exact drw_call M hr ht hn ho ha fun σ' f1 w' p' r k' M1 hat A hops => sumOp_sound hS M1 hat A hops hq
          · cases hq
        · cases hq
      · cases hq
    · cases hq

/-- from a state to one of these -/
def LeadsTo (P : Program) (ng : Nat) (m : AM) (ms : List AM) : Prop :=
  ∀ (n0 : Nat) (σ : Sg) (f : Frame) (cs base : List Frame) (w : World) (p : List (Nat × Nat)) (l : List Nat), MRx P ng n0 σ m f cs w p l → ∃ m' ∈ ms, Post P ng n0 σ w f cs base m'
theorem Post.trans {σ : Sg} {m1 m2 : AM} (h1 : Post P ng n0 σ w f cs base m1) (h2 : ∀ (σ : Sg) (f : Frame) (cs : List Frame) (w : World) (p : List (Nat × Nat)) (l : List Nat), MRx P ng n0 σ m1 f cs w p l → Post P ng n0 σ w f cs base m2) : Post P ng n0 σ w f cs base m2 := by
  obtain ⟨σ1, f1, cs1, w1, p1, ks1, s1, l1, M1, b1⟩ := h1
  obtain ⟨σ2, f2, cs2, w2, p2, ks2, s2, l2, M2, b2⟩ := h2 _ _ _ _ _ _ M1
  exact ⟨σ2, f2, cs2, w2, p2, ks2, s1.trans s2, l1.trans l2, M2, b1.trans b2⟩
theorem Post.one_of {σ : Sg} {m1 : AM} {ms : List AM} (h1 : Post P ng n0 σ w f cs base m1) (h2 : LeadsTo P ng m1 ms) : ∃ m' ∈ ms, Post P ng n0 σ w f cs base m' := by
  obtain ⟨σ1, f1, cs1, w1, p1, ks1, s1, l1, M1, b1⟩ := h1
  obtain ⟨m', hm, σ2, f2, cs2, w2, p2, ks2, s2, l2, M2, b2⟩ := h2 n0 σ1 f1 cs1 base w1 p1 ks1 M1
  exact ⟨m', hm, σ2, f2, cs2, w2, p2, ks2, s1.trans s2, l1.trans l2, M2, b1.trans b2⟩

/-- A script's run leads from each of its states to one of its ends. -/
theorem scr_sound (hP : 8 ≤ P.types.size) (hmix : P.follows .mixedOrders = true) {S : AH → FuncId → List AV → Option (AV × AH)} (hS : SumOk P ng S) : ∀ (s : Sc) (l ms : List AM), scr P ng S s l = some ms → ∀ m ∈ l, LeadsTo P ng m ms
  | .stop, l, ms, hq, m, hm => by
    match l, hq with
    | [m1], hq =>
      simp only [scr] at hq
      injection hq with hq; subst hq
      intro n0 σ f cs base w p ks M
      exact ⟨m, hm, σ, f, cs, w, p, ks, .refl _ _, Sg.le.refl σ, M, Below.refl _ _⟩
  | .go n s, l, ms, hq, m, hm => by
    match l, hq with
    | [m1], hq =>
      obtain rfl : m = m1 := by simpa using hm
      simp only [scr] at hq
      cases hr : arun P ng n m with
      | none => simp [hr] at hq
      | some m2 =>
        simp only [hr] at hq
        have ih := scr_sound hP hmix hS s [m2] ms hq m2 (List.mem_cons_self ..)
        intro n0 σ f cs base w p ks M
        exact Post.one_of (run_sound (base := base) hP hmix n m m2 σ f cs w p ks M hr) ih
  | .fork s, l, ms, hq, m, hm => by
    match l, hq with
    | [m1], hq =>
      obtain rfl : m = m1 := by simpa using hm
      simp only [scr] at hq
      cases hr : aforks P ng m with
      | none => simp [hr] at hq
      | some l2 =>
        simp only [hr] at hq
        intro n0 σ f cs base w p ks M
        obtain ⟨m2, hm2, hp⟩ := forks_sound (base := base) M hr
        exact Post.one_of hp (scr_sound hP hmix hS s l2 ms hq m2 hm2)
  | .sum s, l, ms, hq, m, hm => by
    match l, hq with
    | [m1], hq =>
      obtain rfl : m = m1 := by simpa using hm
      simp only [scr] at hq
      cases hr : asum P ng S m with
      | none => simp [hr] at hq
      | some m2 =>
        simp only [hr] at hq
        intro n0 σ f cs base w p ks M
        exact Post.one_of (sum_sound (base := base) hS M hr) (scr_sound hP hmix hS s [m2] ms hq m2 (List.mem_cons_self ..))
  | .alt a b, l, ms, hq, m, hm => by
    match l, hq with
    | m1 :: l1, hq =>
      simp only [scr] at hq
      cases h1 : scr P ng S a [m1] with
      | none => simp [h1] at hq
      | some x =>
        cases h2 : scr P ng S b l1 with
        | none => simp [h1, h2] at hq
        | some y =>
          simp only [h1, h2] at hq
          injection hq with hq; subst hq
          rcases List.mem_cons.1 hm with rfl | hm
          · intro n0 σ f cs base w p ks M
            obtain ⟨m', h3, h4⟩ := scr_sound hP hmix hS a [m] x h1 m (List.mem_cons_self ..) n0 σ f cs base w p ks M
            exact ⟨m', List.mem_append.2 (.inl h3), h4⟩
          · intro n0 σ f cs base w p ks M
            obtain ⟨m', h3, h4⟩ := scr_sound hP hmix hS b l1 y h2 m hm n0 σ f cs base w p ks M
            exact ⟨m', List.mem_append.2 (.inr h3), h4⟩
  | .nil, l, ms, hq, m, hm => by
    match l, hq with
    | [], _ => cases hm
end
end Go.Proofs.YtfmopmjgohopeaaGreatDoor.Ev

/-
  The abstract machine: runs in pieces; memory that is no longer needed is let go; words for what stands between two pieces.
-/
set_option linter.unusedVariables false
set_option linter.unusedSectionVars false
set_option linter.unusedSimpArgs false
set_option linter.constructorNameAsVariable false
namespace Go.Proofs.YtfmopmjgohopeaaGreatDoor.Ev
open Go Go.RowKit

/-! ### Quick tables -/
def evens {α : Type} : List α → List α
  | [] => []
  | [x] => [x]
  | x :: _ :: l => x :: evens l
def odds {α : Type} : List α → List α
  | [] => []
  | _ :: l => evens l
def ofL {α : Type} : Nat → List α → Tr α
  | 0, _ => .l
  | _ + 1, [] => .l
  | f + 1, x :: l => .n (some x) (ofL f (evens l)) (ofL f (odds l))
theorem evens_get {α : Type} : ∀ (l : List α) (i : Nat), (evens l)[i]? = l[2 * i]?
  | [], i => by simp [evens]
  | [x], 0 => rfl
  | [x], i + 1 => by simp [evens, show 2 * (i + 1) = 2 * i + 1 + 1 by omega]
  | x :: y :: l, 0 => rfl
  | x :: y :: l, i + 1 => by
    rw [show 2 * (i + 1) = 2 * i + 1 + 1 by omega]
    simp only [evens, List.getElem?_cons_succ]
    exact evens_get l i
theorem odds_get {α : Type} : ∀ (l : List α) (i : Nat), (odds l)[i]? = l[2 * i + 1]?
  | [], i => by simp [odds]
  | _ :: l, i => by simp only [odds, List.getElem?_cons_succ]; exact evens_get l i
theorem evens_len {α : Type} : ∀ (l : List α), 2 * (evens l).length ≤ l.length + 1
  | [] => by simp [evens]
  | [x] => by simp [evens]
  | x :: y :: l => by simp only [evens, List.length_cons]; have := evens_len l; omega
theorem odds_len {α : Type} : ∀ (l : List α), 2 * (odds l).length ≤ l.length
  | [] => by simp [odds]
  | _ :: l => by simp only [odds, List.length_cons]; exact evens_len l
theorem ofL_get {α : Type} : ∀ (f : Nat) (l : List α) (i : Nat), l.length < 2 ^ f → (ofL f l).get i = l[i]?
  | 0, l, i, h => by
    have : l = [] := List.eq_nil_of_length_eq_zero (by simpa using h)
    subst this; rw [ofL, Tr.get_l]; simp
  | f + 1, [], i, _ => by rw [ofL, Tr.get_l]; simp
  | f + 1, x :: l, i, h => by
    have hp : 2 ^ (f + 1) = 2 * 2 ^ f := by rw [Nat.pow_succ]; omega
    simp only [List.length_cons] at h
    rw [ofL, Tr.get_n]
    by_cases h0 : i = 0
    · subst h0; simp
    · rw [if_neg h0]
      obtain ⟨j, rfl⟩ : ∃ j, i = j + 1 := ⟨i - 1, by omega⟩
      rw [List.getElem?_cons_succ]
      have e1 := evens_len l
      have e2 := odds_len l
      by_cases h1 : (j + 1) % 2 = 1
      · rw [if_pos h1, ofL_get f _ _ (by omega), evens_get]; congr 1; omega
      · rw [if_neg h1, ofL_get f _ _ (by omega), odds_get]; congr 1; omega
def infoOf (P : Program) (types : Tr TypeInfo) (t : TypeId) : Option TypeInfo :=
  match types.get t with
  | some i => some i
  | none => P.info? t
def lkOf (P : Program) (types : Tr TypeInfo) (fns : Tr Func) : Lk where
  info? := infoOf P types
  underlying t := match infoOf P types t with
  | some { desc := .named _ u, .. } => (infoOf P types u).map (·.desc)
  | some i => some i.desc
  | none => none
  fn := fns.get
theorem lk_eq {P : Program} (h1 : P.types.toList.length < 2 ^ 12) (h2 : P.funcs.toList.length < 2 ^ 12) : lkOf P (ofL 12 P.types.toList) (ofL 12 P.funcs.toList) = Lk.of P := by
  have e1 : infoOf P (ofL 12 P.types.toList) = P.info? := by
    funext t
    unfold infoOf
    rw [ofL_get _ _ _ h1]
    cases ht : P.types.toList[t]? with
    | none => rfl
    | some i =>
      have hlt : t < P.types.size := by
        have := (List.getElem?_eq_some_iff.1 ht).1; simpa using this
      show some i = Tables.info? P.toTables t
      unfold Tables.info?
      rw [if_pos hlt, ← ht]; simp
  have e2 : (ofL 12 P.funcs.toList).get = fun f => P.funcs[f]? := by
    funext t; rw [ofL_get _ _ _ h2]; simp
  unfold lkOf Lk.of
  rw [e1, e2]
  rfl

/-! ### A state written out: what is handed on is constructors alone -/
section
variable {α : Type}
def nfN (n : Nat) (k : Nat → α) : α := match n with
  | 0 => k 0
  | m + 1 => k (m + 1)
def nfNs : List Nat → (List Nat → α) → α
  | [], k => k []
  | n :: l, k => nfN n fun n => nfNs l fun l => k (n :: l)
def nfBs (b : Bs) (k : Bs → α) : α := match b with
  | ⟨n, v⟩ => nfN n fun n => nfN v fun v => k ⟨n, v⟩
def nfI (i : Int) (k : Int → α) : α := match i with
  | .ofNat n => nfN n fun n => k (.ofNat n)
  | .negSucc n => nfN n fun n => k (.negSucc n)
def nfB (b : Bool) (k : Bool → α) : α := match b with
  | true => k true
  | false => k false
def nfK (j : IntKind) (k : IntKind → α) : α := match j with
  | .i8 => k .i8 | .i16 => k .i16 | .i32 => k .i32 | .i64 => k .i64 | .u8 => k .u8 | .u16 => k .u16 | .u32 => k .u32 | .u64 => k .u64
def nfC (c : Cap) (k : Cap → α) : α := match c with
  | .is n => nfN n fun n => k (.is n)
  | .room n => nfN n fun n => k (.room n)
def nfV (v : Value) (k : Value → α) : α := match v with
  | .pointer none => k (.pointer none)
  | .slice none a b => nfN a fun a => nfN b fun b => k (.slice none a b)
  | .map none => k (.map none)
  | .nilFunc => k .nilFunc
  | .nilIface => k .nilIface
  | v => k v
def nfO {β : Type} (f : β → (β → α) → α) (o : Option β) (k : Option β → α) : α := match o with
  | none => k none
  | some x => f x fun x => k (some x)
mutual
def AV.nf : AV → (AV → α) → α
  | .any, k => k .any
  | .lit v, k => nfV v fun v => k (.lit v)
  | .bool b, k => nfB b fun b => k (.bool b)
  | .int j n, k => nfK j fun j => nfI n fun n => k (.int j n)
  | .str s, k => nfBs s fun s => k (.str s)
  | .ptr a b, k => nfN a fun a => nfN b fun b => k (.ptr a b)
  | .slice a b c d, k => nfN a fun a => nfN b fun b => nfN c fun c => nfC d fun d => k (.slice a b c d)
  | .empty c, k => nfO nfN c fun c => k (.empty c)
  | .map a, k => nfN a fun a => k (.map a)
  | .func f x y, k => nfN f fun f => AV.nfs x fun x => AV.nfs y fun y => k (.func f x y)
  | .yield a, k => nfN a fun a => k (.yield a)
  | .iface t v, k => nfN t fun t => AV.nf v fun v => k (.iface t v)
  | .agg l, k => AV.nfs l fun l => k (.agg l)
  | .tuple l, k => AV.nfs l fun l => k (.tuple l)
def AV.nfs : List AV → (List AV → α) → α
  | [], k => k []
  | a :: l, k => AV.nf a fun a => AV.nfs l fun l => k (a :: l)
end
def nfL {β : Type} (f : β → (β → α) → α) : List β → (List β → α) → α
  | [], k => k []
  | a :: l, k => f a fun a => nfL f l fun l => k (a :: l)
def nfT {β : Type} (f : β → (β → α) → α) : Tr β → (Tr β → α) → α
  | .l, k => k .l
  | .n v a b, k => nfO f v fun v => nfT f a fun a => nfT f b fun b => k (.n v a b)
/-- the head alone: what stands in a code is the program's text -/
def nfCode (c : Code) (k : Code → α) : α := match c with
  | .skip => k .skip
  | .seq a b => k (.seq a b)
  | .cond a b c => k (.cond a b c)
  | .block a b => k (.block a b)
  | .loop a => k (.loop a)
  | .scope a => k (.scope a)
  | .exit a => k (.exit a)
  | .goto a => k (.goto a)
  | .label a => k (.label a)
  | .ret => k .ret
  | .region a b c => k (.region a b c)
  | .rangeFunc a b c d => k (.rangeFunc a b c d)
  | .refuse a => k (.refuse a)
def nfOps (a : Array Oper) (k : Array Oper → α) : α := match a with
  | ⟨l⟩ => k ⟨l⟩
def nfOpl (a : List Oper) (k : List Oper → α) : α := match a with
  | [] => k []
  | o :: l => k (o :: l)
def AItem.nf : AItem → (AItem → α) → α
  | .code c, k => nfCode c fun c => k (.code c)
  | .inBlock n, k => nfN n fun n => k (.inBlock n)
  | .inLoop c, k => nfCode c fun c => k (.inLoop c)
  | .inScope c, k => nfCode c fun c => k (.inScope c)
  | .reg o i l, k => nfOps o fun o => nfN i fun i => nfOpl l fun l => k (.reg o i l)
  | .drw o a b c r, k => nfOps o fun o => nfN a fun a => nfN b fun b => nfN c fun c => nfB r fun r => k (.drw o a b c r)
  | .rangeF n, k => nfN n fun n => k (.rangeF n)
  | .endF n, k => nfN n fun n => k (.endF n)
  | .beginRound, k => k .beginRound
def ADef.nf : ADef → (ADef → α) → α
  | .call f c a, k => nfN f fun f => AV.nfs c fun c => AV.nfs a fun a => k (.call f c a)
  | .collected n, k => nfN n fun n => k (.collected n)
def nfSt (s : LoopState) (k : LoopState → α) : α := match s with
  | .ready => k .ready
  | .busy => k .busy
  | .done => k .done
  | .exhausted => k .exhausted
def nfTmps (a : Array Tmp) (k : Array Tmp → α) : α := match a with
  | ⟨l⟩ => nfNs l fun l => k ⟨l⟩
def ALoop.nf (l : ALoop) (k : ALoop → α) : α := match l with
  | ⟨s, p, f, nt, T, ps, a, b, d⟩ => nfSt s fun s => nfO nfCode p fun p => nfN f fun f => nfN nt fun nt => nfT AV.nf T fun T => nfTmps ps fun ps => nfCode a fun a => nfCode b fun b => nfN d fun d => k ⟨s, p, f, nt, T, ps, a, b, d⟩
def nfE (e : AV × AV × Nat) (k : AV × AV × Nat → α) : α := match e with
  | (a, b, n) => AV.nf a fun a => AV.nf b fun b => nfN n fun n => k (a, b, n)
def Cs.nf : Cs → (Cs → α) → α
  | .av l, k => AV.nfs l fun l => k (.av l)
  | .bt b, k => nfBs b fun b => k (.bt b)
def ABlock.nf : ABlock → (ABlock → α) → α
  | .cells r cs, k => nfB r fun r => Cs.nf cs fun cs => k (.cells r cs)
  | .map es n, k => nfL nfE es fun es => nfN n fun n => k (.map es n)
  | .mapIter a b c d, k => nfN a fun a => nfN b fun b => nfNs c fun c => nfN d fun d => k (.mapIter a b c d)
  | .strIter s n, k => nfBs s fun s => nfN n fun n => k (.strIter s n)
  | .loop l, k => ALoop.nf l fun l => k (.loop l)
  | .deferred ds, k => nfL ADef.nf ds fun ds => k (.deferred ds)
def AFrame.nf (f : AFrame) (k : AFrame → α) : α := match f with
  | ⟨fn, nt, T, td, ds, r, d, o⟩ => nfN fn fun fn => nfN nt fun nt => nfT AV.nf T fun T => nfL AItem.nf td fun td => nfL ADef.nf ds fun ds => nfB r fun r => nfB d fun d => nfO nfN o fun o => k ⟨fn, nt, T, td, ds, r, d, o⟩
def AM.nf (m : AM) (k : AM → α) : α := match m with
  | ⟨fr, cs, h⟩ => match h with
    | ⟨n, t⟩ => AFrame.nf fr fun fr => nfL AFrame.nf cs fun cs => nfN n fun n => nfT ABlock.nf t fun t => k ⟨fr, cs, ⟨n, t⟩⟩

theorem nfN_eq (n : Nat) (k : Nat → α) : nfN n k = k n := by cases n <;> rfl
theorem nfNs_eq : ∀ (l : List Nat) (k : List Nat → α), nfNs l k = k l
  | [], _ => rfl
  | n :: l, k => by rw [nfNs, nfN_eq, nfNs_eq l]
theorem nfBs_eq (b : Bs) (k : Bs → α) : nfBs b k = k b := by cases b; simp only [nfBs, nfN_eq]
theorem nfI_eq (n : Int) (k : Int → α) : nfI n k = k n := by cases n <;> simp only [nfI, nfN_eq]
theorem nfB_eq (b : Bool) (k : Bool → α) : nfB b k = k b := by cases b <;> rfl
theorem nfK_eq (b : IntKind) (k : IntKind → α) : nfK b k = k b := by cases b <;> rfl
theorem nfC_eq (b : Cap) (k : Cap → α) : nfC b k = k b := by cases b <;> simp only [nfC, nfN_eq]
theorem nfV_eq (b : Value) (k : Value → α) : nfV b k = k b := by
  unfold nfV; split <;> first | rfl | (rw [nfN_eq, nfN_eq])
theorem nfO_eq {β : Type} {f : β → (β → α) → α} (hf : ∀ b k, f b k = k b) (o : Option β) (k : Option β → α) : nfO f o k = k o := by
  cases o with
  | none => rfl
  | some x => exact hf _ _
mutual
theorem AV.nf_eq : ∀ (a : AV) (k : AV → α), AV.nf a k = k a
  | .any, _ => rfl
  | .lit _, _ => by rw [AV.nf, nfV_eq]
  | .bool _, _ => by rw [AV.nf, nfB_eq]
  | .int _ _, _ => by rw [AV.nf, nfK_eq, nfI_eq]
  | .str _, _ => by rw [AV.nf, nfBs_eq]
  | .ptr _ _, _ => by rw [AV.nf, nfN_eq, nfN_eq]
  | .slice _ _ _ _, _ => by rw [AV.nf, nfN_eq, nfN_eq, nfN_eq, nfC_eq]
  | .empty _, _ => by rw [AV.nf, nfO_eq nfN_eq]
  | .map _, _ => by rw [AV.nf, nfN_eq]
  | .func _ x y, _ => by rw [AV.nf, nfN_eq, AV.nfs_eq x, AV.nfs_eq y]
  | .yield _, _ => by rw [AV.nf, nfN_eq]
  | .iface _ v, _ => by rw [AV.nf, nfN_eq, AV.nf_eq v]
  | .agg l, _ => by rw [AV.nf, AV.nfs_eq l]
  | .tuple l, _ => by rw [AV.nf, AV.nfs_eq l]
theorem AV.nfs_eq : ∀ (a : List AV) (k : List AV → α), AV.nfs a k = k a
  | [], _ => rfl
  | a :: l, _ => by rw [AV.nfs, AV.nf_eq a, AV.nfs_eq l]
end
theorem nfL_eq {β : Type} {f : β → (β → α) → α} (hf : ∀ b k, f b k = k b) : ∀ (l : List β) (k : List β → α), nfL f l k = k l
  | [], _ => rfl
  | a :: l, k => by rw [nfL, hf, nfL_eq hf l]
theorem nfT_eq {β : Type} {f : β → (β → α) → α} (hf : ∀ b k, f b k = k b) : ∀ (t : Tr β) (k : Tr β → α), nfT f t k = k t
  | .l, _ => rfl
  | .n v a b, k => by rw [nfT, nfO_eq hf, nfT_eq hf a, nfT_eq hf b]
theorem nfCode_eq (c : Code) (k : Code → α) : nfCode c k = k c := by cases c <;> rfl
theorem nfOps_eq (c : Array Oper) (k : Array Oper → α) : nfOps c k = k c := by cases c; rfl
theorem nfOpl_eq (c : List Oper) (k : List Oper → α) : nfOpl c k = k c := by cases c <;> rfl
theorem AItem.nf_eq (c : AItem) (k : AItem → α) : AItem.nf c k = k c := by
  cases c <;> simp only [AItem.nf, nfCode_eq, nfN_eq, nfOps_eq, nfOpl_eq, nfB_eq]
theorem ADef.nf_eq (c : ADef) (k : ADef → α) : ADef.nf c k = k c := by
  cases c <;> simp only [ADef.nf, nfN_eq, AV.nfs_eq]
theorem nfSt_eq (c : LoopState) (k : LoopState → α) : nfSt c k = k c := by cases c <;> rfl
theorem nfTmps_eq (c : Array Tmp) (k : Array Tmp → α) : nfTmps c k = k c := by
  cases c; simp only [nfTmps, nfNs_eq]
theorem ALoop.nf_eq (c : ALoop) (k : ALoop → α) : ALoop.nf c k = k c := by
  cases c; simp only [ALoop.nf, nfSt_eq, nfO_eq nfCode_eq, nfN_eq, nfT_eq AV.nf_eq, nfTmps_eq, nfCode_eq]
theorem nfE_eq (c : AV × AV × Nat) (k : AV × AV × Nat → α) : nfE c k = k c := by
  obtain ⟨a, b, n⟩ := c; simp only [nfE, AV.nf_eq, nfN_eq]
theorem Cs.nf_eq (c : Cs) (k : Cs → α) : Cs.nf c k = k c := by cases c <;> simp only [Cs.nf, nfBs_eq, AV.nfs_eq]
theorem ABlock.nf_eq (c : ABlock) (k : ABlock → α) : ABlock.nf c k = k c := by
  cases c <;> simp only [ABlock.nf, nfB_eq, Cs.nf_eq, nfBs_eq, nfL_eq nfE_eq, nfN_eq, nfNs_eq, ALoop.nf_eq, nfL_eq ADef.nf_eq]
theorem AFrame.nf_eq (c : AFrame) (k : AFrame → α) : AFrame.nf c k = k c := by
  cases c; simp only [AFrame.nf, nfN_eq, nfT_eq AV.nf_eq, nfL_eq AItem.nf_eq, nfL_eq ADef.nf_eq, nfB_eq, nfO_eq nfN_eq]
theorem AM.nf_eq (c : AM) (k : AM → α) : AM.nf c k = k c := by
  obtain ⟨fr, cs, ⟨n, t⟩⟩ := c; simp only [AM.nf, nfN_eq, nfT_eq ABlock.nf_eq, nfL_eq AFrame.nf_eq, AFrame.nf_eq]
end

/-! ### Memory is let go -/
def keepGo (t : Tr ABlock) : List Nat → Tr ABlock → Tr ABlock
  | [], r => r
  | k :: ks, r => keepGo t ks (r.set k (t.get k))
def AM.gc (m : AM) (ks : List Nat) : AM := match m with | ⟨fr, cs, h⟩ => match h with | ⟨n, t⟩ => ⟨fr, cs, ⟨n, keepGo t ks .l⟩⟩
theorem keepGo_get {t : Tr ABlock} : ∀ (ks : List Nat) (r : Tr ABlock) (k : Nat) (b : ABlock), (keepGo t ks r).get k = some b → r.get k = some b ∨ t.get k = some b
  | [], _, _, _, h => .inl h
  | x :: ks, r, k, b, h => by
    rcases keepGo_get ks _ k b h with h | h
    · rw [Tr.get_set] at h
      by_cases hx : k = x
      · rw [if_pos hx] at h; subst hx; exact .inr h
      · rw [if_neg hx] at h; exact .inl h
    · exact .inr h
section
variable [Xt] {P : Program} {ng n0 : Nat} {σ : Sg} {h : AH} {w : World}
theorem HR.fewer {h' : AH} (R : HR ng n0 σ h w) (hg : ∀ k b, h'.get k = some b → h.get k = some b) (hn : h'.next = h.next) : HR ng n0 σ h' w :=
  ⟨fun k e b h1 h2 => R.blk k e b h1 (hg k b h2), fun k hk => R.fresh k (by rw [← hn]; exact hk), fun k hk => by
    cases hx : h'.get k with
    | none => rfl
    | some b => rw [← R.freshA k (by rw [← hn]; exact hk), hg k b hx],
   fun k k' e e' b b' h1 h2 h3 h4 => R.inj k k' e e' b b' h1 h2 (hg k b h3) (hg k' b' h4), R.lt, R.glob, fun k e b h1 h2 => R.own k e b h1 (hg k b h2), by rw [hn]; exact R.ngn, R.big⟩

def notReady : List AItem → Bool
  | .drw _ _ _ _ true :: _ => false
  | _ => true
theorem Rdy.of {nt : Nat} {T : Tr AV} {a : List AItem} (hp : notReady a = true) : Rdy P ng nt T h a := by
  unfold Rdy
  split
  · cases hp
  · trivial
theorem MRx.gc {m : AM} {f : Frame} {cs : List Frame} {p : List (Nat × Nat)} {l : List Nat} (M : MRx P ng n0 σ m f cs w p l) (ks : List Nat) (hp : notReady m.fr.todo = true) : MRx P ng n0 σ (m.gc ks) f cs w p l :=
  ⟨M.top, M.stack, ⟨M.pg.1, M.pg.2⟩, M.heap.fewer (fun k b hb => by
    rcases keepGo_get ks .l k b hb with h | h
    · rw [Tr.get_l] at h; cases h
    · exact h) rfl, Rdy.of hp⟩

/-- from one state to another: whatever memory the first stands for -/
def Leads (P : Program) (ng : Nat) (m m' : AM) : Prop :=
  ∀ (n0 : Nat) (σ : Sg) (f : Frame) (cs base : List Frame) (w : World) (p : List (Nat × Nat)) (l : List Nat), MRx P ng n0 σ m f cs w p l → Post P ng n0 σ w f cs base m'
theorem Leads.trans {a b c : AM} (h1 : Leads P ng a b) (h2 : Leads P ng b c) : Leads P ng a c := fun n0 σ f cs base w p l M => by
  obtain ⟨σ1, f1, cs1, w1, p1, ks1, s1, l1, M1, b1⟩ := h1 n0 σ f cs base w p l M
  obtain ⟨σ2, f2, cs2, w2, p2, ks2, s2, l2, M2, b2⟩ := h2 n0 σ1 f1 cs1 base w1 p1 ks1 M1
  exact ⟨σ2, f2, cs2, w2, p2, ks2, s1.trans s2, l1.trans l2, M2, b1.trans b2⟩

/-- a piece of a run: so many steps, and what is kept of the memory -/
def piece (L : Lk) (ng n : Nat) (ks : List Nat) (m : AM) : Option AM :=
  match K.arun L ng n m with
  | some m' => bif notReady m'.fr.todo then AM.nf (m'.gc ks) some else none
  | none => none
theorem leads_piece (hP : 8 ≤ P.types.size) (hmix : P.follows .mixedOrders = true) {L : Lk} (hL : L = Lk.of P) {n : Nat} {ks : List Nat} {m m' : AM} (hq : piece L ng n ks m = some m') : Leads P ng m m' := by
  subst hL
  unfold piece at hq
  have e : K.arun (Lk.of P) ng n m = arun P ng n m := congrFun (congrFun K.arun_eq n) m
  rw [e] at hq
  intro n0 σ f cs base w p l M
  cases hr : arun P ng n m with
  | none => simp [hr] at hq
  | some m1 =>
    simp only [hr] at hq
    cases hn : notReady m1.fr.todo with
    | false => rw [hn] at hq; cases hq
    | true =>
      rw [hn, cond_true, AM.nf_eq] at hq
      injection hq with hq; subst hq
      obtain ⟨σ1, f1, cs1, w1, p1, ks1, s1, l1, M1, b1⟩ := run_sound (base := base) hP hmix n m m1 σ f cs w p l M hr
      exact ⟨σ1, f1, cs1, w1, p1, ks1, s1, l1, M1.gc ks hn, b1⟩

/-- a piece that parts and meets again -/
def noSum : AH → FuncId → List AV → Option (AV × AH) := fun _ _ _ => none
theorem noSum_ok {P : Program} {ng : Nat} : SumOk P ng noSum := fun _ _ _ _ _ _ _ _ _ _ _ h => by cases h
def pieceS (S : AH → FuncId → List AV → Option (AV × AH)) (L : Lk) (ng : Nat) (s : Sc) (ks : List Nat) (m : AM) : Option (List AM) :=
  match K.scr L ng S s [m] with
  | some ms => bif ms.all (fun m' => notReady m'.fr.todo) then nfL AM.nf (ms.map fun m' => m'.gc ks) some else none
  | none => none
theorem leads_pieceS (hP : 8 ≤ P.types.size) (hmix : P.follows .mixedOrders = true) {S : AH → FuncId → List AV → Option (AV × AH)} (hS : SumOk P ng S) {L : Lk} (hL : L = Lk.of P) {s : Sc} {ks : List Nat} {n : Nat} {m m' : AM} (hq : pieceS S L ng s ks m = some (List.replicate n m')) : Leads P ng m m' := by
  subst hL
  unfold pieceS at hq
  have e : K.scr (Lk.of P) ng S s [m] = scr P ng S s [m] := congrFun (congrFun (congrFun K.scr_eq S) s) [m]
  rw [e] at hq
  intro n0 σ f cs base w p l M
  cases hr : scr P ng S s [m] with
  | none => simp [hr] at hq
  | some ms =>
    simp only [hr] at hq
    cases hn : ms.all (fun m' => notReady m'.fr.todo) with
    | false => rw [hn] at hq; cases hq
    | true =>
      rw [hn, cond_true, nfL_eq AM.nf_eq] at hq
      injection hq with hq
      obtain ⟨m1, hm1, σ1, f1, cs1, w1, p1, ks1, s1, l1, M1, b1⟩ := scr_sound hP hmix hS s [m] ms hr m (List.mem_cons_self ..) n0 σ f cs base w p l M
      have hg : m1.gc ks = m' := List.eq_of_mem_replicate (hq ▸ List.mem_map.2 ⟨m1, hm1, rfl⟩)
      rw [← hg]
      exact ⟨σ1, f1, cs1, w1, p1, ks1, s1, l1, M1.gc ks (List.all_eq_true.1 hn m1 hm1), b1⟩

end
section
variable {P : Program} {ng n0 : Nat} {σ : Sg} {h : AH} {w : World}
/-- **A CLOSED RUN IN PIECES.** -/
theorem calls_leads {g : FuncId} {args : List AV} {argv : Array Value} {fr : AFrame} {h0 : AH} {σ : Sg} {w : World} {m' : AM} {v : AV}
    (hen : AFrame.enter P g args false = some fr) (ha : VRs σ args argv.toList) (R : HR ng w.heap.size σ h0 w) (hrun : Leads P ng { fr, cs := [], h := h0 } m') (hans : answer P g m' = some v) :
    Calls P g argv w fun e w' => ∃ u σ', e = .returned u ∧ VR σ' v u ∧ Below w.heap.size w w' := by
  intro base
  obtain ⟨g1, g2, g3, g4, g5⟩ := enter_sound (ng := ng) hen ha
  have M : MRx P ng w.heap.size σ { fr, cs := [], h := h0 } (Frame.enter P g argv .normal) [] w [] [] := ⟨g1, ⟨rfl, rfl⟩, ⟨List.nodup_nil, fun k hk => by simp at hk⟩, R, g5 _⟩
  obtain ⟨σ', f', cs', w', p', ks', s1, l1, M1, b1⟩ := hrun w.heap.size σ _ [] base w [] [] M
  unfold answer at hans
  split at hans
  · rename_i hcs hds
    cases hb : (m'.fr.ret && !m'.fr.dfd && plainTop m'.fr.todo && Nat.beq m'.fr.fn g) with
    | false => rw [hb] at hans; cases hans
    | true =>
      rw [hb, cond_true] at hans
      simp only [Bool.and_eq_true, nbeq, decide_eq_true_eq, Bool.not_eq_true'] at hb
      obtain ⟨⟨⟨b2, b3⟩, b4⟩, b5⟩ := hb
      cases hfn : P.funcs[g]? with
      | none => simp [hfn] at hans
      | some fn =>
        simp only [hfn, Option.map_eq_some_iff] at hans
        obtain ⟨vs, hres, rfl⟩ := hans
        obtain ⟨_, htm, _⟩ := top_inv b4 M1.top.top
        obtain ⟨u, hru, hvu⟩ := results_sound (P := P) M1.heap htm hres
        have hS := M1.stack
        rw [hcs] at hS
        obtain ⟨hcs', _⟩ := hS
        subst hcs'
        have hmode : f'.mode = .returning := by have := M1.top.mode; rw [b2] at this; exact this
        have hk : f'.kind = .normal := by have := M1.top.kind; rw [b3] at this; exact this
        have hfd : f'.defers = [] := by
          have := M1.top.defers
          rw [hds] at this
          cases hx : f'.defers with
          | nil => rfl
          | cons _ _ => rw [hx] at this; exact this.elim
        have hffn : f'.fn = g := M1.top.fn.trans b5
        exact ⟨.returned u, w', f', ⟨u, σ', rfl, hvu, b1⟩, s1, hffn, hmode, hfd, hk, fn, by rw [hffn]; exact hfn, hru⟩
  · cases hans
end

/-! ### Words for a state -/
def sub : Code → List Nat → Code
  | c, [] => c
  | .seq a _, 0 :: p => sub a p
  | .seq _ b, _ :: p => sub b p
  | .cond _ a _, 0 :: p => sub a p
  | .cond _ _ b, _ :: p => sub b p
  | .block _ c, _ :: p => sub c p
  | .loop c, _ :: p => sub c p
  | .scope c, _ :: p => sub c p
  | .rangeFunc _ _ a _, 0 :: p => sub a p
  | .rangeFunc _ _ _ b, _ :: p => sub b p
  | c, _ :: _ => c
def opsOf : Code → Array Oper
  | .region _ ops _ => ops
  | _ => #[]
section
variable (F : Tr Func)
/-- the code of function f at a path -/
def cd (f : Nat) (p : List Nat) : Code :=
  match F.get f with
  | some fn => match fn.body with
    | some c => sub c p
    | none => .skip
  | none => .skip
def rg (f : Nat) (p : List Nat) (i : Nat) : AItem := .reg (opsOf (cd F f p)) i ((opsOf (cd F f p)).toList.drop i)
def dw (f : Nat) (p : List Nat) (dm um ed : Nat) (b : Bool) : AItem := .drw (opsOf (cd F f p)) dm um ed b
def ci (f : Nat) (p : List Nat) : AItem := .code (cd F f p)
def li (f : Nat) (p : List Nat) : AItem := .inLoop (cd F f p)
def si (f : Nat) (p : List Nat) : AItem := .inScope (cd F f p)
end
def tr {α : Type} : List (Nat × α) → Tr α → Tr α
  | [], t => t
  | (i, x) :: l, t => tr l (t.set i (some x))
def by8 (l : List Nat) : List AV := l.map fun n => .int .u8 (.ofNat n)
def by6 (l : List Nat) : List AV := l.map fun n => .int .i64 (.ofNat n)
def byu (l : List Nat) : List AV := l.map fun n => .int .u64 (.ofNat n)
def ii (n : Nat) : AV := .int .i64 (.ofNat n)
def uu (n : Nat) : AV := .int .u64 (.ofNat n)
def bb (n : Nat) : AV := .int .u8 (.ofNat n)
def wc (l : List AV) : ABlock := .cells false (.av l)
def wb (l : List (Nat × Nat)) : ABlock := .cells false (.bt (bs l))
def st (l : List (Nat × Nat)) : AV := .str (bs l)
end Go.Proofs.YtfmopmjgohopeaaGreatDoor.Ev

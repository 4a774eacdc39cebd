/-
  An abstract machine for closed runs: frames, the operations that write or call, regions that draw their order, the step.
-/
import Derived.Test.YtllipkakgjmheaaGreatDoorEvA
set_option linter.unusedVariables false
set_option linter.unusedSimpArgs false
set_option linter.constructorNameAsVariable false
namespace Go.Proofs.YtllipkakgjmheaaGreatDoor.Ev
open Go

inductive AItem where
  | code (c : Code)
  | inBlock (id : Nat)
  | inLoop (c : Code)
  | inScope (c : Code)
  /-- a region in its order: the operations that are left, the first one's number -/
  | reg (ops : Array Oper) (i : Nat) (rest : List Oper)
  /-- a region that draws: effects done, what had to stand before them, what is reckoned (as sets of numbers); 'true': what can be reckoned is -/
  | drw (ops : Array Oper) (dm um ed : Nat) (ready : Bool)
  | rangeF (k : Nat)
  | endF (k : Nat)
  | beginRound

structure AFrame where
  fn : FuncId
  nt : Nat
  tmps : Tr AV
  todo : List AItem
  defers : List ADef
  ret : Bool
  dfd : Bool
  round : Option Nat
structure AM where
  fr : AFrame
  cs : List AFrame
  h : AH

def putT (nt : Nat) (T : Tr AV) (dst : Option Tmp) (v : AV) : Tr AV :=
  match dst with
  | some d => bif Nat.blt d nt then T.set d (some v) else T
  | none => T
def undefA : AV := .tuple []

/-! ### Regions that draw -/
def emask (t : Tr Nat) : List Edge → Nat
  | [] => 0
  | e :: es => bif Region.binds .any e then Nat.lor (Nat.lor (2 ^ e.on) ((t.get e.on).getD 0)) (emask t es) else emask t es
def rmaskGo : List Oper → Nat → Tr Nat → Tr Nat
  | [], _, t => t
  | o :: l, i, t => rmaskGo l (i + 1) (t.set i (some (emask t o.after.toList)))
def rmask (ops : Array Oper) : Tr Nat := rmaskGo ops.toList 0 .l
def maskOf (ops : Array Oper) (i : Nat) : Nat := ((rmask ops).get i).getD 0
def has (m i : Nat) : Bool := Nat.beq (Nat.land (Nat.shiftRight m i) 1) 1

section
variable (P : Program) (ng : Nat)

def isEff : Op → Bool
  | .assign _ => true
  | .store .. | .mapUpdate .. | .insert .. | .mapEntry .. | .entryStore .. | .range .. | .next .. | .go _ | .defer _ | .panic _ | .send .. | .recv .. | .select .. | .ready _ => true
  | .convert s d _ => match P.underlying s, P.underlying d with
    | some (.slice _), some (.slice _) => true
    | _, _ => false
  | .call c => match c.callee with
    | .builtin .len | .builtin .cap | .builtin .min | .builtin .max => false
    | _ => true
  | _ => false
def isAlloc : Op → Bool
  | .alloc _ | .box .. | .buildSlice .. | .makeSlice .. | .makeMap .. => true
  | .convert s d _ => match P.underlying s, P.underlying d with
    | some .string, some (.slice _) => true
    | _, _ => false
  | _ => false

/-- what is asked of a region's text: edges lead back; a slot that a quiet operation writes is written by no other, and looked at behind it alone -/
def operTmps (o : Oper) : List Nat := o.op.operands.toList.filterMap fun | .tmp t => some t | _ => none
def rcheck1 (ops : Array Oper) (dsts : List (Nat × Nat)) (o : Oper) (i : Nat) : Bool :=
  o.after.toList.all (fun e => !Region.binds .any e || Nat.blt e.on i) &&
  (operTmps o).all (fun t => dsts.all fun p => !(Nat.beq p.1 t) || has (maskOf ops i) p.2) &&
  (match o.guard with
   | none => true
   | some (g, _) => match (ops[g]?).bind (·.dst) with
     | some t => dsts.all fun p => !(Nat.beq p.1 t) || has (maskOf ops i) p.2
     | none => true)
def rdsts (eff : Bool) : List Oper → Nat → List (Nat × Nat)
  | [], _ => []
  | o :: l, i => match o.dst with
    | some d => bif boolBeq (isEff P o.op) eff then (d, i) :: rdsts eff l (i + 1) else rdsts eff l (i + 1)
    | none => rdsts eff l (i + 1)
def nodupB : List (Nat × Nat) → Bool
  | [] => true
  | p :: l => l.all (fun q => !(Nat.beq p.1 q.1)) && nodupB l
def rcheckGo (ops : Array Oper) (dsts : List (Nat × Nat)) : List Oper → Nat → Bool
  | [], _ => true
  | o :: l, i => rcheck1 ops dsts o i && rcheckGo ops dsts l (i + 1)
def rcheck (ops : Array Oper) : Bool :=
  nodupB (rdsts P false ops.toList 0) && (rdsts P true ops.toList 0).all (fun p => (rdsts P false ops.toList 0).all fun q => !(Nat.beq p.1 q.1)) &&
  rcheckGo ops (rdsts P false ops.toList 0) ops.toList 0

/-- the numbers of a region's effects -/
def effs : List Oper → Nat → List Nat
  | [], _ => []
  | o :: l, i => bif isEff P o.op then i :: effs l (i + 1) else effs l (i + 1)
def effMask : List Nat → Nat
  | [] => 0
  | i :: l => Nat.lor (2 ^ i) (effMask l)

/-- may a quiet operation run at this stage? -/
def inWindow (ops : Array Oper) (em dm um i : Nat) : Bool :=
  Nat.beq (Nat.lor (Nat.land (maskOf ops i) em) dm) dm && !has um i

def awanted (ops : Array Oper) (T : Tr AV) (o : Oper) : Option Bool :=
  match o.guard with
  | none => some true
  | some (g, b) => match (ops[g]?).bind (·.dst) with
    | some d => match T.get d with
      | some (.bool c) => some (boolBeq c b)
      | some (.tuple _) => some false
      | _ => none
    | none => none

/-- first pass: what can be reckoned and is not -/
def passOne (ops : Array Oper) (em dm um nt : Nat) : List Oper → Nat → Nat → Tr AV → AH → Option (Nat × Tr AV × AH)
  | [], _, ed, T, h => some (ed, T, h)
  | o :: l, i, ed, T, h =>
    bif isEff P o.op || has ed i || !inWindow ops em dm um i then passOne ops em dm um nt l (i + 1) ed T h else
    match awanted ops T o with
    | none => none
    | some false => passOne ops em dm um nt l (i + 1) (Nat.lor ed (2 ^ i)) (putT nt T o.dst undefA) h
    | some true =>
      match aalloc P (ev ng T) o.op with
      | some (b, mk) => passOne ops em dm um nt l (i + 1) (Nat.lor ed (2 ^ i)) (putT nt T o.dst (mk.av h.next)) (h.new b)
      | none =>
        match aquiet P h (ev ng T) o.op with
        | some v => passOne ops em dm um nt l (i + 1) (Nat.lor ed (2 ^ i)) (putT nt T o.dst v) h
        | none => none

def ABlock.beq : ABlock → ABlock → Bool
  | .cells _ a, .cells _ b => AV.beqs a b
  | .map [] a, .map [] b => Nat.beq a b
  | _, _ => false
def Mk.of : Mk → AV → Option Nat
  | .ptr, .ptr k 0 => some k
  | .slice n c, .slice k 0 m d => bif Nat.beq n m && capBeq c d then some k else none
  | .map, .map k => some k
  | _, _ => none

/-- second pass: whatever may run at this stage answers what is reckoned -/
def passTwo (ops : Array Oper) (em dm um nt : Nat) (T : Tr AV) (h : AH) : List Oper → Nat → Bool
  | [], _ => true
  | o :: l, i =>
    (bif isEff P o.op || !inWindow ops em dm um i then true else
      match awanted ops T o, o.dst with
      | some false, some d => Nat.blt d nt && (match T.get d with | some (.tuple []) => true | _ => false)
      | some true, some d => Nat.blt d nt &&
        match T.get d with
        | none => false
        | some v =>
          match aalloc P (ev ng T) o.op with
          | some (b, mk) => match mk.of v with
            | some k => match h.get k with | some b' => b.beq b' | none => false
            | none => false
          | none => match aquiet P h (ev ng T) o.op with
            | some v' => v'.beq v
            | none => false
      | _, _ => false) && passTwo ops em dm um nt T h l (i + 1)

/-- the next effect; all others that are left stand behind it -/
def nextEff (ops : Array Oper) (dm : Nat) : List Nat → Option Nat
  | [] => none
  | i :: l => bif has dm i then nextEff ops dm l else bif l.all (fun j => has (maskOf ops j) i) then some i else none

/-! ### Frames -/
def AFrame.finish (fr : AFrame) (v : AV) : Option AFrame :=
  match fr.todo with
  | .reg ops i (o :: rest) :: k => some { fr with tmps := putT fr.nt fr.tmps o.dst v, todo := .reg ops (i + 1) rest :: k }
  | .drw ops dm um ed true :: k =>
    match nextEff ops dm (effs P ops.toList 0) with
    | some i => match ops[i]? with
      | some o => some { fr with tmps := putT fr.nt fr.tmps o.dst v, todo := .drw ops (Nat.lor dm (2 ^ i)) (Nat.lor um (maskOf ops i)) ed false :: k }
      | none => none
    | none => none
  | .rangeF l :: k => some { fr with todo := .endF l :: k }
  | _ => none

def argsT (nt : Nat) : List AV → Nat → Tr AV → Tr AV
  | [], _, T => T
  | a :: l, i, T => argsT nt l (i + 1) (T.set i (some a))
def AFrame.enter (f : FuncId) (args : List AV) (dfd : Bool) : Option AFrame :=
  match P.funcs[f]? with
  | some fn => match fn.body with
    | some c => bif fn.name == "runtime.NumGoroutine" then none else
      let nt := args.length + (fn.ntmps - args.length)
      some { fn := f, nt, tmps := argsT nt args 0 .l, todo := [.code c], defers := [], ret := false, dfd, round := none }
    | none => none
  | none => none

def push (m : AM) (f : FuncId) (args : List AV) : Option AM :=
  match AFrame.enter P f args false with
  | some fr => some { m with fr, cs := m.fr :: m.cs }
  | none => none

def AM.done (m : AM) (v : AV) (h : AH) : Option AM :=
  match AFrame.finish P m.fr v with
  | some fr => some { m with fr, h }
  | none => none

/-! ### Operations that write or call -/
def putCells (cs : List AV) (off : Nat) (vs : List AV) : Option (List AV) :=
  bif Nat.ble (off + vs.length) cs.length then some (cs.take off ++ (vs ++ cs.drop (off + vs.length))) else none

def astore (h : AH) (t : TypeId) (a v : AV) : Option AH :=
  match a, v.cells, sizeOf? P t with
  | .ptr k off, some vs, some n =>
    bif Nat.beq vs.length n && vs.all AV.one then
      match h.get k with
      | some (.cells false cs) => (putCells cs off vs).map fun cs' => h.put k (.cells false cs')
      | _ => none
    else none
  | _, _, _ => none

def setEntry : List (AV × AV × Nat) → Nat → AV → AV → List (AV × AV × Nat)
  | [], _, _, _ => []
  | e :: es, 0, k, v => (k, v, e.2.2) :: es
  | e :: es, i + 1, k, v => e :: setEntry es i k v
def amapUpdate (h : AH) (t : TypeId) (m k v : AV) : Option AH :=
  match P.underlying t, m with
  | some (.map key _), .map r =>
    bif keyFits P key k then
      match h.get r with
      | some (.map es clock) =>
        match afind k es 0 with
        | some (some (i, _)) => some (h.put r (.map (setEntry es i k v) clock))
        | some none => some (h.put r (.map (es ++ [(k, v, clock)]) (clock + 1)))
        | none => none
      | _ => none
    else none
  | _, _ => none

def arange (h : AH) (t : TypeId) (x : AV) : Option ABlock :=
  match P.underlying t, x with
  | some .string, .str s => some (.strIter s 0)
  | some (.map _ _), .map m => match h.get m with
    | some (.map _ clock) => some (.mapIter m clock [] clock)
    | _ => none
  | _, _ => none

def hasNat (l : List Nat) (n : Nat) : Bool := l.any (Nat.beq n)
/-- a step of a range over a map: told where the next entry is forced -/
def anext (h : AH) (x : AV) : Option (AV × AH) :=
  match x with
  | .ptr k 0 =>
    match h.get k with
    | some (.mapIter m since seen last) =>
      match h.get m with
      | some (.map es clock) =>
        match seen, es.filter (fun e => !hasNat seen e.2.2) with
        | [], [] => some (.tuple [.bool false], h)
        | [], [e] => bif Nat.blt e.2.2 since then some (.tuple [.bool true, e.1, e.2.1], h.put k (.mapIter m since (seen ++ [e.2.2]) clock)) else none
        | _ :: _, [] => bif es.any (fun e => Nat.blt e.2.2 last) then some (.tuple [.bool false], h) else none
        | _ :: _, [e] => bif es.any (fun e => Nat.blt e.2.2 last) && Nat.blt e.2.2 since then some (.tuple [.bool true, e.1, e.2.1], h.put k (.mapIter m since (seen ++ [e.2.2]) clock)) else none
        | _, _ => none
      | _ => none
    | _ => none
  | _ => none

/-- the cells that are appended -/
def appended (h : AH) (size : Nat) (x : AV) : Option (Nat × List AV) :=
  match x with
  | .lit (.slice none n _) => bif Nat.beq n 0 then some (0, []) else none
  | .empty _ => some (0, [])
  | .slice k off n _ =>
    bif Nat.beq n 0 then some (0, []) else
    match h.get k with
    | some (.cells _ cs) => let l := (cs.drop off).take (n * size); bif Nat.beq l.length (n * size) && l.all AV.one then some (n, l) else none
    | _ => none
  | .str s => bif Nat.beq size 1 then some (s.length, s.map fun b => .int .u8 (.ofNat (b % 256))) else none
  | _ => none

/-- what is appended: how many elements, and their cells -/
def anew (h : AH) (elem : TypeId) (size bytes : Nat) (xd : TypeDesc) (x : AV) : Option (Nat × List AV) :=
  match xd with
  | .int _ => match natOf x with
    | some n => bif Nat.ble n 1000000 then (zeros P elem size n).map fun l => (n, l) else none
    | none => none
  | _ => appended h size x
def aappendTo (h : AH) (size : Nat) (s : AV) (n : Nat) (vs : List AV) : Option (AV × AH) :=
  match s with
  | .lit (.slice none l c) =>
    bif Nat.beq l 0 && Nat.beq c 0 then
      bif Nat.beq n 0 then some (s, h) else some (.slice h.next 0 n (.room size), h.new (.cells false vs))
    else none
  | .empty c =>
    bif Nat.beq n 0 then some (s, h) else
    match c with
    | some 0 => some (.slice h.next 0 n (.room size), h.new (.cells false vs))
    | _ => none
  | .slice k off len (.is c) =>
    bif Nat.beq n 0 && Nat.ble len c then some (s, h) else
    bif Nat.ble len 1000000 then
      match h.get k with
      | some (.cells ro cs) =>
        bif Nat.ble (len + n) c then
          bif ro then none else (putCells cs (off + len * size) vs).map fun cs' => (.slice k off (len + n) (.is c), h.put k (.cells false cs'))
        else
          bif Nat.beq ((cs.drop off).take (len * size)).length (len * size) then
            some (.slice h.next 0 (len + n) (.room size), h.new (.cells false ((cs.drop off).take (len * size) ++ vs)))
          else none
      | _ => none
    else none
  | .slice k off len (.room sz) =>
    bif Nat.beq n 0 then some (s, h) else
    bif Nat.ble len 1000000 && Nat.beq sz size then
      match h.get k with
      | some (.cells false cs) =>
        bif Nat.beq ((cs.drop off).take (len * size)).length (len * size) then
          some (.slice h.next 0 (len + n) (.room size), (h.kill k).new (.cells false ((cs.drop off).take (len * size) ++ vs)))
        else none
      | _ => none
    else none
  | _ => none
def aappend (h : AH) (argTypes : Array TypeId) (s x : AV) : Option (AV × AH) :=
  match argTypes[0]?, argTypes[1]? with
  | some sType, some xType =>
    match P.underlying sType, P.underlying xType with
    | some (.slice elem), some xd =>
      match P.info? elem, zeroCells P elem with
      | some info, some z =>
        match anew P h elem info.size info.bytes xd x with
        | none => none
        | some (n, vs) =>
          bif Nat.ble info.bytes 1000000 && Nat.ble n 1000000 && Nat.beq z.length info.size && vs.all AV.one then aappendTo h info.size s n vs else none
      | _, _ => none
    | _, _ => none
  | _, _ => none

/-- a slice's or a string's length, whatever its type -/
def aLen : AV → Option Nat
  | .slice _ _ n _ => some n
  | .lit (.slice none n _) => some n
  | .empty _ => some 0
  | .str s => some s.length
  | _ => none
/-- the first cells of a slice or a string -/
def firstN (h : AH) (size n : Nat) : AV → Option (List AV)
  | .slice k off _ _ => match h.get k with
    | some (.cells _ cs) => bif Nat.beq ((cs.drop off).take (n * size)).length (n * size) && ((cs.drop off).take (n * size)).all AV.one then some ((cs.drop off).take (n * size)) else none
    | _ => none
  | .str s => bif Nat.beq size 1 && Nat.ble n s.length then some ((s.take n).map fun b => .int .u8 (.ofNat (b % 256))) else none
  | _ => none
def acopy (h : AH) (t : TypeId) (d s : AV) : Option (Nat × AH) :=
  match P.underlying t with
  | some (.slice elem) => match sizeOf? P elem, aLen s, aLen d with
    | some size, some ls, some ld =>
      bif Nat.beq (Nat.min ls ld) 0 then
        match d with
        | .str _ => none
        | _ => some (0, h)
      else match d with
        | .slice k off _ _ => match firstN h size (Nat.min ls ld) s, h.get k with
          | some vs, some (.cells false cs) => match putCells cs off vs with
            | some cs' => some (Nat.min ls ld, h.put k (.cells false cs'))
            | none => none
          | _, _ => none
        | _ => none
    | _, _, _ => none
  | _ => none

inductive APlace where
  | val (v : AV)
  | var (k off : Nat)
def APlace.get (h : AH) (t : TypeId) : APlace → Option AV
  | .val v => some v
  | .var k off => aload P h t (.ptr k off)
def afollow (h : AH) : List FieldStep → TypeId → APlace → Option (TypeId × APlace)
  | [], t, x => some (t, x)
  | s :: rest, t, x =>
    match P.underlying s.struct with
    | some (.struct fields) => match fields[s.index]? with
      | some f => match sizeOf? P f.type with
        | some (_ + 1) =>
          bif s.deref then
            match x.get P h t with
            | some (.ptr k off) => afollow h rest f.type (.var k (off + f.offset))
            | _ => none
          else match x with
            | .var k off => afollow h rest f.type (.var k (off + f.offset))
            | .val (.agg cs) => match apart P f.type cs f.offset with
              | some v => afollow h rest f.type (.val v)
              | none => none
            | .val _ => none
        | _ => none
      | none => none
    | _ => none
def areceiver (h : AH) (xt : TypeId) (x : APlace) (ptr whole : Bool) : Option AV :=
  match P.underlying xt, ptr, x with
  | some (.pointer _), true, x => x.get P h xt
  | some (.pointer elem), false, x => bif whole then none else
    match x.get P h xt with
    | some (.ptr k off) => aload P h elem (.ptr k off)
    | _ => none
  | some _, true, .var k off => some (.ptr k off)
  | some _, true, .val _ => none
  | some _, false, x => x.get P h xt
  | none, _, _ => none
def amethod (h : AH) : Nat → TypeId → AV → String → Option (FuncId × AV)
  | 0, _, _, _ => none
  | fuel + 1, t, v, name =>
    match P.info? t with
    | some i => match i.methods.find? (·.name == name) with
      | some m => match afollow P h m.path.toList t (.val v) with
        | some (xt, x) =>
          match m.func with
          | none => match x.get P h xt with
            | some (.iface t' v') => amethod h fuel t' v' name
            | _ => none
          | some (f, ptr) => match areceiver P h xt x ptr m.path.isEmpty with
            | some v => some (f, v)
            | none => none
        | none => none
      | none => none
    | none => none

def roundFrame (l : Nat) (r : ALoop) (args : List AV) : Option AFrame :=
  bif Nat.beq args.length r.params.size then
    some { fn := r.fn, nt := r.nt, tmps := (r.params.toList.zip args).foldl (fun T p => putT r.nt T (some p.1) p.2) r.tmps,
           todo := [.code r.assign, .beginRound, .code r.body], defers := [], ret := false, dfd := false, round := some l }
  else none

def aeff (m : AM) (o : Oper) : Option AM :=
  let T := ev ng m.fr.tmps
  match o.op with
  | .assign x => AM.done P m (T x) m.h
  | .store t a x => match astore P m.h t (T a) (T x) with
    | some h => AM.done P m undefA h
    | none => none
  | .mapUpdate t r k x => match amapUpdate P m.h t (T r) (T k) (T x) with
    | some h => AM.done P m undefA h
    | none => none
  | .range t x => match arange P m.h t (T x) with
    | some b => AM.done P m (.ptr m.h.next 0) (m.h.new b)
    | none => none
  | .next x false => match anext m.h (T x) with
    | some (v, h) => AM.done P m v h
    | none => none
  | .convert src dst x => match P.underlying src, P.underlying dst, T x with
    | some (.slice _), some (.slice e), .slice k off len cap => bif Nat.beq src dst then
        match P.underlying e, m.h.get k with
        | some (.int .u8), some (.cells false _) => AM.done P m (.slice k off len cap) m.h
        | _, _ => none
      else none
    | _, _, _ => none
  | .defer c => match m.fr.round, c.callee with
    | none, .value f => match T f with
      | .func f first cap => match AFrame.finish P { m.fr with defers := .call f cap (first ++ c.args.toList.map T) :: m.fr.defers } undefA with
        | some fr => some { m with fr }
        | none => none
      | _ => none
    | _, _ => none
  | .call c => match c.callee with
    | .value f => match T f with
      | .func f first cap => push P m f (first ++ c.args.toList.map T ++ cap)
      | .yield l => match m.h.get l with
        | some (.loop r) => match roundFrame l r (c.args.toList.map T) with
          | some fr => some { m with fr, cs := m.fr :: m.cs }
          | none => none
        | _ => none
      | _ => none
    | .invoke r name => match T r with
      | .iface t v => match amethod P m.h 8 t v name with
        | some (f, x) => push P m f (x :: c.args.toList.map T)
        | none => none
      | _ => none
    | .builtin .append => match c.args.toList with
      | [s, x] => match aappend P m.h c.argTypes (T s) (T x) with
        | some (v, h) => AM.done P m v h
        | none => none
      | _ => none
    | .builtin .copy => match c.argTypes[0]?, c.args.toList with
      | some t, [d, s] => match acopy P m.h t (T d) (T s) with
        | some (n, h) => AM.done P m (.int .i64 (.ofNat n)) h
        | none => none
      | _, _ => none
    | .builtin .recover => match m.fr.round, m.fr.dfd, m.cs with
      | none, true, c :: _ => bif c.ret then AM.done P m (.lit .nilIface) m.h else none
      | none, false, _ => AM.done P m (.lit .nilIface) m.h
      | _, _, _ => none
    | _ => none
  | _ => none

def aexec (m : AM) (o : Oper) : Option AM :=
  let T := ev ng m.fr.tmps
  match aquiet P m.h T o.op with
  | some v => AM.done P m v m.h
  | none => match aalloc P T o.op with
    | some (b, mk) => AM.done P m (mk.av m.h.next) (m.h.new b)
    | none => aeff P ng m o

/-! ### The step -/
def aexitTo (id : Nat) : List AItem → Option (List AItem)
  | .inBlock id' :: k => bif Nat.beq id' id then some k else aexitTo id k
  | _ :: k => aexitTo id k
  | [] => none
def agotoIn (l : Nat) : List AItem → Option (List AItem)
  | .inScope body :: k => match findLabel body l with
    | some rest => some (.code rest :: .inScope body :: k)
    | none => agotoIn l k
  | _ :: k => agotoIn l k
  | [] => none

def AM.to (m : AM) (k : List AItem) : AM := { m with fr := { m.fr with todo := k } }

/-- a frame gives a value to the one below -/
def giveBack (m : AM) (v : AV) (h : AH) : Option AM :=
  match m.cs with
  | c :: cs => match AFrame.finish P c v with
    | some fr => some { fr, cs, h }
    | none => none
  | [] => none

def aleave (m : AM) (jump : Option Code) : Option AM :=
  match m.fr.round with
  | none => match jump with
    | none | some .ret => some { m with fr := { m.fr with ret := true } }
    | _ => none
  | some l => match m.h.get l with
    | some (.loop r) =>
      bif m.fr.dfd then none else
      giveBack P m (.bool (match jump with | none => true | some _ => false))
        (m.h.put l (.loop { r with state := match jump with | none => .ready | some _ => .done, pending := jump }))
    | _ => none

def aresults (h : AH) (T : Tr AV) : List ResultVar → Option (List AV)
  | [] => some []
  | .tmp t :: l => match aresults h T l with
    | some vs => some ((T.get t).getD .any :: vs)
    | none => none
  | .cell a t :: l => match aload P h t ((T.get a).getD .any), aresults h T l with
    | some v, some vs => some (v :: vs)
    | _, _ => none

def tupled : List AV → AV
  | [v] => v
  | vs => .tuple vs

def plainTop : List AItem → Bool
  | .drw .. :: _ => false
  | .reg .. :: _ => false
  | _ => true
def areturn (m : AM) : Option AM :=
  bif !plainTop m.fr.todo then none else
  match m.fr.defers with
  | .collected k :: ds => match m.h.get k with
    | some (.deferred l) => some { m with fr := { m.fr with defers := l ++ ds }, h := m.h.kill k }
    | _ => none
  | .call f cap args :: ds =>
    match AFrame.enter P f (args ++ cap) true with
    | some fr => some { m with fr, cs := { m.fr with defers := ds } :: m.cs }
    | none => none
  | [] =>
    match P.funcs[m.fr.fn]? with
    | some fn => match aresults P m.h m.fr.tmps fn.results.toList with
      | some vs =>
        bif m.fr.dfd then
          match m.cs with
          | c :: cs => bif c.ret && plainTop c.todo then some { fr := c, cs, h := m.h } else none
          | [] => none
        else giveBack P m (tupled vs) m.h
      | none => none
    | none => none

def aenterLoop (m : AM) (ps : Array Tmp) (assign body : Code) : Option (Nat × List ADef × AH) :=
  match m.fr.round with
  | none =>
    let h := m.h.new (.deferred [])
    some (h.next, [.collected m.h.next], h.new (.loop { state := .ready, pending := none, fn := m.fr.fn, nt := m.fr.nt, tmps := m.fr.tmps, params := ps, assign, body, defers := m.h.next }))
  | some l => match m.h.get l with
    | some (.loop r) => some (m.h.next, [], m.h.new (.loop { state := .ready, pending := none, fn := m.fr.fn, nt := m.fr.nt, tmps := m.fr.tmps, params := ps, assign, body, defers := r.defers }))
    | _ => none

def astepCode (m : AM) (k : List AItem) : Code → Option AM
  | .skip | .label _ => some (m.to k)
  | .seq a b => some (m.to (.code a :: .code b :: k))
  | .cond c thn els => match ev ng m.fr.tmps c with
    | .bool b => some (m.to (.code (bif b then thn else els) :: k))
    | _ => none
  | .block id body => some (m.to (.code body :: .inBlock id :: k))
  | .loop body => some (m.to (.code body :: .inLoop body :: k))
  | .scope body => some (m.to (.code body :: .inScope body :: k))
  | .exit id => match aexitTo id k with
    | some k' => some (m.to k')
    | none => aleave P m (some (.exit id))
  | .goto l => match agotoIn l k with
    | some k' => some (m.to k')
    | none => aleave P m (some (.goto l))
  | .ret => aleave P m (some .ret)
  | .region _ ops draw => bif draw then (bif rcheck P ops then some (m.to (.drw ops 0 0 0 false :: k)) else none) else some (m.to (.reg ops 0 ops.toList :: k))
  | .rangeFunc f ps assign body =>
    match ev ng m.fr.tmps f, aenterLoop m ps assign body with
    | .func g first cap, some (l, mark, h) =>
      match AFrame.enter P g (first ++ [.yield l] ++ cap) false with
      | some fr => some { fr, cs := { m.fr with todo := .rangeF l :: k, defers := mark ++ m.fr.defers } :: m.cs, h }
      | none => none
    | _, _ => none
  | .refuse _ => none

def astep (m : AM) : Option AM :=
  bif m.fr.ret then areturn P m else
  match m.fr.todo with
  | [] => aleave P m none
  | .code c :: k => astepCode P ng m k c
  | .inBlock _ :: k => some (m.to k)
  | .inScope _ :: k => some (m.to k)
  | .inLoop body :: k => some (m.to (.code body :: .inLoop body :: k))
  | .reg _ _ [] :: k => some (m.to k)
  | .reg ops _ (o :: _) :: _ => match awanted ops m.fr.tmps o with
    | some true => aexec P ng m o
    | some false => AM.done P m undefA m.h
    | none => none
  | .drw ops dm um ed false :: k =>
    match passOne P ng ops (effMask (effs P ops.toList 0)) dm um m.fr.nt ops.toList 0 ed m.fr.tmps m.h with
    | some (ed', T, h) =>
      bif passTwo P ng ops (effMask (effs P ops.toList 0)) dm um m.fr.nt T h ops.toList 0 then
        some { m with fr := { m.fr with tmps := T, todo := .drw ops dm um ed' true :: k }, h }
      else none
    | none => none
  | .drw ops dm um ed true :: k =>
    match nextEff ops dm (effs P ops.toList 0) with
    | some i => match ops[i]? with
      | some o => match awanted ops m.fr.tmps o with
        | some true => aeff P ng m o
        | some false => AM.done P m undefA m.h
        | none => none
      | none => none
    | none => bif Nat.beq (Nat.lor (effMask (effs P ops.toList 0)) dm) dm then some (m.to k) else none
  | .rangeF _ :: _ => none
  | .endF l :: k => match m.h.get l with
    | some (.loop r) =>
      match r.state with
      | .busy => none
      | _ => some { m with fr := { m.fr with todo := (r.pending.map AItem.code).toList ++ k }, h := m.h.put l (.loop { r with state := .exhausted }) }
    | _ => none
  | .beginRound :: k => match m.fr.round with
    | some l => match m.h.get l with
      | some (.loop r) => match r.state with
        | .ready => some { m with fr := { m.fr with todo := k }, h := m.h.put l (.loop { r with state := .busy }) }
        | _ => none
      | _ => none
    | none => none

def arun : Nat → AM → Option AM
  | 0, m => some m
  | n + 1, m => match astep P ng m with
    | some m' => arun n m'
    | none => none

/-! ### A range over a map: whichever entry comes next -/
def anexts (h : AH) (x : AV) : Option (List (AV × AH)) :=
  match x with
  | .ptr k 0 =>
    match h.get k with
    | some (.mapIter m since seen last) =>
      match h.get m with
      | some (.map es clock) =>
        match es.filter (fun e => !hasNat seen e.2.2) with
        | [] => none
        | l => bif l.all (fun e => Nat.blt e.2.2 since) && (seen.isEmpty || es.any (fun e => Nat.blt e.2.2 last)) then
            some (l.map fun e => (.tuple [.bool true, e.1, e.2.1], h.put k (.mapIter m since (seen ++ [e.2.2]) clock)))
          else none
      | _ => none
    | _ => none
  | _ => none
def adones (m : AM) : List (AV × AH) → Option (List AM)
  | [] => some []
  | p :: l => match AM.done P m p.1 p.2, adones m l with
    | some m', some ms => some (m' :: ms)
    | _, _ => none
def aforks (m : AM) : Option (List AM) :=
  bif m.fr.ret then none else
  match m.fr.todo with
  | .reg ops _ (o :: _) :: _ => match awanted ops m.fr.tmps o with
    | some true => match o.op with
      | .next x false => match anexts m.h (ev ng m.fr.tmps x) with
        | some l => adones P m l
        | none => none
      | _ => none
    | _ => none
  | _ => none
/-- a call that is told by its contract -/
def asum (S : AH → FuncId → List AV → Option AV) (m : AM) : Option AM :=
  bif m.fr.ret then none else
  match m.fr.todo with
  | .reg ops _ (o :: _) :: _ => match awanted ops m.fr.tmps o with
    | some true => match o.op with
      | .call c => match c.callee with
        | .value g => match ev ng m.fr.tmps g with
          | .func f first [] => match S m.h f (first ++ c.args.toList.map (ev ng m.fr.tmps)) with
            | some v => AM.done P m v m.h
            | none => none
          | _ => none
        | _ => none
      | _ => none
    | _ => none
  | _ => none
/-- How a run goes: so many steps; a fork, and a run for each way; one way's run, then the others'. -/
inductive Sc where
  | stop
  | go (n : Nat) (s : Sc)
  | fork (s : Sc)
  | sum (s : Sc)
  | alt (a b : Sc)
  | nil
def scr (S : AH → FuncId → List AV → Option AV) : Sc → List AM → Option (List AM)
  | .stop, [m] => some [m]
  | .go n s, [m] => match arun P ng n m with
    | some m' => scr S s [m']
    | none => none
  | .fork s, [m] => match aforks P ng m with
    | some ms => scr S s ms
    | none => none
  | .sum s, [m] => match asum P ng S m with
    | some m' => scr S s [m']
    | none => none
  | .alt a b, m :: ms => match scr S a [m], scr S b ms with
    | some l, some r => some (l ++ r)
    | _, _ => none
  | .nil, [] => some []
  | _, _ => none
end
end Go.Proofs.YtllipkakgjmheaaGreatDoor.Ev

import Derived.Test.YtjbhbfaeielbiaaGreatDoorPart01
import Derived.RangeFuncNested
import Derived.RangeFuncBound
set_option maxRecDepth 100000
set_option maxHeartbeats 8000000
set_option linter.unusedVariables false
set_option linter.unusedSimpArgs false
namespace Go.Proofs.YtjbhbfaeielbiaaGreatDoor
open Go.RowKit Go.Maps Go.ChangeShapes Go.WideShapes Go.MapKept
open Go.WideElems (Fit rd rg pl rd_key rd_mk rg_of)
open Go.ChangeMaps (setBlock)
def R0 (_:V):Option (DataW Unit×List MemPlace):=some (.nil, [])
def MapA (P:Program) (k:TypeId) (b:Nat) (l:List (V×V)):Asn where
 P S w:=(∀x,S x↔x=b)/\∃es clock,w.heap[b]? =some (.map es clock)/\Fit P k R0 es clock/\es.toList.map (fun e=>(e.key,e.val))=l
 lt h x hx:=by
  obtain⟨a,es,clock,c,_⟩:=h;rw [(a x).1 hx];exact(Array.getElem?_eq_some_iff.1 c).1
 keep h ht hn:=by
  obtain⟨a,es,clock,c,d⟩:=h;exact⟨a,es,clock,(ht.block _ (Array.getElem?_eq_some_iff.1 c).1 (hn _ ((a _).2 rfl))).trans c,d⟩
section
variable {P:Program} {k t e:TypeId} {b:Nat} {l:List (V×V)} {w:O} {L:List Asn}
theorem Sp.mapOf (h:Sp w L) (a:MapA P k b l∈L):∃es clock,w.heap[b]? =some (.map es clock)/\Fit P k R0 es clock/\es.toList.map (fun e=>(e.key,e.val))=l:=(h.get a).choose_spec.2
theorem Sp.mapNew (h:Sp w L) {H:Nat} (a:w.heap.size=H):Sp (w.alloc (.map #[] 0)) (MapA P k H []::L):=by
 subst a;exact h.new (S:=fun x=>x=w.heap.size) ((zE _ _).alloc (zC _) _) ⟨fun _=>Iff.rfl,#[],0,(MapKept.heap_alloc w _).1,⟨by simp,stamped_empty 0,by simp⟩,rfl⟩ (fun x c=>by omega)
theorem qF {es:Array MapEntry} {clock:Nat} (F:Fit P k R0 es clock) {x:MapEntry} (a:x∈es.toList):∃d,Go.keyOf P k x.key=some d:=by
 obtain⟨y,c⟩:=F.reads x a;exact⟨_,rd_key c⟩
theorem Sp.mapDistinct (h:Sp w L) (a:MapA P k b l∈L):(l.map (·.1)).Nodup:=by
 obtain⟨es,clock,_,F,rfl⟩:=h.mapOf a;rw [yD];exact F.stamped.2.2
theorem Sp.mapLook (K:Keyed P k) (m:P.underlying t=some (.map k e)) {z:V} (s:(zeroValue e).run P w= .ok z w) (h:Sp w L) (q:MapA P k b l∈L) {c:V} {u:Lit} (a:Go.keyOf P k c=some u):
 ((Instr.lookup t (.map (some b)) c false).run P w= .ok z w/\∀p∈l,p.1≠c)\/∃(j:Nat) (v:V),(Instr.lookup t (.map (some b)) c false).run P w= .ok v w/\l[j]? =some (c,v):=by
 obtain⟨es,clock,i,F,rfl⟩:=h.mapOf q;rcases K.find w a es.toList (fun x g=>qF F g)with⟨d,f⟩|⟨j,n,d,f,o⟩
 ·refine .inl ⟨by simp [Instr.lookup,run_underlying m,MapKept.run_getObj_map i,K.check w _ a,d,s,Result.andThen],fun p r=> ?_⟩;obtain⟨x,g,rfl⟩:=List.mem_map.1 r;exact f x g
 ·exact .inr ⟨j,n.val,by simp [Instr.lookup,run_underlying m,MapKept.run_getObj_map i,K.check w _ a,d,Result.andThen],by rw [zH,f,<-o];rfl⟩
theorem r9 {S:Nat->Prop} (w:O) {b:Nat} {o:Obj} (d:b<w.heap.size) (a:S b):Tch S w (setBlock w b o):=
 ⟨rfl,rfl,rfl,by simp [setBlock],fun x _ c=>by
  simp only [setBlock];rw [yV]
  split
  ·rename_i h;subst h;exact absurd a c
  ·rfl⟩
theorem Sp.mapPut (K:Keyed P k) (D:P.underlying t=some (.map k e)) (h:Sp w (MapA P k b l::L)) (m:l.length<maxLen) {key:V} (val:V) {G:Lit} (c:Go.keyOf P k key=some G):
 ∃w' A,(Instr.mapUpdate t (.map (some b)) key val).run P w= .ok () w' /\(((∀p∈l,p.1≠key)/\A =l++ [(key,val)])\/∃(j:Nat) (v:V),l[j]? =some (key,v)/\A =l.set j (key,val))/\Sp w' (MapA P k b A ::L):=by
 obtain⟨es,clock,q,F,rfl⟩:=h.mapOf (.head _);have r:=(Array.getElem?_eq_some_iff.1 q).1
 have i:∀f a,Fit P k R0 f a ->Sp (setBlock w b (.map f a)) (MapA P k b (f.toList.map (fun e=>(e.key,e.val)))::L):=fun f a F' =>
  h.upd fun S B=>⟨S,⟨B.1,f,a,by simp [setBlock,r],F',rfl⟩,r9 w r ((B.1 b).2 rfl),fun _ d=> .inl d⟩
 rcases K.find w c es.toList (fun x d=>qF F d)with⟨y,o⟩|⟨j,u,y,o,z⟩
 ·refine⟨setBlock w b (.map (es.push ⟨key,val,clock⟩) (clock+1)),_,?_,.inl ⟨fun p E=> ?_,rfl⟩,?_⟩
  ·simp [Instr.mapUpdate,run_underlying D,MapKept.run_getObj_map q,K.check w false c,y,MapKept.run_setObj_map _ q,Result.andThen,setBlock]
  ·obtain⟨x,d,rfl⟩:=List.mem_map.1 E;exact o x d
  ·have:=i (es.push ⟨key,val,clock⟩) (clock+1) ⟨by simp at m⊢;omega,stamped_push F.stamped o,fun x d=>by
    simp only [Array.toList_push,List.mem_append,List.mem_singleton]at d;rcases d with d|rfl
    ·exact F.reads x d
    ·exact⟨_,rd_mk c rfl⟩⟩
   simpa using this
 ·have C:es[j]? =some u:=(by simpa using o);have g:(es.modify j (fun n =>{n with key:=key,val:=val})).toList=es.toList.set j {u with key:=key,val:=val}:=(by rw [Array.toList_modify,ChangeMaps.modify_eq_set _ _ _ _ o]);refine⟨setBlock w b (.map (es.modify j (fun n =>{n with key:=key,val:=val})) clock),_,?_,.inr ⟨j,u.val,by rw [zH,o,<-z];rfl,rfl⟩,?_⟩
  ·simp [Instr.mapUpdate,run_underlying D,MapKept.run_getObj_map q,K.check w false c,y,C,z,K.stays w c,MapKept.run_setObj_map _ q,Result.andThen,setBlock]
  ·have:=i (es.modify j (fun n =>{n with key:=key,val:=val})) clock ⟨by simpa using F.size,stamped_modify F.stamped _ _ (fun _ _=>rfl) (fun n _ s =>by rw [C]at s;cases s;exact z.symm),fun x d=>by
    rw [g]at d;rcases xe d with d|rfl
    ·exact F.reads x d
    ·exact⟨_,rd_mk c rfl⟩⟩
   rw [g,List.map_set]at this;exact this
end
open Go.RowKit
def qT {α:Type} (F:Fence) (n:Nat) (P:Program) (g:Nat) (lb:aG) (encs:α->aG) (Kp:O->O->Prop) (S Sp:List α->Prop) (d:List α->α->Prop) (w:O):Prop:=
 ∀(l:Nat) (J b:List α->O->Prop) (W:O),Below w.heap.size w W->AbidesFrom W.heap.size J->AbidesFrom W.heap.size b->
  (∀pre x c,J pre c->d pre x->YieldAt F (n - 1) P l (encs x) c fun e a =>
   (e= .returned (.bool true)/\J (pre++ [x]) a /\Kp c a)\/(e= .returned (.bool false)/\b (pre++ [x]) a))->
  J [] W->
  CallsIn F n P g (#[.func (.yield l) #[] #[]]++lb) W fun e a =>(∃v,e= .returned v)/\((∃xs,S xs/\J xs a)\/(∃pre,Sp pre/\b pre a))
variable {F:Fence} {n:Nat} {P:Program}
theorem YX {α:Type} {g:Operand} {ps:Array Tmp} {assign body:Code} {Q:Exit->Act->O->Prop} {a:Act} {w:O}
 (h9:F.round=none) (h1:1<=n) {gf:Nat} {lb:aG} (hg:a.eval g= .func (.func gf) #[] lb) (hv:F.fn gf) (eg:∀args w,(callFunc gf args).run P w= .ok (.enter gf args) w)
 {encs:α->aG} {Kp:O->O->Prop} {S Sp:List α->Prop} {Ok:List α->α->Prop} {w0:O} (ht:qT F (n - 1) P gf lb encs Kp S Sp Ok w0)
 (U:∀{A B C:O},Kp A B->Kp B C->Kp A C) (hb:∀(W:O) (l:Nat) (o o' :Obj),w.heap.size<=l->W.heap[l]? =some o->o.isCells=false->o.isWalk=false->Kp W (W.putObj l o')) (hd:Below w0.heap.size w0 w) (h8:∀x,(encs x).size=ps.size)
 (I:List α->O->Prop) (Ix:Code->List α->O->Prop) (hI:OwnFrom w.heap.size I) (H:∀c,OwnFrom w.heap.size (Ix c)) (h0:I [] w) (Ax:α->Act->O->Prop) (hu:∀x M,OwnFrom w.heap.size (fun(_:Unit) W=>Ax x M W))
 (J:∀(l:Nat) (pre:List α) (x:α) (W:O) (K:Act->O->Prop),I pre W->(∀M W',KeepsFrom w.heap.size W W' ->Kp W W' ->I pre W' ->Ax x M W' ->K M W')->
  assign.wpIn (F.inRound l) (n - 1 - 1) P (Exit.then K (fun _ _ _=>False)) {tmps:=(ps.zip (encs x)).foldl (fun t (p,v)=>t.setIfInBounds p v) a.tmps,defers:= []} W)
 (X:∀(l:Nat) (pre:List α) (x:α) (M :Act) (W:O),w.heap.size<=l->(∃r,W.heap[l]? =some (.loop r))->I pre W->Ax x M W->Ok pre x->body.wpIn (F.inRound l) (n - 1 - 1) P (ownPostG w.heap.size Kp I Ix (pre++ [x]) W) M W)
 (Y:∀(D:Nat) (xs:List α) (W:O),w.heap.size<=D->S xs->I xs W->W.heap[D]? =some (.deferred (some []))->Q .normal {a with defers:={target:= .collected D,args:= #[]}::a.defers} W)
 (ha:∀(D:Nat) (c:Code) (pre:List α) (W:O),w.heap.size<=D->Sp pre->Ix c pre W->W.heap[D]? =some (.deferred (some []))->c.wpIn F n P Q {a with defers:={target:= .collected D,args:= #[]}::a.defers} W):
 (Code.rangeFunc g ps assign body).wpIn F n P Q a w:=by
 refine wpIn_rangeFunc ?_;intro fn h6;rw [h9];obtain⟨b,d⟩:∃b:LoopState->Option Code->Loop,b=fun st pe=>{state:=st,pending:=pe,fn,tmps:=a.tmps,params:=ps,assign,body,defers:=w.heap.size}:=⟨_,rfl⟩;obtain⟨R,z⟩:=eX ((w.alloc (.deferred (some []))).alloc (.loop (b .ready none)))
 have h2:R.heap[w.heap.size+1]? =some (.loop (b .ready none)):=by
  rw [<-z];have:=World.alloc_heap_new (w.alloc (.deferred (some []))) (.loop (b .ready none));rwa [World.size_alloc]at this
 have hz:R.heap[w.heap.size]? =some (.deferred (some [])):=by
  rw [<-z];exact(Below.heap_alloc _ _ _ (by simp)).trans (World.alloc_heap_new w _)
 have hx:I [] R:=by rw [<-z];exact hI.alloc _ (hI.alloc _ h0)
 have h5:Below w0.heap.size w0 R:=by
  rw [<-z];exact hd.trans ((((zE _ w).alloc (zC _) _).alloc (by simp) _).mono hd.size)
 refine⟨w.heap.size+1, [{target:= .collected w.heap.size,args:= #[]}],R,{target:= .fn (.func gf) lb,args:= #[.func (.yield (w.heap.size+1)) #[] #[]]},R,gf,
  #[.func (.yield (w.heap.size+1)) #[] #[]]++lb,R,?_,?_,?_,?_,fun _=>h1,?_⟩
 ·rw [<-z,d];exact run_enterLoop_outer _ _ _ _ _
 ·simp only [resolve,hg];simp [go_sem]
 ·intro f' he;simp [Target.leads]at he;subst he;exact hv
 ·simp [invoke,go_sem,eg]
 ·
  have hn:∀{A B:O} {E:Option Nat},(∀r,E=some r->R.heap.size<=r/\∃o:Obj,A.heap[r]? =some o/\o.isWalk=true)->(∀r,E=some r->w.heap.size<=r/\∃o:Obj,A.heap[r]? =some o/\o.isCells=false):=
   fun j r e=>by obtain⟨hB,o,ho,hw⟩:=j r e;exact⟨by rw [<-z]at hB;simp at hB;omega,o,ho,Obj.not_cells_of_walk hw⟩
  refine(ht (w.heap.size+1)
   (fun pre W=>I pre W/\W.heap[w.heap.size+1]? =some (.loop (b .ready none))/\W.heap[w.heap.size]? =some (.deferred (some [])))
   (fun pre W=>∃c,Ix c pre W/\W.heap[w.heap.size+1]? =some (.loop (b .done (some c)))/\W.heap[w.heap.size]? =some (.deferred (some [])))
   R h5
   (fun s A B E hs k j=>⟨hI s A B E hs.1 k (hn (B:=B) j),(grownBy_keeps k (fun r e=>(j r e).2) hs.2.1 rfl).trans hs.2.1,(grownBy_keeps k (fun r e=>(j r e).2) hs.2.2 rfl).trans hs.2.2⟩)
   (fun s A B E hs k j=>by
    obtain⟨c,hc,i,N⟩:=hs;exact⟨c,H c s A B E hc k (hn (B:=B) j),(grownBy_keeps k (fun r e=>(j r e).2) i rfl).trans i,(grownBy_keeps k (fun r e=>(j r e).2) N rfl).trans N⟩)
   ?_ ⟨hx,h2,hz⟩).mono ?_
  ·skip
   rintro pre x W ⟨Z,i,N⟩ hlen;have hm:w.heap.size+1<W.heap.size:=(Array.getElem?_eq_some_iff.1 i).1;have hy:=run_yield (P:=P) (args:=encs x) i (by rw [d];exact h8 x);rw [d]at hy;refine⟨fn,_,assign,body,hy,roundIn_of_wpIn h6 (J _ pre x W _ Z ?_)⟩;clear hy;intro M Wa y L hf h4;replace i:=y.same _ _ (by omega) i rfl;replace N:=y.same _ _ (zC _) N rfl
   replace hm:w.heap.size+1<Wa.heap.size:=(Array.getElem?_eq_some_iff.1 i).1;replace Z:=hf;clear hf;revert L y;generalize W=Wb;intro y L;obtain⟨W,rfl⟩:∃W,W=Wa:=⟨_,rfl⟩;refine⟨_,run_beginRound i (by rw [d]),?_⟩
   have hj:(W.putObj (w.heap.size+1) (.loop {b .ready none with state:= .busy})).heap[w.heap.size+1]? =some (.loop {b .ready none with state:= .busy}):=World.putObj_heap_same hm;have h7:(W.putObj (w.heap.size+1) (.loop {b .ready none with state:= .busy})).heap[w.heap.size]? =some (.deferred (some [])):=(World.putObj_heap_other (by omega)).trans N
   have xb:Kp W (W.putObj (w.heap.size+1) (.loop {b .ready none with state:= .busy})):=hb _ _ _ _ (by omega) i rfl rfl;refine wpIn_mono (X _ pre x M _ (by omega) ⟨_,hj⟩ (hI.putObj _ Z (by omega) i rfl) ((hu x M).putObj (s:=()) _ h4 (by omega) i rfl) hlen) ?_
   have T:∀(jump:Option Code) (G:O),KeepsFrom w.heap.size (W.putObj (w.heap.size+1) (.loop {b .ready none with state:= .busy})) G->
    (Instr.endRound (w.heap.size+1) jump).run P G= .ok (.bool jump.isNone) (G.putObj (w.heap.size+1) (.loop (b (if jump.isNone then .ready else .done) jump)))/\
    G.heap[w.heap.size+1]? =some (.loop {b .ready none with state:= .busy})/\
    (G.putObj (w.heap.size+1) (.loop (b (if jump.isNone then .ready else .done) jump))).heap[w.heap.size+1]? =some (.loop (b (if jump.isNone then .ready else .done) jump))/\
    (G.putObj (w.heap.size+1) (.loop (b (if jump.isNone then .ready else .done) jump))).heap[w.heap.size]? =some (.deferred (some [])):=fun jump G h=>by
    have f:=h.same _ _ (by omega) hj rfl;have:=run_endRound (P:=P) jump f;rw [d]at this⊢;exact⟨this,by rw [d]at f;exact f,World.putObj_heap_same (Array.getElem?_eq_some_iff.1 f).1,(World.putObj_heap_other (by omega)).trans (h.same _ _ (zC _) h7 rfl)⟩
   rintro e a3 G hp;cases e with
   |normal=>
    obtain⟨h,hh,m⟩:=hp;obtain⟨j,f,u,q⟩:=T none G h;exact⟨_,_,j,.inl ⟨rfl,⟨hI.putObj _ m (by omega) f rfl,u,q⟩,U L (U (U xb hh) (hb _ _ _ _ (by omega) f rfl rfl))⟩⟩
   |ret=>
    obtain⟨h,m⟩:=hp;obtain⟨j,f,u,q⟩:=T (some .ret) G h;exact⟨_,_,j,.inr ⟨rfl,.ret,(H _).putObj _ m (by omega) f rfl,u,q⟩⟩
   |exit id=>
    obtain⟨h,m⟩:=hp;obtain⟨j,f,u,q⟩:=T (some (.exit id)) G h;exact⟨_,_,j,.inr ⟨rfl,.exit id,(H _).putObj _ m (by omega) f rfl,u,q⟩⟩
   |goto t=>
    obtain⟨h,m⟩:=hp;obtain⟨j,f,u,q⟩:=T (some (.goto t)) G h;exact⟨_,_,j,.inr ⟨rfl,.goto t,(H _).putObj _ m (by omega) f rfl,u,q⟩⟩
   |panic ch=>exact hp.elim
   |outgrown=>exact hp.elim
  ·skip
   rintro e W2 ⟨⟨v,rfl⟩,(⟨xs,hS,Z,i,N⟩|⟨pre,h3,c,Z,i,N⟩)⟩
   ·exact⟨none,_,by have:=run_endLoop (P:=P) i (by rw [d];simp);rw [d]at this;exact this,Y _ xs _ (zC _) hS (hI.putObj _ Z (by omega) i rfl) ((World.putObj_heap_other (by omega)).trans N)⟩
   ·exact⟨some c,_,by have:=run_endLoop (P:=P) i (by rw [d];simp);rw [d]at this;exact this,ha _ c pre _ (zC _) h3 ((H c).putObj _ Z (by omega) i rfl) ((World.putObj_heap_other (by omega)).trans N)⟩
end Go.Proofs.YtjbhbfaeielbiaaGreatDoor

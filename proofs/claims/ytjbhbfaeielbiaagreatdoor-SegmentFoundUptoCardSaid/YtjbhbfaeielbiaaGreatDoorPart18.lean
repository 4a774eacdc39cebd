import Derived.Shelf.RegionOpen
import Derived.LoopNIn
import Derived.LoopIn
import Derived.Test.YtjbhbfaeielbiaaGreatDoorPart06
import Derived.Shelf.AbstractIn
import Derived.Laws.EntriesVeiled
import Derived.Test.YtjbhbfaeielbiaaGreatDoorPart13
import Derived.Test.YtjbhbfaeielbiaaGreatDoorPart10
set_option maxRecDepth 100000
set_option maxHeartbeats 8000000
set_option linter.unusedVariables false
set_option linter.unusedSimpArgs false
namespace Go.Proofs.YtjbhbfaeielbiaaGreatDoor
open Go.Proofs.Tryz
open Rep (rep)
open Go.RowKit Go.Shelf
attribute [local go_sem] Oper.semAt_some
def Tabs (w:O):Prop:=Lib.Utf8Tabs 3 4 w
theorem Tabs.on {w w' :O} (h:Tabs w) (a:Below w.heap.size w w'):Tabs w' :=Utf8Tabs_below h a
theorem dR (s:aB) (i:Nat) (f:i<s.size) (j:s.size<=9223372036854775807) (w:O) (c:Tabs w):
 Calls prog 292 #[.string s,.int .i64 i] w fun e w' =>e= .returned (.tuple #[.int .i32 (rn s i),.int .i64 (wd s i)])/\Below w.heap.size w w' :=by
 have a:=rP s i f;have g:(i:Int)<(s.size:Int):=by omega
 have h:¬(s.size:Int)<=(i:Int):=by omega
 have b:=zA a;clear a;go_enter func292,ntmps292;go_wp2_with (go_at_call 344;refine(Tryz.utf8_DecodeRuneInString _ _ c).mono ?_;rw [b.o];rintro e w' ⟨rfl,d⟩);go_ret2;exact⟨rfl,d⟩
theorem U2 (s:aB) (w:O):
 Calls prog 250 #[.string s] w fun e w' =>e= .returned (.func (.func 294) #[] #[.pointer (some ⟨w.heap.size,0,none⟩)])/\w' =w.alloc (.cells #[.string s] 9):=by
 have a:=@mF prog;go_enter func250,ntmps250;go_wp2;go_ret
 exact⟨rfl,rfl⟩
def YS (c a:Nat) (W b :O):Prop:=Below c W b /\∀v,Boxed W a 9 v->Boxed b a 9 v
theorem YS.trans {b a:Nat} {A B C:O} (h:YS b a A B) (k:YS b a B C):YS b a A C:=⟨h.1.trans k.1,fun v c=>k.2 v (h.2 v c)⟩
theorem YS.putObj {d b:Nat} {w:O} (i:d<=w.heap.size) (W:O) (l:Nat) (o a :Obj) (g:w.heap.size<=l) (h:W.heap[l]? =some o) (f:o.isCells=false) (j:o.isWalk=false):YS d b W (W.putObj l a):=by
 refine⟨?_,fun v c=>c.kept (grownBy_putObj' W l a) (fun e=>by cases e;rw [show W.heap[b]? =_ from c]at h;cases h;cases f)⟩;exact(zE _ W).grown (grownBy_putObj' W l a) (by have:=(Array.getElem?_eq_some_iff.1 h).1;omega) (fun k e=>by cases e;omega)
theorem Below.grownBy' {w w' :O} (h:Below w.heap.size w w'):w.grownBy w' none:=⟨h.os,h.tape,h.output,h.size,fun k a _=>h.block k a⟩
theorem Boxed.on {W a :O} {B:Nat} {t:TypeId} {v:V} (h:Boxed W B t v) (b:Below W.heap.size W a):Boxed a B t v:=h.kept (Below.grownBy' b) (by simp)
def Wh (s:aB) (x:Nat):aG:= #[.int .i64 x,.int .i32 (rn s x)]
theorem DF (D C:Nat) (s:aB) (hs:s.size<=9223372036854775800) (w0:O) (N:Tabs w0) (B:w0.heap.size=D) (d:Nat) (ha:1<=d)
 (l:Nat) (J K:aE->O->Prop) (W:O) (P:Below D w0 W) (L:AbidesFrom W.heap.size J)
 (Q:∀pre x G,J pre G->pre++ [x]<+:ats s->YieldAt Fence.wide (d - 1) prog l (Wh s x) G fun e j =>
  (e= .returned (.bool true)/\J (pre++ [x]) j /\YS D C G j)\/(e= .returned (.bool false)/\K (pre++ [x]) j))
 (a:Boxed W C 9 (.string s)) (h0:J [] W):
 CallsIn Fence.wide d prog 294 #[.func (.yield l) #[] #[],.pointer (some ⟨C,0,none⟩)] W fun e j =>(∃v,e= .returned v)/\
  ((∃T,T=ats s/\J T j)\/(∃pre,pre<+:ats s/\K pre j)):=by
 have Y:=zA N;have HY:=zA Q;have U:=zA L;have Z:=zA P;have E:=zA a;have o:=zA B;clear N Q L P a B;refine callsIn_of_wp func294 rfl trivial ?_ rfl;simp only [ntmps294,yP,z6,yO,Nat.reduceAdd,Nat.reduceSub,xI,xH,xf,xM,zZ,yI]
 gi_wp2
 gi_loopw [3] (fun i wr=>∃(pre:aE) (k:Nat),k<=s.size/\i= .int .i64 k/\ats s=pre++Yo s k/\J pre wr/\Below D w0 wr/\W.heap.size<=wr.heap.size/\Boxed wr C 9 (.string s)) (fun i _=>s.size - (intOf i).toNat)
 case atStart=>exact⟨[],0,zJ _,rfl,rfl,h0,Z.o,zC _,E.o⟩
 case round=>
  obtain⟨pre,k,hk,rfl,u,r,y,I,a⟩:=hrel;have cS:=a.cell;have n:=zA r;have g:=zA y;have m:=zA a;have c:=zA u;clear r y a u
  by_cases b:k<s.size
  ·have hb:=pU b;have hc:=UV b;have H:Hid (Tabs wr):=Y.o.on (by rw [o.o];exact g.o)
   gi_wp2_with (refine⟨trivial,?_⟩;gi_at_call 292;refine(callsIn_wide.2 (dR s k b (by omega) _ H.o)).mono ?_;rintro e S ⟨rfl,w⟩;have f:Hid (Below wr.heap.size wr S):=w;clear w;have p:=U.o _ _ _ _ n.o (Below.grownBy' f.o) (fun _ e=>by cases e);have hpre:pre++ [k]<+:ats s:=(by rw [c.o,Qo b];exact⟨Yo s (k+wd s k),by simp⟩);obtain⟨fn,R,assign,body,hy,M⟩:=HY.o _ _ S p hpre;simp only [Wh]at hy;have X:=zA M;clear p M hpre)
   refine X.o.mono ?_;rintro e W3 (⟨rfl,q,A⟩|⟨rfl,t⟩)
   ·have h:=zA A;have F:=zA q;clear A q
    gi_wp2
    go_roundw
    case rel=>exact⟨pre++ [k],k+wd s k,by omega,by go_num,by rw [c.o,Qo b];simp,F.o,(g.o.trans (f.o.mono (o.o▸g.o.size))).trans h.o.1,zY (zY I f.o.size) h.o.1.size,h.o.2 _ (Boxed.on m.o f.o)⟩
    case measure=>simp [intOf];omega
   ·gi_wp2
    refine bodyPost_ret (results_none rfl _ _ _) rfl ?_;refine⟨⟨_,rfl⟩,.inr ⟨_,?_,t⟩⟩;rw [c.o,Qo b];exact⟨Yo s (k+wd s k),by simp⟩
  ·obtain rfl:k=s.size:=by omega
   have z:Hid (ats s=pre):=by show _=_;rw [c.o,vG (zC _),zo]
   gi_wp2
   go_end0
   exact⟨⟨_,rfl⟩,.inl ⟨_,rfl,by rw [z.o];exact n.o⟩⟩
theorem WF (e c:Nat) (s:aB) (o:s.size<=9223372036854775800) (w0:O) (m:Tabs w0) (b:w0.heap.size=e) (d:Nat) (g:1<=d) (W0:O) (a:Below e w0 W0) (f:Boxed W0 c 9 (.string s)):
 qT Fence.wide d prog 294 #[.pointer (some ⟨c,0,none⟩)] (Wh s) (YS e c) (fun p=>p=ats s) (fun pre=>pre<+:ats s) (fun pre x=>pre++ [x]<+:ats s) W0:=
 fun l J i W h k _ n j=>DF e c s o w0 m b d g l J i W (a.trans (h.mono (b▸a.size))) k n (Boxed.on f h) j
def OS (k:FuncId) (lb:aG) (p:Int->Bool) (w:O):Prop:=
 (∀(args:aG) (W:O),(callFunc k args).run prog W= .ok (.enter k args) W)/\
 ∀(W:O) (r:Int),Below w.heap.size w W->0<=r->r<=0x10FFFF->Calls prog k (#[.int .i32 r]++lb) W fun e a =>e= .returned (.bool (p r))/\Below W.heap.size W a
def RunI (s:aB) (d e:FuncId) (a c:aG) (p b:Int->Bool) (w:O) (pre:aE) (W:O):Prop:=
 (∃v,Boxed W (w.heap.size+1+1+1) 41 v/\Own Flat W w.heap.size 48 v (Z7 s p b pre).1)/\Boxed W (w.heap.size+1+1+1+1) 3 (.int .i64 (frI (Z7 s p b pre).2))/\Boxed W (w.heap.size) 9 (.string s)/\Boxed W (w.heap.size+1) 305 (.func (.func d) #[] a)/\Boxed W (w.heap.size+1+1) 305 (.func (.func e) #[] c)/\Boxed W (w.heap.size+1+1+1+1+1) 366 (.func (.func 249) #[] #[.pointer (some ⟨w.heap.size+1+1+1+1,0,none⟩),.pointer (some ⟨w.heap.size+1+1+1,0,none⟩),.pointer (some ⟨w.heap.size,0,none⟩)])/\Below w.heap.size w W/\w.heap.size+7<=W.heap.size
theorem RunI.from_ (s:aB) (h i:FuncId) (a c:aG) (p b:Int->Bool) (w:O) (d:Nat) (f:w.heap.size<=d):OwnFrom d (RunI s h i a c p b w):=
 OwnFrom.and (VM _ _ _ _ _ _) (OwnFrom.and (Own.from (boxed_own _ _ _) _) (OwnFrom.and (Own.from (boxed_own _ _ _) _) (OwnFrom.and (Own.from (boxed_own _ _ _) _) (OwnFrom.and (Own.from (boxed_own _ _ _) _) (OwnFrom.and (Own.from (boxed_own _ _ _) _) (OwnFrom.and (ownFrom_below (zC _) f) (fun _ _ _ _ g e _=>zY g e.size)))))))
theorem RunI.on {s:aB} {f g:FuncId} {a c:aG} {p b:Int->Bool} {w:O} {pre:aE} {W d :O} (h:RunI s f g a c p b w pre W) (i:Below W.heap.size W d):RunI s f g a c p b w pre d :=
 RunI.from_ s f g a c p b w _ (zC _) pre W d none h (Below.grownBy' i) (fun _ e=>by cases e)
theorem RunI.parts {s:aB} {j k:FuncId} {a d:aG} {p b:Int->Bool} {w:O} {pre:aE} {W:O} {toks:List Token} {g:Option Nat} (h:RunI s j k a d p b w pre W) (f:Z7 s p b pre=(toks,g)):
 ∃A c,Boxed W (w.heap.size+1+1+1) 41 (.slice A toks.length c)/\Own Flat W w.heap.size 48 (.slice A toks.length c) toks/\Boxed W (w.heap.size+1+1+1+1) 3 (.int .i64 (frI g))/\Boxed W (w.heap.size) 9 (.string s)/\Boxed W (w.heap.size+1) 305 (.func (.func j) #[] a)/\Boxed W (w.heap.size+1+1) 305 (.func (.func k) #[] d)/\Boxed W (w.heap.size+1+1+1+1+1) 366 (.func (.func 249) #[] #[.pointer (some ⟨w.heap.size+1+1+1+1,0,none⟩),.pointer (some ⟨w.heap.size+1+1+1,0,none⟩),.pointer (some ⟨w.heap.size,0,none⟩)])/\Below w.heap.size w W/\w.heap.size+7<=W.heap.size:=by
 obtain⟨⟨v,l,e⟩,i,m,n,o,q,r,t⟩:=h;rw [f]at e i;obtain⟨A,c,rfl⟩:=e.form;exact⟨A,c,l,e,i,m,n,o,q,r,t⟩
theorem RunI.finish {s:aB} {q t:FuncId} {g h:aG} {p b:Int->Bool} {w:O} {pre:aE} {x:Nat} {W j a :O} {toks:List Token} {k:Option Nat} (n:Nat) (l:RunI s q t g h p b w pre W) (c:Below W.heap.size W j) (d:yT [w.heap.size+1+1+1+1,w.heap.size+1+1+1] 48 j a) (m:Below w.heap.size j a)
 (i:Z7 s p b (pre++ [x])=(toks,k)) (J:∃v,Boxed a (w.heap.size+1+1+1) 41 v/\Own Flat a w.heap.size 48 v toks) (H:Boxed a (w.heap.size+1+1+1+1) 3 (.int .i64 (frI k))):
 KeepsFrom n W a /\YS w.heap.size (w.heap.size+1+1+1+1+1+1) W a /\RunI s q t g h p b w (pre++ [x]) a :=by
 have f:=l.on c;have G:=f;obtain⟨⟨v,y,L⟩,z,A,B,C,D,E,F⟩:=f;have hB:Below w.heap.size W a :=(c.mono (by have:=l.2.2.2.2.2.2.2;omega)).trans m;refine⟨((Below.grownBy' c|>fun I=>KeepsOthers.of_grownBy I (fun _ _ e _=>by cases e)).trans (d.others (fun r o=> ?_))).from _,⟨hB,fun u K=>d.box (Boxed.on K c) (by simp;omega) (by decide)⟩,?_⟩
 ·simp only [yx,xZ,or_false]at o;rcases o with rfl|rfl
  ·exact⟨_,_,z⟩
  ·exact⟨_,_,y⟩
 ·rw [RunI,i];exact⟨J,H,d.box A (by first|(simp;done)|(simp;omega)) (by decide),d.box B (by first|(simp;done)|(simp;omega)) (by decide),d.box C (by first|(simp;done)|(simp;omega)) (by decide),d.box D (by first|(simp;done)|(simp;omega)) (by decide),E.trans m,zY F d.1⟩
theorem dM (s:aB) (hs:s.size<=1000000000) (L M:FuncId) (q t:aG) (p b:Int->Bool) (w:O) (hT:Tabs w) (h1:OS L q p w) (h2:OS M t b w):
 Calls prog 181 #[.string s,.func (.func L) #[] q,.func (.func M) #[] t] w fun e w' =>∃v,e= .returned v/\Own Flat w' w.heap.size 48 v (Xm s p b)/\Below w.heap.size w w' :=by
 have x1:=Qn s;have x3:=@mF prog;obtain⟨e1,hp⟩:=h1;obtain⟨e2,hb⟩:=h2;have Hp:=zA hp;have Hb:=zA hb;have HT:=zA hT;clear hp hb hT;refine(callsIn_wide (n:=6)).1 ?_;refine callsIn_of_wp_marks func181 rfl trivial ?_ rfl;simp only [ntmps181,yP,z6,yO,Nat.reduceAdd,Nat.reduceSub,xI,xH,xf,xM,zZ,yI]
 gi_wp2_with (refine⟨trivial,?_⟩;gi_at_call 250;refine(callsIn_wide.2 (U2 s _)).mono ?_;rintro e w2 ⟨rfl,rfl⟩)
 have y:=((((((Boxed.new (w) 9 (.string s)).alloc (.cells #[.func (.func L) #[] q] 305)).alloc (.cells #[.func (.func M) #[] t] 305)).alloc (.cells #[.slice none 0 0] 41)).alloc (.cells #[.int .i64 (-1)] 3)).alloc (.cells #[.func (.func 249) #[] #[.pointer (some ⟨w.heap.size+1+1+1+1,0,none⟩),.pointer (some ⟨w.heap.size+1+1+1,0,none⟩),.pointer (some ⟨w.heap.size,0,none⟩)]] 366)).alloc (.cells #[.string s] 9)
 have z:=(((((Boxed.new ((w).alloc (.cells #[.string s] 9)) 305 (.func (.func L) #[] q)).alloc (.cells #[.func (.func M) #[] t] 305)).alloc (.cells #[.slice none 0 0] 41)).alloc (.cells #[.int .i64 (-1)] 3)).alloc (.cells #[.func (.func 249) #[] #[.pointer (some ⟨w.heap.size+1+1+1+1,0,none⟩),.pointer (some ⟨w.heap.size+1+1+1,0,none⟩),.pointer (some ⟨w.heap.size,0,none⟩)]] 366)).alloc (.cells #[.string s] 9)
 have o:=((((Boxed.new (((w).alloc (.cells #[.string s] 9)).alloc (.cells #[.func (.func L) #[] q] 305)) 305 (.func (.func M) #[] t)).alloc (.cells #[.slice none 0 0] 41)).alloc (.cells #[.int .i64 (-1)] 3)).alloc (.cells #[.func (.func 249) #[] #[.pointer (some ⟨w.heap.size+1+1+1+1,0,none⟩),.pointer (some ⟨w.heap.size+1+1+1,0,none⟩),.pointer (some ⟨w.heap.size,0,none⟩)]] 366)).alloc (.cells #[.string s] 9)
 have u:=(((Boxed.new ((((w).alloc (.cells #[.string s] 9)).alloc (.cells #[.func (.func L) #[] q] 305)).alloc (.cells #[.func (.func M) #[] t] 305)) 41 (.slice none 0 0)).alloc (.cells #[.int .i64 (-1)] 3)).alloc (.cells #[.func (.func 249) #[] #[.pointer (some ⟨w.heap.size+1+1+1+1,0,none⟩),.pointer (some ⟨w.heap.size+1+1+1,0,none⟩),.pointer (some ⟨w.heap.size,0,none⟩)]] 366)).alloc (.cells #[.string s] 9)
 have g:=((Boxed.new (((((w).alloc (.cells #[.string s] 9)).alloc (.cells #[.func (.func L) #[] q] 305)).alloc (.cells #[.func (.func M) #[] t] 305)).alloc (.cells #[.slice none 0 0] 41)) 3 (.int .i64 (-1))).alloc (.cells #[.func (.func 249) #[] #[.pointer (some ⟨w.heap.size+1+1+1+1,0,none⟩),.pointer (some ⟨w.heap.size+1+1+1,0,none⟩),.pointer (some ⟨w.heap.size,0,none⟩)]] 366)).alloc (.cells #[.string s] 9)
 have k:=(Boxed.new ((((((w).alloc (.cells #[.string s] 9)).alloc (.cells #[.func (.func L) #[] q] 305)).alloc (.cells #[.func (.func M) #[] t] 305)).alloc (.cells #[.slice none 0 0] 41)).alloc (.cells #[.int .i64 (-1)] 3)) 366 (.func (.func 249) #[] #[.pointer (some ⟨w.heap.size+1+1+1+1,0,none⟩),.pointer (some ⟨w.heap.size+1+1+1,0,none⟩),.pointer (some ⟨w.heap.size,0,none⟩)])).alloc (.cells #[.string s] 9)
 have bR:=Boxed.new (((((((w).alloc (.cells #[.string s] 9)).alloc (.cells #[.func (.func L) #[] q] 305)).alloc (.cells #[.func (.func M) #[] t] 305)).alloc (.cells #[.slice none 0 0] 41)).alloc (.cells #[.int .i64 (-1)] 3)).alloc (.cells #[.func (.func 249) #[] #[.pointer (some ⟨w.heap.size+1+1+1+1,0,none⟩),.pointer (some ⟨w.heap.size+1+1+1,0,none⟩),.pointer (some ⟨w.heap.size,0,none⟩)]] 366)) 9 (.string s)
 simp only [World.size_alloc]at y z o u g k bR
 have ha:Below w.heap.size w ((((((((w).alloc (.cells #[.string s] 9)).alloc (.cells #[.func (.func L) #[] q] 305)).alloc (.cells #[.func (.func M) #[] t] 305)).alloc (.cells #[.slice none 0 0] 41)).alloc (.cells #[.int .i64 (-1)] 3)).alloc (.cells #[.func (.func 249) #[] #[.pointer (some ⟨w.heap.size+1+1+1+1,0,none⟩),.pointer (some ⟨w.heap.size+1+1+1,0,none⟩),.pointer (some ⟨w.heap.size,0,none⟩)]] 366)).alloc (.cells #[.string s] 9)):=(((((((zE _ w).alloc (zC _) _).alloc (by simp<;>omega) _).alloc (by simp<;>omega) _).alloc (by simp<;>omega) _).alloc (by simp<;>omega) _).alloc (by simp<;>omega) _).alloc (by simp<;>omega) _
 have xs:((((((((w).alloc (.cells #[.string s] 9)).alloc (.cells #[.func (.func L) #[] q] 305)).alloc (.cells #[.func (.func M) #[] t] 305)).alloc (.cells #[.slice none 0 0] 41)).alloc (.cells #[.int .i64 (-1)] 3)).alloc (.cells #[.func (.func 249) #[] #[.pointer (some ⟨w.heap.size+1+1+1+1,0,none⟩),.pointer (some ⟨w.heap.size+1+1+1,0,none⟩),.pointer (some ⟨w.heap.size,0,none⟩)]] 366)).alloc (.cells #[.string s] 9)).heap.size=w.heap.size+7:=by simp
 obtain⟨W0,h3⟩:=eX ((((((((w).alloc (.cells #[.string s] 9)).alloc (.cells #[.func (.func L) #[] q] 305)).alloc (.cells #[.func (.func M) #[] t] 305)).alloc (.cells #[.slice none 0 0] 41)).alloc (.cells #[.int .i64 (-1)] 3)).alloc (.cells #[.func (.func 249) #[] #[.pointer (some ⟨w.heap.size+1+1+1+1,0,none⟩),.pointer (some ⟨w.heap.size+1+1+1,0,none⟩),.pointer (some ⟨w.heap.size,0,none⟩)]] 366)).alloc (.cells #[.string s] 9))
 rw [h3]at y z o u g k bR ha xs⊢;clear h3;have hz:RunI s L M q t p b w [] W0:=⟨⟨_,u,Own.nil _ _ _ _⟩,g,y,z,o,k,ha,by omega⟩
 refine YX (n:=6) (F:=Fence.wide) rfl (by omega) (gf:=294) (lb:= #[.pointer (some ⟨w.heap.size+1+1+1+1+1+1,0,none⟩)]) rfl trivial (enters_of func294 (by kernel_rfl) rfl)
  (WF w.heap.size (w.heap.size+1+1+1+1+1+1) s (by omega) w HT.o rfl (6 - 1) (by omega) W0 ha bR) YS.trans (YS.putObj ha.size) (zE _ _) (fun _=>rfl)
  (RunI s L M q t p b w)
  (fun _ _ _=>False)
  (RunI.from_ s L M q t p b w _ ha.size)
  (fun _ _ _ _ _ hs _ _=>hs)
  hz
  (fun x a' _=>a' ={tmps:= #[.string s,.func (.func L) #[] q,.func (.func M) #[] t,.pointer (some ⟨w.heap.size,0,none⟩),.pointer (some ⟨w.heap.size+1,0,none⟩),.pointer (some ⟨w.heap.size+1+1,0,none⟩),.slice none 0 0,.pointer (some ⟨w.heap.size+1+1+1,0,none⟩),.pointer (some ⟨w.heap.size+1+1+1+1,0,none⟩),.pointer (some ⟨w.heap.size+1+1+1+1+1,0,none⟩),.int .i64 x,.int .i32 (rn s x),(.func (.func 249) #[] #[.pointer (some ⟨w.heap.size+1+1+1+1,0,none⟩),.pointer (some ⟨w.heap.size+1+1+1,0,none⟩),.pointer (some ⟨w.heap.size,0,none⟩)]),.string s,.func (.func 294) #[] #[.pointer (some ⟨w.heap.size+1+1+1+1+1+1,0,none⟩)],.int .i64 x,.int .i32 (rn s x),undef,undef,undef,undef,undef,undef,undef,undef,undef,undef,undef,undef,undef,undef,undef,undef,undef,undef,undef,undef,undef,undef],defers:= []})
  (fun x a' _ X Y x8 hs hg hr=>hs)
  ?assign ?body ?done ?stop
 case assign=>
  rintro l pre x W K hI hK;simp only [Wh]at hK⊢
  gi_wp2
  exact hK _ _ ((KeepsOthers.refl _).from _) ⟨zE _ W,fun _ h=>h⟩ hI rfl
 case body=>
  rintro l pre x a' W hl ⟨r,hr⟩ hI rfl ht;have hx:x<s.size:=V5 (ht.subset (by simp))
  have x5:pre.length<=s.size:=by
   have h1:=ht.length_le;simp at h1;omega
  have x6:=qJ s x;have h0:=X2 s p b pre x;have hlen:=U3 s p b pre;have C:=Wi s p b pre;have hv:=kD ht;have hB:=hI.2.2.2.2.2.2.1;have cM:=hI.2.2.2.1.cell;have HI:=zA hI;have HB:=zA hB;have hS:w.heap.size+7<=W.heap.size:=hI.2.2.2.2.2.2.2;obtain⟨toks,Z,J⟩:∃toks Z,Z7 s p b pre=(toks,Z):=⟨_,_,rfl⟩;rw [J]at h0 hlen C;have hi :∀f,Z=some f->f<x:=fun f h=>hv f (C f h)
  have R:=zA J;have he:=zA h0;have S:=zA hi;simp only at hlen;clear hI hB ht hr J h0 C hi hv y z o u g k bR hz;have x4:1<=6 - 1 - 1:=(by omega);rcases hpv:p (rn s x:Int)with _|_
  ·have U:=zA hpv;have j:Z6 s p b (toks,Z) x=(QF s toks Z x,none):=(by simp [Z6,hpv]);have m:=zA j;clear hpv j;cases Z with
   |none=>
    gi_wp2_with fail
    refine⟨trivial,?_⟩;refine(yU l (callsIn_wide.2 (Hp.o W (rn s x:Int) HB.o (by omega) (by omega)))).mono ?_;rw [U.o];rintro e w3 ⟨rfl,d⟩;have a:=HI.o.on d;obtain⟨A3,c3,u,A,g,y,z,o,k,i,hf⟩:=a.parts R.o;rw [show frI none= -1 from rfl]at g;have cF:=g.cell;have fF:=g.frozen;have cE:=k.cell;have cB:=o.cell;have B:=zA d;have T:=zA a;have N:=zA u
    have G:=zA g;have hd:=zA y;have ho:=zA z;have hj:=zA o;have hk:=zA k;have I:=zA A;have H:=zA i;clear d a u A g y z o k i
    gi_wp2_with fail
    refine⟨trivial,?_⟩;refine(yU l (callsIn_wide.2 (nU (x:Int) _ _ _ _ G.o))).mono ?_;rintro e w4 ⟨rfl,rfl⟩
    gi_wp2
    exact RunI.finish _ HI.o B.o (yT.set ⟨w.heap.size+1+1+1+1,0,none⟩ (by simp) _ _) ((zE _ w3).setCell (p:=⟨w.heap.size+1+1+1+1,0,none⟩) (by simp;omega) _) (he.o.trans m.o) ⟨_,Boxed.other N.o (by omega) _,ZA I.o (xT _ _ _) (xy I.o G.o (by decide))⟩ (G.o.set _)
   |some f=>
    have h5:=S.o f rfl
    gi_wp2_with fail
    refine⟨trivial,?_⟩;refine(yU l (callsIn_wide.2 (Hp.o W (rn s x:Int) HB.o (by omega) (by omega)))).mono ?_;rw [U.o];rintro e w3 ⟨rfl,d⟩;have a:=HI.o.on d;obtain⟨A3,c3,u,A,g,y,z,o,k,i,hf⟩:=a.parts R.o;rw [show frI (some f)=(f:Int)from rfl]at g;have cF:=g.cell;have fF:=g.frozen;have cE:=k.cell;have cB:=o.cell;have B:=zA d;have T:=zA a
    have N:=zA u;have G:=zA g;have hd:=zA y;have ho:=zA z;have hj:=zA o;have hk:=zA k;have I:=zA A;have H:=zA i;clear d a u A g y z o k i
    gi_wp2_with fail
    refine⟨trivial,?_⟩;refine(yU l (callsIn_wide.2 (nT s x f (by omega) (by omega) (by omega) toks w.heap.size _ _ _ _ w3 (by omega) (by omega) (by omega) (by omega) G.o N.o hd.o I.o (by omega)))).mono ?_;rintro e w4 ⟨rfl,v4,f4,o4,hc,b4,hu⟩
    gi_wp2
    exact RunI.finish _ HI.o B.o hu b4 (he.o.trans m.o) ⟨_,o4,hc⟩ f4
  ·have U:=zA hpv;cases Z with
   |none=>
    rcases hbv:b (rn s x:Int)with _|_
    ·have hy:=zA hbv;have j:Z6 s p b (toks,none) x=(toks,none):=(by simp [Z6,hpv,hbv]);have m:=zA j;clear hpv hbv j
     gi_wp2_with fail
     refine⟨trivial,?_⟩;refine(yU l (callsIn_wide.2 (Hp.o W (rn s x:Int) HB.o (by omega) (by omega)))).mono ?_;rw [U.o];rintro e w3 ⟨rfl,d⟩;have a:=HI.o.on d;obtain⟨A3,c3,u,A,g,y,z,o,k,i,hf⟩:=a.parts R.o;rw [show frI none= -1 from rfl]at g;have cF:=g.cell;have fF:=g.frozen;have cE:=k.cell;have cB:=o.cell;have B:=zA d;have T:=zA a;have N:=zA u
     have G:=zA g;have hd:=zA y;have ho:=zA z;have hj:=zA o;have hk:=zA k;have I:=zA A;have H:=zA i;clear d a u A g y z o k i
     gi_wp2_with fail
     refine⟨trivial,?_⟩;refine(yU l (callsIn_wide.2 (Hb.o w3 (rn s x:Int) H.o (by omega) (by omega)))).mono ?_;rw [hy.o];rintro e w4 ⟨rfl,d⟩;have a:=T.o.on d;obtain⟨A4,c4,u,A,g,y,z,o,k,i,xn⟩:=a.parts R.o;rw [show frI none= -1 from rfl]at g;have cF:=g.cell;have fF:=g.frozen;have cE:=k.cell;have cB:=o.cell;have Q:=zA d;have xi:=zA a;have hw:=zA u
     have hn:=zA g;have h9:=zA y;have h8:=zA z;have h6:=zA o;have h7:=zA k;have E:=zA A;have xb:=zA i;clear d a u A g y z o k i
     gi_wp2
     exact RunI.finish _ HI.o (B.o.trans (Q.o.mono B.o.size)) (yT.refl _ _ _) (zE _ _) (he.o.trans m.o) ⟨_,hw.o,E.o⟩ hn.o
    ·have hy:=zA hbv;have j:Z6 s p b (toks,none) x=(toks,some x):=(by simp [Z6,hpv,hbv]);have m:=zA j;clear hpv hbv j
     gi_wp2_with fail
     refine⟨trivial,?_⟩;refine(yU l (callsIn_wide.2 (Hp.o W (rn s x:Int) HB.o (by omega) (by omega)))).mono ?_;rw [U.o];rintro e w3 ⟨rfl,d⟩;have a:=HI.o.on d;obtain⟨A3,c3,u,A,g,y,z,o,k,i,hf⟩:=a.parts R.o;rw [show frI none= -1 from rfl]at g;have cF:=g.cell;have fF:=g.frozen;have cE:=k.cell;have cB:=o.cell;have B:=zA d;have T:=zA a;have N:=zA u
     have G:=zA g;have hd:=zA y;have ho:=zA z;have hj:=zA o;have hk:=zA k;have I:=zA A;have H:=zA i;clear d a u A g y z o k i
     gi_wp2_with fail
     refine⟨trivial,?_⟩;refine(yU l (callsIn_wide.2 (Hb.o w3 (rn s x:Int) H.o (by omega) (by omega)))).mono ?_;rw [hy.o];rintro e w4 ⟨rfl,d⟩;have a:=T.o.on d;obtain⟨A4,c4,u,A,g,y,z,o,k,i,xn⟩:=a.parts R.o;rw [show frI none= -1 from rfl]at g;have cF:=g.cell;have fF:=g.frozen;have cE:=k.cell;have cB:=o.cell;have Q:=zA d;have xi:=zA a;have hw:=zA u
     have hn:=zA g;have h9:=zA y;have h8:=zA z;have h6:=zA o;have h7:=zA k;have E:=zA A;have xb:=zA i;clear d a u A g y z o k i
     gi_wp2
     exact RunI.finish _ HI.o (B.o.trans (Q.o.mono B.o.size)) (yT.set ⟨w.heap.size+1+1+1+1,0,none⟩ (by simp) _ _) ((zE _ w4).setCell (p:=⟨w.heap.size+1+1+1+1,0,none⟩) (by simp;omega) _) (he.o.trans m.o) ⟨_,Boxed.other hw.o (by omega) _,ZA E.o (xT _ _ _) (xy E.o hn.o (by decide))⟩ (hn.o.set _)
   |some f=>
    have h5:=S.o f rfl;have x2:decide ((f:Int)<0)=false:=(by simp);have j:Z6 s p b (toks,some f) x=(toks,some f):=(by simp [Z6,hpv]);have m:=zA j;clear hpv j
    gi_wp2_with fail
    refine⟨trivial,?_⟩;refine(yU l (callsIn_wide.2 (Hp.o W (rn s x:Int) HB.o (by omega) (by omega)))).mono ?_;rw [U.o];rintro e w3 ⟨rfl,d⟩;have a:=HI.o.on d;obtain⟨A3,c3,u,A,g,y,z,o,k,i,hf⟩:=a.parts R.o;rw [show frI (some f)=(f:Int)from rfl]at g;have cF:=g.cell;have fF:=g.frozen;have cE:=k.cell;have cB:=o.cell;have B:=zA d;have T:=zA a
    have N:=zA u;have G:=zA g;have hd:=zA y;have ho:=zA z;have hj:=zA o;have hk:=zA k;have I:=zA A;have H:=zA i;clear d a u A g y z o k i
    gi_wp2
    refine⟨fun _ h=>(by cases h),?_⟩
    gi_wp2
    exact RunI.finish _ HI.o B.o (yT.refl _ _ _) (zE _ _) (he.o.trans m.o) ⟨_,N.o,I.o⟩ G.o
 case done=>
  rintro D ys W hD rfl hI hK;have hlen:=U3 s p b (ats s);have C:=Wi s p b (ats s);obtain⟨toks,Z,J⟩:∃toks Z,Z7 s p b (ats s)=(toks,Z):=⟨_,_,rfl⟩;have j:Xm s p b=QF s toks Z s.size:=(by unfold Xm;rw [J]);rw [J]at hlen C;obtain⟨A3,c3,u,A,g,y,z,o,k,i,hf⟩:=hI.parts J;have cE:=k.cell;have cT:=y.cell;have HI:=zA hI;have BO:=zA u;have BF:=zA g;have BT:=zA y
  have BE:=zA k;have OO:=zA A;have H:=zA i;have HK:=zA hK;have m:=zA j;have S:Hid (∀f,Z=some f->f<s.size):=fun f h=>V5 (C f h);simp only at hlen;clear hI u g z o k A i hK J j C bR hz ha;cases Z with
  |none=>
   gi_wp2_with fail
   refine⟨trivial,?_⟩;refine(callsIn_wide.2 (nU (s.size:Int) _ _ _ _ BF.o)).mono ?_;rintro e w4 ⟨rfl,rfl⟩;have cO:=(Boxed.other BO.o (show w.heap.size+1+1+1≠w.heap.size+1+1+1+1 by omega) (.int .i64 (-1))).cell;have A:=ZA OO.o (xT W ⟨w.heap.size+1+1+1+1,0,none⟩ (.int .i64 (-1))) (xy OO.o BF.o (by decide))
   have hh:=(yT.set (e:=48) (bs:= [w.heap.size+1+1+1+1]) ⟨w.heap.size+1+1+1+1,0,none⟩ (by simp) (.int .i64 (-1)) W).2 D _ HK.o (by
    intro hm;simp only [yx,xZ,or_false]at hm;subst hm;have:=HK.o;rw [show W.heap[_]? =_ from BF.o]at this;cases this) (fun c fz e=>by cases e)
   have h4:Below w.heap.size w (W.setCell ⟨w.heap.size+1+1+1+1,0,none⟩ (.int .i64 (-1))):=H.o.setCell (p:=⟨w.heap.size+1+1+1+1,0,none⟩) (by simp;omega) _;have E:=zA A;have P:=zA hh;have Q:=zA h4;clear A hh h4
   gi_wp2
   refine⟨by simp,.inl ⟨_,_,rfl,run_takeDeferred P.o,?_⟩⟩;refine⟨_,results_tmp rfl _ _ _,_,rfl,?_,Q.o.trans (belowK_b (w:=w) (zC _) _ D _ _ (by omega) P.o rfl rfl)⟩;rw [m.o];exact ZA E.o (grownBy_putObj' _ D (.deferred none)) (XM E.o (fun r e=>by cases e;exact⟨_,P.o,rfl⟩))
  |some f=>
   have h5:=S.o f rfl
   gi_wp2_with fail
   refine⟨trivial,?_⟩;refine(callsIn_wide.2 (nT s s.size f (by omega) (by omega) (by omega) toks w.heap.size _ _ _ _ W (by omega) (by omega) (by omega) (by omega) BF.o BO.o BT.o OO.o (by omega))).mono ?_;rintro e w4 ⟨rfl,v4,f4,o4,hc,b4,hu⟩;obtain⟨A4,c4,rfl⟩:=hc.form;rw [show(toks++ [(⟨s.extract f s.size,toks.length,f,s.size⟩:Token)]).length=toks.length+1 by simp]at hc o4
   have cO:=o4.cell
   have hh:=hu.2 D _ HK.o (by
    intro hm;simp only [yx,xZ,or_false]at hm;have:=HK.o;rcases hm with rfl|rfl
    ·rw [show W.heap[_]? =_ from BF.o]at this;cases this
    ·rw [show W.heap[_]? =_ from BO.o]at this;cases this) (fun c fz e=>by cases e)
   have E:=zA hc;have P:=zA hh;have Q:=zA (H.o.trans b4);clear f4 o4 hc b4 hu hh
   gi_wp2
   refine⟨by simp,.inl ⟨_,_,rfl,run_takeDeferred P.o,?_⟩⟩;refine⟨_,results_tmp rfl _ _ _,_,rfl,?_,Q.o.trans (belowK_b (w:=w) (zC _) _ D _ _ (by omega) P.o rfl rfl)⟩;rw [m.o];exact ZA E.o (grownBy_putObj' _ D (.deferred none)) (XM E.o (fun r e=>by cases e;exact⟨_,P.o,rfl⟩))
 case stop=>
  rintro D c pre W _ _ h _;exact h.elim
open Go.RowKit
def VA (r:Int):Bool:=Wo r||bZ r
def Yq (r:Int):Bool:=VA r||aQ r
def Y0 (r:Int):Bool:= !Uq r
theorem X1 {w w' :O} (h:w=w'):Below w.heap.size w w' :=by subst h;exact zE _ _
theorem Qh (r:Int) (w:O):Calls prog 244 #[.int .i32 r] w fun e w' =>e= .returned (.bool (VA r))/\w=w' :=by
 unfold VA;rcases hl:Wo r with _|_
 ·have a:=zA hl;clear hl;go_enter func244,ntmps244
  go_wp2_with (first
   |(go_at_call 245;go_must (refine(jP r _).mono ?_);rw [a.o];rintro e w' ⟨rfl,rfl⟩)
   |(go_at_call 246;go_must (refine(FK r _).mono ?_);rintro e w' ⟨rfl,rfl⟩))
  go_ret
  exact⟨rfl,rfl⟩
 ·have a:=zA hl;clear hl;go_enter func244,ntmps244;go_wp2_with (go_at_call 245;go_must (refine(jP r _).mono ?_);rw [a.o];rintro e w' ⟨rfl,rfl⟩);go_ret
  exact⟨rfl,rfl⟩
theorem sS (r:Int) (B:Nat) (w:O) (b:Boxed w B 305 (.func (.func 244) #[] #[])):Calls prog 247 #[.int .i32 r,.pointer (some ⟨B,0,none⟩)] w fun e w' =>e= .returned (.bool (Yq r))/\w=w' :=by
 have c:=b.cell;clear b;unfold Yq;rcases hl:VA r with _|_
 ·have a:=zA hl;clear hl;go_enter func247,ntmps247
  go_wp2_with (first
   |(go_at_call 244;go_must (refine(Qh r _).mono ?_);rw [a.o];rintro e w' ⟨rfl,rfl⟩)
   |(go_at_call 248;go_must (refine(dU r _).mono ?_);rintro e w' ⟨rfl,rfl⟩))
  go_ret
  exact⟨rfl,rfl⟩
 ·have a:=zA hl;clear hl;go_enter func247,ntmps247;go_wp2_with (go_at_call 244;go_must (refine(Qh r _).mono ?_);rw [a.o];rintro e w' ⟨rfl,rfl⟩);go_ret
  exact⟨rfl,rfl⟩
theorem tR (r:Int) (w:O):Calls prog 179 #[.int .i32 r] w fun e w' =>e= .returned (.bool (Y0 r))/\w=w' :=by
 unfold Y0;rcases hl:Uq r with _|_
 all_goals
  have a:=zA hl;clear hl;go_enter func179,ntmps179;go_wp2_with (go_at_call 180;go_must (refine(GA r _).mono ?_);rw [a.o];rintro e w' ⟨rfl,rfl⟩);go_ret
  exact⟨rfl,rfl⟩
theorem tQ (r:Int) (w:O):Calls prog 182 #[.int .i32 r] w fun e w' =>e= .returned (.bool true)/\w=w' :=by
 go_enter func182,ntmps182;go_wp2;go_ret
 exact⟨rfl,rfl⟩
theorem tP (r:Int) (w:O):Calls prog 183 #[.int .i32 r] w fun e w' =>e= .returned (.bool true)/\w=w' :=by
 go_enter func183,ntmps183;go_wp2;go_ret
 exact⟨rfl,rfl⟩
theorem kE (w:O):OS 179 #[] Y0 w:=
 ⟨Go.Proofs.enters_of func179 (by kernel_rfl) rfl,fun W r _ _ _=>(tR r W).mono fun _ _ ⟨h,k⟩=>⟨h,X1 k⟩⟩
theorem GM (w:O):OS 182 #[] (fun _=>true) w:=
 ⟨Go.Proofs.enters_of func182 (by kernel_rfl) rfl,fun W r _ _ _=>(tQ r W).mono fun _ _ ⟨h,k⟩=>⟨h,X1 k⟩⟩
theorem GK (w:O):OS 183 #[] (fun _=>true) w:=
 ⟨Go.Proofs.enters_of func183 (by kernel_rfl) rfl,fun W r _ _ _=>(tP r W).mono fun _ _ ⟨h,k⟩=>⟨h,X1 k⟩⟩
theorem GI (w:O):OS 244 #[] VA w:=
 ⟨Go.Proofs.enters_of func244 (by kernel_rfl) rfl,fun W r _ _ _=>(Qh r W).mono fun _ _ ⟨h,k⟩=>⟨h,X1 k⟩⟩
theorem GJ (w:O) (B:Nat) (a:Boxed w B 305 (.func (.func 244) #[] #[])):OS 247 #[.pointer (some ⟨B,0,none⟩)] Yq w:=
 ⟨Go.Proofs.enters_of func247 (by kernel_rfl) rfl,fun W r h _ _=>(sS r B W (Boxed.on a h)).mono fun _ _ ⟨h,k⟩=>⟨h,X1 k⟩⟩
def Xb (s:aB):List Token:=Xm s Yq VA
theorem gZ (s:aB) (k:s.size<=1000000000) (w:O) (d:Tabs w):
 Calls prog 178 #[.string s] w fun e w' =>∃v,e= .returned v/\Own Flat w' w.heap.size 48 v (Xb s)/\Below w.heap.size w w' :=by
 have j:=@mF prog;have g:=zA d;clear d;go_enter func178,ntmps178;go_wp2_with fail;have c:=Boxed.new w 305 (.func (.func 244) #[] #[]);have a:Below w.heap.size w (w.alloc (.cells #[.func (.func 244) #[] #[]] 305)):=(zE _ _).alloc (zC _) _;refine(dM s k _ _ _ _ Yq VA _ (g.o.on a) (GJ _ _ c) (GI _)).mono ?_;rintro e l ⟨v,rfl,f,b⟩;have i:=zA (f.mono (zY (zC _) a.size))
 have h:=zA (a.trans (b.mono a.size));clear f b a c;go_wp2;go_ret
 exact⟨_,rfl,i.o,h.o⟩
def natI (l:aE):aD:=l.map (fun(x:Nat)=>(x:Int))
theorem D0 (l:aE) (x:Nat):natI (l++ [x])=natI l++ [(x:Int)]:=by simp [natI]
theorem JK:(Tryz.prog.info? 3).map (fun i=>(i.zero,i.size,i.bytes))=some (some (.int .i64 0),1,8):=by kernel_rfl
theorem Qd (s:aB) (C:s.size<=17592186044000) (w:O) (hT:Tabs w):
 Calls prog 184 #[.string s] w fun e w' =>∃v,e= .returned v/\Own Flat w' w.heap.size 3 v (natI (yg s))/\Below w.heap.size w w' :=by
 obtain⟨i0,J,M,N,P⟩:=info_parts JK;have hc:=Qn s;refine(callsIn_wide (n:=6)).1 ?_;refine callsIn_of_wp_marks func184 rfl trivial ?_ rfl;simp only [ntmps184,yP,z6,yO,Nat.reduceAdd,Nat.reduceSub,xI,xH,xf,xM,zZ,yI]
 gi_wp2_with (refine⟨trivial,?_⟩;gi_at_call 250;refine(callsIn_wide.2 (U2 s _)).mono ?_;rintro e w2 ⟨rfl,rfl⟩)
 have E:=(Boxed.new w 55 (.slice none 0 0)).alloc (.cells #[.string s] 9);have G:=Boxed.new (w.alloc (.cells #[.slice none 0 0] 55)) 9 (.string s);simp only [World.size_alloc]at E G;have i:Below w.heap.size w ((w.alloc (.cells #[.slice none 0 0] 55)).alloc (.cells #[.string s] 9)):=((zE _ w).alloc (zC _) _).alloc (by simp) _
 have hd:((w.alloc (.cells #[.slice none 0 0] 55)).alloc (.cells #[.string s] 9)).heap.size=w.heap.size+2:=by simp
 obtain⟨W0,I⟩:=eX ((w.alloc (.cells #[.slice none 0 0] 55)).alloc (.cells #[.string s] 9));rw [I]at E G i hd⊢;clear I
 refine YX (n:=6) (F:=Fence.wide) rfl (by omega) (gf:=294) (lb:= #[.pointer (some ⟨w.heap.size+1,0,none⟩)]) rfl trivial (enters_of func294 (by kernel_rfl) rfl)
  (WF w.heap.size (w.heap.size+1) s (by omega) w hT rfl (6 - 1) (by omega) W0 i G) YS.trans (YS.putObj i.size) (zE _ _) (fun _=>rfl)
  (fun pre W=>(∃v,Boxed W w.heap.size 55 v/\Own Flat W w.heap.size 3 v (natI pre))/\Below w.heap.size w W/\W0.heap.size<=W.heap.size)
  (fun _ _ _=>False)
  (OwnFrom.and (VM _ _ _ _ _ _) (OwnFrom.and (ownFrom_below (zC _) (by omega)) (fun _ _ _ _ C hg _=>zY C hg.size)))
  (fun _ _ _ _ _ C _ _=>C)
  ⟨⟨_,E,Own.nil _ _ _ _⟩,i,zC _⟩
  (fun x U _=>U ={tmps:= #[.string s,undef,.slice none 0 0,.pointer (some ⟨w.heap.size,0,none⟩),.int .i64 x,.string s,.func (.func 294) #[] #[.pointer (some ⟨w.heap.size+1,0,none⟩)],.int .i64 x,.int .i32 (rn s x),undef,undef,undef,undef,undef,undef,undef,undef,undef],defers:= []})
  (fun x U _ X Y he C hg R=>C)
  ?assign ?body ?done ?stop
 case assign=>
  rintro l pre x W K hI H;simp only [Wh]at H⊢
  gi_wp2
  exact H _ _ ((KeepsOthers.refl _).from _) ⟨zE _ W,fun _ h=>h⟩ hI rfl
 case body=>
  rintro l pre x U W hl ⟨r,R⟩ ⟨⟨v,k,j⟩,hB,hS⟩ rfl A;obtain⟨L,m⟩:=eX ((natI pre).length)
  have hb:L<s.size:=by
   have h1:=A.length_le;have h2:(natI pre).length=pre.length:=(by simp [natI]);simp at h1;omega
  have hx:x<s.size:=by
   have h1:x∈ats s:=A.subset (by simp);exact(UQ s _ _ x h1).2
  obtain⟨S,cV,rfl⟩:=j.form;rw [m]at k j;have cv:=k.cell;have B:=zA m;have b:=zA j;have T:=zA k;have o:=zA hB;clear j k hB hT G E R m A
  gi_wp2_with (gi_at_builtin
               go_must (refine Wy rfl (.tmp 9) (.tmp 11) _ rfl w.heap.size 3 i0 _ 8 underlying55 J M N P rfl (.slice S L cV) (natI pre) rfl (b.o.alloc _) W.heap.size #[.int .i64 x] (x:Int) rfl (Blk.new _ _ _) (YC ⟨rfl,by unfold In64;have:=B.o;omega⟩) (by rw [B.o];omega) (by rw [B.o];omega) (by have:=o.o.size;simp;omega) ?_)
               intro v5 Q a d g;obtain⟨A5,c5,rfl⟩:=a.form;rw [show(natI pre++ [(x:Int)]).length=(natI pre).length+1 by simp]at a;obtain⟨Z,b7,o7,k7⟩:=rE T.o b.o (by decide) (World.grownBy_alloc W _ none) d a;have c6:=Z.cell;have f6:=Z.frozen;have B7:=zA b7;have O7:=zA o7;have K7:=zA k7;have q:=zA g;have t:=zA d
               clear Z b7 o7 k7 a g d)
  have y:Below w.heap.size W (Q.setCell ⟨w.heap.size,0,none⟩ (.slice A5 ((natI pre).length+1) c5)):=(((zE _ W).alloc o.o.size _).trans q.o).setCell (p:=⟨w.heap.size,0,none⟩) (zC _) _;refine⟨K7.o.from _,⟨y,fun u hu=> ?_⟩,⟨_,B7.o,?_⟩,o.o.trans y,zY hS y.size⟩
  ·refine((hu.alloc _).kept t.o ?_).kept (xT _ _ _) (by simp);obtain⟨_,_,_,R⟩:=b.o.alloc (.cells #[.int .i64 (x:Int)] 3);exact(hu.alloc _).not_row (by decide) R
  ·rw [D0];exact O7.o
 case done=>
  rintro D ys W hD rfl ⟨⟨v,k,j⟩,hB,hS⟩ H;obtain⟨L,m⟩:=eX ((natI (ats s)).length);have hb:L<=s.size:=(by rw [<-m];simpa [natI]using hc);obtain⟨S,cV,rfl⟩:=j.form;rw [m]at k j;have cv:=k.cell;have B:=zA m;have b:=zA j;have o:=zA hB;have HK:=zA H;clear j k hB hT G E m H
  gi_wp2_with (gi_at_builtin
               go_must (refine Wy rfl (.tmp 13) (.tmp 16) _ rfl w.heap.size 3 i0 _ 8 underlying55 J M N P rfl (.slice S L cV) (natI (ats s)) rfl (b.o.alloc _) W.heap.size #[.int .i64 s.size] (s.size:Int) rfl (Blk.new _ _ _) (YC ⟨rfl,by unfold In64;omega⟩) (by rw [B.o];omega) (by rw [B.o];omega) (by have:=o.o.size;simp;omega) ?_)
               intro v5 Q a d g;obtain⟨A5,c5,rfl⟩:=a.form;rw [show(natI (ats s)++ [(s.size:Int)]).length=(natI (ats s)).length+1 by simp]at a;have f:=zA a;have q:=zA g;have t:=zA d;clear a g d)
  have ha:Below w.heap.size w Q:=o.o.trans (((zE _ W).alloc o.o.size _).trans q.o);have z:=rO HK.o t.o (b.o.alloc _);refine⟨by simp,.inl ⟨_,_,rfl,run_takeDeferred z,?_⟩⟩;refine⟨_,results_tmp rfl _ _ _,_,rfl,?_,ha.trans (belowK_b (w:=w) (zC _) Q D _ _ (by omega) z rfl rfl)⟩
  have:=ZA f.o (grownBy_putObj' Q D (.deferred none)) (XM f.o (fun r e=>by cases e;exact⟨_,z,rfl⟩))
  simpa [yg,natI]using this
 case stop=>
  rintro D c pre W _ _ h _;exact h.elim
theorem rM (s:aB):(yg s).Pairwise (·<·):=by
 unfold yg;rw [List.pairwise_append];exact⟨kC s,by simp,fun a d b c=>by simp at c;subst c;exact V5 d⟩
theorem QQ {s:aB} {x:Nat} (h:x∈yg s):x<=s.size:=by
 unfold yg at h;rcases List.mem_append.1 h with h|h
 ·exact Nat.le_of_lt (V5 h)
 ·simp at h;omega
theorem Xn {s:aB} {i j a b:Nat} (d:(yg s)[i]? =some a) (c:(yg s)[j]? =some b) (h:i<=j):a<=b:=by
 have e:=zN d;have f:=zN c;rcases zk i j with g|g
 ·have:=List.pairwise_iff_getElem.1 (rM s) i j e f g;rw [zB e]at d;rw [zB f]at c;cases d;cases c;omega
 ·obtain rfl:i=j:=by omega
  rw [d]at c;cases c;exact zC _
theorem YV {w:O} {base:Nat} {A:aA} {n c i x:Nat} {p:aE} (h:Own Flat w base 3 (.slice A n c) (natI p)) (e:p[i]? =some x):∃b,A=some ⟨b,0,none⟩/\w.cell? ⟨b,i,none⟩=some (.int .i64 (x:Int)):=by
 obtain⟨css,j,o,d⟩:=h;have s:=zN e;have m:(natI p).length=p.length:=by simp [natI]
 obtain⟨g,cap,q,r,l⟩:=d.form (by rw [m];omega)
 injection q with hA _ _
 subst hA;have a:=Own.reads ⟨css,j,o,d⟩;obtain⟨_,f⟩:=a.elem (k:=i) (x:=(x:Int)) (by simp [natI,e]);have:=f.int.1;simp only [zx]at this;exact⟨g,rfl,this⟩
def xJ (number:Int) (s:aB):List Token:=
 if number=1 then Xb s else if number=2 then Xm s Y0 Y0 else if number=3 then Xm s (fun _=>true) (fun _=>true)else WU (Xb s)
theorem Q4 (number:Int) (j:number=1\/number=2\/number=3) (s:aB) (g:s.size<=1000000000) (w:O) (h:Tabs w):
 Calls prog 98 #[.int .i64 number,.string s] w fun e w' =>∃v,e= .returned v/\Own Flat w' w.heap.size 48 v (xJ number s)/\Below w.heap.size w w' :=by
 have f:=zA h;clear h;rcases j with rfl|rfl|rfl
 ·rw [show xJ 1 s=Xb s by simp [xJ]];go_enter func98,ntmps98;go_wp2_with (go_at_call 178;go_must (refine(gZ s g _ f.o).mono ?_);rintro e i ⟨v,rfl,b,a⟩;have d:=zA b;have c:=zA a;clear b a);go_ret
  exact⟨_,rfl,d.o,c.o⟩
 ·rw [show xJ 2 s=Xm s Y0 Y0 by simp [xJ]];go_enter func98,ntmps98;go_wp2_with (go_at_call 181;go_must (refine(dM s g _ _ _ _ Y0 Y0 _ f.o (kE _) (kE _)).mono ?_);rintro e i ⟨v,rfl,b,a⟩;have d:=zA b;have c:=zA a;clear b a);go_ret
  exact⟨_,rfl,d.o,c.o⟩
 ·rw [show xJ 3 s=Xm s (fun _=>true) (fun _=>true) by simp [xJ]];go_enter func98,ntmps98;go_wp2_with (go_at_call 181;go_must (refine(dM s g _ _ _ _ (fun _=>true) (fun _=>true) _ f.o (GM _) (GK _)).mono ?_);rintro e i ⟨v,rfl,b,a⟩;have d:=zA b;have c:=zA a;clear b a);go_ret
  exact⟨_,rfl,d.o,c.o⟩
def QD (s:aB) (x:Nat):aC:=if Qg (rn s x)=rn s x then(s.extract x (x+wd s x)).data.toList else Lib.encodeRune (Qg (rn s x))
def bK (s:aB):aC:=(ats s).flatMap (QD s)
def VI (s:aB):aB:=⟨(bK s).toArray⟩
theorem AM (s:aB) (x:Nat):(QD s x).length<=4:=by
 unfold QD
 split
 ·have:=qI s x;rw [Lib.extract_data,zr];omega
 ·have a:=Lib.runeCells_le (Qg (rn s x));rw [Lib.runeCells_length]at a;exact a.2
theorem eC (s:aB) (l:aE):(l.flatMap (QD s)).length<=4*l.length:=by
 induction l with
 |nil=>simp
 |cons a l ih=>
  have:=AM s a;rw [zp,zG,z6];omega
abbrev OU (B b:Nat) (l:aC) (W:O):Prop:=Lib.IsBuilder 365 5 B b (Lib.byteCells l) W
theorem OU.grown {B b:Nat} {l:aC} {W d :O} {c:Option Nat} (h:OU B b l W) (n:W.grownBy d c) (s:∀r,c=some r->∃o:Obj,W.heap[r]? =some o/\o.isCells=false):OU B b l d :=by
 have m:∀p,Lib.BuilderAt 365 5 B b p (Lib.byteCells l) W->Lib.BuilderAt 365 5 B b p (Lib.byteCells l) d :=by
  rintro p ⟨hB,v,i,q,k⟩;refine⟨hB,v,(n.block b (Array.getElem?_eq_some_iff.1 i).1 (fun e=> ?_)).trans i,q.kept n ?_,k⟩
  ·obtain⟨o,a,f⟩:=s _ e.symm;rw [i]at a;cases a;cases f
  ·cases hob:v.ownBlock with
   |none=>exact .inl rfl
   |some g=>
    refine .inr (fun e=> ?_);obtain⟨o,a,f⟩:=s _ e.symm;rcases q.2 with⟨rfl,_⟩|⟨t,cap,cur,rfl,_,j,_⟩
    ·cases hob
    ·cases hob;rw [j]at a;cases a;cases f
 exact h.imp (m _) (m _)
theorem OU.on {B b:Nat} {l:aC} {W a :O} (h:OU B b l W) (c:Below W.heap.size W a):OU B b l a :=h.grown (Below.grownBy' c) (fun _ e=>by cases e)
theorem OU.from_ {β:Type} (g B b:Nat) (f:β->aC):OwnFrom g (fun(x:β) W=>OU B b (f x) W):=fun _ _ _ _ d a c=>d.grown a (fun r e=>(c r e).2)
theorem OU.cells {B b:Nat} {l:aC} {W:O} (h:OU B b l W):∃cs,W.heap[b]? =some (.cells cs 365 (0,0)):=by
 rcases h with⟨_,v,a,_⟩|⟨_,v,a,_⟩<;>exact⟨_,a⟩
theorem OU.le {B b:Nat} {l:aC} {W:O} (h:OU B b l W):B<=b/\b<W.heap.size:=by
 rcases h with⟨a,v,c,_⟩|⟨a,v,c,_⟩<;>exact⟨a,(Array.getElem?_eq_some_iff.1 c).1⟩
theorem WQ {b:Nat} {W a :O} {cs:aG} {t:TypeId} (h:Lib.OthersKept 5 (some b) W a) (i:W.heap.size<=a.heap.size) (g:W.heap[b]? =some (.cells cs t (0,0))):KeepsOthers W a :=
 ⟨i,fun k o d f=>h k o d (fun e=>by cases e;rw [g]at d;cases d;cases f) (fun c j e=>by subst e;cases f)⟩
theorem UB {b B:Nat} {t:TypeId} {v:V} {W d :O} (f:Lib.OthersKept 5 (some b) W d) (h:Boxed W B t v) (a:B≠b) (g:t≠5):Boxed d B t v:=
 f B _ h (fun e=>a (by cases e;rfl)) (fun c i e=>g (by cases e;rfl))
theorem VJ (s:aB) (a b:Nat):Lib.strCells (s.extract a b)=Lib.byteCells (s.extract a b).data.toList:=Lib.strCells_eq _
theorem JT (s:aB) (G:s.size<=17592186044000) (w:O) (hT:Tabs w):
 Calls prog 289 #[.string s] w fun e w' =>e= .returned (.string (VI s))/\Below w.heap.size w w' :=by
 have hm:=Qn s;refine(callsIn_wide (n:=6)).1 ?_;refine callsIn_of_wp_marks func289 rfl trivial ?_ rfl;simp only [ntmps289,yP,z6,yO,Nat.reduceAdd,Nat.reduceSub,xI,xH,xf,xM,zZ,yI]
 gi_wp2_with (refine⟨trivial,?_⟩;gi_at_call 250;refine(callsIn_wide.2 (U2 s _)).mono ?_;rintro e w2 ⟨rfl,rfl⟩)
 have o:=((Boxed.new w 9 (.string s)).alloc (.cells #[.pointer none,.slice none 0 0] 365)).alloc (.cells #[.string s] 9);have M:=Boxed.new ((w.alloc (.cells #[.string s] 9)).alloc (.cells #[.pointer none,.slice none 0 0] 365)) 9 (.string s)
 have L:OU (w.alloc (.cells #[.string s] 9)).heap.size (w.alloc (.cells #[.string s] 9)).heap.size [] (((w.alloc (.cells #[.string s] 9)).alloc (.cells #[.pointer none,.slice none 0 0] 365)).alloc (.cells #[.string s] 9)):=
  OU.on (Lib.fresh_isBuilder 365 5 (w.alloc (.cells #[.string s] 9))) ((zE _ _).alloc (zC _) _)
 simp only [World.size_alloc]at o M L;have f:Below w.heap.size w (((w.alloc (.cells #[.string s] 9)).alloc (.cells #[.pointer none,.slice none 0 0] 365)).alloc (.cells #[.string s] 9)):=(((zE _ w).alloc (zC _) _).alloc (by simp) _).alloc (by simp;omega) _
 have hf:(((w.alloc (.cells #[.string s] 9)).alloc (.cells #[.pointer none,.slice none 0 0] 365)).alloc (.cells #[.string s] 9)).heap.size=w.heap.size+3:=by simp
 obtain⟨W0,R⟩:=eX (((w.alloc (.cells #[.string s] 9)).alloc (.cells #[.pointer none,.slice none 0 0] 365)).alloc (.cells #[.string s] 9));rw [R]at o M L f hf⊢;clear R
 refine YX (n:=6) (F:=Fence.wide) rfl (by omega) (gf:=294) (lb:= #[.pointer (some ⟨w.heap.size+1+1,0,none⟩)]) rfl trivial (enters_of func294 (by kernel_rfl) rfl)
  (WF w.heap.size (w.heap.size+1+1) s (by omega) w hT rfl (6 - 1) (by omega) W0 f M) YS.trans (YS.putObj f.size) (zE _ _) (fun _=>rfl)
  (fun pre W=>OU (w.heap.size+1) (w.heap.size+1) (pre.flatMap (QD s)) W/\Boxed W w.heap.size 9 (.string s)/\Below w.heap.size w W/\W0.heap.size<=W.heap.size)
  (fun _ _ _=>False)
  (OwnFrom.and (OU.from_ _ _ _ _) (OwnFrom.and (Own.from (boxed_own _ _ _) _) (OwnFrom.and (ownFrom_below (zC _) (by omega)) (fun _ _ _ _ G hg _=>zY G hg.size))))
  (fun _ _ _ _ _ G _ _=>G)
  ⟨L,o,f,zC _⟩
  (fun x a' _=>a' ={tmps:= #[.string s,.pointer (some ⟨w.heap.size,0,none⟩),.string {data:= #[]},.pointer (some ⟨w.heap.size+1,0,none⟩),.int .i64 x,.int .i32 (rn s x),undef,undef,undef,.string s,.func (.func 294) #[] #[.pointer (some ⟨w.heap.size+1+1,0,none⟩)],.int .i64 x,.int .i32 (rn s x),undef,undef,undef,undef,undef,undef,undef,undef,undef,undef,undef,undef,undef,undef,undef,undef,undef,undef,undef,undef,undef],defers:= []})
  (fun x a' _ X Y hz G hg hr=>G)
  ?assign ?body ?done ?stop
 case assign=>
  rintro l pre x W K hI N;simp only [Wh]at N⊢
  gi_wp2
  exact N _ _ ((KeepsOthers.refl _).from _) ⟨zE _ W,fun _ h=>h⟩ hI rfl
 case body=>
  rintro l pre x a' W hl ⟨r,hr⟩ ⟨b,o,hB,hS⟩ rfl C
  have hx:x<s.size:=by
   have h1:x∈ats s:=C.subset (by simp);exact(UQ s _ _ x h1).2
  have ho:(Lib.byteCells (pre.flatMap (QD s))).length<=4*s.size:=by
   have h1:=C.length_le;simp at h1;have:=eC s pre;rw [Lib.byteCells_length];omega
  have hw:=pU hx;have hy:=UV hx;have he:=qJ s x;have Q:Tabs W:=hT.on hB;have hv:=hB.size;have hc:=b.le.2;obtain⟨cs,p⟩:=b.cells;have HT:=zA Q;have a:=zA b;have H:=zA o;have T:=zA hB;have ha:=zA p;have hj:w.heap.size+1<=W.heap.size:=(by omega);have cA:=o.cell;obtain⟨z,E⟩:∃z:Nat,rn s x=z:=⟨_,rfl⟩;obtain⟨q,hq⟩:=eX (Qg (z:Int))
  have hd:=sR (z:Int) (by omega) (by omega);rw [hq]at hd;rw [E]at he⊢;have J:=zA E;have U:=zA hq;clear Q hT b o hB p M L f C hr E hq;have hb:Hid ((s.extract x (x+wd s x)).size=wd s x):=by show _=_;rw [yQ];omega
  by_cases t:q=(z:Int)
  ·subst t;have i:Hid (QD s x=(s.extract x (x+wd s x)).data.toList):=by show _=_;unfold QD;rw [J.o,U.o,if_pos rfl]
   gi_wp2_with (first
    |(refine⟨trivial,?_⟩;gi_at_call 342;go_must (refine(yU l (callsIn_wide.2 (lI (z:Int) (by omega) (by omega) _))).mono ?_);rw [U.o];rintro e w3 ⟨rfl,rfl⟩)
    |(refine⟨trivial,?_⟩
      gi_at_call 292
      go_must (refine(yU l (callsIn_wide.2 (dR s x hx (by omega) _ HT.o))).mono ?_)
      rintro e w3 ⟨rfl,j⟩;have m:=a.o.on j;have k:=Boxed.on H.o j;have hh:=k.cell;have B:=zA j;have g:=zA m;have I:=zA k;have ht:=j.size;clear j m k)
    |(refine⟨trivial,?_⟩
      gi_at_call 233
      go_must (refine(yU l (callsIn_wide.2 (Qu (w.heap.size+1) (w.heap.size+1) _ _ w3 g.o (by have:=hb.o;have:=qI s x;omega) (by omega)))).mono ?_)
      rintro e A ⟨rfl,Z,y,v⟩))
   have hk:KeepsOthers W A:=(KeepsOthers.of_grownBy (Below.grownBy' B.o) (fun _ _ e _=>by cases e)).trans (by obtain⟨hi,S⟩:=g.o.cells;exact WQ v y.size S);have d:Below w.heap.size W A:=(B.o.mono (by omega)).trans (y.mono (by omega))
   refine⟨hk.from _,⟨d,fun u hu=>UB v (Boxed.on hu B.o) (by omega) (by decide)⟩,?_,UB v I.o (by omega) (by decide),T.o.trans d,zY hS d.size⟩;rw [yS,List.flatMap_singleton,i.o];rw [VJ]at Z;show Lib.IsBuilder _ _ _ _ _ _;rw [Lib.byteCells_append];exact .inr Z
  ·have i:Hid (QD s x=Lib.encodeRune q):=(by show _=_;unfold QD;rw [J.o,U.o,if_neg t]);have hn:(q !=(z:Int))=true:=(by simpa using t);have hp:=Lib.runeCells_le q;clear t
   gi_wp2_with (first
    |(refine⟨trivial,?_⟩;gi_at_call 342;go_must (refine(yU l (callsIn_wide.2 (lI (z:Int) (by omega) (by omega) _))).mono ?_);rw [U.o];rintro e w3 ⟨rfl,rfl⟩)
    |(refine⟨trivial,?_⟩
      gi_at_call 343
      go_must (refine(yU l (callsIn_wide.2 (rG (w.heap.size+1) (w.heap.size+1) _ q (by omega) (by omega) _ a.o (by omega) (by omega)))).mono ?_)
      rintro e A ⟨rfl,Z,y,v⟩))
   have hk:KeepsOthers W A:=WQ v y.size ha.o;have d:Below w.heap.size W A:=y.mono (by omega);refine⟨hk.from _,⟨d,fun u hu=>UB v hu (by omega) (by decide)⟩,?_,UB v H.o (by omega) (by decide),T.o.trans d,zY hS d.size⟩;rw [yS,List.flatMap_singleton,i.o];show Lib.IsBuilder _ _ _ _ _ _;rw [Lib.byteCells_append,Lib.byteCells_encodeRune];exact .inr Z
 case done=>
  rintro D ys W hD rfl ⟨b,o,hB,hS⟩ N;have hc:=b.le;have a:=zA b;have T:=zA hB;have HK:=zA N;clear b o hB N hT M L f
  gi_wp2_with (refine⟨trivial,?_⟩
               gi_at_call 235
               go_must (refine(callsIn_wide.2 (Tryz.Builder_String_any_k (w.heap.size+1) (w.heap.size+1) (bK s) _ (Lib.IsBuilderF.of a.o) (by omega))).mono ?_)
               rintro e A ⟨rfl,_,y,v⟩)
  have P:A.heap[D]? =some (.deferred (some [])):=by
   obtain⟨cs,p⟩:=a.o.cells;exact(WQ v y.size p).same D _ HK.o rfl
  refine⟨by simp,.inl ⟨_,_,rfl,run_takeDeferred P,?_⟩⟩;exact⟨_,results_tmp rfl _ _ _,rfl,(T.o.trans (y.mono (by omega))).trans (belowK_b (w:=w) (zC _) A D _ _ (by omega) P rfl rfl)⟩
 case stop=>
  rintro D c pre W _ _ h _;exact h.elim
theorem Wm (w:O) (base:Nat) (f:base<=w.heap.size) (t:Token) (h:t.ok) (cs:aG) (g:cs=t.cells.toArray) (H:Nat) (d:H=w.heap.size):
 Own Flat (w.alloc (.cells cs 48)) base 48 (.slice (some ⟨H,0,none⟩) 1 1) [t]:=by
 subst g d;refine⟨[t.cells],rfl,fun k cs x b a=> ?_,?_⟩
 ·have c:=zN a;simp at c;subst c;simp at b a;subst b a;exact Token.rep_of h
 ·have:=World.ownsRow_lit (base:=base) (e:=48) (size:=4) w t.cells.toArray 1 f (by simp [maxLen]) (by simp [Token.cells]);show World.ownsRow _ base _ 4 _ 1 [t.cells].flatten;rw [show [t.cells].flatten=t.cells.toArray.toList by simp];exact this
def bW (t:Token):Token:={t with text:=VI t.text}
theorem sQ (t:Token) (y:t.ok) (C:t.text.size<=1000000000) (w:O) (m:Tabs w):
 Calls prog 238 #[.agg #[.string t.text,.int .i64 t.pos,.int .i64 t.from_,.int .i64 t.to_]] w fun e w' =>∃v,e= .returned v/\Own Flat w' w.heap.size 48 v [bW t]/\Below w.heap.size w w' :=by
 have j:(VI t.text).size<=4000000000:=by
  have A:=eC t.text (ats t.text);have B:=Qn t.text;have:(VI t.text).size=(bK t.text).length:=(by simp [VI,ByteArray.size]);rw [this];unfold bK;omega
 have f:(bW t).ok:=⟨by unfold bW;simp only;omega,y.2⟩;have l:=Blk.new w 48 #[.string t.text,.int .i64 t.pos,.int .i64 t.from_,.int .i64 t.to_];have c:Below w.heap.size w (w.alloc (.cells #[.string t.text,.int .i64 t.pos,.int .i64 t.from_,.int .i64 t.to_] 48)):=(zE _ _).alloc (zC _) _;have o:=zA l;have i:=zA f;have q:=zA (m.on c);have h:=zA c;clear l f m c j
 go_enter func238,ntmps238;go_wp2_with fail;refine(JT t.text (by omega) _ q.o).mono ?_;rintro e n ⟨rfl,a⟩;have g:=o.o.below a (by simp);have d:=g.set_ 0 (.string (VI t.text));have r:=d.cell 0;have c2:=d.cell 1;have s:=d.cell 2;have u:=d.cell 3;have z:=g.frozen 0;have x:=g.cell 0;simp only [yF,zf,zj,List.setIfInBounds_toArray,yw]at r c2 s u x;have k:=a.size
 simp only [World.size_alloc]at k;have b:Hid (Below w.heap.size w (n.setCell ⟨w.heap.size,0,none⟩ (.string (VI t.text)))):=(h.o.trans (a.mono (by simp))).setCell (p:=⟨w.heap.size,0,none⟩) (zC _) _;clear a g d;go_wp2;go_ret
 exact⟨_,rfl,Wm _ _ b.o.size (bW t) i.o _ rfl n.heap.size (by simp [World.setCell]),b.o.alloc b.o.size _⟩
def We (t:Token):List Token:=if aN t.text then []else [t]
theorem tV (t:Token) (c:t.ok) (w:O):
 Calls prog 239 #[.agg #[.string t.text,.int .i64 t.pos,.int .i64 t.from_,.int .i64 t.to_]] w fun e w' =>∃v,e= .returned v/\Own Flat w' w.heap.size 48 v (We t)/\Below w.heap.size w w' :=by
 have d:=zA c;clear c;unfold We;rcases hs:aN t.text with _|_
 ·have a:=zA hs;clear hs;go_enter func239,ntmps239;go_wp2_with (go_at_call 290;go_must (refine(KW _ a.o _).mono ?_);rintro e w' ⟨rfl,rfl⟩);go_ret
  have b:Below w.heap.size w (w.alloc (.cells #[.string t.text,.int .i64 t.pos,.int .i64 t.from_,.int .i64 t.to_] 48)):=(zE _ _).alloc (zC _) _;exact⟨_,rfl,Wm _ _ b.size t d.o _ rfl _ (by simp),b.alloc b.size _⟩
 ·have a:=zA hs;clear hs;go_enter func239,ntmps239;go_wp2_with (go_at_call 290;go_must (refine(H6 _ a.o _).mono ?_);rintro e w' ⟨rfl,rfl⟩);go_ret
  exact⟨_,rfl,Own.nil _ _ _ _,(zE _ _).alloc (zC _) _⟩
def Q8 (t:Token):Token:=if 17<(yg t.text).length then {t with text:=t.text.extract 0 ((yg t.text)[16]?.getD 0)} else t
theorem r8 (t:Token) (N:t.ok) (hs:t.text.size<=1000000000) (w:O) (L:Tabs w):
 Calls prog 241 #[.agg #[.string t.text,.int .i64 t.pos,.int .i64 t.from_,.int .i64 t.to_]] w fun e w' =>∃v,e= .returned v/\Own Flat w' w.heap.size 48 v [Q8 t]/\Below w.heap.size w w' :=by
 have F:=Blk.new w 48 #[.string t.text,.int .i64 t.pos,.int .i64 t.from_,.int .i64 t.to_];have k:Below w.heap.size w (w.alloc (.cells #[.string t.text,.int .i64 t.pos,.int .i64 t.from_,.int .i64 t.to_] 48)):=(zE _ _).alloc (zC _) _;have Q:=zA F;have D:=zA N;have R:=zA (L.on k);have m:=zA k;have A:=Yf t.text;clear F N L k;go_enter func241,ntmps241;go_wp2_with fail
 refine(Qd t.text (by omega) _ R.o).mono ?_;rintro e w1 ⟨vp,rfl,u,f⟩;obtain⟨Ap,cp,rfl⟩:=u.form;have s:(natI (yg t.text)).length=(yg t.text).length:=by simp [natI]
 rw [s]at u⊢;obtain⟨P,l⟩:=eX ((yg t.text).length);rw [l]at u A⊢;have j:=Q.o.below f (by simp);have G:=j.cell 0;have H:=j.cell 1;have c2:=j.cell 2;have I:=j.cell 3;have f0:=j.frozen 0;simp only [yF,zf,zj]at G H c2 I;have d:=zA (m.o.trans (f.mono m.o.size));have B:=f.size;simp only [World.size_alloc]at B;have C:=zA j;have E:=zA u;have i:=zA l
 clear j f u s l
 by_cases M:17<P
 ·obtain⟨a,x⟩:∃a,(yg t.text)[16]? =some a:=⟨_,zB (by have:=i.o;omega)⟩;have Y:a<=t.text.size:=QQ (zD x);obtain⟨J,rfl,z⟩:=YV E.o x;have b:Q8 t={t with text:=t.text.extract 0 a}:=(by unfold Q8;rw [i.o,if_pos M,x];rfl);have c:=zA b
  have Z:J≠w.heap.size:=by
   rintro rfl;obtain⟨_,_,_,hr⟩:=E.o;rcases hr.2 with⟨h,_⟩|⟨g',_,_,h,_,r,_⟩
   ·cases h
   ·cases h;have:=C.o;unfold Blk at this;rw [this]at r;simp at r
  have g0:(0:Int)<=(a:Int):=(by omega);have g1:(a:Int)<=(t.text.size:Int):=(by omega);have g2:(16:Int)<(P:Int):=(by omega);clear x b;go_wp2;refine wp_region_held_drew (S:=(fun w' =>w'.cell? ⟨J,16,none⟩=some (.int .i64 (a:Int)))) (by kernel_rfl) z (fun hHeld=> ?_);refine hF 0 ?_;refine hF 2 ?_;refine hF 3 ?_;refine hF 4 ?_;refine wpAnyH_ready (rs:= [1]) (by kernel_rfl) (by simp) ?_
  refine AllReadyH.cons (o:=_) rfl (fun K q=> ?_) (AllReadyH.nil);go_simp;refine q.o _ _ z (fun hHeld=> ?_);clear q K
  try simp only [Act.put,sa,s0,s1]
  refine hF 5 ?_;refine hF 6 ?_;refine wpAnyH_ready (rs:= [7]) (by kernel_rfl) (by simp) ?_;refine AllReadyH.cons (o:=_) rfl (fun K q=> ?_) (AllReadyH.nil);go_simp;refine q.o _ _ ((World.cell?_setCell_other _ _ _ _ (by intro e;cases e)).trans z) (fun hHeld=> ?_);clear q K
  try simp only [Act.put,sa,s0,s1]
  refine wpAnyH_done (by kernel_rfl) ?_ _;have n:=C.o.set_ 0 (.string (t.text.extract 0 a));have T:=n.cell 0;have U:=n.cell 1;have W:=n.cell 2;have X:=n.cell 3;simp only [yF,zf,zj,List.setIfInBounds_toArray,yw]at T U W X;have g:Hid (Below w.heap.size w (w1.setCell ⟨w.heap.size,0,none⟩ (.string (t.text.extract 0 a)))):=d.o.setCell (p:=⟨w.heap.size,0,none⟩) (zC _) _
  have y:Hid (Token.ok {t with text:=t.text.extract 0 a}):=⟨by first|(simp only [yQ];omega)|(simp only [yQ];done),D.o.2⟩
  clear n G H c2 I;go_wp2;go_ret
  refine⟨_,rfl,?_,(Below.drew g.o).alloc g.o.size _⟩;rw [c.o];exact Wm _ _ g.o.size {t with text:=t.text.extract 0 a} y.o _ rfl _ (by simp [World.setCell])
 ·have b:Q8 t=t:=(by unfold Q8;rw [i.o,if_neg M]);have c:=zA b;clear b;go_wp2;go_ret
  refine⟨_,rfl,?_,d.o.alloc d.o.size _⟩;rw [c.o];exact Wm _ _ d.o.size t D.o _ rfl _ (by simp)
end Go.Proofs.YtjbhbfaeielbiaaGreatDoor

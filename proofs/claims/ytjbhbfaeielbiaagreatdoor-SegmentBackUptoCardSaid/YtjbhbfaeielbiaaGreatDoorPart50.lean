import Derived.Test.YtjbhbfaeielbiaaGreatDoorPart47
import Derived.Test.YtjbhbfaeielbiaaGreatDoorPart49
set_option maxRecDepth 100000
set_option maxHeartbeats 8000000
set_option linter.unusedVariables false
set_option linter.unusedSimpArgs false
namespace Go.Proofs.YtjbhbfaeielbiaaGreatDoor
open Go.Proofs.Tryz
open Rep (rep)
open Go.RowKit
attribute [local go_sem ↓] zU zV
abbrev O5 (items:List xw):List U64:=items.map (·.1)
abbrev bL (items:List xw):N7:=items.map (·.2)
def bG (a:List Field) (items:List xw):aC:=ZQ 1 (xl a (O5 items) (bL items) (Zz a items))
def dG (a:List Field) (items:List xw):Prop:=Uy a items/\xR 1 (xl a (O5 items) (bL items) (Zz a items))=true/\∀(k:Nat) (f:Field) (x:N8),a[k]? =some f->(Zz a items)[k]? =some x->WA f x.1 x.2.1
def fZ (a:List Field) (items:List xw) (w:O) (e:Ending) (w' :O):Prop:=
 (∃b,b≠0/\¬dG a items/\e= .returned (.tuple #[.pointer none,.int .i64 b])/\Below w.heap.size w w')\/
 ∃(X g q:Nat) (c d f h i:aA) (c2 k l m j:Nat) (As:List aA),e= .returned (.tuple #[.pointer (some ⟨X,0,none⟩),.int .i64 0])/\As.length=g/\(yL (bL items)).length=g/\dG a items/\
  Sp w' (OP X a.length q items.length g c d f h i c2 k l m j As a (O5 items) (bL items) (Zz a items) (bG a items)++ [OldA w.heap.size w])
theorem VS {w:O} {s e:Nat} {v u:V} {a:aG} (c:a.getD 4 undef= .pointer (some ⟨s,0,none⟩)) (d:a.getD 5 undef= .pointer (some ⟨e,0,none⟩)) (i:w.cell? ⟨s,0,none⟩=some v) (h:w.cell? ⟨e,0,none⟩=some u):
 (results Tryz.f6 a).run prog w= .ok (.tuple #[v,u]) w:=by
 have b:Tryz.f6.results= #[ResultVar.cell 4 26,ResultVar.cell 5 27]:=rfl;have f:a[4]?.getD undef= .pointer (some ⟨s,0,none⟩):=by simpa using c
 have g:a[5]?.getD undef= .pointer (some ⟨e,0,none⟩):=by simpa using d
 simp [results,b,f,g,asAddr,Result.andThen,go_sem,i,h]
theorem VW {a:Func} {R:Ending->O->Prop} {d g:aG} (h:results a d=results a g):∀(ds:List Deferred) (u:FrameMode) (w:O),Leaves prog a d R ds u w->Leaves prog a g R ds u w
 | [],.returning,w,hl=>by
   obtain⟨v,b,c⟩:=hl;exact⟨v,by rw [<-h];exact b,c⟩
 | [],.panicking _,_,hl=>hl
 | [],.run,_,hl=>hl
 |_::ds,_,_,⟨b,fv,cap,f,args,c,h3,h4⟩=>⟨b,fv,cap,f,args,c,h3,h4.mono fun e i w' =>match e with
  | .returned _=>VW h ds _ _
  | .panicked _=>VW h ds _ _
  | .outgrown=>id⟩
theorem fO {K:Act->O->Prop} {R:Ending->O->Prop} {c:List PanicEntry} {a:Act} {w:O} {v:V} (k:Nat) (f:k≠4:=by decide) (g:k≠5:=by decide) (h:Exit.then K (bodyPostD prog Tryz.f6 R) (.panic c) (a.put (some k) v) w):Exit.then K (bodyPostD prog Tryz.f6 R) (.panic c) a w:=by
 refine VW ?_ a.defers _ w h;have e:Tryz.f6.results= #[ResultVar.cell 4 26,ResultVar.cell 5 27]:=rfl;have b:(a.put (some k) v).tmps[4]? =a.tmps[4]? :=by simp [Act.put,f]
 have d:(a.put (some k) v).tmps[5]? =a.tmps[5]? :=by simp [Act.put,g]
 simp [results,e,b,d]
theorem fL {g:Func} {a:aG} {R:Ending->O->Prop} {p q:Nat} {b:Int} {c d:TypeId} {i u0:V} {w:O} {L:List Asn} (j:Sp w (BlkA p c #[i]::BlkA q d #[u0]::L))
 (k:∀w',Sp w' (BlkA p c #[.pointer none]::BlkA q d #[.int .i64 b]::L)->∃v,(results g a).run prog w' = .ok v w' /\R (.returned v) w'):
 Leaves prog g a R [{target:= .fn (.func 30) #[],args:= #[.pointer (some ⟨p,0,none⟩),.pointer (some ⟨q,0,none⟩)]}] (.panicking [Q1 b]) w:=by
 have l:=enters_of func30 (by kernel_rfl) rfl;refine leaves_cons (f:=30) (args:= #[.pointer (some ⟨p,0,none⟩),.pointer (some ⟨q,0,none⟩)]) (by simp) (by simp [invoke,go_sem,l]) ?_;refine(BS p q b c d i u0 w L j).mono ?_;rintro e m w' ⟨rfl,rfl,h⟩;exact k w' h
theorem wY {b:Func} {a:aG} {R:Ending->O->Prop} {p q:Nat} {w:O} (k:∃v,(results b a).run prog w= .ok v w/\R (.returned v) w):
 Leaves prog b a R [{target:= .fn (.func 30) #[],args:= #[.pointer (some ⟨p,0,none⟩),.pointer (some ⟨q,0,none⟩)]}] .returning w:=by
 have c:=enters_of func30 (by kernel_rfl) rfl;refine leaves_cons (f:=30) (args:= #[.pointer (some ⟨p,0,none⟩),.pointer (some ⟨q,0,none⟩)]) (by simp) (by simp [invoke,go_sem,c]) ?_;refine(vA _ _ w).mono ?_;rintro e d w' ⟨rfl,rfl,rfl⟩;exact k
theorem jA {A B:aA} {n c m cm:Nat} {E:List Field} {items:List xw} {w:O} (hV:Vs w) (U:zL w (·<w.heap.size) A n c E) (R:zL w (·<w.heap.size) B m cm items)
 (hz:∀x∈items,∀e∈x.2,e.text.size<=100000000/\e.numbers.length<=1000000000):
 Calls prog 6 #[.agg #[.slice A n c],.slice B m cm] w (fZ E items w):=by
 have hn:=U.length;have hm:=R.length;subst hn;subst hm;obtain⟨H,hH⟩:=eX (w.heap.size);have T:=dY R;have ha:=lM R;have b:=(((Sp.start w).blkH 24 #[.slice A E.length c] hH).blkH 26 #[.pointer none] (H:=H+1) (by simp [hH])).blkH 27 #[.int .i64 0] (H:=H+1+1) (by simp [hH])
 obtain⟨w0,hb⟩:=eX (((w.alloc (.cells #[.slice A E.length c] 24)).alloc (.cells #[.pointer none] 26)).alloc (.cells #[.int .i64 0] 27));rw [hb]at b;have z:=b.below M3;have HB:=zA (CD (hV.on z) (U.on z) (R.on z) hz);have q0:=b.cl M2 0;have Hs:=zA U;have p:=zA T;have hh:=zA ha;have ho:=U.cap;clear hV U R hz T ha z
 go_enter_defers func6,ntmps6
 go_upto_region 2 with fail;clear hH;go_wp2_with fail;clear hb q0;refine HB.o.mono ?_;unfold qU;rintro e w1 (⟨er,C,F,rfl,L⟩|⟨Mb,A0,A1,A2,rfl,d,G⟩)
 ·have t:=zA (Sp.selT [_,_,_] (b.grow L) [1,0]);clear b L HB;go_wp2_with (go_at_call 31;refine(pM _ _ _).mono ?_;rintro e w2 h;obtain⟨rfl,rfl⟩:=h.bad C);refine fL t.o fun w' h=>⟨_,VS (by rfl) (by rfl) (h.cell M0 0) (h.cell M1 0),.inl ⟨er,C,fun g=>F g.1,rfl,h.below M2⟩⟩
 ·have t:=b.call [_,_,_,_] G;clear b G HB;go_upto_region 3 with(go_at_call 31;refine(pM _ _ _).mono ?_;rintro e w2 h;obtain⟨rfl,rfl⟩:=h.ok);have a:=t.drew;have M:=a.below M7;obtain⟨W,S⟩:=WI d.1;obtain⟨Q,P⟩:=sF W
  have HW:=zA (tD (Mb:=Mb) (w:=w2.drew) (Hs.o.on M) (a.cell M0 0) (a.cell M0 1) (a.cell M0 2) (a.blkOf M0).lt (a.ls M1) (a.ls M2) (a.ls M3) S Q (nW d p.o) (fun k f x N hx=>(eZ d p.o N hx).1) P);clear t M
  refine gR [(4,fun w=>w.cell? ⟨H,0,none⟩=some (.slice A E.length c)),(3,fun w=>w.cell? ⟨H,0,none⟩=some (.slice A E.length c))] (zg (a.cell M6 0) (hB (a.cell M6 0))) ?_;refine gL 0 4 M0 (hQ:=by exact fun _ _ _ h=>fO 13 (h:=h)) ?_;refine gL 1 3 M1 (hQ:=by exact fun _ _ _ h=>fO 14 (h:=h)) ?_;refine gF 2 (hQ:=by exact fun _ _ _ h=>fO 15 (h:=h)) ?_;intro s;refine gO 3 fun K r=> ?_;go_simp
  refine HW.o.mono ?_;rintro e w3 (⟨v,rfl,A5,q,rfl,Y,Z,hd⟩|⟨er,C,F,rfl,hk⟩);rotate_left
  ·have he:=a.grow hk;refine fL (Sp.selT [_,_,_,_,_,_] he [5,4]) fun w' h=>⟨_,VS (by rfl) (by rfl) (h.cell M0 0) (h.cell M1 0),.inl ⟨er,C,fun g=>F g.2,rfl,h.below M3⟩⟩
  have l:=Sp.selT [_,_,_,_,_,_,_] (a.c1 hd) [0,5,6];have hl:=l.below M4;have D:=l.rb M0;have hp:=D.1.len;have HR:=zA (IR (w:=w3) (Hs.o.on hl) Q (sG W) P (by rw [zK]) hh.o (by rw [zK]) S (nW d p.o) (AE E items) (fun j f x N hx=>⟨(eZ d p.o N hx).1,Z j f x N hx,(eZ d p.o N hx).2⟩) Y D.1 D.2.1 D.2.2)
  refine r.o _ _ (zg (l.cell M3 0) (YP (by kernel_rfl) yY)) ?_;clear r K s;intro s;refine gO 4 fun K r=> ?_;go_simp;refine HR.o.mono ?_;rintro e w5 ⟨X,g,B1,B2,B3,B4,Bc,c2,c3,c4,cc,Tb,As,rfl,hj,hg,I⟩;have u:=l.call _ I;refine r.o _ _ hA ?_;clear r K s;intro s;unfold OP at u;simp only [yI,zZ]at u;have y:=Sp.selT [_,_,_,_,_,_,_,_,_,_,_] u [10,9,0,1,2,3,4,5,6,7]
  have y0:=y.cl M0 0;have y1:=(y.blkOf M0).frozen 0;have o:=y.set 0 (.pointer (some ⟨X,0,none⟩));clear u I HR HW l a;refine gO 5 fun K r=> ?_;go_simp;refine r.o _ _ hA ?_;clear r K s;intro s;obtain⟨x6,hc⟩:=eX (w5.setCell ⟨H+1,0,none⟩ (.pointer (some ⟨X,0,none⟩)));rw [hc]at o s⊢;clear hc y y0 y1;have y0:=o.cl M1 0;have y1:=(o.blkOf M1).frozen 0
  have J:=o.p1.set 0 (.int .i64 0);refine gO 6 fun K r=> ?_;go_simp;refine r.o _ _ hA ?_;clear r K s;intro s;refine xW (by kernel_rfl) ?_;have i:=zA J;clear o J s y0 y1;go_wp2;refine wY ⟨_,VS (by rfl) (by rfl) (i.o.cell M1 0) (i.o.cell M0 0),.inr ⟨X,g,q,B1,B2,B3,B4,Bc,c2,c3,c4,cc,Tb,As,rfl,hj,hg,⟨d,Y,Z⟩,?_⟩⟩
  exact Sp.selT [_,_,_,_,_,_,_,_,_,_,_] i.o [2,3,4,5,6,7,8,9]
theorem e8 {n m:Nat} {r a :aC} (f:n<2^64) (d:m<2^64) (h:zP n++r=zP m++a):n=m/\r=a :=by
 have b:=kW f [] r;have c:=kW d [] a;rw [h]at b;have e:n=m:=congrArg Prod.fst (b.symm.trans c);subst e;exact⟨rfl,List.append_cancel_left h⟩
theorem PY {s t:aB} {r a :aC} (f:s.size<2^64) (g:t.size<2^64) (h:aM (Z3 s)++r=aM (Z3 t)++a):s=t/\r=a :=by
 rw [QI,QI]at h;unfold Qv at h;rw [zO,zO]at h;obtain⟨b,c⟩:=e8 f g h;obtain⟨d,e⟩:=List.append_inj c (by simpa using b);exact⟨ByteArray.ext (Array.toList_inj.1 d),e⟩
theorem PI {α:Type} {f:α->aC} {P:α->Prop} (g:∀a b r c,P a->P b->f a++r=f b++c ->a=b/\r=c):
 ∀(l d :List α) (r c :aC),(∀a∈l,P a)->(∀a∈d,P a)->l.length=d.length->l.flatMap f++r=d.flatMap f++c ->l=d /\r=c
 | [], [],r,c,_,_,_,h=>⟨rfl,by simpa using h⟩
 | [],_::_,_,_,_,_,hl,_=>by simp at hl
 |_::_, [],_,_,_,_,hl,_=>by simp at hl
 |a::l,b::d,r,c,ha,hb,hl,h=>by
  rw [zp,zp,zO,zO]at h;obtain⟨rfl,i⟩:=g a b _ _ (ha a (by simp)) (hb b (by simp)) h;obtain⟨rfl,j⟩:=PI g l d r c (fun x e=>ha x (by simp [e])) (fun x e=>hb x (by simp [e])) (by simpa using hl) i;exact⟨rfl,j⟩
theorem RR (a b:Int) (r d :aC) (f:In64 a) (g:In64 b) (h:zP (yc a)++r=zP (yc b)++d):a=b/\r=d :=by
 obtain⟨c,e⟩:=e8 (QH f) (QH g) h;refine⟨?_,e⟩;unfold yc at c
 split at c<;>split at c<;>omega
theorem RJ (a b:Entry) (r k :aC) (c:XP a=true/\∀z∈a.numbers,In64 z) (d:XP b=true/\∀z∈b.numbers,In64 z) (h:Xh a++r=Xh b++k):a=b/\r=k :=by
 obtain⟨c,e⟩:=c;obtain⟨d,f⟩:=d;unfold XP at c d;simp only [zM,decide_eq_true_eq]at c d;unfold Xh at h;simp only [zO]at h;obtain⟨g,h⟩:=PY (by omega) (by omega) h;obtain⟨i,h⟩:=PY (by omega) (by omega) h;obtain⟨l,h⟩:=e8 (by omega) (by omega) h;obtain⟨j,m⟩:=PI RR _ _ _ _ e f l h;cases a;cases b;simp only at g i j;subst g i j;exact⟨rfl,m⟩
theorem RG (a b:List Entry) (r j :aC) (c:Y9 a=true/\QB a) (d:Y9 b=true/\QB b) (h:docB a++r=docB b++j):a=b/\r=j :=by
 obtain⟨c,g⟩:=c;obtain⟨d,i⟩:=d;unfold Y9 at c d;simp only [zM,decide_eq_true_eq,List.all_eq_true]at c d;unfold docB at h;rw [zO,zO]at h;obtain⟨k,h⟩:=e8 (by omega) (by omega) h;exact PI RJ _ _ _ _ (fun e f=>⟨c.2 e f,g e f⟩) (fun e f=>⟨d.2 e f,i e f⟩) k h
theorem PL:∀gs:List N7,gs.flatMap grpB=gs.flatten.flatMap docB
 | []=>rfl
 |g::gs=>by
  rw [zp,yM,yS,PL gs];rfl
theorem RQ {α:Type} {f:α->aC} {l:List α} {a:α} (h:a∈l):(f a).length<=(l.flatMap f).length:=by
 obtain⟨s,t,rfl⟩:=List.append_of_mem h;simp only [yS,zp,zG];omega
theorem PR (gs:List N7):gs.flatMap ZF=(gs.map fun g=>(g.length,(grpB g).length)).flatMap fun p:Nat×Nat=>zP p.1++zP p.2:=by
 rw [List.flatMap_map];rfl
theorem PS {docs:N7} (j:docs.length<2^64) (b:(ZB docs).length<2^64):∀p∈(yL docs).map fun g=>(g.length,(grpB g).length),p.1<2^64/\p.2<2^64:=by
 intro p c;obtain⟨g,a,rfl⟩:=List.mem_map.1 c;have d:=RQ (f:=grpB) a
 have i:g.length<=docs.length:=by
  have e:=congrArg List.length (ZK docs);obtain⟨s,t,h⟩:=List.append_of_mem a;rw [h]at e;simp only [yf,yM,zG]at e;omega
 unfold ZB at b;simp only [zG]at b;exact⟨by show g.length<_;omega,by show(grpB g).length<_;omega⟩
theorem R3 {a b:N7} (o:∀d∈a,Y9 d=true/\QB d) (s:∀d∈b,Y9 d=true/\QB d) (g:a.length<2^64) (nb:b.length<2^64) (t:(ZB a).length<2^64) (lb:(ZB b).length<2^64) (h:ZB a=ZB b):a=b:=by
 have i:=PS g t;have j:=PS nb lb;have u:=Qi a;have v:=Qi b;unfold ZB at h;obtain⟨m,h⟩:=e8 g nb h;obtain⟨n,h⟩:=e8 (by omega) (by omega) h;rw [PR,PR]at h
 have c:=(PI (P:=fun p:Nat×Nat=>p.1<2^64/\p.2<2^64) (fun p q r w e f h=>by
  rw [zO,zO]at h;obtain⟨k,h⟩:=e8 e.1 f.1 h;obtain⟨l,h⟩:=e8 e.2 f.2 h;exact⟨Prod.ext k l,h⟩) _ _ _ _ i j (by simpa using n) h).2
 rw [PL,PL,ZK,ZK]at c;exact(PI RG a b [] [] o s m (by rw [zo,zo];exact c)).1
theorem RZ {a b:List U64} (m:∀u∈a,u.val<18446744073709551616) (n:∀u∈b,u.val<18446744073709551616) (p:a.length<2^64) (nb:b.length<2^64) (h:QU a=QU b):a=b:=by
 unfold QU at h;obtain⟨k,h⟩:=e8 p nb h
 have g:∀l:List U64,InL (l.map seqI):=fun l x o=>by
  obtain⟨u,_,rfl⟩:=List.mem_map.1 o;exact oQ u
 have d:=d7 (g a) [];have f:=d7 (g b) [];rw [h,zK,k]at d;rw [zK]at f;have e:a.map seqI=b.map seqI:=congrArg Prod.fst (yG (d.symm.trans f))
 apply yX
 intro i;have c:=congrArg (fun l=>l[i]?) e;simp only [zH]at c;rcases hi:a[i]? with _|u<;>rcases hj:b[i]? with _|v<;>rw [hi,hj]at c<;>simp at c
 ·have q:=DA u (m u (zD hi));have r:=DA v (n v (zD hj));rw [c]at q;have j:u.val=v.val:=(by omega);cases u;cases v;cases j;rfl
theorem RK {f:List Field} {a b:List xw} (j:dG f a) (k:dG f b) (w:∀x∈a,∀e∈x.2,∀z∈e.numbers,In64 z) (y:∀x∈b,∀e∈x.2,∀z∈e.numbers,In64 z) (B:∀x∈a,x.1.val<18446744073709551616) (C:∀x∈b,x.1.val<18446744073709551616)
 (A:(ZB (bL a)).length<2^64) (lb:(ZB (bL b)).length<2^64) (h:bG f a=bG f b):a=b:=by
 have o:=DT j.2.1;have r:=DT k.2.1;unfold bG at h;rw [h]at o;have g:=yG (o.symm.trans r);unfold xl at g;have s:=(List.cons.inj g).1;have t:=(List.cons.inj (List.cons.inj g).2).1;have D:=(WI j.1.1).2;have E:=(WI k.1.1).2
 have p:=RZ (fun u m=>by obtain⟨x,n,rfl⟩:=List.mem_map.1 m;exact B x n) (fun u m=>by obtain⟨x,n,rfl⟩:=List.mem_map.1 m;exact C x n) (by rw [zK];omega) (by rw [zK];omega) s;have q:=R3 (nW j.1 w) (nW k.1 y) (by rw [zK];omega) (by rw [zK];omega) A lb t
 apply yX
 intro i;have c:=congrArg (fun l=>l[i]?) p;have d:=congrArg (fun l=>l[i]?) q;simp only [zH]at c d;rcases hi:a[i]? with _|u<;>rcases hj:b[i]? with _|v<;>rw [hi,hj]at c d<;>simp at c d
 ·rw [Prod.ext c d]
theorem sD {X q c2:Nat} {d:aA} {b:aC} {w:O} (k:w.cell? ⟨X,1,none⟩=some (.slice d q c2)) (g:RB w d q b) (i:q<=140737488355328):
 Calls prog 23 #[.pointer (some ⟨X,0,none⟩)] w fun e w' =>∃A',e= .returned (.slice A' q q)/\Sp w' [BA A' q q b,OldA w.heap.size w]:=by
 have h:=zA (fW (c:=c2) (Sp.start w) g i);clear g;go_enter func23,ntmps23;go_wp2_with fail;refine h.o.mono ?_;rintro e j ⟨A',c',rfl,f⟩;have a:=(f.rb M0).2;go_wp2_with (go_at_call 55;refine(Zt _ _ _ _ a.1 a.2).mono ?_;rintro e j ⟨rfl,rfl⟩);go_ret
 exact⟨A',rfl,f.clip⟩
theorem wD {X k b:Nat} {a:aA} {w:O} (c:w.cell? ⟨X,2,none⟩=some (.slice a k b)):
 Calls prog 26 #[.pointer (some ⟨X,0,none⟩)] w fun e w' =>e= .returned (.int .i64 (k:Int))/\w=w' :=by
 go_enter func26,ntmps26;go_wp2;go_ret
 exact⟨rfl,rfl⟩
theorem II {w:O} {g:Nat} {b c d e f h:V} {a:aG} (i:a.getD 4 undef= .pointer (some ⟨g,0,none⟩)) (m:Blk w g 106 #[b,c,d,e,f,h]):(results Tryz.f48 a).run prog w= .ok (.agg #[b,c,d,e,f,h]) w:=by
 have j:=run_loadVar_row (P:=prog) w g 106 106 #[b,c,d,e,f,h] (0,0) _ m underlying106 rfl (by kernel_rfl);have k:Tryz.f48.results= #[ResultVar.cell 4 106]:=rfl;have l:a[4]?.getD undef= .pointer (some ⟨g,0,none⟩):=by simpa using i
 simp [results,k,l,j,asAddr,Result.andThen]
theorem mM {l:aF} (h:l.length=6):∃a b v2 v3 v4 v5,l= [a,b,v2,v3,v4,v5]:=by
 match l,h with
 | [a,b,v2,v3,v4,v5],_=>exact⟨a,b,v2,v3,v4,v5,rfl⟩
theorem Q9 {X f n q:Nat} {x:aA} {B:List Zj} {w:O} (r:w.cell? ⟨X,4,none⟩=some (.slice x n q)) (s:zL w (·<w.heap.size) x n q B) (F:f<n):
 Calls prog 48 #[.pointer (some ⟨X,0,none⟩),.int .i64 (f:Int)] w fun e w' =>∃i j v2 v3 v4 v5 z,B[f]? =some z/\e= .returned (.agg #[i,j,v2,v3,v4,v5])/\rep w (·<w.heap.size) [i,j,v2,v3,v4,v5] z/\Below w.heap.size w w' :=by
 obtain⟨b,off,z,rfl,A,l,cs,p,k⟩:=s.at_ F
 obtain⟨i,j,v2,v3,v4,v5,rfl⟩:=mM (Rep.len p);have t:Rep.size Zj=6:=rfl;rw [t]at k;obtain⟨H,E⟩:=eX (w.heap.size);have h:=(Sp.start w).blkH 106 #[.pointer none,.slice none 0 0,.slice none 0 0,.pointer none,.pointer none,.pointer none] E;obtain⟨w0,v⟩:=eX (w.alloc (.cells #[.pointer none,.slice none 0 0,.slice none 0 0,.pointer none,.pointer none,.pointer none] 106));rw [v]at h
 have d:=h.below M1;have I:w0.cell? ⟨b,off+f*6,none⟩=some i:=(d.cell l).trans (k 0 _ rfl);have J:w0.cell? _=_:=(d.cell l).trans (k 1 _ rfl);have K:w0.cell? _=_:=(d.cell l).trans (k 2 _ rfl);have L:w0.cell? _=_:=(d.cell l).trans (k 3 _ rfl);have M:w0.cell? _=_:=(d.cell l).trans (k 4 _ rfl);have N:w0.cell? _=_:=(d.cell l).trans (k 5 _ rfl)
 have o:X<w.heap.size:=ye r;have P:w0.cell? ⟨X,4,none⟩=some (.slice (some ⟨b,off,none⟩) n q):=(d.cell o).trans r;have y:=s.cap;have Z:=(h.blkOf M0).frozen 0;have r1:=(h.blkOf M0).frozen 1;have r2:=(h.blkOf M0).frozen 2;have r3:=(h.blkOf M0).frozen 3;have r4:=(h.blkOf M0).frozen 4;have r5:=(h.blkOf M0).frozen 5;obtain⟨Q,R,S,T,U,Y⟩:=OG h M0
 have m:=zA ((((((h.set 0 i).set 1 j).set 2 v2).set 3 v3).set 4 v4).set 5 v5);have c:∀u∈ [i,j,v2,v3,v4,v5],u.oneCell' =true:=fun u G=>Rep.one p G;have s0:∀(W:O) (a:Addr),(store a i .plain).run prog W=stored prog W a i .plain:=fun W a=>run_store _ W a i .plain (c _ (by simp))
 have s1:∀(W:O) (a:Addr),(store a j .plain).run prog W=stored prog W a j .plain:=fun W a=>run_store _ W a j .plain (c _ (by simp));have s2:∀(W:O) (a:Addr),(store a v2 .plain).run prog W=stored prog W a v2 .plain:=fun W a=>run_store _ W a v2 .plain (c _ (by simp))
 have s3:∀(W:O) (a:Addr),(store a v3 .plain).run prog W=stored prog W a v3 .plain:=fun W a=>run_store _ W a v3 .plain (c _ (by simp));have s4:∀(W:O) (a:Addr),(store a v4 .plain).run prog W=stored prog W a v4 .plain:=fun W a=>run_store _ W a v4 .plain (c _ (by simp))
 have s5:∀(W:O) (a:Addr),(store a v5 .plain).run prog W=stored prog W a v5 .plain:=fun W a=>run_store _ W a v5 .plain (c _ (by simp));have D:=zA A.o;have C:=zA p;clear h d s k r p A o c;go_enter func48,ntmps48;go_wp2;refine bodyPost_ret (II (g:=H) (by rfl) (m.o.blkOf M0)) rfl ⟨i,j,v2,v3,v4,v5,z,D.o,rfl,C.o,m.o.below M1⟩
theorem Qj {w:O} {F:Nat->Prop} {l m v2 v3 v4 v5:V} {z:Zj} (h:rep w F [l,m,v2,v3,v4,v5] z):rep w F [l] z.1/\rep w F [m] z.2.1/\rep w F [v2] z.2.2.1:=by
 obtain⟨d,c2,e,i,f,q,rfl,j,g,r,rfl,k, -⟩:=h;have n:d.length=1:=Rep.len i;have o:f.length=1:=Rep.len j;have p:g.length=1:=Rep.len k
 match d,f,g,n,o,p with
 | [a], [b], [c],_,_,_=>
   simp only [yI,zZ,List.cons.injEq]at e;obtain⟨rfl,rfl,rfl, -⟩:=e;exact⟨i,j,k⟩
theorem sA {X f n d:Nat} {b:aA} {m:List Zj} {w:O} (g:w.cell? ⟨X,4,none⟩=some (.slice b n d)) (j:zL w (·<w.heap.size) b n d m) (i:f<n):
 Calls prog 11 #[.pointer (some ⟨X,0,none⟩),.int .i64 (f:Int)] w fun e w' =>∃v z,m[f]? =some z/\e= .returned v/\rep w (·<w.heap.size) [v] z.1/\Below w.heap.size w w' :=by
 have c:=zA (Q9 g j i);clear g j i;go_enter func11,ntmps11;go_wp2_with fail;refine c.o.mono ?_;rintro e t ⟨a,s,v2,v3,v4,v5,z,l,rfl,k,h⟩;have q:=zA l;have p:=zA (Qj k);have o:=zA h;clear l k h c;have r:∀W:O,(Instr.field 106 (.agg #[a,s,v2,v3,v4,v5]) 0).run prog W= .ok a W:=fun W=>by kernel_rfl
 go_wp2;go_ret
 exact⟨a,z,q.o,rfl,p.o.1,o.o⟩
theorem rI {X f n u i:Nat} {x:Int} {r:aA} {G:List Zj} {z:Zj} {w:O} (v:w.cell? ⟨X,4,none⟩=some (.slice r n u)) (m:zL w (·<w.heap.size) r n u G) (l:G[f]? =some z) (C:z.2.2.1[i]? =some x):
 Calls prog 37 #[.pointer (some ⟨X,0,none⟩),.int .i64 (f:Int),.int .i64 (i:Int)] w fun e w' =>e= .returned (.int .i64 x)/\Below w.heap.size w w' :=by
 have a:f<n:=by have:=zN l;have:=m.length;omega
 have s:=zA (Q9 v m a);have I:=zA l;have t:=zA C;clear v m l C a;go_enter func37,ntmps37;go_wp2_with fail;refine s.o.mono ?_;rintro e S ⟨Q,R,v2,v3,v4,v5,T,F,rfl,D,d⟩;rw [I.o]at F;cases F;obtain⟨A,k,c,J,o⟩:=(Qj D).2.2;cases J;have L:=zN t.o;have M:i<k:=by have:=o.length;omega
 obtain⟨b,off,y,rfl,E,g,cs,j,B⟩:=o.at_ M
 cases j.1;have p:y=x:=yG (E.o.symm.trans t.o);subst p
 have q:S.cell? ⟨b,off+i,none⟩=some (.int .i64 y):=by
  have h:=(d.cell g).trans (B 0 _ rfl);have e:Rep.size Int=1:=rfl;rw [e]at h
  simpa using h
 have H:=zA d;have N:¬k<=i:=by omega
 have P:(i:Int)<(k:Int):=by omega
 clear o B E D d s;have K:∀W:O,(Instr.field 106 (.agg #[Q,R,.slice (some ⟨b,off,none⟩) k c,v3,v4,v5]) 2).run prog W= .ok (.slice (some ⟨b,off,none⟩) k c) W:=fun W=>by kernel_rfl
 go_wp2;go_ret
 exact⟨rfl,H.o⟩
theorem R1 {w:O} {g:Nat} {b c:V} {a:aG} (d:a.getD 4 undef= .pointer (some ⟨g,0,none⟩)) (i:Blk w g 40 #[b,c]):(results Tryz.f28 a).run prog w= .ok (.agg #[b,c]) w:=by
 have e:=run_loadVar_row (P:=prog) w g 40 40 #[b,c] (0,0) _ i underlying40 rfl (by kernel_rfl);have f:Tryz.f28.results= #[ResultVar.cell 4 40]:=rfl;have h:a[4]?.getD undef= .pointer (some ⟨g,0,none⟩):=by simpa using d
 simp [results,f,h,e,asAddr,Result.andThen]
theorem PV {X l g s k i q c2 m N nf:Nat} {I J p K r:aA} {As:List aA} {x:List U64} {docs:N7} {u:U64} {d:List Entry} {L:List Asn} {w:O}
 (y:Sp w (BlkA l 208 #[.slice r g s,.int .i64 (k:Int)]::RowA 206 3 (.slice r g s) g (yd (yL docs) As g).flatten::zz (bysA (yL docs) As)::BlkA X 127 #[.slice I nf nf,.slice J q c2,.slice p k m,.pointer (some ⟨l,0,none⟩),.slice K nf N]::UA p k m (x.map U64.val)::L))
 (n:As.length=g) (Q:(yL docs).length=g) (D:docs.length=k) (E:k<=16384) (o:∀d∈docs,Y9 d=true/\QB d) (S:(ZB docs).length<=100000000000000) (T:x[i]? =some u) (B:docs[i]? =some d):
 Calls prog 28 #[.pointer (some ⟨X,0,none⟩),.int .i64 (i:Int)] w fun e w' =>∃A' n' c',e= .returned (.agg #[.int .u64 (u.val:Int),.slice A' n' c'])/\
  Sp w' (DatA (.slice A' n' c') d::BlkA l 208 #[.slice r g s,.int .i64 (k:Int)]::RowA 206 3 (.slice r g s) g (yd (yL docs) As g).flatten::zz (bysA (yL docs) As)::BlkA X 127 #[.slice I nf nf,.slice J q c2,.slice p k m,.pointer (some ⟨l,0,none⟩),.slice K nf N]::UA p k m (x.map U64.val)::L):=by
 have ha:i<k:=by rw [<-D];exact zN B
 obtain⟨t,rfl, -, -⟩:=(y.rowOf M4).at_ (by omega)
 obtain⟨H,P⟩:=eX (w.heap.size);have b:=Sp.selT [_,_,_,_,_,_] (y.blkH 40 #[.int .u64 0,.slice none 0 0] P) [1,2,3,0,4,5];obtain⟨w2,G⟩:=eX (w.alloc (.cells #[.int .u64 0,.slice none 0 0] 40));rw [G]at b;have q2:=b.cl M4 2;have q3:=b.cl M4 3;obtain⟨v,F⟩:=eX (u.val);have f:(x.map U64.val)[i]? =some v:=by rw [zH,T,<-F];rfl
 have q4:w2.cell? ⟨t,i,none⟩=some (.int .u64 (v:Int)):=b.rowCell M5 (WB f);have M:=zA (wD q2);have A:=b.drew;have Y:=zA (RV A n Q D E o S B);have j:=zA f;have Z:decide ((i:Int)<0)=false:=decide_eq_false (by omega);have C:¬(k:Int)<=(i:Int):=by omega
 have R:(i:Int)<(k:Int):=by omega
 rw [F];clear y b n Q D o S T B f F;go_enter func28,ntmps28;go_upto_region 1 with fail;clear P;go_upto_region 3 with(go_at_call 26;refine M.o.mono ?_;rintro e w3 ⟨rfl,rfl⟩);clear M Z C
 go_region_held3 (fun W=>W.cell? ⟨X,2,none⟩=some (.slice (some ⟨t,0,none⟩) k m)/\W.cell? ⟨X,3,none⟩=some (.pointer (some ⟨l,0,none⟩))/\W.cell? ⟨t,i,none⟩=some (.int .u64 (v:Int))) (first|(with_reducible exact⟨by assumption,by assumption,by assumption⟩)|exact⟨c.cell M5 2,c.cell M5 3,c.rowCell M6 (WB j.o)⟩|trivial|fail) (first
  |(go_at_call 59;refine Y.o.mono ?_;rintro e U ⟨A',n',c',rfl,a⟩;have k0:=a.cl M5 2;have k1:=a.cl M5 3;have k2:U.cell? ⟨t,i,none⟩=some (.int .u64 (v:Int)):=a.rowCell M6 (WB j.o);have y0:U.cell? ⟨H,0,none⟩=some (.int .u64 0):=a.cell M4 0;have y1:=a.cl M4 1;have f0:=(a.blkOf M4).frozen 0;have f1:=(a.blkOf M4).frozen 1;have z:=Sp.selT [_,_,_,_,_] a [4,0,1,2,3];have c:=(z.set 0 (.int .u64 (v:Int))).set 1 (.slice A' n' c'))
  |fail)
 all_goals
  have h:=zA c;go_wp2;refine bodyPost_ret (R1 (g:=H) (by rfl) (h.o.blkOf M0)) rfl ⟨A',n',c',rfl,h.o.tail⟩
theorem RH:Elt prog 25 40 2 32:=xt (by kernel_rfl) (by decide) (by kernel_rfl)
theorem R6:(Tryz.prog.info? 40).bind (fun i=>i.zero)=some (.agg #[.int .u64 0,.slice none 0 0]):=by kernel_rfl
def R7:aF:= [.int .u64 0,.slice none 0 0]
theorem RP (N:Nat):(madeCells (Value.agg #[.int .u64 0,.slice none 0 0]).cells (N*2)).toList=(List.replicate N R7).flatten:=by
 have a:(Value.agg #[.int .u64 0,.slice none 0 0]).cells= #[.int .u64 0,.slice none 0 0]:=by simp [Value.cells]
 rw [a]
 apply yX
 intro i
 by_cases b:i<N*2
 ·obtain⟨j,r,e,rfl⟩:∃j r,r<2/\i=j*2+r:=⟨i / 2,i%2,Nat.mod_lt _ (by decide),by omega⟩;have d:∀c∈List.replicate N R7,c.length=2:=fun c a=>by rw [(List.mem_replicate.1 a).2];rfl
  rw [xX _ j r R7 d (List.getElem?_replicate_of_lt (by omega)) e];unfold madeCells;rw [Array.getElem?_toList,Array.getElem?_map,Array.getElem?_range,if_pos b,yk,show(j*2+r)%(#[.int .u64 0,.slice none 0 0]:aG).size=r from by show(j*2+r)%2=r;omega];rcases r with _|_|r<;>first|rfl|omega
 ·rw [zh (by simp [madeCells];omega),zh (by simp [R7];omega)]
theorem RL {css:List aF} {i k:Nat} (v s:V) (l:∀c∈css,c.length=2) (e:css.length=i) (o:i<k):
 ((css++List.replicate (k - i) R7).flatten.set (i*2) v).set (i*2+1) s=((css++ [[v,s]])++List.replicate (k - (i+1)) R7).flatten:=by
 have m:List.replicate (k - i) R7=R7::List.replicate (k - (i+1)) R7:=by rw [show k - i=(k - (i+1))+1 by omega,List.replicate_succ]
 have d:∀x:aF,x.length=2->∀c∈css++x::List.replicate (k - (i+1)) R7,c.length=2:=fun x n c j=>by
  rcases List.mem_append.1 j with h|h
  ·exact l c h
  ·rcases yx.1 h with rfl|h
   ·exact n
   ·rw [(List.mem_replicate.1 h).2];rfl
 have g:∀x:aF,(css++x::List.replicate (k - (i+1)) R7)[i]? =some x:=fun x=>by rw [zR (by omega),e,yh];rfl
 have f:∀x y:aF,(css++x::List.replicate (k - (i+1)) R7).set i y=css++y::List.replicate (k - (i+1)) R7:=fun x y=>by rw [xB _ _ (by omega),e,yh];rfl
 have a:=WV _ i 0 v R7 (d R7 rfl) (g R7) (by omega);rw [f]at a;have b:=WV _ i 1 s (R7.set 0 v) (d _ rfl) (g _) (by omega);rw [f]at b;rw [m,show i*2=i*2+0 from rfl,a,b];show(css++ [v,s]::_).flatten=_;rw [zO];rfl
theorem RY {w:O} {s e:Nat} {v u:V} {a:aG} (c:a.getD 4 undef= .pointer (some ⟨s,0,none⟩)) (d:a.getD 5 undef= .pointer (some ⟨e,0,none⟩)) (i:w.cell? ⟨s,0,none⟩=some v) (h:w.cell? ⟨e,0,none⟩=some u):
 (results Tryz.f25 a).run prog w= .ok (.tuple #[v,u]) w:=by
 have b:Tryz.f25.results= #[ResultVar.cell 4 26,ResultVar.cell 5 27]:=rfl;have f:a[4]?.getD undef= .pointer (some ⟨s,0,none⟩):=by simpa using c
 have g:a[5]?.getD undef= .pointer (some ⟨e,0,none⟩):=by simpa using d
 simp [results,b,f,g,asAddr,Result.andThen,go_sem,i,h]
theorem RX {A Ad:aA} {n c q qc:Nat} {p:List Field} {items:List xw} {w:O} (hV:Vs w) (D:zL w (·<w.heap.size) A n c p) (hq:q<=qc) (y6:qc<=9223372036854775807) (hb:RB w Ad q (bG p items)) (y4:dG p items)
 (hz:∀x∈items,∀e∈x.2,e.text.size<=100000000/\e.numbers.length<=1000000000) (v:∀x∈items,∀e∈x.2,∀z∈e.numbers,In64 z) (E:∀x∈items,x.1.val<18446744073709551616):
 Calls prog 25 #[.agg #[.slice A n c],.slice Ad q qc] w fun e w' =>∃(X g:Nat) (A1 A2 G A4 I:aA) (c2 T c4 U Q:Nat) (As:List aA),e= .returned (.tuple #[.pointer (some ⟨X,0,none⟩),.int .i64 0])/\As.length=g/\(yL (bL items)).length=g/\
  Sp w' (OP X n q items.length g A1 A2 G A4 I c2 T c4 U Q As p (O5 items) (bL items) (Zz p items) (bG p items)++ [OldA w.heap.size w]):=by
 have C:=D.length;obtain⟨m,hd,ho⟩:=y4;obtain⟨ha,Z⟩:=WI m.1;obtain⟨hn,h9⟩:=sF ha;obtain⟨-, -,h4, -⟩:=VR hd;have y5:=hb.len;obtain⟨fb,h8⟩:=eX (bG p items)
 have xi:(ZB (bL items)).length<=100000000000000:=by
  have:=tU (docs:=bL items) (by rw [zK];exact Z) (nW m v);omega
 obtain⟨H,hH⟩:=eX (w.heap.size);have y:=(((Sp.start w).blkH 24 #[.slice A n c] hH).blkH 26 #[.pointer none] (H:=H+1) (by simp [hH])).blkH 27 #[.int .i64 0] (H:=H+1+1) (by simp [hH]);obtain⟨w0,xn⟩:=eX (((w.alloc (.cells #[.slice A n c] 24)).alloc (.cells #[.pointer none] 26)).alloc (.cells #[.int .i64 0] 27));rw [xn]at y;have t:=y.below M3
 have HK:=zA (XJ A n c p w0 (hV.tabs.on t) (D.on t));rw [ha]at HK;have q0:=y.cl M2 0
 have aa:¬(16777216:Int)<(q:Int):=by
  have h:(bG p items).length<=16777216:=h4;omega
 obtain⟨k,hk⟩:=eX (items.length)
 have hw:=zA (fun(W:O) (hW:Below w.heap.size w W)=>IR (w:=W) (k:=k) (D.on hW) (by rw [<-C];exact hn) (sG ha) h9 (by rw [zK];exact hk) (fun u hu=>by obtain⟨x,F,rfl⟩:=List.mem_map.1 hu;exact E x F) (by rw [zK];exact hk) (by rw [<-hk];exact Z) (nW m v) (by rw [AE];exact C) (fun j f x hf F=>⟨(eZ m v hf F).1,ho j f x hf F,by rw [<-hk];exact(eZ m v hf F).2⟩) hd (hb.on hW) hq y6)
 have hv:=zA (fun(W:O) (hW:Below w.heap.size w W) (B:aA) (cm:Nat) (hi:zL W (·<W.heap.size) B k cm items)=>jA (hV.on hW) (D.on hW) hi hz);have Hb:=zA hb;have x8:=zA (show dG p items from⟨m,hd,ho⟩);have x6:=zA (nW m v);have ys:=zA xi;have Hk:=zA hk;have h1:=zA h8;have h3:=zA E;have ab:=zA C;have xb:k<=16384:=by rw [<-hk];exact Z
 have y8:n<=16:=by rw [<-C];exact hn
 clear hV D t hb m hd ho ha Z hn h9 h4 y5 xi hk h8 hz v E C
 go_enter_defers func25,ntmps25
 go_upto_region 1 with fail;clear hH;go_wp2_with fail;clear xn;refine HK.o.mono ?_;rintro e w1 ⟨rfl,h6⟩;have J:=y.grow h6;have q1:=J.cl M2 0;have HR:=zA (hw.o w1 (J.below M3));have ad:OV true=0:=rfl;clear y h6 q0 HK hw;go_wp2_with fail;refine HR.o.mono ?_;rintro e w2 ⟨X,g,A1,A2,G,A4,I,c2,T,c4,U,Q,As,rfl,h5,hg,hy⟩;have K:=J.call _ hy;unfold OP at K
 simp only [yI,zZ]at K;have L:=Sp.selT [_,_,_,_,_,_,_,_,_,_,_] K [9,5,6,7,0,3,8,10,1,2,4];have y0:=L.cl M0 0;have y1:=(L.blkOf M0).frozen 0;obtain⟨w3,hr⟩:=eX (w2.setCell ⟨H+1,0,none⟩ (.pointer (some ⟨X,0,none⟩)))
 obtain⟨P,hP⟩:=eX (BlkA (H+1) 26 #[.pointer (some ⟨X,0,none⟩)]::BlkA (H+1+1) 27 #[.int .i64 0]::BlkA H 24 #[.slice A n c]::DatA (.slice A1 n n) p::BA A2 q c2 fb::DatA (.slice A4 n c4) (aR p (Zz p items) n):: [OldA w.heap.size w])
 have N:Sp w3 (BlkA Q 208 #[.slice I g U,.int .i64 (k:Int)]::RowA 206 3 (.slice I g U) g (yd (yL (bL items)) As g).flatten::zz (bysA (yL (bL items)) As)::BlkA X 127 #[.slice A1 n n,.slice A2 q c2,.slice G k T,.pointer (some ⟨Q,0,none⟩),.slice A4 n c4]::UA G k T ((O5 items).map U64.val)::P):=by
  rw [<-hP,<-hr,<-h1.o];exact Sp.selT [_,_,_,_,_,_,_,_,_,_,_] (L.set 0 (.pointer (some ⟨X,0,none⟩))) [1,2,3,4,5,0,6,7,8,9,10]
 have HP:=zA hP;have hs:=fun(W:O) (M:List Asn) (h:Sp W (M++P))=>show W.cell? ⟨H+1,0,none⟩=some (.pointer (some ⟨X,0,none⟩))from by rw [<-hP]at h;exact h.cell (List.mem_append_right _ M0) 0
 have x3:=zA hs;have q2:w3.cell? ⟨H+1,0,none⟩=some (.pointer (some ⟨X,0,none⟩)):=hs w3 [_,_,_,_,_] N;have q3:=N.cl M3 2;have HL:=zA (wD q3);obtain⟨R,hR⟩:=eX (w3.heap.size);have y2:=zA hr;clear J hy K L HR q1 hP hs hr;go_upto_region 7 with fail;rw [y2.o];clear y0 y1
 go_wp2_with (first
  |(go_at_call 26;refine HL.o.mono ?_;rintro e w4 ⟨rfl,rfl⟩)
  |(at_make;refine Zk RH (.tmp 22) (.tmp 22) rfl rfl N hR rfl rfl (by omega) (by omega) R6 ?_;intro w5 hj;rw [RP]at hj)
  |fail)
 have b:Sp w5 (BlkA Q 208 #[.slice I g U,.int .i64 (k:Int)]::RowA 206 3 (.slice I g U) g (yd (yL (bL items)) As g).flatten::zz (bysA (yL (bL items)) As)::BlkA X 127 #[.slice A1 n n,.slice A2 q c2,.slice G k T,.pointer (some ⟨Q,0,none⟩),.slice A4 n c4]::UA G k T ((O5 items).map U64.val)::RowA 40 2 (.slice (some ⟨R,0,none⟩) k k) k (([]:List aF)++List.replicate (k - 0) R7).flatten::ElsA [] (items.take 0)::P):=
  Sp.selT [_,_,_,_,_,_,_] (Sp.elsNil (α:=xw) hj) [2,3,4,5,6,1,0]
 have ht:=zA h5;have Hg:=zA hg;clear N hj HL q2 q3 hR h5 hg
 go_loopg [26] k (fun gk y7 wr=>∃(i:Nat) (css:List aF),y7= .int .i64 i/\i<=k/\gk=k - i/\Hid (css.length=i/\∀c∈css,c.length=2)/\Sp wr (BlkA Q 208 #[.slice I g U,.int .i64 (k:Int)]::RowA 206 3 (.slice I g U) g (yd (yL (bL items)) As g).flatten::zz (bysA (yL (bL items)) As)::BlkA X 127 #[.slice A1 n n,.slice A2 q c2,.slice G k T,.pointer (some ⟨Q,0,none⟩),.slice A4 n c4]::UA G k T ((O5 items).map U64.val)::RowA 40 2 (.slice (some ⟨R,0,none⟩) k k) k (css++List.replicate (k - i) R7).flatten::ElsA css (items.take i)::P))
 case atStart=>exact⟨0, [],rfl,zJ _,rfl,(show _/\_ from⟨rfl,fun c h=>nomatch h⟩),b⟩
 case round=>
  obtain⟨i,css,rfl,ag,rfl,o,HS⟩:=hrel;clear b
  by_cases hh:i<k
  ·obtain⟨x,F⟩:∃x,items[i]? =some x:=⟨_,zB (by rw [Hk.o];exact hh)⟩;have q2:=x3.o wr [_,_,_,_,_,_,_] HS;have HI:=zA (PV (i:=i) (u:=x.1) (d:=x.2) HS ht.o Hg.o (by rw [zK];exact Hk.o) xb x6.o ys.o (by rw [zH,F];rfl) (by rw [zH,F];rfl));have hu:=h3.o x (zD F);have af:(i:Int)<(k:Int):=(by omega);have ah:IntKind.i64.wrap ((i:Int)+1)=((i+1:Nat):Int):=(by rw [zT];omega)
   obtain⟨u,hp⟩:=eX (x.1.val);rw [hp]at HI hu;have hm:∀c∈css++List.replicate (k - i) R7,c.length=2:=fun c hc=>(List.mem_append.1 hc).elim (o.o.2 c) fun h=>by rw [(List.mem_replicate.1 h).2];rfl
   have hl:(css++List.replicate (k - i) R7)[i]? =some R7:=(by rw [zR (by rw [o.o.1];exact zC _),o.o.1,yh,List.getElem?_replicate_of_lt (by omega)]);have xs:=xX _ i 0 R7 hm hl (by omega);have x2:=xX _ i 1 R7 hm hl (by omega);have x4:=zA xs;have x5:=zA x2;have Hx:=zA F;have h2:=zA hp;clear HS F hp hm hl xs x2
   go_wp2_with (go_at_call 28;refine HI.o.mono ?_;rintro e w6 ⟨A',n',c',rfl,b⟩;have a:=Sp.selT [_,_,_,_,_,_,_,_] b [6,0,7,1,2,3,4,5];have y0:w6.cell? ⟨R,i*2,none⟩=some (.int .u64 0):=a.rowCell M0 (x4.o.trans rfl);have y1:w6.cell? ⟨R,i*2+1,none⟩=some (.slice none 0 0):=a.rowCell M0 (x5.o.trans rfl);have f0:=a.rowFree M0 (i*2);have f1:=a.rowFree M0 (i*2+1))
   have r:=(a.rowSet (i*2) (.int .u64 (u:Int))).rowSet (i*2+1) (.slice A' n' c');rw [RL _ _ o.o.2 o.o.1 hh]at r;have l:=Sp.mk1 (cs:= [.int .u64 (u:Int),.slice A' n' c']) (x:=(x:xw)) r.p1 fun S hS=>⟨[.int .u64 (u:Int)], [.slice A' n' c'],rfl,⟨by rw [h2.o],by rw [h2.o];exact hu⟩,hS⟩
   have he:=Sp.selT [_,_,_,_,_,_,_] (Sp.selT [_,_,_] l [0,2,1]).elsPush [2,3,4,5,6,1,0];rw [show items.take i++ [x]=items.take (i+1) by rw [zI,Hx.o];rfl]at he
   have h0:Hid ((css++ [[Value.int .u64 (u:Int),.slice A' n' c']]).length=i+1/\∀c∈css++ [[Value.int .u64 (u:Int),.slice A' n' c']],c.length=2):=(show _/\_ from⟨by rw [zG,o.o.1];rfl,fun c hc=>(List.mem_append.1 hc).elim (o.o.2 c) fun h=>by rw [List.mem_singleton.1 h];rfl⟩);clear b a r l y0 y1 f0 f1 q2 HI
   go_roundg (k - (i+1))
   ·exact⟨i+1,_,by go_num,by omega,rfl,h0,he⟩
   ·omega
  ·obtain rfl:i=k:=by omega
   rw [yh,List.replicate_zero,zo,zF (by rw [Hk.o];exact zC _)]at HS;have b:=Sp.els (α:=xw) (Sp.selT [_,_,_,_,_,_,_] HS [5,6,0,1,2,3,4]);rw [<-HP.o]at b;have h7:=b.below (.tail _ (.tail _ (.tail _ (.tail _ M8))));have HB:=zA (hv.o wr h7 (some ⟨R,0,none⟩) i (b.ls M0));have q2:=b.cl M8 0;clear HS hv;go_wp2_with fail;refine HB.o.mono ?_;unfold fZ
   rintro e w7 (⟨er,ae,y3,rfl, -⟩|⟨Y,g',q',B1,B2,B3,B4,Bc,d2,d3,d4,dc,Td,Bs,rfl, -, -, -,s⟩)
   ·exact absurd x8.o y3
   unfold OP at s;simp only [yI,zZ]at s;have a:=b.grow (s.below M8);have t:Below w.heap.size w w7:=a.below (.tail _ (.tail _ (.tail _ (.tail _ M8))));have c1:=s.cl M0 1;have HE:=zA (lS B2 q' d2 (bG p items) Ad q qc (bG p items) w7 (s.rb M2).1 (Hb.o.on t));rw [beq_self_eq_true]at HE;have x0:=a.cl M6 0;have x1:=(a.blkOf M6).frozen 0;have e0:=a.cl M7 0
   have e1:=(a.blkOf M7).frozen 0;have r:=Sp.selT [_,_,_,_,_,_,_,_] a [6,7,4,1,2,3,5];have l:=zA ((r.set 0 (.pointer (some ⟨X,0,none⟩))).p1.set 0 (.int .i64 0));clear b a r s HB q2 h7 t
   go_wp2_with (first
    |(go_at_call 57;refine HE.o.mono ?_;rintro e w8 ⟨rfl,rfl⟩)
    |fail)
   refine wY ⟨_,RY (by rfl) (by rfl) (l.o.cell M1 0) (l.o.cell M0 0),X,g,A1,A2,G,A4,I,c2,T,c4,U,Q,As,rfl,ht.o,Hg.o,?_⟩;have h:=Sp.selT [_,_,_,_,_,_,_,_,_,_,_] l.o [2,8,9,6,10,3,4,5];rw [h1.o,Hk.o];exact h
def PK (c:List Field) (items:List xw) (w:O) (e:Ending) (w' :O):Prop:=
 ∃(d:V) (b:Int),e= .returned (.tuple #[d,.int .i64 b])/\Below w.heap.size w w' /\(b=0->dG c items/\∃(X q c2:Nat) (a:aA),d= .pointer (some ⟨X,0,none⟩)/\w'.cell? ⟨X,1,none⟩=some (.slice a q c2)/\RB w' a q (bG c items))
theorem PW {d:List Field} {items:List xw} {w w' :O} {e:Ending} (h:fZ d items w e w'):PK d items w e w' :=by
 unfold fZ at h;rcases h with⟨i,b, -,rfl,j⟩|⟨X,g,q,k,f,l,m,n,c2,p,r,s,o,As,rfl, -, -,c,a⟩
 ·exact⟨_,i,rfl,j,fun h=>absurd h b⟩
 ·unfold OP at a;simp only [yI,zZ]at a;exact⟨_,0,rfl,a.below M8,fun _=>⟨c,X,q,c2,f,rfl,a.cell M0 1,(a.rb M2).1⟩⟩
theorem PO {a:List Field} {items:List xw} (h:dG a items):(bG a items).length<=16777216:=
 have⟨_,_,b,_⟩:=VR h.2.1
 b
theorem PM {a:List Field} {items:List xw} (h:dG a items) (b:∀x∈items,∀e∈x.2,∀z∈e.numbers,In64 z):(ZB (bL items)).length<=6000000000:=
 tU (by rw [zK];exact(WI h.1.1).2) (nW h.1 b)
theorem P6 (HA:∀w:O,Vs w->Calls prog 8 #[] w fun e w' =>e= .returned (.bool true)/\Below w.heap.size w w')
 {A B C:aA} {n c m cm l cl:Nat} {fs:List Field} {a b:List xw} {w:O} (hV:Vs w) (hs:zL w (·<w.heap.size) A n c fs) (Q:zL w (·<w.heap.size) B m cm a) (hb:zL w (·<w.heap.size) C l cl b)
 (xn:∀x∈a,∀e∈x.2,e.text.size<=100000000/\e.numbers.length<=1000000000) (a1:∀x∈b,∀e∈x.2,e.text.size<=100000000/\e.numbers.length<=1000000000):
 Calls prog 4 #[.agg #[.slice A n c],.slice B m cm,.slice C l cl] w fun e w' =>e= .returned (.bool true)/\Below w.heap.size w w' :=by
 obtain⟨H,hH⟩:=eX (w.heap.size);have I:=(Sp.start w).blkH 24 #[.slice A n c] hH;obtain⟨w0,a0⟩:=eX (w.alloc (.cells #[.slice A n c] 24));rw [a0]at I;have an:=I.below M1;have HB:=zA (fun(W:O) (f:Below w.heap.size w W)=>(jA (hV.on f) (hs.on f) (Q.on f) xn).mono fun _ _=>PW);have HC:=zA (fun(W:O) (f:Below w.heap.size w W)=>(jA (hV.on f) (hs.on f) (hb.on f) a1).mono fun _ _=>PW)
 have x6:=zA (fun(W:O) (f:Below w.heap.size w W)=>LT (Q.on f));have x8:=zA (fun(W:O) (f:Below w.heap.size w W)=>LT (hb.on f));have h3:=zA (fun(W:O) (f:Below w.heap.size w W)=>HA W (hV.on f));have y3:=zA (fun(W:O) (f:Below w.heap.size w W)=>RO (Q.on f) (hb.on f))
 have y4:=zA (fun(W:O) (f:Below w.heap.size w W) (Ad:aA) (q:Nat) (hq:q<=9223372036854775807) (hr:RB W Ad q (bG fs a)) (bd:dG fs a)=>RX (hV.on f) (hs.on f) (zC q) hq hr bd xn (dY Q) (fun x hx=>lM Q x.1 (List.mem_map.2 ⟨x,hx,rfl⟩)))
 have HI:=zA (And.intro (dY Q) (And.intro (dY hb) (And.intro (fun x (hx:x∈a)=>lM Q x.1 (List.mem_map.2 ⟨x,hx,rfl⟩)) (fun x (hx:x∈b)=>lM hb x.1 (List.mem_map.2 ⟨x,hx,rfl⟩)))));have Hs:=zA (fun(W:O) (f:Sp W [BlkA H 24 #[.slice A n c],OldA w.heap.size w])=>show W.cell? ⟨H,0,none⟩=some (.slice A n c)from f.cell M0 0);have Ha:=zA Q;have Hl:=zA Q.length;have bo:=Q.cap;have q0:=I.cl M0 0
 have xs:=zA (HB.o w0 an);clear hV hs Q hb xn a1 HA an HB;go_enter func4,ntmps4;go_upto_region 1 with fail;clear hH;go_wp2_with fail;refine xs.o.mono ?_;unfold PK;rintro e w1 ⟨vx,ex,rfl,ag,ae⟩;have hf:=I.grow ag;have q1:=hf.cl M0 0;have x3:=zA (HC.o w1 (hf.below M1));have ys:=zA ae;clear a0 q0 xs HC I ag ae;go_wp2_with fail;refine x3.o.mono ?_;unfold PK
 rintro e F ⟨vy,ey,rfl,h9,af⟩;have v:=zA (hf.grow h9);have h6:=zA h9;have y0:=zA af;have x4:=zA (x6.o F (v.o.below M1));obtain⟨bx,ao⟩:=eX ((ex !=0));obtain⟨ab,ap⟩:=eX ((ey !=0));clear q1 x3 x6 h9 af hf;go_upto_region 3 with fail;go_wp2_with fail;refine x4.o.mono ?_;rintro e w3 ⟨fa,rfl,hd⟩
 have hk:Hid (Below F.heap.size F w3):=by obtain⟨j,rfl⟩:=hd;exact zd (zE _ _) j
 clear hd x4;cases fa with
 |false=>
  have S:=(v.o.grow hk.o).below M1;have G:=zA (h3.o w3 S);have hy:=zA S;clear S;go_wp2_with fail;refine G.o.mono ?_;rintro e w4 ⟨rfl,ai⟩;have E:=zA (hy.o.trans (ai.mono hy.o.size));clear ai;go_wp2;go_ret
  exact⟨rfl,E.o⟩
 |true=>
  have x5:=zA (x8.o w3 ((v.o.grow hk.o).below M1));clear x8;go_wp2_with fail;refine x5.o.mono ?_;rintro e w4 ⟨fb,rfl,hd⟩;have E:Hid (Below F.heap.size F w4):=(by obtain⟨j,rfl⟩:=hd;exact zd hk.o j);have T:=(v.o.grow E.o).below M1;have G:=zA (h3.o w4 T);have N:=zA T;clear hd x5 T
  by_cases R:fb=true/\bx=false/\ab=false
  ·obtain⟨rfl,rfl,rfl⟩:=R;obtain rfl:ex=0:=by simpa using ao
   obtain rfl:ey=0:=by simpa using ap
   obtain⟨hc,X,q,c2,A2,rfl,x1,x2⟩:=ys.o rfl;obtain⟨hm,Y,p,d2,B2,rfl,y1,y2⟩:=y0.o rfl;clear ys y0 ao ap;go_wp2_with fail;refine G.o.mono ?_;rintro e w5 ⟨rfl,U⟩;have y:=zA (E.o.trans (U.mono E.o.size));have az:=PO hc;have ax:=PO hm;have xi:=x2.len;have ay:=y2.len;rw [xi]at az;rw [ay]at ax;obtain⟨bb,xb⟩:=eX (decide (a=b))
   have ak:decide (bG fs a=bG fs b)=bb:=by
    rw [<-xb];refine decide_eq_decide.2 ⟨fun h=> ?_,fun h=>by rw [h]⟩;have h1:=PM hc HI.o.1;have h2:=PM hm HI.o.2.1;exact RK hc hm HI.o.1 HI.o.2.1 HI.o.2.2.1 HI.o.2.2.2 (by omega) (by omega) h
   have HX:=zA (fun(W:O) (f:Below F.heap.size F W)=>sD (X:=X) (w:=W) (c2:=c2) ((f.cell (ye ((h6.o.cell (ye x1)).trans x1))).trans ((h6.o.cell (ye x1)).trans x1)) ((x2.on h6.o).on f) (by omega));have HY:=zA (fun(W:O) (f:Below F.heap.size F W)=>sD (X:=Y) (w:=W) (c2:=d2) ((f.cell (ye y1)).trans y1) (y2.on f) (by omega));have T1:=zA (HX.o w5 y.o);have hl:=zA hc
   have bm:=zA xi;have a6:=zA xb;have a7:=zA ak;clear U G hc hm x1 x2 y1 y2 xi ay xb ak hk E N h3;go_wp2_with fail;refine T1.o.mono ?_;rintro e w6 ⟨A6,rfl,h5⟩;have T2:=zA (HY.o w6 (y.o.trans ((h5.below M1).mono y.o.size)));clear T1;go_wp2_with fail;refine T2.o.mono ?_;rintro e w7 ⟨A7,rfl,y6⟩;have hh:=h5.c1 y6
   have T3:=PT (c:=q) (c' :=p) (w:=w7) (by omega) (hh.rb M1).1 (hh.rb M0).1;rw [a7.o]at T3;have T3:=zA T3;have y7:=zA (y.o.trans ((hh.below M2).mono y.o.size));clear T2 h5 y6 hh HY;go_wp2_with fail;refine T3.o.mono ?_;rintro e w8 ⟨rfl,aq⟩;have h7:=zA (y7.o.trans (aq.bel.mono y7.o.size));have T4:=y3.o w8 ((v.o.grow h7.o).below M1);rw [a6.o]at T4
   have T4:=zA T4;clear T3 aq y3;go_wp2_with fail;refine T4.o.mono ?_;rintro e w9 ⟨rfl,aj⟩;have h8:=zA (h7.o.trans (aj.mono h7.o.size));have am:(bb !=bb)=false:=(by simp);have hi:=(v.o.grow h8.o).drew;have D:Below F.heap.size F w9.drew:=((Sp.start F).grow h8.o).drew.below M0;have T5:=zA (HX.o w9.drew D)
   have q0:w9.cell? ⟨H,0,none⟩=some (.slice A n c):=(v.o.grow h8.o).cell M0 0;clear T4 aj;go_upto_region 7 with fail
   go_region_held3 (fun W=>W.cell? ⟨H,0,none⟩=some (.slice A n c)) (first|with_reducible assumption|trivial|fail) (first
    |(go_at_call 23;refine T5.o.mono ?_;rintro e o ⟨a5,rfl,r⟩;have k0:o.cell? ⟨H,0,none⟩=some (.slice A n c):=(hi.grow (r.below M1)).cell M0 0;have t:=(hi.grow (r.below M1)).below M1;have T6:=zA (y4.o o t a5 q (by omega) (r.rb M0).1 hl.o))
    |(go_at_call 25;refine T6.o.mono ?_;rintro e a2 ⟨Z,g,B1,B2,B3,B4,Bc,e2,e3,e4,ec,Te,Es,rfl,ad,hg,k⟩;unfold OP at k;simp only [yI,zZ]at k;have k1:a2.cell? ⟨H,0,none⟩=some (.slice A n c):=((hi.grow (r.below M1)).grow (k.below M8)).cell M0 0)
    |fail)
   have t:=zA t;rw [Hl.o]at k;have q1:=k.cl M0 2;have T7:=zA (wD q1);have T8:=zA (sD (X:=Z) (w:=a2) (c2:=e2) (k.cell M0 1) (k.rb M2).1 (by omega));have hv:=zA (D.trans ((r.below M1).mono D.size));have a9:=zA ad;have Hg:=zA hg;have J:=zA k;clear T5 T6 y4 ad hg r k hi D q0 k0 k1 am;go_wp2_with fail;refine T7.o.mono ?_;rintro e bu ⟨rfl,rfl⟩
   clear T7 q1;go_wp2_with fail;refine T8.o.mono ?_;rintro e bf ⟨bk,rfl,K⟩;have hz:=J.o.below M8;have hw:=zA (hv.o.trans (hz.mono hv.o.size));have T9:=zA (HX.o bf (hw.o.trans ((K.below M1).mono hw.o.size)));have hn:=zA (J.o.call [_] K);clear T8 J hz K;go_wp2_with fail;refine T9.o.mono ?_;rintro e bg ⟨bl,rfl,ho⟩
   have z:=zA (hn.o.c1 ho);have P:=PT (c:=q) (c' :=q) (w:=bg) (by omega) (z.o.rb M1).1 (z.o.rb M0).1;rw [decide_eq_true rfl]at P;have P:=zA P;clear T9 hn ho;go_wp2_with fail;refine P.o.mono ?_;rintro e bv ⟨rfl,h0⟩;have hp:=z.o.grow h0.bel;have ht:=Sp.selT [_,_,_,_,_,_,_,_,_,_] hp [7,8,9,2,5]
   have hj:=zA (fun(W:O) (f:Below o.heap.size o W)=>t.o.trans (f.mono t.o.size));have a8:=zA (nW hl.o.1 HI.o.1);have bs:=PM hl.o HI.o.1;have aw:m<=16384:=(by rw [<-Hl.o];exact(WI hl.o.1.1).2);clear P z hp h0;go_wp2
   go_loopg [13] m (fun gk be wr=>∃i:Nat,be= .int .i64 i/\i<=m/\gk=m - i/\Sp wr (BlkA Te 208 #[.slice Bc g ec,.int .i64 (m:Int)]::RowA 206 3 (.slice Bc g ec) g (yd (yL (bL a)) Es g).flatten::zz (bysA (yL (bL a)) Es)::BlkA Z 127 #[.slice B1 n n,.slice B2 q e2,.slice B3 m e3,.pointer (some ⟨Te,0,none⟩),.slice B4 n e4]::UA B3 m e3 ((O5 a).map U64.val):: [OldA o.heap.size o]))
   case atStart=>exact⟨0,rfl,zJ _,rfl,ht⟩
   case round=>
    obtain⟨i,rfl,bq,rfl,HS⟩:=hrel;clear ht
    by_cases av:i<m
    ·obtain⟨bi,oi,x,rfl,Hx,al,ar⟩:=Ha.o.at_ av
     obtain⟨Ad,nd,cd,I0,I1,au, -⟩:=xw.at_ ar
     obtain⟨u,hu⟩:=eX (x.1.val);rw [hu]at I0;have he:=zA (fun(W:O) (f:Below o.heap.size o W)=>show W.cell? ⟨bi,oi+i*2,none⟩=some (.int .u64 (u:Int))/\W.cell? ⟨bi,oi+i*2+1,none⟩=some (.slice Ad nd cd)from⟨((hj.o W f).cell al).trans I0,((hj.o W f).cell al).trans I1⟩)
     have h4:=zA (fun(W:O) (f:Sp W (BlkA Te 208 #[.slice Bc g ec,.int .i64 (m:Int)]::RowA 206 3 (.slice Bc g ec) g (yd (yL (bL a)) Es g).flatten::zz (bysA (yL (bL a)) Es)::BlkA Z 127 #[.slice B1 n n,.slice B2 q e2,.slice B3 m e3,.pointer (some ⟨Te,0,none⟩),.slice B4 n e4]::UA B3 m e3 ((O5 a).map U64.val):: [OldA o.heap.size o]))=>PV (i:=i) (u:=x.1) (d:=x.2) f a9.o Hg.o (by rw [zK];exact Hl.o) aw a8.o (by omega) (by rw [zH,Hx.o];rfl) (by rw [zH,Hx.o];rfl))
     rw [hu]at h4;have T1:=zA (h4.o wr.drew HS.drew);obtain⟨q0,q1⟩:=he.o wr (HS.below M5);have bp:(i:Int)<(m:Int):=(by omega);have br:IntKind.i64.wrap ((i:Int)+1)=((i+1:Nat):Int):=(by rw [zT];omega);have y8:=zA au;clear ar I0 I1 au hu
     have bc:∀(A:aA) (n c:Nat) (W:O),(Instr.field 40 (.agg #[.int .u64 (u:Int),.slice A n c]) 1).run prog W= .ok (.agg #[.slice A n c]) W:=fun A n c W=>by kernel_rfl
     have ba:∀(A:aA) (n c:Nat) (W:O),(Instr.field 40 (.agg #[.int .u64 (u:Int),.slice A n c]) 0).run prog W= .ok (.int .u64 (u:Int)) W:=fun A n c W=>by kernel_rfl
     go_upto_region 13 with fail
     go_region_held3 (fun W=>W.cell? ⟨bi,oi+i*2,none⟩=some (.int .u64 (u:Int))/\W.cell? ⟨bi,oi+i*2+1,none⟩=some (.slice Ad nd cd)) (first|(with_reducible exact⟨by assumption,by assumption⟩)|exact k5|exact k4|exact k3|trivial|fail) (first
      |(go_at_call 28;refine T1.o.mono ?_;rintro e a3 ⟨A',n',c',rfl,s⟩;have k3:=he.o a3 (s.below M6);have T2:=PU (c:=c') (c' :=cd) (s.ls M0) (y8.o.on (hj.o a3 (s.below M6)));rw [decide_eq_true rfl]at T2;have T2:=zA T2)
      |(go_at_call 27;refine T2.o.mono ?_;rintro e a4 ⟨rfl,ah⟩;have L:=s.tail.grow ah;have k4:=he.o a4 (L.below M5);have T3:=zA (h4.o a4 L))
      |(go_at_call 28;refine T3.o.mono ?_;rintro e bh ⟨bj,bt,bn,rfl,M⟩;have k5:=he.o bh (M.below M6))
      |fail)
     have y5:=zA M.tail;clear k3 k4 k5 s L M T2 T3 q0 q1 ba bc;go_wp2
     go_roundg (m - (i+1))
     ·exact⟨i+1,by go_num,by omega,rfl,y5.o⟩
     ·omega
    ·obtain rfl:i=m:=by omega
     have aa:=zA (hj.o wr (HS.below M5));go_wp2;go_ret
     exact⟨rfl,aa.o⟩
  ·cases fb<;>cases bx<;>cases ab
   all_goals first
    |exact absurd ⟨rfl,rfl,rfl⟩ R
    |(clear R
      go_wp2_with fail;refine G.o.mono ?_;rintro e w5 ⟨rfl,U⟩;have y:=zA (N.o.trans (U.mono N.o.size));clear U;go_wp2;go_ret
      exact⟨rfl,y.o⟩)
end Go.Proofs.YtjbhbfaeielbiaaGreatDoor

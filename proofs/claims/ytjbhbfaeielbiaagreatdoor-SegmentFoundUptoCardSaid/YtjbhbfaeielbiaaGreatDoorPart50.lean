import Derived.Test.YtjbhbfaeielbiaaGreatDoorPart49
import Derived.Test.YtjbhbfaeielbiaaGreatDoorPart48
import Derived.Test.YtjbhbfaeielbiaaGreatDoorPart45
set_option maxRecDepth 100000
set_option maxHeartbeats 8000000
set_option linter.unusedVariables false
set_option linter.unusedSimpArgs false
namespace Go.Proofs.YtjbhbfaeielbiaaGreatDoor
open Go.Proofs.Tryz
open Rep (rep)
open Go.RowKit
attribute [local go_sem ↓] zU zV
abbrev O5 (items:List xw):List U64:=items.map (·.1)
abbrev bL (items:List xw):N7:=items.map (·.2)
def bG (a:List Field) (items:List xw):aC:=ZQ 1 (xl a (O5 items) (bL items) (Zz a items))
def dG (a:List Field) (items:List xw):Prop:=Uy a items/\xR 1 (xl a (O5 items) (bL items) (Zz a items))=true/\∀(k:Nat) (f:Field) (x:N8),a[k]? =some f->(Zz a items)[k]? =some x->WA f x.1 x.2.1
def fZ (a:List Field) (items:List xw) (w:O) (e:Ending) (w' :O):Prop:=
 (∃b,b≠0/\¬dG a items/\e= .returned (.tuple #[.pointer none,.int .i64 b])/\Below w.heap.size w w')\/
 ∃(X g q:Nat) (c d f h i:aA) (c2 k l m j:Nat) (As:List aA),e= .returned (.tuple #[.pointer (some ⟨X,0,none⟩),.int .i64 0])/\As.length=g/\(yL (bL items)).length=g/\dG a items/\
  Sp w' (OP X a.length q items.length g c d f h i c2 k l m j As a (O5 items) (bL items) (Zz a items) (bG a items)++ [OldA w.heap.size w])
theorem VS {w:O} {s e:Nat} {v u:V} {a:aG} (c:a.getD 4 undef= .pointer (some ⟨s,0,none⟩)) (d:a.getD 5 undef= .pointer (some ⟨e,0,none⟩)) (i:w.cell? ⟨s,0,none⟩=some v) (h:w.cell? ⟨e,0,none⟩=some u):
 (results Tryz.f6 a).run prog w= .ok (.tuple #[v,u]) w:=by
 have b:Tryz.f6.results= #[ResultVar.cell 4 26,ResultVar.cell 5 27]:=rfl;have f:a[4]?.getD undef= .pointer (some ⟨s,0,none⟩):=by simpa using c
 have g:a[5]?.getD undef= .pointer (some ⟨e,0,none⟩):=by simpa using d
 simp [results,b,f,g,asAddr,Result.andThen,go_sem,i,h]
theorem VW {a:Func} {R:Ending->O->Prop} {d g:aG} (h:results a d=results a g):∀(ds:List Deferred) (u:FrameMode) (w:O),Leaves prog a d R ds u w->Leaves prog a g R ds u w
 | [],.returning,w,hl=>by
   obtain⟨v,b,c⟩:=hl;exact⟨v,by rw [<-h];exact b,c⟩
 | [],.panicking _,_,hl=>hl
 | [],.run,_,hl=>hl
 |_::ds,_,_,⟨b,fv,cap,f,args,c,h3,h4⟩=>⟨b,fv,cap,f,args,c,h3,h4.mono fun e i w' =>match e with
  | .returned _=>VW h ds _ _
  | .panicked _=>VW h ds _ _
  | .outgrown=>id⟩
theorem fO {K:Act->O->Prop} {R:Ending->O->Prop} {c:List PanicEntry} {a:Act} {w:O} {v:V} (k:Nat) (f:k≠4:=by decide) (g:k≠5:=by decide) (h:Exit.then K (bodyPostD prog Tryz.f6 R) (.panic c) (a.put (some k) v) w):Exit.then K (bodyPostD prog Tryz.f6 R) (.panic c) a w:=by
 refine VW ?_ a.defers _ w h;have e:Tryz.f6.results= #[ResultVar.cell 4 26,ResultVar.cell 5 27]:=rfl;have b:(a.put (some k) v).tmps[4]? =a.tmps[4]? :=by simp [Act.put,f]
 have d:(a.put (some k) v).tmps[5]? =a.tmps[5]? :=by simp [Act.put,g]
 simp [results,e,b,d]
theorem fL {g:Func} {a:aG} {R:Ending->O->Prop} {p q:Nat} {b:Int} {c d:TypeId} {i u0:V} {w:O} {L:List Asn} (j:Sp w (BlkA p c #[i]::BlkA q d #[u0]::L))
 (k:∀w',Sp w' (BlkA p c #[.pointer none]::BlkA q d #[.int .i64 b]::L)->∃v,(results g a).run prog w' = .ok v w' /\R (.returned v) w'):
 Leaves prog g a R [{target:= .fn (.func 30) #[],args:= #[.pointer (some ⟨p,0,none⟩),.pointer (some ⟨q,0,none⟩)]}] (.panicking [Q1 b]) w:=by
 have l:=enters_of func30 (by kernel_rfl) rfl;refine leaves_cons (f:=30) (args:= #[.pointer (some ⟨p,0,none⟩),.pointer (some ⟨q,0,none⟩)]) (by simp) (by simp [invoke,go_sem,l]) ?_;refine(BS p q b c d i u0 w L j).mono ?_;rintro e m w' ⟨rfl,rfl,h⟩;exact k w' h
theorem wY {b:Func} {a:aG} {R:Ending->O->Prop} {p q:Nat} {w:O} (k:∃v,(results b a).run prog w= .ok v w/\R (.returned v) w):
 Leaves prog b a R [{target:= .fn (.func 30) #[],args:= #[.pointer (some ⟨p,0,none⟩),.pointer (some ⟨q,0,none⟩)]}] .returning w:=by
 have c:=enters_of func30 (by kernel_rfl) rfl;refine leaves_cons (f:=30) (args:= #[.pointer (some ⟨p,0,none⟩),.pointer (some ⟨q,0,none⟩)]) (by simp) (by simp [invoke,go_sem,c]) ?_;refine(vA _ _ w).mono ?_;rintro e d w' ⟨rfl,rfl,rfl⟩;exact k
theorem jA {A B:aA} {n c m cm:Nat} {E:List Field} {items:List xw} {w:O} (hV:Vs w) (U:zL w (·<w.heap.size) A n c E) (R:zL w (·<w.heap.size) B m cm items)
 (hz:∀x∈items,∀e∈x.2,e.text.size<=100000000/\e.numbers.length<=1000000000):
 Calls prog 6 #[.agg #[.slice A n c],.slice B m cm] w (fZ E items w):=by
 have hn:=U.length;have hm:=R.length;subst hn;subst hm;obtain⟨H,hH⟩:=eX (w.heap.size);have T:=dY R;have ha:=lM R;have b:=(((Sp.start w).blkH 24 #[.slice A E.length c] hH).blkH 26 #[.pointer none] (H:=H+1) (by simp [hH])).blkH 27 #[.int .i64 0] (H:=H+1+1) (by simp [hH])
 obtain⟨w0,hb⟩:=eX (((w.alloc (.cells #[.slice A E.length c] 24)).alloc (.cells #[.pointer none] 26)).alloc (.cells #[.int .i64 0] 27));rw [hb]at b;have z:=b.below M3;have HB:=zA (CD (hV.on z) (U.on z) (R.on z) hz);have q0:=b.cl M2 0;have Hs:=zA U;have p:=zA T;have hh:=zA ha;have ho:=U.cap;clear hV U R hz T ha z
 go_enter_defers func6,ntmps6
 go_upto_region 2 with fail;clear hH;go_wp2_with fail;clear hb q0;refine HB.o.mono ?_;unfold qU;rintro e w1 (⟨er,C,F,rfl,L⟩|⟨Mb,A0,A1,A2,rfl,d,G⟩)
 ·have t:=zA (Sp.selT [_,_,_] (b.grow L) [1,0]);clear b L HB;go_wp2_with (go_at_call 31;refine(pM _ _ _).mono ?_;rintro e w2 h;obtain⟨rfl,rfl⟩:=h.bad C);refine fL t.o fun w' h=>⟨_,VS (by rfl) (by rfl) (h.cell M0 0) (h.cell M1 0),.inl ⟨er,C,fun g=>F g.1,rfl,h.below M2⟩⟩
 ·have t:=b.call [_,_,_,_] G;clear b G HB;go_upto_region 3 with(go_at_call 31;refine(pM _ _ _).mono ?_;rintro e w2 h;obtain⟨rfl,rfl⟩:=h.ok);have a:=t.drew;have M:=a.below M7;obtain⟨W,S⟩:=WI d.1;obtain⟨Q,P⟩:=sF W
  have HW:=zA (tD (Mb:=Mb) (w:=w2.drew) (Hs.o.on M) (a.cell M0 0) (a.cell M0 1) (a.cell M0 2) (a.blkOf M0).lt (a.ls M1) (a.ls M2) (a.ls M3) S Q (nW d p.o) (fun k f x N hx=>(eZ d p.o N hx).1) P);clear t M
  refine gR [(4,fun w=>w.cell? ⟨H,0,none⟩=some (.slice A E.length c)),(3,fun w=>w.cell? ⟨H,0,none⟩=some (.slice A E.length c))] (zg (a.cell M6 0) (hB (a.cell M6 0))) ?_;refine gL 0 4 M0 (hQ:=by exact fun _ _ _ h=>fO 13 (h:=h)) ?_;refine gL 1 3 M1 (hQ:=by exact fun _ _ _ h=>fO 14 (h:=h)) ?_;refine gF 2 (hQ:=by exact fun _ _ _ h=>fO 15 (h:=h)) ?_;intro s;refine gO 3 fun K r=> ?_;go_simp
  refine HW.o.mono ?_;rintro e w3 (⟨v,rfl,A5,q,rfl,Y,Z,hd⟩|⟨er,C,F,rfl,hk⟩);rotate_left
  ·have he:=a.grow hk;refine fL (Sp.selT [_,_,_,_,_,_] he [5,4]) fun w' h=>⟨_,VS (by rfl) (by rfl) (h.cell M0 0) (h.cell M1 0),.inl ⟨er,C,fun g=>F g.2,rfl,h.below M3⟩⟩
  have l:=Sp.selT [_,_,_,_,_,_,_] (a.c1 hd) [0,5,6];have hl:=l.below M4;have D:=l.rb M0;have hp:=D.1.len;have HR:=zA (IR (w:=w3) (Hs.o.on hl) Q (sG W) P (by rw [zK]) hh.o (by rw [zK]) S (nW d p.o) (AE E items) (fun j f x N hx=>⟨(eZ d p.o N hx).1,Z j f x N hx,(eZ d p.o N hx).2⟩) Y D.1 D.2.1 D.2.2)
  refine r.o _ _ (zg (l.cell M3 0) (YP (by kernel_rfl) yY)) ?_;clear r K s;intro s;refine gO 4 fun K r=> ?_;go_simp;refine HR.o.mono ?_;rintro e w5 ⟨X,g,B1,B2,B3,B4,Bc,c2,c3,c4,cc,Tb,As,rfl,hj,hg,I⟩;have u:=l.call _ I;refine r.o _ _ hA ?_;clear r K s;intro s;unfold OP at u;simp only [yI,zZ]at u;have y:=Sp.selT [_,_,_,_,_,_,_,_,_,_,_] u [10,9,0,1,2,3,4,5,6,7]
  have y0:=y.cl M0 0;have y1:=(y.blkOf M0).frozen 0;have o:=y.set 0 (.pointer (some ⟨X,0,none⟩));clear u I HR HW l a;refine gO 5 fun K r=> ?_;go_simp;refine r.o _ _ hA ?_;clear r K s;intro s;obtain⟨x6,hc⟩:=eX (w5.setCell ⟨H+1,0,none⟩ (.pointer (some ⟨X,0,none⟩)));rw [hc]at o s⊢;clear hc y y0 y1;have y0:=o.cl M1 0;have y1:=(o.blkOf M1).frozen 0
  have J:=o.p1.set 0 (.int .i64 0);refine gO 6 fun K r=> ?_;go_simp;refine r.o _ _ hA ?_;clear r K s;intro s;refine xW (by kernel_rfl) ?_;have i:=zA J;clear o J s y0 y1;go_wp2;refine wY ⟨_,VS (by rfl) (by rfl) (i.o.cell M1 0) (i.o.cell M0 0),.inr ⟨X,g,q,B1,B2,B3,B4,Bc,c2,c3,c4,cc,Tb,As,rfl,hj,hg,⟨d,Y,Z⟩,?_⟩⟩
  exact Sp.selT [_,_,_,_,_,_,_,_,_,_,_] i.o [2,3,4,5,6,7,8,9]
section
variable {κ ν:Type} [DecidableEq κ]
theorem PI (k:κ) (f:Option ν->ν):∀l:List (κ×ν),Xa (upd k f l) k=some (f (Xa l k))
 | []=>by simp [upd,Xa]
 |p::l=>by
  rw [QG]
  by_cases e:p.1=k
  ·rw [if_pos e];simp [Xa,e]
  ·rw [if_neg e];have h:=PI k f l;unfold Xa at h⊢;rw [List.find?_cons_of_neg (by simpa using e),List.find?_cons_of_neg (by simpa using e)];exact h
theorem PO {k c :κ} (b:c ≠k) (f:Option ν->ν):∀l:List (κ×ν),Xa (upd k f l) c =Xa l c
 | []=>by simp [upd,Xa,Ne.symm b]
 |p::l=>by
  rw [QG]
  by_cases e:p.1=k
  ·rw [if_pos e];unfold Xa;rw [List.find?_cons_of_neg (by simpa using Ne.symm b),List.find?_cons_of_neg (by simpa using fun h=>b (h.symm.trans e))]
  ·rw [if_neg e];have h:=PO b f l;unfold Xa at h⊢
   by_cases a:p.1=c
   ·rw [List.find?_cons_of_pos (by simpa using a),List.find?_cons_of_pos (by simpa using a)]
   ·rw [List.find?_cons_of_neg (by simpa using a),List.find?_cons_of_neg (by simpa using a)];exact h
theorem PK {k:κ} {f:Option ν->ν} {g:κ×ν->Nat} (b:g (k,f none)=1) (c:∀v,g (k,f (some v))=g (k,v)+1):∀l:List (κ×ν),((upd k f l).map g).sum=(l.map g).sum+1
 | []=>by simp [upd,b]
 |p::l=>by
  rw [QG]
  by_cases e:p.1=k
  ·obtain⟨a,v⟩:=p;cases e;rw [if_pos rfl];simp only [yH,List.sum_cons,c];omega
  ·rw [if_neg e];simp only [yH,List.sum_cons,PK b c l];omega
end
def e8 (td:xo) (t:aB) (d p:Int):Prop:=∃ds q,Xa td t=some ds/\Xa ds d=some q/\p∈q
theorem e8.new (td:xo) (t:aB) (d p:Int):e8 (addT td t d p) t d p:=⟨_,_,PI ..,PI ..,by simp⟩
theorem e8.keep {td:xo} {t:aB} {d p:Int} (h:e8 td t d p) (j :aB) (a g :Int):e8 (addT td j a g) t d p:=by
 obtain⟨ds,q,i,c,f⟩:=h
 by_cases e:t=j
 ·subst e;refine⟨_,?_,PI ..,?_⟩
  ·exact if d=a then q++ [g]else q
  rw [i];show Xa (OJ ds a g) d=_/\_
  by_cases b:d=a
  ·subst b;rw [if_pos rfl];refine⟨(PI ..).trans ?_,by simp [f]⟩;rw [c];rfl
  ·rw [if_neg b];exact⟨(PO b ..).trans c,f⟩
 ·exact⟨ds,q,(PO e ..).trans i,c,f⟩
theorem PY (d:Int):∀(l:List Token) (td:xo),(∀t a p,e8 td t a p->e8 (Y6 td d l) t a p)/\∀u∈l,e8 (Y6 td d l) u.text d u.pos
 | [],_=>⟨fun _ _ _ h=>h,fun _ h=>nomatch h⟩
 |u::l,td=>by
  have⟨c,e⟩:=PY d l (addT td u.text d u.pos);refine⟨fun t a p h=>c _ _ _ (h.keep ..),fun v b=> ?_⟩;rcases yx.1 b with rfl|b
  ·exact c _ _ _ (e8.new ..)
  ·exact e v b
theorem PS (d:Int):∀(l:List aB) (td:xo),(∀t a p,e8 td t a p->e8 (Y7 td d l) t a p)/\∀u∈l,e8 (Y7 td d l) u d 0
 | [],_=>⟨fun _ _ _ h=>h,fun _ h=>nomatch h⟩
 |u::l,td=>by
  have⟨c,e⟩:=PS d l (addT td u d 0);refine⟨fun t a p h=>c _ _ _ (h.keep ..),fun v b=> ?_⟩;rcases yx.1 b with rfl|b
  ·exact c _ _ _ (e8.new ..)
  ·exact e v b
def cntD (ds:Wc):Nat:=(ds.map fun q=>q.2.length).sum
def R9 (td:xo):Nat:=(td.map fun p=>cntD p.2).sum
theorem RA (td:xo) (t:aB) (d p:Int):R9 (addT td t d p)=R9 td+1:=by
 have step:∀ds:Wc,cntD (OJ ds d p)=cntD ds+1:=fun ds=>PK (k:=d) (f:=fun q=>q.getD []++ [p]) (g:=fun q=>q.2.length) rfl (fun v=>by simp) ds;exact PK (k:=t) (f:=fun o=>OJ (o.getD []) d p) (g:=fun q=>cntD q.2) (step []) (fun v=>step v) td
theorem PQ (d:Int):∀(l:List Token) (td:xo),R9 (Y6 td d l)=R9 td+l.length
 | [],_=>rfl
 |u::l,td=>by
  have h:=PQ d l (addT td u.text d u.pos);rw [RA]at h;rw [z6];exact h.trans (by omega)
theorem RZ (f:List Field) (i:Nat) (cs:List yZ):tokP f i (Xv i cs)=tokP f i cs:=by
 have d:∀(b:aD) (cs:List yZ) (a:List Token),(Xv i cs).foldl (xx b i) a=cs.foldl (xx b i) a:=by
  intro b cs
  induction cs with
  |nil=>intro a;rfl
  |cons c cs ih=>
   intro a;unfold Xv at ih⊢
   by_cases e:c.1=(i:Int)
   ·rw [List.filter_cons_of_pos (by simpa using e)];exact ih _
   ·rw [List.filter_cons_of_neg (by simpa using e),ih];have h:xx b i a c=a:=(by unfold xx;rw [if_neg e]);rw [List.foldl_cons,h]
 unfold tokP
 split
 ·split
  ·exact d ..
  ·rfl
 ·rfl
def PJ (a:List Field) (i:Nat) (css:Nat->List yZ):Nat->Nat
 |0=>0
 |k+1=>PJ a i css k+(tokP a i (css k)).length
theorem PP {a:List Field} {css:Nat->List yZ} {i:Nat} (h:QC a i=1):∀n,R9 (stF a css i n).td=PJ a i css n/\∀k<n,∀u∈tokP a i (css k),e8 (stF a css i n).td u.text (k:Int) u.pos
 |0=>⟨rfl,fun k l=>by omega⟩
 |n+1=>by
  have⟨g,j⟩:=PP (css:=css) h n
  have e:(stF a css i (n+1)).td=Y6 (stF a css i n).td (n:Int) (tokP a i (css n)):=by
   rw [<-RZ];show(Zc ..).td=_;unfold Zc;rw [if_pos h]
  have⟨d,f⟩:=PY (n:Int) (tokP a i (css n)) (stF a css i n).td;rw [e,PQ,g];refine⟨rfl,fun k l u c=> ?_⟩;rcases zk k n with b|b
  ·exact d _ _ _ (j k b u c)
  ·obtain rfl:k=n:=by omega
   exact f u c
theorem PT {a:List Field} {css:Nat->List yZ} {i:Nat} (h:QC a i=2):∀n,∀k<n,∀c∈css k,c.1=(i:Int)->e8 (stF a css i n).td c.2.1 (k:Int) 0
 |0=>fun k m=>by omega
 |n+1=>by
  have l:=PT (css:=css) h n
  have e:(stF a css i (n+1)).td=Y7 (stF a css i n).td (n:Int) (setT (YK (Xv i (css n)))):=by
   show(Zc ..).td=_;unfold Zc;rw [if_neg (by rw [h];decide),if_pos h]
  have⟨g,j⟩:=PS (n:Int) (setT (YK (Xv i (css n)))) (stF a css i n).td;rw [e];intro k m c f b;rcases zk k n with d|d
  ·exact g _ _ _ (l k d c f b)
  ·obtain rfl:k=n:=by omega
   exact j _ (X9.2 (List.mem_map.2 ⟨c,List.mem_filter.2 ⟨f,by simpa using b⟩,rfl⟩))
theorem e8.at_ {td:xo} {t:aB} {d p:Int} (h:e8 td t d p):∃(o j:Nat) (ps:List PostD) (x:PostD),(Zl td)[o]? =some t/\(Y2 td)[o]? =some ps/\ps[j]? =some x/\x.doc=d/\p∈x.pos:=by
 obtain⟨ds,q,a,b,e⟩:=h;have g:t∈Zl td:=(iW _).mem_iff.2 (List.mem_map.2 ⟨_,nG a,rfl⟩);obtain⟨o,c⟩:=z8 g;have i:d∈xP (ds.map (·.1)):=lH.2 (List.mem_map.2 ⟨_,nG b,rfl⟩);obtain⟨j,f⟩:=z8 i;refine⟨o,j,Zo ds,⟨d,q⟩,c,?_,?_,rfl,e⟩
 ·unfold Y2;rw [zH,c,yk,a];rfl
 ·unfold Zo;rw [zH,f,yk,b];rfl
theorem PU (a:List Field) (css:Nat->List yZ) (i:Nat):∀n,((stF a css i n).td.map (·.1)).Nodup
 |0=>by simp [stF,fs0]
 |n+1=>by
  have h:=PU a css i n
  have b:∀(l:List Token) (d:Int) (td:xo),(td.map (·.1)).Nodup->((Y6 td d l).map (·.1)).Nodup:=by
   intro l d
   induction l with
   |nil=>exact fun _ h=>h
   |cons u l ih=>exact fun td h=>ih _ (UW h)
  have c:∀(l:List aB) (d:Int) (td:xo),(td.map (·.1)).Nodup->((Y7 td d l).map (·.1)).Nodup:=by
   intro l d
   induction l with
   |nil=>exact fun _ h=>h
   |cons u l ih=>exact fun td h=>ih _ (UW h)
  show((Zc ..).td.map _).Nodup;unfold Zc
  split
  ·exact b _ _ _ h
  split
  ·exact c _ _ _ h
  split<;>exact h
def lenP (ps:List PostD):Nat:=(ps.map fun p=>p.pos.length).sum
theorem RR {ds:Wc} (h:(ds.map (·.1)).Nodup):lenP (Zo ds)=cntD ds:=by
 unfold lenP Zo cntD;rw [yD];refine(((Q7 _).map _).sum_nat).trans ?_;rw [yD];refine congrArg List.sum (List.map_congr_left fun p a=> ?_);show((Xa ds p.1).getD []).length=_;rw [Ub h (show(p.1,p.2)∈ds from a)];rfl
theorem RP {td:xo} (h:(td.map (·.1)).Nodup) (b:∀p∈td,(p.2.map (·.1)).Nodup):((Y2 td).map lenP).sum=R9 td:=by
 unfold Y2 Zl R9;rw [yD];refine(((iW _).map _).sum_nat).trans ?_;rw [yD];refine congrArg List.sum (List.map_congr_left fun p a=> ?_);show lenP (Zo ((Xa td p.1).getD []))=_;rw [Ub h (show(p.1,p.2)∈td from a)];exact RR (b p a)
theorem wD {X k b:Nat} {a:aA} {w:O} (c:w.cell? ⟨X,2,none⟩=some (.slice a k b)):
 Calls prog 26 #[.pointer (some ⟨X,0,none⟩)] w fun e w' =>e= .returned (.int .i64 (k:Int))/\w=w' :=by
 go_enter func26,ntmps26;go_wp2;go_ret
 exact⟨rfl,rfl⟩
theorem II {w:O} {g:Nat} {b c d e f h:V} {a:aG} (i:a.getD 4 undef= .pointer (some ⟨g,0,none⟩)) (m:Blk w g 106 #[b,c,d,e,f,h]):(results Tryz.f48 a).run prog w= .ok (.agg #[b,c,d,e,f,h]) w:=by
 have j:=run_loadVar_row (P:=prog) w g 106 106 #[b,c,d,e,f,h] (0,0) _ m underlying106 rfl (by kernel_rfl);have k:Tryz.f48.results= #[ResultVar.cell 4 106]:=rfl;have l:a[4]?.getD undef= .pointer (some ⟨g,0,none⟩):=by simpa using i
 simp [results,k,l,j,asAddr,Result.andThen]
theorem mM {l:aF} (h:l.length=6):∃a b v2 v3 v4 v5,l= [a,b,v2,v3,v4,v5]:=by
 match l,h with
 | [a,b,v2,v3,v4,v5],_=>exact⟨a,b,v2,v3,v4,v5,rfl⟩
theorem Q9 {X f n q:Nat} {x:aA} {B:List Zj} {w:O} (r:w.cell? ⟨X,4,none⟩=some (.slice x n q)) (s:zL w (·<w.heap.size) x n q B) (F:f<n):
 Calls prog 48 #[.pointer (some ⟨X,0,none⟩),.int .i64 (f:Int)] w fun e w' =>∃i j v2 v3 v4 v5 z,B[f]? =some z/\e= .returned (.agg #[i,j,v2,v3,v4,v5])/\rep w (·<w.heap.size) [i,j,v2,v3,v4,v5] z/\Below w.heap.size w w' :=by
 obtain⟨b,off,z,rfl,A,l,cs,p,k⟩:=s.at_ F
 obtain⟨i,j,v2,v3,v4,v5,rfl⟩:=mM (Rep.len p);have t:Rep.size Zj=6:=rfl;rw [t]at k;obtain⟨H,E⟩:=eX (w.heap.size);have h:=(Sp.start w).blkH 106 #[.pointer none,.slice none 0 0,.slice none 0 0,.pointer none,.pointer none,.pointer none] E;obtain⟨w0,v⟩:=eX (w.alloc (.cells #[.pointer none,.slice none 0 0,.slice none 0 0,.pointer none,.pointer none,.pointer none] 106));rw [v]at h
 have d:=h.below M1;have I:w0.cell? ⟨b,off+f*6,none⟩=some i:=(d.cell l).trans (k 0 _ rfl);have J:w0.cell? _=_:=(d.cell l).trans (k 1 _ rfl);have K:w0.cell? _=_:=(d.cell l).trans (k 2 _ rfl);have L:w0.cell? _=_:=(d.cell l).trans (k 3 _ rfl);have M:w0.cell? _=_:=(d.cell l).trans (k 4 _ rfl);have N:w0.cell? _=_:=(d.cell l).trans (k 5 _ rfl)
 have o:X<w.heap.size:=ye r;have P:w0.cell? ⟨X,4,none⟩=some (.slice (some ⟨b,off,none⟩) n q):=(d.cell o).trans r;have y:=s.cap;have Z:=(h.blkOf M0).frozen 0;have r1:=(h.blkOf M0).frozen 1;have r2:=(h.blkOf M0).frozen 2;have r3:=(h.blkOf M0).frozen 3;have r4:=(h.blkOf M0).frozen 4;have r5:=(h.blkOf M0).frozen 5;obtain⟨Q,R,S,T,U,Y⟩:=OG h M0
 have m:=zA ((((((h.set 0 i).set 1 j).set 2 v2).set 3 v3).set 4 v4).set 5 v5);have c:∀u∈ [i,j,v2,v3,v4,v5],u.oneCell' =true:=fun u G=>Rep.one p G;have s0:∀(W:O) (a:Addr),(store a i .plain).run prog W=stored prog W a i .plain:=fun W a=>run_store _ W a i .plain (c _ (by simp))
 have s1:∀(W:O) (a:Addr),(store a j .plain).run prog W=stored prog W a j .plain:=fun W a=>run_store _ W a j .plain (c _ (by simp));have s2:∀(W:O) (a:Addr),(store a v2 .plain).run prog W=stored prog W a v2 .plain:=fun W a=>run_store _ W a v2 .plain (c _ (by simp))
 have s3:∀(W:O) (a:Addr),(store a v3 .plain).run prog W=stored prog W a v3 .plain:=fun W a=>run_store _ W a v3 .plain (c _ (by simp));have s4:∀(W:O) (a:Addr),(store a v4 .plain).run prog W=stored prog W a v4 .plain:=fun W a=>run_store _ W a v4 .plain (c _ (by simp))
 have s5:∀(W:O) (a:Addr),(store a v5 .plain).run prog W=stored prog W a v5 .plain:=fun W a=>run_store _ W a v5 .plain (c _ (by simp));have D:=zA A.o;have C:=zA p;clear h d s k r p A o c;go_enter func48,ntmps48;go_wp2;refine bodyPost_ret (II (g:=H) (by rfl) (m.o.blkOf M0)) rfl ⟨i,j,v2,v3,v4,v5,z,D.o,rfl,C.o,m.o.below M1⟩
theorem Qj {w:O} {F:Nat->Prop} {l m v2 v3 v4 v5:V} {z:Zj} (h:rep w F [l,m,v2,v3,v4,v5] z):rep w F [l] z.1/\rep w F [m] z.2.1/\rep w F [v2] z.2.2.1:=by
 obtain⟨d,c2,e,i,f,q,rfl,j,g,r,rfl,k, -⟩:=h;have n:d.length=1:=Rep.len i;have o:f.length=1:=Rep.len j;have p:g.length=1:=Rep.len k
 match d,f,g,n,o,p with
 | [a], [b], [c],_,_,_=>
   simp only [yI,zZ,List.cons.injEq]at e;obtain⟨rfl,rfl,rfl, -⟩:=e;exact⟨i,j,k⟩
theorem sA {X f n d:Nat} {b:aA} {m:List Zj} {w:O} (g:w.cell? ⟨X,4,none⟩=some (.slice b n d)) (j:zL w (·<w.heap.size) b n d m) (i:f<n):
 Calls prog 11 #[.pointer (some ⟨X,0,none⟩),.int .i64 (f:Int)] w fun e w' =>∃v z,m[f]? =some z/\e= .returned v/\rep w (·<w.heap.size) [v] z.1/\Below w.heap.size w w' :=by
 have c:=zA (Q9 g j i);clear g j i;go_enter func11,ntmps11;go_wp2_with fail;refine c.o.mono ?_;rintro e t ⟨a,s,v2,v3,v4,v5,z,l,rfl,k,h⟩;have q:=zA l;have p:=zA (Qj k);have o:=zA h;clear l k h c;have r:∀W:O,(Instr.field 106 (.agg #[a,s,v2,v3,v4,v5]) 0).run prog W= .ok a W:=fun W=>by kernel_rfl
 go_wp2;go_ret
 exact⟨a,z,q.o,rfl,p.o.1,o.o⟩
theorem rI {X f n u i:Nat} {x:Int} {r:aA} {G:List Zj} {z:Zj} {w:O} (v:w.cell? ⟨X,4,none⟩=some (.slice r n u)) (m:zL w (·<w.heap.size) r n u G) (l:G[f]? =some z) (C:z.2.2.1[i]? =some x):
 Calls prog 37 #[.pointer (some ⟨X,0,none⟩),.int .i64 (f:Int),.int .i64 (i:Int)] w fun e w' =>e= .returned (.int .i64 x)/\Below w.heap.size w w' :=by
 have a:f<n:=by have:=zN l;have:=m.length;omega
 have s:=zA (Q9 v m a);have I:=zA l;have t:=zA C;clear v m l C a;go_enter func37,ntmps37;go_wp2_with fail;refine s.o.mono ?_;rintro e S ⟨Q,R,v2,v3,v4,v5,T,F,rfl,D,d⟩;rw [I.o]at F;cases F;obtain⟨A,k,c,J,o⟩:=(Qj D).2.2;cases J;have L:=zN t.o;have M:i<k:=by have:=o.length;omega
 obtain⟨b,off,y,rfl,E,g,cs,j,B⟩:=o.at_ M
 cases j.1;have p:y=x:=yG (E.o.symm.trans t.o);subst p
 have q:S.cell? ⟨b,off+i,none⟩=some (.int .i64 y):=by
  have h:=(d.cell g).trans (B 0 _ rfl);have e:Rep.size Int=1:=rfl;rw [e]at h
  simpa using h
 have H:=zA d;have N:¬k<=i:=by omega
 have P:(i:Int)<(k:Int):=by omega
 clear o B E D d s;have K:∀W:O,(Instr.field 106 (.agg #[Q,R,.slice (some ⟨b,off,none⟩) k c,v3,v4,v5]) 2).run prog W= .ok (.slice (some ⟨b,off,none⟩) k c) W:=fun W=>by kernel_rfl
 go_wp2;go_ret
 exact⟨rfl,H.o⟩
theorem sB {X f n B o:Nat} {t:aA} {I:List Zj} {z:Zj} {p:aW} {w:O} (C:w.cell? ⟨X,4,none⟩=some (.slice t n B)) (m:zL w (·<w.heap.size) t n B I) (l:I[f]? =some z) (E:z.2.1[o]? =some p):
 Calls prog 13 #[.pointer (some ⟨X,0,none⟩),.int .i64 (f:Int),.int .i64 (o:Int)] w fun e w' =>∃v,e= .returned v/\rep w (·<w.heap.size) [v] p/\Below w.heap.size w w' :=by
 have d:f<n:=by have:=zN l;have:=m.length;omega
 have u:=zA (Q9 C m d);have K:=zA l;have x:=zA E;clear C m l E d;go_enter func13,ntmps13;go_wp2_with fail;refine u.o.mono ?_;rintro e Y ⟨U,Z,v2,v3,v4,v5,z',H,rfl,F,i⟩;rw [K.o]at H;cases H;obtain⟨A,k,c,L,r⟩:=(Qj F).2.1;cases L;have S:=zN x.o;have N:o<k:=by have:=r.length;omega
 obtain⟨b,off,y,rfl,G,j,cs,a,D⟩:=r.at_ N
 have s:y=p:=yG (G.o.symm.trans x.o);subst s;have T:cs.length=1:=Rep.len a;obtain⟨v,rfl⟩:=List.length_eq_one_iff.1 T
 have q:Y.cell? ⟨b,off+o,none⟩=some v:=by
  have h:=(i.cell j).trans (D 0 _ rfl);have e:Rep.size aW=1:=rfl;rw [e]at h
  simpa using h
 have J:=zA i;have g:=zA a;have P:¬k<=o:=by omega
 have Q:(o:Int)<(k:Int):=by omega
 have R:¬(k:Int)<=(o:Int):=by omega
 clear r D G F i u a;have M:∀W:O,(Instr.field 106 (.agg #[U,.slice (some ⟨b,off,none⟩) k c,v2,v3,v4,v5]) 1).run prog W= .ok (.slice (some ⟨b,off,none⟩) k c) W:=fun W=>by kernel_rfl
 go_wp2;go_ret
 exact⟨v,rfl,g.o,J.o⟩
theorem dE {α:Type} [Rep α] {w:O} {F:Nat->Prop} {v:V} {x:α} (h:rep w F [v] (Ptr.mk (some x))):∃b,v= .pointer (some ⟨b,0,none⟩):=by
 obtain⟨b,a, -⟩:=h;cases a;exact⟨b,rfl⟩
theorem nR {D k:Nat} {s:aB} {ls:List aB} {at_:aE} {L:List Asn} {w:O} (h:Sp w L) (o:aX L D ls at_) (i:xQ ls=true) (a:at_.length=ls.length) (p:∀x∈at_,x<18446744073709551616) (c:ls[k]? =some s):
 Calls prog 12 #[.pointer (some ⟨D,0,none⟩),.string s] w fun e w' =>e= .returned (.tuple #[.int .i64 (k:Int),.bool true])/\Sp w' L:=by
 refine(JV h o i a p).mono ?_;rintro e w' ⟨j,b,rfl,l,m,n⟩;cases b with
 |false=>exact absurd (zD c) (m rfl).2
 |true=>
  have d:=l rfl;have f:=dJ i
  obtain rfl:j =k:=by
   rcases Nat.lt_trichotomy j k with g|g|g
   ·exact absurd (aZ f g d c) (ZO _)
   ·exact g
   ·exact absurd (aZ f g c d) (ZO _)
  exact⟨rfl,n⟩
theorem pG {w0:O} {D:Nat} {ls:List aB} {at_:aE} {L:List Asn} (b:OldA w0.heap.size w0∈L) (h:rep w0 (·<w0.heap.size) [.pointer (some ⟨D,0,none⟩)] (Ptr.mk (some (tBl ls at_,tFi ls,(ls.length:Int))))):aX L D ls at_:=
 fun _ a=>Rep.on h (a.below b)
theorem o0 {w0:O} {D:Nat} {ps:List PostD} {L:List Asn} (a:OldA w0.heap.size w0∈L) (h:rep w0 (·<w0.heap.size) [.pointer (some ⟨D,0,none⟩)] (Xo ps)):bQ L D ps:=
 ⟨w0.heap.size,w0,a,zC _,h⟩
abbrev bH (ps:List PostD):aD:=ps.map (·.doc)
theorem t7 {X f n c c4 k:Nat} {A1 A4:aA} {fs:List Field} {ms:List Zj} {fd:Field} {z:Zj} {ts:List aB} {ls:List (List PostD)} {ps:List PostD} {name text:aB} {w:O}
 (h0:w.cell? ⟨X,0,none⟩=some (.slice A1 n c)) (g:zL w (·<w.heap.size) A1 n c fs) (h4:w.cell? ⟨X,4,none⟩=some (.slice A4 n c4)) (F:zL w (·<w.heap.size) A4 n c4 ms)
 (hN:Zx fs name=some f) (C:fs[f]? =some fd) (hj:fd.kind=2) (hz:ms[f]? =some z) (hm:z.1=aT ts ls) (hn:z.2.1=ls.map Xo) (ht:xQ ts=true) (ha:(allL ls).length<=16777216)
 (hx:ts[k]? =some text) (H:ls[k]? =some ps) (hr:xk ps=true):
 Calls prog 18 #[.pointer (some ⟨X,0,none⟩),.string name,.string text] w fun e w' =>∃A' m,e= .returned (.slice A' m m)/\ps.length=m/\Sp w' [NA A' m m (bH ps),OldA w.heap.size w]:=by
 have hi:f<n:=by have:=zN C;have:=g.length;omega
 obtain⟨b1,o1,g1,rfl,Z,he,hh⟩:=g.at_ hi
 have e1:g1=fd:=yG (Z.o.symm.trans C);subst e1;obtain⟨_,_,_, -,r, -⟩:=Field.at_ hh
 rw [hj]at r;obtain⟨b4,o4,z',rfl,Hz,y,cs,B,hc⟩:=F.at_ hi
 have e2:z' =z:=yG (Hz.o.symm.trans hz);subst e2;obtain⟨v0,v1,v2,v3,v4,v5,rfl⟩:=mM (Rep.len B);have h9:Rep.size Zj=6:=rfl;rw [h9]at hc;have J:w.cell? ⟨b4,o4+f*6,none⟩=some v0:=hc 0 _ rfl;have K:w.cell? ⟨b4,o4+f*6+1,none⟩=some v1:=hc 1 _ rfl;obtain⟨r0,r1, -⟩:=Qj B;rw [hm]at r0;rw [hn]at r1;obtain⟨D,rfl⟩:=dE r0;obtain⟨Al,nl,cl,xb,q⟩:=r1;cases xb
 have hk:k<nl:=by have h1:=zN H;have h2:=q.length;rw [zK]at h2;omega
 obtain⟨bl,ol,pm,rfl,Hp,hf,hv,a,hg⟩:=q.at_ hk
 have e3:pm=Xo ps:=by
  have h:=Hp.o;rw [zH,H]at h;exact(yG h).symm
 subst e3;obtain⟨v,rfl⟩:=List.length_eq_one_iff.1 (show hv.length=1 from Rep.len a);obtain⟨E,rfl⟩:=dE a
 have M:w.cell? ⟨bl,ol+k,none⟩=some (.pointer (some ⟨E,0,none⟩)):=by
  have h:=hg 0 _ rfl;have e:Rep.size aW=1:=rfl;rw [e]at h
  simpa using h
 have hw:=g.cap;have hy:=F.cap;have h3:=q.cap;have Q:=zA (Ug _ n c fs name w g f hN);have HD:=zA (fun(W:O) (j:Sp W [OldA w.heap.size w])=>nR j (pG M0 r0) ht (Qp _ _) (fY ha) hx);have HL:=zA (fun X:Asn=>o0 (L:= [X,OldA w.heap.size w]) M1 a);obtain⟨h6, -,h8⟩:=QN hr;have Hr:=zA hr
 have HK:=zA (fun(W:O) (j:Below w.heap.size w W)=>And.intro ((j.cell (ye h0)).trans h0) (And.intro ((j.cell (ye h4)).trans h4) (And.intro ((j.cell he).trans r) (And.intro ((j.cell y).trans J) (And.intro ((j.cell y).trans K) ((j.cell hf).trans M))))));obtain⟨N,G⟩:=eX (ps.length);rw [G]at h8;have d:=zA G;have h5:(f:Int)<n:=by omega
 have h7:(k:Int)<nl:=by omega
 clear g F hh B hc a hg q r0 Z Hz Hp hz hm hn hN C hj hx H ht ha hr r J K M h4 G he y hf h6;go_enter func18,ntmps18;go_wp2_with fail;refine Q.o.mono ?_;rintro e w1 ⟨rfl,hb⟩;have R:=(Sp.start w).grow hb;obtain⟨q0,q1,r,J,K,M⟩:=HK.o w1 hb;have P:=zA (HD.o w1 R);clear Q hb HD h0;go_wp2_with fail;refine P.o.mono ?_;rintro e w2 ⟨rfl,x⟩
 clear q0 q1 r J K M R P;obtain⟨q0,q1,r,J,K,M⟩:=HK.o w2 (x.below M0);have HI:=zA (nK (D:=E) x);clear x;go_wp2_with fail;refine HI.o.mono ?_;rintro e w3 ⟨I,rfl,S⟩
 have T:Sp w3 (ItA I E (.slice none 0 0) ps 0++ [NA none 0 0 (bH (ps.take 0)),OldA w.heap.size w]):=by
  have h:=(((S.elsNil (α:=PostD)).nil 116 2).els (α:=PostD) (css:= [])).nil 3 1;exact Sp.selT [_,_,_,_] h [2,1,0,3]
 clear S HI q0 q1 r J K M HK h5 h7 hk;go_wp2
 go_loopg [10] (N+1) (fun gk xi wr=>∃(o:Nat) (A:aA) (cp:Nat) (vp:V),xi= .slice A o cp/\o<=N/\gk=N+1 - o/\Sp wr (ItA I E vp ps o++ [NA A o cp (bH (ps.take o)),OldA w.heap.size w]))
 case atStart=>exact⟨0,none,0,.slice none 0 0,rfl,zJ _,rfl,T⟩
 case round=>
  obtain⟨o,A,cp,vp,rfl,ho,rfl,HS⟩:=hrel;clear T;have s:=lD HS (HL.o _) Hr.o (by rw [d.o];exact ho);rw [d.o]at s
  by_cases hl:o<N
  ·rw [decide_eq_true hl]at s;have t:=zA s;obtain⟨p,hp⟩:∃p,ps[o]? =some p:=⟨_,zB (by rw [d.o];exact hl)⟩;have Hp:=zA hp;have Y:=zA (fun(W:O) (i :V) (j:Sp W (ItA I E i ps (o+1)++ [NA A o cp (bH (ps.take o)),OldA w.heap.size w]))=>pF j (by omega) (show ps[o+1 - 1]? =some p from hp));clear hp s HS
   go_wp2_with (first
    |(go_at_call 20;refine t.o.mono ?_;rintro e w4 ⟨i,rfl,l⟩;have hs:=zA (Y.o w4 i l))
    |(go_at_call 16;refine hs.o.mono ?_;rintro e w5 ⟨rfl,hd⟩;have b:=(show Sp w5 _ from(by obtain⟨n0,rfl⟩:=hd;exact Sp.selT [_,_,_,_] (l.drewN n0) [2,0,1,3]));clear hd)
    |(at_builtin;refine yC Xr (.tmp 66) (.tmp 69) rfl rfl b rfl (cs:= #[.int .i64 p.doc]) rfl rfl rfl (by intro u hu;simp at hu;subst hu;rfl) (by omega) (by omega) ?_;intro A8 c8 w8 xs x1 U)
    |fail)
   have e1:ints (bH (ps.take o))++ #[Value.int .i64 p.doc].toList=ints (bH (ps.take (o+1))):=by
    rw [zI,Hp.o];simp [ints,bH]
   rw [e1]at U
   go_roundg (N+1 - (o+1))
   ·exact⟨o+1,A8,c8,i,rfl,by omega,rfl,Sp.selT [_,_,_,_] U [1,2,0,3]⟩
   ·omega
  ·obtain rfl:o=N:=by omega
   rw [decide_eq_false (Nat.lt_irrefl _)]at s;have t:=zA s;clear s HS
   go_wp2_with (first
    |(go_at_call 20;refine t.o.mono ?_;rintro e w4 ⟨i,rfl,l⟩;have b:=Sp.selT [_,_,_,_] l [2,3];have xn:=(b.rowOf M0).cap)
    |(go_at_call 54;refine(UO _ _ _ _ (by omega) (by omega)).mono ?_;rintro e w' ⟨rfl,rfl⟩)
    |fail)
   go_ret
   refine⟨A,o,rfl,d.o,?_⟩;rw [zF (by rw [d.o];exact zC _)]at b;exact b.clip
end Go.Proofs.YtjbhbfaeielbiaaGreatDoor

import Derived.Test.YtjbhbfaeielbiaaGreatDoorPart48
set_option maxRecDepth 100000
set_option maxHeartbeats 8000000
set_option linter.unusedVariables false
set_option linter.unusedSimpArgs false
namespace Go.Proofs.YtjbhbfaeielbiaaGreatDoor
open Rep (rep)
open Go.RowKit Go.Shelf
variable {F:Fence} {n:Nat} {P:Program}
theorem R5 {g:Operand} {ps:Array Tmp} {assign body:Code} {Q:Exit->Act->O->Prop} {a:Act} {w:O} {L L' :List Asn}
 (R:F.round=none) (h1:1<=n) {gf:Nat} {lb:aG} (hg:a.eval g= .func (.func gf) #[] lb) (H:F.fn gf) (eg:∀args w,(callFunc gf args).run P w= .ok (.enter gf args) w)
 (HS:Sp w L) (Ok:aG->Bool->List Asn->List Asn->Prop)
 (j:∀(l:Nat) (vals:aG) (f:Bool) (X Y:List Asn),Ok vals f X Y->vals.size=ps.size/\∃a₁:Act,
  (∀(W:O) (K:Act->O->Prop),K a₁ W->assign.wpIn (F.inRound l) (n - 1 - 1) P (Exit.then K (fun _ _ _=>False)) {tmps:=(ps.zip vals).foldl (fun t (p,v)=>t.setIfInBounds p v) a.tmps,defers:= []} W)/\
  ∀(T:List Asn) (W:O),Sp W (X++T)->body.wpIn (F.inRound l) (n - 1 - 1) P (fun e _ q =>e=(if f then .normal else .ret)/\Sp q (Y++T)) a₁ W)
 (y:∀(l:Nat) (T0 T1:List Asn),(∀(vals:aG) (f:Bool) (X Y T:List Asn) (W:O),Ok vals f X Y->Sp W (X++(T++T0))->YieldAt F (n - 1 - 1) P l vals W fun e q =>e= .returned (.bool f)/\Sp q (Y++(T++if f then T0 else T1)))->
  ∀W,Sp W (L++T0)->CallsIn F (n - 1) P gf (#[.func (.yield l) #[] #[]]++lb) W fun e q =>(∃v,e= .returned v)/\Sp q (L' ++T1))
 (m:∀(D:Nat) (W:O),Sp W (L' ++ [ObjA D (.deferred (some []))])->Code.ret.wpIn F n P Q {a with defers:={target:= .collected D,args:= #[]}::a.defers} W):
 (Code.rangeFunc g ps assign body).wpIn F n P Q a w:=by
 refine wpIn_rangeFunc fun fn I=> ?_;rw [R];obtain⟨b,c⟩:∃b:LoopState->Option Code->Loop,b=fun st pd=>{state:=st,pending:=pd,fn,tmps:=a.tmps,params:=ps,assign,body,defers:=w.heap.size}:=⟨_,rfl⟩;obtain⟨T0,i⟩:=eX ( [ObjA (w.heap.size+1) (.loop (b .ready none)),ObjA w.heap.size (.deferred (some []))])
 obtain⟨T1,k⟩:=eX ( [ObjA (w.heap.size+1) (.loop (b .done (some .ret))),ObjA w.heap.size (.deferred (some []))]);obtain⟨B,s⟩:=eX ((w.alloc (.deferred (some []))).alloc (.loop (b .ready none)))
 have E:Sp B (L++T0):=by
  have h:=(HS.objNew (.deferred (some []))).objNew (.loop (b .ready none));rw [World.size_alloc]at h;rw [<-i,<-s];exact h.perm (List.perm_append_comm (l₁:= [_,_]))
 refine⟨w.heap.size+1, [{target:= .collected w.heap.size,args:= #[]}],B,{target:= .fn (.func gf) lb,args:= #[.func (.yield (w.heap.size+1)) #[] #[]]},B,gf,
  #[.func (.yield (w.heap.size+1)) #[] #[]]++lb,B,?_,?_,?_,?_,fun _=>h1,?_⟩
 ·rw [<-s,c];exact run_enterLoop_outer _ _ _ _ _
 ·simp only [resolve,hg];simp [go_sem]
 ·intro f' u;simp [Target.leads]at u;subst u;exact H
 ·simp [invoke,go_sem,eg]
 ·refine(y (w.heap.size+1) T0 T1 ?_ _ E).mono ?_
  ·intro vals f X Y T W M Z;obtain⟨S,a₁,d,hb⟩:=j (w.heap.size+1) vals f X Y M;have hl:W.heap[w.heap.size+1]? =some (.loop (b .ready none)):=Z.obj (List.mem_append_right _ (List.mem_append_right _ (by rw [<-i];exact .head _)));have hy:=run_yield (P:=P) (args:=vals) hl (by rw [c];exact S);rw [c]at hy;refine⟨fn,_,assign,body,hy,roundIn_of_wpIn I (d W _ ?_)⟩
   refine⟨_,run_beginRound hl (by rw [c]),?_⟩
   have N:(X++(T++T0)).Perm (ObjA (w.heap.size+1) (.loop (b .ready none))::(X++(T++ [ObjA w.heap.size (.deferred (some []))]))):=by
    rw [<-i,<-zO,<-zO];exact List.perm_middle
   have z:=(Z.perm N).putO (.loop (b .busy none))
   have C:∀(Y:List Asn) (o:Obj),(ObjA (w.heap.size+1) o::(Y++(T++ [ObjA w.heap.size (.deferred (some []))]))).Perm (Y++(T++ [ObjA (w.heap.size+1) o,ObjA w.heap.size (.deferred (some []))])):=fun Y o=>by
    rw [<-zO,<-zO];exact List.perm_middle.symm
   have e1:(W.putObj (w.heap.size+1) (.loop {(b .ready none)with state:= .busy}))=W.putObj (w.heap.size+1) (.loop (b .busy none)):=(by rw [c]);rw [e1];refine wpIn_mono (hb _ _ (z.perm (C X _))) ?_;rintro e a3 r ⟨rfl,A⟩;have x:r.heap[w.heap.size+1]? =some (.loop (b .busy none)):=A.obj (List.mem_append_right _ (List.mem_append_right _ (.head _)))
   have U:=fun o=>(A.perm (C Y _).symm).putO o;cases f with
   |true=>
    refine⟨_,_,run_endRound (P:=P) none x,rfl,?_⟩;have G:(r.putObj (w.heap.size+1) (.loop {(b .busy none)with state:=if (none:Option Code).isNone then .ready else .done,pending:=none}))=r.putObj (w.heap.size+1) (.loop (b .ready none)):=(by rw [c];rfl);rw [G];refine(U _).perm ?_;rw [if_pos rfl,<-i];exact C Y _
   |false=>
    refine⟨_,_,run_endRound (P:=P) (some .ret) x,rfl,?_⟩;have G:(r.putObj (w.heap.size+1) (.loop {(b .busy none)with state:=if (some Code.ret:Option Code).isNone then .ready else .done,pending:=some .ret}))=r.putObj (w.heap.size+1) (.loop (b .done (some .ret))):=(by rw [c];rfl);rw [G];refine(U _).perm ?_;rw [if_neg (by decide),<-k];exact C Y _
  ·rintro e W2 ⟨⟨v,rfl⟩,z⟩;have J:W2.heap[w.heap.size+1]? =some (.loop (b .done (some .ret))):=z.obj (List.mem_append_right _ (by rw [<-k];exact .head _));have he:=run_endLoop (P:=P) J (by rw [c];simp)
   have N:(L' ++T1).Perm (ObjA (w.heap.size+1) (.loop (b .done (some .ret)))::(L' ++ [ObjA w.heap.size (.deferred (some []))])):=by
    rw [<-k];exact List.perm_middle
   have A:=((z.perm N).putO (.loop {(b .done (some .ret))with state:= .exhausted})).tail;exact⟨some .ret,_,by rw [c]at he⊢;exact he,m _ _ A⟩
open Go.Proofs.Tryz
attribute [local go_sem] Oper.semAt_some
attribute [local go_sem ↓] zU zV
theorem PQ {gs:List N7} {a b:Nat} (h:a<=b):frG gs a<=frG gs b:=by
 unfold frG
 have e:gs.take b=gs.take a++(gs.take b).drop a:=by
  conv=>lhs;rw [<-zu a (gs.take b)]
  rw [List.take_take,Nat.min_eq_left h]
 rw [e,yf,zG];omega
theorem PP {α:Type}:∀{gs:List (List α)} {i:Nat} {d:α},gs.flatten[i]? =some d->∃j g k,gs[j]? =some g/\g[k]? =some d/\(gs.take j).flatten.length+k=i
 | [],i,d,h=>by simp at h
 |g::gs,i,d,h=>by
  rw [yM]at h;rcases zk i g.length with a|a
  ·rw [z9 a]at h;exact⟨0,g,i,rfl,h,by simp⟩
  ·rw [zR a]at h;obtain⟨j,b,k,c,e,f⟩:=PP h;exact⟨j+1,b,k,by simpa using c,e,by rw [xL,yM,zG];omega⟩
theorem RF {fr b x y:Int} {A:aA} {n c:Nat} {w:O} (i:b - x=y) (h:IntKind.i64.wrap y=y):
 Calls prog 107 #[.agg #[.int .i64 fr,.int .i64 b,.slice A n c],.int .i64 x] w fun e w' =>e= .returned (.int .i64 y)/\Below w.heap.size w w' :=by
 obtain⟨H,f⟩:=eX (w.heap.size);have a:=(Sp.start w).blkH 206 #[.int .i64 fr,.int .i64 b,.slice A n c] f;obtain⟨k,d⟩:=eX (w.alloc (.cells #[.int .i64 fr,.int .i64 b,.slice A n c] 206));rw [d]at a;have j:=a.cl M0 1;have g:=zA (a.below M1);clear a;go_enter func107,ntmps107;go_upto_region 1 with fail;clear f;go_wp2;go_ret
 exact⟨rfl,g.o⟩
theorem RE {gs:List N7} {As:List aA} {j:Nat}:∃A n c,Yj gs As j= [.int .i64 (frG gs j:Int),.int .i64 (frG gs (j+1):Int),.slice A n c]:=by
 unfold Yj
 split
 ·exact⟨_,_,_,rfl⟩
 ·exact⟨_,_,_,rfl⟩
theorem RD {F Z q i j:Nat} {gs:List N7} {As:List aA} {L:List Asn} {w:O} (X:Sp w L) (I:RowA 206 3 (.slice (some ⟨F,0,none⟩) q Z) q (yd gs As q).flatten∈L) (hq:q<=16384) (hj:j<q) (N:∀k,frG gs k<=16384) (M:frG gs j<=i) (H:i<frG gs (j+1)):
 Calls prog 106 #[.slice (some ⟨F,0,none⟩) q Z,.int .i64 ((i+1:Nat):Int),.func (.func 107) #[] #[]] w fun e w' =>∃b,e= .returned (.tuple #[.int .i64 (j:Int),.bool b])/\Below w.heap.size w w' :=by
 have ha:i<16384:=zX H (N _)
 have U:=zA (fun(W:O) (hW:Below w.heap.size w W) (k:Nat) (S:k<q)=>show ∃A n c,W.cell? ⟨F,k*3,none⟩=some (.int .i64 (frG gs k:Int))/\W.cell? ⟨F,k*3+1,none⟩=some (.int .i64 (frG gs (k+1):Int))/\W.cell? ⟨F,k*3+2,none⟩=some (.slice A n c)from by
  obtain⟨A,n,c,e⟩:=RE (gs:=gs) (As:=As) (j:=k);have K:=X.grow hW;exact⟨A,n,c,K.rowCell I (Zi (k:=k) (j:=0) S (by rw [e];rfl)),K.rowCell I (Zi (k:=k) (j:=1) S (by rw [e];rfl)),K.rowCell I (Zi (k:=k) (j:=2) S (by rw [e];rfl))⟩)
 have J:=zA (fun(W:O) (fr x y:Int) (A:aA) (n c:Nat) (B:x - ((i+1:Nat):Int)=y) (hw:IntKind.i64.wrap y=y)=>RF (fr:=fr) (A:=A) (n:=n) (c:=c) (w:=W) B hw);have Y:=zA N;have H1:=zA M;have H2:=zA H;obtain⟨i1,C⟩:=eX (i+1);rw [C]at J⊢;have v:=zA C;clear X I N M H C;go_enter func106,ntmps106;go_wp2
 go_loopg [9,10] q (fun gk v7 v8 wr=>∃(l t:Nat),v7= .int .i64 l/\v8= .int .i64 t/\l<=j/\j<=t/\t<=q/\gk=t - l/\Hid (Below w.heap.size w wr))
 case atStart=>exact⟨0,q,rfl,rfl,zJ _,Nat.le_of_lt hj,zC _,rfl,zE _ _⟩
 case round=>
  obtain⟨l,t,rfl,rfl,T,R,Q,rfl,a⟩:=hrel
  by_cases hl:l<t
  ·obtain⟨s,hs⟩:=eX (l+t);obtain⟨h,hh⟩:=eX (s / 2);have M:IntKind.i64.wrap (s:Int)=(s:Int):=(by rw [zT];omega);have H:((l:Int)+(t:Int))=(s:Int):=(by omega);have h3:IntKind.u64.wrap (s:Int)=(s:Int):=(by rw [zW];omega);have h4:(s:Int) / 2^1=(h:Int):=(by omega);have hc:(s:Int) / 2=(h:Int):=(by omega);have h5:IntKind.i64.wrap (h:Int)=(h:Int):=(by rw [zT];omega)
   have h6:IntKind.u64.wrap (h:Int)=(h:Int):=(by rw [zW];omega);have P:h<q:=(by omega);have he:(h:Int)<(q:Int):=(by omega);have h7:IntKind.i64.wrap ((h:Int)+1)=((h+1:Nat):Int):=(by rw [zT];omega);obtain⟨A,n,c,D,E,c2⟩:=U.o wr a.o h P;obtain⟨fr,o⟩:=eX (frG gs h);obtain⟨x,f⟩:=eX (frG gs (h+1));rw [o]at D;rw [f]at E;have m:x<=16384:=(by rw [<-f];exact Y.o _)
   obtain⟨y,B⟩:∃z:Int,(x:Int) - (i1:Int)=z:=⟨_,rfl⟩;have p:IntKind.i64.wrap y=y:=(by rw [zT];have:=v.o;omega);have u:=zA (J.o wr fr x y A n c B p);have hf:l<=h:=(by omega);have hd:h<t:=by omega
   by_cases hn:y<0
   ·have G:h<j:=by
     rcases zk h j with g|g
     ·exact g
     ·exfalso
      have:=PQ (gs:=gs) (show j+1<=h+1 by omega);have:=H2.o;have:=v.o;omega
    clear o f B p hs hh m;go_wp2_with fail;refine u.o.mono ?_;rintro e w1 ⟨rfl,d⟩;have r:=zA (a.o.trans (d.mono a.o.size));clear d D E c2;go_wp2
    go_roundg (t - (h+1))
    ·exact⟨h+1,t,by go_num,rfl,by omega,R,Q,rfl,r⟩
    ·omega
   ·have G:j<=h:=by
     rcases zk h j with g|g
     ·exfalso
      have:=PQ (gs:=gs) (show h+1<=j by omega);have:=H1.o;have:=v.o;omega
     ·exact g
    clear o f B p hs hh m;go_wp2_with fail;refine u.o.mono ?_;rintro e w1 ⟨rfl,d⟩;have r:=zA (a.o.trans (d.mono a.o.size));clear d D E c2;go_wp2
    go_roundg (h - l)
    ·exact⟨l,h,rfl,rfl,T,G,by omega,rfl,r⟩
    ·omega
  ·obtain rfl:l=j:=by omega
   have hg:(l:Int)<(q:Int):=(by omega);obtain⟨A,n,c,D,E,c2⟩:=U.o wr a.o l hj;obtain⟨fr,o⟩:=eX (frG gs l);obtain⟨x,f⟩:=eX (frG gs (l+1));rw [o]at D;rw [f]at E;have m:x<=16384:=(by rw [<-f];exact Y.o _);obtain⟨y,B⟩:∃z:Int,(x:Int) - (i1:Int)=z:=⟨_,rfl⟩;have p:IntKind.i64.wrap y=y:=(by rw [zT];have:=v.o;omega);have u:=zA (J.o wr fr x y A n c B p)
   clear o f B p m;go_wp2_with fail;refine u.o.mono ?_;rintro e w1 ⟨rfl,d⟩;have r:=zA (a.o.trans (d.mono a.o.size));clear d D E c2;go_wp2;go_ret2;exact⟨_,rfl,r.o⟩
def DocA (b:Nat) (d:List Entry):Asn:=ExA fun p:aA×Nat×Nat=>zz [BlkA b 36 #[.slice p.1 p.2.1 p.2.2],DatA (.slice p.1 p.2.1 p.2.2) d]
theorem Sp.docIn {w:O} {L:List Asn} {b n c:Nat} {A:aA} {d:List Entry} (h:Sp w (BlkA b 36 #[.slice A n c]::DatA (.slice A n c) d::L)):Sp w (DocA b d::L):=
 Sp.exIn (f:=fun p:aA×Nat×Nat=>zz [BlkA b 36 #[.slice p.1 p.2.1 p.2.2],DatA (.slice p.1 p.2.1 p.2.2) d]) (A,n,c) (((h.starNil).p2.starIn).p1.starIn)
theorem Sp.docOut {w:O} {L:List Asn} {b:Nat} {d:List Entry} (h:Sp w (DocA b d::L)):∃A n c,Sp w (BlkA b 36 #[.slice A n c]::DatA (.slice A n c) d::L):=by
 obtain⟨⟨A,n,c⟩,h⟩:=h.exOut;exact⟨A,n,c,((h.starOut.p1.starOut).d1.p1)⟩
def docM (b:Nat) (d:List Entry) (k a:Nat):Asn:=if a<=k then BlkA b 36 #[.slice none 0 0]else DocA b d
theorem RW {w:O} {s:Nat} {v:V} {a:aG} (c:a.getD 4 undef= .pointer (some ⟨s,0,none⟩)) (f:Blk w s 36 #[v]):
 (results Tryz.f59 a).run prog w= .ok v w:=by
 have b:=f.cell 0;simp only [yF,zf]at b;have d:Tryz.f59.results= #[ResultVar.cell 4 36]:=rfl;have e:a[4]?.getD undef= .pointer (some ⟨s,0,none⟩):=by simpa using c
 simp [results,d,e,asAddr,Result.andThen,go_sem,b]
theorem RV {B g p n i:Nat} {Ac:aA} {As:List aA} {docs:N7} {d:List Entry} {L:List Asn} {w:O}
 (HS:Sp w (BlkA B 208 #[.slice Ac g p,.int .i64 (n:Int)]::RowA 206 3 (.slice Ac g p) g (yd (yL docs) As g).flatten::zz (bysA (yL docs) As)::L))
 (h7:As.length=g) (hg:(yL docs).length=g) (hn:docs.length=n) (xi:n<=16384) (hy:∀d∈docs,Y9 d=true/\QB d) (hl:(ZB docs).length<=100000000000000) (hd:docs[i]? =some d):
 Calls prog 59 #[.pointer (some ⟨B,0,none⟩),.int .i64 (i:Int)] w fun e w' =>∃A' n' c',e= .returned (.slice A' n' c')/\
  Sp w' (DatA (.slice A' n' c') d::BlkA B 208 #[.slice Ac g p,.int .i64 (n:Int)]::RowA 206 3 (.slice Ac g p) g (yd (yL docs) As g).flatten::zz (bysA (yL docs) As)::L):=by
 have v:=ZK docs
 have z:∀k,glen (yL docs) k<=100000000000000:=fun k=>by
  have h1:=LR (yL docs) k;unfold ZB at hl;simp only [zG]at hl;omega
 obtain⟨gs,hf⟩:=eX (yL docs);rw [hf]at HS hg v z⊢;obtain⟨j,b,k,hj,hk,hw⟩:=PP (gs:=gs) (by rw [v];exact hd);have h9:j<g:=by rw [<-hg];exact zN hj
 have xb:=zN hk;obtain⟨fr,y⟩:=eX (frG gs j);have q:frG gs (j+1)=fr+b.length:=by rw [d9 hj,y]
 have hv:fr+k=i:=by rw [<-y];exact hw
 have hc:∀k,frG gs k<=n:=fun k=>by
  have:=XI gs k;rw [v,hn]at this;exact this
 have x1:i<n:=by rw [<-hn];exact zN hd
 have hu:g<=16384:=by
  have:=Qi docs;rw [hf,hg,hn]at this;omega
 obtain⟨E,hb⟩:∃A,As[j]? =some A:=⟨_,zB (by omega)⟩;have M:=pB hj
 have ht:Yj gs As j= [.int .i64 (fr:Int),.int .i64 ((fr+b.length:Nat):Int),.slice E (grpB b).length (grpB b).length]:=by
  unfold Yj;rw [hb,y,q,M]
 have hs:(bysA gs As)[j]? =some (BA E (grpB b).length (grpB b).length (grpB b)):=by
  rw [KF (by omega)];unfold byA;rw [hb,M,hj];rfl
 have hi:=z j;rw [M]at hi;obtain⟨t,rfl, -, -⟩:=(HS.rowOf M1).at_ (by omega)
 obtain⟨H,hH⟩:=eX (w.heap.size);have f:=(HS.blkH 3 #[.int .i64 (i:Int)] hH).blkH 36 #[.slice none 0 0] (H:=H+1) (by simp [hH]);obtain⟨w2,xs⟩:=eX ((w.alloc (.cells #[.int .i64 (i:Int)] 3)).alloc (.cells #[.slice none 0 0] 36));rw [xs]at f;have q0:=f.cl M1 0;have q1:=f.cl M2 0;have q2:=f.cl M2 1
 have HL:=zA (fun nq=>(IE (T:=B) (n:=n) (w:=w2.drewN nq) q2).mono fun e w' h=>show e= .returned (.int .i64 (n:Int))/\∃m,w' =w2.drewN m from⟨h.1,nq,h.2.symm⟩);have b1:decide ((i:Int)<0)=false:=decide_eq_false (by omega);have b2:decide ((n:Int)<=(i:Int))=false:=decide_eq_false (by omega);have b3:IntKind.i64.wrap ((i:Int)+1)=((i+1:Nat):Int):=by rw [zT];omega
 have HB:=zA (fun nq=>RD (i:=i) (j:=j) ((f.drewN nq).drew) M3 hu h9 (fun k=>zY (hc k) xi) (by rw [y];omega) (by rw [q];omega));have I:=zA ht;have ha:=zA hs;have Hk:=zA hk;have h0:Hid (∀x∈b,Y9 x=true/\QB x):=fun x hx=>hy x (by rw [<-v];exact List.mem_flatten.2 ⟨b,zD hj,hx⟩);have h8:fr+b.length<=16384:=by have:=hc (j+1);rw [q]at this;omega
 have Hd:=zA f;have hp:=zA hv;clear HS f h7 hg hn hy hl hd z hf v hj hk hw y q hb M ht hs hc hv;refine(callsIn_wide (n:=6)).1 ?_;refine callsIn_of_wp_marks func59 rfl trivial ?_ rfl;simp only [ntmps59,yP,z6,yO,Nat.reduceAdd,Nat.reduceSub,xI,xH,xf,xM,zZ,yI];refine wpIn_wide.2 ?_;go_upto_region 1 with fail;clear hH
 go_quiet ((go_at_call 83;exact HL.o _))
 have u:=Hd.o.drewN nq;have S:=zA (HB.o nq);obtain⟨w3,hz⟩:=eX (w2.drewN nq);rw [hz]at u S⊢;have q0:=u.cl M1 0;have q1:=u.cl M2 0;have G:=u.drew;clear HB HL Hd q2 hz b1 b2;go_upto_region 3 with fail
 go_region_held3 (fun W=>W.cell? ⟨H,0,none⟩=some (.int .i64 (i:Int))/\W.cell? ⟨B,0,none⟩=some (.slice (some ⟨t,0,none⟩) g p)) (first|(with_reducible exact⟨by assumption,by assumption⟩)|trivial|fail) (first
  |(go_at_call 106;refine S.o.mono ?_;rintro e w4 ⟨bb,rfl,J⟩;have k0:w4.cell? ⟨H,0,none⟩=some (.int .i64 (i:Int)):=(G.grow J).cell M1 0;have k1:w4.cell? ⟨B,0,none⟩=some (.slice (some ⟨t,0,none⟩) g p):=(G.grow J).cell M2 0)
  |fail)
 have r:=G.grow J;have q1:=r.cl M2 0;have e0:w4.cell? ⟨t,j*3,none⟩=some (.int .i64 (fr:Int)):=r.rowCell M3 (Zi (k:=j) (j:=0) (by omega) (by rw [I.o];rfl));have e1:w4.cell? ⟨t,j*3+1,none⟩=some (.int .i64 ((fr+b.length:Nat):Int)):=r.rowCell M3 (Zi (k:=j) (j:=1) (by omega) (by rw [I.o];rfl))
 have e2:w4.cell? ⟨t,j*3+2,none⟩=some (.slice E (grpB b).length (grpB b).length):=r.rowCell M3 (Zi (k:=j) (j:=2) (by omega) (by rw [I.o];rfl));have x2:(j:Int)<(g:Int):=by omega
 obtain⟨tl,hm⟩:=eX (fr+b.length);rw [hm]at e1;obtain⟨nb,Q⟩:=eX ((grpB b).length);rw [Q]at e2 hi ha;have h6:=zA hm;clear u G S J hm Q I k0 k1 q0;go_upto_region 4 with fail;go_wp2_with (go_at_call 108;refine(lW _ _ _ _).mono ?_;rintro e x3 ⟨rfl,rfl⟩);obtain⟨C,hC⟩:=eX (w4.heap.size);have ho:=r.blkH 206 #[.int .i64 (fr:Int),.int .i64 (tl:Int),.slice E nb nb] hC
 have U:=Sp.selT [_,_,_,_,_,_,_] (ho.p5.starAt ha.o) [2,0,3,4,5,6,1];rw [hC];obtain⟨W4,hr⟩:=eX (w4.alloc (.cells #[.int .i64 (fr:Int),.int .i64 (tl:Int),.slice E nb nb] 206));rw [hr]at U⊢
 obtain⟨R,hR⟩:=eX (BlkA H 3 #[.int .i64 (i:Int)]::BlkA B 208 #[.slice (some ⟨t,0,none⟩) g p,.int .i64 (n:Int)]::RowA 206 3 (.slice (some ⟨t,0,none⟩) g p) g (yd gs As g).flatten::zz ((bysA gs As).eraseIdx j)::L)
 have Z:Sp W4 (BlkA C 206 #[.int .i64 (fr:Int),.int .i64 ((fr+b.length:Nat):Int),.slice E nb nb]::BA E nb nb (grpB b)::docM (H+1) d k 0::R):=by
  rw [h6.o,<-hR];unfold docM;rw [if_pos (zJ _)];exact U
 have HR:=zA hR;clear ho U e0 e1 e2 r hr hC hR q1;refine(wpIn_wide (n:=6)).1 ?_
 refine R5 (F:=Fence.wide) (gf:=189) (lb:= #[.pointer (some ⟨C,0,none⟩)]) (L' :=BlkA C 206 #[.int .i64 (fr:Int),.int .i64 ((fr+b.length:Nat):Int),.slice E nb nb]::BA E nb nb (grpB b)::docM (H+1) d k (k+1)::R) rfl (by omega) rfl trivial (enters_of func189 (by kernel_rfl) rfl) Z
  (fun vals go X Y=>∃(a:Nat) (x:List Entry) (A' :aA) (n' c' :Nat),b[a]? =some x/\a<=k/\vals= #[.int .i64 ((fr+a:Nat):Int),.slice A' n' c']/\go=decide (a≠k)/\X= [DatA (.slice A' n' c') x,docM (H+1) d k a,BlkA H 3 #[.int .i64 (i:Int)]]/\Y= [docM (H+1) d k (a+1),BlkA H 3 #[.int .i64 (i:Int)]]) ?body ?seq ?done
 case body=>
  rintro l _ go _ _ ⟨a,x,A',n',c',hx,hh,rfl,N,rfl,rfl⟩;have Hx:=zA hx;clear Z hx;refine⟨rfl,?_⟩
  apply Exists.intro
  refine⟨?_,?_⟩
  ·intro W K hK
   gi_wp2
   exact hK
  ·intro T W h;rw [show docM (H+1) d k a=BlkA (H+1) 36 #[.slice none 0 0]from if_pos hh]at h;have c0:=h.cl M2 0;have c1:=h.cl M1 0;have c2:=(h.blkOf M1).frozen 0
   by_cases o:a=k
   ·subst o;obtain rfl:go=false:=by simpa using N
    have xn:((fr:Int)+(a:Int)==(i:Int))=true:=by
     have:=hp.o;rw [beq_iff_eq];omega
    obtain rfl:x=d:=yG (Hx.o.symm.trans Hk.o);have P:=zA ((h.p1.set 0 (.slice A' n' c')).docIn);clear h N
    gi_wp2
    rw [show docM (H+1) x a (a+1)=DocA (H+1) x from if_neg (by omega)];exact P.o
   ·obtain rfl:go=true:=by rw [N];exact decide_eq_true o
    have xn:((fr:Int)+(a:Int)==(i:Int))=false:=by
     have:=hp.o;rw [beq_eq_false_iff_ne];omega
    have P:=zA h.tail;clear h N
    gi_wp2
    rw [show docM (H+1) d k (a+1)=BlkA (H+1) 36 #[.slice none 0 0]from if_pos (by omega)];exact P.o
 case seq=>
  intro l T0 T1 hY W hW;have h:=PN (T0:=T0) (T1:=T1) k (fun a=>docM (H+1) d k a::R) l 5 (by omega) h0.o (by omega) ?_ hW hi
  ·rw [if_pos xb,Nat.min_eq_left (by omega)]at h;exact h
  ·intro a x A' n' c' T W2 hx hh h;have P:=hY #[.int .i64 ((fr+a:Nat):Int),.slice A' n' c'] (decide (a≠k)) [DatA (.slice A' n' c') x,docM (H+1) d k a,BlkA H 3 #[.int .i64 (i:Int)]] [docM (H+1) d k (a+1),BlkA H 3 #[.int .i64 (i:Int)]] (R.tail++T) W2 ⟨a,x,A',n',c',hx,hh,rfl,rfl,rfl,rfl⟩ (by rw [<-HR.o]at h⊢;simpa using h);refine P.mono fun e W' ⟨he,hS⟩=>⟨he,?_⟩;rw [<-HR.o]at hS⊢
   by_cases o:a=k
   ·rw [if_pos o];rw [decide_eq_false (by simpa using o)]at hS
    simpa using hS
   ·rw [if_neg o];rw [decide_eq_true o]at hS
    simpa using hS
 case done=>
  intro D W hW;rw [<-HR.o,show docM (H+1) d k (k+1)=DocA (H+1) d from if_neg (by omega)]at hW;have P:=Sp.starBack (Sp.selT [_,_,_,_,_,_,_] hW [1,6,2,4,5]) ha.o
  have h3:Sp W (ObjA D (.deferred (some []))::(zz (bysA gs As)::DocA (H+1) d::BlkA B 208 #[.slice (some ⟨t,0,none⟩) g p,.int .i64 (n:Int)]::RowA 206 3 (.slice (some ⟨t,0,none⟩) g p) g (yd gs As g).flatten::L)):=
   P.perm (List.perm_append_comm (l₁:=zz (bysA gs As)::DocA (H+1) d::BlkA B 208 #[.slice (some ⟨t,0,none⟩) g p,.int .i64 (n:Int)]::RowA 206 3 (.slice (some ⟨t,0,none⟩) g p) g (yd gs As g).flatten::L) (l₂:= [_]))
  have h4:=(h3.starNil.p1).starIn;clear hW P h3 Z;refine wpIn_wide.2 ?_;go_wp2;refine Vy (L:=zz (bysA gs As)::DocA (H+1) d::BlkA B 208 #[.slice (some ⟨t,0,none⟩) g p,.int .i64 (n:Int)]::RowA 206 3 (.slice (some ⟨t,0,none⟩) g p) g (yd gs As g).flatten::L) (fun w' h=> ?_) [D] h4;obtain⟨A,m,c,h5⟩:=h.p1.docOut
  exact⟨_,RW (s:=H+1) (by rfl) (h5.blkOf M0),A,m,c,rfl,Sp.selT [_,_,_,_,_] h5 [1,3,4,2]⟩
end Go.Proofs.YtjbhbfaeielbiaaGreatDoor

import Derived.Test.YtjbhbfaeielbiaaGreatDoorPart20
import Derived.Test.YtjbhbfaeielbiaaGreatDoorPart23
import Derived.Test.YtjbhbfaeielbiaaGreatDoorPart22
import Derived.Lib.ConvBytes
set_option maxRecDepth 100000
set_option maxHeartbeats 8000000
set_option linter.unusedVariables false
set_option linter.unusedSimpArgs false
namespace Go.Proofs.YtjbhbfaeielbiaaGreatDoor
open Go.Proofs.Tryz
open Rep (rep)
open Go.RowKit Go.Shelf
attribute [local go_sem] Oper.semAt_some
theorem BJ (A:aA) (n c a:Nat) (d:0<a) (g:a<=1000) (w:O):
 Calls prog 264 #[.slice A n c,.int .i64 (a:Int)] w fun e w' =>e= .returned (.func (.func 323) #[] #[.pointer (some ⟨w.heap.size,0,none⟩),.pointer (some ⟨w.heap.size+1,0,none⟩)])/\w' =(w.alloc (.cells #[.slice A n c] 110)).alloc (.cells #[.int .i64 (a:Int)] 3):=by
 have b:=@mF prog;have f:(1:Int)<=a:=by omega
 go_enter func264,ntmps264;go_wp2;go_ret
 exact⟨rfl,rfl⟩
theorem BK (A:aA) (n c a:Nat) (hA:0<n->∃b off,A=some ⟨b,off,none⟩) (S:0<a) (hs:a<=1000) (hn:n<=1000000000000) (hf:n<=c) (hc:c<=9223372036854775807) (d:Nat) (hd:1<=d)
 (l F E:Nat) (J T:List (Fin n)->O->Prop) (W:O) (U:AbidesFrom W.heap.size J)
 (Y:∀pre (x:Fin n) M,J pre M->pre.length<n->YieldAt Fence.wide (d - 1) prog l #[XE A 2 n a x] M fun e t =>
  (e= .returned (.bool true)/\J (pre++ [x]) t /\Zy F E M t)\/(e= .returned (.bool false)/\T (pre++ [x]) t))
 (P:Boxed W F 110 (.slice A n c)) (N:Boxed W E 3 (.int .i64 (a:Int))) (h0:J [] W):
 CallsIn Fence.wide d prog 323 #[.func (.yield l) #[] #[],.pointer (some ⟨F,0,none⟩),.pointer (some ⟨E,0,none⟩)] W fun e t =>(∃v,e= .returned v)/\
  ((∃j,(∃k,j.map Fin.val=ZC a k/\n<=k*a/\(k=0\/(k - 1)*a<n))/\J j t)\/(∃pre,T pre t)):=by
 have HY:=zA Y;have HJ:=zA U;have mixed:Tryz.prog.follows .mixedOrders=true:=by kernel_rfl
 clear Y U;refine callsIn_of_wp func323 rfl trivial ?_ rfl;simp only [ntmps323,yP,z6,yO,Nat.reduceAdd,Nat.reduceSub,xI,xH,xf,xM,zZ,yI]
 gi_wp2
 gi_loopw [4] (fun i wr=>∃(k:Nat) (j:List (Fin n)),i= .int .i64 ((k*a:Nat):Int)/\j.map Fin.val=ZC a k/\(k=0\/(k - 1)*a<n)/\J j wr/\W.heap.size<=wr.heap.size/\Boxed wr F 110 (.slice A n c)/\Boxed wr E 3 (.int .i64 (a:Int))) (fun i _=>n+a - (intOf i).toNat)
 case atStart=>exact⟨0, [],by simp,rfl,.inl rfl,h0,zC _,P,N⟩
 case round=>
  obtain⟨k,j,rfl,f,Z,C,hh,q,p⟩:=hrel;have o:=zA f;have u:=zA C;have Hk:=zA Z;have cs:=q.cell;have cn:=p.cell;have K:=zA q;have I:=zA p;obtain⟨i,Q⟩:=eX (k*a);rw [Q];have w:=zA Q;clear f C Z q p Q
  by_cases r:i<n
  ·obtain⟨b,off,rfl⟩:=hA (by omega);have h1:(i:Int)<=n:=(by omega);have h2:(i:Int)<=c:=(by omega);have h3:(0:Int)<=i:=(by omega);have hg:¬c=i:=(by omega);obtain⟨m,R⟩:=eX (min a (n - i));have he:min (a:Int) ((n - i:Nat):Int)=m:=(by omega);have h4:(i:Int)+m<=c:=(by omega);have h5:(0:Int)<=m:=(by omega);have h6:i+m - i=m:=(by omega)
   have y:=HJ.o _ _ _ _ u.o (⟨rfl,rfl,rfl,zC _,fun _ _ _=>rfl⟩:wr.grownBy wr.drew none) (fun _ e=>by cases e)
   have f:j.length<n:=by
    have h:=congrArg List.length o.o;simp [ZC]at h;have:k<=k*a:=Nat.le_mul_of_pos_right _ S;have:=w.o;omega
   obtain⟨fn,ha,assign,body,hy,X⟩:=HY.o _ ⟨i,r⟩ wr.drew y f;simp only [XE,R]at hy;have HR:=zA X;have Hm:=zA R;clear R X y f
   gi_wp2
   gi_region_with_o (fail)
   all_goals
    gi_wp2
    refine HR.o.mono ?_;rintro e W3 (⟨rfl,z,g⟩|⟨rfl,B⟩)
    ·have D:=g.2.1 _ _ K.o;have s:=g.2.2 _ _ I.o;have hj:wr.heap.size<=W3.heap.size:=g.1;have hb:=s.cell;have H:=zA D;have L:=zA s;have G:=zA z;clear z g D s cs cn
     gi_wp2
     go_roundw
     case rel=>exact⟨k+1,j++ [⟨i,r⟩],by rw [Nat.succ_mul,w.o];go_num,by rw [zw,o.o,Xk,w.o];rfl,.inr (by rw [Nat.add_sub_cancel,w.o];exact r),G.o,by omega,H.o,L.o⟩
     case measure=>simp [intOf];omega
    ·gi_wp2
     refine bodyPost_ret (results_none rfl _ _ _) rfl ?_;exact⟨⟨_,rfl⟩,.inr ⟨_,B⟩⟩
  ·gi_wp2
   go_end0
   exact⟨⟨_,rfl⟩,.inl ⟨_,⟨k,o.o,by rw [w.o];omega,Hk.o⟩,u.o⟩⟩
theorem vN {F:Fence} {n:Nat} {P:Program} {o:Oper} {a:Act} {K:Act->O->Prop} {Q:Exit->Act->O->Prop} (l:Nat) {r:Result Next} (h:o.uponIn F n P a K Q r):o.uponIn (F.inRound l) n P a K Q r:=by
 cases r with
 |ok x w=>cases x<;>exact h
 |halt x w=>cases x<;>exact h
theorem I2 {F:Fence} {n:Nat} {P:Program} {b:Array Oper} {Q:Exit->Act->O->Prop} {i:Nat} {K:Act->O->Prop} {a:Act} {w:O} (d:F.round=none) (g:∀(j:Nat) (o:Oper) c,b[j]? =some o->o.op≠ .defer c) (l:Nat)
 (h:wpOpIn F n P b Q i K a w):wpOpIn (F.inRound l) n P b Q i K a w:=by
 unfold wpOpIn at*;cases ho:b[i]? with
 |none=>simp only [ho]at h⊢;exact h
 |some o=>
  simp only [ho]at h⊢
  split at h
  ·rename_i e;rw [if_pos e];refine⟨h.1,?_⟩;have f:=h.2;rw [d,Oper.semAt_none]at f;rw [Fence.inRound_round,Oper.semAt_some l _ o (fun c=>g i o c ho)];exact vN l f
  ·rename_i e;rw [if_neg e];exact h
theorem mA {F:Fence} {n:Nat} {P:Program} {f:Region.Mode} {b:Array Oper} {Q:Exit->Act->O->Prop} (d:F.round=none) (e:∀(j:Nat) (o:Oper) c,b[j]? =some o->o.op≠ .defer c) (l:Nat):
 ∀(fuel:Nat) (listed:Array Bool) (a:Act) (w:O),wpAnyIn F n P f b Q fuel listed a w->wpAnyIn (F.inRound l) n P f b Q fuel listed a w
 |0,_,_,_,h=>h
 |fuel+1,_,_,_,h=>⟨h.1,fun i g=>I2 d e l (wpOpIn_mono (fun a w=>mA d e l fuel _ a w) (h.2 i g))⟩
def oX (l:List Oper):Bool:=l.all fun o=>match o.op with| .defer _=>false|_=>true
theorem wZ {l:List Oper} (h:oX l=true):∀(j:Nat) (o:Oper) c,l.toArray[j]? =some o->o.op≠ .defer c:=by
 intro j o c a e
 have b:o∈l:=by
  rw [yF]at a;exact zD a
 have:=List.all_eq_true.1 h o b;rw [e]at this;cases this
theorem sJ {n:Nat} {P:Program} {l:List Oper} {Q:Exit->Act->O->Prop} {e b:Nat} {a:Act} {w:O} (d:P.follows .mixedOrders=true) (c:oX l=true)
 (h:wpAnyIn Fence.wide n P .any l.toArray Q l.toArray.size (Array.replicate l.toArray.size false) a w.drew):(Code.region e l.toArray true).wpIn (Fence.wide.inRound b) n P Q a w:=
 wpIn_region_any d (mA rfl (wZ c) b _ _ _ _ h)
open Go.RowKit
def OL (number:Int) (t:Token):List Token:=
 if number=10 then [bW t]else if number=11 then We t else if number=12 then Yg 2 t else if number=13 then Yg 3 t else if number=14 then [Q8 t]else if number=15 then Qf t else []
def Yx (n:Int):Bool:=decide (10<=n/\n<=15)
def KM (k:FuncId) (lb:aG) (g:Token->List Token) (w:O):Prop:=
 (∀(args:aG) (W:O),(callFunc k args).run prog W= .ok (.enter k args) W)/\
 ∀(W:O) (t:Token),Below w.heap.size w W->t.ok->t.text.size<=1000000000->Calls prog k (#[.agg #[.string t.text,.int .i64 t.pos,.int .i64 t.from_,.int .i64 t.to_]]++lb) W fun e a =>∃v,e= .returned v/\Own Flat a W.heap.size 48 v (g t)/\Below W.heap.size W a
theorem jQ (n:Int) (w:O):Calls prog 240 #[.int .i64 n] w fun e w' =>e= .returned (.func (.func 291) #[] #[.pointer (some ⟨w.heap.size,0,none⟩)])/\w' =w.alloc (.cells #[.int .i64 n] 3):=by
 have a:=@mF prog;go_enter func240,ntmps240;go_wp2;go_ret
 exact⟨rfl,rfl⟩
theorem JU (n:Int) (a:Yx n=false) (w:O):Calls prog 176 #[.int .i64 n] w fun e w' =>e= .returned .nilFunc/\w=w' :=by
 have h:n<10\/15<n:=by simp [Yx]at a;omega
 have b:(n==10)=false:=by simp;omega
 have c:(n==11)=false:=by simp;omega
 have d:(n==12)=false:=by simp;omega
 have f:(n==13)=false:=by simp;omega
 have g:(n==14)=false:=by simp;omega
 have i:(n==15)=false:=by simp;omega
 clear h a;go_enter func176,ntmps176;go_wp2;go_ret
 exact⟨rfl,rfl⟩
theorem fA (n:Int) (i:Yx n=true) (w:O) (g:Tabs w):Calls prog 176 #[.int .i64 n] w fun e w' =>∃k lb,e= .returned (.func (.func k) #[] lb)/\KM k lb (OL n) w' /\Below w.heap.size w w' :=by
 have h:n=10\/n=11\/n=12\/n=13\/n=14\/n=15:=by simp [Yx]at i;omega
 have f:=zA g;clear i g;rcases h with rfl|rfl|rfl|rfl|rfl|rfl
 ·go_enter func176,ntmps176;go_wp2;go_ret
  exact⟨_,_,rfl,⟨Go.Proofs.enters_of func238 (by kernel_rfl) rfl,fun W t a b c=>sQ t b c W (f.o.on a)⟩,zE _ _⟩
 ·go_enter func176,ntmps176;go_wp2;go_ret
  exact⟨_,_,rfl,⟨Go.Proofs.enters_of func239 (by kernel_rfl) rfl,fun W t a b c=>tV t b W⟩,zE _ _⟩
 ·have a:Below w.heap.size w (w.alloc (.cells #[.int .i64 2] 3)):=(zE _ _).alloc (zC _) _;have d:=zA a;clear a;go_enter func176,ntmps176;go_wp2_with (go_at_call 240;go_must (refine(jQ 2 _).mono ?_);rintro e w' ⟨rfl,rfl⟩);go_ret
  exact⟨_,_,rfl,⟨Go.Proofs.enters_of func291 (by kernel_rfl) rfl,fun W t a b c=>UI 2 (by omega) w.heap.size t b c W (f.o.on (d.o.trans (a.mono d.o.size))) (Boxed.on (Boxed.new _ _ _) a)⟩,d.o⟩
 ·have a:Below w.heap.size w (w.alloc (.cells #[.int .i64 3] 3)):=(zE _ _).alloc (zC _) _;have d:=zA a;clear a;go_enter func176,ntmps176;go_wp2_with (go_at_call 240;go_must (refine(jQ 3 _).mono ?_);rintro e w' ⟨rfl,rfl⟩);go_ret
  exact⟨_,_,rfl,⟨Go.Proofs.enters_of func291 (by kernel_rfl) rfl,fun W t a b c=>UI 3 (by omega) w.heap.size t b c W (f.o.on (d.o.trans (a.mono d.o.size))) (Boxed.on (Boxed.new _ _ _) a)⟩,d.o⟩
 ·go_enter func176,ntmps176;go_wp2;go_ret
  exact⟨_,_,rfl,⟨Go.Proofs.enters_of func241 (by kernel_rfl) rfl,fun W t a b c=>r8 t b c W (f.o.on a)⟩,zE _ _⟩
 ·go_enter func176,ntmps176;go_wp2;go_ret
  exact⟨_,_,rfl,⟨Go.Proofs.enters_of func242 (by kernel_rfl) rfl,fun W t a b c=>sP t b c W (f.o.on a)⟩,zE _ _⟩
theorem gH {α:Type} [Rep α] {P:Program} {w:O} {I:Array Oper} {rest:List Oper} {o:Oper} {a:Act} {Q:Exit->Act->O->Prop} (R:o.guard=none) (s x:Operand) (t:TypeId)
 (ho:o.op= .call {callee:= .builtin .append,args:= #[s,x],argTypes:= #[t,t]})
 (base:Nat) (e:TypeId) (i:TypeInfo) (z:V) (bytes:Nat) (ht:P.underlying t=some (.slice e)) (hi:P.info? e=some i) (hz:i.zero=some z)
 (C:i.size=Rep.size α) (M:i.bytes=bytes) (Y:z.cells.size=Rep.size α)
 (v:V) (xs:List α) (hs:a.eval s=v) (n:Own Flat w base e v xs)
 (b2:Nat) (A:aA) (m c:Nat) (j:List α) (hx:a.eval x= .slice A m c) (B:Own Flat w b2 e (.slice A m c) j)
 (K:xs.length+j.length<=9223372036854775807) (f:(xs.length+j.length)*bytes<=140737488355328) (d:base<=w.heap.size)
 (h:∀A' n' J w',Own Flat w' base e (.slice A' n' J) (xs++j)->n' =xs.length+j.length->w.grownBy w' v.ownBlock->Below base w w' ->wpList P I Q rest (a.put o.dst (.slice A' n' J)) w'):wpList P I Q (o::rest) a w:=by
 have r:=n;obtain⟨css,hl,hr,W⟩:=n;obtain⟨css',S,H,q⟩:=B
 have hm:m=j.length:=by
  rcases q.2 with⟨l,E⟩|⟨g,cap,cur,l,_⟩
  ·injection l;omega
  ·injection l
 have G:∀u∈css'.flatten,u.oneCell' =true:=by
  intro u X;obtain⟨cs,N,X⟩:=List.mem_flatten.1 X;obtain⟨k,D⟩:=z8 N;obtain⟨y,hy⟩:∃y,j[k]? =some y:=⟨_,zB (by have:=zN D;omega)⟩;exact Rep.one (H k cs y D hy) X
 subst hm;refine Xj w R s x t ho base e i z (Rep.size α) bytes ht hi hz C M Y Rep.pos v xs.length css.flatten hs W w.heap.size A j.length c css'.flatten hx (xA.of_own q) G K f d ?_;intro v' w' T Z ha
 have F:Own Flat w' base e v' (xs++j):=by
  refine⟨css++css',by simp [hl,S],fun k cs x l E=> ?_,by rw [zG,yf];exact T⟩;rcases zk k css.length with D|D
  ·rw [z9 D]at l;rw [z9 (by omega)]at E;exact Rep.keep (hr k cs x l E) (fun p U=>U.1.elim) (fun b L=>L.1.elim)
  ·rw [zR D]at l;rw [zR (by omega)]at E;exact Rep.keep (H (k - css.length) cs x l (by rw [hl];exact E)) (fun p U=>U.1.elim) (fun b L=>L.1.elim)
 obtain⟨A',J,rfl⟩:=F.form;exact h A' _ J w' F (by simp) Z (Uu (v' :=v) (zE _ _) d r.from_ Z)
theorem I4 (number:Int) (t:Token):(OL number t).length<=t.text.size+2:=by
 have a:∀n,(Yg n t).length<=t.text.size+1:=by
  intro n;unfold Yg
  split
  ·simp
  ·rw [iB];have:=Yf t.text;omega
 have b:=a 2;have c:=a 3;unfold OL
 repeat' split
 all_goals first
  |(simp;done)
  |omega
  |(unfold We;split<;>simp<;>omega)
  |(unfold Qf;split<;>simp<;>omega)
def Zv (number:Int) (toks:List Token):List Token:=toks.flatMap (OL number)
theorem AB (number:Int) (toks:List Token) (k:Nat):(Zv number (toks.take k)).length<=(Zv number toks).length:=by
 unfold Zv
 conv=>rhs;rw [<-zu k toks]
 rw [yS,zG];omega
theorem qZ (d:Nat) (w:O):(Op.equalIn (d+1) 301 .nilFunc .nilFunc).run prog w= .ok true w:=by
 simp [Op.equalIn,run_underlying underlying301]
theorem Uh (d:Nat) (w:O) (k:Fn) (a b:aG):(Op.equalIn (d+1) 301 (.func k a b) .nilFunc).run prog w= .ok false w:=by
 simp [Op.equalIn,run_underlying underlying301]
theorem iG (w:O):(binOp .eql 301 .nilFunc .nilFunc).run prog w= .ok (.bool true) w:=by
 simp only [binOp];simp [Op.equal,Op.maxDepth,qZ 9999 w]
theorem UM (w:O) (k:Fn) (a b:aG):(binOp .eql 301 (.func k a b) .nilFunc).run prog w= .ok (.bool false) w:=by
 simp only [binOp];simp [Op.equal,Op.maxDepth,Uh 9999 w]
theorem LJ (n:Int) (hn:Yx n=true) (A:aA) (m c:Nat) (toks:List Token) (w:O) (hT:Tabs w) (hr:zL w (·<w.heap.size) A m c toks) (Z:∀t∈toks,t.text.size<=1000000000):
 Calls prog 99 #[.int .i64 n,.slice A m c] w fun e w' =>(((Zv n toks).length<=4096/\∃v,e= .returned (.tuple #[v,.int .i64 0])/\Own Flat w' w.heap.size 48 v (Zv n toks))\/(4096<(Zv n toks).length/\e= .returned (.tuple #[.slice none 0 0,.int .i64 84])))/\Below w.heap.size w w' :=by
 obtain⟨i0,S,ha,hb,hc⟩:=info_parts Q5;have hs:=hr.cap;have T:=hr.length;have Hr:=zA hr;have hh:=zA Z;have he:=zA T;clear hr Z T;have hu:=iG;have hv:=UM;go_enter func99,ntmps99;go_wp2_with fail;refine(fA n hn _ hT).mono ?_;rintro e M ⟨k,lb,rfl,hf,H⟩;obtain⟨ht,hf⟩:=hf;have Hf:=zA hf;have D:=zA H;have y:=H.size;clear hf H hT;go_wp2
 go_loopw [7,16] (fun v i wr=>∃j:Nat,j<=m/\i= .int .i64 j/\Own Flat wr M.heap.size 48 v (Zv n (toks.take j))/\(Zv n (toks.take j)).length<=4096/\Below M.heap.size M wr) (fun _ i _=>m - (intOf i).toNat)
 case atStart=>exact⟨0,by omega,rfl,Own.nil _ _ _ _,by simp [Zv],zE _ _⟩
 case round=>
  obtain⟨j,hj,rfl,oo,K,u⟩:=hrel;obtain⟨o,l⟩:=eX (Zv n (toks.take j));rw [l]at oo K;obtain⟨Aq,cq,rfl⟩:=oo.form;obtain⟨L,hL⟩:=eX (o.length);rw [hL]at oo K⊢;have q:=zA hL;have B:=zA l;have Oo:=zA oo;have r:=zA u;have X:=u.size;clear hL l oo
  by_cases hl:j<m
  ·obtain⟨bt,ot,t,rfl,Y,hk,R⟩:=Hr.o.at_ hl
   obtain⟨e0,e1,e2,e3,U⟩:=Token.at_ R
   have hp:=hh.o t (zD Y.o);have tr:∀x v,w.cell? ⟨bt,x,none⟩=some v->wr.cell? ⟨bt,x,none⟩=some v:=fun x v h=>((D.o.trans (r.o.mono y)).cell (p:=⟨bt,x,none⟩) hk).trans h;have e0:=tr _ _ e0;have e1:=tr _ _ e1;have e2:=tr _ _ e2;have e3:=tr _ _ e3;have hg:=zA U;have C:=I4 n t;obtain⟨ys,z⟩:=eX (OL n t)
   have W:Zv n (toks.take (j+1))=o++ys:=by
    rw [<-B.o,<-z];unfold Zv;rw [zI,Y.o,Option.toList_some,yS,List.flatMap_singleton]
   rw [z]at C;have F:=zA W;have hi:=zA z;clear R U u tr W z;go_wp2_with fail;refine(Hf.o _ t (r.o.alloc X _) hg.o hp).mono ?_;rw [hi.o];rintro e w2 ⟨vy,rfl,oy,s⟩;obtain⟨Ay,cy,rfl⟩:=oy.form;have hd:=(Oo.o.alloc (.cells #[.string t.text,.int .i64 t.pos,.int .i64 t.from_,.int .i64 t.to_] 48)).on s;have ho:=s.size;simp only [World.size_alloc]at ho
   have Oy:=zA oy;have Q:=zA hd;have N:Hid (Below M.heap.size M w2):=(r.o.alloc X _).trans (s.mono (by simp;omega));obtain⟨Ly,G⟩:=eX (ys.length);rw [G]at C Oy⊢;have a:=zA G;clear oy hd s G e0 e1 e2 e3
   by_cases hm:4096<L+Ly
   ·have b:4096<(Zv n toks).length:=by
     have h1:=AB n toks (j+1);rw [F.o,zG,q.o,a.o]at h1;omega
    have d:=zA b;clear b
    go_wp2_with (at_builtin
                 go_must (refine gH rfl (.tmp 20) (.tmp 23) _ rfl M.heap.size 48 i0 _ 40 underlying41 S ha hb hc rfl (.slice Aq L cq) o rfl Q.o _ Ay Ly cy ys rfl Oy.o (by rw [q.o,a.o];omega) (by rw [q.o,a.o];omega) (by omega) ?_)
                 rw [q.o,a.o];intro A3 n3 c3 w3 g J I f;subst J;have P:=zA g;have E:=zA f;clear g I f)
    go_ret2;exact⟨.inr ⟨d.o,rfl⟩,D.o.trans ((N.o.trans E.o).mono y)⟩
   ·go_wp2_with (at_builtin
                 go_must (refine gH rfl (.tmp 20) (.tmp 23) _ rfl M.heap.size 48 i0 _ 40 underlying41 S ha hb hc rfl (.slice Aq L cq) o rfl Q.o _ Ay Ly cy ys rfl Oy.o (by rw [q.o,a.o];omega) (by rw [q.o,a.o];omega) (by omega) ?_)
                 rw [q.o,a.o];intro A3 n3 c3 w3 g J I f;subst J;have P:=zA g;have E:=zA f;clear g I f)
    go_roundw
    case rel=>exact⟨j+1,by omega,by go_num,by rw [F.o];exact P.o,by rw [F.o,zG,q.o,a.o];omega,N.o.trans E.o⟩
    case measure=>simp [intOf];omega
  ·obtain rfl:j=m:=by omega
   have b:Zv n toks=o:=(by rw [<-B.o,zF (by have:=he.o;omega)]);have d:=zA b;clear b u;go_wp2;go_ret2;refine⟨.inl ⟨by rw [d.o,q.o];exact K,_,rfl,by rw [d.o];exact Oo.o.mono y⟩,D.o.trans (r.o.mono y)⟩
def dI (n:Int):Bool:=decide (1<=n/\n<=4)
def Xy (t:aD) (j:Nat):Bool:=match t[j]? with|some x=>Yx x && !((t.take j).contains x)|none=>true
def ZI:aD->Bool
 | []=>false
 |a::t=>decide (t.length<8) && dI a && (List.range t.length).all (Xy t)
def aS (b:Bool):Int:=if b then 0 else 60
theorem X5 (p:Nat->Bool) (j:Nat):(List.range (j+1)).all p=((List.range j).all p && p j):=by
 rw [List.range_succ,List.all_append];simp
theorem XL {p:Nat->Bool} {j n:Nat} (a:j<n) (h:p j=false):(List.range n).all p=false:=by
 rw [List.all_eq_false];exact⟨j,List.mem_range.2 a,by simp [h]⟩
theorem V3 (A:aA) (n c:Nat) (xs:aD) (w:O) (N:Tabs w) (D:zL w (·<w.heap.size) A n c xs):
 Calls prog 97 #[.slice A n c] w fun e w' =>e= .returned (.int .i64 (aS (ZI xs)))/\Below w.heap.size w w' :=by
 have hc:=D.cap;have L:=D.length;have I:=iG;have J:=UM;rcases xs with _|⟨x0,t⟩
 ·obtain rfl:n=0:=by simpa using L.symm
  rw [show aS (ZI [])=60 from rfl];clear D N L I J;go_enter func97,ntmps97;go_wp2;go_ret
  exact⟨rfl,zE _ _⟩
 ·have r:n=t.length+1:=(by simpa using L.symm);obtain⟨b,off,x,rfl,T,hb,R⟩:=D.at_ (k:=0) (by omega)
  obtain rfl:x0=x:=by simpa using T.o
  have Q:=R.int.1;have G:=R.int.2;simp only [yt]at Q;have hd:(1:Int)<=n:=(by omega);obtain⟨q,H⟩:=eX (aS (ZI (x0::t)));rw [H]
  by_cases z:(8:Int)<n
  ·obtain rfl:q=60:=by
    rw [<-H,ZI,decide_eq_false (by omega)];rfl
   clear D N L H R T G r I J Q;go_enter func97,ntmps97;go_wp2;go_ret
   exact⟨rfl,zE _ _⟩
  ·by_cases l:dI x0=true
   ·have f:(1:Int)<=x0/\x0<=4:=(by simpa [dI]using l);have hn:=f.1;have ho:=f.2
    have C:aS ((List.range t.length).all (Xy t))=q:=by
     rw [<-H,ZI,decide_eq_true (by omega),l];rfl
    have g:=zA C;have d:=zA r;have HT:=zA N;have Hr:=zA D;have F:(n:Int)<=8:=(by omega);clear D N L H C R T G r l f z
    by_cases Z:c=1
    ·obtain rfl:n=1:=by omega
     subst Z;obtain rfl:q=0:=by rw [<-g.o,show t.length=0 by have:=d.o;omega];rfl
     go_enter func97,ntmps97;go_wp2
     go_loopw [28] (fun i wr=>i= .int .i64 0/\wr=w) (fun i _=>0)
     case atStart=>exact⟨rfl,rfl⟩
     case round=>
      obtain⟨rfl,rfl⟩:=hrel;go_wp2;go_ret
      exact⟨rfl,zE _ _⟩
    ·go_enter func97,ntmps97;go_wp2
     go_loopw [28] (fun i wr=>∃j:Nat,j+1<=n/\i= .int .i64 j/\(List.range j).all (Xy t)=true/\Below w.heap.size w wr) (fun i _=>n - (intOf i).toNat)
     case atStart=>exact⟨0,by omega,rfl,rfl,zE _ _⟩
     case round=>
      obtain⟨j,hj,rfl,v,P⟩:=hrel;have s:=zA v;have a:=zA P;clear v P
      by_cases hk:j<n - 1
      ·obtain⟨y,hy⟩:∃y,t[j]? =some y:=⟨_,zB (by have:=d.o;omega)⟩;have ha:_=_:=(((Hr.o.on a.o).elem (k:=j+1) (by simpa using hy)).2.int.1);rw [show off+(j+1)=off+1+j by omega]at ha
       have E:∀W,Below w.heap.size w W->∀i,i<t.length->W.cell? ⟨b,off+1+i,none⟩=some (.int .i64 (t.getD i 0)):=fun W hW i hi=>by
        have:=((Hr.o.on hW).elem (k:=i+1) (x:=t[i]) (by simp [hi])).2.int.1;rw [show off+(i+1)=off+1+i by omega]at this;rw [this,zm,zB hi];rfl
       have u:=zA E;have Y:=zA hy;clear hy E;have hg:j+1<=c:=(by omega);have hh:j+1<n:=by omega
       by_cases K:Yx y=true
       ·by_cases h:(t.take j).contains y=true
        ·have p:(List.range t.length).all (Xy t)=false:=XL (j:=j) (by have:=d.o;omega) (by simp only [Xy,Y.o];rw [K,h];rfl);obtain rfl:q=60:=by rw [<-g.o,p];rfl
         have U:=zA h;clear p h;go_wp2_with fail;refine(fA y K _ (HT.o.on a.o)).mono ?_;rintro e M ⟨k,lb,rfl, -,o⟩;have m:=zA o;clear o;go_wp2_with fail;refine(Tryz.slices_Contains_int b (off+1) j _ t y M (by have:=d.o;omega) (by omega) (u.o M (a.o.trans (m.o.mono a.o.size)))).mono ?_;rintro e w' ⟨rfl,rfl⟩;rw [U.o];go_wp2;go_ret
         exact⟨rfl,(a.o.trans (m.o.mono a.o.size))⟩
        ·have S:(List.range (j+1)).all (Xy t)=true:=by
          rw [X5,s.o];simp only [Xy,Y.o];rw [K,Bool.eq_false_iff.2 h];rfl
         have X:=zA S;have B :(t.take j).contains y=false:=Bool.eq_false_iff.2 h;have U:=zA B;clear S h B;go_wp2_with fail;refine(fA y K _ (HT.o.on a.o)).mono ?_;rintro e M ⟨k,lb,rfl, -,o⟩;have m:=zA o;clear o;go_wp2_with fail
         refine(Tryz.slices_Contains_int b (off+1) j _ t y M (by have:=d.o;omega) (by omega) (u.o M (a.o.trans (m.o.mono a.o.size)))).mono ?_;rintro e w' ⟨rfl,rfl⟩;rw [U.o];go_wp2
         go_roundw
         case rel=>exact⟨j+1,by omega,by go_num,X.o,a.o.trans (m.o.mono a.o.size)⟩
         case measure=>simp [intOf];omega
       ·have p:(List.range t.length).all (Xy t)=false:=XL (j:=j) (by have:=d.o;omega) (by simp only [Xy,Y.o];rw [Bool.eq_false_iff.2 K];rfl);obtain rfl:q=60:=by rw [<-g.o,p];rfl
        clear p;go_wp2_with fail;refine(JU y (Bool.eq_false_iff.2 K) _).mono ?_;rintro e M ⟨rfl,rfl⟩;go_wp2;go_ret
        exact⟨rfl,a.o⟩
      ·obtain rfl:j=n - 1:=by omega
       obtain rfl:q=0:=by rw [<-g.o,show t.length=n - 1 by have:=d.o;omega,s.o];rfl
       go_wp2;go_ret
       exact⟨rfl,a.o⟩
   ·obtain rfl:q=60:=by
     rw [<-H,ZI,Bool.eq_false_iff.2 l];simp;rfl
    have f:x0<1\/4<x0:=(by simp [dI]at l;omega);have F:(n:Int)<=8:=(by omega);clear D N L H R T G r I J z l;rcases f with f|f
    ·go_enter func97,ntmps97;go_wp2;go_ret
     exact⟨rfl,zE _ _⟩
    ·have hm:1<=x0:=(by omega);go_enter func97,ntmps97;go_wp2;go_ret
     exact⟨rfl,zE _ _⟩
def Un (i c:Nat):Bool:=decide ((97<=c/\c<=122)\/c=95\/(0<i/\48<=c/\c<=57))
def aP (s:aB):Bool:=(List.range s.size).all (fun i=>Un i (s.get! i).toNat) && decide (1<=s.size/\s.size<=24)
theorem QX (w:O) (e:TypeId) (s:aB):Below w.heap.size w (Lib.bytesWorld w e s) where
 os:=by simp [Lib.bytesWorld,World.freeze,World.alloc,World.drew, -World.alloc_eq, -World.drew_eq]
 tape:=by simp [Lib.bytesWorld,World.freeze,World.alloc,World.drew, -World.alloc_eq, -World.drew_eq]
 output:=by simp [Lib.bytesWorld,World.freeze,World.alloc,World.drew, -World.alloc_eq, -World.drew_eq]
 size:=by rw [Lib.bytesWorld_size];omega
 block:=fun k a=>Lib.bytesWorld_at_old w e s k a
theorem JR (s:aB) (k:Nat) (h:k<s.size):(s.data.toList.getD k 0)=s.get! k:=by
 rw [<-qE s k h,zm,zB (by rw [<-Lib.size_eq];exact h)];simp [ByteArray.getElem_eq_getElem_data]
theorem F7 (k c:Nat):(Un k c=true/\(((97:Int)<=(c:Int)/\(c:Int)<=122)\/(c:Int)=95\/((0:Int)<(k:Int)/\(48:Int)<=(c:Int)/\(c:Int)<=57)))
 \/(Un k c=false/\(((c:Int)<48)\/((48:Int)<=(c:Int)/\(c:Int)<=57/\k=0)\/((57:Int)<(c:Int)/\(c:Int)<97/\(c:Int)≠95)\/((122:Int)<(c:Int)))):=by
 unfold Un
 by_cases h:(97<=c/\c<=122)\/c=95\/(0<k/\48<=c/\c<=57)
 ·left
  refine⟨by simpa using h,?_⟩;omega
 ·right
  refine⟨by simpa using h,?_⟩;omega
theorem I6 (s:aB) (S:s.size<=9223372036854775807) (w:O):
 Calls prog 170 #[.string s] w fun e w' =>e= .returned (.bool (aP s))/\Below w.heap.size w w' :=by
 obtain⟨q,g⟩:=eX (aP s);rw [g];have E:=zA g;have B:=Lib.run_convert_string_bytes (P:=prog) w 9 65 5 s underlying9 underlying65 underlying5;have b:=zA (QX w 5 s);have a:=Lib.bytesWorld_cell w 5 s;obtain⟨W,z⟩:=eX (Lib.bytesWorld w 5 s);obtain⟨K,v⟩:=eX (grownCap w s.size 0 5);rw [z,v]at B;rw [z]at b a;have l:=zA a;clear g z v a;go_enter func170,ntmps170
 go_wp2
 go_loopw [8] (fun i wr=>∃k:Nat,k<=s.size/\i= .int .i64 k/\(List.range k).all (fun i=>Un i (s.get! i).toNat)=true/\wr=W) (fun i _=>s.size - (intOf i).toNat)
 case atStart=>exact⟨0,by omega,rfl,rfl,rfl⟩
 case round=>
  obtain⟨k,R,rfl,j,rfl⟩:=hrel;have h:=zA j;clear j
  by_cases o:k<s.size
  ·have u:_=_:=l.o k o;rw [JR s k o]at u;obtain⟨c,A⟩:=eX ((s.get! k).toNat);rw [A]at u;have D:=zA A;clear A;rcases F7 k c with⟨f,C⟩|⟨f,C⟩
   ·have m:=zA (show(List.range (k+1)).all (fun i=>Un i (s.get! i).toNat)=true by rw [X5,h.o,D.o];exact f);clear f;rcases C with⟨n,c2⟩|n|⟨x,n,c2⟩
    ·have p:(48:Int)<=(c:Int):=(by omega);have r:(57:Int)<(c:Int):=(by omega);go_wp2
     go_roundw
     case rel=>exact⟨k+1,by omega,by go_num,m.o,by first|rfl|trivial⟩
     case measure=>simp [intOf];omega
    ·have c2:((c:Int)==95)=true:=(by simp;omega);have t:((c:Int) !=95)=false:=(by simp;omega);have p:¬(97:Int)<=(c:Int):=(by omega);have r:(57:Int)<(c:Int):=(by omega);have y:(48:Int)<=(c:Int):=(by omega);clear n;go_wp2
     go_roundw
     case rel=>exact⟨k+1,by omega,by go_num,m.o,by first|rfl|trivial⟩
     case measure=>simp [intOf];omega
    ·have p:¬(97:Int)<=(c:Int):=(by omega);have r:((c:Int)==95)=false:=(by simp;omega);have t:((c:Int) !=95)=true:=(by simp;omega);have y:((k:Int)==0)=false:=(by simp;omega);go_wp2
     go_roundw
     case rel=>exact⟨k+1,by omega,by go_num,m.o,by first|rfl|trivial⟩
     case measure=>simp [intOf];omega
   ·obtain rfl:q=false:=by
     rw [<-E.o];unfold aP;rw [XL o (by simp only [D.o];exact f)];rfl
    clear f;rcases C with n|⟨n,c2,rfl⟩|⟨n,c2,x⟩|n
    ·have I:¬(48:Int)<=(c:Int):=(by omega);have p:¬(97:Int)<=(c:Int):=(by omega);have r:((c:Int)==95)=false:=(by simp;omega);have t:((c:Int) !=95)=true:=by simp;omega
     by_cases d:k=0
     ·subst d;go_wp2;go_ret
      exact⟨rfl,b.o⟩
     ·have F:(0:Int)<(k:Int):=(by omega);have G:((k:Int)==0)=false:=(by simp;omega);go_wp2;go_ret
      exact⟨rfl,b.o⟩
    ·have p:¬(97:Int)<=(c:Int):=(by omega);have r:((c:Int)==95)=false:=(by simp;omega);have t:((c:Int) !=95)=true:=(by simp;omega);go_wp2;go_ret
     exact⟨rfl,b.o⟩
    ·have r:((c:Int)==95)=false:=(by simpa using x);have t:((c:Int) !=95)=true:=(by simpa using x);have y:(48:Int)<=(c:Int):=(by omega);have H:¬(c:Int)<=57:=(by omega);have p:¬(97:Int)<=(c:Int):=(by omega);clear x
     by_cases d:k=0
     ·subst d;go_wp2;go_ret
      exact⟨rfl,b.o⟩
     ·have F:(0:Int)<(k:Int):=(by omega);have G:((k:Int)==0)=false:=(by simp;omega);go_wp2;go_ret
      exact⟨rfl,b.o⟩
    ·have p:(97:Int)<=(c:Int):=(by omega);have r:((c:Int)==95)=false:=(by simp;omega);have t:((c:Int) !=95)=true:=(by simp;omega);have y:(48:Int)<=(c:Int):=(by omega);have H:¬(c:Int)<=57:=(by omega);have I:¬(c:Int)<=122:=by omega
     by_cases d:k=0
     ·subst d;go_wp2;go_ret
      exact⟨rfl,b.o⟩
     ·have F:(0:Int)<(k:Int):=(by omega);have G:((k:Int)==0)=false:=(by simp;omega);go_wp2;go_ret
      exact⟨rfl,b.o⟩
  ·obtain rfl:k=s.size:=by omega
   have g:decide (1<=s.size/\s.size<=24)=q:=by rw [<-E.o];unfold aP;rw [h.o];rfl
   by_cases L:(1:Int)<=(s.size:Int)
   ·have J:(0:Int)<(s.size:Int):=by omega
    by_cases M:(s.size:Int)<=24
    ·obtain rfl:q=true:=by rw [<-g];simp;omega
     clear g;go_wp2;go_ret
     exact⟨yl (by simp<;>omega),b.o⟩
    ·obtain rfl:q=false:=by rw [<-g];simp;omega
     have N:(24:Int)<(s.size:Int):=(by omega);clear g;go_wp2;go_ret
     exact⟨yl (by simp<;>omega),b.o⟩
   ·obtain rfl:q=false:=by rw [<-g];simp;omega
    have J:(s.size:Int)<1:=(by omega);have Q:(s.size:Int)<=0:=(by omega);clear g;go_wp2;go_ret
    exact⟨yl (by simp<;>omega),b.o⟩
def xD (f:Bool) (a:Int) (e:Nat) (c b:Int) (d:Bool):Bool:=
 f && (decide (a=1)||decide (e=0)) && (decide (a=4)||decide (c=0)) && (decide (a=5)||decide (b=0)) &&
 (if a=1 then d else if a=2\/a=3 then true else if a=4 then decide (0<=c/\c<=9)else if a=5 then decide (1<=b/\b<=4)else false)
def Xq (f:Field):Bool:=xD (aP f.name) f.kind f.chain.length f.scale f.dims (ZI f.chain)
theorem LH (f:Field) (H:aA) (j c2:Nat) (w:O) (W:Tabs w) (s:zL w (·<w.heap.size) H j c2 f.chain) (L:f.name.size<=9223372036854775807):
 Calls prog 92 #[.agg #[.string f.name,.int .i64 f.kind,.slice H j c2,.int .i64 f.scale,.int .i64 f.dims,.bool f.many,.bool f.stored]] w fun e w' =>e= .returned (.bool (Xq f))/\Below w.heap.size w w' :=by
 have E:=s.length;have ha:=s.cap;obtain⟨F,l,chain,k,i,N,P⟩:=f;simp only at s L E⊢;have J:Below w.heap.size w (w.alloc (.cells #[.string F,.int .i64 l,.slice H j c2,.int .i64 k,.int .i64 i,.bool N,.bool P] 61)):=(zE _ _).alloc (zC _) _;have T:=zA (I6 F L (w.alloc (.cells #[.string F,.int .i64 l,.slice H j c2,.int .i64 k,.int .i64 i,.bool N,.bool P] 61)))
 have B:=Blk.new w 61 #[.string F,.int .i64 l,.slice H j c2,.int .i64 k,.int .i64 i,.bool N,.bool P];have S:=zA s;have HT:=zA W;obtain⟨q,c⟩:=eX (Xq ⟨F,l,chain,k,i,N,P⟩);rw [c];have c:xD (aP F) l j k i (ZI chain)=q:=by rw [<-c,<-E];rfl
 obtain⟨b,X⟩:=eX (aP F);obtain⟨ch,D⟩:=eX (ZI chain);rw [X]at c T;rw [D]at c;have R:=zA D;have Z:=zA J;have Q:=zA B;clear s W X D J B E;have U:=zA c;clear c;go_enter func92,ntmps92;go_wp2_with fail;refine T.o.mono ?_;rintro e Y ⟨rfl,C⟩;have h:Blk Y w.heap.size _ _:=(C.block w.heap.size (by simp)).trans Q.o;have f0:=h.cell 0
 have f1:=h.cell 1;have f2:=h.cell 2;have f3:=h.cell 3;have f4:=h.cell 4;simp only [yF,zf,zj]at f0 f1 f2 f3 f4;have a:=zA (Z.o.trans (C.mono (by simp)));clear h C;have c:=U.o;clear U;cases b with
 |false=>
  obtain rfl:q=false:=by rw [<-c];rfl
  clear c;go_wp2;go_ret
  exact⟨rfl,a.o⟩
 |true=>
  by_cases t:l=1
  ·subst t
   by_cases g:k=0
   ·subst g
    by_cases d:i=0
    ·subst d;obtain rfl:q=ch:=by rw [<-c];simp [xD]
     clear c;go_wp2_with fail;refine(V3 H j c2 chain Y (HT.o.on a.o) (S.o.on a.o)).mono ?_;rw [R.o];rintro e w2 ⟨rfl,K⟩;have I:=zA K;clear K;cases q with
     |true=>
      rw [show aS true=0 from rfl];go_wp2;go_ret
      exact⟨rfl,a.o.trans (I.o.mono a.o.size)⟩
     |false=>
      rw [show aS false=60 from rfl];go_wp2;go_ret
      exact⟨rfl,a.o.trans (I.o.mono a.o.size)⟩
    ·have n:(i==0)=false:=(by simpa using d);have o:(i !=0)=true:=(by simpa using d);obtain rfl:q=false:=by rw [<-c];simp [xD,d]<;>omega
     clear c d;go_wp2;go_ret
     exact⟨rfl,a.o⟩
   ·have p:(k==0)=false:=(by simpa using g);have r:(k !=0)=true:=(by simpa using g);obtain rfl:q=false:=by rw [<-c];simp [xD,g]<;>omega
    clear c g;go_wp2;go_ret
    exact⟨rfl,a.o⟩
  ·by_cases u:l=2
   ·subst u
    by_cases m:j=0
    ·subst m
     by_cases g:k=0
     ·subst g
      by_cases d:i=0
      ·subst d;obtain rfl:q=true:=by rw [<-c];simp [xD]
       clear c;go_wp2;go_ret
       exact⟨rfl,a.o⟩
      ·have n:(i==0)=false:=(by simpa using d);have o:(i !=0)=true:=(by simpa using d);obtain rfl:q=false:=by rw [<-c];simp [xD,d]<;>omega
       clear c d;go_wp2;go_ret
       exact⟨rfl,a.o⟩
     ·have p:(k==0)=false:=(by simpa using g);have r:(k !=0)=true:=(by simpa using g);obtain rfl:q=false:=by rw [<-c];simp [xD,g]<;>omega
      clear c g;go_wp2;go_ret
      exact⟨rfl,a.o⟩
    ·have z:(0:Int)<(j:Int):=(by omega);have A:0<j:=(by omega);obtain rfl:q=false:=by rw [<-c];simp [xD,m]<;>omega
     clear c m;go_wp2;go_ret
     exact⟨rfl,a.o⟩
   ·by_cases v:l=3
    ·subst v
     by_cases m:j=0
     ·subst m
      by_cases g:k=0
      ·subst g
       by_cases d:i=0
       ·subst d;obtain rfl:q=true:=by rw [<-c];simp [xD]
        clear c;go_wp2;go_ret
        exact⟨rfl,a.o⟩
       ·have n:(i==0)=false:=(by simpa using d);have o:(i !=0)=true:=(by simpa using d);obtain rfl:q=false:=by rw [<-c];simp [xD,d]<;>omega
        clear c d;go_wp2;go_ret
        exact⟨rfl,a.o⟩
      ·have p:(k==0)=false:=(by simpa using g);have r:(k !=0)=true:=(by simpa using g);obtain rfl:q=false:=by rw [<-c];simp [xD,g]<;>omega
       clear c g;go_wp2;go_ret
       exact⟨rfl,a.o⟩
     ·have z:(0:Int)<(j:Int):=(by omega);have A:0<j:=(by omega);obtain rfl:q=false:=by rw [<-c];simp [xD,m]<;>omega
      clear c m;go_wp2;go_ret
      exact⟨rfl,a.o⟩
    ·by_cases x:l=4
     ·subst x
      by_cases m:j=0
      ·subst m
       by_cases d:i=0
       ·subst d
        by_cases G:(0:Int)<=k
        ·by_cases M:k<=(9:Int)
         ·obtain rfl:q=true:=by rw [<-c];simp [xD,G,M]
          clear c;go_wp2;go_ret
          exact⟨yl (by simp<;>omega),a.o⟩
         ·obtain rfl:q=false:=by rw [<-c];simp [xD,G,M]<;>omega
          clear c;go_wp2;go_ret
          exact⟨yl (by simp<;>omega),a.o⟩
        ·obtain rfl:q=false:=by rw [<-c];simp [xD,G]<;>omega
         clear c;go_wp2;go_ret
         exact⟨yl (by simp<;>omega),a.o⟩
       ·have n:(i==0)=false:=(by simpa using d);have o:(i !=0)=true:=(by simpa using d);obtain rfl:q=false:=by rw [<-c];simp [xD,d]<;>omega
        clear c d;go_wp2;go_ret
        exact⟨rfl,a.o⟩
      ·have z:(0:Int)<(j:Int):=(by omega);have A:0<j:=(by omega);obtain rfl:q=false:=by rw [<-c];simp [xD,m]<;>omega
       clear c m;go_wp2;go_ret
       exact⟨rfl,a.o⟩
     ·by_cases y:l=5
      ·subst y
       by_cases m:j=0
       ·subst m
        by_cases g:k=0
        ·subst g
         by_cases G:(1:Int)<=i
         ·by_cases M:i<=(4:Int)
          ·obtain rfl:q=true:=by rw [<-c];simp [xD,G,M]
           clear c;go_wp2;go_ret
           exact⟨yl (by simp<;>omega),a.o⟩
          ·obtain rfl:q=false:=by rw [<-c];simp [xD,G,M]<;>omega
           clear c;go_wp2;go_ret
           exact⟨yl (by simp<;>omega),a.o⟩
         ·obtain rfl:q=false:=by rw [<-c];simp [xD,G]<;>omega
          clear c;go_wp2;go_ret
          exact⟨yl (by simp<;>omega),a.o⟩
        ·have p:(k==0)=false:=(by simpa using g);have r:(k !=0)=true:=(by simpa using g);obtain rfl:q=false:=by rw [<-c];simp [xD,g]<;>omega
         clear c g;go_wp2;go_ret
         exact⟨rfl,a.o⟩
       ·have z:(0:Int)<(j:Int):=(by omega);have A:0<j:=(by omega);obtain rfl:q=false:=by rw [<-c];simp [xD,m]<;>omega
        clear c m;go_wp2;go_ret
        exact⟨rfl,a.o⟩
      ·have e1:(l==1)=false:=(by simpa using t);have g1:(l !=1)=true:=(by simpa using t);have e2:(l==2)=false:=(by simpa using u);have g2:(l !=2)=true:=(by simpa using u);have e3:(l==3)=false:=(by simpa using v);have g3:(l !=3)=true:=(by simpa using v);have e4:(l==4)=false:=(by simpa using x);have g4:(l !=4)=true:=(by simpa using x);have e5:(l==5)=false:=(by simpa using y)
       have g5:(l !=5)=true:=by simpa using y
       by_cases m:j=0
       ·subst m
        by_cases g:k=0
        ·subst g
         by_cases d:i=0
         ·subst d;obtain rfl:q=false:=by rw [<-c];simp [xD,t,u,v,x,y]
          clear c t u v x y;go_wp2;go_ret
          exact⟨rfl,a.o⟩
         ·have n:(i==0)=false:=(by simpa using d);have o:(i !=0)=true:=(by simpa using d);obtain rfl:q=false:=by rw [<-c];simp [xD,t,u,v,x,y]
          clear c t u v x y d;go_wp2;go_ret
          exact⟨rfl,a.o⟩
        ·have p:(k==0)=false:=(by simpa using g);have r:(k !=0)=true:=(by simpa using g);obtain rfl:q=false:=by rw [<-c];simp [xD,t,u,v,x,y]
         clear c t u v x y g;go_wp2;go_ret
         exact⟨rfl,a.o⟩
       ·have z:(0:Int)<(j:Int):=(by omega);have A:0<j:=(by omega);obtain rfl:q=false:=by rw [<-c];simp [xD,t,u,v,x,y]
        clear c t u v x y m;go_wp2;go_ret
        exact⟨rfl,a.o⟩
def YH (a:List Field) (i:Nat):Bool:=match a[i]? with|some f=>decide (Zx a f.name=some i) && Xq f|none=>true
def xC (a:List Field):Bool:=decide (1<=a.length/\a.length<=16) && (List.range a.length).all (YH a)
def OV (b:Bool):Int:=if b then 0 else 80
theorem FE {a:List Field} {i:Nat} {f:Field} (h:a[i]? =some f):∃k,Zx a f.name=some k/\k<=i:=by
 rcases hq:Zx a f.name with _|k
 ·unfold Zx at hq;rw [List.findIdx?_eq_none_iff]at hq;have:=hq f (zD h);simp at this
 ·refine⟨k,rfl,?_⟩;unfold Zx at hq;rw [List.findIdx?_eq_some_iff_getElem]at hq;obtain⟨e,g,d⟩:=hq;rcases zk i k with c|b
  ·have:=d i c;rw [zB (zN h)]at h;rw [yG h]at this;simp at this
  ·exact b
theorem XJ (A:aA) (n c:Nat) (l:List Field) (w:O) (hT:Tabs w) (I:zL w (·<w.heap.size) A n c l):
 Calls prog 38 #[.agg #[.slice A n c]] w fun e w' =>e= .returned (.int .i64 (OV (xC l)))/\Below w.heap.size w w' :=by
 have hp:=I.cap;have H:=I.length;obtain⟨q,F⟩:=eX (OV (xC l));rw [F]
 by_cases h0:n=0
 ·subst h0;obtain rfl:q=80:=by rw [<-F];unfold xC;rw [H];rfl
  clear I hT F H;go_enter func38,ntmps38;go_wp2;go_ret
  exact⟨rfl,(zE _ _).alloc (zC _) _⟩
 by_cases ht:(16:Int)<n
 ·obtain rfl:q=80:=by rw [<-F];unfold xC;rw [decide_eq_false (by omega)];rfl
  have h1:¬(n:Int)<1:=(by omega);clear I hT F H;go_enter func38,ntmps38;go_wp2;go_ret
  exact⟨rfl,(zE _ _).alloc (zC _) _⟩
 have h1:¬(n:Int)<1:=by omega
 have G:OV ((List.range n).all (YH l))=q:=by rw [<-F];unfold xC;rw [decide_eq_true (by omega),H];rfl
 have Hq:=zA G;have Hs:=zA I;have HT:=zA hT;have Hl:=zA H;have R:∀i,i<n->YH l i=false->q=80:=fun i hi h=>by rw [<-G,XL hi h];rfl
 have K:=zA R;have S:Below w.heap.size w (w.alloc (.cells #[.slice A n c] 24)):=(zE _ _).alloc (zC _) _;have Z:=zA S;have g:(w.alloc (.cells #[.slice A n c] 24)).cell? ⟨w.heap.size,0,none⟩=some (.slice A n c):=by simp
 obtain⟨W0,m⟩:=eX (w.alloc (.cells #[.slice A n c] 24));have hx:W0.heap.size=w.heap.size+1:=by rw [<-m];simp
 have ha:=zA m;rw [m]at Z g;have N:=zA g;clear I hT F G R S g H m;go_enter func38,ntmps38;go_wp2;rw [ha.o]
 go_loopw [20] (fun i wr=>∃j:Nat,j<=n/\i= .int .i64 j/\(List.range j).all (YH l)=true/\Below W0.heap.size W0 wr) (fun i _=>n - (intOf i).toNat)
 case atStart=>exact⟨0,by omega,rfl,rfl,zE _ _⟩
 case round=>
  obtain⟨i,hi,rfl,u,o⟩:=hrel;have s:=zA u;have P:=zA o;have y:Hid (Below w.heap.size w wr):=Z.o.trans (o.mono (by omega));have ho:=o.size;clear u o
  by_cases D:i<n
  ·obtain⟨b,off,f,rfl,hf,hj,he⟩:=(Hs.o.on y.o).at_ D
   obtain⟨Y,n2,c2,e0,e1,e2,e3,e4,e5,e6,p2,p1,p3,p4,p0⟩:=Field.at_ he
   obtain⟨k,hk,hv⟩:=FE hf.o;have hm:=(P.o.cell (p:=⟨w.heap.size,0,none⟩) (by show w.heap.size<_;omega)).trans N.o;have z:Below wr.heap.size wr (wr.alloc (.cells #[.string f.name,.int .i64 f.kind,.slice Y n2 c2,.int .i64 f.scale,.int .i64 f.dims,.bool f.many,.bool f.stored] 61)):=(zE _ _).alloc (zC _) _
   have W:=Ug (some ⟨b,off,none⟩) n c l f.name (wr.alloc (.cells #[.string f.name,.int .i64 f.kind,.slice Y n2 c2,.int .i64 f.scale,.int .i64 f.dims,.bool f.many,.bool f.stored] 61)) ((Hs.o.on y.o).on z) k hk;have hd:=zA W;have U:=Blk.new wr 61 #[.string f.name,.int .i64 f.kind,.slice Y n2 c2,.int .i64 f.scale,.int .i64 f.dims,.bool f.many,.bool f.stored];have hc:=zA U
   have P2:=zA p2;have P0:=zA p0;have Hf:=zA hf.o;have Hk:=zA hk;have hb:=zA z;have hu:b<wr.heap.size:=hj;have hw:w.heap.size<wr.heap.size:=(by omega);clear hf he hk W U z p2 p0 p1 p3 p4;go_wp2_with fail;refine hd.o.mono ?_;rintro e J ⟨rfl,B⟩;have a:Blk J wr.heap.size _ _:=(B.block wr.heap.size (by simp)).trans hc.o;have f0:=a.cell 0;have f1:=a.cell 1
   have f2:=a.cell 2;have f3:=a.cell 3;have f4:=a.cell 4;have f5:=a.cell 5;have f6:=a.cell 6;simp only [yF,zf,zj]at f0 f1 f2 f3 f4 f5 f6;have v:Below wr.heap.size wr J:=hb.o.trans (B.mono (by simp));have M:Hid (Below wr.heap.size wr J):=v;clear a B e0 e1 e2 e3 e4 e5 e6 hm v;have x:Hid (Below W0.heap.size W0 J):=P.o.trans (M.o.mono ho)
   have t:Hid (Below w.heap.size w J):=Z.o.trans (x.o.mono (by omega))
   by_cases C:k=i
   ·subst C;have hn:((k:Int) !=(k:Int))=false:=(by simp);have d:YH l k=Xq f:=(by unfold YH;rw [Hf.o];simp [Hk.o]);have E:=LH f Y n2 c2 J (HT.o.on t.o) (P2.o.on M.o) P0.o;obtain⟨r,hr⟩:=eX (Xq f);rw [hr]at d E;have hg:=zA E;have Q:=zA d;clear d E hr;go_wp2_with fail;refine hg.o.mono ?_;rintro e w3 ⟨rfl,T⟩
    have L:Hid (Below W0.heap.size W0 w3):=x.o.trans (T.mono x.o.size);clear T;cases r with
    |true=>
     have X:(List.range (k+1)).all (YH l)=true:=(by rw [X5,s.o,Q.o];rfl);have hh:=zA X;clear X;go_wp2
     go_roundw
     case rel=>exact⟨k+1,by omega,by go_num,hh.o,L.o⟩
     case measure=>simp [intOf];omega
    |false=>
     obtain rfl:=K.o k D Q.o;go_wp2;go_ret
     exact⟨rfl,Z.o.trans (L.o.mono (by omega))⟩
   ·have d:YH l i=false:=(by unfold YH;rw [Hf.o];simp [Hk.o,C]);obtain rfl:=K.o i D d;have hn:((k:Int) !=(i:Int))=true:=(by simp;omega);clear d C;go_wp2;go_ret
    exact⟨rfl,t.o⟩
  ·obtain rfl:i=n:=by omega
   obtain rfl:q=0:=by rw [<-Hq.o,s.o];rfl
   go_wp2;go_ret
   exact⟨rfl,y.o⟩
def unlI (b:Bool) (e:Int):Int:=if b then 0 else e
theorem Q3 (b:Bool) (a:Int) (w:O):Calls prog 41 #[.bool b,.int .i64 a] w fun e w' =>e= .returned (.int .i64 (unlI b a))/\w=w' :=by
 cases b
 all_goals
  go_enter func41,ntmps41;go_wp2;go_ret
  exact⟨rfl,rfl⟩
def Vz (f:Field) (text:aB) (n:Nat):Bool:=
 if f.kind=3 then text.toList.isEmpty && decide (n=1)else if f.kind=5 then text.toList.isEmpty && decide ((n:Int)=f.dims)else decide (n=0)
theorem C7 (f:Field) (text:aB) (m A:aA) (t c2 n c:Nat) (w:O):
 Calls prog 43 #[.agg #[.string f.name,.int .i64 f.kind,.slice m t c2,.int .i64 f.scale,.int .i64 f.dims,.bool f.many,.bool f.stored],.string text,.slice A n c] w fun e w' =>e= .returned (.bool (Vz f text n))/\Below w.heap.size w w' :=by
 obtain⟨a,d⟩:=eX (f.kind);obtain⟨q,k⟩:=eX (Vz f text n);have p:=zA k;have o:=zA d;rw [k,d];clear k d;have g:∀b:Bool,(b=true↔q=true)->Ending.returned (.bool b)= .returned (.bool q):=fun b h=>yl (Bool.eq_iff_iff.2 h);have j:=zA g;clear g;obtain⟨i,s⟩:=eX (text.toList.isEmpty)
 have r:(a=3/\i=true)\/(a=3/\i=false)\/(a≠3/\a=5/\i=true)\/(a≠3/\a=5/\i=false)\/(a≠3/\a≠5):=by
  cases i<;>simp only [and_true,and_false,or_false,false_or,reduceCtorEq]<;>omega
 rcases r with⟨rfl,rfl⟩|⟨rfl,rfl⟩|⟨l,rfl,rfl⟩|⟨l,rfl,rfl⟩|⟨l,u⟩
 all_goals
  go_enter func43,ntmps43;go_wp2;go_ret
  refine⟨j.o _ ?_,(zE _ _).alloc (zC _) _⟩;rw [<-p.o];simp [Vz,o.o, *]
  try omega
def lk (o:Option (List Token)) (n:Int):Option (List Token):=o.bind fun l=>if (Zv n l).length<=4096 then some (Zv n l)else none
def lks (t:aD) (toks:List Token):Option (List Token):=t.foldl lk (some toks)
def runT (xs:aD) (s:aB):List Token:=
 match xs with
 | []=> []
 |a::t=>if ZI (a::t)=true/\s.size<=4096/\(xJ a s).length<=4096 then(lks t (xJ a s)).getD []else []
theorem JE (t:aD):t.foldl lk none=none:=by
 induction t with
 |nil=>rfl
 |cons a t ih=>exact ih
theorem JD {t:aD} {toks:List Token} {j:Nat} {y:Int} (h:t[j]? =some y):lks (t.take (j+1)) toks=lk (lks (t.take j) toks) y:=by
 unfold lks;rw [zI,h,Option.toList_some,xE];rfl
theorem nH {t:aD} {toks:List Token} {j:Nat} (h:lks (t.take j) toks=none):lks t toks=none:=by
 have:lks t toks=(t.drop j).foldl lk (lks (t.take j) toks):=by unfold lks;rw [<-xE,zu]
 rw [this,h,JE]
theorem QE (s:aB) (a b:Nat):(s.extract a b).size<=s.size:=by rw [yQ];omega
theorem wV (n:Int) (t:Token):∀b ∈OL n t,b.text.size<=4*t.text.size:=by
 intro b a;unfold OL at a
 have d:∀k,b ∈Yg k t->b.text.size<=t.text.size:=by
  intro k c;unfold Yg at c
  split at c
  ·simp at c;subst c;exact zC _
  ·have:∀j,b ∈Zp t (yg t.text) k j->b.text.size<=t.text.size:=by
    intro j
    induction j with
    |zero=>intro h;cases h
    |succ j ih=>
     intro h;simp only [Zp,List.mem_append,List.mem_singleton]at h;rcases h with h|rfl
     ·exact ih h
     ·exact QE _ _ _
   exact this _ c
 split at a
 ·simp at a;subst a;show(VI t.text).size<=_;have e:=eC t.text (ats t.text);have f:=Qn t.text;have:(VI t.text).size=(bK t.text).length:=(by simp [VI,ByteArray.size]);rw [this];unfold bK;omega
 split at a
 ·unfold We at a
  split at a
  ·cases a
  ·simp at a;subst a;omega
 split at a
 ·have:=d 2 a;omega
 split at a
 ·have:=d 3 a;omega
 split at a
 ·simp at a;subst a
  have:(Q8 t).text.size<=t.text.size:=by
   unfold Q8
   split
   ·exact QE _ _ _
   ·exact zC _
  omega
 split at a
 ·unfold Qf at a
  split at a
  ·cases a
  ·simp at a;subst a;have e:=WO t.text ((yg t.text).length - 1) t.text.size (by simp [yg]);have:(ByteArray.mk (WP t.text).toArray).size=(WP t.text).length:=(by simp [ByteArray.size]);show(ByteArray.mk (WP t.text).toArray).size<=_;rw [this];unfold WP;omega
 ·cases a
def QY (m:Nat) (l:List Token):Prop:=∀t∈l,t.text.size<=m
theorem gY {n:Int} {l:List Token} {m:Nat} (h:QY m l):QY (4*m) (Zv n l):=by
 intro t a;unfold Zv at a;obtain⟨u,b,a⟩:=List.mem_flatMap.1 a;have:=wV n u t a;have:=h u b;omega
theorem VC (n:Int) (s:aB):QY s.size (xJ n s):=by
 have f:∀p b,QY s.size (Xm s p b):=fun p b t d=>(jB s p b t d).size.1;unfold xJ
 split
 ·exact f _ _
 split
 ·exact f _ _
 split
 ·exact f _ _
 ·unfold WU
  have k:∀(t:Token) p n c,t.text.size<=s.size->QY s.size c->∀i,QY s.size (ZX t p n c i):=by
   intro t p n c e j i
   induction i with
   |zero=>exact j
   |succ i ih=>
    intro u g;simp only [ZX,List.mem_append,List.mem_singleton]at g;rcases g with g|rfl
    ·exact ih u g
    ·exact zY (QE _ _ _) e
  have:∀(l:List Token) c,QY s.size l->QY s.size c->QY s.size (l.foldl Zg c):=by
   intro l
   induction l with
   |nil=>intro c _ h;exact h
   |cons a l ih=>
    intro c e j;exact ih _ (fun t d=>e t (List.mem_cons_of_mem _ d)) (k a _ _ _ (e a List.mem_cons_self) j _)
  exact this _ _ (f _ _) (fun t d=>by cases d)
theorem s9 {a:Int} {t:aD} (h:ZI (a::t)=true) {j:Nat} {y:Int} (b:t[j]? =some y):Yx y=true:=by
 simp only [ZI,zM,List.all_eq_true,List.mem_range]at h;have:=h.2 j (zN b);simp only [Xy,b,zM]at this;exact this.1
theorem l6 {a:Int} {t:aD} (h:ZI (a::t)=true):t.length<=7:=by
 simp only [ZI,zM,decide_eq_true_eq]at h;omega
theorem kV {xs:aD} {s:aB} (h:¬s.size<=4096):runT xs s= []:=by
 cases xs with
 |nil=>rfl
 |cons a t=>exact if_neg (fun b=>h b.2.1)
theorem mO {xs:aD} {s:aB} (h:ZI xs=false):runT xs s= []:=by
 cases xs with
 |nil=>rfl
 |cons a t=>exact if_neg (fun b=>by rw [h]at b;cases b.1)
theorem oR {a:Int} {t:aD} {s:aB} {toks:List Token} (h:ZI (a::t)=true) (c:s.size<=4096) (d:xJ a s=toks):runT (a::t) s=if toks.length<=4096 then(lks t toks).getD []else []:=by
 subst d;unfold runT
 by_cases b:(xJ a s).length<=4096
 ·rw [if_pos b];exact if_pos ⟨h,c,b⟩
 ·rw [if_neg b];exact if_neg (fun k=>b k.2.2)
end Go.Proofs.YtjbhbfaeielbiaaGreatDoor

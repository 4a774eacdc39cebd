import Derived.Test.YtjbhbfaeielbiaaGreatDoorPart15
set_option maxRecDepth 100000
set_option maxHeartbeats 8000000
set_option linter.unusedVariables false
set_option linter.unusedSimpArgs false
namespace Go.Proofs.YtjbhbfaeielbiaaGreatDoor
open Tryz
open Rep (rep)
open Go.RowKit Go.Shelf
attribute [local go_sem] Oper.semAt_some
def Zy (c b:Nat) (W a :O):Prop:=W.heap.size<=a.heap.size/\(∀t v,Boxed W c t v->Boxed a c t v)/\∀t v,Boxed W b t v->Boxed a b t v
theorem Zy.trans {b a:Nat} {A B C:O} (h:Zy b a A B) (k:Zy b a B C):Zy b a A C:=⟨zY h.1 k.1,fun t v c=>k.2.1 t v (h.2.1 t v c),fun t v c=>k.2.2 t v (h.2.2 t v c)⟩
theorem Zy.putObj {d c:Nat} (W:O) (l:Nat) (o b :Obj) (h:W.heap[l]? =some o) (f:o.isCells=false):Zy d c W (W.putObj l b):=
 ⟨(grownBy_putObj' W l b).size,fun t v a=>a.kept (grownBy_putObj' W l b) (fun e=>by cases e;rw [show W.heap[d]? =_ from a]at h;cases h;cases f),fun t v a=>a.kept (grownBy_putObj' W l b) (fun e=>by cases e;rw [show W.heap[c]? =_ from a]at h;cases h;cases f)⟩
theorem Boxed.below_ {W a :O} {B:Nat} {t:TypeId} {v:V} (h:Boxed W B t v) (b:Below W.heap.size W a):Boxed a B t v:=(b.block B h.lt).trans h
def XE (A:aA) (size n a x:Nat):V:=match A with
 |some ⟨b,off,_⟩=> .slice (some ⟨b,off+x*size,none⟩) (min a (n - x)) (min a (n - x))
 |none=> .slice none 0 0
def ZC (a k:Nat):aE:=(List.range k).map (·*a)
theorem Xk (a k:Nat):ZC a (k+1)=ZC a k++ [k*a]:=by simp [ZC,List.range_succ]
theorem FV (A:aA) (n c a:Nat) (d:0<a) (g:a<=1000) (w:O):
 Calls prog 159 #[.slice A n c,.int .i64 (a:Int)] w fun e w' =>e= .returned (.func (.func 213) #[] #[.pointer (some ⟨w.heap.size,0,none⟩),.pointer (some ⟨w.heap.size+1,0,none⟩)])/\w' =(w.alloc (.cells #[.slice A n c] 57)).alloc (.cells #[.int .i64 (a:Int)] 3):=by
 have b:=@mF prog;have f:(1:Int)<=a:=by omega
 go_enter func159,ntmps159;go_wp2;go_ret
 exact⟨rfl,rfl⟩
theorem FW (A:aA) (n c a:Nat) (hA:0<n->∃b off,A=some ⟨b,off,none⟩) (S:0<a) (hs:a<=1000) (hn:n<=1000000000000) (hf:n<=c) (hc:c<=9223372036854775807) (d:Nat) (hd:1<=d)
 (l F E:Nat) (J T:List (Fin n)->O->Prop) (W:O) (U:AbidesFrom W.heap.size J)
 (Y:∀pre (x:Fin n) M,J pre M->pre.length<n->YieldAt Fence.wide (d - 1) prog l #[XE A 1 n a x] M fun e t =>
  (e= .returned (.bool true)/\J (pre++ [x]) t /\Zy F E M t)\/(e= .returned (.bool false)/\T (pre++ [x]) t))
 (P:Boxed W F 57 (.slice A n c)) (N:Boxed W E 3 (.int .i64 (a:Int))) (h0:J [] W):
 CallsIn Fence.wide d prog 213 #[.func (.yield l) #[] #[],.pointer (some ⟨F,0,none⟩),.pointer (some ⟨E,0,none⟩)] W fun e t =>(∃v,e= .returned v)/\
  ((∃j,(∃k,j.map Fin.val=ZC a k/\n<=k*a/\(k=0\/(k - 1)*a<n))/\J j t)\/(∃pre,T pre t)):=by
 have HY:=zA Y;have HJ:=zA U;have mixed:Tryz.prog.follows .mixedOrders=true:=by kernel_rfl
 clear Y U;refine callsIn_of_wp func213 rfl trivial ?_ rfl;simp only [ntmps213,yP,z6,yO,Nat.reduceAdd,Nat.reduceSub,xI,xH,xf,xM,zZ,yI]
 gi_wp2
 gi_loopw [4] (fun i wr=>∃(k:Nat) (j:List (Fin n)),i= .int .i64 ((k*a:Nat):Int)/\j.map Fin.val=ZC a k/\(k=0\/(k - 1)*a<n)/\J j wr/\W.heap.size<=wr.heap.size/\Boxed wr F 57 (.slice A n c)/\Boxed wr E 3 (.int .i64 (a:Int))) (fun i _=>n+a - (intOf i).toNat)
 case atStart=>exact⟨0, [],by simp,rfl,.inl rfl,h0,zC _,P,N⟩
 case round=>
  obtain⟨k,j,rfl,f,Z,C,hh,q,p⟩:=hrel;have o:=zA f;have u:=zA C;have Hk:=zA Z;have cs:=q.cell;have cn:=p.cell;have K:=zA q;have I:=zA p;obtain⟨i,Q⟩:=eX (k*a);rw [Q];have w:=zA Q;clear f C Z q p Q
  by_cases r:i<n
  ·obtain⟨b,off,rfl⟩:=hA (by omega);have h1:(i:Int)<=n:=(by omega);have h2:(i:Int)<=c:=(by omega);have h3:(0:Int)<=i:=(by omega);have hg:¬c=i:=(by omega);obtain⟨m,R⟩:=eX (min a (n - i));have he:min (a:Int) ((n - i:Nat):Int)=m:=(by omega);have h4:(i:Int)+m<=c:=(by omega);have h5:(0:Int)<=m:=(by omega);have h6:i+m - i=m:=(by omega)
   have y:=HJ.o _ _ _ _ u.o (⟨rfl,rfl,rfl,zC _,fun _ _ _=>rfl⟩:wr.grownBy wr.drew none) (fun _ e=>by cases e)
   have f:j.length<n:=by
    have h:=congrArg List.length o.o;simp [ZC]at h;have:k<=k*a:=Nat.le_mul_of_pos_right _ S;have:=w.o;omega
   obtain⟨fn,ha,assign,body,hy,X⟩:=HY.o _ ⟨i,r⟩ wr.drew y f;simp only [XE,R,yr]at hy;have HR:=zA X;have Hm:=zA R;clear R X y f
   gi_wp2
   gi_region_with_o (fail)
   all_goals
    gi_wp2
    refine HR.o.mono ?_;rintro e W3 (⟨rfl,z,g⟩|⟨rfl,B⟩)
    ·have D:=g.2.1 _ _ K.o;have s:=g.2.2 _ _ I.o;have hj:wr.heap.size<=W3.heap.size:=g.1;have hb:=s.cell;have H:=zA D;have L:=zA s;have G:=zA z;clear z g D s cs cn
     gi_wp2
     go_roundw
     case rel=>exact⟨k+1,j++ [⟨i,r⟩],by rw [Nat.succ_mul,w.o];go_num,by rw [zw,o.o,Xk,w.o];rfl,.inr (by rw [Nat.add_sub_cancel,w.o];exact r),G.o,by omega,H.o,L.o⟩
     case measure=>simp [intOf];omega
    ·gi_wp2
     refine bodyPost_ret (results_none rfl _ _ _) rfl ?_;exact⟨⟨_,rfl⟩,.inr ⟨_,B⟩⟩
  ·gi_wp2
   go_end0
   exact⟨⟨_,rfl⟩,.inl ⟨_,⟨k,o.o,by rw [w.o];omega,Hk.o⟩,u.o⟩⟩
theorem cQ:Elt prog 123 35 1 8:=xt underlying123 (by decide) (by kernel_rfl)
theorem mC:(Tryz.prog.info? 35).bind (fun i=>i.zero)=some (.int .u64 0):=by kernel_rfl
theorem Zy.of {c b:Nat} {W a :O} {t d :TypeId} {v v' :V} (g:W.heap.size<=a.heap.size) (e:Boxed W c t v) (h:Boxed a c t v) (f:Boxed W b d v') (i:Boxed a b d v'):Zy c b W a :=
 ⟨g,fun _ _ u=>Boxed.same e h u,fun _ _ u=>Boxed.same f i u⟩
theorem Zy.refl (b a:Nat) (W:O):Zy b a W W:=⟨zC _,fun _ _ h=>h,fun _ _ h=>h⟩
theorem LG {l:aD} {x:Int} (h:x∈l):minI l<=x:=nC h
theorem dS {l:aD} (h:l≠ []):minI l∈l:=Wn h
theorem MG {w:O} {L:List Asn} (h:Sp w L) {A:aA} {n c wd:Nat} {l:aE} (b:wd<=64) (j:n<=1048576) (i:RU w A n l) (f:∀x∈l,x<18446744073709551616):
 Calls prog 162 #[.slice A n c,.int .i64 (wd:Int)] w fun e w' =>∃A' m,e= .returned (.slice A' m m)/\m<=8*n+1/\Sp w' (BA A' m m (Z8 l wd)::L):=by
 by_cases d:wd=0
 ·subst d;refine(GC A n c w).mono ?_;rintro e w' ⟨rfl,rfl⟩;have e:Z8 l 0= []:=zS (by rw [XU];simp [yK]);rw [e];exact⟨none,0,rfl,zJ _,h.nil _ _⟩
 ·refine(GB A n c wd l w (by omega) b j i f).mono ?_;rintro e w' ⟨g,rfl,k,a⟩;have:wd*n<=64*n:=yj _ b;exact⟨_,_,rfl,by unfold yK;omega,h.row k a⟩
theorem UL {α β:Type} {f g:α->List β}:∀{l:List α},(∀x∈l,f x=g x)->l.flatMap f=l.flatMap g
 | [],_=>rfl
 |x::l,h=>by rw [zp,zp,h x (by simp),UL fun y a=>h y (by simp [a])]
theorem Sp.put {w:O} {L:List Asn} {g:Nat} {t:TypeId} {v:V} (h:Sp w (BlkA g t #[v]::L)) (u:V):Sp (w.setCell ⟨g,0,none⟩ u) (BlkA g t #[u]::L):=h.set 0 u
def V2 (l:aD) (x:Nat):aD:=(l.drop x).take 128
theorem gU (l:aD):∀(k:Nat),putL l=(ZC 128 k).flatMap (fun x=>if l.drop x= []then []else Zf (V2 l x))++putL (l.drop (k*128))
 |0=>by simp [ZC]
 |k+1=>by
  rw [gU l k,Xk,yS,zO]
  congr 1
  simp only [zp,x7,zo]
  by_cases h:l.drop (k*128)= []
  ·rw [if_pos h,h,QP,zQ (by have:=congrArg List.length h;rw [ze]at this;simp at this;omega),QP];rfl
  ·rw [if_neg h,U6 h,List.drop_drop,Nat.succ_mul];rfl
abbrev PutI (A:aA) (n c:Nat) (l:aD) (w:O) (a:aA) (m b:Nat) (pre:List (Fin n)):List Asn:=
 [BlkA w.heap.size 65 #[.slice a m b],BA a m b (pre.flatMap fun x=>Zf (V2 l x.val)),BlkA (w.heap.size+1+1) 3 #[.int .i64 128],BlkA (w.heap.size+1) 57 #[.slice A n c],OldA w.heap.size w]
theorem PutI.cls {A:aA} {n c:Nat} {l:aD} {w:O} {a:aA} {m b:Nat} {pre:List (Fin n)} {B:Nat} (h:w.heap.size<=B):Cls B (PutI A n c l w a m b pre):=
 ⟨BlkA.cl _ _ _ _,RowA.cl _ _ _ _ _ _,BlkA.cl _ _ _ _,BlkA.cl _ _ _ _,OldA.cl h,trivial⟩
theorem Qc (A:aA) (n c:Nat) (l:aD) (w:O) (hn:n<=1000000000) (y7:n<=c) (hc:c<=9223372036854775807) (hl:RI w A n l) (hL:InL l):
 Calls prog 86 #[.slice A n c] w fun e w' =>∃A' m,e= .returned (.slice A' m m)/\m<=2000*n/\Sp w' [BA A' m m (putL l),OldA w.heap.size w]:=by
 have hA:0<n->∃b off,A=some ⟨b,off,none⟩:=fun h=>by obtain⟨b,off,e,_⟩:=hl.2 h;exact⟨b,off,e⟩
 have Hl:=zA hl;have HL:=zA hL;clear hl hL;refine(callsIn_wide (n:=6)).1 ?_;refine callsIn_of_wp_marks func86 rfl trivial ?_ rfl;simp only [ntmps86,yP,z6,yO,Nat.reduceAdd,Nat.reduceSub,xI,xH,xf,xM,zZ,yI]
 gi_wp2_with (refine⟨trivial,?_⟩;gi_at_call 159;refine(callsIn_wide.2 (FV A n c 128 (by decide) (by decide) _)).mono ?_;rintro e w2 ⟨rfl,rfl⟩)
 have g:Sp (((w.alloc (.cells #[.slice none 0 0] 65)).alloc (.cells #[.slice A n c] 57)).alloc (.cells #[.int .i64 128] 3)) (PutI A n c l w none 0 0 []):=
  ((((((Sp.start w).nil 5 1).blkH 65 #[.slice none 0 0] (H:=w.heap.size) rfl).blkH 57 #[.slice A n c] (H:=w.heap.size+1) (by simp)).blkH 3 #[.int .i64 128] (H:=w.heap.size+1+1) (by simp)).p2).p3.p1
 have y8:(((w.alloc (.cells #[.slice none 0 0] 65)).alloc (.cells #[.slice A n c] 57)).alloc (.cells #[.int .i64 128] 3)).heap.size=w.heap.size+3:=by simp
 obtain⟨W0,hz⟩:=eX ((((w.alloc (.cells #[.slice none 0 0] 65)).alloc (.cells #[.slice A n c] 57)).alloc (.cells #[.int .i64 128] 3)));rw [hz]at g y8⊢;clear hz;have bS:Boxed W0 (w.heap.size+1) 57 (.slice A n c):=g.blkOf (.tail _ (.tail _ (.tail _ (.head _))));have bN:Boxed W0 (w.heap.size+1+1) 3 (.int .i64 128):=g.blkOf (.tail _ (.tail _ (.head _)))
 refine wpIn_rangeFunc_ownH (α:=Fin n) rfl (by omega) (gf:=213) (lb:= #[.pointer (some ⟨w.heap.size+1,0,none⟩),.pointer (some ⟨w.heap.size+1+1,0,none⟩)]) rfl trivial (enters_of func213 (by kernel_rfl) rfl)
  (encs:=fun x:Fin n=> #[XE A 1 n 128 x]) (Kp:=Zy (w.heap.size+1) (w.heap.size+1+1)) (S:=fun ys=>∃k,ys.map Fin.val=ZC 128 k/\n<=k*128/\(k=0\/(k - 1)*128<n)) (Sp:=fun _=>True) (N:=n) (w0:=W0)
  (fun F J Jx W hW hJ _ hY h0=>(FW A n c 128 hA (by decide) (by decide) (by omega) y7 hc (6 - 1) (by omega) F _ _ J Jx W hJ hY (Boxed.below_ bS hW) (Boxed.below_ bN hW) h0).mono fun _ _ ⟨he,h⟩=>⟨he,h.imp (fun⟨ys,h1,P⟩=>⟨ys,h1,P⟩) (fun⟨pre,h⟩=>⟨pre,trivial,h⟩)⟩)
  Zy.trans (fun W F o o' _ h hc _=>Zy.putObj W F o o' h hc) (zE _ _) (fun _=>rfl)
  (fun pre W=>(∃G m L,m<=2000*pre.length/\Sp W (PutI A n c l w G m L pre))/\W0.heap.size<=W.heap.size) (fun _ _ _=>False)
  (fun s X Y a1 hs hg hr=>⟨by obtain⟨⟨G,m,L,h1,P⟩,_⟩:=hs;exact⟨G,m,L,h1,P.from hg hr (PutI.cls (by omega))⟩,zY hs.2 hg.size⟩)
  (fun _ _ _ _ _ hs _ _=>hs)
  ⟨⟨none,0,0,zJ _,g⟩,zC _⟩
  (fun x a' _=>a' ={tmps:= #[.slice A n c,undef,.slice none 0 0,.pointer (some ⟨w.heap.size,0,none⟩),XE A 1 n 128 x,undef,undef,undef,undef,undef,.slice A n c,.func (.func 213) #[] #[.pointer (some ⟨w.heap.size+1,0,none⟩),.pointer (some ⟨w.heap.size+1+1,0,none⟩)],XE A 1 n 128 x,undef,undef,undef,undef,undef,undef,undef,undef,undef,undef,undef,undef,undef,undef,undef,undef,undef,undef,undef,undef,undef,undef,undef,undef,undef,undef,undef,undef,undef,undef,undef,undef,undef,undef,undef,undef,undef],defers:= []})
  (fun _ _ _ _ _ _ hs _ _=>hs)
  ?assign ?body ?done ?stop
 case assign=>
  rintro F pre x W K hI hK
  gi_wp2
  exact hK _ _ (KeepsFrom.refl _ _) (Zy.refl _ _ _) hI rfl
 case body=>
  rintro F pre x a' W hl ⟨r,hr⟩ ⟨⟨G,m,L,hm,g⟩,R⟩ rfl aw;obtain⟨b,off,rfl⟩:=hA (Nat.lt_of_le_of_lt (zJ _) x.isLt);obtain⟨i,hi⟩:=eX (x.val);have ar:i<n:=(by rw [<-hi];exact x.isLt);obtain⟨M,hM⟩:=eX (min 128 (n - i));have hx:0<M:=(by omega);have ag:M<=128:=(by omega);have y2:i+M<=n:=(by omega);obtain⟨d,t⟩:=eX ((l.drop i).take M)
  have h5:Hid (V2 l x.val=d):=by
   show _=_;have y5:l.length=n:=(by have:=Hl.o.1;simpa [ints]using this);unfold V2;rw [hi,<-t];rcases Nat.le_total 128 (n - i)with h|h
   ·rw [show M=128 by omega]
   ·rw [zF (by rw [ze];omega),zF (by rw [ze];omega)]
  have v:RI w (some ⟨b,off+i,none⟩) M d:=by
   have h:=RC.sub_at Hl.o (i:=i) (k:=M) y2;simp only [yr]at h;rw [<-t];unfold RI
   simpa [ints,List.map_take,List.map_drop]using h
  have h6:d.length=M:=(by have:=v.1;simpa [ints]using this);have hp:=zA v;have y0:=zA (v.on (g.below (.tail _ (.tail _ (.tail _ (.tail _ (.head _)))))));have p:=zA (show ∀y∈d, -9223372036854775808<=y/\y<=9223372036854775807 from fun y E=>HL.o y (List.mem_of_mem_drop (yu (t▸E))));have hb:=zA h6;have HK:=g.kp (PutI.cls (B:=W0.heap.size) (by omega));have Hr:=zA hr
  clear v t h6 hr g;have HX:=zA hi;simp only [XE,yr,hi,hM];clear hi hM;have af :1<=6 - 1 - 1:=by omega
  gi_wp2_with (first
   |(refine⟨trivial,?_⟩;gi_at_call 160;refine(yU F (callsIn_wide.2 (LF _ M M d _ hx (by omega) y0.o))).mono ?_;rintro e w2 ⟨rfl,rfl⟩)
   |(gi_at_make;refine rB cQ (.tmp 16) (.tmp 16) rfl rfl HK rfl rfl rfl (by omega) (by omega) mC ?_;intro w1 hj;rw [Vv]at hj))
  obtain⟨f,x1⟩:∃f:Int->Nat,f=fun y=>(y - minI d).toNat:=⟨_,rfl⟩;have ht:=zA x1;clear x1
  gi_loopw [20] (fun vi wr=>∃(q:Nat) (cur:aE),q<=M/\vi= .int .i64 q/\cur.length=M/\Hid (cur.take q=(d.take q).map f)/\Sp wr (RowA 35 1 (.slice (some ⟨W.heap.size,0,none⟩) M M) M (uC cur)::KpA W0.heap.size W::PutI (some ⟨b,off,none⟩) n c l w G m L pre)) (fun vi _=>M - (intOf vi).toNat)
  case atStart=>exact⟨0,List.replicate M 0,zJ _,rfl,by simp,rfl,hj⟩
  case round=>
   obtain⟨q,cur,hq,rfl,h8,hd,a⟩:=hrel
   by_cases xi:q<M
   ·obtain⟨y,E⟩:∃y,d[q]? =some y:=⟨_,zB (by rw [hb.o];exact xi)⟩
    have am:wr.cell? ⟨b,off+i+q,none⟩=some (.int .i64 y):=by
     obtain⟨b',ae,e,_,h⟩:=(RI.on hp.o (a.below (.tail _ (.tail _ (.tail _ (.tail _ (.tail _ (.tail _ (.head _))))))))).2 hx;cases e;exact h q _ (by simp [ints,E])
    have ak:=a.rowCell (.head _) (WB (zB (l:=cur) (i:=q) (by omega)));have aq:=a.rowFree (.head _) q;have aa:=p.o y (zD E);have xb:=LG (zD E);have y6: -9223372036854775808<=minI d:=(p.o _ (dS (by intro h;rw [h]at E;simp at E))).1
    have hv:IntKind.u64.wrap (IntKind.u64.wrap y - IntKind.u64.wrap (minI d))=((f y:Nat):Int):=by
     rw [show f y=(y - minI d).toNat by rw [ht.o],zW,zW,zW];omega
    have h7:Hid ((cur.set q (f y)).take (q+1)=(d.take (q+1)).map f):=by
     show _=_;rw [zI,zI,E,List.take_set_of_le (zC _),hd.o];simp [xO,h8,xi]
    have xn:=a.rowSet q (.int .u64 (f y:Int))
    have xs:Sp (wr.setCell ⟨W.heap.size,q,none⟩ (.int .u64 (f y:Int))) (RowA 35 1 (.slice (some ⟨W.heap.size,0,none⟩) M M) M (uC (cur.set q (f y)))::KpA W0.heap.size W::PutI (some ⟨b,off,none⟩) n c l w G m L pre):=by
     have e:uC (cur.set q (f y))=(uC cur).set q (.int .u64 (f y:Int)):=(by simp [uC,List.map_set]);rw [e];exact xn
    clear E xb y6 aa xn
    gi_wp2
    go_roundw
    case rel=>exact⟨q+1,cur.set q (f y),by omega,by go_num,by simpa using h8,h7,xs⟩
    case measure=>simp [intOf];omega
   ·obtain rfl:q=M:=by omega
    have h4:cur=xv d:=by
     have h:=hd.o;rw [zF (by omega),zF (by rw [hb.o];omega)]at h;rw [h,ht.o];rfl
    subst h4;have z:=Wv p.o;obtain⟨wd,C⟩:=eX (ZW (xv d));have x2:wd<=64:=(by rw [<-C];exact UU z);have hw:=zA (kL (some ⟨W.heap.size,0,none⟩) q q (xv d) wr (by omega) (a.rc (.head _)) z);rw [C]at hw;have y1:=zA z;have y3:=a.cell (.tail _ (.tail _ (.head _))) 0;have an:=(a.blkOf (.tail _ (.tail _ (.head _)))).frozen 0
    have I:=a.rb (.tail _ (.tail _ (.tail _ (.head _))));have hh:=p.o _ (dS (by intro h;have P:=hb.o;rw [h]at P;simp at P;omega));have x6:=zA (pInt a (c:=L) I.1 (x:=minI d) (by have:=pre.length;omega) hh);have x4:=zA C;clear hd z I C
    gi_wp2_with (first
     |(refine⟨trivial,?_⟩;gi_at_call 137;refine(yU F (callsIn_wide.2 hw.o)).mono ?_;rintro e w2 ⟨rfl,rfl⟩)
     |(refine⟨trivial,?_⟩;gi_at_call 161;refine(yU F (callsIn_wide.2 x6.o)).mono ?_;rintro e w3 ⟨A3,T,rfl,ax,U⟩;have ah:=U.cell (.tail _ (.tail _ (.tail _ (.head _)))) 0;have ao:=(U.blkOf (.tail _ (.tail _ (.tail _ (.head _))))).frozen 0;have x3:=(U.p3.put (.slice A3 T T)).p4.tail.p1)
     |(gi_at_builtin;refine YA yW (.tmp 39) (.tmp 42) rfl rfl (x3.al _) rfl rfl (Ye _ #[.int .u8 (wd:Int)] _ rfl (H:=w3.heap.size) (by simp [World.setCell])) (by intro u hu;simp at hu;subst hu;rfl) (by omega) (by omega) ?_;intro A4 c4 w4 ai ay hk;have x5:=zA (MG hk (c:=q) x2 (by omega) (hk.rc (.tail _ (.tail _ (.head _)))) y1.o))
     |(refine⟨trivial,?_⟩;gi_at_call 162;refine(yU F (callsIn_wide.2 x5.o)).mono ?_;rintro e w7 ⟨A7,m7,rfl,az,ho⟩;have x8:=zA (ho.rb (.head _)).1.reads)
     |(gi_at_builtin;refine YA yW (.tmp 43) (.tmp 46) rfl rfl ho.p1 rfl rfl x8.o (xd _) (by omega) (by omega) ?_;intro A8 c8 w8 aj a0 Z;have ad :=Z.cell (.tail _ (.tail _ (.head _))) 0;have ap:=(Z.blkOf (.tail _ (.tail _ (.head _)))).frozen 0))
    have j:=Z.d1.p1.put (.slice A8 (T+1+m7) c8);have hf:=j.kf (.tail _ (.tail _ (.tail _ (.head _))));have q1:Boxed W (w.heap.size+1) 57 (.slice (some ⟨b,off,none⟩) n c):=HK.blkOf (.tail _ (.tail _ (.tail _ (.tail _ (.head _)))))
    have q2:Boxed (w8.setCell ⟨w.heap.size,0,none⟩ (.slice A8 (T+1+m7) c8)) (w.heap.size+1) 57 (.slice (some ⟨b,off,none⟩) n c):=j.blkOf (.tail _ (.tail _ (.tail _ (.tail _ (.tail _ (.head _))))));have q3:Boxed W (w.heap.size+1+1) 3 (.int .i64 128):=HK.blkOf (.tail _ (.tail _ (.tail _ (.head _))))
    have q4:Boxed (w8.setCell ⟨w.heap.size,0,none⟩ (.slice A8 (T+1+m7) c8)) (w.heap.size+1+1) 3 (.int .i64 128):=j.blkOf (.tail _ (.tail _ (.tail _ (.tail _ (.head _)))))
    have ha:Sp (w8.setCell ⟨w.heap.size,0,none⟩ (.slice A8 (T+1+m7) c8)) (PutI (some ⟨b,off,none⟩) n c l w A8 (T+1+m7) c8 (pre++ [x])):=by
     have ha:=j.d2.d2
     have e:bC ((pre++ [x]).flatMap fun x=>Zf (V2 l x.val))=bC ((pre.flatMap fun x=>Zf (V2 l x.val))++zP (yc (minI d)))++ #[Value.int .u8 (wd:Int)].toList++bC (Z8 (xv d) wd):=by
      rw [yS,zp,x7,zo,h5.o,y9,y9,zO,zO]
      congr 1
      unfold Zf;rw [x4.o,y9]
      congr 1
      show bC (wd.toUInt8::_)=_;rw [show(wd.toUInt8::Z8 (xv d) wd)= [wd.toUInt8]++Z8 (xv d) wd from rfl,y9]
      congr 1
      simp [bC,Yt (show wd<256 by omega)]
     unfold PutI BA;rw [e];exact ha
    exact⟨hf,Zy.of hf.size q1 q2 q3 q4,⟨A8,T+1+m7,c8,by simp;omega,ha⟩,zY R hf.size⟩
 case done=>
  rintro D ys W hD ⟨k,h9,au,av⟩ ⟨⟨G,m,L,hm,g⟩,R⟩ hK;have y3:=g.cell (.head _) 0;have Q:=(g.rb (.tail _ (.head _))).2
  gi_wp2_with (refine⟨trivial,?_⟩;gi_at_call 55;refine(callsIn_wide.2 (Zt _ _ _ _ Q.1 Q.2)).mono ?_;rintro e w3 ⟨rfl,rfl⟩)
  have a:=(g.from (grownBy_putObj' W D (.deferred none)) (fun r e=>by cases e;exact⟨hD,_,hK,rfl⟩) (PutI.cls (B:=W0.heap.size) (by omega))).tail.d1.d1.clip
  have y4:(ys.flatMap fun x=>Zf (V2 l x.val))=putL l:=by
   have y5:l.length=n:=Hl.o.len;have h:=gU l k;rw [zQ (by omega),QP,zo,<-h9,List.flatMap_map]at h;rw [h];refine UL fun x _=> ?_;rw [if_neg];intro P;have h3:=congrArg List.length P;rw [ze,yO]at h3;have:=x.isLt;omega
  rw [y4]at a;refine⟨by simp,.inl ⟨_,_,rfl,run_takeDeferred hK,?_⟩⟩;have ab:ys.length=k:=(by have:=congrArg List.length h9;simpa [ZC]using this);exact⟨_,results_tmp rfl _ _ _,G,m,rfl,by rw [ab]at hm;omega,a⟩
 case stop=>exact fun _ _ _ _ _ _ h=>h.elim
end Go.Proofs.YtjbhbfaeielbiaaGreatDoor

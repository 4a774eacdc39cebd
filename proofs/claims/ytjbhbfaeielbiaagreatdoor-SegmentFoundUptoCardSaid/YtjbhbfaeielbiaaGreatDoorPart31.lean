import Derived.Test.YtjbhbfaeielbiaaGreatDoorPart26
import Derived.Test.YtjbhbfaeielbiaaGreatDoorPart25
set_option maxRecDepth 100000
set_option maxHeartbeats 8000000
set_option linter.unusedVariables false
set_option linter.unusedSimpArgs false
namespace Go.Proofs.YtjbhbfaeielbiaaGreatDoor
open Go.RowKit
theorem Wf {a:aD} (h:Q6 a=true):∀(d i:Nat),i+d<a.length->a.getD i 0<=a.getD (i+d) 0
 |0,i,_=>Int.le_refl _
 |d+1,i,hi=>by
  have c:=Wf h d i (by omega);unfold Q6 OK at h;rw [List.all_eq_true]at h;have b:=h (i+d) (List.mem_range.2 (by omega));simp only [decide_eq_true_eq]at b;rw [<-Nat.add_assoc];omega
theorem Qb:∀(ps:List PostD) (last:Int) (all:Nat), -1<=last->last<16384->all<=1048576->xa last all ps=true->YJ ps/\all+(ym ps).length<=1048576/\(ps.length:Int)<=16383 - last
 | [],last,all,h1,h0,h2,_=>⟨fun p n=>(by cases n),by simpa [ym]using h2,by simp;omega⟩
 |p::l,last,all,h1,h0,h2,h=>by
  simp only [xa,Yv,zM,decide_eq_true_eq]at h;obtain⟨⟨⟨⟨⟨⟨⟨t,b⟩,u⟩,f⟩,c⟩,v⟩,w⟩,g⟩:=h;obtain⟨j,k,x⟩:=Qb l p.doc (all+p.pos.length) (by omega) b f g;refine⟨fun q a=> ?_,?_,by simp only [z6];omega⟩
  ·rcases yx.1 a with rfl|a
   ·refine⟨by omega,b,by omega,fun z o=> ?_⟩;obtain⟨i,d⟩:=z8 o;have m:=zN d;have e:=Xf d;have r:=Wf c i 0 (by omega);have s:=Wf c (q.pos.length - 1 - i) i (by omega);rw [zx,e]at r;rw [show i+(q.pos.length - 1 - i)=q.pos.length - 1 by omega,e]at s;omega
   ·exact j q a
  ·simp only [ym,zp,zG,WJ]at k⊢;omega
theorem QN {ps:List PostD} (h:xk ps=true):YJ ps/\(ym ps).length<=1048576/\ps.length<=16384:=by
 obtain⟨a,b,c⟩:=Qb ps (-1) 0 (by omega) (by omega) (by omega) h;exact⟨a,by omega,by omega⟩
def endD (b:List PostD) (last:Int):Int:=(b.getLast?.map PostD.doc).getD last
def blkD (ps:List PostD) (a:aC×Int) (x:Nat):aC×Int:=
 let b:=(ps.drop x).take 8
 (a.1++zP (Yu b a.2).length++zP (IntKind.u64.wrap (endD b a.2 - a.2)).toNat++Yu b a.2,endD b a.2)
def YB (ps:List PostD):aC:=((ZC 8 ((ps.length+7) / 8)).foldl (blkD ps) (zP ps.length, -1)).1
theorem rZ {n k:Nat} (a:n<=k*8) (b:k=0\/(k - 1)*8<n):k=(n+7) / 8:=by omega
theorem YJ.sub {ps:List PostD} (h:YJ ps) (x:Nat):YJ ((ps.drop x).take 8):=fun p a=>h p (List.mem_of_mem_drop (yu a))
theorem fB {b:List PostD} {last:Int} (h:YJ b) (a: -1<=last/\last<16384): -1<=endD b last/\endD b last<16384:=by
 unfold endD;rcases hb:b.getLast? with _|p
 ·exact a
 ·have:=h p (List.mem_of_getLast? hb);simp;omega
theorem wP (ps:List PostD) (x:Nat):(ym ((ps.drop x).take 8)).length<=(ym ps).length:=by
 unfold ym
 conv=>rhs;rw [<-zu x ps,yS,<-zu 8 (ps.drop x),yS]
 simp only [zG];omega
open Go.Proofs.Tryz
open Rep (rep)
open Go.RowKit Go.Shelf
attribute [local go_sem] Oper.semAt_some
theorem zL.sub_at {α:Type} [Rep α] {w:O} {F:Nat->Prop} {b off n c:Nat} {xs:List α} (h:zL w F (some ⟨b,off,none⟩) n c xs) {i k:Nat} (l:i+k<=n):zL w F (some ⟨b,off+i*Rep.size α,none⟩) k k ((xs.drop i).take k):=by
 have m:=h.length;refine⟨by rw [zr,ze];omega,zC _,by have:=h.cap;omega,fun q x a=> ?_⟩;have f:q<k:=by have:=zN a;rw [zr]at this;omega
 rw [yy,if_pos f,List.getElem?_drop]at a;obtain⟨hF,cs,d,e⟩:=h.elem a;refine⟨b,off+i*Rep.size α,rfl,hF,cs,d,fun j u g=> ?_⟩;have:=e j u g;rw [xK]at this;rw [show off+i*Rep.size α+q*Rep.size α+j=off+(i*Rep.size α+q*Rep.size α)+j by omega];exact this
def W9 (ps:List PostD) (w:O) (e:Ending) (w' :O):Prop:=
 if xk ps=true then ∃A' m,m<=200000000000000/\e= .returned (.tuple #[.slice A' m m,.int .i64 0])/\Sp w' [BA A' m m (YB ps),OldA w.heap.size w]
 else e= .returned (.tuple #[.slice none 0 0,.int .i64 1])/\Below w.heap.size w w'
theorem W9.bad {ps:List PostD} {w w' :O} (h:xk ps=false) (a:Below w.heap.size w w'):W9 ps w (.returned (.tuple #[.slice none 0 0,.int .i64 1])) w' :=by
 unfold W9;rw [if_neg (by simp [h])];exact⟨rfl,a⟩
theorem W9.ok {ps:List PostD} {w w' :O} {A' :aA} {m:Nat} (h:xk ps=true) (a:m<=200000000000000) (b:Sp w' [BA A' m m (YB ps),OldA w.heap.size w]):W9 ps w (.returned (.tuple #[.slice A' m m,.int .i64 0])) w' :=by
 unfold W9;rw [if_pos h];exact⟨A',m,a,rfl,b⟩
theorem sM {l:aD} (h:InL l) (b:l.length<=128):(Zf l).length<=1035:=by
 have c:=UU (Wv h);have d:(xv l).length=l.length:=by simp [xv]
 have e:(zP (yc (Lib.minOf l))).length<=10:=by
  refine ya (QH ?_);cases l with
  |nil=>decide
  |cons a l=>exact h _ (dS (by simp))
 unfold Zf;rw [zG,z6,XU,d];have f:ZW (xv l)*l.length<=64*128:=Nat.mul_le_mul c b;unfold yK;omega
theorem Vo:∀(N:Nat) {l:aD},l.length<=N->InL l->(putL l).length<=1035*l.length
 |0,l,hN,_=>by
  have:l= []:=zS (by omega);subst this;rw [QP];exact zJ _
 |N+1,l,hN,hi=>by
  by_cases h:l= []
  ·subst h;rw [QP];exact zJ _
  ·have c:0<l.length:=by cases l with|nil=>exact absurd rfl h|cons=>simp
   have d:=sM (l:=l.take 128) (fun x a=>hi x (yu a)) (by rw [zr];omega);have b:=Vo N (l:=l.drop 128) (by rw [ze];omega) (fun x a=>hi x (List.mem_of_mem_drop a));rw [ze]at b;rw [U6 h,zG];omega
theorem eG:∀(last:Int) (l:List PostD),(docD last l).length=l.length
 |_, []=>rfl
 |_,p::l=>by simp [docD,eG p.doc l]
theorem kY {b:List PostD} {last:Int} (h:YJ b) (a: -1<=last/\last<16384) (f:b.length<=8) (g:(ym b).length<=1048576):(Yu b last).length<=1100000000:=by
 have c:=Vo _ (zC _) (cU b last a.1 a.2 h);have d:=Vo _ (zC _) (d8 h);have i:=Vo _ (zC _) (VT h);rw [eG]at c;have e:(ZS b).length=b.length:=by simp [ZS]
 rw [e]at d;unfold Yu;simp only [zG];omega
abbrev PbI (A:aA) (n c:Nat) (w:O) (G:Nat) (b:aA) (m d:Nat) (a:aC) (last:Int):List Asn:=
 [BlkA G 65 #[.slice b m d],BlkA (G+1) 3 #[.int .i64 last],BA b m d a,BlkA (G+1+1+1) 3 #[.int .i64 8],BlkA (G+1+1) 110 #[.slice A n c],OldA w.heap.size w]
theorem PbI.cls {A:aA} {n c:Nat} {w:O} {G:Nat} {b:aA} {m d:Nat} {a:aC} {last:Int} {B:Nat} (h:w.heap.size<=B):Cls B (PbI A n c w G b m d a last):=
 ⟨BlkA.cl _ _ _ _,BlkA.cl _ _ _ _,RowA.cl _ _ _ _ _ _,BlkA.cl _ _ _ _,BlkA.cl _ _ _ _,OldA.cl h,trivial⟩
def Zw (ps:List PostD) {n:Nat} (pre:List (Fin n)):aC×Int:=(pre.map Fin.val).foldl (blkD ps) (zP ps.length, -1)
theorem AK (ps:List PostD) {n:Nat} (pre:List (Fin n)) (x:Fin n):Zw ps (pre++ [x])=blkD ps (Zw ps pre) x.val:=by simp [Zw,xE]
theorem jK (A:aA) (n c:Nat) (ps:List PostD) (w:O) (hn:n<=1000000) (hl:zL w (·<w.heap.size) A n c ps) (hp:∀p∈ps,p.pos.length<=10000000000):
 Calls prog 203 #[.slice A n c] w fun e w' =>W9 ps w e w' :=by
 have hA:0<n->∃b off,A=some ⟨b,off,none⟩:=fun h=>by obtain⟨b,off,_,e,_⟩:=hl.at_ h;exact⟨b,off,e⟩
 have hh:=hl.cap;have Hl:=zA hl;have q:=zA hl.length;obtain⟨rb,hw⟩:=eX (xk ps);have hu:=zA (DI A n c ps w (by omega) hl hp);rw [hw]at hu;have ht:=zA hw;clear hl hp hw;refine(callsIn_wide (n:=6)).1 ?_;refine callsIn_of_wp_marks func203 rfl trivial ?_ rfl;simp only [ntmps203,yP,z6,yO,Nat.reduceAdd,Nat.reduceSub,xI,xH,xf,xM,zZ,yI];cases rb with
 |false=>
  gi_wp2_with (refine⟨trivial,?_⟩;gi_at_call 263;refine(callsIn_wide.2 hu.o).mono ?_;rintro e w2 ⟨rfl,P⟩)
  refine⟨_,results_tmp2 rfl _ _ _,?_⟩;exact W9.bad ht.o P
 |true=>
  gi_wp2_with (first
   |(refine⟨trivial,?_⟩;gi_at_call 263;refine(callsIn_wide.2 hu.o).mono ?_;rintro e w2 ⟨rfl,P⟩)
   |(refine⟨trivial,?_⟩;gi_at_call 85;refine(callsIn_wide.2 (ZR ((Sp.start w).grow P) (RB.none_ _) (x:=n) (by omega) (by omega))).mono ?_;rintro e w3 ⟨v,l,rfl,a2,g⟩)
   |(refine⟨trivial,?_⟩;gi_at_call 264;refine(callsIn_wide.2 (BJ A n c 8 (by decide) (by decide) _)).mono ?_;rintro e w4 ⟨rfl,rfl⟩))
  obtain⟨h5,y4,hN⟩:=QN ht.o;rw [q.o]at hN;have x5:=zA h5;clear h5;obtain⟨G,hG⟩:=eX (w3.heap.size);have aj:w.heap.size<=G:=hG▸(g.below (.tail _ (.head _))).size
  have C:Sp ((((w3.alloc (.cells #[.slice v l l] 65)).alloc (.cells #[.int .i64 (-1)] 3)).alloc (.cells #[.slice A n c] 110)).alloc (.cells #[.int .i64 8] 3)) (PbI A n c w G v l l (zP n) (-1)):=by
   have h:=(((g.blkH 65 #[.slice v l l] (H:=G) hG).blkH 3 #[.int .i64 (-1)] (H:=G+1) (by simp [hG])).blkH 110 #[.slice A n c] (H:=G+1+1) (by simp [hG])).blkH 3 #[.int .i64 8] (H:=G+1+1+1) (by simp [hG]);exact h.p4.p3.p4
  have aa:((((w3.alloc (.cells #[.slice v l l] 65)).alloc (.cells #[.int .i64 (-1)] 3)).alloc (.cells #[.slice A n c] 110)).alloc (.cells #[.int .i64 8] 3)).heap.size=G+4:=(by simp [hG]);obtain⟨W0,h6⟩:=eX (((((w3.alloc (.cells #[.slice v l l] 65)).alloc (.cells #[.int .i64 (-1)] 3)).alloc (.cells #[.slice A n c] 110)).alloc (.cells #[.int .i64 8] 3)));simp only [hG];rw [h6]at C aa⊢
  clear h6;have bS:Boxed W0 (G+1+1) 110 (.slice A n c):=C.blkOf (.tail _ (.tail _ (.tail _ (.tail _ (.head _)))));have bN:Boxed W0 (G+1+1+1) 3 (.int .i64 8):=C.blkOf (.tail _ (.tail _ (.tail _ (.head _))))
  have hy :Sp W0 (PbI A n c w G v l l (Zw ps ([]:List (Fin n))).1 (Zw ps ([]:List (Fin n))).2):=by
   show Sp W0 (PbI A n c w G v l l (zP ps.length) (-1));rw [q.o];exact C
  clear C
  refine wpIn_rangeFunc_ownH (α:=Fin n) rfl (by omega) (gf:=323) (lb:= #[.pointer (some ⟨G+1+1,0,none⟩),.pointer (some ⟨G+1+1+1,0,none⟩)]) rfl trivial (enters_of func323 (by kernel_rfl) rfl)
   (encs:=fun x:Fin n=> #[XE A 2 n 8 x]) (Kp:=Zy (G+1+1) (G+1+1+1)) (S:=fun ys=>∃k,ys.map Fin.val=ZC 8 k/\n<=k*8/\(k=0\/(k - 1)*8<n)) (Sp:=fun _=>True) (N:=n) (w0:=W0)
   (fun lq J Jx W hW hJ _ hY h0=>(BK A n c 8 hA (by decide) (by decide) (by omega) hh.1 hh.2 (6 - 1) (by omega) lq _ _ J Jx W hJ hY (Boxed.below_ bS hW) (Boxed.below_ bN hW) h0).mono fun _ _ ⟨he,h⟩=>⟨he,h.imp (fun⟨ys,h1,h2⟩=>⟨ys,h1,h2⟩) (fun⟨pre,h⟩=>⟨pre,trivial,h⟩)⟩)
   Zy.trans (fun W lq o o' _ h hc _=>Zy.putObj W lq o o' h hc) (zE _ _) (fun _=>rfl)
   (fun pre W=>(∃v m c1,m<=10+1100000100*pre.length/\(-1<=(Zw ps pre).2/\(Zw ps pre).2<16384)/\Sp W (PbI A n c w G v m c1 (Zw ps pre).1 (Zw ps pre).2))/\W0.heap.size<=W.heap.size) (fun _ _ _=>False)
   (fun s X Y a7 hs hg hr=>⟨by obtain⟨⟨v,m,c1,h0,h1,h2⟩,_⟩:=hs;exact⟨v,m,c1,h0,h1,h2.from hg hr (PbI.cls (by omega))⟩,zY hs.2 hg.size⟩)
   (fun _ _ _ _ _ hs _ _=>hs)
   ⟨⟨v,l,l,by simp;omega,by exact⟨by simp [Zw],by simp [Zw]⟩,hy⟩,zC _⟩
   (fun x a' _=>a' ={tmps:= #[.slice A n c,undef,.slice none 0 0,.int .i64 0,.pointer (some ⟨G,0,none⟩),.pointer (some ⟨G+1,0,none⟩),XE A 2 n 8 x,undef,undef,.slice A n c,.bool true,.bool false,.slice A n c,.int .i64 n,.int .u64 n,.slice v l l,.slice A n c,.func (.func 323) #[] #[.pointer (some ⟨G+1+1,0,none⟩),.pointer (some ⟨G+1+1+1,0,none⟩)],XE A 2 n 8 x,undef,undef,undef,undef,undef,undef,undef,undef,undef,undef,undef,undef,undef,undef,undef,undef,undef,undef,undef,undef,undef,undef,undef,undef,undef,undef],defers:= []})
   (fun _ _ _ _ _ _ hs _ _=>hs)
   ?assign ?body ?done ?stop
  case assign=>
   rintro lq pre x W K hI a
   gi_wp2
   exact a _ _ (KeepsFrom.refl _ _) (Zy.refl _ _ _) hI rfl
  case body=>
   rintro lq pre x a' W hl ⟨r,hr⟩ ⟨⟨v,m,c1,hm,E,C⟩,hk⟩ rfl a1;obtain⟨b,off,rfl⟩:=hA (Nat.lt_of_le_of_lt (zJ _) x.isLt);obtain⟨i,hi⟩:=eX (x.val);have az:i<n:=(by rw [<-hi];exact x.isLt);obtain⟨M,hM⟩:=eX (min 8 (n - i));have ak:0<M:=(by omega);have al:M<=8:=(by omega);have y3:i+M<=n:=(by omega);obtain⟨last,j⟩:=eX ((Zw ps pre).2);obtain⟨x4,R⟩:=eX ((Zw ps pre).1)
   obtain⟨y,U⟩:=eX ((ps.drop i).take M)
   have t:(ps.drop i).take 8=y:=by
    have a0:=q.o;rw [<-U];rcases Nat.le_total 8 (n - i)with h|h
    ·rw [show M=8 by omega]
    ·rw [zF (by rw [ze];omega),zF (by rw [ze];omega)]
   have z:Hid (Zw ps (pre++ [x])=(x4++zP (Yu y last).length++zP (IntKind.u64.wrap (endD y last - last)).toNat++Yu y last,endD y last)):=by
    show _=_;rw [AK,hi];unfold blkD;rw [t,j,R]
   have ha:YJ y:=t▸x5.o.sub i;have x3:(ym y).length<=1048576:=zY (t▸wP ps i) y4;have y5:y.length=M:=(by rw [<-U,zr,ze,q.o];omega);rw [j]at E;have a6:=kY ha E (by omega) x3;have h8:=fB ha E
   have hx:zL w (·<w.heap.size) (some ⟨b,off+i*2,none⟩) M M y:=by
    rw [<-U];exact zL.sub_at Hl.o (i:=i) (k:=M) y3
   obtain⟨p,hp⟩:∃p,y[M - 1]? =some p:=⟨_,zB (by omega)⟩
   have hj:endD y last=p.doc:=by
    unfold endD;rw [List.getLast?_eq_getElem?,y5,hp];rfl
   obtain⟨x1,x2⟩:=hx.elem hp;obtain⟨A2,n2,c2,Z, -, -, -⟩:=PostD.at_ x2
   rw [<-hj]at Z;obtain⟨d,hd⟩:=eX (endD y last);rw [hd]at Z h8;rw [j,R]at C;have Hr:=zA hr;have HK:=C.kp (PbI.cls (B:=W0.heap.size) (by omega));have y2:=zA (IP (some ⟨b,off+i*2,none⟩) M M y last W (by omega) ((hx.below (C.below (.tail _ (.tail _ (.tail _ (.tail _ (.tail _ (.head _)))))))).more (fun _ h=>zX h (by omega))) ha E (by omega));have Hd:=zA hd;have ad:=zA t
   have h7:=HK.cell (.tail _ (.tail _ (.head _))) 0;have h4:=zA (show b<w.heap.size/\w.cell? ⟨b,off+i*2+(M - 1)*2,none⟩=some (.int .i64 d)from⟨x1,Z⟩);clear hx x2 x1 hp hj U t hr hd ha x3 j R Z C;simp only [XE,hi,hM];have HX:=zA hi;clear hi hM;have ai :1<=6 - 1 - 1:=(by omega);obtain⟨af,ag⟩:=E;obtain⟨h9,xb⟩:=h8
   obtain⟨X,hX⟩:∃X:Nat,IntKind.u64.wrap (d - last)=(X:Int):=⟨(IntKind.u64.wrap (d - last)).toNat,by rw [zW];omega⟩;have am:X<18446744073709551616:=(by rw [zW]at hX;omega);have av:IntKind.i64.wrap (d - last)=d - last:=by rw [zT];omega
   gi_wp2_with (first
    |(refine⟨trivial,?_⟩;gi_at_call 265;refine(yU lq (callsIn_wide.2 y2.o)).mono ?_;rintro e w2 ⟨A7,u,c7,rfl,HR⟩;have g:=HK.c1 HR;have au:=((g.below (.tail _ (.tail _ (.tail _ (.tail _ (.tail _ (.tail _ (.tail _ (.head _))))))))).cell (p:=⟨b,off+i*2+(M - 1)*2,none⟩) h4.o.1).trans h4.o.2;clear h7;have h7:=g.cell (.tail _ (.tail _ (.tail _ (.head _)))) 0;have ao:=g.cell (.tail _ (.tail _ (.head _))) 0))
   have a4:u<=1100000000:=(by have h:=(g.rb (.head _)).1.len;omega);have ah :IntKind.u64.wrap (u:Int)=u:=(by rw [zW];omega);have I:=zA (ZR g.drew (g.drew.rb (.tail _ (.tail _ (.tail _ (.tail _ (.head _)))))).1 (c:=c1) (x:=u) (by omega) (by omega))
   have x6:=zA (show Boxed W (G+1+1) 110 (.slice (some ⟨b,off,none⟩) n c)from HK.blkOf (.tail _ (.tail _ (.tail _ (.tail _ (.tail _ (.head _)))))));have x8:=zA (show Boxed W (G+1+1+1) 3 (.int .i64 8)from HK.blkOf (.tail _ (.tail _ (.tail _ (.tail _ (.head _))))));clear hy bS bN hA HK HR;have mixed:Tryz.prog.follows .mixedOrders=true:=(by kernel_rfl);refine sJ mixed (by kernel_rfl) ?_
   refine iF 1 (.slice A7 u c7) ?_;refine iF 2 (.int .i64 u) ?_;refine iF 3 (.int .u64 u) ?_;refine iF 5 (.int .i64 d) ?_;refine wpAnyIn_ready (rs:= [0,6]) (by kernel_rfl) (by simp) (AllReadyIn.cons rfl (fun K a=> ?o1) (AllReadyIn.cons rfl (fun K a=> ?o2) AllReadyIn.nil))
   case' o1=>
    (go_simp;refine a _ _ ?_;clear a K)
    refine wpAnyIn_ready (rs:= [4,6]) (by kernel_rfl) (by simp) (AllReadyIn.cons rfl (fun K a=> ?o3) (AllReadyIn.cons rfl (fun K a=> ?o4) AllReadyIn.nil))
    case' o3=>
     go_simp
     gi_wp2_with (refine⟨trivial,?_⟩;gi_at_call 85;refine(callsIn_wide.2 I.o).mono ?_;rintro e w5 ⟨A5,m5,rfl,xn,f⟩;have hf:=f.cell (.tail _ (.tail _ (.tail _ (.tail _ (.head _))))) 0;have L:=zA (ZR f.tail (f.rb (.head _)).1 (c:=m5) (x:=X) (by omega) (by omega)))
     refine wpAnyIn_ready (rs:= [6]) (by kernel_rfl) (by simp) (AllReadyIn.cons rfl (fun K a=> ?_) AllReadyIn.nil)
     (go_simp;refine a _ _ ?_;clear a K)
     refine iF 7 (.int .i64 (d - last)) ?_;refine iF 8 (.int .u64 X) ?_
    case' o4=>
     (go_simp;refine a _ _ ?_;clear a K)
     refine iF 7 (.int .i64 (d - last)) ?_;refine iF 8 (.int .u64 X) ?_;refine wpAnyIn_ready (rs:= [4]) (by kernel_rfl) (by simp) (AllReadyIn.cons rfl (fun K a=> ?_) AllReadyIn.nil);go_simp
     gi_wp2_with (refine⟨trivial,?_⟩;gi_at_call 85;refine(callsIn_wide.2 I.o).mono ?_;rintro e w5 ⟨A5,m5,rfl,xn,f⟩;have hf:=f.cell (.tail _ (.tail _ (.tail _ (.tail _ (.head _))))) 0;have L:=zA (ZR f.tail (f.rb (.head _)).1 (c:=m5) (x:=X) (by omega) (by omega)))
   case' o2=>
    (go_simp;refine a _ _ ?_;clear a K)
    refine iF 7 (.int .i64 (d - last)) ?_;refine iF 8 (.int .u64 X) ?_;refine wpAnyIn_ready (rs:= [0]) (by kernel_rfl) (by simp) (AllReadyIn.cons rfl (fun K a=> ?_) AllReadyIn.nil)
    (go_simp;refine a _ _ ?_;clear a K)
    refine wpAnyIn_ready (rs:= [4]) (by kernel_rfl) (by simp) (AllReadyIn.cons rfl (fun K a=> ?_) AllReadyIn.nil);go_simp
    gi_wp2_with (refine⟨trivial,?_⟩;gi_at_call 85;refine(callsIn_wide.2 I.o).mono ?_;rintro e w5 ⟨A5,m5,rfl,xn,f⟩;have hf:=f.cell (.tail _ (.tail _ (.tail _ (.tail _ (.head _))))) 0;have L:=zA (ZR f.tail (f.rb (.head _)).1 (c:=m5) (x:=X) (by omega) (by omega)))
   all_goals
    refine wpAnyIn_ready (rs:= [9]) (by kernel_rfl) (by simp) (AllReadyIn.cons rfl (fun K a=> ?_) AllReadyIn.nil);go_simp
    gi_wp2_with (refine⟨trivial,?_⟩;gi_at_call 85;refine(callsIn_wide.2 L.o).mono ?_;rintro e w6 ⟨A6,m6,rfl,a3,ho⟩;have ap:=ho.cell (.tail _ (.tail _ (.tail _ (.head _)))) 0;have aw:=(ho.blkOf (.tail _ (.tail _ (.tail _ (.head _))))).frozen 0)
    refine wpAnyIn_ready (rs:= [10]) (by kernel_rfl) (by simp) (AllReadyIn.cons rfl (fun K a=> ?_) AllReadyIn.nil)
    (go_simp;refine a _ _ ?_;clear a K)
    refine wpAnyIn_done (by kernel_rfl) ?_ _;have h3:=(ho.p3.put (.slice A6 m6 m6));have y1:=zA (h3.rb (.tail _ (.tail _ (.head _)))).1.reads
    gi_wp2_with (gi_at_builtin;refine YA yW (.tmp 39) (.tmp 40) rfl rfl h3.p1 rfl rfl y1.o (xd _) (by omega) (by omega) ?_;intro A8 c8 w8 aq a5 F;have ae :=F.cell (.tail _ (.head _)) 0;have ax:=(F.blkOf (.tail _ (.head _))).frozen 0;have ar:=F.cell (.tail _ (.tail _ (.tail _ (.tail _ (.head _))))) 0;have ay:=(F.blkOf (.tail _ (.tail _ (.tail _ (.tail _ (.head _)))))).frozen 0)
    have T:=((F.p1.put (.slice A8 (m6+u) c8)).p4.put (.int .i64 d));have hv:=T.kf (.tail _ (.tail _ (.tail _ (.tail _ (.head _)))));have q2:Boxed ((w8.setCell ⟨G,0,none⟩ (.slice A8 (m6+u) c8)).setCell ⟨G+1,0,none⟩ (.int .i64 d)) (G+1+1) 110 (.slice (some ⟨b,off,none⟩) n c):=T.blkOf (.tail _ (.tail _ (.tail _ (.tail _ (.tail _ (.tail _ (.tail _ (.head _))))))))
    have q4:Boxed ((w8.setCell ⟨G,0,none⟩ (.slice A8 (m6+u) c8)).setCell ⟨G+1,0,none⟩ (.int .i64 d)) (G+1+1+1) 3 (.int .i64 8):=T.blkOf (.tail _ (.tail _ (.tail _ (.tail _ (.tail _ (.tail _ (.head _)))))))
    have y0:Sp ((w8.setCell ⟨G,0,none⟩ (.slice A8 (m6+u) c8)).setCell ⟨G+1,0,none⟩ (.int .i64 d)) (PbI (some ⟨b,off,none⟩) n c w G A8 (m6+u) c8 (Zw ps (pre++ [x])).1 (Zw ps (pre++ [x])).2):=by
     have h:=T.p1.d3.d3.d3;have xs:(Yu y last).length=u:=(g.rb (.head _)).1.len
     have e1:(Zw ps (pre++ [x])).1=x4++zP u++zP X++Yu y last:=by
      rw [z.o,Hd.o,hX,xs];rfl
     have e2:(Zw ps (pre++ [x])).2=d:=(by rw [z.o,Hd.o]);rw [e1,e2];unfold PbI BA;rw [y9];exact h
    have hb:m6+u<=10+1100000100*(pre++ [x]).length:=(by rw [zG];simp only [z6,yO];omega);have P: -1<=(Zw ps (pre++ [x])).2/\(Zw ps (pre++ [x])).2<16384:=(by rw [z.o,Hd.o];exact⟨h9,xb⟩);exact⟨hv,Zy.of hv.size x6.o q2 x8.o q4,⟨A8,m6+u,c8,hb,P,y0⟩,zY hk hv.size⟩
  case done=>
   rintro D ys W hD ⟨k,xi,y7,y8⟩ ⟨⟨v,m,c1,hm,E,C⟩,hk⟩ a;have an:=C.cell (.head _) 0;have Q:=(C.rb (.tail _ (.tail _ (.head _)))).2
   gi_wp2_with (refine⟨trivial,?_⟩;gi_at_call 55;refine(callsIn_wide.2 (Zt _ _ _ _ Q.1 Q.2)).mono ?_;rintro e w3 ⟨rfl,rfl⟩)
   have hz:=(C.from (grownBy_putObj' W D (.deferred none)) (fun r e=>by cases e;exact⟨hD,_,a,rfl⟩) (PbI.cls (B:=W0.heap.size) (by omega))).tail.tail.d1.d1.clip
   have y6:(Zw ps ys).1=YB ps:=by
    unfold Zw YB;rw [xi,q.o,rZ y7 y8]
   rw [y6]at hz;refine⟨by simp,.inl ⟨_,_,rfl,run_takeDeferred a,?_⟩⟩;refine⟨_,results_tmp2 rfl _ _ _,?_⟩;have ab:ys.length=k:=(by have:=congrArg List.length xi;simpa [ZC]using this);exact W9.ok ht.o (by rw [ab]at hm;omega) hz
  case stop=>exact fun _ _ _ _ _ _ h=>h.elim
attribute [local go_sem ↓] zU zV
def fH (G:Prop) (w:O) (R:V->O->Prop) (e:Ending) (w' :O):Prop:=(∃v,e= .returned v/\R v w')\/∃a,a≠0/\¬G/\e= .panicked [Q1 a]/\Below w.heap.size w w'
def allL (ls:List (List PostD)):aC:=ls.flatMap YB
def atL (ls:List (List PostD)) (k:Nat):aE:=(List.range k).map fun j=>(allL (ls.take (j+1))).length
theorem Qp (ls:List (List PostD)) (k:Nat):(atL ls k).length=k:=by simp [atL]
theorem MJ {ls:List (List PostD)} {n k:Nat} (h:k<n):(atL ls k++List.replicate (n - k) 0).set k (allL (ls.take (k+1))).length=atL ls (k+1)++List.replicate (n - (k+1)) 0:=by
 rw [xB _ _ (by rw [Qp];exact zC _),Qp,yh,show n - k=(n - (k+1))+1 by omega,List.replicate_succ,yw];unfold atL;rw [List.range_succ,zw,zO];rfl
theorem mB {ls:List (List PostD)} {j k:Nat} (h:j<=k):(allL (ls.take j)).length<=(allL (ls.take k)).length:=by
 obtain⟨d,rfl⟩:=Nat.exists_eq_add_of_le h;rw [List.take_add];unfold allL;rw [yS,zG];omega
theorem fY {ls:List (List PostD)} {n:Nat} (h:(allL ls).length<=16777216):∀x∈atL ls n,x<18446744073709551616:=fun x b=>by
 obtain⟨j, -,rfl⟩:=List.mem_map.1 b;have a:=mB (ls:=ls) (j:=j+1) (k:=j+1+ls.length) (by omega);rw [zF (l:=ls) (i:=j+1+ls.length) (by omega)]at a;omega
theorem zL.rt {w:O} {A:aA} {n c:Nat} {l:List aB} (h:zL w (·<w.heap.size) A n c l):RT w A n l:=
 ⟨by rw [yr,<-h.length];simp [sC],fun d=>by
  obtain⟨b,off,x,rfl,_,e,_⟩:=h.at_ d
  refine⟨b,off,rfl,e,fun j u a=> ?_⟩;unfold sC at a;rw [zH]at a;rcases hx:l[j]? with _|y
  ·rw [hx]at a;cases a
  ·rw [hx]at a;cases a;exact(h.elem hx).2.str.1⟩
theorem lK {D N:aA} {n E I:Nat} {v2 v3 v4 v5:V} {ts:List aB} {ls:List (List PostD)} {w:O} (h0:zL w (·<w.heap.size) D n E ts) (J:zL w (·<w.heap.size) N n I ls) (hn:n<=10000000000) (hp:∀ps∈ls,ps.length<=1000000/\∀p∈ps,p.pos.length<=10000000000):
 Calls prog 164 #[.agg #[.slice D n E,.slice N n I,v2,v3,v4,v5]] w (fH (xQ ts=true/\(∀ps∈ls,xk ps=true)/\(allL ls).length<=16777216) w fun v w' =>∃A' css,v= .slice A' 2 2/\xQ ts=true/\(∀ps∈ls,xk ps=true)/\(allL ls).length<=16777216/\(ZM ts (atL ls n)).length<=6000000000/\Sp w' [RowA 65 1 (.slice A' 2 2) 2 css.flatten,ElsA css [ZM ts (atL ls n),allL ls],OldA w.heap.size w]):=by
 obtain⟨H,hH⟩:=eX (w.heap.size);have y:=(Sp.start w).blkH 150 #[.slice D n E,.slice N n I,v2,v3,v4,v5] hH;have hy:=h0.length;have he:=J.length;have t:=h0.cap;have hw:=J.cap;have H0:=zA h0;have H1:=zA J;have F:=zA he;have Hp:=zA hp;clear h0 J hp hy he;go_enter func164,ntmps164;go_upto_region 1 with fail
 obtain⟨w2,hj⟩:=eX (w.alloc (.cells #[.slice D n E,.slice N n I,v2,v3,v4,v5] 150));rw [hj]at y⊢;have q0:=y.cl M0 0;obtain⟨R,hR⟩:=eX (w2.heap.size);clear hj hH;go_wp2_with (at_make;refine Zk cQ (.tmp 11) (.tmp 11) rfl rfl y hR rfl rfl (by omega) (by omega) mC ?_;intro w3 z;rw [Vv]at z;have q2:=z.cl M1 1)
 have T:Sp w3 [UA (some ⟨R,0,none⟩) n n (atL ls 0++List.replicate (n - 0) 0),BA none 0 0 (allL (ls.take 0)),BlkA H 150 #[.slice D n E,.slice N n I,v2,v3,v4,v5],OldA w.heap.size w]:=(z.nil 5 1).p1;clear y z q0 q2 hR
 go_loopg [4,16] n (fun gk x4 h6 wr=>∃(k m:Nat) (Q:aA) (Y:Nat),x4= .slice Q m Y/\h6= .int .i64 k/\k<=n/\gk=n - k/\m<=16777216/\Hid (∀ps∈ls.take k,xk ps=true)/\Sp wr [UA (some ⟨R,0,none⟩) n n (atL ls k++List.replicate (n - k) 0),BA Q m Y (allL (ls.take k)),BlkA H 150 #[.slice D n E,.slice N n I,v2,v3,v4,v5],OldA w.heap.size w])
 case atStart=>exact⟨0,0,none,0,rfl,by go_num,zJ _,rfl,by omega,by simp [Hid],T⟩
 case round=>
  obtain⟨k,m,Q,Y,rfl,rfl,hk,rfl,hm,hr,d⟩:=hrel;clear T;have hf:=(d.rb M1).1.len
  by_cases hd:k<n
  ·obtain⟨b,off,ps,rfl,B,hb,ha⟩:=H1.o.at_ hd
   obtain⟨Ap,np,cp,E0,A⟩:=ha.list;have E0:wr.cell? _=_:=((d.below M3).cell hb).trans E0;obtain⟨hg,hh⟩:=Hp.o ps (zD B.o);rw [A.length]at hg;have P:=zA (jK Ap np cp ps wr hg (A.on (d.below M3)) hh);have hi:ls.take (k+1)=ls.take k++ [ps]:=(by rw [zI,B.o];rfl);have G:=zA hi;have h7:=zA A;have U:=zA (zD B.o);clear ha B hh A hi;obtain⟨rb,L⟩:=eX (xk ps)
   unfold W9 at P;rw [L]at P;have W:=zA L;clear L;cases rb with
   |false=>
    go_wp2_with fail;refine P.o.mono ?_;rintro e w5 ⟨rfl,r⟩;have s:=zA ((d.grow r).below M3);clear d r P;go_wp2;exact⟨rfl,.inr ⟨3,by decide,fun g=>Bool.false_ne_true (W.o.symm.trans (g.2.1 ps U.o)),rfl,s.o⟩⟩
   |true=>
    go_wp2_with fail;refine P.o.mono ?_;rintro e w5 ⟨A5,C,hz,rfl,o⟩;have a:=d.c1 o;have u:=(a.rb M0).1.len;clear d o P
    by_cases h3:16777216<m+C
    ·have h2:(16777216:Int)<(m:Int)+(C:Int):=(by omega);have s:=zA (a.below M4)
     have hs:Hid (¬(allL ls).length<=16777216):=by
      have J:=mB (ls:=ls) (j:=k+1) (k:=n) (by omega);rw [zF (l:=ls) (i:=n) (by rw [F.o];exact zC _),G.o]at J;have Z:allL (ls.take k++ [ps])=allL (ls.take k)++YB ps:=(by simp [allL]);rw [Z,zG,u,hf]at J;show ¬_;omega
     clear a;go_wp2;exact⟨rfl,.inr ⟨3,by decide,fun g=>hs.o g.2.2,rfl,s.o⟩⟩
    ·have h2:¬(16777216:Int)<(m:Int)+(C:Int):=(by omega);have Hr:=zA (a.rb M0).1.reads
     go_wp2_with (at_builtin;refine yR yW (.tmp 38) (.tmp 39) rfl rfl a.p2 rfl rfl Hr.o (xd _) (by omega) (by omega) ?_;(intro A8 c8 w8 hv h8 c;obtain⟨q,hq⟩:=eX (m+C);rw [hq]at c hv⊢;have h9:IntKind.u64.wrap (q:Int)=(q:Int):=(by rw [zW];omega);have f1:=c.rowFree M2 k;have f2:=c.rowCell M2 (WB (k:=k) (x:=(atL ls k++List.replicate (n - k) 0)[k]?.getD 0) (by rw [zR (by rw [Qp];exact zC _),Qp,yh,List.getElem?_replicate_of_lt (by omega)];rfl))))
     have f:=c.p2.rowSet k (.int .u64 (q:Int));rw [<-fK]at f;have Z:allL (ls.take (k+1))=allL (ls.take k)++YB ps:=(by rw [G.o];simp [allL])
     have h4:(allL (ls.take (k+1))).length=q:=by
      rw [Z,zG,u,hf];exact hq
     have e2:=MJ (ls:=ls) hd;rw [h4]at e2;rw [e2,<-y9,<-Z]at f
     have K:Hid (∀ps∈ls.take (k+1),xk ps=true):=by
      show ∀ps∈ls.take (k+1),xk ps=true;rw [G.o];intro x hx;rcases List.mem_append.1 hx with hx|hx
      ·exact hr.o x hx
      ·rw [List.mem_singleton.1 hx];exact W.o
     have S:Sp _ [UA (some ⟨R,0,none⟩) n n (atL ls (k+1)++List.replicate (n - (k+1)) 0),BA A8 q c8 (allL (ls.take (k+1))),BlkA H 150 #[.slice D n E,.slice (some ⟨b,off,none⟩) n I,v2,v3,v4,v5],OldA w.heap.size w]:=Sp.selT [_,_,_,_] f [0,1,3];clear a c f f1 f2 Z e2 hr;go_wp2
     go_roundg (n - (k+1))
     ·exact⟨k+1,q,A8,c8,rfl,by go_num,by omega,rfl,by omega,K,S⟩
     ·omega
  ·obtain rfl:k=n:=by omega
   rw [yh,List.replicate_zero,zo,zF (by rw [F.o];exact zC _)]at d
   have K:Hid (∀ps∈ls,xk ps=true):=by
    have h:=hr;rw [zF (by rw [F.o];exact zC _)]at h;exact h
   have hu:=(d.rb M1).1.len;have q0:=d.cl M2 0;have hc:=H0.o.on (d.below M3);have HT:=zA (vT D (some ⟨R,0,none⟩) k E k ts (atL ls k) wr t.1 t.2 (zC _) (by omega) hc.rt (d.rc M0) (fY (by omega)));unfold UR at HT;obtain⟨tb,M⟩:=eX (xQ ts);rw [M]at HT;have X:=zA M;have ho:Hid ((allL ls).length<=16777216):=(by show _<=_;omega);clear M hc hr hu;cases tb with
   |false=>
    go_wp2_with (first|(go_at_call 217;refine HT.o.mono ?_;rintro e w5 ⟨rfl,r⟩;have s:=zA ((d.grow r).below M3);clear r)|(go_at_call 89;refine(cY _ _ _).mono ?_;rintro e w6 h;obtain⟨rfl,rfl⟩:=h.bad (by decide)))
    exact⟨rfl,.inr ⟨1,by decide,fun g=>Bool.false_ne_true (X.o.symm.trans g.1),rfl,s.o⟩⟩
   |true=>
    go_wp2_with (first|(go_at_call 217;refine HT.o.mono ?_;rintro e w5 ⟨A5,C,hz,rfl,o⟩;have a:=d.c1 o;clear o)|(go_at_call 89;refine(cY _ _ _).mono ?_;rintro e w6 h;obtain⟨rfl,rfl⟩:=h.ok))
    have h5:(ZM ts (atL ls k)).length<=6000000000:=(by have:=(a.rb M0).1.len;omega);have ht:=zA h5;have hl:=(a.bytes.elsNil).p1.elsPush;have c:=(Sp.selT [_,_,_] hl [2,0,1]).bytes.elsPush;have f:=c.lit #[.slice A5 C C,.slice Q m Y] 65 1 2 rfl (by decide);go_ret
    exact .inl ⟨_,rfl,_, [[.slice A5 C C], [.slice Q m Y]],rfl,X.o,K.o,ho.o,ht.o,Sp.selT [_,_,_,_,_] f [0,1,4]⟩
def ZD (ps:List PostD) (k:Nat):Int:=endD (ps.take k) (-1)
def blkP (ps:List PostD) (x:Nat):List PostD:=(ps.drop x).take 8
def blkL (ps:List PostD) (x:Nat):aC:=
 zP (Yu (blkP ps x) (ZD ps x)).length++(zP (ZD ps (x+8) - ZD ps x).toNat++Yu (blkP ps x) (ZD ps x))
theorem XA (a b:List PostD) (z:Int):endD b (endD a z)=endD (a++b) z:=by
 unfold endD;rw [List.getLast?_append];cases b.getLast? <;>simp
theorem iV {α:Type} (l:List α) (x:Nat):l.take x++(l.drop x).take 8=l.take (x+8):=by
 rw [List.take_add]
theorem Xc (ps:List PostD) (x:Nat):endD (blkP ps x) (ZD ps x)=ZD ps (x+8):=by
 unfold ZD blkP;rw [XA,iV]
theorem gQ:∀{ps:List PostD} {last:Int} {all:Nat},xa last all ps=true->last<=endD ps last
 | [],last,_,_=>by simp [endD]
 |p::l,last,all,h=>by
  simp only [xa,Yv,zM,decide_eq_true_eq]at h;have a:=gQ h.2
  have e:endD (p::l) last=endD l p.doc:=by
   have:=XA [p] l last
   simpa [endD]using this.symm
  rw [e];omega
theorem XK:∀{ps:List PostD} {last:Int} {all:Nat} (x:Nat),xa last all ps=true->∃b,xa (endD (ps.take x) last) b (ps.drop x)=true
 |ps,last,all,0,h=>⟨all,by simpa [endD]using h⟩
 | [],last,all,x+1,h=>⟨all,by simpa [endD]using h⟩
 |p::l,last,all,x+1,h=>by
  simp only [xa,zM]at h;obtain⟨a,c⟩:=XK x h.2;refine⟨a,?_⟩
  have e:endD ((p::l).take (x+1)) last=endD (l.take x) p.doc:=by
   have:=XA [p] (l.take x) last;rw [xL]
   simpa [endD]using this.symm
  rw [e];exact c
theorem Qa:∀{ps:List PostD} {last:Int} {all:Nat} (x:Nat),xa last all ps=true->xa last all (ps.take x)=true
 | [],_,_,x,_=>by simp [xa]
 |p::l,_,_,0,_=>by simp [xa]
 |p::l,last,all,x+1,h=>by
  simp only [xa,zM,xL]at h⊢;exact⟨h.1,Qa x h.2⟩
theorem nI {ps:List PostD} (h:xk ps=true) (x:Nat):ZD ps x<=ZD ps (x+8):=by
 obtain⟨a,b⟩:=XK x h;rw [<-Xc];exact gQ (Qa 8 b)
theorem QS {ps:List PostD} (h:xk ps=true) (x:Nat): -1<=ZD ps x/\ZD ps x<16384:=
 fB (fun p a=>(QN h).1 p (yu a)) (by omega)
theorem MF {ps:List PostD} (h:xk ps=true) (x:Nat) (b:aC):blkD ps (b,ZD ps x) x=(b++blkL ps x,ZD ps (x+8)):=by
 have a:=Xc ps x;unfold blkP at a;have c:=nI h x;have d:=QS h x;have e:=QS h (x+8);unfold blkD blkL blkP;simp only [a];rw [show IntKind.u64.wrap (ZD ps (x+8) - ZD ps x)=ZD ps (x+8) - ZD ps x by rw [zW];omega];simp
theorem lC {ps:List PostD} (h:xk ps=true) (u:aC):∀k,(ZC 8 k).foldl (blkD ps) (u, -1)=(u++(ZC 8 k).flatMap (blkL ps),ZD ps (k*8))
 |0=>by simp [ZC,ZD,endD]
 |k+1=>by
  rw [Xk,xE,lC h u k];simp only [List.foldl_cons,List.foldl_nil,yS,zp,x7,zo];rw [MF h,Nat.succ_mul,zO]
def Qx (ps:List PostD) (k:Nat):aC:=((ZC 8 ((ps.length+7) / 8)).drop k).flatMap (blkL ps)
theorem dP {ps:List PostD} (h:xk ps=true):YB ps=zP ps.length++Qx ps 0:=by
 unfold YB Qx;rw [lC h];rfl
theorem wM {ps:List PostD} {k:Nat} (h:k*8<ps.length):Qx ps k=blkL ps (k*8)++Qx ps (k+1):=by
 have e:(ZC 8 ((ps.length+7) / 8))[k]? =some (k*8):=by
  unfold ZC;rw [zH,zq (by omega)];rfl
 unfold Qx;rw [yb e,zp]
theorem DJ {ps:List PostD} {k:Nat} (h:ps.length<=k*8):Qx ps k= []:=by
 unfold Qx;rw [zQ (by simp [ZC];omega)];rfl
theorem getS {w:O} {L:List Asn} {A:aA} {nb c:Nat} {l:aD} {post:aC} (h:Sp w L) (i:RB w A nb (putL l++post)) (a:nb<=100000000000000) (g:InL l) (j:l.length<=1048576):
 Calls prog 75 #[.slice A nb c,.int .i64 (l.length:Nat)] w fun e w' =>∃A',e= .returned (.tuple #[.slice A' l.length l.length,.int .i64 ((putL l).length:Nat),.int .i64 0])/\Sp w' (IA A' l.length l.length l::L):=by
 have b:=d6 A nb c l.length _ w j i a;rw [d7 g]at b;refine b.mono ?_;rintro e w' ⟨d,A',f,k⟩;exact⟨A',f,h.row k d⟩
theorem f9 {w:O} {L:List Asn} {s nb c n:Nat} {A:aA} {l:aD} {post:aC} (h:Sp w (BlkA s 65 #[.slice A nb c]::L)) (v:RB w A nb (putL l++post)) (p:nb<=c) (I:c<=9223372036854775807) (o:nb<=100000000000000) (x:InL l) (r:l.length=n) (m:n<=1048576):
 Calls prog 188 #[.int .i64 (n:Int),.pointer (some ⟨s,0,none⟩)] w fun e w' =>∃q g a c2,e= .returned (.slice q n n)/\a<=c2/\c2<=9223372036854775807/\a=post.length/\(∀W,RB W A nb (putL l++post)->RB W g a post)/\
  Sp w' (IA q n n l::BlkA s 65 #[.slice g a c2]::L):=by
 subst r;have H:=h.cell M0 0;have t:=zA (getS (c:=c) h v o x m);have hlen:=v.len;obtain⟨k,j⟩:=eX ((putL l).length);rw [zG,j]at hlen
 have f:∀W,RB W A nb (putL l++post)->RB W (if c=k then A else A.map (·.add k)) (nb - k) post:=fun W z=>by
  have f:=z.tail (k:=k) p (by omega);rw [<-j,List.drop_left,j]at f;exact f
 rw [j]at t;have E:(k:Int)<=nb:=by omega
 have F:(nb:Int)<=c:=by omega
 have D:(0:Int)<=k:=by omega
 obtain⟨n,r⟩:=eX (l.length);rw [r]at t⊢
 have G:∀W:O,(Instr.slice 65 (.slice A nb c) (some (.int .i64 (k:Int))) none none).run prog W= .ok (.slice (if c=k then A else A.map (·.add k)) (nb - k) (c - k)) W:=by
  intro W;simp [Instr.slice,Instr.sliceBounds,go_sem, *]
 obtain⟨g,hA2⟩:=eX ((if c=k then A else A.map (·.add k)));obtain⟨a,b⟩:=eX (nb - k);obtain⟨c2,i⟩:=eX (c - k);simp only [hA2,b,i]at G f;have y:=zA f
 have u:Hid (a<=c2/\c2<=9223372036854775807/\a=post.length):=by
  refine⟨?_,?_,?_⟩<;>omega
 clear h v x m r f hA2 b i hlen j p o;go_enter func188,ntmps188
 go_wp2_with (first
  |(go_at_call 75;refine t.o.mono ?_;rintro e J ⟨q,rfl,d⟩;have B:=d.cell M1 0;have C:=(d.blkOf M1).frozen 0)
  |fail)
 go_ret
 exact⟨q,g,a,c2,rfl,u.o.1,u.o.2.1,u.o.2.2,y.o,(d.p1.set 0 (.slice g a c2)).p1⟩
theorem iU {α:Type} {l:List α} {k:Nat} {x:α} (h:l[k]? =some x):(l.take (k+1)).getLast? =some x:=by
 rw [zI,h];simp
theorem eF:Elt prog 110 116 2 32:=xt underlying110 (by decide) (by kernel_rfl)
def YY (ps:List PostD):Nat:=(ps.map fun p=>p.pos.length).sum
theorem WK (ps:List PostD):(ym ps).length=YY ps:=by
 induction ps with
 |nil=>rfl
 |cons p l ih=>
  simp only [ym,YY,zp,zG,WJ,yH,List.sum_cons]at ih⊢;omega
theorem EY (ps:List PostD):(ZS ps).length=ps.length:=by simp [ZS]
theorem gK {ps:List PostD} {k:Nat} {p:PostD} (h:ps[k]? =some p):YY (ps.take (k+1))=YY (ps.take k)+p.pos.length:=by
 unfold YY;rw [zI,h];simp
theorem kS (ps:List PostD) (k:Nat):YY (ps.take k)<=YY ps:=by
 conv=>rhs;rw [<-zu k ps]
 unfold YY;rw [zw,List.sum_append];omega
theorem L2 {ps:List PostD} {k:Nat} {p:PostD} (a:Int) (h:ps[k]? =some p):(docD a ps)[k]? =some (p.doc - endD (ps.take k) a - 1):=by
 induction ps generalizing k a with
 |nil=>simp at h
 |cons q l ih=>
  cases k with
  |zero=>simp at h;subst h;simp [docD,endD]
  |succ k=>
   have e:endD ((q::l).take (k+1)) a=endD (l.take k) q.doc:=by
    have:=XA [q] (l.take k) a;rw [xL]
    simpa [endD]using this.symm
   rw [e];exact ih q.doc (by simpa using h)
theorem FG {ps:List PostD} {k:Nat} {p:PostD} (a:Int) (h:ps[k]? =some p):endD (ps.take (k+1)) a=p.doc:=by
 rw [zI,h];simp [endD]
theorem K6 {l:aD} {k:Nat} {z:Int} (a:Int) (h:l[k]? =some z):(posD a l)[k]? =some (z - ((l.take k).getLast?.getD a)):=by
 induction l generalizing k a with
 |nil=>simp at h
 |cons y l ih=>
  cases k with
  |zero=>simp at h;subst h;simp [posD]
  |succ k=>
   rw [xL]
   have e:((y::l.take k).getLast?.getD a)=((l.take k).getLast?.getD y):=by
    rw [List.getLast?_cons];rfl
   rw [e];exact ih y (by simpa using h)
theorem DO {ps:List PostD} {k q:Nat} {p:PostD} (h:ps[k]? =some p) (a:q<p.pos.length):(ym ps)[YY (ps.take k)+q]? =(posD 0 p.pos)[q]? :=by
 have e:ym ps=ym (ps.take k)++(posD 0 p.pos++ym (ps.drop (k+1))):=by
  conv=>lhs;rw [<-zu k ps,yb h]
  simp [ym]
 rw [e,<-WK,zR (by omega),Nat.add_sub_cancel_left,z9 (by rw [WJ];exact a)]
theorem jI {A:aA} {nb c m Q:Nat} {ps:List PostD} {b:Int} {w:O} (hl:RB w A nb (Yu ps b)) (a6:nb<=c) (hc:c<=9223372036854775807) (a5:nb<=100000000000000) (hm:ps.length=m) (y8:m<=8) (hr:xa b Q ps=true) (U: -1<=b/\b<16384) (au:Q<=1048576):
 Calls prog 104 #[.agg #[.slice A nb c,.int .i64 b,.int .i64 (endD ps b),.int .i64 (m:Int)]] w fun e w' =>∃A' c' css,e= .returned (.tuple #[.slice A' m c',.bool true])/\
  Sp w' [RowA 116 2 (.slice A' m c') m css.flatten,ElsA css ps,OldA w.heap.size w]:=by
 obtain⟨T,i,_⟩:=Qb ps b Q U.1 U.2 au hr;have HD:=zA (cU ps b U.1 U.2 T);have HF:=zA (d8 T);have HP:=zA (VT T);have ha:=zA T;have Hr:=zA hr;have Hm:=zA hm;have Hl:=zA (show RB w A nb (putL (docD b ps)++(putL (ZS ps)++putL (ym ps))) by unfold Yu at hl;simpa using hl);obtain⟨le,h0⟩:=eX (endD ps b);obtain⟨N,hN⟩:=eX (YY ps)
 have aq:N<=1048576:=by rw [<-hN,<-WK];omega
 rw [h0];obtain⟨Bx,xs⟩:=eX (w.heap.size);obtain⟨Bb,an⟩:=eX (Bx+1);have Z:=((Sp.start w).blkH 121 #[.slice A nb c,.int .i64 b,.int .i64 le,.int .i64 (m:Int)] xs).blkH 65 #[.slice A nb c] (H:=Bb) (by simp [xs,an]);have b7:=@mF prog;have y7:=zA h0;have HN:=zA hN;clear hl hm hr T i h0 hN;go_enter func104,ntmps104;have ax:=Z.cell M1 3
 have T1:=zA (f9 (l:=docD b ps) Z (Hl.o.on (Z.below M2)) a6 hc a5 HD.o (n:=m) (by rw [eG];exact Hm.o) (by omega));go_wp2_with fail;refine T1.o.mono ?_;rintro e w1 ⟨A1,bm,af,bp,rfl,x6,x8,he,x1,L⟩;have x3:=L.cl M2 3
 have bj:af<=nb:=by
  have h1:=Hl.o.len;rw [zG]at h1;omega
 have hv:=zA x1;have T2:=zA (f9 (l:=ZS ps) L.p1 (hv.o _ (Hl.o.on (L.below M3))) x6 x8 (by omega) HF.o (n:=m) (by rw [EY];exact Hm.o) (by omega));clear x1 he;go_wp2_with fail;refine T2.o.mono ?_;rintro e w2 ⟨A2,bn,bb,bq,rfl,ys,y0,a4,x2,M⟩
 have bk:bb<=af:=by
  have h1:=(hv.o _ (Hl.o.on (L.below M3))).len;rw [zG]at h1;omega
 have ai:=zA (fun W (hW:RB W A nb _)=>x2 W (hv.o W hW));have x4:=M.cl M3 3;clear x2 a4 ax x3 Z L;go_wp2
 go_loopg [8,45] m (fun gk va vi wr=>∃k:Nat,vi= .int .i64 k/\va= .int .i64 (YY (ps.take k):Nat)/\k<=m/\gk=m - k/\wr=w2)
 case atStart=>exact⟨0,rfl,rfl,zJ _,rfl,rfl⟩
 case round=>
  obtain⟨k,rfl,rfl,hk,rfl,rfl⟩:=hrel
  by_cases a3:k<m
  ·obtain⟨p,B⟩:∃p,Hid (ps[k]? =some p):=⟨_,zB (by rw [Hm.o];exact a3)⟩;obtain⟨g2,rfl,_,_,R⟩:=(M.rowOf (.head _)).at_ (by omega)
   obtain⟨f,K⟩:=eX (p.pos.length);have hb:=R k _ (Z9 (l:=ZS ps) (x:=(f:Int) - 1) (by unfold ZS;rw [zH,B.o,<-K];rfl));obtain⟨s,hs⟩:=eX (YY (ps.take k));have v:=gK B.o;have hg:=kS ps (k+1);rw [v,hs,K,HN.o]at hg;rw [hs,K]at v;have a1:=(ha.o p (zD B.o)).2.2.1
   have a0:0<f:=by
    obtain⟨a',I⟩:=XK k Hr.o;rw [yb B.o]at I;simp only [xa,Yv,zM,decide_eq_true_eq]at I;omega
   have hz:=zA v;rw [hs];have b3:¬((f:Int) - 1<0):=(by omega);have b4:¬((1048576:Int) - s<=(f:Int) - 1):=(by omega);clear R hs v K a1;go_wp2
   go_roundg (m - (k+1))
   ·exact⟨k+1,by go_num,by rw [hz.o];go_num,by omega,rfl,rfl⟩
   ·omega
  ·obtain rfl:k=m:=by omega
   have i:YY (ps.take k)=N:=(by rw [zF (by rw [Hm.o];omega),HN.o]);rw [i];clear i;have T3:=zA (f9 (l:=ym ps) (post:= []) M.p1 (by rw [zo];exact ai.o _ (Hl.o.on (M.below M4))) ys y0 (by omega) HP.o (n:=N) (by rw [WK];exact HN.o) aq)
   go_wp2_with (go_at_call 188;refine T3.o.mono ?_;rintro e w3 ⟨A3,bo,bc,br,rfl,bg,bh,aa,ar,P⟩;have ay:=P.cl M1 0;have ab:bc=0:=aa;have aw:=P.cl M4 1);have h6:=((P.d1.elsNil (α:=PostD)).nil 116 2)
   obtain⟨C,y5⟩:∃C,0<N->A3=some ⟨C,0,none⟩:=by
    rcases zi N with h|h
    ·exact⟨0,fun h' =>by omega⟩
    ·obtain⟨C,e,_⟩:=(P.rowOf M0).at_ h;exact⟨C,fun _=>e⟩
   have xi:=zA y5;clear y5 ar aa ab ay aw x4 P M
   go_loopg [11,12,13,78] k (fun gk bd be bf vi wr=>∃(j s J:Nat) (Ap Ao:aA) (co:Nat) (css:List aF) (last:Int),vi= .int .i64 j/\bd= .slice Ap J J/\be= .slice Ao j co/\bf= .int .i64 last/\j<=k/\gk=k - j/\Hid (last=endD (ps.take j) b)/\Hid (s=YY (ps.take j))/\Hid (J+s=N)/\Hid (0<J->Ap=some ⟨C,s,none⟩)/\
    Sp wr [RowA 116 2 (.slice Ao j co) j css.flatten,ElsA css (ps.take j),IA A3 N N (ym ps),IA A2 k k (ZS ps),IA A1 k k (docD b ps),BlkA Bx 121 #[.slice A nb c,.int .i64 b,.int .i64 le,.int .i64 (k:Int)],OldA w.heap.size w])
   case atStart=>exact⟨0,0,N,A3,none,0, [],b,rfl,rfl,rfl,rfl,zJ _,rfl,rfl,rfl,rfl,xi.o,h6⟩
   case round=>
    obtain⟨j,s,J,Ap,Ao,co,css,last,rfl,rfl,rfl,rfl,hj,rfl,Y,hw,h5,ah,HS⟩:=hrel;clear h6
    by_cases a2:j<k
    ·obtain⟨p,B⟩:∃p,Hid (ps[j]? =some p):=⟨_,zB (by rw [Hm.o];exact a2)⟩;obtain⟨f,K⟩:=eX (p.pos.length);obtain⟨g,E⟩:∃g,p.doc=g:=⟨_,rfl⟩;obtain⟨g1,rfl,_,_,x5⟩:=(HS.rowOf M4).at_ (by omega)
     obtain⟨g2,rfl,_,_,R⟩:=(HS.rowOf M3).at_ (by omega)
     have y1:=x5 j _ (Z9 (L2 b B.o));rw [<-Y.o,E]at y1;have hb:=R j _ (Z9 (l:=ZS ps) (x:=(f:Int) - 1) (by unfold ZS;rw [zH,B.o,<-K];rfl));have y2:=fun o=>(HS.al o).rowCell M3 (Z9 (l:=ZS ps) (j:=j) (x:=(f:Int) - 1) (by unfold ZS;rw [zH,B.o,<-K];rfl));obtain⟨a',I⟩:=XK j Hr.o;rw [yb B.o,<-Y.o]at I;simp only [xa,Yv,zM,decide_eq_true_eq]at I
     obtain⟨⟨⟨⟨⟨⟨⟨k1,k2⟩,k3⟩,k4⟩,k5⟩,k6⟩,k7⟩,_⟩:=I;rw [E]at k1 k2;rw [K]at k3;obtain⟨q1,q2,q3,q4⟩:=ha.o p (zD B.o)
     have D: -1<=last/\last<16384:=by
      rw [Y.o];exact fB (fun x hx=>ha.o x (yu hx)) U
     have v:=gK B.o;have hg:=kS ps (j+1);rw [v,<-hw.o,K,HN.o]at hg;rw [K,<-hw.o]at v;have a7:=h5.o;obtain rfl:Ap=some ⟨C,s,none⟩:=ah.o (by omega);obtain⟨d,hd⟩:=eX (g - last - 1);rw [hd]at y1;have bx:last+1+d=g:=(by omega);have bv:(0:Int)<=d:=(by omega);have bw:d<16384:=(by omega);have b0:¬d<0:=(by omega);have bz:¬(16384:Int)<=d:=(by omega);have b5:=D.1
     have b6:=D.2;have ap:0<N:=(by omega);have bl:j+1<=8:=(by omega);have b2:(f:Int)<=J:=(by omega);have a0:(0:Int)<f:=(by omega);have aj:=zA k5;have xn:=zA q4;have Hf:=zA K;have hz:=zA v;have ho:=zA E;have b1:f<=1048576:=(by omega);clear x5 R K E q1 q2 q3 q4 k1 k4 k5 k6 k7 v hg D hd a7;obtain⟨Bp,ao⟩:=eX (wr.heap.size)
     have h7:=(HS.blkH 116 #[.int .i64 g,.slice none 0 0] ao).nil 3 1
     have hp:∀w',Sp w' [RowA 116 2 (.slice Ao j co) j css.flatten,ElsA css (ps.take j),IA A3 N N (ym ps),IA (some ⟨g2,0,none⟩) k k (ZS ps),IA (some ⟨g1,0,none⟩) k k (docD b ps),BlkA Bx 121 #[.slice A nb c,.int .i64 b,.int .i64 le,.int .i64 (k:Int)],OldA w.heap.size w]->w'.cell? ⟨g2,j,none⟩=some (.int .i64 ((f:Int) - 1)):=fun w' h=>h.rowCell M3 (Z9 (l:=ZS ps) (j:=j) (x:=(f:Int) - 1) (by unfold ZS;rw [zH,B.o,<-Hf.o];rfl))
     have h9:=zA hp;obtain rfl:A3=some ⟨C,0,none⟩:=xi.o ap;clear hp;go_wp2
     go_loopg [17,104] f (fun gq va vq wq=>∃(q:Nat) (a:Int) (X:aA) (c5:Nat),vq= .int .i64 q/\va= .int .i64 a/\q<=f/\gq=f - q/\0<=a/\a<=1048576/\Hid (a=(p.pos.take q).getLast?.getD 0)/\
      Sp wq [NA X q c5 (p.pos.take q),BlkA Bp 116 #[.int .i64 g,.slice X q c5],RowA 116 2 (.slice Ao j co) j css.flatten,ElsA css (ps.take j),IA (some ⟨C,0,none⟩) N N (ym ps),IA (some ⟨g2,0,none⟩) k k (ZS ps),IA (some ⟨g1,0,none⟩) k k (docD b ps),BlkA Bx 121 #[.slice A nb c,.int .i64 b,.int .i64 le,.int .i64 (k:Int)],OldA w.heap.size w])
     case atStart=>exact⟨0,0,none,0,rfl,rfl,zJ _,rfl,by omega,by omega,rfl,h7⟩
     case round=>
      obtain⟨q,a,X,c5,rfl,rfl,hq,rfl,bs,bt,HA,t⟩:=hrel;clear h7 hb y2
      by_cases h2:q<f
      ·obtain⟨z,Hz⟩:∃z,Hid (p.pos[q]? =some z):=⟨_,zB (by rw [Hf.o];exact h2)⟩;have hh:=xn.o z (zD Hz.o);have y3:=t.rowCell M4 (Z9 (by rw [DO B.o (by rw [Hf.o];exact h2)];exact K6 0 Hz.o));rw [<-hw.o,<-HA.o]at y3
       have av:a<=z:=by
        rw [HA.o];rcases zi q with h|h
        ·subst h;simpa using hh.1
        ·obtain⟨q',rfl⟩:∃q',q=q' +1:=⟨q - 1,by omega⟩;obtain⟨y,hy⟩:∃y,p.pos[q']? =some y:=⟨_,zB (by rw [Hf.o];omega)⟩;have h1:=Wf aj.o 1 q' (by rw [Hf.o];exact h2);rw [Xf hy,Xf Hz.o]at h1;rw [iU hy];exact h1
       obtain⟨dz,y4⟩:=eX (z - a);rw [y4]at y3;have cb:a+dz=z:=(by omega);have cc:¬dz<0:=(by omega);have cd:¬(1048576:Int)<dz:=(by omega);have a9:=hh.1;have ba:=hh.2;have ad:=t.cl M1 1;clear hh y4 av
       go_wp2_with (at_builtin;refine yC Xr (.tmp 118) (.tmp 120) rfl rfl t rfl (cs:= #[.int .i64 z]) rfl rfl rfl (by intro u hu;simp at hu;subst hu;rfl) (by omega) (by omega) ?_;intro A8 c8 w8 az y8 F;have ca:=F.cl M1 1;have ht:=(F.blkOf M1).frozen 1);have G:=(F.p1.set 1 (.slice A8 (q+1) c8)).p1
       have e:ints (p.pos.take q)++ #[Value.int .i64 z].toList=ints (p.pos.take (q+1)):=(by rw [zI,Hz.o];simp [ints]);rw [e]at G
       go_roundg (f - (q+1))
       ·exact⟨q+1,z,A8,c8,by go_num,rfl,by omega,rfl,a9,ba,by show _=_;rw [iU Hz.o];rfl,G⟩
       ·omega
      ·obtain rfl:q=f:=by omega
       have a8:=t.cl M1 0;have ad:=t.cl M1 1;have ht:=(t.blkOf M1).frozen 1;have hb:=h9.o _ t.tail.tail;have b8:¬q=0:=(by omega)
       have hx:∀W:O,(Instr.slice 57 (.slice (some ⟨C,s,none⟩) J J) (some (.int .i64 (q:Int))) none none).run prog W= .ok (.slice (if J=q then some ⟨C,s,none⟩else some ⟨C,s+q,none⟩) (J - q) (J - q)) W:=by
        intro W;simp [Instr.slice,Instr.sliceBounds,go_sem,Addr.add, *]
       obtain⟨h4,hA2⟩:∃A2:aA,(if J=q then some ⟨C,s,none⟩else some ⟨C,s+q,none⟩)=A2:=⟨_,rfl⟩;obtain⟨h3,he⟩:=eX (J - q);rw [hA2,he]at hx;have bi:=(t.rowOf (.head _)).cap;have h8:=(t.p1.set 1 (.slice X q q)).p2;have ag:Hid (0<h3->h4=some ⟨C,s+q,none⟩):=fun h=>by rw [<-hA2,if_neg (by omega)]
       have ak:Hid (h3+(s+q)=N):=(by show _=_;have:=h5.o;omega);have ae:p.pos.take q=p.pos:=zF (by rw [Hf.o];omega);have am:=zA ae;clear hA2 he ae
       go_wp2_with (first
        |(go_at_call 54;refine(UO _ _ _ _ (by omega) (by omega)).mono ?_;rintro e w' ⟨rfl,rfl⟩)
        |(at_builtin;refine yC eF (.tmp 135) (.tmp 137) rfl rfl h8 rfl (cs:= #[.int .i64 g,.slice X q q]) rfl (by simp) rfl (by intro u hu;simp at hu;rcases hu with rfl|rfl<;>rfl) (by omega) (by omega) ?_;intro A8 c8 w8 az y8 F)
        |fail)
       have G:Sp w8 [NA X q c5 (p.pos.take q),RowA 116 2 (.slice A8 (j+1) c8) (j+1) (css.flatten++ [.int .i64 g,.slice X q q]),ElsA css (ps.take j),IA (some ⟨C,0,none⟩) N N (ym ps),IA (some ⟨g2,0,none⟩) k k (ZS ps),IA (some ⟨g1,0,none⟩) k k (docD b ps),BlkA Bx 121 #[.slice A nb c,.int .i64 b,.int .i64 le,.int .i64 (k:Int)],OldA w.heap.size w]:=F.d1.p1;rw [am.o]at G
       have hi:=(G.clip.ints (fun x hx=>by have:=xn.o x hx;unfold In64;omega)).mk1 (cs:= [.int .i64 g,.slice X q q]) (x:=p) fun S r=>by
        obtain⟨A',n',c',e,h⟩:=r;cases e;rw [<-ho.o];exact PostD.of_cells h (by have:=(ha.o p (zD B.o));unfold In64;omega)
       have hn:=hi.p2.p1.elsPush.p1;have e1:ps.take (j+1)=ps.take j++ [p]:=(by rw [zI,B.o];rfl);have e2:css.flatten++ [Value.int .i64 g,.slice X q q]=(css++ [[Value.int .i64 g,.slice X q q]]).flatten:=(by simp);rw [e2,<-e1]at hn;have xb:Hid (g=endD (ps.take (j+1)) b):=(by show _=_;rw [FG b B.o,ho.o]);clear t h8 F G hi hx a8 ad ht hb e1 e2
       go_roundg (k - (j+1))
       ·exact⟨j+1,s+q,h3,h4,A8,c8,_,g,by go_num,rfl,rfl,rfl,by omega,rfl,xb,hz.o.symm,ak,ag,hn⟩
       ·omega
    ·obtain rfl:j=k:=by omega
     have i:ps.take j=ps:=zF (by rw [Hm.o];omega);rw [i]at HS;have y6:=Y.o;rw [i,y7.o]at y6;subst y6;have bu:=HS.cl M5 2;clear i;go_wp2
     go_quiet (fail)
     go_wp2;go_ret2;exact⟨Ao,co,css,rfl,(HS.d2.d2.d2.d2).drewN _⟩
end Go.Proofs.YtjbhbfaeielbiaaGreatDoor

import Derived.Shelf.RegionOpen
import Derived.LoopNIn
import Derived.LoopIn
import Derived.Test.YtjbhbfaeielbiaaGreatDoorPart12
set_option maxRecDepth 100000
set_option maxHeartbeats 8000000
set_option linter.unusedVariables false
set_option linter.unusedSimpArgs false
namespace Go.Proofs.YtjbhbfaeielbiaaGreatDoor
open Tryz
open Rep (rep)
open Go.RowKit Go.Shelf
attribute [local go_sem] Oper.semAt_some
def Zy (Bs Bn:Nat) (W W' :O):Prop:=W.heap.size<=W'.heap.size/\(∀t v,Boxed W Bs t v->Boxed W' Bs t v)/\∀t v,Boxed W Bn t v->Boxed W' Bn t v
theorem Zy.trans {Bs Bn:Nat} {A B C:O} (h:Zy Bs Bn A B) (k:Zy Bs Bn B C):Zy Bs Bn A C:=⟨zY h.1 k.1,fun t v hv=>k.2.1 t v (h.2.1 t v hv),fun t v hv=>k.2.2 t v (h.2.2 t v hv)⟩
theorem Zy.putObj {Bs Bn:Nat} (W:O) (l:Nat) (o o' :Obj) (h:W.heap[l]? =some o) (hc:o.isCells=false):Zy Bs Bn W (W.putObj l o'):=
 ⟨(grownBy_putObj' W l o').size,fun t v hv=>hv.kept (grownBy_putObj' W l o') (fun e=>by cases e;rw [show W.heap[Bs]? =_ from hv]at h;cases h;cases hc),fun t v hv=>hv.kept (grownBy_putObj' W l o') (fun e=>by cases e;rw [show W.heap[Bn]? =_ from hv]at h;cases h;cases hc)⟩
theorem Boxed.below_ {W W' :O} {B:Nat} {t:TypeId} {v:V} (h:Boxed W B t v) (hb:Below W.heap.size W W'):Boxed W' B t v:=(hb.block B h.lt).trans h
def XE (A:aA) (size n sz x:Nat):V:=match A with
 |some ⟨b,off,_⟩=> .slice (some ⟨b,off+x*size,none⟩) (min sz (n - x)) (min sz (n - x))
 |none=> .slice none 0 0
def ZC (sz k:Nat):aE:=(List.range k).map (·*sz)
theorem Xk (sz k:Nat):ZC sz (k+1)=ZC sz k++ [k*sz]:=by simp [ZC,List.range_succ]
theorem FV (A:aA) (n c sz:Nat) (h0:0<sz) (hs:sz<=1000) (w:O):
 Calls prog 159 #[.slice A n c,.int .i64 (sz:Int)] w fun e w' =>e= .returned (.func (.func 213) #[] #[.pointer (some ⟨w.heap.size,0,none⟩),.pointer (some ⟨w.heap.size+1,0,none⟩)])/\w' =(w.alloc (.cells #[.slice A n c] 57)).alloc (.cells #[.int .i64 (sz:Int)] 3):=by
 have hmf:=@mF prog;have h1:(1:Int)<=sz:=by omega
 go_enter func159,ntmps159;go_wp2;go_ret
 exact⟨rfl,rfl⟩
theorem FW (A:aA) (n c sz:Nat) (hA:0<n->∃b off,A=some ⟨b,off,none⟩) (hs0:0<sz) (hs:sz<=1000) (hn:n<=1000000000000) (hnc:n<=c) (hc:c<=9223372036854775807) (d:Nat) (hd1:1<=d)
 (l Bs Bn:Nat) (J Jx:List (Fin n)->O->Prop) (W:O) (hJ:AbidesFrom W.heap.size J)
 (hY:∀pre (x:Fin n) W1,J pre W1->pre.length<n->YieldAt Fence.wide (d - 1) prog l #[XE A 1 n sz x] W1 fun e W' =>
  (e= .returned (.bool true)/\J (pre++ [x]) W' /\Zy Bs Bn W1 W')\/(e= .returned (.bool false)/\Jx (pre++ [x]) W'))
 (hBs:Boxed W Bs 57 (.slice A n c)) (hBn:Boxed W Bn 3 (.int .i64 (sz:Int))) (h0:J [] W):
 CallsIn Fence.wide d prog 213 #[.func (.yield l) #[] #[],.pointer (some ⟨Bs,0,none⟩),.pointer (some ⟨Bn,0,none⟩)] W fun e W' =>(∃v,e= .returned v)/\
  ((∃ys,(∃k,ys.map Fin.val=ZC sz k/\n<=k*sz/\(k=0\/(k - 1)*sz<n))/\J ys W')\/(∃pre,Jx pre W')):=by
 have HY:=zA hY;have HJ:=zA hJ;have mixed:Tryz.prog.follows .mixedOrders=true:=by kernel_rfl
 clear hY hJ;refine callsIn_of_wp func213 rfl trivial ?_ rfl;simp only [ntmps213,yP,z6,yO,Nat.reduceAdd,Nat.reduceSub,xI,xH,xf,xM,zZ,yI]
 gi_wp2
 gi_loopw [4] (fun i wr=>∃(k:Nat) (ys:List (Fin n)),i= .int .i64 ((k*sz:Nat):Int)/\ys.map Fin.val=ZC sz k/\(k=0\/(k - 1)*sz<n)/\J ys wr/\W.heap.size<=wr.heap.size/\Boxed wr Bs 57 (.slice A n c)/\Boxed wr Bn 3 (.int .i64 (sz:Int))) (fun i _=>n+sz - (intOf i).toNat)
 case atStart=>exact⟨0, [],by simp,rfl,.inl rfl,h0,zC _,hBs,hBn⟩
 case round=>
  obtain⟨k,ys,rfl,hys,hk,hJy,hsz,hbs,hbn⟩:=hrel;have Hys:=zA hys;have HJy:=zA hJy;have Hk:=zA hk;have cs:=hbs.cell;have cn:=hbn.cell;have Hbs:=zA hbs;have Hbn:=zA hbn;obtain⟨i,hi⟩:=eX (k*sz);rw [hi];have Hi:=zA hi;clear hys hJy hk hbs hbn hi
  by_cases hlt:i<n
  ·obtain⟨b,off,rfl⟩:=hA (by omega);have h1:(i:Int)<=n:=(by omega);have h2:(i:Int)<=c:=(by omega);have h3:(0:Int)<=i:=(by omega);have hne:¬c=i:=(by omega);obtain⟨m,hm⟩:=eX (min sz (n - i));have hm1:min (sz:Int) ((n - i:Nat):Int)=m:=(by omega);have h4:(i:Int)+m<=c:=(by omega);have h5:(0:Int)<=m:=(by omega);have h6:i+m - i=m:=(by omega)
   have hJ2:=HJ.out _ _ _ _ HJy.out (⟨rfl,rfl,rfl,zC _,fun _ _ _=>rfl⟩:wr.grownBy wr.drew none) (fun _ e=>by cases e)
   have hys:ys.length<n:=by
    have h:=congrArg List.length Hys.out;simp [ZC]at h;have:k<=k*sz:=Nat.le_mul_of_pos_right _ hs0;have:=Hi.out;omega
   obtain⟨fn,tmps,assign,body,hy,hR⟩:=HY.out _ ⟨i,hlt⟩ wr.drew hJ2 hys;simp only [XE,hm,yr]at hy;have HR:=zA hR;have Hm:=zA hm;clear hm hR hJ2 hys
   gi_wp2
   gi_region_with_o (fail)
   all_goals
    gi_wp2
    refine HR.out.mono ?_;rintro e W3 (⟨rfl,hJ3,hk3⟩|⟨rfl,hJx3⟩)
    ·have hb3:=hk3.2.1 _ _ Hbs.out;have hn3:=hk3.2.2 _ _ Hbn.out;have hz3:wr.heap.size<=W3.heap.size:=hk3.1;have cn3:=hn3.cell;have Hb3:=zA hb3;have Hn3:=zA hn3;have HJ3:=zA hJ3;clear hJ3 hk3 hb3 hn3 cs cn
     gi_wp2
     go_roundw
     case rel=>exact⟨k+1,ys++ [⟨i,hlt⟩],by rw [Nat.succ_mul,Hi.out];go_num,by rw [zw,Hys.out,Xk,Hi.out];rfl,.inr (by rw [Nat.add_sub_cancel,Hi.out];exact hlt),HJ3.out,by omega,Hb3.out,Hn3.out⟩
     case measure=>simp [intOf];omega
    ·gi_wp2
     refine bodyPost_ret (results_none rfl _ _ _) rfl ?_;exact⟨⟨_,rfl⟩,.inr ⟨_,hJx3⟩⟩
  ·gi_wp2
   go_end0
   exact⟨⟨_,rfl⟩,.inl ⟨_,⟨k,Hys.out,by rw [Hi.out];omega,Hk.out⟩,HJy.out⟩⟩
theorem cQ:Elt prog 123 35 1 8:=xt underlying123 (by decide) (by kernel_rfl)
theorem mC:(Tryz.prog.info? 35).bind (fun i=>i.zero)=some (.int .u64 0):=by kernel_rfl
theorem Zy.of {Bs Bn:Nat} {W W' :O} {t t' :TypeId} {v v' :V} (hz:W.heap.size<=W'.heap.size) (h1:Boxed W Bs t v) (k1:Boxed W' Bs t v) (h2:Boxed W Bn t' v') (k2:Boxed W' Bn t' v'):Zy Bs Bn W W' :=
 ⟨hz,fun _ _ u=>Boxed.same h1 k1 u,fun _ _ u=>Boxed.same h2 k2 u⟩
theorem Zy.refl (Bs Bn:Nat) (W:O):Zy Bs Bn W W:=⟨zC _,fun _ _ h=>h,fun _ _ h=>h⟩
theorem LG {l:aD} {x:Int} (h:x∈l):minI l<=x:=nC h
theorem dS {l:aD} (h:l≠ []):minI l∈l:=Wn h
theorem MG {w:O} {L:List Asn} (h:Sp w L) {A:aA} {n c wd:Nat} {l:aE} (hw:wd<=64) (hn:n<=1048576) (hl:RU w A n l) (hb:∀x∈l,x<18446744073709551616):
 Calls prog 162 #[.slice A n c,.int .i64 (wd:Int)] w fun e w' =>∃A' m,e= .returned (.slice A' m m)/\m<=8*n+1/\Sp w' (BA A' m m (Z8 l wd)::L):=by
 by_cases h0:wd=0
 ·subst h0;refine(GC A n c w).mono ?_;rintro e w' ⟨rfl,rfl⟩;have e:Z8 l 0= []:=zS (by rw [XU];simp [yK]);rw [e];exact⟨none,0,rfl,zJ _,h.nil _ _⟩
 ·refine(GB A n c wd l w (by omega) hw hn hl hb).mono ?_;rintro e w' ⟨g,rfl,hr,hbl⟩;have:wd*n<=64*n:=yj _ hw;exact⟨_,_,rfl,by unfold yK;omega,h.row hr hbl⟩
theorem UL {α β:Type} {f g:α->List β}:∀{l:List α},(∀x∈l,f x=g x)->l.flatMap f=l.flatMap g
 | [],_=>rfl
 |x::l,h=>by rw [zp,zp,h x (by simp),UL fun y hy=>h y (by simp [hy])]
theorem Sp.put {w:O} {L:List Asn} {g:Nat} {t:TypeId} {v:V} (h:Sp w (BlkA g t #[v]::L)) (u:V):Sp (w.setCell ⟨g,0,none⟩ u) (BlkA g t #[u]::L):=h.set 0 u
def V2 (l:aD) (x:Nat):aD:=(l.drop x).take 128
theorem gU (l:aD):∀(k:Nat),putL l=(ZC 128 k).flatMap (fun x=>if l.drop x= []then []else Zf (V2 l x))++putL (l.drop (k*128))
 |0=>by simp [ZC]
 |k+1=>by
  rw [gU l k,Xk,yS,zO]
  congr 1
  simp only [zp,x7,zo]
  by_cases h:l.drop (k*128)= []
  ·rw [if_pos h,h,QP,zQ (by have:=congrArg List.length h;rw [ze]at this;simp at this;omega),QP];rfl
  ·rw [if_neg h,U6 h,List.drop_drop,Nat.succ_mul];rfl
abbrev PutI (A:aA) (n c:Nat) (l:aD) (w:O) (A1:aA) (m c1:Nat) (pre:List (Fin n)):List Asn:=
 [BlkA w.heap.size 65 #[.slice A1 m c1],BA A1 m c1 (pre.flatMap fun x=>Zf (V2 l x.val)),BlkA (w.heap.size+1+1) 3 #[.int .i64 128],BlkA (w.heap.size+1) 57 #[.slice A n c],OldA w.heap.size w]
theorem PutI.cls {A:aA} {n c:Nat} {l:aD} {w:O} {A1:aA} {m c1:Nat} {pre:List (Fin n)} {B:Nat} (h:w.heap.size<=B):Cls B (PutI A n c l w A1 m c1 pre):=
 ⟨BlkA.cl _ _ _ _,RowA.cl _ _ _ _ _ _,BlkA.cl _ _ _ _,BlkA.cl _ _ _ _,OldA.cl h,trivial⟩
theorem Qc (A:aA) (n c:Nat) (l:aD) (w:O) (hn:n<=1000000000) (hnc:n<=c) (hc:c<=9223372036854775807) (hl:RI w A n l) (hL:InL l):
 Calls prog 86 #[.slice A n c] w fun e w' =>∃A' m,e= .returned (.slice A' m m)/\m<=2000*n/\Sp w' [BA A' m m (putL l),OldA w.heap.size w]:=by
 have hA:0<n->∃b off,A=some ⟨b,off,none⟩:=fun h=>by obtain⟨b,off,e,_⟩:=hl.2 h;exact⟨b,off,e⟩
 have Hl:=zA hl;have HL:=zA hL;clear hl hL;refine(callsIn_wide (n:=6)).1 ?_;refine callsIn_of_wp_marks func86 rfl trivial ?_ rfl;simp only [ntmps86,yP,z6,yO,Nat.reduceAdd,Nat.reduceSub,xI,xH,xf,xM,zZ,yI]
 gi_wp2_with (refine⟨trivial,?_⟩;gi_at_call 159;refine(callsIn_wide.2 (FV A n c 128 (by decide) (by decide) _)).mono ?_;rintro e w2 ⟨rfl,rfl⟩)
 have HS:Sp (((w.alloc (.cells #[.slice none 0 0] 65)).alloc (.cells #[.slice A n c] 57)).alloc (.cells #[.int .i64 128] 3)) (PutI A n c l w none 0 0 []):=
  ((((((Sp.start w).nil 5 1).blkH 65 #[.slice none 0 0] (H:=w.heap.size) rfl).blkH 57 #[.slice A n c] (H:=w.heap.size+1) (by simp)).blkH 3 #[.int .i64 128] (H:=w.heap.size+1+1) (by simp)).p2).p3.p1
 have hsz:(((w.alloc (.cells #[.slice none 0 0] 65)).alloc (.cells #[.slice A n c] 57)).alloc (.cells #[.int .i64 128] 3)).heap.size=w.heap.size+3:=by simp
 obtain⟨W0,hW0⟩:=eX ((((w.alloc (.cells #[.slice none 0 0] 65)).alloc (.cells #[.slice A n c] 57)).alloc (.cells #[.int .i64 128] 3)));rw [hW0]at HS hsz⊢;clear hW0;have bS:Boxed W0 (w.heap.size+1) 57 (.slice A n c):=HS.blkOf (.tail _ (.tail _ (.tail _ (.head _))));have bN:Boxed W0 (w.heap.size+1+1) 3 (.int .i64 128):=HS.blkOf (.tail _ (.tail _ (.head _)))
 refine wpIn_rangeFunc_ownH (α:=Fin n) rfl (by omega) (gf:=213) (lb:= #[.pointer (some ⟨w.heap.size+1,0,none⟩),.pointer (some ⟨w.heap.size+1+1,0,none⟩)]) rfl trivial (enters_of func213 (by kernel_rfl) rfl)
  (encs:=fun x:Fin n=> #[XE A 1 n 128 x]) (Kp:=Zy (w.heap.size+1) (w.heap.size+1+1)) (S:=fun ys=>∃k,ys.map Fin.val=ZC 128 k/\n<=k*128/\(k=0\/(k - 1)*128<n)) (Sp:=fun _=>True) (N:=n) (w0:=W0)
  (fun lq J Jx W hW hJ _ hY h0=>(FW A n c 128 hA (by decide) (by decide) (by omega) hnc hc (6 - 1) (by omega) lq _ _ J Jx W hJ hY (Boxed.below_ bS hW) (Boxed.below_ bN hW) h0).mono fun _ _ ⟨he,h⟩=>⟨he,h.imp (fun⟨ys,h1,h2⟩=>⟨ys,h1,h2⟩) (fun⟨pre,h⟩=>⟨pre,trivial,h⟩)⟩)
  Zy.trans (fun W lq o o' _ h hc _=>Zy.putObj W lq o o' h hc) (zE _ _) (fun _=>rfl)
  (fun pre W=>(∃A1 m c1,m<=2000*pre.length/\Sp W (PutI A n c l w A1 m c1 pre))/\W0.heap.size<=W.heap.size) (fun _ _ _=>False)
  (fun s X Y row hs hg hr=>⟨by obtain⟨⟨A1,m,c1,h1,h2⟩,_⟩:=hs;exact⟨A1,m,c1,h1,h2.from hg hr (PutI.cls (by omega))⟩,zY hs.2 hg.size⟩)
  (fun _ _ _ _ _ hs _ _=>hs)
  ⟨⟨none,0,0,zJ _,HS⟩,zC _⟩
  (fun x a' _=>a' ={tmps:= #[.slice A n c,undef,.slice none 0 0,.pointer (some ⟨w.heap.size,0,none⟩),XE A 1 n 128 x,undef,undef,undef,undef,undef,.slice A n c,.func (.func 213) #[] #[.pointer (some ⟨w.heap.size+1,0,none⟩),.pointer (some ⟨w.heap.size+1+1,0,none⟩)],XE A 1 n 128 x,undef,undef,undef,undef,undef,undef,undef,undef,undef,undef,undef,undef,undef,undef,undef,undef,undef,undef,undef,undef,undef,undef,undef,undef,undef,undef,undef,undef,undef,undef,undef,undef,undef,undef,undef,undef,undef],defers:= []})
  (fun _ _ _ _ _ _ hs _ _=>hs)
  ?assign ?body ?done ?stop
 case assign=>
  rintro lq pre x W K hI hK
  gi_wp2
  exact hK _ _ (KeepsFrom.refl _ _) (Zy.refl _ _ _) hI rfl
 case body=>
  rintro lq pre x a' W hl ⟨r,hr⟩ ⟨⟨A1,m,c1,hm,HS⟩,hsz0⟩ rfl hlt;obtain⟨b,off,rfl⟩:=hA (Nat.lt_of_le_of_lt (zJ _) x.isLt);obtain⟨i,hi⟩:=eX (x.val);have hin:i<n:=(by rw [<-hi];exact x.isLt);obtain⟨M,hM⟩:=eX (min 128 (n - i));have hM0:0<M:=(by omega);have hM1:M<=128:=(by omega);have hM2:i+M<=n:=(by omega);obtain⟨ch,hch⟩:=eX ((l.drop i).take M)
  have hchL:Hid (V2 l x.val=ch):=by
   show _=_;have hln:l.length=n:=(by have:=Hl.out.1;simpa [ints]using this);unfold V2;rw [hi,<-hch];rcases Nat.le_total 128 (n - i)with h|h
   ·rw [show M=128 by omega]
   ·rw [zF (by rw [ze];omega),zF (by rw [ze];omega)]
  have hri:RI w (some ⟨b,off+i,none⟩) M ch:=by
   have h:=RC.sub_at Hl.out (i:=i) (k:=M) hM2;simp only [yr]at h;rw [<-hch];unfold RI
   simpa [ints,List.map_take,List.map_drop]using h
  have hcl:ch.length=M:=(by have:=hri.1;simpa [ints]using this);have Hri0:=zA hri;have Hri:=zA (hri.on (HS.below (.tail _ (.tail _ (.tail _ (.tail _ (.head _)))))));have HcL:=zA (show ∀y∈ch, -9223372036854775808<=y/\y<=9223372036854775807 from fun y hy=>HL.out y (List.mem_of_mem_drop (yu (hch▸hy))));have Hcl:=zA hcl;have HK:=HS.kp (PutI.cls (B:=W0.heap.size) (by omega));have Hr:=zA hr
  clear hri hch hcl hr HS;have HX:=zA hi;simp only [XE,yr,hi,hM];clear hi hM;have h1' :1<=6 - 1 - 1:=by omega
  gi_wp2_with (first
   |(refine⟨trivial,?_⟩;gi_at_call 160;refine(yU lq (callsIn_wide.2 (LF _ M M ch _ hM0 (by omega) Hri.out))).mono ?_;rintro e w2 ⟨rfl,rfl⟩)
   |(gi_at_make;refine rB cQ (.tmp 16) (.tmp 16) rfl rfl HK rfl rfl rfl (by omega) (by omega) mC ?_;intro w1 HS1;rw [Vv]at HS1))
  obtain⟨up,hup⟩:∃up:Int->Nat,up=fun y=>(y - minI ch).toNat:=⟨_,rfl⟩;have Hup:=zA hup;clear hup
  gi_loopw [20] (fun vi wr=>∃(q:Nat) (cur:aE),q<=M/\vi= .int .i64 q/\cur.length=M/\Hid (cur.take q=(ch.take q).map up)/\Sp wr (RowA 35 1 (.slice (some ⟨W.heap.size,0,none⟩) M M) M (uC cur)::KpA W0.heap.size W::PutI (some ⟨b,off,none⟩) n c l w A1 m c1 pre)) (fun vi _=>M - (intOf vi).toNat)
  case atStart=>exact⟨0,List.replicate M 0,zJ _,rfl,by simp,rfl,HS1⟩
  case round=>
   obtain⟨q,cur,hq,rfl,hcu,hcm,HS2⟩:=hrel
   by_cases hqM:q<M
   ·obtain⟨y,hy⟩:∃y,ch[q]? =some y:=⟨_,zB (by rw [Hcl.out];exact hqM)⟩
    have hcy:wr.cell? ⟨b,off+i+q,none⟩=some (.int .i64 y):=by
     obtain⟨b',off',e,_,h⟩:=(RI.on Hri0.out (HS2.below (.tail _ (.tail _ (.tail _ (.tail _ (.tail _ (.tail _ (.head _))))))))).2 hM0;cases e;exact h q _ (by simp [ints,hy])
    have hco:=HS2.rowCell (.head _) (WB (zB (l:=cur) (i:=q) (by omega)));have hfo:=HS2.rowFree (.head _) q;have hyb:=HcL.out y (zD hy);have hmin:=LG (zD hy);have hmb: -9223372036854775808<=minI ch:=(HcL.out _ (dS (by intro h;rw [h]at hy;simp at hy))).1
    have hv:IntKind.u64.wrap (IntKind.u64.wrap y - IntKind.u64.wrap (minI ch))=((up y:Nat):Int):=by
     rw [show up y=(y - minI ch).toNat by rw [Hup.out],zW,zW,zW];omega
    have hcm2:Hid ((cur.set q (up y)).take (q+1)=(ch.take (q+1)).map up):=by
     show _=_;rw [zI,zI,hy,List.take_set_of_le (zC _),hcm.out];simp [xO,hcu,hqM]
    have hse:=HS2.rowSet q (.int .u64 (up y:Int))
    have hse2:Sp (wr.setCell ⟨W.heap.size,q,none⟩ (.int .u64 (up y:Int))) (RowA 35 1 (.slice (some ⟨W.heap.size,0,none⟩) M M) M (uC (cur.set q (up y)))::KpA W0.heap.size W::PutI (some ⟨b,off,none⟩) n c l w A1 m c1 pre):=by
     have e:uC (cur.set q (up y))=(uC cur).set q (.int .u64 (up y:Int)):=(by simp [uC,List.map_set]);rw [e];exact hse
    clear hy hmin hmb hyb hse
    gi_wp2
    go_roundw
    case rel=>exact⟨q+1,cur.set q (up y),by omega,by go_num,by simpa using hcu,hcm2,hse2⟩
    case measure=>simp [intOf];omega
   ·obtain rfl:q=M:=by omega
    have hall:cur=xv ch:=by
     have h:=hcm.out;rw [zF (by omega),zF (by rw [Hcl.out];omega)]at h;rw [h,Hup.out];rfl
    subst hall;have hub:=Wv HcL.out;obtain⟨wd,hwd⟩:=eX (ZW (xv ch));have hw64:wd<=64:=(by rw [<-hwd];exact UU hub);have Hwd:=zA (kL (some ⟨W.heap.size,0,none⟩) q q (xv ch) wr (by omega) (HS2.rc (.head _)) hub);rw [hwd]at Hwd;have Hub:=zA hub;have hc0:=HS2.cell (.tail _ (.tail _ (.head _))) 0;have hf0:=(HS2.blkOf (.tail _ (.tail _ (.head _)))).frozen 0
    have Hcl1:=HS2.rb (.tail _ (.tail _ (.tail _ (.head _))));have hmin1:=HcL.out _ (dS (by intro h;have h2:=Hcl.out;rw [h]at h2;simp at h2;omega));have Hpi:=zA (pInt HS2 (c:=c1) Hcl1.1 (x:=minI ch) (by have:=pre.length;omega) hmin1);have HWd:=zA hwd;clear hcm hub Hcl1 hwd
    gi_wp2_with (first
     |(refine⟨trivial,?_⟩;gi_at_call 137;refine(yU lq (callsIn_wide.2 Hwd.out)).mono ?_;rintro e w2 ⟨rfl,rfl⟩)
     |(refine⟨trivial,?_⟩;gi_at_call 161;refine(yU lq (callsIn_wide.2 Hpi.out)).mono ?_;rintro e w3 ⟨A3,m3,rfl,hm3,HS3⟩;have hc3:=HS3.cell (.tail _ (.tail _ (.tail _ (.head _)))) 0;have hf3:=(HS3.blkOf (.tail _ (.tail _ (.tail _ (.head _))))).frozen 0;have HS5:=(HS3.p3.put (.slice A3 m3 m3)).p4.tail.p1)
     |(gi_at_builtin;refine YA yW (.tmp 39) (.tmp 42) rfl rfl (HS5.al _) rfl rfl (Ye _ #[.int .u8 (wd:Int)] _ rfl (H:=w3.heap.size) (by simp [World.setCell])) (by intro u hu;simp at hu;subst hu;rfl) (by omega) (by omega) ?_;intro A4 c4 w4 hc4 hm4 HS6;have Hbi:=zA (MG HS6 (c:=q) hw64 (by omega) (HS6.rc (.tail _ (.tail _ (.head _)))) Hub.out))
     |(refine⟨trivial,?_⟩;gi_at_call 162;refine(yU lq (callsIn_wide.2 Hbi.out)).mono ?_;rintro e w7 ⟨A7,m7,rfl,hm7,HS7⟩;have Hr7:=zA (HS7.rb (.head _)).1.reads)
     |(gi_at_builtin;refine YA yW (.tmp 43) (.tmp 46) rfl rfl HS7.p1 rfl rfl Hr7.out (xd _) (by omega) (by omega) ?_;intro A8 c8 w8 hc8 hm8 HS8;have hc8' :=HS8.cell (.tail _ (.tail _ (.head _))) 0;have hf8:=(HS8.blkOf (.tail _ (.tail _ (.head _)))).frozen 0))
    have HS9:=HS8.d1.p1.put (.slice A8 (m3+1+m7) c8);have hkf:=HS9.kf (.tail _ (.tail _ (.tail _ (.head _))));have q1:Boxed W (w.heap.size+1) 57 (.slice (some ⟨b,off,none⟩) n c):=HK.blkOf (.tail _ (.tail _ (.tail _ (.tail _ (.head _)))))
    have q2:Boxed (w8.setCell ⟨w.heap.size,0,none⟩ (.slice A8 (m3+1+m7) c8)) (w.heap.size+1) 57 (.slice (some ⟨b,off,none⟩) n c):=HS9.blkOf (.tail _ (.tail _ (.tail _ (.tail _ (.tail _ (.head _))))));have q3:Boxed W (w.heap.size+1+1) 3 (.int .i64 128):=HK.blkOf (.tail _ (.tail _ (.tail _ (.head _))))
    have q4:Boxed (w8.setCell ⟨w.heap.size,0,none⟩ (.slice A8 (m3+1+m7) c8)) (w.heap.size+1+1) 3 (.int .i64 128):=HS9.blkOf (.tail _ (.tail _ (.tail _ (.tail _ (.head _)))))
    have HSA:Sp (w8.setCell ⟨w.heap.size,0,none⟩ (.slice A8 (m3+1+m7) c8)) (PutI (some ⟨b,off,none⟩) n c l w A8 (m3+1+m7) c8 (pre++ [x])):=by
     have HSA:=HS9.d2.d2
     have e:bC ((pre++ [x]).flatMap fun x=>Zf (V2 l x.val))=bC ((pre.flatMap fun x=>Zf (V2 l x.val))++zP (yc (minI ch)))++ #[Value.int .u8 (wd:Int)].toList++bC (Z8 (xv ch) wd):=by
      rw [yS,zp,x7,zo,hchL.out,y9,y9,zO,zO]
      congr 1
      unfold Zf;rw [HWd.out,y9]
      congr 1
      show bC (wd.toUInt8::_)=_;rw [show(wd.toUInt8::Z8 (xv ch) wd)= [wd.toUInt8]++Z8 (xv ch) wd from rfl,y9]
      congr 1
      simp [bC,Yt (show wd<256 by omega)]
     unfold PutI BA;rw [e];exact HSA
    exact⟨hkf,Zy.of hkf.size q1 q2 q3 q4,⟨A8,m3+1+m7,c8,by simp;omega,HSA⟩,zY hsz0 hkf.size⟩
 case done=>
  rintro D ys W hD ⟨k,hk1,hk2,hk3⟩ ⟨⟨A1,m,c1,hm,HS⟩,hsz0⟩ hK;have hc0:=HS.cell (.head _) 0;have hcap:=(HS.rb (.tail _ (.head _))).2
  gi_wp2_with (refine⟨trivial,?_⟩;gi_at_call 55;refine(callsIn_wide.2 (Zt _ _ _ _ hcap.1 hcap.2)).mono ?_;rintro e w3 ⟨rfl,rfl⟩)
  have HS2:=(HS.from (grownBy_putObj' W D (.deferred none)) (fun r e=>by cases e;exact⟨hD,_,hK,rfl⟩) (PutI.cls (B:=W0.heap.size) (by omega))).tail.d1.d1.clip
  have hfl:(ys.flatMap fun x=>Zf (V2 l x.val))=putL l:=by
   have hln:l.length=n:=Hl.out.len;have h:=gU l k;rw [zQ (by omega),QP,zo,<-hk1,List.flatMap_map]at h;rw [h];refine UL fun x _=> ?_;rw [if_neg];intro h2;have h3:=congrArg List.length h2;rw [ze,yO]at h3;have:=x.isLt;omega
  rw [hfl]at HS2;refine⟨by simp,.inl ⟨_,_,rfl,run_takeDeferred hK,?_⟩⟩;have hyl:ys.length=k:=(by have:=congrArg List.length hk1;simpa [ZC]using this);exact⟨_,results_tmp rfl _ _ _,A1,m,rfl,by rw [hyl]at hm;omega,HS2⟩
 case stop=>exact fun _ _ _ _ _ _ h=>h.elim
theorem BJ (A:aA) (n c sz:Nat) (h0:0<sz) (hs:sz<=1000) (w:O):
 Calls prog 264 #[.slice A n c,.int .i64 (sz:Int)] w fun e w' =>e= .returned (.func (.func 323) #[] #[.pointer (some ⟨w.heap.size,0,none⟩),.pointer (some ⟨w.heap.size+1,0,none⟩)])/\w' =(w.alloc (.cells #[.slice A n c] 110)).alloc (.cells #[.int .i64 (sz:Int)] 3):=by
 have hmf:=@mF prog;have h1:(1:Int)<=sz:=by omega
 go_enter func264,ntmps264;go_wp2;go_ret
 exact⟨rfl,rfl⟩
theorem BK (A:aA) (n c sz:Nat) (hA:0<n->∃b off,A=some ⟨b,off,none⟩) (hs0:0<sz) (hs:sz<=1000) (hn:n<=1000000000000) (hnc:n<=c) (hc:c<=9223372036854775807) (d:Nat) (hd1:1<=d)
 (l Bs Bn:Nat) (J Jx:List (Fin n)->O->Prop) (W:O) (hJ:AbidesFrom W.heap.size J)
 (hY:∀pre (x:Fin n) W1,J pre W1->pre.length<n->YieldAt Fence.wide (d - 1) prog l #[XE A 2 n sz x] W1 fun e W' =>
  (e= .returned (.bool true)/\J (pre++ [x]) W' /\Zy Bs Bn W1 W')\/(e= .returned (.bool false)/\Jx (pre++ [x]) W'))
 (hBs:Boxed W Bs 110 (.slice A n c)) (hBn:Boxed W Bn 3 (.int .i64 (sz:Int))) (h0:J [] W):
 CallsIn Fence.wide d prog 323 #[.func (.yield l) #[] #[],.pointer (some ⟨Bs,0,none⟩),.pointer (some ⟨Bn,0,none⟩)] W fun e W' =>(∃v,e= .returned v)/\
  ((∃ys,(∃k,ys.map Fin.val=ZC sz k/\n<=k*sz/\(k=0\/(k - 1)*sz<n))/\J ys W')\/(∃pre,Jx pre W')):=by
 have HY:=zA hY;have HJ:=zA hJ;have mixed:Tryz.prog.follows .mixedOrders=true:=by kernel_rfl
 clear hY hJ;refine callsIn_of_wp func323 rfl trivial ?_ rfl;simp only [ntmps323,yP,z6,yO,Nat.reduceAdd,Nat.reduceSub,xI,xH,xf,xM,zZ,yI]
 gi_wp2
 gi_loopw [4] (fun i wr=>∃(k:Nat) (ys:List (Fin n)),i= .int .i64 ((k*sz:Nat):Int)/\ys.map Fin.val=ZC sz k/\(k=0\/(k - 1)*sz<n)/\J ys wr/\W.heap.size<=wr.heap.size/\Boxed wr Bs 110 (.slice A n c)/\Boxed wr Bn 3 (.int .i64 (sz:Int))) (fun i _=>n+sz - (intOf i).toNat)
 case atStart=>exact⟨0, [],by simp,rfl,.inl rfl,h0,zC _,hBs,hBn⟩
 case round=>
  obtain⟨k,ys,rfl,hys,hk,hJy,hsz,hbs,hbn⟩:=hrel;have Hys:=zA hys;have HJy:=zA hJy;have Hk:=zA hk;have cs:=hbs.cell;have cn:=hbn.cell;have Hbs:=zA hbs;have Hbn:=zA hbn;obtain⟨i,hi⟩:=eX (k*sz);rw [hi];have Hi:=zA hi;clear hys hJy hk hbs hbn hi
  by_cases hlt:i<n
  ·obtain⟨b,off,rfl⟩:=hA (by omega);have h1:(i:Int)<=n:=(by omega);have h2:(i:Int)<=c:=(by omega);have h3:(0:Int)<=i:=(by omega);have hne:¬c=i:=(by omega);obtain⟨m,hm⟩:=eX (min sz (n - i));have hm1:min (sz:Int) ((n - i:Nat):Int)=m:=(by omega);have h4:(i:Int)+m<=c:=(by omega);have h5:(0:Int)<=m:=(by omega);have h6:i+m - i=m:=(by omega)
   have hJ2:=HJ.out _ _ _ _ HJy.out (⟨rfl,rfl,rfl,zC _,fun _ _ _=>rfl⟩:wr.grownBy wr.drew none) (fun _ e=>by cases e)
   have hys:ys.length<n:=by
    have h:=congrArg List.length Hys.out;simp [ZC]at h;have:k<=k*sz:=Nat.le_mul_of_pos_right _ hs0;have:=Hi.out;omega
   obtain⟨fn,tmps,assign,body,hy,hR⟩:=HY.out _ ⟨i,hlt⟩ wr.drew hJ2 hys;simp only [XE,hm]at hy;have HR:=zA hR;have Hm:=zA hm;clear hm hR hJ2 hys
   gi_wp2
   gi_region_with_o (fail)
   all_goals
    gi_wp2
    refine HR.out.mono ?_;rintro e W3 (⟨rfl,hJ3,hk3⟩|⟨rfl,hJx3⟩)
    ·have hb3:=hk3.2.1 _ _ Hbs.out;have hn3:=hk3.2.2 _ _ Hbn.out;have hz3:wr.heap.size<=W3.heap.size:=hk3.1;have cn3:=hn3.cell;have Hb3:=zA hb3;have Hn3:=zA hn3;have HJ3:=zA hJ3;clear hJ3 hk3 hb3 hn3 cs cn
     gi_wp2
     go_roundw
     case rel=>exact⟨k+1,ys++ [⟨i,hlt⟩],by rw [Nat.succ_mul,Hi.out];go_num,by rw [zw,Hys.out,Xk,Hi.out];rfl,.inr (by rw [Nat.add_sub_cancel,Hi.out];exact hlt),HJ3.out,by omega,Hb3.out,Hn3.out⟩
     case measure=>simp [intOf];omega
    ·gi_wp2
     refine bodyPost_ret (results_none rfl _ _ _) rfl ?_;exact⟨⟨_,rfl⟩,.inr ⟨_,hJx3⟩⟩
  ·gi_wp2
   go_end0
   exact⟨⟨_,rfl⟩,.inl ⟨_,⟨k,Hys.out,by rw [Hi.out];omega,Hk.out⟩,HJy.out⟩⟩
end Go.Proofs.YtjbhbfaeielbiaaGreatDoor

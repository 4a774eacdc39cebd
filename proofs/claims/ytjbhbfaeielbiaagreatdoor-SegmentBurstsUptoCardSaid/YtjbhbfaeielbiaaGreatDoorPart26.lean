import Derived.Test.YtjbhbfaeielbiaaGreatDoorPart21
import Derived.Test.YtjbhbfaeielbiaaGreatDoorPart20
set_option maxRecDepth 100000
set_option maxHeartbeats 8000000
set_option linter.unusedVariables false
set_option linter.unusedSimpArgs false
namespace Go.Proofs.YtjbhbfaeielbiaaGreatDoor
open Tryz
open Go.RowKit
def aV {α:Type} (xs ys:List α) (k:Nat):Prop:=xs.take k=ys.take k
theorem aV.step {α:Type} {xs ys:List α} {k:Nat} {x:α} (h:aV xs ys k) (hx:Hid (xs[k]? =some x)) (hy:Hid (ys[k]? =some x)):aV xs ys (k+1):=by
 unfold aV at*;rw [zI,zI,h,hx.out,hy.out]
theorem aV.all {α:Type} {xs ys:List α} {n:Nat} (h:aV xs ys n) (hx:xs.length=n) (hy:ys.length=n):xs=ys:=by
 unfold aV at h
 rwa [zF (by omega),zF (by omega)]at h
theorem bY (A A' :aA) (n m c c' :Nat) (xs ys:aC) (w:O) (hn:n<=9223372036854775807) (hx:RB w A n xs) (hy:RB w A' m ys):
 Calls prog 145 #[.slice A n c,.slice A' m c'] w fun e w' =>e= .returned (.bool (decide (xs=ys)))/\xG w w' :=by
 have lx:=hx.len;have ly:=hy.len
 by_cases hnm:n=m
 ·subst hnm;have Lx:=zA lx;have Ly:=zA ly;clear lx ly;go_enter func145,ntmps145;go_wp2
  go_loopw [13] (fun i wr=>∃k:Nat,k<=n/\i= .int .i64 k/\aV xs ys k/\xG w wr) (fun i _=>n - (intOf i).toNat)
  case atStart=>exact⟨0,zJ _,rfl,rfl,0,rfl⟩
  case round=>
   obtain⟨k,hk,rfl,hs,hd⟩:=hrel
   by_cases hlt:k<n
   ·obtain⟨j,rfl⟩:=hd;obtain⟨b1,o1,x,rfl,_,hcx,Hx⟩:=hx.at_ hlt
    obtain⟨b2,o2,y,rfl,_,hcy,Hy⟩:=hy.at_ hlt
    clear hx hy
    by_cases hxy:x=y
    ·subst hxy;have Hs:=zA (hs.step Hx Hy);clear hs;go_wp2
     go_quiet (fail)
     go_wp2
     go_roundw
     case rel=>exact⟨k+1,by omega,by go_num,Hs.out,⟨_,rfl⟩⟩
     case measure=>simp [intOf];omega
    ·have hne:((x.toNat:Int) !=(y.toNat:Int))=true:=by
      simp only [bne_iff_ne,ne_eq];intro h;exact hxy (UInt8.toNat_inj.1 (by omega))
     have hfin:decide (xs=ys)=false:=by
      simp only [decide_eq_false_iff_not];rintro rfl;have:=Hx.out.symm.trans Hy.out;cases this;exact hxy rfl
     have Hfin:=zA hfin;clear hfin hs hxy;go_wp2
     go_quiet (fail)
     go_wp2;go_ret
     exact⟨yl Hfin.out.symm,xG.more ⟨j,rfl⟩ _⟩
   ·obtain rfl:k=n:=by omega
    have hfin:decide (xs=ys)=true:=(by simp [hs.all Lx.out Ly.out]);have Hfin:=zA hfin;obtain⟨j,rfl⟩:=hd;clear hfin hs;go_wp2;go_ret
    exact⟨yl Hfin.out.symm,j,rfl⟩
 ·have hfin:decide (xs=ys)=false:=by
   simp only [decide_eq_false_iff_not];rintro rfl;omega
  have Hfin:=zA hfin;have hnm' :((n:Int) !=(m:Int))=true:=(by simp only [bne_iff_ne,ne_eq];omega);clear hfin lx ly hx hy;go_enter func145,ntmps145;go_wp2;go_ret
  exact⟨yl Hfin.out.symm,0,rfl⟩
open Rep (rep)
open Go.RowKit Go.Shelf
attribute [local go_sem] Oper.semAt_some
theorem zL.sub_at {α:Type} [Rep α] {w:O} {F:Nat->Prop} {b off n c:Nat} {xs:List α} (h:zL w F (some ⟨b,off,none⟩) n c xs) {i k:Nat} (hk:i+k<=n):zL w F (some ⟨b,off+i*Rep.size α,none⟩) k k ((xs.drop i).take k):=by
 have hl:=h.length;refine⟨by rw [zr,ze];omega,zC _,by have:=h.cap;omega,fun q x hx=> ?_⟩;have hq:q<k:=by have:=zN hx;rw [zr]at this;omega
 rw [yy,if_pos hq,List.getElem?_drop]at hx;obtain⟨hF,cs,h1,h2⟩:=h.elem hx;refine⟨b,off+i*Rep.size α,rfl,hF,cs,h1,fun j u hu=> ?_⟩;have:=h2 j u hu;rw [xK]at this;rw [show off+i*Rep.size α+q*Rep.size α+j=off+(i*Rep.size α+q*Rep.size α)+j by omega];exact this
def W9 (ps:List PostD) (w:O) (e:Ending) (w' :O):Prop:=
 if xk ps=true then ∃A' m,m<=200000000000000/\e= .returned (.tuple #[.slice A' m m,.int .i64 0])/\Sp w' [BA A' m m (YB ps),OldA w.heap.size w]
 else e= .returned (.tuple #[.slice none 0 0,.int .i64 1])/\Below w.heap.size w w'
theorem W9.bad {ps:List PostD} {w w' :O} (h:xk ps=false) (hb:Below w.heap.size w w'):W9 ps w (.returned (.tuple #[.slice none 0 0,.int .i64 1])) w' :=by
 unfold W9;rw [if_neg (by simp [h])];exact⟨rfl,hb⟩
theorem W9.ok {ps:List PostD} {w w' :O} {A' :aA} {m:Nat} (h:xk ps=true) (hm:m<=200000000000000) (hs:Sp w' [BA A' m m (YB ps),OldA w.heap.size w]):W9 ps w (.returned (.tuple #[.slice A' m m,.int .i64 0])) w' :=by
 unfold W9;rw [if_pos h];exact⟨A',m,hm,rfl,hs⟩
theorem sM {l:aD} (h:InL l) (h2:l.length<=128):(Zf l).length<=1035:=by
 have h3:=UU (Wv h);have h4:(xv l).length=l.length:=by simp [xv]
 have h5:(zP (yc (Lib.minOf l))).length<=10:=by
  refine ya (QH ?_);cases l with
  |nil=>decide
  |cons a l=>exact h _ (dS (by simp))
 unfold Zf;rw [zG,z6,XU,h4];have h6:ZW (xv l)*l.length<=64*128:=Nat.mul_le_mul h3 h2;unfold yK;omega
theorem Vo:∀(N:Nat) {l:aD},l.length<=N->InL l->(putL l).length<=1035*l.length
 |0,l,hN,_=>by
  have:l= []:=zS (by omega);subst this;rw [QP];exact zJ _
 |N+1,l,hN,hi=>by
  by_cases h:l= []
  ·subst h;rw [QP];exact zJ _
  ·have h0:0<l.length:=by cases l with|nil=>exact absurd rfl h|cons=>simp
   have h1:=sM (l:=l.take 128) (fun x hx=>hi x (yu hx)) (by rw [zr];omega);have h2:=Vo N (l:=l.drop 128) (by rw [ze];omega) (fun x hx=>hi x (List.mem_of_mem_drop hx));rw [ze]at h2;rw [U6 h,zG];omega
theorem eG:∀(last:Int) (l:List PostD),(docD last l).length=l.length
 |_, []=>rfl
 |_,p::l=>by simp [docD,eG p.doc l]
theorem kY {b:List PostD} {last:Int} (h:YJ b) (h1: -1<=last/\last<16384) (h2:b.length<=8) (h3:(ym b).length<=1048576):(Yu b last).length<=1100000000:=by
 have k1:=Vo _ (zC _) (cU b last h1.1 h1.2 h);have k2:=Vo _ (zC _) (d8 h);have k3:=Vo _ (zC _) (VT h);rw [eG]at k1;have e:(ZS b).length=b.length:=by simp [ZS]
 rw [e]at k2;unfold Yu;simp only [zG];omega
abbrev PbI (A:aA) (n c:Nat) (w:O) (G:Nat) (A1:aA) (m c1:Nat) (out:aC) (last:Int):List Asn:=
 [BlkA G 65 #[.slice A1 m c1],BlkA (G+1) 3 #[.int .i64 last],BA A1 m c1 out,BlkA (G+1+1+1) 3 #[.int .i64 8],BlkA (G+1+1) 110 #[.slice A n c],OldA w.heap.size w]
theorem PbI.cls {A:aA} {n c:Nat} {w:O} {G:Nat} {A1:aA} {m c1:Nat} {out:aC} {last:Int} {B:Nat} (h:w.heap.size<=B):Cls B (PbI A n c w G A1 m c1 out last):=
 ⟨BlkA.cl _ _ _ _,BlkA.cl _ _ _ _,RowA.cl _ _ _ _ _ _,BlkA.cl _ _ _ _,BlkA.cl _ _ _ _,OldA.cl h,trivial⟩
def Zw (ps:List PostD) {n:Nat} (pre:List (Fin n)):aC×Int:=(pre.map Fin.val).foldl (blkD ps) (zP ps.length, -1)
theorem AK (ps:List PostD) {n:Nat} (pre:List (Fin n)) (x:Fin n):Zw ps (pre++ [x])=blkD ps (Zw ps pre) x.val:=by simp [Zw,xE]
theorem jK (A:aA) (n c:Nat) (ps:List PostD) (w:O) (hn:n<=1000000) (hl:zL w (·<w.heap.size) A n c ps) (hp:∀p∈ps,p.pos.length<=10000000000):
 Calls prog 203 #[.slice A n c] w fun e w' =>W9 ps w e w' :=by
 have hA:0<n->∃b off,A=some ⟨b,off,none⟩:=fun h=>by obtain⟨b,off,_,e,_⟩:=hl.at_ h;exact⟨b,off,e⟩
 have hcap:=hl.cap;have Hl:=zA hl;have Hlen:=zA hl.length;obtain⟨rb,hrb⟩:=eX (xk ps);have Hri:=zA (DI A n c ps w (by omega) hl hp);rw [hrb]at Hri;have Hrb:=zA hrb;clear hl hp hrb;refine(callsIn_wide (n:=6)).1 ?_;refine callsIn_of_wp_marks func203 rfl trivial ?_ rfl;simp only [ntmps203,yP,z6,yO,Nat.reduceAdd,Nat.reduceSub,xI,xH,xf,xM,zZ,yI];cases rb with
 |false=>
  gi_wp2_with (refine⟨trivial,?_⟩;gi_at_call 263;refine(callsIn_wide.2 Hri.out).mono ?_;rintro e w2 ⟨rfl,hb2⟩)
  refine⟨_,results_tmp2 rfl _ _ _,?_⟩;exact W9.bad Hrb.out hb2
 |true=>
  gi_wp2_with (first
   |(refine⟨trivial,?_⟩;gi_at_call 263;refine(callsIn_wide.2 Hri.out).mono ?_;rintro e w2 ⟨rfl,hb2⟩)
   |(refine⟨trivial,?_⟩;gi_at_call 85;refine(callsIn_wide.2 (ZR ((Sp.start w).grow hb2) (RB.none_ _) (x:=n) (by omega) (by omega))).mono ?_;rintro e w3 ⟨A1,m1,rfl,hm1,HS3⟩)
   |(refine⟨trivial,?_⟩;gi_at_call 264;refine(callsIn_wide.2 (BJ A n c 8 (by decide) (by decide) _)).mono ?_;rintro e w4 ⟨rfl,rfl⟩))
  obtain⟨hPI,hPL,hN⟩:=QN Hrb.out;rw [Hlen.out]at hN;have HPI:=zA hPI;clear hPI;obtain⟨G,hG⟩:=eX (w3.heap.size);have hGw:w.heap.size<=G:=hG▸(HS3.below (.tail _ (.head _))).size
  have HS:Sp ((((w3.alloc (.cells #[.slice A1 m1 m1] 65)).alloc (.cells #[.int .i64 (-1)] 3)).alloc (.cells #[.slice A n c] 110)).alloc (.cells #[.int .i64 8] 3)) (PbI A n c w G A1 m1 m1 (zP n) (-1)):=by
   have h:=(((HS3.blkH 65 #[.slice A1 m1 m1] (H:=G) hG).blkH 3 #[.int .i64 (-1)] (H:=G+1) (by simp [hG])).blkH 110 #[.slice A n c] (H:=G+1+1) (by simp [hG])).blkH 3 #[.int .i64 8] (H:=G+1+1+1) (by simp [hG]);exact h.p4.p3.p4
  have hsz:((((w3.alloc (.cells #[.slice A1 m1 m1] 65)).alloc (.cells #[.int .i64 (-1)] 3)).alloc (.cells #[.slice A n c] 110)).alloc (.cells #[.int .i64 8] 3)).heap.size=G+4:=(by simp [hG]);obtain⟨W0,hW0⟩:=eX (((((w3.alloc (.cells #[.slice A1 m1 m1] 65)).alloc (.cells #[.int .i64 (-1)] 3)).alloc (.cells #[.slice A n c] 110)).alloc (.cells #[.int .i64 8] 3)));simp only [hG];rw [hW0]at HS hsz⊢
  clear hW0;have bS:Boxed W0 (G+1+1) 110 (.slice A n c):=HS.blkOf (.tail _ (.tail _ (.tail _ (.tail _ (.head _)))));have bN:Boxed W0 (G+1+1+1) 3 (.int .i64 8):=HS.blkOf (.tail _ (.tail _ (.tail _ (.head _))))
  have HS' :Sp W0 (PbI A n c w G A1 m1 m1 (Zw ps ([]:List (Fin n))).1 (Zw ps ([]:List (Fin n))).2):=by
   show Sp W0 (PbI A n c w G A1 m1 m1 (zP ps.length) (-1));rw [Hlen.out];exact HS
  clear HS
  refine wpIn_rangeFunc_ownH (α:=Fin n) rfl (by omega) (gf:=323) (lb:= #[.pointer (some ⟨G+1+1,0,none⟩),.pointer (some ⟨G+1+1+1,0,none⟩)]) rfl trivial (enters_of func323 (by kernel_rfl) rfl)
   (encs:=fun x:Fin n=> #[XE A 2 n 8 x]) (Kp:=Zy (G+1+1) (G+1+1+1)) (S:=fun ys=>∃k,ys.map Fin.val=ZC 8 k/\n<=k*8/\(k=0\/(k - 1)*8<n)) (Sp:=fun _=>True) (N:=n) (w0:=W0)
   (fun lq J Jx W hW hJ _ hY h0=>(BK A n c 8 hA (by decide) (by decide) (by omega) hcap.1 hcap.2 (6 - 1) (by omega) lq _ _ J Jx W hJ hY (Boxed.below_ bS hW) (Boxed.below_ bN hW) h0).mono fun _ _ ⟨he,h⟩=>⟨he,h.imp (fun⟨ys,h1,h2⟩=>⟨ys,h1,h2⟩) (fun⟨pre,h⟩=>⟨pre,trivial,h⟩)⟩)
   Zy.trans (fun W lq o o' _ h hc _=>Zy.putObj W lq o o' h hc) (zE _ _) (fun _=>rfl)
   (fun pre W=>(∃A1 m c1,m<=10+1100000100*pre.length/\(-1<=(Zw ps pre).2/\(Zw ps pre).2<16384)/\Sp W (PbI A n c w G A1 m c1 (Zw ps pre).1 (Zw ps pre).2))/\W0.heap.size<=W.heap.size) (fun _ _ _=>False)
   (fun s X Y row hs hg hr=>⟨by obtain⟨⟨A1,m,c1,h0,h1,h2⟩,_⟩:=hs;exact⟨A1,m,c1,h0,h1,h2.from hg hr (PbI.cls (by omega))⟩,zY hs.2 hg.size⟩)
   (fun _ _ _ _ _ hs _ _=>hs)
   ⟨⟨A1,m1,m1,by simp;omega,by exact⟨by simp [Zw],by simp [Zw]⟩,HS'⟩,zC _⟩
   (fun x a' _=>a' ={tmps:= #[.slice A n c,undef,.slice none 0 0,.int .i64 0,.pointer (some ⟨G,0,none⟩),.pointer (some ⟨G+1,0,none⟩),XE A 2 n 8 x,undef,undef,.slice A n c,.bool true,.bool false,.slice A n c,.int .i64 n,.int .u64 n,.slice A1 m1 m1,.slice A n c,.func (.func 323) #[] #[.pointer (some ⟨G+1+1,0,none⟩),.pointer (some ⟨G+1+1+1,0,none⟩)],XE A 2 n 8 x,undef,undef,undef,undef,undef,undef,undef,undef,undef,undef,undef,undef,undef,undef,undef,undef,undef,undef,undef,undef,undef,undef,undef,undef,undef,undef],defers:= []})
   (fun _ _ _ _ _ _ hs _ _=>hs)
   ?assign ?body ?done ?stop
  case assign=>
   rintro lq pre x W K hI hK
   gi_wp2
   exact hK _ _ (KeepsFrom.refl _ _) (Zy.refl _ _ _) hI rfl
  case body=>
   rintro lq pre x a' W hl ⟨r,hr⟩ ⟨⟨A1,m,c1,hm,hla,HS⟩,hsz0⟩ rfl hlt;obtain⟨b,off,rfl⟩:=hA (Nat.lt_of_le_of_lt (zJ _) x.isLt);obtain⟨i,hi⟩:=eX (x.val);have hin:i<n:=(by rw [<-hi];exact x.isLt);obtain⟨M,hM⟩:=eX (min 8 (n - i));have hM0:0<M:=(by omega);have hM1:M<=8:=(by omega);have hM2:i+M<=n:=(by omega);obtain⟨last,hlast⟩:=eX ((Zw ps pre).2);obtain⟨out,hout⟩:=eX ((Zw ps pre).1)
   obtain⟨ch,hch⟩:=eX ((ps.drop i).take M)
   have hch8:(ps.drop i).take 8=ch:=by
    have hln:=Hlen.out;rw [<-hch];rcases Nat.le_total 8 (n - i)with h|h
    ·rw [show M=8 by omega]
    ·rw [zF (by rw [ze];omega),zF (by rw [ze];omega)]
   have hfold:Hid (Zw ps (pre++ [x])=(out++zP (Yu ch last).length++zP (IntKind.u64.wrap (endD ch last - last)).toNat++Yu ch last,endD ch last)):=by
    show _=_;rw [AK,hi];unfold blkD;rw [hch8,hlast,hout]
   have hpi:YJ ch:=hch8▸HPI.out.sub i;have hpl:(ym ch).length<=1048576:=zY (hch8▸wP ps i) hPL;have hcl:ch.length=M:=(by rw [<-hch,zr,ze,Hlen.out];omega);rw [hlast]at hla;have hrl:=kY hpi hla (by omega) hpl;have hei:=fB hpi hla
   have hri:zL w (·<w.heap.size) (some ⟨b,off+i*2,none⟩) M M ch:=by
    rw [<-hch];exact zL.sub_at Hl.out (i:=i) (k:=M) hM2
   obtain⟨p,hp⟩:∃p,ch[M - 1]? =some p:=⟨_,zB (by omega)⟩
   have hend:endD ch last=p.doc:=by
    unfold endD;rw [List.getLast?_eq_getElem?,hcl,hp];rfl
   obtain⟨hpb,hpe⟩:=hri.elem hp;obtain⟨A2,n2,c2,hd0, -, -, -⟩:=PostD.at_ hpe
   rw [<-hend]at hd0;obtain⟨d,hd⟩:=eX (endD ch last);rw [hd]at hd0 hei;rw [hlast,hout]at HS;have Hr:=zA hr;have HK:=HS.kp (PbI.cls (B:=W0.heap.size) (by omega));have Hrw:=zA (IP (some ⟨b,off+i*2,none⟩) M M ch last W (by omega) ((hri.below (HS.below (.tail _ (.tail _ (.tail _ (.tail _ (.tail _ (.head _)))))))).more (fun _ h=>zX h (by omega))) hpi hla (by omega));have Hd:=zA hd;have Hch8:=zA hch8
   have hc5:=HK.cell (.tail _ (.tail _ (.head _))) 0;have Hd0:=zA (show b<w.heap.size/\w.cell? ⟨b,off+i*2+(M - 1)*2,none⟩=some (.int .i64 d)from⟨hpb,hd0⟩);clear hri hpe hpb hp hend hch hch8 hr hd hpi hpl hlast hout hd0 HS;simp only [XE,hi,hM];have HX:=zA hi;clear hi hM;have h1' :1<=6 - 1 - 1:=(by omega);obtain⟨hla1,hla2⟩:=hla;obtain⟨hei1,hei2⟩:=hei
   obtain⟨X,hX⟩:∃X:Nat,IntKind.u64.wrap (d - last)=(X:Int):=⟨(IntKind.u64.wrap (d - last)).toNat,by rw [zW];omega⟩;have hX2:X<18446744073709551616:=(by rw [zW]at hX;omega);have hdl:IntKind.i64.wrap (d - last)=d - last:=by rw [zT];omega
   gi_wp2_with (first
    |(refine⟨trivial,?_⟩;gi_at_call 265;refine(yU lq (callsIn_wide.2 Hrw.out)).mono ?_;rintro e w2 ⟨A7,m7,c7,rfl,HR⟩;have HS3:=HK.c1 HR;have hd2:=((HS3.below (.tail _ (.tail _ (.tail _ (.tail _ (.tail _ (.tail _ (.tail _ (.head _))))))))).cell (p:=⟨b,off+i*2+(M - 1)*2,none⟩) Hd0.out.1).trans Hd0.out.2;clear hc5;have hc5:=HS3.cell (.tail _ (.tail _ (.tail _ (.head _)))) 0;have hc4:=HS3.cell (.tail _ (.tail _ (.head _))) 0))
   have hm7:m7<=1100000000:=(by have h:=(HS3.rb (.head _)).1.len;omega);have hm7' :IntKind.u64.wrap (m7:Int)=m7:=(by rw [zW];omega);have Hpu1:=zA (ZR HS3.drew (HS3.drew.rb (.tail _ (.tail _ (.tail _ (.tail _ (.head _)))))).1 (c:=c1) (x:=m7) (by omega) (by omega))
   have HQ1:=zA (show Boxed W (G+1+1) 110 (.slice (some ⟨b,off,none⟩) n c)from HK.blkOf (.tail _ (.tail _ (.tail _ (.tail _ (.tail _ (.head _)))))));have HQ3:=zA (show Boxed W (G+1+1+1) 3 (.int .i64 8)from HK.blkOf (.tail _ (.tail _ (.tail _ (.tail _ (.head _))))));clear HS' bS bN hA HK HR;have mixed:Tryz.prog.follows .mixedOrders=true:=(by kernel_rfl);refine sJ mixed (by kernel_rfl) ?_
   refine iF 1 (.slice A7 m7 c7) ?_;refine iF 2 (.int .i64 m7) ?_;refine iF 3 (.int .u64 m7) ?_;refine iF 5 (.int .i64 d) ?_;refine wpAnyIn_ready (rs:= [0,6]) (by kernel_rfl) (by simp) (AllReadyIn.cons rfl (fun K hK=> ?o1) (AllReadyIn.cons rfl (fun K hK=> ?o2) AllReadyIn.nil))
   case' o1=>
    (go_simp;refine hK _ _ ?_;clear hK K)
    refine wpAnyIn_ready (rs:= [4,6]) (by kernel_rfl) (by simp) (AllReadyIn.cons rfl (fun K hK=> ?o3) (AllReadyIn.cons rfl (fun K hK=> ?o4) AllReadyIn.nil))
    case' o3=>
     go_simp
     gi_wp2_with (refine⟨trivial,?_⟩;gi_at_call 85;refine(callsIn_wide.2 Hpu1.out).mono ?_;rintro e w5 ⟨A5,m5,rfl,hm5,HS5⟩;have hc5a:=HS5.cell (.tail _ (.tail _ (.tail _ (.tail _ (.head _))))) 0;have Hpu2:=zA (ZR HS5.tail (HS5.rb (.head _)).1 (c:=m5) (x:=X) (by omega) (by omega)))
     refine wpAnyIn_ready (rs:= [6]) (by kernel_rfl) (by simp) (AllReadyIn.cons rfl (fun K hK=> ?_) AllReadyIn.nil)
     (go_simp;refine hK _ _ ?_;clear hK K)
     refine iF 7 (.int .i64 (d - last)) ?_;refine iF 8 (.int .u64 X) ?_
    case' o4=>
     (go_simp;refine hK _ _ ?_;clear hK K)
     refine iF 7 (.int .i64 (d - last)) ?_;refine iF 8 (.int .u64 X) ?_;refine wpAnyIn_ready (rs:= [4]) (by kernel_rfl) (by simp) (AllReadyIn.cons rfl (fun K hK=> ?_) AllReadyIn.nil);go_simp
     gi_wp2_with (refine⟨trivial,?_⟩;gi_at_call 85;refine(callsIn_wide.2 Hpu1.out).mono ?_;rintro e w5 ⟨A5,m5,rfl,hm5,HS5⟩;have hc5a:=HS5.cell (.tail _ (.tail _ (.tail _ (.tail _ (.head _))))) 0;have Hpu2:=zA (ZR HS5.tail (HS5.rb (.head _)).1 (c:=m5) (x:=X) (by omega) (by omega)))
   case' o2=>
    (go_simp;refine hK _ _ ?_;clear hK K)
    refine iF 7 (.int .i64 (d - last)) ?_;refine iF 8 (.int .u64 X) ?_;refine wpAnyIn_ready (rs:= [0]) (by kernel_rfl) (by simp) (AllReadyIn.cons rfl (fun K hK=> ?_) AllReadyIn.nil)
    (go_simp;refine hK _ _ ?_;clear hK K)
    refine wpAnyIn_ready (rs:= [4]) (by kernel_rfl) (by simp) (AllReadyIn.cons rfl (fun K hK=> ?_) AllReadyIn.nil);go_simp
    gi_wp2_with (refine⟨trivial,?_⟩;gi_at_call 85;refine(callsIn_wide.2 Hpu1.out).mono ?_;rintro e w5 ⟨A5,m5,rfl,hm5,HS5⟩;have hc5a:=HS5.cell (.tail _ (.tail _ (.tail _ (.tail _ (.head _))))) 0;have Hpu2:=zA (ZR HS5.tail (HS5.rb (.head _)).1 (c:=m5) (x:=X) (by omega) (by omega)))
   all_goals
    refine wpAnyIn_ready (rs:= [9]) (by kernel_rfl) (by simp) (AllReadyIn.cons rfl (fun K hK=> ?_) AllReadyIn.nil);go_simp
    gi_wp2_with (refine⟨trivial,?_⟩;gi_at_call 85;refine(callsIn_wide.2 Hpu2.out).mono ?_;rintro e w6 ⟨A6,m6,rfl,hm6,HS6⟩;have hc6:=HS6.cell (.tail _ (.tail _ (.tail _ (.head _)))) 0;have hf6:=(HS6.blkOf (.tail _ (.tail _ (.tail _ (.head _))))).frozen 0)
    refine wpAnyIn_ready (rs:= [10]) (by kernel_rfl) (by simp) (AllReadyIn.cons rfl (fun K hK=> ?_) AllReadyIn.nil)
    (go_simp;refine hK _ _ ?_;clear hK K)
    refine wpAnyIn_done (by kernel_rfl) ?_ _;have HS7:=(HS6.p3.put (.slice A6 m6 m6));have Hr7:=zA (HS7.rb (.tail _ (.tail _ (.head _)))).1.reads
    gi_wp2_with (gi_at_builtin;refine YA yW (.tmp 39) (.tmp 40) rfl rfl HS7.p1 rfl rfl Hr7.out (xd _) (by omega) (by omega) ?_;intro A8 c8 w8 hc8 hm8 HS8;have hc8' :=HS8.cell (.tail _ (.head _)) 0;have hf8:=(HS8.blkOf (.tail _ (.head _))).frozen 0;have hc9:=HS8.cell (.tail _ (.tail _ (.tail _ (.tail _ (.head _))))) 0;have hf9:=(HS8.blkOf (.tail _ (.tail _ (.tail _ (.tail _ (.head _)))))).frozen 0)
    have HS9:=((HS8.p1.put (.slice A8 (m6+m7) c8)).p4.put (.int .i64 d));have hkf:=HS9.kf (.tail _ (.tail _ (.tail _ (.tail _ (.head _)))));have q2:Boxed ((w8.setCell ⟨G,0,none⟩ (.slice A8 (m6+m7) c8)).setCell ⟨G+1,0,none⟩ (.int .i64 d)) (G+1+1) 110 (.slice (some ⟨b,off,none⟩) n c):=HS9.blkOf (.tail _ (.tail _ (.tail _ (.tail _ (.tail _ (.tail _ (.tail _ (.head _))))))))
    have q4:Boxed ((w8.setCell ⟨G,0,none⟩ (.slice A8 (m6+m7) c8)).setCell ⟨G+1,0,none⟩ (.int .i64 d)) (G+1+1+1) 3 (.int .i64 8):=HS9.blkOf (.tail _ (.tail _ (.tail _ (.tail _ (.tail _ (.tail _ (.head _)))))))
    have HSA:Sp ((w8.setCell ⟨G,0,none⟩ (.slice A8 (m6+m7) c8)).setCell ⟨G+1,0,none⟩ (.int .i64 d)) (PbI (some ⟨b,off,none⟩) n c w G A8 (m6+m7) c8 (Zw ps (pre++ [x])).1 (Zw ps (pre++ [x])).2):=by
     have h:=HS9.p1.d3.d3.d3;have hm7e:(Yu ch last).length=m7:=(HS3.rb (.head _)).1.len
     have e1:(Zw ps (pre++ [x])).1=out++zP m7++zP X++Yu ch last:=by
      rw [hfold.out,Hd.out,hX,hm7e];rfl
     have e2:(Zw ps (pre++ [x])).2=d:=(by rw [hfold.out,Hd.out]);rw [e1,e2];unfold PbI BA;rw [y9];exact h
    have hb:m6+m7<=10+1100000100*(pre++ [x]).length:=(by rw [zG];simp only [z6,yO];omega);have hb2: -1<=(Zw ps (pre++ [x])).2/\(Zw ps (pre++ [x])).2<16384:=(by rw [hfold.out,Hd.out];exact⟨hei1,hei2⟩);exact⟨hkf,Zy.of hkf.size HQ1.out q2 HQ3.out q4,⟨A8,m6+m7,c8,hb,hb2,HSA⟩,zY hsz0 hkf.size⟩
  case done=>
   rintro D ys W hD ⟨k,hk1,hk2,hk3⟩ ⟨⟨A1,m,c1,hm,hla,HS⟩,hsz0⟩ hK;have hc0:=HS.cell (.head _) 0;have hcap2:=(HS.rb (.tail _ (.tail _ (.head _)))).2
   gi_wp2_with (refine⟨trivial,?_⟩;gi_at_call 55;refine(callsIn_wide.2 (Zt _ _ _ _ hcap2.1 hcap2.2)).mono ?_;rintro e w3 ⟨rfl,rfl⟩)
   have HS2:=(HS.from (grownBy_putObj' W D (.deferred none)) (fun r e=>by cases e;exact⟨hD,_,hK,rfl⟩) (PbI.cls (B:=W0.heap.size) (by omega))).tail.tail.d1.d1.clip
   have hfl:(Zw ps ys).1=YB ps:=by
    unfold Zw YB;rw [hk1,Hlen.out,rZ hk2 hk3]
   rw [hfl]at HS2;refine⟨by simp,.inl ⟨_,_,rfl,run_takeDeferred hK,?_⟩⟩;refine⟨_,results_tmp2 rfl _ _ _,?_⟩;have hyl:ys.length=k:=(by have:=congrArg List.length hk1;simpa [ZC]using this);exact W9.ok Hrb.out (by rw [hyl]at hm;omega) HS2
  case stop=>exact fun _ _ _ _ _ _ h=>h.elim
attribute [local go_sem ↓] zU zV
def fH (G:Prop) (w:O) (R:V->O->Prop) (e:Ending) (w' :O):Prop:=(∃v,e= .returned v/\R v w')\/∃er,er≠0/\¬G/\e= .panicked [Q1 er]/\Below w.heap.size w w'
def allL (ls:List (List PostD)):aC:=ls.flatMap YB
def atL (ls:List (List PostD)) (k:Nat):aE:=(List.range k).map fun j=>(allL (ls.take (j+1))).length
theorem Qp (ls:List (List PostD)) (k:Nat):(atL ls k).length=k:=by simp [atL]
theorem MJ {ls:List (List PostD)} {n k:Nat} (h:k<n):(atL ls k++List.replicate (n - k) 0).set k (allL (ls.take (k+1))).length=atL ls (k+1)++List.replicate (n - (k+1)) 0:=by
 rw [xB _ _ (by rw [Qp];exact zC _),Qp,yh,show n - k=(n - (k+1))+1 by omega,List.replicate_succ,yw];unfold atL;rw [List.range_succ,zw,zO];rfl
theorem mB {ls:List (List PostD)} {j k:Nat} (h:j<=k):(allL (ls.take j)).length<=(allL (ls.take k)).length:=by
 obtain⟨d,rfl⟩:=Nat.exists_eq_add_of_le h;rw [List.take_add];unfold allL;rw [yS,zG];omega
theorem fY {ls:List (List PostD)} {n:Nat} (h:(allL ls).length<=16777216):∀x∈atL ls n,x<18446744073709551616:=fun x hx=>by
 obtain⟨j, -,rfl⟩:=List.mem_map.1 hx;have h1:=mB (ls:=ls) (j:=j+1) (k:=j+1+ls.length) (by omega);rw [zF (l:=ls) (i:=j+1+ls.length) (by omega)]at h1;omega
theorem zL.rt {w:O} {A:aA} {n c:Nat} {l:List aB} (h:zL w (·<w.heap.size) A n c l):RT w A n l:=
 ⟨by rw [yr,<-h.length];simp [sC],fun h0=>by
  obtain⟨b,off,x,rfl,_,hb,_⟩:=h.at_ h0
  refine⟨b,off,rfl,hb,fun j u hu=> ?_⟩;unfold sC at hu;rw [zH]at hu;rcases hx:l[j]? with _|y
  ·rw [hx]at hu;cases hu
  ·rw [hx]at hu;cases hu;exact(h.elem hx).2.str.1⟩
theorem lK {A0 A1:aA} {n c0 c1:Nat} {v2 v3 v4 v5:V} {ts:List aB} {ls:List (List PostD)} {w:O} (h0:zL w (·<w.heap.size) A0 n c0 ts) (h1:zL w (·<w.heap.size) A1 n c1 ls) (hn:n<=10000000000) (hp:∀ps∈ls,ps.length<=1000000/\∀p∈ps,p.pos.length<=10000000000):
 Calls prog 164 #[.agg #[.slice A0 n c0,.slice A1 n c1,v2,v3,v4,v5]] w (fH (xQ ts=true/\(∀ps∈ls,xk ps=true)/\(allL ls).length<=16777216) w fun v w' =>∃A' css,v= .slice A' 2 2/\xQ ts=true/\(∀ps∈ls,xk ps=true)/\(allL ls).length<=16777216/\(ZM ts (atL ls n)).length<=6000000000/\Sp w' [RowA 65 1 (.slice A' 2 2) 2 css.flatten,ElsA css [ZM ts (atL ls n),allL ls],OldA w.heap.size w]):=by
 obtain⟨H,hH⟩:=eX (w.heap.size);have HS0:=(Sp.start w).blkH 150 #[.slice A0 n c0,.slice A1 n c1,v2,v3,v4,v5] hH;have hl0:=h0.length;have hl1:=h1.length;have hcap0:=h0.cap;have hcap1:=h1.cap;have H0:=zA h0;have H1:=zA h1;have Hl1:=zA hl1;have Hp:=zA hp;clear h0 h1 hp hl0 hl1;go_enter func164,ntmps164;go_upto_region 1 with fail
 obtain⟨w2,hw2⟩:=eX (w.alloc (.cells #[.slice A0 n c0,.slice A1 n c1,v2,v3,v4,v5] 150));rw [hw2]at HS0⊢;have q0:=HS0.cl M0 0;obtain⟨R,hR⟩:=eX (w2.heap.size);clear hw2 hH;go_wp2_with (at_make;refine Zk cQ (.tmp 11) (.tmp 11) rfl rfl HS0 hR rfl rfl (by omega) (by omega) mC ?_;intro w3 HS3;rw [Vv]at HS3;have q2:=HS3.cl M1 1)
 have HS4:Sp w3 [UA (some ⟨R,0,none⟩) n n (atL ls 0++List.replicate (n - 0) 0),BA none 0 0 (allL (ls.take 0)),BlkA H 150 #[.slice A0 n c0,.slice A1 n c1,v2,v3,v4,v5],OldA w.heap.size w]:=(HS3.nil 5 1).p1;clear HS0 HS3 q0 q2 hR
 go_loopg [4,16] n (fun gk x4 x16 wr=>∃(k m:Nat) (A4:aA) (c4:Nat),x4= .slice A4 m c4/\x16= .int .i64 k/\k<=n/\gk=n - k/\m<=16777216/\Hid (∀ps∈ls.take k,xk ps=true)/\Sp wr [UA (some ⟨R,0,none⟩) n n (atL ls k++List.replicate (n - k) 0),BA A4 m c4 (allL (ls.take k)),BlkA H 150 #[.slice A0 n c0,.slice A1 n c1,v2,v3,v4,v5],OldA w.heap.size w])
 case atStart=>exact⟨0,0,none,0,rfl,by go_num,zJ _,rfl,by omega,by simp [Hid],HS4⟩
 case round=>
  obtain⟨k,m,A4,c4,rfl,rfl,hk,rfl,hm,hr,HS⟩:=hrel;clear HS4;have hmk:=(HS.rb M1).1.len
  by_cases hkn:k<n
  ·obtain⟨b,off,ps,rfl,hxe,hb,hee⟩:=H1.out.at_ hkn
   obtain⟨Ap,np,cp,E0,hps⟩:=hee.list;have E0:wr.cell? _=_:=((HS.below M3).cell hb).trans E0;obtain⟨hpl,hpp⟩:=Hp.out ps (zD hxe.out);rw [hps.length]at hpl;have HP:=zA (jK Ap np cp ps wr hpl (hps.on (HS.below M3)) hpp);have htk:ls.take (k+1)=ls.take k++ [ps]:=(by rw [zI,hxe.out];rfl);have Htk:=zA htk;have Hps:=zA hps;have Hmem:=zA (zD hxe.out);clear hee hxe hpp hps htk;obtain⟨rb,hrb⟩:=eX (xk ps)
   unfold W9 at HP;rw [hrb]at HP;have Hrb:=zA hrb;clear hrb;cases rb with
   |false=>
    go_wp2_with fail;refine HP.out.mono ?_;rintro e w5 ⟨rfl,hb5⟩;have hbb:=zA ((HS.grow hb5).below M3);clear HS hb5 HP;go_wp2;exact⟨rfl,.inr ⟨3,by decide,fun g=>Bool.false_ne_true (Hrb.out.symm.trans (g.2.1 ps Hmem.out)),rfl,hbb.out⟩⟩
   |true=>
    go_wp2_with fail;refine HP.out.mono ?_;rintro e w5 ⟨A5,m5,hm5,rfl,HS5⟩;have HS6:=HS.c1 HS5;have hlen5:=(HS6.rb M0).1.len;clear HS HS5 HP
    by_cases hover:16777216<m+m5
    ·have hov:(16777216:Int)<(m:Int)+(m5:Int):=(by omega);have hbb:=zA (HS6.below M4)
     have Hng:Hid (¬(allL ls).length<=16777216):=by
      have h1:=mB (ls:=ls) (j:=k+1) (k:=n) (by omega);rw [zF (l:=ls) (i:=n) (by rw [Hl1.out];exact zC _),Htk.out]at h1;have e1:allL (ls.take k++ [ps])=allL (ls.take k)++YB ps:=(by simp [allL]);rw [e1,zG,hlen5,hmk]at h1;show ¬_;omega
     clear HS6;go_wp2;exact⟨rfl,.inr ⟨3,by decide,fun g=>Hng.out g.2.2,rfl,hbb.out⟩⟩
    ·have hov:¬(16777216:Int)<(m:Int)+(m5:Int):=(by omega);have Hr:=zA (HS6.rb M0).1.reads
     go_wp2_with (at_builtin;refine yR yW (.tmp 38) (.tmp 39) rfl rfl HS6.p2 rfl rfl Hr.out (xd _) (by omega) (by omega) ?_;(intro A8 c8 w8 hc8 hm8 HS8;obtain⟨q,hq⟩:=eX (m+m5);rw [hq]at HS8 hc8⊢;have hwr:IntKind.u64.wrap (q:Int)=(q:Int):=(by rw [zW];omega);have f1:=HS8.rowFree M2 k;have f2:=HS8.rowCell M2 (WB (k:=k) (x:=(atL ls k++List.replicate (n - k) 0)[k]?.getD 0) (by rw [zR (by rw [Qp];exact zC _),Qp,yh,List.getElem?_replicate_of_lt (by omega)];rfl))))
     have HS9:=HS8.p2.rowSet k (.int .u64 (q:Int));rw [<-fK]at HS9;have e1:allL (ls.take (k+1))=allL (ls.take k)++YB ps:=(by rw [Htk.out];simp [allL])
     have hql:(allL (ls.take (k+1))).length=q:=by
      rw [e1,zG,hlen5,hmk];exact hq
     have e2:=MJ (ls:=ls) hkn;rw [hql]at e2;rw [e2,<-y9,<-e1]at HS9
     have hr2:Hid (∀ps∈ls.take (k+1),xk ps=true):=by
      show ∀ps∈ls.take (k+1),xk ps=true;rw [Htk.out];intro x hx;rcases List.mem_append.1 hx with hx|hx
      ·exact hr.out x hx
      ·rw [List.mem_singleton.1 hx];exact Hrb.out
     have HS10:Sp _ [UA (some ⟨R,0,none⟩) n n (atL ls (k+1)++List.replicate (n - (k+1)) 0),BA A8 q c8 (allL (ls.take (k+1))),BlkA H 150 #[.slice A0 n c0,.slice (some ⟨b,off,none⟩) n c1,v2,v3,v4,v5],OldA w.heap.size w]:=Sp.selT [_,_,_,_] HS9 [0,1,3];clear HS6 HS8 HS9 f1 f2 e1 e2 hr;go_wp2
     go_roundg (n - (k+1))
     ·exact⟨k+1,q,A8,c8,rfl,by go_num,by omega,rfl,by omega,hr2,HS10⟩
     ·omega
  ·obtain rfl:k=n:=by omega
   rw [yh,List.replicate_zero,zo,zF (by rw [Hl1.out];exact zC _)]at HS
   have hr2:Hid (∀ps∈ls,xk ps=true):=by
    have h:=hr;rw [zF (by rw [Hl1.out];exact zC _)]at h;exact h
   have hal:=(HS.rb M1).1.len;have q0:=HS.cl M2 0;have hh0:=H0.out.on (HS.below M3);have HT:=zA (vT A0 (some ⟨R,0,none⟩) k c0 k ts (atL ls k) wr hcap0.1 hcap0.2 (zC _) (by omega) hh0.rt (HS.rc M0) (fY (by omega)));unfold UR at HT;obtain⟨tb,htb⟩:=eX (xQ ts);rw [htb]at HT;have Htb:=zA htb;have Hal:Hid ((allL ls).length<=16777216):=(by show _<=_;omega);clear htb hh0 hr hal;cases tb with
   |false=>
    go_wp2_with (first|(go_at_call 217;refine HT.out.mono ?_;rintro e w5 ⟨rfl,hb5⟩;have hbb:=zA ((HS.grow hb5).below M3);clear hb5)|(go_at_call 89;refine(cY _ _ _).mono ?_;rintro e w6 h;obtain⟨rfl,rfl⟩:=h.bad (by decide)))
    exact⟨rfl,.inr ⟨1,by decide,fun g=>Bool.false_ne_true (Htb.out.symm.trans g.1),rfl,hbb.out⟩⟩
   |true=>
    go_wp2_with (first|(go_at_call 217;refine HT.out.mono ?_;rintro e w5 ⟨A5,m5,hm5,rfl,HS5⟩;have HS6:=HS.c1 HS5;clear HS5)|(go_at_call 89;refine(cY _ _ _).mono ?_;rintro e w6 h;obtain⟨rfl,rfl⟩:=h.ok))
    have htl:(ZM ts (atL ls k)).length<=6000000000:=(by have:=(HS6.rb M0).1.len;omega);have Htl:=zA htl;have HS7:=(HS6.bytes.elsNil).p1.elsPush;have HS8:=(Sp.selT [_,_,_] HS7 [2,0,1]).bytes.elsPush;have HS9:=HS8.lit #[.slice A5 m5 m5,.slice A4 m c4] 65 1 2 rfl (by decide);go_ret
    exact .inl ⟨_,rfl,_, [[.slice A5 m5 m5], [.slice A4 m c4]],rfl,Htb.out,hr2.out,Hal.out,Htl.out,Sp.selT [_,_,_,_,_] HS9 [0,1,4]⟩
def ZD (ps:List PostD) (k:Nat):Int:=endD (ps.take k) (-1)
def blkP (ps:List PostD) (x:Nat):List PostD:=(ps.drop x).take 8
def blkL (ps:List PostD) (x:Nat):aC:=
 zP (Yu (blkP ps x) (ZD ps x)).length++(zP (ZD ps (x+8) - ZD ps x).toNat++Yu (blkP ps x) (ZD ps x))
theorem XA (a b:List PostD) (z:Int):endD b (endD a z)=endD (a++b) z:=by
 unfold endD;rw [List.getLast?_append];cases b.getLast? <;>simp
theorem iV {α:Type} (l:List α) (x:Nat):l.take x++(l.drop x).take 8=l.take (x+8):=by
 rw [List.take_add]
theorem Xc (ps:List PostD) (x:Nat):endD (blkP ps x) (ZD ps x)=ZD ps (x+8):=by
 unfold ZD blkP;rw [XA,iV]
theorem gQ:∀{ps:List PostD} {last:Int} {all:Nat},xa last all ps=true->last<=endD ps last
 | [],last,_,_=>by simp [endD]
 |p::l,last,all,h=>by
  simp only [xa,Yv,zM,decide_eq_true_eq]at h;have h1:=gQ h.2
  have e:endD (p::l) last=endD l p.doc:=by
   have:=XA [p] l last
   simpa [endD]using this.symm
  rw [e];omega
theorem XK:∀{ps:List PostD} {last:Int} {all:Nat} (x:Nat),xa last all ps=true->∃all',xa (endD (ps.take x) last) all' (ps.drop x)=true
 |ps,last,all,0,h=>⟨all,by simpa [endD]using h⟩
 | [],last,all,x+1,h=>⟨all,by simpa [endD]using h⟩
 |p::l,last,all,x+1,h=>by
  simp only [xa,zM]at h;obtain⟨a,ha⟩:=XK x h.2;refine⟨a,?_⟩
  have e:endD ((p::l).take (x+1)) last=endD (l.take x) p.doc:=by
   have:=XA [p] (l.take x) last;rw [xL]
   simpa [endD]using this.symm
  rw [e];exact ha
theorem Qa:∀{ps:List PostD} {last:Int} {all:Nat} (x:Nat),xa last all ps=true->xa last all (ps.take x)=true
 | [],_,_,x,_=>by simp [xa]
 |p::l,_,_,0,_=>by simp [xa]
 |p::l,last,all,x+1,h=>by
  simp only [xa,zM,xL]at h⊢;exact⟨h.1,Qa x h.2⟩
theorem nI {ps:List PostD} (h:xk ps=true) (x:Nat):ZD ps x<=ZD ps (x+8):=by
 obtain⟨a,ha⟩:=XK x h;rw [<-Xc];exact gQ (Qa 8 ha)
theorem QS {ps:List PostD} (h:xk ps=true) (x:Nat): -1<=ZD ps x/\ZD ps x<16384:=
 fB (fun p hp=>(QN h).1 p (yu hp)) (by omega)
theorem MF {ps:List PostD} (h:xk ps=true) (x:Nat) (st:aC):blkD ps (st,ZD ps x) x=(st++blkL ps x,ZD ps (x+8)):=by
 have h1:=Xc ps x;unfold blkP at h1;have h2:=nI h x;have h3:=QS h x;have h4:=QS h (x+8);unfold blkD blkL blkP;simp only [h1];rw [show IntKind.u64.wrap (ZD ps (x+8) - ZD ps x)=ZD ps (x+8) - ZD ps x by rw [zW];omega];simp
theorem lC {ps:List PostD} (h:xk ps=true) (u:aC):∀k,(ZC 8 k).foldl (blkD ps) (u, -1)=(u++(ZC 8 k).flatMap (blkL ps),ZD ps (k*8))
 |0=>by simp [ZC,ZD,endD]
 |k+1=>by
  rw [Xk,xE,lC h u k];simp only [List.foldl_cons,List.foldl_nil,yS,zp,x7,zo];rw [MF h,Nat.succ_mul,zO]
def Qx (ps:List PostD) (k:Nat):aC:=((ZC 8 ((ps.length+7) / 8)).drop k).flatMap (blkL ps)
theorem dP {ps:List PostD} (h:xk ps=true):YB ps=zP ps.length++Qx ps 0:=by
 unfold YB Qx;rw [lC h];rfl
theorem wM {ps:List PostD} {k:Nat} (h:k*8<ps.length):Qx ps k=blkL ps (k*8)++Qx ps (k+1):=by
 have e:(ZC 8 ((ps.length+7) / 8))[k]? =some (k*8):=by
  unfold ZC;rw [zH,zq (by omega)];rfl
 unfold Qx;rw [yb e,zp]
theorem DJ {ps:List PostD} {k:Nat} (h:ps.length<=k*8):Qx ps k= []:=by
 unfold Qx;rw [zQ (by simp [ZC];omega)];rfl
theorem getS {w:O} {L:List Asn} {A:aA} {nb c:Nat} {l:aD} {post:aC} (h:Sp w L) (hl:RB w A nb (putL l++post)) (hnb:nb<=100000000000000) (hi:InL l) (hn:l.length<=1048576):
 Calls prog 75 #[.slice A nb c,.int .i64 (l.length:Nat)] w fun e w' =>∃A',e= .returned (.tuple #[.slice A' l.length l.length,.int .i64 ((putL l).length:Nat),.int .i64 0])/\Sp w' (IA A' l.length l.length l::L):=by
 have hg:=d6 A nb c l.length _ w hn hl hnb;rw [d7 hi]at hg;refine hg.mono ?_;rintro e w' ⟨hb,A',he,hr⟩;exact⟨A',he,h.row hr hb⟩
theorem f9 {w:O} {L:List Asn} {Bb nb c n:Nat} {A:aA} {l:aD} {post:aC} (h:Sp w (BlkA Bb 65 #[.slice A nb c]::L)) (hl:RB w A nb (putL l++post)) (hnc:nb<=c) (hc:c<=9223372036854775807) (hnb:nb<=100000000000000) (hi:InL l) (hn:l.length=n) (hn2:n<=1048576):
 Calls prog 188 #[.int .i64 (n:Int),.pointer (some ⟨Bb,0,none⟩)] w fun e w' =>∃A1 A2 nb2 c2,e= .returned (.slice A1 n n)/\nb2<=c2/\c2<=9223372036854775807/\nb2=post.length/\(∀W,RB W A nb (putL l++post)->RB W A2 nb2 post)/\
  Sp w' (IA A1 n n l::BlkA Bb 65 #[.slice A2 nb2 c2]::L):=by
 subst hn;have hb:=h.cell M0 0;have HG:=zA (getS (c:=c) h hl hnb hi hn2);have hlen:=hl.len;obtain⟨k,hk⟩:=eX ((putL l).length);rw [zG,hk]at hlen
 have hT:∀W,RB W A nb (putL l++post)->RB W (if c=k then A else A.map (·.add k)) (nb - k) post:=fun W hW=>by
  have hT:=hW.tail (k:=k) hnc (by omega);rw [<-hk,List.drop_left,hk]at hT;exact hT
 rw [hk]at HG;have hk1:(k:Int)<=nb:=by omega
 have hk2:(nb:Int)<=c:=by omega
 have hk0:(0:Int)<=k:=by omega
 obtain⟨n,hn⟩:=eX (l.length);rw [hn]at HG⊢
 have hx:∀W:O,(Instr.slice 65 (.slice A nb c) (some (.int .i64 (k:Int))) none none).run prog W= .ok (.slice (if c=k then A else A.map (·.add k)) (nb - k) (c - k)) W:=by
  intro W;simp [Instr.slice,Instr.sliceBounds,go_sem, *]
 obtain⟨A2,hA2⟩:=eX ((if c=k then A else A.map (·.add k)));obtain⟨nb2,hnb2⟩:=eX (nb - k);obtain⟨c2,hc2⟩:=eX (c - k);simp only [hA2,hnb2,hc2]at hx hT;have HT:=zA hT
 have Hc:Hid (nb2<=c2/\c2<=9223372036854775807/\nb2=post.length):=by
  refine⟨?_,?_,?_⟩<;>omega
 clear h hl hi hn2 hn hT hA2 hnb2 hc2 hlen hk hnc hnb;go_enter func188,ntmps188
 go_wp2_with (first
  |(go_at_call 75;refine HG.out.mono ?_;rintro e w1 ⟨A1,rfl,HS1⟩;have hb1:=HS1.cell M1 0;have hf1:=(HS1.blkOf M1).frozen 0)
  |fail)
 go_ret
 exact⟨A1,A2,nb2,c2,rfl,Hc.out.1,Hc.out.2.1,Hc.out.2.2,HT.out,(HS1.p1.set 0 (.slice A2 nb2 c2)).p1⟩
theorem iU {α:Type} {l:List α} {k:Nat} {x:α} (h:l[k]? =some x):(l.take (k+1)).getLast? =some x:=by
 rw [zI,h];simp
theorem eF:Elt prog 110 116 2 32:=xt underlying110 (by decide) (by kernel_rfl)
def YY (ps:List PostD):Nat:=(ps.map fun p=>p.pos.length).sum
theorem WK (ps:List PostD):(ym ps).length=YY ps:=by
 induction ps with
 |nil=>rfl
 |cons p l ih=>
  simp only [ym,YY,zp,zG,WJ,yH,List.sum_cons]at ih⊢;omega
theorem EY (ps:List PostD):(ZS ps).length=ps.length:=by simp [ZS]
theorem gK {ps:List PostD} {k:Nat} {p:PostD} (h:ps[k]? =some p):YY (ps.take (k+1))=YY (ps.take k)+p.pos.length:=by
 unfold YY;rw [zI,h];simp
theorem kS (ps:List PostD) (k:Nat):YY (ps.take k)<=YY ps:=by
 conv=>rhs;rw [<-zu k ps]
 unfold YY;rw [zw,List.sum_append];omega
theorem L2 {ps:List PostD} {k:Nat} {p:PostD} (last0:Int) (h:ps[k]? =some p):(docD last0 ps)[k]? =some (p.doc - endD (ps.take k) last0 - 1):=by
 induction ps generalizing k last0 with
 |nil=>simp at h
 |cons q l ih=>
  cases k with
  |zero=>simp at h;subst h;simp [docD,endD]
  |succ k=>
   have e:endD ((q::l).take (k+1)) last0=endD (l.take k) q.doc:=by
    have:=XA [q] (l.take k) last0;rw [xL]
    simpa [endD]using this.symm
   rw [e];exact ih q.doc (by simpa using h)
theorem FG {ps:List PostD} {k:Nat} {p:PostD} (last0:Int) (h:ps[k]? =some p):endD (ps.take (k+1)) last0=p.doc:=by
 rw [zI,h];simp [endD]
theorem K6 {l:aD} {k:Nat} {z:Int} (a:Int) (h:l[k]? =some z):(posD a l)[k]? =some (z - ((l.take k).getLast?.getD a)):=by
 induction l generalizing k a with
 |nil=>simp at h
 |cons y l ih=>
  cases k with
  |zero=>simp at h;subst h;simp [posD]
  |succ k=>
   rw [xL]
   have e:((y::l.take k).getLast?.getD a)=((l.take k).getLast?.getD y):=by
    rw [List.getLast?_cons];rfl
   rw [e];exact ih y (by simpa using h)
theorem DO {ps:List PostD} {k q:Nat} {p:PostD} (h:ps[k]? =some p) (hq:q<p.pos.length):(ym ps)[YY (ps.take k)+q]? =(posD 0 p.pos)[q]? :=by
 have e:ym ps=ym (ps.take k)++(posD 0 p.pos++ym (ps.drop (k+1))):=by
  conv=>lhs;rw [<-zu k ps,yb h]
  simp [ym]
 rw [e,<-WK,zR (by omega),Nat.add_sub_cancel_left,z9 (by rw [WJ];exact hq)]
theorem jI {A:aA} {nb c m all0:Nat} {ps:List PostD} {last0:Int} {w:O} (hl:RB w A nb (Yu ps last0)) (hnc:nb<=c) (hc:c<=9223372036854775807) (hnb:nb<=100000000000000) (hm:ps.length=m) (hm8:m<=8) (hr:xa last0 all0 ps=true) (hl0: -1<=last0/\last0<16384) (ha0:all0<=1048576):
 Calls prog 104 #[.agg #[.slice A nb c,.int .i64 last0,.int .i64 (endD ps last0),.int .i64 (m:Int)]] w fun e w' =>∃A' c' css,e= .returned (.tuple #[.slice A' m c',.bool true])/\
  Sp w' [RowA 116 2 (.slice A' m c') m css.flatten,ElsA css ps,OldA w.heap.size w]:=by
 obtain⟨hin,hall,_⟩:=Qb ps last0 all0 hl0.1 hl0.2 ha0 hr;have HD:=zA (cU ps last0 hl0.1 hl0.2 hin);have HF:=zA (d8 hin);have HP:=zA (VT hin);have Hin:=zA hin;have Hr:=zA hr;have Hm:=zA hm;have Hl:=zA (show RB w A nb (putL (docD last0 ps)++(putL (ZS ps)++putL (ym ps))) by unfold Yu at hl;simpa using hl);obtain⟨le,hle⟩:=eX (endD ps last0);obtain⟨N,hN⟩:=eX (YY ps)
 have hN2:N<=1048576:=by rw [<-hN,<-WK];omega
 rw [hle];obtain⟨Bx,hBx⟩:=eX (w.heap.size);obtain⟨Bb,hBb⟩:=eX (Bx+1);have HS0:=((Sp.start w).blkH 121 #[.slice A nb c,.int .i64 last0,.int .i64 le,.int .i64 (m:Int)] hBx).blkH 65 #[.slice A nb c] (H:=Bb) (by simp [hBx,hBb]);have hmf:=@mF prog;have hle2:=zA hle;have HN:=zA hN;clear hl hm hr hin hall hle hN;go_enter func104,ntmps104;have hb3:=HS0.cell M1 3
 have T1:=zA (f9 (l:=docD last0 ps) HS0 (Hl.out.on (HS0.below M2)) hnc hc hnb HD.out (n:=m) (by rw [eG];exact Hm.out) (by omega));go_wp2_with fail;refine T1.out.mono ?_;rintro e w1 ⟨A1,Ab2,nb2,cb2,rfl,hc21,hc22,hn2,hR2,HS1⟩;have hb3b:=HS1.cl M2 3
 have hnb2:nb2<=nb:=by
  have h1:=Hl.out.len;rw [zG]at h1;omega
 have HR2:=zA hR2;have T2:=zA (f9 (l:=ZS ps) HS1.p1 (HR2.out _ (Hl.out.on (HS1.below M3))) hc21 hc22 (by omega) HF.out (n:=m) (by rw [EY];exact Hm.out) (by omega));clear hR2 hn2;go_wp2_with fail;refine T2.out.mono ?_;rintro e w2 ⟨A2,Ab3,nb3,cb3,rfl,hc31,hc32,hn3,hR3,HS2⟩
 have hnb3:nb3<=nb2:=by
  have h1:=(HR2.out _ (Hl.out.on (HS1.below M3))).len;rw [zG]at h1;omega
 have HR3:=zA (fun W (hW:RB W A nb _)=>hR3 W (HR2.out W hW));have hb3c:=HS2.cl M3 3;clear hR3 hn3 hb3 hb3b HS0 HS1;go_wp2
 go_loopg [8,45] m (fun gk va vi wr=>∃k:Nat,vi= .int .i64 k/\va= .int .i64 (YY (ps.take k):Nat)/\k<=m/\gk=m - k/\wr=w2)
 case atStart=>exact⟨0,rfl,rfl,zJ _,rfl,rfl⟩
 case round=>
  obtain⟨k,rfl,rfl,hk,rfl,rfl⟩:=hrel
  by_cases hkm:k<m
  ·obtain⟨p,Hp⟩:∃p,Hid (ps[k]? =some p):=⟨_,zB (by rw [Hm.out];exact hkm)⟩;obtain⟨g2,rfl,_,_,hc2⟩:=(HS2.rowOf (.head _)).at_ (by omega)
   obtain⟨f,hf⟩:=eX (p.pos.length);have hcf:=hc2 k _ (Z9 (l:=ZS ps) (x:=(f:Int) - 1) (by unfold ZS;rw [zH,Hp.out,<-hf];rfl));obtain⟨s,hs⟩:=eX (YY (ps.take k));have hs1:=gK Hp.out;have hs2:=kS ps (k+1);rw [hs1,hs,hf,HN.out]at hs2;rw [hs,hf]at hs1;have hf1:=(Hin.out p (zD Hp.out)).2.2.1
   have hf0:0<f:=by
    obtain⟨a',ha'⟩:=XK k Hr.out;rw [yb Hp.out]at ha';simp only [xa,Yv,zM,decide_eq_true_eq]at ha';omega
   have Hs1:=zA hs1;rw [hs];have hg1:¬((f:Int) - 1<0):=(by omega);have hg2:¬((1048576:Int) - s<=(f:Int) - 1):=(by omega);clear hc2 hs hs1 hf hf1;go_wp2
   go_roundg (m - (k+1))
   ·exact⟨k+1,by go_num,by rw [Hs1.out];go_num,by omega,rfl,rfl⟩
   ·omega
  ·obtain rfl:k=m:=by omega
   have hall:YY (ps.take k)=N:=(by rw [zF (by rw [Hm.out];omega),HN.out]);rw [hall];clear hall;have T3:=zA (f9 (l:=ym ps) (post:= []) HS2.p1 (by rw [zo];exact HR3.out _ (Hl.out.on (HS2.below M4))) hc31 hc32 (by omega) HP.out (n:=N) (by rw [WK];exact HN.out) hN2)
   go_wp2_with (go_at_call 188;refine T3.out.mono ?_;rintro e w3 ⟨A3,Ab4,nb4,cb4,rfl,hc41,hc42,hn4,hR4,HS3⟩;have hbb:=HS3.cl M1 0;have hn40:nb4=0:=hn4;have hb1:=HS3.cl M4 1);have HS4:=((HS3.d1.elsNil (α:=PostD)).nil 116 2)
   obtain⟨g3,hg3⟩:∃g3,0<N->A3=some ⟨g3,0,none⟩:=by
    rcases zi N with h|h
    ·exact⟨0,fun h' =>by omega⟩
    ·obtain⟨g3,e,_⟩:=(HS3.rowOf M0).at_ h;exact⟨g3,fun _=>e⟩
   have Hg3:=zA hg3;clear hg3 hR4 hn4 hn40 hbb hb1 hb3c HS3 HS2
   go_loopg [11,12,13,78] k (fun gk v11 v12 v13 vi wr=>∃(j s np:Nat) (Ap Ao:aA) (co:Nat) (css:List aF) (last:Int),vi= .int .i64 j/\v11= .slice Ap np np/\v12= .slice Ao j co/\v13= .int .i64 last/\j<=k/\gk=k - j/\Hid (last=endD (ps.take j) last0)/\Hid (s=YY (ps.take j))/\Hid (np+s=N)/\Hid (0<np->Ap=some ⟨g3,s,none⟩)/\
    Sp wr [RowA 116 2 (.slice Ao j co) j css.flatten,ElsA css (ps.take j),IA A3 N N (ym ps),IA A2 k k (ZS ps),IA A1 k k (docD last0 ps),BlkA Bx 121 #[.slice A nb c,.int .i64 last0,.int .i64 le,.int .i64 (k:Int)],OldA w.heap.size w])
   case atStart=>exact⟨0,0,N,A3,none,0, [],last0,rfl,rfl,rfl,rfl,zJ _,rfl,rfl,rfl,rfl,Hg3.out,HS4⟩
   case round=>
    obtain⟨j,s,np,Ap,Ao,co,css,last,rfl,rfl,rfl,rfl,hj,rfl,HLa,HSs,HNp,HAp,HS⟩:=hrel;clear HS4
    by_cases hjk:j<k
    ·obtain⟨p,Hp⟩:∃p,Hid (ps[j]? =some p):=⟨_,zB (by rw [Hm.out];exact hjk)⟩;obtain⟨f,hf⟩:=eX (p.pos.length);obtain⟨doc,hdoc⟩:∃doc,p.doc=doc:=⟨_,rfl⟩;obtain⟨g1,rfl,_,_,hc1⟩:=(HS.rowOf M4).at_ (by omega)
     obtain⟨g2,rfl,_,_,hc2⟩:=(HS.rowOf M3).at_ (by omega)
     have hcd:=hc1 j _ (Z9 (L2 last0 Hp.out));rw [<-HLa.out,hdoc]at hcd;have hcf:=hc2 j _ (Z9 (l:=ZS ps) (x:=(f:Int) - 1) (by unfold ZS;rw [zH,Hp.out,<-hf];rfl));have hcf2:=fun o=>(HS.al o).rowCell M3 (Z9 (l:=ZS ps) (j:=j) (x:=(f:Int) - 1) (by unfold ZS;rw [zH,Hp.out,<-hf];rfl));obtain⟨a',ha'⟩:=XK j Hr.out;rw [yb Hp.out,<-HLa.out]at ha';simp only [xa,Yv,zM,decide_eq_true_eq]at ha'
     obtain⟨⟨⟨⟨⟨⟨⟨k1,k2⟩,k3⟩,k4⟩,k5⟩,k6⟩,k7⟩,_⟩:=ha';rw [hdoc]at k1 k2;rw [hf]at k3;obtain⟨q1,q2,q3,q4⟩:=Hin.out p (zD Hp.out)
     have hlast: -1<=last/\last<16384:=by
      rw [HLa.out];exact fB (fun x hx=>Hin.out x (yu hx)) hl0
     have hs1:=gK Hp.out;have hs2:=kS ps (j+1);rw [hs1,<-HSs.out,hf,HN.out]at hs2;rw [hf,<-HSs.out]at hs1;have hnp:=HNp.out;obtain rfl:Ap=some ⟨g3,s,none⟩:=HAp.out (by omega);obtain⟨d,hd⟩:=eX (doc - last - 1);rw [hd]at hcd;have hd2:last+1+d=doc:=(by omega);have hd0:(0:Int)<=d:=(by omega);have hd1:d<16384:=(by omega);have hdn:¬d<0:=(by omega);have hdm:¬(16384:Int)<=d:=(by omega);have hl1:=hlast.1
     have hl2:=hlast.2;have hN0:0<N:=(by omega);have hw16:j+1<=8:=(by omega);have hfp:(f:Int)<=np:=(by omega);have hf0:(0:Int)<f:=(by omega);have Hk5:=zA k5;have Hq4:=zA q4;have Hf:=zA hf;have Hs1:=zA hs1;have Hdoc:=zA hdoc;have hf2:f<=1048576:=(by omega);clear hc1 hc2 hf hdoc q1 q2 q3 q4 k1 k4 k5 k6 k7 hs1 hs2 hlast hd hnp;obtain⟨Bp,hBp⟩:=eX (wr.heap.size)
     have HS5:=(HS.blkH 116 #[.int .i64 doc,.slice none 0 0] hBp).nil 3 1
     have hcf3:∀w',Sp w' [RowA 116 2 (.slice Ao j co) j css.flatten,ElsA css (ps.take j),IA A3 N N (ym ps),IA (some ⟨g2,0,none⟩) k k (ZS ps),IA (some ⟨g1,0,none⟩) k k (docD last0 ps),BlkA Bx 121 #[.slice A nb c,.int .i64 last0,.int .i64 le,.int .i64 (k:Int)],OldA w.heap.size w]->w'.cell? ⟨g2,j,none⟩=some (.int .i64 ((f:Int) - 1)):=fun w' h=>h.rowCell M3 (Z9 (l:=ZS ps) (j:=j) (x:=(f:Int) - 1) (by unfold ZS;rw [zH,Hp.out,<-Hf.out];rfl))
     have Hcf3:=zA hcf3;obtain rfl:A3=some ⟨g3,0,none⟩:=Hg3.out hN0;clear hcf3;go_wp2
     go_loopg [17,104] f (fun gq va vq wq=>∃(q:Nat) (a:Int) (A5:aA) (c5:Nat),vq= .int .i64 q/\va= .int .i64 a/\q<=f/\gq=f - q/\0<=a/\a<=1048576/\Hid (a=(p.pos.take q).getLast?.getD 0)/\
      Sp wq [NA A5 q c5 (p.pos.take q),BlkA Bp 116 #[.int .i64 doc,.slice A5 q c5],RowA 116 2 (.slice Ao j co) j css.flatten,ElsA css (ps.take j),IA (some ⟨g3,0,none⟩) N N (ym ps),IA (some ⟨g2,0,none⟩) k k (ZS ps),IA (some ⟨g1,0,none⟩) k k (docD last0 ps),BlkA Bx 121 #[.slice A nb c,.int .i64 last0,.int .i64 le,.int .i64 (k:Int)],OldA w.heap.size w])
     case atStart=>exact⟨0,0,none,0,rfl,rfl,zJ _,rfl,by omega,by omega,rfl,HS5⟩
     case round=>
      obtain⟨q,a,A5,c5,rfl,rfl,hq,rfl,ha1,ha2,HA,HS6⟩:=hrel;clear HS5 hcf hcf2
      by_cases hqf:q<f
      ·obtain⟨z,Hz⟩:∃z,Hid (p.pos[q]? =some z):=⟨_,zB (by rw [Hf.out];exact hqf)⟩;have hzr:=Hq4.out z (zD Hz.out);have hcz:=HS6.rowCell M4 (Z9 (by rw [DO Hp.out (by rw [Hf.out];exact hqf)];exact K6 0 Hz.out));rw [<-HSs.out,<-HA.out]at hcz
       have haz:a<=z:=by
        rw [HA.out];rcases zi q with h|h
        ·subst h;simpa using hzr.1
        ·obtain⟨q',rfl⟩:∃q',q=q' +1:=⟨q - 1,by omega⟩;obtain⟨y,hy⟩:∃y,p.pos[q']? =some y:=⟨_,zB (by rw [Hf.out];omega)⟩;have h1:=Wf Hk5.out 1 q' (by rw [Hf.out];exact hqf);rw [Xf hy,Xf Hz.out]at h1;rw [iU hy];exact h1
       obtain⟨dz,hdz⟩:=eX (z - a);rw [hdz]at hcz;have hz1:a+dz=z:=(by omega);have hz2:¬dz<0:=(by omega);have hz3:¬(1048576:Int)<dz:=(by omega);have hz4:=hzr.1;have hz5:=hzr.2;have hp1:=HS6.cl M1 1;clear hzr hdz haz
       go_wp2_with (at_builtin;refine yC Xr (.tmp 118) (.tmp 120) rfl rfl HS6 rfl (cs:= #[.int .i64 z]) rfl rfl rfl (by intro u hu;simp at hu;subst hu;rfl) (by omega) (by omega) ?_;intro A8 c8 w8 hc8 hm8 HS8;have hq1:=HS8.cl M1 1;have hqf1:=(HS8.blkOf M1).frozen 1);have HS9:=(HS8.p1.set 1 (.slice A8 (q+1) c8)).p1
       have e:ints (p.pos.take q)++ #[Value.int .i64 z].toList=ints (p.pos.take (q+1)):=(by rw [zI,Hz.out];simp [ints]);rw [e]at HS9
       go_roundg (f - (q+1))
       ·exact⟨q+1,z,A8,c8,by go_num,rfl,by omega,rfl,hz4,hz5,by show _=_;rw [iU Hz.out];rfl,HS9⟩
       ·omega
      ·obtain rfl:q=f:=by omega
       have hp0:=HS6.cl M1 0;have hp1:=HS6.cl M1 1;have hqf1:=(HS6.blkOf M1).frozen 1;have hcf:=Hcf3.out _ HS6.tail.tail;have hq0:¬q=0:=(by omega)
       have hx:∀W:O,(Instr.slice 57 (.slice (some ⟨g3,s,none⟩) np np) (some (.int .i64 (q:Int))) none none).run prog W= .ok (.slice (if np=q then some ⟨g3,s,none⟩else some ⟨g3,s+q,none⟩) (np - q) (np - q)) W:=by
        intro W;simp [Instr.slice,Instr.sliceBounds,go_sem,Addr.add, *]
       obtain⟨Ap2,hA2⟩:∃A2:aA,(if np=q then some ⟨g3,s,none⟩else some ⟨g3,s+q,none⟩)=A2:=⟨_,rfl⟩;obtain⟨np2,hn2⟩:=eX (np - q);rw [hA2,hn2]at hx;have hcap:=(HS6.rowOf (.head _)).cap;have HS7:=(HS6.p1.set 1 (.slice A5 q q)).p2;have HA2:Hid (0<np2->Ap2=some ⟨g3,s+q,none⟩):=fun h=>by rw [<-hA2,if_neg (by omega)]
       have Hn2:Hid (np2+(s+q)=N):=(by show _=_;have:=HNp.out;omega);have htk:p.pos.take q=p.pos:=zF (by rw [Hf.out];omega);have Htk:=zA htk;clear hA2 hn2 htk
       go_wp2_with (first
        |(go_at_call 54;refine(UO _ _ _ _ (by omega) (by omega)).mono ?_;rintro e w' ⟨rfl,rfl⟩)
        |(at_builtin;refine yC eF (.tmp 135) (.tmp 137) rfl rfl HS7 rfl (cs:= #[.int .i64 doc,.slice A5 q q]) rfl (by simp) rfl (by intro u hu;simp at hu;rcases hu with rfl|rfl<;>rfl) (by omega) (by omega) ?_;intro A8 c8 w8 hc8 hm8 HS8)
        |fail)
       have HS9:Sp w8 [NA A5 q c5 (p.pos.take q),RowA 116 2 (.slice A8 (j+1) c8) (j+1) (css.flatten++ [.int .i64 doc,.slice A5 q q]),ElsA css (ps.take j),IA (some ⟨g3,0,none⟩) N N (ym ps),IA (some ⟨g2,0,none⟩) k k (ZS ps),IA (some ⟨g1,0,none⟩) k k (docD last0 ps),BlkA Bx 121 #[.slice A nb c,.int .i64 last0,.int .i64 le,.int .i64 (k:Int)],OldA w.heap.size w]:=HS8.d1.p1;rw [Htk.out]at HS9
       have HS10:=(HS9.clip.ints (fun x hx=>by have:=Hq4.out x hx;unfold In64;omega)).mk1 (cs:= [.int .i64 doc,.slice A5 q q]) (x:=p) fun S r=>by
        obtain⟨A',n',c',e,h⟩:=r;cases e;rw [<-Hdoc.out];exact PostD.of_cells h (by have:=(Hin.out p (zD Hp.out));unfold In64;omega)
       have HS11:=HS10.p2.p1.elsPush.p1;have e1:ps.take (j+1)=ps.take j++ [p]:=(by rw [zI,Hp.out];rfl);have e2:css.flatten++ [Value.int .i64 doc,.slice A5 q q]=(css++ [[Value.int .i64 doc,.slice A5 q q]]).flatten:=(by simp);rw [e2,<-e1]at HS11;have Hend:Hid (doc=endD (ps.take (j+1)) last0):=(by show _=_;rw [FG last0 Hp.out,Hdoc.out]);clear HS6 HS7 HS8 HS9 HS10 hx hp0 hp1 hqf1 hcf e1 e2
       go_roundg (k - (j+1))
       ·exact⟨j+1,s+q,np2,Ap2,A8,c8,_,doc,by go_num,rfl,rfl,rfl,by omega,rfl,Hend,Hs1.out.symm,Hn2,HA2,HS11⟩
       ·omega
    ·obtain rfl:j=k:=by omega
     have hall:ps.take j=ps:=zF (by rw [Hm.out];omega);rw [hall]at HS;have hla:=HLa.out;rw [hall,hle2.out]at hla;subst hla;have hb2:=HS.cl M5 2;clear hall;go_wp2
     go_quiet (fail)
     go_wp2;go_ret2;exact⟨Ao,co,css,rfl,(HS.d2.d2.d2.d2).drewN _⟩
abbrev OH:=aC×Int×Int×Int
def nP (n:Nat):Nat:=(n+7) / 8
def blkE (ps:List PostD) (k:Nat):OH:=(Yu (blkP ps (k*8)) (ZD ps (k*8)),ZD ps (k*8),ZD ps (k*8+8),((blkP ps (k*8)).length:Int))
def pBl (ps:List PostD):List OH:=(List.range (nP ps.length)).map (blkE ps)
theorem p9 {ps:List PostD} {k:Nat} (h:k*8<ps.length):(pBl ps)[k]? =some (blkE ps k):=by
 unfold pBl;rw [zH,zq (by unfold nP;omega)];rfl
theorem L1:Elt prog 117 121 4 48:=xt underlying117 (by decide) (by kernel_rfl)
theorem VD {ps:List PostD} (h:xk ps=true) (x:Nat):∃a,a<=1048576/\xa (ZD ps x) a (blkP ps x)=true:=by
 have key:∀(x:Nat) (l:List PostD) (last:Int) (all:Nat),all<=1048576->xa last all l=true->∃a,a<=1048576/\xa (endD (l.take x) last) a (l.drop x)=true:=by
  intro x
  induction x with
  |zero=>intro l last all ha h;exact⟨all,ha,by simpa [endD]using h⟩
  |succ x ih=>
   intro l last all ha h;cases l with
   |nil=>exact⟨all,ha,by simpa [endD]using h⟩
   |cons p l=>
    simp only [xa,Yv,zM,decide_eq_true_eq]at h;obtain⟨a,h1,h2⟩:=ih l p.doc (all+p.pos.length) (by omega) h.2;refine⟨a,h1,?_⟩
    have e:endD ((p::l).take (x+1)) last=endD (l.take x) p.doc:=by
     have:=XA [p] (l.take x) last;rw [xL]
     simpa [endD]using this.symm
    rw [e];exact h2
 obtain⟨a,h1,h2⟩:=key x ps (-1) 0 (by omega) h;exact⟨a,h1,Qa 8 h2⟩
theorem XQ {w:O} {L:List Asn} {p z:Nat} {pre s post:aC} (h:Sp w (RdA p (rsAt pre (s++post))::L)) (hz:s.length=z) (hz2:z<=4611686018427387904):
 Calls prog 76 #[.pointer (some ⟨p,0,none⟩),.int .i64 (z:Int)] w fun e w' =>∃A',e= .returned (.slice A' z z)/\Sp w' (BA A' z z s::RdA p (rsAt (pre++s) post)::L):=by
 subst hz;have h1:=oT h s.length hz2;rw [X4]at h1;refine h1.mono ?_;rintro e w' ⟨A',k,he,HS⟩;have hk:k=s.length:=(HS.rb (.head _)).1.len.symm;subst hk;exact⟨A',he,HS⟩
theorem wO (A:aA) (nb c:Nat) (ps:List PostD) (w:O) (hc:nb<=c) (hc2:c<=9223372036854775807) (hnb:nb<=100000000000000) (hl:RB w A nb (YB ps)) (hr:xk ps=true):
 Calls prog 150 #[.slice A nb c] w fun e w' =>∃D,e= .returned (.tuple #[.pointer (some ⟨D,0,none⟩),.int .i64 0])/\Sp w' [DatA (.pointer (some ⟨D,0,none⟩)) (Ptr.mk (some (pBl ps,(ps.length:Int)))),OldA w.heap.size w]:=by
 obtain⟨n,hn⟩:=eX (ps.length);obtain⟨hin,hall,hn1⟩:=QN hr;rw [hn]at hn1;have Hl:=zA hl;have Hlen:=zA hl.len;have Hr:=zA hr;have Hin:=zA hin;have Hn:=zA hn;have HN:=zA (VG (c:=c) (Sp.start w) hl (by omega));rw [hn];clear hl hr hin hall hn;go_enter func150,ntmps150;go_wp2_with fail;refine HN.out.mono ?_;rintro e w1 ⟨p,rfl,HS1⟩
 have HS2:Sp w1 [RdA p (rsAt [] (zP n++Qx ps 0)),OldA w.heap.size w]:=by
  rw [dP Hr.out,Hn.out]at HS1
  simpa [rsAt]using HS1
 have HR:=zA (ZH HS2 16384 (by omega));rw [yn (by omega) hn1]at HR;clear HS1 HS2;go_wp2_with fail;refine HR.out.mono ?_;rintro e w2 ⟨rfl,HS2⟩;obtain⟨D,hD⟩:=eX (w2.heap.size);have HS3:=((((HS2.blkH 119 #[.slice none 0 0,.int .i64 (n:Int)] hD).elsNil (α:=PostD)).nil 116 2).elsNil (α:=OH)).nil 121 4;go_wp2
 go_loopg [6,7,8] (nP n) (fun gk v6 v7 vi wr=>∃(k i q:Nat) (A1 A6:aA) (c1 c6:Nat) (css1 css6:List aF) (last:Int) (pre:aC),Hid (i=k*8)/\vi= .int .i64 (i:Int)/\k<=nP n/\gk=nP n - k/\v6= .slice A6 q c6/\v7= .int .i64 last/\Hid (q=min i n)/\Hid (last=ZD ps (k*8))/\Hid (pre++Qx ps k=YB ps)/\
  Sp wr [BlkA D 119 #[.slice A1 k c1,.int .i64 (n:Int)],RowA 121 4 (.slice A1 k c1) k css1.flatten,ElsA css1 ((pBl ps).take k),RowA 116 2 (.slice A6 q c6) q css6.flatten,ElsA css6 (ps.take (k*8)),RdA p (rsAt pre (Qx ps k)),OldA w.heap.size w])
 case atStart=>exact⟨0,0,0,none,none,0,0, [], [], -1,zP n,rfl,rfl,zJ _,rfl,rfl,rfl,by show _=_;omega,rfl,by show _=_;rw [dP Hr.out,Hn.out],by
  have h:=HS3.sel [4,0,1,2,3,5,6];exact h⟩
 case round=>
  obtain⟨k,i,q,A1,A6,c1,c6,css1,css6,last,pre,Hi,rfl,hk,rfl,rfl,rfl,Hq,HLa,HP,HS⟩:=hrel;clear HS2 HS3;have hd1:=HS.cl M0 1;have hi0:=Hi.out
  by_cases hin:i<n
  ·obtain⟨rows,hrows⟩:=eX (Yu (blkP ps (k*8)) (ZD ps (k*8)));obtain⟨z,hz⟩:=eX (rows.length);obtain⟨en,hen⟩:=eX (ZD ps (k*8+8));obtain⟨rest,hrest⟩:=eX (Qx ps (k+1));obtain⟨df,hdf⟩:=eX ((ZD ps (k*8+8) - ZD ps (k*8)).toNat);have hst:=wM (ps:=ps) (k:=k) (by rw [Hn.out];omega);unfold blkL at hst;rw [hrows,hz,hdf,hrest]at hst;have hle:=nI Hr.out (k*8);have hl1:=QS Hr.out (k*8)
   have hl2:=QS Hr.out (k*8+8);rw [hen,<-HLa.out]at hle hdf;rw [<-HLa.out]at hl1;rw [hen]at hl2
   have hzn:z<=nb:=by
    have h:=congrArg List.length HP.out;rw [Hlen.out,hst]at h;simp only [zG]at h;omega
   have hzb:z<=4611686018427387904:=(by omega);have hzb2:z<=100000000000000:=(by omega);have hadd:last+(df:Int)=en:=(by omega);have hl11:=hl1.1;have hl12:=hl1.2;have hdf2:df<=16384:=(by omega);have HR1:=zA (ZH HS.p5 nb (by omega));rw [hst,zO,yn (by omega) hzn]at HR1;obtain⟨m,hm⟩:=eX ((blkP ps (k*8)).length);have hmm:m=min 8 (n - i):=(by rw [<-hm];unfold blkP;rw [zr,ze,Hn.out,Hi.out])
   have Hmm:=zA hmm;obtain⟨nd,hnd⟩:=eX (n - i);have hnw:IntKind.i64.wrap ((n:Int) - (i:Int))=(nd:Int):=(by rw [zT];omega);have hnw2:(n:Int) - (i:Int)=(nd:Int):=(by omega);have hnw3:IntKind.i64.wrap (nd:Int)=(nd:Int):=(by rw [zT];omega);have hmi:min 8 (nd:Int)=(m:Int):=(by omega);have hin' :(i:Int)<n:=(by omega);have Hrows:=zA hrows;have Hz:=zA hz;have Hen:=zA hen;have Hrest:=zA hrest
   have Hm:=zA hm;have Hst:=zA hst;clear hi0 hnd hrows hz hen hrest hst hm hmm hl1 hl2 hdf hle hzn;go_wp2_with fail;refine HR1.out.mono ?_;rintro e w3 ⟨rfl,HS3⟩;have HR2:=zA (ZH HS3 16384 (by omega));rw [zO,yn (by omega) hdf2]at HR2;go_wp2_with fail;refine HR2.out.mono ?_;rintro e w4 ⟨rfl,HS4⟩;clear HS3;clear HS;obtain⟨Bx,hBx⟩:=eX (w4.heap.size)
   have HS4a:=((HS4.blkH 121 #[.slice none 0 0,.int .i64 0,.int .i64 0,.int .i64 0] hBx).drew).p1;go_upto_region 10 with fail
   go_cut [11]from 38 to 50 (fun v11 W=>∃Bx A9,v11= .pointer (some ⟨Bx,0,none⟩)/\Sp W [BlkA Bx 121 #[.slice A9 z z,.int .i64 last,.int .i64 en,.int .i64 (m:Int)],BA A9 z z rows,RdA p (rsAt (pre++zP z++zP df++rows) rest),BlkA D 119 #[.slice A1 k c1,.int .i64 (n:Int)],RowA 121 4 (.slice A1 k c1) k css1.flatten,ElsA css1 ((pBl ps).take k),RowA 116 2 (.slice A6 q c6) q css6.flatten,ElsA css6 (ps.take (k*8)),OldA w.heap.size w])
   case first=>
    have hd4:=HS4.cl M1 1;have hd4d:w4.drew.cell? ⟨D,1,none⟩=some (.int .i64 (n:Int)):=hd4;have hd4a:(w4.alloc (.cells #[.slice none 0 0,.int .i64 0,.int .i64 0,.int .i64 0] 121)).drew.cell? ⟨D,1,none⟩=some (.int .i64 (n:Int)):=HS4a.cell M2 1
    go_region_held3 (fun W=>W.cell? ⟨D,1,none⟩=some (.int .i64 (n:Int))) (first|with_reducible assumption|with_reducible exact hd5a _|go_keep|fail)
     (first
      |(go_at_call 76;(with_reducible refine(XQ HS4.drew Hz.out hzb).mono ?_);rintro e w5 ⟨A9,rfl,HS5⟩;have hd5:=HS5.cl M2 1;have hd5a:∀o,(w5.alloc o).cell? ⟨D,1,none⟩=some (.int .i64 (n:Int)):=(fun o=>(HS5.al o).cell M2 1))
      |(go_at_call 76;(with_reducible refine(XQ HS4a Hz.out hzb).mono ?_);rintro e w5 ⟨A9,rfl,HS5⟩;have hd5:=HS5.cl M3 1;have hne:Bx≠D:=(HS5.tail.tail).ne;have hne2:D≠Bx:=Ne.symm hne;have x0:=HS5.cl M2 0;have f0:w5.frozen? ⟨Bx,0,none⟩=false:=(HS5.blkOf M2).frozen 0;have x1:=HS5.cl M2 1;have f1:w5.frozen? ⟨Bx,1,none⟩=false:=(HS5.blkOf M2).frozen 1;have x2:=HS5.cl M2 2;have f2:w5.frozen? ⟨Bx,2,none⟩=false:=(HS5.blkOf M2).frozen 2;have x3:=HS5.cl M2 3;have f3:w5.frozen? ⟨Bx,3,none⟩=false:=(HS5.blkOf M2).frozen 3)
      |fail)
    all_goals
     go_wp2
     go_meet
     first
      |exact⟨_,A9,rfl,HS5.blkH 121 #[.slice A9 z z,.int .i64 last,.int .i64 en,.int .i64 (m:Int)] rfl⟩
      |exact⟨Bx,A9,rfl,(((HS5.p2.set 0 (.slice A9 z z)).set 1 (.int .i64 last)).set 2 (.int .i64 en)).set 3 (.int .i64 (m:Int))⟩
   case rest=>
    clear HS4 HS4a;obtain⟨Bx,A9,rfl,HS5⟩:=hcut;have b0:=HS5.cl M0 0;have b1:=HS5.cl M0 1;have b2:=HS5.cl M0 2;have b3:=HS5.cl M0 3;obtain⟨a',ha1,ha2⟩:=VD Hr.out (k*8);have hll:=QS Hr.out (k*8);have Hpo:=zA (jI (c:=z) (m:=m) (w:=wc) (A:=A9) (nb:=z) (by rw [Hrows.out];exact(HS5.rb M1).1) (zC _) (by omega) (by omega) Hm.out (by have:=Hmm.out;omega) ha2 hll ha1);rw [Xc,Hen.out,<-HLa.out]at Hpo
    clear ha1 ha2 hll;go_wp2_with fail;refine Hpo.out.mono ?_;rintro e w6 ⟨A7,c7,css7,rfl,HT6⟩;have HS6:=HS5.c2 HT6;clear HS5 b0 b1 b2 b3;have HE:=zA (dH HS6.p4);have HE0:Hid (Calls prog 79 #[.pointer (some ⟨p,0,none⟩)] w6 fun e w' =>e= .returned (.int .i64 0)/\w6=w'):=HE.out;go_wp2_with (go_at_call 79;refine HE0.out.mono ?_;rintro e w7 ⟨rfl,rfl⟩);have HS7:=HS6.drew.sel [6,5,2,3,7,0,1,4,8,9,10]
    simp only [yo,List.filterMap_nil,zf,zj]at HS7;have hk6:w6.cell? ⟨Bx,0,none⟩=some (.slice A9 z z)/\w6.cell? ⟨Bx,1,none⟩=some (.int .i64 last)/\w6.cell? ⟨Bx,2,none⟩=some (.int .i64 en)/\w6.cell? ⟨Bx,3,none⟩=some (.int .i64 (m:Int)):=⟨HS6.cell M2 0,HS6.cell M2 1,HS6.cell M2 2,HS6.cell M2 3⟩
    have hk6a:∀o,(w6.alloc o).cell? ⟨Bx,0,none⟩=some (.slice A9 z z)/\(w6.alloc o).cell? ⟨Bx,1,none⟩=some (.int .i64 last)/\(w6.alloc o).cell? ⟨Bx,2,none⟩=some (.int .i64 en)/\(w6.alloc o).cell? ⟨Bx,3,none⟩=some (.int .i64 (m:Int)):=fun o=>⟨(HS6.al o).cell M2 0,(HS6.al o).cell M2 1,(HS6.al o).cell M2 2,(HS6.al o).cell M2 3⟩;have hd0:=HS6.cl M5 0
    have hd0a:∀o,(w6.alloc o).cell? ⟨D,0,none⟩=some (.slice A1 k c1):=fun o=>(HS6.al o).cell M5 0;have hne:Bx≠D:=(HS7.tail.p1).ne;have hne2:D≠Bx:=Ne.symm hne;clear HE HE0 HT6;go_upto_region 14 with fail
    go_cut []from 63 to 72 (fun W=>∃A8 c8,k+1<=c8/\Sp W [BlkA D 119 #[.slice A8 (k+1) c8,.int .i64 (n:Int)],RowA 121 4 (.slice A8 (k+1) c8) (k+1) (css1++ [[Value.slice A9 z z,Value.int .i64 last,Value.int .i64 en,Value.int .i64 (m:Int)]]).flatten,BA A9 z z rows,ElsA css1 ((pBl ps).take k),RowA 116 2 (.slice A7 m c7) m css7.flatten,ElsA css7 (blkP ps (k*8)),RdA p (rsAt (pre++zP z++zP df++rows) rest),RowA 116 2 (.slice A6 q c6) q css6.flatten,ElsA css6 (ps.take (k*8)),OldA w.heap.size w])
    case first=>
     refine gR [(10,fun W=>W.cell? ⟨D,0,none⟩=some (.slice A1 k c1)/\W.cell? ⟨Bx,0,none⟩=some (.slice A9 z z)/\W.cell? ⟨Bx,1,none⟩=some (.int .i64 last)/\W.cell? ⟨Bx,2,none⟩=some (.int .i64 en)/\W.cell? ⟨Bx,3,none⟩=some (.int .i64 (m:Int)))] (hB ⟨HS6.drew.cell M5 0,HS6.drew.cell M2 0,HS6.drew.cell M2 1,HS6.drew.cell M2 2,HS6.drew.cell M2 3⟩) ?_;refine gF 0 ?_;refine gF 1 ?_;refine gF 2 ?_
     refine gF 3 ?_;refine gL 4 10 M0 ?_;refine gL 5 10 M0 ?_;intro hC;refine gO 6 fun K hK=> ?_;go_simp;refine hK.out _ _ (hB ⟨(HS6.drew.al _).cell M5 0,(HS6.drew.al _).cell M2 0,(HS6.drew.al _).cell M2 1,(HS6.drew.al _).cell M2 2,(HS6.drew.al _).cell M2 3⟩) ?_;clear hK K hC;intro hC;refine gO 7 fun K hK=> ?_
     refine yz L1 (.tmp 67) (.tmp 69) rfl rfl HS7 rfl (cs:= #[.slice A9 z z,.int .i64 last,.int .i64 en,.int .i64 (m:Int)]) rfl rfl rfl (by intro u hu;simp at hu;rcases hu with rfl|rfl|rfl|rfl<;>rfl) (by unfold nP at hk;omega) (by unfold nP at hk;omega) ?_
     intro A8 c8 w8 hc8 hm8 HS8;have q1:=HS8.cl M1 0;have qf:=(HS8.blkOf M1).frozen 0;refine hK.out _ _ (hB ⟨HS8.cell M1 0,HS8.cell M2 0,HS8.cell M2 1,HS8.cell M2 2,HS8.cell M2 3⟩) ?_;clear hK K hC;refine gF 8 ?_;refine gF 9 ?_;intro hC;refine gO 10 fun K hK=> ?_;go_simp;refine hK.out _ _ hA ?_;clear hK K hC;intro hC;refine xW (by kernel_rfl) ?_
     all_goals
      go_wp2
      go_meet
      refine⟨A8,c8,hc8,?_⟩;have h:=HS8.p1.set 0 (.slice A8 (k+1) c8);have e:css1.flatten++ #[Value.slice A9 z z,Value.int .i64 last,Value.int .i64 en,Value.int .i64 (m:Int)].toList=(css1++ [[Value.slice A9 z z,Value.int .i64 last,Value.int .i64 en,Value.int .i64 (m:Int)]]).flatten:=(by simp);rw [e]at h;exact h.d2
    case rest=>
     obtain⟨A8,c8,hc8,HS8⟩:=hcut;have Hr7:=zA (HS8.rowOf M4).reads;have Ho7:=zA (HS8.elsOne M5);have hq16:q<=16384:=(by have:=Hq.out;omega);have hm16:m<=8:=(by have:=Hmm.out;omega);go_wp2_with (at_builtin;refine yR eF (.tmp 73) (.tmp 74) rfl rfl HS8.p7 rfl rfl Hr7.out Ho7.out (by omega) (by omega) ?_;intro A10 c10 w9 hc10 hm10 HS9);have HS10:=HS9.sel [3,4,1,2,0,8,6,7,9]
     simp only [yo,List.filterMap_nil,zf,zj]at HS10
     have HS11:=((HS10.bytes).mk1 (α:=OH) (cs:= [.slice A9 z z,.int .i64 last,.int .i64 en,.int .i64 (m:Int)]) (x:=(rows,last,en,(m:Int))) fun S r=>(show rep w9 S [.slice A9 z z,.int .i64 last,.int .i64 en,.int .i64 (m:Int)] ((rows,last,en,(m:Int)):OH)from⟨_,_,rfl,r,_,_,rfl,⟨rfl,show In64 last by unfold In64;omega⟩,_,_,rfl,⟨rfl,show In64 en by unfold In64;omega⟩,rfl,show In64 (m:Int) by unfold In64;omega⟩)).elsPush
     have HS12:=HS11.sel [4,5,1,2,0,3,6,7];simp only [yo,List.filterMap_nil,zf,zj]at HS12;have HS13:=HS12.elsJoin.sel [1,2,3,4,0,5,6];simp only [yo,List.filterMap_nil,zf,zj]at HS13
     have e1:(pBl ps).take (k+1)=(pBl ps).take k++ [(rows,last,en,(m:Int))]:=by
      rw [zI,p9 (by have:=Hi.out;have:=Hn.out;omega)];unfold blkE;rw [Hrows.out,<-HLa.out,Hen.out,Hm.out];rfl
     have e2:ps.take ((k+1)*8)=ps.take (k*8)++blkP ps (k*8):=by
      unfold blkP;rw [iV,Nat.succ_mul]
     have e3:css6.flatten++css7.flatten=(css6++css7).flatten:=(by simp);rw [<-e1,<-e2,e3,<-Hrest.out]at HS13
     have HPx:Hid (pre++zP z++zP df++rows++Qx ps (k+1)=YB ps):=by
      show _=_;rw [<-HP.out,Hst.out,Hrest.out];simp
     have HEn:Hid (en=ZD ps ((k+1)*8)):=(by show _=_;rw [Nat.succ_mul,Hen.out]);have Hqm:Hid (q+m=min (i+8) n):=(by show _=_;have:=Hq.out;have:=Hmm.out;omega);have HI:=Hi.out;clear HS6 HS7 HS8 HS9 HS10 HS11 HS12 e1 e2 e3 hd0 hd0a hk6 hk6a hd1 hnw hnw2 hnw3 hmi
     go_roundg (nP n - (k+1))
     ·exact⟨k+1,i+8,q+m,A8,A10,c8,c10,_,_,en,_,by show _=_;omega,by go_num,by unfold nP;omega,rfl,rfl,rfl,Hqm,HEn,HPx,HS13⟩
     ·unfold nP at hk⊢;omega
  ·have hkn' :nP n<=k:=(by unfold nP;omega);have hall:(pBl ps).take k=pBl ps:=(by rw [zF];unfold pBl;rw [zK,xg,Hn.out];exact hkn');have hps:ps.take (k*8)=ps:=zF (by rw [Hn.out];omega);have hqn:q=n:=(by have:=Hq.out;omega);subst hqn;rw [hall,hps,DJ (by rw [Hn.out];omega)]at HS;have HS1:=HS.sel [3,4,5,0,1,2,6];simp only [yo,List.filterMap_nil,zf,zj]at HS1;have HS2:=HS1.els (α:=PostD)
   have HB:=zA (jK A6 q c6 ps wr (by omega) (HS2.ls M0) (fun x hx=>by have:=(Hin.out x hx).2.2.1;omega));clear hall hps HS HS1;go_wp2_with fail;refine HB.out.mono ?_;intro e w5 hpb;unfold W9 at hpb;rw [if_pos Hr.out]at hpb;obtain⟨A7,m7, -,rfl,HT5⟩:=hpb;have HS5:=HS2.c1 HT5;have HE:=zA (gC HS5.p2);have hfin:(rsAt pre ([]:aC)).fin=rsAt pre []:=(by simp [RS.fin,rsAt,RS.left]);rw [hfin]at HE
   have hm7:m7=nb:=(by rw [<-(HS5.rb M0).1.len,Hlen.out]);subst hm7
   go_wp2_with (first
    |(go_at_call 129;refine HE.out.mono ?_;rintro e w6 ⟨rfl,HS6⟩;have HEq:=zA (bY A7 A m7 m7 m7 c (YB ps) (YB ps) w6 (by omega) (HS6.rb M1).1 (Hl.out.on (HS6.below M6)));rw [decide_eq_true (rfl:YB ps=YB ps)]at HEq)
    |(go_at_call 145;refine HEq.out.mono ?_;rintro e w7 ⟨rfl,k7,rfl⟩)
    |fail)
   go_ret2;refine⟨D,rfl,?_⟩;have h1:=(HS6.drewN k7).sel [4,5,3,6];simp only [yo,List.filterMap_nil,zf,zj]at h1;have h2:=h1.els (α:=OH);have h3:=h2.mk1 (α:=List OH×Int) (cs:= [.slice A1 k c1,.int .i64 (q:Int)]) (x:=(pBl ps,(q:Int))) fun S r=>(show rep _ S [.slice A1 k c1,.int .i64 (q:Int)] ((pBl ps,(q:Int)):List OH×Int)from⟨_,_,rfl,r,rfl,show In64 (q:Int) by unfold In64;omega⟩);exact h3.p1.ptr
end Go.Proofs.YtjbhbfaeielbiaaGreatDoor

import Derived.Test.YtjbhbfaeielbiaaGreatDoorPart20
import Derived.Lib.ConvBytes
import Derived.Test.YtjbhbfaeielbiaaGreatDoorPart19
import Derived.Test.YtjbhbfaeielbiaaGreatDoorPart21
set_option maxRecDepth 100000
set_option maxHeartbeats 8000000
set_option linter.unusedVariables false
set_option linter.unusedSimpArgs false
namespace Go.Proofs.YtjbhbfaeielbiaaGreatDoor
open Tryz
open Rep (rep)
open Go.RowKit
def dI (n:Int):Bool:=decide (1<=n/\n<=4)
def Xy (t:aD) (j:Nat):Bool:=match t[j]? with|some x=>Yx x && !((t.take j).contains x)|none=>true
def ZI:aD->Bool
 | []=>false
 |a::t=>decide (t.length<8) && dI a && (List.range t.length).all (Xy t)
def aS (b:Bool):Int:=if b then 0 else 60
theorem X5 (p:Nat->Bool) (j:Nat):(List.range (j+1)).all p=((List.range j).all p && p j):=by
 rw [List.range_succ,List.all_append];simp
theorem XL {p:Nat->Bool} {j n:Nat} (hj:j<n) (h:p j=false):(List.range n).all p=false:=by
 rw [List.all_eq_false];exact⟨j,List.mem_range.2 hj,by simp [h]⟩
theorem V3 (A:aA) (n c:Nat) (xs:aD) (w:O) (hT:Tabs w) (hr:zL w (·<w.heap.size) A n c xs):
 Calls prog 97 #[.slice A n c] w fun e w' =>e= .returned (.int .i64 (aS (ZI xs)))/\Below w.heap.size w w' :=by
 have hcap:=hr.cap;have hl:=hr.length;have hq1:=iG;have hq2:=UM;rcases xs with _|⟨x0,t⟩
 ·obtain rfl:n=0:=by simpa using hl.symm
  rw [show aS (ZI [])=60 from rfl];clear hr hT hl hq1 hq2;go_enter func97,ntmps97;go_wp2;go_ret
  exact⟨rfl,zE _ _⟩
 ·have hn1:n=t.length+1:=(by simpa using hl.symm);obtain⟨b,off,x,rfl,hx,hb,he⟩:=hr.at_ (k:=0) (by omega)
  obtain rfl:x0=x:=by simpa using hx.out
  have hc0:=he.int.1;have hin:=he.int.2;simp only [yt]at hc0;have hpos:(1:Int)<=n:=(by omega);obtain⟨q,hq⟩:=eX (aS (ZI (x0::t)));rw [hq]
  by_cases hbig:(8:Int)<n
  ·obtain rfl:q=60:=by
    rw [<-hq,ZI,decide_eq_false (by omega)];rfl
   clear hr hT hl hq he hx hin hn1 hq1 hq2 hc0;go_enter func97,ntmps97;go_wp2;go_ret
   exact⟨rfl,zE _ _⟩
  ·by_cases htk:dI x0=true
   ·have ht1:(1:Int)<=x0/\x0<=4:=(by simpa [dI]using htk);have hx1:=ht1.1;have hx2:=ht1.2
    have hfin:aS ((List.range t.length).all (Xy t))=q:=by
     rw [<-hq,ZI,decide_eq_true (by omega),htk];rfl
    have Hfin:=zA hfin;have Hn1:=zA hn1;have HT:=zA hT;have Hr:=zA hr;have hbig2:(n:Int)<=8:=(by omega);clear hr hT hl hq hfin he hx hin hn1 htk ht1 hbig
    by_cases hc1:c=1
    ·obtain rfl:n=1:=by omega
     subst hc1;obtain rfl:q=0:=by rw [<-Hfin.out,show t.length=0 by have:=Hn1.out;omega];rfl
     go_enter func97,ntmps97;go_wp2
     go_loopw [28] (fun i wr=>i= .int .i64 0/\wr=w) (fun i _=>0)
     case atStart=>exact⟨rfl,rfl⟩
     case round=>
      obtain⟨rfl,rfl⟩:=hrel;go_wp2;go_ret
      exact⟨rfl,zE _ _⟩
    ·go_enter func97,ntmps97;go_wp2
     go_loopw [28] (fun i wr=>∃j:Nat,j+1<=n/\i= .int .i64 j/\(List.range j).all (Xy t)=true/\Below w.heap.size w wr) (fun i _=>n - (intOf i).toNat)
     case atStart=>exact⟨0,by omega,rfl,rfl,zE _ _⟩
     case round=>
      obtain⟨j,hj,rfl,hall,hbw⟩:=hrel;have Hall:=zA hall;have Hbw:=zA hbw;clear hall hbw
      by_cases hlt:j<n - 1
      ·obtain⟨y,hy⟩:∃y,t[j]? =some y:=⟨_,zB (by have:=Hn1.out;omega)⟩;have hey:_=_:=(((Hr.out.on Hbw.out).elem (k:=j+1) (by simpa using hy)).2.int.1);rw [show off+(j+1)=off+1+j by omega]at hey
       have hsub:∀W,Below w.heap.size w W->∀i,i<t.length->W.cell? ⟨b,off+1+i,none⟩=some (.int .i64 (t.getD i 0)):=fun W hW i hi=>by
        have:=((Hr.out.on hW).elem (k:=i+1) (x:=t[i]) (by simp [hi])).2.int.1;rw [show off+(i+1)=off+1+i by omega]at this;rw [this,zm,zB hi];rfl
       have Hsub:=zA hsub;have Hy:=zA hy;clear hy hsub;have hj1:j+1<=c:=(by omega);have hj2:j+1<n:=by omega
       by_cases hf:Yx y=true
       ·by_cases hct:(t.take j).contains y=true
        ·have hno:(List.range t.length).all (Xy t)=false:=XL (j:=j) (by have:=Hn1.out;omega) (by simp only [Xy,Hy.out];rw [hf,hct];rfl);obtain rfl:q=60:=by rw [<-Hfin.out,hno];rfl
         have Hc:=zA hct;clear hno hct;go_wp2_with fail;refine(fA y hf _ (HT.out.on Hbw.out)).mono ?_;rintro e w1 ⟨k,lb,rfl, -,hb1⟩;have Hb1:=zA hb1;clear hb1;go_wp2_with fail;refine(Tryz.slices_Contains_int b (off+1) j _ t y w1 (by have:=Hn1.out;omega) (by omega) (Hsub.out w1 (Hbw.out.trans (Hb1.out.mono Hbw.out.size)))).mono ?_;rintro e w' ⟨rfl,rfl⟩;rw [Hc.out];go_wp2;go_ret
         exact⟨rfl,(Hbw.out.trans (Hb1.out.mono Hbw.out.size))⟩
        ·have hst:(List.range (j+1)).all (Xy t)=true:=by
          rw [X5,Hall.out];simp only [Xy,Hy.out];rw [hf,Bool.eq_false_iff.2 hct];rfl
         have Hst:=zA hst;have hct' :(t.take j).contains y=false:=Bool.eq_false_iff.2 hct;have Hc:=zA hct';clear hst hct hct';go_wp2_with fail;refine(fA y hf _ (HT.out.on Hbw.out)).mono ?_;rintro e w1 ⟨k,lb,rfl, -,hb1⟩;have Hb1:=zA hb1;clear hb1;go_wp2_with fail
         refine(Tryz.slices_Contains_int b (off+1) j _ t y w1 (by have:=Hn1.out;omega) (by omega) (Hsub.out w1 (Hbw.out.trans (Hb1.out.mono Hbw.out.size)))).mono ?_;rintro e w' ⟨rfl,rfl⟩;rw [Hc.out];go_wp2
         go_roundw
         case rel=>exact⟨j+1,by omega,by go_num,Hst.out,Hbw.out.trans (Hb1.out.mono Hbw.out.size)⟩
         case measure=>simp [intOf];omega
       ·have hno:(List.range t.length).all (Xy t)=false:=XL (j:=j) (by have:=Hn1.out;omega) (by simp only [Xy,Hy.out];rw [Bool.eq_false_iff.2 hf];rfl);obtain rfl:q=60:=by rw [<-Hfin.out,hno];rfl
        clear hno;go_wp2_with fail;refine(JU y (Bool.eq_false_iff.2 hf) _).mono ?_;rintro e w1 ⟨rfl,rfl⟩;go_wp2;go_ret
        exact⟨rfl,Hbw.out⟩
      ·obtain rfl:j=n - 1:=by omega
       obtain rfl:q=0:=by rw [<-Hfin.out,show t.length=n - 1 by have:=Hn1.out;omega,Hall.out];rfl
       go_wp2;go_ret
       exact⟨rfl,Hbw.out⟩
   ·obtain rfl:q=60:=by
     rw [<-hq,ZI,Bool.eq_false_iff.2 htk];simp;rfl
    have ht1:x0<1\/4<x0:=(by simp [dI]at htk;omega);have hbig2:(n:Int)<=8:=(by omega);clear hr hT hl hq he hx hin hn1 hq1 hq2 hbig htk;rcases ht1 with ht1|ht1
    ·go_enter func97,ntmps97;go_wp2;go_ret
     exact⟨rfl,zE _ _⟩
    ·have ht2:1<=x0:=(by omega);go_enter func97,ntmps97;go_wp2;go_ret
     exact⟨rfl,zE _ _⟩
def Un (i c:Nat):Bool:=decide ((97<=c/\c<=122)\/c=95\/(0<i/\48<=c/\c<=57))
def aP (s:aB):Bool:=(List.range s.size).all (fun i=>Un i (s.get! i).toNat) && decide (1<=s.size/\s.size<=24)
theorem QX (w:O) (e:TypeId) (s:aB):Below w.heap.size w (Lib.bytesWorld w e s) where
 os:=by simp [Lib.bytesWorld,World.freeze,World.alloc,World.drew, -World.alloc_eq, -World.drew_eq]
 tape:=by simp [Lib.bytesWorld,World.freeze,World.alloc,World.drew, -World.alloc_eq, -World.drew_eq]
 output:=by simp [Lib.bytesWorld,World.freeze,World.alloc,World.drew, -World.alloc_eq, -World.drew_eq]
 size:=by rw [Lib.bytesWorld_size];omega
 block:=fun k hk=>Lib.bytesWorld_at_old w e s k hk
theorem JR (s:aB) (k:Nat) (h:k<s.size):(s.data.toList.getD k 0)=s.get! k:=by
 rw [<-qE s k h,zm,zB (by rw [<-Lib.size_eq];exact h)];simp [ByteArray.getElem_eq_getElem_data]
theorem F7 (k c:Nat):(Un k c=true/\(((97:Int)<=(c:Int)/\(c:Int)<=122)\/(c:Int)=95\/((0:Int)<(k:Int)/\(48:Int)<=(c:Int)/\(c:Int)<=57)))
 \/(Un k c=false/\(((c:Int)<48)\/((48:Int)<=(c:Int)/\(c:Int)<=57/\k=0)\/((57:Int)<(c:Int)/\(c:Int)<97/\(c:Int)≠95)\/((122:Int)<(c:Int)))):=by
 unfold Un
 by_cases h:(97<=c/\c<=122)\/c=95\/(0<k/\48<=c/\c<=57)
 ·left
  refine⟨by simpa using h,?_⟩;omega
 ·right
  refine⟨by simpa using h,?_⟩;omega
theorem I6 (s:aB) (hs:s.size<=9223372036854775807) (w:O):
 Calls prog 170 #[.string s] w fun e w' =>e= .returned (.bool (aP s))/\Below w.heap.size w w' :=by
 obtain⟨q,hq⟩:=eX (aP s);rw [hq];have Hq:=zA hq;have hcv:=Lib.run_convert_string_bytes (P:=prog) w 9 65 5 s underlying9 underlying65 underlying5;have Hb:=zA (QX w 5 s);have hcell:=Lib.bytesWorld_cell w 5 s;obtain⟨W,hW⟩:=eX (Lib.bytesWorld w 5 s);obtain⟨cp,hcp⟩:=eX (grownCap w s.size 0 5);rw [hW,hcp]at hcv;rw [hW]at Hb hcell;have Hcell:=zA hcell;clear hq hW hcp hcell;go_enter func170,ntmps170
 go_wp2
 go_loopw [8] (fun i wr=>∃k:Nat,k<=s.size/\i= .int .i64 k/\(List.range k).all (fun i=>Un i (s.get! i).toNat)=true/\wr=W) (fun i _=>s.size - (intOf i).toNat)
 case atStart=>exact⟨0,by omega,rfl,rfl,rfl⟩
 case round=>
  obtain⟨k,hk,rfl,hall,rfl⟩:=hrel;have Hall:=zA hall;clear hall
  by_cases hlt:k<s.size
  ·have hcc:_=_:=Hcell.out k hlt;rw [JR s k hlt]at hcc;obtain⟨c,hc⟩:=eX ((s.get! k).toNat);rw [hc]at hcc;have Hc:=zA hc;clear hc;rcases F7 k c with⟨hok,hw⟩|⟨hok,hw⟩
   ·have Hst:=zA (show(List.range (k+1)).all (fun i=>Un i (s.get! i).toNat)=true by rw [X5,Hall.out,Hc.out];exact hok);clear hok;rcases hw with⟨c1,c2⟩|c1|⟨c0,c1,c2⟩
    ·have c3:(48:Int)<=(c:Int):=(by omega);have c4:(57:Int)<(c:Int):=(by omega);go_wp2
     go_roundw
     case rel=>exact⟨k+1,by omega,by go_num,Hst.out,by first|rfl|trivial⟩
     case measure=>simp [intOf];omega
    ·have c2:((c:Int)==95)=true:=(by simp;omega);have c5:((c:Int) !=95)=false:=(by simp;omega);have c3:¬(97:Int)<=(c:Int):=(by omega);have c4:(57:Int)<(c:Int):=(by omega);have c6:(48:Int)<=(c:Int):=(by omega);clear c1;go_wp2
     go_roundw
     case rel=>exact⟨k+1,by omega,by go_num,Hst.out,by first|rfl|trivial⟩
     case measure=>simp [intOf];omega
    ·have c3:¬(97:Int)<=(c:Int):=(by omega);have c4:((c:Int)==95)=false:=(by simp;omega);have c5:((c:Int) !=95)=true:=(by simp;omega);have c6:((k:Int)==0)=false:=(by simp;omega);go_wp2
     go_roundw
     case rel=>exact⟨k+1,by omega,by go_num,Hst.out,by first|rfl|trivial⟩
     case measure=>simp [intOf];omega
   ·obtain rfl:q=false:=by
     rw [<-Hq.out];unfold aP;rw [XL hlt (by simp only [Hc.out];exact hok)];rfl
    clear hok;rcases hw with c1|⟨c1,c2,rfl⟩|⟨c1,c2,c0⟩|c1
    ·have c8:¬(48:Int)<=(c:Int):=(by omega);have c3:¬(97:Int)<=(c:Int):=(by omega);have c4:((c:Int)==95)=false:=(by simp;omega);have c5:((c:Int) !=95)=true:=by simp;omega
     by_cases hk0:k=0
     ·subst hk0;go_wp2;go_ret
      exact⟨rfl,Hb.out⟩
     ·have k1:(0:Int)<(k:Int):=(by omega);have k2:((k:Int)==0)=false:=(by simp;omega);go_wp2;go_ret
      exact⟨rfl,Hb.out⟩
    ·have c3:¬(97:Int)<=(c:Int):=(by omega);have c4:((c:Int)==95)=false:=(by simp;omega);have c5:((c:Int) !=95)=true:=(by simp;omega);go_wp2;go_ret
     exact⟨rfl,Hb.out⟩
    ·have c4:((c:Int)==95)=false:=(by simpa using c0);have c5:((c:Int) !=95)=true:=(by simpa using c0);have c6:(48:Int)<=(c:Int):=(by omega);have c7:¬(c:Int)<=57:=(by omega);have c3:¬(97:Int)<=(c:Int):=(by omega);clear c0
     by_cases hk0:k=0
     ·subst hk0;go_wp2;go_ret
      exact⟨rfl,Hb.out⟩
     ·have k1:(0:Int)<(k:Int):=(by omega);have k2:((k:Int)==0)=false:=(by simp;omega);go_wp2;go_ret
      exact⟨rfl,Hb.out⟩
    ·have c3:(97:Int)<=(c:Int):=(by omega);have c4:((c:Int)==95)=false:=(by simp;omega);have c5:((c:Int) !=95)=true:=(by simp;omega);have c6:(48:Int)<=(c:Int):=(by omega);have c7:¬(c:Int)<=57:=(by omega);have c8:¬(c:Int)<=122:=by omega
     by_cases hk0:k=0
     ·subst hk0;go_wp2;go_ret
      exact⟨rfl,Hb.out⟩
     ·have k1:(0:Int)<(k:Int):=(by omega);have k2:((k:Int)==0)=false:=(by simp;omega);go_wp2;go_ret
      exact⟨rfl,Hb.out⟩
  ·obtain rfl:k=s.size:=by omega
   have hq:decide (1<=s.size/\s.size<=24)=q:=by rw [<-Hq.out];unfold aP;rw [Hall.out];rfl
   by_cases e1:(1:Int)<=(s.size:Int)
   ·have e3:(0:Int)<(s.size:Int):=by omega
    by_cases e2:(s.size:Int)<=24
    ·obtain rfl:q=true:=by rw [<-hq];simp;omega
     clear hq;go_wp2;go_ret
     exact⟨yl (by simp<;>omega),Hb.out⟩
    ·obtain rfl:q=false:=by rw [<-hq];simp;omega
     have e4:(24:Int)<(s.size:Int):=(by omega);clear hq;go_wp2;go_ret
     exact⟨yl (by simp<;>omega),Hb.out⟩
   ·obtain rfl:q=false:=by rw [<-hq];simp;omega
    have e3:(s.size:Int)<1:=(by omega);have e5:(s.size:Int)<=0:=(by omega);clear hq;go_wp2;go_ret
    exact⟨yl (by simp<;>omega),Hb.out⟩
def xD (nm:Bool) (kd:Int) (n2:Nat) (sc dm:Int) (ch:Bool):Bool:=
 nm && (decide (kd=1)||decide (n2=0)) && (decide (kd=4)||decide (sc=0)) && (decide (kd=5)||decide (dm=0)) &&
 (if kd=1 then ch else if kd=2\/kd=3 then true else if kd=4 then decide (0<=sc/\sc<=9)else if kd=5 then decide (1<=dm/\dm<=4)else false)
def Xq (f:Field):Bool:=xD (aP f.name) f.kind f.chain.length f.scale f.dims (ZI f.chain)
theorem LH (f:Field) (A2:aA) (n2 c2:Nat) (w:O) (hT:Tabs w) (hch:zL w (·<w.heap.size) A2 n2 c2 f.chain) (hnm:f.name.size<=9223372036854775807):
 Calls prog 92 #[.agg #[.string f.name,.int .i64 f.kind,.slice A2 n2 c2,.int .i64 f.scale,.int .i64 f.dims,.bool f.many,.bool f.stored]] w fun e w' =>e= .returned (.bool (Xq f))/\Below w.heap.size w w' :=by
 have hcl:=hch.length;have hcc:=hch.cap;obtain⟨nm,kd,chain,sc,dm,mn,st⟩:=f;simp only at hch hnm hcl⊢;have hb0:Below w.heap.size w (w.alloc (.cells #[.string nm,.int .i64 kd,.slice A2 n2 c2,.int .i64 sc,.int .i64 dm,.bool mn,.bool st] 61)):=(zE _ _).alloc (zC _) _;have HN:=zA (I6 nm hnm (w.alloc (.cells #[.string nm,.int .i64 kd,.slice A2 n2 c2,.int .i64 sc,.int .i64 dm,.bool mn,.bool st] 61)))
 have hblk:=Blk.new w 61 #[.string nm,.int .i64 kd,.slice A2 n2 c2,.int .i64 sc,.int .i64 dm,.bool mn,.bool st];have Hch:=zA hch;have HT:=zA hT;obtain⟨q,hq⟩:=eX (Xq ⟨nm,kd,chain,sc,dm,mn,st⟩);rw [hq];have hq:xD (aP nm) kd n2 sc dm (ZI chain)=q:=by rw [<-hq,<-hcl];rfl
 obtain⟨b,hb⟩:=eX (aP nm);obtain⟨ch,hcb⟩:=eX (ZI chain);rw [hb]at hq HN;rw [hcb]at hq;have Hcb:=zA hcb;have H0:=zA hb0;have Hbk:=zA hblk;clear hch hT hb hcb hb0 hblk hcl;have Hq:=zA hq;clear hq;go_enter func92,ntmps92;go_wp2_with fail;refine HN.out.mono ?_;rintro e w1 ⟨rfl,hb1⟩;have hblk1:Blk w1 w.heap.size _ _:=(hb1.block w.heap.size (by simp)).trans Hbk.out;have f0:=hblk1.cell 0
 have f1:=hblk1.cell 1;have f2:=hblk1.cell 2;have f3:=hblk1.cell 3;have f4:=hblk1.cell 4;simp only [yF,zf,zj]at f0 f1 f2 f3 f4;have Hb1:=zA (H0.out.trans (hb1.mono (by simp)));clear hblk1 hb1;have hq:=Hq.out;clear Hq;cases b with
 |false=>
  obtain rfl:q=false:=by rw [<-hq];rfl
  clear hq;go_wp2;go_ret
  exact⟨rfl,Hb1.out⟩
 |true=>
  by_cases k1:kd=1
  ·subst k1
   by_cases zsc:sc=0
   ·subst zsc
    by_cases zdm:dm=0
    ·subst zdm;obtain rfl:q=ch:=by rw [<-hq];simp [xD]
     clear hq;go_wp2_with fail;refine(V3 A2 n2 c2 chain w1 (HT.out.on Hb1.out) (Hch.out.on Hb1.out)).mono ?_;rw [Hcb.out];rintro e w2 ⟨rfl,hb2⟩;have Hb2:=zA hb2;clear hb2;cases q with
     |true=>
      rw [show aS true=0 from rfl];go_wp2;go_ret
      exact⟨rfl,Hb1.out.trans (Hb2.out.mono Hb1.out.size)⟩
     |false=>
      rw [show aS false=60 from rfl];go_wp2;go_ret
      exact⟨rfl,Hb1.out.trans (Hb2.out.mono Hb1.out.size)⟩
    ·have zdm1:(dm==0)=false:=(by simpa using zdm);have zdm2:(dm !=0)=true:=(by simpa using zdm);obtain rfl:q=false:=by rw [<-hq];simp [xD,zdm]<;>omega
     clear hq zdm;go_wp2;go_ret
     exact⟨rfl,Hb1.out⟩
   ·have zsc1:(sc==0)=false:=(by simpa using zsc);have zsc2:(sc !=0)=true:=(by simpa using zsc);obtain rfl:q=false:=by rw [<-hq];simp [xD,zsc]<;>omega
    clear hq zsc;go_wp2;go_ret
    exact⟨rfl,Hb1.out⟩
  ·by_cases k2:kd=2
   ·subst k2
    by_cases zc:n2=0
    ·subst zc
     by_cases zsc:sc=0
     ·subst zsc
      by_cases zdm:dm=0
      ·subst zdm;obtain rfl:q=true:=by rw [<-hq];simp [xD]
       clear hq;go_wp2;go_ret
       exact⟨rfl,Hb1.out⟩
      ·have zdm1:(dm==0)=false:=(by simpa using zdm);have zdm2:(dm !=0)=true:=(by simpa using zdm);obtain rfl:q=false:=by rw [<-hq];simp [xD,zdm]<;>omega
       clear hq zdm;go_wp2;go_ret
       exact⟨rfl,Hb1.out⟩
     ·have zsc1:(sc==0)=false:=(by simpa using zsc);have zsc2:(sc !=0)=true:=(by simpa using zsc);obtain rfl:q=false:=by rw [<-hq];simp [xD,zsc]<;>omega
      clear hq zsc;go_wp2;go_ret
      exact⟨rfl,Hb1.out⟩
    ·have zc2:(0:Int)<(n2:Int):=(by omega);have zc3:0<n2:=(by omega);obtain rfl:q=false:=by rw [<-hq];simp [xD,zc]<;>omega
     clear hq zc;go_wp2;go_ret
     exact⟨rfl,Hb1.out⟩
   ·by_cases k3:kd=3
    ·subst k3
     by_cases zc:n2=0
     ·subst zc
      by_cases zsc:sc=0
      ·subst zsc
       by_cases zdm:dm=0
       ·subst zdm;obtain rfl:q=true:=by rw [<-hq];simp [xD]
        clear hq;go_wp2;go_ret
        exact⟨rfl,Hb1.out⟩
       ·have zdm1:(dm==0)=false:=(by simpa using zdm);have zdm2:(dm !=0)=true:=(by simpa using zdm);obtain rfl:q=false:=by rw [<-hq];simp [xD,zdm]<;>omega
        clear hq zdm;go_wp2;go_ret
        exact⟨rfl,Hb1.out⟩
      ·have zsc1:(sc==0)=false:=(by simpa using zsc);have zsc2:(sc !=0)=true:=(by simpa using zsc);obtain rfl:q=false:=by rw [<-hq];simp [xD,zsc]<;>omega
       clear hq zsc;go_wp2;go_ret
       exact⟨rfl,Hb1.out⟩
     ·have zc2:(0:Int)<(n2:Int):=(by omega);have zc3:0<n2:=(by omega);obtain rfl:q=false:=by rw [<-hq];simp [xD,zc]<;>omega
      clear hq zc;go_wp2;go_ret
      exact⟨rfl,Hb1.out⟩
    ·by_cases k4:kd=4
     ·subst k4
      by_cases zc:n2=0
      ·subst zc
       by_cases zdm:dm=0
       ·subst zdm
        by_cases r1:(0:Int)<=sc
        ·by_cases r2:sc<=(9:Int)
         ·obtain rfl:q=true:=by rw [<-hq];simp [xD,r1,r2]
          clear hq;go_wp2;go_ret
          exact⟨yl (by simp<;>omega),Hb1.out⟩
         ·obtain rfl:q=false:=by rw [<-hq];simp [xD,r1,r2]<;>omega
          clear hq;go_wp2;go_ret
          exact⟨yl (by simp<;>omega),Hb1.out⟩
        ·obtain rfl:q=false:=by rw [<-hq];simp [xD,r1]<;>omega
         clear hq;go_wp2;go_ret
         exact⟨yl (by simp<;>omega),Hb1.out⟩
       ·have zdm1:(dm==0)=false:=(by simpa using zdm);have zdm2:(dm !=0)=true:=(by simpa using zdm);obtain rfl:q=false:=by rw [<-hq];simp [xD,zdm]<;>omega
        clear hq zdm;go_wp2;go_ret
        exact⟨rfl,Hb1.out⟩
      ·have zc2:(0:Int)<(n2:Int):=(by omega);have zc3:0<n2:=(by omega);obtain rfl:q=false:=by rw [<-hq];simp [xD,zc]<;>omega
       clear hq zc;go_wp2;go_ret
       exact⟨rfl,Hb1.out⟩
     ·by_cases k5:kd=5
      ·subst k5
       by_cases zc:n2=0
       ·subst zc
        by_cases zsc:sc=0
        ·subst zsc
         by_cases r1:(1:Int)<=dm
         ·by_cases r2:dm<=(4:Int)
          ·obtain rfl:q=true:=by rw [<-hq];simp [xD,r1,r2]
           clear hq;go_wp2;go_ret
           exact⟨yl (by simp<;>omega),Hb1.out⟩
          ·obtain rfl:q=false:=by rw [<-hq];simp [xD,r1,r2]<;>omega
           clear hq;go_wp2;go_ret
           exact⟨yl (by simp<;>omega),Hb1.out⟩
         ·obtain rfl:q=false:=by rw [<-hq];simp [xD,r1]<;>omega
          clear hq;go_wp2;go_ret
          exact⟨yl (by simp<;>omega),Hb1.out⟩
        ·have zsc1:(sc==0)=false:=(by simpa using zsc);have zsc2:(sc !=0)=true:=(by simpa using zsc);obtain rfl:q=false:=by rw [<-hq];simp [xD,zsc]<;>omega
         clear hq zsc;go_wp2;go_ret
         exact⟨rfl,Hb1.out⟩
       ·have zc2:(0:Int)<(n2:Int):=(by omega);have zc3:0<n2:=(by omega);obtain rfl:q=false:=by rw [<-hq];simp [xD,zc]<;>omega
        clear hq zc;go_wp2;go_ret
        exact⟨rfl,Hb1.out⟩
      ·have e1:(kd==1)=false:=(by simpa using k1);have g1:(kd !=1)=true:=(by simpa using k1);have e2:(kd==2)=false:=(by simpa using k2);have g2:(kd !=2)=true:=(by simpa using k2);have e3:(kd==3)=false:=(by simpa using k3);have g3:(kd !=3)=true:=(by simpa using k3);have e4:(kd==4)=false:=(by simpa using k4);have g4:(kd !=4)=true:=(by simpa using k4);have e5:(kd==5)=false:=(by simpa using k5)
       have g5:(kd !=5)=true:=by simpa using k5
       by_cases zc:n2=0
       ·subst zc
        by_cases zsc:sc=0
        ·subst zsc
         by_cases zdm:dm=0
         ·subst zdm;obtain rfl:q=false:=by rw [<-hq];simp [xD,k1,k2,k3,k4,k5]
          clear hq k1 k2 k3 k4 k5;go_wp2;go_ret
          exact⟨rfl,Hb1.out⟩
         ·have zdm1:(dm==0)=false:=(by simpa using zdm);have zdm2:(dm !=0)=true:=(by simpa using zdm);obtain rfl:q=false:=by rw [<-hq];simp [xD,k1,k2,k3,k4,k5]
          clear hq k1 k2 k3 k4 k5 zdm;go_wp2;go_ret
          exact⟨rfl,Hb1.out⟩
        ·have zsc1:(sc==0)=false:=(by simpa using zsc);have zsc2:(sc !=0)=true:=(by simpa using zsc);obtain rfl:q=false:=by rw [<-hq];simp [xD,k1,k2,k3,k4,k5]
         clear hq k1 k2 k3 k4 k5 zsc;go_wp2;go_ret
         exact⟨rfl,Hb1.out⟩
       ·have zc2:(0:Int)<(n2:Int):=(by omega);have zc3:0<n2:=(by omega);obtain rfl:q=false:=by rw [<-hq];simp [xD,k1,k2,k3,k4,k5]
        clear hq k1 k2 k3 k4 k5 zc;go_wp2;go_ret
        exact⟨rfl,Hb1.out⟩
def YH (fs:List Field) (i:Nat):Bool:=match fs[i]? with|some f=>decide (Zx fs f.name=some i) && Xq f|none=>true
def xC (fs:List Field):Bool:=decide (1<=fs.length/\fs.length<=16) && (List.range fs.length).all (YH fs)
def OV (b:Bool):Int:=if b then 0 else 80
theorem FE {fs:List Field} {i:Nat} {f:Field} (h:fs[i]? =some f):∃k,Zx fs f.name=some k/\k<=i:=by
 rcases hq:Zx fs f.name with _|k
 ·unfold Zx at hq;rw [List.findIdx?_eq_none_iff]at hq;have:=hq f (zD h);simp at this
 ·refine⟨k,rfl,?_⟩;unfold Zx at hq;rw [List.findIdx?_eq_some_iff_getElem]at hq;obtain⟨h1,h2,h3⟩:=hq;rcases zk i k with hlt|hge
  ·have:=h3 i hlt;rw [zB (zN h)]at h;rw [yG h]at this;simp at this
  ·exact hge
theorem XJ (A:aA) (n c:Nat) (fs:List Field) (w:O) (hT:Tabs w) (hs:zL w (·<w.heap.size) A n c fs):
 Calls prog 38 #[.agg #[.slice A n c]] w fun e w' =>e= .returned (.int .i64 (OV (xC fs)))/\Below w.heap.size w w' :=by
 have hcap:=hs.cap;have hl:=hs.length;obtain⟨q,hq⟩:=eX (OV (xC fs));rw [hq]
 by_cases h0:n=0
 ·subst h0;obtain rfl:q=80:=by rw [<-hq];unfold xC;rw [hl];rfl
  clear hs hT hq hl;go_enter func38,ntmps38;go_wp2;go_ret
  exact⟨rfl,(zE _ _).alloc (zC _) _⟩
 by_cases h16:(16:Int)<n
 ·obtain rfl:q=80:=by rw [<-hq];unfold xC;rw [decide_eq_false (by omega)];rfl
  have h1:¬(n:Int)<1:=(by omega);clear hs hT hq hl;go_enter func38,ntmps38;go_wp2;go_ret
  exact⟨rfl,(zE _ _).alloc (zC _) _⟩
 have h1:¬(n:Int)<1:=by omega
 have hq2:OV ((List.range n).all (YH fs))=q:=by rw [<-hq];unfold xC;rw [decide_eq_true (by omega),hl];rfl
 have Hq:=zA hq2;have Hs:=zA hs;have HT:=zA hT;have Hl:=zA hl;have bad:∀i,i<n->YH fs i=false->q=80:=fun i hi h=>by rw [<-hq2,XL hi h];rfl
 have Bad:=zA bad;have hb0:Below w.heap.size w (w.alloc (.cells #[.slice A n c] 24)):=(zE _ _).alloc (zC _) _;have H0:=zA hb0;have hbox:(w.alloc (.cells #[.slice A n c] 24)).cell? ⟨w.heap.size,0,none⟩=some (.slice A n c):=by simp
 obtain⟨W0,hW0⟩:=eX (w.alloc (.cells #[.slice A n c] 24));have hz0:W0.heap.size=w.heap.size+1:=by rw [<-hW0];simp
 have HW0:=zA hW0;rw [hW0]at H0 hbox;have Hbox:=zA hbox;clear hs hT hq hq2 bad hb0 hbox hl hW0;go_enter func38,ntmps38;go_wp2;rw [HW0.out]
 go_loopw [20] (fun i wr=>∃j:Nat,j<=n/\i= .int .i64 j/\(List.range j).all (YH fs)=true/\Below W0.heap.size W0 wr) (fun i _=>n - (intOf i).toNat)
 case atStart=>exact⟨0,by omega,rfl,rfl,zE _ _⟩
 case round=>
  obtain⟨i,hi,rfl,hall,hbw⟩:=hrel;have Hall:=zA hall;have Hbw:=zA hbw;have HwB:Hid (Below w.heap.size w wr):=H0.out.trans (hbw.mono (by omega));have hsw:=hbw.size;clear hall hbw
  by_cases hlt:i<n
  ·obtain⟨b,off,f,rfl,hf,hbk,he⟩:=(Hs.out.on HwB.out).at_ hlt
   obtain⟨A2,n2,c2,e0,e1,e2,e3,e4,e5,e6,p2,p1,p3,p4,p0⟩:=Field.at_ he
   obtain⟨k,hk,hki⟩:=FE hf.out;have hbx:=(Hbw.out.cell (p:=⟨w.heap.size,0,none⟩) (by show w.heap.size<_;omega)).trans Hbox.out;have hb1:Below wr.heap.size wr (wr.alloc (.cells #[.string f.name,.int .i64 f.kind,.slice A2 n2 c2,.int .i64 f.scale,.int .i64 f.dims,.bool f.many,.bool f.stored] 61)):=(zE _ _).alloc (zC _) _
   have hfd:=Ug (some ⟨b,off,none⟩) n c fs f.name (wr.alloc (.cells #[.string f.name,.int .i64 f.kind,.slice A2 n2 c2,.int .i64 f.scale,.int .i64 f.dims,.bool f.many,.bool f.stored] 61)) ((Hs.out.on HwB.out).on hb1) k hk;have Hfd:=zA hfd;have hbl:=Blk.new wr 61 #[.string f.name,.int .i64 f.kind,.slice A2 n2 c2,.int .i64 f.scale,.int .i64 f.dims,.bool f.many,.bool f.stored];have Hbl:=zA hbl
   have P2:=zA p2;have P0:=zA p0;have Hf:=zA hf.out;have Hk:=zA hk;have HbA:=zA hb1;have hbn:b<wr.heap.size:=hbk;have hwn:w.heap.size<wr.heap.size:=(by omega);clear hf he hk hfd hbl hb1 p2 p0 p1 p3 p4;go_wp2_with fail;refine Hfd.out.mono ?_;rintro e w2 ⟨rfl,hb2⟩;have hblk1:Blk w2 wr.heap.size _ _:=(hb2.block wr.heap.size (by simp)).trans Hbl.out;have f0:=hblk1.cell 0;have f1:=hblk1.cell 1
   have f2:=hblk1.cell 2;have f3:=hblk1.cell 3;have f4:=hblk1.cell 4;have f5:=hblk1.cell 5;have f6:=hblk1.cell 6;simp only [yF,zf,zj]at f0 f1 f2 f3 f4 f5 f6;have hbx2:Below wr.heap.size wr w2:=HbA.out.trans (hb2.mono (by simp));have Hb2:Hid (Below wr.heap.size wr w2):=hbx2;clear hblk1 hb2 e0 e1 e2 e3 e4 e5 e6 hbx hbx2;have HB2:Hid (Below W0.heap.size W0 w2):=Hbw.out.trans (Hb2.out.mono hsw)
   have HwB2:Hid (Below w.heap.size w w2):=H0.out.trans (HB2.out.mono (by omega))
   by_cases hik:k=i
   ·subst hik;have hkk:((k:Int) !=(k:Int))=false:=(by simp);have hfa:YH fs k=Xq f:=(by unfold YH;rw [Hf.out];simp [Hk.out]);have hmy:=LH f A2 n2 c2 w2 (HT.out.on HwB2.out) (P2.out.on Hb2.out) P0.out;obtain⟨r,hr⟩:=eX (Xq f);rw [hr]at hfa hmy;have Hmy:=zA hmy;have Hfa:=zA hfa;clear hfa hmy hr;go_wp2_with fail;refine Hmy.out.mono ?_;rintro e w3 ⟨rfl,hb3⟩
    have HB3:Hid (Below W0.heap.size W0 w3):=HB2.out.trans (hb3.mono HB2.out.size);clear hb3;cases r with
    |true=>
     have hst:(List.range (k+1)).all (YH fs)=true:=(by rw [X5,Hall.out,Hfa.out];rfl);have Hst:=zA hst;clear hst;go_wp2
     go_roundw
     case rel=>exact⟨k+1,by omega,by go_num,Hst.out,HB3.out⟩
     case measure=>simp [intOf];omega
    |false=>
     obtain rfl:=Bad.out k hlt Hfa.out;go_wp2;go_ret
     exact⟨rfl,H0.out.trans (HB3.out.mono (by omega))⟩
   ·have hfa:YH fs i=false:=(by unfold YH;rw [Hf.out];simp [Hk.out,hik]);obtain rfl:=Bad.out i hlt hfa;have hkk:((k:Int) !=(i:Int))=true:=(by simp;omega);clear hfa hik;go_wp2;go_ret
    exact⟨rfl,HwB2.out⟩
  ·obtain rfl:i=n:=by omega
   obtain rfl:q=0:=by rw [<-Hq.out,Hall.out];rfl
   go_wp2;go_ret
   exact⟨rfl,HwB.out⟩
def unlI (b:Bool) (e:Int):Int:=if b then 0 else e
theorem Q3 (b:Bool) (er:Int) (w:O):Calls prog 41 #[.bool b,.int .i64 er] w fun e w' =>e= .returned (.int .i64 (unlI b er))/\w=w' :=by
 cases b
 all_goals
  go_enter func41,ntmps41;go_wp2;go_ret
  exact⟨rfl,rfl⟩
def Vz (f:Field) (text:aB) (n:Nat):Bool:=
 if f.kind=3 then text.toList.isEmpty && decide (n=1)else if f.kind=5 then text.toList.isEmpty && decide ((n:Int)=f.dims)else decide (n=0)
theorem C7 (f:Field) (text:aB) (A2 A:aA) (n2 c2 n c:Nat) (w:O):
 Calls prog 43 #[.agg #[.string f.name,.int .i64 f.kind,.slice A2 n2 c2,.int .i64 f.scale,.int .i64 f.dims,.bool f.many,.bool f.stored],.string text,.slice A n c] w fun e w' =>e= .returned (.bool (Vz f text n))/\Below w.heap.size w w' :=by
 obtain⟨kd,hkd⟩:=eX (f.kind);obtain⟨q,hq⟩:=eX (Vz f text n);have Hq:=zA hq;have Hk:=zA hkd;rw [hq,hkd];clear hq hkd;have fin:∀b:Bool,(b=true↔q=true)->Ending.returned (.bool b)= .returned (.bool q):=fun b h=>yl (Bool.eq_iff_iff.2 h);have Fin:=zA fin;clear fin;obtain⟨te,hte⟩:=eX (text.toList.isEmpty)
 have hc:(kd=3/\te=true)\/(kd=3/\te=false)\/(kd≠3/\kd=5/\te=true)\/(kd≠3/\kd=5/\te=false)\/(kd≠3/\kd≠5):=by
  cases te<;>simp only [and_true,and_false,or_false,false_or,reduceCtorEq]<;>omega
 rcases hc with⟨rfl,rfl⟩|⟨rfl,rfl⟩|⟨h3,rfl,rfl⟩|⟨h3,rfl,rfl⟩|⟨h3,h5⟩
 all_goals
  go_enter func43,ntmps43;go_wp2;go_ret
  refine⟨Fin.out _ ?_,(zE _ _).alloc (zC _) _⟩;rw [<-Hq.out];simp [Vz,Hk.out, *]
  try omega
def lk (o:Option (List Token)) (n:Int):Option (List Token):=o.bind fun l=>if (Zv n l).length<=4096 then some (Zv n l)else none
def lks (t:aD) (toks:List Token):Option (List Token):=t.foldl lk (some toks)
def runT (xs:aD) (s:aB):List Token:=
 match xs with
 | []=> []
 |a::t=>if ZI (a::t)=true/\s.size<=4096/\(xJ a s).length<=4096 then(lks t (xJ a s)).getD []else []
theorem JE (t:aD):t.foldl lk none=none:=by
 induction t with
 |nil=>rfl
 |cons a t ih=>exact ih
theorem JD {t:aD} {toks:List Token} {j:Nat} {y:Int} (h:t[j]? =some y):lks (t.take (j+1)) toks=lk (lks (t.take j) toks) y:=by
 unfold lks;rw [zI,h,Option.toList_some,xE];rfl
theorem nH {t:aD} {toks:List Token} {j:Nat} (h:lks (t.take j) toks=none):lks t toks=none:=by
 have:lks t toks=(t.drop j).foldl lk (lks (t.take j) toks):=by unfold lks;rw [<-xE,zu]
 rw [this,h,JE]
theorem QE (s:aB) (a b:Nat):(s.extract a b).size<=s.size:=by rw [yQ];omega
theorem wV (n:Int) (t:Token):∀t' ∈OL n t,t'.text.size<=4*t.text.size:=by
 intro t' ht;unfold OL at ht
 have hg:∀k,t' ∈Yg k t->t'.text.size<=t.text.size:=by
  intro k hk;unfold Yg at hk
  split at hk
  ·simp at hk;subst hk;exact zC _
  ·have:∀j,t' ∈Zp t (yg t.text) k j->t'.text.size<=t.text.size:=by
    intro j
    induction j with
    |zero=>intro h;cases h
    |succ j ih=>
     intro h;simp only [Zp,List.mem_append,List.mem_singleton]at h;rcases h with h|rfl
     ·exact ih h
     ·exact QE _ _ _
   exact this _ hk
 split at ht
 ·simp at ht;subst ht;show(VI t.text).size<=_;have h1:=eC t.text (ats t.text);have h2:=Qn t.text;have:(VI t.text).size=(bK t.text).length:=(by simp [VI,ByteArray.size]);rw [this];unfold bK;omega
 split at ht
 ·unfold We at ht
  split at ht
  ·cases ht
  ·simp at ht;subst ht;omega
 split at ht
 ·have:=hg 2 ht;omega
 split at ht
 ·have:=hg 3 ht;omega
 split at ht
 ·simp at ht;subst ht
  have:(Q8 t).text.size<=t.text.size:=by
   unfold Q8
   split
   ·exact QE _ _ _
   ·exact zC _
  omega
 split at ht
 ·unfold Qf at ht
  split at ht
  ·cases ht
  ·simp at ht;subst ht;have h1:=WO t.text ((yg t.text).length - 1) t.text.size (by simp [yg]);have:(ByteArray.mk (WP t.text).toArray).size=(WP t.text).length:=(by simp [ByteArray.size]);show(ByteArray.mk (WP t.text).toArray).size<=_;rw [this];unfold WP;omega
 ·cases ht
def QY (m:Nat) (l:List Token):Prop:=∀t∈l,t.text.size<=m
theorem gY {n:Int} {l:List Token} {m:Nat} (h:QY m l):QY (4*m) (Zv n l):=by
 intro t ht;unfold Zv at ht;obtain⟨u,hu,ht⟩:=List.mem_flatMap.1 ht;have:=wV n u t ht;have:=h u hu;omega
theorem VC (n:Int) (s:aB):QY s.size (xJ n s):=by
 have hr:∀p b,QY s.size (Xm s p b):=fun p b t ht=>(jB s p b t ht).size.1;unfold xJ
 split
 ·exact hr _ _
 split
 ·exact hr _ _
 split
 ·exact hr _ _
 ·unfold WU
  have hp:∀(t:Token) p n out,t.text.size<=s.size->QY s.size out->∀i,QY s.size (ZX t p n out i):=by
   intro t p n out h1 h2 i
   induction i with
   |zero=>exact h2
   |succ i ih=>
    intro u hu;simp only [ZX,List.mem_append,List.mem_singleton]at hu;rcases hu with hu|rfl
    ·exact ih u hu
    ·exact zY (QE _ _ _) h1
  have:∀(l:List Token) out,QY s.size l->QY s.size out->QY s.size (l.foldl Zg out):=by
   intro l
   induction l with
   |nil=>intro out _ h;exact h
   |cons a l ih=>
    intro out h1 h2;exact ih _ (fun t ht=>h1 t (List.mem_cons_of_mem _ ht)) (hp a _ _ _ (h1 a List.mem_cons_self) h2 _)
  exact this _ _ (hr _ _) (fun t ht=>by cases ht)
theorem s9 {a:Int} {t:aD} (h:ZI (a::t)=true) {j:Nat} {y:Int} (hy:t[j]? =some y):Yx y=true:=by
 simp only [ZI,zM,List.all_eq_true,List.mem_range]at h;have:=h.2 j (zN hy);simp only [Xy,hy,zM]at this;exact this.1
theorem l6 {a:Int} {t:aD} (h:ZI (a::t)=true):t.length<=7:=by
 simp only [ZI,zM,decide_eq_true_eq]at h;omega
theorem kV {xs:aD} {s:aB} (h:¬s.size<=4096):runT xs s= []:=by
 cases xs with
 |nil=>rfl
 |cons a t=>exact if_neg (fun hh=>h hh.2.1)
theorem mO {xs:aD} {s:aB} (h:ZI xs=false):runT xs s= []:=by
 cases xs with
 |nil=>rfl
 |cons a t=>exact if_neg (fun hh=>by rw [h]at hh;cases hh.1)
theorem oR {a:Int} {t:aD} {s:aB} {toks:List Token} (h:ZI (a::t)=true) (hs:s.size<=4096) (ht:xJ a s=toks):runT (a::t) s=if toks.length<=4096 then(lks t toks).getD []else []:=by
 subst ht;unfold runT
 by_cases hh:(xJ a s).length<=4096
 ·rw [if_pos hh];exact if_pos ⟨h,hs,hh⟩
 ·rw [if_neg hh];exact if_neg (fun k=>hh k.2.2)
def X3 (xs:aD) (s:aB):Bool:=
 match xs with
 | []=>false
 |a::t=>ZI (a::t) && decide (s.size<=4096) && decide ((xJ a s).length<=4096) && (lks t (xJ a s)).isSome
theorem uE {xs:aD} {s:aB} (h:ZI xs=false):X3 xs s=false:=by cases xs<;>simp_all [X3]
theorem jD {xs:aD} {s:aB} (h:¬s.size<=4096):X3 xs s=false:=by cases xs<;>simp [X3,h]
theorem jC {a:Int} {t:aD} {s:aB} {toks:List Token} (ht:xJ a s=toks) (h:¬toks.length<=4096):X3 (a::t) s=false:=by subst ht;simp [X3,h]
theorem wH {a:Int} {t:aD} {s:aB} {toks:List Token} (ht:xJ a s=toks) (h:lks t toks=none):X3 (a::t) s=false:=by subst ht;simp [X3,h]
theorem mP {a:Int} {t:aD} {s:aB} {toks cur:List Token} (hc:ZI (a::t)=true) (hs:s.size<=4096) (ht:xJ a s=toks) (h:toks.length<=4096) (hl:lks t toks=some cur):X3 (a::t) s=true:=by subst ht;simp [X3,hc,hs,h,hl]
theorem bX {er:Int} {b:Bool} (hb:b=false) (h:er≠0):er=0↔b=true:=by subst hb;simp [h]
theorem qN {b:Bool} (hb:b=true):(0:Int)=0↔b=true:=by simp [hb]
theorem mQ (A:aA) (n c:Nat) (xs:aD) (s:aB) (w:O) (hT:Tabs w) (hr:zL w (·<w.heap.size) A n c xs):
 Calls prog 47 #[.slice A n c,.string s] w fun e w' =>∃v er,e= .returned (.tuple #[v,.int .i64 er])/\(er=0↔X3 xs s=true)/\Own Flat w' w.heap.size 48 v (runT xs s)/\Below w.heap.size w w' :=by
 have hcap:=hr.cap;have hl:=hr.length;have HT:=zA hT;have Hr:=zA hr;clear hr hT;obtain⟨q,hq⟩:=eX (runT xs s);rw [hq]
 by_cases hch:ZI xs=true
 ·rcases xs with _|⟨x0,t⟩
  ·cases hch
  have h7:=l6 hch;have hn1:n=t.length+1:=(by simpa using hl.symm);obtain⟨b,off,x,rfl,hx,hb,he⟩:=Hr.out.at_ (k:=0) (by omega)
  obtain rfl:x0=x:=by simpa using hx.out
  have hc0:∀W,Below w.heap.size w W->W.cell? ⟨b,off,none⟩=some (.int .i64 x0):=fun W hW=>(hW.cell (p:=⟨b,off,none⟩) hb).trans (by simpa using he.int.1);have Hc0:=zA hc0;have hck:=V3 (some ⟨b,off,none⟩) n c (x0::t) w HT.out Hr.out;rw [hch,show aS true=0 from rfl]at hck;have Hck:=zA hck;clear hck;have Hch:=zA hch;have Hq:=zA hq;clear hx he hch hq hl hc0
  by_cases hs:(4096:Int)<s.size
  ·obtain rfl:q= []:=Hq.out.symm.trans (kV (by omega));have hno:=zA (jD (xs:=x0::t) (s:=s) (by omega));clear hn1;go_enter func47,ntmps47;go_wp2_with fail;refine Hck.out.mono ?_;rintro e w1 ⟨rfl,hb1⟩;have Hb1:=zA hb1;clear hb1;go_wp2;go_ret2;exact⟨_,_,rfl,bX hno.out (by decide),Own.nil _ _ _ _,Hb1.out⟩
  ·have hs2:s.size<=4096:=(by omega);have hs3:(s.size:Int)<=4096:=(by omega);have hpos:0<n:=(by omega);obtain⟨toks,htk⟩:=eX (xJ x0 s);have hsm:QY 4096 toks:=by rw [<-htk];exact fun t ht=>zY (VC x0 s t ht) hs2
   have hfin:(if toks.length<=4096 then(lks t toks).getD []else [])=q:=(oR Hch.out hs2 htk).symm.trans Hq.out;have Hsm:=zA hsm;have Hfin:=zA hfin;have Htk:=zA htk;have Hn1:=zA hn1;clear hsm hfin htk hs hn1 Hq
   by_cases hc1:c=1
   ·obtain rfl:n=1:=by omega
    subst hc1;go_enter func47,ntmps47;go_wp2_with fail;refine Hck.out.mono ?_;rintro e w1 ⟨rfl,hb1⟩;have hc01:=Hc0.out w1 hb1;have Hb1:=zA hb1;clear hb1;go_wp2_with fail;refine(iR x0 s hs2 w1 (HT.out.on Hb1.out)).mono ?_;rw [Htk.out];rintro e w2 ⟨v,rfl,o2,hb2⟩;obtain⟨A2,c2,rfl⟩:=o2.form;have hs1:=Hb1.out.size;have Hb2:Hid (Below w.heap.size w w2):=Hb1.out.trans (hb2.mono hs1)
    have Ho2:Hid (Own Flat w2 w.heap.size 48 (.slice A2 toks.length c2) toks):=o2.mono hs1;clear o2 hb2 hs1
    by_cases hmany:(4096:Int)<toks.length
    ·obtain rfl:q= []:=by rw [<-Hfin.out,if_neg (by omega)]
     have hno:=zA (jC (t:=t) Htk.out (by omega));go_wp2;go_ret2;exact⟨_,_,rfl,bX hno.out (by decide),Own.nil _ _ _ _,Hb2.out⟩
    ·have hfew:(toks.length:Int)<=4096:=(by omega);have hfin:(lks t toks).getD []=q:=(by rw [<-Hfin.out,if_pos (by omega)]);have Hfin:=zA hfin;clear hfin hmany hc01;go_wp2
     go_loopw [7,31] (fun v i wr=>v= .slice A2 toks.length c2/\i= .int .i64 0/\wr=w2) (fun _ _ _=>0)
     case atStart=>exact⟨rfl,rfl,rfl⟩
     case round=>
      obtain⟨rfl,rfl,rfl⟩:=hrel;go_wp2;go_ret2;exact⟨_,_,rfl,qN (mP (cur:=toks) Hch.out hs2 Htk.out (by omega) (by rw [zS (show t.length=0 by have:=Hn1.out;omega)];rfl)),by rw [<-Hfin.out,zS (show t.length=0 by have:=Hn1.out;omega)];exact Ho2.out,Hb2.out⟩
   ·go_enter func47,ntmps47;go_wp2_with fail;refine Hck.out.mono ?_;rintro e w1 ⟨rfl,hb1⟩;have hc01:=Hc0.out w1 hb1;have Hb1:=zA hb1;clear hb1;go_wp2_with fail;refine(iR x0 s hs2 w1 (HT.out.on Hb1.out)).mono ?_;rw [Htk.out];rintro e w2 ⟨v,rfl,o2,hb2⟩;obtain⟨A2,c2,rfl⟩:=o2.form;have hs1:=Hb1.out.size;have Hb2:Hid (Below w.heap.size w w2):=Hb1.out.trans (hb2.mono hs1)
    have Ho2:Hid (Own Flat w2 w.heap.size 48 (.slice A2 toks.length c2) toks):=o2.mono hs1;clear o2 hb2 hs1
    by_cases hmany:(4096:Int)<toks.length
    ·obtain rfl:q= []:=by rw [<-Hfin.out,if_neg (by omega)]
     have hno:=zA (jC (t:=t) Htk.out (by omega));go_wp2;go_ret2;exact⟨_,_,rfl,bX hno.out (by decide),Own.nil _ _ _ _,Hb2.out⟩
    ·have hfew:(toks.length:Int)<=4096:=(by omega);have hfin:(lks t toks).getD []=q:=(by rw [<-Hfin.out,if_pos (by omega)]);have Hfin:=zA hfin;clear hfin hmany hc01;go_wp2
     go_loopw [7,31] (fun v i wr=>∃(j:Nat) (cur:List Token),j+1<=n/\i= .int .i64 j/\lks (t.take j) toks=some cur/\QY (4096*4^j) cur/\Own Flat wr w.heap.size 48 v cur/\Below w.heap.size w wr) (fun _ i _=>n - (intOf i).toNat)
     case atStart=>exact⟨0,toks,by omega,rfl,rfl,by simpa using Hsm.out,Ho2.out,Hb2.out⟩
     case round=>
      obtain⟨j,cur,hj,rfl,hlk,hsc,oc,hbw⟩:=hrel;obtain⟨Ac,cc,rfl⟩:=oc.form;have Hlk:=zA hlk;have Hsc:=zA hsc;have Hoc:=zA oc;have Hbw:=zA hbw;obtain⟨L,hL⟩:=eX (cur.length);rw [hL]at Hoc oc⊢;have HL:=zA hL;clear hlk hsc oc hbw hL
      by_cases hlt:j<n - 1
      ·obtain⟨y,hy⟩:∃y,t[j]? =some y:=⟨_,zB (by have:=Hn1.out;omega)⟩;have hey:_=_:=(((Hr.out.on Hbw.out).elem (k:=j+1) (by simpa using hy)).2.int.1);rw [show off+(j+1)=off+1+j by omega]at hey;have hf:=s9 Hch.out hy
       have hsz:4096*4^j<=1000000000:=by
        have:4^j<=4^7:=yB (by omega) (by have:=Hn1.out;omega);omega
       have hst:=JD (toks:=toks) hy;rw [Hlk.out]at hst;have hst:lks (t.take (j+1)) toks=if (Zv y cur).length<=4096 then some (Zv y cur)else none:=hst;have Hst:=zA hst;have Hy:=zA hy;have Hsz:=zA hsz;clear hy hst hsz;have hrd:=Hoc.out.reads.more (F' :=(·<wr.heap.size)) (fun _ h=>h.2);have hcl:=LJ y hf Ac L cc cur wr (HT.out.on Hbw.out) hrd (fun t ht=>zY (Hsc.out t ht) Hsz.out)
       have Hcl:=zA hcl;clear hrd hcl hf;go_wp2_with fail;refine Hcl.out.mono ?_;rintro e w3 ⟨⟨hle,v3,rfl,o3⟩|⟨hgt,rfl⟩,hb3⟩
       ·have hsw:=Hbw.out.size;have Hb3:Hid (Below w.heap.size w w3):=Hbw.out.trans (hb3.mono hsw);have Ho3:Hid (Own Flat w3 w.heap.size 48 v3 (Zv y cur)):=o3.mono hsw;have Hle:=zA hle;clear hle o3 hb3 hsw;go_wp2
        go_roundw
        case rel=>exact⟨j+1,Zv y cur,by omega,by go_num,by rw [Hst.out,if_pos Hle.out],by rw [Nat.pow_succ,<-Nat.mul_assoc,Nat.mul_comm];exact gY Hsc.out,Ho3.out,Hb3.out⟩
        case measure=>simp [intOf];omega
       ·have hdead:q= []:=by
         rw [<-Hfin.out,nH (j:=j+1) (by rw [Hst.out,if_neg (by omega)])];rfl
        subst hdead;have hno:=zA (wH (t:=t) Htk.out (nH (j:=j+1) (by rw [Hst.out,if_neg (by omega)])));have Hb3:Hid (Below w.heap.size w w3):=Hbw.out.trans (hb3.mono Hbw.out.size);clear hgt hb3;go_wp2;go_ret2;exact⟨_,_,rfl,bX hno.out (by decide),Own.nil _ _ _ _,Hb3.out⟩
      ·obtain rfl:j=n - 1:=by omega
       have hfin:cur=q:=by
        rw [<-Hfin.out,<-yq (a:=cur) (b:= []),<-Hlk.out,zF (by have:=Hn1.out;omega)]
       have hall:lks t toks=some cur:=(by rw [<-Hlk.out,zF (by have:=Hn1.out;omega)]);have hyes:=zA (mP Hch.out hs2 Htk.out (by omega) hall);clear hall;subst hfin;go_wp2;go_ret2;exact⟨_,_,rfl,qN hyes.out,Hoc.out,Hbw.out⟩
 ·obtain rfl:q= []:=hq.symm.trans (mO (Bool.eq_false_iff.2 hch));have hch:=zA (Bool.eq_false_iff.2 hch);clear hq hl;go_enter func47,ntmps47;go_wp2_with fail;refine(V3 A n c xs w HT.out Hr.out).mono ?_;rw [hch.out,show aS false=60 from rfl];rintro e w1 ⟨rfl,hb1⟩;have Hb1:=zA hb1;clear hb1;go_wp2;go_ret2;exact⟨_,_,rfl,bX (uE hch.out) (by decide),Own.nil _ _ _ _,Hb1.out⟩
open Go.RowKit Go.Shelf
def pdig (x:Nat):Bool:=decide (x<48)||decide (57<x)
def OC (s:aB) (a b:Int):Bool:=decide (a<=s.size) && decide ((s.size:Int)<=b) && decide (Lib.idxFunc pdig true s<0)
theorem uT (x:Nat) (w:O):Calls prog 229 #[.int .i32 (x:Int)] w fun e w' =>e= .returned (.bool (pdig x))/\Below w.heap.size w w' :=by
 have hb:=zE w.heap.size w
 by_cases h:x<48
 ·have h1:(x:Int)<48:=(by omega);go_enter func229,ntmps229;go_wp2;go_ret
  exact⟨yl (by simp [pdig,h]),hb⟩
 ·have h1:¬(x:Int)<48:=(by omega);go_enter func229,ntmps229;go_wp2;go_ret
  refine⟨yl ?_,hb⟩;simp only [pdig,h,decide_false,Bool.false_or];exact decide_eq_decide.2 (by omega)
theorem jZ (s:aB) (a b:Int) (w:O) (hs:s.size<=1000000000):
 Calls prog 173 #[.string s,.int .i64 a,.int .i64 b] w fun e w' =>e= .returned (.bool (OC s a b))/\Below w.heap.size w w' :=by
 have HI:=zA (Tryz.strings_IndexFunc_grows 229 #[] (enters_of func229 (by kernel_rfl) rfl) pdig s w fun W x _ _=>uT x W);have hb:=zE w.heap.size w
 by_cases h1:a<=s.size
 ·by_cases h2:(s.size:Int)<=b
  ·go_enter func173,ntmps173;go_wp2_with (go_at_call 228;refine HI.out.mono ?_;rintro e w' ⟨rfl,hb'⟩);go_ret
   exact⟨yl (by simp [OC,h1,h2]),hb'⟩
  ·go_enter func173,ntmps173;go_wp2;go_ret
   exact⟨yl (by simp [OC];omega),hb⟩
 ·go_enter func173,ntmps173;go_wp2;go_ret
  exact⟨yl (by simp [OC];omega),hb⟩
structure DecP where
 neg:Bool
 wh:aB
 pt:aB
 point:Bool
def ZY (s:aB):DecP:=
 let size:=(⟨(Lib.trimPrefix s.data.toList [45]).toArray⟩:aB)
 ⟨Lib.hasPrefix s.data.toList [45],⟨(Lib.cut size.data.toList [46]).1.toArray⟩,⟨(Lib.cut size.data.toList [46]).2.1.toArray⟩,(Lib.cut size.data.toList [46]).2.2⟩
def DecP.ok (p:DecP) (sc:Nat):Bool:=OC p.wh 1 19 && !(decide (1<p.wh.size) && decide ((p.wh.get! 0).toNat=48)) && (!p.point||OC p.pt 1 sc)
def DecP.all (p:DecP) (sc:Nat):aB:=
 let r:=p.wh++p.pt++⟨(Lib.repeatL [48] (sc - p.pt.size)).toArray⟩
 if p.neg then⟨#[45]⟩++r else r
def decN (s:aB) (sc:Nat):Int:=if (ZY s).ok sc then(match Lib.parseIntB 64 ((ZY s).all sc).data.toList with| .ok v=>v|_=>0)else 0
def Qz (s:aB) (sc:Nat):Bool:=(ZY s).ok sc && (match Lib.parseIntB 64 ((ZY s).all sc).data.toList with| .ok _=>true|_=>false)
theorem IW {l:aC} {v:Int} (h:Lib.parseIntB 64 l= .ok v):In64 v:=by
 unfold Lib.parseIntB at h;cases l with
 |nil=>cases h
 |cons c r=>
  simp only at h
  split at h
  ·cases h
  ·cases h
  ·split at h
   ·cases h
   ·split at h
    ·cases h
    ·rename_i u _ h1 h2;cases h;unfold In64
     split<;>simp_all<;>omega
theorem pI (s:aB) (sc:Nat):In64 (decN s sc):=by
 unfold decN
 split
 ·split
  ·rename_i h;exact IW h
  ·exact⟨by omega,by omega⟩
 ·exact⟨by omega,by omega⟩
structure Vs (w:O):Prop where
 tabs:Tabs w
 maxLen:∃m,w.cell? ⟨0,0,none⟩=some (.int .i64 m)/\0<w.heap.size
 esyn:∃t p,w.cell? ⟨1,0,none⟩=some (.iface t p)/\1<w.heap.size
 erng:∃t p,w.cell? ⟨2,0,none⟩=some (.iface t p)/\2<w.heap.size
theorem Vs.on {w w' :O} (h:Vs w) (hb:Below w.heap.size w w'):Vs w' where
 tabs:=h.tabs.on hb
 maxLen:=by obtain⟨m,h1,h2⟩:=h.maxLen;exact⟨m,(hb.cell h2).trans h1,zX h2 hb.size⟩
 esyn:=by obtain⟨t,p,h1,h2⟩:=h.esyn;exact⟨t,p,(hb.cell h2).trans h1,zX h2 hb.size⟩
 erng:=by obtain⟨t,p,h1,h2⟩:=h.erng;exact⟨t,p,(hb.cell h2).trans h1,zX h2 hb.size⟩
theorem DP (s:aB) (w:O) (hV:Vs w) (hs:s.size<=1000000000):
 Calls prog 175 #[.string s,.int .i64 10,.int .i64 64] w fun e w' =>(match Lib.parseIntB 64 s.data.toList with
  | .ok v=>e= .returned (.tuple #[.int .i64 v,.nilIface])
  |_=>∃v t p,e= .returned (.tuple #[.int .i64 v,.iface t p]))/\Below w.heap.size w w' :=by
 rcases h:Lib.parseIntB 64 s.data.toList with v| - | -
 ·refine(Tryz.strconv_ParseInt_10_at64_ok s (by omega) v h w).mono ?_;rintro e w' ⟨rfl,rfl|⟨t,rfl⟩⟩
  ·exact⟨rfl,zE _ _⟩
  ·exact⟨rfl,QX _ _ _⟩
 ·obtain⟨t,p,h1,h2⟩:=hV.esyn
  refine(show Calls prog 175 #[.string s,.int .i64 10,.int .i64 64] w fun e w' =>∃N,e= .returned (.tuple #[.int .i64 (0),.iface 409 (.pointer (some ⟨N,0,none⟩))])/\w.heap.size<=N/\w'.heap[N]? =some (.cells #[.string ⟨#[80,97,114,115,101,73,110,116]⟩,.string s,.iface t p] 448 (0,0))/\Below w.heap.size w w' from Any.strconv_ParseInt_10_at64_syntax Tryz.laysC174 s (by omega) h (.iface t p) w h1 (.inr ⟨t,p,rfl⟩)).mono ?_
  rintro e w' ⟨N,rfl,_,_,hb⟩;exact⟨⟨_,_,_,rfl⟩,hb⟩
 ·obtain⟨t,p,h1,h2⟩:=hV.erng;refine(Tryz.strconv_ParseInt_10_at64_range s (by omega) h (.iface t p) w h1 (.inr ⟨t,p,rfl⟩)).mono ?_;rintro e w' ⟨N,rfl,_,_,hb⟩;exact⟨⟨_,_,_,rfl⟩,hb⟩
theorem J2 (l sep:aC):(Lib.cut l sep).1.length<=l.length/\(Lib.cut l sep).2.1.length<=l.length/\((Lib.cut l sep).2.2=false->(Lib.cut l sep).2.1= []):=by
 unfold Lib.cut
 split
 ·exact⟨by simp;omega,by simp,by simp⟩
 ·exact⟨zC _,by simp,by simp⟩
theorem nY {s:aB} {a b:Nat} (h:OC s a b=true):a<=s.size/\s.size<=b:=by
 simp only [OC,zM,decide_eq_true_eq]at h;omega
theorem uV (s:aB) (sc:Nat) (w:O) (hV:Vs w) (hs:s.size<=100000000) (hsc:sc<=9):
 Calls prog 95 #[.string s,.int .i64 (sc:Int)] w fun e w' =>∃er,e= .returned (.tuple #[.int .i64 (decN s sc),.int .i64 er])/\(er=0↔Qz s sc=true)/\Below w.heap.size w w' :=by
 have HP0:=Tryz.strings_CutPrefix s ⟨#[45]⟩ w;have hp0:(ZY s).neg=Lib.hasPrefix s.data.toList (⟨#[45]⟩:aB).data.toList:=rfl;obtain⟨sz,hsz⟩:∃sz:aB,⟨(Lib.trimPrefix s.data.toList (⟨#[45]⟩:aB).data.toList).toArray⟩=sz:=⟨_,rfl⟩
 have hsz1:sz.size<=s.size:=by
  rw [<-hsz,Lib.size_eq,Lib.size_eq];simp only [List.toList_toArray];unfold Lib.trimPrefix
  split<;>simp
 obtain⟨m,hm1,hm2⟩:=hV.maxLen;have HC0:=Tryz.strings_Cut sz ⟨#[46]⟩ m w (by omega) hm1;have hcs:=J2 sz.data.toList (⟨#[46]⟩:aB).data.toList
 have hD:ZY s=⟨Lib.hasPrefix s.data.toList (⟨#[45]⟩:aB).data.toList,⟨(Lib.cut sz.data.toList (⟨#[46]⟩:aB).data.toList).1.toArray⟩,⟨(Lib.cut sz.data.toList (⟨#[46]⟩:aB).data.toList).2.1.toArray⟩,(Lib.cut sz.data.toList (⟨#[46]⟩:aB).data.toList).2.2⟩:=by rw [<-hsz];rfl
 rw [hsz]at HP0;clear hp0 hsz;obtain⟨ng,hng⟩:=eX (Lib.hasPrefix s.data.toList (⟨#[45]⟩:aB).data.toList);obtain⟨wh,hwh⟩:∃b:aB,⟨(Lib.cut sz.data.toList (⟨#[46]⟩:aB).data.toList).1.toArray⟩=b:=⟨_,rfl⟩;obtain⟨pt,hpt⟩:∃b:aB,⟨(Lib.cut sz.data.toList (⟨#[46]⟩:aB).data.toList).2.1.toArray⟩=b:=⟨_,rfl⟩;obtain⟨po,hpo⟩:=eX ((Lib.cut sz.data.toList (⟨#[46]⟩:aB).data.toList).2.2)
 have hwl:wh.size<=sz.size:=by rw [<-hwh,Lib.size_eq,Lib.size_eq];simpa using hcs.1
 have hpl:pt.size<=sz.size:=by rw [<-hpt,Lib.size_eq,Lib.size_eq];simpa using hcs.2.1
 have hp0:po=false->pt.size=0:=fun h=>by rw [<-hpt,Lib.size_eq];simpa using hcs.2.2 (hpo.trans h)
 rw [hng]at HP0 hD;rw [hwh,hpt,hpo]at HC0 hD;have HP:=zA (HP0.mono fun _ w' h=>(⟨h.1,h.2.symm⟩:_/\w=w'));have HC:=zA HC0;have HV:=zA hV;have HD:=zA hD;have HW:Hid (∀W,Below w.heap.size w W->Calls prog 173 #[.string wh,.int .i64 1,.int .i64 19] W fun e w' =>e= .returned (.bool (OC wh 1 19))/\Below w.heap.size w w'):=fun W hW=>(jZ wh 1 19 W (by omega)).mono fun _ _ h=>⟨h.1,hW.trans (h.2.mono hW.size)⟩
 have HT:Hid (∀W,Below w.heap.size w W->Calls prog 173 #[.string pt,.int .i64 1,.int .i64 (sc:Int)] W fun e w' =>e= .returned (.bool (OC pt 1 sc))/\Below w.heap.size w w'):=fun W hW=>(jZ pt 1 sc W (by omega)).mono fun _ _ h=>⟨h.1,hW.trans (h.2.mono hW.size)⟩;clear HP0 HC0 hD hcs hng hwh hpt hpo hV hm1 hm2;have hsc1:¬(sc:Int)<0:=by omega
 have hsc2:¬(9:Int)<(sc:Int):=by omega
 have Bad:Hid (∀(er:Int) (w' :O),(ZY s).ok sc=false->er≠0->Below w.heap.size w w' ->∃er',Ending.returned (.tuple #[.int .i64 0,.int .i64 er])= .returned (.tuple #[.int .i64 (decN s sc),.int .i64 er'])/\(er' =0↔Qz s sc=true)/\Below w.heap.size w w'):=fun er w' h h0 hb=>⟨er,by simp [decN,h],by simp [Qz,h];exact h0,hb⟩;obtain⟨d1,hd1⟩:=eX (OC wh 1 19);obtain⟨d2,hd2⟩:=eX (OC pt 1 sc);rw [hd1]at HW
 rw [hd2]at HT;cases d1 with
 |false=>
  have hno:Hid ((ZY s).ok sc=false):=(by show _=_;rw [HD.out];simp [DecP.ok,hd1]);clear hd1 hd2;go_enter func95,ntmps95
  go_wp2_with (first
   |(go_at_call 171;refine HP.out.mono ?_;rintro e w' ⟨rfl,rfl⟩)
   |(go_at_call 172;refine HC.out.mono ?_;rintro e w' ⟨rfl,n,rfl⟩;have hb1:=zA (zd (zE w.heap.size w) n))
   |(go_at_call 173;with_reducible refine(HW.out _ hb1.out).mono ?_;rintro e w' ⟨rfl,hb2⟩))
  go_ret2;exact Bad.out _ _ hno.out (by decide) hb2
 |true=>
  have hw1:=(nY (a:=1) (b:=19) hd1).1;have hw0:(0:Int)<(wh.size:Int):=(by omega);obtain⟨c,hc⟩:=eX ((wh.get! 0).toNat);have hgk:(wh[0]'(by omega)).toNat=c:=by rw [qE wh 0 (by omega)];exact hc
  by_cases hz:1<wh.size/\c=48
  ·have hno:Hid ((ZY s).ok sc=false):=(by show _=_;rw [HD.out];simp [DecP.ok,hz.1,hc,hz.2]);have hz1:(1:Int)<(wh.size:Int):=(by omega);have hz2:=hz.2;subst hz2;clear hd1 hd2 hc hz;go_enter func95,ntmps95
   go_wp2_with (first
    |(go_at_call 171;refine HP.out.mono ?_;rintro e w' ⟨rfl,rfl⟩)
    |(go_at_call 172;refine HC.out.mono ?_;rintro e w' ⟨rfl,n,rfl⟩;have hb1:=zA (zd (zE w.heap.size w) n))
    |(go_at_call 173;with_reducible refine(HW.out _ hb1.out).mono ?_;rintro e w' ⟨rfl,hb2⟩))
   go_ret2;exact Bad.out _ _ hno.out (by decide) hb2
  ·have hcase:(po=true/\d2=false)\/(po=false\/po=true/\d2=true):=by cases po<;>cases d2<;>simp
   have hz3:(wh.size:Int)<=1\/((1:Int)<(wh.size:Int)/\¬(c:Int)=48):=(by omega);have hok0:(decide (1<wh.size) && decide ((wh.get! 0).toNat=48))=false:=(by rw [hc];simp only [Bool.and_eq_false_iff,decide_eq_false_iff_not];omega);rcases hcase with⟨rfl,rfl⟩|hcase
   ·have hno:Hid ((ZY s).ok sc=false):=(by show _=_;rw [HD.out];simp [DecP.ok,hd2]);clear hd1 hd2 hc hz hok0;rcases hz3 with hz3|⟨hz3,hz4⟩
    all_goals
     go_enter func95,ntmps95
     go_wp2_with (first
      |(go_at_call 171;refine HP.out.mono ?_;rintro e w' ⟨rfl,rfl⟩)
      |(go_at_call 172;refine HC.out.mono ?_;rintro e w' ⟨rfl,n,rfl⟩;have hb1:=zA (zd (zE w.heap.size w) n))
      |(go_at_call 173;with_reducible refine(HW.out _ hb1.out).mono ?_;rintro e w' ⟨rfl,hb2⟩)
      |(go_at_call 173;with_reducible refine(HT.out _ hb2).mono ?_;rintro e w' ⟨rfl,hb3⟩))
     go_ret2;exact Bad.out _ _ hno.out (by decide) hb3
   ·have hps:pt.size<=sc:=by
     rcases hcase with h|⟨_,h⟩
     ·have:=hp0 h;omega
     ·exact(nY (a:=1) (b:=sc) (hd2.trans h)).2
    have hyes:Hid ((ZY s).ok sc=true):=by
     show _=_;rw [HD.out];simp only [DecP.ok,hd1,hok0,Bool.not_false,Bool.and_true,Bool.true_and];rcases hcase with rfl|⟨rfl,rfl⟩
     ·rfl
     ·simpa using hd2
    obtain⟨r,hr⟩:=eX (sc - pt.size);have hsub:(sc:Int) - (pt.size:Int)=(r:Int):=(by omega);obtain⟨rp,hrp⟩:∃b:aB,⟨(Lib.repeatL (⟨#[48]⟩:aB).data.toList r).toArray⟩=b:=⟨_,rfl⟩;have hrs:rp.size=r:=(by rw [<-hrp,Lib.size_eq,List.toList_toArray,Lib.repeatL_length];simp)
    have HR:Hid (∀W,Calls prog 174 #[.string ⟨#[48]⟩,.int .i64 (r:Int)] W fun e w' =>e= .returned (.string rp)/\Below W.heap.size W w'):=fun W=>by
     have:=Tryz.strings_Repeat ⟨#[48]⟩ r W (by omega) (by simp [ByteArray.size];omega);rw [hrp]at this;exact this
    obtain⟨a1,ha1⟩:=eX (wh++pt++rp);have ha1s:a1.size<=250000000:=(by rw [<-ha1];simp;omega);obtain⟨al,hal⟩:=eX ((if ng then(⟨#[45]⟩:aB)++a1 else a1));have hall:(ZY s).all sc=al:=(by rw [HD.out,<-hal,<-ha1,<-hrp,<-hr];rfl)
    have hals:al.size<=250000001:=by
     rw [<-hal]
     split
     ·rw [ByteArray.size_append];show 1+a1.size<=_;omega
     ·omega
    have HA:Hid (∀W,Below w.heap.size w W->Calls prog 175 #[.string al,.int .i64 10,.int .i64 64] W fun e w' =>((∃v,e= .returned (.tuple #[.int .i64 v,.nilIface])/\decN s sc=v/\Qz s sc=true)\/∃v t p,e= .returned (.tuple #[.int .i64 v,.iface t p])/\decN s sc=0/\Qz s sc=false)/\Below w.heap.size w w'):=fun W hW=>
     (DP al W (HV.out.on hW) (by omega)).mono fun e w' h=>by
      refine⟨?_,hW.trans (h.2.mono hW.size)⟩;have h1:=h.1;unfold decN Qz;rw [hyes.out,hall];rcases hq:Lib.parseIntB 64 al.data.toList with v| - | - <;>rw [hq]at h1
      ·exact .inl ⟨v,h1,by simp,by simp⟩
      ·obtain⟨v,t,p,h1⟩:=h1;exact .inr ⟨v,t,p,h1,by simp,by simp⟩
      ·obtain⟨v,t,p,h1⟩:=h1;exact .inr ⟨v,t,p,h1,by simp,by simp⟩
    have hsum:¬9223372036854775807<wh.size+pt.size+rp.size:=(by omega);clear hd1 hd2 hc hz hok0 hr hrp hall hrs hp0;have Hps:=zA hps;clear hps;rcases hz3 with hz3|⟨hz3,hz4⟩<;>rcases hcase with rfl|⟨rfl,rfl⟩<;>cases ng
    all_goals
     first
      |obtain rfl:(⟨#[45]⟩:aB)++a1=al:=hal
      |obtain rfl:a1=al:=hal
     go_enter func95,ntmps95
     go_wp2_with (first
      |(go_at_call 171;refine HP.out.mono ?_;rintro e w' ⟨rfl,rfl⟩)
      |(go_at_call 172;refine HC.out.mono ?_;rintro e w' ⟨rfl,n,rfl⟩;have hb1:=zA (zd (zE w.heap.size w) n))
      |(go_at_call 173;with_reducible refine(HW.out _ hb1.out).mono ?_;rintro e w' ⟨rfl,hb2⟩)
      |(go_at_call 173;with_reducible refine(HT.out _ hb2).mono ?_;rintro e w' ⟨rfl,hb2⟩)
      |(go_at_call 174;with_reducible refine(HR.out _).mono ?_;rintro e w' ⟨rfl,hb3⟩;have hb4:=Below.trans hb2 (hb3.mono hb2.size))
      |(go_at_call 175;with_reducible refine(HA.out _ hb4).mono ?_;rintro e w' ⟨⟨v,rfl,hn,ho⟩|⟨v,t,p,rfl,hn,ho⟩,hb5⟩))
     all_goals
      go_ret2;rw [hn,ho];exact⟨_,rfl,by simp,hb5⟩
theorem qC:∀(t:aD) (o:Option (List Token)),(∀l,o=some l->l.length<=4096)->∀l,t.foldl lk o=some l->l.length<=4096
 | [],_,h,l,hl=>h l hl
 |n::t,o,h,l,hl=>qC t (lk o n) (fun l' hl' =>by
   unfold lk at hl';rcases o with _|o
   ·cases hl'
   ·simp only [Option.bind_some]at hl'
    split at hl'
    ·cases hl';assumption
    ·cases hl') l hl
theorem dN (xs:aD) (s:aB):(runT xs s).length<=4096:=by
 unfold runT
 split
 ·simp
 ·split
  ·rename_i a t h;rcases hl:lks t (xJ a s)with _|l
   ·simp
   ·exact qC t (some _) (fun l' hl' =>by cases hl';exact h.2.2) l hl
  ·simp
def Ys (f:Field) (e:Entry) (tk:Int):Bool:=
 if f.kind=1 then X3 f.chain e.text && decide (tk+(runT f.chain e.text).length<=4096)else if f.kind=2 then decide (e.text.size<=256)else if f.kind=4 then Qz e.text f.scale.toNat else true
def Yr (f:Field) (e:Entry) (tk:Int):Int:=if f.kind=1 then tk+(runT f.chain e.text).length else tk
def xr (f:Field) (e:Entry):aB:=if f.kind=1\/f.kind=2 then e.text else⟨#[]⟩
def ZU (f:Field) (e:Entry):aD:=if f.kind=1\/f.kind=2 then []else if f.kind=4 then [decN e.text f.scale.toNat]else e.numbers
abbrev TokA (tg m mc:Nat) (tks:aD):Asn:=NA (some ⟨tg,0,none⟩) m mc tks
theorem CN {cb tg m mc i:Nat} {iv:Int} {tk:Int} {tks:aD} {L:List Asn} (f:Field) (e:Entry) (A2 A:aA) (n2 c2 n c:Nat) (w:O) (hV:Vs w)
 (hch:zL w (·<w.heap.size) A2 n2 c2 f.chain) (hnum:zL w (·<w.heap.size) A n c e.numbers) (hts:e.text.size<=100000000) (hn:n<=1000000000) (hf:f.kind=4->0<=f.scale/\f.scale<=9)
 (hk:tks[i]? =some tk) (htk:0<=tk/\tk<=1000000)
 (HS:Sp w (BlkA cb 59 #[.int .i64 iv,.string ⟨#[]⟩,.slice none 0 0]::TokA tg m mc tks::L)):
 Calls prog 46 #[.agg #[.string f.name,.int .i64 f.kind,.slice A2 n2 c2,.int .i64 f.scale,.int .i64 f.dims,.bool f.many,.bool f.stored],.agg #[.string e.field,.string e.text,.slice A n c],.pointer (some ⟨cb,0,none⟩),.pointer (some ⟨tg,i,none⟩)] w fun r w' =>
  r= .returned (.bool (Ys f e tk))/\∃An nn cn,Sp w' (DatA (.slice An nn cn) (ZU f e)::BlkA cb 59 #[.int .i64 iv,.string (xr f e),.slice An nn cn]::TokA tg m mc (tks.set i (Yr f e tk))::L):=by
 obtain⟨kd,hkd⟩:=eX (f.kind);obtain⟨H,hH⟩:=eX (w.heap.size);have HB:=((HS.al (.cells #[.string f.name,.int .i64 f.kind,.slice A2 n2 c2,.int .i64 f.scale,.int .i64 f.dims,.bool f.many,.bool f.stored] 61)).blkH 86 #[.string e.field,.string e.text,.slice A n c] (H:=H+1) (by simp [hH]))
 have hbW:Below w.heap.size w ((w.alloc (.cells #[.string f.name,.int .i64 f.kind,.slice A2 n2 c2,.int .i64 f.scale,.int .i64 f.dims,.bool f.many,.bool f.stored] 61)).alloc (.cells #[.string e.field,.string e.text,.slice A n c] 86)):=((zE _ _).alloc (zC _) _).alloc (by simp) _;have hcap:=hch.cap;rw [hkd]at hbW HB⊢;have Hk:=zA hk;have Hkd:=zA hkd;have hbe:¬cb=H+1:=fun h=>HB.ne h.symm
 have hte:¬tg=H+1:=(Sp.p1 (HB.d1)).neRB;have htc:¬tg=cb:=(HB.tail.p1).neRB
 by_cases h1:kd=1
 ·subst h1;obtain⟨T,hT⟩:=eX (runT f.chain e.text);have hTl:T.length<=4096:=(by rw [<-hT];exact dN _ _);obtain⟨N,hN⟩:=eX (T.length);rw [hN]at hTl
  have HR:Hid (∀W,Below w.heap.size w W->Calls prog 47 #[.slice A2 n2 c2,.string e.text] W fun r w' =>∃A' c' er,r= .returned (.tuple #[.slice A' N c',.int .i64 er])/\(er=0↔X3 f.chain e.text=true)/\Below W.heap.size W w'):=fun W hW=>
   (mQ A2 n2 c2 f.chain e.text W (hV.tabs.on hW) (hch.on hW)).mono fun r w' ⟨v,er,h1,h2,h3,h4⟩=>by
    rw [hT]at h3;obtain⟨A',c',rfl⟩:=h3.form;rw [hN]at h1;exact⟨A',c',er,h1,h2,h4⟩
  have hfin:∀(w' :O),Sp w' (BlkA cb 59 #[.int .i64 iv,.string e.text,.slice none 0 0]::TokA tg m mc (tks.set i (tk+N))::L)->∃An nn cn,Sp w' (DatA (.slice An nn cn) (ZU f e)::BlkA cb 59 #[.int .i64 iv,.string (xr f e),.slice An nn cn]::TokA tg m mc (tks.set i (Yr f e tk))::L):=fun w' h=>⟨none,0,0,by
   have e1:ZU f e= []:=(by simp [ZU,Hkd.out]);have e2:xr f e=e.text:=(by simp [xr,Hkd.out]);have e3:Yr f e tk=tk+N:=(by simp [Yr,Hkd.out,hT,hN]);rw [e1,e2,e3];exact Sp.ints (l:= []) (h.nil 2 1) (by simp)⟩
  have Hfin:=zA hfin;have hok:Ys f e tk=(X3 f.chain e.text && decide (tk+N<=4096)):=(by simp [Ys,Hkd.out,hT,hN]);obtain⟨ro,hro⟩:=eX (X3 f.chain e.text);rw [hro]at hok HR;clear hch hnum hV hf hfin hT hN hro HS hk hkd;cases ro
  all_goals
   have Hok:=zA hok;clear hok;go_enter func46,ntmps46;go_wp2_with fail
   with_reducible refine(HR.out _ hbW).mono ?_
   rintro r w2 ⟨A',c',er,rfl,her,hb⟩;have HS2:=HB.grow hb;have q1:w2.cell? ⟨tg,i,none⟩=some (.int .i64 tk):=HS2.rowCell M2 (Z9 Hk.out);have q2:=HS2.rowFree M2 i;have q3:=HS2.cl M0 1;have q4:=(HS2.blkOf M1).frozen 1;have q5:=HS2.cl M1 1;have HS3:=(HS2.p2.rowSet i (.int .i64 (tk+N))).p2.set 1 (.string e.text);rw [<-WR]at HS3;have HS4:=HS3.d2;clear HB HR hb HS2 hbW HS3
  ·have h0:¬er=0:=(by simpa using her);clear her;go_wp2;go_ret
   exact⟨yl (by rw [Hok.out];rfl),Hfin.out _ HS4⟩
  ·have h0:er=0:=(by simpa using her);subst h0;clear her;go_wp2;go_ret
   exact⟨yl (by rw [Hok.out];rfl),Hfin.out _ HS4⟩
 ·by_cases h2:kd=2
  ·subst h2;have e1:ZU f e= []:=(by simp [ZU,hkd]);have e2:xr f e=e.text:=(by simp [xr,hkd]);have e3:Yr f e tk=tk:=(by simp [Yr,hkd])
   have e4:tks.set i tk=tks:=by
    apply yX
    intro j;rw [xO]
    by_cases hj:i=j
    ·subst hj;rw [if_pos rfl,if_pos (zN hk),hk]
    ·rw [if_neg hj]
   have e5:Ys f e tk=decide (e.text.size<=256):=(by simp [Ys,hkd]);rw [e1,e2,e3,e4,e5];have q3:=HB.cell M0 1;have q4:=(HB.blkOf M1).frozen 1;have q5:=HB.cell M1 1;have HS4:=(HB.p1.set 1 (.string e.text)).d1;clear hch hnum hV hf HS hk hkd HB e1 e2 e3 e4 e5;go_enter func46,ntmps46;go_wp2;go_ret
   exact⟨yl (decide_eq_decide.2 (by omega)),none,0,0,Sp.ints (l:= []) (HS4.nil 2 1) (by simp)⟩
  ·have e1:xr f e=⟨#[]⟩:=(by simp [xr,hkd,h1,h2]);have e3:Yr f e tk=tk:=(by simp [Yr,hkd,h1])
   have e4:tks.set i tk=tks:=by
    apply yX
    intro j;rw [xO]
    by_cases hj:i=j
    ·subst hj;rw [if_pos rfl,if_pos (zN hk),hk]
    ·rw [if_neg hj]
   rw [e1,e3,e4];clear e1 e3 e4 htc hte hk
   by_cases h4:kd=4
   ·obtain⟨h5,h6⟩:=hf (hkd.trans h4);obtain⟨sc,hsc⟩:∃sc:Nat,f.scale=(sc:Int):=⟨f.scale.toNat,by omega⟩;have hto:f.scale.toNat=sc:=(by omega);have e2:ZU f e= [decN e.text sc]:=(by simp [ZU,hkd,h4,hto]);have e5:Ys f e tk=Qz e.text sc:=(by simp [Ys,hkd,h4,hto]);rw [hsc]at hbW HB h6⊢;rw [e2,e5]
    have HR:Hid (∀W,Below w.heap.size w W->Calls prog 95 #[.string e.text,.int .i64 (sc:Int)] W fun r w' =>∃er,r= .returned (.tuple #[.int .i64 (decN e.text sc),.int .i64 er])/\(er=0↔Qz e.text sc=true)/\Below W.heap.size W w'):=fun W hW=>uV e.text sc W (hV.on hW) hts (by omega);have Hin:=zA (pI e.text sc);obtain⟨v,hv⟩:=eX (decN e.text sc);obtain⟨ok,hok⟩:=eX (Qz e.text sc);rw [hv]at HR Hin⊢
    rw [hok]at HR⊢;clear hch hnum hV hf HS hkd e2 e5 hv hok hto hsc;subst h4;go_enter func46,ntmps46;go_wp2_with fail
    with_reducible refine(HR.out _ hbW).mono ?_
    rintro r w2 ⟨er,rfl,her,hb⟩;obtain⟨B,hB⟩:=eX (w2.heap.size);have HS2:=(HB.grow hb).lit #[.int .i64 v] 2 1 1 rfl (by unfold maxLen;omega);rw [hB]at HS2;have q0:¬B=cb:=(HS2.d1).neRB;have q4:=(HS2.blkOf M2).frozen 2;have q5:=HS2.cell M2 2;have HS4:=((((Sp.ints (l:= [v]) HS2 (by simpa using Hin.out)).p2).set 2 (.slice (some ⟨B,0,none⟩) 1 1)).d2).p1;have Her:=zA her;clear HB HR hb HS2 hbW her
    go_wp2;go_ret
    exact⟨yl (by rw [Bool.eq_iff_iff];simpa using Her.out),some ⟨B,0,none⟩,1,1,HS4⟩
   ·have e2:ZU f e=e.numbers:=(by simp [ZU,hkd,h1,h2,h4]);have e5:Ys f e tk=true:=(by simp [Ys,hkd,h1,h2,h4]);rw [e2,e5];have hc:=XW A n c (ints e.numbers) _ (by omega) (hnum.on hbW).reads_ints (Y3 _);have Hc:=zA hc
    have Hin:Hid (∀x∈e.numbers,In64 x):=fun x hx=>by
     obtain⟨k,hk⟩:=z8 hx;obtain⟨b,off,y,rfl,Hx,_,he⟩:=hnum.at_ (k:=k) (by rw [<-hnum.length];exact zN hk)
     cases Hx.out.symm.trans hk;exact he.int.2
    clear hch hnum hV hf HS hkd e2 e5 hc Hkd Hk;go_enter func46,ntmps46;go_wp2_with fail;refine Hc.out.mono ?_;rintro r w2 ⟨A',c',rfl,hr,hb⟩;have HS2:=HB.row hr hb;have q4:=(HS2.blkOf M2).frozen 2;have q5:=HS2.cell M2 2;have HS4:=((((Sp.ints HS2 Hin.out).p2).set 2 (.slice A' n c')).d2).p1;clear HB Hc hb HS2 hbW hr;go_wp2;go_ret
    exact⟨rfl,A',n,c',HS4⟩
abbrev yZ:=Int×aB×aD
def bJ (i:Nat) (f:Field) (e:Entry):yZ:=((i:Int),xr f e,ZU f e)
def WX (f:Field) (e:Entry) (seen tk:Int):Bool:=Vz f e.text e.numbers.length && (f.many||seen==0) && Ys f e tk
def ZV (fs:List Field):List Entry->aD->aD->Option (List yZ)
 | [],_,_=>some []
 |e::es,seen,tks=>match Zx fs e.field with
  |none=>none
  |some i=>match fs[i]? with
   |none=>none
   |some f=>if WX f e (seen.getD i 0) (tks.getD i 0)then(ZV fs es (seen.set i (seen.getD i 0+1)) (tks.set i (Yr f e (tks.getD i 0)))).map (bJ i f e::·)else none
def Yk (fs:List Field) (es:List Entry):Option (List yZ):=if xC fs && decide (es.length<=64)then ZV fs es (List.replicate fs.length 0) (List.replicate fs.length 0)else none
def fCs (f:Field) (A2:aA) (n2 c2:Nat):aG:= #[.string f.name,.int .i64 f.kind,.slice A2 n2 c2,.int .i64 f.scale,.int .i64 f.dims,.bool f.many,.bool f.stored]
def eCs (e:Entry) (A:aA) (n c:Nat):aG:= #[.string e.field,.string e.text,.slice A n c]
theorem BP (p:Nat) (b:Bool) (w:O) (h:w.cell? ⟨p,0,none⟩=some (.bool b)):
 Calls prog 40 #[.pointer (some ⟨p,0,none⟩)] w fun e w' =>e= .returned (.int .i64 (unlI b 81))/\w=w' :=by
 have Hu:=zA (Q3 b 81);go_enter func40,ntmps40;go_wp2_with (go_at_call 41;refine(Hu.out _).mono ?_;rintro e w' ⟨rfl,rfl⟩);go_ret
 exact⟨rfl,rfl⟩
section
variable {w:O} {L:List Asn} {f:Field} {e:Entry} {A2 A:aA} {n2 c2 n c F E:Nat}
theorem BN (h1:Blk w F 61 (fCs f A2 n2 c2)) (h2:Blk w E 86 (eCs e A n c)):
 Calls prog 42 #[.pointer (some ⟨F,0,none⟩),.pointer (some ⟨E,0,none⟩)] w fun r w' =>r= .returned (.int .i64 (unlI (Vz f e.text n) 82))/\Below w.heap.size w w' :=by
 have Hk:=zA (C7 f e.text A2 A n2 c2 n c);have Hu:=zA (Q3 (Vz f e.text n) 82);have f0:=h1.cell 0;have f1:=h1.cell 1;have f2:=h1.cell 2;have f3:=h1.cell 3;have f4:=h1.cell 4;have f5:=h1.cell 5;have f6:=h1.cell 6;have e1:=h2.cell 1;have e2:=h2.cell 2;clear h1 h2;simp [fCs,eCs]at f0 f1 f2 f3 f4 f5 f6 e1 e2;go_enter func42,ntmps42
 go_wp2_with (first
  |(go_at_call 43;refine(Hk.out _).mono ?_;rintro e w' ⟨rfl,hb⟩)
  |(go_at_call 41;refine(Hu.out _).mono ?_;rintro e w' ⟨rfl,rfl⟩))
 go_ret
 exact⟨rfl,hb⟩
theorem BM {G I gs m mc i:Nat} {s:Int} {seen:aD} (h1:Blk w F 61 (fCs f A2 n2 c2)) (hG:w.cell? ⟨G,0,none⟩=some (.slice (some ⟨gs,0,none⟩) m mc)) (hI:w.cell? ⟨I,0,none⟩=some (.int .i64 (i:Int))) (hi:i<m)
 (hs:w.cell? ⟨gs,i,none⟩=some (.int .i64 s)):
 Calls prog 44 #[.pointer (some ⟨F,0,none⟩),.pointer (some ⟨G,0,none⟩),.pointer (some ⟨I,0,none⟩)] w fun r w' =>r= .returned (.int .i64 (unlI (f.many||s==0) 84))/\w=w' :=by
 have Hu:=zA (fun b=>Q3 b 84);have f5:=h1.cell 5;clear h1;simp [fCs]at f5;obtain⟨mn,hm⟩:=eX (f.many);rw [hm]at f5⊢;have hi1:(0:Int)<=(i:Int):=by omega
 have hi2:(i:Int)<(m:Int):=by omega
 cases mn
 all_goals
  go_enter func44,ntmps44;go_wp2_with (go_at_call 41;refine(Hu.out _ _).mono ?_;rintro e w' ⟨rfl,rfl⟩);go_ret
  exact⟨by simp,rfl⟩
theorem BL {cb gt m mc i G I:Nat} {iv tk:Int} {tks:aD} (hV:Vs w) (hi:i<m)
 (hch:zL w (·<w.heap.size) A2 n2 c2 f.chain) (hnum:zL w (·<w.heap.size) A n c e.numbers) (hts:e.text.size<=100000000) (hn:n<=1000000000) (hf:f.kind=4->0<=f.scale/\f.scale<=9)
 (hk:tks[i]? =some tk) (htk:0<=tk/\tk<=1000000)
 (HS:Sp w (BlkA cb 59 #[.int .i64 iv,.string ⟨#[]⟩,.slice none 0 0]::TokA gt m mc tks::BlkA F 61 (fCs f A2 n2 c2)::BlkA E 86 (eCs e A n c)::BlkA G 55 #[.slice (some ⟨gt,0,none⟩) m mc]::BlkA I 3 #[.int .i64 (i:Int)]::L)):
 Calls prog 45 #[.pointer (some ⟨F,0,none⟩),.pointer (some ⟨E,0,none⟩),.pointer (some ⟨cb,0,none⟩),.pointer (some ⟨G,0,none⟩),.pointer (some ⟨I,0,none⟩)] w fun r w' =>
  r= .returned (.int .i64 (unlI (Ys f e tk) 83))/\∃An nn cn,Sp w' (DatA (.slice An nn cn) (ZU f e)::BlkA cb 59 #[.int .i64 iv,.string (xr f e),.slice An nn cn]::TokA gt m mc (tks.set i (Yr f e tk))::BlkA F 61 (fCs f A2 n2 c2)::BlkA E 86 (eCs e A n c)::BlkA G 55 #[.slice (some ⟨gt,0,none⟩) m mc]::BlkA I 3 #[.int .i64 (i:Int)]::L):=by
 have hbd:Below w.heap.size w w.drew:=(zE _ _).drew;have Hv:=zA (CN f e A2 A n2 c2 n c w.drew (hV.on hbd) (hch.on hbd) (hnum.on hbd) hts hn hf hk htk HS.drew);have Hu:=zA (Q3 (Ys f e tk) 83);have f0:=HS.cl M2 0;have f1:=HS.cl M2 1;have f2:=HS.cl M2 2;have f3:=HS.cl M2 3;have f4:=HS.cl M2 4;have f5:=HS.cl M2 5;have f6:=HS.cl M2 6;have e0:=HS.cl M3 0;have e1:=HS.cl M3 1;have e2:=HS.cl M3 2
 have g0:=HS.cl M4 0;have i0:=HS.cl M5 0;have hi1:(0:Int)<=(i:Int):=by omega
 have hi2:(i:Int)<(m:Int):=by omega
 clear hV hch hnum hf hk HS hbd htk;go_enter func45,ntmps45;go_wp2_with fail
 go_region_held3 (fun W=>W.cell? ⟨F,0,none⟩=some (.string f.name)/\W.cell? ⟨F,1,none⟩=some (.int .i64 f.kind)/\W.cell? ⟨F,2,none⟩=some (.slice A2 n2 c2)/\W.cell? ⟨F,3,none⟩=some (.int .i64 f.scale)/\W.cell? ⟨F,4,none⟩=some (.int .i64 f.dims)/\W.cell? ⟨F,5,none⟩=some (.bool f.many)/\W.cell? ⟨F,6,none⟩=some (.bool f.stored)/\W.cell? ⟨E,0,none⟩=some (.string e.field)/\W.cell? ⟨E,1,none⟩=some (.string e.text)/\W.cell? ⟨E,2,none⟩=some (.slice A n c)/\W.cell? ⟨G,0,none⟩=some (.slice (some ⟨gt,0,none⟩) m mc)/\W.cell? ⟨I,0,none⟩=some (.int .i64 (i:Int))) (first|with_reducible assumption|(with_reducible exact⟨by assumption,by assumption,by assumption,by assumption,by assumption,by assumption,by assumption,by assumption,by assumption,by assumption,by assumption,by assumption⟩)|go_keep|fail) (first
  |(go_at_call 46;refine Hv.out.mono ?_;rintro r w1 ⟨rfl,An,nn,cn,HS1⟩;have k0:=HS1.cl M3 0;have k1:=HS1.cl M3 1;have k2:=HS1.cl M3 2;have k3:=HS1.cl M3 3;have k4:=HS1.cl M3 4;have k5:=HS1.cl M3 5;have k6:=HS1.cl M3 6;have j0:=HS1.cl M4 0;have j1:=HS1.cl M4 1;have j2:=HS1.cl M4 2;have g1:=HS1.cl M5 0;have i1:=HS1.cl M6 0)
  |(go_at_call 41;refine(Hu.out _).mono ?_;rintro r w2 ⟨rfl,rfl⟩)
  |fail)
 go_wp2;go_ret
 exact⟨rfl,An,nn,cn,HS1⟩
end
def XC (l:List Token):Prop:=∀(i:Nat) (t:Token),l[i]? =some t->t.pos=i
theorem XC.nil:XC []:=fun i t h=>by simp at h
theorem XC.snoc {l:List Token} (h:XC l) (t:Token) (ht:t.pos=l.length):XC (l++ [t]):=fun i u hu=>by
 rcases zk i l.length with hi|hi
 ·rw [z9 hi]at hu;exact h i u hu
 ·have:=zN hu;simp at this;obtain rfl:i=l.length:=by omega
  simp at hu;subst hu;exact ht
theorem jX {s:aB} {l:List Token} (h:XC l) (fr:Option Nat) (x:Nat):XC (QF s l fr x):=by
 cases fr with
 |none=>exact h
 |some f=>exact h.snoc _ rfl
theorem DG (s:aB) (p b:Int->Bool) (pre:aE):XC (Z7 s p b pre).1:=by
 refine Vf (P:=fun pre=>XC (Z7 s p b pre).1) XC.nil (fun l x h=> ?_) pre;rw [X2];unfold Z6
 split
 ·exact jX h _ _
 ·split<;>exact h
theorem U1 (s:aB) (p b:Int->Bool):XC (Xm s p b):=jX (DG s p b _) _ _
theorem jJ (t:Token) (p:aE) (n:Nat):∀(i:Nat) {out:List Token},XC out->XC (ZX t p n out i)
 |0,_,h=>h
 |i+1,_,h=>(jJ t p n i h).snoc _ rfl
theorem lO:∀(toks:List Token) {out:List Token},XC out->XC (toks.foldl Zg out)
 | [],_,h=>h
 |t::l,_,h=>lO l (jJ t _ _ _ h)
theorem tO (n:Int) (s:aB):XC (xJ n s):=by
 unfold xJ
 split
 ·exact U1 _ _ _
 ·split
  ·exact U1 _ _ _
  ·split
   ·exact U1 _ _ _
   ·exact lO _ XC.nil
theorem WT (t:Token) (p:aE) (n:Nat):∀(j:Nat),∀u∈Zp t p n j,u.pos=t.pos
 |0,u,h=>by simp [Zp]at h
 |j+1,u,h=>by
  rcases List.mem_append.1 h with h|h
  ·exact WT t p n j u h
  ·simp at h;subst h;rfl
theorem I3 {n:Int} {t u:Token} (h:u∈OL n t):u.pos=t.pos:=by
 unfold OL at h
 split at h
 ·simp at h;subst h;rfl
 ·split at h
  ·unfold We at h;split at h
   ·simp at h
   ·simp at h;subst h;rfl
  ·split at h
   ·unfold Yg at h;split at h
    ·simp at h;subst h;rfl
    ·exact WT _ _ _ _ _ h
   ·split at h
    ·unfold Yg at h;split at h
     ·simp at h;subst h;rfl
     ·exact WT _ _ _ _ _ h
    ·split at h
     ·simp at h;subst h;unfold Q8;split<;>rfl
     ·split at h
      ·unfold Qf at h;split at h
       ·simp at h
       ·simp at h;subst h;rfl
      ·simp at h
theorem oZ {B:Int}:∀(t:aD) (o:Option (List Token)),(∀l,o=some l->∀u∈l,0<=u.pos/\u.pos<B)->∀l,t.foldl lk o=some l->∀u∈l,0<=u.pos/\u.pos<B
 | [],_,h,l,hl=>h l hl
 |n::t,o,h,l,hl=>oZ t (lk o n) (fun l' hl' u hu=>by
   unfold lk at hl';rcases o with _|o
   ·cases hl'
   ·simp only [Option.bind_some]at hl'
    split at hl'
    ·cases hl';obtain⟨v,hv,hw⟩:=List.mem_flatMap.1 hu;rw [I3 hw];exact h o rfl v hv
    ·cases hl') l hl
theorem mN (xs:aD) (s:aB):∀u∈runT xs s,0<=u.pos/\u.pos<4096:=by
 unfold runT
 split
 ·simp
 ·split
  ·rename_i a t h;rcases hl:lks t (xJ a s)with _|l
   ·simp
   ·refine oZ t (some _) (fun l' hl' u hu=> ?_) l hl;cases hl';obtain⟨k,hk⟩:=z8 hu;have h1:=tO a s k u hk;have h2:=zN hk;omega
  ·simp
def aU (out:List Token):Int:=match out.getLast? with
 |none=>0
 |some t=>t.pos+101
def VQ (b:Int) (t:Token):Token:={t with pos:=t.pos+b}
def xx (ch:aD) (fi:Nat) (out:List Token) (c:yZ):List Token:=if c.1=fi then out++(runT ch c.2.1).map (VQ (aU out))else out
def tokP (fs:List Field) (fi:Nat) (cells:List yZ):List Token:=
 match fs[fi]? with
 |some f=>if f.kind=1 then cells.foldl (xx f.chain fi) []else []
 |none=> []
theorem iS {ch:aD} {fi:Nat} {out:List Token} {B:Int} (c:yZ) (h:∀t∈out,0<=t.pos/\t.pos<B) (hB:0<=B):∀t∈xx ch fi out c,0<=t.pos/\t.pos<B+4197:=by
 have hb:0<=aU out/\aU out<B+101:=by
  unfold aU;rcases hl:out.getLast? with _|t
  ·show(0:Int)<=0/\(0:Int)<_;omega
  ·have:=h t (List.mem_of_getLast? hl);show 0<=t.pos+101/\t.pos+101<_;omega
 unfold xx
 split
 ·intro t ht;rcases List.mem_append.1 ht with ht|ht
  ·have:=h t ht;omega
  ·obtain⟨u,hu,rfl⟩:=List.mem_map.1 ht;have:=mN _ _ u hu;show 0<=u.pos+_/\u.pos+_<_;omega
 ·intro t ht;have:=h t ht;omega
theorem gI (ch:aD) (fi:Nat) (out:List Token) (c:yZ):(xx ch fi out c).length<=out.length+4096:=by
 unfold xx
 split
 ·have:=dN ch c.2.1;simp;omega
 ·omega
theorem yZ.at_ {w:O} {F:Nat->Prop} {b off k:Nat} {x:yZ} (h:xp w F b off k x):∃A n c,w.cell? ⟨b,off+k*3,none⟩=some (.int .i64 x.1)/\w.cell? ⟨b,off+k*3+1,none⟩=some (.string x.2.1)/\w.cell? ⟨b,off+k*3+2,none⟩=some (.slice A n c)/\zL w F A n c x.2.2/\x.2.1.size<=9223372036854775807:=by
 obtain⟨cs,⟨c1,c2,rfl,⟨e1,_⟩,d1,d2,rfl,⟨e2,hs⟩,A,n,c,e3,hr⟩,hc⟩:=h;cases e1;cases e2;cases e3;exact⟨A,n,c,hc 0 _ rfl,hc 1 _ rfl,hc 2 _ rfl,hr,hs⟩
theorem Sp.ownFlat {α:Type} [Rep α] {w w' :O} {L:List Asn} {e:TypeId} {v:V} {xs:List α} (h:Sp w L) (ho:Own Flat w' w.heap.size e v xs) (hb:Below w.heap.size w w'):∃A c,v= .slice A xs.length c/\Sp w' (DatA v xs::L):=by
 obtain⟨A,c,rfl⟩:=ho.form;obtain⟨css,h1,h2,h3⟩:=ho;have HS:=h.row (Yd h3) hb
 have HS2:Sp w' (ElsA css xs::RowA e (Rep.size α) (.slice A xs.length c) xs.length css.flatten::L):=
  HS.new (S:=fun _=>False) (zE _ _) ⟨⟨h1,fun k cs x hk hx=>Rep.more (h2 k cs x hk hx) fun b hb=>hb.1.elim⟩,fun _ h=>h.elim⟩ (fun _ h=>h.elim)
 exact⟨A,c,rfl,HS2.p1.els⟩
attribute [local go_sem ↓] zU zV
theorem FH:Elt prog 41 48 4 40:=xt (by kernel_rfl) (by decide) (by kernel_rfl)
theorem KQ {out:List Token} {j:Nat} {t:Token} (h:out[j]? =some t):(out.flatMap Token.cells)[j*4+1]? =some (.int .i64 t.pos):=by
 rw [List.flatMap_def];exact(xX (out.map Token.cells) j 1 t.cells (by simp [Token.cells]) (by simp [h]) (by omega)).trans rfl
abbrev TkA (A:aA) (n c:Nat) (l:List Token):Asn:=RowA 48 4 (.slice A n c) n (l.flatMap Token.cells)
theorem tN (A B:aA) (n c m cm i:Nat) (fs:List Field) (cells:List yZ) (f:Field) (w:O) (hV:Tabs w) (hs:zL w (·<w.heap.size) A n c fs) (he:zL w (·<w.heap.size) B m cm cells)
 (hsb:xC fs=true) (hf:fs[i]? =some f) (hk:f.kind=1) (hm:m<=64):
 Calls prog 10 #[.agg #[.slice A n c],.int .i64 (i:Int),.slice B m cm] w fun r w' =>∃A' n' c',r= .returned (.slice A' n' c')/\n' =(tokP fs i cells).length/\n' <=262144/\Sp w' [TkA A' n' c' (tokP fs i cells),OldA w.heap.size w]:=by
 obtain⟨o,ho⟩:=eX (tokP fs i cells);have ho2:cells.foldl (xx f.chain i) []=o:=by rw [<-ho];unfold tokP;rw [hf];simp [hk]
 rw [ho];have hcap:=hs.cap;have hcap2:=he.cap;have hl:=hs.length;have hl2:=he.length;have hin:i<n:=by rw [<-hl];exact zN hf
 obtain⟨H,hH⟩:=eX (w.heap.size);have HB:=((Sp.start w).blkH 24 #[.slice A n c] hH);have hbW:Below w.heap.size w (w.alloc (.cells #[.slice A n c] 24)):=HB.below M1;have HC:=XJ A n c fs _ (hV.on hbW) (hs.on hbW);rw [hsb,show OV true=0 from rfl]at HC;have HC:=zA HC;obtain⟨bf,of,f',rfl,hf',hbf,hef⟩:=hs.at_ hin
 cases hf'.out.symm.trans hf;obtain⟨A2,n2,c2,F0,F1,F2,F3,F4,F5,F6,hch, -, -, -, -⟩:=Field.at_ hef
 have Hch:Hid (zL w (·<w.heap.size) A2 n2 c2 f.chain):=hch;have F1:=zA F1;have F2:=zA F2;have He:=zA he;have Hl2:=zA hl2;have HV:=zA hV;have Ho:=zA ho2;have hi0:¬(i:Int)<0:=by omega
 have hi1:¬(n:Int)<=(i:Int):=by omega
 have hi2:(i:Int)<(n:Int):=by omega
 have hq0:decide ((i:Int)<0)=false:=by simp
 have hq1:decide ((n:Int)<=(i:Int))=false:=by simp;omega
 have hq2:decide (n<=i)=false:=by simp;omega
 rw [hk]at F1;clear hs he hsb hl hl2 ho2 ho hef F0 F3 F4 F5 F6 hch hf' hV;go_enter func10,ntmps10;go_wp2_with fail;refine HC.out.mono ?_;rintro r w1 ⟨rfl,hb⟩;have HS1:=HB.grow hb;have q1:=HS1.cl M0 0;have q2:w1.cell? ⟨bf,of+i*7+1,none⟩=some (.int .i64 1):=((HS1.below M1).cell hbf).trans F1.out;clear HB hbW hb HC;go_wp2;clear q1 q2
 have HS2:Sp w1 [TkA none 0 0 [],BlkA H 24 #[.slice (some ⟨bf,of,none⟩) n c],OldA w.heap.size w]:=HS1.nil 48 4
 go_loopg [7,41] m (fun gk v7 v41 wr=>∃(k:Nat) (A7:aA) (n7 c7:Nat) (out:List Token),v7= .slice A7 n7 c7/\v41= .int .i64 k/\k<=m/\gk=m - k/\out.length=n7/\n7<=4096*k/\(∀t∈out,0<=t.pos/\t.pos<4197*k)/\(cells.drop k).foldl (xx f.chain i) out=o/\
  Sp wr [TkA A7 n7 c7 out,BlkA H 24 #[.slice (some ⟨bf,of,none⟩) n c],OldA w.heap.size w])
 case atStart=>exact⟨0,none,0,0, [],rfl,rfl,zJ _,rfl,rfl,zJ _,by simp,Ho.out,HS2⟩
 case round=>
  obtain⟨k,A7,n7,c7,out,rfl,rfl,hk,rfl,hol,hn7,hpos,hst,HS⟩:=hrel;clear HS1 HS2;have Hol:=zA hol;have Hpos:=zA hpos;have Hst:=zA hst;clear hol hpos hst Ho
  by_cases hkm:k<m
  ·obtain⟨b,off,x,rfl,hxe,hb,hee⟩:=He.out.at_ hkm
   obtain⟨Ax,nx,cx,E0,E1,E2,hnum, -⟩:=yZ.at_ hee
   have E0:wr.cell? _=_:=((HS.below M2).cell hb).trans E0;have E1:wr.cell? _=_:=((HS.below M2).cell hb).trans E1;have E2:wr.cell? _=_:=((HS.below M2).cell hb).trans E2;obtain⟨ci,hci⟩:=eX (x.1);obtain⟨tx,htx⟩:=eX (x.2.1);rw [hci]at E0;rw [htx]at E1
   have hstep:(cells.drop (k+1)).foldl (xx f.chain i) (xx f.chain i out x)=o:=by
    rw [<-Hst.out];obtain⟨hl,rfl⟩:=List.getElem?_eq_some_iff.1 hxe.out;rw [za hl];rfl
   have Hstep:=zA hstep
   have Hpos2:Hid (∀t∈xx f.chain i out x,0<=t.pos/\t.pos<4197*((k+1:Nat):Int)):=fun t ht=>by
    have:=iS x Hpos.out (by omega) t ht;omega
   have Hlen2:Hid ((xx f.chain i out x).length<=4096*(k+1)):=by
    have:=gI f.chain i out x;have:=Hol.out;show _<=_;omega
   obtain⟨Eb,hEb⟩:=eX (wr.heap.size);have HSe:=HS.blkH 59 #[.int .i64 ci,.string tx,.slice Ax nx cx] hEb
   by_cases hc:ci=i
   ·subst hc;obtain⟨toks,htk⟩:=eX (runT f.chain tx);obtain⟨n5,hn5⟩:=eX (toks.length);have hn5b:n5<=4096:=(by rw [<-hn5,<-htk];exact dN _ _);obtain⟨bs,hbs⟩:=eX (aU out);have hs2:xx f.chain i out x=out++toks.map (VQ bs):=(by unfold xx;rw [if_pos hci,htx,htk,hbs]);rw [hs2]at Hstep Hpos2 Hlen2;have hl3:=Hlen2.out;simp only [zG,zK,hn5]at hl3;rw [Hol.out]at hl3
    have hbs2:0<=bs/\bs<=1000000:=by
     rw [<-hbs];unfold aU;rcases hlq:out.getLast? with _|u
     ·exact⟨Int.le_refl _,by show(0:Int)<=_;omega⟩
     ·have:=Hpos.out u (List.mem_of_getLast? hlq);exact⟨by show 0<=u.pos+101;omega,by show u.pos+101<=_;omega⟩
    have htp:Hid (∀t∈toks,0<=t.pos/\t.pos<4096):=(by rw [<-htk];exact mN _ _);obtain⟨w2,hw2⟩:=eX (wr.alloc (.cells #[.int .i64 (i:Int),.string tx,.slice Ax nx cx] 59));rw [hw2]at HSe;have HSd:=HSe.drew;have HR:=mQ A2 n2 c2 f.chain tx w2.drew (HV.out.on (HSd.below M3)) (Hch.out.on (HSd.below M3));rw [htk]at HR;have HR:=zA HR;have Hbs:=zA hbs;have Hn5:=zA hn5;have q3:=HSe.cl M0 0
    have q4:=HSe.cl M0 1;have q5:=HSe.cl M2 0;have q6:w2.cell? ⟨bf,of+i*7+2,none⟩=some (.slice A2 n2 c2):=((HSe.below M3).cell hbf).trans F2.out;clear HS HSe hee hnum hstep hs2 hbs hn5 htk;go_wp2
    go_region_held3 (fun W=>W.cell? ⟨Eb,1,none⟩=some (.string tx)/\W.cell? ⟨H,0,none⟩=some (.slice (some ⟨bf,of,none⟩) n c)/\W.cell? ⟨bf,of+i*7+2,none⟩=some (.slice A2 n2 c2)) (first|with_reducible assumption|(with_reducible exact⟨by assumption,by assumption,by assumption⟩)|go_keep|fail) (first
     |(go_at_call 47;refine HR.out.mono ?_;rintro r w3 ⟨v,er,rfl, -,hown,hb3⟩;obtain⟨A5,c5,rfl,HS5⟩:=Sp.ownFlat HSd hown hb3;rw [Hn5.out]at HS5⊢;have k1:=HS5.cl M1 1;have k2:=HS5.cl M3 0;have k3:w3.cell? ⟨bf,of+i*7+2,none⟩=some (.slice A2 n2 c2):=((HS5.below M4).cell hbf).trans F2.out)
     |fail)
    clear q3 q4 q5 q6 k1 k2 k3 HR HSd hw2 hEb hb3
    go_upto_if 64 with fail
    go_cut [12]from 65 to 72 (fun v12 W=>v12= .int .i64 bs/\W=w3)
    case first=>
     by_cases h0:n7=0
     ·subst h0;obtain rfl:=zS Hol.out;have h1:bs=0:=Hbs.out.symm;go_wp2
      go_meet
      exact⟨by rw [h1],rfl⟩
     ·obtain⟨j7,hj7⟩:=eX (n7 - 1);obtain⟨u,hu⟩:∃u,out[j7]? =some u:=⟨_,zB (by have:=Hol.out;omega)⟩;have hsub:(n7:Int) - 1=(j7:Int):=(by omega);have hj8:(j7:Int)<(n7:Int):=(by omega);have h1:(0:Int)<(n7:Int):=(by omega)
      have hu2:aU out=u.pos+101:=by
       unfold aU;rw [List.getLast?_eq_getElem?,Hol.out,hj7,hu]
      have hup:=Hpos.out u (zD hu);obtain⟨g7,rfl, -, -⟩:=(HS5.rowOf M2).at_ (by omega)
      have q7:w3.cell? ⟨g7,j7*4+1,none⟩=some (.int .i64 u.pos):=HS5.rowCell M2 (KQ hu);clear hj7;go_wp2
      all_goals go_meet
      all_goals
       refine⟨?_,rfl⟩
       first
        |(exfalso;omega)
        |(rw [<-Hbs.out,hu2];exact congrArg (Value.int .i64) (by omega))
    case rest=>
     obtain⟨rfl,rfl⟩:=hcut
     have HS6:Sp wc [TkA A7 (n7+0) c7 (out++(toks.take 0).map (VQ bs)),DatA (.slice A5 n5 c5) toks,BlkA H 24 #[.slice (some ⟨bf,of,none⟩) n c],OldA w.heap.size w]:=by
      have:=Sp.selT [_,_,_,_] HS5 [2,0,3]
      simpa using this
     go_wp2
     go_loopg [7,75] n5 (fun gj v7 v75 wr=>∃(j:Nat) (A8:aA) (n8 c8:Nat),v7= .slice A8 n8 c8/\n8=n7+j/\v75= .int .i64 j/\j<=n5/\gj=n5 - j/\Sp wr [TkA A8 n8 c8 (out++(toks.take j).map (VQ bs)),DatA (.slice A5 n5 c5) toks,BlkA H 24 #[.slice (some ⟨bf,of,none⟩) n c],OldA w.heap.size w])
     case atStart=>exact⟨0,A7,n7,c7,rfl,rfl,rfl,zJ _,rfl,HS6⟩
     case round=>
      obtain⟨j,A8,n8,c8,rfl,hn8,rfl,hj,rfl,HS7⟩:=hrel;have Hn8:=zA hn8;have hn9:n8<=300000:=(by omega);clear HS5 HS6 hn8
      by_cases hjn:j<n5
      ·obtain⟨bt,ot,tk,rfl,hxt,hbt,het⟩:=(HS7.ls M1).at_ hjn
       obtain⟨T0,T1,T2,T3,htok⟩:=Token.at_ het
       have htq:=htp.out tk (zD hxt.out);obtain⟨Tb,hTb⟩:=eX (wr.heap.size);have HSt:=(HS7.blkH 48 #[.string tk.text,.int .i64 (tk.pos+bs),.int .i64 tk.from_,.int .i64 tk.to_] hTb).p1;obtain⟨w4,hw4⟩:=eX (wr.alloc (.cells #[.string tk.text,.int .i64 (tk.pos+bs),.int .i64 tk.from_,.int .i64 tk.to_] 48));rw [hw4]at HSt;have Hw4:=zA hw4;clear hw4;go_upto_region 17 with fail;rw [Hw4.out]
       have z0:=HSt.cl M1 0;have z1:=HSt.cl M1 1;have z2:=HSt.cl M1 2;have z3:=HSt.cl M1 3;have Hown:=zA hown;clear T0 T1 T2 T3 het Hw4 HS7 hTb hown
       go_wp2_with (at_builtin;refine yC FH (.tmp 84) (.tmp 86) rfl rfl HSt rfl (cs:= #[.string tk.text,.int .i64 (tk.pos+bs),.int .i64 tk.from_,.int .i64 tk.to_]) rfl rfl rfl (by intro u hu;simp at hu;rcases hu with rfl|rfl|rfl|rfl<;>rfl) (by omega) (by omega) ?_;intro A9 c9 w5 hc9 hm9 HS8)
       have efl:(out++(toks.take j).map (VQ bs)).flatMap Token.cells++(#[Value.string tk.text,Value.int .i64 (tk.pos+bs),Value.int .i64 tk.from_,Value.int .i64 tk.to_]:aG).toList=(out++(toks.take (j+1)).map (VQ bs)).flatMap Token.cells:=by
        rw [zI,hxt.out];simp [Token.cells,VQ]
       rw [efl]at HS8;have HS9:=HS8.d1;clear z0 z1 z2 z3 HSt HS8 efl;go_wp2
       go_roundg (n5 - (j+1))
       ·exact⟨j+1,A9,n8+1,c9,rfl,by have:=Hn8.out;omega,by go_num,by omega,rfl,HS9⟩
       ·omega
      ·have hjn2:j=n5:=(by omega);rw [zF (by rw [Hn5.out];omega)]at HS7;go_wp2
       go_roundg (m - (k+1))
       case measure=>omega
       case rel=>
        exact⟨k+1,A8,n8,c8,_,rfl,by go_num,by omega,rfl,by have:=Hn8.out;simp [Hol.out,Hn5.out];omega,by have:=Hn8.out;omega,Hpos2.out,Hstep.out,HS7.d1⟩
   ·have hs2:xx f.chain i out x=out:=(by unfold xx;rw [if_neg (by rw [hci];exact hc)]);rw [hs2]at Hstep Hpos2 Hlen2;have hl3:=Hlen2.out;rw [Hol.out]at hl3;have HS3:=HSe.tail;clear HS HSe hee hnum hstep Hlen2 hs2 hEb;go_wp2
    go_roundg (m - (k+1))
    ·exact⟨k+1,A7,n7,c7,out,rfl,by go_num,by omega,rfl,Hol.out,hl3,Hpos2.out,Hstep.out,HS3⟩
    ·omega
  ·obtain rfl:k=m:=by omega
   have hfin:out=o:=(by rw [<-Hst.out,zQ (by rw [Hl2.out];omega)];rfl);subst hfin;go_wp2;go_ret
   exact⟨A7,n7,c7,rfl,Hol.out.symm,by omega,HS.d1⟩
end Go.Proofs.YtjbhbfaeielbiaaGreatDoor

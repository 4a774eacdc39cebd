import Derived.Test.YtjbhbfaeielbiaaGreatDoorPart16
import Derived.Test.YtjbhbfaeielbiaaGreatDoorPart15
import Derived.Deep.DeepCutAuto
set_option maxRecDepth 100000
set_option maxHeartbeats 8000000
set_option linter.unusedVariables false
set_option linter.unusedSimpArgs false
namespace Go.Proofs.YtjbhbfaeielbiaaGreatDoor
open Tryz
open Rep (rep)
open Go.RowKit
def docD:Int->List PostD->aD
 |_, []=> []
 |last,p::l=>(p.doc - last - 1)::docD p.doc l
def posD:Int->aD->aD
 |_, []=> []
 |at_,z::l=>(z - at_)::posD z l
def ZS (l:List PostD):aD:=l.map fun p=>(p.pos.length:Int) - 1
def ym (l:List PostD):aD:=l.flatMap fun p=>posD 0 p.pos
def Yu (l:List PostD) (last:Int):aC:=putL (docD last l)++putL (ZS l)++putL (ym l)
theorem WJ:∀(at_:Int) (l:aD),(posD at_ l).length=l.length
 |_, []=>rfl
 |_,z::l=>by simp [posD,WJ z l]
theorem yb {α:Type} {l:List α} {k:Nat} {x:α} (h:l[k]? =some x):l.drop k=x::l.drop (k+1):=by
 obtain⟨hk,rfl⟩:=List.getElem?_eq_some_iff.1 h;exact za hk
abbrev IA (A:aA) (m c:Nat) (l:aD):Asn:=RowA 2 1 (.slice A m c) m (ints l)
theorem Sp.ilen {w:O} {L:List Asn} {A:aA} {m c:Nat} {l:aD} (h:Sp w L) (hm:IA A m c l∈L):l.length=m/\m<=c/\c<=9223372036854775807:=by
 have:=h.rowOf hm;exact⟨by have h:=this.1;rw [Xd]at h;omega,this.cap.2⟩
theorem DK {w:O} {A1 A2 A3:aA} {n1 n2 n3:Nat} (c1 c2 c3:Nat) {l1 l2 l3:aC} (t:TypeId) (h1:RB w A1 n1 l1) (h2:RB w A2 n2 l2) (h3:RB w A3 n3 l3) (k1:n1<=9223372036854775807) (k2:n2<=9223372036854775807) (k3:n3<=9223372036854775807) {H:Nat} (hH:w.heap.size=H):
 OY (w.alloc (.cells #[.slice A1 n1 c1,.slice A2 n2 c2,.slice A3 n3 c3] t)) (some ⟨H,0,none⟩) 3 [l1,l2,l3]:=by
 subst hH;have e1:=h1.len;have e2:=h2.len;have e3:=h3.len;subst e1 e2 e3;have hb:Below w.heap.size w (w.alloc (.cells #[.slice A1 l1.length c1,.slice A2 l2.length c2,.slice A3 l3.length c3] t)):=(zE _ _).alloc (zC _) _;have hk:=Blk.new w t #[.slice A1 l1.length c1,.slice A2 l2.length c2,.slice A3 l3.length c3];refine⟨rfl,fun k l' hl=> ?_⟩;have h0:k=0\/k=1\/k=2:=by have:=zN hl;simp at this;omega
 rcases h0 with rfl|rfl|rfl<;>(simp at hl;subst hl)
 ·exact⟨w.heap.size,0,A1,c1,rfl,by simp,hk.cell 0,h1.on hb,k1⟩
 ·exact⟨w.heap.size,0,A2,c2,rfl,by simp,hk.cell 1,h2.on hb,k2⟩
 ·exact⟨w.heap.size,0,A3,c3,rfl,by simp,hk.cell 2,h3.on hb,k3⟩
def YJ (ps:List PostD):Prop:=∀p∈ps,0<=p.doc/\p.doc<16384/\p.pos.length<=1048576/\∀z∈p.pos,0<=z/\z<=1048576
theorem cU:∀(l:List PostD) (last:Int), -1<=last->last<16384->YJ l->InL (docD last l)
 | [],_,_,_,_,x,hx=>by cases hx
 |p::l,last,h1,h2,hp,x,hx=>by
  have h3:=hp p (by simp);rcases yx.1 hx with rfl|hx
  ·omega
  ·exact cU l p.doc (by omega) h3.2.1 (fun q hq=>hp q (by simp [hq])) x hx
theorem oU:∀(l:aD) (at_:Int),0<=at_->at_<=1048576->(∀z∈l,0<=z/\z<=1048576)->InL (posD at_ l)
 | [],_,_,_,_,x,hx=>by cases hx
 |z::l,at_,h1,h2,hz,x,hx=>by
  have h3:=hz z (by simp);rcases yx.1 hx with rfl|hx
  ·omega
  ·exact oU l z h3.1 h3.2 (fun q hq=>hz q (by simp [hq])) x hx
theorem d8 {l:List PostD} (hp:YJ l):InL (ZS l):=by
 intro x hx;obtain⟨p,h,rfl⟩:=List.mem_map.1 hx;have:=(hp p h).2.2.1;omega
theorem VT {l:List PostD} (hp:YJ l):InL (ym l):=by
 intro x hx;obtain⟨p,h,hx⟩:=List.mem_flatMap.1 hx;exact oU p.pos 0 (by omega) (by omega) (hp p h).2.2.2 x hx
theorem IP (A:aA) (n c:Nat) (ps:List PostD) (last0:Int) (w:O) (hn:n<=1000000) (hl:zL w (·<w.heap.size) A n c ps) (hp:YJ ps) (hl0: -1<=last0/\last0<16384) (hpl:(ym ps).length<=1000000000):
 Calls prog 265 #[.slice A n c,.int .i64 last0] w fun e w' =>∃A' m c',e= .returned (.slice A' m c')/\Sp w' [BA A' m c' (Yu ps last0),OldA w.heap.size w]:=by
 have Hlen:=zA hl.length;have Hl:=zA hl;have Hp:=zA hp;have Hpl:=zA hpl;clear hl hp hpl;have HS0:=(((Sp.start w).nil 2 1).nil 2 1).nil 2 1;go_enter func265,ntmps265;go_wp2
 go_loopg [1,5,6,7,15] n (fun gk vl v5 v6 v7 vi wr=>∃(k:Nat) (last:Int) (A5 A6 A7:aA) (c5 c6 m7 c7:Nat) (dd ff pp:aD),k<=n/\gk=n - k/\vi= .int .i64 k/\vl= .int .i64 last/\ -1<=last/\last<16384/\v5= .slice A5 k c5/\v6= .slice A6 k c6/\v7= .slice A7 m7 c7/\
  Hid (docD last0 ps=dd++docD last (ps.drop k))/\Hid (ZS ps=ff++ZS (ps.drop k))/\Hid (ym ps=pp++ym (ps.drop k))/\Sp wr [IA A5 k c5 dd,IA A6 k c6 ff,IA A7 m7 c7 pp,OldA w.heap.size w])
 case atStart=>exact⟨0,last0,none,none,none,0,0,0,0, [], [], [],zJ _,rfl,rfl,rfl,hl0.1,hl0.2,rfl,rfl,rfl,rfl,rfl,rfl,HS0⟩
 case round=>
  obtain⟨k,last,A5,A6,A7,c5,c6,m7,c7,dd,ff,pp,hk,rfl,rfl,rfl,hl1,hl2,rfl,rfl,rfl,HD,HF,HP,HS⟩:=hrel;have hbl:=HS.below (.tail _ (.tail _ (.tail _ (.head _))))
  by_cases hlt:k<n
  ·obtain⟨b,off,p,rfl,Hx,hb,he⟩:=Hl.out.at_ hlt
   obtain⟨A2,n2,c2,e0,e1,h2,hd⟩:=PostD.at_ he
   have hc0:=(hbl.cell (p:=⟨b,off+k*2,none⟩) hb).trans e0;have hc1:=(hbl.cell (p:=⟨b,off+k*2+1,none⟩) hb).trans e1;obtain⟨d,hd0⟩:=eX (p.doc);obtain⟨hp1,hp2,hp3,hp4⟩:=Hp.out p (zD Hx.out);have hn2:=h2.length;rw [hd0]at hc0 hp1 hp2;rw [hn2]at hp3;have Hdr:=zA (yb Hx.out);have Hd0:=zA hd0;have Hn2:=zA hn2;have Hp4:=zA hp4;have H2:=zA h2;have HSa:=(HS.blk 116 #[.int .i64 d,.slice A2 n2 c2]).p1
   have hm7b:m7+n2<=1000000000:=by
    have h:=congrArg List.length HP.out;rw [Hdr.out]at h;simp only [ym,zp,zG,WJ,Hn2.out]at h;have h3:=Hpl.out;have h4:=(HS.ilen (.tail _ (.tail _ (.head _)))).1;simp only [ym]at h3;omega
   clear e0 e1 he hd hd0 hn2 hp4 h2 hbl;have hcp:=(HS.ilen (.tail _ (.tail _ (.head _)))).2
   go_wp2_with (first
    |(at_builtin;refine yC Zs (.tmp 19) (.tmp 25) rfl rfl HSa rfl (cs:= #[.int .i64 (d - last - 1)]) rfl (by simp) rfl (by intro u hu;simp at hu;subst hu;rfl) (by omega) (by omega) ?_;intro A8 c8 w8 hc8 hm8 HS8;have q0:=HS8.cell (.tail _ (.head _)) 0;have q1:=HS8.cell (.tail _ (.head _)) 1)
    |(at_builtin;refine yC Zs (.tmp 29) (.tmp 34) rfl rfl HS8.p2 rfl (cs:= #[.int .i64 ((n2:Int) - 1)]) rfl rfl rfl (by intro u hu;simp at hu;subst hu;rfl) (by omega) (by omega) ?_;intro A9 c9 w9 hc9 hm9 HS9;have r1:=HS9.cell (.tail _ (.tail _ (.head _))) 1))
   have HS9' :Sp w9 [IA A7 m7 c7 (pp++ []),IA A9 (k+1) c9 (ff++ [(n2:Int) - 1]),IA A8 (k+1) c8 (dd++ [d - last - 1]),BlkA wr.heap.size 116 #[.int .i64 d,.slice A2 n2 c2],OldA w.heap.size w]:=by
    rw [zo];have h:=HS9.p3;have e1:ints (ff++ [(n2:Int) - 1])=ints ff++ #[Value.int .i64 ((n2:Int) - 1)].toList:=(by simp [ints]);have e2:ints (dd++ [d - last - 1])=ints dd++ #[Value.int .i64 (d - last - 1)].toList:=(by simp [ints]);unfold IA;rw [e1,e2];exact h
   clear HS8 HS9 HSa q0 q1
   go_loopg [7,10,12,39] n2 (fun gq v7 va v12 vq wq=>∃(q:Nat) (at_:Int) (A7:aA) (c7:Nat) (qq:aD),vq= .int .i64 q/\q<=n2/\gq=n2 - q/\va= .int .i64 at_/\0<=at_/\at_<=1048576/\v7= .slice A7 (m7+q) c7/\Hid (posD 0 p.pos=qq++posD at_ (p.pos.drop q))/\Sp wq [IA A7 (m7+q) c7 (pp++qq),IA A9 (k+1) c9 (ff++ [(n2:Int) - 1]),IA A8 (k+1) c8 (dd++ [d - last - 1]),BlkA wr.heap.size 116 #[.int .i64 d,.slice A2 n2 c2],OldA w.heap.size w])
   case atStart=>exact⟨0,0,A7,c7, [],rfl,zJ _,rfl,rfl,by omega,by omega,rfl,rfl,HS9'⟩
   case round=>
    obtain⟨q,at_,A7,c7,qq,rfl,hq,rfl,rfl,ha1,ha2,rfl,HQ,HS2⟩:=hrel;have hb2:=HS2.below (.tail _ (.tail _ (.tail _ (.tail _ (.head _)))))
    by_cases hqn:q<n2
    ·obtain⟨b2,off2,z,rfl,Hz,hbz,hez⟩:=H2.out.at_ hqn
     have hcz:=(hb2.cell (p:=⟨b2,off2+q,none⟩) hbz).trans hez.int.1;have hzr:=Hp4.out z (zD Hz.out);have Hdq:=zA (yb Hz.out);have hzr1:=hzr.1;have hzr2:=hzr.2;clear hez hzr r1 hb2;go_wp2_with (at_builtin;refine yC Zs (.tmp 43) (.tmp 47) rfl rfl HS2 rfl (cs:= #[.int .i64 (z - at_)]) rfl rfl rfl (by intro u hu;simp at hu;subst hu;rfl) (by omega) (by omega) ?_;intro A3 c3 w3 hc3 hm3 HS3)
     go_roundg (n2 - (q+1))
     case measure=>omega
     case rel=>
      have e:ints (pp++(qq++ [z - at_]))=ints (pp++qq)++ #[Value.int .i64 (z - at_)].toList:=(by rw [<-zO];simp [ints]);exact⟨q+1,z,A3,c3,qq++ [z - at_],by go_num,by omega,rfl,rfl,hzr1,hzr2,rfl,by show _=_;rw [HQ.out,Hdq.out];simp [posD],by unfold IA;rw [e];exact HS3⟩
    ·obtain rfl:q=n2:=by omega
     have HQ2:Hid (posD 0 p.pos=qq):=(by show _=_;rw [HQ.out,zQ (by rw [Hn2.out];omega)];simp [posD]);clear r1 hb2;go_wp2
     go_roundg (n - (k+1))
     case measure=>omega
     case rel=>
      refine⟨k+1,d,A8,A9,A7,c8,c9,m7+q,c7,dd++ [d - last - 1],ff++ [(q:Int) - 1],pp++qq,by omega,rfl,by go_num,rfl,by omega,by omega,rfl,rfl,rfl,?_,?_,?_,HS2.d3.p2.p2.p1⟩
      ·show _=_;rw [HD.out,Hdr.out];simp [docD,Hd0.out]
      ·show _=_;rw [HF.out,Hdr.out];simp [ZS,Hn2.out]
      ·show _=_;rw [HP.out,Hdr.out];simp [ym,HQ2.out]
  ·obtain rfl:k=n:=by omega
   have hend:ps.drop k= []:=zQ (by rw [Hlen.out];omega);have hD:dd=docD last0 ps:=(by have:=HD.out;rw [hend]at this;simpa [docD]using this.symm);have hF:ff=ZS ps:=(by have:=HF.out;rw [hend]at this;simpa [ZS]using this.symm);have hP:pp=ym ps:=(by have:=HP.out;rw [hend]at this;simpa [ym]using this.symm);subst hD hF hP
   have hm7:m7<=1000000000:=(by have:=(HS.ilen (.tail _ (.tail _ (.head _)))).1;have:=Hpl.out;omega);have q5:=(HS.ilen (.head _)).2;have q6:=(HS.ilen (.tail _ (.head _))).2;have q7:=(HS.ilen (.tail _ (.tail _ (.head _)))).2;have P1:=zA (Qc A5 k c5 (docD last0 ps) wr (by omega) q5.1 q5.2 (HS.rc (.head _)) (cU ps last0 hl0.1 hl0.2 Hp.out));clear hend hbl;go_wp2_with fail;refine P1.out.mono ?_
   rintro e w1 ⟨B1,m1,rfl,hm1,HT1⟩;have HS1:=HS.c1 HT1;have P2:=zA (Qc A6 k c6 (ZS ps) w1 (by omega) q6.1 q6.2 (HS1.rc (.tail _ (.tail _ (.head _)))) (d8 Hp.out));go_wp2_with fail;refine P2.out.mono ?_;rintro e w2 ⟨B2,m2,rfl,hm2,HT2⟩;have HS2:=HS1.c1 HT2;have P3:=zA (Qc A7 m7 c7 (ym ps) w2 hm7 q7.1 q7.2 (HS2.rc (.tail _ (.tail _ (.tail _ (.tail _ (.head _)))))) (VT Hp.out));go_wp2_with fail
   refine P3.out.mono ?_;rintro e w3 ⟨B3,m3,rfl,hm3,HT3⟩;have HS3:=HS2.c1 HT3;have hr1:=(HS3.rb (.tail _ (.tail _ (.head _)))).1;have hr2:=(HS3.rb (.tail _ (.head _))).1;have hr3:=(HS3.rb (.head _)).1;have e1:=hr1.len;have e2:=hr2.len;have e3:=hr3.len
   have P4:=zA (fun t=>j3 (some ⟨w3.heap.size,0,none⟩) 3 3 [putL (docD last0 ps),putL (ZS ps),putL (ym ps)] _ (by omega) (DK m1 m2 m3 t hr1 hr2 hr3 (by omega) (by omega) (by omega) rfl) (by simp;omega));clear hr1 hr2 hr3 e1 e2 e3;go_wp2_with fail;refine(P4.out _).mono ?_;rintro e w4 ⟨B4,m4,c4,rfl,HT4⟩;have HS4:=(HS3.al _).c1 HT4;go_wp2;go_ret
   refine⟨B4,m4,c4,rfl,?_⟩;have e: [putL (docD last0 ps),putL (ZS ps),putL (ym ps)].flatten=Yu ps last0:=(by simp [Yu]);rw [e]at HS4;exact HS4.d1.d1.d1.d1.d1.d1
attribute [local go_sem ↓] zU zV
theorem lU:Elt prog 128 65 1 24:=xt underlying128 (by decide) (by kernel_rfl)
theorem GR:(Tryz.prog.info? 3).bind (fun i=>i.zero)=some (.int .i64 0):=by kernel_rfl
theorem nE (N:Nat):(madeCells (Value.int .i64 0).cells (N*1)).toList=ints (List.replicate N 0):=by
 apply List.ext_getElem
 ·simp [madeCells,ints]
 ·intro i h1 h2;simp [madeCells,ints,Value.cells,Nat.mod_one]
abbrev NA (A:aA) (m c:Nat) (l:aD):Asn:=RowA 3 1 (.slice A m c) m (ints l)
def aO (secs:List aC):aC:=secs.flatMap fun s=>zP s.length
def Vx (secs:List aC):aD:=secs.map fun s=>(s.length:Int)
theorem VR {kind:UInt8} {secs:List aC} (h:xR kind secs=true):
 ZN kind (ZQ kind secs)=true/\8<=(ZQ kind secs).length/\(ZQ kind secs).length<=16777216/\secs.length<=1024/\(∀s∈secs,s.length<=16777216)/\
  ((ZQ kind secs).take ((ZQ kind secs).length - 4)).drop 4=zP secs.length++(aO secs++secs.flatten):=by
 have h0:=DT h
 have hs:ZN kind (ZQ kind secs)=true:=by
  unfold gD at h0
  split at h0
  ·assumption
  ·cases h0
 simp only [xR,zM,decide_eq_true_eq]at h;have hlen:(ZQ kind secs).length=(xN kind secs).length+4:=by simp [ZQ,Za]
 refine⟨hs,?_,by omega,h.1,?_,?_⟩
 ·have:=hs;unfold ZN at this;simp only [zM,decide_eq_true_eq]at this;exact this.1.1
 ·intro s hs;have h2:=h.2;simp only [xN,zG,List.length_flatten]at h2;have:s.length<=(secs.map List.length).sum:=Uc (List.mem_map.2 ⟨s,hs,rfl⟩);omega
 ·rw [hlen,Nat.add_sub_cancel,ZQ,List.take_left];simp [xN,WS,aO]
theorem IL {secs:List aC} {k:Nat} {s:aC} (h:secs[k]? =some s):aO (secs.drop k)=zP s.length++aO (secs.drop (k+1)):=by
 rw [yb h];rfl
theorem LS {secs:List aC} {k:Nat} {s:aC} (h:secs[k]? =some s):(secs.drop k).flatten=s++(secs.drop (k+1)).flatten:=by
 rw [yb h];rfl
theorem WR (l:aD) (j:Nat) (x:Int):ints (l.set j x)=(ints l).set j (.int .i64 x):=by
 unfold ints;rw [List.map_set]
theorem Z9 {l:aD} {j:Nat} {x:Int} (h:l[j]? =some x):(ints l)[j]? =some (.int .i64 x):=by
 unfold ints;rw [zH,h];rfl
theorem Xx {α:Type} {l m:List α} {k:Nat} {x:α} (hl:k<l.length) (h:l.take k=m.take k) (hx:m[k]? =some x):(l.set k x).take (k+1)=m.take (k+1):=by
 rw [zI,zI,hx,List.take_set_of_le (zC _),h];simp [hl]
theorem DU (kind:UInt8) (secs:List aC) (A:aA) (nb c:Nat) (w:O) (hc:nb<=c) (hc2:c<=9223372036854775807) (hl:RB w A nb (ZQ kind secs)) (hf:xR kind secs=true):
 Calls prog 72 #[.int .u8 (kind.toNat:Int),.slice A nb c] w fun e w' =>∃A' m,e= .returned (.tuple #[.slice A' m m,.int .i64 0])/\Sp w' [DatA (.slice A' m m) secs,OldA w.heap.size w]:=by
 have Hlen:=zA hl.len;have hnc:=hc;obtain⟨f1,f2,f3,f4,f5,f6⟩:=VR hf;obtain⟨b,hb⟩:=eX (ZQ kind secs);rw [hb]at hl Hlen f1 f2 f3 f6;have hk:Qy b=some kind:=sU f1;have Hk:=zA (show Calls prog 126 #[.slice A nb c] w fun e w' =>e= .returned (.tuple #[.int .u8 (kind.toNat:Int),.bool true])/\w=w' by have h:=nJ A nb c b w hc hc2 hl;rw [hk]at h;exact h);have hln:=Hlen.out
 obtain⟨q,hq⟩:∃q:Nat,nb=q+4:=⟨nb - 4,by omega⟩;have hqe:IntKind.i64.wrap ((nb:Int) - 4)=(q:Int):=by rw [zT];omega
 have hq1:(q:Int)<=nb:=by omega
 have hq2:(q:Int)<=c:=by omega
 have hq3:¬((q:Int)<4):=by omega
 have hq3b:decide ((q:Int)<4)=false:=by simp [hq3]
 have hq4:(0:Int)<=q:=by omega
 have hq5:(4:Int)<=q:=by omega
 have hnc:(nb:Int)<=c:=by omega
 have hnq:nb - q=4:=by omega
 have hbig' :(nb:Int)<=16777216:=by omega
 have hm1:secs.length<=1024:=f4;have hHq:((ZQ kind secs).take q).drop 4=zP secs.length++(aO secs++secs.flatten):=by rw [hb];rw [show b.length - 4=q by omega]at f6;exact f6
 rw [hb]at hHq
 have Hne:Hid ((b.drop q==Za (sumL [b.take q].flatten))=true):=by
  show _=_;unfold ZN at f1;simp only [zM,decide_eq_true_eq]at f1;have:=f1.2;rw [show b.length - 4=q by omega]at this;simp [this]
 have hD:RB w A q (b.take q):=hl.take (by omega);have hT:RB w (if c=q then A else A.map (·.add q)) (nb - q) (b.drop q):=hl.tail hc (by omega);have hB:RB w (if c=4 then A else A.map (·.add 4)) (q - 4) ((b.take q).drop 4):=hD.tail (by omega) (by omega);rw [hHq]at hB;obtain⟨s,hs⟩:=eX (sumL [b.take q].flatten);have hs2:s<4294967296:=by rw [<-hs];exact eT _
 rw [hs]at Hne;obtain⟨k1,hk1⟩:∃k1:Int,(kind.toNat:Int)=k1:=⟨_,rfl⟩;rw [hk1]at Hk⊢;have hkb:(k1==k1)=true:=by simp
 have hkb2:(k1 !=k1)=false:=by simp
 obtain⟨bk,off,rfl⟩:∃bk off,A=some ⟨bk,off,none⟩:=by obtain⟨bk,off,e,_⟩:=hl.2 (by omega);exact⟨bk,off,e⟩
 have HSum:=zA (eS (some ⟨w.heap.size,0,none⟩) 1 1 [b.take q] ((w.alloc (.cells #[.slice (some ⟨bk,off,none⟩) q c] 65)).drew) (by omega) (eW c 65 (hD.on (w' :=w.drew) (zE _ _).drew) (by omega) rfl));rw [hs]at HSum;rw [if_neg (by omega),hnq]at hT;have HT:=zA (show RB w (some ⟨bk,off+q,none⟩) 4 (b.drop q) by simpa [Addr.add,show q≠0 by omega]using hT);rw [if_neg (by omega)]at hB
 have HB:=zA (show RB w (some ⟨bk,off+4,none⟩) (q - 4) (zP secs.length++(aO secs++secs.flatten)) by simpa [Addr.add]using hB);have F5:=zA f5;have hq6:q - 4<=140737488355328:=by omega
 have HS:=((Sp.start w).al (.cells #[.slice (some ⟨bk,off,none⟩) q c] 65)).drew;clear hD hT hs hB hl f1 f2 f3 f4 f5 f6 hk hk1 hHq hb hln hq hc;go_enter func72,ntmps72;go_wp2_with (refine Hk.out.mono ?_;rintro e w2 ⟨rfl,rfl⟩)
 go_region_held3 (fun _=>True) (trivial) (first
  |(go_at_call 128;refine HSum.out.mono ?_;rintro e5 w5 ⟨rfl,hb5⟩;have HS5:=HS.grow hb5)
  |(go_at_call 127;refine(eA s w5 hs2).mono ?_;rintro e6 w6 ⟨A4,rfl,hr4,hb6⟩;have HS6:=HS5.grow hb6;have hr5:RB w6 A4 4 (Za s):=hr4.rc;have Heq:=zA (lS (some ⟨bk,off+q,none⟩) 4 (c - q) (b.drop q) A4 4 4 (Za s) w6 (HT.out.on (HS6.below (.head _))) hr5);rw [Hne.out]at Heq)
  |(go_at_call 57;refine Heq.out.mono ?_;rintro e7 w7 ⟨rfl,rfl⟩))
 go_wp2_with fail;refine(VG HS6 (HB.out.on (HS6.below (.head _))) hq6).mono ?_;rintro e w7 ⟨p,rfl,HS7⟩;obtain⟨m,hm⟩:=eX (secs.length);have HS8:Sp w7 [RdA p (rsAt [] (zP m++(aO secs++secs.flatten))),OldA w.heap.size w]:=by rw [<-hm];simpa [rsAt]using HS7
 have HR0:=zA (ZH HS8 1024 (by omega));rw [yn (by omega) (by omega)]at HR0;clear HS HS5 HS6 HS7 HS8;have Hm:=zA hm;rw [hm]at hm1;clear hm;go_wp2_with fail;refine HR0.out.mono ?_;rintro e w8 ⟨rfl,HS8⟩;have hw8:∃H,w8.heap.size=H:=⟨_,rfl⟩;obtain⟨H,hH⟩:=hw8;go_wp2_with (at_make;refine Zk Xr (.tmp 55) (.tmp 55) rfl rfl HS8 hH rfl rfl (by omega) (by omega) GR ?_;intro w9 HS9;rw [nE]at HS9)
 go_loopg [59] m (fun gk vi wr=>∃(k:Nat) (cur:aD) (pre:aC),vi= .int .i64 k/\k<=m/\gk=m - k/\cur.length=m/\Hid (cur.take k=(Vx secs).take k)/\Sp wr [NA (some ⟨H,0,none⟩) m m cur,RdA p (rsAt pre (aO (secs.drop k)++secs.flatten)),OldA w.heap.size w])
 case atStart=>exact⟨0,List.replicate m 0,_,rfl,zJ _,rfl,by simp,rfl,HS9⟩
 case round=>
  obtain⟨k,cur,pre,rfl,hk,rfl,hcu,HC,HS⟩:=hrel
  by_cases hkm:k<m
  ·obtain⟨s,Hs⟩:∃s,Hid (secs[k]? =some s):=⟨_,zB (by rw [Hm.out];exact hkm)⟩;have hsl:=F5.out s (zD Hs.out);obtain⟨n,hn⟩:=eX (s.length);have HR:=zA (ZH HS.p1 16777216 (by omega));rw [IL Hs.out,hn,zO,yn (by omega) (by omega)]at HR
   have HC2:Hid ((cur.set k (n:Int)).take (k+1)=(Vx secs).take (k+1)):=
    Xx (by omega) HC.out (by unfold Vx;rw [zH,Hs.out,<-hn];rfl)
   clear hn hsl;go_wp2_with (go_at_call 74;refine HR.out.mono ?_;rintro e w2 ⟨rfl,HS2⟩;have hco:=HS2.p1.rowCell (.head _) (Z9 (zB (l:=cur) (i:=k) (by omega)));have hfo:=HS2.p1.rowFree (.head _) k);have HS3:=HS2.p1.rowSet k (.int .i64 (n:Int));rw [<-WR]at HS3
   go_roundg (m - (k+1))
   ·exact⟨k+1,cur.set k (n:Int),_,by go_num,by omega,rfl,by simp [hcu],HC2,HS3⟩
   ·omega
  ·obtain rfl:k=m:=by omega
   have hcur:cur=Vx secs:=by
    have h:=HC.out
    rwa [zF (by omega),zF (by unfold Vx;rw [zK,Hm.out];omega)]at h
   subst hcur
   have HS1:Sp wr [NA (some ⟨H,0,none⟩) k k (Vx secs),RdA p (rsAt pre ((secs.drop 0).flatten)),OldA w.heap.size w]:=by
    rw [zQ (by rw [Hm.out];omega)]at HS;exact HS
   have HS2:=((HS1.elsNil (α:=aC)).nil 65 1);clear HS HS1 HC HS9 HS8;go_wp2
   go_loopg [12,70] k (fun gk vo vi wr=>∃(j:Nat) (A1:aA) (c1:Nat) (css:List aF) (pre:aC),vo= .slice A1 j c1/\vi= .int .i64 j/\j<=k/\gk=k - j/\Sp wr [RowA 65 1 (.slice A1 j c1) j css.flatten,ElsA css (secs.take j),RdA p (rsAt pre ((secs.drop j).flatten)),NA (some ⟨H,0,none⟩) k k (Vx secs),OldA w.heap.size w])
   case atStart=>exact⟨0,none,0, [],pre,rfl,rfl,zJ _,rfl,by simpa using(HS2.p3.p2.p2)⟩
   case round=>
    obtain⟨j,A1,c1,css,pre,rfl,rfl,hj,rfl,HS⟩:=hrel
    by_cases hjk:j<k
    ·obtain⟨s,Hs⟩:∃s,Hid (secs[j]? =some s):=⟨_,zB (by rw [Hm.out];exact hjk)⟩;have hsl:=F5.out s (zD Hs.out);have hcell:=HS.rowCell (.tail _ (.tail _ (.tail _ (.head _)))) (Z9 (l:=Vx secs) (x:=(s.length:Int)) (by unfold Vx;rw [zH,Hs.out];rfl));have HR:=zA (oT HS.p2 s.length (by omega));rw [LS Hs.out,X4]at HR;have htk:=zA (show secs.take (j+1)=secs.take j++ [s] by rw [zI,Hs.out];rfl)
     obtain⟨n,hn⟩:=eX (s.length);rw [hn]at hcell HR hsl;clear hn
     go_wp2_with (first
      |(go_at_call 76;refine HR.out.mono ?_;rintro e w2 ⟨A5,n5,rfl,HS5⟩;have HS6:=HS5.p2)
      |(at_builtin;refine yC lU (.tmp 74) (.tmp 78) rfl rfl HS6 rfl (cs:= #[.slice A5 n5 n5]) rfl rfl rfl (by intro u hu;simp at hu;subst hu;rfl) (by omega) (by omega) ?_;intro A8 c8 w8 hc8 hm8 HS8))
     have HS9:=HS8.p1.bytes.p3.p1.elsPush
     go_roundg (k - (j+1))
     ·exact⟨j+1,A8,c8,css++ [[.slice A5 n5 n5]],_,rfl,by go_num,by omega,rfl,by rw [htk.out];simpa using HS9.p1⟩
     ·omega
    ·obtain rfl:j=k:=by omega
     have HE:=zA (gC HS.p2);rw [zQ (by rw [Hm.out];omega)]at HE;have hfin:(rsAt pre ([]:List aC).flatten).fin=rsAt pre []:=(by simp [RS.fin,rsAt,RS.left]);rw [hfin]at HE;have hcap:=(HS.rowOf (.head _)).cap
     go_wp2_with (first
      |(go_at_call 129;refine HE.out.mono ?_;rintro e w2 ⟨rfl,HS5⟩)
      |(go_at_call 130;refine(BI _ _ _ _ (by omega) (by omega)).mono ?_;rintro e w' ⟨rfl,rfl⟩))
     go_ret2;refine⟨A1,j,rfl,?_⟩;have h:=HS5.tail.d2.clip.els (α:=aC);rw [zF (by rw [Hm.out];omega)]at h;exact h
abbrev SA (A:aA) (m c:Nat) (l:List aB):Asn:=RowA 9 1 (.slice A m c) m (sC l)
abbrev NX (p:Nat) (r:RS) (Br Bl g n:Nat) (cur:List aB) (L:List Asn):List Asn:=
 RdA p r::BlkA Br 167 #[.pointer (some ⟨p,0,none⟩)]::BlkA Bl 129 #[.slice (some ⟨g,0,none⟩) n n]::SA (some ⟨g,0,none⟩) n n cur::L
section
variable {p Br Bl g n:Nat} {r:RS} {cur:List aB} {L:List Asn} {w:O}
theorem Vk {l:List aB} {j:Nat} {x:aB} (h:l[j]? =some x):(sC l)[j]? =some (.string x):=bU h
theorem WN {j:Nat} {s:aB} (h:Sp w (NX p r Br Bl g n cur L)) (hj:cur[j]? =some s):
 w.cell? ⟨Br,0,none⟩=some (.pointer (some ⟨p,0,none⟩))/\w.cell? ⟨Bl,0,none⟩=some (.slice (some ⟨g,0,none⟩) n n)/\w.cell? ⟨g,j,none⟩=some (.string s):=
 ⟨h.cell M1 0,h.cell M2 0,h.rowCell M3 (Vk hj)⟩
theorem pY {p:Nat} {pre post:aC} {L:List Asn} {w:O} (h:Sp w (RdA p (rsAt pre post)::L)):
 Calls prog 79 #[.pointer (some ⟨p,0,none⟩)] w fun e w' =>e= .returned (.int .i64 0)/\w=w' :=dH h
theorem DY (h:Sp w (NX p r Br Bl g n cur L)):
 Calls prog 251 #[.int .i64 0,.pointer (some ⟨Br,0,none⟩),.pointer (some ⟨Bl,0,none⟩)] w fun e w' =>
  e= .returned (.string ⟨(r.text 4096).1.toArray⟩)/\Sp w' (NX p (r.text 4096).2 Br Bl g n cur L):=by
 have hbr:=h.cl M1 0;have HR:=zA (bV h 4096 (by omega));clear h;go_enter func251,ntmps251;go_wp2_with (go_at_call 190;refine HR.out.mono ?_;rintro e w2 ⟨rfl,HS2⟩);go_ret
 exact⟨rfl,HS2⟩
theorem DZ {j:Nat} {a s:aB} {pre post:aC} (hn:n<=16) (hj:cur[j]? =some a) (hl:cur.length=n) (ha:a.size<=4096) (hs:s.size<=4096) (hless:Op.bytesLess a.toList s.toList=true)
 (h:Sp w (NX p (rsAt pre (zP (shN a.data.toList s.data.toList)++(zP (s.extract (shN a.data.toList s.data.toList) s.size).size++(s.extract (shN a.data.toList s.data.toList) s.size).data.toList++post))) Br Bl g n cur L)):
 Calls prog 251 #[.int .i64 ((j:Int)+1),.pointer (some ⟨Br,0,none⟩),.pointer (some ⟨Bl,0,none⟩)] w fun e w' =>
  e= .returned (.string s)/\Sp w' (NX p (rsAt (pre++zP (shN a.data.toList s.data.toList)++(zP (s.extract (shN a.data.toList s.data.toList) s.size).size++(s.extract (shN a.data.toList s.data.toList) s.size).data.toList)) post) Br Bl g n cur L):=by
 have hjn:j<n:=by have:=zN hj;omega
 have hsh:=fN a s;have Hsd:=zA (fun W=>iY a s W (by omega) (by omega));have Hjoin:=zA (KX a s);obtain⟨t,ht⟩:=eX (shN a.data.toList s.data.toList);rw [ht]at h hsh Hsd Hjoin⊢;have hxs:(s.extract t s.size).size<=4096:=by rw [yQ];omega
 obtain⟨x,hx⟩:=eX (s.extract t s.size);rw [hx]at h hxs Hjoin⊢;have HR:=zA (ZH h.drew a.size (by omega));rw [yn (show t<2^64 by omega) hsh.2]at HR;have Hc:=zA (WN h hj);have hj1:(0:Int)<(j:Int)+1:=by omega
 have hj0:(((j:Int)+1)==0)=false:=by simp;omega
 have hj2:¬((j:Int)+1=0):=by omega
 have hj3:IntKind.i64.wrap ((j:Int)+1 - 1)=j:=by rw [zT];omega
 have hj4:(j:Int)<n:=by omega
 have hj5:IntKind.i64.wrap (j:Int)=j:=by rw [zT];omega
 have hj6:(0:Int)<=j:=by omega
 have hta:(t:Int)<=a.size:=by omega
 obtain⟨hl1,hl2⟩:=dW hless;have hs' :(s.size:Int)<=4096:=by omega
 have Hless:=zA hless;have Hj:=zA hj;clear ht hx h hless hj hsh;go_enter func251,ntmps251;go_wp2
 go_region_held3 (fun W=>W.cell? ⟨Br,0,none⟩=some (.pointer (some ⟨p,0,none⟩))/\W.cell? ⟨Bl,0,none⟩=some (.slice (some ⟨g,0,none⟩) n n)/\W.cell? ⟨g,j,none⟩=some (.string a)) (first|assumption|exact Hc.out|exact WN HS2 Hj.out)
  ((go_at_call 74;(with_reducible refine HR.out.mono ?_);rintro e w2 ⟨rfl,HS2⟩))
 have hxl:x.size=x.data.toList.length:=by simp
 have HT:=zA (bV HS2.drew 4096 (by omega));rw [hxl,QM (by omega) (by omega),oB]at HT;have Hc2:=zA (WN HS2 Hj.out);have ht0:(0:Int)<=t:=by omega
 clear HS2 hxl Hc HR;go_wp2;refine gR [(10,fun W=>W.cell? ⟨Br,0,none⟩=some (.pointer (some ⟨p,0,none⟩))/\W.cell? ⟨Bl,0,none⟩=some (.slice (some ⟨g,0,none⟩) n n)/\W.cell? ⟨g,j,none⟩=some (.string a))] (hB Hc2.out) ?_;refine gL 0 10 M0 ?_;refine gF 1 ?_;refine gF 2 ?_;refine gF 3 ?_;refine gL 4 10 M0 ?_;refine gF 5 ?_;refine gF 6 ?_;refine gL 7 10 M0 ?_;intro hC;refine gO 8 fun K hK=> ?_;go_simp
 refine HT.out.mono ?_;rintro e w3 ⟨rfl,HS3⟩;refine hK.out _ _ (hB (WN HS3 Hj.out)) ?_;clear hK K hC;intro hC;refine gO 9 fun K hK=> ?_;go_simp
 have hz:min t a.size+x.size<=4096:=by
  have h:=congrArg ByteArray.size Hjoin.out;simp only [ByteArray.size_append,yQ]at h;omega
 rw [Hjoin.out,if_neg (by omega)];go_simp;refine hK.out _ _ (hB (WN HS3 Hj.out)) ?_;clear hK K hC;intro hC;refine gO 10 fun K hK=> ?_;go_simp;refine hK.out _ _ hA ?_;clear hK K hC;intro hC;refine xW (by kernel_rfl) ?_;have HE:=zA (pY HS3);obtain⟨c1,c2,c3⟩:=WN HS3 Hj.out
 go_wp2_with (first
  |(go_at_call 79;refine HE.out.mono ?_;rintro e w4 ⟨rfl,rfl⟩)
  |(go_at_call 252;refine(Hsd.out _).mono ?_;rintro e w4 ⟨rfl,k4,rfl⟩))
 go_ret
 exact⟨rfl,HS3.drewN _⟩
end
theorem pW (l:List aB) (j:Nat) (x:aB):sC (l.set j x)=(sC l).set j (.string x):=by unfold sC;rw [List.map_set]
theorem JB (N:Nat):(madeCells (Value.string ⟨#[]⟩).cells (N*1)).toList=sC (List.replicate N ⟨#[]⟩):=by
 apply List.ext_getElem
 ·simp [madeCells,sC]
 ·intro i h1 h2;simp [madeCells,sC,Value.cells,Nat.mod_one]
abbrev UA (A:aA) (m c:Nat) (l:aE):Asn:=RowA 35 1 (.slice A m c) m (uC l)
theorem lA {p n:Nat} {ls:List aB} {at_:aE} {pre post:aC} {L:List Asn} {w:O} (h0:0<n) (hn:n<=16) (hl:ls.length=n) (ha:at_.length=n) {p0:Option aB} (hr:xj p0 ls=true) (hu:∀x∈at_,x<18446744073709551616)
 (h:Sp w (RdA p (rsAt pre (ZZ ls at_++post))::L)):
 Calls prog 185 #[.pointer (some ⟨p,0,none⟩),.int .i64 (n:Int)] w fun e w' =>∃g g2,e= .returned (.tuple #[.slice (some ⟨g,0,none⟩) n n,.slice (some ⟨g2,0,none⟩) n n,.bool true])/\
  Sp w' (SA (some ⟨g,0,none⟩) n n ls::UA (some ⟨g2,0,none⟩) n n at_::RdA p (rsAt (pre++ZZ ls at_) post)::L):=by
 have HS0:=h.blk 167 #[.pointer (some ⟨p,0,none⟩)];obtain⟨Br,hBr⟩:=eX (w.heap.size);rw [hBr]at HS0;have hm1:=run_make_row' (P:=prog) 129 9 (.string ⟨#[]⟩) 16 underlying129 (by kernel_rfl) rfl .i64 .i64 n (by omega) (by omega);have hm2:=run_make_row' (P:=prog) 123 35 (.int .u64 0) 8 underlying123 (by kernel_rfl) rfl .i64 .i64 n (by omega) (by omega);have HS0d:=HS0.drew;have Hl:=zA hl
 have Ha:=zA ha;have Hr:=zA hr;have Hu:=zA hu;have hmf:=@mF prog;clear h hl ha hr hu;go_enter func185,ntmps185;go_upto_region 1 with fail
 go_cut [7,8]from 12 to 15 (fun v7 v8 W=>∃Bl g g2,v7= .pointer (some ⟨Bl,0,none⟩)/\v8= .slice (some ⟨g2,0,none⟩) n n/\Sp W (BlkA Bl 129 #[.slice (some ⟨g,0,none⟩) n n]::RowA 9 1 (.slice (some ⟨g,0,none⟩) n n) n (madeCells #[Value.string ⟨#[]⟩] n).toList::RowA 35 1 (.slice (some ⟨g2,0,none⟩) n n) n (madeCells #[Value.int .u64 0] n).toList::BlkA Br 167 #[.pointer (some ⟨p,0,none⟩)]::RdA p (rsAt pre (ZZ ls at_++post))::L))
 case first=>
  go_region
  all_goals go_wp2
  all_goals go_meet
  ·exact⟨_,_,_,rfl,rfl,(((HS0.mkd (by simp [hBr]) (by omega)).mkd (by simp [hBr]) (by omega)).blkH _ _ (by simp [hBr])).drew.p2.p1⟩
  ·exact⟨_,_,_,rfl,rfl,(((HS0.mkd (by simp [hBr]) (by omega)).blkH _ _ (by simp [hBr])).mkd (by simp [hBr]) (by omega)).drew.p1.p2.p1⟩
  ·exact⟨_,_,_,rfl,rfl,(((HS0.mkd (by simp [hBr]) (by omega)).mkd (by simp [hBr]) (by omega)).blkH _ _ (by simp [hBr])).drew⟩
  ·exact⟨_,_,_,rfl,rfl,(((HS0.mkd (by simp [hBr]) (by omega)).blkH _ _ (by simp [hBr])).mkd (by simp [hBr]) (by omega)).drew.p1⟩
  ·exact⟨_,_,_,rfl,rfl,(((HS0.blkH _ _ (by simp [hBr])).mkd (by simp [hBr]) (by omega)).mkd (by simp [hBr]) (by omega)).drew.p2.p2.p1⟩
  ·exact⟨_,_,_,rfl,rfl,(((HS0.blkH _ _ (by simp [hBr])).mkd (by simp [hBr]) (by omega)).mkd (by simp [hBr]) (by omega)).drew.p2⟩
 case rest=>
  obtain⟨Bl,g,g2,rfl,rfl,HS1⟩:=hcut
  have HS2:Sp wc (NX p (rsAt pre (YZ ls 0++(at_.flatMap zP++post))) Br Bl g n (List.replicate n ⟨#[]⟩) (UA (some ⟨g2,0,none⟩) n n (List.replicate n 0)::L)):=by
   have e1:=JB n;have e2:=Vv n;rw [yr]at e1 e2;have h:=Sp.selT [_,_,_,_,_] HS1 [4,3,0,1,2];cases ls with
   |nil=>have:=Hl.out;simp at this;omega
   |cons a l=>
    rw [iN,zO]at h;rw [show(madeCells #[Value.string ⟨#[]⟩] n).toList=sC (List.replicate n ⟨#[]⟩)from e1,show(madeCells #[Value.int .u64 0] n).toList=uC (List.replicate n 0)from e2]at h;exact h
  have hbl:=HS2.cell M2 0;clear HS1 HS0 HS0d hm1 hm2;go_wp2
  go_loopg [19] n (fun gk vi wr=>∃(k:Nat) (cur:List aB) (pr:aC),vi= .int .i64 k/\k<=n/\gk=n - k/\cur.length=n/\Hid (cur.take k=ls.take k)/\Hid (pr++YZ ls k=pre++YZ ls 0)/\Sp wr (NX p (rsAt pr (YZ ls k++(at_.flatMap zP++post))) Br Bl g n cur (UA (some ⟨g2,0,none⟩) n n (List.replicate n 0)::L)))
  case atStart=>exact⟨0,List.replicate n ⟨#[]⟩,pre,rfl,zJ _,rfl,by simp,rfl,rfl,HS2⟩
  case round=>
   obtain⟨k,cur,pr,rfl,hk,rfl,hcu,HC,HP,HS⟩:=hrel;clear hbl HS2
   by_cases hkn:k<n
   ·obtain⟨s,Hs⟩:∃s,Hid (ls[k]? =some s):=⟨_,zB (by rw [Hl.out];exact hkn)⟩;have hss:=YM Hr.out s (zD Hs.out);have hbl:=HS.cell M2 0;have HC2:Hid ((cur.set k s).take (k+1)=ls.take (k+1)):=Xx (by omega) HC.out Hs.out;rcases zi k with h00|h00
    ·subst h00;have HN:=zA (DY HS.drew);have hsl:s.size=s.data.toList.length:=(by simp);rw [jG Hs.out,hsl,zO,QM (by omega) (by omega),oB]at HN
     have HP2:Hid (pr++(zP s.data.toList.length++s.data.toList)++YZ ls 1=pre++YZ ls 0):=by
      show _=_;rw [<-HP.out,jG Hs.out,hsl];simp
     clear hsl hss;have hn0:(0:Int)<n:=(by omega);go_wp2
     go_region_held3 (fun W=>W.cell? ⟨Bl,0,none⟩=some (.slice (some ⟨g,0,none⟩) n n)) (first|assumption|exact hbl|exact HS2.cell M2 0|exact(HS2.p3.rowSet 0 (.string s)).cell M3 0)
      ((go_at_call 251;refine HN.out.mono ?_;rintro e w2 ⟨rfl,HS2⟩;have hco:=HS2.rowCell M3 (Vk (zB (l:=cur) (i:=0) (by omega)));have hfo:=HS2.rowFree M3 0))
     have HS3:=Sp.selT [_,_,_,_] (HS2.p3.rowSet 0 (.string s)) [1,2,3,0];rw [<-pW]at HS3;have hbl2:=HS3.cell M2 0;clear hco hfo;go_wp2
     go_roundg (n - 1)
     ·exact⟨1,cur.set 0 s,_,by go_num,by omega,rfl,by simp [hcu],HC2,HP2,HS3⟩
     ·omega
    ·obtain⟨j,rfl⟩:∃j,k=j+1:=⟨k - 1,by omega⟩;obtain⟨a,Hsa⟩:∃a,Hid (ls[j]? =some a):=⟨_,zB (by rw [Hl.out];omega)⟩
     have hca:cur[j]? =some a:=by
      have h:=congrArg (fun l:List aB=>l[j]?) HC.out;simp only [yy,if_pos (Nat.lt_succ_self j)]at h;rw [h];exact Hsa.out
     have e:=jH Hsa.out Hs.out;have hless:=mU Hr.out Hsa.out Hs.out;have hne:=LK hless
     have hne2:(s.toList==([]:aC))=false:=by
      rw [beq_eq_false_iff_ne];intro h;apply hne;rw [ByteArray.toList_eq]at h;cases s;congr 1;exact Array.toList_inj.1 h
     have HS1:=HS.drew;rw [e,zO,zO]at HS1;have HN:=zA (DZ (post:=YZ ls (j+2)++(at_.flatMap zP++post)) hn hca hcu (YM Hr.out a (zD Hsa.out)) hss hless HS1)
     have HP2:Hid (pr++zP (shN a.data.toList s.data.toList)++(zP (s.extract (shN a.data.toList s.data.toList) s.size).size++(s.extract (shN a.data.toList s.data.toList) s.size).data.toList)++YZ ls (j+2)=pre++YZ ls 0):=by
      show _=_;rw [<-HP.out,e];simp
     have hj1:(0:Int)<(j:Int)+1:=(by omega);have hj2:(0:Int)<=(j:Int)+1:=(by omega);have hj3:(j:Int)+1<n:=(by omega);clear e hless hne hss HS1 hca h00;go_wp2
     go_region_held3 (fun W=>W.cell? ⟨Bl,0,none⟩=some (.slice (some ⟨g,0,none⟩) n n)) (first|assumption|exact hbl|exact HS2.cell M2 0|exact(HS2.p3.rowSet (j+1) (.string s)).cell M3 0)
      ((go_at_call 251;refine HN.out.mono ?_;rintro e w2 ⟨rfl,HS2⟩;have hco:=HS2.rowCell M3 (Vk (zB (l:=cur) (i:=j+1) (by omega)));have hfo:=HS2.rowFree M3 (j+1)))
     have HS3:=Sp.selT [_,_,_,_] (HS2.p3.rowSet (j+1) (.string s)) [1,2,3,0];rw [<-pW]at HS3;have hbl2:=HS3.cell M2 0;have hrs:=HS3.rowCell M3 (Vk (j:=j+1) (x:=s) (by rw [xO];simp [hcu,hkn]));clear hco hfo;go_wp2
     go_roundg (n - (j+1+1))
     ·exact⟨j+1+1,cur.set (j+1) s,_,by go_num,by omega,rfl,by simp [hcu],HC2,HP2,HS3⟩
     ·omega
   ·obtain rfl:k=n:=by omega
    have hcur:cur=ls:=by
     have h:=HC.out
     rwa [zF (by omega),zF (by rw [Hl.out];omega)]at h
    subst hcur
    have hbk:ZZ cur at_=YZ cur 0++at_.flatMap zP:=by
     cases cur with
     |nil=>simp at hcu;omega
     |cons a l=>exact iN a l at_
    have HS2:Sp wr (UA (some ⟨g2,0,none⟩) k k (List.replicate k 0)::RdA p (rsAt pr ((at_.drop 0).flatMap zP++post))::BlkA Br 167 #[.pointer (some ⟨p,0,none⟩)]::BlkA Bl 129 #[.slice (some ⟨g,0,none⟩) k k]::SA (some ⟨g,0,none⟩) k k cur::L):=by
     have e:=U5 cur;rw [hcu]at e;have h:=HS.p4;rw [e]at h;exact h
    have HP2:Hid (pr++(at_.drop 0).flatMap zP=pre++ZZ cur at_):=by
     show _=_;have e:=U5 cur;rw [hcu]at e;have h:=HP.out;rw [e,zo]at h;rw [hbk,h];simp
    clear HS HP HC hbk;go_wp2
    go_loopg [40] k (fun gk vi wr=>∃(j:Nat) (us:aE) (pr:aC),vi= .int .i64 j/\j<=k/\gk=k - j/\us.length=k/\Hid (us.take j=at_.take j)/\Hid (pr++(at_.drop j).flatMap zP=pre++ZZ cur at_)/\Sp wr (UA (some ⟨g2,0,none⟩) k k us::RdA p (rsAt pr ((at_.drop j).flatMap zP++post))::BlkA Br 167 #[.pointer (some ⟨p,0,none⟩)]::BlkA Bl 129 #[.slice (some ⟨g,0,none⟩) k k]::SA (some ⟨g,0,none⟩) k k cur::L))
    case atStart=>exact⟨0,List.replicate k 0,pr,rfl,zJ _,rfl,by simp,rfl,HP2,HS2⟩
    case round=>
     obtain⟨j,us,pr,rfl,hj,rfl,hus,HC,HP,HS⟩:=hrel;have hbr:=HS.cell M2 0;have hbl:=HS.cell M3 0
     by_cases hjk:j<k
     ·obtain⟨x,Hx⟩:∃x,Hid (at_[j]? =some x):=⟨_,zB (by rw [Ha.out];exact hjk)⟩;have hxu:=Hu.out x (zD Hx.out);have HR:=zA (MW HS.p1);have e:(at_.drop j).flatMap zP=zP x++(at_.drop (j+1)).flatMap zP:=(by rw [yb Hx.out];rfl);rw [e,zO,kW hxu]at HR;have HP3:Hid (pr++zP x++(at_.drop (j+1)).flatMap zP=pre++ZZ cur at_):=(by show _=_;rw [<-HP.out,e];simp)
      have HC2:Hid ((us.set j x).take (j+1)=at_.take (j+1)):=Xx (by omega) HC.out Hx.out;clear e hxu;go_wp2_with (go_at_call 253;refine HR.out.mono ?_;rintro e w2 ⟨rfl,HS2⟩;have hco:=HS2.rowCell M1 (WB (zB (l:=us) (i:=j) (by omega)));have hfo:=HS2.rowFree M1 j);have HS3:=HS2.p1.rowSet j (.int .u64 (x:Int));rw [<-fK]at HS3
      go_roundg (k - (j+1))
      ·exact⟨j+1,us.set j x,_,by go_num,by omega,rfl,by simp [hus],HC2,HP3,HS3⟩
      ·omega
     ·obtain rfl:j=k:=by omega
      have hus2:us=at_:=by
       have h:=HC.out
       rwa [zF (by omega),zF (by rw [Ha.out];omega)]at h
      subst hus2;have hend:us.drop j= []:=zQ (by omega);have HE:=zA (fun nn=>pY (HS.drewN nn).p1);go_wp2
      go_quiet ((go_at_call 79;exact Calls.quiet_of_same ((HE.out _).mono fun _ _ h=>⟨h.1,h.2.symm⟩)))
      go_wp2
      go_ret3
      refine⟨g,g2,rfl,?_⟩;have h:=HP.out;rw [hend]at h;have h2:=(Sp.selT [_,_,_,_,_] HS [4,0,1]).drewN nq;rw [hend]at h2;rw [<-h,x7,zo];exact h2
def nB (n:Nat):Nat:=(n+15) / 16
def bkT {α:Type} (l:List α) (k:Nat):List α:=(l.drop (16*k)).take 16
def tBl (ls:List aB) (at_:aE):List aC:=(List.range (nB ls.length)).map fun k=>ZZ (bkT ls k) (bkT at_ k)
def tFi (ls:List aB):List aB:=(List.range (nB ls.length)).map fun k=>ls.getD (16*k) ⟨#[]⟩
theorem kB:∀(f:Nat) (ls:List aB) (at_:aE),ls.length<f->YI f ls at_=tBl ls at_
 |0,_,_,h=>by omega
 |f+1,ls,at_,h=>by
  by_cases hl:ls= []
  ·subst hl;simp [YI,tBl,nB]
  ·have h1:=List.length_pos_iff.2 hl;rw [UP hl,kB f _ _ (by rw [ze];omega)];unfold tBl;rw [ze,show nB ls.length=nB (ls.length - 16)+1 by unfold nB;omega,List.range_succ_eq_map,yH,yD]
   congr 1
   apply List.map_congr_left
   intro k _;simp only [Function.comp,bkT,List.drop_drop,Nat.succ_eq_add_one,show 16+16*k=16*(k+1) by omega]
theorem UX (ls:List aB) (at_:aE):ZM ls at_=zP ls.length++(tBl ls at_).flatten:=by
 unfold ZM;rw [kB _ _ _ (Nat.lt_succ_self _)]
theorem fM {ls:List aB} {at_:aE} {k:Nat} (h:16*k<ls.length):(tBl ls at_)[k]? =some (ZZ (bkT ls k) (bkT at_ k)):=by
 unfold tBl;rw [zH,zq (by unfold nB;omega)];rfl
theorem pV {ls:List aB} {k:Nat} {a:aB} (h:ls[16*k]? =some a):(tFi ls)[k]? =some a:=by
 have:=zN h;unfold tFi;rw [zH,zq (by unfold nB;omega)];simp [h]
theorem Ur {α:Type} {l:List α} {k j:Nat} (h:j<16):(bkT l k)[j]? =l[16*k+j]? :=by
 unfold bkT;rw [yy,if_pos h,List.getElem?_drop]
theorem XR {α:Type} (l:List α) (k:Nat):(bkT l k).length=min 16 (l.length - 16*k):=by
 unfold bkT;rw [zr,ze]
theorem fE {α:Type} {l:List α} {k:Nat} {x:α} (h:x∈bkT l k):x∈l:=List.mem_of_mem_drop (yu h)
theorem jF:∀{l:List aB} {p:Option aB} (k:Nat),xj p l=true->∃p',xj p' (l.drop k)=true
 |l,p,0,h=>⟨p,h⟩
 | [],p,k+1,h=>⟨p,rfl⟩
 |a::l,p,k+1,h=>by
  unfold xj at h;simp only [zM]at h;exact jF k h.2
theorem jE:∀{l:List aB} {p:Option aB} (k:Nat),xj p l=true->xj p (l.take k)=true
 |l,p,0,h=>by simp [xj]
 | [],p,k+1,h=>by simp [xj]
 |a::l,p,k+1,h=>by
  rw [xL];unfold xj at h⊢;simp only [zM]at h⊢;exact⟨h.1,jE k h.2⟩
theorem mT {l:List aB} {p:Option aB} (h:xj p l=true) (k:Nat):∃p',xj p' (bkT l k)=true:=by
 obtain⟨p',h'⟩:=jF (16*k) h;exact⟨p',jE 16 h'⟩
theorem lV {D n k:Nat} {w:O} (hc:w.cell? ⟨D,2,none⟩=some (.int .i64 (n:Int))) (hn:n<=1048576) (hk:16*k<=n):
 Calls prog 186 #[.pointer (some ⟨D,0,none⟩),.int .i64 (k:Int)] w fun e w' =>e= .returned (.int .i64 (min 16 (n - 16*k):Nat))/\w=w' :=by
 have h1:IntKind.i64.wrap ((k:Int)*16)=(k:Int)*16:=by rw [zT];omega
 obtain⟨m,hm⟩:=eX (min 16 (n - 16*k));have h2:min 16 ((n:Int) - (k:Int)*16)=(m:Int):=by omega
 rw [hm];go_enter func186,ntmps186;go_wp2;go_ret
 exact⟨rfl,rfl⟩
theorem WZ {D n:Nat} {w:O} (hc:w.cell? ⟨D,2,none⟩=some (.int .i64 (n:Int))):
 Calls prog 19 #[.pointer (some ⟨D,0,none⟩)] w fun e w' =>e= .returned (.int .i64 (n:Int))/\w=w' :=by
 go_enter func19,ntmps19;go_wp2;go_ret
 exact⟨rfl,rfl⟩
theorem RB.sub_at {w:O} {n b off:Nat} {l:aC} (h:RB w (some ⟨b,off,none⟩) n l) {i k:Nat} (hk:i+k<=n):RB w (some ⟨b,off+i,none⟩) k ((l.drop i).take k):=by
 have h:=RC.sub_at h (i:=i) (k:=k) hk;simp only [yr]at h;unfold RB
 simpa [bC,List.map_take,List.map_drop]using h
theorem fW {w:O} {L:List Asn} {A:aA} {n c:Nat} {l:aC} (h:Sp w L) (hl:RB w A n l) (hn:n<=140737488355328):
 Calls prog 56 #[.slice A n c] w fun e w' =>∃A' c',e= .returned (.slice A' n c')/\Sp w' (BA A' n c' l::L):=
 (Xi A n c (bC l) w (by omega) hl.reads (xd l)).mono fun _ _ ⟨A',c',he,hr,hb⟩=>⟨A',c',he,h.row hr hb⟩
theorem HU {ls:List aB} {at_:aE} {k:Nat} (h:16*k<ls.length):((tBl ls at_).drop k).flatten=ZZ (bkT ls k) (bkT at_ k)++((tBl ls at_).drop (k+1)).flatten:=by
 rw [yb (fM h)];rfl
theorem kX (pre post:aC):(rsAt pre post).left=post.length:=by simp [rsAt,RS.left]
theorem vR (A:aA) (nb c:Nat) (ls:List aB) (at_:aE) (w:O) (hc:nb<=c) (hc2:c<=9223372036854775807) (hnb:nb<=100000000000000) (hl:RB w A nb (ZM ls at_)) (ht:xQ ls=true) (hat:at_.length=ls.length) (hu:∀x∈at_,x<18446744073709551616):
 Calls prog 147 #[.slice A nb c] w fun e w' =>∃D,e= .returned (.tuple #[.pointer (some ⟨D,0,none⟩),.int .i64 0])/\Sp w' [DatA (.pointer (some ⟨D,0,none⟩)) (Ptr.mk (some (tBl ls at_,tFi ls,(ls.length:Int)))),OldA w.heap.size w]:=by
 obtain⟨n,hn⟩:=eX (ls.length);have Hlen:=zA hl.len;have Hl:=zA hl;have hn1:n<=1048576:=by unfold xQ at ht;simp only [zM,decide_eq_true_eq]at ht;omega
 have Hr:=zA (show xj none ls=true by unfold xQ at ht;simp only [zM]at ht;exact ht.2);have Hn:=zA hn;have Hat:=zA (hat.trans hn);have Hu:=zA hu;have HN:=zA (VG (c:=c) (Sp.start w) hl (by omega));have hnc:(nb:Int)<=c:=by omega
 obtain⟨bk,off,rfl⟩:∃bk off,A=some ⟨bk,off,none⟩:=by
  have h0:0<nb:=(by rw [<-Hlen.out,UX,zG];have:=Yb ls.length;omega);obtain⟨bk,off,e,_⟩:=hl.2 h0;exact⟨bk,off,e⟩
 rw [hn];clear ht hat hu hl hn;go_enter func147,ntmps147;go_wp2_with (go_at_call 73;refine HN.out.mono ?_;rintro e w1 ⟨p,rfl,HS1⟩)
 have HS2:Sp w1 [RdA p (rsAt [] (zP n++(tBl ls at_).flatten)),OldA w.heap.size w]:=by
  rw [UX,Hn.out]at HS1
  simpa [rsAt]using HS1
 have HR:=zA (ZH HS2 1048576 (by omega));rw [yn (by omega) hn1]at HR;clear HS1 HS2;go_wp2_with (go_at_call 74;refine HR.out.mono ?_;rintro e w2 ⟨rfl,HS2⟩;obtain⟨D,hD⟩:=eX (w2.heap.size));have HS3:=((HS2.blkH 131 #[.slice none 0 0,.slice none 0 0,.int .i64 (n:Int)] hD).nil 9 1);have HS4:=(HS3.elsNil (α:=aC)).nil 65 1
 go_loopg [6,7] (nB n) (fun gk vl vi wr=>∃(k i:Nat) (A1 A2:aA) (c1 c2:Nat) (css:List aF) (last:aB) (pre:aC),Hid (i=16*k)/\vi= .int .i64 (i:Int)/\k<=nB n/\gk=nB n - k/\vl= .string last/\Hid (k=0\/n<=16*k\/ls[16*k - 1]? =some last)/\Hid (0<pre.length)/\Hid (pre++((tBl ls at_).drop k).flatten=ZM ls at_)/\
  Sp wr [BlkA D 131 #[.slice A1 k c1,.slice A2 k c2,.int .i64 (n:Int)],RowA 65 1 (.slice A1 k c1) k css.flatten,ElsA css ((tBl ls at_).take k),SA A2 k c2 ((tFi ls).take k),RdA p (rsAt pre ((tBl ls at_).drop k).flatten),OldA w.heap.size w])
 case atStart=>exact⟨0,0,none,none,0,0, [],_,zP n,rfl,rfl,zJ _,rfl,rfl,.inl rfl,Yb n,by show _=_;rw [UX,Hn.out];rfl,HS4.p3⟩
 case round=>
  obtain⟨k,i,A1,A2,c1,c2,css,last,pre,Hi,rfl,hk,rfl,rfl,HLast,HP0,HP,HS⟩:=hrel;have hD2:=HS.cell M0 2;clear HS2 HS3 HS4;have hi0:=Hi.out
  by_cases hkn:i<n
  ·obtain⟨m,hm⟩:=eX (min 16 (n - 16*k));have hlb:(bkT ls k).length=m:=(by rw [XR,Hn.out];exact hm);have hab:(bkT at_ k).length=m:=(by rw [XR,Hat.out];exact hm);obtain⟨p',hrb⟩:=mT Hr.out k;have hst:=HU (at_:=at_) (show 16*k<ls.length by rw [Hn.out];omega);have hpl:=congrArg List.length HP.out;rw [Hlen.out,zG]at hpl;have HLt:=zA (Xz HS.p4)
   obtain⟨q,hq⟩:=eX ((rsAt pre ((tBl ls at_).drop k).flatten).left);rw [hq]at HLt;rw [kX]at hq;obtain⟨fr,hfr⟩:=eX (pre.length);have hsub:IntKind.i64.wrap ((nb:Int) - (q:Int))=(fr:Int):=(by rw [zT];omega);have hsub2:((nb:Int) - (q:Int))=(fr:Int):=(by omega);have hDiv:(i:Int) / 16=(k:Int):=(by omega);have hDivT:(i:Int).tdiv 16=(k:Int):=(by rw [Int.tdiv_eq_ediv_of_nonneg (by omega)];omega)
   have HSz:=zA (fun(W:O) (hW:W.cell? ⟨D,2,none⟩=some (.int .i64 (n:Int)))=>lV (k:=k) hW hn1 (by omega));rw [hm]at HSz;have Hm:=zA hm;have Hlb:=zA hlb;have Hst:=zA hst;have HSd:=zA HS.p4;rw [hst]at HSd;have hk0:(i:Int)<(n:Int):=(by omega);have Hfr:=zA hfr;clear hi0 hm hst hpl hq hfr HS hlb
   go_wp2_with (first
    |(go_at_call 77;refine HLt.out.mono ?_;rintro e w3 ⟨rfl,k3,rfl⟩)
    |(go_at_call 186;refine(HSz.out _ (by assumption)).mono ?_;rintro e w4 ⟨rfl,rfl⟩))
   refine(lA (post:=((tBl ls at_).drop (k+1)).flatten) (by have:=Hm.out;have:=Hi.out;omega) (by have:=Hm.out;omega) Hlb.out hab hrb (fun x hx=>Hu.out x (fE hx)) (HSd.out.drewN k3)).mono ?_;rintro e w5 ⟨g,g2,rfl,HS5⟩;have hm0:0<m:=(by have:=Hm.out;have:=Hi.out;omega);have hm16:m<=16:=(by have:=Hm.out;omega);obtain⟨a,Ha⟩:∃a,Hid (ls[i]? =some a):=⟨_,zB (by rw [Hn.out];exact hkn)⟩
   obtain⟨mm,hmm⟩:∃mm,m=mm+1:=⟨m - 1,by omega⟩;have hmw:IntKind.i64.wrap ((m:Int) - 1)=(mm:Int):=(by rw [zT];omega);have hmw2:(m:Int) - 1=(mm:Int):=(by omega);have hmw3:(mm:Int)<m:=(by omega);have hmw4:(0:Int)<=mm:=(by omega);have hm00:(0:Int)<m:=(by omega);obtain⟨z,Hz⟩:∃z,Hid (ls[i+mm]? =some z):=⟨_,zB (by have:=Hm.out;have:=Hi.out;have:=Hn.out;omega)⟩
   have ca:=HS5.rowCell M0 (Vk (j:=0) (x:=a) (by rw [Ur (by omega),<-Hi.out];exact Ha.out));have cz:=HS5.rowCell M0 (Vk (j:=mm) (x:=z) (by have:=Hm.out;rw [Ur (by omega),<-Hi.out];exact Hz.out));have Hmm:=zA hmm;have HS6:=HS5.d1.p2;have hd0:=HS6.cell M0 0;have hd1:=HS6.cell M0 1;have hd2:=HS6.cell M0 2
   have Hpre:=zA (show(pre++ZZ (bkT ls k) (bkT at_ k))++((tBl ls at_).drop (k+1)).flatten=ZM ls at_ by rw [<-HP.out,Hst.out];simp);clear hab hrb hD2 hmm HSd HS5
   have Hcase:Hid (i=0\/(0<i/\Op.bytesLess last.toList a.toList=true)):=by
    rcases zi i with h|h
    ·exact .inl h
    ·refine .inr ⟨h,?_⟩;rcases HLast.out with h1|h1|h1
     ·have:=Hi.out;omega
     ·have:=Hi.out;omega
     ·rw [<-Hi.out]at h1;exact mU Hr.out h1 (by rw [show i - 1+1=i by omega];exact Ha.out)
   go_upto_region 9 with fail
   go_cut [53]from 41 to 52 (fun cc W=>cc= .bool false/\W=w5)
   case first=>
    rcases Hcase.out with h0|⟨h0,hless⟩
    ·have h00:¬(0:Int)<i:=(by omega);have h01:decide ((0:Int)<i)=false:=decide_eq_false h00;clear h0;go_wp2
     go_meet
     exact⟨rfl,rfl⟩
    ·obtain⟨hl1,hl2⟩:=dW hless;have h00:(0:Int)<i:=(by omega);clear h0 hless;go_wp2
     go_meet
     exact⟨rfl,rfl⟩
   case rest=>
    obtain⟨rfl,rfl⟩:=hcut;have HS7:=HS6.p5.drew;have hca:=Vk (j:=0) (x:=a) (show(bkT ls k)[0]? =some a by rw [Ur (by omega),<-Hi.out];exact Ha.out);have hd1a:∀o,(wc.alloc o).cell? ⟨D,1,none⟩=some (.slice A2 k c2):=fun o=>(HS6.p5.al o).cell M1 1;clear HS6 hd0 hd2;go_upto_region 12 with fail
    go_cut []from 60 to 71 (fun W=>∃A8 c8,k+1<=c8/\Sp W [BlkA D 131 #[.slice A1 k c1,.slice A8 (k+1) c8,.int .i64 (n:Int)],RowA 65 1 (.slice A1 k c1) k css.flatten,ElsA css ((tBl ls at_).take k),SA A8 (k+1) c8 ((tFi ls).take k++ [a]),RdA p (rsAt (pre++ZZ (bkT ls k) (bkT at_ k)) ((tBl ls at_).drop (k+1)).flatten),OldA w.heap.size w])
    case first=>
     refine gR [(12,fun W=>W.cell? ⟨D,1,none⟩=some (.slice A2 k c2)/\W.cell? ⟨g,0,none⟩=some (.string a))] (hB ⟨HS7.cell M1 1,HS7.rowCell M2 hca⟩) ?_;refine gF 0 ?_;refine gF 1 ?_;refine gF 2 ?_;refine gF 3 ?_;refine gL 4 12 M0 ?_;refine gF 5 ?_;refine gF 6 ?_;refine gL 7 12 M0 ?_;intro hC;refine gO 8 fun K hK=> ?_;go_simp
     refine hK.out _ _ (hB ⟨(HS7.al _).cell M1 1,(HS7.al _).rowCell M2 hca⟩) ?_;clear hK K hC;intro hC;refine gO 9 fun K hK=> ?_;refine yz Ql (.tmp 64) (.tmp 68) rfl rfl HS7 rfl (cs:= #[.string a]) rfl rfl rfl (by intro u hu;simp at hu;subst hu;rfl) (by unfold nB at hk;omega) (by unfold nB at hk;omega) ?_;intro A8 c8 w8 hc8 hm8 HS8;have q1:=HS8.cl M1 1;have qf:=(HS8.blkOf M1).frozen 1
     refine hK.out _ _ (hB ⟨HS8.cell M1 1,HS8.rowCell M2 hca⟩) ?_;clear hK K hC;refine gF 10 ?_;refine gF 11 ?_;intro hC;refine gO 12 fun K hK=> ?_;go_simp;refine hK.out _ _ hA ?_;clear hK K hC;intro hC;refine xW (by kernel_rfl) ?_
     all_goals
      go_wp2
      go_meet
      refine⟨A8,c8,hc8,?_⟩;have h:=HS8.p1.set 1 (.slice A8 (k+1) c8);have e:sC ((tFi ls).take k++ [a])=sC ((tFi ls).take k)++ #[Value.string a].toList:=(by simp [sC]);unfold SA;rw [e];exact Sp.sel h [0,4,5,1,3,6]
    case rest=>
     obtain⟨A8,c8,hc8,HS8⟩:=hcut;obtain⟨blk,hblk⟩:=eX (ZZ (bkT ls k) (bkT at_ k));obtain⟨bl,hbl⟩:=eX (blk.length);obtain⟨rest,hrest⟩:=eX (((tBl ls at_).drop (k+1)).flatten);obtain⟨q2,hq2⟩:=eX (rest.length);have hP2:=Hpre.out;rw [hblk,hrest]at hP2;have hlens:=congrArg List.length hP2;rw [Hlen.out,zG,zG,Hfr.out,hbl,hq2]at hlens;rw [hblk,hrest]at HS8
     have hto:IntKind.i64.wrap ((nb:Int) - (q2:Int))=((fr+bl:Nat):Int):=(by rw [zT];omega);obtain⟨te,hto0⟩:=eX (fr+bl);rw [hto0]at hto;have hto2:(nb:Int) - (q2:Int)=(te:Int):=(by omega)
     have hb0:0<bl:=by
      rw [<-hbl,<-hblk];cases hbb:bkT ls k with
      |nil=>have:=Hlb.out;rw [hbb]at this;simp at this;omega
      |cons x y=>rw [Xw,zG,zG];have:=Yb x.size;omega
     have hf1:(fr:Int)<=te:=(by omega);have hf2:(te:Int)<=c:=(by omega);have hf3:(0:Int)<=fr:=(by omega);have hf4:te - fr=bl:=(by omega);have hf5:¬c=fr:=(by omega);have hf6:(0:Int)<=te:=(by omega);have hto3:IntKind.i64.wrap (te:Int)=(te:Int):=(by rw [zT];omega);have hf10:¬fr=0:=(by have:=HP0.out;have:=Hfr.out;omega);have hf11:¬(fr:Int)=0:=(by omega);have hf7:(fr:Int)<=c:=(by omega)
     have hf8:(te:Int)<=nb:=(by omega);have hf9:fr<=te/\te<=c:=(by omega);have hLt2:=Xz HS8.drew.p4;rw [kX,hq2]at hLt2;have HLt2:=zA hLt2;have hsl:=(Hl.out.on (HS8.below M5)).sub_at (i:=fr) (k:=bl) (by omega);rw [<-hP2,zO,<-Hfr.out,List.drop_left,<-hbl,List.take_left,Hfr.out,hbl]at hsl;have HC:=zA (fun nn=>fW (c:=c - fr) (HS8.drewN nn) (show RB (wc.drewN nn) _ bl blk from hsl) (by omega))
     have hd0:=HS8.cell M0 0;have Hto:=zA hto0;have Hbl:=zA hbl;have Hblk:=zA hblk;have Hrest:=zA hrest;clear hblk hbl hrest hq2 hP2 hlens hLt2 hsl hto0
     have hx:∀W:O,(Instr.slice 65 (.slice (some ⟨bk,off,none⟩) nb c) (some (.int .i64 (fr:Int))) (some (.int .i64 (te:Int))) none).run prog W= .ok (.slice (some ⟨bk,off+fr,none⟩) bl (c - fr)) W:=by
      intro W;simp [Instr.slice,Instr.sliceBounds,go_sem, *]
     go_upto_region 13 with fail;refine gR [(18,fun W=>W.cell? ⟨D,0,none⟩=some (.slice A1 k c1))] (hB (HS8.cell M0 0)) ?_;refine gF 0 ?_;refine gF 1 ?_;refine gF 2 ?_;refine gF 3 ?_;refine gL 4 18 M0 ?_;refine gF 5 ?_;refine gF 6 ?_;refine gF 7 ?_;refine gF 8 ?_;refine gF 9 ?_;intro hC;refine gO 10 fun K hK=> ?_;go_simp;refine HLt2.out.mono ?_;rintro e w6 ⟨rfl,k6,rfl⟩
     refine hK.out _ _ (hB (HS8.cell M0 0)) ?_;clear hK K hC;refine gF 11 ?_;refine gF 12 ?_;intro hC;refine gO 13 fun K hK=> ?_;go_simp;refine(HC.out _).mono ?_;rintro e w7 ⟨A9,c9,rfl,HS9⟩;refine hK.out _ _ (hB (HS9.cell M1 0)) ?_;clear hK K hC;intro hC;refine gO 14 fun K hK=> ?_;go_simp;refine hK.out _ _ (hB ((HS9.al _).cell M1 0)) ?_;clear hK K hC;intro hC;refine gO 15 fun K hK=> ?_
     refine yz lU (.tmp 76) (.tmp 86) rfl rfl HS9.p2 rfl (cs:= #[.slice A9 bl c9]) rfl rfl rfl (by intro u hu;simp at hu;subst hu;rfl) (by unfold nB at hk;omega) (by unfold nB at hk;omega) ?_;intro A7 c7 w8 hc7 hm7 HS10;have q1:=HS10.cl M2 0;have qf:=(HS10.blkOf M2).frozen 0;refine hK.out _ _ (hB q1) ?_;clear hK K hC;refine gF 16 ?_;refine gF 17 ?_;intro hC;refine gO 18 fun K hK=> ?_;go_simp
     refine hK.out _ _ hA ?_;clear hK K hC;intro hC;refine xW (by kernel_rfl) ?_
     all_goals
      have HS11:Sp _ (BlkA D 131 #[.slice A7 (k+1) c7,.slice A8 (k+1) c8,.int .i64 (n:Int)]::_):=HS10.p2.set 0 (.slice A7 (k+1) c7);have HS12:=HS11.p2.bytes.p3.p1.elsPush.p2.p2;have e1:(tBl ls at_).take (k+1)=(tBl ls at_).take k++ [blk]:=(by rw [zI,fM (by have:=Hi.out;have:=Hn.out;omega),Hblk.out];rfl)
      have e2:(tFi ls).take (k+1)=(tFi ls).take k++ [a]:=(by rw [zI,pV (by rw [<-Hi.out];exact Ha.out)];rfl);have e3:css.flatten++ #[Value.slice A9 bl c9].toList=(css++ [[Value.slice A9 bl c9]]).flatten:=(by simp);rw [e3,<-e1,<-e2,<-Hrest.out]at HS12;have HI:=Hi.out;have HM:=Hm.out;clear q1 qf HS9 HS10 HS11 hx hd0 hd1 hca hd1a ca cz hto hto2 hto3 hsub hsub2 hDiv hDivT e3 e1 e2;go_wp2
      go_roundg (nB n - (k+1))
      case measure=>unfold nB at hk⊢;omega
      case rel=>exact⟨k+1,i+16,A7,A8,c7,c8,_,z,pre++blk,by show _=_;omega,by go_num,by unfold nB;omega,rfl,rfl,by
       show _\/_\/_;rcases zk (16*(k+1)) n with h|h
       ·refine .inr (.inr ?_);rw [show 16*(k+1) - 1=i+mm by have:=Hmm.out;omega];exact Hz.out
       ·exact .inr (.inl h),by show _<_;have:=HP0.out;rw [zG];omega,by show _=_;rw [<-Hpre.out,Hblk.out],HS12⟩
  ·have hkn' :nB n<=k:=(by unfold nB;omega);have hall:tBl ls at_=(tBl ls at_).take k:=(by rw [zF];unfold tBl;rw [zK,xg,Hn.out];exact hkn')
   have hfi:tFi ls=(tFi ls).take k:=(by rw [zF];unfold tFi;rw [zK,xg,Hn.out];exact hkn');have hend:(tBl ls at_).drop k= []:=(by rw [zQ];unfold tBl;rw [zK,xg,Hn.out];exact hkn');rw [hend,<-hall,<-hfi]at HS;have HE:=zA (gC HS.p4);have hfin:(rsAt pre ([]:List aC).flatten).fin=rsAt pre []:=(by simp [RS.fin,rsAt,RS.left]);rw [hfin]at HE;clear hall hfi hend hfin HS
   go_wp2_with (go_at_call 129;refine HE.out.mono ?_;rintro e w5 ⟨rfl,HS5⟩);go_ret2;refine⟨D,rfl,?_⟩
   have h1:Sp w5 [DatA (.slice A1 k c1) (tBl ls at_),BlkA D 131 #[.slice A1 k c1,.slice A2 k c2,.int .i64 (n:Int)],SA A2 k c2 (tFi ls),OldA w.heap.size w]:=
    (show Sp w5 [RowA 65 (Rep.size aC) (.slice A1 k c1) k css.flatten,ElsA css (tBl ls at_),BlkA D 131 #[.slice A1 k c1,.slice A2 k c2,.int .i64 (n:Int)],SA A2 k c2 (tFi ls),OldA w.heap.size w]from HS5.sel [2,3,1,4,5]).els
   have h2:=h1.p2.strs (fun x hx=>by
    unfold tFi at hx;obtain⟨j,hj,rfl⟩:=List.mem_map.1 hx;have hj2:=List.mem_range.1 hj;have hlt:16*j<ls.length:=(by unfold nB at hj2;omega);rw [zm,zB hlt,yq];have:=YM Hr.out _ (List.getElem_mem hlt);omega)
   have h3:=h2.mk2 (cs:= [.slice A1 k c1,.slice A2 k c2,.int .i64 (n:Int)]) (x:=(tBl ls at_,tFi ls,(n:Int))) fun S r1 r2=>⟨_,_,rfl,r2,_,_,rfl,r1,rfl,show In64 (n:Int) by unfold In64;omega⟩;exact h3.p1.ptr
theorem vA (p q:Addr) (w:O):
 CallsD prog 30 #[.pointer (some p),.pointer (some q)] .returning w fun e u' w' =>e= .returned (.tuple #[])/\u' = .returning/\w' =w:=by
 have heq:∀W:O,(binOp .eql 20 .nilIface .nilIface).run prog W= .ok (.bool true) W:=fun W=>by kernel_rfl
 have ht: #[Value.pointer (some p),.pointer (some q)]++(Array.replicate 17 undef).setIfInBounds 5 Value.nilIface= #[.pointer (some p),.pointer (some q),undef,undef,undef,undef,undef,.nilIface,undef,undef,undef,undef,undef,undef,undef,undef,undef,undef,undef]:=by kernel_rfl
 refine callsD_of_wpS func30 rfl fun c₀ cs hu=> ?_
 apply wpS_seq
 apply wpS_region
 simp [wpOpsS,go_sem,recoverD,hu,ntmps30,Exit.thenS];refine wpS_of_wp ?_;rw [ht];go_wp2;refine⟨rfl,.returning,?_,.tuple #[],results_none rfl _ _ _,rfl,rfl,rfl⟩;cases c₀;simp only at hu;subst hu;rfl
theorem BS (p q:Nat) (er:Int) (tp tq:TypeId) (v0 u0:V) (w:O) (L:List Asn) (HS:Sp w (BlkA p tp #[v0]::BlkA q tq #[u0]::L)):
 CallsD prog 30 #[.pointer (some ⟨p,0,none⟩),.pointer (some ⟨q,0,none⟩)] (.panicking [Q1 er]) w fun e u' w' =>e= .returned (.tuple #[])/\u' = .panicking [{Q1 er with recovered:=true}]/\Sp w' (BlkA p tp #[.pointer none]::BlkA q tq #[.int .i64 er]::L):=by
 have heq:∀W:O,(binOp .eql 20 (.iface 136 (.agg #[.int .i64 er])) .nilIface).run prog W= .ok (.bool false) W:=fun W=>by kernel_rfl
 have hta:∀W:O,(Instr.typeAssert (.iface 136 (.agg #[.int .i64 er])) 20 136 true).run prog W= .ok (.tuple #[.agg #[.int .i64 er],.bool true]) W:=fun W=>by kernel_rfl
 have ht: #[Value.pointer (some ⟨p,0,none⟩),.pointer (some ⟨q,0,none⟩)]++(Array.replicate 17 undef).setIfInBounds 5 (.iface 136 (.agg #[.int .i64 er]))= #[.pointer (some ⟨p,0,none⟩),.pointer (some ⟨q,0,none⟩),undef,undef,undef,undef,undef,.iface 136 (.agg #[.int .i64 er]),undef,undef,undef,undef,undef,undef,undef,undef,undef,undef,undef]:=by kernel_rfl
 refine callsD_of_wpS func30 rfl fun c₀ cs hu=> ?_
 apply wpS_seq
 apply wpS_region
 simp [wpOpsS,go_sem,recoverD,Q1,hu,ntmps30,Exit.thenS];refine wpS_of_wp ?_;rw [ht];obtain⟨H,hH⟩:=eX (w.heap.size);have HS1:=(HS.blkH 136 #[.int .i64 er] hH).p2.p2;go_upto_region 7 with fail;obtain⟨w1,hw1⟩:=eX (w.alloc (.cells #[.int .i64 er] 136));rw [hw1]at HS1⊢;have y0:=HS1.cl M2 0;have y1:=HS1.cl M0 0;have y2:=HS1.cl M1 0;have z1:=(HS1.blkOf M0).frozen 0;have z2:=(HS1.blkOf M1).frozen 0
 have HS2:=HS1.set 0 (.pointer none);have y3:(w1.setCell ⟨p,0,none⟩ (.pointer none)).cell? ⟨H,0,none⟩=some (.int .i64 er):=HS2.cell M2 0;have y4:(w1.setCell ⟨p,0,none⟩ (.pointer none)).cell? ⟨q,0,none⟩=some u0:=HS2.cell M1 0;have z4:=(HS2.blkOf M1).frozen 0;have HS3:=zA (HS2.p1.set 0 (.int .i64 er)).drew;clear HS HS1 HS2 hw1 hH heq hta
 go_region
 all_goals
  go_wp2;refine⟨rfl,.panicking [{Q1 er with recovered:=true}],?_,.tuple #[],results_none rfl _ _ _,rfl,rfl,HS3.out.p1.d2⟩;cases c₀;rfl
theorem Wf {zs:aD} (h:Q6 zs=true):∀(d i:Nat),i+d<zs.length->zs.getD i 0<=zs.getD (i+d) 0
 |0,i,_=>Int.le_refl _
 |d+1,i,hi=>by
  have h1:=Wf h d i (by omega);unfold Q6 OK at h;rw [List.all_eq_true]at h;have h2:=h (i+d) (List.mem_range.2 (by omega));simp only [decide_eq_true_eq]at h2;rw [<-Nat.add_assoc];omega
theorem Qb:∀(ps:List PostD) (last:Int) (all:Nat), -1<=last->last<16384->all<=1048576->xa last all ps=true->YJ ps/\all+(ym ps).length<=1048576/\(ps.length:Int)<=16383 - last
 | [],last,all,h1,h0,h2,_=>⟨fun p hp=>(by cases hp),by simpa [ym]using h2,by simp;omega⟩
 |p::l,last,all,h1,h0,h2,h=>by
  simp only [xa,Yv,zM,decide_eq_true_eq]at h;obtain⟨⟨⟨⟨⟨⟨⟨a1,a2⟩,a3⟩,a4⟩,a5⟩,a6⟩,a7⟩,a8⟩:=h;obtain⟨b1,b2,b3⟩:=Qb l p.doc (all+p.pos.length) (by omega) a2 a4 a8;refine⟨fun q hq=> ?_,?_,by simp only [z6];omega⟩
  ·rcases yx.1 hq with rfl|hq
   ·refine⟨by omega,a2,by omega,fun z hz=> ?_⟩;obtain⟨i,hi⟩:=z8 hz;have hi2:=zN hi;have e:=Xf hi;have k1:=Wf a5 i 0 (by omega);have k2:=Wf a5 (q.pos.length - 1 - i) i (by omega);rw [zx,e]at k1;rw [show i+(q.pos.length - 1 - i)=q.pos.length - 1 by omega,e]at k2;omega
   ·exact b1 q hq
  ·simp only [ym,zp,zG,WJ]at b2⊢;omega
theorem QN {ps:List PostD} (h:xk ps=true):YJ ps/\(ym ps).length<=1048576/\ps.length<=16384:=by
 obtain⟨h1,h2,h3⟩:=Qb ps (-1) 0 (by omega) (by omega) (by omega) h;exact⟨h1,by omega,by omega⟩
def endD (b:List PostD) (last:Int):Int:=(b.getLast?.map PostD.doc).getD last
def blkD (ps:List PostD) (st:aC×Int) (x:Nat):aC×Int:=
 let b:=(ps.drop x).take 8
 (st.1++zP (Yu b st.2).length++zP (IntKind.u64.wrap (endD b st.2 - st.2)).toNat++Yu b st.2,endD b st.2)
def YB (ps:List PostD):aC:=((ZC 8 ((ps.length+7) / 8)).foldl (blkD ps) (zP ps.length, -1)).1
theorem rZ {n k:Nat} (h1:n<=k*8) (h2:k=0\/(k - 1)*8<n):k=(n+7) / 8:=by omega
theorem YJ.sub {ps:List PostD} (h:YJ ps) (x:Nat):YJ ((ps.drop x).take 8):=fun p hp=>h p (List.mem_of_mem_drop (yu hp))
theorem fB {b:List PostD} {last:Int} (h:YJ b) (h1: -1<=last/\last<16384): -1<=endD b last/\endD b last<16384:=by
 unfold endD;rcases hb:b.getLast? with _|p
 ·exact h1
 ·have:=h p (List.mem_of_getLast? hb);simp;omega
theorem wP (ps:List PostD) (x:Nat):(ym ((ps.drop x).take 8)).length<=(ym ps).length:=by
 unfold ym
 conv=>rhs;rw [<-zu x ps,yS,<-zu 8 (ps.drop x),yS]
 simp only [zG];omega
end Go.Proofs.YtjbhbfaeielbiaaGreatDoor

import Derived.Test.YtjbhbfaeielbiaaGreatDoorPart20
import Derived.Test.YtjbhbfaeielbiaaGreatDoorPart19
import Derived.Deep.DeepCutAuto
set_option maxRecDepth 100000
set_option maxHeartbeats 8000000
set_option linter.unusedVariables false
set_option linter.unusedSimpArgs false
namespace Go.Proofs.YtjbhbfaeielbiaaGreatDoor
open Tryz
open Rep (rep)
open Go.RowKit
def docD:Int->List PostD->aD
 |_, []=> []
 |last,p::l=>(p.doc - last - 1)::docD p.doc l
def posD:Int->aD->aD
 |_, []=> []
 |at_,z::l=>(z - at_)::posD z l
def ZS (l:List PostD):aD:=l.map fun p=>(p.pos.length:Int) - 1
def ym (l:List PostD):aD:=l.flatMap fun p=>posD 0 p.pos
def Yu (l:List PostD) (last:Int):aC:=putL (docD last l)++putL (ZS l)++putL (ym l)
theorem WJ:∀(at_:Int) (l:aD),(posD at_ l).length=l.length
 |_, []=>rfl
 |_,z::l=>by simp [posD,WJ z l]
theorem yb {α:Type} {l:List α} {k:Nat} {x:α} (h:l[k]? =some x):l.drop k=x::l.drop (k+1):=by
 obtain⟨a,rfl⟩:=List.getElem?_eq_some_iff.1 h;exact za a
abbrev IA (A:aA) (m c:Nat) (l:aD):Asn:=RowA 2 1 (.slice A m c) m (ints l)
theorem Sp.ilen {w:O} {L:List Asn} {A:aA} {m c:Nat} {l:aD} (h:Sp w L) (a:IA A m c l∈L):l.length=m/\m<=c/\c<=9223372036854775807:=by
 have:=h.rowOf a;exact⟨by have h:=this.1;rw [Xd]at h;omega,this.cap.2⟩
theorem DK {w:O} {a b c:aA} {m n o:Nat} (d c2 e:Nat) {f g h:aC} (t:TypeId) (p:RB w a m f) (q:RB w b n g) (r:RB w c o h) (z:m<=9223372036854775807) (A:n<=9223372036854775807) (B:o<=9223372036854775807) {H:Nat} (y:w.heap.size=H):
 OY (w.alloc (.cells #[.slice a m d,.slice b n c2,.slice c o e] t)) (some ⟨H,0,none⟩) 3 [f,g,h]:=by
 subst y;have s:=p.len;have u:=q.len;have v:=r.len;subst s u v;have i:Below w.heap.size w (w.alloc (.cells #[.slice a f.length d,.slice b g.length c2,.slice c h.length e] t)):=(zE _ _).alloc (zC _) _;have j:=Blk.new w t #[.slice a f.length d,.slice b g.length c2,.slice c h.length e];refine⟨rfl,fun k C l=> ?_⟩;have x:k=0\/k=1\/k=2:=by have:=zN l;simp at this;omega
 rcases x with rfl|rfl|rfl<;>(simp at l;subst l)
 ·exact⟨w.heap.size,0,a,d,rfl,by simp,j.cell 0,p.on i,z⟩
 ·exact⟨w.heap.size,0,b,c2,rfl,by simp,j.cell 1,q.on i,A⟩
 ·exact⟨w.heap.size,0,c,e,rfl,by simp,j.cell 2,r.on i,B⟩
def YJ (ps:List PostD):Prop:=∀p∈ps,0<=p.doc/\p.doc<16384/\p.pos.length<=1048576/\∀z∈p.pos,0<=z/\z<=1048576
theorem cU:∀(l:List PostD) (last:Int), -1<=last->last<16384->YJ l->InL (docD last l)
 | [],_,_,_,_,x,a=>by cases a
 |p::l,last,h1,h2,hp,x,a=>by
  have b:=hp p (by simp);rcases yx.1 a with rfl|a
  ·omega
  ·exact cU l p.doc (by omega) b.2.1 (fun q c=>hp q (by simp [c])) x a
theorem oU:∀(l:aD) (at_:Int),0<=at_->at_<=1048576->(∀z∈l,0<=z/\z<=1048576)->InL (posD at_ l)
 | [],_,_,_,_,x,a=>by cases a
 |z::l,at_,h1,h2,hz,x,a=>by
  have b:=hz z (by simp);rcases yx.1 a with rfl|a
  ·omega
  ·exact oU l z b.1 b.2 (fun q c=>hz q (by simp [c])) x a
theorem d8 {l:List PostD} (a:YJ l):InL (ZS l):=by
 intro x b;obtain⟨p,h,rfl⟩:=List.mem_map.1 b;have:=(a p h).2.2.1;omega
theorem VT {l:List PostD} (b:YJ l):InL (ym l):=by
 intro x a;obtain⟨p,h,a⟩:=List.mem_flatMap.1 a;exact oU p.pos 0 (by omega) (by omega) (b p h).2.2.2 x a
theorem IP (A:aA) (n c:Nat) (ps:List PostD) (a:Int) (w:O) (hn:n<=1000000) (hl:zL w (·<w.heap.size) A n c ps) (hp:YJ ps) (D: -1<=a/\a<16384) (hc:(ym ps).length<=1000000000):
 Calls prog 265 #[.slice A n c,.int .i64 a] w fun e w' =>∃A' m c',e= .returned (.slice A' m c')/\Sp w' [BA A' m c' (Yu ps a),OldA w.heap.size w]:=by
 have X:=zA hl.length;have Hl:=zA hl;have Hp:=zA hp;have Y:=zA hc;clear hl hp hc;have hj:=(((Sp.start w).nil 2 1).nil 2 1).nil 2 1;go_enter func265,ntmps265;go_wp2
 go_loopg [1,5,6,7,15] n (fun gk vl v5 v6 v7 vi wr=>∃(k:Nat) (last:Int) (A5 A6 l:aA) (c5 c6 s o:Nat) (y B E:aD),k<=n/\gk=n - k/\vi= .int .i64 k/\vl= .int .i64 last/\ -1<=last/\last<16384/\v5= .slice A5 k c5/\v6= .slice A6 k c6/\v7= .slice l s o/\
  Hid (docD a ps=y++docD last (ps.drop k))/\Hid (ZS ps=B++ZS (ps.drop k))/\Hid (ym ps=E++ym (ps.drop k))/\Sp wr [IA A5 k c5 y,IA A6 k c6 B,IA l s o E,OldA w.heap.size w])
 case atStart=>exact⟨0,a,none,none,none,0,0,0,0, [], [], [],zJ _,rfl,rfl,rfl,D.1,D.2,rfl,rfl,rfl,rfl,rfl,rfl,hj⟩
 case round=>
  obtain⟨k,last,A5,A6,l,c5,c6,s,o,y,B,E,hk,rfl,rfl,rfl,x5,x6,rfl,rfl,rfl,HD,HF,HP,r⟩:=hrel;have C:=r.below (.tail _ (.tail _ (.tail _ (.head _))))
  by_cases hz:k<n
  ·obtain⟨b,off,p,rfl,Hx,hb,he⟩:=Hl.o.at_ hz
   obtain⟨A2,f,c2,e0,R,h2,hd⟩:=PostD.at_ he
   have hy:=(C.cell (p:=⟨b,off+k*2,none⟩) hb).trans e0;have xn:=(C.cell (p:=⟨b,off+k*2+1,none⟩) hb).trans R;obtain⟨d,K⟩:=eX (p.doc);obtain⟨h5,h6,h7,ha⟩:=Hp.o p (zD Hx.o);have L:=h2.length;rw [K]at hy h5 h6;rw [L]at h7;have x:=zA (yb Hx.o);have ht:=zA K;have I:=zA L;have hw:=zA ha;have H2:=zA h2;have W:=(r.blk 116 #[.int .i64 d,.slice A2 f c2]).p1
   have h9:s+f<=1000000000:=by
    have h:=congrArg List.length HP.o;rw [x.o]at h;simp only [ym,zp,zG,WJ,I.o]at h;have h3:=Y.o;have h4:=(r.ilen (.tail _ (.tail _ (.head _)))).1;simp only [ym]at h3;omega
   clear e0 R he hd K L ha h2 C;have x3:=(r.ilen (.tail _ (.tail _ (.head _)))).2
   go_wp2_with (first
    |(at_builtin;refine yC Zs (.tmp 19) (.tmp 25) rfl rfl W rfl (cs:= #[.int .i64 (d - last - 1)]) rfl (by simp) rfl (by intro u F;simp at F;subst F;rfl) (by omega) (by omega) ?_;intro A8 c8 w8 x1 y0 v;have q0:=v.cell (.tail _ (.head _)) 0;have q1:=v.cell (.tail _ (.head _)) 1)
    |(at_builtin;refine yC Zs (.tmp 29) (.tmp 34) rfl rfl v.p2 rfl (cs:= #[.int .i64 ((f:Int) - 1)]) rfl rfl rfl (by intro u F;simp at F;subst F;rfl) (by omega) (by omega) ?_;intro A9 c9 w9 x2 y1 H;have r1:=H.cell (.tail _ (.tail _ (.head _))) 1))
   have U :Sp w9 [IA l s o (E++ []),IA A9 (k+1) c9 (B++ [(f:Int) - 1]),IA A8 (k+1) c8 (y++ [d - last - 1]),BlkA wr.heap.size 116 #[.int .i64 d,.slice A2 f c2],OldA w.heap.size w]:=by
    rw [zo];have h:=H.p3;have R:ints (B++ [(f:Int) - 1])=ints B++ #[Value.int .i64 ((f:Int) - 1)].toList:=(by simp [ints]);have e2:ints (y++ [d - last - 1])=ints y++ #[Value.int .i64 (d - last - 1)].toList:=(by simp [ints]);unfold IA;rw [R,e2];exact h
   clear v H W q0 q1
   go_loopg [7,10,12,39] f (fun gq v7 va y2 vq wq=>∃(q:Nat) (at_:Int) (l:aA) (o:Nat) (G:aD),vq= .int .i64 q/\q<=f/\gq=f - q/\va= .int .i64 at_/\0<=at_/\at_<=1048576/\v7= .slice l (s+q) o/\Hid (posD 0 p.pos=G++posD at_ (p.pos.drop q))/\Sp wq [IA l (s+q) o (E++G),IA A9 (k+1) c9 (B++ [(f:Int) - 1]),IA A8 (k+1) c8 (y++ [d - last - 1]),BlkA wr.heap.size 116 #[.int .i64 d,.slice A2 f c2],OldA w.heap.size w])
   case atStart=>exact⟨0,0,l,o, [],rfl,zJ _,rfl,rfl,by omega,by omega,rfl,rfl,U⟩
   case round=>
    obtain⟨q,at_,l,o,G,rfl,hq,rfl,rfl,xb,xi,rfl,HQ,i⟩:=hrel;have J:=i.below (.tail _ (.tail _ (.tail _ (.tail _ (.head _)))))
    by_cases h8:q<f
    ·obtain⟨b2,hh,z,rfl,Hz,hx,Z⟩:=H2.o.at_ h8
     have x4:=(J.cell (p:=⟨b2,hh+q,none⟩) hx).trans Z.int.1;have Q:=hw.o z (zD Hz.o);have hv:=zA (yb Hz.o);have hf:=Q.1;have hg:=Q.2;clear Z Q r1 J;go_wp2_with (at_builtin;refine yC Zs (.tmp 43) (.tmp 47) rfl rfl i rfl (cs:= #[.int .i64 (z - at_)]) rfl rfl rfl (by intro u F;simp at F;subst F;rfl) (by omega) (by omega) ?_;intro A3 c3 w3 xs h0 j)
     go_roundg (f - (q+1))
     case measure=>omega
     case rel=>
      have e:ints (E++(G++ [z - at_]))=ints (E++G)++ #[Value.int .i64 (z - at_)].toList:=(by rw [<-zO];simp [ints]);exact⟨q+1,z,A3,c3,G++ [z - at_],by go_num,by omega,rfl,rfl,hf,hg,rfl,by show _=_;rw [HQ.o,hv.o];simp [posD],by unfold IA;rw [e];exact j⟩
    ·obtain rfl:q=f:=by omega
     have hi:Hid (posD 0 p.pos=G):=(by show _=_;rw [HQ.o,zQ (by rw [I.o];omega)];simp [posD]);clear r1 J;go_wp2
     go_roundg (n - (k+1))
     case measure=>omega
     case rel=>
      refine⟨k+1,d,A8,A9,l,c8,c9,s+q,o,y++ [d - last - 1],B++ [(q:Int) - 1],E++G,by omega,rfl,by go_num,rfl,by omega,by omega,rfl,rfl,rfl,?_,?_,?_,i.d3.p2.p2.p1⟩
      ·show _=_;rw [HD.o,x.o];simp [docD,ht.o]
      ·show _=_;rw [HF.o,x.o];simp [ZS,I.o]
      ·show _=_;rw [HP.o,x.o];simp [ym,hi.o]
  ·obtain rfl:k=n:=by omega
   have g:ps.drop k= []:=zQ (by rw [X.o];omega);have hD:y=docD a ps:=(by have:=HD.o;rw [g]at this;simpa [docD]using this.symm);have hF:B=ZS ps:=(by have:=HF.o;rw [g]at this;simpa [ZS]using this.symm);have hP:E=ym ps:=(by have:=HP.o;rw [g]at this;simpa [ym]using this.symm);subst hD hF hP
   have h1:s<=1000000000:=(by have:=(r.ilen (.tail _ (.tail _ (.head _)))).1;have:=Y.o;omega);have q5:=(r.ilen (.head _)).2;have q6:=(r.ilen (.tail _ (.head _))).2;have q7:=(r.ilen (.tail _ (.tail _ (.head _)))).2;have P1:=zA (Qc A5 k c5 (docD a ps) wr (by omega) q5.1 q5.2 (r.rc (.head _)) (cU ps a D.1 D.2 Hp.o));clear g C;go_wp2_with fail;refine P1.o.mono ?_
   rintro e w1 ⟨B1,m1,rfl,x8,hm⟩;have S:=r.c1 hm;have P2:=zA (Qc A6 k c6 (ZS ps) w1 (by omega) q6.1 q6.2 (S.rc (.tail _ (.tail _ (.head _)))) (d8 Hp.o));go_wp2_with fail;refine P2.o.mono ?_;rintro e w2 ⟨B2,m2,rfl,ys,ho⟩;have i:=S.c1 ho;have P3:=zA (Qc l s o (ym ps) w2 h1 q7.1 q7.2 (i.rc (.tail _ (.tail _ (.tail _ (.tail _ (.head _)))))) (VT Hp.o));go_wp2_with fail
   refine P3.o.mono ?_;rintro e w3 ⟨B3,m3,rfl,h0,hr⟩;have j:=i.c1 hr;have M:=(j.rb (.tail _ (.tail _ (.head _)))).1;have N:=(j.rb (.tail _ (.head _))).1;have P:=(j.rb (.head _)).1;have R:=M.len;have e2:=N.len;have e3:=P.len
   have P4:=zA (fun t=>j3 (some ⟨w3.heap.size,0,none⟩) 3 3 [putL (docD a ps),putL (ZS ps),putL (ym ps)] _ (by omega) (DK m1 m2 m3 t M N P (by omega) (by omega) (by omega) rfl) (by simp;omega));clear M N P R e2 e3;go_wp2_with fail;refine(P4.o _).mono ?_;rintro e w4 ⟨B4,m4,c4,rfl,hs⟩;have T:=(j.al _).c1 hs;go_wp2;go_ret
   refine⟨B4,m4,c4,rfl,?_⟩;have e: [putL (docD a ps),putL (ZS ps),putL (ym ps)].flatten=Yu ps a:=(by simp [Yu]);rw [e]at T;exact T.d1.d1.d1.d1.d1.d1
attribute [local go_sem ↓] zU zV
theorem lU:Elt prog 128 65 1 24:=xt underlying128 (by decide) (by kernel_rfl)
theorem GR:(Tryz.prog.info? 3).bind (fun i=>i.zero)=some (.int .i64 0):=by kernel_rfl
theorem nE (N:Nat):(madeCells (Value.int .i64 0).cells (N*1)).toList=ints (List.replicate N 0):=by
 apply List.ext_getElem
 ·simp [madeCells,ints]
 ·intro i a b;simp [madeCells,ints,Value.cells,Nat.mod_one]
abbrev NA (A:aA) (m c:Nat) (l:aD):Asn:=RowA 3 1 (.slice A m c) m (ints l)
def aO (a:List aC):aC:=a.flatMap fun s=>zP s.length
def Vx (a:List aC):aD:=a.map fun s=>(s.length:Int)
theorem VR {kind:UInt8} {a:List aC} (h:xR kind a=true):
 ZN kind (ZQ kind a)=true/\8<=(ZQ kind a).length/\(ZQ kind a).length<=16777216/\a.length<=1024/\(∀s∈a,s.length<=16777216)/\
  ((ZQ kind a).take ((ZQ kind a).length - 4)).drop 4=zP a.length++(aO a++a.flatten):=by
 have c:=DT h
 have b:ZN kind (ZQ kind a)=true:=by
  unfold gD at c
  split at c
  ·assumption
  ·cases c
 simp only [xR,zM,decide_eq_true_eq]at h;have hlen:(ZQ kind a).length=(xN kind a).length+4:=by simp [ZQ,Za]
 refine⟨b,?_,by omega,h.1,?_,?_⟩
 ·have:=b;unfold ZN at this;simp only [zM,decide_eq_true_eq]at this;exact this.1.1
 ·intro s b;have d:=h.2;simp only [xN,zG,List.length_flatten]at d;have:s.length<=(a.map List.length).sum:=Uc (List.mem_map.2 ⟨s,b,rfl⟩);omega
 ·rw [hlen,Nat.add_sub_cancel,ZQ,List.take_left];simp [xN,WS,aO]
theorem IL {a:List aC} {k:Nat} {s:aC} (h:a[k]? =some s):aO (a.drop k)=zP s.length++aO (a.drop (k+1)):=by
 rw [yb h];rfl
theorem LS {a:List aC} {k:Nat} {s:aC} (h:a[k]? =some s):(a.drop k).flatten=s++(a.drop (k+1)).flatten:=by
 rw [yb h];rfl
theorem WR (l:aD) (j:Nat) (x:Int):ints (l.set j x)=(ints l).set j (.int .i64 x):=by
 unfold ints;rw [List.map_set]
theorem Z9 {l:aD} {j:Nat} {x:Int} (h:l[j]? =some x):(ints l)[j]? =some (.int .i64 x):=by
 unfold ints;rw [zH,h];rfl
theorem Xx {α:Type} {l m:List α} {k:Nat} {x:α} (a:k<l.length) (h:l.take k=m.take k) (b:m[k]? =some x):(l.set k x).take (k+1)=m.take (k+1):=by
 rw [zI,zI,b,List.take_set_of_le (zC _),h];simp [a]
theorem DU (kind:UInt8) (a:List aC) (A:aA) (nb c:Nat) (w:O) (hc:nb<=c) (hh:c<=9223372036854775807) (E:RB w A nb (ZQ kind a)) (hf:xR kind a=true):
 Calls prog 72 #[.int .u8 (kind.toNat:Int),.slice A nb c] w fun e w' =>∃A' m,e= .returned (.tuple #[.slice A' m m,.int .i64 0])/\Sp w' [DatA (.slice A' m m) a,OldA w.heap.size w]:=by
 have z:=zA E.len;have hv:=hc;obtain⟨J,f2,f3,f4,f5,Y⟩:=VR hf;obtain⟨b,Z⟩:=eX (ZQ kind a);rw [Z]at E z J f2 f3 Y;have hk:Qy b=some kind:=sU J;have Hk:=zA (show Calls prog 126 #[.slice A nb c] w fun e w' =>e= .returned (.tuple #[.int .u8 (kind.toNat:Int),.bool true])/\w=w' by have h:=nJ A nb c b w hc hh E;rw [hk]at h;exact h);have hr:=z.o
 obtain⟨q,hq⟩:∃q:Nat,nb=q+4:=⟨nb - 4,by omega⟩;have x3:IntKind.i64.wrap ((nb:Int) - 4)=(q:Int):=by rw [zT];omega
 have xn:(q:Int)<=nb:=by omega
 have xs:(q:Int)<=c:=by omega
 have hx:¬((q:Int)<4):=by omega
 have h6:decide ((q:Int)<4)=false:=by simp [hx]
 have x1:(0:Int)<=q:=by omega
 have x2:(4:Int)<=q:=by omega
 have hv:(nb:Int)<=c:=by omega
 have hw:nb - q=4:=by omega
 have hg :(nb:Int)<=16777216:=by omega
 have ht:a.length<=1024:=f4;have C:((ZQ kind a).take q).drop 4=zP a.length++(aO a++a.flatten):=by rw [Z];rw [show b.length - 4=q by omega]at Y;exact Y
 rw [Z]at C
 have S:Hid ((b.drop q==Za (sumL [b.take q].flatten))=true):=by
  show _=_;unfold ZN at J;simp only [zM,decide_eq_true_eq]at J;have:=J.2;rw [show b.length - 4=q by omega]at this;simp [this]
 have hD:RB w A q (b.take q):=E.take (by omega);have hT:RB w (if c=q then A else A.map (·.add q)) (nb - q) (b.drop q):=E.tail hc (by omega);have hB:RB w (if c=4 then A else A.map (·.add 4)) (q - 4) ((b.take q).drop 4):=hD.tail (by omega) (by omega);rw [C]at hB;obtain⟨s,hs⟩:=eX (sumL [b.take q].flatten);have h1:s<4294967296:=by rw [<-hs];exact eT _
 rw [hs]at S;obtain⟨L,W⟩:∃L:Int,(kind.toNat:Int)=L:=⟨_,rfl⟩;rw [W]at Hk⊢;have xb:(L==L)=true:=by simp
 have h5:(L !=L)=false:=by simp
 obtain⟨v,off,rfl⟩:∃v off,A=some ⟨v,off,none⟩:=by obtain⟨v,off,e,_⟩:=E.2 (by omega);exact⟨v,off,e⟩
 have y:=zA (eS (some ⟨w.heap.size,0,none⟩) 1 1 [b.take q] ((w.alloc (.cells #[.slice (some ⟨v,off,none⟩) q c] 65)).drew) (by omega) (eW c 65 (hD.on (w' :=w.drew) (zE _ _).drew) (by omega) rfl));rw [hs]at y;rw [if_neg (by omega),hw]at hT;have HT:=zA (show RB w (some ⟨v,off+q,none⟩) 4 (b.drop q) by simpa [Addr.add,show q≠0 by omega]using hT);rw [if_neg (by omega)]at hB
 have HB:=zA (show RB w (some ⟨v,off+4,none⟩) (q - 4) (zP a.length++(aO a++a.flatten)) by simpa [Addr.add]using hB);have F5:=zA f5;have hy:q - 4<=140737488355328:=by omega
 have o:=((Sp.start w).al (.cells #[.slice (some ⟨v,off,none⟩) q c] 65)).drew;clear hD hT hs hB E J f2 f3 f4 f5 Y hk W C Z hr hq hc;go_enter func72,ntmps72;go_wp2_with (refine Hk.o.mono ?_;rintro e w2 ⟨rfl,rfl⟩)
 go_region_held3 (fun _=>True) (trivial) (first
  |(go_at_call 128;refine y.o.mono ?_;rintro e5 w5 ⟨rfl,hd⟩;have f:=o.grow hd)
  |(go_at_call 127;refine(eA s w5 h1).mono ?_;rintro e6 w6 ⟨A4,rfl,hz,he⟩;have g:=f.grow he;have h0:RB w6 A4 4 (Za s):=hz.rc;have R:=zA (lS (some ⟨v,off+q,none⟩) 4 (c - q) (b.drop q) A4 4 4 (Za s) w6 (HT.o.on (g.below (.head _))) h0);rw [S.o]at R)
  |(go_at_call 57;refine R.o.mono ?_;rintro e7 w7 ⟨rfl,rfl⟩))
 go_wp2_with fail;refine(VG g (HB.o.on (g.below (.head _))) hy).mono ?_;rintro e w7 ⟨p,rfl,Q⟩;obtain⟨m,hm⟩:=eX (a.length);have d:Sp w7 [RdA p (rsAt [] (zP m++(aO a++a.flatten))),OldA w.heap.size w]:=by rw [<-hm];simpa [rsAt]using Q
 have M:=zA (ZH d 1024 (by omega));rw [yn (by omega) (by omega)]at M;clear o f g Q d;have I:=zA hm;rw [hm]at ht;clear hm;go_wp2_with fail;refine M.o.mono ?_;rintro e w8 ⟨rfl,d⟩;have h3:∃H,w8.heap.size=H:=⟨_,rfl⟩;obtain⟨H,hH⟩:=h3;go_wp2_with (at_make;refine Zk Xr (.tmp 55) (.tmp 55) rfl rfl d hH rfl rfl (by omega) (by omega) GR ?_;intro w9 t;rw [nE]at t)
 go_loopg [59] m (fun gk vi wr=>∃(k:Nat) (cur:aD) (pre:aC),vi= .int .i64 k/\k<=m/\gk=m - k/\cur.length=m/\Hid (cur.take k=(Vx a).take k)/\Sp wr [NA (some ⟨H,0,none⟩) m m cur,RdA p (rsAt pre (aO (a.drop k)++a.flatten)),OldA w.heap.size w])
 case atStart=>exact⟨0,List.replicate m 0,_,rfl,zJ _,rfl,by simp,rfl,t⟩
 case round=>
  obtain⟨k,cur,pre,rfl,hk,rfl,hi,HC,o⟩:=hrel
  by_cases hp:k<m
  ·obtain⟨s,B⟩:∃s,Hid (a[k]? =some s):=⟨_,zB (by rw [I.o];exact hp)⟩;have F:=F5.o s (zD B.o);obtain⟨n,K⟩:=eX (s.length);have G:=zA (ZH o.p1 16777216 (by omega));rw [IL B.o,K,zO,yn (by omega) (by omega)]at G
   have ha:Hid ((cur.set k (n:Int)).take (k+1)=(Vx a).take (k+1)):=
    Xx (by omega) HC.o (by unfold Vx;rw [zH,B.o,<-K];rfl)
   clear K F;go_wp2_with (go_at_call 74;refine G.o.mono ?_;rintro e w2 ⟨rfl,r⟩;have h8:=r.p1.rowCell (.head _) (Z9 (zB (l:=cur) (i:=k) (by omega)));have h9:=r.p1.rowFree (.head _) k);have P:=r.p1.rowSet k (.int .i64 (n:Int));rw [<-WR]at P
   go_roundg (m - (k+1))
   ·exact⟨k+1,cur.set k (n:Int),_,by go_num,by omega,rfl,by simp [hi],ha,P⟩
   ·omega
  ·obtain rfl:k=m:=by omega
   have T:cur=Vx a:=by
    have h:=HC.o
    rwa [zF (by omega),zF (by unfold Vx;rw [zK,I.o];omega)]at h
   subst T
   have N:Sp wr [NA (some ⟨H,0,none⟩) k k (Vx a),RdA p (rsAt pre ((a.drop 0).flatten)),OldA w.heap.size w]:=by
    rw [zQ (by rw [I.o];omega)]at o;exact o
   have r:=((N.elsNil (α:=aC)).nil 65 1);clear o N HC t d;go_wp2
   go_loopg [12,70] k (fun gk vo vi wr=>∃(j:Nat) (X:aA) (c1:Nat) (css:List aF) (pre:aC),vo= .slice X j c1/\vi= .int .i64 j/\j<=k/\gk=k - j/\Sp wr [RowA 65 1 (.slice X j c1) j css.flatten,ElsA css (a.take j),RdA p (rsAt pre ((a.drop j).flatten)),NA (some ⟨H,0,none⟩) k k (Vx a),OldA w.heap.size w])
   case atStart=>exact⟨0,none,0, [],pre,rfl,rfl,zJ _,rfl,by simpa using(r.p3.p2.p2)⟩
   case round=>
    obtain⟨j,X,c1,css,pre,rfl,rfl,hj,rfl,o⟩:=hrel
    by_cases ho:j<k
    ·obtain⟨s,B⟩:∃s,Hid (a[j]? =some s):=⟨_,zB (by rw [I.o];exact ho)⟩;have F:=F5.o s (zD B.o);have D:=o.rowCell (.tail _ (.tail _ (.tail _ (.head _)))) (Z9 (l:=Vx a) (x:=(s.length:Int)) (by unfold Vx;rw [zH,B.o];rfl));have G:=zA (oT o.p2 s.length (by omega));rw [LS B.o,X4]at G;have h2:=zA (show a.take (j+1)=a.take j++ [s] by rw [zI,B.o];rfl)
     obtain⟨n,K⟩:=eX (s.length);rw [K]at D G F;clear K
     go_wp2_with (first
      |(go_at_call 76;refine G.o.mono ?_;rintro e w2 ⟨A5,n5,rfl,f⟩;have g:=f.p2)
      |(at_builtin;refine yC lU (.tmp 74) (.tmp 78) rfl rfl g rfl (cs:= #[.slice A5 n5 n5]) rfl rfl rfl (by intro u hu;simp at hu;subst hu;rfl) (by omega) (by omega) ?_;intro A8 c8 w8 h7 xi d))
     have t:=d.p1.bytes.p3.p1.elsPush
     go_roundg (k - (j+1))
     ·exact⟨j+1,A8,c8,css++ [[.slice A5 n5 n5]],_,rfl,by go_num,by omega,rfl,by rw [h2.o];simpa using t.p1⟩
     ·omega
    ·obtain rfl:j=k:=by omega
     have HE:=zA (gC o.p2);rw [zQ (by rw [I.o];omega)]at HE;have U:(rsAt pre ([]:List aC).flatten).fin=rsAt pre []:=(by simp [RS.fin,rsAt,RS.left]);rw [U]at HE;have h4:=(o.rowOf (.head _)).cap
     go_wp2_with (first
      |(go_at_call 129;refine HE.o.mono ?_;rintro e w2 ⟨rfl,f⟩)
      |(go_at_call 130;refine(BI _ _ _ _ (by omega) (by omega)).mono ?_;rintro e w' ⟨rfl,rfl⟩))
     go_ret2;refine⟨X,j,rfl,?_⟩;have h:=f.tail.d2.clip.els (α:=aC);rw [zF (by rw [I.o];omega)]at h;exact h
abbrev SA (A:aA) (m c:Nat) (l:List aB):Asn:=RowA 9 1 (.slice A m c) m (sC l)
abbrev NX (p:Nat) (r:RS) (Br Bl g n:Nat) (cur:List aB) (L:List Asn):List Asn:=
 RdA p r::BlkA Br 167 #[.pointer (some ⟨p,0,none⟩)]::BlkA Bl 129 #[.slice (some ⟨g,0,none⟩) n n]::SA (some ⟨g,0,none⟩) n n cur::L
section
variable {p Br Bl g n:Nat} {r:RS} {cur:List aB} {L:List Asn} {w:O}
theorem Vk {l:List aB} {j:Nat} {x:aB} (h:l[j]? =some x):(sC l)[j]? =some (.string x):=bU h
theorem WN {j:Nat} {s:aB} (h:Sp w (NX p r Br Bl g n cur L)) (a:cur[j]? =some s):
 w.cell? ⟨Br,0,none⟩=some (.pointer (some ⟨p,0,none⟩))/\w.cell? ⟨Bl,0,none⟩=some (.slice (some ⟨g,0,none⟩) n n)/\w.cell? ⟨g,j,none⟩=some (.string s):=
 ⟨h.cell M1 0,h.cell M2 0,h.rowCell M3 (Vk a)⟩
theorem pY {p:Nat} {pre post:aC} {L:List Asn} {w:O} (h:Sp w (RdA p (rsAt pre post)::L)):
 Calls prog 79 #[.pointer (some ⟨p,0,none⟩)] w fun e w' =>e= .returned (.int .i64 0)/\w=w' :=dH h
theorem DY (h:Sp w (NX p r Br Bl g n cur L)):
 Calls prog 251 #[.int .i64 0,.pointer (some ⟨Br,0,none⟩),.pointer (some ⟨Bl,0,none⟩)] w fun e w' =>
  e= .returned (.string ⟨(r.text 4096).1.toArray⟩)/\Sp w' (NX p (r.text 4096).2 Br Bl g n cur L):=by
 have c:=h.cl M1 0;have b:=zA (bV h 4096 (by omega));clear h;go_enter func251,ntmps251;go_wp2_with (go_at_call 190;refine b.o.mono ?_;rintro e d ⟨rfl,a⟩);go_ret
 exact⟨rfl,a⟩
theorem DZ {j:Nat} {a s:aB} {pre post:aC} (hn:n<=16) (u:cur[j]? =some a) (hl:cur.length=n) (ha:a.size<=4096) (hs:s.size<=4096) (c:Op.bytesLess a.toList s.toList=true)
 (h:Sp w (NX p (rsAt pre (zP (shN a.data.toList s.data.toList)++(zP (s.extract (shN a.data.toList s.data.toList) s.size).size++(s.extract (shN a.data.toList s.data.toList) s.size).data.toList++post))) Br Bl g n cur L)):
 Calls prog 251 #[.int .i64 ((j:Int)+1),.pointer (some ⟨Br,0,none⟩),.pointer (some ⟨Bl,0,none⟩)] w fun e w' =>
  e= .returned (.string s)/\Sp w' (NX p (rsAt (pre++zP (shN a.data.toList s.data.toList)++(zP (s.extract (shN a.data.toList s.data.toList) s.size).size++(s.extract (shN a.data.toList s.data.toList) s.size).data.toList)) post) Br Bl g n cur L):=by
 have Q:j<n:=by have:=zN u;omega
 have k:=fN a s;have o:=zA (fun W=>iY a s W (by omega) (by omega));have b:=zA (KX a s);obtain⟨t,D⟩:=eX (shN a.data.toList s.data.toList);rw [D]at h k o b⊢;have A:(s.extract t s.size).size<=4096:=by rw [yQ];omega
 obtain⟨x,E⟩:=eX (s.extract t s.size);rw [E]at h A b⊢;have v:=zA (ZH h.drew a.size (by omega));rw [yn (show t<2^64 by omega) k.2]at v;have C:=zA (WN h u);have H:(0:Int)<(j:Int)+1:=by omega
 have G:(((j:Int)+1)==0)=false:=by simp;omega
 have I:¬((j:Int)+1=0):=by omega
 have J:IntKind.i64.wrap ((j:Int)+1 - 1)=j:=by rw [zT];omega
 have M:(j:Int)<n:=by omega
 have N:IntKind.i64.wrap (j:Int)=j:=by rw [zT];omega
 have P:(0:Int)<=j:=by omega
 have X:(t:Int)<=a.size:=by omega
 obtain⟨R,S⟩:=dW c;have T :(s.size:Int)<=4096:=by omega
 have z:=zA c;have m:=zA u;clear D E h c u k;go_enter func251,ntmps251;go_wp2
 go_region_held3 (fun W=>W.cell? ⟨Br,0,none⟩=some (.pointer (some ⟨p,0,none⟩))/\W.cell? ⟨Bl,0,none⟩=some (.slice (some ⟨g,0,none⟩) n n)/\W.cell? ⟨g,j,none⟩=some (.string a)) (first|assumption|exact C.o|exact WN f m.o)
  ((go_at_call 74;(with_reducible refine v.o.mono ?_);rintro e w2 ⟨rfl,f⟩))
 have q:x.size=x.data.toList.length:=by simp
 have B:=zA (bV f.drew 4096 (by omega));rw [q,QM (by omega) (by omega),oB]at B;have y:=zA (WN f m.o);have U:(0:Int)<=t:=by omega
 clear f q C v;go_wp2;refine gR [(10,fun W=>W.cell? ⟨Br,0,none⟩=some (.pointer (some ⟨p,0,none⟩))/\W.cell? ⟨Bl,0,none⟩=some (.slice (some ⟨g,0,none⟩) n n)/\W.cell? ⟨g,j,none⟩=some (.string a))] (hB y.o) ?_;refine gL 0 10 M0 ?_;refine gF 1 ?_;refine gF 2 ?_;refine gF 3 ?_;refine gL 4 10 M0 ?_;refine gF 5 ?_;refine gF 6 ?_;refine gL 7 10 M0 ?_;intro l;refine gO 8 fun K i=> ?_;go_simp
 refine B.o.mono ?_;rintro e w3 ⟨rfl,d⟩;refine i.o _ _ (hB (WN d m.o)) ?_;clear i K l;intro l;refine gO 9 fun K i=> ?_;go_simp
 have hz:min t a.size+x.size<=4096:=by
  have h:=congrArg ByteArray.size b.o;simp only [ByteArray.size_append,yQ]at h;omega
 rw [b.o,if_neg (by omega)];go_simp;refine i.o _ _ (hB (WN d m.o)) ?_;clear i K l;intro l;refine gO 10 fun K i=> ?_;go_simp;refine i.o _ _ hA ?_;clear i K l;intro l;refine xW (by kernel_rfl) ?_;have F:=zA (pY d);obtain⟨Z,c2,c3⟩:=WN d m.o
 go_wp2_with (first
  |(go_at_call 79;refine F.o.mono ?_;rintro e Y ⟨rfl,rfl⟩)
  |(go_at_call 252;refine(o.o _).mono ?_;rintro e Y ⟨rfl,k4,rfl⟩))
 go_ret
 exact⟨rfl,d.drewN _⟩
end
theorem pW (l:List aB) (j:Nat) (x:aB):sC (l.set j x)=(sC l).set j (.string x):=by unfold sC;rw [List.map_set]
theorem JB (N:Nat):(madeCells (Value.string ⟨#[]⟩).cells (N*1)).toList=sC (List.replicate N ⟨#[]⟩):=by
 apply List.ext_getElem
 ·simp [madeCells,sC]
 ·intro i a b;simp [madeCells,sC,Value.cells,Nat.mod_one]
abbrev UA (A:aA) (m c:Nat) (l:aE):Asn:=RowA 35 1 (.slice A m c) m (uC l)
theorem lA {p n:Nat} {ls:List aB} {at_:aE} {pre post:aC} {L:List Asn} {w:O} (h0:0<n) (hn:n<=16) (hl:ls.length=n) (ha:at_.length=n) {p0:Option aB} (hr:xj p0 ls=true) (hu:∀x∈at_,x<18446744073709551616)
 (h:Sp w (RdA p (rsAt pre (ZZ ls at_++post))::L)):
 Calls prog 185 #[.pointer (some ⟨p,0,none⟩),.int .i64 (n:Int)] w fun e w' =>∃g v,e= .returned (.tuple #[.slice (some ⟨g,0,none⟩) n n,.slice (some ⟨v,0,none⟩) n n,.bool true])/\
  Sp w' (SA (some ⟨g,0,none⟩) n n ls::UA (some ⟨v,0,none⟩) n n at_::RdA p (rsAt (pre++ZZ ls at_) post)::L):=by
 have f:=h.blk 167 #[.pointer (some ⟨p,0,none⟩)];obtain⟨N,c⟩:=eX (w.heap.size);rw [c]at f;have he:=run_make_row' (P:=prog) 129 9 (.string ⟨#[]⟩) 16 underlying129 (by kernel_rfl) rfl .i64 .i64 n (by omega) (by omega);have hf:=run_make_row' (P:=prog) 123 35 (.int .u64 0) 8 underlying123 (by kernel_rfl) rfl .i64 .i64 n (by omega) (by omega);have Q:=f.drew;have Hl:=zA hl
 have Ha:=zA ha;have Hr:=zA hr;have Hu:=zA hu;have hs:=@mF prog;clear h hl ha hr hu;go_enter func185,ntmps185;go_upto_region 1 with fail
 go_cut [7,8]from 12 to 15 (fun v7 v8 W=>∃z g v,v7= .pointer (some ⟨z,0,none⟩)/\v8= .slice (some ⟨v,0,none⟩) n n/\Sp W (BlkA z 129 #[.slice (some ⟨g,0,none⟩) n n]::RowA 9 1 (.slice (some ⟨g,0,none⟩) n n) n (madeCells #[Value.string ⟨#[]⟩] n).toList::RowA 35 1 (.slice (some ⟨v,0,none⟩) n n) n (madeCells #[Value.int .u64 0] n).toList::BlkA N 167 #[.pointer (some ⟨p,0,none⟩)]::RdA p (rsAt pre (ZZ ls at_++post))::L))
 case first=>
  go_region
  all_goals go_wp2
  all_goals go_meet
  ·exact⟨_,_,_,rfl,rfl,(((f.mkd (by simp [c]) (by omega)).mkd (by simp [c]) (by omega)).blkH _ _ (by simp [c])).drew.p2.p1⟩
  ·exact⟨_,_,_,rfl,rfl,(((f.mkd (by simp [c]) (by omega)).blkH _ _ (by simp [c])).mkd (by simp [c]) (by omega)).drew.p1.p2.p1⟩
  ·exact⟨_,_,_,rfl,rfl,(((f.mkd (by simp [c]) (by omega)).mkd (by simp [c]) (by omega)).blkH _ _ (by simp [c])).drew⟩
  ·exact⟨_,_,_,rfl,rfl,(((f.mkd (by simp [c]) (by omega)).blkH _ _ (by simp [c])).mkd (by simp [c]) (by omega)).drew.p1⟩
  ·exact⟨_,_,_,rfl,rfl,(((f.blkH _ _ (by simp [c])).mkd (by simp [c]) (by omega)).mkd (by simp [c]) (by omega)).drew.p2.p2.p1⟩
  ·exact⟨_,_,_,rfl,rfl,(((f.blkH _ _ (by simp [c])).mkd (by simp [c]) (by omega)).mkd (by simp [c]) (by omega)).drew.p2⟩
 case rest=>
  obtain⟨z,g,v,rfl,rfl,q⟩:=hcut
  have b:Sp wc (NX p (rsAt pre (YZ ls 0++(at_.flatMap zP++post))) N z g n (List.replicate n ⟨#[]⟩) (UA (some ⟨v,0,none⟩) n n (List.replicate n 0)::L)):=by
   have e1:=JB n;have e2:=Vv n;rw [yr]at e1 e2;have h:=Sp.selT [_,_,_,_,_] q [4,3,0,1,2];cases ls with
   |nil=>have:=Hl.o;simp at this;omega
   |cons a l=>
    rw [iN,zO]at h;rw [show(madeCells #[Value.string ⟨#[]⟩] n).toList=sC (List.replicate n ⟨#[]⟩)from e1,show(madeCells #[Value.int .u64 0] n).toList=uC (List.replicate n 0)from e2]at h;exact h
  have y:=b.cell M2 0;clear q f Q he hf;go_wp2
  go_loopg [19] n (fun gk vi wr=>∃(k:Nat) (cur:List aB) (r:aC),vi= .int .i64 k/\k<=n/\gk=n - k/\cur.length=n/\Hid (cur.take k=ls.take k)/\Hid (r++YZ ls k=pre++YZ ls 0)/\Sp wr (NX p (rsAt r (YZ ls k++(at_.flatMap zP++post))) N z g n cur (UA (some ⟨v,0,none⟩) n n (List.replicate n 0)::L)))
  case atStart=>exact⟨0,List.replicate n ⟨#[]⟩,pre,rfl,zJ _,rfl,by simp,rfl,rfl,b⟩
  case round=>
   obtain⟨k,cur,r,rfl,hk,rfl,m,G,H,u⟩:=hrel;clear y b
   by_cases X:k<n
   ·obtain⟨s,M⟩:∃s,Hid (ls[k]? =some s):=⟨_,zB (by rw [Hl.o];exact X)⟩;have K:=YM Hr.o s (zD M.o);have y:=u.cell M2 0;have A:Hid ((cur.set k s).take (k+1)=ls.take (k+1)):=Xx (by omega) G.o M.o;rcases zi k with I|I
    ·subst I;have HN:=zA (DY u.drew);have J:s.size=s.data.toList.length:=(by simp);rw [jG M.o,J,zO,QM (by omega) (by omega),oB]at HN
     have t:Hid (r++(zP s.data.toList.length++s.data.toList)++YZ ls 1=pre++YZ ls 0):=by
      show _=_;rw [<-H.o,jG M.o,J];simp
     clear J K;have ht:(0:Int)<n:=(by omega);go_wp2
     go_region_held3 (fun W=>W.cell? ⟨z,0,none⟩=some (.slice (some ⟨g,0,none⟩) n n)) (first|assumption|exact y|exact b.cell M2 0|exact(b.p3.rowSet 0 (.string s)).cell M3 0)
      ((go_at_call 251;refine HN.o.mono ?_;rintro e w2 ⟨rfl,b⟩;have C:=b.rowCell M3 (Vk (zB (l:=cur) (i:=0) (by omega)));have D:=b.rowFree M3 0))
     have d:=Sp.selT [_,_,_,_] (b.p3.rowSet 0 (.string s)) [1,2,3,0];rw [<-pW]at d;have S:=d.cell M2 0;clear C D;go_wp2
     go_roundg (n - 1)
     ·exact⟨1,cur.set 0 s,_,by go_num,by omega,rfl,by simp [m],A,t,d⟩
     ·omega
    ·obtain⟨j,rfl⟩:∃j,k=j+1:=⟨k - 1,by omega⟩;obtain⟨a,B⟩:∃a,Hid (ls[j]? =some a):=⟨_,zB (by rw [Hl.o];omega)⟩
     have T:cur[j]? =some a:=by
      have h:=congrArg (fun l:List aB=>l[j]?) G.o;simp only [yy,if_pos (Nat.lt_succ_self j)]at h;rw [h];exact B.o
     have e:=jH B.o M.o;have o:=mU Hr.o B.o M.o;have Y:=LK o
     have hh:(s.toList==([]:aC))=false:=by
      rw [beq_eq_false_iff_ne];intro h;apply Y;rw [ByteArray.toList_eq]at h;cases s;congr 1;exact Array.toList_inj.1 h
     have q:=u.drew;rw [e,zO,zO]at q;have HN:=zA (DZ (post:=YZ ls (j+2)++(at_.flatMap zP++post)) hn T m (YM Hr.o a (zD B.o)) K o q)
     have t:Hid (r++zP (shN a.data.toList s.data.toList)++(zP (s.extract (shN a.data.toList s.data.toList) s.size).size++(s.extract (shN a.data.toList s.data.toList) s.size).data.toList)++YZ ls (j+2)=pre++YZ ls 0):=by
      show _=_;rw [<-H.o,e];simp
     have hm:(0:Int)<(j:Int)+1:=(by omega);have ho:(0:Int)<=(j:Int)+1:=(by omega);have hp:(j:Int)+1<n:=(by omega);clear e o Y K q T I;go_wp2
     go_region_held3 (fun W=>W.cell? ⟨z,0,none⟩=some (.slice (some ⟨g,0,none⟩) n n)) (first|assumption|exact y|exact b.cell M2 0|exact(b.p3.rowSet (j+1) (.string s)).cell M3 0)
      ((go_at_call 251;refine HN.o.mono ?_;rintro e w2 ⟨rfl,b⟩;have C:=b.rowCell M3 (Vk (zB (l:=cur) (i:=j+1) (by omega)));have D:=b.rowFree M3 (j+1)))
     have d:=Sp.selT [_,_,_,_] (b.p3.rowSet (j+1) (.string s)) [1,2,3,0];rw [<-pW]at d;have S:=d.cell M2 0;have hv:=d.rowCell M3 (Vk (j:=j+1) (x:=s) (by rw [xO];simp [m,X]));clear C D;go_wp2
     go_roundg (n - (j+1+1))
     ·exact⟨j+1+1,cur.set (j+1) s,_,by go_num,by omega,rfl,by simp [m],A,t,d⟩
     ·omega
   ·obtain rfl:k=n:=by omega
    have U:cur=ls:=by
     have h:=G.o
     rwa [zF (by omega),zF (by rw [Hl.o];omega)]at h
    subst U
    have R:ZZ cur at_=YZ cur 0++at_.flatMap zP:=by
     cases cur with
     |nil=>simp at m;omega
     |cons a l=>exact iN a l at_
    have b:Sp wr (UA (some ⟨v,0,none⟩) k k (List.replicate k 0)::RdA p (rsAt r ((at_.drop 0).flatMap zP++post))::BlkA N 167 #[.pointer (some ⟨p,0,none⟩)]::BlkA z 129 #[.slice (some ⟨g,0,none⟩) k k]::SA (some ⟨g,0,none⟩) k k cur::L):=by
     have e:=U5 cur;rw [m]at e;have h:=u.p4;rw [e]at h;exact h
    have t:Hid (r++(at_.drop 0).flatMap zP=pre++ZZ cur at_):=by
     show _=_;have e:=U5 cur;rw [m]at e;have h:=H.o;rw [e,zo]at h;rw [R,h];simp
    clear u H G R;go_wp2
    go_loopg [40] k (fun gk vi wr=>∃(j:Nat) (E:aE) (r:aC),vi= .int .i64 j/\j<=k/\gk=k - j/\E.length=k/\Hid (E.take j=at_.take j)/\Hid (r++(at_.drop j).flatMap zP=pre++ZZ cur at_)/\Sp wr (UA (some ⟨v,0,none⟩) k k E::RdA p (rsAt r ((at_.drop j).flatMap zP++post))::BlkA N 167 #[.pointer (some ⟨p,0,none⟩)]::BlkA z 129 #[.slice (some ⟨g,0,none⟩) k k]::SA (some ⟨g,0,none⟩) k k cur::L))
    case atStart=>exact⟨0,List.replicate k 0,r,rfl,zJ _,rfl,by simp,rfl,t,b⟩
    case round=>
     obtain⟨j,E,r,rfl,hj,rfl,hg,G,H,u⟩:=hrel;have hi:=u.cell M2 0;have y:=u.cell M3 0
     by_cases hd:j<k
     ·obtain⟨x,Hx⟩:∃x,Hid (at_[j]? =some x):=⟨_,zB (by rw [Ha.o];exact hd)⟩;have hb:=Hu.o x (zD Hx.o);have HR:=zA (MW u.p1);have e:(at_.drop j).flatMap zP=zP x++(at_.drop (j+1)).flatMap zP:=(by rw [yb Hx.o];rfl);rw [e,zO,kW hb]at HR;have hc:Hid (r++zP x++(at_.drop (j+1)).flatMap zP=pre++ZZ cur at_):=(by show _=_;rw [<-H.o,e];simp)
      have A:Hid ((E.set j x).take (j+1)=at_.take (j+1)):=Xx (by omega) G.o Hx.o;clear e hb;go_wp2_with (go_at_call 253;refine HR.o.mono ?_;rintro e w2 ⟨rfl,b⟩;have C:=b.rowCell M1 (WB (zB (l:=E) (i:=j) (by omega)));have D:=b.rowFree M1 j);have d:=b.p1.rowSet j (.int .u64 (x:Int));rw [<-fK]at d
      go_roundg (k - (j+1))
      ·exact⟨j+1,E.set j x,_,by go_num,by omega,rfl,by simp [hg],A,hc,d⟩
      ·omega
     ·obtain rfl:j=k:=by omega
      have Z:E=at_:=by
       have h:=G.o
       rwa [zF (by omega),zF (by rw [Ha.o];omega)]at h
      subst Z;have F:E.drop j= []:=zQ (by omega);have HE:=zA (fun nn=>pY (u.drewN nn).p1);go_wp2
      go_quiet ((go_at_call 79;exact Calls.quiet_of_same ((HE.o _).mono fun _ _ h=>⟨h.1,h.2.symm⟩)))
      go_wp2
      go_ret3
      refine⟨g,v,rfl,?_⟩;have h:=H.o;rw [F]at h;have h2:=(Sp.selT [_,_,_,_,_] u [4,0,1]).drewN nq;rw [F]at h2;rw [<-h,x7,zo];exact h2
def nB (n:Nat):Nat:=(n+15) / 16
def bkT {α:Type} (l:List α) (k:Nat):List α:=(l.drop (16*k)).take 16
def tBl (ls:List aB) (at_:aE):List aC:=(List.range (nB ls.length)).map fun k=>ZZ (bkT ls k) (bkT at_ k)
def tFi (ls:List aB):List aB:=(List.range (nB ls.length)).map fun k=>ls.getD (16*k) ⟨#[]⟩
theorem kB:∀(f:Nat) (ls:List aB) (at_:aE),ls.length<f->YI f ls at_=tBl ls at_
 |0,_,_,h=>by omega
 |f+1,ls,at_,h=>by
  by_cases a:ls= []
  ·subst a;simp [YI,tBl,nB]
  ·have b:=List.length_pos_iff.2 a;rw [UP a,kB f _ _ (by rw [ze];omega)];unfold tBl;rw [ze,show nB ls.length=nB (ls.length - 16)+1 by unfold nB;omega,List.range_succ_eq_map,yH,yD]
   congr 1
   apply List.map_congr_left
   intro k _;simp only [Function.comp,bkT,List.drop_drop,Nat.succ_eq_add_one,show 16+16*k=16*(k+1) by omega]
theorem UX (ls:List aB) (at_:aE):ZM ls at_=zP ls.length++(tBl ls at_).flatten:=by
 unfold ZM;rw [kB _ _ _ (Nat.lt_succ_self _)]
theorem fM {ls:List aB} {at_:aE} {k:Nat} (h:16*k<ls.length):(tBl ls at_)[k]? =some (ZZ (bkT ls k) (bkT at_ k)):=by
 unfold tBl;rw [zH,zq (by unfold nB;omega)];rfl
theorem pV {ls:List aB} {k:Nat} {a:aB} (h:ls[16*k]? =some a):(tFi ls)[k]? =some a:=by
 have:=zN h;unfold tFi;rw [zH,zq (by unfold nB;omega)];simp [h]
theorem Ur {α:Type} {l:List α} {k j:Nat} (h:j<16):(bkT l k)[j]? =l[16*k+j]? :=by
 unfold bkT;rw [yy,if_pos h,List.getElem?_drop]
theorem XR {α:Type} (l:List α) (k:Nat):(bkT l k).length=min 16 (l.length - 16*k):=by
 unfold bkT;rw [zr,ze]
theorem fE {α:Type} {l:List α} {k:Nat} {x:α} (h:x∈bkT l k):x∈l:=List.mem_of_mem_drop (yu h)
theorem jF:∀{l:List aB} {p:Option aB} (k:Nat),xj p l=true->∃b,xj b (l.drop k)=true
 |l,p,0,h=>⟨p,h⟩
 | [],p,k+1,h=>⟨p,rfl⟩
 |a::l,p,k+1,h=>by
  unfold xj at h;simp only [zM]at h;exact jF k h.2
theorem jE:∀{l:List aB} {p:Option aB} (k:Nat),xj p l=true->xj p (l.take k)=true
 |l,p,0,h=>by simp [xj]
 | [],p,k+1,h=>by simp [xj]
 |a::l,p,k+1,h=>by
  rw [xL];unfold xj at h⊢;simp only [zM]at h⊢;exact⟨h.1,jE k h.2⟩
theorem mT {l:List aB} {p:Option aB} (h:xj p l=true) (k:Nat):∃a,xj a (bkT l k)=true:=by
 obtain⟨a,b⟩:=jF (16*k) h;exact⟨a,jE 16 b⟩
theorem lV {D n k:Nat} {w:O} (d:w.cell? ⟨D,2,none⟩=some (.int .i64 (n:Int))) (g:n<=1048576) (f:16*k<=n):
 Calls prog 186 #[.pointer (some ⟨D,0,none⟩),.int .i64 (k:Int)] w fun e w' =>e= .returned (.int .i64 (min 16 (n - 16*k):Nat))/\w=w' :=by
 have b:IntKind.i64.wrap ((k:Int)*16)=(k:Int)*16:=by rw [zT];omega
 obtain⟨m,a⟩:=eX (min 16 (n - 16*k));have c:min 16 ((n:Int) - (k:Int)*16)=(m:Int):=by omega
 rw [a];go_enter func186,ntmps186;go_wp2;go_ret
 exact⟨rfl,rfl⟩
theorem WZ {D n:Nat} {w:O} (a:w.cell? ⟨D,2,none⟩=some (.int .i64 (n:Int))):
 Calls prog 19 #[.pointer (some ⟨D,0,none⟩)] w fun e w' =>e= .returned (.int .i64 (n:Int))/\w=w' :=by
 go_enter func19,ntmps19;go_wp2;go_ret
 exact⟨rfl,rfl⟩
theorem RB.sub_at {w:O} {n b off:Nat} {l:aC} (h:RB w (some ⟨b,off,none⟩) n l) {i k:Nat} (a:i+k<=n):RB w (some ⟨b,off+i,none⟩) k ((l.drop i).take k):=by
 have h:=RC.sub_at h (i:=i) (k:=k) a;simp only [yr]at h;unfold RB
 simpa [bC,List.map_take,List.map_drop]using h
theorem fW {w:O} {L:List Asn} {A:aA} {n c:Nat} {l:aC} (h:Sp w L) (f:RB w A n l) (i:n<=140737488355328):
 Calls prog 56 #[.slice A n c] w fun e w' =>∃A' a,e= .returned (.slice A' n a)/\Sp w' (BA A' n a l::L):=
 (Xi A n c (bC l) w (by omega) f.reads (xd l)).mono fun _ _ ⟨A',a,d,g,b⟩=>⟨A',a,d,h.row g b⟩
theorem HU {ls:List aB} {at_:aE} {k:Nat} (h:16*k<ls.length):((tBl ls at_).drop k).flatten=ZZ (bkT ls k) (bkT at_ k)++((tBl ls at_).drop (k+1)).flatten:=by
 rw [yb (fM h)];rfl
theorem kX (pre post:aC):(rsAt pre post).left=post.length:=by simp [rsAt,RS.left]
theorem vR (A:aA) (nb c:Nat) (ls:List aB) (at_:aE) (w:O) (hc:nb<=c) (a1:c<=9223372036854775807) (bj:nb<=100000000000000) (hl:RB w A nb (ZM ls at_)) (ht:xQ ls=true) (x6:at_.length=ls.length) (hu:∀x∈at_,x<18446744073709551616):
 Calls prog 147 #[.slice A nb c] w fun e w' =>∃D,e= .returned (.tuple #[.pointer (some ⟨D,0,none⟩),.int .i64 0])/\Sp w' [DatA (.pointer (some ⟨D,0,none⟩)) (Ptr.mk (some (tBl ls at_,tFi ls,(ls.length:Int)))),OldA w.heap.size w]:=by
 obtain⟨n,hn⟩:=eX (ls.length);have I:=zA hl.len;have Hl:=zA hl;have y5:n<=1048576:=by unfold xQ at ht;simp only [zM,decide_eq_true_eq]at ht;omega
 have Hr:=zA (show xj none ls=true by unfold xQ at ht;simp only [zM]at ht;exact ht.2);have U:=zA hn;have ae:=zA (x6.trans hn);have Hu:=zA hu;have HN:=zA (VG (c:=c) (Sp.start w) hl (by omega));have bm:(nb:Int)<=c:=by omega
 obtain⟨bk,off,rfl⟩:∃bk off,A=some ⟨bk,off,none⟩:=by
  have h0:0<nb:=(by rw [<-I.o,UX,zG];have:=Yb ls.length;omega);obtain⟨bk,off,e,_⟩:=hl.2 h0;exact⟨bk,off,e⟩
 rw [hn];clear ht x6 hu hl hn;go_enter func147,ntmps147;go_wp2_with (go_at_call 73;refine HN.o.mono ?_;rintro e w1 ⟨p,rfl,hs⟩)
 have G:Sp w1 [RdA p (rsAt [] (zP n++(tBl ls at_).flatten)),OldA w.heap.size w]:=by
  rw [UX,U.o]at hs
  simpa [rsAt]using hs
 have HR:=zA (ZH G 1048576 (by omega));rw [yn (by omega) y5]at HR;clear hs G;go_wp2_with (go_at_call 74;refine HR.o.mono ?_;rintro e w2 ⟨rfl,G⟩;obtain⟨D,hD⟩:=eX (w2.heap.size));have xn:=((G.blkH 131 #[.slice none 0 0,.slice none 0 0,.int .i64 (n:Int)] hD).nil 9 1);have xs:=(xn.elsNil (α:=aC)).nil 65 1
 go_loopg [6,7] (nB n) (fun gk vl vi wr=>∃(k i:Nat) (F T:aA) (J c2:Nat) (css:List aF) (last:aB) (pre:aC),Hid (i=16*k)/\vi= .int .i64 (i:Int)/\k<=nB n/\gk=nB n - k/\vl= .string last/\Hid (k=0\/n<=16*k\/ls[16*k - 1]? =some last)/\Hid (0<pre.length)/\Hid (pre++((tBl ls at_).drop k).flatten=ZM ls at_)/\
  Sp wr [BlkA D 131 #[.slice F k J,.slice T k c2,.int .i64 (n:Int)],RowA 65 1 (.slice F k J) k css.flatten,ElsA css ((tBl ls at_).take k),SA T k c2 ((tFi ls).take k),RdA p (rsAt pre ((tBl ls at_).drop k).flatten),OldA w.heap.size w])
 case atStart=>exact⟨0,0,none,none,0,0, [],_,zP n,rfl,rfl,zJ _,rfl,rfl,.inl rfl,Yb n,by show _=_;rw [UX,U.o];rfl,xs.p3⟩
 case round=>
  obtain⟨k,i,F,T,J,c2,css,last,pre,C,rfl,hk,rfl,rfl,hr,xi,HP,HS⟩:=hrel;have ah:=HS.cell M0 2;clear G xn xs;have ak:=C.o
  by_cases an:i<n
  ·obtain⟨m,hm⟩:=eX (min 16 (n - 16*k));have y2:(bkT ls k).length=m:=(by rw [XR,U.o];exact hm);have x5:(bkT at_ k).length=m:=(by rw [XR,ae.o];exact hm);obtain⟨p',y7⟩:=mT Hr.o k;have h7:=HU (at_:=at_) (show 16*k<ls.length by rw [U.o];omega);have y6:=congrArg List.length HP.o;rw [I.o,zG]at y6;have h9:=zA (Xz HS.p4)
   obtain⟨q,hq⟩:=eX ((rsAt pre ((tBl ls at_).drop k).flatten).left);rw [hq]at h9;rw [kX]at hq;obtain⟨l,y1⟩:=eX (pre.length);have y8:IntKind.i64.wrap ((nb:Int) - (q:Int))=(l:Int):=(by rw [zT];omega);have h8:((nb:Int) - (q:Int))=(l:Int):=(by omega);have x4:(i:Int) / 16=(k:Int):=(by omega);have hz:(i:Int).tdiv 16=(k:Int):=(by rw [Int.tdiv_eq_ediv_of_nonneg (by omega)];omega)
   have x1:=zA (fun(W:O) (hW:W.cell? ⟨D,2,none⟩=some (.int .i64 (n:Int)))=>lV (k:=k) hW y5 (by omega));rw [hm]at x1;have Hm:=zA hm;have x2:=zA y2;have ag:=zA h7;have hv:=zA HS.p4;rw [h7]at hv;have bc:(i:Int)<(n:Int):=(by omega);have Z:=zA y1;clear ak hm h7 y6 hq y1 HS y2
   go_wp2_with (first
    |(go_at_call 77;refine h9.o.mono ?_;rintro e w3 ⟨rfl,k3,rfl⟩)
    |(go_at_call 186;refine(x1.o _ (by assumption)).mono ?_;rintro e w4 ⟨rfl,rfl⟩))
   refine(lA (post:=((tBl ls at_).drop (k+1)).flatten) (by have:=Hm.o;have:=C.o;omega) (by have:=Hm.o;omega) x2.o x5 y7 (fun x hx=>Hu.o x (fE hx)) (hv.o.drewN k3)).mono ?_;rintro e w5 ⟨g,g2,rfl,v⟩;have bf:0<m:=(by have:=Hm.o;have:=C.o;omega);have ar:m<=16:=(by have:=Hm.o;omega);obtain⟨a,Ha⟩:∃a,Hid (ls[i]? =some a):=⟨_,zB (by rw [U.o];exact an)⟩
   obtain⟨mm,y4⟩:∃mm,m=mm+1:=⟨m - 1,by omega⟩;have bi:IntKind.i64.wrap ((m:Int) - 1)=(mm:Int):=(by rw [zT];omega);have au:(m:Int) - 1=(mm:Int):=(by omega);have av:(mm:Int)<m:=(by omega);have aw:(0:Int)<=mm:=(by omega);have aq:(0:Int)<m:=(by omega);obtain⟨z,Hz⟩:∃z,Hid (ls[i+mm]? =some z):=⟨_,zB (by have:=Hm.o;have:=C.o;have:=U.o;omega)⟩
   have ca:=v.rowCell M0 (Vk (j:=0) (x:=a) (by rw [Ur (by omega),<-C.o];exact Ha.o));have cz:=v.rowCell M0 (Vk (j:=mm) (x:=z) (by have:=Hm.o;rw [Ur (by omega),<-C.o];exact Hz.o));have af:=zA y4;have B:=v.d1.p2;have h4:=B.cell M0 0;have ai:=B.cell M0 1;have aj:=B.cell M0 2
   have hh:=zA (show(pre++ZZ (bkT ls k) (bkT at_ k))++((tBl ls at_).drop (k+1)).flatten=ZM ls at_ by rw [<-HP.o,ag.o];simp);clear x5 y7 ah y4 hv v
   have hw:Hid (i=0\/(0<i/\Op.bytesLess last.toList a.toList=true)):=by
    rcases zi i with h|h
    ·exact .inl h
    ·refine .inr ⟨h,?_⟩;rcases hr.o with h1|h1|h1
     ·have:=C.o;omega
     ·have:=C.o;omega
     ·rw [<-C.o]at h1;exact mU Hr.o h1 (by rw [show i - 1+1=i by omega];exact Ha.o)
   go_upto_region 9 with fail
   go_cut [53]from 41 to 52 (fun cc W=>cc= .bool false/\W=w5)
   case first=>
    rcases hw.o with h0|⟨h0,P⟩
    ·have x3:¬(0:Int)<i:=(by omega);have az:decide ((0:Int)<i)=false:=decide_eq_false x3;clear h0;go_wp2
     go_meet
     exact⟨rfl,rfl⟩
    ·obtain⟨bd,be⟩:=dW P;have x3:(0:Int)<i:=(by omega);clear h0 P;go_wp2
     go_meet
     exact⟨rfl,rfl⟩
   case rest=>
    obtain⟨rfl,rfl⟩:=hcut;have H:=B.p5.drew;have hd:=Vk (j:=0) (x:=a) (show(bkT ls k)[0]? =some a by rw [Ur (by omega),<-C.o];exact Ha.o);have ys:∀o,(wc.alloc o).cell? ⟨D,1,none⟩=some (.slice T k c2):=fun o=>(B.p5.al o).cell M1 1;clear B h4 aj;go_upto_region 12 with fail
    go_cut []from 60 to 71 (fun W=>∃A8 c8,k+1<=c8/\Sp W [BlkA D 131 #[.slice F k J,.slice A8 (k+1) c8,.int .i64 (n:Int)],RowA 65 1 (.slice F k J) k css.flatten,ElsA css ((tBl ls at_).take k),SA A8 (k+1) c8 ((tFi ls).take k++ [a]),RdA p (rsAt (pre++ZZ (bkT ls k) (bkT at_ k)) ((tBl ls at_).drop (k+1)).flatten),OldA w.heap.size w])
    case first=>
     refine gR [(12,fun W=>W.cell? ⟨D,1,none⟩=some (.slice T k c2)/\W.cell? ⟨g,0,none⟩=some (.string a))] (hB ⟨H.cell M1 1,H.rowCell M2 hd⟩) ?_;refine gF 0 ?_;refine gF 1 ?_;refine gF 2 ?_;refine gF 3 ?_;refine gL 4 12 M0 ?_;refine gF 5 ?_;refine gF 6 ?_;refine gL 7 12 M0 ?_;intro r;refine gO 8 fun K d=> ?_;go_simp
     refine d.o _ _ (hB ⟨(H.al _).cell M1 1,(H.al _).rowCell M2 hd⟩) ?_;clear d K r;intro r;refine gO 9 fun K d=> ?_;refine yz Ql (.tmp 64) (.tmp 68) rfl rfl H rfl (cs:= #[.string a]) rfl rfl rfl (by intro u hu;simp at hu;subst hu;rfl) (by unfold nB at hk;omega) (by unfold nB at hk;omega) ?_;intro A8 c8 w8 x8 bh b;have q1:=b.cl M1 1;have qf:=(b.blkOf M1).frozen 1
     refine d.o _ _ (hB ⟨b.cell M1 1,b.rowCell M2 hd⟩) ?_;clear d K r;refine gF 10 ?_;refine gF 11 ?_;intro r;refine gO 12 fun K d=> ?_;go_simp;refine d.o _ _ hA ?_;clear d K r;intro r;refine xW (by kernel_rfl) ?_
     all_goals
      go_wp2
      go_meet
      refine⟨A8,c8,x8,?_⟩;have h:=b.p1.set 1 (.slice A8 (k+1) c8);have e:sC ((tFi ls).take k++ [a])=sC ((tFi ls).take k)++ #[Value.string a].toList:=(by simp [sC]);unfold SA;rw [e];exact Sp.sel h [0,4,5,1,3,6]
    case rest=>
     obtain⟨A8,c8,x8,b⟩:=hcut;obtain⟨ha,s⟩:=eX (ZZ (bkT ls k) (bkT at_ k));obtain⟨X,E⟩:=eX (ha.length);obtain⟨rest,f⟩:=eX (((tBl ls at_).drop (k+1)).flatten);obtain⟨q2,h5⟩:=eX (rest.length);have hb:=hh.o;rw [s,f]at hb;have N:=congrArg List.length hb;rw [I.o,zG,zG,Z.o,E,h5]at N;rw [s,f]at b
     have aa:IntKind.i64.wrap ((nb:Int) - (q2:Int))=((l+X:Nat):Int):=(by rw [zT];omega);obtain⟨R,Q⟩:=eX (l+X);rw [Q]at aa;have ab:(nb:Int) - (q2:Int)=(R:Int):=(by omega)
     have a0:0<X:=by
      rw [<-E,<-s];cases hbb:bkT ls k with
      |nil=>have:=x2.o;rw [hbb]at this;simp at this;omega
      |cons x y=>rw [Xw,zG,zG];have:=Yb x.size;omega
     have a3:(l:Int)<=R:=(by omega);have a4:(R:Int)<=c:=(by omega);have a5:(0:Int)<=l:=(by omega);have a6:R - l=X:=(by omega);have a7:¬c=l:=(by omega);have a8:(0:Int)<=R:=(by omega);have ad:IntKind.i64.wrap (R:Int)=(R:Int):=(by rw [zT];omega);have ao:¬l=0:=(by have:=xi.o;have:=Z.o;omega);have ap:¬(l:Int)=0:=(by omega);have a9:(l:Int)<=c:=(by omega)
     have ba:(R:Int)<=nb:=(by omega);have bb:l<=R/\R<=c:=(by omega);have L:=Xz b.drew.p4;rw [kX,h5]at L;have xb:=zA L;have h6:=(Hl.o.on (b.below M5)).sub_at (i:=l) (k:=X) (by omega);rw [<-hb,zO,<-Z.o,List.drop_left,<-E,List.take_left,Z.o,E]at h6;have HC:=zA (fun nn=>fW (c:=c - l) (b.drewN nn) (show RB (wc.drewN nn) _ X ha from h6) (by omega))
     have h4:=b.cell M0 0;have ay:=zA Q;have ax:=zA E;have hg:=zA s;have hy:=zA f;clear s E f h5 hb N L h6 Q
     have hx:∀W:O,(Instr.slice 65 (.slice (some ⟨bk,off,none⟩) nb c) (some (.int .i64 (l:Int))) (some (.int .i64 (R:Int))) none).run prog W= .ok (.slice (some ⟨bk,off+l,none⟩) X (c - l)) W:=by
      intro W;simp [Instr.slice,Instr.sliceBounds,go_sem, *]
     go_upto_region 13 with fail;refine gR [(18,fun W=>W.cell? ⟨D,0,none⟩=some (.slice F k J))] (hB (b.cell M0 0)) ?_;refine gF 0 ?_;refine gF 1 ?_;refine gF 2 ?_;refine gF 3 ?_;refine gL 4 18 M0 ?_;refine gF 5 ?_;refine gF 6 ?_;refine gF 7 ?_;refine gF 8 ?_;refine gF 9 ?_;intro r;refine gO 10 fun K d=> ?_;go_simp;refine xb.o.mono ?_;rintro e w6 ⟨rfl,k6,rfl⟩
     refine d.o _ _ (hB (b.cell M0 0)) ?_;clear d K r;refine gF 11 ?_;refine gF 12 ?_;intro r;refine gO 13 fun K d=> ?_;go_simp;refine(HC.o _).mono ?_;rintro e w7 ⟨A9,c9,rfl,Y⟩;refine d.o _ _ (hB (Y.cell M1 0)) ?_;clear d K r;intro r;refine gO 14 fun K d=> ?_;go_simp;refine d.o _ _ (hB ((Y.al _).cell M1 0)) ?_;clear d K r;intro r;refine gO 15 fun K d=> ?_
     refine yz lU (.tmp 76) (.tmp 86) rfl rfl Y.p2 rfl (cs:= #[.slice A9 X c9]) rfl rfl rfl (by intro u hu;simp at hu;subst hu;rfl) (by unfold nB at hk;omega) (by unfold nB at hk;omega) ?_;intro A7 c7 w8 a2 bg t;have q1:=t.cl M2 0;have qf:=(t.blkOf M2).frozen 0;refine d.o _ _ (hB q1) ?_;clear d K r;refine gF 16 ?_;refine gF 17 ?_;intro r;refine gO 18 fun K d=> ?_;go_simp
     refine d.o _ _ hA ?_;clear d K r;intro r;refine xW (by kernel_rfl) ?_
     all_goals
      have he:Sp _ (BlkA D 131 #[.slice A7 (k+1) c7,.slice A8 (k+1) c8,.int .i64 (n:Int)]::_):=t.p2.set 0 (.slice A7 (k+1) c7);have hf:=he.p2.bytes.p3.p1.elsPush.p2.p2;have e1:(tBl ls at_).take (k+1)=(tBl ls at_).take k++ [ha]:=(by rw [zI,fM (by have:=C.o;have:=U.o;omega),hg.o];rfl)
      have e2:(tFi ls).take (k+1)=(tFi ls).take k++ [a]:=(by rw [zI,pV (by rw [<-C.o];exact Ha.o)];rfl);have e3:css.flatten++ #[Value.slice A9 X c9].toList=(css++ [[Value.slice A9 X c9]]).flatten:=(by simp);rw [e3,<-e1,<-e2,<-hy.o]at hf;have HI:=C.o;have HM:=Hm.o;clear q1 qf Y t he hx h4 ai hd ys ca cz aa ab ad y8 h8 x4 hz e3 e1 e2;go_wp2
      go_roundg (nB n - (k+1))
      case measure=>unfold nB at hk⊢;omega
      case rel=>exact⟨k+1,i+16,A7,A8,c7,c8,_,z,pre++ha,by show _=_;omega,by go_num,by unfold nB;omega,rfl,rfl,by
       show _\/_\/_;rcases zk (16*(k+1)) n with h|h
       ·refine .inr (.inr ?_);rw [show 16*(k+1) - 1=i+mm by have:=af.o;omega];exact Hz.o
       ·exact .inr (.inl h),by show _<_;have:=xi.o;rw [zG];omega,by show _=_;rw [<-hh.o,hg.o],hf⟩
  ·have M :nB n<=k:=(by unfold nB;omega);have hi:tBl ls at_=(tBl ls at_).take k:=(by rw [zF];unfold tBl;rw [zK,xg,U.o];exact M)
   have y0:tFi ls=(tFi ls).take k:=(by rw [zF];unfold tFi;rw [zK,xg,U.o];exact M);have ho:(tBl ls at_).drop k= []:=(by rw [zQ];unfold tBl;rw [zK,xg,U.o];exact M);rw [ho,<-hi,<-y0]at HS;have HE:=zA (gC HS.p4);have hp:(rsAt pre ([]:List aC).flatten).fin=rsAt pre []:=(by simp [RS.fin,rsAt,RS.left]);rw [hp]at HE;clear hi y0 ho hp HS
   go_wp2_with (go_at_call 129;refine HE.o.mono ?_;rintro e w5 ⟨rfl,v⟩);go_ret2;refine⟨D,rfl,?_⟩
   have h1:Sp w5 [DatA (.slice F k J) (tBl ls at_),BlkA D 131 #[.slice F k J,.slice T k c2,.int .i64 (n:Int)],SA T k c2 (tFi ls),OldA w.heap.size w]:=
    (show Sp w5 [RowA 65 (Rep.size aC) (.slice F k J) k css.flatten,ElsA css (tBl ls at_),BlkA D 131 #[.slice F k J,.slice T k c2,.int .i64 (n:Int)],SA T k c2 (tFi ls),OldA w.heap.size w]from v.sel [2,3,1,4,5]).els
   have h2:=h1.p2.strs (fun x hx=>by
    unfold tFi at hx;obtain⟨j,hj,rfl⟩:=List.mem_map.1 hx;have am:=List.mem_range.1 hj;have y3:16*j<ls.length:=(by unfold nB at am;omega);rw [zm,zB y3,yq];have:=YM Hr.o _ (List.getElem_mem y3);omega)
   have h3:=h2.mk2 (cs:= [.slice F k J,.slice T k c2,.int .i64 (n:Int)]) (x:=(tBl ls at_,tFi ls,(n:Int))) fun S r1 r2=>⟨_,_,rfl,r2,_,_,rfl,r1,rfl,show In64 (n:Int) by unfold In64;omega⟩;exact h3.p1.ptr
theorem vA (p q:Addr) (w:O):
 CallsD prog 30 #[.pointer (some p),.pointer (some q)] .returning w fun e d w' =>e= .returned (.tuple #[])/\d = .returning/\w' =w:=by
 have b:∀W:O,(binOp .eql 20 .nilIface .nilIface).run prog W= .ok (.bool true) W:=fun W=>by kernel_rfl
 have c: #[Value.pointer (some p),.pointer (some q)]++(Array.replicate 17 undef).setIfInBounds 5 Value.nilIface= #[.pointer (some p),.pointer (some q),undef,undef,undef,undef,undef,.nilIface,undef,undef,undef,undef,undef,undef,undef,undef,undef,undef,undef]:=by kernel_rfl
 refine callsD_of_wpS func30 rfl fun c₀ cs a=> ?_
 apply wpS_seq
 apply wpS_region
 simp [wpOpsS,go_sem,recoverD,a,ntmps30,Exit.thenS];refine wpS_of_wp ?_;rw [c];go_wp2;refine⟨rfl,.returning,?_,.tuple #[],results_none rfl _ _ _,rfl,rfl,rfl⟩;cases c₀;simp only at a;subst a;rfl
theorem BS (p q:Nat) (b:Int) (k l:TypeId) (s u0:V) (w:O) (L:List Asn) (i:Sp w (BlkA p k #[s]::BlkA q l #[u0]::L)):
 CallsD prog 30 #[.pointer (some ⟨p,0,none⟩),.pointer (some ⟨q,0,none⟩)] (.panicking [Q1 b]) w fun e r w' =>e= .returned (.tuple #[])/\r = .panicking [{Q1 b with recovered:=true}]/\Sp w' (BlkA p k #[.pointer none]::BlkA q l #[.int .i64 b]::L):=by
 have g:∀W:O,(binOp .eql 20 (.iface 136 (.agg #[.int .i64 b])) .nilIface).run prog W= .ok (.bool false) W:=fun W=>by kernel_rfl
 have h:∀W:O,(Instr.typeAssert (.iface 136 (.agg #[.int .i64 b])) 20 136 true).run prog W= .ok (.tuple #[.agg #[.int .i64 b],.bool true]) W:=fun W=>by kernel_rfl
 have n: #[Value.pointer (some ⟨p,0,none⟩),.pointer (some ⟨q,0,none⟩)]++(Array.replicate 17 undef).setIfInBounds 5 (.iface 136 (.agg #[.int .i64 b]))= #[.pointer (some ⟨p,0,none⟩),.pointer (some ⟨q,0,none⟩),undef,undef,undef,undef,undef,.iface 136 (.agg #[.int .i64 b]),undef,undef,undef,undef,undef,undef,undef,undef,undef,undef,undef]:=by kernel_rfl
 refine callsD_of_wpS func30 rfl fun c₀ cs o=> ?_
 apply wpS_seq
 apply wpS_region
 simp [wpOpsS,go_sem,recoverD,Q1,o,ntmps30,Exit.thenS];refine wpS_of_wp ?_;rw [n];obtain⟨H,j⟩:=eX (w.heap.size);have a:=(i.blkH 136 #[.int .i64 b] j).p2.p2;go_upto_region 7 with fail;obtain⟨m,d⟩:=eX (w.alloc (.cells #[.int .i64 b] 136));rw [d]at a⊢;have t:=a.cl M2 0;have u:=a.cl M0 0;have v:=a.cl M1 0;have z:=(a.blkOf M0).frozen 0;have A:=(a.blkOf M1).frozen 0
 have c:=a.set 0 (.pointer none);have x:(m.setCell ⟨p,0,none⟩ (.pointer none)).cell? ⟨H,0,none⟩=some (.int .i64 b):=c.cell M2 0;have y:(m.setCell ⟨p,0,none⟩ (.pointer none)).cell? ⟨q,0,none⟩=some u0:=c.cell M1 0;have B:=(c.blkOf M1).frozen 0;have f:=zA (c.p1.set 0 (.int .i64 b)).drew;clear i a c d j g h
 go_region
 all_goals
  go_wp2;refine⟨rfl,.panicking [{Q1 b with recovered:=true}],?_,.tuple #[],results_none rfl _ _ _,rfl,rfl,f.o.p1.d2⟩;cases c₀;rfl
end Go.Proofs.YtjbhbfaeielbiaaGreatDoor

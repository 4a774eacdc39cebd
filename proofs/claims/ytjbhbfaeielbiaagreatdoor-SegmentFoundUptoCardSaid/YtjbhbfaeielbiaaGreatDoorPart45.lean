import Derived.Test.YtjbhbfaeielbiaaGreatDoorPart35
import Derived.Test.YtjbhbfaeielbiaaGreatDoorTie
import Derived.ProofKit
import Derived.OpenShut
import Derived.Lay
import Derived.LaidOnce
import Derived.SevenTiedAt
import Derived.Deep.DeepHandedRow
import Derived.Shelf.Vars
set_option maxRecDepth 100000
set_option maxHeartbeats 8000000
set_option linter.unusedVariables false
set_option linter.unusedSimpArgs false
namespace Go.Proofs.YtjbhbfaeielbiaaGreatDoor
open Go.Proofs.Tryz
open Rep (rep)
open Go.RowKit
attribute [local go_sem ↓] zU zV
def itP (ps:List PostD) (o:Nat):List PostD:=if o=0\/ps.length<o then []else blkP ps ((o - 1) / 8*8)
def itAt (ps:List PostD) (o:Nat):Int:=if o=0 then -1 else if ps.length<o then 0 else((o - 1)%8:Nat)
def itN (ps:List PostD) (o:Nat):Int:=if o=0 then 0 else if ps.length<o then 1073741824 else((o - 1) / 8+1:Nat)
abbrev bQ (L:List Asn) (D:Nat) (ps:List PostD):Prop:=∃(B:Nat) (w0:O),OldA B w0∈L/\B<=w0.heap.size/\rep w0 (·<B) [.pointer (some ⟨D,0,none⟩)] (Ptr.mk (some (pBl ps,(ps.length:Int))))
abbrev ItB (I D:Nat) (vp:V) (at_ a:Int):Asn:=BlkA I 114 #[vp,.int .i64 at_,.pointer (some ⟨D,0,none⟩),.int .i64 a]
theorem UG {I m c:Nat} {A:aA} {z:Int} {w:O} (d:w.cell? ⟨I,0,none⟩=some (.slice A m c)) (f:w.cell? ⟨I,1,none⟩=some (.int .i64 z)):
 Calls prog 51 #[.pointer (some ⟨I,0,none⟩)] w fun e w' =>e= .returned (.bool (decide (0<=z) && decide (z<m)))/\xG w w' :=by
 rcases Int.lt_or_le z 0 with b|b
 ·have a:decide (0<=z)=false:=decide_eq_false (by omega);rw [a,Bool.false_and];clear b;go_enter func51,ntmps51;go_wp2_with fail
  go_quiet (fail)
  go_wp2;go_ret
  exact⟨rfl,⟨_,rfl⟩⟩
 ·have a:decide (0<=z)=true:=decide_eq_true b;rw [a,Bool.true_and];cases hz2:decide (z<(m:Int))
  ·clear b;go_enter func51,ntmps51;go_wp2_with fail
   go_quiet (fail)
   go_wp2;go_ret
   exact⟨rfl,⟨_,rfl⟩⟩
  ·clear b;go_enter func51,ntmps51;go_wp2_with fail
   go_quiet (fail)
   go_wp2;go_ret
   exact⟨rfl,⟨_,rfl⟩⟩
theorem nK {D:Nat} {L:List Asn} {w:O} (b:Sp w L):
 Calls prog 14 #[.pointer (some ⟨D,0,none⟩)] w fun e w' =>∃I,e= .returned (.pointer (some ⟨I,0,none⟩))/\Sp w' (ItB I D (.slice none 0 0) (-1) 0::L):=by
 obtain⟨H,c⟩:=eX (w.heap.size);have a:=zA (b.blkH 114 #[.slice none 0 0,.int .i64 (-1),.pointer (some ⟨D,0,none⟩),.int .i64 0] c);go_enter func14,ntmps14;go_wp2;go_ret
 exact⟨H,rfl,a.o⟩
theorem jO {w:O} {F:Nat->Prop} {D:Nat} {bs:List OH} {n:Int} (h:rep w F [.pointer (some ⟨D,0,none⟩)] (Ptr.mk (some (bs,n)))):
 ∃b d c,F D/\w.cell? ⟨D,0,none⟩=some (.slice b d c)/\w.cell? ⟨D,1,none⟩=some (.int .i64 n)/\zL w F b d c bs:=by
 obtain⟨hF,cs,⟨_,_,rfl,⟨b,d,c,rfl,g⟩,rfl,_⟩,f⟩:=Ptr.get h;have e:=f 0 _ rfl;have a :=f 1 _ rfl;simp only [Nat.zero_mul,yt,zx]at e a;exact⟨b,d,c,hF,e,a,g⟩
theorem JC {I D:Nat} {vp:V} {z l:Int} {ps:List PostD} {L:List Asn} {w:O} (b:Sp w (ItB I D vp z l::L)) (t:bQ L D ps) (p:(nP ps.length:Int)<=l):
 Calls prog 52 #[.pointer (some ⟨I,0,none⟩)] w fun e w' =>e= .returned (.bool false)/\Sp w' (ItB I D (.slice none 0 0) 0 1073741824::L):=by
 obtain⟨B,w0,n,hB,f⟩:=t;have c:=b.below (.tail _ n);obtain⟨q,k,s,j,i,_,m⟩:=jO f;have i:w.cell? ⟨D,0,none⟩=some (.slice q k s):=(c.cell j).trans i;have d:k=nP ps.length:=by rw [<-m.length];simp [pBl]
 have u:decide ((k:Int)<=l)=true:=decide_eq_true (by rw [d];exact p);have v:=b.cl M0 2;have x:=b.cl M0 3;have r:=zA b;clear b m p d c f n;go_enter func52,ntmps52;go_upto_region 1 with fail
 go_quiet (fail)
 have a:=r.o.drewN nq;obtain⟨H,g⟩:=eX (w.drewN nq);rw [g]at a⊢;have E:=a.cl M0 0;have F:=a.cl M0 1;have G:=a.cl M0 3;have y:=(a.blkOf M0).frozen 0;have A:=(a.blkOf M0).frozen 1;have C:=(a.blkOf M0).frozen 3;have h:=zA (((a.set 0 (.slice none 0 0)).set 1 (.int .i64 0)).set 3 (.int .i64 1073741824));clear a i v x g;go_wp2;go_ret
 exact⟨rfl,h.o⟩
theorem E9 {B:Nat} {w w' :O} {b c d e f:Addr} {v3 v4 v5 g i:V} (h:Below B w w') (j:b.block<B) (a:c.block<B/\d.block<B/\e.block<B/\f.block<B):w.cell? b=some v3/\w.cell? c=some v4/\w.cell? d=some v5/\w.cell? e=some g/\w.cell? f=some i->w'.cell? b=some v3/\w'.cell? c=some v4/\w'.cell? d=some v5/\w'.cell? e=some g/\w'.cell? f=some i:=
 fun⟨k,l,m,n,p⟩=>⟨(h.cell j).trans k,(h.cell a.1).trans l,(h.cell a.2.1).trans m,(h.cell a.2.2.1).trans n,(h.cell a.2.2.2).trans p⟩
theorem NN {w:O} {F:Nat->Prop} {b off k:Nat} {x:OH} (h:xp w F b off k x):∃A n c,w.cell? ⟨b,off+k*4,none⟩=some (.slice A n c)/\w.cell? ⟨b,off+k*4+1,none⟩=some (.int .i64 x.2.1)/\w.cell? ⟨b,off+k*4+2,none⟩=some (.int .i64 x.2.2.1)/\w.cell? ⟨b,off+k*4+3,none⟩=some (.int .i64 x.2.2.2)/\zL w F A n c x.1:=by
 obtain⟨cs,h,a⟩:=h;obtain⟨_,_,rfl,⟨A,n,c,rfl,d⟩,_,_,rfl,⟨rfl,_⟩,_,_,rfl,⟨rfl,_⟩,⟨rfl,_⟩⟩:=h;exact⟨A,n,c,a 0 _ rfl,a 1 _ rfl,a 2 _ rfl,a 3 _ rfl,d⟩
theorem EE {I D k m:Nat} {vp:V} {z:Int} {ps:List PostD} {L:List Asn} {w:O} (v:Sp w (ItB I D vp z (k:Int)::L)) (hd:bQ L D ps) (hr:xk ps=true) (hk:k*8<ps.length) (Q:(blkP ps (k*8)).length=m):
 Calls prog 52 #[.pointer (some ⟨I,0,none⟩)] w fun e w' =>∃A' i,e= .returned (.bool true)/\Sp w' (ItB I D (.slice A' m i) 0 ((k+1:Nat):Int)::DatA (.slice A' m i) (blkP ps (k*8))::L):=by
 obtain⟨B,w0,s,hB,G⟩:=hd;have C:=v.below (.tail _ s);obtain⟨A1,R,c1,U,d0,_,P⟩:=jO G;have E:R=nP ps.length:=by rw [<-P.length];simp [pBl]
 have Y:k<R:=by rw [E];unfold nP;omega
 have hi:decide ((R:Int)<=(k:Int))=false:=decide_eq_false (by omega)
 have hh:k<=1000000:=by
  obtain⟨_,_,h3⟩:=QN hr;omega
 obtain⟨b,off,x,rfl,Hx,u,he⟩:=P.at_ Y
 have ha:x=blkE ps k:=by have h:=Hx.o;rw [p9 hk]at h;exact(yG h).symm
 subst ha;obtain⟨A2,n2,c2,T,J,K,M,d⟩:=NN he;have j:=d.cap;have hf:=P.cap;obtain⟨A,p,t⟩:=VD hr (k*8);have g:=QS hr (k*8);have Z:m<=8:=by rw [<-Q];unfold blkP;rw [zr];omega
 have F:n2<=100000000000000:=by
  obtain⟨X,hc,_⟩:=Qb _ _ A g.1 g.2 p t;have h1:=kY X g (by omega) (by omega);have h2:=d.length;simp only [blkE]at h2;omega
 simp only [blkE,Xc]at T J K M;have hE:=Xc ps (k*8);rw [Q]at M;obtain⟨la,q⟩:=eX (ZD ps (k*8));obtain⟨lb,r⟩:=eX (ZD ps (k*8+8))
 have hP:∀W:O,Below B w0 W->Calls prog 104 #[.agg #[.slice A2 n2 c2,.int .i64 la,.int .i64 lb,.int .i64 (m:Int)]] W fun e w' =>∃A' i css,e= .returned (.tuple #[.slice A' m i,.bool true])/\Sp w' [RowA 116 2 (.slice A' m i) m css.flatten,ElsA css (blkP ps (k*8)),OldA W.heap.size W]:=fun W N=>by
  have h:=jI (c:=c2) ((d.keep (fun _ hp=>N.cell hp) (fun _ hp=>zX hp (zY hB N.size))).rb fun b u=>u) j.1 j.2 F Q Z t g p;rw [hE,q,r]at h;exact h
 rw [q]at J;rw [r]at K;have HP:=zA hP;have H:=zA (fun(W:O) (N:Below B w0 W)=>E9 N U ⟨u,u,u,u⟩ (And.intro d0 (And.intro T (And.intro J (And.intro K M)))));obtain⟨e0,e1,e2,e3,e4⟩:=H.o w C;have q2:=v.cl M0 2;have q3:=v.cl M0 3;have Hd:=zA v;have n:=zA s;clear v P d he hP t g hE q r Q hk E p F Hx d0 T J K M C G s hB;go_enter func52,ntmps52
 go_upto_region 1 with fail
 go_quiet (fail)
 have l:=Hd.o.drewN (nq+1);go_upto_region 5 with fail
 go_region_held3 (fun W=>W.cell? ⟨I,2,none⟩=some (.pointer (some ⟨D,0,none⟩))/\W.cell? ⟨I,3,none⟩=some (.int .i64 (k:Int))/\W.cell? ⟨D,0,none⟩=some (.slice (some ⟨b,off,none⟩) R c1)/\W.cell? ⟨b,off+k*4,none⟩=some (.slice A2 n2 c2)/\W.cell? ⟨b,off+k*4+1,none⟩=some (.int .i64 la)/\W.cell? ⟨b,off+k*4+2,none⟩=some (.int .i64 lb)/\W.cell? ⟨b,off+k*4+3,none⟩=some (.int .i64 (m:Int))) (first|exact⟨a.cell M2 2,a.cell M2 3,H.o _ (a.below (.tail _ (.tail _ (.tail _ n.o))))⟩|exact⟨f.cell M0 2,f.cell M0 3,H.o _ (f.below (.tail _ (.tail _ n.o)))⟩|exact⟨by with_reducible assumption,by with_reducible assumption,by with_reducible assumption,by with_reducible assumption,by with_reducible assumption,by with_reducible assumption,by with_reducible assumption⟩|trivial)
  (first
   |(go_at_call 104;refine(HP.o _ (l.below (.tail _ n.o))).mono ?_;rintro e w5 ⟨A',i,css,rfl,y⟩;have a:=l.call [_,_] y;have f:=(a.els (α:=PostD)).p1.set 0 (.slice A' m i);have g0:=a.cl M2 0;have g1:=a.cl M2 1;have g3:=a.cl M2 3;have f0:=(a.blkOf M2).frozen 0;have f1:=(a.blkOf M2).frozen 1;have f3:=(a.blkOf M2).frozen 3)
   |fail)
 have S:=zA ((f.set 1 (.int .i64 0)).set 3 (.int .i64 ((k+1:Nat):Int)));clear a f y l H e0 e1 e2 e3 e4 q2 q3;have hg:IntKind.i64.wrap ((k:Int)+1)=((k+1:Nat):Int):=by rw [zT];omega
 go_wp2;go_ret
 exact⟨A',i,rfl,S.o⟩
theorem pZ {f:FuncId} {args:aG} {w:O} {n:Nat} {v:V} (h:Calls prog f args (w.drewN n) fun e w' =>e= .returned v/\xG (w.drewN n) w'):Calls prog f args (w.drewN n) fun e a =>e= .returned v/\∃m,a =w.drewN m:=
 h.mono fun _ _ ⟨b,m,c⟩=>⟨b,n+m,by rw [c,World.drewN_drewN]⟩
def ItA (I D:Nat) (vp:V) (ps:List PostD) (o:Nat):List Asn:= [ItB I D vp (itAt ps o) (itN ps o),DatA vp (itP ps o)]
theorem Ud {ps:List PostD} {o:Nat} (h:1<=o) (a:o<=ps.length):itP ps o=blkP ps ((o - 1) / 8*8):=by unfold itP;rw [if_neg (by omega)]
theorem UC {ps:List PostD} {o:Nat} (h:1<=o) (a:o<=ps.length):itAt ps o=(((o - 1)%8:Nat):Int):=by unfold itAt;rw [if_neg (by omega),if_neg (by omega)]
theorem fS {ps:List PostD} {o:Nat} (h:1<=o) (a:o<=ps.length):itN ps o=(((o - 1) / 8+1:Nat):Int):=by unfold itN;rw [if_neg (by omega),if_neg (by omega)]
theorem eL (ps:List PostD) (x:Nat):(blkP ps x).length=min 8 (ps.length - x):=by unfold blkP;rw [zr,ze]
theorem ME {ps:List PostD} {x j:Nat} (h:j<8):(blkP ps x)[j]? =ps[x+j]? :=by unfold blkP;rw [yy,if_pos h,List.getElem?_drop]
section
variable {I D o:Nat} {vp:V} {ps:List PostD} {L:List Asn} {w:O}
theorem lD (f:Sp w (ItA I D vp ps o++L)) (hd:bQ L D ps) (K:xk ps=true) (j:o<=ps.length):
 Calls prog 20 #[.pointer (some ⟨I,0,none⟩)] w fun e w' =>∃d,e= .returned (.bool (decide (o<ps.length)))/\Sp w' (ItA I D d ps (o+1)++L):=by
 obtain⟨n,x⟩:=eX (ps.length)
 have y:n<=1000000:=by
  obtain⟨_,_,G⟩:=QN K;omega
 unfold ItA at f;simp only [yI,zZ]at f;obtain⟨A,m,c,hv,H⟩:=f.dat M1;cases hv;have J:=H.length;have N:=f.cl M0 0;obtain⟨z,i⟩:=eX (itAt ps o);obtain⟨M,a⟩:=eX (itN ps o);rw [i,a]at f;have P:=f.cl M0 1
 by_cases q:1<=o/\o<n/\o%8≠0
 ·obtain⟨g,F,G⟩:=q;rw [UC g j]at i;rw [Ud g j,eL,x]at J;rw [fS g j]at a;have b1:decide (0<=z)=true:=decide_eq_true (by omega);have b2:decide (z<(m:Int))=true:=decide_eq_true (by omega);have U:decide (z+1<(m:Int))=true:=decide_eq_true (by omega);have b4:IntKind.i64.wrap (z+1)=z+1:=(by rw [zT];omega);have l:=zA (fun nq=>pZ (UG (I:=I) (A:=A) (c:=c) (w:=w.drewN nq) N P))
  rw [b1,b2,Bool.true_and]at l;have r:itAt ps (o+1)=z+1:=(by rw [UC (by omega) (by omega),<-i];omega);have s:itN ps (o+1)=M:=(by rw [fS (by omega) (by omega),<-a];omega)
  have E:itP ps (o+1)=itP ps o:=by
   rw [Ud (by omega) (by omega),Ud g j]
   congr 1
   omega
  have X:decide (o<n)=true:=decide_eq_true F;have T:=zA f;rw [x,X];unfold ItA;rw [r,s,E];clear f H J i a hd K g F G r s E b1 b2 x j y X;go_enter func20,ntmps20;go_upto_region 3 with fail
  go_quiet ((go_at_call 51;exact l.o _))
  have b:=T.o.drewN nq;obtain⟨w3,C⟩:=eX (w.drewN nq);rw [C]at b⊢;have g1:=b.cl M0 1;have f1:=(b.blkOf M0).frozen 1;have R:=zA (b.set 1 (.int .i64 (z+1)));clear b C N P l;go_wp2;go_ret
  exact⟨_,rfl,R.o⟩
 ·obtain⟨bh,p⟩:=eX ((decide (0<=z) && decide (z<(m:Int))));have u:=H.cap
  have U:bh=true->IntKind.i64.wrap (z+1)=z+1/\decide (z+1<(m:Int))=false:=fun h=>by
   rw [<-p,zM,decide_eq_true_eq,decide_eq_true_eq]at h;refine⟨by rw [zT];omega,?_⟩
   apply decide_eq_false
   have g:1<=o:=by
    rcases zi o with t|t
    ·rw [t]at i;unfold itAt at i;simp at i;omega
    ·exact t
   rw [UC g j]at i;rw [Ud g j,eL,x]at J;omega
  have l:=zA (fun nq=>pZ (UG (I:=I) (A:=A) (c:=c) (w:=w.drewN nq) N P));rw [p]at l
  have HL:=zA (fun(W:O) (Z:Sp W (ItB I D (.slice A m c) z M::DatA (.slice A m c) (itP ps o)::L))=>show Calls prog 52 #[.pointer (some ⟨I,0,none⟩)] W fun e w' =>∃d,e= .returned (.bool (decide (o<ps.length)))/\Sp w' (ItA I D d ps (o+1)++L)from by
   have v:bQ (DatA (.slice A m c) (itP ps o)::L) D ps:=by
    obtain⟨B,w0,g,F,G⟩:=hd;exact⟨B,w0,.tail _ g,F,G⟩
   by_cases ha:o<n
   ·have h8:o%8=0:=by
     rcases zi o with t|t
     ·omega
     ·exact Decidable.byContradiction fun h=>q ⟨t,ha,h⟩
    have hk:M=((o / 8:Nat):Int):=by
     rw [<-a];unfold itN
     split
     ·omega
     ·rw [if_neg (by omega)];omega
    rw [hk]at Z;refine(EE (k:=o / 8) Z v K (by omega) rfl).mono ?_;rintro e w' ⟨A',c',rfl,Y⟩;refine⟨.slice A' (blkP ps (o / 8*8)).length c',by rw [decide_eq_true (show o<ps.length by omega)],?_⟩;unfold ItA;rw [UC (by omega) (by omega),fS (by omega) (by omega),Ud (by omega) (by omega)];have r:((o+1 - 1)%8:Nat)=0:=(by omega);have s:o+1 - 1=o:=(by omega);rw [r,s];exact Y.d2
   ·obtain rfl:o=n:=by omega
    have hk:(nP ps.length:Int)<=M:=by
     rw [<-a];unfold itN nP
     split
     ·omega
     ·rw [if_neg (by omega)];omega
    refine(JC Z v hk).mono ?_;rintro e w' ⟨rfl,Y⟩;refine⟨.slice none 0 0,by rw [decide_eq_false (show ¬o<ps.length by omega)],?_⟩;have r:itAt ps (o+1)=0:=(by unfold itAt;rw [if_neg (by omega),if_pos (by omega)]);have s:itN ps (o+1)=1073741824:=(by unfold itN;rw [if_neg (by omega),if_pos (by omega)]);have E:itP ps (o+1)= []:=(by unfold itP;rw [if_pos (by omega)]);unfold ItA;rw [r,s,E]
    exact(((Y.d1.elsNil (α:=PostD)).nil 116 2).els (α:=PostD) (css:= [])).p1)
  have T:=zA f;clear f H J i a hd K x j y q p;cases bh
  all_goals
   (try obtain⟨b4,X⟩:=U rfl)
   clear U u;go_enter func20,ntmps20;go_upto_region 3 with fail
   go_quiet ((go_at_call 51;exact l.o _))
   have Q:=zA (HL.o _ (T.o.drewN nq));clear HL l N P;go_wp2_with fail;refine Q.o.mono ?_;rintro e w4 ⟨d,rfl,S⟩;go_wp2;go_ret
   exact⟨d,rfl,S⟩
theorem o9 {p:PostD} (a:Sp w (ItA I D vp ps o++L)) (l:1<=o) (n:ps[o - 1]? =some p):∃(A:aA) (m c b off j:Nat) (d:aA) (f e:Nat),A=some ⟨b,off,none⟩/\j<m/\w.cell? ⟨I,0,none⟩=some (.slice A m c)/\w.cell? ⟨I,1,none⟩=some (.int .i64 (j:Int))/\w.cell? ⟨b,off+j*2,none⟩=some (.int .i64 p.doc)/\w.cell? ⟨b,off+j*2+1,none⟩=some (.slice d f e)/\zL w (·<w.heap.size) d f e p.pos:=by
 have B:=zN n;unfold ItA at a;simp only [yI,zZ]at a;rw [UC l (by omega),Ud l (by omega)]at a;obtain⟨A,m,c,y,q⟩:=a.dat M1;cases y;have v:=q.length;rw [eL]at v;have k:(o - 1)%8<m:=by omega
 obtain⟨b,off,x,rfl,t,z,u⟩:=q.at_ k
 have i:x=p:=by
  have h:=t.o;rw [ME (Nat.mod_lt _ (by omega)),show(o - 1) / 8*8+(o - 1)%8=o - 1 by omega,n]at h;exact(yG h).symm
 subst i;obtain⟨d,f,e,r,s,g, -⟩:=PostD.at_ u
 exact⟨_,m,c,b,off,(o - 1)%8,d,f,e,rfl,k,a.cell M0 0,a.cell M0 1,r,s,g⟩
theorem pF {p:PostD} (d:Sp w (ItA I D vp ps o++L)) (h:1<=o) (i:ps[o - 1]? =some p):
 Calls prog 16 #[.pointer (some ⟨I,0,none⟩)] w fun e w' =>e= .returned (.int .i64 p.doc)/\xG w w' :=by
 obtain⟨A,m,c,b,off,j,q,u,s,rfl,k,l,n,v, -, -⟩:=o9 d h i;have a:=zA (UG l n);have f:decide (0<=(j:Int))=true:=decide_eq_true (by omega);have g:decide ((j:Int)<(m:Int))=true:=decide_eq_true (by omega);rw [f,g,Bool.true_and]at a;have r:(j:Int)<(m:Int):=by omega
 clear d i h f g k;go_enter func16,ntmps16;go_upto_region 2 with(go_at_call 51;refine a.o.mono ?_;rintro e x ⟨rfl,t,rfl⟩)
 go_quiet (fail)
 go_wp2;go_ret
 exact⟨rfl,⟨_,World.drewN_drewN ..⟩⟩
theorem K4 {p:PostD} (t:Sp w (ItA I D vp ps o++L)) (y:1<=o) (z:ps[o - 1]? =some p) (J:p.pos.length<=1048576):
 Calls prog 17 #[.pointer (some ⟨I,0,none⟩)] w fun e w' =>∃A' n' h,e= .returned (.slice A' n' h)/\p.pos.length=n' /\Sp w' (RowA 3 1 (.slice A' n' h) n' (ints p.pos)::OldA w.heap.size w:: []):=by
 obtain⟨A,m,c,b,off,j,r,l,x,rfl,G,n,q, -,B,d⟩:=o9 t y z;have s:=zA (UG n q);have u:decide (0<=(j:Int))=true:=decide_eq_true (by omega);have v:decide ((j:Int)<(m:Int))=true:=decide_eq_true (by omega);rw [u,v,Bool.true_and]at s;have H:(j:Int)<(m:Int):=by omega
 have g:=d.length;have C:=zA (fun(W:O) (F:Below w.heap.size w W)=>l4 r l x (ints p.pos) W (by omega) (d.on F).reads_ints (Y3 _));have i:=zA g;clear t z y u v G d g;go_enter func17,ntmps17;go_upto_region 3 with(go_at_call 51;refine s.o.mono ?_;rintro e M ⟨rfl,K,rfl⟩)
 go_region_held3 (fun W=>W.cell? ⟨I,0,none⟩=some (.slice (some ⟨b,off,none⟩) m c)/\W.cell? ⟨I,1,none⟩=some (.int .i64 (j:Int))/\W.cell? ⟨b,off+j*2+1,none⟩=some (.slice r l x)) (first|exact⟨by with_reducible assumption,by with_reducible assumption,by with_reducible assumption⟩|exact E|trivial)
  (first
   |(go_at_call 53;refine(C.o _ (zd (zE _ _) _)).mono ?_;rintro e N ⟨A',h,rfl,k,f⟩;have a:=(zd (zE w.heap.size w) _).trans f;have E:=And.intro ((a.cell (ye n)).trans n) (And.intro ((a.cell (ye q)).trans q) ((a.cell (ye B)).trans B)))
   |fail)
 go_wp2;go_ret
 exact⟨A',l,h,rfl,i.o,((Sp.start w).grow (zd (zE _ _) _)).row k f⟩
end
theorem PL:∀{ps:List PostD} {last:Int} {all:Nat} {j:Nat} {x:PostD},xa last all ps=true->ps[j]? =some x->last<x.doc
 | [],_,_,_,_,_,h=>by simp at h
 |p::l,last,all,j,x,h,hx=>by
  simp only [xa,Yv,zM,decide_eq_true_eq]at h;cases j with
  |zero=>simp at hx;subst hx;omega
  |succ j=>have:=PL h.2 (by simpa using hx);omega
theorem RE {ps:List PostD} (d:xk ps=true) {a b:Nat} {x y:PostD} (c:a<b) (f:ps[a]? =some x) (g:ps[b]? =some y):x.doc<y.doc:=by
 obtain⟨all,h⟩:=XK (a+1) d
 have e:endD (ps.take (a+1)) (-1)=x.doc:=by
  unfold endD;rw [zI,f];simp
 rw [e]at h;exact PL (j:=b - (a+1)) h (by rw [List.getElem?_drop,show a+1+(b - (a+1))=b by omega];exact g)
theorem RM {ps:List PostD} (a:xk ps=true) {q j:Nat} {x:PostD} (b:ps[j]? =some x) (c:q<j / 8):ZD ps (q*8+8)<x.doc:=by
 obtain⟨all,h⟩:=XK (q*8+8) a;exact PL (j:=j - (q*8+8)) h (by rw [List.getElem?_drop,show q*8+8+(j - (q*8+8))=j by omega];exact b)
theorem RL {ps:List PostD} (c:xk ps=true) {j:Nat} {x:PostD} (d:ps[j]? =some x):x.doc<=ZD ps (j / 8*8+8):=by
 obtain⟨all,h⟩:=XK (j+1) c
 have e:endD (ps.take (j+1)) (-1)=x.doc:=by
  unfold endD;rw [zI,d];simp
 rw [e]at h;have a:=gQ (Qa (j / 8*8+8 - (j+1)) h)
 have b:endD ((ps.drop (j+1)).take (j / 8*8+8 - (j+1))) x.doc=ZD ps (j / 8*8+8):=by
  unfold ZD;rw [<-e,XA,<-List.take_add,show j+1+(j / 8*8+8 - (j+1))=j / 8*8+8 by omega]
 rw [b]at a;exact a
section
variable {I D o:Nat} {vp:V} {ps:List PostD} {L:List Asn} {w:O}
theorem RH {p:PostD} (f:Sp w (ItA I D vp ps o++L)) (i:1<=o) (k:ps[o - 1]? =some p):
 Calls prog 21 #[.pointer (some ⟨I,0,none⟩)] w fun e w' =>e= .returned (.int .i64 (p.pos.length:Int))/\xG w w' :=by
 obtain⟨A,m,c,b,off,j,s,x,u,rfl,n,q,r, -,y,a⟩:=o9 f i k;have d:=zA (UG q r);have g:decide (0<=(j:Int))=true:=decide_eq_true (by omega);have h:decide ((j:Int)<(m:Int))=true:=decide_eq_true (by omega);rw [g,h,Bool.true_and]at d;have t:(j:Int)<(m:Int):=by omega
 have l:=zA a.length;clear f k i g h n a;go_enter func21,ntmps21;go_upto_region 3 with(go_at_call 51;refine d.o.mono ?_;rintro e z ⟨rfl,v,rfl⟩)
 go_quiet (fail)
 go_wp2;go_ret
 exact⟨by rw [l.o];rfl,⟨_,World.drewN_drewN ..⟩⟩
theorem PZ {j i:Nat} {p:PostD} (g:Sp w (ItB I D (.slice none 0 0) (-1) 0::L)) (hd:bQ L D ps) (l:xk ps=true) (G:ps[j]? =some p) (hi:p.doc=(i:Int)):
 Calls prog 15 #[.pointer (some ⟨I,0,none⟩),.int .i64 (i:Int)] w fun e w' =>∃hh,e= .returned (.bool true)/\Sp w' (ItA I D hh ps (j+1)++L):=by
 obtain⟨n,hn⟩:=eX (ps.length);have hc:j<n:=by rw [<-hn];exact zN G
 have hy:n<=1000000:=by
  obtain⟨_,_,h3⟩:=QN l;omega
 have Z:=g.cl M0 0;have q1:=g.cl M0 1;have hz:(decide ((0:Int)<= -1) && decide ((-1:Int)<((0:Nat):Int)))=false:=by decide
 have HH:=zA (fun nq=>pZ (v:= .bool false) (by have h:=UG (I:=I) (A:=none) (m:=0) (c:=0) (z:= -1) (w:=w.drewN nq) Z q1;rw [hz]at h;exact h));obtain⟨B,w0,s,hB,H⟩:=hd;obtain⟨A1,N,c1,U,d0,_,M⟩:=jO H;have E:N=nP ps.length:=by rw [<-M.length];simp [pBl]
 have X:j / 8<N:=by rw [E];unfold nP;omega
 obtain⟨bk,off,hA⟩:∃bk off,A1=some ⟨bk,off,none⟩:=by
  obtain⟨b,off,_,e,_⟩:=M.at_ X
  exact⟨b,off,e⟩
 subst hA
 have HF:=zA (fun(W:O) (hW:Below B w0 W) (q:Nat) (hq:q<=j / 8)=>show W.cell? ⟨D,0,none⟩=some (.slice (some ⟨bk,off,none⟩) N c1)/\W.cell? ⟨bk,off+q*4+2,none⟩=some (.int .i64 (ZD ps (q*8+8)))from by
  refine⟨(hW.cell U).trans d0,?_⟩;obtain⟨b,hk,x,e,Hx,hb,he⟩:=M.at_ (show q<N by omega)
  cases e;have hg:x=blkE ps q:=(by have h:=Hx.o;rw [p9 (by omega)]at h;exact(yG h).symm);subst hg;obtain⟨_,_,_, -, -,b2, -⟩:=NN he;simp only [blkE,Xc]at b2;exact(hW.cell hb).trans b2)
 have hs:=M.cap;have S:=zA (fun(q:Nat) (hq:q<j / 8)=>RM l G hq);have Q:=zA (RL l G);have t:=zA (fun(vp:V) (z:Int) (W:O) (hW:Sp W (ItB I D vp z ((j / 8:Nat):Int)::L))=>EE hW ⟨B,w0,s,hB,H⟩ l (by omega) rfl);have P:=zA (fun(a:Nat) (x:PostD) (ha:a<j) (hx:ps[a]? =some x)=>RE l ha hx G);have Hm:=zA s;have Hp:=zA G;have Hi:=zA hi;have Hn:=zA hn
 have hu:i<16384:=by
  obtain⟨h,_,_⟩:=QN l;have:=h p (zD G);omega
 obtain⟨K,C⟩:=eX (j / 8);rw [C]at X HF S Q t;have Hk:=zA C;have ht:=zA E;have hv:K<=1000000:=by omega
 have k:=zA g;clear M H l G hi hn s hB U d0 C E g hc;go_enter func15,ntmps15;go_upto_region 3 with fail
 go_quiet ((go_at_call 51;exact HH.o _))
 have d:=k.o.drewN nq;obtain⟨w3,f⟩:=eX (w.drewN nq);rw [f]at d⊢;clear f Z q1 HH k;go_wp2
 go_loopg [] K (fun gk wr=>∃q:Nat,q<=K/\gk=K - q/\Sp wr (ItB I D (.slice none 0 0) (-1) (q:Int)::L))
 case atStart=>exact⟨0,zJ _,rfl,d⟩
 case round=>
  obtain⟨q,hq,rfl,g⟩:=hrel;clear d;obtain⟨e0,e1⟩:=HF.o wr (g.below (.tail _ Hm.o)) q hq;have q2:=g.cl M0 2;have q3:=g.cl M0 3;obtain⟨la,F⟩:=eX (ZD ps (q*8+8));rw [F]at e1;have b1:decide ((q:Int)<(N:Int))=true:=decide_eq_true (by omega);have b2:(q:Int)<(N:Int):=(by omega);have k:=zA g;clear g
  by_cases hf:q<K
  ·have b3:decide (la<(i:Int))=true:=decide_eq_true (by have:=S.o q hf;rw [<-F,<-Hi.o];exact this);have b4:IntKind.i64.wrap ((q:Int)+1)=((q+1:Nat):Int):=(by rw [zT];omega);go_upto_region 4 with fail
   go_quiet (fail)
   have d:=k.o.drewN nq;obtain⟨w3,f⟩:=eX (wr.drewN nq);rw [f]at d⊢;have g3:=d.cl M0 3;have f3:=(d.blkOf M0).frozen 3;have u:=zA (d.set 3 (.int .i64 ((q+1:Nat):Int)));clear d f e0 e1 q2 q3 k;go_wp2
   go_roundg (K - (q+1))
   ·exact⟨q+1,by omega,rfl,u.o⟩
   ·omega
  ·obtain rfl:q=K:=by omega
   have b3:decide (la<(i:Int))=false:=decide_eq_false (by have:=Q.o;rw [<-F,<-Hi.o];omega);go_upto_region 4 with fail
   go_quiet (fail)
   have R:=zA (t.o _ _ _ (k.o.drewN nq));clear e0 e1 q2 q3 k b1 b2 b3 HF t;go_wp2_with fail;refine R.o.mono ?_;rintro e w4 ⟨A',c',rfl,y⟩;obtain⟨m,s⟩:=eX ((blkP ps (q*8)).length);obtain⟨r,l⟩:=eX (j%8);have hj:q*8+r=j:=(by have:=Hk.o;omega)
   have h0:r<m:=by
    have h1:=zN Hp.o;rw [eL]at s;omega
   rw [s]at y;have Hj:=zA hj;have Hr:=zA l;have hw:m<=8:=(by rw [<-s,eL];omega);clear R s hj l;go_wp2
   go_loopg [] r (fun gk wr=>∃a:Nat,a<=r/\gk=r - a/\Sp wr (ItB I D (.slice A' m c') (a:Int) ((q+1:Nat):Int)::DatA (.slice A' m c') (blkP ps (q*8))::L))
   case atStart=>exact⟨0,zJ _,rfl,y⟩
   case round=>
    obtain⟨a,ha,rfl,g⟩:=hrel;clear y;obtain⟨b,of,x,rfl,Hx,hb,he⟩:=(g.ls M1).at_ (show a<m by omega)
    obtain⟨_,_,_,E0, -⟩:=PostD.at_ he
    have Y:ps[q*8+a]? =some x:=(by have h:=Hx.o;rwa [ME (by omega)]at h);have Z:=g.cl M0 0;have q1:=g.cl M0 1;have b1:(a:Int)<(m:Int):=(by omega);obtain⟨xd,J⟩:=eX (x.doc);rw [J]at E0;have k:=zA g;have T:=zA Y;clear g he hb Hx Y
    by_cases ho:a<r
    ·have b3:decide (xd<(i:Int))=true:=decide_eq_true (by have:=P.o (q*8+a) x (by have:=Hj.o;omega) T.o;rw [<-J,<-Hi.o];exact this);have b4:IntKind.i64.wrap ((a:Int)+1)=((a+1:Nat):Int):=(by rw [zT];omega);go_upto_region 8 with fail
     go_quiet (fail)
     have d:=k.o.drewN nq;obtain⟨w3,f⟩:=eX (wr.drewN nq);rw [f]at d⊢;have g1:=d.cl M0 1;have f1:=(d.blkOf M0).frozen 1;have u:=zA (d.set 1 (.int .i64 ((a+1:Nat):Int)));clear d f Z q1 E0 k;go_wp2
     go_roundg (r - (a+1))
     ·exact⟨a+1,by omega,rfl,u.o⟩
     ·omega
    ·obtain rfl:a=r:=by omega
     have b3:decide (xd<(i:Int))=false:=decide_eq_false (by
      have h:=T.o;rw [Hj.o,Hp.o]at h;rw [<-J,<-yG h,Hi.o];omega)
     go_upto_region 8 with fail
     go_quiet (fail)
     have d:=zA (k.o.drewN nq);clear Z q1 E0 k;go_wp2;go_ret
     refine⟨.slice (some ⟨b,of,none⟩) m c',rfl,?_⟩;have h:=d.o;unfold ItA;have M:=zN Hp.o;rw [UC (by omega) (by omega),fS (by omega) (by omega),Ud (by omega) (by omega),show j+1 - 1=j by omega,Hr.o,Hk.o];exact h
end
end Go.Proofs.YtjbhbfaeielbiaaGreatDoor
namespace Go.Proofs.YtjbhbfaeielbiaaGreatDoor.segmentFound
open Go.Proofs.Tryz
open Rep (rep)
open Go.ChangeShapes Go.WideShapes Go.ChangeAt Go.RowKit Go.Deep
theorem nM {w:O} {n m:String} {d:DataW Unit} {g:Nat} {ty:TypeId} (h:Lib.VarReads prog w n (.iface m d)) (i:Tryz.prog.globalNamed n=some g) (k:(Tryz.prog.globals[g]?).map (·.type)=some ty) (c:(Tryz.prog.underlying ty).map (fun u=>match u with| .interface _=>true|_=>false)=some true):
 ∃t p,w.cell? ⟨g,0,none⟩=some (.iface t p)/\g<w.heap.size:=by
 obtain⟨q,o,cs,fuel,p,e,f,j,a⟩:=h;rw [i]at e;cases e;rw [k]at f;cases f;have b:=World.var?_cell i j 0;rw [<-Array.getElem?_toList]at b;cases hu2:Tryz.prog.underlying ty with
 |none=>rw [hu2]at c;cases c
 |some u=>
  rw [hu2]at c;cases u<;>simp at c
  cases fuel with
  |zero=>cases a
  |succ fuel=>
   unfold DataW.trod at a;rw [hu2]at a;generalize cs.toList=l at a b;rcases l with _|⟨v,_|⟨v2,l⟩⟩
   ·simp at a
   ·cases v<;>simp at a
    simp only [zf]at b;exact⟨_,_,b,ye b⟩
   ·simp at a
theorem PH:ownKnob Tryz.prog.godebug=none:=by kernel_rfl
theorem o6:laidOutB prog=true:=by kernel_rfl
def laid:List (String×DataW Unit):=Rows.segmentFoundUptoRow.laid
theorem tH {H:Type} {enc:TypeId×V->H} {C:Checked} {h:Os} {f:FuncId} {g:Func} {s:OpenSpec} {a:List PathCond} {apart:Bool} {laid:List (String×DataW Unit)} (modest:Bool) (w0:O) (args:aG) (d:w0.os=h)
 (e:(w0.forCall (fun _ _=>0) ⟨#[],args, []⟩).Shaped C.prog)
 (b:Input.okWideB C.prog (w0.forCall (fun _ _=>0) ⟨#[],args, []⟩) f ⟨#[],args, []⟩=true)
 (c:s.preRow enc C.prog g a apart laid (w0.forCall (fun _ _=>0) ⟨#[],args, []⟩).memory args):
 ∃(w:O) (tape:Tape) (i:Input),w.os=h/\(w.forCall tape i).Shaped C.prog/\i.vars= []/\Input.okWide C.prog (w.forCall tape i) .any w.heap.size f i/\
  s.preRow enc C.prog g a apart laid (w.forCall tape i).memory i.args/\({modest:=modest}:Assume).holds C.prog (lone (Frame.enter C.prog f i.args .normal) [] (w.forCall tape i)):=
 ⟨w0,fun _ _=>0,⟨#[],args, []⟩,d,e,(Input.okWide_of_okWideB (base:=0) b).1,(Input.okWide_of_okWideB b).2,c,by
  simp only [Assume.holds];exact⟨by simp,by simp,fun _=>Modest.zero,by simp,by simp⟩⟩
theorem reads (a:Os) {H:Type} (enc:TypeId×V->H):∃yg,DataW.whole enc prog ((World.laidAll prog a laid).forCall (fun _ _=>0) ⟨#[],#[.agg #[.slice none 0 0],.slice none 0 0], []⟩).memory Tryz.f3.params.toList Rows.segmentFoundSpec.vars false #[Value.agg #[.slice none 0 0],.slice none 0 0].toList 8=some ([.agg [.nil],.nil], [],yg):=
 ⟨[],by kernel_rfl⟩
end Go.Proofs.YtjbhbfaeielbiaaGreatDoor.segmentFound

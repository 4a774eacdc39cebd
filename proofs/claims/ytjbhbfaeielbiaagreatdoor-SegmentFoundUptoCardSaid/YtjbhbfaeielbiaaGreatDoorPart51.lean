/-
  SegmentFound, the second form: whatever schema and items (together of bulk at most 2^20): each token of a text stands in its term's list at its position, each text of a keyword is found, and what was handed in reads as it did; no condition beyond the bulk's bound and the listed variables of the library, which the card ties to the program's text.
  The texts Part01 and on were made small by program out of the repository's templates; the frame was written after the kit's worked example over listed variables.
-/
import Derived.Test.YtjbhbfaeielbiaaGreatDoorPart50
set_option maxRecDepth 100000
set_option maxHeartbeats 8000000
set_option linter.unusedVariables false
set_option linter.unusedSimpArgs false
namespace Go.Proofs.YtjbhbfaeielbiaaGreatDoor
open Go.Proofs.Tryz
open Rep (rep)
open Go.RowKit
attribute [local go_sem ↓] zU zV
abbrev tdF (a:List Field) (items:List xw) (f:Nat):xo:=(stF a (yv a items) f items.length).td
theorem PM {a:List Field} {items:List xw} {f:Nat} {b:Field} (d:dG a items) (c:a[f]? =some b) (g:b.kind=1\/b.kind=2):
 ∃z,(aR a (Zz a items) a.length)[f]? =some z/\z.1=aT (Zl (tdF a items f)) (Y2 (tdF a items f))/\z.2.1=(Y2 (tdF a items f)).map Xo/\xQ (Zl (tdF a items f))=true/\(∀ps∈Y2 (tdF a items f),xk ps=true)/\(allL (Y2 (tdF a items f))).length<=16777216:=by
 have e:(Zz a items)[f]? =some (VH (stF a (yv a items) f items.length)):=by
  unfold Zz;rw [zH,zq (zN c)];rfl
 have h:(a.zip (Zz a items))[f]? =some (b,VH (stF a (yv a items) f items.length)):=by rw [List.getElem?_zip_eq_some];exact⟨c,e⟩
 refine⟨fldM b (VH (stF a (yv a items) f items.length)),?_,?_,?_,d.2.2 f b _ c e g⟩
 ·unfold aR;rw [zH,yy,if_pos (zN c),h];rfl
 ·unfold fldM;rw [if_pos (show b.kind<=2 by omega)];rfl
 ·show(if b.kind<=2 then _ else _)=_;rw [if_pos (show b.kind<=2 by omega)];rfl
theorem RD {a:List Field} {items:List xw} {k:Nat} {x:xw} (c:Uy a items) (d:items[k]? =some x):Yk a x.2=some (yv a items k):=by
 obtain⟨cs,b⟩:=c.2 x (zD d);unfold yv;rw [d];simp [b]
theorem RV {b:List Field} {f:Nat} {c:Field} (h:xC b=true) (d:b[f]? =some c):Zx b c.name=some f:=by
 unfold xC at h;simp only [zM]at h;have a:=List.all_eq_true.1 h.2 f (List.mem_range.2 (zN d));unfold YH at a;rw [d]at a;simp only [zM,decide_eq_true_eq]at a;exact a.1
theorem PN {b:List Field} {f:Nat} {a:Field} (c:b[f]? =some a):QC b f=a.kind:=by unfold QC;rw [c];rfl
theorem R6 {a:List Field} {items:List xw} {f k:Nat} {c:Field} {u:Token} (d:a[f]? =some c) (e:c.kind=1) (b:k<items.length) (g:u∈tokP a f (yv a items k)):
 ∃(o j:Nat) (ps:List PostD) (x:PostD),(Zl (tdF a items f))[o]? =some u.text/\(Y2 (tdF a items f))[o]? =some ps/\ps[j]? =some x/\x.doc=(k:Int)/\u.pos∈x.pos:=
 ((PP ((PN d).trans e) items.length).2 k b u g).at_
theorem RK {a:List Field} {items:List xw} {f k:Nat} {d:Field} {c:yZ} (m:a[f]? =some d) (n:d.kind=2) (b:k<items.length) (p:c∈yv a items k) (l:c.1=(f:Int)):
 ∃(o:Nat) (ps:List PostD),(Zl (tdF a items f))[o]? =some c.2.1/\(Y2 (tdF a items f))[o]? =some ps/\(k:Int)∈bH ps:=by
 obtain⟨o,j,ps,x,e,g,h,i,_⟩:=(PT ((PN m).trans n) items.length k b c p l).at_
 exact⟨o,ps,e,g,List.mem_map.2 ⟨x,zD h,i⟩⟩
theorem RQ {a:List Field} {items:List xw} {f:Nat} {c:Field} (b:xC a=true) (h:items.length<=16384) (i:∀x∈items,∀e∈x.2,∀z∈e.numbers,In64 z) (d:a[f]? =some c) (g:c.kind=1):
 PJ a f (yv a items) items.length=(((Y2 (tdF a items f)).drop 0).map lenP).sum:=by
 rw [<-(PP ((PN d).trans g) items.length).1];exact(RP (PU a _ f _) fun p j=>((dA b d i items.length h).dc p j).1).symm
theorem RO {ps:List PostD} {x:Nat} {p:PostD} (a:ps[x]? =some p):lenP (ps.drop x)=p.pos.length+lenP (ps.drop (x+1)):=by
 unfold lenP;rw [yb a,yH,List.sum_cons]
theorem RY {ls:List (List PostD)} {o:Nat} {ps:List PostD} (a:ls[o]? =some ps):((ls.drop o).map lenP).sum=lenP (ps.drop 0)+((ls.drop (o+1)).map lenP).sum:=by
 rw [yb a,yH,List.sum_cons,List.drop_zero]
theorem PV {α:Type} [BEq α] [LawfulBEq α] {l:List α} {j:Nat} {y x:α} {a:Bool} (h:a=true↔x∈l.take j) (d:l[j]? =some y) (b:Bool) (c:(y==x)=b):(a||b)=true↔x∈l.take (j+1):=by
 rw [zI,d];subst c;simp only [Bool.or_eq_true,h,List.mem_append,Option.toList_some,List.mem_singleton,beq_iff_eq];exact⟨fun h=>h.elim .inl fun h=> .inr h.symm,fun h=>h.elim .inl fun h=> .inr h.symm⟩
theorem RJ {I D x b:Nat} {ps:List PostD} {L:List Asn} {p:PostD} (d:ps[x]? =some p) (a:p.pos.length=b) (W:O) (f:V) (c:Sp W (ItA I D f ps (x+1)++L)):
 Calls prog 21 #[.pointer (some ⟨I,0,none⟩)] W fun e w' =>e= .returned (.int .i64 (b:Int))/\xG W w' :=by
 subst a;exact RH c (Nat.succ_pos x) (by rw [Nat.add_sub_cancel];exact d)
theorem RN {ps:List PostD} {x a b c d:Nat} {p:PostD} (f:ps[x]? =some p) (e:p.pos.length=a) (g:lenP (ps.drop (x+1))+b=d) (h:lenP (ps.drop x)+b=c):a+d=c:=by
 rw [RO f]at h;omega
theorem RX {a c b:Nat} (h:c+b=a) (d:a<=4294967296):IntKind.i64.wrap ((a:Int) - (c:Int))=((b:Nat):Int)/\b<=4294967296:=by
 rw [zT];omega
theorem PR {xs:aD} {k:Nat} {x:Int} (h:xs[k]? =some x):(ints xs)[k]? =some (.int .i64 x):=by
 obtain⟨a,rfl⟩:=List.getElem?_eq_some_iff.1 h;exact dZ a
theorem RG (HA:∀w:O,Vs w->Calls prog 8 #[] w fun e w' =>e= .returned (.bool true)/\Below w.heap.size w w')
 {A B:aA} {n c m cm:Nat} {K:List Field} {items:List xw} {w:O} (hV:Vs w) (hs:zL w (·<w.heap.size) A n c K) (hi:zL w (·<w.heap.size) B m cm items)
 (hz:∀x∈items,∀e∈x.2,e.text.size<=100000000/\e.numbers.length<=1000000000):
 Calls prog 3 #[.agg #[.slice A n c],.slice B m cm] w fun e w' =>e= .returned (.bool true)/\Below w.heap.size w w' :=by
 obtain⟨H,hH⟩:=eX (w.heap.size);have T:=(Sp.start w).blkH 24 #[.slice A n c] hH;obtain⟨w0,c8⟩:=eX (w.alloc (.cells #[.slice A n c] 24));rw [c8]at T;have ai:=T.below M1;have HB:=zA (jA (hV.on ai) (hs.on ai) (hi.on ai) hz);have q0:=T.cl M0 0;have cw:=hs.length;have cv:=hi.length;have dp:=hs.cap;have eq:=hi.cap;have HV:=zA hV;have Hs:=zA hs;have Hi:=zA hi;have Hz:=zA hz
 have HF:=zA (fun(W:O) (C:Below w.heap.size w W)=>LT (hi.on C));have ax:=zA HA;have ad:=zA cw;have x6:=zA cv;clear hV hs hi hz HA ai cw cv;go_enter func3,ntmps3;go_upto_region 1 with fail;clear hH;go_wp2_with fail;clear c8 q0;refine HB.o.mono ?_;unfold fZ;rintro e d (⟨er,co, -,rfl,af⟩|⟨X,g,q,A1,A2,A3,A4,Ac,c2,c3,c4,cc,Tb,As,rfl, -, -,bd,U⟩)
 ·have hb:=(T.grow af).below M1;have xs:=zA (HF.o d hb);have ex:(er !=0)=true:=(by simpa using co);have Y:=zA hb;clear T af HB hb co;go_upto_region 2 with fail;go_wp2_with fail;refine xs.o.mono ?_;rintro e w2 ⟨fb,rfl,hd⟩;have M:Hid (Below w.heap.size w w2):=(by obtain⟨j,rfl⟩:=hd;exact zd Y.o j);have xi:=zA (ax.o w2 (HV.o.on M.o));clear hd xs;cases fb
  all_goals
   go_wp2_with fail;refine xi.o.mono ?_;rintro e w3 ⟨rfl,hc⟩;have x3:=zA (M.o.trans (hc.mono M.o.size));clear hc;go_wp2;go_ret
   exact⟨rfl,x3.o⟩
 ·unfold OP at U;simp only [yI,zZ]at U;have hb:Below w.heap.size w d:=(T.below M1).trans ((U.below M8).mono (T.below M1).size);have a0:=T.call [_,_,_,_,_,_,_,_] U;obtain⟨c6,ar⟩:=WI bd.1.1;rw [x6.o]at ar;have ae:=zA bd;have h4:d.cell? ⟨X,4,none⟩=some (.slice A4 n c4):=(by rw [<-ad.o];exact U.cell M0 4)
  have h0:d.cell? ⟨X,0,none⟩=some (.slice A1 n n):=(by rw [<-ad.o];exact U.cell M0 0);have ak:zL d (·<d.heap.size) A4 n c4 (aR K (Zz K items) K.length):=(by rw [<-ad.o];exact U.ls M4);have cr:zL d (·<d.heap.size) A1 n n K:=(by rw [<-ad.o];exact U.ls M1)
  have HC:=zA (fun(W:O) (C:Below d.heap.size d W)=>show W.cell? ⟨H,0,none⟩=some (.slice A n c)from(C.cell (a0.blkOf M8).lt).trans (a0.cell M8 0));have HT:=zA (fun(W:O) (C:Below d.heap.size d W) (f:Nat) (hf:f<n)=>sA (w:=W) ((C.cell (ye h4)).trans h4) (ak.on C) hf)
  have HP:=zA (fun(W:O) (C:Below d.heap.size d W) (f o:Nat) (z:Zj) (p:aW) (hf:(aR K (Zz K items) K.length)[f]? =some z) (ho:z.2.1[o]? =some p)=>sB (w:=W) ((C.cell (ye h4)).trans h4) (ak.on C) hf ho)
  have HN:=zA (fun(W:O) (C:Below d.heap.size d W) (f k:Nat) (fd:Field) (z:Zj) (ts:List aB) (ls:List (List PostD)) (ps:List PostD) (nm text:aB) (hN:Zx K nm=some f) (dr:K[f]? =some fd) (cu:fd.kind=2) (hz:(aR K (Zz K items) K.length)[f]? =some z) (d5:z.1=aT ts ls) (ea:z.2.1=ls.map Xo) (ht:xQ ts=true) (dm:(allL ls).length<=16777216) (hx:ts[k]? =some text) (xb:ls[k]? =some ps) (G:xk ps=true)=>
   t7 (w:=W) ((C.cell (ye h0)).trans h0) (cr.on C) ((C.cell (ye h4)).trans h4) (ak.on C) hN dr cu hz d5 ea ht dm hx xb G)
  have xs:=zA (HF.o d hb);have Y:=zA hb;have a4:=zA c6;have bo:Hid (∀x∈items,∀e∈x.2,∀z∈e.numbers,In64 z):=dY Hi.o;clear T U a0 HB hb c6 bd HF h4 h0 ak cr;go_upto_region 2 with fail;go_wp2_with fail;refine xs.o.mono ?_;rintro e w2 ⟨fb,rfl,hd⟩;have M:Hid (Below d.heap.size d w2):=(by obtain⟨j,rfl⟩:=hd;exact zd (zE _ _) j)
  have xi:=zA (ax.o w2 (HV.o.on (Y.o.trans (M.o.mono Y.o.size))));clear hd xs;cases fb
  ·go_wp2_with fail;refine xi.o.mono ?_;rintro e w3 ⟨rfl,hc⟩;have x3:=zA (Y.o.trans ((M.o.trans (hc.mono M.o.size)).mono Y.o.size));clear hc;go_wp2;go_ret
   exact⟨rfl,x3.o⟩
  go_wp2_with fail;refine xi.o.mono ?_;rintro e w3 ⟨rfl,hc⟩;have x3:=zA (M.o.trans (hc.mono M.o.size));have HW:=zA (fun(W:O) (C:Below d.heap.size d W)=>Y.o.trans (C.mono Y.o.size));clear hc xi M ax Y;go_upto_region 5 with fail
  go_loopg [7] n (fun gk v7 wr=>∃f:Nat,v7= .int .i64 f/\f<=n/\gk=n - f/\Hid (Below d.heap.size d wr))
  case atStart=>exact⟨0,rfl,zJ _,rfl,x3⟩
  case round=>as_aux_lemma=>
   obtain⟨f,rfl,es,rfl,ab⟩:=hrel;have q0:=HC.o wr ab.o
   by_cases y5:f<n
   ·obtain⟨bf,of,fd,rfl,R,cb,ck⟩:=Hs.o.at_ y5
    obtain⟨_,_,_,F0,F1,_⟩:=Field.at_ ck
    obtain⟨nm,ba⟩:=eX (fd.name);obtain⟨kd,a9⟩:=eX (fd.kind);rw [ba]at F0;rw [a9]at F1;have xn:=zA (fun(W:O) (C:Below d.heap.size d W)=>show W.cell? ⟨bf,of+f*7,none⟩=some (.string nm)/\W.cell? ⟨bf,of+f*7+1,none⟩=some (.int .i64 kd)from⟨((HW.o W C).cell cb).trans F0,((HW.o W C).cell cb).trans F1⟩);have dg:=zA ba;have x5:=zA a9;have eh:(f:Int)<(n:Int):=(by omega)
    have et:IntKind.i64.wrap ((f:Int)+1)=((f+1:Nat):Int):=(by rw [zT];have:=dp;omega);clear F0 F1 ck ba a9;go_upto_region 9 with fail;clear q0
    go_loopg [8,9] m (fun gk v8 v9 wr=>∃(i pl:Nat),v9= .int .i64 i/\v8= .int .i64 pl/\i<=m/\gk=m - i/\Hid (PJ K f (yv K items) i=pl)/\pl<=262144*i/\Hid (Below d.heap.size d wr))
    case atStart=>exact⟨0,0,rfl,rfl,zJ _,rfl,rfl,zC _,ab⟩
    case round=>as_aux_lemma=>
     obtain⟨i,pl,rfl,rfl,eu,rfl,b4,e1,hl⟩:=hrel;clear ab
     by_cases y6:i<m
     ·obtain⟨bi,oi,x,rfl,Hx,cf,cn⟩:=Hi.o.at_ y6
      obtain⟨Ad,nd,cd, -,I1,cq, -⟩:=xw.at_ cn
      have aj:=RD ae.o.1 Hx.o;obtain⟨cs,y4⟩:=eX (yv K items i);rw [y4]at aj;obtain⟨-,dq, -⟩:=Wu (bo.o x (zD Hx.o)) aj;have br:=((Sp.start d).grow hl.o).drew;have ag:=br.below M0;have h3:=HW.o _ ag;have T1:=FY (some ⟨bf,of,none⟩) Ad n c nd cd K x.2 wr.drew (HV.o.on h3) (Hs.o.on h3) (cq.on h3) (Hz.o x (zD Hx.o));rw [aj]at T1;have T1:=zA T1
      have q0:=HC.o wr hl.o;have q1:wr.cell? ⟨bi,oi+i*2+1,none⟩=some (.slice Ad nd cd):=((HW.o wr hl.o).cell cf).trans I1;have ei:(i:Int)<(m:Int):=(by omega);have ev:IntKind.i64.wrap ((i:Int)+1)=((i+1:Nat):Int):=(by rw [zT];omega);have x4:=zA y4;have dd:=zA I1;clear I1 cq cn aj y4 br h3;go_upto_region 11 with fail
      go_region_held3 (fun W=>W.cell? ⟨H,0,none⟩=some (.slice (some ⟨bf,of,none⟩) n c)/\W.cell? ⟨bi,oi+i*2+1,none⟩=some (.slice Ad nd cd)) (first|(with_reducible exact⟨by assumption,by assumption⟩)|trivial|fail) (first
       |(go_at_call 9;refine T1.o.mono ?_;rintro e w4 ⟨Ae,ne,ce,rfl,x1⟩;have hn:Below d.heap.size d w4:=ag.trans ((x1.below M1).mono ag.size);have k0:=HC.o w4 hn;have k1:w4.cell? ⟨bi,oi+i*2+1,none⟩=some (.slice Ad nd cd):=((HW.o w4 hn).cell cf).trans dd.o)
       |fail)
      have y0:=HW.o _ hn;have ch:=(x1.ls M0).length;have T2:=zA (RW (i:=f) (HV.o.on y0).tabs (Hs.o.on y0) (x1.ls M0) a4.o R.o (by omega));have q0:=HC.o w4 hn;clear T1 ag y0 k0 k1 q1;go_wp2_with fail;refine T2.o.mono ?_;rintro e w5 ⟨At,nt,ct,rfl,bb,em,az⟩;have b8:Below d.heap.size d w5:=hn.trans ((az.below M1).mono hn.size);have h7:=zA (x1.c1 az)
      have ha:=zA b8;obtain⟨toks,bh⟩:=eX (tokP K f cs);rw [bh]at bb h7;have b6:=zA bh;have b3:=zA bb;have eo:=zA ch;have dv:ne<=64:=(by omega);have e2:IntKind.i64.wrap ((pl:Int)+(nt:Int))=((pl+nt:Nat):Int):=(by rw [zT];omega);clear x1 az hn b8 T2 q0 bh bb ch;go_upto_region 15 with fail
      go_loopg [13] nt (fun gk eb wr=>∃k:Nat,eb= .int .i64 k/\k<=nt/\gk=nt - k/\Hid (Below w5.heap.size w5 wr))
      case atStart=>exact⟨0,rfl,zJ _,rfl,zE _ _⟩
      case round=>as_aux_lemma=>
       obtain⟨k,rfl,hk,rfl,l⟩:=hrel
       by_cases cu:k<nt
       ·obtain⟨tg,rfl, -, -⟩:=(h7.o.rowOf M0).at_ (by omega)
        have de:=h7.o.grow l.o;obtain⟨u,hu⟩:∃u,toks[k]? =some u:=⟨_,zB (by have:=b3.o;omega)⟩;have an:u∈tokP K f (yv K items i):=(by rw [x4.o,b6.o];exact zD hu);have h8:fd.kind=1:=Decidable.byContradiction fun h=>by rw [PW _ R.o h]at an;cases an
        obtain⟨o,j,ps,y,t1,t2,t3,t4,t5⟩:=R6 R.o h8 (by rw [x6.o];exact y6) an;obtain⟨z,z1,z2,z3,z4,z5,z6⟩:=PM ae.o R.o (.inl h8);have y8:=z5 ps (zD t2);have au:y.pos.length<=1048576:=(by have:=((QN y8).1 y (zD t3)).2.2.1;omega);obtain⟨tx,hw⟩:=eX (u.text);obtain⟨tp,bj⟩:=eX (u.pos);rw [hw]at t1;rw [bj]at t5
        have ap:Below d.heap.size d wr:=ha.o.trans (l.o.mono ha.o.size);have h1:Below d.heap.size d wr.drew:=((Sp.start d).grow ap).drew.below M0
        have aa:=zA (fun(W:O) (C:Below w5.heap.size w5 W)=>show W.cell? ⟨tg,k*4,none⟩=some (.string tx)/\W.cell? ⟨tg,k*4+1,none⟩=some (.int .i64 tp)from by
         rw [<-hw,<-bj];exact⟨(h7.o.grow C).rowCell M0 (Va (k:=0) hu rfl (by decide)),(h7.o.grow C).rowCell M0 (KQ hu)⟩)
        have b:Below w5.heap.size w5 wr.drew:=((Sp.start w5).grow l.o).drew.below M0;have T1:=zA (HT.o wr.drew h1 f y5);have q0:=(aa.o wr l.o).1;have Z1:=zA z1;have Z2:=zA z2;have Z3:=zA (show z.2.1[o]? =some (Xo ps) by rw [z3,zH,t2];rfl);have Z4:=zA z4;have Z6:=zA z6;have R1:=zA t1;have R3:=zA t3;have R4:=zA t4;have R5:=zA t5;have Rp:=zA y8;have Rl:=zA au
        have dt:(k:Int)<(nt:Int):=(by omega);have du:IntKind.i64.wrap ((k:Int)+1)=((k+1:Nat):Int):=(by rw [zT];omega);clear de hu an h8 z1 z2 z3 z4 z5 z6 t1 t2 t3 t4 t5 y8 au hw bj ap;go_upto_region 17 with fail
        go_region_held3 (fun W=>W.cell? ⟨tg,k*4,none⟩=some (.string tx)) (first|with_reducible assumption|trivial|fail) (first
         |(go_at_call 11;refine T1.o.mono ?_;rintro e J ⟨v,z',hg,rfl,G,t⟩;rw [Z1.o]at hg;cases hg;rw [Z2.o]at G;obtain⟨D,rfl⟩:=dE G;have k1:=(aa.o J (b.trans (t.mono b.size))).1;have T3:=zA (nR (k:=o) ((Sp.start wr.drew).grow t) (pG M0 G) Z4.o (Qp _ _) (fY Z6.o) R1.o);clear G)
         |(go_at_call 12;refine T3.o.mono ?_;rintro e w7 ⟨rfl,hj⟩;have k2:=(aa.o w7 (b.trans ((hj.below M0).mono b.size))).1)
         |fail)
        have a6:=hj.below M0;have y1:=b.trans (a6.mono b.size);have T4:=zA (HP.o w7 (h1.trans (a6.mono h1.size)) f o z (Xo ps) Z1.o Z3.o);clear hj T3 T1 k1 k2 q0 t a6 h1 b;go_wp2_with fail;refine T4.o.mono ?_;rintro e w8 ⟨v,rfl,G,y3⟩;obtain⟨E,rfl⟩:=dE G;have Hd:=zA (show bQ [OldA w7.heap.size w7] E ps from o0 M0 G)
        have T5:=zA (nK (D:=E) ((Sp.start w7).grow y3));clear G y3 T4;go_wp2_with fail;refine T5.o.mono ?_;rintro e w9 ⟨I,rfl,x2⟩;have T6:=zA (PZ x2 Hd.o Rp.o R3.o R4.o);have d4:=R4.o;clear x2 T5
        go_wp2_with (first
         |(go_at_call 15;refine T6.o.mono ?_;rintro e bm ⟨vp,rfl,S⟩;have T7:=zA (pF (o:=j+1) S (by omega) (show ps[j+1 - 1]? =some y from R3.o)))
         |(go_at_call 16;refine T7.o.mono ?_;rintro e bn ⟨rfl,he⟩;have F:=(show Sp bn _ from(by obtain⟨n0,rfl⟩:=he;exact S.drewN n0));have T8:=zA (K4 (o:=j+1) F (by omega) (show ps[j+1 - 1]? =some y from R3.o) Rl.o);clear he)
         |(go_at_call 17;refine T8.o.mono ?_;rintro e db ⟨Ap,np,cp,rfl,h9,Z⟩)
         |fail)
        have x8:=F.below M2;have ao:=zA (y1.trans ((x8.trans ((Z.below M1).mono x8.size)).mono y1.size));have b5:=zA Z;have hm:=zA h9;have el:np<=1048576:=(by rw [<-h9];exact Rl.o);clear S F Z T6 T7 T8 x8 y1 h9 d4;go_upto_region 24 with fail
        go_loopg [18,19] np (fun gk ec ed wr=>∃(a:Bool) (q:Nat),ec= .bool a/\ed= .int .i64 q/\q<=np/\gk=np - q/\Hid (a=true↔tp∈y.pos.take q)/\Hid (Below db.heap.size db wr))
        case atStart=>exact⟨false,0,rfl,rfl,zJ _,rfl,(show _↔_ from⟨fun h=>(by cases h),fun h=>(by simp at h)⟩),zE _ _⟩
        case round=>as_aux_lemma=>
         obtain⟨a,r,rfl,rfl,dx,rfl,Ha,Q⟩:=hrel;have b:=ao.o.trans (Q.o.mono ao.o.size)
         by_cases c0:r<np
         ·obtain⟨pg,rfl, -, -⟩:=(b5.o.rowOf M0).at_ (by omega)
          obtain⟨pv,hv⟩:∃x,y.pos[r]? =some x:=⟨_,zB (by have:=hm.o;omega)⟩;have q1:wr.cell? ⟨pg,r,none⟩=some (.int .i64 pv):=(b5.o.grow Q.o).rowCell M0 (PR hv);have q2:=(aa.o wr b).2;obtain⟨bq,ah⟩:=eX ((pv==tp));have a1:=zA (PV Ha.o hv bq ah);have dw:(r:Int)<(np:Int):=(by omega);have dy:IntKind.i64.wrap ((r:Int)+1)=((r+1:Nat):Int):=(by rw [zT];omega)
          clear b hv Ha;cases a
          all_goals
           go_upto_region 26 with fail
           go_quiet (fail)
           have bu:=zA (zd Q.o nq);obtain⟨we,c9⟩:=eX (wr.drewN nq);rw [c9]at bu⊢;clear c9 q1 q2 ah;go_wp2
           go_roundg (np - (r+1))
           ·exact⟨_,r+1,rfl,by go_num,by omega,rfl,a1.o,bu.o⟩
           ·omega
         ·obtain rfl:r=np:=by omega
          obtain rfl:a=true:=Ha.o.2 (by rw [zF (by rw [hm.o];exact zC _)];exact R5.o);have bt:=zA b;clear b;go_wp2
          go_roundg (nt - (k+1))
          ·exact⟨k+1,by go_num,by omega,rfl,bt.o⟩
          ·omega
       ·obtain rfl:k=nt:=by omega
        go_upto_region 30 with fail
        go_loopg [20] ne (fun gk ee wr=>∃k2:Nat,ee= .int .i64 k2/\k2<=ne/\gk=ne - k2/\Hid (Below w5.heap.size w5 wr))
        case atStart=>exact⟨0,rfl,zJ _,rfl,l⟩
        case round=>as_aux_lemma=>
         obtain⟨k2,rfl,ej,rfl,Q⟩:=hrel;clear l
         by_cases ds:k2<ne
         ·obtain⟨bc,oc,cl,rfl,bx,ca,cj⟩:=(h7.o.ls M1).at_ ds
          obtain⟨_,_,_,E0,E1,_⟩:=yZ.at_ cj
          have E0:wr.cell? _=_:=(Q.o.cell ca).trans E0;have h2:=ha.o.trans (Q.o.mono ha.o.size);have q0:=HC.o wr h2;obtain⟨F0,F1⟩:=xn.o wr h2;obtain⟨ci,a7⟩:=eX (cl.1);obtain⟨tx,hw⟩:=eX (cl.2.1);rw [a7]at E0;rw [hw]at E1;have HE:=zA (fun(W:O) (C:Below w5.heap.size w5 W)=>show W.cell? ⟨bc,oc+k2*3+1,none⟩=some (.string tx)from(C.cell ca).trans E1)
          have E1:=HE.o wr Q.o;obtain⟨b1,af⟩:=eX ((ci==(f:Int)));obtain⟨b2,dn⟩:=eX ((kd==2));have dt:(k2:Int)<(ne:Int):=(by omega);have du:IntKind.i64.wrap ((k2:Int)+1)=((k2+1:Nat):Int):=(by rw [zT];omega);have df:=zA a7;have dk:=zA hw;clear cj a7 hw
          by_cases ys:b1=true/\b2=true
          ·obtain⟨rfl,rfl⟩:=ys;have cg:ci=(f:Int):=(by simpa using af);have h5:kd=2:=(by simpa using dn);obtain⟨o,ps,t1,t2,t3⟩:=RK (c:=cl) R.o (x5.o.trans h5) (by rw [x6.o];exact y6) (by rw [x4.o];exact zD bx.o) (df.o.trans cg);obtain⟨z,z1,z2,z3,z4,z5,z6⟩:=PM ae.o R.o (.inr (x5.o.trans h5));rw [dk.o]at t1
           have aq:Below d.heap.size d wr.drew:=((Sp.start d).grow h2).drew.below M0;have b:Below w5.heap.size w5 wr.drew:=((Sp.start w5).grow Q.o).drew.below M0;have T1:=zA (HN.o wr.drew aq f o fd z _ _ ps nm tx (by rw [<-dg.o];exact RV a4.o R.o) R.o (x5.o.trans h5) z1 z2 z3 z4 z6 t1 t2 (z5 ps (zD t2)));have R3:=zA t3
           have en:ps.length<=16384:=(QN (z5 ps (zD t2))).2.2;clear z1 z2 z3 z4 z5 z6 t1 t2 t3 aq cg h5 h2;go_upto_region 33 with fail;clear F1 E0
           go_region_held3 (fun W=>W.cell? ⟨H,0,none⟩=some (.slice (some ⟨bf,of,none⟩) n c)/\W.cell? ⟨bf,of+f*7,none⟩=some (.string nm)/\W.cell? ⟨bc,oc+k2*3+1,none⟩=some (.string tx)) (first|(with_reducible exact⟨by assumption,by assumption,by assumption⟩)|trivial|fail) (first
            |(go_at_call 18;refine T1.o.mono ?_;rintro e J ⟨A',mm,rfl,cx,hj⟩;have t:=b.trans ((hj.below M1).mono b.size);have y2:=ha.o.trans (t.mono ha.o.size);have k0:=HC.o J y2;have k1:=(xn.o J y2).1;have k3:=HE.o J t)
            |fail)
           have P:=zA t;have bz:=zA hj;have b0:=zA cx;have ek:mm<=16384:=(by omega);clear hj cx b T1 q0 F0 E1 k0 k1 k3 t y2;go_upto_region 36 with fail
           go_loopg [22,23] mm (fun gk ef eg wr=>∃(a:Bool) (q:Nat),ef= .bool a/\eg= .int .i64 q/\q<=mm/\gk=mm - q/\Hid (a=true↔(i:Int)∈(bH ps).take q)/\Hid (Below J.heap.size J wr))
           case atStart=>exact⟨false,0,rfl,rfl,zJ _,rfl,(show _↔_ from⟨fun h=>(by cases h),fun h=>(by simp at h)⟩),zE _ _⟩
           case round=>as_aux_lemma=>
            obtain⟨a,r,rfl,rfl,dx,rfl,Ha,a2⟩:=hrel
            by_cases c0:r<mm
            ·obtain⟨pg,rfl, -, -⟩:=(bz.o.rowOf M0).at_ (by omega)
             obtain⟨pv,hv⟩:∃x,(bH ps)[r]? =some x:=⟨_,zB (by rw [zK];have:=b0.o;omega)⟩;have q1:wr.cell? ⟨pg,r,none⟩=some (.int .i64 pv):=(bz.o.grow a2.o).rowCell M0 (PR hv);obtain⟨bq,ah⟩:=eX ((pv==(i:Int)));have a1:=zA (PV Ha.o hv bq ah);have dw:(r:Int)<(mm:Int):=(by omega);have dy:IntKind.i64.wrap ((r:Int)+1)=((r+1:Nat):Int):=(by rw [zT];omega);clear hv Ha
             cases a
             all_goals
              go_wp2
              go_roundg (mm - (r+1))
              ·exact⟨_,r+1,rfl,by go_num,by omega,rfl,a1.o,a2⟩
              ·omega
            ·obtain rfl:r=mm:=by omega
             obtain rfl:a=true:=Ha.o.2 (by rw [zF (by rw [zK,b0.o];exact zC _)];exact R3.o);go_wp2
             go_roundg (ne - (k2+1))
             ·exact⟨k2+1,by go_num,by omega,rfl,P.o.trans (a2.o.mono P.o.size)⟩
             ·omega
          ·cases b1<;>cases b2
           all_goals first
            |exact absurd ⟨rfl,rfl⟩ ys
            |(clear ys
              go_wp2
              go_roundg (ne - (k2+1))
              case rel=>exact⟨k2+1,by go_num,by omega,rfl,Q⟩
              case measure=>omega)
         ·obtain rfl:k2=ne:=by omega
          have bw:=zA (ha.o.trans (Q.o.mono ha.o.size));go_wp2
          go_roundg (m - (i+1))
          ·exact⟨i+1,pl+k,by go_num,rfl,by omega,rfl,(show _=_ by unfold PJ;rw [b4.o,x4.o,b6.o,b3.o]),by omega,bw⟩
          ·omega
     ·obtain rfl:i=m:=by omega
      go_upto_region 42 with fail
      by_cases h8:kd=1
      ·subst h8;obtain⟨z,z1,z2,z3,z4,z5,z6⟩:=PM ae.o R.o (.inl x5.o);obtain⟨ts,am⟩:=eX (Zl (tdF K items f));obtain⟨ls,y7⟩:=eX (Y2 (tdF K items f));have al:ts.length=ls.length:=(by rw [<-am,<-y7];unfold Y2;rw [zK])
       have aw:((ls.drop 0).map lenP).sum=pl:=by
        rw [<-y7,<-RQ a4.o (by rw [x6.o];exact ar) bo.o R.o x5.o,x6.o];exact b4.o
       rw [am,y7]at z2;rw [y7]at z3 z5;have Z1:=zA z1;have Z2:=zA z2;have Z3:=zA z3;have Z5:=zA z5;obtain⟨N,hN⟩:=eX (ls.length);rw [hN]at al;have b7:=zA al;have bp:=zA hN
       have ep:N<=1048576:=by
        rw [<-al,<-am];unfold xQ at z4;simp only [zM,decide_eq_true_eq]at z4;exact z4.1
       clear z1 z2 z3 z4 z5 z6 am y7 al hN;have cz:pl<=4294967296:=by omega
       go_loopg [8,24] N (fun gk v8 bk wr=>∃o s:Nat,bk= .int .i64 o/\v8= .int .i64 s/\o<=N/\gk=N - o/\Hid (((ls.drop o).map lenP).sum=s)/\s<=4294967296/\Hid (Below d.heap.size d wr))
       case atStart=>exact⟨0,pl,rfl,rfl,zJ _,rfl,aw,cz,hl⟩
       case round=>as_aux_lemma=>
        obtain⟨o,s,rfl,rfl,ey,rfl,hy,d0,l⟩:=hrel;clear hl aw;have q0:=HC.o wr l.o;obtain⟨-,F1⟩:=xn.o wr l.o;have T1:=zA (HT.o wr l.o f y5)
        by_cases cy:o<N
        ·have ez:(o:Int)<(N:Int):=(by omega);have e0:IntKind.i64.wrap ((o:Int)+1)=((o+1:Nat):Int):=(by rw [zT];omega);obtain⟨ps,xb⟩:∃x,ls[o]? =some x:=⟨_,zB (by rw [bp.o];exact cy)⟩;have y8:=zA (Z5.o ps (zD xb));have h6:=hy.o;rw [RY xb]at h6;obtain⟨s2,be⟩:=eX (((ls.drop (o+1)).map lenP).sum);rw [be]at h6;have dh:=zA be
         have dl:=zA (show z.2.1[o]? =some (Xo ps) by rw [Z3.o,zH,xb];rfl);have d3:s2<=s:=(by omega);have a5:=zA h6;clear xb be hy h6;go_wp2_with fail;refine T1.o.mono ?_;rintro e J ⟨v,z',hg,rfl,G,t⟩;rw [Z1.o]at hg;cases hg;rw [Z2.o]at G;obtain⟨D,rfl⟩:=dE G;obtain⟨_,_,_,_,_,_,_,_,d2,_,_⟩:=YQ G;rw [b7.o]at d2
         have T2:=zA (WZ (w:=J) ((t.cell (ye d2)).trans d2));have P:=zA (l.o.trans (t.mono l.o.size));have T3:=zA (HP.o J P.o f o z (Xo ps) Z1.o dl.o);clear G d2 t q0 F1 T1;go_wp2_with fail;refine T2.o.mono ?_;rintro e w7 ⟨rfl,rfl⟩;clear T2;go_wp2_with fail;refine T3.o.mono ?_;rintro e w8 ⟨v,rfl,G,y3⟩;obtain⟨E,rfl⟩:=dE G
         have Hd:=zA (show bQ [OldA J.heap.size J] E ps from o0 M0 G);have T5:=zA (nK (D:=E) ((Sp.start J).grow y3));clear G y3 T3;go_wp2_with fail;refine T5.o.mono ?_;rintro e w9 ⟨I,rfl,x2⟩;have S:Sp w9 (ItA I E (.slice none 0 0) ps 0++ [OldA J.heap.size J]):=(((x2.elsNil (α:=PostD)).nil 116 2).els (α:=PostD) (css:= [])).p1;obtain⟨np,h9⟩:=eX (ps.length);have hm:=zA h9
         have dj:Hid (lenP (ps.drop 0)+s2=s):=a5.o;clear x2 T5 h9;go_upto_region 45 with fail
         go_loopg [8] (np+1) (fun gk v8 wr=>∃(x s3:Nat) (vp:V),v8= .int .i64 s3/\x<=np/\gk=np+1 - x/\Hid (lenP (ps.drop x)+s2=s3)/\s3<=4294967296/\Sp wr (ItA I E vp ps x++ [OldA J.heap.size J]))
         case atStart=>exact⟨0,s,.slice none 0 0,rfl,zJ _,rfl,dj,d0,S⟩
         case round=>as_aux_lemma=>
          obtain⟨x,s3,vp,rfl,hx,rfl,a3,av,HS⟩:=hrel;clear S;have hh:=lD HS Hd.o y8.o (by rw [hm.o];exact hx);rw [hm.o]at hh
          by_cases da:x<np
          ·rw [decide_eq_true da]at hh;have ay:=zA hh;obtain⟨p,hp⟩:∃p,ps[x]? =some p:=⟨_,zB (by rw [hm.o];exact da)⟩;obtain⟨fr,a8⟩:=eX (p.pos.length);obtain⟨s5,bg⟩:=eX (lenP (ps.drop (x+1))+s2);have c7:fr+s5=s3:=RN hp a8 bg a3.o;obtain⟨e3,c5⟩:=RX c7 av;have dc:=zA (RJ (I:=I) (D:=E) (L:= [OldA J.heap.size J]) hp a8);have di:=zA bg
           clear hh HS hp c7 a8 bg a3
           go_wp2_with (first
            |(go_at_call 20;refine ay.o.mono ?_;rintro e bm ⟨bl,rfl,F⟩;have T7:=zA (dc.o bm bl F))
            |(go_at_call 21;refine T7.o.mono ?_;rintro e bn ⟨rfl,he⟩;have Z:=(show Sp bn _ from(by obtain⟨n0,rfl⟩:=he;exact F.drewN n0));clear he)
            |fail)
           go_roundg (np+1 - (x+1))
           ·exact⟨x+1,s5,bl,by go_num,by omega,rfl,di,c5,Z⟩
           ·omega
          ·obtain rfl:x=np:=by omega
           rw [decide_eq_false (Nat.lt_irrefl _)]at hh;have ay:=zA hh
           have d1:s2=s3:=by
            have h:=a3.o;rw [zQ (by rw [hm.o];exact zC _)]at h
            simpa [lenP]using h
           subst d1;clear hh HS
           go_wp2_with (first
            |(go_at_call 20;refine ay.o.mono ?_;rintro e bm ⟨bl,rfl,F⟩;have bs:=zA (P.o.trans ((F.below M2).mono P.o.size)))
            |fail)
           go_roundg (N - (o+1))
           ·exact⟨o+1,s2,by go_num,rfl,by omega,rfl,dh,av,bs⟩
           ·omega
        ·obtain rfl:o=N:=by omega
         have dz:s=0:=by
          have h:=hy.o;rw [zQ (by rw [bp.o];exact zC _)]at h
          simpa using h.symm
         subst dz;clear hy;have q9:∀W:O,Below d.heap.size d W->W.cell? ⟨H,0,none⟩=some (.slice (some ⟨bf,of,none⟩) n c)/\W.cell? ⟨bf,of+f*7+1,none⟩=some (.int .i64 1):=fun W C=>⟨HC.o W C,(xn.o W C).2⟩;have Q9:=zA q9;clear q9;go_wp2_with fail;refine T1.o.mono ?_;rintro e J ⟨v,z',hg,rfl,G,t⟩;rw [Z1.o]at hg;cases hg;rw [Z2.o]at G;obtain⟨D,rfl⟩:=dE G
         obtain⟨_,_,_,_,_,_,_,_,d2,_,_⟩:=YQ G;rw [b7.o]at d2;have T2:=zA (WZ (w:=J) ((t.cell (ye d2)).trans d2));have P:=zA (l.o.trans (t.mono l.o.size));have q2:=(Q9.o J P.o).1;have q3:=(Q9.o J P.o).2;clear G d2 t q0 F1 T1;go_wp2_with fail;refine T2.o.mono ?_;rintro e w7 ⟨rfl,rfl⟩;clear T2;go_wp2
         go_roundg (n - (f+1))
         ·exact⟨f+1,by go_num,by omega,rfl,P⟩
         ·omega
      ·have ew:(kd==1)=false:=by simpa using h8
       go_loopg [8,24] 0 (fun gk v8 bk wr=>bk= .int .i64 0/\v8= .int .i64 pl/\gk=0/\Hid (Below d.heap.size d wr))
       case atStart=>exact⟨rfl,rfl,rfl,hl⟩
       case round=>as_aux_lemma=>
        obtain⟨rfl,rfl,rfl,l⟩:=hrel;clear hl;have q0:=HC.o wr l.o;obtain⟨-,F1⟩:=xn.o wr l.o;go_wp2
        go_roundg (n - (f+1))
        ·exact⟨f+1,by go_num,by omega,rfl,l⟩
        ·omega
   ·obtain rfl:f=n:=by omega
    have bv:=zA (HW.o wr ab.o);go_wp2;go_ret
    exact⟨rfl,bv.o⟩
theorem NG:dG fsG itG:=⟨NI,by rw [fT];exact MU,by rw [fT];exact NU⟩
theorem LB {w:O} (u:Vs w):Calls prog 35 #[] w fun e w' =>∃(X g q:Nat) (c d f h i:aA) (c2 k l m j:Nat) (As:List aA),e= .returned (.pointer (some ⟨X,0,none⟩))/\
 Sp w' (OP X 2 q 1 g c d f h i c2 k l m j As fsG (O5 itG) (bL itG) invG (bG fsG itG)++ [OldA w.heap.size w]):=by
 have D:=zA u;clear u;go_enter func35,ntmps35;go_wp2_with fail;refine(ES _).mono ?_;rintro e C ⟨A,rfl,hF,r⟩;obtain⟨W,v⟩:=eX ((C.alloc (.cells #[.string ⟨#[116]⟩,.string ⟨#[66,32,97]⟩,.slice none 0 0,.string ⟨#[107]⟩,.string ⟨#[120]⟩,.slice none 0 0] 86)).alloc (.cells #[.int .u64 5,.slice (some ⟨C.heap.size,0,none⟩) 2 2] 40));obtain⟨z,b⟩:=JI v;have a:=r.trans (b.mono r.size)
 have t:=zA (jA (D.o.on a) (hF.on b) z (fun x B e y=>by
  simp only [itG,List.mem_singleton]at B;subst B;simp only [O2,yx,xZ,or_false]at y;rcases y with rfl|rfl<;>exact⟨by decide,by decide⟩))
 have p:=zA a;clear hF z b r a;go_wp2_with fail;refine t.o.mono ?_;unfold fZ;rintro e F (⟨G,E,s,rfl,a⟩|⟨X,g,q,c,d,f,h,i,c2,k,l,m,j,As,rfl, -, -, -,n⟩)
 ·exact absurd NG s
 ·have o:Hid (Sp F (OP X 2 q 1 g c d f h i c2 k l m j As fsG (O5 itG) (bL itG) invG (bG fsG itG)++ [OldA w.heap.size w])):=by
   rw [fT]at n;exact((Sp.start w).grow p.o).call _ n
  clear n t v;go_wp2;go_ret
  exact⟨X,g,q,c,d,f,h,i,c2,k,l,m,j,As,rfl,o.o⟩
theorem O0:(aR fsG invG 2)[0]? =some (aT [⟨#[97]⟩,⟨#[98]⟩] [[⟨0, [1]⟩], [⟨0, [0]⟩]], [Xo [⟨0, [1]⟩],Xo [⟨0, [0]⟩]], [2],⟨⟩,⟨⟩,⟨⟩):=rfl
theorem O8:(aR fsG invG 2)[1]? =some (aT [⟨#[120]⟩] [[⟨0, [0]⟩]], [Xo [⟨0, [0]⟩]], [],⟨⟩,⟨⟩,⟨⟩):=rfl
theorem lJ {w W:O} {L:List Asn} {v:Int} {R:Nat} (a:w.heap.size=R) (b:w.alloc (.cells #[.int .i64 v] 3)=W):xA W (R+1) 1 (some ⟨R,0,none⟩) 1 (ints [v]):=by
 subst b;exact Ye w #[.int .i64 v] 3 rfl a
theorem GH {w:O} (hV:Vs w):Calls prog 8 #[] w fun e w' =>e= .returned (.bool true)/\Below w.heap.size w w' :=by
 have HO:=zA (LB hV);clear hV;go_enter func8,ntmps8;go_wp2_with fail;refine HO.o.mono ?_;rintro e p ⟨X,g,q,A1,A2,A3,A4,Ac,c2,c3,c4,cc,Tb,As,rfl,n⟩;unfold OP at n;simp only [yI,zZ]at n;have ha:=zA (n.below M8);have h0:=n.cl M0 0;have h2:=n.cl M0 2;have x:=n.cl M0 4;have hg:=n.ls M1;have l:=n.ls M4;have HT:=zA (sA (f:=0) x l (by omega))
 have HP:=zA (fun(W:O) (a:Below p.heap.size p W)=>sB (o:=0) (w:=W) ((a.cell (ye x)).trans x) (l.on a) O0 rfl);have HL:=zA (fun(W:O) (a:Below p.heap.size p W)=>wD (w:=W) ((a.cell (ye h2)).trans h2));have HN:=zA (fun(W:O) (a:Below p.heap.size p W)=>rI (i:=0) (w:=W) ((a.cell (ye x)).trans x) (l.on a) O0 rfl)
 have HF:=zA (fun(W:O) (a:Below p.heap.size p W)=>t7 (w:=W) (name:=⟨#[107]⟩) (f:=1) (k:=0) ((a.cell (ye h0)).trans h0) (hg.on a) ((a.cell (ye x)).trans x) (l.on a) (by decide) rfl rfl O8 rfl rfl (by decide+kernel) (by decide+kernel) rfl rfl (by decide+kernel));clear n HO h0 h2 x hg l;go_wp2_with fail;refine HT.o.mono ?_;rintro e w2 ⟨v,z,hz,rfl,G,hb⟩;rw [O0]at hz;cases hz
 obtain⟨D,rfl⟩:=dE G;have M:=zA (nR (k:=0) (s:=⟨#[97]⟩) ((Sp.start p).grow hb) (pG M0 G) (by decide+kernel) (Qp _ _) (fY (by decide+kernel)) rfl);clear G hb HT;go_wp2_with fail;refine M.o.mono ?_;rintro e b ⟨rfl,S⟩;have F:=zA (S.below M0);have Q:=zA (HP.o b F.o);clear M S HP;go_wp2_with fail;refine Q.o.mono ?_;rintro e w4 ⟨v,rfl,G,hd⟩;obtain⟨E,rfl⟩:=dE G
 have Hd:=zA (show bQ [OldA b.heap.size b] E [⟨0, [1]⟩]from o0 M0 G);have HI:=zA (nK (D:=E) ((Sp.start b).grow hd));clear G hd Q;go_wp2_with fail;refine HI.o.mono ?_;rintro e w5 ⟨I,rfl,T⟩;have C:Sp w5 (ItA I E (.slice none 0 0) [⟨0, [1]⟩] 0++ [OldA b.heap.size b]):=(((T.elsNil (α:=PostD)).nil 116 2).els (α:=PostD) (css:= [])).p1
 have HB:=zA (fun(W:O) (a:Below b.heap.size b W)=>F.o.trans (a.mono F.o.size));have ht:=zA (HL.o w5 (HB.o w5 (C.below M2)));have hv:=zA (show Calls prog 20 #[.pointer (some ⟨I,0,none⟩)] w5 fun e w' =>∃H,e= .returned (.bool true)/\Sp w' (ItA I E H [⟨0, [1]⟩] 1++ [OldA b.heap.size b])from lD C Hd.o (by decide+kernel) (by decide));clear T C HI HL
 go_wp2_with (first
  |(go_at_call 26;refine ht.o.mono ?_;rintro e w' ⟨rfl,rfl⟩)
  |(go_at_call 20;refine hv.o.mono ?_;rintro e w6 ⟨H,rfl,U⟩;have hp:=zA (pF (o:=1) U (by omega) (show([⟨0, [1]⟩]:List PostD)[1 - 1]? =some ⟨0, [1]⟩from rfl)))
  |(go_at_call 16;refine hp.o.mono ?_;rintro e w7 ⟨rfl,hf⟩;have Y:=(show Sp w7 (ItA I E H [⟨0, [1]⟩] 1++ [OldA b.heap.size b])from(by obtain⟨n0,rfl⟩:=hf;exact U.drewN n0));have hw:=zA (K4 (o:=1) Y (by omega) (show([⟨0, [1]⟩]:List PostD)[1 - 1]? =some ⟨0, [1]⟩from rfl) (by decide));clear hf)
  |(go_at_call 17;refine hw.o.mono ?_;rintro e w8 ⟨A',n',c',rfl,hh,Z⟩;have h1:=(show n' =1 from hh.symm);subst h1;obtain⟨R,hR⟩:=eX (w8.heap.size);obtain⟨K,hi⟩:=eX (w8.alloc (.cells #[.int .i64 1] 3));have h:=(Sp.call (Xs:= [RowA 3 1 (.slice A' 1 c') 1 (ints [1])]) Y Z).al (.cells #[.int .i64 1] 3);rw [hi]at h;have hj:=(show xA K K.heap.size 1 A' 1 (ints [1])from zt.reads (c:=c') (h.rowOf M0));have N:=zA (show Calls prog 36 #[.slice A' 1 c',.slice (some ⟨R,0,none⟩) 1 1] K fun e w' =>e= .returned (.bool true)/\xG K w' from nL A' (some ⟨R,0,none⟩) 1 1 c' 1 [1] [1] K.heap.size (R+1) K (by decide) hj (lJ (v:=1) (L:= []) hR hi));clear hj;clear Z hh)
  |(go_at_call 36;refine P.o.mono ?_;rintro e ho ⟨rfl,he⟩)
  |(go_at_call 36;refine N.o.mono ?_;rintro e J ⟨rfl,A⟩;have r:=(show Sp J _ from(by obtain⟨n0,rfl⟩:=A;exact h.drewN n0));have hu:=zA (HN.o J (HB.o J (r.below M3)));clear A)
  |(go_at_call 37;refine hu.o.mono ?_;rintro e hl ⟨rfl,y⟩;have t:=r.grow y;have hs:=zA (HF.o hl (HB.o hl (t.below M3)));clear y)
  |(go_at_call 18;refine hs.o.mono ?_;rintro e hn ⟨A5,m,rfl,hm,u⟩;have hy:=(show m=1 from hm.symm);subst hy;obtain⟨R2,hx⟩:=eX (hn.heap.size);obtain⟨d,B⟩:=eX (hn.alloc (.cells #[.int .i64 0] 3));have j:=(Sp.call (Xs:= [NA A5 1 1 [0]]) t u).al (.cells #[.int .i64 0] 3);rw [B]at j;have hk:=(show xA d d.heap.size 1 A5 1 (ints [0])from zt.reads (c:=1) (j.rowOf M0));have P:=zA (show Calls prog 36 #[.slice A5 1 1,.slice (some ⟨R2,0,none⟩) 1 1] d fun e w' =>e= .returned (.bool true)/\xG d w' from nL A5 (some ⟨R2,0,none⟩) 1 1 1 1 [0] [0] d.heap.size (R2+1) d (by decide) hk (lJ (v:=0) (L:= []) hx B));clear hk;clear u hm)
  |fail)
 go_ret
 have hc:Below b.heap.size b ho:=by obtain⟨n0,rfl⟩:=he;exact(j.drewN n0).below M4
 exact⟨rfl,ha.o.trans ((HB.o ho hc).mono ha.o.size)⟩
end Go.Proofs.YtjbhbfaeielbiaaGreatDoor
namespace Go.Proofs.YtjbhbfaeielbiaaGreatDoor.segmentFound
open Go.Proofs.Tryz
open Rep (rep)
open Go.ChangeShapes Go.WideShapes Go.ChangeAt Go.RowKit Go.Deep
theorem NT {W:O} (a:laidMet prog Rows.segmentFoundUptoRow.laid W) (b:W.ShapedOpen prog):Vs W where
 tabs:=rH (Lib.laidMet.reads a (by unfold Rows.segmentFoundUptoRow;simp only [yx,Prod.mk.injEq,true_and,and_true,reduceCtorEq,String.reduceEq,false_and,false_or,or_true,true_or])) (Lib.laidMet.reads a (by unfold Rows.segmentFoundUptoRow;simp only [yx,Prod.mk.injEq,true_and,and_true,reduceCtorEq,String.reduceEq,false_and,false_or,or_true,true_or]))
 maxLen:=by
  obtain⟨m,h⟩:=cell_of_shapedOpen_int (g:=0) (t:=3) (zero:= #[.int .i64 0]) (k:= .i64) b (of_decide_eq_true (by kernel_rfl)) (by kernel_rfl) rfl (by kernel_rfl) (by kernel_rfl) underlying3;exact⟨m,h,ye h⟩
 esyn:=nM (n:= "strconv.ErrSyntax") (ty:=297) (Lib.laidMet.reads a (d:=Rows.laid_strconv_ErrSyntax) (by unfold Rows.segmentFoundUptoRow;simp only [yx,Prod.mk.injEq,true_and,and_true,reduceCtorEq,String.reduceEq,false_and,false_or,or_true,true_or])) (by kernel_rfl) (by kernel_rfl) (by kernel_rfl)
 erng:=nM (n:= "strconv.ErrRange") (ty:=297) (Lib.laidMet.reads a (d:=Rows.laid_strconv_ErrRange) (by unfold Rows.segmentFoundUptoRow;simp only [yx,Prod.mk.injEq,true_and,and_true,reduceCtorEq,String.reduceEq,false_and,false_or,or_true,true_or])) (by kernel_rfl) (by kernel_rfl) (by kernel_rfl)
theorem J7 (H:Type) (enc:TypeId×V->H) (W:O) (base:Nat) (args:aG) (ds gs:List (DataW H)) (before:List MemPlace)
 (a:∀(j:Nat) t v,Tryz.f3.params[j]? =some t->args[j]? =some v->Value.okWide prog W .any base t v)
 (z:DataW.Whole enc prog Tryz.f3.params.toList Rows.segmentFoundSpec.vars false W args.toList ds gs before) (P:Rows.uptoSmall H (ds++gs)=true) (L:Vs W):
 Calls prog 3 args W fun e s =>∃v,e= .returned v/\Rows.segmentFoundSpec.post enc prog Tryz.f3 false true false false W args v s :=by
 have f :=z;obtain⟨p,q,hA0,d,rfl,M,Q⟩:=z;have hA:DataW.TrodAll enc prog W 0 (fun _=>true) true Tryz.f3.params.toList args.toList ds p:=hA0;rw [Tryz.params3]at hA a;obtain⟨E,ha,G,J,U,q0,g,rfl,rfl,u,Y⟩:=trodAll_cons hA;obtain⟨F,hb,I,K,X,q1,rfl,rfl,rfl,y,Z⟩:=trodAll_cons Y;obtain⟨rfl,rfl,rfl⟩:=trodAll_nil Z;obtain rfl:args= #[E,F]:=by cases args;simp_all
 obtain⟨rfl,rfl⟩:=trodVars_none d;have C:=u;have D:=y;have o:∀x∈U,x.block<W.heap.size:=by obtain⟨m,l⟩:=C;exact DataW.trod_lt m _ _ _ l
 have r:∀x∈X,x.block<W.heap.size:=by obtain⟨m,l⟩:=D;exact DataW.trod_lt m _ _ _ l
 have i:Rows.uptoBulkAll ([G,I]++([]:List (DataW H)))<=1048576:=of_decide_eq_true P;simp only [zo,yI,zZ,Rows.uptoBulkAll]at i;obtain⟨A,n,c,fs,rfl,R⟩:=uL (a 0 24 E rfl rfl) u (by omega);obtain⟨B,m,cm,items,rfl,N,T⟩:=wU (a 1 25 F rfl rfl) y (by omega);clear hA0;refine(RG (fun w h=>GH h) L R N (fun x S e k=>by have:=T x S e k;omega)).mono fun e s ⟨k,b⟩=> ?_;subst k
 exact⟨_,rfl,_,_,_, [],_, [],f,trodAll_mk1 (shut_bool underlying4 _),(trodAll_cons_mk (Below.trod o6 (by kernel_rfl) (of_decide_eq_true (by kernel_rfl)) C b o) (trodAll_cons_mk (Below.trod o6 (by kernel_rfl) (of_decide_eq_true (by kernel_rfl)) D b r) trodAll_mk0)),rfl,b.frame _,fun h=>by cases h⟩
theorem ND (c:Os) (started:c.Started) (H:Type) (enc:TypeId×V->H) (F:Stop.Interp):
 ReturnsInHanded {} Tryz.checked c 3 .any ((Rows.OpenSpec.upto Rows.segmentFoundSpec).preRow enc prog Tryz.f3 Rows.segmentFoundUptoRow.domain false Rows.segmentFoundUptoRow.laid) (((Rows.OpenSpec.upto Rows.segmentFoundSpec).at F).post enc prog Tryz.f3 false true false false):=by
 obtain⟨yg,h⟩:=reads c enc
 refine returnsInHanded_of_row (C:=Tryz.checked) (s:=Rows.OpenSpec.upto Rows.segmentFoundSpec) PH started (by kernel_rfl) func3
  (tH (enc:=enc) (C:=Tryz.checked) false (World.laidAll prog c laid) #[.agg #[.slice none 0 0],.slice none 0 0] (World.laidAll_os _ _ _)
   (World.shaped_of_ZipB (by kernel_rfl) (by kernel_rfl)) (by kernel_rfl)
   (OpenSpec.preRow_of_cond 8 h (by kernel_rfl) (fun k g=>by cases g;kernel_rfl) (by kernel_rfl) (by rw [MakeChecks.laidMetH_plain _ _ _ (by kernel_rfl)];exact laidMet_laidAll _ (by kernel_rfl) (by kernel_rfl)))) ?_
 intro W base args ds gs before b f _ a _ d e _;rw [MakeChecks.laidMetH_plain _ _ _ (by kernel_rfl)]at d;exact J7 H enc W base args ds gs before b f (a _ rfl) (NT d e)
theorem sH:(Rows.segmentFoundUptoRow.inPlace==Tryz.pinned.checked.prog.inPlace 3)=true:=by kernel_rfl
theorem qX:(Rows.segmentFoundUptoRow.unfollowed==Tryz.pinned.checked.prog.unfollowed 3)=true:=by kernel_rfl
theorem rJ:(Rows.segmentFoundUptoRow.recurses==Tryz.pinned.checked.prog.recurses 3)=true:=by kernel_rfl
theorem wK:(Rows.segmentFoundUptoRow.named==Tryz.pinned.checked.prog.varsNamed 3)=true:=by kernel_rfl
theorem NK:joinedFacts Tryz.pinned.checked.prog 3 Tryz.f3 (Rows.OpenSpec.upto Rows.segmentFoundSpec).bare Rows.segmentFoundUptoRow=true:=by
 unfold joinedFacts;simp only [zM]
 exact⟨⟨⟨⟨⟨⟨⟨⟨⟨⟨⟨⟨⟨⟨⟨⟨⟨⟨⟨⟨⟨⟨⟨⟨⟨⟨⟨⟨⟨⟨⟨by kernel_rfl,by kernel_rfl⟩,by kernel_rfl⟩,by kernel_rfl⟩,by kernel_rfl⟩,by kernel_rfl⟩,by kernel_rfl⟩,by kernel_rfl⟩,by kernel_rfl⟩,sH⟩,qX⟩,rJ⟩,wK⟩,by kernel_rfl⟩,by kernel_rfl⟩,by kernel_rfl⟩,by kernel_rfl⟩,by kernel_rfl⟩,by kernel_rfl⟩,by kernel_rfl⟩,by kernel_rfl⟩,by kernel_rfl⟩,by kernel_rfl⟩,by kernel_rfl⟩,by kernel_rfl⟩,by kernel_rfl⟩,by kernel_rfl⟩,by kernel_rfl⟩,by kernel_rfl⟩,by kernel_rfl⟩,by kernel_rfl⟩,by kernel_rfl⟩
theorem bD:Rows.SegmentFoundUptoSaid:=
 OpenClaim.holds_of_cond 3 Tryz.f3 rfl rfl rfl rfl rfl rfl rfl ⟨rfl,rfl,rfl,rfl,rfl⟩ rfl rfl rfl rfl rfl (by kernel_rfl) func3 NK
  (of_decide_eq_true (by kernel_rfl)) (by unfold Func.isWrapper;first|(rw [if_pos (by decide+kernel)];kernel_rfl)|(rw [if_neg (by decide+kernel)];exact⟨rfl,rfl⟩))
  (fun os started H enc _ F=>by rw [OpenClaim.pre_eq_preRow];exact ND os started H enc F)
theorem P6:Rows.segmentFoundUptoRow.wfByText (Rows.OpenSpec.upto Rows.segmentFoundSpec)=true:=by kernel_rfl
theorem P9:Tryz.pinned.checked.prog.mainIs=some (true,("f017f3c1bf931a095882f8ea4c7599dac00e2a1f3f4b28c4ddaa625bcbcc2c38" :String).toList):=by kernel_rfl
theorem P8:true=Tryz.pinned.checked.prog.looks []:=by kernel_rfl
theorem P7:false=Rows.segmentFoundUptoRow.goesBy Tryz.pinned.checked.prog:=N4 rfl N5
theorem card_holds:Rows.SegmentFoundUptoCardSaid:=
 Claim7.holds_tied_plain_at .later [] [.data,.data,.data,.data,.sentinel,.sentinel,.pinned] true (true, "f017f3c1bf931a095882f8ea4c7599dac00e2a1f3f4b28c4ddaa625bcbcc2c38") true bD (fun _ h=>by cases h) P6 (fun _ h=>by cases h) segmentFoundUpto_row_tie rfl ⟨rfl,rfl⟩ P9 rfl
  (fun f d e b=>by
   obtain rfl:f=3:=yG ((show Tryz.prog.funcNamed Rows.segmentFoundUptoRow.func=some 3 by kernel_rfl).symm.trans e)|>.symm;obtain rfl:d=Tryz.f3:=(yG (Tryz.func3.symm.trans b)).symm
   exact⟨P8,fun j t c=>by
    rw [Tryz.params3]at c;have g:t∈ [24,25]:=(by simpa using Array.mem_of_getElem? c);have a:([24,25].all fun u=> !Tryz.prog.wantsStandIn u)=true:=(by kernel_rfl);exact(show Tryz.prog.wantsStandIn t=false by simpa using List.all_eq_true.1 a t g)⟩)
  P7
#print axioms card_holds
end Go.Proofs.YtjbhbfaeielbiaaGreatDoor.segmentFound

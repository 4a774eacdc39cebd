import Derived.Test.YtjbhbfaeielbiaaGreatDoorPart16
import Derived.Test.YtjbhbfaeielbiaaGreatDoorPart18
set_option maxRecDepth 100000
set_option maxHeartbeats 8000000
set_option linter.unusedVariables false
set_option linter.unusedSimpArgs false
namespace Go.Proofs.YtjbhbfaeielbiaaGreatDoor
open Go.RowKit Go.Shelf
theorem vN {F:Fence} {n:Nat} {P:Program} {o:Oper} {a:Act} {K:Act->O->Prop} {Q:Exit->Act->O->Prop} (l:Nat) {r:Result Next} (h:o.uponIn F n P a K Q r):o.uponIn (F.inRound l) n P a K Q r:=by
 cases r with
 |ok x w=>cases x<;>exact h
 |halt x w=>cases x<;>exact h
theorem I2 {F:Fence} {n:Nat} {P:Program} {ops:Array Oper} {Q:Exit->Act->O->Prop} {i:Nat} {K:Act->O->Prop} {a:Act} {w:O} (hro:F.round=none) (hd:∀(j:Nat) (o:Oper) c,ops[j]? =some o->o.op≠ .defer c) (l:Nat)
 (h:wpOpIn F n P ops Q i K a w):wpOpIn (F.inRound l) n P ops Q i K a w:=by
 unfold wpOpIn at*;cases ho:ops[i]? with
 |none=>simp only [ho]at h⊢;exact h
 |some o=>
  simp only [ho]at h⊢
  split at h
  ·rename_i hw;rw [if_pos hw];refine⟨h.1,?_⟩;have h2:=h.2;rw [hro,Oper.semAt_none]at h2;rw [Fence.inRound_round,Oper.semAt_some l _ o (fun c=>hd i o c ho)];exact vN l h2
  ·rename_i hw;rw [if_neg hw];exact h
theorem mA {F:Fence} {n:Nat} {P:Program} {md:Region.Mode} {ops:Array Oper} {Q:Exit->Act->O->Prop} (hro:F.round=none) (hd:∀(j:Nat) (o:Oper) c,ops[j]? =some o->o.op≠ .defer c) (l:Nat):
 ∀(fuel:Nat) (listed:Array Bool) (a:Act) (w:O),wpAnyIn F n P md ops Q fuel listed a w->wpAnyIn (F.inRound l) n P md ops Q fuel listed a w
 |0,_,_,_,h=>h
 |fuel+1,_,_,_,h=>⟨h.1,fun i hi=>I2 hro hd l (wpOpIn_mono (fun a w=>mA hro hd l fuel _ a w) (h.2 i hi))⟩
def oX (l:List Oper):Bool:=l.all fun o=>match o.op with| .defer _=>false|_=>true
theorem wZ {l:List Oper} (h:oX l=true):∀(j:Nat) (o:Oper) c,l.toArray[j]? =some o->o.op≠ .defer c:=by
 intro j o c ho e
 have hm:o∈l:=by
  rw [yF]at ho;exact zD ho
 have:=List.all_eq_true.1 h o hm;rw [e]at this;cases this
theorem sJ {n:Nat} {P:Program} {l:List Oper} {Q:Exit->Act->O->Prop} {id lq:Nat} {a:Act} {w:O} (hm:P.follows .mixedOrders=true) (hd:oX l=true)
 (h:wpAnyIn Fence.wide n P .any l.toArray Q l.toArray.size (Array.replicate l.toArray.size false) a w.drew):(Code.region id l.toArray true).wpIn (Fence.wide.inRound lq) n P Q a w:=
 wpIn_region_any hm (mA rfl (wZ hd) lq _ _ _ _ h)
open Tryz
open Rep (rep)
open Go.RowKit
theorem Wm (w:O) (base:Nat) (hb:base<=w.heap.size) (t:Token) (ht:t.ok) (cs:aG) (hc:cs=t.cells.toArray) (H:Nat) (hH:H=w.heap.size):
 Own Flat (w.alloc (.cells cs 48)) base 48 (.slice (some ⟨H,0,none⟩) 1 1) [t]:=by
 subst hc hH;refine⟨[t.cells],rfl,fun k cs x h1 h2=> ?_,?_⟩
 ·have hk:=zN h2;simp at hk;subst hk;simp at h1 h2;subst h1 h2;exact Token.rep_of ht
 ·have:=World.ownsRow_lit (base:=base) (e:=48) (size:=4) w t.cells.toArray 1 hb (by simp [maxLen]) (by simp [Token.cells]);show World.ownsRow _ base _ 4 _ 1 [t.cells].flatten;rw [show [t.cells].flatten=t.cells.toArray.toList by simp];exact this
def bW (t:Token):Token:={t with text:=VI t.text}
theorem sQ (t:Token) (ht:t.ok) (hs:t.text.size<=1000000000) (w:O) (hT:Tabs w):
 Calls prog 238 #[.agg #[.string t.text,.int .i64 t.pos,.int .i64 t.from_,.int .i64 t.to_]] w fun e w' =>∃v,e= .returned v/\Own Flat w' w.heap.size 48 v [bW t]/\Below w.heap.size w w' :=by
 have hfl:(VI t.text).size<=4000000000:=by
  have h1:=eC t.text (ats t.text);have h2:=Qn t.text;have:(VI t.text).size=(bK t.text).length:=(by simp [VI,ByteArray.size]);rw [this];unfold bK;omega
 have hok:(bW t).ok:=⟨by unfold bW;simp only;omega,ht.2⟩;have b0:=Blk.new w 48 #[.string t.text,.int .i64 t.pos,.int .i64 t.from_,.int .i64 t.to_];have hb0:Below w.heap.size w (w.alloc (.cells #[.string t.text,.int .i64 t.pos,.int .i64 t.from_,.int .i64 t.to_] 48)):=(zE _ _).alloc (zC _) _;have B0:=zA b0;have Hok:=zA hok;have HT:=zA (hT.on hb0);have Hb0:=zA hb0;clear b0 hok hT hb0 hfl
 go_enter func238,ntmps238;go_wp2_with fail;refine(JT t.text (by omega) _ HT.out).mono ?_;rintro e w1 ⟨rfl,hb1⟩;have b1:=B0.out.below hb1 (by simp);have b2:=b1.set_ 0 (.string (VI t.text));have c1:=b2.cell 0;have c2:=b2.cell 1;have c3:=b2.cell 2;have c4:=b2.cell 3;have f1:=b1.frozen 0;have d1:=b1.cell 0;simp only [yF,zf,zj,List.setIfInBounds_toArray,yw]at c1 c2 c3 c4 d1;have hs1:=hb1.size
 simp only [World.size_alloc]at hs1;have Hb2:Hid (Below w.heap.size w (w1.setCell ⟨w.heap.size,0,none⟩ (.string (VI t.text)))):=(Hb0.out.trans (hb1.mono (by simp))).setCell (p:=⟨w.heap.size,0,none⟩) (zC _) _;clear hb1 b1 b2;go_wp2;go_ret
 exact⟨_,rfl,Wm _ _ Hb2.out.size (bW t) Hok.out _ rfl w1.heap.size (by simp [World.setCell]),Hb2.out.alloc Hb2.out.size _⟩
def We (t:Token):List Token:=if aN t.text then []else [t]
theorem tV (t:Token) (ht:t.ok) (w:O):
 Calls prog 239 #[.agg #[.string t.text,.int .i64 t.pos,.int .i64 t.from_,.int .i64 t.to_]] w fun e w' =>∃v,e= .returned v/\Own Flat w' w.heap.size 48 v (We t)/\Below w.heap.size w w' :=by
 have Ht:=zA ht;clear ht;unfold We;rcases hs:aN t.text with _|_
 ·have Hs:=zA hs;clear hs;go_enter func239,ntmps239;go_wp2_with (go_at_call 290;go_must (refine(KW _ Hs.out _).mono ?_);rintro e w' ⟨rfl,rfl⟩);go_ret
  have hb:Below w.heap.size w (w.alloc (.cells #[.string t.text,.int .i64 t.pos,.int .i64 t.from_,.int .i64 t.to_] 48)):=(zE _ _).alloc (zC _) _;exact⟨_,rfl,Wm _ _ hb.size t Ht.out _ rfl _ (by simp),hb.alloc hb.size _⟩
 ·have Hs:=zA hs;clear hs;go_enter func239,ntmps239;go_wp2_with (go_at_call 290;go_must (refine(H6 _ Hs.out _).mono ?_);rintro e w' ⟨rfl,rfl⟩);go_ret
  exact⟨_,rfl,Own.nil _ _ _ _,(zE _ _).alloc (zC _) _⟩
def Q8 (t:Token):Token:=if 17<(yg t.text).length then {t with text:=t.text.extract 0 ((yg t.text)[16]?.getD 0)} else t
theorem r8 (t:Token) (ht:t.ok) (hs:t.text.size<=1000000000) (w:O) (hT:Tabs w):
 Calls prog 241 #[.agg #[.string t.text,.int .i64 t.pos,.int .i64 t.from_,.int .i64 t.to_]] w fun e w' =>∃v,e= .returned v/\Own Flat w' w.heap.size 48 v [Q8 t]/\Below w.heap.size w w' :=by
 have b0:=Blk.new w 48 #[.string t.text,.int .i64 t.pos,.int .i64 t.from_,.int .i64 t.to_];have hb0:Below w.heap.size w (w.alloc (.cells #[.string t.text,.int .i64 t.pos,.int .i64 t.from_,.int .i64 t.to_] 48)):=(zE _ _).alloc (zC _) _;have B0:=zA b0;have Ht:=zA ht;have HT:=zA (hT.on hb0);have Hb0:=zA hb0;have hpl:=Yf t.text;clear b0 ht hT hb0;go_enter func241,ntmps241;go_wp2_with fail
 refine(Qd t.text (by omega) _ HT.out).mono ?_;rintro e w1 ⟨vp,rfl,op,hb1⟩;obtain⟨Ap,cp,rfl⟩:=op.form;have hnl:(natI (yg t.text)).length=(yg t.text).length:=by simp [natI]
 rw [hnl]at op⊢;obtain⟨np,hnp⟩:=eX ((yg t.text).length);rw [hnp]at op hpl⊢;have b1:=B0.out.below hb1 (by simp);have c0:=b1.cell 0;have c1:=b1.cell 1;have c2:=b1.cell 2;have c3:=b1.cell 3;have f0:=b1.frozen 0;simp only [yF,zf,zj]at c0 c1 c2 c3;have Hb1:=zA (Hb0.out.trans (hb1.mono Hb0.out.size));have hs1:=hb1.size;simp only [World.size_alloc]at hs1;have B1:=zA b1;have Op:=zA op;have Hnp:=zA hnp
 clear b1 hb1 op hnl hnp
 by_cases hc:17<np
 ·obtain⟨a,ha⟩:∃a,(yg t.text)[16]? =some a:=⟨_,zB (by have:=Hnp.out;omega)⟩;have has:a<=t.text.size:=QQ (zD ha);obtain⟨gp,rfl,ca⟩:=YV Op.out ha;have hfin:Q8 t={t with text:=t.text.extract 0 a}:=(by unfold Q8;rw [Hnp.out,if_pos hc,ha];rfl);have Hfin:=zA hfin
  have hgn:gp≠w.heap.size:=by
   rintro rfl;obtain⟨_,_,_,hr⟩:=Op.out;rcases hr.2 with⟨h,_⟩|⟨g',_,_,h,_,hgb,_⟩
   ·cases h
   ·cases h;have:=B1.out;unfold Blk at this;rw [this]at hgb;simp at hgb
  have g0:(0:Int)<=(a:Int):=(by omega);have g1:(a:Int)<=(t.text.size:Int):=(by omega);have g2:(16:Int)<(np:Int):=(by omega);clear ha hfin;go_wp2;refine wp_region_held_drew (S:=(fun w' =>w'.cell? ⟨gp,16,none⟩=some (.int .i64 (a:Int)))) (by kernel_rfl) ca (fun hHeld=> ?_);refine hF 0 ?_;refine hF 2 ?_;refine hF 3 ?_;refine hF 4 ?_;refine wpAnyH_ready (rs:= [1]) (by kernel_rfl) (by simp) ?_
  refine AllReadyH.cons (o:=_) rfl (fun K hK=> ?_) (AllReadyH.nil);go_simp;refine hK.out _ _ ca (fun hHeld=> ?_);clear hK K
  try simp only [Act.put,sa,s0,s1]
  refine hF 5 ?_;refine hF 6 ?_;refine wpAnyH_ready (rs:= [7]) (by kernel_rfl) (by simp) ?_;refine AllReadyH.cons (o:=_) rfl (fun K hK=> ?_) (AllReadyH.nil);go_simp;refine hK.out _ _ ((World.cell?_setCell_other _ _ _ _ (by intro e;cases e)).trans ca) (fun hHeld=> ?_);clear hK K
  try simp only [Act.put,sa,s0,s1]
  refine wpAnyH_done (by kernel_rfl) ?_ _;have b2:=B1.out.set_ 0 (.string (t.text.extract 0 a));have d0:=b2.cell 0;have d1:=b2.cell 1;have d2:=b2.cell 2;have d3:=b2.cell 3;simp only [yF,zf,zj,List.setIfInBounds_toArray,yw]at d0 d1 d2 d3;have Hb2:Hid (Below w.heap.size w (w1.setCell ⟨w.heap.size,0,none⟩ (.string (t.text.extract 0 a)))):=Hb1.out.setCell (p:=⟨w.heap.size,0,none⟩) (zC _) _
  have Hok:Hid (Token.ok {t with text:=t.text.extract 0 a}):=⟨by first|(simp only [yQ];omega)|(simp only [yQ];done),Ht.out.2⟩
  clear b2 c0 c1 c2 c3;go_wp2;go_ret
  refine⟨_,rfl,?_,(Below.drew Hb2.out).alloc Hb2.out.size _⟩;rw [Hfin.out];exact Wm _ _ Hb2.out.size {t with text:=t.text.extract 0 a} Hok.out _ rfl _ (by simp [World.setCell])
 ·have hfin:Q8 t=t:=(by unfold Q8;rw [Hnp.out,if_neg hc]);have Hfin:=zA hfin;clear hfin;go_wp2;go_ret
  refine⟨_,rfl,?_,Hb1.out.alloc Hb1.out.size _⟩;rw [Hfin.out];exact Wm _ _ Hb1.out.size t Ht.out _ rfl _ (by simp)
def Zp (t:Token) (p:aE) (n:Nat):Nat->List Token
 |0=> []
 |j+1=>Zp t p n j++ [{t with text:=t.text.extract (p[j]?.getD 0) (p[j+n]?.getD 0)}]
def Yg (n:Nat) (t:Token):List Token:=if (yg t.text).length<=n+1 then [t]else Zp t (yg t.text) n ((yg t.text).length - n)
theorem iB (t:Token) (p:aE) (n j:Nat):(Zp t p n j).length=j:=by
 induction j with
 |zero=>rfl
 |succ j ih=>simp [Zp,ih]
theorem World.drew_heap (w:O):w.drew.heap=w.heap:=rfl
theorem UI (n:Nat) (hn:n<=1000) (Bn:Nat) (t:Token) (ht:t.ok) (hs:t.text.size<=1000000000) (w:O) (hT:Tabs w) (hbn:Boxed w Bn 3 (.int .i64 (n:Int))):
 Calls prog 291 #[.agg #[.string t.text,.int .i64 t.pos,.int .i64 t.from_,.int .i64 t.to_],.pointer (some ⟨Bn,0,none⟩)] w fun e w' =>∃v,e= .returned v/\Own Flat w' w.heap.size 48 v (Yg n t)/\Below w.heap.size w w' :=by
 obtain⟨i0,hi0,hz0,hz1,hz2⟩:=info_parts Q5;have b0:=Blk.new w 48 #[.string t.text,.int .i64 t.pos,.int .i64 t.from_,.int .i64 t.to_];have hb0:Below w.heap.size w (w.alloc (.cells #[.string t.text,.int .i64 t.pos,.int .i64 t.from_,.int .i64 t.to_] 48)):=(zE _ _).alloc (zC _) _;have B0:=zA b0;have Ht:=zA ht;have HT:=zA (hT.on hb0);have Hb0:=zA hb0;have Hbn:=zA hbn;have hbl:=hbn.lt
 have hpl:=Yf t.text;clear b0 ht hT hb0 hbn;go_enter func291,ntmps291;go_wp2_with fail;refine(Qd t.text (by omega) _ HT.out).mono ?_;rintro e w1 ⟨vp,rfl,op,hb1⟩;obtain⟨Ap,cp,rfl⟩:=op.form;obtain⟨p,hp⟩:=eX (yg t.text);rw [hp]at op hpl⊢;have hnl:(natI p).length=p.length:=by simp [natI]
 rw [hnl]at op⊢;obtain⟨np,hnp⟩:=eX (p.length);rw [hnp]at op hpl⊢;have b1:=B0.out.below hb1 (by simp);have c0:=b1.cell 0;have c1:=b1.cell 1;have c2:=b1.cell 2;have c3:=b1.cell 3;simp only [yF,zf,zj]at c0 c1 c2 c3;have hb1' :=Hb0.out.trans (hb1.mono Hb0.out.size);have cn:=(Boxed.on Hbn.out hb1').cell;have Hb1:=zA hb1';have hs1:=hb1.size;simp only [World.size_alloc]at hs1;have B1:=zA b1
 have Op:=zA op;have Hnp:=zA hnp;have Hp:=zA hp;clear b1 hb1 hb1' op hnl hnp hp
 by_cases hc:np<=n+1
 ·have hfin:Yg n t= [t]:=(by unfold Yg;rw [Hp.out,Hnp.out,if_pos hc]);have Hfin:=zA hfin;have hc' :(np:Int) - 1<=(n:Int):=(by omega);clear hfin;go_wp2;go_ret
  refine⟨_,rfl,?_,Hb1.out.alloc Hb1.out.size _⟩;rw [Hfin.out];exact Wm _ _ Hb1.out.size t Ht.out _ rfl _ (by simp)
 ·have hfin:Yg n t=Zp t p n (np - n):=(by unfold Yg;rw [Hp.out,Hnp.out,if_neg hc]);have Hfin:=zA hfin;have hc' :¬(np:Int) - 1<=(n:Int):=(by omega)
  have Hpt:=zA (show(∀i x,p[i]? =some x->x<=t.text.size)/\∀i j a b,p[i]? =some a->p[j]? =some b->i<=j->a<=b by
   rw [<-Hp.out];exact⟨fun i x h=>QQ (zD h),fun i j a b h1 h2 h3=>Xn h1 h2 h3⟩)
  have C0:=zA c0;have C1:=zA c1;have C2:=zA c2;have C3:=zA c3;have Cn:=zA cn;clear hfin;go_wp2;clear c0 c1 c2 c3 cn
  go_loopw [5,6] (fun v i wr=>∃j:Nat,j+n<=np/\i= .int .i64 j/\Own Flat wr w1.heap.size 48 v (Zp t p n j)/\Below w1.heap.size w1 wr) (fun _ i _=>np - (intOf i).toNat)
  case atStart=>exact⟨0,by omega,rfl,Own.nil _ _ _ _,zE _ _⟩
  case round=>
   obtain⟨j,hj,rfl,oo,hbw⟩:=hrel;have en:=(hbw.cell (p:=⟨Bn,0,none⟩) (by simp only;omega)).trans Cn.out;obtain⟨out,hout⟩:=eX (Zp t p n j);have hlen:=iB t p n j;rw [hout]at oo hlen;obtain⟨Aq,cq,rfl⟩:=oo.form;obtain⟨L,hL⟩:=eX (out.length);rw [hL]at oo hlen⊢;have hLb:L<=np:=(by omega);have HL:=zA hL;have Hout:=zA hout;have Oo:=zA oo;have Hbw:=zA hbw;have hsw:=hbw.size;clear hL hout oo hlen
   by_cases hjt:j+n<np
   ·obtain⟨a,ha⟩:∃a,p[j]? =some a:=⟨_,zB (by have:=Hnp.out;omega)⟩;obtain⟨c,hc⟩:∃c,p[j+n]? =some c:=⟨_,zB (by have:=Hnp.out;omega)⟩;obtain⟨gp,hAp,ca⟩:=YV Op.out ha;subst hAp;obtain⟨gp',hAp,cc⟩:=YV Op.out hc;cases hAp;have hac:a<=c:=Hpt.out.2 _ _ _ _ ha hc (by omega);have hcs:c<=t.text.size:=Hpt.out.1 _ _ hc
    have hpc:({t with text:=t.text.extract (p[j]?.getD 0) (p[j+n]?.getD 0)}:Token)={t with text:=t.text.extract a c}:=(by rw [ha,hc];rfl);have Hpc:=zA hpc;have Hok:Hid (Token.ok {t with text:=t.text.extract a c}):=⟨by simp only [yQ];omega,Ht.out.2⟩;have hgl:=(ye ca);simp only at hgl;have ea:=(hbw.cell (p:=⟨gp,j,none⟩) hgl).trans ca;have ec:=(hbw.cell (p:=⟨gp,j+n,none⟩) hgl).trans cc
    have e0:=(hbw.cell (p:=⟨w.heap.size,0,none⟩) (by simp only;omega)).trans C0.out;have e1:=(hbw.cell (p:=⟨w.heap.size,1,none⟩) (by simp only;omega)).trans C1.out;have e2:=(hbw.cell (p:=⟨w.heap.size,2,none⟩) (by simp only;omega)).trans C2.out;have e3:=(hbw.cell (p:=⟨w.heap.size,3,none⟩) (by simp only;omega)).trans C3.out;have g0:(0:Int)<=(j:Int):=(by omega);have g1:(j:Int)<(np:Int):=(by omega)
    have g2:(j:Int)+(n:Int)<(np:Int):=(by omega);have g3:(0:Int)<=(j:Int)+(n:Int):=(by omega);have g4:((j:Int)+(n:Int)).toNat=j+n:=(by omega);have g5:IntKind.i64.wrap ((j:Int)+(n:Int))=(j:Int)+(n:Int):=IntWalk.i64_in _ (by omega);have g6:(0:Int)<=(a:Int):=(by omega);have g7:(a:Int)<=(c:Int):=(by omega);have g8:(c:Int)<=(t.text.size:Int):=(by omega);have g11:(0:Int)<=(c:Int):=(by omega)
    have B0:=zA (Blk.new wr 48 #[.string t.text,.int .i64 t.pos,.int .i64 t.from_,.int .i64 t.to_]);have E0:=zA e0;have En:=zA en;have Ea:=zA ea;have Ec:=zA ec;clear ha hc hpc hbw ca cc;go_wp2;have e0:=(yA wr (.cells #[.string t.text,.int .i64 t.pos,.int .i64 t.from_,.int .i64 t.to_] 48) _ (ye e0)).trans e0
    have en:=(yA wr (.cells #[.string t.text,.int .i64 t.pos,.int .i64 t.from_,.int .i64 t.to_] 48) _ (ye en)).trans en;have ea:=(yA wr (.cells #[.string t.text,.int .i64 t.pos,.int .i64 t.from_,.int .i64 t.to_] 48) _ (ye ea)).trans ea;have ec:=(yA wr (.cells #[.string t.text,.int .i64 t.pos,.int .i64 t.from_,.int .i64 t.to_] 48) _ (ye ec)).trans ec
    refine wp_region_held_drew (S:=(fun w' =>w'.cell? ⟨w.heap.size,0,none⟩=some (.string t.text)/\w'.cell? ⟨Bn,0,none⟩=some (.int .i64 (n:Int))/\w'.cell? ⟨gp,j,none⟩=some (.int .i64 (a:Int))/\w'.cell? ⟨gp,j+n,none⟩=some (.int .i64 (c:Int)))) (by kernel_rfl) ⟨e0,en,ea,ec⟩ (fun hHeld=> ?_);refine hF 0 ?_;refine hF 1 ?_;refine hF 2 ?_;refine hF 3 ?_;refine hF 4 ?_;refine hF 5 ?_;refine hF 6 ?_
    refine hF 7 ?_;refine hF 8 ?_;refine hF 9 ?_;refine hF 10 ?_;refine hF 11 ?_;refine hF 12 ?_;refine hF 13 ?_;refine wpAnyH_ready (rs:= [14]) (by kernel_rfl) (by simp) ?_;refine AllReadyH.cons (o:=_) rfl (fun K hK=> ?_) (AllReadyH.nil);go_simp
    refine hK.out _ _ ⟨(yA _ _ _ (ye E0.out)).trans E0.out,(yA _ _ _ (ye En.out)).trans En.out,(yA _ _ _ (ye Ea.out)).trans Ea.out,(yA _ _ _ (ye Ec.out)).trans Ec.out⟩ (fun hHeld=> ?_);clear hK K
    try simp only [Act.put,sa,s0,s1]
    refine wpAnyH_done (by kernel_rfl) ?_ _;have b2:=Blk.new wr 48 #[.string (t.text.extract a c),.int .i64 t.pos,.int .i64 t.from_,.int .i64 t.to_];have f0:=b2.cell 0;have f1:=b2.cell 1;have f2:=b2.cell 2;have f3:=b2.cell 3;simp only [yF,zf,zj]at f0 f1 f2 f3
    have Hbs:Hid (Below w1.heap.size wr (wr.alloc (.cells #[.string (t.text.extract a c),.int .i64 t.pos,.int .i64 t.from_,.int .i64 t.to_] 48)).drew):=((zE _ wr).alloc Hbw.out.size _).drew;have Oo2:Hid (Own Flat (wr.alloc (.cells #[.string (t.text.extract a c),.int .i64 t.pos,.int .i64 t.from_,.int .i64 t.to_] 48)).drew w1.heap.size 48 (.slice Aq L cq) out):=(Oo.out.alloc _).drew
    clear b2 e0 e1 e2 e3 en ea ec
    go_wp2_with (at_builtin
                 go_must (refine rS rfl (.tmp 41) (.tmp 43) _ rfl w1.heap.size 48 i0 _ 40 underlying41 hi0 hz0 hz1 hz2 rfl (.slice Aq L cq) out rfl (Oo2.out.alloc _) (wr.heap.size+1) #[.string (t.text.extract a c),.int .i64 t.pos,.int .i64 t.from_,.int .i64 t.to_] {t with text:=t.text.extract a c} rfl (by have hh:=Blk.new (wr.alloc (.cells #[.string (t.text.extract a c),.int .i64 t.pos,.int .i64 t.from_,.int .i64 t.to_] 48)).drew 48 #[.string (t.text.extract a c),.int .i64 t.pos,.int .i64 t.from_,.int .i64 t.to_];simp only [World.drew_heap,World.size_alloc]at hh;exact hh) (Token.rep_of Hok.out) (by rw [HL.out];omega) (by rw [HL.out];omega) (by have:=Hbs.out.size;have:=Hbw.out.size;simp at*;omega) ?_)
                 rw [HL.out];intro A3 c3 w3 ho3 hg3 hb3;have Ho3:=zA ho3;have Hb3:=zA hb3;clear ho3 hg3 hb3)
    go_roundw
    case rel=>exact⟨j+1,by omega,by go_num,by rw [Zp,Hout.out,Hpc.out];exact Ho3.out,Hbw.out.trans ((Hbs.out.alloc (by have:=Hbw.out.size;have:=Hbs.out.size;omega) _).trans Hb3.out)⟩
    case measure=>simp [intOf];omega
   ·have hjq:Hid (out=Zp t p n (np - n)):=by
     show _=_;rw [<-Hout.out,show j=np - n by omega]
    have hjt' :¬(j:Int)+(n:Int)<(np:Int):=(by omega);clear hjt hbw;go_wp2;go_ret
    refine⟨_,rfl,?_,Hb1.out.trans (Hbw.out.mono Hb1.out.size)⟩;rw [Hfin.out,<-hjq.out];exact Oo.out.mono Hb1.out.size
def Yn (s:aB) (p:aE):Nat->aC
 |0=> []
 |j+1=>Yn s p j++(if aQ (rn s (p[j]?.getD 0))then []else(s.extract (p[j]?.getD 0) (p[j+1]?.getD 0)).data.toList)
def WP (s:aB):aC:=Yn s (yg s) ((yg s).length - 1)
def Qf (t:Token):List Token:=if WP t.text= []then []else [{t with text:=⟨(WP t.text).toArray⟩}]
theorem WO (s:aB):∀j x,(yg s)[j]? =some x->(Yn s (yg s) j).length<=x
 |0,x,_=>by simp [Yn]
 |j+1,x,hx=>by
  obtain⟨y,hy⟩:∃y,(yg s)[j]? =some y:=⟨_,zB (by have:=zN hx;omega)⟩;have h1:=WO s j y hy;have h2:=Xn hy hx (by omega);have h3:x<=s.size:=QQ (zD hx);rw [Yn,zG,hy,hx]
  split
  ·simp;omega
  ·have:((s.extract y x).data.toList).length=x - y:=by
    rw [Lib.extract_data,zr,ze,<-Lib.size_eq];omega
   simp only [yq];omega
theorem DN {s:aB} {j x:Nat} (h:(yg s)[j]? =some x) (hj:j+1<(yg s).length):x<s.size:=by
 have:j<(ats s).length:=by simp [yg]at hj;omega
 rw [yg,z9 this]at h;exact V5 (zD h)
theorem K9 {w:O} {base:Nat} {A:aA} {n c:Nat} {p:aE} (h:Own Flat w base 3 (.slice A n c) (natI p)) (hp:0<p.length):∃g cur,A=some ⟨g,0,none⟩/\Blk w g 3 cur/\∀(i x:Nat),p[i]? =some x->cur[i]? =some (.int .i64 (x:Int)):=by
 have h0:=h;obtain⟨css,hl,hr,ho⟩:=h;have hn:(natI p).length=p.length:=by simp [natI]
 rcases ho.2 with⟨h1,h2⟩|⟨g,cap,cur,h1,hb,hg,_⟩
 ·rw [hn]at h2;omega
 ·cases h1;refine⟨g,cur,rfl,hg,fun i x hx=> ?_⟩;obtain⟨b,hb',hc⟩:=YV h0 hx;cases hb';rw [Blk.cell (show Blk w g 3 cur from hg) i]at hc;exact hc
theorem Blk.others {W W' :O} {b g:Nat} {t:TypeId} {cs:aG} (h:Blk W g t cs) (hk:Lib.OthersKept 5 (some b) W W') (hne:g≠b) (ht:t≠5):Blk W' g t cs:=
 hk g _ h (fun e=>hne (by cases e;rfl)) (fun c fz e=>ht (by cases e;rfl))
theorem sP (t:Token) (ht:t.ok) (hs:t.text.size<=1000000000) (w:O) (hT:Tabs w):
 Calls prog 242 #[.agg #[.string t.text,.int .i64 t.pos,.int .i64 t.from_,.int .i64 t.to_]] w fun e w' =>∃v,e= .returned v/\Own Flat w' w.heap.size 48 v (Qf t)/\Below w.heap.size w w' :=by
 have b0:=(Blk.new w 48 #[.string t.text,.int .i64 t.pos,.int .i64 t.from_,.int .i64 t.to_]).alloc (.cells #[.pointer none,.slice none 0 0] 365)
 have hbd:OU (w.heap.size+1) (w.heap.size+1) [] ((w.alloc (.cells #[.string t.text,.int .i64 t.pos,.int .i64 t.from_,.int .i64 t.to_] 48)).alloc (.cells #[.pointer none,.slice none 0 0] 365)):=by
  have:=Lib.fresh_isBuilder 365 5 (w.alloc (.cells #[.string t.text,.int .i64 t.pos,.int .i64 t.from_,.int .i64 t.to_] 48));rw [World.size_alloc]at this;exact this
 have hb0:Below w.heap.size w ((w.alloc (.cells #[.string t.text,.int .i64 t.pos,.int .i64 t.from_,.int .i64 t.to_] 48)).alloc (.cells #[.pointer none,.slice none 0 0] 365)):=((zE _ _).alloc (zC _) _).alloc (by simp) _;have B0:=zA b0;have Bd0:=zA hbd;have Ht:=zA ht;have HT:=zA hT;have Hb0:=zA hb0;have hpl:=Yf t.text;clear b0 hbd ht hT hb0;go_enter func242,ntmps242;go_wp2_with fail
 refine(Qd t.text (by omega) _ (HT.out.on Hb0.out)).mono ?_;rintro e w1 ⟨vp,rfl,op,hb1⟩;obtain⟨Ap,cp,rfl⟩:=op.form;obtain⟨p,hp⟩:=eX (yg t.text);have Hpin:=zA (fun j x (h:(yg t.text)[j]? =some x) hj=>DN h hj);have Hmon:=zA (fun i j a b (h1:(yg t.text)[i]? =some a) (h2:(yg t.text)[j]? =some b) h=>Xn h1 h2 h);have Hple:=zA (fun j x (h:(yg t.text)[j]? =some x)=>QQ (zD h));have Hml:=zA (WO t.text)
 rw [hp]at op hpl Hpin Hmon Hple Hml⊢;have hnl:(natI p).length=p.length:=by simp [natI]
 obtain⟨gp,cur,rfl,bp,hcur⟩:=K9 op (by omega);rw [hnl]at⊢;obtain⟨np,hnp⟩:=eX (p.length);rw [hnp]at hpl Hpin⊢
 have hgp:w.heap.size+1<gp:=by
  obtain⟨_,_,_,hr⟩:=op;rcases hr.2 with⟨h,_⟩|⟨g',_,_,h,hb,_⟩
  ·cases h
  ·cases h;simp at hb;omega
 have b1:=B0.out.below hb1 (by simp;omega);have bd1:=Bd0.out.on hb1;have hb1' :=Hb0.out.trans (hb1.mono Hb0.out.size);have Hb1:=zA hb1';have B1:=zA b1;have Bd1:=zA bd1;have Bp:=zA bp;have Hcur:=zA hcur;have Hnp:=zA hnp;have Hp:=zA hp;have hnb:np<=1000000001:=by omega
 clear b1 bd1 hb1 hb1' op hnl hnp hp bp hcur;go_wp2
 go_loopw [14] (fun i wr=>∃j:Nat,j+1<=np/\i= .int .i64 j/\Blk wr w.heap.size 48 #[.string t.text,.int .i64 t.pos,.int .i64 t.from_,.int .i64 t.to_]/\Blk wr gp 3 cur/\OU (w.heap.size+1) (w.heap.size+1) (Yn t.text p j) wr/\Below w.heap.size w wr) (fun i _=>np - (intOf i).toNat)
 case atStart=>exact⟨0,by omega,rfl,B1.out,Bp.out,Bd1.out,Hb1.out⟩
 case round=>
  obtain⟨j,hj,rfl,bt,bp,bd,hbw⟩:=hrel;have Bt:=zA bt;have Bp2:=zA bp;have Bd:=zA bd;have Hbw:=zA hbw;have hsw:=hbw.size;have hbl:=bd.le.2;clear bt bp bd hbw
  by_cases hjt:j+1<np
  ·obtain⟨a,ha⟩:∃a,p[j]? =some a:=⟨_,zB (by have:=Hnp.out;omega)⟩;obtain⟨c,hc⟩:∃c,p[j+1]? =some c:=⟨_,zB (by have:=Hnp.out;omega)⟩;have hac:a<=c:=Hmon.out _ _ _ _ ha hc (by omega);have hcs:c<=t.text.size:=Hple.out _ _ hc;have has:a<t.text.size:=Hpin.out _ _ ha hjt;have hml:=Hml.out j a ha;have e0:=Bt.out.cell 0;simp only [yF,zf]at e0;have ea:=(Bp2.out.cell j).trans (Hcur.out j a ha)
   have ec:=(Bp2.out.cell (j+1)).trans (Hcur.out (j+1) c hc);have g0:(0:Int)<=(j:Int):=(by omega);have g1:(j:Int)<(np:Int):=(by omega);have hTr:Tabs wr:=HT.out.on Hbw.out;have HTr:=zA hTr;have E0:=zA e0;have Ea:=zA ea;have Ec:=zA ec;clear hTr ec;go_wp2
   go_region_held3 (fun w' =>w'.cell? ⟨w.heap.size,0,none⟩=some (.string t.text)/\w'.cell? ⟨gp,j,none⟩=some (.int .i64 (a:Int))) (go_keep)
    ((go_at_call 292
      refine(dR t.text a has (by omega) _ (HTr.out.on (zE _ wr).drew)).mono ?_;rintro e w3 ⟨rfl,hb3⟩;have hb4:Below wr.heap.size wr w3:=(zE _ wr).drew.trans hb3;have e03:=(hb4.cell (p:=⟨w.heap.size,0,none⟩) (ye E0.out)).trans E0.out;have ea3:=(hb4.cell (p:=⟨gp,j,none⟩) (ye Ea.out)).trans Ea.out;have Hb4:=zA hb4;clear hb3 hb4))
   have bt3:=Bt.out.below Hb4.out Bt.out.lt;have bp3:=Bp2.out.below Hb4.out Bp2.out.lt;have bd3:=Bd.out.on Hb4.out;have ec3:=(bp3.cell (j+1)).trans (Hcur.out (j+1) c hc);have hs3:=Hb4.out.size;have Bt3:=zA bt3;have Bp3:=zA bp3;have Bd3:=zA bd3;have Ec3:=zA ec3;have E03:=zA e03;have Ea3:=zA ea3
   have hstep:Yn t.text p (j+1)=Yn t.text p j++(if aQ (rn t.text a)then []else(t.text.extract a c).data.toList):=(by rw [Yn,ha,hc];rfl);have Hstep:=zA hstep;have g2:(j:Int)+1<(np:Int):=(by omega);have g3:(0:Int)<=(j:Int)+1:=(by omega);have g4:((j:Int)+1).toNat=j+1:=(by omega);have g5:IntKind.i64.wrap ((j:Int)+1)=(j:Int)+1:=IntWalk.i64_in _ (by omega);have g6:(0:Int)<=(a:Int):=(by omega)
   have g7:(a:Int)<=(c:Int):=(by omega);have g8:(c:Int)<=(t.text.size:Int):=(by omega);have g9:(0:Int)<=(c:Int):=(by omega);have hes:(t.text.extract a c).size=c - a:=(by rw [yQ];omega);have Hes:=zA hes;clear bt3 bp3 bd3 ec3 hstep ha hc e0 ea e03 ea3 hes;rcases hm:aQ (rn t.text a)with _|_
   ·have Hm:=zA hm;rw [hm]at Hstep;clear hm;have e03:=E03.out;have ea3:=Ea3.out;have ec3:=Ec3.out;go_wp2_with (go_at_call 248;go_must (refine(dU _ _).mono ?_);rw [Hm.out];rintro e w' ⟨rfl,rfl⟩)
    go_region_held3 (fun w' =>w'.cell? ⟨w.heap.size,0,none⟩=some (.string t.text)/\w'.cell? ⟨gp,j,none⟩=some (.int .i64 (a:Int))/\w'.cell? ⟨gp,j+1,none⟩=some (.int .i64 (c:Int))) (go_keep)
     ((go_at_call 233
       refine(Qu (w.heap.size+1) (w.heap.size+1) _ _ w3.drew (Bd3.out.on (zE _ w3).drew) (by rw [Lib.byteCells_length,Hes.out];omega) (by show _<=w3.heap.size;omega)).mono ?_;rintro e w4 ⟨rfl,h4,b4,k4⟩;have b5:Below (w.heap.size+1) w3 w4:=(zE _ w3).drew.trans b4;have k5:Lib.OthersKept 5 (some (w.heap.size+1)) w3 w4:=fun k o h=>k4 k o h;have bt4:=Blk.others Bt3.out k5 (by omega) (by decide)
       have bp4:=Blk.others Bp3.out k5 (by omega) (by decide);have e04:=(bt4.cell 0);have ea4:=(bp4.cell j).trans ((Bp3.out.cell j).symm.trans Ea3.out);have ec4:=(bp4.cell (j+1)).trans ((Bp3.out.cell (j+1)).symm.trans Ec3.out);simp only [yF,zf]at e04;have Bt4:=zA bt4;have Bp4:=zA bp4;have B5:=zA b5;have H4:=zA h4;clear bt4 bp4 b5 h4 b4 k4 k5))
    go_wp2
    go_roundw
    case rel=>
     refine⟨j+1,by omega,by go_num,Bt4.out,Bp4.out,?_,Hbw.out.trans ((Hb4.out.mono hsw).trans (B5.out.mono (by omega)))⟩;rw [Hstep.out];show Lib.IsBuilder _ _ _ _ _ _;rw [if_neg (by simp),Lib.byteCells_append,<-VJ];exact .inr H4.out
    case measure=>simp [intOf];omega
   ·have Hm:=zA hm;rw [hm]at Hstep;clear hm;go_wp2_with (go_at_call 248;go_must (refine(dU _ _).mono ?_);rw [Hm.out];rintro e w' ⟨rfl,rfl⟩)
    go_roundw
    case rel=>exact⟨j+1,by omega,by go_num,Bt3.out,Bp3.out,by rw [Hstep.out,if_pos trivial,zo];exact Bd3.out,Hbw.out.trans (Hb4.out.mono hsw)⟩
    case measure=>simp [intOf];omega
  ·obtain rfl:j+1=np:=by omega
   obtain⟨M,hM⟩:=eX (Yn t.text p j);have hfin:WP t.text=M:=(by unfold WP;rw [Hp.out,Hnp.out];exact hM)
   have hml:M.length<=t.text.size:=by
    obtain⟨x,hx⟩:∃x,p[j]? =some x:=⟨_,zB (by have:=Hnp.out;omega)⟩;have h1:=Hml.out j x hx;have h2:=Hple.out _ _ hx;rw [hM]at h1;omega
   rw [hM]at Bd;have Hfin:=zA hfin;clear hM hfin;have hbl2:=Bd.out.le;go_wp2_with fail;refine(Tryz.Builder_String_any_k (w.heap.size+1) (w.heap.size+1) M _ (Lib.IsBuilderF.of Bd.out) (by omega)).mono ?_;rintro e w4 ⟨rfl,_,b4,k4⟩;have bt4:=Blk.others Bt.out k4 (by omega) (by decide);have f4:=bt4.frozen 0;have bt5:=bt4.set_ 0 (.string ⟨M.toArray⟩);have c1:=bt5.cell 0;have c2:=bt5.cell 1
   have c3:=bt5.cell 2;have c4:=bt5.cell 3;have d0:=bt4.cell 0;simp only [yF,zf,zj,List.setIfInBounds_toArray,yw]at c1 c2 c3 c4 d0;have Hb5:Hid (Below w.heap.size w (w4.setCell ⟨w.heap.size,0,none⟩ (.string ⟨M.toArray⟩))):=(Hbw.out.trans (b4.mono (by omega))).setCell (p:=⟨w.heap.size,0,none⟩) (zC _) _;have hMs:(⟨M.toArray⟩:aB).size=M.length:=(by simp [ByteArray.size])
   have Hok:Hid (Token.ok {t with text:=⟨M.toArray⟩}):=⟨by simp only [hMs];omega,Ht.out.2⟩;clear b4 k4 bt4 bt5 hMs
   by_cases hM0:M= []
   ·have hr:Hid (Qf t= []):=(by show _=_;unfold Qf;rw [Hfin.out,if_pos hM0]);subst hM0;go_wp2;go_ret
    exact⟨_,rfl,by rw [hr.out];exact Own.nil _ _ _ _,Hb5.out⟩
   ·have hr:Hid (Qf t= [{t with text:=⟨M.toArray⟩}]):=(by show _=_;unfold Qf;rw [Hfin.out,if_neg hM0]);have h1:(M== [])=false:=(by simpa using hM0);have h2:M.isEmpty=false:=(by simpa using hM0);clear hM0;go_wp2;go_ret
    exact⟨_,rfl,by rw [hr.out];exact Wm _ _ Hb5.out.size {t with text:=⟨M.toArray⟩} Hok.out _ rfl _ (by simp [World.setCell]),Hb5.out.alloc Hb5.out.size _⟩
def OL (number:Int) (t:Token):List Token:=
 if number=10 then [bW t]else if number=11 then We t else if number=12 then Yg 2 t else if number=13 then Yg 3 t else if number=14 then [Q8 t]else if number=15 then Qf t else []
def Yx (n:Int):Bool:=decide (10<=n/\n<=15)
def KM (k:FuncId) (lb:aG) (g:Token->List Token) (w:O):Prop:=
 (∀(args:aG) (W:O),(callFunc k args).run prog W= .ok (.enter k args) W)/\
 ∀(W:O) (t:Token),Below w.heap.size w W->t.ok->t.text.size<=1000000000->Calls prog k (#[.agg #[.string t.text,.int .i64 t.pos,.int .i64 t.from_,.int .i64 t.to_]]++lb) W fun e W' =>∃v,e= .returned v/\Own Flat W' W.heap.size 48 v (g t)/\Below W.heap.size W W'
theorem jQ (n:Int) (w:O):Calls prog 240 #[.int .i64 n] w fun e w' =>e= .returned (.func (.func 291) #[] #[.pointer (some ⟨w.heap.size,0,none⟩)])/\w' =w.alloc (.cells #[.int .i64 n] 3):=by
 have hmf:=@mF prog;go_enter func240,ntmps240;go_wp2;go_ret
 exact⟨rfl,rfl⟩
theorem JU (n:Int) (hn:Yx n=false) (w:O):Calls prog 176 #[.int .i64 n] w fun e w' =>e= .returned .nilFunc/\w=w' :=by
 have h:n<10\/15<n:=by simp [Yx]at hn;omega
 have n0:(n==10)=false:=by simp;omega
 have n1:(n==11)=false:=by simp;omega
 have n2:(n==12)=false:=by simp;omega
 have n3:(n==13)=false:=by simp;omega
 have n4:(n==14)=false:=by simp;omega
 have n5:(n==15)=false:=by simp;omega
 clear h hn;go_enter func176,ntmps176;go_wp2;go_ret
 exact⟨rfl,rfl⟩
theorem fA (n:Int) (hn:Yx n=true) (w:O) (hT:Tabs w):Calls prog 176 #[.int .i64 n] w fun e w' =>∃k lb,e= .returned (.func (.func k) #[] lb)/\KM k lb (OL n) w' /\Below w.heap.size w w' :=by
 have h:n=10\/n=11\/n=12\/n=13\/n=14\/n=15:=by simp [Yx]at hn;omega
 have HT:=zA hT;clear hn hT;rcases h with rfl|rfl|rfl|rfl|rfl|rfl
 ·go_enter func176,ntmps176;go_wp2;go_ret
  exact⟨_,_,rfl,⟨Go.Proofs.enters_of func238 (by kernel_rfl) rfl,fun W t hb ht hs=>sQ t ht hs W (HT.out.on hb)⟩,zE _ _⟩
 ·go_enter func176,ntmps176;go_wp2;go_ret
  exact⟨_,_,rfl,⟨Go.Proofs.enters_of func239 (by kernel_rfl) rfl,fun W t hb ht hs=>tV t ht W⟩,zE _ _⟩
 ·have hb:Below w.heap.size w (w.alloc (.cells #[.int .i64 2] 3)):=(zE _ _).alloc (zC _) _;have Hb:=zA hb;clear hb;go_enter func176,ntmps176;go_wp2_with (go_at_call 240;go_must (refine(jQ 2 _).mono ?_);rintro e w' ⟨rfl,rfl⟩);go_ret
  exact⟨_,_,rfl,⟨Go.Proofs.enters_of func291 (by kernel_rfl) rfl,fun W t hb ht hs=>UI 2 (by omega) w.heap.size t ht hs W (HT.out.on (Hb.out.trans (hb.mono Hb.out.size))) (Boxed.on (Boxed.new _ _ _) hb)⟩,Hb.out⟩
 ·have hb:Below w.heap.size w (w.alloc (.cells #[.int .i64 3] 3)):=(zE _ _).alloc (zC _) _;have Hb:=zA hb;clear hb;go_enter func176,ntmps176;go_wp2_with (go_at_call 240;go_must (refine(jQ 3 _).mono ?_);rintro e w' ⟨rfl,rfl⟩);go_ret
  exact⟨_,_,rfl,⟨Go.Proofs.enters_of func291 (by kernel_rfl) rfl,fun W t hb ht hs=>UI 3 (by omega) w.heap.size t ht hs W (HT.out.on (Hb.out.trans (hb.mono Hb.out.size))) (Boxed.on (Boxed.new _ _ _) hb)⟩,Hb.out⟩
 ·go_enter func176,ntmps176;go_wp2;go_ret
  exact⟨_,_,rfl,⟨Go.Proofs.enters_of func241 (by kernel_rfl) rfl,fun W t hb ht hs=>r8 t ht hs W (HT.out.on hb)⟩,zE _ _⟩
 ·go_enter func176,ntmps176;go_wp2;go_ret
  exact⟨_,_,rfl,⟨Go.Proofs.enters_of func242 (by kernel_rfl) rfl,fun W t hb ht hs=>sP t ht hs W (HT.out.on hb)⟩,zE _ _⟩
theorem gH {α:Type} [Rep α] {P:Program} {w:O} {ops:Array Oper} {rest:List Oper} {o:Oper} {a:Act} {Q:Exit->Act->O->Prop} (hgd:o.guard=none) (s x:Operand) (t:TypeId)
 (ho:o.op= .call {callee:= .builtin .append,args:= #[s,x],argTypes:= #[t,t]})
 (base:Nat) (e:TypeId) (i:TypeInfo) (z:V) (bytes:Nat) (ht:P.underlying t=some (.slice e)) (hi:P.info? e=some i) (hz:i.zero=some z)
 (hsize:i.size=Rep.size α) (hby:i.bytes=bytes) (hzs:z.cells.size=Rep.size α)
 (v:V) (xs:List α) (hs:a.eval s=v) (hown:Own Flat w base e v xs)
 (b2:Nat) (A:aA) (m c:Nat) (ys:List α) (hx:a.eval x= .slice A m c) (hown2:Own Flat w b2 e (.slice A m c) ys)
 (h63:xs.length+ys.length<=9223372036854775807) (hbytes:(xs.length+ys.length)*bytes<=140737488355328) (hbase:base<=w.heap.size)
 (h:∀A' n' c' w',Own Flat w' base e (.slice A' n' c') (xs++ys)->n' =xs.length+ys.length->w.grownBy w' v.ownBlock->Below base w w' ->wpList P ops Q rest (a.put o.dst (.slice A' n' c')) w'):wpList P ops Q (o::rest) a w:=by
 have hown0:=hown;obtain⟨css,hl,hr,hr2⟩:=hown;obtain⟨css',hl',hr',hr2'⟩:=hown2
 have hm:m=ys.length:=by
  rcases hr2'.2 with⟨h1,h2⟩|⟨g,cap,cur,h1,_⟩
  ·injection h1;omega
  ·injection h1
 have hone:∀u∈css'.flatten,u.oneCell' =true:=by
  intro u hu;obtain⟨cs,hcs,hu⟩:=List.mem_flatten.1 hu;obtain⟨k,hk⟩:=z8 hcs;obtain⟨y,hy⟩:∃y,ys[k]? =some y:=⟨_,zB (by have:=zN hk;omega)⟩;exact Rep.one (hr' k cs y hk hy) hu
 subst hm;refine Xj w hgd s x t ho base e i z (Rep.size α) bytes ht hi hz hsize hby hzs Rep.pos v xs.length css.flatten hs hr2 w.heap.size A ys.length c css'.flatten hx (xA.of_own hr2') hone h63 hbytes hbase ?_;intro v' w' ho' hg hat
 have ho2:Own Flat w' base e v' (xs++ys):=by
  refine⟨css++css',by simp [hl,hl'],fun k cs x h1 h2=> ?_,by rw [zG,yf];exact ho'⟩;rcases zk k css.length with hk|hk
  ·rw [z9 hk]at h1;rw [z9 (by omega)]at h2;exact Rep.keep (hr k cs x h1 h2) (fun p hp=>hp.1.elim) (fun b hb=>hb.1.elim)
  ·rw [zR hk]at h1;rw [zR (by omega)]at h2;exact Rep.keep (hr' (k - css.length) cs x h1 (by rw [hl];exact h2)) (fun p hp=>hp.1.elim) (fun b hb=>hb.1.elim)
 obtain⟨A',c',rfl⟩:=ho2.form;exact h A' _ c' w' ho2 (by simp) hg (Uu (v' :=v) (zE _ _) hbase hown0.from_ hg)
theorem I4 (number:Int) (t:Token):(OL number t).length<=t.text.size+2:=by
 have hg:∀n,(Yg n t).length<=t.text.size+1:=by
  intro n;unfold Yg
  split
  ·simp
  ·rw [iB];have:=Yf t.text;omega
 have h2:=hg 2;have h3:=hg 3;unfold OL
 repeat' split
 all_goals first
  |(simp;done)
  |omega
  |(unfold We;split<;>simp<;>omega)
  |(unfold Qf;split<;>simp<;>omega)
def Zv (number:Int) (toks:List Token):List Token:=toks.flatMap (OL number)
theorem AB (number:Int) (toks:List Token) (k:Nat):(Zv number (toks.take k)).length<=(Zv number toks).length:=by
 unfold Zv
 conv=>rhs;rw [<-zu k toks]
 rw [yS,zG];omega
theorem qZ (d:Nat) (w:O):(Op.equalIn (d+1) 301 .nilFunc .nilFunc).run prog w= .ok true w:=by
 simp [Op.equalIn,run_underlying underlying301]
theorem Uh (d:Nat) (w:O) (k:Fn) (a b:aG):(Op.equalIn (d+1) 301 (.func k a b) .nilFunc).run prog w= .ok false w:=by
 simp [Op.equalIn,run_underlying underlying301]
theorem iG (w:O):(binOp .eql 301 .nilFunc .nilFunc).run prog w= .ok (.bool true) w:=by
 simp only [binOp];simp [Op.equal,Op.maxDepth,qZ 9999 w]
theorem UM (w:O) (k:Fn) (a b:aG):(binOp .eql 301 (.func k a b) .nilFunc).run prog w= .ok (.bool false) w:=by
 simp only [binOp];simp [Op.equal,Op.maxDepth,Uh 9999 w]
theorem LJ (n:Int) (hn:Yx n=true) (A:aA) (m c:Nat) (toks:List Token) (w:O) (hT:Tabs w) (hr:zL w (·<w.heap.size) A m c toks) (hts:∀t∈toks,t.text.size<=1000000000):
 Calls prog 99 #[.int .i64 n,.slice A m c] w fun e w' =>(((Zv n toks).length<=4096/\∃v,e= .returned (.tuple #[v,.int .i64 0])/\Own Flat w' w.heap.size 48 v (Zv n toks))\/(4096<(Zv n toks).length/\e= .returned (.tuple #[.slice none 0 0,.int .i64 84])))/\Below w.heap.size w w' :=by
 obtain⟨i0,hi0,hz0,hz1,hz2⟩:=info_parts Q5;have hcap:=hr.cap;have hlm:=hr.length;have Hr:=zA hr;have Hts:=zA hts;have Hlm:=zA hlm;clear hr hts hlm;have hq1:=iG;have hq2:=UM;go_enter func99,ntmps99;go_wp2_with fail;refine(fA n hn _ hT).mono ?_;rintro e w1 ⟨k,lb,rfl,hf,hb1⟩;obtain⟨ent,hf⟩:=hf;have Hf:=zA hf;have Hb1:=zA hb1;have hs1:=hb1.size;clear hf hb1 hT;go_wp2
 go_loopw [7,16] (fun v i wr=>∃j:Nat,j<=m/\i= .int .i64 j/\Own Flat wr w1.heap.size 48 v (Zv n (toks.take j))/\(Zv n (toks.take j)).length<=4096/\Below w1.heap.size w1 wr) (fun _ i _=>m - (intOf i).toNat)
 case atStart=>exact⟨0,by omega,rfl,Own.nil _ _ _ _,by simp [Zv],zE _ _⟩
 case round=>
  obtain⟨j,hj,rfl,oo,hol,hbw⟩:=hrel;obtain⟨out,hout⟩:=eX (Zv n (toks.take j));rw [hout]at oo hol;obtain⟨Aq,cq,rfl⟩:=oo.form;obtain⟨L,hL⟩:=eX (out.length);rw [hL]at oo hol⊢;have HL:=zA hL;have Hout:=zA hout;have Oo:=zA oo;have Hbw:=zA hbw;have hsw:=hbw.size;clear hL hout oo
  by_cases hlt:j<m
  ·obtain⟨bt,ot,t,rfl,htk,hbt,hel⟩:=Hr.out.at_ hlt
   obtain⟨e0,e1,e2,e3,hok⟩:=Token.at_ hel
   have hsz:=Hts.out t (zD htk.out);have tr:∀x v,w.cell? ⟨bt,x,none⟩=some v->wr.cell? ⟨bt,x,none⟩=some v:=fun x v h=>((Hb1.out.trans (Hbw.out.mono hs1)).cell (p:=⟨bt,x,none⟩) hbt).trans h;have e0:=tr _ _ e0;have e1:=tr _ _ e1;have e2:=tr _ _ e2;have e3:=tr _ _ e3;have Hok:=zA hok;have hol1:=I4 n t;obtain⟨ys,hys⟩:=eX (OL n t)
   have hst:Zv n (toks.take (j+1))=out++ys:=by
    rw [<-Hout.out,<-hys];unfold Zv;rw [zI,htk.out,Option.toList_some,yS,List.flatMap_singleton]
   rw [hys]at hol1;have Hst:=zA hst;have Hys:=zA hys;clear hel hok hbw tr hst hys;go_wp2_with fail;refine(Hf.out _ t (Hbw.out.alloc hsw _) Hok.out hsz).mono ?_;rw [Hys.out];rintro e w2 ⟨vy,rfl,oy,hb2⟩;obtain⟨Ay,cy,rfl⟩:=oy.form;have oo2:=(Oo.out.alloc (.cells #[.string t.text,.int .i64 t.pos,.int .i64 t.from_,.int .i64 t.to_] 48)).on hb2;have hs2:=hb2.size;simp only [World.size_alloc]at hs2
   have Oy:=zA oy;have Oo2:=zA oo2;have Hb2:Hid (Below w1.heap.size w1 w2):=(Hbw.out.alloc hsw _).trans (hb2.mono (by simp;omega));obtain⟨Ly,hLy⟩:=eX (ys.length);rw [hLy]at hol1 Oy⊢;have HLy:=zA hLy;clear oy oo2 hb2 hLy e0 e1 e2 e3
   by_cases hmore:4096<L+Ly
   ·have hfin:4096<(Zv n toks).length:=by
     have h1:=AB n toks (j+1);rw [Hst.out,zG,HL.out,HLy.out]at h1;omega
    have Hfin:=zA hfin;clear hfin
    go_wp2_with (at_builtin
                 go_must (refine gH rfl (.tmp 20) (.tmp 23) _ rfl w1.heap.size 48 i0 _ 40 underlying41 hi0 hz0 hz1 hz2 rfl (.slice Aq L cq) out rfl Oo2.out _ Ay Ly cy ys rfl Oy.out (by rw [HL.out,HLy.out];omega) (by rw [HL.out,HLy.out];omega) (by omega) ?_)
                 rw [HL.out,HLy.out];intro A3 n3 c3 w3 ho3 hn3 hg3 hb3;subst hn3;have Ho3:=zA ho3;have Hb3:=zA hb3;clear ho3 hg3 hb3)
    go_ret2;exact⟨.inr ⟨Hfin.out,rfl⟩,Hb1.out.trans ((Hb2.out.trans Hb3.out).mono hs1)⟩
   ·go_wp2_with (at_builtin
                 go_must (refine gH rfl (.tmp 20) (.tmp 23) _ rfl w1.heap.size 48 i0 _ 40 underlying41 hi0 hz0 hz1 hz2 rfl (.slice Aq L cq) out rfl Oo2.out _ Ay Ly cy ys rfl Oy.out (by rw [HL.out,HLy.out];omega) (by rw [HL.out,HLy.out];omega) (by omega) ?_)
                 rw [HL.out,HLy.out];intro A3 n3 c3 w3 ho3 hn3 hg3 hb3;subst hn3;have Ho3:=zA ho3;have Hb3:=zA hb3;clear ho3 hg3 hb3)
    go_roundw
    case rel=>exact⟨j+1,by omega,by go_num,by rw [Hst.out];exact Ho3.out,by rw [Hst.out,zG,HL.out,HLy.out];omega,Hb2.out.trans Hb3.out⟩
    case measure=>simp [intOf];omega
  ·obtain rfl:j=m:=by omega
   have hfin:Zv n toks=out:=(by rw [<-Hout.out,zF (by have:=Hlm.out;omega)]);have Hfin:=zA hfin;clear hfin hbw;go_wp2;go_ret2;refine⟨.inl ⟨by rw [Hfin.out,HL.out];exact hol,_,rfl,by rw [Hfin.out];exact Oo.out.mono hs1⟩,Hb1.out.trans (Hbw.out.mono hs1)⟩
end Go.Proofs.YtjbhbfaeielbiaaGreatDoor

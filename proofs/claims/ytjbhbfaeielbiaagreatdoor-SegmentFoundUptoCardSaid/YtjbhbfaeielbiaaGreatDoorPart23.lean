import Derived.Test.YtjbhbfaeielbiaaGreatDoorPart18
import Derived.Test.YtjbhbfaeielbiaaGreatDoorRows
import Derived.Lib.LaidU8T
import Derived.PinnedBridge
set_option maxRecDepth 100000
set_option maxHeartbeats 8000000
set_option linter.unusedVariables false
set_option linter.unusedSimpArgs false
namespace Go.Proofs.YtjbhbfaeielbiaaGreatDoor
open Go.Proofs.Tryz
open Rep (rep)
open Go.RowKit
def Zp (t:Token) (p:aE) (n:Nat):Nat->List Token
 |0=> []
 |j+1=>Zp t p n j++ [{t with text:=t.text.extract (p[j]?.getD 0) (p[j+n]?.getD 0)}]
def Yg (n:Nat) (t:Token):List Token:=if (yg t.text).length<=n+1 then [t]else Zp t (yg t.text) n ((yg t.text).length - n)
theorem iB (t:Token) (p:aE) (n j:Nat):(Zp t p n j).length=j:=by
 induction j with
 |zero=>rfl
 |succ j ih=>simp [Zp,ih]
theorem World.drew_heap (w:O):w.drew.heap=w.heap:=rfl
theorem UI (n:Nat) (hn:n<=1000) (Bn:Nat) (t:Token) (ht:t.ok) (hs:t.text.size<=1000000000) (w:O) (hT:Tabs w) (E:Boxed w Bn 3 (.int .i64 (n:Int))):
 Calls prog 291 #[.agg #[.string t.text,.int .i64 t.pos,.int .i64 t.from_,.int .i64 t.to_],.pointer (some ⟨Bn,0,none⟩)] w fun e w' =>∃v,e= .returned v/\Own Flat w' w.heap.size 48 v (Yg n t)/\Below w.heap.size w w' :=by
 obtain⟨i0,ho,hw,hx,hy⟩:=info_parts Q5;have b0:=Blk.new w 48 #[.string t.text,.int .i64 t.pos,.int .i64 t.from_,.int .i64 t.to_];have D:Below w.heap.size w (w.alloc (.cells #[.string t.text,.int .i64 t.pos,.int .i64 t.from_,.int .i64 t.to_] 48)):=(zE _ _).alloc (zC _) _;have B0:=zA b0;have Ht:=zA ht;have HT:=zA (hT.on D);have R:=zA D;have he:=zA E;have h7:=E.lt
 have hb:=Yf t.text;clear b0 ht hT D E;go_enter func291,ntmps291;go_wp2_with fail;refine(Qd t.text (by omega) _ HT.o).mono ?_;rintro e Q ⟨vp,rfl,P,u⟩;obtain⟨Ap,cp,rfl⟩:=P.form;obtain⟨p,hp⟩:=eX (yg t.text);rw [hp]at P hb⊢;have X:(natI p).length=p.length:=by simp [natI]
 rw [X]at P⊢;obtain⟨k,G⟩:=eX (p.length);rw [G]at P hb⊢;have H:=B0.o.below u (by simp);have c0:=H.cell 0;have c1:=H.cell 1;have c2:=H.cell 2;have c3:=H.cell 3;simp only [yF,zf,zj]at c0 c1 c2 c3;have q :=R.o.trans (u.mono R.o.size);have cn:=(Boxed.on he.o q).cell;have g:=zA q;have hv:=u.size;simp only [World.size_alloc]at hv;have B1:=zA H
 have Op:=zA P;have s:=zA G;have Hp:=zA hp;clear H u q P X G hp
 by_cases A:k<=n+1
 ·have f:Yg n t= [t]:=(by unfold Yg;rw [Hp.o,s.o,if_pos A]);have m:=zA f;have hl :(k:Int) - 1<=(n:Int):=(by omega);clear f;go_wp2;go_ret
  refine⟨_,rfl,?_,g.o.alloc g.o.size _⟩;rw [m.o];exact Wm _ _ g.o.size t Ht.o _ rfl _ (by simp)
 ·have f:Yg n t=Zp t p n (k - n):=(by unfold Yg;rw [Hp.o,s.o,if_neg A]);have m:=zA f;have hl :¬(k:Int) - 1<=(n:Int):=(by omega)
  have T:=zA (show(∀i x,p[i]? =some x->x<=t.text.size)/\∀i j a b,p[i]? =some a->p[j]? =some b->i<=j->a<=b by
   rw [<-Hp.o];exact⟨fun i x h=>QQ (zD h),fun i j a b h1 h2 h3=>Xn h1 h2 h3⟩)
  have C0:=zA c0;have C1:=zA c1;have C2:=zA c2;have C3:=zA c3;have Cn:=zA cn;clear f;go_wp2;clear c0 c1 c2 c3 cn
  go_loopw [5,6] (fun v i wr=>∃j:Nat,j+n<=k/\i= .int .i64 j/\Own Flat wr Q.heap.size 48 v (Zp t p n j)/\Below Q.heap.size Q wr) (fun _ i _=>k - (intOf i).toNat)
  case atStart=>exact⟨0,by omega,rfl,Own.nil _ _ _ _,zE _ _⟩
  case round=>
   obtain⟨j,hj,rfl,oo,d⟩:=hrel;have N:=(d.cell (p:=⟨Bn,0,none⟩) (by simp only;omega)).trans Cn.o;obtain⟨y,r⟩:=eX (Zp t p n j);have hlen:=iB t p n j;rw [r]at oo hlen;obtain⟨Aq,cq,rfl⟩:=oo.form;obtain⟨L,hL⟩:=eX (y.length);rw [hL]at oo hlen⊢;have h5:L<=k:=(by omega);have HL:=zA hL;have z:=zA r;have Oo:=zA oo;have l:=zA d;have h9:=d.size;clear hL r oo hlen
   by_cases hu:j+n<k
   ·obtain⟨a,ha⟩:∃a,p[j]? =some a:=⟨_,zB (by have:=s.o;omega)⟩;obtain⟨c,A⟩:∃c,p[j+n]? =some c:=⟨_,zB (by have:=s.o;omega)⟩;obtain⟨gp,C,ca⟩:=YV Op.o ha;subst C;obtain⟨h4,C,cc⟩:=YV Op.o A;cases C;have h6:a<=c:=T.o.2 _ _ _ _ ha A (by omega);have h8:c<=t.text.size:=T.o.1 _ _ A
    have Z:({t with text:=t.text.extract (p[j]?.getD 0) (p[j+n]?.getD 0)}:Token)={t with text:=t.text.extract a c}:=(by rw [ha,A];rfl);have hi:=zA Z;have hg:Hid (Token.ok {t with text:=t.text.extract a c}):=⟨by simp only [yQ];omega,Ht.o.2⟩;have F:=(ye ca);simp only at F;have J:=(d.cell (p:=⟨gp,j,none⟩) F).trans ca;have M:=(d.cell (p:=⟨gp,j+n,none⟩) F).trans cc
    have I:=(d.cell (p:=⟨w.heap.size,0,none⟩) (by simp only;omega)).trans C0.o;have e1:=(d.cell (p:=⟨w.heap.size,1,none⟩) (by simp only;omega)).trans C1.o;have e2:=(d.cell (p:=⟨w.heap.size,2,none⟩) (by simp only;omega)).trans C2.o;have e3:=(d.cell (p:=⟨w.heap.size,3,none⟩) (by simp only;omega)).trans C3.o;have g0:(0:Int)<=(j:Int):=(by omega);have g1:(j:Int)<(k:Int):=(by omega)
    have g2:(j:Int)+(n:Int)<(k:Int):=(by omega);have g3:(0:Int)<=(j:Int)+(n:Int):=(by omega);have g4:((j:Int)+(n:Int)).toNat=j+n:=(by omega);have g5:IntKind.i64.wrap ((j:Int)+(n:Int))=(j:Int)+(n:Int):=IntWalk.i64_in _ (by omega);have g6:(0:Int)<=(a:Int):=(by omega);have g7:(a:Int)<=(c:Int):=(by omega);have g8:(c:Int)<=(t.text.size:Int):=(by omega);have h0:(0:Int)<=(c:Int):=(by omega)
    have B0:=zA (Blk.new wr 48 #[.string t.text,.int .i64 t.pos,.int .i64 t.from_,.int .i64 t.to_]);have E0:=zA I;have En:=zA N;have Ea:=zA J;have Ec:=zA M;clear ha A Z d ca cc;go_wp2;have I:=(yA wr (.cells #[.string t.text,.int .i64 t.pos,.int .i64 t.from_,.int .i64 t.to_] 48) _ (ye I)).trans I
    have N:=(yA wr (.cells #[.string t.text,.int .i64 t.pos,.int .i64 t.from_,.int .i64 t.to_] 48) _ (ye N)).trans N;have J:=(yA wr (.cells #[.string t.text,.int .i64 t.pos,.int .i64 t.from_,.int .i64 t.to_] 48) _ (ye J)).trans J;have M:=(yA wr (.cells #[.string t.text,.int .i64 t.pos,.int .i64 t.from_,.int .i64 t.to_] 48) _ (ye M)).trans M
    refine wp_region_held_drew (S:=(fun w' =>w'.cell? ⟨w.heap.size,0,none⟩=some (.string t.text)/\w'.cell? ⟨Bn,0,none⟩=some (.int .i64 (n:Int))/\w'.cell? ⟨gp,j,none⟩=some (.int .i64 (a:Int))/\w'.cell? ⟨gp,j+n,none⟩=some (.int .i64 (c:Int)))) (by kernel_rfl) ⟨I,N,J,M⟩ (fun hHeld=> ?_);refine hF 0 ?_;refine hF 1 ?_;refine hF 2 ?_;refine hF 3 ?_;refine hF 4 ?_;refine hF 5 ?_;refine hF 6 ?_
    refine hF 7 ?_;refine hF 8 ?_;refine hF 9 ?_;refine hF 10 ?_;refine hF 11 ?_;refine hF 12 ?_;refine hF 13 ?_;refine wpAnyH_ready (rs:= [14]) (by kernel_rfl) (by simp) ?_;refine AllReadyH.cons (o:=_) rfl (fun K hK=> ?_) (AllReadyH.nil);go_simp
    refine hK.o _ _ ⟨(yA _ _ _ (ye E0.o)).trans E0.o,(yA _ _ _ (ye En.o)).trans En.o,(yA _ _ _ (ye Ea.o)).trans Ea.o,(yA _ _ _ (ye Ec.o)).trans Ec.o⟩ (fun hHeld=> ?_);clear hK K
    try simp only [Act.put,sa,s0,s1]
    refine wpAnyH_done (by kernel_rfl) ?_ _;have U:=Blk.new wr 48 #[.string (t.text.extract a c),.int .i64 t.pos,.int .i64 t.from_,.int .i64 t.to_];have f0:=U.cell 0;have f1:=U.cell 1;have f2:=U.cell 2;have f3:=U.cell 3;simp only [yF,zf,zj]at f0 f1 f2 f3
    have B:Hid (Below Q.heap.size wr (wr.alloc (.cells #[.string (t.text.extract a c),.int .i64 t.pos,.int .i64 t.from_,.int .i64 t.to_] 48)).drew):=((zE _ wr).alloc l.o.size _).drew;have hk:Hid (Own Flat (wr.alloc (.cells #[.string (t.text.extract a c),.int .i64 t.pos,.int .i64 t.from_,.int .i64 t.to_] 48)).drew Q.heap.size 48 (.slice Aq L cq) y):=(Oo.o.alloc _).drew
    clear U I e1 e2 e3 N J M
    go_wp2_with (at_builtin
                 go_must (refine rS rfl (.tmp 41) (.tmp 43) _ rfl Q.heap.size 48 i0 _ 40 underlying41 ho hw hx hy rfl (.slice Aq L cq) y rfl (hk.o.alloc _) (wr.heap.size+1) #[.string (t.text.extract a c),.int .i64 t.pos,.int .i64 t.from_,.int .i64 t.to_] {t with text:=t.text.extract a c} rfl (by have hh:=Blk.new (wr.alloc (.cells #[.string (t.text.extract a c),.int .i64 t.pos,.int .i64 t.from_,.int .i64 t.to_] 48)).drew 48 #[.string (t.text.extract a c),.int .i64 t.pos,.int .i64 t.from_,.int .i64 t.to_];simp only [World.drew_heap,World.size_alloc]at hh;exact hh) (Token.rep_of hg.o) (by rw [HL.o];omega) (by rw [HL.o];omega) (by have:=B.o.size;have:=l.o.size;simp at*;omega) ?_)
                 rw [HL.o];intro A3 c3 w3 Y hm W;have hf:=zA Y;have hd:=zA W;clear Y hm W)
    go_roundw
    case rel=>exact⟨j+1,by omega,by go_num,by rw [Zp,z.o,hi.o];exact hf.o,l.o.trans ((B.o.alloc (by have:=l.o.size;have:=B.o.size;omega) _).trans hd.o)⟩
    case measure=>simp [intOf];omega
   ·have hr:Hid (y=Zp t p n (k - n)):=by
     show _=_;rw [<-z.o,show j=k - n by omega]
    have hz :¬(j:Int)+(n:Int)<(k:Int):=(by omega);clear hu d;go_wp2;go_ret
    refine⟨_,rfl,?_,g.o.trans (l.o.mono g.o.size)⟩;rw [m.o,<-hr.o];exact Oo.o.mono g.o.size
def oL:Go.Shelf.Ren:=⟨fun n=>n,fun|5=>5|119=>479|138=>481|139=>482|n=>n,fun|3=>3|4=>4|n=>n⟩
theorem CW:U8Types prog oL:=⟨by kernel_rfl,by kernel_rfl,by kernel_rfl,by kernel_rfl⟩
theorem CY:U8Extra prog oL:=⟨by kernel_rfl,by kernel_rfl,by kernel_rfl,by kernel_rfl,by kernel_rfl,by kernel_rfl,by kernel_rfl⟩
theorem GP:(Rows.laid_unicode_utf8_acceptRanges:DataW Unit)=Lib.acceptData:=by kernel_rfl
theorem rH {w:O} (a:Lib.VarReads prog w "unicode/utf8.first" Rows.laid_unicode_utf8_first) (b:Lib.VarReads prog w "unicode/utf8.acceptRanges" Rows.laid_unicode_utf8_acceptRanges):Tabs w:=
 utf8Tabs_of_readsT CW CY (Pinned.utf8First_eq▸a) (GP▸b)
end Go.Proofs.YtjbhbfaeielbiaaGreatDoor

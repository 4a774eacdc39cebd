import Derived.Test.YtjbhbfaeielbiaaGreatDoorPart18
set_option maxRecDepth 100000
set_option maxHeartbeats 8000000
set_option linter.unusedVariables false
set_option linter.unusedSimpArgs false
namespace Go.Proofs.YtjbhbfaeielbiaaGreatDoor
open Go.Proofs.Tryz
open Rep (rep)
open Go.RowKit
theorem uI {W d:O} {base a c:Nat} {w:aG} {n L i r b q:Nat} {f m l:aA} {k:List Token} {p:aE} (o:Obj) (s:Blk W c 48 w) (u:(Value.slice f L i).ownBlock≠some c) (v:Own Flat W a 3 (.slice m n r) (natI p)) (y:Own Flat W base 48 (.slice f L i) k)
 (t:(W.alloc o).drew.grownBy d (Value.slice f L i).ownBlock) (x:Below base (W.alloc o).drew d) (j:∀g,(Value.slice l b q).ownBlock=some g->(Value.slice f L i).ownBlock=some g\/g=(W.alloc o).drew.heap.size):
 Blk d c 48 w/\Own Flat d a 3 (.slice m n r) (natI p)/\(Value.slice l b q).ownBlock≠some c/\(base<=W.heap.size->Below base W d):=by
 refine⟨(show Blk (W.alloc o).drew c _ _ from s.alloc o).grown t (Ne.symm u),ZA (v.alloc o).drew t (wQ (v.alloc o).drew (y.alloc o).drew (by decide)),fun e=> ?_,fun hB=>((zE base W).alloc hB o).drew.trans x⟩;rcases j _ e with h|h
 ·exact u h
 ·have:=s.lt;simp at h;omega
theorem rW (number:Int) (h1:number≠1) (h2:number≠2) (h3:number≠3) (s:aB) (hs:s.size<=4096) (w:O) (hT:Tabs w):
 Calls prog 98 #[.int .i64 number,.string s] w fun e w' =>∃v,e= .returned v/\Own Flat w' w.heap.size 48 v (WU (Xb s))/\Below w.heap.size w w' :=by
 obtain⟨i0,y6,ad,ae,af⟩:=info_parts Q5;have n1:(number==1)=false:=by simpa using h1
 have n2:(number==2)=false:=by simpa using h2
 have n3:(number==3)=false:=by simpa using h3
 have hlen:=DE s Yq VA;have m:=jB s Yq VA;obtain⟨toks,n⟩:=eX (Xb s);rw [show Xm s Yq VA=toks from n]at hlen m;have he:=zA n;have r:=zA m;have HT:=zA hT;clear hT n m h1 h2 h3;rw [he.o];go_enter func98,ntmps98;go_wp2_with fail;refine(gZ s (by omega) _ HT.o).mono ?_;rw [he.o];rintro e J ⟨v,rfl,ho,hb⟩;obtain⟨At,ct,rfl⟩:=ho.form;obtain⟨nt,h5⟩:=eX (toks.length)
 rw [h5]at ho hlen⊢;have T:zL J (·<J.heap.size) At nt ct toks:=ho.reads.more (fun b h=>h.2);have aj:=T.cap;have hi:=HT.o.on hb;have hd:=zA T;have x6:=zA hb;have x8:=zA hi;have xb:=hb.size;clear ho T hb hi h5;go_wp2_with fail
 go_loopw [6,30] (fun v j wr=>∃k:Nat,k<=nt/\j= .int .i64 k/\Own Flat wr J.heap.size 48 v ((toks.take k).foldl Zg [])/\Below J.heap.size J wr) (fun _ j _=>nt - (intOf j).toNat)
 case atStart=>exact⟨0,zJ _,rfl,Own.nil _ _ _ _,zE _ _⟩
 case round=>
  obtain⟨k,hk,rfl,oo,d⟩:=hrel;obtain⟨o,rfl⟩:∃o:O,o=wr:=⟨_,rfl⟩;obtain⟨l,f⟩:=eX ((toks.take k).foldl Zg []);rw [f]at oo
  by_cases aa:k<nt
  ·obtain⟨bt,ot,t,rfl,n,G,hu⟩:=hd.o.at_ aa
   obtain⟨e0,e1,e2,e3,h7⟩:=Token.at_ hu
   have S:=r.o t (zD n.o);have xn:=S.size;have ao :=(d.cell (p:=⟨bt,ot+k*4,none⟩) G).trans e0;have ap :=(d.cell (p:=⟨bt,ot+k*4+1,none⟩) G).trans e1;have aq :=(d.cell (p:=⟨bt,ot+k*4+2,none⟩) G).trans e2;have ar :=(d.cell (p:=⟨bt,ot+k*4+3,none⟩) G).trans e3;have al:=zA h7;have D:=zA oo;have K:=zA f;have B:=zA d;have ab:=d.size;have ai:=zA S
   have P:=zA xn;clear hu e0 e1 e2 e3 h7 oo f d S xn;have b8:=Blk.new o 48 #[.string t.text,.int .i64 t.pos,.int .i64 t.from_,.int .i64 t.to_];have B8:=zA b8;clear b8;go_wp2_with fail;refine(Qd t.text (by have:=P.o;omega) _ ((x8.o.on B.o).on ((zE _ _).alloc (zC _) _))).mono ?_;rintro e w2 ⟨vp,rfl,W,x⟩;obtain⟨Ap,cp,rfl⟩:=W.form;have h9:=Yf t.text
   obtain⟨p,hp⟩:=eX (yg t.text);rw [hp]at W h9⊢;have h4:(natI p).length=p.length:=(by simp [natI]);rw [h4]at W⊢;obtain⟨z,R⟩:=eX (p.length);rw [R]at W h9⊢;have hf:=B8.o.below x (by simp);have x2:=(D.o.alloc (.cells #[.string t.text,.int .i64 t.pos,.int .i64 t.from_,.int .i64 t.to_] 48)).on x;have x4:=zA hf;have y3:=zA x2;have y4:=zA W
   have ys:Hid (Below o.heap.size o w2):=((zE _ o).alloc (zC _) _).trans (x.mono (by simp));have xi:=x.size;simp only [World.size_alloc]at xi;have Hp:=zA hp;have q:=zA R;clear hf x2 W x hp R h4;have a3:z<=4097:=(by have:=P.o;omega);obtain⟨g,hg⟩:=eX (cG p);have a0:g<=2/\g+1<=z:=(by rw [<-hg];unfold cG;rw [q.o];omega)
   have hy:min 2 ((z:Int) - 1)=(g:Int):=(by rw [<-hg];unfold cG;rw [q.o];omega);have Hg:=zA hg;clear hg;go_wp2_with fail;clear hy
   go_loopw [6,11] (fun v i wi=>∃j:Nat,j+g<=z/\i= .int .i64 j/\Own Flat wi J.heap.size 48 v (ZX t p g l j)/\Own Flat wi (o.heap.size+1) 3 (.slice Ap z cp) (natI p)/\Blk wi o.heap.size 48 #[.string t.text,.int .i64 t.pos,.int .i64 t.from_,.int .i64 t.to_]/\v.ownBlock≠some o.heap.size/\Below J.heap.size J wi/\o.heap.size+1<=wi.heap.size) (fun _ i _=>z - (intOf i).toNat)
   case atStart=>
    refine⟨0,by omega,rfl,y3.o,by simpa using y4.o,x4.o,fun e=> ?_,B.o.trans (ys.o.mono ab),xi⟩;have:=D.o.block_lt e;omega
   case round=>
    obtain⟨j,hj,rfl,oi,x3,hh,h0,hn,a5⟩:=hrel;have Oi:=zA oi;have E:=zA x3;have A:=zA hh;have Y:=zA h0;have C:=zA hn;clear oi x3 hh h0 hn;have xs:=P.o;obtain⟨Aq,cq,rfl⟩:=Oi.o.form;have y:=Vq t p g l j;obtain⟨L,hL⟩:=eX ((ZX t p g l j).length);rw [hL]at Oi Y y⊢;have HL:=zA hL;have ax:L<=l.length+j:=(by omega);have ah:=zA y;clear y
    have a4:l.length<=16793604:=by
     have h1:=AH 4096 (toks.take k) (fun t ht=>by have:=(r.o t (yu ht)).size;omega);unfold WU at h1;rw [K.o]at h1;have h2:(toks.take k).length<=k:=List.length_take_le _ _;have h3:(toks.take k).length*(4096+1)<=4097*4097:=Nat.mul_le_mul (by omega) (by omega);omega
    clear hL
    by_cases y8:j+g<z
    ·obtain⟨a,ha⟩:∃a,p[j]? =some a:=⟨_,zB (by have:=q.o;omega)⟩;obtain⟨c,U⟩:∃c,p[j+g]? =some c:=⟨_,zB (by have:=q.o;omega)⟩;obtain⟨gp,Q,ca⟩:=YV E.o ha;subst Q;obtain⟨aw,Q,cc⟩:=YV E.o U;cases Q;have ay:a<=c:=Xn (s:=t.text) (by rw [Hp.o];exact ha) (by rw [Hp.o];exact U) (by omega);have az:c<=t.text.size:=QQ (s:=t.text) (by rw [Hp.o];exact zD U)
     have h8:dQ t p g L j=⟨t.text.extract a c,L,t.from_+a,t.from_+c⟩:=(by unfold dQ;rw [ha,U];rfl);have Z:=zA h8
     have M:Hid (Token.ok ⟨t.text.extract a c,L,t.from_+a,t.from_+c⟩):=by
      refine⟨?_,?_,?_,?_⟩
      ·simp only [yQ];omega
      all_goals (unfold In64;simp only;omega)
     obtain⟨u,H⟩:=eX (t.from_);rw [H]at xs M Z;have a1:=(ye ca)
     have a2:gp≠o.heap.size:=by
      rintro rfl;obtain⟨_,_,_,hr⟩:=E.o;rcases hr.2 with⟨h,_⟩|⟨g',_,_,h,_,hx,_⟩
      ·cases h
      ·cases h;have:=A.o;unfold Blk at this;rw [this]at hx;simp at hx
     have k0:=A.o.cell 0;have k2:=A.o.cell 2;simp only [yF,zf,zj]at k0 k2;rw [H]at k2;have g0:(0:Int)<=(j:Int):=(by omega);have g1:(j:Int)<(z:Int):=(by omega);have g2:(j:Int)+(g:Int)<(z:Int):=(by omega);have g3:(0:Int)<=(j:Int)+(g:Int):=(by omega);have g4:((j:Int)+(g:Int)).toNat=j+g:=(by omega);have g5:IntKind.i64.wrap ((j:Int)+(g:Int))=(j:Int)+(g:Int):=IntWalk.i64_in _ (by omega)
     have g6:(0:Int)<=(a:Int):=(by omega);have g7:(a:Int)<=(c:Int):=(by omega);have g8:(c:Int)<=(t.text.size:Int):=(by omega);have g9:IntKind.i64.wrap (u+(a:Int))=u+(a:Int):=IntWalk.i64_in _ (by omega);have au:IntKind.i64.wrap (u+(c:Int))=u+(c:Int):=IntWalk.i64_in _ (by omega);have av:(0:Int)<=(c:Int):=(by omega);have Ha:=zA ha;have Hc:=zA U;have y0:=zA H;clear ha U h8 H;go_wp2
     go_region_held3 (fun w' =>w'.cell? ⟨o.heap.size,0,none⟩=some (.string t.text)/\w'.cell? ⟨o.heap.size,2,none⟩=some (.int .i64 u)/\w'.cell? ⟨gp,j,none⟩=some (.int .i64 (a:Int))/\w'.cell? ⟨gp,j+g,none⟩=some (.int .i64 (c:Int))) (go_keep)
      (go_must (
       refine vY rfl (.tmp 49) (.tmp 82) _ rfl J.heap.size 48 i0 _ 40 underlying41 y6 ad ae af rfl (.slice Aq L cq) (ZX t p g l j) rfl (Oi.o.alloc _).drew wr.heap.size #[.string (t.text.extract a c),.int .i64 (L:Int),.int .i64 (u+(a:Int)),.int .i64 (u+(c:Int))] ⟨t.text.extract a c,L,u+a,u+c⟩ rfl (Blk.new _ _ _).drew (Token.rep_of M.o) (by rw [HL.o];omega) (by rw [HL.o];omega) (by have:=C.o.size;simp;omega) ?_
       rw [HL.o];intro A3 c3 w3 h6 hw hl N;obtain⟨F,I,hz,hm⟩:=uI (.cells #[.string (t.text.extract a c),.int .i64 (L:Int),.int .i64 (u+(a:Int)),.int .i64 (u+(c:Int))] 48) A.o Y.o E.o Oi.o hw hl N;have ag:=F.cell 0;have x1:=F.cell 2;simp only [yF,zf,zj]at ag x1;rw [y0.o]at x1;obtain⟨gq,hq,am⟩:=YV I Ha.o;cases hq
       obtain⟨gq,hq,an⟩:=YV I Hc.o;cases hq;have x5:=zA F;have y5:=zA I;have y2:=zA h6;have y1:=zA hz;have X:=zA (hm C.o.size);clear F I h6 hz hm hw hl N))
     go_wp2
     go_roundw
     case rel=>exact⟨j+1,by omega,by go_num,by rw [ZX,HL.o,Z.o];exact y2.o,y5.o,x5.o,y1.o,C.o.trans X.o,by have:=X.o.size;omega⟩
     case measure=>simp [intOf];omega
    ·have y7:Hid (ZX t p g l j=(toks.take (k+1)).foldl Zg []):=by
      show _=_;rw [zI,n.o,Option.toList_some,xE,K.o,List.foldl_cons,List.foldl_nil];unfold Zg;rw [Hp.o,Hg.o,q.o,show j=z - g by omega]
     have ak :¬(j:Int)+(g:Int)<(z:Int):=(by omega);clear y8;go_wp2
     go_roundw
     case rel=>exact⟨k+1,by omega,by go_num,by rw [<-y7.o];exact Oi.o,C.o⟩
     case measure=>simp [intOf];omega
  ·obtain rfl:k=nt:=by omega
   have hv:Hid (l=WU toks):=by
    show _=_;rw [<-f,zF (by have:=hd.o.length;omega)];rfl
   have D:=zA oo;have B:=zA d;clear f oo d;go_wp2;go_ret
   exact⟨_,rfl,by rw [<-hv.o];exact D.o.mono xb,x6.o.trans (B.o.mono xb)⟩
theorem iR (number:Int) (s:aB) (f:s.size<=4096) (w:O) (a:Tabs w):
 Calls prog 98 #[.int .i64 number,.string s] w fun e w' =>∃v,e= .returned v/\Own Flat w' w.heap.size 48 v (xJ number s)/\Below w.heap.size w w' :=by
 by_cases b:number=1
 ·exact Q4 number (.inl b) s (by omega) w a
 by_cases c:number=2
 ·exact Q4 number (.inr (.inl c)) s (by omega) w a
 by_cases d:number=3
 ·exact Q4 number (.inr (.inr d)) s (by omega) w a
 ·have:xJ number s=WU (Xb s):=(by simp [xJ,b,c,d]);rw [this];exact rW number b c d s f w a
end Go.Proofs.YtjbhbfaeielbiaaGreatDoor

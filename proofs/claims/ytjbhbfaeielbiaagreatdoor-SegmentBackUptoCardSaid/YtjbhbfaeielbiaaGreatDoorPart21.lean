import Derived.Test.YtjbhbfaeielbiaaGreatDoorPart18
set_option maxRecDepth 100000
set_option maxHeartbeats 8000000
set_option linter.unusedVariables false
set_option linter.unusedSimpArgs false
namespace Go.Proofs.YtjbhbfaeielbiaaGreatDoor
open Go.Proofs.Tryz
open Rep (rep)
open Go.RowKit
theorem uI {W d:O} {base a c:Nat} {w:aG} {n L i r b q:Nat} {f m l:aA} {k:List Token} {p:aE} (o:Obj) (s:Blk W c 48 w) (u:(Value.slice f L i).ownBlock≠some c) (v:Own Flat W a 3 (.slice m n r) (natI p)) (y:Own Flat W base 48 (.slice f L i) k)
 (t:(W.alloc o).drew.grownBy d (Value.slice f L i).ownBlock) (x:Below base (W.alloc o).drew d) (j:∀g,(Value.slice l b q).ownBlock=some g->(Value.slice f L i).ownBlock=some g\/g=(W.alloc o).drew.heap.size):
 Blk d c 48 w/\Own Flat d a 3 (.slice m n r) (natI p)/\(Value.slice l b q).ownBlock≠some c/\(base<=W.heap.size->Below base W d):=by
 refine⟨(show Blk (W.alloc o).drew c _ _ from s.alloc o).grown t (Ne.symm u),ZA (v.alloc o).drew t (wQ (v.alloc o).drew (y.alloc o).drew (by decide)),fun e=> ?_,fun hB=>((zE base W).alloc hB o).drew.trans x⟩;rcases j _ e with h|h
 ·exact u h
 ·have:=s.lt;simp at h;omega
theorem rW (number:Int) (h1:number≠1) (h2:number≠2) (h3:number≠3) (s:aB) (hs:s.size<=4096) (w:O) (hT:Tabs w):
 Calls prog 98 #[.int .i64 number,.string s] w fun e w' =>∃v,e= .returned v/\Own Flat w' w.heap.size 48 v (WU (Xb s))/\Below w.heap.size w w' :=by
 obtain⟨i0,y5,ab,ad,ae⟩:=info_parts Q5;have n1:(number==1)=false:=by simpa using h1
 have n2:(number==2)=false:=by simpa using h2
 have n3:(number==3)=false:=by simpa using h3
 have hlen:=DE s Yq VA;have m:=jB s Yq VA;obtain⟨toks,n⟩:=eX (Xb s);rw [show Xm s Yq VA=toks from n]at hlen m;have hd:=zA n;have r:=zA m;have HT:=zA hT;clear hT n m h1 h2 h3;rw [hd.o];go_enter func98,ntmps98;go_wp2_with fail;refine(gZ s (by omega) _ HT.o).mono ?_;rw [hd.o];rintro e I ⟨v,rfl,ho,hb⟩;obtain⟨At,ct,rfl⟩:=ho.form;obtain⟨nt,h4⟩:=eX (toks.length)
 rw [h4]at ho hlen⊢;have S:zL I (·<I.heap.size) At nt ct toks:=ho.reads.more (fun b h=>h.2);have ai:=S.cap;have hh:=HT.o.on hb;have Z:=zA S;have x5:=zA hb;have x6:=zA hh;have h9:=hb.size;clear ho S hb hh h4;go_wp2_with fail
 go_loopw [6,30] (fun v j wr=>∃k:Nat,k<=nt/\j= .int .i64 k/\Own Flat wr I.heap.size 48 v ((toks.take k).foldl Zg [])/\Below I.heap.size I wr) (fun _ j _=>nt - (intOf j).toNat)
 case atStart=>exact⟨0,zJ _,rfl,Own.nil _ _ _ _,zE _ _⟩
 case round=>
  obtain⟨k,hk,rfl,oo,d⟩:=hrel;obtain⟨o,rfl⟩:∃o:O,o=wr:=⟨_,rfl⟩;obtain⟨l,f⟩:=eX ((toks.take k).foldl Zg []);rw [f]at oo
  by_cases y8:k<nt
  ·obtain⟨bt,ot,t,rfl,n,F,hn⟩:=Z.o.at_ y8
   obtain⟨e0,e1,e2,e3,h6⟩:=Token.at_ hn
   have R:=r.o t (zD n.o);have xi:=R.size;have an :=(d.cell (p:=⟨bt,ot+k*4,none⟩) F).trans e0;have ao :=(d.cell (p:=⟨bt,ot+k*4+1,none⟩) F).trans e1;have ap :=(d.cell (p:=⟨bt,ot+k*4+2,none⟩) F).trans e2;have aq :=(d.cell (p:=⟨bt,ot+k*4+3,none⟩) F).trans e3;have ak:=zA h6;have C:=zA oo;have J:=zA f;have A:=zA d;have aa:=d.size;have ah:=zA R
   have N:=zA xi;clear hn e0 e1 e2 e3 h6 oo f d R xi;have b8:=Blk.new o 48 #[.string t.text,.int .i64 t.pos,.int .i64 t.from_,.int .i64 t.to_];have B8:=zA b8;clear b8;go_wp2_with fail;refine(Qd t.text (by have:=N.o;omega) _ ((x6.o.on A.o).on ((zE _ _).alloc (zC _) _))).mono ?_;rintro e w2 ⟨vp,rfl,U,u⟩;obtain⟨Ap,cp,rfl⟩:=U.form;have h8:=Yf t.text
   obtain⟨p,hp⟩:=eX (yg t.text);rw [hp]at U h8⊢;have h0:(natI p).length=p.length:=(by simp [natI]);rw [h0]at U⊢;obtain⟨y,Q⟩:=eX (p.length);rw [Q]at U h8⊢;have he:=B8.o.below u (by simp);have x1:=(C.o.alloc (.cells #[.string t.text,.int .i64 t.pos,.int .i64 t.from_,.int .i64 t.to_] 48)).on u;have x3:=zA he;have y2:=zA x1;have y3:=zA U
   have x8:Hid (Below o.heap.size o w2):=((zE _ o).alloc (zC _) _).trans (u.mono (by simp));have xb:=u.size;simp only [World.size_alloc]at xb;have Hp:=zA hp;have q:=zA Q;clear he x1 U u hp Q h0;have a2:y<=4097:=(by have:=N.o;omega);obtain⟨g,hg⟩:=eX (cG p);have az:g<=2/\g+1<=y:=(by rw [<-hg];unfold cG;rw [q.o];omega)
   have hx:min 2 ((y:Int) - 1)=(g:Int):=(by rw [<-hg];unfold cG;rw [q.o];omega);have Hg:=zA hg;clear hg;go_wp2_with fail;clear hx
   go_loopw [6,11] (fun v i wi=>∃j:Nat,j+g<=y/\i= .int .i64 j/\Own Flat wi I.heap.size 48 v (ZX t p g l j)/\Own Flat wi (o.heap.size+1) 3 (.slice Ap y cp) (natI p)/\Blk wi o.heap.size 48 #[.string t.text,.int .i64 t.pos,.int .i64 t.from_,.int .i64 t.to_]/\v.ownBlock≠some o.heap.size/\Below I.heap.size I wi/\o.heap.size+1<=wi.heap.size) (fun _ i _=>y - (intOf i).toNat)
   case atStart=>
    refine⟨0,by omega,rfl,y2.o,by simpa using y3.o,x3.o,fun e=> ?_,A.o.trans (x8.o.mono aa),xb⟩;have:=C.o.block_lt e;omega
   case round=>
    obtain⟨j,hj,rfl,oi,x2,hf,hz,hm,a4⟩:=hrel;have Oi:=zA oi;have D:=zA x2;have z:=zA hf;have X:=zA hz;have B:=zA hm;clear oi x2 hf hz hm;have xn:=N.o;obtain⟨Aq,cq,rfl⟩:=Oi.o.form;have x:=Vq t p g l j;obtain⟨L,hL⟩:=eX ((ZX t p g l j).length);rw [hL]at Oi X x⊢;have HL:=zA hL;have aw:L<=l.length+j:=(by omega);have ag:=zA x;clear x
    have a3:l.length<=16793604:=by
     have h1:=AH 4096 (toks.take k) (fun t ht=>by have:=(r.o t (yu ht)).size;omega);unfold WU at h1;rw [J.o]at h1;have h2:(toks.take k).length<=k:=List.length_take_le _ _;have h3:(toks.take k).length*(4096+1)<=4097*4097:=Nat.mul_le_mul (by omega) (by omega);omega
    clear hL
    by_cases y7:j+g<y
    ·obtain⟨a,ha⟩:∃a,p[j]? =some a:=⟨_,zB (by have:=q.o;omega)⟩;obtain⟨c,T⟩:∃c,p[j+g]? =some c:=⟨_,zB (by have:=q.o;omega)⟩;obtain⟨gp,P,ca⟩:=YV D.o ha;subst P;obtain⟨av,P,cc⟩:=YV D.o T;cases P;have ax:a<=c:=Xn (s:=t.text) (by rw [Hp.o];exact ha) (by rw [Hp.o];exact T) (by omega);have ay:c<=t.text.size:=QQ (s:=t.text) (by rw [Hp.o];exact zD T)
     have h7:dQ t p g L j=⟨t.text.extract a c,L,t.from_+a,t.from_+c⟩:=(by unfold dQ;rw [ha,T];rfl);have Y:=zA h7
     have K:Hid (Token.ok ⟨t.text.extract a c,L,t.from_+a,t.from_+c⟩):=by
      refine⟨?_,?_,?_,?_⟩
      ·simp only [yQ];omega
      all_goals (unfold In64;simp only;omega)
     obtain⟨fr,G⟩:=eX (t.from_);rw [G]at xn K Y;have a0:=(ye ca)
     have a1:gp≠o.heap.size:=by
      rintro rfl;obtain⟨_,_,_,hr⟩:=D.o;rcases hr.2 with⟨h,_⟩|⟨g',_,_,h,_,hw,_⟩
      ·cases h
      ·cases h;have:=z.o;unfold Blk at this;rw [this]at hw;simp at hw
     have k0:=z.o.cell 0;have k2:=z.o.cell 2;simp only [yF,zf,zj]at k0 k2;rw [G]at k2;have g0:(0:Int)<=(j:Int):=(by omega);have g1:(j:Int)<(y:Int):=(by omega);have g2:(j:Int)+(g:Int)<(y:Int):=(by omega);have g3:(0:Int)<=(j:Int)+(g:Int):=(by omega);have g4:((j:Int)+(g:Int)).toNat=j+g:=(by omega);have g5:IntKind.i64.wrap ((j:Int)+(g:Int))=(j:Int)+(g:Int):=IntWalk.i64_in _ (by omega)
     have g6:(0:Int)<=(a:Int):=(by omega);have g7:(a:Int)<=(c:Int):=(by omega);have g8:(c:Int)<=(t.text.size:Int):=(by omega);have g9:IntKind.i64.wrap (fr+(a:Int))=fr+(a:Int):=IntWalk.i64_in _ (by omega);have ar:IntKind.i64.wrap (fr+(c:Int))=fr+(c:Int):=IntWalk.i64_in _ (by omega);have au:(0:Int)<=(c:Int):=(by omega);have Ha:=zA ha;have Hc:=zA T;have ys:=zA G;clear ha T h7 G;go_wp2
     go_region_held3 (fun w' =>w'.cell? ⟨o.heap.size,0,none⟩=some (.string t.text)/\w'.cell? ⟨o.heap.size,2,none⟩=some (.int .i64 fr)/\w'.cell? ⟨gp,j,none⟩=some (.int .i64 (a:Int))/\w'.cell? ⟨gp,j+g,none⟩=some (.int .i64 (c:Int))) (go_keep)
      (go_must (
       refine vY rfl (.tmp 49) (.tmp 82) _ rfl I.heap.size 48 i0 _ 40 underlying41 y5 ab ad ae rfl (.slice Aq L cq) (ZX t p g l j) rfl (Oi.o.alloc _).drew wr.heap.size #[.string (t.text.extract a c),.int .i64 (L:Int),.int .i64 (fr+(a:Int)),.int .i64 (fr+(c:Int))] ⟨t.text.extract a c,L,fr+a,fr+c⟩ rfl (Blk.new _ _ _).drew (Token.rep_of K.o) (by rw [HL.o];omega) (by rw [HL.o];omega) (by have:=B.o.size;simp;omega) ?_
       rw [HL.o];intro A3 c3 w3 h5 hv hi M;obtain⟨E,H,hy,hl⟩:=uI (.cells #[.string (t.text.extract a c),.int .i64 (L:Int),.int .i64 (fr+(a:Int)),.int .i64 (fr+(c:Int))] 48) z.o X.o D.o Oi.o hv hi M;have af:=E.cell 0;have xs:=E.cell 2;simp only [yF,zf,zj]at af xs;rw [ys.o]at xs;obtain⟨gq,hq,al⟩:=YV H Ha.o;cases hq
       obtain⟨gq,hq,am⟩:=YV H Hc.o;cases hq;have x4:=zA E;have y4:=zA H;have y1:=zA h5;have y0:=zA hy;have W:=zA (hl B.o.size);clear E H h5 hy hl hv hi M))
     go_wp2
     go_roundw
     case rel=>exact⟨j+1,by omega,by go_num,by rw [ZX,HL.o,Y.o];exact y1.o,y4.o,x4.o,y0.o,B.o.trans W.o,by have:=W.o.size;omega⟩
     case measure=>simp [intOf];omega
    ·have y6:Hid (ZX t p g l j=(toks.take (k+1)).foldl Zg []):=by
      show _=_;rw [zI,n.o,Option.toList_some,xE,J.o,List.foldl_cons,List.foldl_nil];unfold Zg;rw [Hp.o,Hg.o,q.o,show j=y - g by omega]
     have aj :¬(j:Int)+(g:Int)<(y:Int):=(by omega);clear y7;go_wp2
     go_roundw
     case rel=>exact⟨k+1,by omega,by go_num,by rw [<-y6.o];exact Oi.o,B.o⟩
     case measure=>simp [intOf];omega
  ·obtain rfl:k=nt:=by omega
   have hu:Hid (l=WU toks):=by
    show _=_;rw [<-f,zF (by have:=Z.o.length;omega)];rfl
   have C:=zA oo;have A:=zA d;clear f oo d;go_wp2;go_ret
   exact⟨_,rfl,by rw [<-hu.o];exact C.o.mono h9,x5.o.trans (A.o.mono h9)⟩
theorem iR (number:Int) (s:aB) (f:s.size<=4096) (w:O) (a:Tabs w):
 Calls prog 98 #[.int .i64 number,.string s] w fun e w' =>∃v,e= .returned v/\Own Flat w' w.heap.size 48 v (xJ number s)/\Below w.heap.size w w' :=by
 by_cases b:number=1
 ·exact Q4 number (.inl b) s (by omega) w a
 by_cases c:number=2
 ·exact Q4 number (.inr (.inl c)) s (by omega) w a
 by_cases d:number=3
 ·exact Q4 number (.inr (.inr d)) s (by omega) w a
 ·have:xJ number s=WU (Xb s):=(by simp [xJ,b,c,d]);rw [this];exact rW number b c d s f w a
end Go.Proofs.YtjbhbfaeielbiaaGreatDoor

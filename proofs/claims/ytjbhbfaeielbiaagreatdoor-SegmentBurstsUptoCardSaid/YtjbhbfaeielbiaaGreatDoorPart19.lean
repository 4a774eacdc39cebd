import Derived.Test.YtjbhbfaeielbiaaGreatDoorPart18
set_option maxRecDepth 100000
set_option maxHeartbeats 8000000
set_option linter.unusedVariables false
set_option linter.unusedSimpArgs false
namespace Go.Proofs.YtjbhbfaeielbiaaGreatDoor
open Tryz
open Rep (rep)
open Go.RowKit
theorem uI {W w3:O} {base base2 B8:Nat} {t8:aG} {n L cq cp A3n c3:Nat} {Aq Ap A3:aA} {out:List Token} {p:aE} (o:Obj) (h8:Blk W B8 48 t8) (hn:(Value.slice Aq L cq).ownBlock≠some B8) (hp:Own Flat W base2 3 (.slice Ap n cp) (natI p)) (ho:Own Flat W base 48 (.slice Aq L cq) out)
 (hg:(W.alloc o).drew.grownBy w3 (Value.slice Aq L cq).ownBlock) (hb:Below base (W.alloc o).drew w3) (hat:∀g,(Value.slice A3 A3n c3).ownBlock=some g->(Value.slice Aq L cq).ownBlock=some g\/g=(W.alloc o).drew.heap.size):
 Blk w3 B8 48 t8/\Own Flat w3 base2 3 (.slice Ap n cp) (natI p)/\(Value.slice A3 A3n c3).ownBlock≠some B8/\(base<=W.heap.size->Below base W w3):=by
 refine⟨(show Blk (W.alloc o).drew B8 _ _ from h8.alloc o).grown hg (Ne.symm hn),ZA (hp.alloc o).drew hg (wQ (hp.alloc o).drew (ho.alloc o).drew (by decide)),fun e=> ?_,fun hB=>((zE base W).alloc hB o).drew.trans hb⟩;rcases hat _ e with h|h
 ·exact hn h
 ·have:=h8.lt;simp at h;omega
theorem rW (number:Int) (h1:number≠1) (h2:number≠2) (h3:number≠3) (s:aB) (hs:s.size<=4096) (w:O) (hT:Tabs w):
 Calls prog 98 #[.int .i64 number,.string s] w fun e w' =>∃v,e= .returned v/\Own Flat w' w.heap.size 48 v (WU (Xb s))/\Below w.heap.size w w' :=by
 obtain⟨i0,hi0,hz0,hz1,hz2⟩:=info_parts Q5;have n1:(number==1)=false:=by simpa using h1
 have n2:(number==2)=false:=by simpa using h2
 have n3:(number==3)=false:=by simpa using h3
 have hlen:=DE s Yq VA;have hpart:=jB s Yq VA;obtain⟨toks,htk⟩:=eX (Xb s);rw [show Xm s Yq VA=toks from htk]at hlen hpart;have Htk:=zA htk;have Hpart:=zA hpart;have HT:=zA hT;clear hT htk hpart h1 h2 h3;rw [Htk.out];go_enter func98,ntmps98;go_wp2_with fail;refine(gZ s (by omega) _ HT.out).mono ?_;rw [Htk.out];rintro e w1 ⟨v,rfl,ho,hb⟩;obtain⟨At,ct,rfl⟩:=ho.form;obtain⟨nt,hnt⟩:=eX (toks.length)
 rw [hnt]at ho hlen⊢;have hrd:zL w1 (·<w1.heap.size) At nt ct toks:=ho.reads.more (fun b h=>h.2);have hcap:=hrd.cap;have hTW:=HT.out.on hb;have Hrd:=zA hrd;have HB1:=zA hb;have HT1:=zA hTW;have hs1:=hb.size;clear ho hrd hb hTW hnt;go_wp2_with fail
 go_loopw [6,30] (fun v j wr=>∃k:Nat,k<=nt/\j= .int .i64 k/\Own Flat wr w1.heap.size 48 v ((toks.take k).foldl Zg [])/\Below w1.heap.size w1 wr) (fun _ j _=>nt - (intOf j).toNat)
 case atStart=>exact⟨0,zJ _,rfl,Own.nil _ _ _ _,zE _ _⟩
 case round=>
  obtain⟨k,hk,rfl,oo,hbw⟩:=hrel;obtain⟨wo,rfl⟩:∃wo:O,wo=wr:=⟨_,rfl⟩;obtain⟨out,hout⟩:=eX ((toks.take k).foldl Zg []);rw [hout]at oo
  by_cases hlt:k<nt
  ·obtain⟨bt,ot,t,rfl,htk,hbt,hel⟩:=Hrd.out.at_ hlt
   obtain⟨e0,e1,e2,e3,hok⟩:=Token.at_ hel
   have hpt:=Hpart.out t (zD htk.out);have hsz:=hpt.size;have e0' :=(hbw.cell (p:=⟨bt,ot+k*4,none⟩) hbt).trans e0;have e1' :=(hbw.cell (p:=⟨bt,ot+k*4+1,none⟩) hbt).trans e1;have e2' :=(hbw.cell (p:=⟨bt,ot+k*4+2,none⟩) hbt).trans e2;have e3' :=(hbw.cell (p:=⟨bt,ot+k*4+3,none⟩) hbt).trans e3;have Hok:=zA hok;have Hoo:=zA oo;have Hout:=zA hout;have HBw:=zA hbw;have hsw:=hbw.size;have Hptk:=zA hpt
   have Hsz:=zA hsz;clear hel e0 e1 e2 e3 hok oo hout hbw hpt hsz;have b8:=Blk.new wo 48 #[.string t.text,.int .i64 t.pos,.int .i64 t.from_,.int .i64 t.to_];have B8:=zA b8;clear b8;go_wp2_with fail;refine(Qd t.text (by have:=Hsz.out;omega) _ ((HT1.out.on HBw.out).on ((zE _ _).alloc (zC _) _))).mono ?_;rintro e w2 ⟨vp,rfl,op,hb2⟩;obtain⟨Ap,cp,rfl⟩:=op.form;have hpl:=Yf t.text
   obtain⟨p,hp⟩:=eX (yg t.text);rw [hp]at op hpl⊢;have hnl:(natI p).length=p.length:=(by simp [natI]);rw [hnl]at op⊢;obtain⟨np,hnp⟩:=eX (p.length);rw [hnp]at op hpl⊢;have b82:=B8.out.below hb2 (by simp);have oo2:=(Hoo.out.alloc (.cells #[.string t.text,.int .i64 t.pos,.int .i64 t.from_,.int .i64 t.to_] 48)).on hb2;have B82:=zA b82;have Oo2:=zA oo2;have Op2:=zA op
   have Hb2:Hid (Below wo.heap.size wo w2):=((zE _ wo).alloc (zC _) _).trans (hb2.mono (by simp));have hs2:=hb2.size;simp only [World.size_alloc]at hs2;have Hp:=zA hp;have Hnp:=zA hnp;clear b82 oo2 op hb2 hp hnp hnl;have hnb:np<=4097:=(by have:=Hsz.out;omega);obtain⟨g,hg⟩:=eX (cG p);have hg2:g<=2/\g+1<=np:=(by rw [<-hg];unfold cG;rw [Hnp.out];omega)
   have hmin:min 2 ((np:Int) - 1)=(g:Int):=(by rw [<-hg];unfold cG;rw [Hnp.out];omega);have Hg:=zA hg;clear hg;go_wp2_with fail;clear hmin
   go_loopw [6,11] (fun v i wi=>∃j:Nat,j+g<=np/\i= .int .i64 j/\Own Flat wi w1.heap.size 48 v (ZX t p g out j)/\Own Flat wi (wo.heap.size+1) 3 (.slice Ap np cp) (natI p)/\Blk wi wo.heap.size 48 #[.string t.text,.int .i64 t.pos,.int .i64 t.from_,.int .i64 t.to_]/\v.ownBlock≠some wo.heap.size/\Below w1.heap.size w1 wi/\wo.heap.size+1<=wi.heap.size) (fun _ i _=>np - (intOf i).toNat)
   case atStart=>
    refine⟨0,by omega,rfl,Oo2.out,by simpa using Op2.out,B82.out,fun e=> ?_,HBw.out.trans (Hb2.out.mono hsw),hs2⟩;have:=Hoo.out.block_lt e;omega
   case round=>
    obtain⟨j,hj,rfl,oi,opi,b8i,hni,hbi,hsi⟩:=hrel;have Oi:=zA oi;have Opi:=zA opi;have B8i:=zA b8i;have Hni:=zA hni;have Hbi:=zA hbi;clear oi opi b8i hni hbi;have hsz2:=Hsz.out;obtain⟨Aq,cq,rfl⟩:=Oi.out.form;have hpl2:=Vq t p g out j;obtain⟨L,hL⟩:=eX ((ZX t p g out j).length);rw [hL]at Oi Hni hpl2⊢;have HL:=zA hL;have hLb:L<=out.length+j:=(by omega);have Hpl2:=zA hpl2;clear hpl2
    have hol:out.length<=16793604:=by
     have h1:=AH 4096 (toks.take k) (fun t ht=>by have:=(Hpart.out t (yu ht)).size;omega);unfold WU at h1;rw [Hout.out]at h1;have h2:(toks.take k).length<=k:=List.length_take_le _ _;have h3:(toks.take k).length*(4096+1)<=4097*4097:=Nat.mul_le_mul (by omega) (by omega);omega
    clear hL
    by_cases hjt:j+g<np
    ·obtain⟨a,ha⟩:∃a,p[j]? =some a:=⟨_,zB (by have:=Hnp.out;omega)⟩;obtain⟨c,hc⟩:∃c,p[j+g]? =some c:=⟨_,zB (by have:=Hnp.out;omega)⟩;obtain⟨gp,hAp,ca⟩:=YV Opi.out ha;subst hAp;obtain⟨gp',hAp,cc⟩:=YV Opi.out hc;cases hAp;have hac:a<=c:=Xn (s:=t.text) (by rw [Hp.out];exact ha) (by rw [Hp.out];exact hc) (by omega);have hcs:c<=t.text.size:=QQ (s:=t.text) (by rw [Hp.out];exact zD hc)
     have hpc:dQ t p g L j=⟨t.text.extract a c,L,t.from_+a,t.from_+c⟩:=(by unfold dQ;rw [ha,hc];rfl);have Hpc:=zA hpc
     have Htok:Hid (Token.ok ⟨t.text.extract a c,L,t.from_+a,t.from_+c⟩):=by
      refine⟨?_,?_,?_,?_⟩
      ·simp only [yQ];omega
      all_goals (unfold In64;simp only;omega)
     obtain⟨fr,hfr⟩:=eX (t.from_);rw [hfr]at hsz2 Htok Hpc;have hgl:=(ye ca)
     have hgn:gp≠wo.heap.size:=by
      rintro rfl;obtain⟨_,_,_,hr⟩:=Opi.out;rcases hr.2 with⟨h,_⟩|⟨g',_,_,h,_,hgb,_⟩
      ·cases h
      ·cases h;have:=B8i.out;unfold Blk at this;rw [this]at hgb;simp at hgb
     have k0:=B8i.out.cell 0;have k2:=B8i.out.cell 2;simp only [yF,zf,zj]at k0 k2;rw [hfr]at k2;have g0:(0:Int)<=(j:Int):=(by omega);have g1:(j:Int)<(np:Int):=(by omega);have g2:(j:Int)+(g:Int)<(np:Int):=(by omega);have g3:(0:Int)<=(j:Int)+(g:Int):=(by omega);have g4:((j:Int)+(g:Int)).toNat=j+g:=(by omega);have g5:IntKind.i64.wrap ((j:Int)+(g:Int))=(j:Int)+(g:Int):=IntWalk.i64_in _ (by omega)
     have g6:(0:Int)<=(a:Int):=(by omega);have g7:(a:Int)<=(c:Int):=(by omega);have g8:(c:Int)<=(t.text.size:Int):=(by omega);have g9:IntKind.i64.wrap (fr+(a:Int))=fr+(a:Int):=IntWalk.i64_in _ (by omega);have g10:IntKind.i64.wrap (fr+(c:Int))=fr+(c:Int):=IntWalk.i64_in _ (by omega);have g11:(0:Int)<=(c:Int):=(by omega);have Ha:=zA ha;have Hc:=zA hc;have Hfr:=zA hfr;clear ha hc hpc hfr;go_wp2
     go_region_held3 (fun w' =>w'.cell? ⟨wo.heap.size,0,none⟩=some (.string t.text)/\w'.cell? ⟨wo.heap.size,2,none⟩=some (.int .i64 fr)/\w'.cell? ⟨gp,j,none⟩=some (.int .i64 (a:Int))/\w'.cell? ⟨gp,j+g,none⟩=some (.int .i64 (c:Int))) (go_keep)
      (go_must (
       refine vY rfl (.tmp 49) (.tmp 82) _ rfl w1.heap.size 48 i0 _ 40 underlying41 hi0 hz0 hz1 hz2 rfl (.slice Aq L cq) (ZX t p g out j) rfl (Oi.out.alloc _).drew wr.heap.size #[.string (t.text.extract a c),.int .i64 (L:Int),.int .i64 (fr+(a:Int)),.int .i64 (fr+(c:Int))] ⟨t.text.extract a c,L,fr+a,fr+c⟩ rfl (Blk.new _ _ _).drew (Token.rep_of Htok.out) (by rw [HL.out];omega) (by rw [HL.out];omega) (by have:=Hbi.out.size;simp;omega) ?_
       rw [HL.out];intro A3 c3 w3 ho3 hg3 hb3 hat3;obtain⟨b83,op3,hn3,hb4⟩:=uI (.cells #[.string (t.text.extract a c),.int .i64 (L:Int),.int .i64 (fr+(a:Int)),.int .i64 (fr+(c:Int))] 48) B8i.out Hni.out Opi.out Oi.out hg3 hb3 hat3;have k03:=b83.cell 0;have k23:=b83.cell 2;simp only [yF,zf,zj]at k03 k23;rw [Hfr.out]at k23;obtain⟨gq,hq,ca3⟩:=YV op3 Ha.out;cases hq
       obtain⟨gq,hq,cc3⟩:=YV op3 Hc.out;cases hq;have B83:=zA b83;have Op3:=zA op3;have Ho3:=zA ho3;have Hn3:=zA hn3;have Hb4:=zA (hb4 Hbi.out.size);clear b83 op3 ho3 hn3 hb4 hg3 hb3 hat3))
     go_wp2
     go_roundw
     case rel=>exact⟨j+1,by omega,by go_num,by rw [ZX,HL.out,Hpc.out];exact Ho3.out,Op3.out,B83.out,Hn3.out,Hbi.out.trans Hb4.out,by have:=Hb4.out.size;omega⟩
     case measure=>simp [intOf];omega
    ·have hjq:Hid (ZX t p g out j=(toks.take (k+1)).foldl Zg []):=by
      show _=_;rw [zI,htk.out,Option.toList_some,xE,Hout.out,List.foldl_cons,List.foldl_nil];unfold Zg;rw [Hp.out,Hg.out,Hnp.out,show j=np - g by omega]
     have hjt' :¬(j:Int)+(g:Int)<(np:Int):=(by omega);clear hjt;go_wp2
     go_roundw
     case rel=>exact⟨k+1,by omega,by go_num,by rw [<-hjq.out];exact Oi.out,Hbi.out⟩
     case measure=>simp [intOf];omega
  ·obtain rfl:k=nt:=by omega
   have hfin:Hid (out=WU toks):=by
    show _=_;rw [<-hout,zF (by have:=Hrd.out.length;omega)];rfl
   have Hoo:=zA oo;have HBw:=zA hbw;clear hout oo hbw;go_wp2;go_ret
   exact⟨_,rfl,by rw [<-hfin.out];exact Hoo.out.mono hs1,HB1.out.trans (HBw.out.mono hs1)⟩
theorem iR (number:Int) (s:aB) (hs:s.size<=4096) (w:O) (hT:Tabs w):
 Calls prog 98 #[.int .i64 number,.string s] w fun e w' =>∃v,e= .returned v/\Own Flat w' w.heap.size 48 v (xJ number s)/\Below w.heap.size w w' :=by
 by_cases h1:number=1
 ·exact Q4 number (.inl h1) s (by omega) w hT
 by_cases h2:number=2
 ·exact Q4 number (.inr (.inl h2)) s (by omega) w hT
 by_cases h3:number=3
 ·exact Q4 number (.inr (.inr h3)) s (by omega) w hT
 ·have:xJ number s=WU (Xb s):=(by simp [xJ,h1,h2,h3]);rw [this];exact rW number h1 h2 h3 s hs w hT
end Go.Proofs.YtjbhbfaeielbiaaGreatDoor

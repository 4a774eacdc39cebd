import Derived.Test.YtjbhbfaeielbiaaGreatDoorPart31
import Derived.Test.YtjbhbfaeielbiaaGreatDoorPart30
import Derived.Test.YtjbhbfaeielbiaaGreatDoorPart29
set_option maxRecDepth 100000
set_option maxHeartbeats 8000000
set_option linter.unusedVariables false
set_option linter.unusedSimpArgs false
namespace Go.Proofs.YtjbhbfaeielbiaaGreatDoor
open Go.Proofs.Tryz
open Rep (rep)
open Go.RowKit
attribute [local go_sem ↓] zU zV
abbrev OH:=aC×Int×Int×Int
def nP (n:Nat):Nat:=(n+7) / 8
def blkE (ps:List PostD) (k:Nat):OH:=(Yu (blkP ps (k*8)) (ZD ps (k*8)),ZD ps (k*8),ZD ps (k*8+8),((blkP ps (k*8)).length:Int))
def pBl (ps:List PostD):List OH:=(List.range (nP ps.length)).map (blkE ps)
theorem p9 {ps:List PostD} {k:Nat} (h:k*8<ps.length):(pBl ps)[k]? =some (blkE ps k):=by
 unfold pBl;rw [zH,zq (by unfold nP;omega)];rfl
theorem L1:Elt prog 117 121 4 48:=xt underlying117 (by decide) (by kernel_rfl)
theorem VD {ps:List PostD} (h:xk ps=true) (x:Nat):∃a,a<=1048576/\xa (ZD ps x) a (blkP ps x)=true:=by
 have f:∀(x:Nat) (l:List PostD) (last:Int) (all:Nat),all<=1048576->xa last all l=true->∃a,a<=1048576/\xa (endD (l.take x) last) a (l.drop x)=true:=by
  intro x
  induction x with
  |zero=>intro l last all d h;exact⟨all,d,by simpa [endD]using h⟩
  |succ x ih=>
   intro l last all d h;cases l with
   |nil=>exact⟨all,d,by simpa [endD]using h⟩
   |cons p l=>
    simp only [xa,Yv,zM,decide_eq_true_eq]at h;obtain⟨a,b,c⟩:=ih l p.doc (all+p.pos.length) (by omega) h.2;refine⟨a,b,?_⟩
    have e:endD ((p::l).take (x+1)) last=endD (l.take x) p.doc:=by
     have:=XA [p] (l.take x) last;rw [xL]
     simpa [endD]using this.symm
    rw [e];exact c
 obtain⟨a,b,c⟩:=f x ps (-1) 0 (by omega) h;exact⟨a,b,Qa 8 c⟩
theorem XQ {w:O} {L:List Asn} {p z:Nat} {pre s post:aC} (h:Sp w (RdA p (rsAt pre (s++post))::L)) (g:s.length=z) (a:z<=4611686018427387904):
 Calls prog 76 #[.pointer (some ⟨p,0,none⟩),.int .i64 (z:Int)] w fun e w' =>∃A',e= .returned (.slice A' z z)/\Sp w' (BA A' z z s::RdA p (rsAt (pre++s) post)::L):=by
 subst g;have c:=oT h s.length a;rw [X4]at c;refine c.mono ?_;rintro e w' ⟨A',k,d,b⟩;have f:k=s.length:=(b.rb (.head _)).1.len.symm;subst f;exact⟨A',d,b⟩
theorem wO (A:aA) (nb c:Nat) (ps:List PostD) (w:O) (hc:nb<=c) (a6:c<=9223372036854775807) (a8:nb<=100000000000000) (hl:RB w A nb (YB ps)) (hr:xk ps=true):
 Calls prog 150 #[.slice A nb c] w fun e w' =>∃D,e= .returned (.tuple #[.pointer (some ⟨D,0,none⟩),.int .i64 0])/\Sp w' [DatA (.pointer (some ⟨D,0,none⟩)) (Ptr.mk (some (pBl ps,(ps.length:Int)))),OldA w.heap.size w]:=by
 obtain⟨n,hn⟩:=eX (ps.length);obtain⟨hg,E,x5⟩:=QN hr;rw [hn]at x5;have Hl:=zA hl;have hb:=zA hl.len;have Hr:=zA hr;have y7:=zA hg;have Hn:=zA hn;have HN:=zA (VG (c:=c) (Sp.start w) hl (by omega));rw [hn];clear hl hr hg E hn;go_enter func150,ntmps150;go_wp2_with fail;refine HN.o.mono ?_;rintro e w1 ⟨p,rfl,v⟩
 have t:Sp w1 [RdA p (rsAt [] (zP n++Qx ps 0)),OldA w.heap.size w]:=by
  rw [dP Hr.o,Hn.o]at v
  simpa [rsAt]using v
 have HR:=zA (ZH t 16384 (by omega));rw [yn (by omega) x5]at HR;clear v t;go_wp2_with fail;refine HR.o.mono ?_;rintro e w2 ⟨rfl,t⟩;obtain⟨D,hD⟩:=eX (w2.heap.size);have L:=((((t.blkH 119 #[.slice none 0 0,.int .i64 (n:Int)] hD).elsNil (α:=PostD)).nil 116 2).elsNil (α:=OH)).nil 121 4;go_wp2
 go_loopg [6,7,8] (nP n) (fun gk v6 v7 vi wr=>∃(k i q:Nat) (Q A6:aA) (X c6:Nat) (d f:List aF) (last:Int) (pre:aC),Hid (i=k*8)/\vi= .int .i64 (i:Int)/\k<=nP n/\gk=nP n - k/\v6= .slice A6 q c6/\v7= .int .i64 last/\Hid (q=min i n)/\Hid (last=ZD ps (k*8))/\Hid (pre++Qx ps k=YB ps)/\
  Sp wr [BlkA D 119 #[.slice Q k X,.int .i64 (n:Int)],RowA 121 4 (.slice Q k X) k d.flatten,ElsA d ((pBl ps).take k),RowA 116 2 (.slice A6 q c6) q f.flatten,ElsA f (ps.take (k*8)),RdA p (rsAt pre (Qx ps k)),OldA w.heap.size w])
 case atStart=>exact⟨0,0,0,none,none,0,0, [], [], -1,zP n,rfl,rfl,zJ _,rfl,rfl,rfl,by show _=_;omega,rfl,by show _=_;rw [dP Hr.o,Hn.o],by
  have h:=L.sel [4,0,1,2,3,5,6];exact h⟩
 case round=>
  obtain⟨k,i,q,Q,A6,X,c6,d,f,last,pre,Hi,rfl,hk,rfl,rfl,rfl,Hq,R,HP,HS⟩:=hrel;clear t L;have ah:=HS.cl M0 1;have ak:=Hi.o
  by_cases hg:i<n
  ·obtain⟨rows,B⟩:=eX (Yu (blkP ps (k*8)) (ZD ps (k*8)));obtain⟨z,hz⟩:=eX (rows.length);obtain⟨s,Y⟩:=eX (ZD ps (k*8+8));obtain⟨rest,y⟩:=eX (Qx ps (k+1));obtain⟨df,hf⟩:=eX ((ZD ps (k*8+8) - ZD ps (k*8)).toNat);have F:=wM (ps:=ps) (k:=k) (by rw [Hn.o];omega);unfold blkL at F;rw [B,hz,hf,y]at F;have xn:=nI Hr.o (k*8);have Z:=QS Hr.o (k*8)
   have xi:=QS Hr.o (k*8+8);rw [Y,<-R.o]at xn hf;rw [<-R.o]at Z;rw [Y]at xi
   have y2:z<=nb:=by
    have h:=congrArg List.length HP.o;rw [hb.o,F]at h;simp only [zG]at h;omega
   have y1:z<=4611686018427387904:=(by omega);have a5:z<=100000000000000:=(by omega);have av:last+(df:Int)=s:=(by omega);have a0:=Z.1;have a1:=Z.2;have h7:df<=16384:=(by omega);have hp:=zA (ZH HS.p5 nb (by omega));rw [F,zO,yn (by omega) y2]at hp;obtain⟨m,hm⟩:=eX ((blkP ps (k*8)).length);have x4:m=min 8 (n - i):=(by rw [<-hm];unfold blkP;rw [zr,ze,Hn.o,Hi.o])
   have he:=zA x4;obtain⟨nd,ap⟩:=eX (n - i);have aq:IntKind.i64.wrap ((n:Int) - (i:Int))=(nd:Int):=(by rw [zT];omega);have x8:(n:Int) - (i:Int)=(nd:Int):=(by omega);have ys:IntKind.i64.wrap (nd:Int)=(nd:Int):=(by rw [zT];omega);have ao:min 8 (nd:Int)=(m:Int):=(by omega);have az :(i:Int)<n:=(by omega);have P:=zA B;have Hz:=zA hz;have hd:=zA Y;have N:=zA y
   have Hm:=zA hm;have ad:=zA F;clear ak ap B hz Y y F hm x4 Z xi hf xn y2;go_wp2_with fail;refine hp.o.mono ?_;rintro e w3 ⟨rfl,L⟩;have hs:=zA (ZH L 16384 (by omega));rw [zO,yn (by omega) h7]at hs;go_wp2_with fail;refine hs.o.mono ?_;rintro e w4 ⟨rfl,T⟩;clear L;clear HS;obtain⟨j,af⟩:=eX (w4.heap.size)
   have M:=((T.blkH 121 #[.slice none 0 0,.int .i64 0,.int .i64 0,.int .i64 0] af).drew).p1;go_upto_region 10 with fail
   go_cut [11]from 38 to 50 (fun au W=>∃j l,au= .pointer (some ⟨j,0,none⟩)/\Sp W [BlkA j 121 #[.slice l z z,.int .i64 last,.int .i64 s,.int .i64 (m:Int)],BA l z z rows,RdA p (rsAt (pre++zP z++zP df++rows) rest),BlkA D 119 #[.slice Q k X,.int .i64 (n:Int)],RowA 121 4 (.slice Q k X) k d.flatten,ElsA d ((pBl ps).take k),RowA 116 2 (.slice A6 q c6) q f.flatten,ElsA f (ps.take (k*8)),OldA w.heap.size w])
   case first=>
    have ai:=T.cl M1 1;have ay:w4.drew.cell? ⟨D,1,none⟩=some (.int .i64 (n:Int)):=ai;have ax:(w4.alloc (.cells #[.slice none 0 0,.int .i64 0,.int .i64 0,.int .i64 0] 121)).drew.cell? ⟨D,1,none⟩=some (.int .i64 (n:Int)):=M.cell M2 1
    go_region_held3 (fun W=>W.cell? ⟨D,1,none⟩=some (.int .i64 (n:Int))) (first|with_reducible assumption|with_reducible exact h6 _|go_keep|fail)
     (first
      |(go_at_call 76;(with_reducible refine(XQ T.drew Hz.o y1).mono ?_);rintro e w5 ⟨l,rfl,b⟩;have aj:=b.cl M2 1;have h6:∀o,(w5.alloc o).cell? ⟨D,1,none⟩=some (.int .i64 (n:Int)):=(fun o=>(b.al o).cell M2 1))
      |(go_at_call 76;(with_reducible refine(XQ M Hz.o y1).mono ?_);rintro e w5 ⟨l,rfl,b⟩;have aj:=b.cl M3 1;have hh:j≠D:=(b.tail.tail).ne;have x6:D≠j:=Ne.symm hh;have x0:=b.cl M2 0;have f0:w5.frozen? ⟨j,0,none⟩=false:=(b.blkOf M2).frozen 0;have x1:=b.cl M2 1;have f1:w5.frozen? ⟨j,1,none⟩=false:=(b.blkOf M2).frozen 1;have x2:=b.cl M2 2;have f2:w5.frozen? ⟨j,2,none⟩=false:=(b.blkOf M2).frozen 2;have x3:=b.cl M2 3;have f3:w5.frozen? ⟨j,3,none⟩=false:=(b.blkOf M2).frozen 3)
      |fail)
    all_goals
     go_wp2
     go_meet
     first
      |exact⟨_,l,rfl,b.blkH 121 #[.slice l z z,.int .i64 last,.int .i64 s,.int .i64 (m:Int)] rfl⟩
      |exact⟨j,l,rfl,(((b.p2.set 0 (.slice l z z)).set 1 (.int .i64 last)).set 2 (.int .i64 s)).set 3 (.int .i64 (m:Int))⟩
   case rest=>
    clear T M;obtain⟨j,l,rfl,b⟩:=hcut;have b0:=b.cl M0 0;have b1:=b.cl M0 1;have b2:=b.cl M0 2;have b3:=b.cl M0 3;obtain⟨a',hy,h0⟩:=VD Hr.o (k*8);have xs:=QS Hr.o (k*8);have hw:=zA (jI (c:=z) (m:=m) (w:=wc) (A:=l) (nb:=z) (by rw [P.o];exact(b.rb M1).1) (zC _) (by omega) (by omega) Hm.o (by have:=he.o;omega) h0 xs hy);rw [Xc,hd.o,<-R.o]at hw
    clear hy h0 xs;go_wp2_with fail;refine hw.o.mono ?_;rintro e G ⟨A7,c7,C,rfl,hv⟩;have a:=b.c2 hv;clear b b0 b1 b2 b3;have HE:=zA (dH a.p4);have hj:Hid (Calls prog 79 #[.pointer (some ⟨p,0,none⟩)] G fun e w' =>e= .returned (.int .i64 0)/\G=w'):=HE.o;go_wp2_with (go_at_call 79;refine hj.o.mono ?_;rintro e w7 ⟨rfl,rfl⟩);have U:=a.drew.sel [6,5,2,3,7,0,1,4,8,9,10]
    simp only [yo,List.filterMap_nil,zf,zj]at U;have am:G.cell? ⟨j,0,none⟩=some (.slice l z z)/\G.cell? ⟨j,1,none⟩=some (.int .i64 last)/\G.cell? ⟨j,2,none⟩=some (.int .i64 s)/\G.cell? ⟨j,3,none⟩=some (.int .i64 (m:Int)):=⟨a.cell M2 0,a.cell M2 1,a.cell M2 2,a.cell M2 3⟩
    have h9:∀o,(G.alloc o).cell? ⟨j,0,none⟩=some (.slice l z z)/\(G.alloc o).cell? ⟨j,1,none⟩=some (.int .i64 last)/\(G.alloc o).cell? ⟨j,2,none⟩=some (.int .i64 s)/\(G.alloc o).cell? ⟨j,3,none⟩=some (.int .i64 (m:Int)):=fun o=>⟨(a.al o).cell M2 0,(a.al o).cell M2 1,(a.al o).cell M2 2,(a.al o).cell M2 3⟩;have ag:=a.cl M5 0
    have h5:∀o,(G.alloc o).cell? ⟨D,0,none⟩=some (.slice Q k X):=fun o=>(a.al o).cell M5 0;have hh:j≠D:=(U.tail.p1).ne;have x6:D≠j:=Ne.symm hh;clear HE hj hv;go_upto_region 14 with fail
    go_cut []from 63 to 72 (fun W=>∃A8 c8,k+1<=c8/\Sp W [BlkA D 119 #[.slice A8 (k+1) c8,.int .i64 (n:Int)],RowA 121 4 (.slice A8 (k+1) c8) (k+1) (d++ [[Value.slice l z z,Value.int .i64 last,Value.int .i64 s,Value.int .i64 (m:Int)]]).flatten,BA l z z rows,ElsA d ((pBl ps).take k),RowA 116 2 (.slice A7 m c7) m C.flatten,ElsA C (blkP ps (k*8)),RdA p (rsAt (pre++zP z++zP df++rows) rest),RowA 116 2 (.slice A6 q c6) q f.flatten,ElsA f (ps.take (k*8)),OldA w.heap.size w])
    case first=>
     refine gR [(10,fun W=>W.cell? ⟨D,0,none⟩=some (.slice Q k X)/\W.cell? ⟨j,0,none⟩=some (.slice l z z)/\W.cell? ⟨j,1,none⟩=some (.int .i64 last)/\W.cell? ⟨j,2,none⟩=some (.int .i64 s)/\W.cell? ⟨j,3,none⟩=some (.int .i64 (m:Int)))] (hB ⟨a.drew.cell M5 0,a.drew.cell M2 0,a.drew.cell M2 1,a.drew.cell M2 2,a.drew.cell M2 3⟩) ?_;refine gF 0 ?_;refine gF 1 ?_;refine gF 2 ?_
     refine gF 3 ?_;refine gL 4 10 M0 ?_;refine gL 5 10 M0 ?_;intro hC;refine gO 6 fun K hK=> ?_;go_simp;refine hK.o _ _ (hB ⟨(a.drew.al _).cell M5 0,(a.drew.al _).cell M2 0,(a.drew.al _).cell M2 1,(a.drew.al _).cell M2 2,(a.drew.al _).cell M2 3⟩) ?_;clear hK K hC;intro hC;refine gO 7 fun K hK=> ?_
     refine yz L1 (.tmp 67) (.tmp 69) rfl rfl U rfl (cs:= #[.slice l z z,.int .i64 last,.int .i64 s,.int .i64 (m:Int)]) rfl rfl rfl (by intro u hu;simp at hu;rcases hu with rfl|rfl|rfl|rfl<;>rfl) (by unfold nP at hk;omega) (by unfold nP at hk;omega) ?_
     intro A8 c8 w8 h4 a7 g;have q1:=g.cl M1 0;have qf:=(g.blkOf M1).frozen 0;refine hK.o _ _ (hB ⟨g.cell M1 0,g.cell M2 0,g.cell M2 1,g.cell M2 2,g.cell M2 3⟩) ?_;clear hK K hC;refine gF 8 ?_;refine gF 9 ?_;intro hC;refine gO 10 fun K hK=> ?_;go_simp;refine hK.o _ _ hA ?_;clear hK K hC;intro hC;refine xW (by kernel_rfl) ?_
     all_goals
      go_wp2
      go_meet
      refine⟨A8,c8,h4,?_⟩;have h:=g.p1.set 0 (.slice A8 (k+1) c8);have e:d.flatten++ #[Value.slice l z z,Value.int .i64 last,Value.int .i64 s,Value.int .i64 (m:Int)].toList=(d++ [[Value.slice l z z,Value.int .i64 last,Value.int .i64 s,Value.int .i64 (m:Int)]]).flatten:=(by simp);rw [e]at h;exact h.d2
    case rest=>
     obtain⟨A8,c8,h4,g⟩:=hcut;have ab:=zA (g.rowOf M4).reads;have y8:=zA (g.elsOne M5);have a4:q<=16384:=(by have:=Hq.o;omega);have a3:m<=8:=(by have:=he.o;omega);go_wp2_with (at_builtin;refine yR eF (.tmp 73) (.tmp 74) rfl rfl g.p7 rfl rfl ab.o y8.o (by omega) (by omega) ?_;intro y3 ae w9 aw a2 ht);have H:=ht.sel [3,4,1,2,0,8,6,7,9]
     simp only [yo,List.filterMap_nil,zf,zj]at H
     have ha:=((H.bytes).mk1 (α:=OH) (cs:= [.slice l z z,.int .i64 last,.int .i64 s,.int .i64 (m:Int)]) (x:=(rows,last,s,(m:Int))) fun S r=>(show rep w9 S [.slice l z z,.int .i64 last,.int .i64 s,.int .i64 (m:Int)] ((rows,last,s,(m:Int)):OH)from⟨_,_,rfl,r,_,_,rfl,⟨rfl,show In64 last by unfold In64;omega⟩,_,_,rfl,⟨rfl,show In64 s by unfold In64;omega⟩,rfl,show In64 (m:Int) by unfold In64;omega⟩)).elsPush
     have I:=ha.sel [4,5,1,2,0,3,6,7];simp only [yo,List.filterMap_nil,zf,zj]at I;have J:=I.elsJoin.sel [1,2,3,4,0,5,6];simp only [yo,List.filterMap_nil,zf,zj]at J
     have e1:(pBl ps).take (k+1)=(pBl ps).take k++ [(rows,last,s,(m:Int))]:=by
      rw [zI,p9 (by have:=Hi.o;have:=Hn.o;omega)];unfold blkE;rw [P.o,<-R.o,hd.o,Hm.o];rfl
     have e2:ps.take ((k+1)*8)=ps.take (k*8)++blkP ps (k*8):=by
      unfold blkP;rw [iV,Nat.succ_mul]
     have e3:f.flatten++C.flatten=(f++C).flatten:=(by simp);rw [<-e1,<-e2,e3,<-N.o]at J
     have y5:Hid (pre++zP z++zP df++rows++Qx ps (k+1)=YB ps):=by
      show _=_;rw [<-HP.o,ad.o,N.o];simp
     have y4:Hid (s=ZD ps ((k+1)*8)):=(by show _=_;rw [Nat.succ_mul,hd.o]);have aa:Hid (q+m=min (i+8) n):=(by show _=_;have:=Hq.o;have:=he.o;omega);have HI:=Hi.o;clear a U g ht H ha I e1 e2 e3 ag h5 am h9 ah aq x8 ys ao
     go_roundg (nP n - (k+1))
     ·exact⟨k+1,i+8,q+m,A8,y3,c8,ae,_,_,s,_,by show _=_;omega,by go_num,by unfold nP;omega,rfl,rfl,rfl,aa,y4,y5,J⟩
     ·unfold nP at hk⊢;omega
  ·have xb :nP n<=k:=(by unfold nP;omega);have E:(pBl ps).take k=pBl ps:=(by rw [zF];unfold pBl;rw [zK,xg,Hn.o];exact xb);have y0:ps.take (k*8)=ps:=zF (by rw [Hn.o];omega);have ar:q=n:=(by have:=Hq.o;omega);subst ar;rw [E,y0,DJ (by rw [Hn.o];omega)]at HS;have v:=HS.sel [3,4,5,0,1,2,6];simp only [yo,List.filterMap_nil,zf,zj]at v;have t:=v.els (α:=PostD)
   have HB:=zA (jK A6 q c6 ps wr (by omega) (t.ls M0) (fun x hx=>by have:=(y7.o x hx).2.2.1;omega));clear E y0 HS v;go_wp2_with fail;refine HB.o.mono ?_;intro e w5 hi;unfold W9 at hi;rw [if_pos Hr.o]at hi;obtain⟨A7,m7, -,rfl,y6⟩:=hi;have b:=t.c1 y6;have HE:=zA (gC b.p2);have h8:(rsAt pre ([]:aC)).fin=rsAt pre []:=(by simp [RS.fin,rsAt,RS.left]);rw [h8]at HE
   have an:m7=nb:=(by rw [<-(b.rb M0).1.len,hb.o]);subst an
   go_wp2_with (first
    |(go_at_call 129;refine HE.o.mono ?_;rintro e G ⟨rfl,a⟩;have ho:=zA (bY A7 A m7 m7 m7 c (YB ps) (YB ps) G (by omega) (a.rb M1).1 (Hl.o.on (a.below M6)));rw [decide_eq_true (rfl:YB ps=YB ps)]at ho)
    |(go_at_call 145;refine ho.o.mono ?_;rintro e w7 ⟨rfl,k7,rfl⟩)
    |fail)
   go_ret2;refine⟨D,rfl,?_⟩;have h1:=(a.drewN k7).sel [4,5,3,6];simp only [yo,List.filterMap_nil,zf,zj]at h1;have h2:=h1.els (α:=OH);have h3:=h2.mk1 (α:=List OH×Int) (cs:= [.slice Q k X,.int .i64 (q:Int)]) (x:=(pBl ps,(q:Int))) fun S r=>(show rep _ S [.slice Q k X,.int .i64 (q:Int)] ((pBl ps,(q:Int)):List OH×Int)from⟨_,_,rfl,r,rfl,show In64 (q:Int) by unfold In64;omega⟩);exact h3.p1.ptr
theorem nD {rows:List aD} {k:Nat} {a:aD} {y:UInt8} (h:rows[k]? =some a) (c:(Zq rows)[k / 8]? =some y):y.toNat.testBit (k%8)= !a.isEmpty:=by
 have b:=zN h;have e:=Us (XX rows) 1 k;unfold R8 at e;rw [show Z8 (XX rows) 1=Zq rows from rfl,c]at e;simp only [yk,yq]at e;rw [e];unfold N9 XX;rw [zK,Nat.one_mul,decide_eq_true b,Nat.div_one,zH,h,Nat.mod_one];cases a<;>simp
theorem pQ {y r:Nat} (b:y<256):bits .and .u8 ((y:Int) / 2^r) 1=if y.testBit r then 1 else 0:=by
 have e:(y:Int) / 2^r=((y / 2^r:Nat):Int):=by
  rw [Int.natCast_ediv,Int.natCast_pow];rfl
 rw [e];have c:y / 2^r<256:=Nat.lt_of_le_of_lt (Nat.div_le_self _ _) b
 have a:y.testBit r=decide (y / 2^r%2=1):=by
  rw [Nat.testBit_eq_decide_div_mod_eq]
 rw [a];generalize y / 2^r=x at*;show IntKind.u8.wrap ((BitVec.ofInt 8 (x:Int) &&& BitVec.ofInt 8 1).toNat:Int)=_;rw [yE,show BitVec.ofInt 8 1=BitVec.ofNat 8 1 from rfl,BitVec.toNat_and,yJ,yJ,zy (by omega),show 1%2^8=2^1 - 1 from rfl,Nat.and_two_pow_sub_one_eq_mod,IntKind.wrap_u8]
 by_cases h:x%2=1<;>simp [h]<;>omega
def cntL (rows:List aD) (k:Nat):Nat:=(yp (rows.take k)).length
theorem lZ {rows:List aD} {k:Nat} {a:aD} (h:rows[k]? =some a):cntL rows (k+1)=cntL rows k+if a.isEmpty then 0 else 1:=by
 unfold cntL yp;rw [zI,h];cases a<;>simp
theorem LN {rows:List aD} {k:Nat} {a:aD} (h:rows[k]? =some a) (b:a≠ []):(yp rows)[cntL rows k]? =some ((a.length:Int) - 1):=by
 have e:yp rows=yp (rows.take k)++((a.length:Int) - 1)::yp (rows.drop (k+1)):=by
  conv=>lhs;rw [<-zu k rows,yb h]
  unfold yp;rw [List.filter_append,zw,List.filter_cons_of_pos (by simpa using b)];rfl
 unfold cntL;rw [e,zR (zC _),yh];rfl
theorem pK (rows:List aD) (k:Nat):cntL rows k<=k:=by
 unfold cntL yp;rw [zK];have:=List.length_filter_le (fun l:aD=> !l.isEmpty) (rows.take k);rw [zr]at this;omega
def Y4 (rows:List aD) (k:Nat):aD:=(List.range k).map fun j=>((rows.take (j+1)).flatten.length:Int)
theorem jW (rows:List aD) (k:Nat):Y4 rows (k+1)=Y4 rows k++ [((rows.take (k+1)).flatten.length:Int)]:=by
 simp [Y4,List.range_succ]
theorem iE (rows:List aD):(Zq rows).length=(rows.length+7) / 8:=by
 unfold Zq;rw [XU,zK];unfold yK;rw [Nat.one_mul]
theorem YL (pre post:aC):(rsAt pre post).left=post.length:=by simp [rsAt,RS.left]
theorem QA {p:Nat} {pre post:aC} {L:List Asn} {w:O} (h:Sp w (RdA p (rsAt pre post)::L)):
 Calls prog 79 #[.pointer (some ⟨p,0,none⟩)] w fun e w' =>e= .returned (.int .i64 0)/\w=w' :=dH h
theorem CM {w:O} {g:Nat} {u v:V} {a:aG} {b:Bool} (c:a.getD 2 undef= .pointer (some ⟨g,0,none⟩)) (f:a.getD 3 undef= .bool b) (j:Blk w g 324 #[u,v]):(results Tryz.f204 a).run prog w= .ok (.tuple #[.agg #[u,v],.bool b]) w:=by
 have d:=run_loadVar_row (P:=prog) w g 324 324 #[u,v] (0,0) _ j underlying324 rfl (by kernel_rfl);have e:Tryz.f204.results= #[ResultVar.cell 2 324,ResultVar.tmp 3]:=rfl;have h:a[2]?.getD undef= .pointer (some ⟨g,0,none⟩):=by simpa using c
 have i:a[3]?.getD undef= .bool b:=by simpa using f
 simp [results,e,h,i,d,asAddr,Result.andThen]
theorem iQ (A:aA) (nb c:Nat) (rows:List aD) (w:O) (hc:nb<=c) (ax:c<=9223372036854775807) (a4:nb<=100000000000) (hl:RB w A nb (colL rows)) (hn:rows.length<=16384) (hr:∀r∈rows,r.length<=64/\InL r):
 Calls prog 204 #[.slice A nb c] w fun e w' =>∃A1 A2 c1 n m,e= .returned (.tuple #[.agg #[.slice A1 n c1,.slice A2 m m],.bool true])/\
  Sp w' [NA A1 n c1 (Y4 rows rows.length),IA A2 m m rows.flatten,OldA w.heap.size w]:=by
 obtain⟨n,S⟩:=eX (rows.length);rw [S]at hn⊢;obtain⟨N,hN⟩:=eX ((n+7) / 8);have y1:((n:Int)+7) / 8=(N:Int):=by omega
 have ap:wrap64 (N:Int)=N:=by unfold wrap64;omega
 have ai:N<=2100:=by omega
 have y2:n<=8*N:=by omega
 have F:=zA S;have Hr:=zA hr;have J:Hid ((Zq rows).length=N):=by show _=_;rw [iE,S];exact hN
 obtain⟨Rb,xb⟩:=eX (w.heap.size);obtain⟨Bc,y0⟩:=eX (Rb+1);have hf:=((Sp.start w).blkH 324 #[.slice none 0 0,.slice none 0 0] xb).blkH 324 #[.slice none 0 0,.slice none 0 0] (H:=Bc) (by simp [xb,y0]);have h4:=zA (VG (c:=c) hf (hl.on (hf.below M2)) (by omega))
 have x2:InL (yp rows):=by
  intro x hx;unfold yp at hx;obtain⟨l,hl,rfl⟩:=List.mem_map.1 hx;have:=(hr l (List.mem_filter.1 hl).1).1;omega
 have xn:InL rows.flatten:=by
  intro x hx;obtain⟨l,hl,hx⟩:=List.mem_flatten.1 hx;exact(hr l hl).2 x hx
 have x6:=zA x2;have x5:=zA xn;have x3:Hid ((colL rows).length=nb):=hl.len;clear hl hr hN S x2 xn;go_enter func204,ntmps204;go_wp2_with fail;refine h4.o.mono ?_;rintro e w1 ⟨p,rfl,Q⟩
 have h6:Sp w1 [RdA p (rsAt [] (zP n++(Zq rows++(putL (yp rows)++putL rows.flatten)))),BlkA Bc 324 #[.slice none 0 0,.slice none 0 0],BlkA Rb 324 #[.slice none 0 0,.slice none 0 0],OldA w.heap.size w]:=by
  unfold colL at Q;rw [F.o]at Q
  simpa [rsAt]using Q
 have hm:=zA (ZH h6 16384 (by omega));rw [yn (by omega) hn]at hm;clear h4 hf Q h6;go_wp2_with fail;refine hm.o.mono ?_;rintro e w2 ⟨rfl,h7⟩;have h2:=zA (XQ (z:=N) h7 J.o (by omega));clear hm h7;go_wp2_with fail;refine h2.o.mono ?_;rintro e w3 ⟨A3,rfl,E⟩;have h3:=zA (QA E.p1);clear h2;go_wp2_with fail;refine h3.o.mono ?_;rintro e w4 ⟨rfl,rfl⟩;clear h3
 obtain⟨g3,xs,xi⟩:∃g3,(0<N->A3=some ⟨g3,0,none⟩)/\∀j y,(Zq rows)[j]? =some y->w3.cell? ⟨g3,j,none⟩=some (.int .u8 (y.toNat:Int)):=by
  rcases zi N with h|h
  ·refine⟨0,fun h' =>by omega,fun j y hy=> ?_⟩;have h1:=zN hy;rw [J.o]at h1;omega
  ·obtain⟨g3,e,_,_,hc⟩:=(E.rowOf M0).at_ h
   exact⟨g3,fun _=>e,fun j y hy=>hc j _ (V4 hy)⟩
 have h8:=zA xs;have x8:=zA xi;clear xs xi;go_wp2
 go_loopg [8,33] n (fun gk v8 vi wr=>∃k:Nat,vi= .int .i64 k/\v8= .int .i64 (cntL rows k:Nat)/\k<=n/\gk=n - k/\wr=w3)
 case atStart=>exact⟨0,rfl,rfl,zJ _,rfl,rfl⟩
 case round=>
  obtain⟨k,rfl,rfl,hk,rfl,rfl⟩:=hrel
  by_cases ab:k<n
  ·obtain⟨f,o⟩:∃f,Hid (rows[k]? =some f):=⟨_,zB (by rw [F.o];exact ab)⟩;have ht:k / 8<N:=(by omega);obtain⟨y,Hy⟩:∃y,Hid ((Zq rows)[k / 8]? =some y):=⟨_,zB (by rw [J.o];exact ht)⟩;obtain rfl:A3=some ⟨g3,0,none⟩:=h8.o (by omega);have y6:=x8.o _ _ Hy.o
   have B:bits .and .u8 ((y.toNat:Int) / 2^(k%8)) 1=if f.isEmpty then 0 else 1:=by
    rw [pQ y.toNat_lt,nD o.o Hy.o];cases f<;>rfl
   have G:=zA (lZ o.o);have y5:=pK rows k;go_wp2
   all_goals
    go_roundg (n - (k+1))
    ·exact⟨k+1,by go_num,by rw [G.o];simp [*],by omega,rfl,rfl⟩
    ·omega
  ·obtain rfl:k=n:=by omega
   obtain⟨m1,hv⟩:=eX ((yp rows).length);have K:cntL rows k=m1:=(by unfold cntL;rw [zF (by rw [F.o];exact zC _),hv]);have aj:m1<=k:=(by rw [<-K];exact pK rows k);have ho:=zA hv;rw [K];obtain⟨rest,s⟩:=eX (putL (yp rows)++putL rows.flatten);obtain⟨Z,hZ⟩:=eX (rest.length)
   have aq:Z<=nb:=by
    have h:=x3.o;unfold colL at h;rw [s]at h;simp only [zG]at h;omega
   have C:=zA s;have HZ:=zA hZ;rw [s]at E;have hd:=zA (Xz E.p1);rw [YL,hZ]at hd;clear s hZ K hv y1 y2;go_wp2_with fail;refine hd.o.mono ?_;rintro e w5 ⟨rfl,k5,rfl⟩;have hg:=(E.drewN k5).p1;rw [<-zo rest]at hg;have h0:=zA (XQ (z:=Z) hg HZ.o (by omega));clear hd E hg;go_wp2_with fail;refine h0.o.mono ?_;rintro e w6 ⟨A6,rfl,hh⟩;clear h0
   have HG:=zA (getS (c:=Z) hh (by have h:=(hh.rb M0).1;rw [<-C.o]at h;exact h) (by omega) x6.o (by rw [ho.o];omega));rw [ho.o]at HG;go_wp2_with fail;refine HG.o.mono ?_;rintro e w7 ⟨A7,rfl,hi⟩;clear HG hh
   obtain⟨g7,x1⟩:∃g7,0<m1->A7=some ⟨g7,0,none⟩:=by
    rcases zi m1 with h|h
    ·exact⟨0,fun h' =>by omega⟩
    ·obtain⟨g7,e,_⟩:=(hi.rowOf M0).at_ h
     exact⟨g7,fun _=>e⟩
   have ys:=zA x1;have i:=(hi.nil 3 1).sel [0,5,1,2,4,6,7];simp only [yo,List.filterMap_nil,zf,zj]at i;clear x1 hi;go_wp2
   go_loopg [14,15,64] k (fun gk ag ah vi wr=>∃(j q a:Nat) (Ae:aA) (ce:Nat),vi= .int .i64 j/\ah= .int .i64 q/\ag= .int .i64 a/\j<=k/\gk=k - j/\q<=j/\a<=64*j/\Hid (q=cntL rows j)/\Hid (a=(rows.take j).flatten.length)/\
    Sp wr [NA Ae j ce (Y4 rows j),BlkA Bc 324 #[.slice Ae j ce,.slice none 0 0],IA A7 m1 m1 (yp rows),BA A6 Z Z rest,BA A3 N N (Zq rows),BlkA Rb 324 #[.slice none 0 0,.slice none 0 0],OldA w.heap.size w])
   case atStart=>exact⟨0,0,0,none,0,rfl,rfl,rfl,zJ _,rfl,zC _,zJ _,rfl,rfl,i⟩
   case round=>
    obtain⟨j,q,a,Ae,ce,rfl,rfl,rfl,hj,rfl,a5,ar,HQ,HA,T⟩:=hrel;clear i
    by_cases y7:j<k
    ·obtain⟨f,o⟩:∃f,Hid (rows[j]? =some f):=⟨_,zB (by rw [F.o];exact y7)⟩;have ht:j / 8<N:=(by have h:=J.o;rw [iE,F.o]at h;omega);obtain⟨y,Hy⟩:∃y,Hid ((Zq rows)[j / 8]? =some y):=⟨_,zB (by rw [J.o];exact ht)⟩;obtain rfl:A3=some ⟨g3,0,none⟩:=h8.o (by omega);have y6:=T.rowCell M4 (V4 Hy.o)
     have B:bits .and .u8 ((y.toNat:Int) / 2^(j%8)) 1=if f.isEmpty then 0 else 1:=by
      rw [pQ y.toNat_lt,nD o.o Hy.o];cases f<;>rfl
     have G:=zA (lZ o.o)
     have t:Hid ((rows.take (j+1)).flatten.length=a+f.length):=by
      show _=_;rw [zI,o.o,HA.o];simp
     have au:=T.cl M1 0
     by_cases I:f= []
     ·subst I;have D :bits .and .u8 ((y.toNat:Int) / 2^(j%8)) 1=0:=(by rw [B];exact if_pos rfl);clear B;go_wp2_with (at_builtin;refine yC Xr (.tmp 100) (.tmp 102) rfl rfl T rfl (cs:= #[.int .i64 (a:Int)]) rfl rfl rfl (by intro u hu;simp at hu;subst hu;rfl) (by omega) (by omega) ?_;intro A8 c8 w8 y4 ad i;have ae:=i.cl M1 0;have x4:=(i.blkOf M1).frozen 0)
      have d:=(i.p1.set 0 (.slice A8 (j+1) c8)).p1;have e:ints (Y4 rows j)++ #[Value.int .i64 (a:Int)].toList=ints (Y4 rows (j+1)):=(by rw [jW,t.o];simp [ints]);rw [e]at d
      have he:Hid (q=cntL rows (j+1)):=by
       have h:=G.o;rw [<-HQ.o]at h;exact h.symm
      have hb:Hid (a=(rows.take (j+1)).flatten.length):=t.o.symm;clear D G t HQ HA i
      go_roundg (k - (j+1))
      ·exact⟨j+1,q,a,A8,c8,by go_num,rfl,rfl,by omega,rfl,by omega,by omega,he,hb,d⟩
      ·omega
     ·have hs:f.isEmpty=false:=by
       cases f with
       |nil=>exact absurd rfl I
       |cons _ _=>rfl
      have D :bits .and .u8 ((y.toNat:Int) / 2^(j%8)) 1=1:=(by rw [B,hs];exact if_neg Bool.false_ne_true);obtain⟨L,hL⟩:=eX (f.length);have an:1<=L:=Nat.pos_of_ne_zero fun h=>I (List.length_eq_zero_iff.1 (hL.trans h));have ao:L<=64:=(by rw [<-hL];exact(Hr.o f (zD o.o)).1);have R:=LN o.o I;rw [<-HQ.o,hL]at R;have a6:q<m1:=(by rw [<-ho.o];exact zN R)
      obtain rfl:A7=some ⟨g7,0,none⟩:=ys.o (by omega);have y5:=T.rowCell M2 (Z9 R);have a2:¬((L:Int) - 1<0):=(by omega);have a3:¬((64:Int)<=(L:Int) - 1):=(by omega);have ha:cntL rows (j+1)=q+1:=(by rw [G.o,<-HQ.o,hs,if_neg Bool.false_ne_true]);have h9:=zA ha;have Y:Hid ((rows.take (j+1)).flatten.length=a+L):=(by show _=_;rw [t.o,hL])
      clear B hL R G ha t I hs;go_wp2_with (at_builtin;refine yC Xr (.tmp 100) (.tmp 102) rfl rfl T rfl (cs:= #[.int .i64 ((a:Int)+(L:Int))]) rfl rfl rfl (by intro u hu;simp at hu;subst hu;rfl) (by omega) (by omega) ?_;intro A8 c8 w8 y4 ad i;have ae:=i.cl M1 0;have x4:=(i.blkOf M1).frozen 0);have d:=(i.p1.set 0 (.slice A8 (j+1) c8)).p1
      have e:ints (Y4 rows j)++ #[Value.int .i64 ((a:Int)+(L:Int))].toList=ints (Y4 rows (j+1)):=(by rw [jW,Y.o];simp [ints]);rw [e]at d;have he:=h9.o.symm;have hb:=Y.o.symm;clear D HQ HA i
      go_roundg (k - (j+1))
      case measure=>omega
      case rel=>
       have y3:(a:Int)+(L:Int)=((a+L:Nat):Int):=(by omega);rw [y3];exact⟨j+1,q+1,a+L,A8,c8,by go_num,by go_num,rfl,by omega,rfl,by omega,by omega,he,hb,d⟩
    ·obtain rfl:j=k:=by omega
     have hp:a=rows.flatten.length:=by
      have h:=HA.o;rw [zF (by rw [F.o];exact zC _)]at h;exact h
     obtain⟨s1,M⟩:=eX ((putL (yp rows)).length);obtain⟨s2,hw⟩:=eX ((putL rows.flatten).length);have af:s1+s2=Z:=(by rw [<-HZ.o,<-C.o,zG,M,hw]);have hT:=(T.rb M3).1.tail (k:=s1) (zC _) (by omega);rw [<-C.o,<-M,List.drop_left,M,<-zo (putL rows.flatten)]at hT;have aa:(s1:Int)<=Z:=(by omega);have y8:(0:Int)<=s1:=(by omega)
     have hx:∀W:O,(Instr.slice 65 (.slice A6 Z Z) (some (.int .i64 (s1:Int))) none none).run prog W= .ok (.slice (if Z=s1 then A6 else A6.map (·.add s1)) (Z - s1) (Z - s1)) W:=by
      intro W;clear hT T;simp [Instr.slice,Instr.sliceBounds,go_sem,aa,y8]
     obtain⟨A9,hA9⟩:=eX ((if Z=s1 then A6 else A6.map (·.add s1)));obtain⟨z2,hz⟩:=eX (Z - s1);rw [hA9,hz]at hT;simp only [hA9,hz]at hx;have HG:=zA (getS (c:=z2) T hT (by omega) x5.o (by omega));rw [hw,<-hp]at HG;have al:(s1:Int)+(s2:Int)=(Z:Int):=(by omega);have am:=zA hp;rw [M];clear hT hA9 hz hp M hw af;go_wp2_with fail;refine HG.o.mono ?_;rintro e w9 ⟨P,rfl,d⟩
     have av:=d.cl M2 0;have aw:=d.cl M2 1;have ay:=(d.blkOf M2).frozen 0;have az:=(d.blkOf M2).frozen 1;have a7:=d.d1.cl M5 0;have a8:=d.d1.cl M5 1;have a0:=(d.d1.blkOf M5).frozen 0;have a1:=(d.d1.blkOf M5).frozen 1;have I:¬Rb=Bc:=(by omega);have ak:¬Bc=Rb:=(by omega);go_wp2
     try simp only [Exit.inBlock,Exit.then]
     have U:=((d.p2.set 1 (.slice P a a)).sel [2,1,6,0,7]);simp only [yo,List.filterMap_nil,zf,zj]at U;have X:=(U.p2.set 0 (.slice Ae j ce)).set 1 (.slice P a a);refine bodyPost_ret (CM (g:=Rb) (u:= .slice Ae j ce) (v:= .slice P a a) (b:=true) (by rfl) (by rfl) ?_) rfl ?_
     ·exact X.blkOf M0
     ·refine⟨Ae,P,ce,j,a,rfl,?_⟩;have h5:=X.sel [1,2,4];exact h5
theorem V1 (B:Nat) (A:aA) (n c:Nat) (w:O) (a:w.cell? ⟨B,0,none⟩=some (.slice A n c)):
 Calls prog 267 #[.pointer (some ⟨B,0,none⟩)] w fun e w' =>e= .returned (.int .i64 (n:Int))/\w' =w:=by
 go_enter func267,ntmps267;go_wp2;go_ret
 exact⟨rfl,rfl⟩
structure ColAt (w:O) (B:Nat) (rows:List aD) (n:Nat) (E:aA) (ce:Nat) (A:aA) (m:Nat):Prop where
 c0:w.cell? ⟨B,0,none⟩=some (.slice E n ce)
 c1:w.cell? ⟨B,1,none⟩=some (.slice A m m)
 re:RI w E n (Y4 rows n)
 len:rows.length=n
 all:rows.flatten.length=m
theorem nS {rows:List aD} {n k:Nat} (h:k<n):(Y4 rows n)[k]? =some ((rows.take (k+1)).flatten.length:Int):=by
 simp [Y4,h]
theorem Qk (rows:List aD) (k:Nat):(rows.take k).flatten.length<=rows.flatten.length:=by
 conv=>rhs;rw [<-zu k rows,yf,zG]
 omega
theorem Xg {rows:List aD} {k:Nat} {a:aD} (h:rows[k]? =some a):(rows.take (k+1)).flatten=(rows.take k).flatten++a:=by
 rw [zI,h];simp
theorem j5 (B:Nat) (rows:List aD) (n k:Nat) (E:aA) (C:Nat) (A:aA) (m:Nat) (w:O) (G:ColAt w B rows n E C A m) (I:k<n) (X:m<=100000000) (Y:n<=16384) (g:aD) (d:rows[k]? =some g):
 Calls prog 269 #[.pointer (some ⟨B,0,none⟩),.int .i64 (k:Int)] w fun e w' =>e= .returned (.slice (if m=(rows.take k).flatten.length then A else A.map (·.add (rows.take k).flatten.length)) g.length (m - (rows.take k).flatten.length))/\xG w w' :=by
 obtain⟨D,T,L,U,F⟩:=G;obtain⟨f,i⟩:=eX ((rows.take k).flatten.length);obtain⟨t,p⟩:=eX ((rows.take (k+1)).flatten.length);have s:f+g.length=t:=by rw [<-p,Xg d,zG,i]
 have M:t<=m:=by rw [<-p,<-F];exact Qk _ _
 obtain⟨b,off,rfl,_,c⟩:=L.2 (by omega)
 have j:w.cell? ⟨b,off+k,none⟩=some (.int .i64 (t:Int)):=by
  refine c k _ ?_;unfold ints;rw [zH,nS I,p];rfl
 have a:=zA (V1 B (some ⟨b,off,none⟩) n C w D);rw [i];obtain⟨z,P⟩:=eX (g.length);rw [P]at s⊢;have y:t - f=z:=by omega
 have o:(f:Int)<=t:=by omega
 have q:(t:Int)<=m:=by omega
 have r:(0:Int)<=f:=by omega
 have v:¬t<f:=by omega
 have x:(0:Int)<=t:=by omega
 have N:∀W:O,(Instr.slice 57 (.slice A m m) (some (.int .i64 (f:Int))) (some (.int .i64 (t:Int))) none).run prog W= .ok (.slice (if m=f then A else A.map (·.add f)) z (m - f)) W:=by
  intro W;clear j c a;simp [Instr.slice,Instr.sliceBounds,go_sem,o,q,r,x,y,v]
 by_cases u:k=0
 ·subst u;have l:f=0:=(by rw [<-i];rfl);subst l;have hA0:(if m=0 then A else A.map (·.add 0))=A:=by cases A<;>simp [Addr.add]
  rw [hA0,Nat.sub_zero];simp only [yt]at j;clear c d i p;go_enter func269,ntmps269;go_wp2_with (refine a.o.mono ?_;rintro e Q ⟨rfl,rfl⟩)
  go_region
  all_goals
   go_wp2;go_ret
   exact⟨rfl,1,rfl⟩
 ·obtain⟨R,hA5⟩:=eX ((if m=f then A else A.map (·.add f)));obtain⟨S,h⟩:=eX (m - f);rw [hA5,h];simp only [hA5,h]at N;clear hA5 h
  have H:w.cell? ⟨b,off+(k - 1),none⟩=some (.int .i64 (f:Int)):=by
   refine c (k - 1) _ ?_;unfold ints;rw [zH,nS (by omega),show k - 1+1=k by omega,i];rfl
  have J:(k:Int) - 1=((k - 1:Nat):Int):=(by omega);have K:(0:Int)<k:=(by omega);clear c d i p;go_enter func269,ntmps269;go_wp2_with (refine a.o.mono ?_;rintro e Q ⟨rfl,rfl⟩)
  go_region
  all_goals
   go_wp2;go_ret
   exact⟨rfl,1,rfl⟩
def OT (A:aA) (m:Nat) (rows:List aD) (k:Nat):V:=
 .slice (if m=(rows.take k).flatten.length then A else A.map (·.add (rows.take k).flatten.length)) ((rows[k]?).getD []).length (m - (rows.take k).flatten.length)
def Vb (A:aA) (m:Nat) (rows:List aD) (k:Nat):List aF:=(List.range k).map fun j=> [OT A m rows j]
theorem vV (A:aA) (m:Nat) (rows:List aD) (k:Nat):Vb A m rows (k+1)=Vb A m rows k++ [[OT A m rows k]]:=by
 simp [Vb,List.range_succ]
theorem nQ {rows:List aD} {k j:Nat} {a:aD} (h:rows[k]? =some a) (b:j<a.length):rows.flatten[(rows.take k).flatten.length+j]? =a[j]? :=by
 have e:rows.flatten=(rows.take k).flatten++(a++(rows.drop (k+1)).flatten):=by
  conv=>lhs;rw [<-zu k rows,yb h]
  rw [yf,yM]
 rw [e,zR (by omega),Nat.add_sub_cancel_left,z9 b]
theorem Sp.rowsOf {w:O} {L:List Asn} {A:aA} {m:Nat} {rows:List aD} (h:Sp w (IA A m m rows.flatten::L)) (q:InL rows.flatten):Sp w (ElsA (Vb A m rows rows.length) rows::L):=by
 have l:=(h.ilen M0);refine h.turn fun S d=>⟨⟨by simp [Vb],fun k cs a f c=> ?_⟩,fun b r=>(d.2.lt b ((d.1 b).1 r)).2⟩;have z:=zN c;unfold Vb at f;rw [zH,zq z]at f;obtain rfl:=(yG f).symm;have n:=Qk rows (k+1);rw [Xg c,zG]at n;have B:=l.1;have e:((rows[k]?).getD []).length=a.length:=by rw [c];rfl
 show rep w S [OT A m rows k] a;unfold OT;rw [e];refine⟨_,_,_,rfl,rfl,by omega,by omega,fun j x o=> ?_⟩;have y:=zN o;obtain⟨g,t,_,_,s⟩:=d.2.at_ (by omega)
 subst t;rw [if_neg (by omega)];refine⟨g,0+(rows.take k).flatten.length,by rw [yk,Qq],(d.1 g).2 rfl, [.int .i64 x],⟨rfl,?_⟩,fun i u p=> ?_⟩
 ·exact q x (List.mem_flatten.2 ⟨a,zD c,zD o⟩)
 ·have v:i=0:=(by have:=zN p;simp at this;omega);subst v;cases p;rw [zx,show Rep.size Int=1 from rfl,yr,yt];refine s _ _ ?_;unfold Go.Proofs.YtjbhbfaeielbiaaGreatDoor.ints;rw [zH,nQ c y,o];rfl
theorem CL {w:O} {L:List Asn} {B n d m:Nat} {t:TypeId} {E A:aA} {rows:List aD} (h:Sp w (BlkA B t #[.slice E n d,.slice A m m]::NA E n d (Y4 rows n)::IA A m m rows.flatten::L)) (hlen:rows.length=n) (R:n<=16384) (M:InL rows.flatten) (P:m<=100000000):
 Calls prog 209 #[.pointer (some ⟨B,0,none⟩)] w fun e w' =>∃A' D,e= .returned (.slice A' n D)/\Sp w' (DatA (.slice A' n D) rows::BlkA B t #[.slice E n d,.slice A m m]::NA E n d (Y4 rows n)::L):=by
 have r:=(h.ilen M2);have a:=zA hlen;have x:=zA r.1;have g:=zA (V1 B E n d w (h.cell M0 0));have j:=h.nil 57 1;clear h hlen r;go_enter func209,ntmps209;go_wp2_with fail;refine g.o.mono ?_;rintro e W ⟨rfl,rfl⟩;go_wp2
 go_loopg [3,7] n (fun gk T S wr=>∃(k:Nat) (Ao:aA) (co:Nat),k<=n/\gk=n - k/\S= .int .i64 k/\T= .slice Ao k co/\Sp wr (RowA 57 1 (.slice Ao k co) k (Vb A m rows k).flatten::BlkA B t #[.slice E n d,.slice A m m]::NA E n d (Y4 rows n)::IA A m m rows.flatten::L))
 case atStart=>exact⟨0,none,0,zJ _,rfl,rfl,rfl,j⟩
 case round=>
  obtain⟨k,Ao,co,U,rfl,rfl,rfl,i⟩:=hrel;clear j g
  by_cases s:k<n
  ·obtain⟨b,c⟩:∃b,Hid (rows[k]? =some b):=⟨_,zB (by rw [a.o];exact s)⟩;have C:=zA (j5 B rows n k E d A m wr ⟨i.cell M1 0,i.cell M1 1,i.rc M2,a.o,x.o⟩ s P R b c.o)
   have y:OT A m rows k= .slice (if m=(rows.take k).flatten.length then A else A.map (·.add (rows.take k).flatten.length)) b.length (m - (rows.take k).flatten.length):=by
    unfold OT;rw [c.o];rfl
   obtain⟨z,hA5⟩:=eX ((if m=(rows.take k).flatten.length then A else A.map (·.add (rows.take k).flatten.length)));obtain⟨H,v⟩:=eX (b.length);obtain⟨F,p⟩:=eX (m - (rows.take k).flatten.length);rw [hA5,v,p]at C y;have J:Hid ((Vb A m rows (k+1)).flatten=(Vb A m rows k).flatten++ #[Value.slice z H F].toList):=(by show _=_;rw [vV,y];simp);clear y hA5 v p;go_wp2_with fail
   refine C.o.mono ?_;rintro e X ⟨rfl,q,rfl⟩;have f:=i.drewN q;go_wp2_with (at_builtin;refine yC WY (.tmp 10) (.tmp 14) rfl rfl f rfl (cs:= #[.slice z H F]) rfl rfl rfl (by intro u G;simp at G;subst G;rfl) (by omega) (by omega) ?_;intro I K Y N Q o);rw [<-J.o]at o
   go_roundg (n - (k+1))
   ·exact⟨k+1,I,K,by omega,rfl,by go_num,rfl,o⟩
   ·omega
  ·obtain rfl:k=n:=by omega
   have l:=i.p3.rowsOf M;rw [a.o]at l;have f:=l.p1.els (α:=aD);go_wp2;go_ret
   exact⟨Ao,co,rfl,f⟩
theorem CK (A:aA) (n c:Nat) (rows:List aD) (w:O) (L:zL w (·<w.heap.size) A n c rows) (hn:n<=16384) (U:∀r∈rows,r.length<=64/\InL r):
 Calls prog 222 #[.slice A n c] w fun e w' =>∃A' R,e= .returned (.tuple #[.slice A' n R,.bool true])/\Sp w' [DatA (.slice A' n R) (rows.map xP),OldA w.heap.size w]:=by
 have i:=zA L.length;have Hl:=zA L;have Hr:=zA U;have t:=(Sp.start w).elsNil (α:=aD);have he:(n:Int)<=16384:=by omega
 have T:min (n:Int) 16384=(n:Int):=by omega
 clear L U;go_enter func222,ntmps222;go_wp2_with (at_make;refine gG WY (.const (.int .i64 0)) (.tmp 9) rfl rfl t rfl rfl (by omega) (by omega) ?_;intro w2 X h)
 go_loopg [4,13] n (fun gk vo vi wr=>∃(k:Nat) (Ao:aA) (co:Nat) (css:List aF),k<=n/\gk=n - k/\vi= .int .i64 k/\vo= .slice Ao k co/\Sp wr [RowA 57 1 (.slice Ao k co) k css.flatten,ElsA css ((rows.take k).map xP),OldA w.heap.size w])
 case atStart=>exact⟨0,X,n, [],zJ _,rfl,rfl,rfl,h⟩
 case round=>
  obtain⟨k,Ao,co,css,hk,rfl,rfl,rfl,q⟩:=hrel;clear h
  by_cases K:k<n
  ·obtain⟨b,off,a,rfl,f,hb,j⟩:=Hl.o.at_ K
   obtain⟨Z,o,cr,S,I⟩:=j.list;have d:=q.below M2;have ha:=(d.cell (p:=⟨b,off+k,none⟩) hb).trans S;obtain⟨N,l⟩:=Hr.o a (zD f.o);have hf:=I.length;have M:(o:Int)<=64:=(by omega);have Q:=zA (XW Z o cr (ints a) wr (by omega) (((I.below d).more fun x P=>zX P d.size).reads_ints) (Y3 a))
   have m:(rows.take (k+1)).map xP=(rows.take k).map xP++ [xP a]:=(by rw [zI,f.o];simp);have G:=zA m;have F:Hid (∀x∈xP a,In64 x):=fun x P=>l x (lH.1 P);clear m S j d I N l;go_wp2_with fail;refine Q.o.mono ?_;rintro e w3 ⟨s,H,rfl,g,J⟩;have y:Sp w3 (IA s o H a::_):=q.row g J;have E:=zA (mH y (by omega));clear Q;go_wp2_with fail
   refine E.o.mono ?_;rintro e w4 ⟨rfl,z⟩;have B:=(z.ints F.o).p1;go_wp2_with (at_builtin;refine yC WY (.tmp 29) (.tmp 31) rfl rfl B rfl (cs:= #[.slice s o H]) rfl rfl rfl (by intro u W;simp at W;subst W;rfl) (by omega) (by omega) ?_;intro Y c8 w8 hc hd C);have D:=(C.p1.p2.p1).elsPush
   go_roundg (n - (k+1))
   ·exact⟨k+1,Y,c8,css++ [[.slice s o H]],by omega,rfl,by go_num,rfl,by rw [G.o];simpa using D.p1⟩
   ·omega
  ·obtain rfl:k=n:=by omega
   rw [zF (by rw [i.o];omega)]at q;have v:=q.els (α:=aD);go_wp2;go_ret2;exact⟨Ao,co,rfl,v⟩
theorem gW (A:aA) (n c:Nat) (rows:List aD) (w:O) (k:zL w (·<w.heap.size) A n c rows) (l:n<=16384) (d:∀r∈rows,r.length<=64/\InL r):
 Calls prog 166 #[.slice A n c] w fun e w' =>∃A' m i,e= .returned (.slice A' m i)/\m<=3000000000/\Sp w' [BA A' m i (colL (rows.map xP)),OldA w.heap.size w]:=by
 have u:=zA (CK A n c rows w k l d)
 have b:∀r∈rows.map xP,r.length<=64/\InL r:=by
  intro r h;obtain⟨o,j,rfl⟩:=List.mem_map.1 h;exact⟨by rw [U0];exact(d o j).1,fun x z=>(d o j).2 x (lH.1 z)⟩
 have v:=zA b;clear k d b;go_enter func166,ntmps166;go_wp2_with fail;refine u.o.mono ?_;rintro e C ⟨p,y,rfl,a⟩;have s:=zA (kM p n y (rows.map xP) C (a.ls M0) l v.o);go_wp2_with fail;refine s.o.mono ?_;rintro e D ⟨q,B,c2,rfl,g,t⟩;have f:=a.c1 t;go_wp2;go_ret
 exact⟨q,B,c2,rfl,g,f.d1⟩
theorem zL.ri {w:O} {A:aA} {n c:Nat} {l:aD} (h:zL w (·<w.heap.size) A n c l):RI w A n l:=
 ⟨by rw [yr,<-h.length];simp [Go.Proofs.YtjbhbfaeielbiaaGreatDoor.ints],fun d=>by
  obtain⟨b,off,x,rfl,_,e,_⟩:=h.at_ d
  refine⟨b,off,rfl,e,fun j u a=> ?_⟩;unfold Go.Proofs.YtjbhbfaeielbiaaGreatDoor.ints at a;rw [zH]at a;rcases hx:l[j]? with _|y
  ·rw [hx]at a;cases a
  ·rw [hx]at a;cases a;exact(h.elem hx).2.int.1⟩
def fldV (f:Field) (A:aA) (n c:Nat):aG:= #[.string f.name,.int .i64 f.kind,.slice A n c,.int .i64 f.scale,.int .i64 f.dims,.bool f.many,.bool f.stored]
theorem J0 (f:Field) (A:aA) (n c:Nat) (w:O) (h:1<=f.dims) (b:f.dims<=4):
 Calls prog 168 #[.agg (fldV f A n c)] w fun e w' =>e= .returned (.int .i64 f.dims)/\Below w.heap.size w w' :=by
 have a:=zA ((zE w.heap.size w).alloc (zC _) (.cells (fldV f A n c) 61));have d:max f.dims 1=f.dims:=by omega
 unfold fldV at a⊢;go_enter func168,ntmps168;go_wp2;go_ret
 exact⟨rfl,a.o⟩
structure InvOk (f:Field) (ts:List aB) (ls:List (List PostD)) (lens:aD) (tx:List (List aB)) (nums:List aD) (pts:List Pt):Prop where
 tl:ls.length=ts.length
 tn:ts.length<=10000000000
 ps:∀ps∈ls,ps.length<=1000000/\∀p∈ps,p.pos.length<=10000000000
 ln:lens.length<=16384
 li:InL lens
 xn:tx.length<=16384
 xi:∀r∈tx,r.length<=64/\∀x∈r,x.size<=256
 nn:nums.length<=16384
 ni:∀r∈nums,r.length<=64/\InL r
 pn:pts.length<=1048576
 pi:ZG (if f.kind=5 then f.dims.toNat else 1) pts
def Ze (f:Field) (ts:List aB) (ls:List (List PostD)) (lens:aD) (b:List (List aB)) (nums:List aD) (a:List Pt):List aC:=
 if f.kind=1 then [ZM ts (atL ls ts.length),allL ls,putL lens]else if f.kind=2 then [ZM ts (atL ls ts.length),allL ls,Z5 b]else if f.kind=5 then [bkdB f.dims.toNat a]else [colL (nums.map xP),bkdB 1 a]
def WA (f:Field) (ts:List aB) (ls:List (List PostD)):Prop:=f.kind=1\/f.kind=2->xQ ts=true/\(∀ps∈ls,xk ps=true)/\(allL ls).length<=16777216
theorem eE:Elt prog 128 65 1 24:=xt (by kernel_rfl) (by decide) (by kernel_rfl)
theorem sE {f:Field} {Af A0 A1 W X Y L:aA} {nf cf n0 c0 I c1 R c2 S Z T c4 J M:Nat} {ts:List aB} {ls:List (List PostD)} {lens:aD} {r:List (List aB)} {nums:List aD} {c:List Pt} {w:O}
 (hk:1<=f.kind/\f.kind<=5) (hd:f.kind=5->1<=f.dims/\f.dims<=4) (ok:InvOk f ts ls lens r nums c)
 (h0:zL w (·<w.heap.size) A0 n0 c0 ts) (B:zL w (·<w.heap.size) A1 I c1 ls) (G:zL w (·<w.heap.size) W R c2 lens) (q:zL w (·<w.heap.size) X S Z r) (P:zL w (·<w.heap.size) Y T c4 nums) (h5:zL w (·<w.heap.size) L J M c):
 Calls prog 88 #[.agg (fldV f Af nf cf),.agg #[.slice A0 n0 c0,.slice A1 I c1,.slice W R c2,.slice X S Z,.slice Y T c4,.slice L J M]] w (fH (WA f ts ls) w fun v w' =>∃A' n' c',v= .slice A' n' c' /\WA f ts ls/\(∀s∈Ze f ts ls lens r nums c,s.length<=6000000000)/\Sp w' [DatA (.slice A' n' c') (Ze f ts ls lens r nums c),OldA w.heap.size w]):=by
 obtain⟨H,hH⟩:=eX (w.heap.size);have k:=((Sp.start w).blkH 61 (fldV f Af nf cf) hH).blkH 150 #[.slice A0 n0 c0,.slice A1 I c1,.slice W R c2,.slice X S Z,.slice Y T c4,.slice L J M] (H:=H+1) (by simp [hH]);have hn:I=n0:=by rw [<-h0.length,<-B.length];exact ok.tl
 subst hn;have t:=k.below M2;obtain⟨U,y⟩:=eX ((w.alloc (.cells (fldV f Af nf cf) 61)).alloc (.cells #[.slice A0 I c0,.slice A1 I c1,.slice W R c2,.slice X S Z,.slice Y T c4,.slice L J M] 150));rw [y]at k t;have H0:=zA (h0.on t);have H1:=zA (B.on t);have H2:=zA (G.on t);have H3:=zA (q.on t);have H4:=zA (P.on t);have H5:=zA (h5.on t);have Ok:=zA ok
 have he:=h0.length;have hi:=G.length;have hj:=q.length;have hl:=P.length;have hm:=h5.length;have hh:=G.cap;have b0:I<=10000000000:=he▸ok.tn;have b2:R<=16384:=hi▸ok.ln;have b3:S<=16384:=hj▸ok.xn;have b4:T<=16384:=hl▸ok.nn;have b5:J<=1048576:=hm▸ok.pn;have hg:=zA he;clear h0 B G q P h5 ok t he hi hj hl hm;have p0:=k.cl M0 0;have p1:=k.cl M0 1;have p2:=k.cl M0 2
 have p3:=k.cl M0 3;have p4:=k.cl M0 4;have p5:=k.cl M0 5;have pk:=k.cl M1 1;unfold fldV at y⊢;obtain⟨kd,x⟩:=eX (f.kind);rw [x]at hk hd pk y;rcases(show kd=1\/kd=2\/kd=5\/(kd=3\/kd=4) by omega)with rfl|rfl|rfl|h34
 ·have HL:=zA (lK (v2:= .slice W R c2) (v3:= .slice X S Z) (v4:= .slice Y T c4) (v5:= .slice L J M) (w:=U.drew) (H0.o.on (zE _ _).drew) (H1.o.on (zE _ _).drew) b0 Ok.o.ps);go_enter func88,ntmps88;go_upto_region 3 with fail;have a:=k.drew;clear k y p0 p1 p2 p3 p4 p5 pk hH
  refine gR [(1,fun w=>w.cell? ⟨H+1,0,none⟩=some (.slice A0 I c0)/\w.cell? ⟨H+1,1,none⟩=some (.slice A1 I c1)/\w.cell? ⟨H+1,2,none⟩=some (.slice W R c2)/\w.cell? ⟨H+1,3,none⟩=some (.slice X S Z)/\w.cell? ⟨H+1,4,none⟩=some (.slice Y T c4)/\w.cell? ⟨H+1,5,none⟩=some (.slice L J M)),(4,fun w=>w.cell? ⟨H+1,2,none⟩=some (.slice W R c2))] (zg (OG a M0) (hB (a.cell M0 2))) ?_
  refine gL 0 1 M0 ?_;refine gF 2 ?_;refine gL 3 4 M1 ?_;intro l;refine gO 1 fun K j=> ?_;go_simp;refine HL.o.mono ?_;rintro e w5 (⟨v,rfl,A',css,rfl,k1,k2,k3,k4,o⟩|⟨er,k0,kg,rfl,n⟩);rotate_left
  ·exact⟨rfl,.inr ⟨er,k0,fun g=>kg (g (.inl x)),rfl,(a.grow n).below M2⟩⟩
  have n:=o.below M2;have b:=a.c2 o;refine j.o _ _ (zg (OG b M2) (hB (b.cell M2 2))) ?_;clear j K l;intro l;have N:=zA (Qc W R c2 lens w5 (by omega) hh.1 hh.2 ((H2.o.on (zE _ _).drew).on n).ri Ok.o.li);clear a o HL n;refine gO 4 fun K j=> ?_;go_simp;refine N.o.mono ?_;rintro e w6 ⟨F,z,rfl,hf,p⟩;have m:=b.c1 p;refine j.o _ _ hA ?_
  clear j K l;intro l;clear b p N;refine gO 5 fun K j=> ?_;go_simp;refine j.o _ _ hA ?_;clear j K l;intro l;refine gO 6 fun K j=> ?_;refine yz eE (.tmp 10) (.tmp 14) rfl rfl m.p1 rfl (cs:= #[.slice F z z]) rfl rfl rfl (by intro u hu;simp at hu;subst hu;rfl) (by omega) (by omega) ?_;intro A8 c8 w8 ho hr A;refine j.o _ _ hA ?_;clear j K l;refine gF 7 ?_;intro l
  refine xW (by kernel_rfl) ?_;have e1:css.flatten++(#[Value.slice F z z]:aG).toList=(css++ [[Value.slice F z z]]).flatten:=(by simp);rw [e1]at A;have B:=(Sp.bytes A.p1).p1;have G:=(Sp.selT [_,_,_] B [1,2,0]).elsPush;have q:=Sp.els (α:=aC) G.p1;have i:Ze f ts ls lens r nums c= [ZM ts (atL ls I),allL ls]++ [putL lens]:=(by unfold Ze;simp [x,hg.o])
  have C:=(m.rb M0).1.len
  have E:Hid (∀s∈Ze f ts ls lens r nums c,s.length<=6000000000):=by
   show ∀s∈Ze f ts ls lens r nums c,s.length<=6000000000;intro s D;rw [i]at D;simp at D;rcases D with rfl|rfl|rfl<;>omega
  rw [<-i]at q;have P:=Sp.selT [_,_,_,_] q [0,3];clear B G q A m l e1 i C;go_wp2;go_ret
  exact .inl ⟨_,rfl,A8,3,c8,rfl,fun _=>⟨k1,k2,k3⟩,E.o,P⟩
 ·have HL:=zA (lK (v2:= .slice W R c2) (v3:= .slice X S Z) (v4:= .slice Y T c4) (v5:= .slice L J M) (w:=U.drew) (H0.o.on (zE _ _).drew) (H1.o.on (zE _ _).drew) b0 Ok.o.ps);go_enter func88,ntmps88;go_upto_region 5 with fail;have a:=k.drew;clear k y p0 p1 p2 p3 p4 p5 pk hH
  refine gR [(1,fun w=>w.cell? ⟨H+1,0,none⟩=some (.slice A0 I c0)/\w.cell? ⟨H+1,1,none⟩=some (.slice A1 I c1)/\w.cell? ⟨H+1,2,none⟩=some (.slice W R c2)/\w.cell? ⟨H+1,3,none⟩=some (.slice X S Z)/\w.cell? ⟨H+1,4,none⟩=some (.slice Y T c4)/\w.cell? ⟨H+1,5,none⟩=some (.slice L J M)),(4,fun w=>w.cell? ⟨H+1,3,none⟩=some (.slice X S Z))] (zg (OG a M0) (hB (a.cell M0 3))) ?_
  refine gL 0 1 M0 ?_;refine gF 2 ?_;refine gL 3 4 M1 ?_;intro l;refine gO 1 fun K j=> ?_;go_simp;refine HL.o.mono ?_;rintro e w5 (⟨v,rfl,A',css,rfl,k1,k2,k3,k4,o⟩|⟨er,k0,kg,rfl,n⟩);rotate_left
  ·exact⟨rfl,.inr ⟨er,k0,fun g=>kg (g (.inr x)),rfl,(a.grow n).below M2⟩⟩
  have n:=o.below M2;have b:=a.c2 o;refine j.o _ _ (zg (OG b M2) (hB (b.cell M2 3))) ?_;clear j K l;intro l;have N:=zA (kQ X S Z r w5 ((H3.o.on (zE _ _).drew).on n) (by omega) Ok.o.xi);clear a o HL n;refine gO 4 fun K j=> ?_;go_simp;refine N.o.mono ?_;rintro e w6 ⟨F,z,c6,rfl,hf,p⟩;have m:=b.c1 p;refine j.o _ _ hA ?_;clear j K l;intro l
  clear b p N;refine gO 5 fun K j=> ?_;go_simp;refine j.o _ _ hA ?_;clear j K l;intro l;refine gO 6 fun K j=> ?_;refine yz eE (.tmp 19) (.tmp 23) rfl rfl m.p1 rfl (cs:= #[.slice F z c6]) rfl rfl rfl (by intro u hu;simp at hu;subst hu;rfl) (by omega) (by omega) ?_;intro A8 c8 w8 ho hr A;refine j.o _ _ hA ?_;clear j K l;refine gF 7 ?_;intro l;refine xW (by kernel_rfl) ?_
  have e1:css.flatten++(#[Value.slice F z c6]:aG).toList=(css++ [[Value.slice F z c6]]).flatten:=(by simp);rw [e1]at A;have B:=(Sp.bytes A.p1).p1;have G:=(Sp.selT [_,_,_] B [1,2,0]).elsPush;have q:=Sp.els (α:=aC) G.p1;have i:Ze f ts ls lens r nums c= [ZM ts (atL ls I),allL ls]++ [Z5 r]:=(by unfold Ze;simp [x,hg.o]);have C:=(m.rb M0).1.len
  have E:Hid (∀s∈Ze f ts ls lens r nums c,s.length<=6000000000):=by
   show ∀s∈Ze f ts ls lens r nums c,s.length<=6000000000;intro s D;rw [i]at D;simp at D;rcases D with rfl|rfl|rfl<;>omega
  rw [<-i]at q;have P:=Sp.selT [_,_,_,_] q [0,3];clear B G q A m l e1 i C;go_wp2;go_ret
  exact .inl ⟨_,rfl,A8,3,c8,rfl,fun _=>⟨k1,k2,k3⟩,E.o,P⟩
 ·obtain⟨d,ha⟩:∃d:Nat,f.dims=(d:Int):=⟨f.dims.toNat,by have:=hd rfl;omega⟩;have ht:1<=d/\d<=4:=(by have:=hd rfl;omega);have HD:=zA (J0 f Af nf cf U.drew (by omega) (by omega));unfold fldV at HD k;rw [x,ha]at HD k;rw [ha]at y;have Q:ZG d c:=(by have h:=Ok.o.pi;rw [if_pos x,ha]at h;exact h);have hc:=zA Q;clear Q;go_enter func88,ntmps88;go_upto_region 9 with fail
  have a:=k.drew;clear k y p0 p1 p2 p3 p4 p5 pk hH
  have h7:U.drew.cell? ⟨H,0,none⟩=some (.string f.name)/\U.drew.cell? ⟨H,1,none⟩=some (.int .i64 5)/\U.drew.cell? ⟨H,2,none⟩=some (.slice Af nf cf)/\U.drew.cell? ⟨H,3,none⟩=some (.int .i64 f.scale)/\U.drew.cell? ⟨H,4,none⟩=some (.int .i64 (d:Int))/\U.drew.cell? ⟨H,5,none⟩=some (.bool f.many)/\U.drew.cell? ⟨H,6,none⟩=some (.bool f.stored):=⟨a.cell M1 0,a.cell M1 1,a.cell M1 2,a.cell M1 3,a.cell M1 4,a.cell M1 5,a.cell M1 6⟩
  refine gR [(1,fun w=>w.cell? ⟨H,0,none⟩=some (.string f.name)/\w.cell? ⟨H,1,none⟩=some (.int .i64 5)/\w.cell? ⟨H,2,none⟩=some (.slice Af nf cf)/\w.cell? ⟨H,3,none⟩=some (.int .i64 f.scale)/\w.cell? ⟨H,4,none⟩=some (.int .i64 (d:Int))/\w.cell? ⟨H,5,none⟩=some (.bool f.many)/\w.cell? ⟨H,6,none⟩=some (.bool f.stored)),(4,fun w=>w.cell? ⟨H+1,5,none⟩=some (.slice L J M))] (zg h7 (hB (a.cell M0 5))) ?_
  refine gL 0 1 M0 ?_;refine gF 2 ?_;refine gL 3 4 M1 ?_;intro l;refine gO 1 fun K j=> ?_;go_simp;refine HD.o.mono ?_;rintro e w5 ⟨rfl,n⟩;have b:=a.grow n;refine j.o _ _ (zg ⟨b.cell M1 0,b.cell M1 1,b.cell M1 2,b.cell M1 3,b.cell M1 4,b.cell M1 5,b.cell M1 6⟩ (hB (b.cell M0 5))) ?_;clear j K l;intro l
  have N:=zA (Qm L J M d c w5 ((H5.o.on (zE _ _).drew).on n) hc.o (by omega) (by omega) (by omega));clear a HD n h7;refine gO 4 fun K j=> ?_;go_simp;refine N.o.mono ?_;rintro e w6 ⟨F,z,c6,rfl,hf,p⟩;have m:=b.c1 p;refine j.o _ _ hA ?_;clear j K l;intro l;clear b p N;refine gO 5 fun K j=> ?_;go_simp;refine j.o _ _ hA ?_;clear j K l;refine gF 6 ?_
  intro l;refine xW (by kernel_rfl) ?_;have B:=(m.bytes.elsNil).p1.elsPush.lit #[.slice F z c6] 65 1 1 rfl (by decide);have q:=Sp.els (α:=aC) (css:= [[.slice F z c6]]) (xs:= [bkdB d c]) B;have i:Ze f ts ls lens r nums c= [bkdB d c]:=(by unfold Ze;simp [x,ha]);have C:=(m.rb M0).1.len
  have E:Hid (∀s∈Ze f ts ls lens r nums c,s.length<=6000000000):=by
   show ∀s∈Ze f ts ls lens r nums c,s.length<=6000000000;intro s D;rw [i]at D;simp at D;subst D;omega
  rw [<-i]at q;have P:=Sp.selT [_,_,_,_] q [0,3];clear B q m l i C;go_wp2;go_ret
  exact .inl ⟨_,rfl,_,1,1,rfl,fun h=>by omega,E.o,P⟩
 ·have HN:=zA (gW Y T c4 nums U.drew (H4.o.on (zE _ _).drew) (by omega) Ok.o.ni);have Q:ZG 1 c:=(by have h:=Ok.o.pi;rw [if_neg (by omega)]at h;exact h);have hc:=zA Q;clear Q;have i:Ze f ts ls lens r nums c= [colL (nums.map xP),bkdB 1 c]:=(by unfold Ze;rw [if_neg (by omega),if_neg (by omega),if_neg (by omega)]);have hb:=zA i;clear i;rcases h34 with rfl|rfl
  all_goals
   go_enter func88,ntmps88;go_upto_region 8 with fail;have a:=k.drew;clear k y p0 p1 p2 p3 p4 p5 pk hH;refine gR [(2,fun w=>w.cell? ⟨H+1,4,none⟩=some (.slice Y T c4)),(5,fun w=>w.cell? ⟨H+1,5,none⟩=some (.slice L J M))] (zg (a.cell M0 4) (hB (a.cell M0 5))) ?_;refine gF 0 ?_;refine gL 1 2 M0 ?_;refine gF 3 ?_;refine gL 4 5 M1 ?_;intro l;refine gO 2 fun K j=> ?_;go_simp
   refine HN.o.mono ?_;rintro e w5 ⟨A7,m7,c7,rfl,hv,o⟩;have n:=o.below M1;have b:=a.c1 o;refine j.o _ _ (zg (b.cell M1 4) (hB (b.cell M1 5))) ?_;clear j K l;intro l;have N:=zA (Qm L J M 1 c w5 ((H5.o.on (zE _ _).drew).on n) hc.o (by decide) (by decide) (by omega));clear a HN n o;refine gO 5 fun K j=> ?_;go_simp;refine N.o.mono ?_
   rintro e w6 ⟨F,z,c6,rfl,hf,p⟩;have m:=b.c1 p;refine j.o _ _ hA ?_;clear j K l;intro l;clear b p N;refine gO 6 fun K j=> ?_;go_simp;refine j.o _ _ hA ?_;clear j K l;refine gF 7 ?_;intro l;refine xW (by kernel_rfl) ?_;have B:=(m.p1.bytes.elsNil).p1.elsPush;have G:=(B.p1.bytes.elsPush).lit #[.slice A7 m7 c7,.slice F z c6] 65 1 2 rfl (by decide)
   have q:=Sp.els (α:=aC) (css:= [[.slice A7 m7 c7], [.slice F z c6]]) (xs:= [colL (nums.map xP),bkdB 1 c]) G;have C:=(m.rb M0).1.len;have hp:=(m.rb M1).1.len
   have E:Hid (∀s∈Ze f ts ls lens r nums c,s.length<=6000000000):=by
    show ∀s∈Ze f ts ls lens r nums c,s.length<=6000000000;intro s D;rw [hb.o]at D;simp only [yx,xZ,or_false]at D;rcases D with rfl|rfl<;>omega
   rw [<-hb.o]at q;have P:=Sp.selT [_,_,_,_] q [0,3];clear B G q m l C hp;go_wp2;go_ret
   exact .inl ⟨_,rfl,_,2,2,rfl,fun h=>by omega,E.o,P⟩
end Go.Proofs.YtjbhbfaeielbiaaGreatDoor

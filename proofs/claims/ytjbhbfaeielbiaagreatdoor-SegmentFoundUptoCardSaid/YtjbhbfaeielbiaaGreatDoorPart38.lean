import Derived.Test.YtjbhbfaeielbiaaGreatDoorPart32
import Derived.Test.YtjbhbfaeielbiaaGreatDoorPart35
import Derived.RecoverIn
set_option maxRecDepth 100000
set_option maxHeartbeats 8000000
set_option linter.unusedVariables false
set_option linter.unusedSimpArgs false
namespace Go.Proofs.YtjbhbfaeielbiaaGreatDoor
open Go.Proofs.Tryz
open Rep (rep)
open Go.RowKit Go.Shelf
attribute [local go_sem] Oper.semAt_some
attribute [local go_sem ↓] zU zV
theorem lT:Elt prog 36 86 3 56:=xt (by kernel_rfl) (by decide) (by kernel_rfl)
theorem Zm {p:Nat} {pre post:aC} {L:List Asn} {w:O} (h:Sp w (RdA p (rsAt pre post)::L)):
 Calls prog 144 #[.pointer (some ⟨p,0,none⟩),.bool true] w fun e w' =>e= .returned (.tuple #[])/\w' =w:=by
 have a:=zA (QA h);go_enter func144,ntmps144;go_wp2_with (refine a.o.mono ?_;rintro e b ⟨rfl,rfl⟩)
 go_end0
 exact⟨rfl,rfl⟩
theorem lW (a b v2:V) (w:O):
 Calls prog 108 #[.agg #[a,b,v2]] w fun e w' =>e= .returned (.func (.func 189) #[] #[.pointer (some ⟨w.heap.size,0,none⟩)])/\w' =w.alloc (.cells #[a,b,v2] 206):=by
 have c:=@mF prog;go_enter func108,ntmps108;go_wp2;go_ret
 exact⟨rfl,rfl⟩
theorem RF {g:N7} {I:Nat} {s nb f:Nat} {i:aA} {w:O} {T0 T1:List Asn} (J:Nat) (M:Nat->List Asn) (l d:Nat) (ad:1<=d) (hg:∀x∈g,Y9 x=true/\QB x) (xn:s+g.length<=16384)
 (hY:∀(k:Nat) (x:List Entry) (A' :aA) (n' c' :Nat) (T:List Asn) (W:O),g[k]? =some x->k<=J->Sp W (DatA (.slice A' n' c') x::(M k++(T++T0)))->YieldAt Fence.wide (d - 1) prog l #[.int .i64 ((s+k:Nat):Int),.slice A' n' c'] W fun e W' =>e= .returned (.bool (decide (k≠J)))/\Sp W' (M (k+1)++(T++if k=J then T1 else T0)))
 (b:Sp w (BlkA I 206 #[.int .i64 (s:Int),.int .i64 ((s+g.length:Nat):Int),.slice i nb f]::BA i nb f (grpB g)::(M 0++T0))) (aj:nb<=100000000000000):
 CallsIn Fence.wide d prog 189 #[.func (.yield l) #[] #[],.pointer (some ⟨I,0,none⟩)] w fun e W' =>(∃v,e= .returned v)/\Sp W' (BlkA I 206 #[.int .i64 (s:Int),.int .i64 ((s+g.length:Nat):Int),.slice i nb f]::BA i nb f (grpB g)::(M (min (J+1) g.length)++if J<g.length then T1 else T0)):=by
 have HY:=zA hY;have Hg:=zA hg;have mixed:Tryz.prog.follows .mixedOrders=true:=by kernel_rfl
 obtain⟨G,hG⟩:=eX (g.length);rw [hG]at b xn⊢;obtain⟨en,y6⟩:=eX (s+G);rw [y6]at b xn⊢;have HG:=zA hG;have h1:=zA (VG (c:=f) b (b.rb M1).1 (by omega));have y1:=b.cl M0 2;have y0:=b.cl M0 0;clear hY hg hG;refine callsIn_of_wp func189 rfl trivial ?_ rfl;simp only [ntmps189,yP,z6,yO,Nat.reduceAdd,Nat.reduceSub,xI,xH,xf,xM,zZ,yI]
 gi_wp2_with (refine⟨trivial,?_⟩;gi_at_call 73;refine(callsIn_wide.2 h1.o).mono ?_;rintro e w1 ⟨p,rfl,D⟩;have y2:=D.cl M1 0)
 have h2:Sp w1 (RdA p (rsAt [] ((g.drop 0).flatMap docB))::BlkA I 206 #[.int .i64 (s:Int),.int .i64 (en:Int),.slice i nb f]::BA i nb f (grpB g)::(M 0++T0)):=by
  simpa [rsAt,grpB]using D
 clear b D h1 y1 y0
 gi_loopg [4] G (fun gk vi wr=>∃(k:Nat) (pre:aC),k<=G/\k<=J/\gk=G - k/\vi= .int .i64 ((s+k:Nat):Int)/\Sp wr (RdA p (rsAt pre ((g.drop k).flatMap docB))::BlkA I 206 #[.int .i64 (s:Int),.int .i64 (en:Int),.slice i nb f]::BA i nb f (grpB g)::(M k++T0)))
 case atStart=>exact⟨0, [],zJ _,zJ _,rfl,rfl,h2⟩
 case round=>
  obtain⟨k,pre,hk,y4,rfl,rfl,b⟩:=hrel;clear h2 y2;have ae:=b.cl M1 1;obtain⟨ik,xs⟩:=eX (s+k);rw [xs]
  by_cases y3:k<G
  ·obtain⟨x,Hx⟩:∃x,Hid (g[k]? =some x):=⟨_,zB (by rw [HG.o];exact y3)⟩;obtain⟨hx,x3⟩:=Hg.o x (zD Hx.o);unfold Y9 at hx;simp only [zM,decide_eq_true_eq]at hx;obtain⟨hm,x2⟩:=hx;have x5:=zA (List.all_eq_true.1 x2);have x6:=zA x3;obtain⟨N,hN⟩:=eX (x.length);rw [hN]at hm;have HN:=zA hN;obtain⟨rest,U⟩:=eX ((g.drop (k+1)).flatMap docB)
   have h3:Sp wr (RdA p (rsAt pre (zP N++(x.flatMap Xh++rest)))::BlkA I 206 #[.int .i64 (s:Int),.int .i64 (en:Int),.slice i nb f]::BA i nb f (grpB g)::(M k++T0)):=by
    rw [yb Hx.o,zp,U]at b;unfold docB at b;rw [hN]at b
    simpa using b
   have hr:=zA U;have P:=zA (ZH h3 64 (by omega));rw [yn (by omega) hm]at P;have af:(ik:Int)<en:=(by omega);clear b h3 x2 x3 hN U
   gi_wp2_with (refine⟨trivial,?_⟩;gi_at_call 74;refine(callsIn_wide.2 P.o).mono ?_;rintro e w2 ⟨rfl,h4⟩)
   have h5:=(h4.elsNil (α:=Entry)).nil 86 3;clear P h4
   gi_loopg [5,6] N (fun gj v5 v6 wr=>∃(j:Nat) (A5:aA) (c5:Nat) (css:List aF) (pre:aC),j<=N/\gj=N - j/\v6= .int .i64 ((N - j:Nat):Int)/\v5= .slice A5 j c5/\Sp wr (RowA 86 3 (.slice A5 j c5) j css.flatten::ElsA css (x.take j)::RdA p (rsAt pre ((x.drop j).flatMap Xh++rest))::BlkA I 206 #[.int .i64 (s:Int),.int .i64 (en:Int),.slice i nb f]::BA i nb f (grpB g)::(M k++T0)))
   case atStart=>exact⟨0,none,0, [],_,zJ _,rfl,rfl,rfl,h5⟩
   case round=>
    obtain⟨j,A5,c5,css,pre,hj,rfl,rfl,rfl,b⟩:=hrel;obtain⟨z,hz⟩:=eX (N - j);rw [hz];clear h5
    by_cases am:0<z
    ·obtain⟨he,hc⟩:∃he,Hid (x[j]? =some he):=⟨_,zB (by rw [HN.o];omega)⟩;have hw:=x5.o he (zD hc.o);unfold XP at hw;simp only [zM,decide_eq_true_eq]at hw;obtain⟨⟨xi,y5⟩,hv⟩:=hw;obtain⟨A,B,a⟩:=he;simp only at xi y5 hv;have h8:Hid (∀z∈a,In64 z):=x6.o _ (zD hc.o);obtain⟨Q,hQ⟩:=eX (a.length);rw [hQ]at hv
     obtain⟨o,E⟩:=eX ((x.drop (j+1)).flatMap Xh++rest);obtain⟨m,R⟩:∃m:aD->aC,m=fun l=>l.flatMap fun n=>zP (yc n):=⟨_,rfl⟩
     have t:Sp wr (RdA p (rsAt pre (zP A.data.toList.length++A.data.toList++(Qv B++(zP Q++(m a++o)))))::RowA 86 3 (.slice A5 j c5) j css.flatten::ElsA css (x.take j)::BlkA I 206 #[.int .i64 (s:Int),.int .i64 (en:Int),.slice i nb f]::BA i nb f (grpB g)::(M k++T0)):=by
      have h:=b.p2;rw [yb hc.o,zp,zO,E]at h;unfold Xh at h;rw [QI,QI]at h;have e:A.data.toList.length=A.size:=(by simp);rw [e,R];unfold Qv at h⊢
      simpa [hQ]using h
     have hs:=bV t 24 (by omega);rw [QM (by simp;omega) (by simp;omega),show(⟨A.data.toList.toArray⟩:aB)=A from rfl]at hs;have h6:=zA hs;have hd:=zA E;have h9:=zA R;have HQ:=zA hQ;have an:(0:Int)<z:=(by omega);clear hs t b E R hQ
     gi_wp2_with fail
     refine⟨trivial,?_⟩;refine(callsIn_wide.2 h6.o).mono ?_;rintro e w3 ⟨rfl,F⟩
     have hl :Sp w3 (RdA p (rsAt (pre++(zP A.data.toList.length++A.data.toList)) (zP B.data.toList.length++B.data.toList++(zP Q++(m a++o))))::RowA 86 3 (.slice A5 j c5) j css.flatten::ElsA css (x.take j)::BlkA I 206 #[.int .i64 (s:Int),.int .i64 (en:Int),.slice i nb f]::BA i nb f (grpB g)::(M k++T0)):=by
      have e:B.data.toList.length=B.size:=(by simp);rw [e];exact F
     have ht:=bV hl 4096 (by omega);rw [QM (by simp;omega) (by simp;omega),show(⟨B.data.toList.toArray⟩:aB)=B from rfl]at ht;have h7:=zA ht;clear ht h6 F hl
     gi_wp2_with fail
     refine⟨trivial,?_⟩;refine(callsIn_wide.2 h7.o).mono ?_;rintro e w4 ⟨rfl,L⟩;obtain⟨Be,ys⟩:=eX (w4.heap.size);have hb:=(L.blkH 86 #[.string A,.string B,.slice none 0 0] ys).p1;have P:=zA (ZH hb 4 (by omega));rw [yn (by omega) hv]at P;clear h7 L hb
     gi_wp2_with fail
     refine⟨trivial,?_⟩;refine(callsIn_wide.2 P.o).mono ?_;rintro e w5 ⟨rfl,hh⟩;have hi:=hh.nil 2 1;clear P hh
     gi_wp2
     gi_loopg [8] Q (fun gq v8 wr=>∃(q:Nat) (X:aA) (Z:Nat) (pre:aC),q<=Q/\gq=Q - q/\v8= .int .i64 ((Q - q:Nat):Int)/\Sp wr (IA X q Z (a.take q)::RdA p (rsAt pre (m (a.drop q)++o))::BlkA Be 86 #[.string A,.string B,.slice X q Z]::RowA 86 3 (.slice A5 j c5) j css.flatten::ElsA css (x.take j)::BlkA I 206 #[.int .i64 (s:Int),.int .i64 (en:Int),.slice i nb f]::BA i nb f (grpB g)::(M k++T0)))
     case atStart=>exact⟨0,none,0,_,zJ _,rfl,rfl,hi⟩
     case round=>
      obtain⟨q,X,Z,pre,hq,rfl,rfl,b⟩:=hrel;obtain⟨y,hy⟩:=eX (Q - q);rw [hy];clear hi
      by_cases ha:0<y
      ·obtain⟨v,Hv⟩:∃v,Hid (a[q]? =some v):=⟨_,zB (by rw [HQ.o];omega)⟩;have x1:=h8.o v (zD Hv.o)
       have hp:Sp wr.drew (RdA p (rsAt pre (zP (yc v)++(m (a.drop (q+1))++o)))::IA X q Z (a.take q)::BlkA Be 86 #[.string A,.string B,.slice X q Z]::RowA 86 3 (.slice A5 j c5) j css.flatten::ElsA css (x.take j)::BlkA I 206 #[.int .i64 (s:Int),.int .i64 (en:Int),.slice i nb f]::BA i nb f (grpB g)::(M k++T0)):=by
        have h:=b.p1.drew;have e:m (a.drop q)=zP (yc v)++m (a.drop (q+1)):=(by rw [h9.o,yb Hv.o];rfl);rw [e,zO]at h;exact h
       have hI:=gB hp;rw [Vm x1]at hI;have HI:=zA hI;have xb:=hp.cl M2 2;have ak:(0:Int)<y:=(by omega);clear hI b
       gi_upto_region 12 with fail
       refine wpIn_wide.2 ?_;refine gR [(7,fun W=>W.cell? ⟨Be,2,none⟩=some (.slice X q Z))] (hB xb) ?_;refine gF 0 ?_;refine gL 1 7 M0 ?_;refine gF 2 ?_;intro hC;refine gO 3 fun K hK=> ?_;go_simp;refine HI.o.mono ?_;rintro e w6 ⟨rfl,t⟩;refine hK.o _ _ (hB (t.cell M2 2)) ?_;clear hK K hC;intro hC;refine gO 4 fun K hK=> ?_;go_simp;refine hK.o _ _ (hB ((t.al _).cell M2 2)) ?_
       clear hK K hC;intro hC;refine gO 5 fun K hK=> ?_;refine yz Zs (.tmp 38) (.tmp 41) rfl rfl t.p1 rfl (cs:= #[.int .i64 v]) rfl rfl rfl (by intro u hu;simp at hu;subst hu;rfl) (by omega) (by omega) ?_;intro A2 c2 w7 aa ah F;have q4:=F.cl M2 2;have q5:=(F.blkOf M2).frozen 2;refine hK.o _ _ (hB q4) ?_;clear hK K hC;refine gF 6 ?_;intro hC;refine gO 7 fun K hK=> ?_;go_simp
       refine hK.o _ _ hA ?_;clear hK K hC;intro hC;refine xW (by kernel_rfl) ?_;have e:ints (a.take q)++ #[Value.int .i64 v].toList=ints (a.take (q+1)):=(by rw [zI,Hv.o];simp [ints]);rw [e]at F;have L:=(F.p2.set 2 (.slice A2 (q+1) c2)).p2.p2;have y7:(y:Int) - 1=((Q - (q+1):Nat):Int):=(by omega);clear e q4 q5 t F hp xb hC
       gi_wp2
       gi_roundg (Q - (q+1))
       ·exact⟨q+1,A2,c2,_,by omega,rfl,by rw [<-y7],L⟩
       ·omega
      ·obtain rfl:y=0:=by omega
       obtain rfl:q=Q:=by omega
       rw [zF (by rw [HQ.o];omega),zQ (by rw [HQ.o];omega)]at b
       have Y:Sp wr (DatA (.slice X q Z) a::RdA p (rsAt pre o)::BlkA Be 86 #[.string A,.string B,.slice X q Z]::RowA 86 3 (.slice A5 j c5) j css.flatten::ElsA css (x.take j)::BlkA I 206 #[.int .i64 (s:Int),.int .i64 (en:Int),.slice i nb f]::BA i nb f (grpB g)::(M k++T0)):=by
        have h:=b.ints h8.o;rw [h9.o]at h;exact h
       have C:=zA (Zm Y.p1);have c0:=Y.cl M2 0;have c1:=Y.cl M2 1;have c2:=Y.cl M2 2;clear b
       gi_wp2_with fail
       refine⟨trivial,?_⟩;refine(callsIn_wide.2 C.o).mono ?_;rintro e w6 ⟨rfl,rfl⟩;have t:=Y.p3;clear Y C
       gi_wp2_with (gi_at_builtin;refine YA lT (.tmp 46) (.tmp 48) rfl rfl (t.al _) rfl rfl (Ye _ #[.string A,.string B,.slice X q Z] _ rfl (H:=w6.heap.size) rfl) (by intro u hu;simp at hu;rcases hu with rfl|rfl|rfl<;>rfl) (by omega) (by omega) ?_;intro A8 c8 w8 ab ai L)
       have hb:=(L.p1.mk1 (α:=Entry) (cs:= [.string A,.string B,.slice X q Z]) (x:=(⟨A,B,a⟩:Entry)) fun S r=>by
        obtain⟨_,_,_,e,h⟩:=r;cases e;exact Entry.of_cells (x:=⟨A,B,a⟩) h (show A.size<=9223372036854775807 by omega) (show B.size<=9223372036854775807 by omega)).p4.p1.elsPush.p1.d3
       have e1:css.flatten++ #[Value.string A,.string B,.slice X q Z].toList=(css++ [[Value.string A,.string B,.slice X q Z]]).flatten:=(by simp);have e2:x.take j++ [⟨A,B,a⟩]=x.take (j+1):=(by rw [zI,hc.o];rfl);rw [e1,e2,<-hd.o]at hb;have y8:(z:Int) - 1=((N - (j+1):Nat):Int):=(by omega);clear e1 e2 L t c0 c1 c2
       gi_wp2
       gi_roundg (N - (j+1))
       ·exact⟨j+1,A8,c8,css++ [[.string A,.string B,.slice X q Z]],_,by omega,rfl,by rw [<-y8],rfl,hb⟩
       ·omega
    ·obtain rfl:z=0:=by omega
     obtain rfl:j=N:=by omega
     rw [zF (by rw [HN.o];omega),zQ (by rw [HN.o];omega),x7,zZ]at b;have D:=b.els (α:=Entry);have C:=zA (Zm D.p1);have ha:=HY.o k x A5 j c5 [RdA p (rsAt pre rest),BlkA I 206 #[.int .i64 (s:Int),.int .i64 (en:Int),.slice i nb f],BA i nb f (grpB g)] wr Hx.o y4 (D.perm (List.Perm.cons _ (List.perm_append_comm_assoc [_,_,_] (M k) T0)));rw [xs]at ha
     by_cases hf:k=J
     ·rw [if_pos hf,decide_eq_false (by simpa using hf)]at ha;obtain⟨fn,x4,x8,body,hy,hR⟩:=ha;have HR:=zA hR;clear hR b
      gi_wp2_with fail
      refine⟨trivial,?_⟩;refine(callsIn_wide.2 C.o).mono ?_;rintro e w6 ⟨rfl,rfl⟩
      gi_wp2
      refine HR.o.mono ?_;rintro e W3 ⟨rfl,H3⟩;have H4:=H3.perm (List.perm_append_comm_assoc (M (k+1)) [_,_,_] T1);clear H3 C hy HR
      gi_wp2
      refine bodyPost_ret (results_none rfl _ _ _) rfl ?_;refine⟨⟨_,rfl⟩,?_⟩;rw [show min (J+1) G=k+1 by omega]
      (try rw [if_pos (by omega)])
      exact H4.tail
     rw [if_neg hf,decide_eq_true hf]at ha;obtain⟨fn,x4,x8,body,hy,hR⟩:=ha;have HR:=zA hR;clear hR b
     gi_wp2_with fail
     refine⟨trivial,?_⟩;refine(callsIn_wide.2 C.o).mono ?_;rintro e w6 ⟨rfl,rfl⟩
     gi_wp2
     refine HR.o.mono ?_;rintro e W3 ⟨rfl,H3⟩
     have H4:Sp W3 (RdA p (rsAt pre rest)::BlkA I 206 #[.int .i64 (s:Int),.int .i64 (en:Int),.slice i nb f]::BA i nb f (grpB g)::(M (k+1)++T0)):=
      H3.perm (List.perm_append_comm_assoc (M (k+1)) [_,_,_] T0)
     rw [<-hr.o]at H4;have ag:(ik:Int)+1=((s+(k+1):Nat):Int):=(by omega);clear H3 C hy HR
     gi_wp2
     gi_roundg (G - (k+1))
     ·exact⟨k+1,_,by omega,by omega,rfl,congrArg (Value.int .i64) (by omega),H4⟩
     ·omega
  ·obtain rfl:k=G:=by omega
   obtain rfl:ik=en:=by omega
   have ho:Sp wr (RdA p (rsAt pre [])::BlkA I 206 #[.int .i64 (s:Int),.int .i64 (ik:Int),.slice i nb f]::BA i nb f (grpB g)::(M k++T0)):=by
    rw [zQ (by rw [HG.o];omega)]at b;exact b
   have hn:=Xz ho;rw [YL]at hn;have h0:=zA hn;clear hn b
   gi_wp2_with fail
   refine⟨trivial,?_⟩;refine(callsIn_wide.2 h0.o).mono ?_;rintro e w3 ⟨rfl,k3,rfl⟩;have D:=ho.drewN k3;have C:=zA (Zm D);clear ho h0
   gi_wp2_with (refine⟨trivial,?_⟩;refine(callsIn_wide.2 C.o).mono ?_;rintro e w6 ⟨rfl,rfl⟩)
   go_end0
   refine⟨⟨_,rfl⟩,?_⟩;rw [show min (J+1) k=k by omega]
   (try rw [if_neg (by omega)])
   exact D.tail
theorem pE {g:N7} {i:Nat} {a nb f:Nat} {b:aA} {w:O} {T0:List Asn} (M:Nat->List Asn) (l d:Nat) (m:1<=d) (t:∀x∈g,Y9 x=true/\QB x) (n:a+g.length<=16384)
 (s:∀(k:Nat) (x:List Entry) (A' :aA) (n' c :Nat) (T:List Asn) (W:O),g[k]? =some x->Sp W (DatA (.slice A' n' c) x::(M k++(T++T0)))->YieldAt Fence.wide (d - 1) prog l #[.int .i64 ((a+k:Nat):Int),.slice A' n' c] W fun e j =>e= .returned (.bool true)/\Sp j (M (k+1)++(T++T0)))
 (q:Sp w (BlkA i 206 #[.int .i64 (a:Int),.int .i64 ((a+g.length:Nat):Int),.slice b nb f]::BA b nb f (grpB g)::(M 0++T0))) (o:nb<=100000000000000):
 CallsIn Fence.wide d prog 189 #[.func (.yield l) #[] #[],.pointer (some ⟨i,0,none⟩)] w fun e j =>(∃v,e= .returned v)/\Sp j (BlkA i 206 #[.int .i64 (a:Int),.int .i64 ((a+g.length:Nat):Int),.slice b nb f]::BA b nb f (grpB g)::(M g.length++T0)):=by
 have h:=RF (T1:=T0) g.length M l d m t n (fun k x A' n' c T W p _ r=>by
  have u:=zN p;rw [ite_self,decide_eq_true (by omega)];exact s k x A' n' c T W p r) q o
 rw [ite_self,Nat.min_eq_right (Nat.le_succ _)]at h;exact h
open Go.RowKit
theorem tZ (d:Nat) (p q:Addr) (w:O):
 CallsDIn Fence.wide d prog 143 #[.pointer (some p),.pointer (some q)] .returning w fun e c w' =>e= .returned (.tuple #[])/\c = .returning/\Below w.heap.size w w' :=by
 have b:∀W:O,(Instr.typeAssert Value.nilIface 20 253 true).run prog W= .ok (.tuple #[.agg #[],.bool false]) W:=fun W=>by kernel_rfl
 refine callsDIn_of_wpSIn func143 rfl trivial fun c₀ cs a=> ?_
 apply wpSIn_seq
 apply wpSIn_region
 simp [wpOpsSIn,go_sem,recoverD,a,ntmps143,Exit.thenS];refine wpSIn_of_wpIn rfl ((wpIn_wide (n:=d)).2 ?_);show Code.wp _ _ _ {tmps:= #[.pointer (some p),.pointer (some q),.nilIface,undef,undef,.nilIface,undef,undef,undef,undef,undef,undef,undef,undef,undef],defers:= []} _;go_wp2;refine⟨rfl,.returning,?_,.tuple #[],results_none rfl _ _ _,rfl,rfl,(zE _ _).alloc (zC _) _⟩;cases c₀;simp only at a
 subst a;rfl
theorem WV {size:Nat}:∀(css:List aF) (k j:Nat) (v:V) (cs:aF),(∀c∈css,c.length=size)->css[k]? =some cs->j<size->css.flatten.set (k*size+j) v=(css.set k (cs.set j v)).flatten
 | [],_,_,_,_,_,h,_=>by simp at h
 |c::css,0,j,v,cs,hl,h,hj=>by
  simp at h;subst h;have:=hl c (by simp);simp only [yM,yw,Nat.zero_mul,zx];rw [List.set_append_left _ _ (by omega)]
 |c::css,k+1,j,v,cs,hl,h,hj=>by
  have b:=hl c (by simp);simp only [yM,List.set_cons_succ]
  rw [xB _ _ (by rw [b,xK];omega),show(k+1)*size+j - c.length=k*size+j by rw [b,xK];omega,
   WV css k j v cs (fun d a =>hl d (by simp [a])) (by simpa using h) hj]
def frG (gs:List N7) (k:Nat):Nat:=(gs.take k).flatten.length
def glen (gs:List N7) (k:Nat):Nat:=(grpB ((gs[k]?).getD [])).length
def Yj (gs:List N7) (As:List aA) (k:Nat):aF:=
 [.int .i64 (frG gs k:Int),.int .i64 (frG gs (k+1):Int),match As[k]? with|some A=> .slice A (glen gs k) (glen gs k)|none=> .slice none 0 0]
def yd (gs:List N7) (As:List aA) (m:Nat):List aF:=(List.range m).map (Yj gs As)
def byA (gs:List N7) (As:List aA) (k:Nat):Asn:=BA ((As[k]?).getD none) (glen gs k) (glen gs k) (grpB ((gs[k]?).getD []))
def bysA (gs:List N7) (As:List aA):List Asn:=(List.range As.length).map (byA gs As)
theorem d9 {gs:List N7} {k:Nat} {g:N7} (h:gs[k]? =some g):frG gs (k+1)=frG gs k+g.length:=by
 unfold frG;rw [zI,h];simp
theorem pB {gs:List N7} {k:Nat} {g:N7} (h:gs[k]? =some g):glen gs k=(grpB g).length:=by unfold glen;rw [h];rfl
theorem s8 (gs:List N7) (As:List aA) (m:Nat):yd gs As (m+1)=yd gs As m++ [Yj gs As m]:=by simp [yd,List.range_succ]
theorem iK {gs:List N7} {As:List aA} {m:Nat}:∀c∈yd gs As m,c.length=3:=by
 intro c a;obtain⟨k,_,rfl⟩:=List.mem_map.1 a;rfl
theorem Zi {gs:List N7} {As:List aA} {m k j:Nat} {v:V} (c:k<m) (b:(Yj gs As k)[j]? =some v):(yd gs As m).flatten[k*3+j]? =some v:=by
 have a:j<3:=zN b;have h:=xX (yd gs As m) k j (Yj gs As k) iK (by unfold yd;rw [zH,zq c];rfl) a;exact h.trans b
theorem u6 {gs:List N7} {As:List aA} {m:Nat} (A:aA) (b:As.length<m):(yd gs As m).flatten.set (As.length*3+2) (.slice A (glen gs As.length) (glen gs As.length))=(yd gs (As++ [A]) m).flatten:=by
 rw [WV (yd gs As m) As.length 2 _ (Yj gs As As.length) iK (by unfold yd;rw [zH,zq b];rfl) (by omega)]
 congr 1
 apply yX
 intro i;unfold yd;rw [xO];simp only [zK,xg,zH]
 by_cases d:As.length=i
 ·subst d;rw [if_pos rfl,if_pos b,zq b];simp [Yj]
 ·rw [if_neg d]
  by_cases c:i<m
  ·rw [zq c];simp only [yk,Yj]
   congr 3
   rcases zk i As.length with a|a
   ·rw [z9 a]
   ·rw [zR a,zh a,zh (by simp;omega)]
  ·rw [zh (by simpa using c)];rfl
theorem u7 {gs:List N7} {As:List aA} {k:Nat} (h:As.length<=k):(Yj gs As k)[2]? =some (.slice none 0 0):=by
 show some (match As[k]? with|some A=>_|none=>_)=_;rw [zh h]
theorem MD {gs:List N7} {As:List aA} {A:aA} {k:Nat} (a:k<As.length):byA gs (As++ [A]) k=byA gs As k:=by
 unfold byA;rw [z9 a]
theorem F8 (gs:List N7) (As:List aA) (A:aA):bysA gs (As++ [A])=bysA gs As++ [BA A (glen gs As.length) (glen gs As.length) (grpB ((gs[As.length]?).getD []))]:=by
 unfold bysA;rw [zG,List.length_singleton,List.range_succ,zw]
 congr 1
 ·exact List.map_congr_left fun k a=>MD (List.mem_range.1 a)
 ·simp [byA]
theorem KF {gs:List N7} {As:List aA} {k:Nat} (a:k<As.length):(bysA gs As)[k]? =some (byA gs As k):=by
 unfold bysA;rw [zH,zq a];rfl
theorem C6 {w:O} {s e:Nat} {v:V} {a:aG} (c:a.getD 2 undef= .pointer (some ⟨s,0,none⟩)) (d:a.getD 3 undef= .pointer (some ⟨e,0,none⟩)) (i:w.cell? ⟨s,0,none⟩=some v) (h:w.cell? ⟨e,0,none⟩=some (.int .i64 0)):
 (results Tryz.f82 a).run prog w= .ok (.tuple #[v,.int .i64 0]) w:=by
 have b:Tryz.f82.results= #[ResultVar.cell 2 124,ResultVar.cell 3 27]:=rfl;have f:a[2]?.getD undef= .pointer (some ⟨s,0,none⟩):=by simpa using c
 have g:a[3]?.getD undef= .pointer (some ⟨e,0,none⟩):=by simpa using d
 simp [results,b,f,g,asAddr,Result.andThen,go_sem,i,h]
theorem E8 {α:Type} {rows:List (List α)} {k j:Nat} {a:List α} (h:rows[k]? =some a) (b:j<a.length):rows.flatten[(rows.take k).flatten.length+j]? =a[j]? :=by
 have e:rows.flatten=(rows.take k).flatten++(a++(rows.drop (k+1)).flatten):=by
  conv=>lhs;rw [<-zu k rows,yb h]
  rw [yf,yM]
 rw [e,zR (by omega),Nat.add_sub_cancel_left,z9 b]
theorem JY:Elt prog 179 36 1 24:=xt (by kernel_rfl) (by decide) (by kernel_rfl)
def AllA (a:Nat) (docs:N7) (m:Nat):Asn:=
 ExA fun x:aA×Nat×List aF=>zz [BlkA a 179 #[.slice x.1 m x.2.1],RowA 36 1 (.slice x.1 m x.2.1) m x.2.2.flatten,ElsA x.2.2 (docs.take m)]
theorem Sp.allIn {w:O} {L:List Asn} {a m c:Nat} {docs:N7} {A:aA} {css:List aF} (h:Sp w (BlkA a 179 #[.slice A m c]::RowA 36 1 (.slice A m c) m css.flatten::ElsA css (docs.take m)::L)):Sp w (AllA a docs m::L):=
 Sp.exIn (A,c,css) h.star3
theorem Sp.allOut {w:O} {L:List Asn} {a m:Nat} {docs:N7} (h:Sp w (AllA a docs m::L)):∃(A:aA) (c:Nat) (css:List aF),Sp w (BlkA a 179 #[.slice A m c]::RowA 36 1 (.slice A m c) m css.flatten::ElsA css (docs.take m)::L):=by
 obtain⟨⟨A,c,css⟩,h⟩:=Sp.exOut h;exact⟨A,c,css,h.unstar3⟩
end Go.Proofs.YtjbhbfaeielbiaaGreatDoor

import Derived.Test.YtjbhbfaeielbiaaGreatDoorPart47
import Derived.Test.YtjbhbfaeielbiaaGreatDoorPart44
import Derived.Test.YtjbhbfaeielbiaaGreatDoorPart46
import Derived.Test.YtjbhbfaeielbiaaGreatDoorPart41
set_option maxRecDepth 100000
set_option maxHeartbeats 8000000
set_option linter.unusedVariables false
set_option linter.unusedSimpArgs false
namespace Go.Proofs.YtjbhbfaeielbiaaGreatDoor
open Go.Proofs.Tryz
open Rep (rep)
open Go.RowKit
attribute [local go_sem ↓] zU zV
abbrev gE:=Ptr (List aC×List aB×Int)
abbrev aW:=Ptr (List OH×Int)
abbrev Zj:=gE×List aW×aD×AnyV×AnyV×AnyV
def aT (ts:List aB) (ls:List (List PostD)):gE:=Ptr.mk (some (tBl ts (atL ls ts.length),tFi ts,(ts.length:Int)))
def Xo (ps:List PostD):aW:=Ptr.mk (some (pBl ps,(ps.length:Int)))
def fldM (f:Field) (x:N8):Zj:=(if f.kind<=2 then aT x.1 x.2.1 else Ptr.mk none,if f.kind<=2 then x.2.1.map Xo else [],if f.kind=1 then x.2.2.1 else [],⟨⟩,⟨⟩,⟨⟩)
theorem cK {w:O} {g:Nat} {b c d e f h:V} {a:aG} (i:a.getD 6 undef= .pointer (some ⟨g,0,none⟩)) (m:Blk w g 106 #[b,c,d,e,f,h]):(results Tryz.f84 a).run prog w= .ok (.agg #[b,c,d,e,f,h]) w:=by
 have j:=run_loadVar_row (P:=prog) w g 106 106 #[b,c,d,e,f,h] (0,0) _ m underlying106 rfl (by kernel_rfl);have k:Tryz.f84.results= #[ResultVar.cell 6 106]:=rfl;have l:a[6]?.getD undef= .pointer (some ⟨g,0,none⟩):=by simpa using i
 simp [results,k,l,j,asAddr,Result.andThen]
theorem fV (args:aG) (w:O):(callFunc 125 args).run prog w= .ok (.enter 125 args) w:=enters_of func125 (by kernel_rfl) rfl args w
theorem pR (ls:List (List PostD)) (k:Nat):(allL (ls.take k)).length<=(allL ls).length:=by
 have h:allL ls=allL (ls.take k)++allL (ls.drop k):=by unfold allL;rw [<-yS,zu]
 rw [h,zG];omega
theorem NR {ls:List (List PostD)} {n z:Nat} (h:z∈atL ls n):z<=(allL ls).length:=by
 unfold atL at h;obtain⟨j,_,rfl⟩:=List.mem_map.1 h;exact pR ls (j+1)
theorem NQ {ls:List (List PostD)} {k p:Nat} {ps:List PostD} (h:ls[k]? =some ps) (g:xk ps=true) (f:(allL (ls.take k)).length=p):
 ∃a,(allL (ls.take (k+1))).length=a /\p<a /\a <=(allL ls).length/\((allL ls).drop p).take (a - p)=YB ps/\∀n,k<n->(atL ls n)[k]? =some a :=by
 have b:allL (ls.take (k+1))=allL (ls.take k)++YB ps:=by rw [zI,h];simp [allL]
 have i:0<(YB ps).length:=by
  rw [dP g,zG];have:=Yb ps.length;omega
 have c:(allL (ls.take (k+1))).length=p+(YB ps).length:=by rw [b,zG,f]
 have d:allL ls=(allL (ls.take k)++YB ps)++allL (ls.drop (k+1)):=by
  rw [<-b];unfold allL;rw [<-yS,zu]
 refine⟨_,rfl,by omega,pR ls _,?_,fun n e=> ?_⟩
 ·rw [c,Nat.add_sub_cancel_left,d,zO,List.drop_append_of_le_length (by omega),zQ (by omega),zZ,List.take_append_of_le_length (zC _),List.take_length]
 ·unfold atL;rw [zH,zq e];rfl
theorem ID {b off n c p a :Nat} (j:p<a) (k:a <=n) (l:n<=c) (m:c<=9223372036854775807) (W:O):(Instr.slice 65 (.slice (some ⟨b,off,none⟩) n c) (some (.int .u64 (p:Int))) (some (.int .u64 (a :Int))) none).run prog W= .ok (.slice (some ⟨b,off+p,none⟩) (a - p) (c - p)) W:=by
 have d:¬c=p:=by omega
 have e:((p:Int)<=(a :Int)):=by omega
 have f:((a :Int)<=(c:Int)):=by omega
 have g:¬(p:Int)<0:=by omega
 have h:¬(a :Int)<0:=by omega
 have i:p<=a :=by omega
 simp [Instr.slice,Instr.sliceBounds,go_sem,Addr.add,d,e,f,g,h,i]
theorem MT {f:Field} {x:N8} (h:f.kind=1\/f.kind=2):∃a,YU f x= [ZM x.1 (atL x.2.1 x.1.length),allL x.2.1,a]/\(f.kind=1->a=putL x.2.2.1)/\(f.kind=2->a=Z5 x.2.2.2.1):=by
 unfold YU Ze;rcases h with h|h
 ·exact⟨_,by rw [if_pos h],fun _=>rfl,fun b=>by omega⟩
 ·exact⟨_,by rw [if_neg (by omega),if_pos h],fun b=>by omega,fun _=>rfl⟩
theorem JW:Elt prog 101 50 1 8:=xt (by kernel_rfl) (by decide) (by kernel_rfl)
theorem Sp.pair {α β:Type} [Rep α] [Rep β] {w:O} {L:List Asn} {cs ds:aF} {x:α} {y:β} (h:Sp w (RepA cs x::RepA ds y::L)):Sp w (RepA (cs++ds) (x,y)::L):=h.mk2 fun _ a b=>⟨cs,ds,rfl,a,b⟩
theorem Sp.fldIn6 {w:O} {L:List Asn} {b c v2:V} {p q r:aA} {d:gE} {ls:List aW} {a:aD} (h:Sp w (DatA b d::DatA c ls::DatA v2 a::L)):Sp w (RepA [b,c,v2,.pointer p,.pointer q,.pointer r] ((d,ls,a,⟨⟩,⟨⟩,⟨⟩):Zj)::L):=by
 have e:Sp w (RepA [.pointer p,.pointer q,.pointer r] ((⟨⟩,⟨⟩,⟨⟩):AnyV×AnyV×AnyV)::DatA b d::DatA c ls::DatA v2 a::L):=h.mk0 ⟨[.pointer p],_,rfl,⟨_,rfl,rfl⟩, [.pointer q],_,rfl,⟨_,rfl,rfl⟩,⟨_,rfl,rfl⟩⟩;have f:=Sp.pair (Sp.selT [_,_,_,_] e [3,0,1,2]);have g:=Sp.pair (Sp.selT [_,_,_] f [2,0,1]);exact Sp.pair g.p1
theorem Sp.fldPtrs {w:O} {L:List Asn} {p q r:aA} (h:Sp w L):Sp w (RepA [.pointer none,.slice none 0 0,.slice none 0 0,.pointer p,.pointer q,.pointer r] ((Ptr.mk none, [], [],⟨⟩,⟨⟩,⟨⟩):Zj)::L):=
 h.mk0 ⟨[.pointer none],_,rfl,rfl, [.slice none 0 0],_,rfl,⟨none,0,0,rfl,zL.nil⟩, [.slice none 0 0],_,rfl,⟨none,0,0,rfl,zL.nil⟩, [.pointer p],_,rfl,⟨_,rfl,rfl⟩, [.pointer q],_,rfl,⟨_,rfl,rfl⟩,⟨_,rfl,rfl⟩⟩
theorem rK {f:Field} {x:N8} {m C q cc nf cf:Nat} {Ac Af:aA} {rest:List aC} {w W0:O} {L:List Asn}
 (hk:3<=f.kind/\f.kind<=5/\(f.kind=5->1<=f.dims/\f.dims<=4)) (ok:InvOk f x.1 x.2.1 x.2.2.1 x.2.2.2.1 x.2.2.2.2.1 x.2.2.2.2.2) (so:WA f x.1 x.2.1) (l:∀s∈YU f x,s.length<=16777216) (hc:f.kind=1->x.2.2.1.length=m) (hm:m<=16384)
 (y:zL W0 (·<W0.heap.size) Ac q cc (YU f x++rest)) (HS:Sp w (BlkA C 128 #[.slice Ac q cc]::OldA W0.heap.size W0::L)):
 Calls prog 84 #[.agg (fldV f Af nf cf),.int .i64 (m:Int),.func (.func 125) #[] #[.pointer (some ⟨C,0,none⟩)]] w fun e w' =>∃(v0 v1 v2 v3 v4 v5:V) (P :aA) (q' Q :Nat),e= .returned (.agg #[v0,v1,v2,v3,v4,v5])/\zL W0 (·<W0.heap.size) P q' Q rest/\Sp w' (RepA [v0,v1,v2,v3,v4,v5] (fldM f x)::BlkA C 128 #[.slice P q' Q]::OldA W0.heap.size W0::L):=by
 obtain⟨H,X⟩:=eX (w.heap.size);have n:=(HS.blkH 61 (fldV f Af nf cf) X).blkH 106 #[.pointer none,.slice none 0 0,.slice none 0 0,.pointer none,.pointer none,.pointer none] (H:=H+1) (by simp [X]);obtain⟨w2,o⟩:=eX ((w.alloc (.cells (fldV f Af nf cf) 61)).alloc (.cells #[.pointer none,.slice none 0 0,.slice none 0 0,.pointer none,.pointer none,.pointer none] 106));rw [o]at n
 have pk:=n.cl M1 1;unfold fldV at o⊢;obtain⟨kd,k⟩:=eX (f.kind);rw [k]at hk pk o hc;have i:=zA ok;have hf:=zA so;have hg:=fV;clear HS ok so;rcases(show kd=5\/(kd=3\/kd=4) by omega)with rfl|h34
 ·obtain⟨d,N⟩:∃d:Nat,f.dims=(d:Int):=⟨f.dims.toNat,by have:=hk.2.2 rfl;omega⟩;have hh:1<=d/\d<=4:=(by have:=hk.2.2 rfl;omega);have b:YU f x= [bkdB d x.2.2.2.2.2]:=(by unfold YU Ze;simp [k,N]);have v:ZG d x.2.2.2.2.2:=(by have h:=i.o.pi;rw [if_pos k,N]at h;exact h);have u:fldM f x=(Ptr.mk none, [], [],⟨⟩,⟨⟩,⟨⟩):=(by unfold fldM;simp [k]);have J:=zA u;have K:=zA v
  rw [N]at o;rw [b]at y l;have hd:=l (bkdB d x.2.2.2.2.2) (by simp);obtain⟨U,rfl⟩:∃U,q=U+1:=⟨rest.length,by have:=y.length;simp at this;omega⟩;have Hr:=zA y;clear y l b v u;go_enter func84,ntmps84;go_upto_region 15 with fail;clear o X;have B:=zA (XB Hr.o (Sp.selT [_,_,_] n [2,0,1]) M2);clear n pk;go_wp2_with fail;refine B.o.mono ?_
  rintro e w3 ⟨Z,n1,c1,ha,rfl,z,F,c⟩;have e1:=z.length;have M:=zA F;have E:=zA (kA Z n1 c1 d x.2.2.2.2.2.length x.2.2.2.2.2 w3 (by omega) ((z.on (c.below M3)).rb fun _ h=>h) K.o (by omega) (by omega) rfl i.o.pn);clear B z F;go_wp2_with fail;refine E.o.mono ?_;rintro e w4 ⟨D,rfl,t⟩;have a:=Sp.selT [_,_,_] (c.grow t) [1,0];clear E c t
  obtain⟨d0,d1,d2,d3,d4,d5⟩:=OG a M0;have j:=(a.blkOf M0).frozen;have Y:=j 0;have z:=j 1;have W:=j 2;have r3:=j 3;have r4:=j 4;have r5:=j 5;have p:=zA (((((((a.set 5 (.pointer (some ⟨D,0,none⟩))).set 0 (.pointer none)).set 1 (.slice none 0 0)).set 2 (.slice none 0 0)).set 3 (.pointer none)).set 4 (.pointer none)).set 5 (.pointer (some ⟨D,0,none⟩)));clear j a
  go_wp2_with (go_at_call 155;refine(oA _ _ _).mono ?_;rintro e w6 h;obtain⟨rfl,rfl⟩:=h.ok);refine bodyPost_ret (cK (g:=H+1) (by rfl) (p.o.blkOf M0)) rfl ⟨_,_,_,_,_,_,_,_,_,rfl,M.o,?_⟩;rw [J.o];exact p.o.tail.fldPtrs
 ·rcases h34 with rfl|rfl
  all_goals
   have b:YU f x= [colL (x.2.2.2.2.1.map xP),bkdB 1 x.2.2.2.2.2]:=(by unfold YU Ze;simp [k]);have v:ZG 1 x.2.2.2.2.2:=(by have h:=i.o.pi;rw [if_neg (by rw [k];decide)]at h;exact h);have u:fldM f x=(Ptr.mk none, [], [],⟨⟩,⟨⟩,⟨⟩):=(by unfold fldM;simp [k]);have J:=zA u;have K:=zA v;rw [b]at y l;have hd:=l (colL (x.2.2.2.2.1.map xP)) (by simp)
   have hi:=l (bkdB 1 x.2.2.2.2.2) (by simp);obtain⟨U,rfl⟩:∃U,q=U+1+1:=⟨rest.length,by have:=y.length;simp at this;omega⟩;have Hr:=zA y;clear y l b v u;go_enter func84,ntmps84;go_upto_region 23 with fail;clear o X pk;have B:=zA (XB Hr.o (Sp.selT [_,_,_] n [2,0]) M1);clear n;go_wp2_with fail;refine B.o.mono ?_;rintro e w3 ⟨Z,n1,c1,ha,rfl,z,F,c⟩
   have e1:=z.length;have S:=z.cap;have hb:=zA F;clear B F;have E:=zA (DV Z n1 c1 (x.2.2.2.2.1.map xP) w3 S.1 S.2 (by omega) ((z.on (c.below M2)).rb fun _ h=>h) (by rw [zK];exact i.o.nn) (fun r y=>by obtain⟨Y,h0,rfl⟩:=List.mem_map.1 y;exact⟨by rw [U0];exact(i.o.ni Y h0).1,mJ (i.o.ni Y h0).2⟩) (by rw [yD];exact List.map_congr_left fun r _=>wB r));clear z
   go_wp2_with fail;refine E.o.mono ?_;rintro e w4 ⟨pn,rfl,t⟩;have a:=Sp.selT [_,_] (c.grow t) [1,0];clear E c t;have d0:=a.cl M0 4;have d1:=(a.blkOf M0).frozen 4;have G:=a.set 4 (.pointer pn);obtain⟨w5,T⟩:=eX (w4.setCell ⟨H+1,4,none⟩ (.pointer pn));rw [T]at G;have B:=zA (XB hb.o (Sp.selT [_,_] G [1,0]) M1);clear a G
   go_wp2_with (go_at_call 153;refine(MA _ _ _).mono ?_;rintro e w6 h;obtain⟨rfl,rfl⟩:=h.ok);clear d0 d1 T;refine B.o.mono ?_;rintro e w7 ⟨A2,n2,c2,he,rfl,W,F,I⟩;have e2:=W.length;have M:=zA F;have E:=zA (kA A2 n2 c2 1 x.2.2.2.2.2.length x.2.2.2.2.2 w7 (by omega) ((W.on (I.below M2)).rb fun _ h=>h) K.o (by omega) (by omega) rfl i.o.pn);clear B W F;go_wp2_with fail
   refine E.o.mono ?_;rintro e w8 ⟨D,rfl,R⟩;have A:=Sp.selT [_,_] (I.grow R) [1,0];clear E I R;obtain⟨d0,d1,d2,d3,d4,d5⟩:=OG A M0;have j:=(A.blkOf M0).frozen;have Y:=j 0;have z:=j 1;have W:=j 2;have r3:=j 3;have r4:=j 4;have r5:=j 5
   have p:=zA (((((((A.set 5 (.pointer (some ⟨D,0,none⟩))).set 0 (.pointer none)).set 1 (.slice none 0 0)).set 2 (.slice none 0 0)).set 3 (.pointer none)).set 4 (.pointer pn)).set 5 (.pointer (some ⟨D,0,none⟩)));clear j A;go_wp2_with (go_at_call 155;refine(oA _ _ _).mono ?_;rintro e w9 h;obtain⟨rfl,rfl⟩:=h.ok)
   refine bodyPost_ret (cK (g:=H+1) (by rfl) (p.o.blkOf M0)) rfl ⟨_,_,_,_,_,_,_,_,_,rfl,M.o,?_⟩;rw [J.o];exact p.o.tail.fldPtrs
theorem VE {f:Field} {x:N8} {m C q cc nf cf:Nat} {Ac Af:aA} {rest:List aC} {w W0:O} {L:List Asn}
 (hk:f.kind=1\/f.kind=2) (ok:InvOk f x.1 x.2.1 x.2.2.1 x.2.2.2.1 x.2.2.2.2.1 x.2.2.2.2.2) (so:WA f x.1 x.2.1) (P:∀s∈YU f x,s.length<=16777216) (hj:f.kind=1->x.2.2.1.length=m) (hm:m<=16384)
 (hr:zL W0 (·<W0.heap.size) Ac q cc (YU f x++rest)) (G:Sp w (BlkA C 128 #[.slice Ac q cc]::OldA W0.heap.size W0::L)):
 Calls prog 84 #[.agg (fldV f Af nf cf),.int .i64 (m:Int),.func (.func 125) #[] #[.pointer (some ⟨C,0,none⟩)]] w fun e w' =>∃(v0 v1 v2 v3 v4 v5:V) (hs :aA) (q' h9 :Nat),e= .returned (.agg #[v0,v1,v2,v3,v4,v5])/\zL W0 (·<W0.heap.size) hs q' h9 rest/\Sp w' (RepA [v0,v1,v2,v3,v4,v5] (fldM f x)::BlkA C 128 #[.slice hs q' h9]::OldA W0.heap.size W0::L):=by
 obtain⟨H,hH⟩:=eX (w.heap.size);have I:=(G.blkH 61 (fldV f Af nf cf) hH).blkH 106 #[.pointer none,.slice none 0 0,.slice none 0 0,.pointer none,.pointer none,.pointer none] (H:=H+1) (by simp [hH]);obtain⟨w2,R⟩:=eX ((w.alloc (.cells (fldV f Af nf cf) 61)).alloc (.cells #[.pointer none,.slice none 0 0,.slice none 0 0,.pointer none,.pointer none,.pointer none] 106));rw [R]at I
 have pk:=I.cl M1 1;unfold fldV at R⊢;obtain⟨kd,a⟩:=eX (f.kind);rw [a]at hk pk R hj;have v:=zA ok;have af:=zA so;have aq:=fV;clear G ok so;rcases hk with rfl|rfl
 all_goals
  obtain⟨s2,E,X,Y⟩:=MT (f:=f) (x:=x) (by rw [a];decide);obtain⟨ht,hR,ao⟩:=af.o (by rw [a];decide);obtain⟨n,hn⟩:=eX (x.1.length);have x5:x.2.1.length=n:=(by rw [<-hn];exact v.o.tl);have xb:(atL x.2.1 n).length=x.1.length:=(by rw [Qp,hn]);have hu:∀z∈atL x.2.1 n,z<18446744073709551616:=fun z hz=>by have:=NR hz;omega
  have av:n<=1048576:=(by unfold xQ at ht;simp only [zM,decide_eq_true_eq]at ht;omega);rw [hn]at E;rw [E]at hr P;have aw:=P (ZM x.1 (atL x.2.1 n)) (by simp);have ax:=P s2 (by simp);obtain⟨q0,rfl⟩:∃q0,q=q0+1+1+1:=⟨rest.length,by have:=hr.length;simp at this;omega⟩;have Hr:=zA hr;have Ht:=zA ht;have HR:=zA hR;have Hn:=zA hn;have h4:=zA x5;have h1:=zA xb;have Hu:=zA hu
  have h7:=zA X;have U:=zA Y;have y8:=zA hj;clear hr P E ht hR hn x5 xb hu X Y hj;go_enter func84,ntmps84;go_upto_region 2 with fail;clear R hH pk;have T:=zA (XB Hr.o (Sp.selT [_,_,_] I [2,0,1]) M2);clear I;go_wp2_with fail;refine T.o.mono ?_;rintro e w3 ⟨A1,n1,c1,am,rfl,r1,rr,ha⟩;have e1:=r1.length;have xs:=r1.cap;have ab:=zA rr;clear T rr
  have HO:=zA (vR A1 n1 c1 x.1 (atL x.2.1 n) w3 xs.1 xs.2 (by omega) ((r1.on (ha.below M3)).rb fun _ h=>h) Ht.o h1.o Hu.o);clear r1;go_wp2_with fail;refine HO.o.mono ?_;rintro e w4 ⟨D,rfl,h0⟩;have J:=Sp.selT [_,_,_,_] (ha.c1 h0) [2,0,1,3];clear HO ha h0;have d0:=J.cl M0 0;have d1:=(J.blkOf M0).frozen 0;have hb:=J.set 0 (.pointer (some ⟨D,0,none⟩))
  obtain⟨w5,y3⟩:=eX (w4.setCell ⟨H+1,0,none⟩ (.pointer (some ⟨D,0,none⟩)));rw [y3]at hb;have T:=zA (XB ab.o (Sp.selT [_,_,_,_] hb [2,0,1,3]) M3);clear J hb;go_wp2_with (go_at_call 146;refine(MB _ _ _).mono ?_;rintro e w6 h;obtain⟨rfl,rfl⟩:=h.ok);clear d0 d1 y3;refine T.o.mono ?_;rintro e w6 ⟨A2,n2,c2,y5,rfl,r2,rr,M⟩;have e2:=r2.length;have x1:=r2.cap;have h5:=zA r2
  have ad:=zA rr;clear T r2 rr;have q2:w6.cell? ⟨D,2,none⟩=some (.int .i64 (n:Int)):=(by have h:=pH M M2;rw [Hn.o]at h;exact h);have f0:=M.cl M1 0;have HL:=zA (WZ q2);have hv:=Sp.selT [_,_,_,_,_,_] ((M.elsNil (α:=aW)).nil 50 1) [4,3,0,1,5,2];clear M q2;go_wp2_with (go_at_call 19;refine HL.o.mono ?_;rintro e w7 ⟨rfl,rfl⟩);clear f0 HL
  go_loopg [8,34] n (fun gk x8 al wr=>∃(k p:Nat) (A3:aA) (c3:Nat) (css:List aF),x8= .int .u64 (p:Int)/\(allL (x.2.1.take k)).length=p/\al= .int .i64 k/\k<=n/\gk=n - k/\Sp wr (DicA D x.1 (atL x.2.1 n)::BlkA (H+1) 106 #[.pointer (some ⟨D,0,none⟩),.slice A3 k c3,.slice none 0 0,.pointer none,.pointer none,.pointer none]::RowA 50 1 (.slice A3 k c3) k css.flatten::ElsA css ((x.2.1.take k).map Xo)::BlkA H 61 (fldV f Af nf cf)::BlkA C 128 #[.slice y5 (q0+1) (cc - 1 - 1)]::OldA W0.heap.size W0::L))
  case atStart=>exact⟨0,0,none,0, [],rfl,rfl,by go_num,zJ _,rfl,hv⟩
  case round=>
   obtain⟨k,p,A3,c3,css,rfl,hp,rfl,ar,rfl,G⟩:=hrel;clear hv
   by_cases x4:k<n
   ·obtain⟨ps,Q⟩:∃ps,x.2.1[k]? =some ps:=⟨_,zB (by rw [h4.o];exact x4)⟩;have ho:=HR.o ps (zD Q);obtain⟨p',x6,ag,ys,F,y2⟩:=NQ Q ho hp;rw [e2]at ys;have HA:=zA (L3 G Ht.o h1.o Hu.o (y2 n x4));obtain⟨b2,o2,y,rfl, -, -, -⟩:=h5.o.at_ (k:=0) (by omega)
    have aj:=G.cl M1 0;obtain⟨z,hz⟩:=eX (p' - p);obtain⟨c',hi⟩:=eX (c2 - p);have hx:=ID ag ys x1.1 x1.2 (b:=b2) (off:=o2);rw [hz]at F hx;rw [hi]at hx;have e3:(x.2.1.take (k+1)).map Xo=(x.2.1.take k).map Xo++ [Xo ps]:=(by rw [zI,Q];simp);have hl:¬(p' :Int)<(p:Int):=(by omega);have ah:IntKind.u64.wrap (n2:Int)=(n2:Int):=(by rw [zW];omega);have ai:¬(n2:Int)<(p' :Int):=(by omega)
    have aa :=zA x6;have Hp:=zA hp;have ae:=zA ho;have h8:=zA F;have E3:=zA e3;have Hz:=zA hz;have h2 :=zA hi;have y7:=zA e2;clear G Q y2 x6 hp ho F e3 hz hi e2;go_wp2_with fail;refine HA.o.mono ?_;rintro e w8 ⟨rfl,hy⟩;clear HA aj;go_upto_region 11 with fail;clear hl ah ai;have N:=hy.drew
    have HP:=zA (wO (some ⟨b2,o2+p,none⟩) z c' ps w8.drew (by have:=Hz.o;have:=h2.o;omega) (by have:=h2.o;omega) (by have:=Hz.o;have:=y7.o;omega) (by have h:=((h5.o.on (N.below M6)).rb fun _ h=>h).sub_at (i:=p) (k:=z) (by have:=Hz.o;omega);rw [h8.o]at h;exact h) ae.o);clear hy;refine gR [(11,fun w=>w.cell? ⟨H+1,1,none⟩=some (.slice A3 k c3))] (hB (N.cell M1 1)) ?_
    refine gF 0 ?_;refine gL 1 11 M0 ?_;refine gF 2 ?_;refine gF 3 ?_;refine gF 4 ?_;refine gF 5 ?_;intro o;refine gO 6 fun K r=> ?_;go_simp;refine HP.o.mono ?_;rintro e w9 ⟨D9,rfl,j⟩;have hc:=N.c1 j;refine r.o _ _ (hB (hc.cell M2 1)) ?_;clear r K o;intro o;clear N j HP;revert o;refine gF 7 ?_;refine gF 8 ?_;intro o;refine gO 9 fun K r=> ?_;go_simp
    refine(NL _ _ _).mono ?_;rintro e y4 h;obtain⟨rfl,rfl⟩:=h.ok;refine r.o _ _ (xz o) ?_;clear r K o;intro o;have hd:=Sp.selT [_,_,_,_] hc [3,0,1,2];clear hc;refine gO 10 fun K r=> ?_;go_simp;refine r.o _ _ (hB ((ON (hd.cell M3 1) _).trans rfl)) ?_;clear r K o;intro o;refine gO 11 fun K r=> ?_
    refine yz JW (.tmp 54) (.tmp 63) rfl rfl hd rfl (cs:= #[.pointer (some ⟨D9,0,none⟩)]) rfl rfl rfl (by intro u hu;simp at hu;subst hu;rfl) (by omega) (by omega) ?_;intro A8 c8 ak ap au t;refine r.o _ _ hA ?_;clear r K o;refine gF 12 ?_;intro o;have y0:=t.cl M3 1;have y1:=(t.blkOf M3).frozen 1;refine gO 13 fun K r=> ?_;go_simp;refine r.o _ _ hA ?_;clear r K o;intro o
    refine xW (by kernel_rfl) ?_;have e1:css.flatten++(#[Value.pointer (some ⟨D9,0,none⟩)]:aG).toList=(css++ [[Value.pointer (some ⟨D9,0,none⟩)]]).flatten:=(by simp);rw [e1]at t;have he:=(Sp.selT [_,_,_,_] t [3,0,1,2]).set 1 (.slice A8 (k+1) c8);obtain⟨ay,Z⟩:=eX (ak.setCell ⟨H+1,1,none⟩ (.slice A8 (k+1) c8));rw [Z]at he⊢
    have hf:=Sp.elsPush (x:=Xo ps) (Sp.selT [_,_,_,_,_] he [2,4,0,1,3]);rw [<-E3.o]at hf;have y6:=Sp.selT [_,_,_,_] hf [3,1,2,0];clear hd t he hf y0 y1 e1 o Z;go_wp2
    go_roundg (n - (k+1))
    ·exact⟨k+1,p',A8,c8,_,rfl,aa.o,by go_num,by omega,rfl,y6⟩
    ·omega
   ·obtain rfl:k=n:=by omega
    rw [zF (by rw [h4.o];exact zC _)]at G;have pk:=G.cl M4 1;rw [a]at pk;have x3:aT x.1 x.2.1=Ptr.mk (some (tBl x.1 (atL x.2.1 k),tFi x.1,(x.1.length:Int))):=(by unfold aT;rw [Hn.o]);have hw:=Sp.els (α:=aW) (Sp.selT [_,_,_,_,_,_] G [2,3,1,0,4,5]);have T:=zA (XB ad.o (Sp.selT [_,_,_,_,_] hw [4,1,0,2,3]) M4);have h3:=zA x3;clear G hw x3 hp;go_wp2_with fail;clear pk
    refine T.o.mono ?_;rintro e w7 ⟨A4,n4,c4,an,rfl,S,rr,c⟩;have e4:=S.length;have x2:=S.cap;have h6:=zA rr;clear T rr
    first
     |have hl:f.kind=1:=a
      have B:fldM f x=(aT x.1 x.2.1,x.2.1.map Xo,x.2.2.1,⟨⟩,⟨⟩,⟨⟩):=(by unfold fldM;rw [if_pos (by rw [a];decide),if_pos (by rw [a];decide),if_pos a]);have hg:getL s2 m=some (x.2.2.1,(putL x.2.2.1).length):=(by have h:=d7 (post:= []) v.o.li;rw [zo,y8.o (by trivial)]at h;rw [h7.o a];exact h)
      have HG:=zA (d6 A4 n4 c4 m s2 w7 (by omega) ((S.on (c.below M5)).rb fun _ h=>h) (by omega));unfold Ym at HG;rw [hg]at HG;have hh:=zA B;clear hg B S;go_wp2_with fail;refine HG.o.mono ?_;rintro e w9 ⟨A,A9,rfl,W⟩;have j:=(c.row W A).ints v.o.li;have d:=Sp.selT [_,_,_,_,_,_] j [2,0,3,4,1];clear HG c j A W;obtain⟨d0,d1,d2,d3,d4,d5⟩:=OG d M0
      have l:=(d.blkOf M0).frozen;have r0:=l 0;have r1:=l 1;have r2:=l 2;have r3:=l 3;have S:=l 4;have r5:=l 5;have c:=zA (((((((d.set 2 (.slice A9 m m)).set 0 (.pointer (some ⟨D,0,none⟩))).set 1 (.slice A3 k c3)).set 2 (.slice A9 m m)).set 3 (.pointer none)).set 4 (.pointer none)).set 5 (.pointer none));clear l d
      go_wp2_with (go_at_call 78;refine(pN _ _ _).mono ?_;rintro e y4 h;obtain⟨rfl,rfl⟩:=h.ok);refine bodyPost_ret (cK (g:=H+1) (by rfl) (c.o.blkOf M0)) rfl ⟨_,_,_,_,_,_,_,_,_,rfl,h6.o,?_⟩;rw [hh.o,h3.o];exact Sp.fldIn6 (Sp.selT [_,_,_,_] c.o.tail [2,1,0,3])
     |have hl:f.kind=2:=a
      have B:fldM f x=(aT x.1 x.2.1,x.2.1.map Xo, [],⟨⟩,⟨⟩,⟨⟩):=(by unfold fldM;rw [if_pos (by rw [a];decide),if_pos (by rw [a];decide),if_neg (by rw [a];decide)]);rw [U.o a]at S e4;have HG:=zA (DQ A4 n4 c4 x.2.2.2.1 w7 x2.1 x2.2 (by rw [<-e4,<-U.o a];omega) ((S.on (c.below M5)).rb fun _ h=>h) v.o.xn v.o.xi);have hh:=zA B;clear B S;go_wp2_with fail
      refine HG.o.mono ?_;rintro e w9 ⟨pt,rfl,A⟩;have j:Sp w9 (DatA (.slice none 0 0) ([]:aD)::_):=(c.grow A).mk0 ⟨none,0,0,rfl,zL.nil⟩;have d:=Sp.selT [_,_,_,_,_,_] j [2,0,3,4,1];clear HG c j A;obtain⟨d0,d1,d2,d3,d4,d5⟩:=OG d M0;have l:=(d.blkOf M0).frozen;have r0:=l 0;have r1:=l 1;have r2:=l 2;have r3:=l 3;have S:=l 4;have r5:=l 5
      have c:=zA (((((((d.set 3 (.pointer pt)).set 0 (.pointer (some ⟨D,0,none⟩))).set 1 (.slice A3 k c3)).set 2 (.slice none 0 0)).set 3 (.pointer pt)).set 4 (.pointer none)).set 5 (.pointer none));clear l d;go_wp2_with (go_at_call 151;refine(L8 _ _ _).mono ?_;rintro e y4 h;obtain⟨rfl,rfl⟩:=h.ok)
      refine bodyPost_ret (cK (g:=H+1) (by rfl) (c.o.blkOf M0)) rfl ⟨_,_,_,_,_,_,_,_,_,rfl,h6.o,?_⟩;rw [hh.o,h3.o];exact Sp.fldIn6 (Sp.selT [_,_,_,_] c.o.tail [2,1,0,3])
theorem rL {f:Field} {x:N8} {m C q o nf cf:Nat} {n Af:aA} {rest:List aC} {w W0:O} {L:List Asn}
 (v:1<=f.kind/\f.kind<=5) (u:f.kind=5->1<=f.dims/\f.dims<=4) (k:InvOk f x.1 x.2.1 x.2.2.1 x.2.2.2.1 x.2.2.2.2.1 x.2.2.2.2.2) (l:WA f x.1 x.2.1) (b:∀s∈YU f x,s.length<=16777216) (a:f.kind=1->x.2.2.1.length=m) (i:m<=16384)
 (j:zL W0 (·<W0.heap.size) n q o (YU f x++rest)) (g:Sp w (BlkA C 128 #[.slice n q o]::OldA W0.heap.size W0::L)):
 Calls prog 84 #[.agg (fldV f Af nf cf),.int .i64 (m:Int),.func (.func 125) #[] #[.pointer (some ⟨C,0,none⟩)]] w fun e w' =>∃(r t v2 v3 v4 v5:V) (c :aA) (p d :Nat),e= .returned (.agg #[r,t,v2,v3,v4,v5])/\zL W0 (·<W0.heap.size) c p d rest/\Sp w' (RepA [r,t,v2,v3,v4,v5] (fldM f x)::BlkA C 128 #[.slice c p d]::OldA W0.heap.size W0::L):=by
 rcases(show f.kind=1\/f.kind=2\/3<=f.kind by omega)with h|h|h
 ·exact VE (.inl h) k l b a i j g
 ·exact VE (.inr h) k l b a i j g
 ·exact rK ⟨h,v.2,u⟩ k l b a i j g
theorem IE {T n:Nat} {w:O} (h:w.cell? ⟨T,1,none⟩=some (.int .i64 (n:Int))):Calls prog 83 #[.pointer (some ⟨T,0,none⟩)] w fun e w' =>e= .returned (.int .i64 (n:Int))/\w=w' :=by
 go_enter func83,ntmps83;go_wp2;go_ret
 exact⟨rfl,rfl⟩
theorem MX {p:Nat} {pre post:aC} {L:List Asn} {w:O} (h:Sp w (RdA p (rsAt pre post)::L)):
 Calls prog 79 #[.pointer (some ⟨p,0,none⟩)] w fun e w' =>e= .returned (.int .i64 0)/\w=w' :=dH h
theorem wI (pre post:aC):(rsAt pre post).left=post.length:=by simp [rsAt,RS.left]
theorem DA (u:U64) (h:u.val<18446744073709551616):IntKind.u64.wrap (seqI u)=(u.val:Int):=by
 unfold seqI;rw [zT,zW];omega
theorem LY:Elt prog 125 106 6 80:=xt (by kernel_rfl) (by decide) (by kernel_rfl)
def Vj (b:List Field) (a:List N8) (i:Nat):List aC:=((b.zip a).drop i).flatMap fun p=>YU p.1 p.2
theorem i6 (b:List Field) (a:List N8):XG b a b.length=Vj b a 0:=by
 unfold XG Vj;rw [List.drop_zero,zF (by rw [List.length_zip];omega)]
theorem wE {b:List Field} {a:List N8} {i:Nat} {f:Field} {x:N8} (c:b[i]? =some f) (d:a[i]? =some x):Vj b a i=YU f x++Vj b a (i+1):=by
 unfold Vj;have e:(b.zip a)[i]? =some (f,x):=by rw [List.getElem?_zip_eq_some];exact⟨c,d⟩
 rw [yb e];rfl
theorem DC {b:List Field} {g:List U64} {docs:N7} {a:List N8} {i:Nat} {f:Field} {x:N8} (c:b[i]? =some f) (d:a[i]? =some x) {s:aC} (h:s∈YU f x):s∈xl b g docs a:=by
 unfold xl;rw [i6];unfold Vj;have e:(b.zip a)[i]? =some (f,x):=by rw [List.getElem?_zip_eq_some];exact⟨c,d⟩
 exact .tail _ (.tail _ (List.mem_flatMap.2 ⟨(f,x),zD e,h⟩))
def aR (b:List Field) (a:List N8) (k:Nat):List Zj:=((b.zip a).take k).map fun p=>fldM p.1 p.2
def OP (X:Nat) (n q k g:Nat) (c d e f h:aA) (c2 j l m i:Nat) (As:List aA) (o:List Field) (p:List U64) (docs:N7) (a:List N8) (b:aC):List Asn:=
 [BlkA X 127 #[.slice c n n,.slice d q c2,.slice e k j,.pointer (some ⟨i,0,none⟩),.slice f n l],DatA (.slice c n n) o,BA d q c2 b,UA e k j (p.map U64.val),DatA (.slice f n l) (aR o a n),
  BlkA i 208 #[.slice h g m,.int .i64 (k:Int)],RowA 206 3 (.slice h g m) g (yd (yL docs) As g).flatten,zz (bysA (yL docs) As)]
theorem IR {A Ad:aA} {n c q qc k:Nat} {l:List Field} {t:List U64} {docs:N7} {a:List N8} {w:O}
 (hs:zL w (·<w.heap.size) A n c l) (hn:n<=16) (a8:∀f∈l,f.chain.length<=1000000000) (hk:∀f∈l,(1<=f.kind/\f.kind<=5)/\(f.kind=5->1<=f.dims/\f.dims<=4))
 (S:t.length=k) (xs:∀u∈t,u.val<18446744073709551616) (hd:docs.length=k) (aa:k<=16384) (bj:∀d∈docs,Y9 d=true/\QB d) (bd:a.length=n)
 (hi:∀(j:Nat) (f:Field) (x:N8),l[j]? =some f->a[j]? =some x->InvOk f x.1 x.2.1 x.2.2.1 x.2.2.2.1 x.2.2.2.2.1 x.2.2.2.2.2/\WA f x.1 x.2.1/\(f.kind=1->x.2.2.1.length=k))
 (hf:xR 1 (xl l t docs a)=true) (hb:RB w Ad q (ZQ 1 (xl l t docs a))) (ci:q<=qc) (bk:qc<=9223372036854775807):
 Calls prog 33 #[.agg #[.slice A n c],.slice Ad q qc] w fun e w' =>∃(X g:Nat) (A1 A2 T A4 Q:aA) (c2 c3 c4 R M:Nat) (As:List aA),e= .returned (.pointer (some ⟨X,0,none⟩))/\As.length=g/\(yL docs).length=g/\
  Sp w' (OP X n q k g A1 A2 T A4 Q c2 c3 c4 R M As l t docs a (ZQ 1 (xl l t docs a))++ [OldA w.heap.size w]):=by
 obtain⟨H,hH⟩:=eX (w.heap.size);obtain⟨fb,ce⟩:=eX (ZQ 1 (xl l t docs a));obtain⟨-,f8,cb,y8,a1, -⟩:=VR hf;have hq:=hb.len;have hl:=(Sp.start w).blkH 24 #[.slice A n c] hH;obtain⟨w0,bq⟩:=eX (w.alloc (.cells #[.slice A n c] 24));rw [bq]at hl;have HO:=zA (DU 1 (xl l t docs a) Ad q qc w0 ci bk (hb.on (hl.below M1)) hf);rw [ce]at hb f8 cb hq⊢;have bi:=hs.length
 have cp:=hs.cap;have Hs:=zA hs;have b2:=zA a8;have Hk:=zA hk;have Hu:=zA S;have az:=zA xs;have Hd:=zA hd;have b5:=zA bj;have b3:=zA bd;have Hi:=zA hi;have Hf:=zA hf;have Hb:=zA hb;have y6:=zA a1;have cv:=zA bi;have Hq:=zA hq;have cw:=fV;clear hs a8 hk S xs hd bj bd hi hf hb a1 f8 y8 bi;go_enter func33,ntmps33;go_upto_region 1 with fail;clear hH;go_wp2_with fail
 clear bq;refine HO.o.mono ?_;rintro e r ⟨A',m',rfl,ar⟩;have I:=hl.c1 ar;have h0:=I.ls M0;have bo:=h0.length;obtain⟨D,rfl⟩:∃D,m' =D+1+1:=⟨(XG l a l.length).length,by rw [<-bo];rfl⟩;obtain⟨C,b⟩:=eX (r.heap.size);have a4:=I.cl M1 0;have a6:H<C:=by rw [<-b];exact(I.blkOf M1).lt
 have ht:=(Sp.start r).blkH 128 #[.slice A' (D+1+1) (D+1+1)] b;obtain⟨w2,br⟩:=eX (r.alloc (.cells #[.slice A' (D+1+1) (D+1+1)] 128));rw [br]at ht;have ay:=zA (Hs.o.on (I.below M2));have b1:=zA (Hb.o.on (I.below M2));have al :=zA (Sp.selT [_,_] I []);have aj:=zA (NO A' (D+1+1) (D+1+1) C r b);rw [b]at ht;have HC:=zA (XB (W0:=r) (B:=C) (by rw [<-b];exact h0) ht M0)
 have cu:=zA h0;clear HO ar hl I h0 bo;go_wp2_with (first|(go_at_call 71;refine(pL _ _ _).mono ?_;rintro e r h;obtain⟨rfl,rfl⟩:=h.ok)|(go_at_call 70;refine aj.o.mono ?_;rintro e w6 ⟨rfl,rfl⟩))
 clear br aj;refine HC.o.mono ?_;rintro e w3 ⟨A1,n1,c1,bz,rfl,r1,rr,x8⟩;clear ht HC;have cy:n1<=16777216:=by rw [<-r1.length];exact y6.o _ (by unfold xl;simp)
 have b7:=zA rr;have h1:zL r (·<r.heap.size) A1 n1 c1 (QU t):=by rw [b];exact r1
 have E:Below r.heap.size r w3:=by rw [b];exact x8.below M1
 have HN:=zA (VG (c:=c1) (n:=n1) x8 ((h1.on E).rb fun _ h=>h) (by omega));clear h1 E;clear r1 rr x8;go_wp2_with fail;refine HN.o.mono ?_;rintro e w4 ⟨p,rfl,au⟩;obtain⟨lb,ab⟩:=eX (putL (t.map seqI));have av:Sp w4 [RdA p (rsAt [] (zP k++(lb++ []))),BlkA C 128 #[.slice bz (D+1) (D+1+1 - 1)],OldA C r]:=by rw [<-ab,<-Hu.o];simpa [rsAt,QU]using au
 have HZ:=zA (ZH av 16384 (by omega));rw [yn (by omega) aa]at HZ;have aw:=zA ab;clear HN au av ab;go_wp2_with fail;refine HZ.o.mono ?_;rintro e w5 ⟨rfl,ys⟩;have hh:=zA (Xz ys);rw [wI,zo]at hh;obtain⟨lq,hy⟩:=eX (lb.length);rw [hy]at hh;have cr:lq<=16777216:=by have h:=y6.o (QU t) (by unfold xl;simp);unfold QU at h;rw [zG,aw.o,hy]at h;omega
 have b4:=zA hy;clear HZ hy;go_wp2_with fail;refine hh.o.mono ?_;rintro e w6 ⟨rfl,kd,rfl⟩;have ag:=zA (XQ (ys.drewN kd) b4.o (by omega));clear ys hh;go_wp2_with fail;refine ag.o.mono ?_;rintro e w7 ⟨A5,rfl,y2⟩;have xn:InL (t.map seqI):=fun x hx=>by obtain⟨u,_,rfl⟩:=List.mem_map.1 hx;exact oQ u
 have hg:getL lb k=some (t.map seqI,lb.length):=by have h:=d7 (post:= []) xn;rw [zo,zK,Hu.o,aw.o]at h;exact h
 have HG:=zA (d6 A5 lq lq k lb w7 (by omega) (y2.rb M0).1 (by omega));unfold Ym at HG;rw [hg]at HG;clear ag hg xn;go_wp2_with fail;refine HG.o.mono ?_;rintro e w8 ⟨a7,A8,rfl,xi⟩;have y3:=y2.row xi a7;have ak:=zA (MX (Sp.selT [_,_,_] y3 [2]));have y4:=Sp.selT [_,_,_,_] y3 [3,0];have he:=zA (y4.below M2)
 have a5:w8.cell? ⟨H,0,none⟩=some (.slice A n c):=(he.o.cell a6).trans a4;have ai:=zA (uD (ay.o.on (by rw [b];exact he.o)) hn b2.o);clear HG y2 y3 xi a7;go_upto_region 6 with(first|(go_at_call 79;refine ak.o.mono ?_;rintro e w8 ⟨rfl,rfl⟩)|(go_at_call 78;refine(pN _ _ _).mono ?_;rintro e w8 h;obtain⟨rfl,rfl⟩:=h.ok))
 clear ak;have W:∀s,s∈xl l t docs a->s.length<=16777216:=y6.o;obtain⟨g,hg⟩:=eX ((yL docs).length);have ct:(ZB docs).length<=16777216:=W _ (by unfold xl;simp);have x3:=zA W;clear W;go_wp2_with fail;refine ai.o.mono ?_;rintro e w9 ⟨P,rfl,ao⟩;have y5:=y4.c1 ao;have ah:=zA (fW (c:=qc) y5 (b1.o.on (by rw [b];exact y5.below M3)) (by omega))
 clear ao y4 ai he a5;go_wp2_with fail;refine ah.o.mono ?_;rintro e cz ⟨m,o,rfl,h4⟩;have HC:=zA (XB (W0:=r) (B:=C) b7.o (Sp.selT [_,_,_,_] h4 [2,0,1,3]) M3);clear ah y5 h4;go_wp2_with fail;refine HC.o.mono ?_;rintro e bw ⟨ae,bv,a0,U,rfl,r2,rr,Z⟩;have h1:zL r (·<r.heap.size) ae bv a0 (ZB docs):=by rw [b];exact r2
 have E:Below r.heap.size r bw:=by rw [b];exact Z.below M4
 have h8:=r2.cap;have cq:=r2.length;have b8:=zA rr;have HO:=zA (wC ae bv a0 docs bw h8.1 h8.2 (by omega) ((h1.on E).rb fun _ h=>h) (by rw [Hd.o];exact aa) b5.o);rw [hg,Hd.o]at HO;clear h1 E r2 rr HC;go_wp2_with fail;refine HO.o.mono ?_;rintro e ad ⟨M,R,Q,As,rfl,a2,aq⟩;have h5:=Z.call [_,_,_] aq;obtain⟨X,hX⟩:=eX (ad.heap.size)
 have ha:=h5.blkH 127 #[.slice P n n,.slice m q o,.slice none 0 0,.pointer (some ⟨M,0,none⟩),.slice none 0 0] hX;obtain⟨cm,x1⟩:=eX (ad.alloc (.cells #[.slice P n n,.slice m q o,.slice none 0 0,.pointer (some ⟨M,0,none⟩),.slice none 0 0] 127));rw [x1]at ha
 have h6:Sp cm [BlkA X 127 #[.slice P n n,.slice m q o,.slice none 0 0,.pointer (some ⟨M,0,none⟩),.slice none 0 0],UA none 0 0 ((t.take 0).map U64.val),RowA 2 1 (.slice A8 k k) k (ints (t.map seqI)),BlkA C 128 #[.slice U D (D+1+1 - 1 - 1)],BA m q o fb,DatA (.slice P n n) l,BlkA M 208 #[.slice Q g R,.int .i64 (k:Int)],RowA 206 3 (.slice Q g R) g (yd (yL docs) As g).flatten,zz (bysA (yL docs) As),OldA C r]:=Sp.selT [_,_,_,_,_,_,_,_,_] (ha.nil 35 1) [1,0,8,5,6,7,2,3,4]
 have b0:=zA a2;have Hg:=zA hg;clear HO Z h5 ha aq a2 hg;go_wp2_with (go_at_call 81;refine(L9 _ _ _).mono ?_;rintro e ad h;obtain⟨rfl,rfl⟩:=h.ok);clear x1 hX
 go_loopg [57] k (fun gk cn wr=>∃(j:Nat) (T:aA) (c3:Nat),cn= .int .i64 j/\j<=k/\gk=k - j/\Sp wr [BlkA X 127 #[.slice P n n,.slice m q o,.slice T j c3,.pointer (some ⟨M,0,none⟩),.slice none 0 0],UA T j c3 ((t.take j).map U64.val),RowA 2 1 (.slice A8 k k) k (ints (t.map seqI)),BlkA C 128 #[.slice U D (D+1+1 - 1 - 1)],BA m q o fb,DatA (.slice P n n) l,BlkA M 208 #[.slice Q g R,.int .i64 (k:Int)],RowA 206 3 (.slice Q g R) g (yd (yL docs) As g).flatten,zz (bysA (yL docs) As),OldA C r])
 case atStart=>exact⟨0,none,0,by go_num,zJ _,rfl,h6⟩
 case round=>
  obtain⟨j,T,c3,rfl,hj,rfl,G⟩:=hrel;clear h6
  by_cases cg:j<k
  ·obtain⟨u,S⟩:∃u,t[j]? =some u:=⟨_,zB (by rw [Hu.o];exact cg)⟩;obtain⟨bI,rfl, -, -, -⟩:=(G.rowOf M2).at_ (by omega)
   obtain⟨v,hv⟩:=eX (u.val);have bp:v<18446744073709551616:=(by rw [<-hv];exact az.o u (zD S));obtain⟨z,hz⟩:=eX (seqI u);have cj:IntKind.u64.wrap z=(v:Int):=(by rw [<-hz,<-hv];exact DA u (by rw [hv];exact bp));have q1:wr.cell? ⟨bI,j,none⟩=some (.int .i64 z):=G.rowCell M2 (by unfold ints;rw [zH,zH,S,<-hz];rfl);have q2:=G.cl M0 2
   have e1:(t.take (j+1)).map U64.val=(t.take j).map U64.val++ [v]:=(by rw [zI,S,<-hv];simp);have E1:=zA e1;clear hz S hv e1;go_wp2_with (at_builtin;refine yC cQ (.tmp 65) (.tmp 68) rfl rfl G.p1 rfl (cs:= #[.int .u64 (v:Int)]) rfl rfl rfl (by intro u S;simp at S;subst S;rfl) (by omega) (by omega) ?_;intro N c8 bx cd ch ho;have y0:=ho.cl M1 2;have y1:=(ho.blkOf M1).frozen 2)
   have an:=(Sp.selT [_,_] ho [1,0]).set 2 (.slice N (j+1) c8);rw [show [Value.int .u64 (v:Int)]=uC [v]from rfl,<-CR,<-E1.o]at an;clear G ho q1 q2 y0 y1 cj
   go_roundg (k - (j+1))
   ·exact⟨j+1,N,c8,by go_num,by omega,rfl,an⟩
   ·omega
  ·obtain rfl:k=j:=by omega
   rw [zF (by rw [Hu.o];exact zC _)]at G;have HL:=zA (IE (G.cell M6 1));have hr:=Sp.selT [_,_,_,_,_,_,_,_,_] G [0,1,3,4,5,6,7,8];have q3:=hr.cl M0 3;have q4:wr.cell? ⟨H,0,none⟩=some (.slice A n c):=((hr.below M8).cell a6).trans a4;have bl:zL r (·<C) U D (D+1+1 - 1 - 1) (Vj l a 0):=(by rw [<-i6];exact b8.o)
   have ap:Sp wr [BlkA X 127 #[.slice P n n,.slice m q o,.slice T k c3,.pointer (some ⟨M,0,none⟩),.slice none 0 0],RowA 106 6 (.slice none 0 0) 0 (([]:List aF).flatten),ElsA [] (aR l a 0),BlkA C 128 #[.slice U D (D+1+1 - 1 - 1)],UA T k c3 (t.map U64.val),BA m q o fb,DatA (.slice P n n) l,BlkA M 208 #[.slice Q g R,.int .i64 (k:Int)],RowA 206 3 (.slice Q g R) g (yd (yL docs) As g).flatten,zz (bysA (yL docs) As),OldA C r]:=Sp.selT [_,_,_,_,_,_,_,_,_,_] ((hr.elsNil (α:=Zj)).nil 106 6) [2,0,1,4,3,5,6,7,8,9]
   have b6:=zA bl;clear G hr bl;go_wp2_with (go_at_call 83;refine HL.o.mono ?_;rintro e wr ⟨rfl,rfl⟩);clear HL q3 q4
   go_loopg [85] n (fun gk co wr=>∃(i:Nat) (A4 x2:aA) (c4 q5 y7:Nat) (css:List aF),co= .int .i64 i/\i<=n/\gk=n - i/\Hid (zL r (·<C) x2 q5 y7 (Vj l a i))/\Sp wr [BlkA X 127 #[.slice P n n,.slice m q o,.slice T k c3,.pointer (some ⟨M,0,none⟩),.slice A4 i c4],RowA 106 6 (.slice A4 i c4) i css.flatten,ElsA css (aR l a i),BlkA C 128 #[.slice x2 q5 y7],UA T k c3 (t.map U64.val),BA m q o fb,DatA (.slice P n n) l,BlkA M 208 #[.slice Q g R,.int .i64 (k:Int)],RowA 206 3 (.slice Q g R) g (yd (yL docs) As g).flatten,zz (bysA (yL docs) As),OldA C r])
   case atStart=>exact⟨0,none,U,0,D,_, [],by go_num,zJ _,rfl,b6,ap⟩
   case round=>
    obtain⟨i,A4,x2,c4,q5,y7,css,rfl,cx,rfl,bm,G⟩:=hrel;clear ap
    by_cases bb:i<n
    ·obtain⟨bf,of,f,rfl,a9,J,ba⟩:=ay.o.at_ bb
     obtain⟨Af,nf,cf,F0,F1,F2,F3,F4,F5,F6,ck, -, -, -, -⟩:=Field.at_ ba
     obtain⟨x,bu⟩:∃x,a[i]? =some x:=⟨_,zB (by rw [b3.o];exact bb)⟩;have F:Below r.heap.size r wr:=(by rw [b];exact(Sp.selT [_,_,_,_] G []).below M6);have F0:wr.cell? _=_:=(F.cell J).trans F0;have F1:wr.cell? _=_:=(F.cell J).trans F1;have F2:wr.cell? _=_:=(F.cell J).trans F2;have F3:wr.cell? _=_:=(F.cell J).trans F3;have F4:wr.cell? _=_:=(F.cell J).trans F4
     have F5:wr.cell? _=_:=(F.cell J).trans F5;have F6:wr.cell? _=_:=(F.cell J).trans F6;have hw:=zA bu;have hc:=zA a9.o;clear ba ck F bu a9;obtain⟨L,a3⟩:=eX (wr.heap.size);have hp:=G.blkH 61 (fldV f Af nf cf) a3;obtain⟨w4,bs⟩:=eX (wr.alloc (.cells #[.string f.name,.int .i64 f.kind,.slice Af nf cf,.int .i64 f.scale,.int .i64 f.dims,.bool f.many,.bool f.stored] 61))
     unfold fldV at hp;rw [bs]at hp;have y:=hp.drew;obtain⟨bg,be⟩:=Hk.o f (zD hc.o);obtain⟨bc,bn,bh⟩:=Hi.o i f x hc.o hw.o
     have HX:=zA (rL (Af:=Af) (nf:=nf) (cf:=cf) (C:=C) (W0:=r) (rest:=Vj l a (i+1)) (w:=w4.drew) bg be bc bn (fun s hs=>x3.o s (DC hc.o hw.o hs)) bh aa (by rw [b,<-wE hc.o hw.o];exact bm.o) (by rw [b];exact Sp.selT [_,_,_,_,_,_,_,_,_,_,_,_] y [4,11,0,1,2,3,5,6,7,8,9,10]));unfold fldV at HX;rw [b]at HX
     have h7:w4.drew.cell? ⟨L,0,none⟩=some (.string f.name)/\w4.drew.cell? ⟨L,1,none⟩=some (.int .i64 f.kind)/\w4.drew.cell? ⟨L,2,none⟩=some (.slice Af nf cf)/\w4.drew.cell? ⟨L,3,none⟩=some (.int .i64 f.scale)/\w4.drew.cell? ⟨L,4,none⟩=some (.int .i64 f.dims)/\w4.drew.cell? ⟨L,5,none⟩=some (.bool f.many)/\w4.drew.cell? ⟨L,6,none⟩=some (.bool f.stored):=⟨y.cell M0 0,y.cell M0 1,y.cell M0 2,y.cell M0 3,y.cell M0 4,y.cell M0 5,y.cell M0 6⟩
     have e2:aR l a (i+1)=aR l a i++ [fldM f x]:=by
      unfold aR;have hz:(l.zip a)[i]? =some (f,x):=(by rw [List.getElem?_zip_eq_some];exact⟨hc.o,hw.o⟩);rw [zI,hz,zw];rfl
     have E2:=zA e2;clear G hp bg be bc bn bh e2;go_upto_region 17 with fail;clear bs a3 F0 F1 F2 F3 F4 F5 F6
     refine xV [(10,fun w=>w.cell? ⟨X,4,none⟩=some (.slice A4 i c4)),(8,fun w=>w.cell? ⟨L,0,none⟩=some (.string f.name)/\w.cell? ⟨L,1,none⟩=some (.int .i64 f.kind)/\w.cell? ⟨L,2,none⟩=some (.slice Af nf cf)/\w.cell? ⟨L,3,none⟩=some (.int .i64 f.scale)/\w.cell? ⟨L,4,none⟩=some (.int .i64 f.dims)/\w.cell? ⟨L,5,none⟩=some (.bool f.many)/\w.cell? ⟨L,6,none⟩=some (.bool f.stored))] (by kernel_rfl) (zg (y.cell M1 4) (hB h7)) (fun b=> ?_)
     clear h7;revert b;refine gF 0 ?_;refine gF 1 ?_;refine gF 2 ?_;refine gF 3 ?_;refine gL 4 10 M0 ?_;refine gL 5 8 M1 ?_;refine gF 6 ?_;refine gF 7 ?_;intro b;refine gO 8 fun K hK=> ?_;go_simp;refine HX.o.mono ?_;rintro e w5 ⟨v0,v1,v2,v3,v4,v5,af,q6,ca,rfl,xb,x4⟩;refine hK.o _ _ (zg (x4.cell M4 4) (YP (by kernel_rfl) yY)) ?_;clear hK K b;intro b
     have hm:=Sp.selT [_,_,_,_,_,_,_,_,_,_,_,_,_] x4 [5,0,6,4,1,7,8,9,10,11,12,2];have h9:∀u∈ [v0,v1,v2,v3,v4,v5],u.oneCell' =true:=fun u S=>Rep.one (hm.dat M1) S;have ax:=zA xb;clear y x4 HX xb bm;refine gO 9 fun K hK=> ?_;go_simp;refine hK.o _ _ (zg ((ON (hm.cell M3 4) _).trans rfl) (YP (by kernel_rfl) yY)) ?_;clear hK K b;intro b;refine gO 10 fun K hK=> ?_
     refine yz LY (.tmp 93) (.tmp 98) rfl rfl hm rfl (cs:= #[v0,v1,v2,v3,v4,v5]) rfl rfl rfl h9 (by omega) (by omega) ?_;intro N c8 bx cd ch Y;refine hK.o _ _ hA ?_;clear hK K b;refine gF 11 ?_;refine gF 12 ?_;intro b;have y0:=Y.cl M3 4;have y1:=(Y.blkOf M3).frozen 4;refine gO 13 fun K hK=> ?_;go_simp;refine hK.o _ _ hA ?_;clear hK K b;intro b
     refine xW (by kernel_rfl) ?_;have e1:css.flatten++(#[v0,v1,v2,v3,v4,v5]:aG).toList=(css++ [[v0,v1,v2,v3,v4,v5]]).flatten:=(by simp);rw [e1]at Y;have x5:=(Sp.selT [_,_,_,_] Y [3,0,1,2]).set 4 (.slice N (i+1) c8);obtain⟨w9,bt⟩:=eX (bx.setCell ⟨X,4,none⟩ (.slice N (i+1) c8));rw [bt]at x5⊢;have x6:=Sp.elsPush (x:=fldM f x) (Sp.selT [_,_,_,_] x5 [2,3,0,1]);rw [<-E2.o]at x6
     have am:=Sp.selT [_,_,_] x6 [1,2,0];clear hm Y x5 x6 y0 y1 e1 b bt h9;go_wp2
     go_roundg (n - (i+1))
     ·exact⟨i+1,N,af,c8,q6,ca,_,by go_num,by omega,rfl,ax,am⟩
     ·omega
    ·obtain rfl:n=i:=by omega
     have h1:=Sp.els (α:=Zj) (Sp.selT [_,_,_] G [1,2,0]);have h2:=Sp.selT [_,_,_,_,_,_,_,_,_] h1 [1,5,4,3,0,6,7,8];have h3:=zA (al.o.call (OP X n q k g P m T A4 Q o c3 c4 R M As l t docs a fb) (by rw [b];exact h2));clear G h1 h2;go_wp2;go_ret
     exact⟨X,g,P,m,T,A4,Q,o,c3,c4,R,M,As,rfl,b0.o,Hg.o,h3.o⟩
end Go.Proofs.YtjbhbfaeielbiaaGreatDoor

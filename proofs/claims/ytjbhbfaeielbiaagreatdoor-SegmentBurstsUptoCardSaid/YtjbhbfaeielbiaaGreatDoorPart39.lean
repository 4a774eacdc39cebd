import Derived.Test.YtjbhbfaeielbiaaGreatDoorPart37
import Derived.Test.YtjbhbfaeielbiaaGreatDoorPart35
import Derived.Test.YtjbhbfaeielbiaaGreatDoorPart36
import Derived.Test.YtjbhbfaeielbiaaGreatDoorPart33
set_option maxRecDepth 100000
set_option maxHeartbeats 8000000
set_option linter.unusedVariables false
set_option linter.unusedSimpArgs false
namespace Go.Proofs.YtjbhbfaeielbiaaGreatDoor
open Go.Proofs.Tryz
open Rep (rep)
open Go.RowKit
attribute [local go_sem ↓] zU zV
abbrev gE:=Ptr (List aC×List aB×Int)
abbrev aW:=Ptr (List OH×Int)
abbrev Zj:=gE×List aW×aD×AnyV×AnyV×AnyV
def aT (ts:List aB) (ls:List (List PostD)):gE:=Ptr.mk (some (tBl ts (atL ls ts.length),tFi ts,(ts.length:Int)))
def Xo (ps:List PostD):aW:=Ptr.mk (some (pBl ps,(ps.length:Int)))
def fldM (f:Field) (x:N8):Zj:=(if f.kind<=2 then aT x.1 x.2.1 else Ptr.mk none,if f.kind<=2 then x.2.1.map Xo else [],if f.kind=1 then x.2.2.1 else [],⟨⟩,⟨⟩,⟨⟩)
theorem cK {w:O} {g:Nat} {a0 a1 a2 a3 a4 a5:V} {tmps:aG} (h0:tmps.getD 6 undef= .pointer (some ⟨g,0,none⟩)) (hb:Blk w g 106 #[a0,a1,a2,a3,a4,a5]):(results Tryz.f84 tmps).run prog w= .ok (.agg #[a0,a1,a2,a3,a4,a5]) w:=by
 have h1:=run_loadVar_row (P:=prog) w g 106 106 #[a0,a1,a2,a3,a4,a5] (0,0) _ hb underlying106 rfl (by kernel_rfl);have h2:Tryz.f84.results= #[ResultVar.cell 6 106]:=rfl;have h3:tmps[6]?.getD undef= .pointer (some ⟨g,0,none⟩):=by simpa using h0
 simp [results,h2,h3,h1,asAddr,Result.andThen]
theorem fV (args:aG) (w:O):(callFunc 125 args).run prog w= .ok (.enter 125 args) w:=enters_of func125 (by kernel_rfl) rfl args w
theorem pR (ls:List (List PostD)) (k:Nat):(allL (ls.take k)).length<=(allL ls).length:=by
 have h:allL ls=allL (ls.take k)++allL (ls.drop k):=by unfold allL;rw [<-yS,zu]
 rw [h,zG];omega
theorem NR {ls:List (List PostD)} {n z:Nat} (h:z∈atL ls n):z<=(allL ls).length:=by
 unfold atL at h;obtain⟨j,_,rfl⟩:=List.mem_map.1 h;exact pR ls (j+1)
theorem NQ {ls:List (List PostD)} {k p:Nat} {ps:List PostD} (h:ls[k]? =some ps) (hr:xk ps=true) (hp:(allL (ls.take k)).length=p):
 ∃p',(allL (ls.take (k+1))).length=p' /\p<p' /\p' <=(allL ls).length/\((allL ls).drop p).take (p' - p)=YB ps/\∀n,k<n->(atL ls n)[k]? =some p' :=by
 have e1:allL (ls.take (k+1))=allL (ls.take k)++YB ps:=by rw [zI,h];simp [allL]
 have e2:0<(YB ps).length:=by
  rw [dP hr,zG];have:=Yb ps.length;omega
 have e3:(allL (ls.take (k+1))).length=p+(YB ps).length:=by rw [e1,zG,hp]
 have e4:allL ls=(allL (ls.take k)++YB ps)++allL (ls.drop (k+1)):=by
  rw [<-e1];unfold allL;rw [<-yS,zu]
 refine⟨_,rfl,by omega,pR ls _,?_,fun n hn=> ?_⟩
 ·rw [e3,Nat.add_sub_cancel_left,e4,zO,List.drop_append_of_le_length (by omega),zQ (by omega),zZ,List.take_append_of_le_length (zC _),List.take_length]
 ·unfold atL;rw [zH,zq hn];rfl
theorem ID {b off n c p p' :Nat} (h1:p<p') (h2:p' <=n) (h3:n<=c) (h4:c<=9223372036854775807) (W:O):(Instr.slice 65 (.slice (some ⟨b,off,none⟩) n c) (some (.int .u64 (p:Int))) (some (.int .u64 (p' :Int))) none).run prog W= .ok (.slice (some ⟨b,off+p,none⟩) (p' - p) (c - p)) W:=by
 have a1:¬c=p:=by omega
 have a2:((p:Int)<=(p' :Int)):=by omega
 have a3:((p' :Int)<=(c:Int)):=by omega
 have a4:¬(p:Int)<0:=by omega
 have a5:¬(p' :Int)<0:=by omega
 have a6:p<=p' :=by omega
 simp [Instr.slice,Instr.sliceBounds,go_sem,Addr.add,a1,a2,a3,a4,a5,a6]
theorem MT {f:Field} {x:N8} (h:f.kind=1\/f.kind=2):∃s2,YU f x= [ZM x.1 (atL x.2.1 x.1.length),allL x.2.1,s2]/\(f.kind=1->s2=putL x.2.2.1)/\(f.kind=2->s2=Z5 x.2.2.2.1):=by
 unfold YU Ze;rcases h with h|h
 ·exact⟨_,by rw [if_pos h],fun _=>rfl,fun h2=>by omega⟩
 ·exact⟨_,by rw [if_neg (by omega),if_pos h],fun h2=>by omega,fun _=>rfl⟩
theorem JW:Elt prog 101 50 1 8:=xt (by kernel_rfl) (by decide) (by kernel_rfl)
theorem Sp.pair {α β:Type} [Rep α] [Rep β] {w:O} {L:List Asn} {cs ds:aF} {x:α} {y:β} (h:Sp w (RepA cs x::RepA ds y::L)):Sp w (RepA (cs++ds) (x,y)::L):=h.mk2 fun _ h1 h2=>⟨cs,ds,rfl,h1,h2⟩
theorem Sp.fldIn6 {w:O} {L:List Asn} {v0 v1 v2:V} {p q r:aA} {d:gE} {ls:List aW} {ns:aD} (h:Sp w (DatA v0 d::DatA v1 ls::DatA v2 ns::L)):Sp w (RepA [v0,v1,v2,.pointer p,.pointer q,.pointer r] ((d,ls,ns,⟨⟩,⟨⟩,⟨⟩):Zj)::L):=by
 have h2:Sp w (RepA [.pointer p,.pointer q,.pointer r] ((⟨⟩,⟨⟩,⟨⟩):AnyV×AnyV×AnyV)::DatA v0 d::DatA v1 ls::DatA v2 ns::L):=h.mk0 ⟨[.pointer p],_,rfl,⟨_,rfl,rfl⟩, [.pointer q],_,rfl,⟨_,rfl,rfl⟩,⟨_,rfl,rfl⟩⟩;have h3:=Sp.pair (Sp.selT [_,_,_,_] h2 [3,0,1,2]);have h4:=Sp.pair (Sp.selT [_,_,_] h3 [2,0,1]);exact Sp.pair h4.p1
theorem Sp.fldPtrs {w:O} {L:List Asn} {p q r:aA} (h:Sp w L):Sp w (RepA [.pointer none,.slice none 0 0,.slice none 0 0,.pointer p,.pointer q,.pointer r] ((Ptr.mk none, [], [],⟨⟩,⟨⟩,⟨⟩):Zj)::L):=
 h.mk0 ⟨[.pointer none],_,rfl,rfl, [.slice none 0 0],_,rfl,⟨none,0,0,rfl,zL.nil⟩, [.slice none 0 0],_,rfl,⟨none,0,0,rfl,zL.nil⟩, [.pointer p],_,rfl,⟨_,rfl,rfl⟩, [.pointer q],_,rfl,⟨_,rfl,rfl⟩,⟨_,rfl,rfl⟩⟩
theorem rK {f:Field} {x:N8} {m C q cc nf cf:Nat} {Ac Af:aA} {rest:List aC} {w W0:O} {L:List Asn}
 (hk:3<=f.kind/\f.kind<=5/\(f.kind=5->1<=f.dims/\f.dims<=4)) (ok:InvOk f x.1 x.2.1 x.2.2.1 x.2.2.2.1 x.2.2.2.2.1 x.2.2.2.2.2) (so:WA f x.1 x.2.1) (hle:∀s∈YU f x,s.length<=16777216) (hl1:f.kind=1->x.2.2.1.length=m) (hm:m<=16384)
 (hr:zL W0 (·<W0.heap.size) Ac q cc (YU f x++rest)) (HS:Sp w (BlkA C 128 #[.slice Ac q cc]::OldA W0.heap.size W0::L)):
 Calls prog 84 #[.agg (fldV f Af nf cf),.int .i64 (m:Int),.func (.func 125) #[] #[.pointer (some ⟨C,0,none⟩)]] w fun e w' =>∃(v0 v1 v2 v3 v4 v5:V) (Ac' :aA) (q' cc' :Nat),e= .returned (.agg #[v0,v1,v2,v3,v4,v5])/\zL W0 (·<W0.heap.size) Ac' q' cc' rest/\Sp w' (RepA [v0,v1,v2,v3,v4,v5] (fldM f x)::BlkA C 128 #[.slice Ac' q' cc']::OldA W0.heap.size W0::L):=by
 obtain⟨H,hH⟩:=eX (w.heap.size);have HS0:=(HS.blkH 61 (fldV f Af nf cf) hH).blkH 106 #[.pointer none,.slice none 0 0,.slice none 0 0,.pointer none,.pointer none,.pointer none] (H:=H+1) (by simp [hH]);obtain⟨w2,hw2⟩:=eX ((w.alloc (.cells (fldV f Af nf cf) 61)).alloc (.cells #[.pointer none,.slice none 0 0,.slice none 0 0,.pointer none,.pointer none,.pointer none] 106));rw [hw2]at HS0
 have pk:=HS0.cl M1 1;unfold fldV at hw2⊢;obtain⟨kd,hkd⟩:=eX (f.kind);rw [hkd]at hk pk hw2 hl1;have Hok:=zA ok;have Hso:=zA so;have hcf:=fV;clear HS ok so;rcases(show kd=5\/(kd=3\/kd=4) by omega)with rfl|h34
 ·obtain⟨d,hdd⟩:∃d:Nat,f.dims=(d:Int):=⟨f.dims.toNat,by have:=hk.2.2 rfl;omega⟩;have hd1:1<=d/\d<=4:=(by have:=hk.2.2 rfl;omega);have hsec:YU f x= [bkdB d x.2.2.2.2.2]:=(by unfold YU Ze;simp [hkd,hdd]);have hpi:ZG d x.2.2.2.2.2:=(by have h:=Hok.out.pi;rw [if_pos hkd,hdd]at h;exact h);have hfm:fldM f x=(Ptr.mk none, [], [],⟨⟩,⟨⟩,⟨⟩):=(by unfold fldM;simp [hkd]);have Hfm:=zA hfm;have Hpi:=zA hpi
  rw [hdd]at hw2;rw [hsec]at hr hle;have hs0:=hle (bkdB d x.2.2.2.2.2) (by simp);obtain⟨q0,rfl⟩:∃q0,q=q0+1:=⟨rest.length,by have:=hr.length;simp at this;omega⟩;have Hr:=zA hr;clear hr hle hsec hpi hfm;go_enter func84,ntmps84;go_upto_region 15 with fail;clear hw2 hH;have HC:=zA (XB Hr.out (Sp.selT [_,_,_] HS0 [2,0,1]) M2);clear HS0 pk;go_wp2_with fail;refine HC.out.mono ?_
  rintro e w3 ⟨A1,n1,c1,Ac1,rfl,r1,rr,HS1⟩;have e1:=r1.length;have Hrr:=zA rr;have HO:=zA (kA A1 n1 c1 d x.2.2.2.2.2.length x.2.2.2.2.2 w3 (by omega) ((r1.on (HS1.below M3)).rb fun _ h=>h) Hpi.out (by omega) (by omega) rfl Hok.out.pn);clear HC r1 rr;go_wp2_with fail;refine HO.out.mono ?_;rintro e w4 ⟨D,rfl,hb4⟩;have HS2:=Sp.selT [_,_,_] (HS1.grow hb4) [1,0];clear HO HS1 hb4
  obtain⟨d0,d1,d2,d3,d4,d5⟩:=OG HS2 M0;have fz:=(HS2.blkOf M0).frozen;have r0:=fz 0;have r1:=fz 1;have r2:=fz 2;have r3:=fz 3;have r4:=fz 4;have r5:=fz 5;have HS8:=zA (((((((HS2.set 5 (.pointer (some ⟨D,0,none⟩))).set 0 (.pointer none)).set 1 (.slice none 0 0)).set 2 (.slice none 0 0)).set 3 (.pointer none)).set 4 (.pointer none)).set 5 (.pointer (some ⟨D,0,none⟩)));clear fz HS2
  go_wp2_with (go_at_call 155;refine(oA _ _ _).mono ?_;rintro e w6 h;obtain⟨rfl,rfl⟩:=h.ok);refine bodyPost_ret (cK (g:=H+1) (by rfl) (HS8.out.blkOf M0)) rfl ⟨_,_,_,_,_,_,_,_,_,rfl,Hrr.out,?_⟩;rw [Hfm.out];exact HS8.out.tail.fldPtrs
 ·rcases h34 with rfl|rfl
  all_goals
   have hsec:YU f x= [colL (x.2.2.2.2.1.map xP),bkdB 1 x.2.2.2.2.2]:=(by unfold YU Ze;simp [hkd]);have hpi:ZG 1 x.2.2.2.2.2:=(by have h:=Hok.out.pi;rw [if_neg (by rw [hkd];decide)]at h;exact h);have hfm:fldM f x=(Ptr.mk none, [], [],⟨⟩,⟨⟩,⟨⟩):=(by unfold fldM;simp [hkd]);have Hfm:=zA hfm;have Hpi:=zA hpi;rw [hsec]at hr hle;have hs0:=hle (colL (x.2.2.2.2.1.map xP)) (by simp)
   have hs1:=hle (bkdB 1 x.2.2.2.2.2) (by simp);obtain⟨q0,rfl⟩:∃q0,q=q0+1+1:=⟨rest.length,by have:=hr.length;simp at this;omega⟩;have Hr:=zA hr;clear hr hle hsec hpi hfm;go_enter func84,ntmps84;go_upto_region 23 with fail;clear hw2 hH pk;have HC:=zA (XB Hr.out (Sp.selT [_,_,_] HS0 [2,0]) M1);clear HS0;go_wp2_with fail;refine HC.out.mono ?_;rintro e w3 ⟨A1,n1,c1,Ac1,rfl,r1,rr,HS1⟩
   have e1:=r1.length;have hc1:=r1.cap;have Hr1:=zA rr;clear HC rr;have HO:=zA (DV A1 n1 c1 (x.2.2.2.2.1.map xP) w3 hc1.1 hc1.2 (by omega) ((r1.on (HS1.below M2)).rb fun _ h=>h) (by rw [zK];exact Hok.out.nn) (fun r hr=>by obtain⟨r0,h0,rfl⟩:=List.mem_map.1 hr;exact⟨by rw [U0];exact(Hok.out.ni r0 h0).1,mJ (Hok.out.ni r0 h0).2⟩) (by rw [yD];exact List.map_congr_left fun r _=>wB r));clear r1
   go_wp2_with fail;refine HO.out.mono ?_;rintro e w4 ⟨pn,rfl,hb4⟩;have HS2:=Sp.selT [_,_] (HS1.grow hb4) [1,0];clear HO HS1 hb4;have d0:=HS2.cl M0 4;have d1:=(HS2.blkOf M0).frozen 4;have HS3:=HS2.set 4 (.pointer pn);obtain⟨w5,hw5⟩:=eX (w4.setCell ⟨H+1,4,none⟩ (.pointer pn));rw [hw5]at HS3;have HC:=zA (XB Hr1.out (Sp.selT [_,_] HS3 [1,0]) M1);clear HS2 HS3
   go_wp2_with (go_at_call 153;refine(MA _ _ _).mono ?_;rintro e w6 h;obtain⟨rfl,rfl⟩:=h.ok);clear d0 d1 hw5;refine HC.out.mono ?_;rintro e w7 ⟨A2,n2,c2,Ac2,rfl,r2,rr,HS4⟩;have e2:=r2.length;have Hrr:=zA rr;have HO:=zA (kA A2 n2 c2 1 x.2.2.2.2.2.length x.2.2.2.2.2 w7 (by omega) ((r2.on (HS4.below M2)).rb fun _ h=>h) Hpi.out (by omega) (by omega) rfl Hok.out.pn);clear HC r2 rr;go_wp2_with fail
   refine HO.out.mono ?_;rintro e w8 ⟨D,rfl,hb8⟩;have HS5:=Sp.selT [_,_] (HS4.grow hb8) [1,0];clear HO HS4 hb8;obtain⟨d0,d1,d2,d3,d4,d5⟩:=OG HS5 M0;have fz:=(HS5.blkOf M0).frozen;have r0:=fz 0;have r1:=fz 1;have r2:=fz 2;have r3:=fz 3;have r4:=fz 4;have r5:=fz 5
   have HS8:=zA (((((((HS5.set 5 (.pointer (some ⟨D,0,none⟩))).set 0 (.pointer none)).set 1 (.slice none 0 0)).set 2 (.slice none 0 0)).set 3 (.pointer none)).set 4 (.pointer pn)).set 5 (.pointer (some ⟨D,0,none⟩)));clear fz HS5;go_wp2_with (go_at_call 155;refine(oA _ _ _).mono ?_;rintro e w9 h;obtain⟨rfl,rfl⟩:=h.ok)
   refine bodyPost_ret (cK (g:=H+1) (by rfl) (HS8.out.blkOf M0)) rfl ⟨_,_,_,_,_,_,_,_,_,rfl,Hrr.out,?_⟩;rw [Hfm.out];exact HS8.out.tail.fldPtrs
theorem VE {f:Field} {x:N8} {m C q cc nf cf:Nat} {Ac Af:aA} {rest:List aC} {w W0:O} {L:List Asn}
 (hk:f.kind=1\/f.kind=2) (ok:InvOk f x.1 x.2.1 x.2.2.1 x.2.2.2.1 x.2.2.2.2.1 x.2.2.2.2.2) (so:WA f x.1 x.2.1) (hle:∀s∈YU f x,s.length<=16777216) (hl1:f.kind=1->x.2.2.1.length=m) (hm:m<=16384)
 (hr:zL W0 (·<W0.heap.size) Ac q cc (YU f x++rest)) (HS:Sp w (BlkA C 128 #[.slice Ac q cc]::OldA W0.heap.size W0::L)):
 Calls prog 84 #[.agg (fldV f Af nf cf),.int .i64 (m:Int),.func (.func 125) #[] #[.pointer (some ⟨C,0,none⟩)]] w fun e w' =>∃(v0 v1 v2 v3 v4 v5:V) (Ac' :aA) (q' cc' :Nat),e= .returned (.agg #[v0,v1,v2,v3,v4,v5])/\zL W0 (·<W0.heap.size) Ac' q' cc' rest/\Sp w' (RepA [v0,v1,v2,v3,v4,v5] (fldM f x)::BlkA C 128 #[.slice Ac' q' cc']::OldA W0.heap.size W0::L):=by
 obtain⟨H,hH⟩:=eX (w.heap.size);have HS0:=(HS.blkH 61 (fldV f Af nf cf) hH).blkH 106 #[.pointer none,.slice none 0 0,.slice none 0 0,.pointer none,.pointer none,.pointer none] (H:=H+1) (by simp [hH]);obtain⟨w2,hw2⟩:=eX ((w.alloc (.cells (fldV f Af nf cf) 61)).alloc (.cells #[.pointer none,.slice none 0 0,.slice none 0 0,.pointer none,.pointer none,.pointer none] 106));rw [hw2]at HS0
 have pk:=HS0.cl M1 1;unfold fldV at hw2⊢;obtain⟨kd,hkd⟩:=eX (f.kind);rw [hkd]at hk pk hw2 hl1;have Hok:=zA ok;have Hso:=zA so;have hcf:=fV;clear HS ok so;rcases hk with rfl|rfl
 all_goals
  obtain⟨s2,hsec,hs21,hs22⟩:=MT (f:=f) (x:=x) (by rw [hkd];decide);obtain⟨ht,hR,hal⟩:=Hso.out (by rw [hkd];decide);obtain⟨n,hn⟩:=eX (x.1.length);have hls:x.2.1.length=n:=(by rw [<-hn];exact Hok.out.tl);have hat:(atL x.2.1 n).length=x.1.length:=(by rw [Qp,hn]);have hu:∀z∈atL x.2.1 n,z<18446744073709551616:=fun z hz=>by have:=NR hz;omega
  have hn1:n<=1048576:=(by unfold xQ at ht;simp only [zM,decide_eq_true_eq]at ht;omega);rw [hn]at hsec;rw [hsec]at hr hle;have hs0:=hle (ZM x.1 (atL x.2.1 n)) (by simp);have hs2:=hle s2 (by simp);obtain⟨q0,rfl⟩:∃q0,q=q0+1+1+1:=⟨rest.length,by have:=hr.length;simp at this;omega⟩;have Hr:=zA hr;have Ht:=zA ht;have HR:=zA hR;have Hn:=zA hn;have Hls:=zA hls;have Hat:=zA hat;have Hu:=zA hu
  have Hs21:=zA hs21;have Hs22:=zA hs22;have Hl1:=zA hl1;clear hr hle hsec ht hR hn hls hat hu hs21 hs22 hl1;go_enter func84,ntmps84;go_upto_region 2 with fail;clear hw2 hH pk;have HC:=zA (XB Hr.out (Sp.selT [_,_,_] HS0 [2,0,1]) M2);clear HS0;go_wp2_with fail;refine HC.out.mono ?_;rintro e w3 ⟨A1,n1,c1,Ac1,rfl,r1,rr,HS1⟩;have e1:=r1.length;have hc1:=r1.cap;have Hr1:=zA rr;clear HC rr
  have HO:=zA (vR A1 n1 c1 x.1 (atL x.2.1 n) w3 hc1.1 hc1.2 (by omega) ((r1.on (HS1.below M3)).rb fun _ h=>h) Ht.out Hat.out Hu.out);clear r1;go_wp2_with fail;refine HO.out.mono ?_;rintro e w4 ⟨D,rfl,HSx⟩;have HS2:=Sp.selT [_,_,_,_] (HS1.c1 HSx) [2,0,1,3];clear HO HS1 HSx;have d0:=HS2.cl M0 0;have d1:=(HS2.blkOf M0).frozen 0;have HS3:=HS2.set 0 (.pointer (some ⟨D,0,none⟩))
  obtain⟨w5,hw5⟩:=eX (w4.setCell ⟨H+1,0,none⟩ (.pointer (some ⟨D,0,none⟩)));rw [hw5]at HS3;have HC:=zA (XB Hr1.out (Sp.selT [_,_,_,_] HS3 [2,0,1,3]) M3);clear HS2 HS3;go_wp2_with (go_at_call 146;refine(MB _ _ _).mono ?_;rintro e w6 h;obtain⟨rfl,rfl⟩:=h.ok);clear d0 d1 hw5;refine HC.out.mono ?_;rintro e w6 ⟨A2,n2,c2,Ac2,rfl,r2,rr,HS4⟩;have e2:=r2.length;have hc2:=r2.cap;have Hr2:=zA r2
  have Hrr:=zA rr;clear HC r2 rr;have q2:w6.cell? ⟨D,2,none⟩=some (.int .i64 (n:Int)):=(by have h:=pH HS4 M2;rw [Hn.out]at h;exact h);have f0:=HS4.cl M1 0;have HL:=zA (WZ q2);have HS5:=Sp.selT [_,_,_,_,_,_] ((HS4.elsNil (α:=aW)).nil 50 1) [4,3,0,1,5,2];clear HS4 q2;go_wp2_with (go_at_call 19;refine HL.out.mono ?_;rintro e w7 ⟨rfl,rfl⟩);clear f0 HL
  go_loopg [8,34] n (fun gk x8 x34 wr=>∃(k p:Nat) (A3:aA) (c3:Nat) (css:List aF),x8= .int .u64 (p:Int)/\(allL (x.2.1.take k)).length=p/\x34= .int .i64 k/\k<=n/\gk=n - k/\Sp wr (DicA D x.1 (atL x.2.1 n)::BlkA (H+1) 106 #[.pointer (some ⟨D,0,none⟩),.slice A3 k c3,.slice none 0 0,.pointer none,.pointer none,.pointer none]::RowA 50 1 (.slice A3 k c3) k css.flatten::ElsA css ((x.2.1.take k).map Xo)::BlkA H 61 (fldV f Af nf cf)::BlkA C 128 #[.slice Ac2 (q0+1) (cc - 1 - 1)]::OldA W0.heap.size W0::L))
  case atStart=>exact⟨0,0,none,0, [],rfl,rfl,by go_num,zJ _,rfl,HS5⟩
  case round=>
   obtain⟨k,p,A3,c3,css,rfl,hp,rfl,hk2,rfl,HS⟩:=hrel;clear HS5
   by_cases hkn:k<n
   ·obtain⟨ps,hps⟩:∃ps,x.2.1[k]? =some ps:=⟨_,zB (by rw [Hls.out];exact hkn)⟩;have hrt:=HR.out ps (zD hps);obtain⟨p',hp',hpp,hpl,hsub,hto⟩:=NQ hps hrt hp;rw [e2]at hpl;have HA:=zA (L3 HS Ht.out Hat.out Hu.out (hto n hkn));obtain⟨b2,o2,y,rfl, -, -, -⟩:=Hr2.out.at_ (k:=0) (by omega)
    have pk0:=HS.cl M1 0;obtain⟨z,hz⟩:=eX (p' - p);obtain⟨c',hc'⟩:=eX (c2 - p);have hx:=ID hpp hpl hc2.1 hc2.2 (b:=b2) (off:=o2);rw [hz]at hsub hx;rw [hc']at hx;have e3:(x.2.1.take (k+1)).map Xo=(x.2.1.take k).map Xo++ [Xo ps]:=(by rw [zI,hps];simp);have hq1:¬(p' :Int)<(p:Int):=(by omega);have hq2:IntKind.u64.wrap (n2:Int)=(n2:Int):=(by rw [zW];omega);have hq3:¬(n2:Int)<(p' :Int):=(by omega)
    have Hp' :=zA hp';have Hp:=zA hp;have Hrt:=zA hrt;have Hsub:=zA hsub;have E3:=zA e3;have Hz:=zA hz;have Hc' :=zA hc';have He2:=zA e2;clear HS hps hto hp' hp hrt hsub e3 hz hc' e2;go_wp2_with fail;refine HA.out.mono ?_;rintro e w8 ⟨rfl,HSa⟩;clear HA pk0;go_upto_region 11 with fail;clear hq1 hq2 hq3;have HSd:=HSa.drew
    have HP:=zA (wO (some ⟨b2,o2+p,none⟩) z c' ps w8.drew (by have:=Hz.out;have:=Hc'.out;omega) (by have:=Hc'.out;omega) (by have:=Hz.out;have:=He2.out;omega) (by have h:=((Hr2.out.on (HSd.below M6)).rb fun _ h=>h).sub_at (i:=p) (k:=z) (by have:=Hz.out;omega);rw [Hsub.out]at h;exact h) Hrt.out);clear HSa;refine gR [(11,fun w=>w.cell? ⟨H+1,1,none⟩=some (.slice A3 k c3))] (hB (HSd.cell M1 1)) ?_
    refine gF 0 ?_;refine gL 1 11 M0 ?_;refine gF 2 ?_;refine gF 3 ?_;refine gF 4 ?_;refine gF 5 ?_;intro hC;refine gO 6 fun K hK=> ?_;go_simp;refine HP.out.mono ?_;rintro e w9 ⟨D9,rfl,HS9⟩;have HSb:=HSd.c1 HS9;refine hK.out _ _ (hB (HSb.cell M2 1)) ?_;clear hK K hC;intro hC;clear HSd HS9 HP;revert hC;refine gF 7 ?_;refine gF 8 ?_;intro hC;refine gO 9 fun K hK=> ?_;go_simp
    refine(NL _ _ _).mono ?_;rintro e w10 h;obtain⟨rfl,rfl⟩:=h.ok;refine hK.out _ _ (xz hC) ?_;clear hK K hC;intro hC;have HSc:=Sp.selT [_,_,_,_] HSb [3,0,1,2];clear HSb;refine gO 10 fun K hK=> ?_;go_simp;refine hK.out _ _ (hB ((ON (HSc.cell M3 1) _).trans rfl)) ?_;clear hK K hC;intro hC;refine gO 11 fun K hK=> ?_
    refine yz JW (.tmp 54) (.tmp 63) rfl rfl HSc rfl (cs:= #[.pointer (some ⟨D9,0,none⟩)]) rfl rfl rfl (by intro u hu;simp at hu;subst hu;rfl) (by omega) (by omega) ?_;intro A8 c8 w11 hc8 hm8 HSe;refine hK.out _ _ hA ?_;clear hK K hC;refine gF 12 ?_;intro hC;have y0:=HSe.cl M3 1;have y1:=(HSe.blkOf M3).frozen 1;refine gO 13 fun K hK=> ?_;go_simp;refine hK.out _ _ hA ?_;clear hK K hC;intro hC
    refine xW (by kernel_rfl) ?_;have e1:css.flatten++(#[Value.pointer (some ⟨D9,0,none⟩)]:aG).toList=(css++ [[Value.pointer (some ⟨D9,0,none⟩)]]).flatten:=(by simp);rw [e1]at HSe;have HSf:=(Sp.selT [_,_,_,_] HSe [3,0,1,2]).set 1 (.slice A8 (k+1) c8);obtain⟨w12,hw12⟩:=eX (w11.setCell ⟨H+1,1,none⟩ (.slice A8 (k+1) c8));rw [hw12]at HSf⊢
    have HSg:=Sp.elsPush (x:=Xo ps) (Sp.selT [_,_,_,_,_] HSf [2,4,0,1,3]);rw [<-E3.out]at HSg;have HSh:=Sp.selT [_,_,_,_] HSg [3,1,2,0];clear HSc HSe HSf HSg y0 y1 e1 hC hw12;go_wp2
    go_roundg (n - (k+1))
    ·exact⟨k+1,p',A8,c8,_,rfl,Hp'.out,by go_num,by omega,rfl,HSh⟩
    ·omega
   ·obtain rfl:k=n:=by omega
    rw [zF (by rw [Hls.out];exact zC _)]at HS;have pk:=HS.cl M4 1;rw [hkd]at pk;have hdm:aT x.1 x.2.1=Ptr.mk (some (tBl x.1 (atL x.2.1 k),tFi x.1,(x.1.length:Int))):=(by unfold aT;rw [Hn.out]);have HS7:=Sp.els (α:=aW) (Sp.selT [_,_,_,_,_,_] HS [2,3,1,0,4,5]);have HC:=zA (XB Hrr.out (Sp.selT [_,_,_,_,_] HS7 [4,1,0,2,3]) M4);have Hdm:=zA hdm;clear HS HS7 hdm hp;go_wp2_with fail;clear pk
    refine HC.out.mono ?_;rintro e w7 ⟨A4,n4,c4,Ac4,rfl,r4,rr,HS8⟩;have e4:=r4.length;have hc4:=r4.cap;have Hr4:=zA rr;clear HC rr
    first
     |have hq1:f.kind=1:=hkd
      have hfm:fldM f x=(aT x.1 x.2.1,x.2.1.map Xo,x.2.2.1,⟨⟩,⟨⟩,⟨⟩):=(by unfold fldM;rw [if_pos (by rw [hkd];decide),if_pos (by rw [hkd];decide),if_pos hkd]);have hg:getL s2 m=some (x.2.2.1,(putL x.2.2.1).length):=(by have h:=d7 (post:= []) Hok.out.li;rw [zo,Hl1.out (by trivial)]at h;rw [Hs21.out hkd];exact h)
      have HG:=zA (d6 A4 n4 c4 m s2 w7 (by omega) ((r4.on (HS8.below M5)).rb fun _ h=>h) (by omega));unfold Ym at HG;rw [hg]at HG;have Hfm:=zA hfm;clear hg hfm r4;go_wp2_with fail;refine HG.out.mono ?_;rintro e w9 ⟨hb9,A9,rfl,hrow⟩;have HS9:=(HS8.row hrow hb9).ints Hok.out.li;have HSz:=Sp.selT [_,_,_,_,_,_] HS9 [2,0,3,4,1];clear HG HS8 HS9 hb9 hrow;obtain⟨d0,d1,d2,d3,d4,d5⟩:=OG HSz M0
      have fz:=(HSz.blkOf M0).frozen;have r0:=fz 0;have r1:=fz 1;have r2:=fz 2;have r3:=fz 3;have r4:=fz 4;have r5:=fz 5;have HS8:=zA (((((((HSz.set 2 (.slice A9 m m)).set 0 (.pointer (some ⟨D,0,none⟩))).set 1 (.slice A3 k c3)).set 2 (.slice A9 m m)).set 3 (.pointer none)).set 4 (.pointer none)).set 5 (.pointer none));clear fz HSz
      go_wp2_with (go_at_call 78;refine(pN _ _ _).mono ?_;rintro e w10 h;obtain⟨rfl,rfl⟩:=h.ok);refine bodyPost_ret (cK (g:=H+1) (by rfl) (HS8.out.blkOf M0)) rfl ⟨_,_,_,_,_,_,_,_,_,rfl,Hr4.out,?_⟩;rw [Hfm.out,Hdm.out];exact Sp.fldIn6 (Sp.selT [_,_,_,_] HS8.out.tail [2,1,0,3])
     |have hq1:f.kind=2:=hkd
      have hfm:fldM f x=(aT x.1 x.2.1,x.2.1.map Xo, [],⟨⟩,⟨⟩,⟨⟩):=(by unfold fldM;rw [if_pos (by rw [hkd];decide),if_pos (by rw [hkd];decide),if_neg (by rw [hkd];decide)]);rw [Hs22.out hkd]at r4 e4;have HG:=zA (DQ A4 n4 c4 x.2.2.2.1 w7 hc4.1 hc4.2 (by rw [<-e4,<-Hs22.out hkd];omega) ((r4.on (HS8.below M5)).rb fun _ h=>h) Hok.out.xn Hok.out.xi);have Hfm:=zA hfm;clear hfm r4;go_wp2_with fail
      refine HG.out.mono ?_;rintro e w9 ⟨pt,rfl,hb9⟩;have HS9:Sp w9 (DatA (.slice none 0 0) ([]:aD)::_):=(HS8.grow hb9).mk0 ⟨none,0,0,rfl,zL.nil⟩;have HSz:=Sp.selT [_,_,_,_,_,_] HS9 [2,0,3,4,1];clear HG HS8 HS9 hb9;obtain⟨d0,d1,d2,d3,d4,d5⟩:=OG HSz M0;have fz:=(HSz.blkOf M0).frozen;have r0:=fz 0;have r1:=fz 1;have r2:=fz 2;have r3:=fz 3;have r4:=fz 4;have r5:=fz 5
      have HS8:=zA (((((((HSz.set 3 (.pointer pt)).set 0 (.pointer (some ⟨D,0,none⟩))).set 1 (.slice A3 k c3)).set 2 (.slice none 0 0)).set 3 (.pointer pt)).set 4 (.pointer none)).set 5 (.pointer none));clear fz HSz;go_wp2_with (go_at_call 151;refine(L8 _ _ _).mono ?_;rintro e w10 h;obtain⟨rfl,rfl⟩:=h.ok)
      refine bodyPost_ret (cK (g:=H+1) (by rfl) (HS8.out.blkOf M0)) rfl ⟨_,_,_,_,_,_,_,_,_,rfl,Hr4.out,?_⟩;rw [Hfm.out,Hdm.out];exact Sp.fldIn6 (Sp.selT [_,_,_,_] HS8.out.tail [2,1,0,3])
theorem rL {f:Field} {x:N8} {m C q cc nf cf:Nat} {Ac Af:aA} {rest:List aC} {w W0:O} {L:List Asn}
 (hk:1<=f.kind/\f.kind<=5) (hd:f.kind=5->1<=f.dims/\f.dims<=4) (ok:InvOk f x.1 x.2.1 x.2.2.1 x.2.2.2.1 x.2.2.2.2.1 x.2.2.2.2.2) (so:WA f x.1 x.2.1) (hle:∀s∈YU f x,s.length<=16777216) (hl1:f.kind=1->x.2.2.1.length=m) (hm:m<=16384)
 (hr:zL W0 (·<W0.heap.size) Ac q cc (YU f x++rest)) (HS:Sp w (BlkA C 128 #[.slice Ac q cc]::OldA W0.heap.size W0::L)):
 Calls prog 84 #[.agg (fldV f Af nf cf),.int .i64 (m:Int),.func (.func 125) #[] #[.pointer (some ⟨C,0,none⟩)]] w fun e w' =>∃(v0 v1 v2 v3 v4 v5:V) (Ac' :aA) (q' cc' :Nat),e= .returned (.agg #[v0,v1,v2,v3,v4,v5])/\zL W0 (·<W0.heap.size) Ac' q' cc' rest/\Sp w' (RepA [v0,v1,v2,v3,v4,v5] (fldM f x)::BlkA C 128 #[.slice Ac' q' cc']::OldA W0.heap.size W0::L):=by
 rcases(show f.kind=1\/f.kind=2\/3<=f.kind by omega)with h|h|h
 ·exact VE (.inl h) ok so hle hl1 hm hr HS
 ·exact VE (.inr h) ok so hle hl1 hm hr HS
 ·exact rK ⟨h,hk.2,hd⟩ ok so hle hl1 hm hr HS
theorem IE {T n:Nat} {w:O} (h:w.cell? ⟨T,1,none⟩=some (.int .i64 (n:Int))):Calls prog 83 #[.pointer (some ⟨T,0,none⟩)] w fun e w' =>e= .returned (.int .i64 (n:Int))/\w=w' :=by
 go_enter func83,ntmps83;go_wp2;go_ret
 exact⟨rfl,rfl⟩
theorem MX {p:Nat} {pre post:aC} {L:List Asn} {w:O} (h:Sp w (RdA p (rsAt pre post)::L)):
 Calls prog 79 #[.pointer (some ⟨p,0,none⟩)] w fun e w' =>e= .returned (.int .i64 0)/\w=w' :=dH h
theorem wI (pre post:aC):(rsAt pre post).left=post.length:=by simp [rsAt,RS.left]
theorem DA (u:U64) (h:u.val<18446744073709551616):IntKind.u64.wrap (seqI u)=(u.val:Int):=by
 unfold seqI;rw [zT,zW];omega
theorem LY:Elt prog 125 106 6 80:=xt (by kernel_rfl) (by decide) (by kernel_rfl)
def Vj (fs:List Field) (invs:List N8) (i:Nat):List aC:=((fs.zip invs).drop i).flatMap fun p=>YU p.1 p.2
theorem i6 (fs:List Field) (invs:List N8):XG fs invs fs.length=Vj fs invs 0:=by
 unfold XG Vj;rw [List.drop_zero,zF (by rw [List.length_zip];omega)]
theorem wE {fs:List Field} {invs:List N8} {i:Nat} {f:Field} {x:N8} (hf:fs[i]? =some f) (hx:invs[i]? =some x):Vj fs invs i=YU f x++Vj fs invs (i+1):=by
 unfold Vj;have hz:(fs.zip invs)[i]? =some (f,x):=by rw [List.getElem?_zip_eq_some];exact⟨hf,hx⟩
 rw [yb hz];rfl
theorem DC {fs:List Field} {us:List U64} {docs:N7} {invs:List N8} {i:Nat} {f:Field} {x:N8} (hf:fs[i]? =some f) (hx:invs[i]? =some x) {s:aC} (h:s∈YU f x):s∈xl fs us docs invs:=by
 unfold xl;rw [i6];unfold Vj;have hz:(fs.zip invs)[i]? =some (f,x):=by rw [List.getElem?_zip_eq_some];exact⟨hf,hx⟩
 exact .tail _ (.tail _ (List.mem_flatMap.2 ⟨(f,x),zD hz,h⟩))
def aR (fs:List Field) (invs:List N8) (k:Nat):List Zj:=((fs.zip invs).take k).map fun p=>fldM p.1 p.2
def OP (X:Nat) (n q k g:Nat) (A1 A2 A3 A4 Ac:aA) (c2 c3 c4 cc Tb:Nat) (As:List aA) (fs:List Field) (us:List U64) (docs:N7) (invs:List N8) (b:aC):List Asn:=
 [BlkA X 127 #[.slice A1 n n,.slice A2 q c2,.slice A3 k c3,.pointer (some ⟨Tb,0,none⟩),.slice A4 n c4],DatA (.slice A1 n n) fs,BA A2 q c2 b,UA A3 k c3 (us.map U64.val),DatA (.slice A4 n c4) (aR fs invs n),
  BlkA Tb 208 #[.slice Ac g cc,.int .i64 (k:Int)],RowA 206 3 (.slice Ac g cc) g (yd (yL docs) As g).flatten,zz (bysA (yL docs) As)]
theorem IR {A Ad:aA} {n c q qc k:Nat} {fs:List Field} {us:List U64} {docs:N7} {invs:List N8} {w:O}
 (hs:zL w (·<w.heap.size) A n c fs) (hn:n<=16) (hch:∀f∈fs,f.chain.length<=1000000000) (hk:∀f∈fs,(1<=f.kind/\f.kind<=5)/\(f.kind=5->1<=f.dims/\f.dims<=4))
 (hu:us.length=k) (hu64:∀u∈us,u.val<18446744073709551616) (hd:docs.length=k) (hk2:k<=16384) (hok:∀d∈docs,Y9 d=true/\QB d) (hin:invs.length=n)
 (hi:∀(j:Nat) (f:Field) (x:N8),fs[j]? =some f->invs[j]? =some x->InvOk f x.1 x.2.1 x.2.2.1 x.2.2.2.1 x.2.2.2.2.1 x.2.2.2.2.2/\WA f x.1 x.2.1/\(f.kind=1->x.2.2.1.length=k))
 (hf:xR 1 (xl fs us docs invs)=true) (hb:RB w Ad q (ZQ 1 (xl fs us docs invs))) (hqc:q<=qc) (hqc2:qc<=9223372036854775807):
 Calls prog 33 #[.agg #[.slice A n c],.slice Ad q qc] w fun e w' =>∃(X g:Nat) (A1 A2 A3 A4 Ac:aA) (c2 c3 c4 cc Tb:Nat) (As:List aA),e= .returned (.pointer (some ⟨X,0,none⟩))/\As.length=g/\(yL docs).length=g/\
  Sp w' (OP X n q k g A1 A2 A3 A4 Ac c2 c3 c4 cc Tb As fs us docs invs (ZQ 1 (xl fs us docs invs))++ [OldA w.heap.size w]):=by
 obtain⟨H,hH⟩:=eX (w.heap.size);obtain⟨fb,hfb⟩:=eX (ZQ 1 (xl fs us docs invs));obtain⟨-,f8,f16,f1024,fle, -⟩:=VR hf;have hq:=hb.len;have HS0:=(Sp.start w).blkH 24 #[.slice A n c] hH;obtain⟨w0,hw0⟩:=eX (w.alloc (.cells #[.slice A n c] 24));rw [hw0]at HS0;have HO:=zA (DU 1 (xl fs us docs invs) Ad q qc w0 hqc hqc2 (hb.on (HS0.below M1)) hf);rw [hfb]at hb f8 f16 hq⊢;have hns:=hs.length
 have hcap:=hs.cap;have Hs:=zA hs;have Hch:=zA hch;have Hk:=zA hk;have Hu:=zA hu;have Hu64:=zA hu64;have Hd:=zA hd;have Hok:=zA hok;have Hin:=zA hin;have Hi:=zA hi;have Hf:=zA hf;have Hb:=zA hb;have Hle:=zA fle;have Hns:=zA hns;have Hq:=zA hq;have hcf:=fV;clear hs hch hk hu hu64 hd hok hin hi hf hb fle f8 f1024 hns;go_enter func33,ntmps33;go_upto_region 1 with fail;clear hH;go_wp2_with fail
 clear hw0;refine HO.out.mono ?_;rintro e w1 ⟨A',m',rfl,HSx⟩;have HS1:=HS0.c1 HSx;have hls:=HS1.ls M0;have hsl:=hls.length;obtain⟨m2,rfl⟩:∃m2,m' =m2+1+1:=⟨(XG fs invs fs.length).length,by rw [<-hsl];rfl⟩;obtain⟨C,hC⟩:=eX (w1.heap.size);have hHc:=HS1.cl M1 0;have hHl:H<C:=by rw [<-hC];exact(HS1.blkOf M1).lt
 have HT1:=(Sp.start w1).blkH 128 #[.slice A' (m2+1+1) (m2+1+1)] hC;obtain⟨w2,hw2⟩:=eX (w1.alloc (.cells #[.slice A' (m2+1+1) (m2+1+1)] 128));rw [hw2]at HT1;have Hs1:=zA (Hs.out.on (HS1.below M2));have Hb1:=zA (Hb.out.on (HS1.below M2));have HS1' :=zA (Sp.selT [_,_] HS1 []);have HCu:=zA (NO A' (m2+1+1) (m2+1+1) C w1 hC);rw [hC]at HT1;have HC:=zA (XB (W0:=w1) (B:=C) (by rw [<-hC];exact hls) HT1 M0)
 have Hls:=zA hls;clear HO HSx HS0 HS1 hls hsl;go_wp2_with (first|(go_at_call 71;refine(pL _ _ _).mono ?_;rintro e w1 h;obtain⟨rfl,rfl⟩:=h.ok)|(go_at_call 70;refine HCu.out.mono ?_;rintro e w6 ⟨rfl,rfl⟩))
 clear hw2 HCu;refine HC.out.mono ?_;rintro e w3 ⟨A1,n1,c1,Ac1,rfl,r1,rr,HT2⟩;clear HT1 HC;have hl1:n1<=16777216:=by rw [<-r1.length];exact Hle.out _ (by unfold xl;simp)
 have Hr1:=zA rr;have h1:zL w1 (·<w1.heap.size) A1 n1 c1 (QU us):=by rw [hC];exact r1
 have hb13:Below w1.heap.size w1 w3:=by rw [hC];exact HT2.below M1
 have HN:=zA (VG (c:=c1) (n:=n1) HT2 ((h1.on hb13).rb fun _ h=>h) (by omega));clear h1 hb13;clear r1 rr HT2;go_wp2_with fail;refine HN.out.mono ?_;rintro e w4 ⟨p,rfl,HT3⟩;obtain⟨lb,hlb⟩:=eX (putL (us.map seqI));have HT4:Sp w4 [RdA p (rsAt [] (zP k++(lb++ []))),BlkA C 128 #[.slice Ac1 (m2+1) (m2+1+1 - 1)],OldA C w1]:=by rw [<-hlb,<-Hu.out];simpa [rsAt,QU]using HT3
 have HZ:=zA (ZH HT4 16384 (by omega));rw [yn (by omega) hk2]at HZ;have Hlb:=zA hlb;clear HN HT3 HT4 hlb;go_wp2_with fail;refine HZ.out.mono ?_;rintro e w5 ⟨rfl,HT5⟩;have HLf:=zA (Xz HT5);rw [wI,zo]at HLf;obtain⟨lq,hlq⟩:=eX (lb.length);rw [hlq]at HLf;have hlq2:lq<=16777216:=by have h:=Hle.out (QU us) (by unfold xl;simp);unfold QU at h;rw [zG,Hlb.out,hlq]at h;omega
 have Hlq:=zA hlq;clear HZ hlq;go_wp2_with fail;refine HLf.out.mono ?_;rintro e w6 ⟨rfl,kd,rfl⟩;have HBy:=zA (XQ (HT5.drewN kd) Hlq.out (by omega));clear HT5 HLf;go_wp2_with fail;refine HBy.out.mono ?_;rintro e w7 ⟨A5,rfl,HT6⟩;have hsin:InL (us.map seqI):=fun x hx=>by obtain⟨u,_,rfl⟩:=List.mem_map.1 hx;exact oQ u
 have hg:getL lb k=some (us.map seqI,lb.length):=by have h:=d7 (post:= []) hsin;rw [zo,zK,Hu.out,Hlb.out]at h;exact h
 have HG:=zA (d6 A5 lq lq k lb w7 (by omega) (HT6.rb M0).1 (by omega));unfold Ym at HG;rw [hg]at HG;clear HBy hg hsin;go_wp2_with fail;refine HG.out.mono ?_;rintro e w8 ⟨hb8,A8,rfl,hrow⟩;have HT7:=HT6.row hrow hb8;have HEr:=zA (MX (Sp.selT [_,_,_] HT7 [2]));have HT8:=Sp.selT [_,_,_,_] HT7 [3,0];have hb18:=zA (HT8.below M2)
 have hHc8:w8.cell? ⟨H,0,none⟩=some (.slice A n c):=(hb18.out.cell hHl).trans hHc;have HCp:=zA (uD (Hs1.out.on (by rw [hC];exact hb18.out)) hn Hch.out);clear HG HT6 HT7 hrow hb8;go_upto_region 6 with(first|(go_at_call 79;refine HEr.out.mono ?_;rintro e w8 ⟨rfl,rfl⟩)|(go_at_call 78;refine(pN _ _ _).mono ?_;rintro e w8 h;obtain⟨rfl,rfl⟩:=h.ok))
 clear HEr;have HL16:∀s,s∈xl fs us docs invs->s.length<=16777216:=Hle.out;obtain⟨g,hg⟩:=eX ((yL docs).length);have hlst:(ZB docs).length<=16777216:=HL16 _ (by unfold xl;simp);have HL16h:=zA HL16;clear HL16;go_wp2_with fail;refine HCp.out.mono ?_;rintro e w9 ⟨A9,rfl,HSc⟩;have HT9:=HT8.c1 HSc;have HCl:=zA (fW (c:=qc) HT9 (Hb1.out.on (by rw [hC];exact HT9.below M3)) (by omega))
 clear HSc HT8 HCp hb18 hHc8;go_wp2_with fail;refine HCl.out.mono ?_;rintro e w10 ⟨A10,c10,rfl,HT10⟩;have HC:=zA (XB (W0:=w1) (B:=C) Hr1.out (Sp.selT [_,_,_,_] HT10 [2,0,1,3]) M3);clear HCl HT9 HT10;go_wp2_with fail;refine HC.out.mono ?_;rintro e w11 ⟨A11,n11,c11,Ac2,rfl,r2,rr,HT11⟩;have h1:zL w1 (·<w1.heap.size) A11 n11 c11 (ZB docs):=by rw [hC];exact r2
 have hb13:Below w1.heap.size w1 w11:=by rw [hC];exact HT11.below M4
 have hc11:=r2.cap;have hl11:=r2.length;have Hr2:=zA rr;have HO:=zA (wC A11 n11 c11 docs w11 hc11.1 hc11.2 (by omega) ((h1.on hb13).rb fun _ h=>h) (by rw [Hd.out];exact hk2) Hok.out);rw [hg,Hd.out]at HO;clear h1 hb13 r2 rr HC;go_wp2_with fail;refine HO.out.mono ?_;rintro e w12 ⟨Tb,cc,Ac,As,rfl,hAs,HSo⟩;have HT12:=HT11.call [_,_,_] HSo;obtain⟨X,hX⟩:=eX (w12.heap.size)
 have HT13:=HT12.blkH 127 #[.slice A9 n n,.slice A10 q c10,.slice none 0 0,.pointer (some ⟨Tb,0,none⟩),.slice none 0 0] hX;obtain⟨w13,hw13⟩:=eX (w12.alloc (.cells #[.slice A9 n n,.slice A10 q c10,.slice none 0 0,.pointer (some ⟨Tb,0,none⟩),.slice none 0 0] 127));rw [hw13]at HT13
 have HT14:Sp w13 [BlkA X 127 #[.slice A9 n n,.slice A10 q c10,.slice none 0 0,.pointer (some ⟨Tb,0,none⟩),.slice none 0 0],UA none 0 0 ((us.take 0).map U64.val),RowA 2 1 (.slice A8 k k) k (ints (us.map seqI)),BlkA C 128 #[.slice Ac2 m2 (m2+1+1 - 1 - 1)],BA A10 q c10 fb,DatA (.slice A9 n n) fs,BlkA Tb 208 #[.slice Ac g cc,.int .i64 (k:Int)],RowA 206 3 (.slice Ac g cc) g (yd (yL docs) As g).flatten,zz (bysA (yL docs) As),OldA C w1]:=Sp.selT [_,_,_,_,_,_,_,_,_] (HT13.nil 35 1) [1,0,8,5,6,7,2,3,4]
 have HAs:=zA hAs;have Hg:=zA hg;clear HO HT11 HT12 HT13 HSo hAs hg;go_wp2_with (go_at_call 81;refine(L9 _ _ _).mono ?_;rintro e w12 h;obtain⟨rfl,rfl⟩:=h.ok);clear hw13 hX
 go_loopg [57] k (fun gk x57 wr=>∃(j:Nat) (A3:aA) (c3:Nat),x57= .int .i64 j/\j<=k/\gk=k - j/\Sp wr [BlkA X 127 #[.slice A9 n n,.slice A10 q c10,.slice A3 j c3,.pointer (some ⟨Tb,0,none⟩),.slice none 0 0],UA A3 j c3 ((us.take j).map U64.val),RowA 2 1 (.slice A8 k k) k (ints (us.map seqI)),BlkA C 128 #[.slice Ac2 m2 (m2+1+1 - 1 - 1)],BA A10 q c10 fb,DatA (.slice A9 n n) fs,BlkA Tb 208 #[.slice Ac g cc,.int .i64 (k:Int)],RowA 206 3 (.slice Ac g cc) g (yd (yL docs) As g).flatten,zz (bysA (yL docs) As),OldA C w1])
 case atStart=>exact⟨0,none,0,by go_num,zJ _,rfl,HT14⟩
 case round=>
  obtain⟨j,A3,c3,rfl,hj,rfl,HS⟩:=hrel;clear HT14
  by_cases hjk:j<k
  ·obtain⟨u,hu⟩:∃u,us[j]? =some u:=⟨_,zB (by rw [Hu.out];exact hjk)⟩;obtain⟨bI,rfl, -, -, -⟩:=(HS.rowOf M2).at_ (by omega)
   obtain⟨v,hv⟩:=eX (u.val);have hv64:v<18446744073709551616:=(by rw [<-hv];exact Hu64.out u (zD hu));obtain⟨z,hz⟩:=eX (seqI u);have hwr:IntKind.u64.wrap z=(v:Int):=(by rw [<-hz,<-hv];exact DA u (by rw [hv];exact hv64));have q1:wr.cell? ⟨bI,j,none⟩=some (.int .i64 z):=HS.rowCell M2 (by unfold ints;rw [zH,zH,hu,<-hz];rfl);have q2:=HS.cl M0 2
   have e1:(us.take (j+1)).map U64.val=(us.take j).map U64.val++ [v]:=(by rw [zI,hu,<-hv];simp);have E1:=zA e1;clear hz hu hv e1;go_wp2_with (at_builtin;refine yC cQ (.tmp 65) (.tmp 68) rfl rfl HS.p1 rfl (cs:= #[.int .u64 (v:Int)]) rfl rfl rfl (by intro u hu;simp at hu;subst hu;rfl) (by omega) (by omega) ?_;intro A8' c8 w8' hc8 hm8 HSa;have y0:=HSa.cl M1 2;have y1:=(HSa.blkOf M1).frozen 2)
   have HSb:=(Sp.selT [_,_] HSa [1,0]).set 2 (.slice A8' (j+1) c8);rw [show [Value.int .u64 (v:Int)]=uC [v]from rfl,<-CR,<-E1.out]at HSb;clear HS HSa q1 q2 y0 y1 hwr
   go_roundg (k - (j+1))
   ·exact⟨j+1,A8',c8,by go_num,by omega,rfl,HSb⟩
   ·omega
  ·obtain rfl:k=j:=by omega
   rw [zF (by rw [Hu.out];exact zC _)]at HS;have HL:=zA (IE (HS.cell M6 1));have HSn:=Sp.selT [_,_,_,_,_,_,_,_,_] HS [0,1,3,4,5,6,7,8];have q3:=HSn.cl M0 3;have q4:wr.cell? ⟨H,0,none⟩=some (.slice A n c):=((HSn.below M8).cell hHl).trans hHc;have hr0:zL w1 (·<C) Ac2 m2 (m2+1+1 - 1 - 1) (Vj fs invs 0):=(by rw [<-i6];exact Hr2.out)
   have HSm:Sp wr [BlkA X 127 #[.slice A9 n n,.slice A10 q c10,.slice A3 k c3,.pointer (some ⟨Tb,0,none⟩),.slice none 0 0],RowA 106 6 (.slice none 0 0) 0 (([]:List aF).flatten),ElsA [] (aR fs invs 0),BlkA C 128 #[.slice Ac2 m2 (m2+1+1 - 1 - 1)],UA A3 k c3 (us.map U64.val),BA A10 q c10 fb,DatA (.slice A9 n n) fs,BlkA Tb 208 #[.slice Ac g cc,.int .i64 (k:Int)],RowA 206 3 (.slice Ac g cc) g (yd (yL docs) As g).flatten,zz (bysA (yL docs) As),OldA C w1]:=Sp.selT [_,_,_,_,_,_,_,_,_,_] ((HSn.elsNil (α:=Zj)).nil 106 6) [2,0,1,4,3,5,6,7,8,9]
   have Hr0:=zA hr0;clear HS HSn hr0;go_wp2_with (go_at_call 83;refine HL.out.mono ?_;rintro e wr ⟨rfl,rfl⟩);clear HL q3 q4
   go_loopg [85] n (fun gk x85 wr=>∃(i:Nat) (A4 Acc:aA) (c4 q5 cq5:Nat) (css:List aF),x85= .int .i64 i/\i<=n/\gk=n - i/\Hid (zL w1 (·<C) Acc q5 cq5 (Vj fs invs i))/\Sp wr [BlkA X 127 #[.slice A9 n n,.slice A10 q c10,.slice A3 k c3,.pointer (some ⟨Tb,0,none⟩),.slice A4 i c4],RowA 106 6 (.slice A4 i c4) i css.flatten,ElsA css (aR fs invs i),BlkA C 128 #[.slice Acc q5 cq5],UA A3 k c3 (us.map U64.val),BA A10 q c10 fb,DatA (.slice A9 n n) fs,BlkA Tb 208 #[.slice Ac g cc,.int .i64 (k:Int)],RowA 206 3 (.slice Ac g cc) g (yd (yL docs) As g).flatten,zz (bysA (yL docs) As),OldA C w1])
   case atStart=>exact⟨0,none,Ac2,0,m2,_, [],by go_num,zJ _,rfl,Hr0,HSm⟩
   case round=>
    obtain⟨i,A4,Acc,c4,q5,cq5,css,rfl,hi2,rfl,hrl,HS⟩:=hrel;clear HSm
    by_cases hi3:i<n
    ·obtain⟨bf,of,f,rfl,hfe,hbf,hff⟩:=Hs1.out.at_ hi3
     obtain⟨Af,nf,cf,F0,F1,F2,F3,F4,F5,F6,rch, -, -, -, -⟩:=Field.at_ hff
     obtain⟨x,hxe⟩:∃x,invs[i]? =some x:=⟨_,zB (by rw [Hin.out];exact hi3)⟩;have hbw:Below w1.heap.size w1 wr:=(by rw [hC];exact(Sp.selT [_,_,_,_] HS []).below M6);have F0:wr.cell? _=_:=(hbw.cell hbf).trans F0;have F1:wr.cell? _=_:=(hbw.cell hbf).trans F1;have F2:wr.cell? _=_:=(hbw.cell hbf).trans F2;have F3:wr.cell? _=_:=(hbw.cell hbf).trans F3;have F4:wr.cell? _=_:=(hbw.cell hbf).trans F4
     have F5:wr.cell? _=_:=(hbw.cell hbf).trans F5;have F6:wr.cell? _=_:=(hbw.cell hbf).trans F6;have Hxe:=zA hxe;have Hfe:=zA hfe.out;clear hff rch hbw hxe hfe;obtain⟨Bx,hBx⟩:=eX (wr.heap.size);have HSe:=HS.blkH 61 (fldV f Af nf cf) hBx;obtain⟨w4,hw4⟩:=eX (wr.alloc (.cells #[.string f.name,.int .i64 f.kind,.slice Af nf cf,.int .i64 f.scale,.int .i64 f.dims,.bool f.many,.bool f.stored] 61))
     unfold fldV at HSe;rw [hw4]at HSe;have HSd:=HSe.drew;obtain⟨hkk,hkd⟩:=Hk.out f (zD Hfe.out);obtain⟨hi5,hs5,hl5⟩:=Hi.out i f x Hfe.out Hxe.out
     have HX:=zA (rL (Af:=Af) (nf:=nf) (cf:=cf) (C:=C) (W0:=w1) (rest:=Vj fs invs (i+1)) (w:=w4.drew) hkk hkd hi5 hs5 (fun s hs=>HL16h.out s (DC Hfe.out Hxe.out hs)) hl5 hk2 (by rw [hC,<-wE Hfe.out Hxe.out];exact hrl.out) (by rw [hC];exact Sp.selT [_,_,_,_,_,_,_,_,_,_,_,_] HSd [4,11,0,1,2,3,5,6,7,8,9,10]));unfold fldV at HX;rw [hC]at HX
     have h7:w4.drew.cell? ⟨Bx,0,none⟩=some (.string f.name)/\w4.drew.cell? ⟨Bx,1,none⟩=some (.int .i64 f.kind)/\w4.drew.cell? ⟨Bx,2,none⟩=some (.slice Af nf cf)/\w4.drew.cell? ⟨Bx,3,none⟩=some (.int .i64 f.scale)/\w4.drew.cell? ⟨Bx,4,none⟩=some (.int .i64 f.dims)/\w4.drew.cell? ⟨Bx,5,none⟩=some (.bool f.many)/\w4.drew.cell? ⟨Bx,6,none⟩=some (.bool f.stored):=⟨HSd.cell M0 0,HSd.cell M0 1,HSd.cell M0 2,HSd.cell M0 3,HSd.cell M0 4,HSd.cell M0 5,HSd.cell M0 6⟩
     have e2:aR fs invs (i+1)=aR fs invs i++ [fldM f x]:=by
      unfold aR;have hz:(fs.zip invs)[i]? =some (f,x):=(by rw [List.getElem?_zip_eq_some];exact⟨Hfe.out,Hxe.out⟩);rw [zI,hz,zw];rfl
     have E2:=zA e2;clear HS HSe hkk hkd hi5 hs5 hl5 e2;go_upto_region 17 with fail;clear hw4 hBx F0 F1 F2 F3 F4 F5 F6
     refine xV [(10,fun w=>w.cell? ⟨X,4,none⟩=some (.slice A4 i c4)),(8,fun w=>w.cell? ⟨Bx,0,none⟩=some (.string f.name)/\w.cell? ⟨Bx,1,none⟩=some (.int .i64 f.kind)/\w.cell? ⟨Bx,2,none⟩=some (.slice Af nf cf)/\w.cell? ⟨Bx,3,none⟩=some (.int .i64 f.scale)/\w.cell? ⟨Bx,4,none⟩=some (.int .i64 f.dims)/\w.cell? ⟨Bx,5,none⟩=some (.bool f.many)/\w.cell? ⟨Bx,6,none⟩=some (.bool f.stored))] (by kernel_rfl) (zg (HSd.cell M1 4) (hB h7)) (fun hC=> ?_)
     clear h7;revert hC;refine gF 0 ?_;refine gF 1 ?_;refine gF 2 ?_;refine gF 3 ?_;refine gL 4 10 M0 ?_;refine gL 5 8 M1 ?_;refine gF 6 ?_;refine gF 7 ?_;intro hC;refine gO 8 fun K hK=> ?_;go_simp;refine HX.out.mono ?_;rintro e w5 ⟨v0,v1,v2,v3,v4,v5,Acc2,q6,cq6,rfl,hrl2,HS5⟩;refine hK.out _ _ (zg (HS5.cell M4 4) (YP (by kernel_rfl) yY)) ?_;clear hK K hC;intro hC
     have HS6:=Sp.selT [_,_,_,_,_,_,_,_,_,_,_,_,_] HS5 [5,0,6,4,1,7,8,9,10,11,12,2];have hone:∀u∈ [v0,v1,v2,v3,v4,v5],u.oneCell' =true:=fun u hu=>Rep.one (HS6.dat M1) hu;have Hrl2:=zA hrl2;clear HSd HS5 HX hrl2 hrl;refine gO 9 fun K hK=> ?_;go_simp;refine hK.out _ _ (zg ((ON (HS6.cell M3 4) _).trans rfl) (YP (by kernel_rfl) yY)) ?_;clear hK K hC;intro hC;refine gO 10 fun K hK=> ?_
     refine yz LY (.tmp 93) (.tmp 98) rfl rfl HS6 rfl (cs:= #[v0,v1,v2,v3,v4,v5]) rfl rfl rfl hone (by omega) (by omega) ?_;intro A8' c8 w8' hc8 hm8 HS7;refine hK.out _ _ hA ?_;clear hK K hC;refine gF 11 ?_;refine gF 12 ?_;intro hC;have y0:=HS7.cl M3 4;have y1:=(HS7.blkOf M3).frozen 4;refine gO 13 fun K hK=> ?_;go_simp;refine hK.out _ _ hA ?_;clear hK K hC;intro hC
     refine xW (by kernel_rfl) ?_;have e1:css.flatten++(#[v0,v1,v2,v3,v4,v5]:aG).toList=(css++ [[v0,v1,v2,v3,v4,v5]]).flatten:=(by simp);rw [e1]at HS7;have HS8:=(Sp.selT [_,_,_,_] HS7 [3,0,1,2]).set 4 (.slice A8' (i+1) c8);obtain⟨w9,hw9⟩:=eX (w8'.setCell ⟨X,4,none⟩ (.slice A8' (i+1) c8));rw [hw9]at HS8⊢;have HS9:=Sp.elsPush (x:=fldM f x) (Sp.selT [_,_,_,_] HS8 [2,3,0,1]);rw [<-E2.out]at HS9
     have HS10:=Sp.selT [_,_,_] HS9 [1,2,0];clear HS6 HS7 HS8 HS9 y0 y1 e1 hC hw9 hone;go_wp2
     go_roundg (n - (i+1))
     ·exact⟨i+1,A8',Acc2,c8,q6,cq6,_,by go_num,by omega,rfl,Hrl2,HS10⟩
     ·omega
    ·obtain rfl:n=i:=by omega
     have h1:=Sp.els (α:=Zj) (Sp.selT [_,_,_] HS [1,2,0]);have h2:=Sp.selT [_,_,_,_,_,_,_,_,_] h1 [1,5,4,3,0,6,7,8];have h3:=zA (HS1'.out.call (OP X n q k g A9 A10 A3 A4 Ac c10 c3 c4 cc Tb As fs us docs invs fb) (by rw [hC];exact h2));clear HS h1 h2;go_wp2;go_ret
     exact⟨X,g,A9,A10,A3,A4,Ac,c10,c3,c4,cc,Tb,As,rfl,HAs.out,Hg.out,h3.out⟩
end Go.Proofs.YtjbhbfaeielbiaaGreatDoor

import Derived.Test.YtjbhbfaeielbiaaGreatDoorPart29
import Derived.Test.YtjbhbfaeielbiaaGreatDoorPart28
import Derived.RecoverIn
set_option maxRecDepth 100000
set_option maxHeartbeats 8000000
set_option linter.unusedVariables false
set_option linter.unusedSimpArgs false
namespace Go.Proofs.YtjbhbfaeielbiaaGreatDoor
open Tryz
open Rep (rep)
open Go.RowKit Go.Shelf
attribute [local go_sem] Oper.semAt_some
attribute [local go_sem ↓] zU zV
theorem lT:Elt prog 36 86 3 56:=xt (by kernel_rfl) (by decide) (by kernel_rfl)
theorem Zm {p:Nat} {pre post:aC} {L:List Asn} {w:O} (h:Sp w (RdA p (rsAt pre post)::L)):
 Calls prog 144 #[.pointer (some ⟨p,0,none⟩),.bool true] w fun e w' =>e= .returned (.tuple #[])/\w' =w:=by
 have HE:=zA (QA h);go_enter func144,ntmps144;go_wp2_with (refine HE.out.mono ?_;rintro e w3 ⟨rfl,rfl⟩)
 go_end0
 exact⟨rfl,rfl⟩
theorem lW (v0 v1 v2:V) (w:O):
 Calls prog 108 #[.agg #[v0,v1,v2]] w fun e w' =>e= .returned (.func (.func 189) #[] #[.pointer (some ⟨w.heap.size,0,none⟩)])/\w' =w.alloc (.cells #[v0,v1,v2] 206):=by
 have hmf:=@mF prog;go_enter func108,ntmps108;go_wp2;go_ret
 exact⟨rfl,rfl⟩
theorem pE {g:N7} {Bc:Nat} {fr nb cb:Nat} {Ab:aA} {w:O} {T0:List Asn} (M:Nat->List Asn) (l d:Nat) (hd1:1<=d) (hg:∀x∈g,Y9 x=true/\QB x) (hfr:fr+g.length<=16384)
 (hY:∀(k:Nat) (x:List Entry) (A' :aA) (n' c' :Nat) (T:List Asn) (W:O),g[k]? =some x->Sp W (DatA (.slice A' n' c') x::(M k++(T++T0)))->YieldAt Fence.wide (d - 1) prog l #[.int .i64 ((fr+k:Nat):Int),.slice A' n' c'] W fun e W' =>e= .returned (.bool true)/\Sp W' (M (k+1)++(T++T0)))
 (HS:Sp w (BlkA Bc 206 #[.int .i64 (fr:Int),.int .i64 ((fr+g.length:Nat):Int),.slice Ab nb cb]::BA Ab nb cb (grpB g)::(M 0++T0))) (hnb:nb<=100000000000000):
 CallsIn Fence.wide d prog 189 #[.func (.yield l) #[] #[],.pointer (some ⟨Bc,0,none⟩)] w fun e W' =>(∃v,e= .returned v)/\Sp W' (BlkA Bc 206 #[.int .i64 (fr:Int),.int .i64 ((fr+g.length:Nat):Int),.slice Ab nb cb]::BA Ab nb cb (grpB g)::(M g.length++T0)):=by
 have HY:=zA hY;have Hg:=zA hg;have mixed:Tryz.prog.follows .mixedOrders=true:=by kernel_rfl
 obtain⟨G,hG⟩:=eX (g.length);rw [hG]at HS hfr⊢;obtain⟨en,hto⟩:=eX (fr+G);rw [hto]at HS hfr⊢;have HG:=zA hG;have HNr:=zA (VG (c:=cb) HS (HS.rb M1).1 (by omega));have hc2:=HS.cl M0 2;have hc0:=HS.cl M0 0;clear hY hg hG;refine callsIn_of_wp func189 rfl trivial ?_ rfl;simp only [ntmps189,yP,z6,yO,Nat.reduceAdd,Nat.reduceSub,xI,xH,xf,xM,zZ,yI]
 gi_wp2_with (refine⟨trivial,?_⟩;gi_at_call 73;refine(callsIn_wide.2 HNr.out).mono ?_;rintro e w1 ⟨p,rfl,HS1⟩;have hd0:=HS1.cl M1 0)
 have HS2:Sp w1 (RdA p (rsAt [] ((g.drop 0).flatMap docB))::BlkA Bc 206 #[.int .i64 (fr:Int),.int .i64 (en:Int),.slice Ab nb cb]::BA Ab nb cb (grpB g)::(M 0++T0)):=by
  simpa [rsAt,grpB]using HS1
 clear HS HS1 HNr hc2 hc0
 gi_loopg [4] G (fun gk vi wr=>∃(k:Nat) (pre:aC),k<=G/\gk=G - k/\vi= .int .i64 ((fr+k:Nat):Int)/\Sp wr (RdA p (rsAt pre ((g.drop k).flatMap docB))::BlkA Bc 206 #[.int .i64 (fr:Int),.int .i64 (en:Int),.slice Ab nb cb]::BA Ab nb cb (grpB g)::(M k++T0)))
 case atStart=>exact⟨0, [],zJ _,rfl,rfl,HS2⟩
 case round=>
  obtain⟨k,pre,hk,rfl,rfl,HS⟩:=hrel;clear HS2 hd0;have hd2:=HS.cl M1 1;obtain⟨ik,hik⟩:=eX (fr+k);rw [hik]
  by_cases hkG:k<G
  ·obtain⟨x,Hx⟩:∃x,Hid (g[k]? =some x):=⟨_,zB (by rw [HG.out];exact hkG)⟩;obtain⟨hxo,hxn⟩:=Hg.out x (zD Hx.out);unfold Y9 at hxo;simp only [zM,decide_eq_true_eq]at hxo;obtain⟨hx64,hxe⟩:=hxo;have Hxe:=zA (List.all_eq_true.1 hxe);have Hxn:=zA hxn;obtain⟨N,hN⟩:=eX (x.length);rw [hN]at hx64;have HN:=zA hN;obtain⟨rest,hrest⟩:=eX ((g.drop (k+1)).flatMap docB)
   have HS3:Sp wr (RdA p (rsAt pre (zP N++(x.flatMap Xh++rest)))::BlkA Bc 206 #[.int .i64 (fr:Int),.int .i64 (en:Int),.slice Ab nb cb]::BA Ab nb cb (grpB g)::(M k++T0)):=by
    rw [yb Hx.out,zp,hrest]at HS;unfold docB at HS;rw [hN]at HS
    simpa using HS
   have Hrest:=zA hrest;have HSz:=zA (ZH HS3 64 (by omega));rw [yn (by omega) hx64]at HSz;have hie:(ik:Int)<en:=(by omega);clear HS HS3 hxe hxn hN hrest
   gi_wp2_with (refine⟨trivial,?_⟩;gi_at_call 74;refine(callsIn_wide.2 HSz.out).mono ?_;rintro e w2 ⟨rfl,HS4⟩)
   have HS5:=(HS4.elsNil (α:=Entry)).nil 86 3;clear HSz HS4
   gi_loopg [5,6] N (fun gj v5 v6 wr=>∃(j:Nat) (A5:aA) (c5:Nat) (css:List aF) (pre:aC),j<=N/\gj=N - j/\v6= .int .i64 ((N - j:Nat):Int)/\v5= .slice A5 j c5/\Sp wr (RowA 86 3 (.slice A5 j c5) j css.flatten::ElsA css (x.take j)::RdA p (rsAt pre ((x.drop j).flatMap Xh++rest))::BlkA Bc 206 #[.int .i64 (fr:Int),.int .i64 (en:Int),.slice Ab nb cb]::BA Ab nb cb (grpB g)::(M k++T0)))
   case atStart=>exact⟨0,none,0, [],_,zJ _,rfl,rfl,rfl,HS5⟩
   case round=>
    obtain⟨j,A5,c5,css,pre,hj,rfl,rfl,rfl,HS⟩:=hrel;obtain⟨z,hz⟩:=eX (N - j);rw [hz];clear HS5
    by_cases hz0:0<z
    ·obtain⟨en1,Hen⟩:∃en1,Hid (x[j]? =some en1):=⟨_,zB (by rw [HN.out];omega)⟩;have hok:=Hxe.out en1 (zD Hen.out);unfold XP at hok;simp only [zM,decide_eq_true_eq]at hok;obtain⟨⟨hf24,ht4⟩,hn4⟩:=hok;obtain⟨ef,et,ens⟩:=en1;simp only at hf24 ht4 hn4;have Hin:Hid (∀z∈ens,In64 z):=Hxn.out _ (zD Hen.out);obtain⟨Q,hQ⟩:=eX (ens.length);rw [hQ]at hn4
     obtain⟨rest2,hrest2⟩:=eX ((x.drop (j+1)).flatMap Xh++rest);obtain⟨numB,hnumB⟩:∃numB:aD->aC,numB=fun l=>l.flatMap fun n=>zP (yc n):=⟨_,rfl⟩
     have HS6:Sp wr (RdA p (rsAt pre (zP ef.data.toList.length++ef.data.toList++(Qv et++(zP Q++(numB ens++rest2)))))::RowA 86 3 (.slice A5 j c5) j css.flatten::ElsA css (x.take j)::BlkA Bc 206 #[.int .i64 (fr:Int),.int .i64 (en:Int),.slice Ab nb cb]::BA Ab nb cb (grpB g)::(M k++T0)):=by
      have h:=HS.p2;rw [yb Hen.out,zp,zO,hrest2]at h;unfold Xh at h;rw [QI,QI]at h;have e:ef.data.toList.length=ef.size:=(by simp);rw [e,hnumB];unfold Qv at h⊢
      simpa [hQ]using h
     have hT1:=bV HS6 24 (by omega);rw [QM (by simp;omega) (by simp;omega),show(⟨ef.data.toList.toArray⟩:aB)=ef from rfl]at hT1;have HT1:=zA hT1;have Hrest2:=zA hrest2;have HnB:=zA hnumB;have HQ:=zA hQ;have hz1:(0:Int)<z:=(by omega);clear hT1 HS6 HS hrest2 hnumB hQ
     gi_wp2_with fail
     refine⟨trivial,?_⟩;refine(callsIn_wide.2 HT1.out).mono ?_;rintro e w3 ⟨rfl,HS7⟩
     have HS7' :Sp w3 (RdA p (rsAt (pre++(zP ef.data.toList.length++ef.data.toList)) (zP et.data.toList.length++et.data.toList++(zP Q++(numB ens++rest2))))::RowA 86 3 (.slice A5 j c5) j css.flatten::ElsA css (x.take j)::BlkA Bc 206 #[.int .i64 (fr:Int),.int .i64 (en:Int),.slice Ab nb cb]::BA Ab nb cb (grpB g)::(M k++T0)):=by
      have e:et.data.toList.length=et.size:=(by simp);rw [e];exact HS7
     have hT2:=bV HS7' 4096 (by omega);rw [QM (by simp;omega) (by simp;omega),show(⟨et.data.toList.toArray⟩:aB)=et from rfl]at hT2;have HT2:=zA hT2;clear hT2 HT1 HS7 HS7'
     gi_wp2_with fail
     refine⟨trivial,?_⟩;refine(callsIn_wide.2 HT2.out).mono ?_;rintro e w4 ⟨rfl,HS8⟩;obtain⟨Be,hBe⟩:=eX (w4.heap.size);have HS9:=(HS8.blkH 86 #[.string ef,.string et,.slice none 0 0] hBe).p1;have HSz:=zA (ZH HS9 4 (by omega));rw [yn (by omega) hn4]at HSz;clear HT2 HS8 HS9
     gi_wp2_with fail
     refine⟨trivial,?_⟩;refine(callsIn_wide.2 HSz.out).mono ?_;rintro e w5 ⟨rfl,HS10⟩;have HS11:=HS10.nil 2 1;clear HSz HS10
     gi_wp2
     gi_loopg [8] Q (fun gq v8 wr=>∃(q:Nat) (An:aA) (cn:Nat) (pre:aC),q<=Q/\gq=Q - q/\v8= .int .i64 ((Q - q:Nat):Int)/\Sp wr (IA An q cn (ens.take q)::RdA p (rsAt pre (numB (ens.drop q)++rest2))::BlkA Be 86 #[.string ef,.string et,.slice An q cn]::RowA 86 3 (.slice A5 j c5) j css.flatten::ElsA css (x.take j)::BlkA Bc 206 #[.int .i64 (fr:Int),.int .i64 (en:Int),.slice Ab nb cb]::BA Ab nb cb (grpB g)::(M k++T0)))
     case atStart=>exact⟨0,none,0,_,zJ _,rfl,rfl,HS11⟩
     case round=>
      obtain⟨q,An,cn,pre,hq,rfl,rfl,HS⟩:=hrel;obtain⟨y,hy⟩:=eX (Q - q);rw [hy];clear HS11
      by_cases hy0:0<y
      ·obtain⟨v,Hv⟩:∃v,Hid (ens[q]? =some v):=⟨_,zB (by rw [HQ.out];omega)⟩;have hv64:=Hin.out v (zD Hv.out)
       have HSd:Sp wr.drew (RdA p (rsAt pre (zP (yc v)++(numB (ens.drop (q+1))++rest2)))::IA An q cn (ens.take q)::BlkA Be 86 #[.string ef,.string et,.slice An q cn]::RowA 86 3 (.slice A5 j c5) j css.flatten::ElsA css (x.take j)::BlkA Bc 206 #[.int .i64 (fr:Int),.int .i64 (en:Int),.slice Ab nb cb]::BA Ab nb cb (grpB g)::(M k++T0)):=by
        have h:=HS.p1.drew;have e:numB (ens.drop q)=zP (yc v)++numB (ens.drop (q+1)):=(by rw [HnB.out,yb Hv.out];rfl);rw [e,zO]at h;exact h
       have hI:=gB HSd;rw [Vm hv64]at hI;have HI:=zA hI;have hce:=HSd.cl M2 2;have hy1:(0:Int)<y:=(by omega);clear hI HS
       gi_upto_region 12 with fail
       refine wpIn_wide.2 ?_;refine gR [(7,fun W=>W.cell? ⟨Be,2,none⟩=some (.slice An q cn))] (hB hce) ?_;refine gF 0 ?_;refine gL 1 7 M0 ?_;refine gF 2 ?_;intro hC;refine gO 3 fun K hK=> ?_;go_simp;refine HI.out.mono ?_;rintro e w6 ⟨rfl,HS6⟩;refine hK.out _ _ (hB (HS6.cell M2 2)) ?_;clear hK K hC;intro hC;refine gO 4 fun K hK=> ?_;go_simp;refine hK.out _ _ (hB ((HS6.al _).cell M2 2)) ?_
       clear hK K hC;intro hC;refine gO 5 fun K hK=> ?_;refine yz Zs (.tmp 38) (.tmp 41) rfl rfl HS6.p1 rfl (cs:= #[.int .i64 v]) rfl rfl rfl (by intro u hu;simp at hu;subst hu;rfl) (by omega) (by omega) ?_;intro A2 c2 w7 hc7 hm7 HS7;have q4:=HS7.cl M2 2;have q5:=(HS7.blkOf M2).frozen 2;refine hK.out _ _ (hB q4) ?_;clear hK K hC;refine gF 6 ?_;intro hC;refine gO 7 fun K hK=> ?_;go_simp
       refine hK.out _ _ hA ?_;clear hK K hC;intro hC;refine xW (by kernel_rfl) ?_;have e:ints (ens.take q)++ #[Value.int .i64 v].toList=ints (ens.take (q+1)):=(by rw [zI,Hv.out];simp [ints]);rw [e]at HS7;have HS8:=(HS7.p2.set 2 (.slice A2 (q+1) c2)).p2.p2;have hy2:(y:Int) - 1=((Q - (q+1):Nat):Int):=(by omega);clear e q4 q5 HS6 HS7 HSd hce hC
       gi_wp2
       gi_roundg (Q - (q+1))
       ·exact⟨q+1,A2,c2,_,by omega,rfl,by rw [<-hy2],HS8⟩
       ·omega
      ·obtain rfl:y=0:=by omega
       obtain rfl:q=Q:=by omega
       rw [zF (by rw [HQ.out];omega),zQ (by rw [HQ.out];omega)]at HS
       have HSt:Sp wr (DatA (.slice An q cn) ens::RdA p (rsAt pre rest2)::BlkA Be 86 #[.string ef,.string et,.slice An q cn]::RowA 86 3 (.slice A5 j c5) j css.flatten::ElsA css (x.take j)::BlkA Bc 206 #[.int .i64 (fr:Int),.int .i64 (en:Int),.slice Ab nb cb]::BA Ab nb cb (grpB g)::(M k++T0)):=by
        have h:=HS.ints Hin.out;rw [HnB.out]at h;exact h
       have HGd:=zA (Zm HSt.p1);have c0:=HSt.cl M2 0;have c1:=HSt.cl M2 1;have c2:=HSt.cl M2 2;clear HS
       gi_wp2_with fail
       refine⟨trivial,?_⟩;refine(callsIn_wide.2 HGd.out).mono ?_;rintro e w6 ⟨rfl,rfl⟩;have HS6:=HSt.p3;clear HSt HGd
       gi_wp2_with (gi_at_builtin;refine YA lT (.tmp 46) (.tmp 48) rfl rfl (HS6.al _) rfl rfl (Ye _ #[.string ef,.string et,.slice An q cn] _ rfl (H:=w6.heap.size) rfl) (by intro u hu;simp at hu;rcases hu with rfl|rfl|rfl<;>rfl) (by omega) (by omega) ?_;intro A8 c8 w8 hc8 hm8 HS8)
       have HS9:=(HS8.p1.mk1 (α:=Entry) (cs:= [.string ef,.string et,.slice An q cn]) (x:=(⟨ef,et,ens⟩:Entry)) fun S r=>by
        obtain⟨_,_,_,e,h⟩:=r;cases e;exact Entry.of_cells (x:=⟨ef,et,ens⟩) h (show ef.size<=9223372036854775807 by omega) (show et.size<=9223372036854775807 by omega)).p4.p1.elsPush.p1.d3
       have e1:css.flatten++ #[Value.string ef,.string et,.slice An q cn].toList=(css++ [[Value.string ef,.string et,.slice An q cn]]).flatten:=(by simp);have e2:x.take j++ [⟨ef,et,ens⟩]=x.take (j+1):=(by rw [zI,Hen.out];rfl);rw [e1,e2,<-Hrest2.out]at HS9;have hz2:(z:Int) - 1=((N - (j+1):Nat):Int):=(by omega);clear e1 e2 HS8 HS6 c0 c1 c2
       gi_wp2
       gi_roundg (N - (j+1))
       ·exact⟨j+1,A8,c8,css++ [[.string ef,.string et,.slice An q cn]],_,by omega,rfl,by rw [<-hz2],rfl,HS9⟩
       ·omega
    ·obtain rfl:z=0:=by omega
     obtain rfl:j=N:=by omega
     rw [zF (by rw [HN.out];omega),zQ (by rw [HN.out];omega),x7,zZ]at HS;have HS1:=HS.els (α:=Entry);have HGd:=zA (Zm HS1.p1);have hy0:=HY.out k x A5 j c5 [RdA p (rsAt pre rest),BlkA Bc 206 #[.int .i64 (fr:Int),.int .i64 (en:Int),.slice Ab nb cb],BA Ab nb cb (grpB g)] wr Hx.out (HS1.perm (List.Perm.cons _ (List.perm_append_comm_assoc [_,_,_] (M k) T0)));rw [hik]at hy0
     obtain⟨fn,tmps,asg,body,hy,hR⟩:=hy0;have HR:=zA hR;clear hR HS
     gi_wp2_with fail
     refine⟨trivial,?_⟩;refine(callsIn_wide.2 HGd.out).mono ?_;rintro e w6 ⟨rfl,rfl⟩
     gi_wp2
     refine HR.out.mono ?_;rintro e W3 ⟨rfl,H3⟩
     have H4:Sp W3 (RdA p (rsAt pre rest)::BlkA Bc 206 #[.int .i64 (fr:Int),.int .i64 (en:Int),.slice Ab nb cb]::BA Ab nb cb (grpB g)::(M (k+1)++T0)):=
      H3.perm (List.perm_append_comm_assoc (M (k+1)) [_,_,_] T0)
     rw [<-Hrest.out]at H4;have hii:(ik:Int)+1=((fr+(k+1):Nat):Int):=(by omega);clear H3 HGd hy HR
     gi_wp2
     gi_roundg (G - (k+1))
     ·exact⟨k+1,_,by omega,rfl,congrArg (Value.int .i64) (by omega),H4⟩
     ·omega
  ·obtain rfl:k=G:=by omega
   obtain rfl:ik=en:=by omega
   have HS0:Sp wr (RdA p (rsAt pre [])::BlkA Bc 206 #[.int .i64 (fr:Int),.int .i64 (ik:Int),.slice Ab nb cb]::BA Ab nb cb (grpB g)::(M k++T0)):=by
    rw [zQ (by rw [HG.out];omega)]at HS;exact HS
   have HLf:=Xz HS0;rw [YL]at HLf;have HLt:=zA HLf;clear HLf HS
   gi_wp2_with fail
   refine⟨trivial,?_⟩;refine(callsIn_wide.2 HLt.out).mono ?_;rintro e w3 ⟨rfl,k3,rfl⟩;have HS1:=HS0.drewN k3;have HGd:=zA (Zm HS1);clear HS0 HLt
   gi_wp2_with (refine⟨trivial,?_⟩;refine(callsIn_wide.2 HGd.out).mono ?_;rintro e w6 ⟨rfl,rfl⟩)
   go_end0
   exact⟨⟨_,rfl⟩,HS1.tail⟩
open Go.RowKit
theorem tZ (d:Nat) (p q:Addr) (w:O):
 CallsDIn Fence.wide d prog 143 #[.pointer (some p),.pointer (some q)] .returning w fun e u' w' =>e= .returned (.tuple #[])/\u' = .returning/\Below w.heap.size w w' :=by
 have hta:∀W:O,(Instr.typeAssert Value.nilIface 20 253 true).run prog W= .ok (.tuple #[.agg #[],.bool false]) W:=fun W=>by kernel_rfl
 refine callsDIn_of_wpSIn func143 rfl trivial fun c₀ cs hu=> ?_
 apply wpSIn_seq
 apply wpSIn_region
 simp [wpOpsSIn,go_sem,recoverD,hu,ntmps143,Exit.thenS];refine wpSIn_of_wpIn rfl ((wpIn_wide (n:=d)).2 ?_);show Code.wp _ _ _ {tmps:= #[.pointer (some p),.pointer (some q),.nilIface,undef,undef,.nilIface,undef,undef,undef,undef,undef,undef,undef,undef,undef],defers:= []} _;go_wp2;refine⟨rfl,.returning,?_,.tuple #[],results_none rfl _ _ _,rfl,rfl,(zE _ _).alloc (zC _) _⟩;cases c₀;simp only at hu
 subst hu;rfl
theorem WV {size:Nat}:∀(css:List aF) (k j:Nat) (v:V) (cs:aF),(∀c∈css,c.length=size)->css[k]? =some cs->j<size->css.flatten.set (k*size+j) v=(css.set k (cs.set j v)).flatten
 | [],_,_,_,_,_,h,_=>by simp at h
 |c::css,0,j,v,cs,hl,h,hj=>by
  simp at h;subst h;have:=hl c (by simp);simp only [yM,yw,Nat.zero_mul,zx];rw [List.set_append_left _ _ (by omega)]
 |c::css,k+1,j,v,cs,hl,h,hj=>by
  have h1:=hl c (by simp);simp only [yM,List.set_cons_succ]
  rw [xB _ _ (by rw [h1,xK];omega),show(k+1)*size+j - c.length=k*size+j by rw [h1,xK];omega,
   WV css k j v cs (fun c' hc' =>hl c' (by simp [hc'])) (by simpa using h) hj]
def frG (gs:List N7) (k:Nat):Nat:=(gs.take k).flatten.length
def glen (gs:List N7) (k:Nat):Nat:=(grpB ((gs[k]?).getD [])).length
def Yj (gs:List N7) (As:List aA) (k:Nat):aF:=
 [.int .i64 (frG gs k:Int),.int .i64 (frG gs (k+1):Int),match As[k]? with|some A=> .slice A (glen gs k) (glen gs k)|none=> .slice none 0 0]
def yd (gs:List N7) (As:List aA) (m:Nat):List aF:=(List.range m).map (Yj gs As)
def byA (gs:List N7) (As:List aA) (k:Nat):Asn:=BA ((As[k]?).getD none) (glen gs k) (glen gs k) (grpB ((gs[k]?).getD []))
def bysA (gs:List N7) (As:List aA):List Asn:=(List.range As.length).map (byA gs As)
theorem d9 {gs:List N7} {k:Nat} {g:N7} (h:gs[k]? =some g):frG gs (k+1)=frG gs k+g.length:=by
 unfold frG;rw [zI,h];simp
theorem pB {gs:List N7} {k:Nat} {g:N7} (h:gs[k]? =some g):glen gs k=(grpB g).length:=by unfold glen;rw [h];rfl
theorem s8 (gs:List N7) (As:List aA) (m:Nat):yd gs As (m+1)=yd gs As m++ [Yj gs As m]:=by simp [yd,List.range_succ]
theorem iK {gs:List N7} {As:List aA} {m:Nat}:∀c∈yd gs As m,c.length=3:=by
 intro c hc;obtain⟨k,_,rfl⟩:=List.mem_map.1 hc;rfl
theorem Zi {gs:List N7} {As:List aA} {m k j:Nat} {v:V} (hk:k<m) (hj:(Yj gs As k)[j]? =some v):(yd gs As m).flatten[k*3+j]? =some v:=by
 have hj3:j<3:=zN hj;have h:=xX (yd gs As m) k j (Yj gs As k) iK (by unfold yd;rw [zH,zq hk];rfl) hj3;exact h.trans hj
theorem u6 {gs:List N7} {As:List aA} {m:Nat} (A:aA) (hk:As.length<m):(yd gs As m).flatten.set (As.length*3+2) (.slice A (glen gs As.length) (glen gs As.length))=(yd gs (As++ [A]) m).flatten:=by
 rw [WV (yd gs As m) As.length 2 _ (Yj gs As As.length) iK (by unfold yd;rw [zH,zq hk];rfl) (by omega)]
 congr 1
 apply yX
 intro i;unfold yd;rw [xO];simp only [zK,xg,zH]
 by_cases hi:As.length=i
 ·subst hi;rw [if_pos rfl,if_pos hk,zq hk];simp [Yj]
 ·rw [if_neg hi]
  by_cases h2:i<m
  ·rw [zq h2];simp only [yk,Yj]
   congr 3
   rcases zk i As.length with h3|h3
   ·rw [z9 h3]
   ·rw [zR h3,zh h3,zh (by simp;omega)]
  ·rw [zh (by simpa using h2)];rfl
theorem u7 {gs:List N7} {As:List aA} {k:Nat} (h:As.length<=k):(Yj gs As k)[2]? =some (.slice none 0 0):=by
 show some (match As[k]? with|some A=>_|none=>_)=_;rw [zh h]
theorem MD {gs:List N7} {As:List aA} {A:aA} {k:Nat} (hk:k<As.length):byA gs (As++ [A]) k=byA gs As k:=by
 unfold byA;rw [z9 hk]
theorem F8 (gs:List N7) (As:List aA) (A:aA):bysA gs (As++ [A])=bysA gs As++ [BA A (glen gs As.length) (glen gs As.length) (grpB ((gs[As.length]?).getD []))]:=by
 unfold bysA;rw [zG,List.length_singleton,List.range_succ,zw]
 congr 1
 ·exact List.map_congr_left fun k hk=>MD (List.mem_range.1 hk)
 ·simp [byA]
theorem KF {gs:List N7} {As:List aA} {k:Nat} (hk:k<As.length):(bysA gs As)[k]? =some (byA gs As k):=by
 unfold bysA;rw [zH,zq hk];rfl
theorem C6 {w:O} {s e:Nat} {v:V} {tmps:aG} (h2:tmps.getD 2 undef= .pointer (some ⟨s,0,none⟩)) (h3:tmps.getD 3 undef= .pointer (some ⟨e,0,none⟩)) (hs:w.cell? ⟨s,0,none⟩=some v) (he:w.cell? ⟨e,0,none⟩=some (.int .i64 0)):
 (results Tryz.f82 tmps).run prog w= .ok (.tuple #[v,.int .i64 0]) w:=by
 have h1:Tryz.f82.results= #[ResultVar.cell 2 124,ResultVar.cell 3 27]:=rfl;have h4:tmps[2]?.getD undef= .pointer (some ⟨s,0,none⟩):=by simpa using h2
 have h5:tmps[3]?.getD undef= .pointer (some ⟨e,0,none⟩):=by simpa using h3
 simp [results,h1,h4,h5,asAddr,Result.andThen,go_sem,hs,he]
theorem E8 {α:Type} {rows:List (List α)} {k j:Nat} {row:List α} (h:rows[k]? =some row) (hj:j<row.length):rows.flatten[(rows.take k).flatten.length+j]? =row[j]? :=by
 have e:rows.flatten=(rows.take k).flatten++(row++(rows.drop (k+1)).flatten):=by
  conv=>lhs;rw [<-zu k rows,yb h]
  rw [yf,yM]
 rw [e,zR (by omega),Nat.add_sub_cancel_left,z9 hj]
theorem JY:Elt prog 179 36 1 24:=xt (by kernel_rfl) (by decide) (by kernel_rfl)
def AllA (Lb:Nat) (docs:N7) (m:Nat):Asn:=
 ExA fun x:aA×Nat×List aF=>zz [BlkA Lb 179 #[.slice x.1 m x.2.1],RowA 36 1 (.slice x.1 m x.2.1) m x.2.2.flatten,ElsA x.2.2 (docs.take m)]
theorem Sp.allIn {w:O} {L:List Asn} {Lb m c:Nat} {docs:N7} {A:aA} {css:List aF} (h:Sp w (BlkA Lb 179 #[.slice A m c]::RowA 36 1 (.slice A m c) m css.flatten::ElsA css (docs.take m)::L)):Sp w (AllA Lb docs m::L):=
 Sp.exIn (A,c,css) h.star3
theorem Sp.allOut {w:O} {L:List Asn} {Lb m:Nat} {docs:N7} (h:Sp w (AllA Lb docs m::L)):∃(A:aA) (c:Nat) (css:List aF),Sp w (BlkA Lb 179 #[.slice A m c]::RowA 36 1 (.slice A m c) m css.flatten::ElsA css (docs.take m)::L):=by
 obtain⟨⟨A,c,css⟩,h⟩:=Sp.exOut h;exact⟨A,c,css,h.unstar3⟩
end Go.Proofs.YtjbhbfaeielbiaaGreatDoor

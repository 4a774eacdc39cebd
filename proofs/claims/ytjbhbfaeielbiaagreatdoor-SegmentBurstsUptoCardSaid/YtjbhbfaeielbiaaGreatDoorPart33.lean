import Derived.Test.YtjbhbfaeielbiaaGreatDoorPart31
set_option maxRecDepth 100000
set_option maxHeartbeats 8000000
set_option linter.unusedVariables false
set_option linter.unusedSimpArgs false
namespace Go.Proofs.YtjbhbfaeielbiaaGreatDoor
open Tryz
open Rep (rep)
open Go.RowKit Go.Shelf
attribute [local go_sem] Oper.semAt_some
attribute [local go_sem ↓] zU zV
theorem JZ :Elt prog 204 206 3 40:=xt (by kernel_rfl) (by decide) (by kernel_rfl)
theorem LR (gs:List N7) (k:Nat):glen gs k<=(gs.flatMap grpB).length:=by
 unfold glen;rcases h:gs[k]? with _|g
 ·simp [grpB]
 ·exact XN (f:=grpB) (zD h)
theorem EA (n:Nat):(madeCells (Value.int .i64 0).cells (n*1)).toList=ints (List.replicate n 0):=by
 simp [madeCells,Value.cells,Nat.mod_one,List.map_const',ints]
def szs (gs:List N7) (q k:Nat):aD:=(List.range k).map (fun j=>(glen gs j:Int))++List.replicate (q - k) 0
theorem KS {gs:List N7} {q k:Nat} (hk:k<q):(ints (szs gs q k)).set k (.int .i64 (glen gs k:Int))=ints (szs gs q (k+1)):=by
 have e:ints (szs gs q (k+1))=ints ((szs gs q k).set k (glen gs k:Int)):=by
  congr 1
  unfold szs;rw [xB _ _ (by simp),zK,xg,yh,show q - k=(q - (k+1))+1 by omega,List.replicate_succ,yw,List.range_succ,zw];simp
 rw [e];simp [ints,List.map_set]
theorem KT {gs:List N7} {q j:Nat} (h:j<q):(ints (szs gs q q))[j]? =some (.int .i64 (glen gs j:Int)):=by
 unfold szs ints;rw [yh,List.replicate_zero,zo,zH,zH,zq h];rfl
theorem wC (A:aA) (nb c:Nat) (docs:N7) (w:O) (hc:nb<=c) (hc2:c<=9223372036854775807) (hnb:nb<=100000000000) (hl:RB w A nb (ZB docs)) (hn:docs.length<=16384) (hok:∀d∈docs,Y9 d=true/\QB d):
 Calls prog 82 #[.slice A nb c] w fun e w' =>∃(Tb cc:Nat) (Ac:aA) (As:List aA),e= .returned (.tuple #[.pointer (some ⟨Tb,0,none⟩),.int .i64 0])/\As.length=(yL docs).length/\
  Sp w' [BlkA Tb 208 #[.slice Ac (yL docs).length cc,.int .i64 (docs.length:Nat)],RowA 206 3 (.slice Ac (yL docs).length cc) (yL docs).length (yd (yL docs) As (yL docs).length).flatten,zz (bysA (yL docs) As),OldA w.heap.size w]:=by
 have hfl:=ZK docs;have hgl:=Qi docs;have hgn:=lN docs;have hgb:=XO docs;obtain⟨n,hn0⟩:=eX (docs.length);obtain⟨gs,hgs⟩:=eX (yL docs);obtain⟨q,hq⟩:=eX (gs.length);have hst:ZB docs=zP n++(zP q++(gs.flatMap ZF++gs.flatMap grpB)):=by unfold ZB;rw [hgs,hn0,hq]
 rw [hgs]at hfl hgl hgn hgb⊢;rw [hq]at hgl⊢;rw [hn0]at hn hgl⊢;have hmf:=@mF prog;have Hst:=zA hst;have Hl:=zA hl;rw [hst]at hl;have Hfl:=zA hfl;have Hgn:=zA hgn;have Hq:=zA hq;have Hn0:=zA hn0;have Hok:=zA hok
 have hgl2:∀k,glen gs k<=nb:=by
  intro k;have h1:=hl.len;simp only [zG]at h1;have:=LR gs k;omega
 have Hgl2:=zA hgl2;obtain⟨Sb,hSb⟩:=eX (w.heap.size);obtain⟨Eb,hEb⟩:=eX (Sb+1);have HS0:=((Sp.start w).blkH 124 #[.pointer none] hSb).blkH 27 #[.int .i64 0] (H:=Eb) (by simp [hSb,hEb]);have HNr:=zA (VG (c:=c) HS0 (hl.on (HS0.below M2)) (by omega));clear hl hst hfl hgn hgb hq hn0 hok hgs hgl2;refine(callsIn_wide (n:=6)).1 ?_;refine callsIn_of_wp_marks func82 rfl trivial ?_ rfl
 simp only [ntmps82,yP,z6,yO,Nat.reduceAdd,Nat.reduceSub,xI,xH,xf,xM,zZ,yI];refine wpIn_wide.2 ?_;go_wp2_with fail;refine HNr.out.mono ?_;rintro e w1 ⟨p,rfl,HS1⟩
 have HS2:Sp w1 [RdA p (rsAt [] (zP n++(zP q++(gs.flatMap ZF++gs.flatMap grpB)))),BlkA Eb 27 #[.int .i64 0],BlkA Sb 124 #[.pointer none],OldA w.heap.size w]:=by
  simpa [rsAt]using HS1
 have HSz:=zA (ZH HS2 16384 (by omega));rw [yn (by omega) hn]at HSz;clear HNr HS0 HS1 HS2;go_wp2_with fail;refine HSz.out.mono ?_;rintro e w2 ⟨rfl,HS3⟩;obtain⟨Tb,hTb⟩:=eX (w2.heap.size);have HS4:=(HS3.blkH 208 #[.slice none 0 0,.int .i64 (n:Int)] hTb);have hs0:(w2.alloc (.cells #[.slice none 0 0,.int .i64 (n:Int)] 208)).cell? ⟨Sb,0,none⟩=some (.pointer none):=HS4.cell M3 0
 have hs1:=(HS4.blkOf M3).frozen 0
 have HS5:Sp ((w2.alloc (.cells #[.slice none 0 0,.int .i64 (n:Int)] 208)).setCell ⟨Sb,0,none⟩ (.pointer (some ⟨Tb,0,none⟩))) [RdA p (rsAt (([]:aC)++zP n) (zP q++(gs.flatMap ZF++gs.flatMap grpB))),BlkA Sb 124 #[.pointer (some ⟨Tb,0,none⟩)],BlkA Tb 208 #[.slice none 0 0,.int .i64 (n:Int)],BlkA Eb 27 #[.int .i64 0],OldA w.heap.size w]:=
  (HS4.p3.set 0 (.pointer (some ⟨Tb,0,none⟩))).p2
 have HSz2:=zA (ZH HS5 n (by omega));rw [yn (by omega) hgl]at HSz2;clear HSz HS3 HS4 HS5;go_wp2_with fail;refine HSz2.out.mono ?_;rintro e w3 ⟨rfl,HS6⟩;have HGd:=zA (Zm HS6);clear hs0 hs1 HSz2;go_upto_region 6 with(refine HGd.out.mono ?_;rintro e w4 ⟨rfl,rfl⟩);clear HGd
 go_cut [6,7]from 32 to 33 (fun v6 v7 W=>v6= .int .i64 0/\∃H,v7= .slice (some ⟨H,0,none⟩) q q/\Sp W [NA (some ⟨H,0,none⟩) q q (List.replicate q 0),RdA p (rsAt ([]++zP n++zP q) (gs.flatMap ZF++gs.flatMap grpB)),BlkA Sb 124 #[.pointer (some ⟨Tb,0,none⟩)],BlkA Tb 208 #[.slice none 0 0,.int .i64 (n:Int)],BlkA Eb 27 #[.int .i64 0],OldA w.heap.size w])
 case first=>
  have hmk:=run_make_row' (P:=prog) 55 3 (.int .i64 0) 8 underlying55 (by kernel_rfl) rfl .i64 .i64 q (by omega) (by omega);have HS7:=HS6.drew.mkd (e:=3) (z:= .int .i64 0) (n:=q) rfl (by omega);rw [show(madeCells #[Value.int .i64 0] q).toList=ints (List.replicate q 0) by have:=EA q;rw [yr]at this;exact this]at HS7
  go_region
  all_goals
   go_wp2
   go_meet
   exact⟨rfl,_,rfl,HS7⟩
 case rest=>
  obtain⟨rfl,H,rfl,HS7⟩:=hcut;clear HS6;have hq16:q<=16384:=(by omega);have HS8:=HS7.nil 206 3;go_wp2
  go_loopg [6,35] q (fun gk v6 vi wr=>∃(k:Nat) (Ac:aA) (cc:Nat) (pre:aC),k<=q/\gk=q - k/\vi= .int .i64 k/\v6= .int .i64 (frG gs k:Int)/\
   Sp wr [RowA 206 3 (.slice Ac k cc) k (yd gs [] k).flatten,NA (some ⟨H,0,none⟩) q q (szs gs q k),RdA p (rsAt pre ((gs.drop k).flatMap ZF++gs.flatMap grpB)),BlkA Sb 124 #[.pointer (some ⟨Tb,0,none⟩)],BlkA Tb 208 #[.slice Ac k cc,.int .i64 (n:Int)],BlkA Eb 27 #[.int .i64 0],OldA w.heap.size w])
  case atStart=>exact⟨0,none,0,_,zJ _,rfl,rfl,rfl,HS8⟩
  case round=>
   obtain⟨k,Ac,cc,pre,hk,rfl,rfl,rfl,HS⟩:=hrel;clear HS8 HS7
   by_cases hkq:k<q
   ·obtain⟨g,Hg⟩:∃g,Hid (gs[k]? =some g):=⟨_,zB (by rw [Hq.out];exact hkq)⟩;obtain⟨fr,hfr⟩:=eX (frG gs k);obtain⟨z,hz⟩:=eX (g.length);obtain⟨gl,hgl0⟩:=eX (glen gs k);have hz0:0<z:=(by rw [<-hz];exact List.length_pos_iff.2 (Hgn.out g (zD Hg.out)));have hfr1:frG gs (k+1)=fr+z:=(by rw [d9 Hg.out,hfr,hz])
    have hfn:fr+z<=n:=by
     rw [<-hfr1];have:=XI gs (k+1);rw [Hfl.out,Hn0.out]at this;exact this
    have hglb:gl<=nb:=(by rw [<-hgl0];exact Hgl2.out k)
    have HS1:Sp wr [RdA p (rsAt pre (zP z++(zP gl++((gs.drop (k+1)).flatMap ZF++gs.flatMap grpB)))),RowA 206 3 (.slice Ac k cc) k (yd gs [] k).flatten,NA (some ⟨H,0,none⟩) q q (szs gs q k),BlkA Sb 124 #[.pointer (some ⟨Tb,0,none⟩)],BlkA Tb 208 #[.slice Ac k cc,.int .i64 (n:Int)],BlkA Eb 27 #[.int .i64 0],OldA w.heap.size w]:=by
     have h:=HS.p2;rw [yb Hg.out,zp]at h;rw [show ZF g=zP z++zP gl by unfold ZF;rw [hz,<-pB Hg.out,hgl0],zO,zO]at h;exact h
    rw [hfr];have Hfr1:=zA hfr1;have Hfr:=zA hfr;have Hgl0:=zA hgl0;have HSz:=zA (ZH HS1 16384 (by omega));rw [yn (by omega) (by omega)]at HSz;clear HS HS1 hfr hz hgl0 hfr1;go_wp2_with fail;refine HSz.out.mono ?_;rintro e w5 ⟨rfl,HS2⟩;obtain⟨Bk,hBk⟩:=eX (w5.heap.size);obtain⟨te,hte⟩:=eX (fr+z);have hsum:(fr:Int)+(z:Int)=(te:Int):=(by omega)
    have hsum2:IntKind.i64.wrap (te:Int)=(te:Int):=(by rw [zT];omega);have HS3:=(HS2.blkH 206 #[.int .i64 (fr:Int),.int .i64 (te:Int),.slice none 0 0] hBk).p1;have HSz2:=zA (ZH HS3 nb (by omega));rw [yn (by omega) hglb]at HSz2;clear HSz HS2 HS3;go_wp2_with fail;refine HSz2.out.mono ?_;rintro e w6 ⟨rfl,HS4⟩;have hqk:(k:Int)<q:=(by omega)
    have hcs:w6.cell? ⟨H,k,none⟩=some (.int .i64 0):=HS4.rowCell M3 (by
     unfold szs ints;rw [zH,zR (by simp),zK,xg,yh,show q - k=(q - (k+1))+1 by omega,List.replicate_succ];rfl)
    have hfs:=HS4.rowFree M3 k;have HS5:=HS4.p3.rowSet k (.int .i64 (gl:Int));rw [<-Hgl0.out,KS hkq,Hgl0.out]at HS5;clear HSz2 HS4;go_upto_region 12 with fail;obtain⟨W6,hW6⟩:=eX (w6.setCell ⟨H,k,none⟩ (.int .i64 (gl:Int)));rw [hW6]at HS5⊢
    have hS12:W6.drew.cell? ⟨Bk,0,none⟩=some (.int .i64 (fr:Int))/\W6.drew.cell? ⟨Bk,1,none⟩=some (.int .i64 (te:Int))/\W6.drew.cell? ⟨Sb,0,none⟩=some (.pointer (some ⟨Tb,0,none⟩))/\W6.drew.cell? ⟨Tb,1,none⟩=some (.int .i64 (n:Int)):=⟨HS5.drew.cell M2 0,HS5.drew.cell M2 1,HS5.drew.cell M4 0,HS5.drew.cell M5 1⟩;have HGd:=zA (Zm HS5.drew.p1);have hlt:(fr:Int)<te:=(by omega)
    have hle:(te:Int)<=n:=(by omega);have hlt1:decide ((fr:Int)<te)=true:=decide_eq_true hlt;have hle1:decide ((te:Int)<=n)=true:=decide_eq_true hle;clear hcs hfs hW6
    go_cut []from 51 to 66 (fun W=>W=W6.drew)
    case first=>
     go_region_held3 (fun W=>W.cell? ⟨Bk,0,none⟩=some (.int .i64 (fr:Int))/\W.cell? ⟨Bk,1,none⟩=some (.int .i64 (te:Int))/\W.cell? ⟨Sb,0,none⟩=some (.pointer (some ⟨Tb,0,none⟩))/\W.cell? ⟨Tb,1,none⟩=some (.int .i64 (n:Int))) (first|with_reducible assumption|fail)
      ((go_at_call 144;(with_reducible refine HGd.out.mono ?_);rintro e w7 ⟨rfl,rfl⟩))
     all_goals
      go_wp2
      go_meet
      rfl
    case rest=>
     have HS6:=HS5.drew;rw [<-hcut]at HS6;have HS7:=HS6.drew.p3;have hct:=HS7.cl M5 0;have hcb:=HS7.cl M4 0;have hb0:=HS7.cl M3 0;have hb1:=HS7.cl M3 1;have hb2:=HS7.cl M3 2;have hta:∀o,(wc.alloc o).cell? ⟨Tb,0,none⟩=some (.slice Ac k cc):=fun o=>(HS6.p3.al o).cell M5 0;clear hS12 HGd HS5 HS6 hcut;go_upto_region 13 with fail
     go_cut []from 67 to 76 (fun W=>∃(A8:aA) (c8:Nat),Sp W [BlkA Tb 208 #[.slice A8 (k+1) c8,.int .i64 (n:Int)],RowA 206 3 (.slice A8 (k+1) c8) (k+1) (yd gs [] (k+1)).flatten,NA (some ⟨H,0,none⟩) q q (szs gs q (k+1)),RdA p (rsAt (pre++zP z++zP gl) ((gs.drop (k+1)).flatMap ZF++gs.flatMap grpB)),BlkA Bk 206 #[.int .i64 (fr:Int),.int .i64 (te:Int),.slice none 0 0],BlkA Sb 124 #[.pointer (some ⟨Tb,0,none⟩)],BlkA Eb 27 #[.int .i64 0],OldA w.heap.size w])
     case first=>
      have hS13:wc.drew.cell? ⟨Sb,0,none⟩=some (.pointer (some ⟨Tb,0,none⟩))/\wc.drew.cell? ⟨Bk,0,none⟩=some (.int .i64 (fr:Int))/\wc.drew.cell? ⟨Bk,1,none⟩=some (.int .i64 (te:Int))/\wc.drew.cell? ⟨Bk,2,none⟩=some (.slice none 0 0):=⟨hcb,hb0,hb1,hb2⟩;refine wp_region_noPanic ?_
      refine gR [(10,fun W=>W.cell? ⟨Tb,0,none⟩=some (.slice Ac k cc)/\W.cell? ⟨Sb,0,none⟩=some (.pointer (some ⟨Tb,0,none⟩))/\W.cell? ⟨Bk,0,none⟩=some (.int .i64 (fr:Int))/\W.cell? ⟨Bk,1,none⟩=some (.int .i64 (te:Int))/\W.cell? ⟨Bk,2,none⟩=some (.slice none 0 0))] (hB ⟨hct,hcb,hb0,hb1,hb2⟩) ?_;refine gL 0 10 M0 ?_;refine gL 1 10 M0 ?_;refine gF 2 ?_;refine gF 3 ?_;refine gL 4 10 M0 ?_
      refine gL 5 10 M0 ?_;intro hC;refine gO 6 fun K hK=> ?_;go_simp;refine hK.out _ _ (hB ⟨(HS7.al _).cell M5 0,(HS7.al _).cell M4 0,(HS7.al _).cell M3 0,(HS7.al _).cell M3 1,(HS7.al _).cell M3 2⟩) ?_;clear hK K hC;intro hC;refine gO 7 fun K hK=> ?_
      refine yz JZ (.tmp 71) (.tmp 73) rfl rfl HS7 rfl (cs:= #[.int .i64 (fr:Int),.int .i64 (te:Int),.slice none 0 0]) rfl rfl rfl (by intro u hu;simp at hu;rcases hu with rfl|rfl|rfl<;>rfl) (by omega) (by omega) ?_
      intro A8 c8 w8 hc8 hm8 HS8;have q0:=HS8.cl M5 0;have q2:=(HS8.blkOf M5).frozen 0;refine hK.out _ _ (hB ⟨HS8.cell M5 0,HS8.cell M4 0,HS8.cell M3 0,HS8.cell M3 1,HS8.cell M3 2⟩) ?_;clear hK K hC;refine gF 8 ?_;refine gF 9 ?_;intro hC;refine gO 10 fun K hK=> ?_;go_simp;refine hK.out _ _ hA ?_;clear hK K hC;intro hC;refine xW (by kernel_rfl) ?_;refine NoPanic.normal ?_
      all_goals
       go_wp2
       go_meet
       refine⟨A8,c8,?_⟩;have h:=HS8.p5.set 0 (.slice A8 (k+1) c8)
       have e:(yd gs [] k).flatten++ #[Value.int .i64 (fr:Int),.int .i64 (te:Int),.slice none 0 0].toList=(yd gs [] (k+1)).flatten:=by
        rw [s8,yf];simp only [Yj,Hfr.out,Hfr1.out,hte,yM,List.flatten_nil,zo];rfl
       rw [e]at h;exact h
     case rest=>
      obtain⟨A8,c8,HS8⟩:=hcut;have hb3:=HS8.cl M4 1;clear HS7 hct hcb hb0 hb1 hb2 hta;go_wp2
      go_roundg (q - (k+1))
      ·exact⟨k+1,A8,c8,_,by omega,rfl,by go_num,by rw [Hfr1.out,hte],HS8.sel [1,2,3,5,0,6,7]⟩
      ·omega
   ·obtain rfl:k=q:=by omega
    have hfq:frG gs k=n:=(by unfold frG;rw [zF (by rw [Hq.out];omega),Hfl.out,Hn0.out]);rw [hfq];rw [zQ (by rw [Hq.out];omega),x7,zZ]at HS
    have HS1:Sp wr [RdA p (rsAt pre ((gs.drop 0).flatMap grpB)),BlkA Tb 208 #[.slice Ac k cc,.int .i64 (n:Int)],RowA 206 3 (.slice Ac k cc) k (yd gs [] k).flatten,zz (bysA gs []),zz (([]:aE).map fun D=>ObjA D (.deferred (some []))),NA (some ⟨H,0,none⟩) k k (szs gs k k),BlkA Sb 124 #[.pointer (some ⟨Tb,0,none⟩)],BlkA Eb 27 #[.int .i64 0],OldA w.heap.size w]:=HS.starNil.starNil.sel [4,6,2,0,1,3,5,7,8]
    have HGd:=zA (Zm HS1);have ct1:=HS1.cl M1 1;have ct0:=HS1.cl M1 0;have cs0:=HS1.d1.cl M5 0;clear HS;go_wp2_with (refine HGd.out.mono ?_;rintro e w7 ⟨rfl,rfl⟩);clear HGd ct1 ct0 cs0 hfq
    refine wp_loop_ghost_k (fun gk a' wr=>∃(u10 u11 u94 u95 u96 u97 u98 u99 u100 u101 u102 u103 u104 u105 u106 u107 u108 u109 u110 u111 u112 u113 u114 u115 u116 u117 u118 u119:V) (Ds:aE) (j:Nat) (As:List aA) (pre:aC),(j<=k/\gk=k - j/\As.length=j/\Sp wr [RdA p (rsAt pre ((gs.drop j).flatMap grpB)),BlkA Tb 208 #[.slice Ac k cc,.int .i64 (n:Int)],RowA 206 3 (.slice Ac k cc) k (yd gs As k).flatten,zz (bysA gs As),zz (Ds.map fun D=>ObjA D (.deferred (some []))),NA (some ⟨H,0,none⟩) k k (szs gs k k),BlkA Sb 124 #[.pointer (some ⟨Tb,0,none⟩)],BlkA Eb 27 #[.int .i64 0],OldA w.heap.size w])/\
     a' ={tmps:= #[.slice A nb c,undef,.pointer (some ⟨Sb,0,none⟩),.pointer (some ⟨Eb,0,none⟩),.pointer (some ⟨p,0,none⟩),.int .i64 (k:Int),.int .i64 (n:Int),.slice (some ⟨H,0,none⟩) k k,u8,u9,u10,u11,undef,undef,undef,undef,undef,.func (.func 143) #[] #[.pointer (some ⟨Sb,0,none⟩),.pointer (some ⟨Eb,0,none⟩)],.slice A nb c,.pointer (some ⟨p,0,none⟩),.pointer (some ⟨p,0,none⟩),.int .i64 (n:Int),.agg #[.slice none 0 0,.int .i64 (n:Int)],.pointer (some ⟨Tb,0,none⟩),.pointer (some ⟨p,0,none⟩),.pointer (some ⟨Tb,0,none⟩),.pointer (some ⟨Tb,0,none⟩),.pointer (some ⟨Tb,1,none⟩),.int .i64 (n:Int),.int .i64 (k:Int),.pointer (some ⟨p,0,none⟩),.tuple #[],u32,u33,.int .i64 (k:Int),.int .i64 (k:Int),.bool false,u37,u38,u39,u40,u41,u42,u43,u44,u45,u46,u47,u48,u49,u50,u51,u52,u53,u54,u55,u56,u57,u58,u59,u60,u61,u62,u63,u64,u65,u66,u67,u68,u69,u70,u71,u72,u73,u74,u75,u76,u77,u78,u79,.pointer (some ⟨p,0,none⟩),.int .i64 (n:Int),.pointer (some ⟨Tb,0,none⟩),.pointer (some ⟨Tb,0,none⟩),.pointer (some ⟨Tb,1,none⟩),.int .i64 (n:Int),.bool true,.tuple #[],.pointer (some ⟨Tb,0,none⟩),.pointer (some ⟨Tb,0,none⟩),.pointer (some ⟨Tb,0,none⟩),.slice Ac k cc,.int .i64 (k:Int),.int .i64 (j:Int),u94,u95,u96,u97,u98,u99,u100,u101,u102,u103,u104,u105,u106,u107,u108,u109,u110,u111,u112,u113,u114,u115,u116,u117,u118,u119,undef,undef,undef,undef,undef,undef,undef,undef,undef,undef,undef,undef,undef,undef,undef,undef,undef,undef,undef,undef,undef,undef,undef,undef,undef,undef,undef,undef,undef,undef],defers:=Ds.map (fun D=>{target:= .collected D,args:= #[]})++ [{target:= .fn (.func 143) #[.pointer (some ⟨Sb,0,none⟩),.pointer (some ⟨Eb,0,none⟩)],args:= #[]}]}) k ?_ ?_
    ·exact⟨_,_,_,_,_,_,_,_,_,_,_,_,_,_,_,_,_,_,_,_,_,_,_,_,_,_,_,_, [],0, [],_,⟨zJ _,rfl,rfl,HS1⟩,rfl⟩
    ·rintro gk _ wr ⟨u10,u11,u94,u95,u96,u97,u98,u99,u100,u101,u102,u103,u104,u105,u106,u107,u108,u109,u110,u111,u112,u113,u114,u115,u116,u117,u118,u119,Ds,j,As,pre,⟨hj,rfl,hAs,HS⟩,rfl⟩ J K hJ hK;clear HS1
     by_cases hjk:j<k
     ·obtain⟨g,Hg⟩:∃g,Hid (gs[j]? =some g):=⟨_,zB (by rw [Hq.out];exact hjk)⟩;obtain⟨gc,rfl, -, -, -⟩:=(HS.rowOf M2).at_ (by omega)
      obtain⟨gl,hgl0⟩:=eX (glen gs j);have hglb:gl<=nb:=(by rw [<-hgl0];exact Hgl2.out j);have hgg:(grpB g).length=gl:=(by rw [<-pB Hg.out,hgl0]);have hjk' :(j:Int)<k:=(by omega);have c1:=HS.d1.cl M5 0;have c2:=HS.cl M1 0
      have c3:wr.cell? ⟨H,j,none⟩=some (.int .i64 (gl:Int)):=by
       have h:=HS.rowCell M5 (KT hjk);rw [hgl0]at h;exact h
      have HS2:Sp wr [RdA p (rsAt pre (grpB g++(gs.drop (j+1)).flatMap grpB)),BlkA Tb 208 #[.slice (some ⟨gc,0,none⟩) k cc,.int .i64 (n:Int)],RowA 206 3 (.slice (some ⟨gc,0,none⟩) k cc) k (yd gs As k).flatten,zz (bysA gs As),zz (Ds.map fun D=>ObjA D (.deferred (some []))),NA (some ⟨H,0,none⟩) k k (szs gs k k),BlkA Sb 124 #[.pointer (some ⟨Tb,0,none⟩)],BlkA Eb 27 #[.int .i64 0],OldA w.heap.size w]:=by
       rw [yb Hg.out,zp]at HS;exact HS
      have HBy:=zA (XQ HS2 hgg (by omega));have Hgl0:=zA hgl0;have Hgg:=zA hgg;clear HS HS2 hgl0 hgg;go_wp2_with fail;refine HBy.out.mono ?_;rintro e w8 ⟨A5,rfl,HS3⟩;have hset:=u6 (gs:=gs) (As:=As) (m:=k) A5 (by omega);rw [hAs,Hgl0.out]at hset;have q0:w8.cell? ⟨gc,j*3+2,none⟩=some (.slice none 0 0):=HS3.rowCell M3 (Zi (k:=j) (j:=2) (by omega) (u7 (by omega)));have q1:=HS3.rowFree M3 (j*3+2)
      have HS4:=HS3.p3.rowSet (j*3+2) (.slice A5 gl gl);rw [hset]at HS4;obtain⟨fr,hfr⟩:=eX (frG gs j);obtain⟨z,hz⟩:=eX (g.length);have hfr1:frG gs (j+1)=fr+z:=(by rw [d9 Hg.out,hfr,hz])
      have hcc:Yj gs (As++ [A5]) j= [.int .i64 (fr:Int),.int .i64 ((fr+z:Nat):Int),.slice A5 gl gl]:=by
       unfold Yj;rw [hfr,hfr1,Hgl0.out,zR (by omega),hAs,yh];rfl
      obtain⟨W4,hW4⟩:=eX (w8.setCell ⟨gc,j*3+2,none⟩ (.slice A5 gl gl));rw [hW4]at HS4;have e0:W4.cell? ⟨gc,j*3,none⟩=some (.int .i64 (fr:Int)):=HS4.rowCell M0 (Zi (k:=j) (j:=0) (by omega) (by rw [hcc];rfl));have e1:W4.cell? ⟨gc,j*3+1,none⟩=some (.int .i64 ((fr+z:Nat):Int)):=HS4.rowCell M0 (Zi (k:=j) (j:=1) (by omega) (by rw [hcc];rfl))
      have e2:W4.cell? ⟨gc,j*3+2,none⟩=some (.slice A5 gl gl):=HS4.rowCell M0 (Zi (k:=j) (j:=2) (by omega) (by rw [hcc];rfl));have HGd:=zA (Zm HS4.p2);have Hfr1:=zA hfr1;have Hz:=zA hz
      have hte:(fr+z:Nat)<=n:=by
       rw [<-hfr1];have:=XI gs (j+1);rw [Hfl.out,Hn0.out]at this;exact this
      obtain⟨te,hte0⟩:=eX (fr+z);rw [hte0]at e1 hte;have HB:Hid (∀B:Nat,W4.heap.size=B->Sp (W4.alloc (.cells #[.int .i64 (fr:Int),.int .i64 (te:Int),.slice A5 gl gl] 206)) (BlkA B 206 #[.int .i64 (fr:Int),.int .i64 (te:Int),.slice A5 gl gl]::_)):=fun B hB=>HS4.blkH _ _ hB;clear HS3 HS4 hset hcc hfr1 hfr hz HBy c1 c3;go_upto_region 22 with fail;clear q0 q1 hW4
      go_wp2_with (first
       |(go_at_call 144;refine HGd.out.mono ?_;rintro e w9 ⟨rfl,rfl⟩)
       |(go_at_call 108;refine(lW _ _ _ _).mono ?_;rintro e w10 ⟨rfl,rfl⟩)
       |fail)
      have hte1:te=fr+g.length:=(by rw [Hz.out,hte0]);subst hte1;obtain⟨Bc,hBc⟩:=eX (w9.heap.size);rw [hBc];have HS5:=HB.out Bc hBc;have hgd:Hid (∀x∈g,Y9 x=true/\QB x):=fun x hx=>Hok.out x (by rw [<-Hfl.out];exact List.mem_flatten.2 ⟨g,zD Hg.out,hx⟩)
      have HS6:Sp (w9.alloc (.cells #[.int .i64 (fr:Int),.int .i64 ((fr+g.length:Nat):Int),.slice A5 gl gl] 206)) (BlkA Bc 206 #[.int .i64 (fr:Int),.int .i64 ((fr+g.length:Nat):Int),.slice A5 gl gl]::BA A5 gl gl (grpB g):: [RowA 206 3 (.slice (some ⟨gc,0,none⟩) k cc) k (yd gs (As++ [A5]) k).flatten,RdA p (rsAt (pre++grpB g) ((gs.drop (j+1)).flatMap grpB)),BlkA Tb 208 #[.slice (some ⟨gc,0,none⟩) k cc,.int .i64 (n:Int)],zz (bysA gs As),zz (Ds.map fun D=>ObjA D (.deferred (some []))),NA (some ⟨H,0,none⟩) k k (szs gs k k),BlkA Sb 124 #[.pointer (some ⟨Tb,0,none⟩)],BlkA Eb 27 #[.int .i64 0],OldA w.heap.size w]):=HS5.p2.p1
      clear HS5 HB e0 e1 e2 c2;refine(wpIn_wide (n:=6)).1 ?_
      refine Wz (F:=Fence.wide) (gf:=189) (lb:= #[.pointer (some ⟨Bc,0,none⟩)]) (L' :=BlkA Bc 206 #[.int .i64 (fr:Int),.int .i64 ((fr+g.length:Nat):Int),.slice A5 gl gl]::BA A5 gl gl (grpB g):: [RowA 206 3 (.slice (some ⟨gc,0,none⟩) k cc) k (yd gs (As++ [A5]) k).flatten,RdA p (rsAt (pre++grpB g) ((gs.drop (j+1)).flatMap grpB)),BlkA Tb 208 #[.slice (some ⟨gc,0,none⟩) k cc,.int .i64 (n:Int)],zz (bysA gs As),zz (Ds.map fun D=>ObjA D (.deferred (some []))),NA (some ⟨H,0,none⟩) k k (szs gs k k),BlkA Sb 124 #[.pointer (some ⟨Tb,0,none⟩)],BlkA Eb 27 #[.int .i64 0],OldA w.heap.size w]) rfl (by omega) rfl trivial (enters_of func189 (by kernel_rfl) rfl) HS6
       (fun vals X Y=>∃(v0:V) (A' :aA) (n' c' :Nat) (x:List Entry),vals= #[v0,.slice A' n' c']/\X= [DatA (.slice A' n' c') x]/\Y= []) ?body ?seq ?done
      case body=>
       rintro l _ _ _ ⟨v0,A',n',c',x,rfl,rfl,rfl⟩;exact⟨rfl,_,fun W K hK=>wpIn_skip hK,fun T W h=>wpIn_block (wpIn_skip ⟨rfl,h.tail⟩)⟩
      case seq=>
       intro l T0 hY W hW
       refine pE (T0:=T0) (fun _=> [RowA 206 3 (.slice (some ⟨gc,0,none⟩) k cc) k (yd gs (As++ [A5]) k).flatten,RdA p (rsAt (pre++grpB g) ((gs.drop (j+1)).flatMap grpB)),BlkA Tb 208 #[.slice (some ⟨gc,0,none⟩) k cc,.int .i64 (n:Int)],zz (bysA gs As),zz (Ds.map fun D=>ObjA D (.deferred (some []))),NA (some ⟨H,0,none⟩) k k (szs gs k k),BlkA Sb 124 #[.pointer (some ⟨Tb,0,none⟩)],BlkA Eb 27 #[.int .i64 0],OldA w.heap.size w]) l 5 (by omega) hgd.out (by omega) ?_ hW (by omega)
       intro k2 x A' n' c' T W2 hx h
       have h2:=hY #[.int .i64 ((fr+k2:Nat):Int),.slice A' n' c'] [DatA (.slice A' n' c') x] [] ([RowA 206 3 (.slice (some ⟨gc,0,none⟩) k cc) k (yd gs (As++ [A5]) k).flatten,RdA p (rsAt (pre++grpB g) ((gs.drop (j+1)).flatMap grpB)),BlkA Tb 208 #[.slice (some ⟨gc,0,none⟩) k cc,.int .i64 (n:Int)],zz (bysA gs As),zz (Ds.map fun D=>ObjA D (.deferred (some []))),NA (some ⟨H,0,none⟩) k k (szs gs k k),BlkA Sb 124 #[.pointer (some ⟨Tb,0,none⟩)],BlkA Eb 27 #[.int .i64 0],OldA w.heap.size w]++T) W2 ⟨_,_,_,_,_,rfl,rfl,rfl⟩ (by rw [zO];exact h)
       rw [zO]at h2;exact h2
      case done=>
       intro D W hW;have h1:=((hW.sel [1,5,11,6,3,4,2,7,8,9,10]).starPush.p1.p2.p1.starIn).sel [2,3,4,1,0,5,6,7,8];clear hW HS6;go_wp2;refine⟨k - (j+1),by omega,hJ _ _ _ ⟨_,_,_,_,_,_,_,_,_,_,_,_,_,_,_,_,_,_,_,_,_,_,_,_,_,_,_,_,D::Ds,j+1,As++ [A5],pre++grpB g,⟨by omega,rfl,by simp [hAs],?_⟩,rfl⟩⟩;rw [F8,hAs,Hgl0.out,Hg.out];exact h1
     ·obtain rfl:j=k:=by omega
      rw [zQ (by rw [Hq.out];omega),x7]at HS;have HLf:=Xz HS;rw [YL]at HLf;have HLt:=zA HLf;clear HLf;go_wp2_with fail;refine HLt.out.mono ?_;rintro e w8 ⟨rfl,k8,rfl⟩;have HS2:=HS.drewN k8;have HGd:=zA (Zm HS2);obtain⟨Lb,hLb⟩:=eX ((wr.drewN k8).heap.size);have HS3:=(((HS2.nil 36 1).elsNil (α:=List Entry)).blkH 179 #[.slice none 0 0] hLb)
      have c1:((wr.drewN k8).alloc (.cells #[.slice none 0 0] 179)).cell? ⟨Sb,0,none⟩=some (.pointer (some ⟨Tb,0,none⟩)):=HS3.d1.d1.d1.cell M6 0;have c2:((wr.drewN k8).alloc (.cells #[.slice none 0 0] 179)).cell? ⟨Tb,0,none⟩=some (.slice Ac j cc):=HS3.cell M4 0;clear HS HLt;go_wp2_with (go_at_call 144;refine HGd.out.mono ?_;rintro e w9 ⟨rfl,rfl⟩);clear c1 c2 HGd
      have hLb2:wr.heap.size=Lb:=hLb;rw [hLb2]
      have HS4:Sp ((wr.drewN k8).alloc (.cells #[.slice none 0 0] 179)) [AllA Lb docs 0,BlkA Tb 208 #[.slice Ac j cc,.int .i64 (n:Int)],RowA 206 3 (.slice Ac j cc) j (yd gs As j).flatten,zz (bysA gs As),zz (Ds.map fun D=>ObjA D (.deferred (some []))),BlkA Sb 124 #[.pointer (some ⟨Tb,0,none⟩)],BlkA Eb 27 #[.int .i64 0],RdA p (rsAt pre []),OldA w.heap.size w]:=
       Sp.allIn (A:=none) (c:=0) (css:= []) (m:=0) (docs:=docs) (HS3.sel [0,2,1,4,5,6,7,9,10,3,11])
      clear HS3 hLb hLb2 HS2
      refine wp_loop_ghost_k (fun gk a' wr=>∃(v14 v16 v131 v132 v133 v134 v135 v136 v137 v138 v139 v140 v141 v142:V) (Ds:aE) (i:Nat),(i<=j/\gk=j - i/\Sp wr [AllA Lb docs (frG gs i),BlkA Tb 208 #[.slice Ac j cc,.int .i64 (n:Int)],RowA 206 3 (.slice Ac j cc) j (yd gs As j).flatten,zz (bysA gs As),zz (Ds.map fun D=>ObjA D (.deferred (some []))),BlkA Sb 124 #[.pointer (some ⟨Tb,0,none⟩)],BlkA Eb 27 #[.int .i64 0],RdA p (rsAt pre []),OldA w.heap.size w])/\
       a' ={tmps:= #[.slice A nb c,undef,.pointer (some ⟨Sb,0,none⟩),.pointer (some ⟨Eb,0,none⟩),.pointer (some ⟨p,0,none⟩),.int .i64 (j:Int),.int .i64 (n:Int),.slice (some ⟨H,0,none⟩) j j,u8,u9,u10,u11,.pointer (some ⟨Lb,0,none⟩),undef,v14,undef,v16,.func (.func 143) #[] #[.pointer (some ⟨Sb,0,none⟩),.pointer (some ⟨Eb,0,none⟩)],.slice A nb c,.pointer (some ⟨p,0,none⟩),.pointer (some ⟨p,0,none⟩),.int .i64 (n:Int),.agg #[.slice none 0 0,.int .i64 (n:Int)],.pointer (some ⟨Tb,0,none⟩),.pointer (some ⟨p,0,none⟩),.pointer (some ⟨Tb,0,none⟩),.pointer (some ⟨Tb,0,none⟩),.pointer (some ⟨Tb,1,none⟩),.int .i64 (n:Int),.int .i64 (j:Int),.pointer (some ⟨p,0,none⟩),.tuple #[],u32,u33,.int .i64 (j:Int),.int .i64 (j:Int),.bool false,u37,u38,u39,u40,u41,u42,u43,u44,u45,u46,u47,u48,u49,u50,u51,u52,u53,u54,u55,u56,u57,u58,u59,u60,u61,u62,u63,u64,u65,u66,u67,u68,u69,u70,u71,u72,u73,u74,u75,u76,u77,u78,u79,.pointer (some ⟨p,0,none⟩),.int .i64 (n:Int),.pointer (some ⟨Tb,0,none⟩),.pointer (some ⟨Tb,0,none⟩),.pointer (some ⟨Tb,1,none⟩),.int .i64 (n:Int),.bool true,.tuple #[],.pointer (some ⟨Tb,0,none⟩),.pointer (some ⟨Tb,0,none⟩),.pointer (some ⟨Tb,0,none⟩),.slice Ac j cc,.int .i64 (j:Int),.int .i64 (j:Int),.bool false,u95,u96,u97,u98,u99,u100,u101,u102,u103,u104,u105,u106,u107,u108,u109,u110,u111,u112,u113,u114,u115,u116,u117,u118,u119,.pointer (some ⟨p,0,none⟩),.pointer (some ⟨p,0,none⟩),.int .i64 0,.bool true,.tuple #[],.pointer (some ⟨Tb,0,none⟩),.pointer (some ⟨Tb,0,none⟩),.pointer (some ⟨Tb,0,none⟩),.slice Ac j cc,.int .i64 (j:Int),.int .i64 (i:Int),v131,v132,v133,v134,v135,v136,v137,v138,v139,v140,v141,v142,undef,undef,undef,undef,undef,undef,undef],defers:=Ds.map (fun D=>{target:= .collected D,args:= #[]})++ [{target:= .fn (.func 143) #[.pointer (some ⟨Sb,0,none⟩),.pointer (some ⟨Eb,0,none⟩)],args:= #[]}]}) j ?_ ?_
      ·exact⟨_,_,_,_,_,_,_,_,_,_,_,_,_,_,Ds,0,⟨zJ _,rfl,HS4⟩,rfl⟩
      ·rintro gk _ wr ⟨v14,v16,v131,v132,v133,v134,v135,v136,v137,v138,v139,v140,v141,v142,Ds,i,⟨hi,rfl,HS⟩,rfl⟩ J K hJ hK;clear HS4
       by_cases hij:i<j
       ·obtain⟨g,Hg⟩:∃g,Hid (gs[i]? =some g):=⟨_,zB (by rw [Hq.out];exact hij)⟩;obtain⟨gc,rfl, -, -, -⟩:=(HS.rowOf M2).at_ (by omega)
        obtain⟨gl,hgl0⟩:=eX (glen gs i);have hglb:gl<=nb:=(by rw [<-hgl0];exact Hgl2.out i);obtain⟨Ai,hAi⟩:∃Ai,As[i]? =some Ai:=⟨_,zB (by omega)⟩;obtain⟨fr,hfr⟩:=eX (frG gs i);have hfr1:frG gs (i+1)=fr+g.length:=(by rw [d9 Hg.out,hfr])
        have hcc:Yj gs As i= [.int .i64 (fr:Int),.int .i64 ((fr+g.length:Nat):Int),.slice Ai gl gl]:=by
         unfold Yj;rw [hfr,hfr1,hgl0,hAi]
        have hby:(bysA gs As)[i]? =some (BA Ai gl gl (grpB g)):=by
         rw [KF (by omega)];unfold byA;rw [hAi,hgl0,Hg.out];rfl
        have e0:wr.cell? ⟨gc,i*3,none⟩=some (.int .i64 (fr:Int)):=HS.rowCell M2 (Zi (k:=i) (j:=0) (by omega) (by rw [hcc];rfl));have e1:wr.cell? ⟨gc,i*3+1,none⟩=some (.int .i64 ((fr+g.length:Nat):Int)):=HS.rowCell M2 (Zi (k:=i) (j:=1) (by omega) (by rw [hcc];rfl));have e2:wr.cell? ⟨gc,i*3+2,none⟩=some (.slice Ai gl gl):=HS.rowCell M2 (Zi (k:=i) (j:=2) (by omega) (by rw [hcc];rfl))
        have hte:fr+g.length<=n:=by
         rw [<-hfr1];have:=XI gs (i+1);rw [Hfl.out,Hn0.out]at this;exact this
        rw [hfr]at HS;have Hfr:=zA hfr;have Hfr1:=zA hfr1;have Hby:=zA hby;obtain⟨tl,htl⟩:=eX (fr+g.length);rw [htl]at e1 hte;have hij' :(i:Int)<j:=(by omega);obtain⟨Cj,hCj⟩:=eX (wr.heap.size);have HS5:=HS.blkH 206 #[.int .i64 (fr:Int),.int .i64 (tl:Int),.slice Ai gl gl] hCj
        have f0:(wr.alloc (.cells #[.int .i64 (fr:Int),.int .i64 (tl:Int),.slice Ai gl gl] 206)).cell? ⟨Cj,0,none⟩=some (.int .i64 (fr:Int)):=HS5.cell M0 0;have f1:(wr.alloc (.cells #[.int .i64 (fr:Int),.int .i64 (tl:Int),.slice Ai gl gl] 206)).cell? ⟨Cj,1,none⟩=some (.int .i64 (tl:Int)):=HS5.cell M0 1
        have f2:(wr.alloc (.cells #[.int .i64 (fr:Int),.int .i64 (tl:Int),.slice Ai gl gl] 206)).cell? ⟨Cj,2,none⟩=some (.slice Ai gl gl):=HS5.cell M0 2;clear HS hfr hfr1 hgl0 hcc hby hAi;go_wp2_with (go_at_call 108;refine(lW _ _ _ _).mono ?_;rintro e w10 ⟨rfl,rfl⟩);clear e0 e1 e2 f0 f1 f2;subst htl
        have HS6:=(((HS5.blkH 206 #[.int .i64 (fr:Int),.int .i64 ((fr+g.length:Nat):Int),.slice Ai gl gl] (H:=Cj+1) (by simp [hCj])).p5.starAt Hby.out).sel [2,0,4,3,5,6,1,7,8,9,10,11]);have hgd:Hid (∀x∈g,Y9 x=true/\QB x):=fun x hx=>Hok.out x (by rw [<-Hfl.out];exact List.mem_flatten.2 ⟨g,zD Hg.out,hx⟩)
        have hdx:Hid (∀(k2:Nat) (x:List Entry),g[k2]? =some x->docs.take (fr+(k2+1))=docs.take (fr+k2)++ [x]):=by
         intro k2 x hx;rw [<-Nat.add_assoc,zI];have h:=E8 Hg.out (zN hx);rw [show(gs.take i).flatten.length=fr from Hfr.out,Hfl.out,hx]at h;rw [h];rfl
        clear HS5;refine(wpIn_wide (n:=6)).1 ?_
        refine Wz (F:=Fence.wide) (gf:=189) (lb:= #[.pointer (some ⟨Cj+1,0,none⟩)]) (L:=BlkA (Cj+1) 206 #[.int .i64 (fr:Int),.int .i64 ((fr+g.length:Nat):Int),.slice Ai gl gl]::BA Ai gl gl (grpB g)::AllA Lb docs fr:: [BlkA Cj 206 #[.int .i64 (fr:Int),.int .i64 ((fr+g.length:Nat):Int),.slice Ai gl gl],BlkA Tb 208 #[.slice (some ⟨gc,0,none⟩) j cc,.int .i64 (n:Int)],RowA 206 3 (.slice (some ⟨gc,0,none⟩) j cc) j (yd gs As j).flatten,zz ((bysA gs As).eraseIdx i),zz (Ds.map fun D=>ObjA D (.deferred (some []))),BlkA Sb 124 #[.pointer (some ⟨Tb,0,none⟩)],BlkA Eb 27 #[.int .i64 0],RdA p (rsAt pre []),OldA w.heap.size w]) (L' :=BlkA (Cj+1) 206 #[.int .i64 (fr:Int),.int .i64 ((fr+g.length:Nat):Int),.slice Ai gl gl]::BA Ai gl gl (grpB g)::AllA Lb docs (fr+g.length):: [BlkA Cj 206 #[.int .i64 (fr:Int),.int .i64 ((fr+g.length:Nat):Int),.slice Ai gl gl],BlkA Tb 208 #[.slice (some ⟨gc,0,none⟩) j cc,.int .i64 (n:Int)],RowA 206 3 (.slice (some ⟨gc,0,none⟩) j cc) j (yd gs As j).flatten,zz ((bysA gs As).eraseIdx i),zz (Ds.map fun D=>ObjA D (.deferred (some []))),BlkA Sb 124 #[.pointer (some ⟨Tb,0,none⟩)],BlkA Eb 27 #[.int .i64 0],RdA p (rsAt pre []),OldA w.heap.size w]) rfl (by omega) rfl trivial (enters_of func189 (by kernel_rfl) rfl) HS6
         (fun vals X Y=>∃(k2:Nat) (x:List Entry) (A' :aA) (n' c' :Nat),g[k2]? =some x/\vals= #[.int .i64 ((fr+k2:Nat):Int),.slice A' n' c']/\X= [DatA (.slice A' n' c') x,AllA Lb docs (fr+k2)]/\Y= [AllA Lb docs (fr+(k2+1))]) ?body ?seq ?done
        case body=>
         rintro l _ _ _ ⟨k2,x,A',n',c',hx,rfl,rfl,rfl⟩;have hk2:=zN hx;have Hx2:=zA (hdx.out k2 x hx);clear HS6 hx;refine⟨rfl,?_⟩
         apply Exists.intro
         refine⟨?_,?_⟩
         ·intro W K hK
          gi_wp2
          exact hK
         ·intro T W h;obtain⟨Aa,ca,css,h2⟩:=Sp.allOut (L:=DatA (.slice A' n' c') x::T) h.p1;have h3:=h2.p1;have c0:=h3.cl M1 0;clear h h2
          gi_wp2_with (gi_at_builtin;refine YA JY (.tmp 138) (.tmp 140) rfl rfl (h3.al _) rfl rfl (Ye _ #[.slice A' n' c'] _ rfl (H:=W.heap.size) rfl) (by intro u hu;simp at hu;subst hu;rfl) (by omega) (by omega) ?_;intro A8 c8 w8 hc8 hm8 h4;have q0:=h4.cl M1 0;have qf:=(h4.blkOf M1).frozen 0)
          have h5:=(((h4.p1.set 0 (.slice A8 (fr+k2+1) c8)).p3.p3.p1).elsPush).p2.p2;rw [<-Hx2.out]at h5;have e:css.flatten++ #[Value.slice A' n' c'].toList=(css++ [[Value.slice A' n' c']]).flatten:=(by simp);rw [e]at h5;exact Sp.allIn h5
        case seq=>
         intro l T0 hY W hW
         refine pE (T0:=T0) (fun k2=>AllA Lb docs (fr+k2):: [BlkA Cj 206 #[.int .i64 (fr:Int),.int .i64 ((fr+g.length:Nat):Int),.slice Ai gl gl],BlkA Tb 208 #[.slice (some ⟨gc,0,none⟩) j cc,.int .i64 (n:Int)],RowA 206 3 (.slice (some ⟨gc,0,none⟩) j cc) j (yd gs As j).flatten,zz ((bysA gs As).eraseIdx i),zz (Ds.map fun D=>ObjA D (.deferred (some []))),BlkA Sb 124 #[.pointer (some ⟨Tb,0,none⟩)],BlkA Eb 27 #[.int .i64 0],RdA p (rsAt pre []),OldA w.heap.size w]) l 5 (by omega) hgd.out (by omega) ?_ hW (by omega)
         intro k2 x A' n' c' T W2 hx h
         have h2:=hY #[.int .i64 ((fr+k2:Nat):Int),.slice A' n' c'] [DatA (.slice A' n' c') x,AllA Lb docs (fr+k2)] [AllA Lb docs (fr+(k2+1))] ([BlkA Cj 206 #[.int .i64 (fr:Int),.int .i64 ((fr+g.length:Nat):Int),.slice Ai gl gl],BlkA Tb 208 #[.slice (some ⟨gc,0,none⟩) j cc,.int .i64 (n:Int)],RowA 206 3 (.slice (some ⟨gc,0,none⟩) j cc) j (yd gs As j).flatten,zz ((bysA gs As).eraseIdx i),zz (Ds.map fun D=>ObjA D (.deferred (some []))),BlkA Sb 124 #[.pointer (some ⟨Tb,0,none⟩)],BlkA Eb 27 #[.int .i64 0],RdA p (rsAt pre []),OldA w.heap.size w]++T) W2 ⟨k2,x,A',n',c',hx,rfl,rfl,rfl⟩ (by rw [zO];exact h)
         rw [zO]at h2;exact h2
        case done=>
         intro D W hW;have h1:=(Sp.starBack (X:=BA Ai gl gl (grpB g)) (hW.sel [1,6,12,7,2,4,5,8,9,10,11]) Hby.out).p1.p2.p1.starIn.sel [2,3,4,1,0,5,6,7,8];clear hW HS6;go_wp2;refine⟨j - (i+1),by omega,hJ _ _ _ ⟨_,_,_,_,_,_,_,_,_,_,_,_,_,_,D::Ds,i+1,⟨by omega,rfl,?_⟩,rfl⟩⟩;rw [Hfr1.out];exact h1
       ·obtain rfl:i=j:=by omega
        have hfn:frG gs i=n:=(by unfold frG;rw [zF (by rw [Hq.out];omega),Hfl.out,Hn0.out]);rw [hfn]at HS;obtain⟨Aa,ca,css,h2⟩:=Sp.allOut HS;rw [zF (by rw [Hn0.out];omega)]at h2
        have HS5:Sp wr [DatA (.slice Aa n ca) docs,BlkA Lb 179 #[.slice Aa n ca],BlkA Tb 208 #[.slice Ac i cc,.int .i64 (n:Int)],RowA 206 3 (.slice Ac i cc) i (yd gs As i).flatten,zz (bysA gs As),zz (Ds.map fun D=>ObjA D (.deferred (some []))),BlkA Sb 124 #[.pointer (some ⟨Tb,0,none⟩)],BlkA Eb 27 #[.int .i64 0],RdA p (rsAt pre []),OldA w.heap.size w]:=
         (Sp.els (α:=List Entry) (h2.sel [1,2,0,3,4,5,6,7,8,9,10]))
        have HBu:=zA (gN Aa n ca docs wr (HS5.ls M0) hn Hok.out);have c0:=HS5.cl M1 0;clear h2 HS;go_wp2_with fail;refine HBu.out.mono ?_;rintro e w8 ⟨A8,m8,c8,rfl,HT8⟩;have HS8:=HS5.c1 HT8;have HEq:=zA (bY A8 A m8 nb c8 c (ZB docs) (ZB docs) w8 (by have:=(HS8.rb M0).2;omega) (HS8.rb M0).1 (Hl.out.on ((HS8.d1.d1).below M8)));rw [decide_eq_true rfl]at HEq;clear HBu HT8 HS5;go_wp2_with fail
        refine HEq.out.mono ?_;rintro e w9 ⟨rfl,q9,rfl⟩;have HS9:=(HS8.drewN q9).sel [9,3,4,5,6,7,8,10];have HGd:=zA (Zm HS9);have g0:(w8.drewN q9).cell? ⟨Sb,0,none⟩=some (.pointer (some ⟨Tb,0,none⟩)):=HS9.cell M5 0;have g1:=(HS9.blkOf M5).frozen 0;have g2:(w8.drewN q9).cell? ⟨Eb,0,none⟩=some (.int .i64 0):=HS9.cell M6 0;have g3:=(HS9.blkOf M6).frozen 0;have hne:Eb≠Sb:=(by omega)
        have hne2:Sb≠Eb:=(by omega);clear HS8 HEq;go_wp2_with (go_at_call 144;refine HGd.out.mono ?_;rintro e w10 ⟨rfl,rfl⟩);have hS:=(((HS9.p5.set 0 (.pointer (some ⟨Tb,0,none⟩))).p6.set 0 (.int .i64 0)).sel [6,3,4,5,1,0,7]);clear HS9 HGd;have eg:=enters_of func143 (by kernel_rfl) rfl
        refine Vy (L:= [BlkA Tb 208 #[.slice Ac i cc,.int .i64 (n:Int)],RowA 206 3 (.slice Ac i cc) i (yd gs As i).flatten,zz (bysA gs As),BlkA Sb 124 #[.pointer (some ⟨Tb,0,none⟩)],BlkA Eb 27 #[.int .i64 0],OldA w.heap.size w]) (fun w' h=> ?_) Ds hS
        refine⟨by simp,.inr ⟨fun _=>by omega,.func 143,#[.pointer (some ⟨Sb,0,none⟩),.pointer (some ⟨Eb,0,none⟩)],143,#[.pointer (some ⟨Sb,0,none⟩),.pointer (some ⟨Eb,0,none⟩)],rfl,by simp [invoke,go_sem,eg],fun _ _=>trivial,?_⟩⟩;refine(tZ _ ⟨Sb,0,none⟩ ⟨Eb,0,none⟩ w').mono ?_;rintro e u' w'' ⟨rfl,rfl,hb⟩;have h2:=h.grow hb
        refine⟨_,C6 (s:=Sb) (e:=Eb) (by rfl) (by rfl) (h2.cell M3 0) (h2.cell M4 0),Tb,cc,Ac,As,rfl,hAs,?_⟩;exact h2.sel [0,1,2,5]
end Go.Proofs.YtjbhbfaeielbiaaGreatDoor

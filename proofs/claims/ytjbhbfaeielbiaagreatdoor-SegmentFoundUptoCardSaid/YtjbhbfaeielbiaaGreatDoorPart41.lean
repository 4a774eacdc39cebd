import Derived.Test.YtjbhbfaeielbiaaGreatDoorPart38
set_option maxRecDepth 100000
set_option maxHeartbeats 8000000
set_option linter.unusedVariables false
set_option linter.unusedSimpArgs false
namespace Go.Proofs.YtjbhbfaeielbiaaGreatDoor
open Go.Proofs.Tryz
open Rep (rep)
open Go.RowKit Go.Shelf
attribute [local go_sem] Oper.semAt_some
attribute [local go_sem ↓] zU zV
theorem JZ :Elt prog 204 206 3 40:=xt (by kernel_rfl) (by decide) (by kernel_rfl)
theorem LR (gs:List N7) (k:Nat):glen gs k<=(gs.flatMap grpB).length:=by
 unfold glen;rcases h:gs[k]? with _|g
 ·simp [grpB]
 ·exact XN (f:=grpB) (zD h)
theorem EA (n:Nat):(madeCells (Value.int .i64 0).cells (n*1)).toList=ints (List.replicate n 0):=by
 simp [madeCells,Value.cells,Nat.mod_one,List.map_const',ints]
def szs (gs:List N7) (q k:Nat):aD:=(List.range k).map (fun j=>(glen gs j:Int))++List.replicate (q - k) 0
theorem KS {gs:List N7} {q k:Nat} (a:k<q):(ints (szs gs q k)).set k (.int .i64 (glen gs k:Int))=ints (szs gs q (k+1)):=by
 have e:ints (szs gs q (k+1))=ints ((szs gs q k).set k (glen gs k:Int)):=by
  congr 1
  unfold szs;rw [xB _ _ (by simp),zK,xg,yh,show q - k=(q - (k+1))+1 by omega,List.replicate_succ,yw,List.range_succ,zw];simp
 rw [e];simp [ints,List.map_set]
theorem KT {gs:List N7} {q j:Nat} (h:j<q):(ints (szs gs q q))[j]? =some (.int .i64 (glen gs j:Int)):=by
 unfold szs ints;rw [yh,List.replicate_zero,zo,zH,zH,zq h];rfl
theorem wC (A:aA) (nb c:Nat) (docs:N7) (w:O) (hc:nb<=c) (b7:c<=9223372036854775807) (ce:nb<=100000000000) (hl:RB w A nb (ZB docs)) (hn:docs.length<=16384) (a5:∀d∈docs,Y9 d=true/\QB d):
 Calls prog 82 #[.slice A nb c] w fun e w' =>∃(a v:Nat) (Z:aA) (As:List aA),e= .returned (.tuple #[.pointer (some ⟨a,0,none⟩),.int .i64 0])/\As.length=(yL docs).length/\
  Sp w' [BlkA a 208 #[.slice Z (yL docs).length v,.int .i64 (docs.length:Nat)],RowA 206 3 (.slice Z (yL docs).length v) (yL docs).length (yd (yL docs) As (yL docs).length).flatten,zz (bysA (yL docs) As),OldA w.heap.size w]:=by
 have ad:=ZK docs;have h0:=Qi docs;have ag:=lN docs;have a2:=XO docs;obtain⟨n,h6⟩:=eX (docs.length);obtain⟨gs,ah⟩:=eX (yL docs);obtain⟨q,hq⟩:=eX (gs.length);have ai:ZB docs=zP n++(zP q++(gs.flatMap ZF++gs.flatMap grpB)):=by unfold ZB;rw [ah,h6,hq]
 rw [ah]at ad h0 ag a2⊢;rw [hq]at h0⊢;rw [h6]at hn h0⊢;have cb:=@mF prog;have b5:=zA ai;have Hl:=zA hl;rw [ai]at hl;have hh:=zA ad;have bb:=zA ag;have Hq:=zA hq;have hr:=zA h6;have y4:=zA a5
 have h8:∀k,glen gs k<=nb:=by
  intro k;have h1:=hl.len;simp only [zG]at h1;have:=LR gs k;omega
 have ht:=zA h8;obtain⟨C,av⟩:=eX (w.heap.size);obtain⟨M,bh⟩:=eX (C+1);have y2:=((Sp.start w).blkH 124 #[.pointer none] av).blkH 27 #[.int .i64 0] (H:=M) (by simp [av,bh]);have an:=zA (VG (c:=c) y2 (hl.on (y2.below M2)) (by omega));clear hl ai ad ag a2 hq h6 a5 ah h8;refine(callsIn_wide (n:=6)).1 ?_;refine callsIn_of_wp_marks func82 rfl trivial ?_ rfl
 simp only [ntmps82,yP,z6,yO,Nat.reduceAdd,Nat.reduceSub,xI,xH,xf,xM,zZ,yI];refine wpIn_wide.2 ?_;go_wp2_with fail;refine an.o.mono ?_;rintro e w1 ⟨p,rfl,ha⟩
 have hd:Sp w1 [RdA p (rsAt [] (zP n++(zP q++(gs.flatMap ZF++gs.flatMap grpB)))),BlkA M 27 #[.int .i64 0],BlkA C 124 #[.pointer none],OldA w.heap.size w]:=by
  simpa [rsAt]using ha
 have hp:=zA (ZH hd 16384 (by omega));rw [yn (by omega) hn]at hp;clear an y2 ha hd;go_wp2_with fail;refine hp.o.mono ?_;rintro e w2 ⟨rfl,Q⟩;obtain⟨a,bi⟩:=eX (w2.heap.size);have y:=(Q.blkH 208 #[.slice none 0 0,.int .i64 (n:Int)] bi);have br:(w2.alloc (.cells #[.slice none 0 0,.int .i64 (n:Int)] 208)).cell? ⟨C,0,none⟩=some (.pointer none):=y.cell M3 0
 have bs:=(y.blkOf M3).frozen 0
 have r:Sp ((w2.alloc (.cells #[.slice none 0 0,.int .i64 (n:Int)] 208)).setCell ⟨C,0,none⟩ (.pointer (some ⟨a,0,none⟩))) [RdA p (rsAt (([]:aC)++zP n) (zP q++(gs.flatMap ZF++gs.flatMap grpB))),BlkA C 124 #[.pointer (some ⟨a,0,none⟩)],BlkA a 208 #[.slice none 0 0,.int .i64 (n:Int)],BlkA M 27 #[.int .i64 0],OldA w.heap.size w]:=
  (y.p3.set 0 (.pointer (some ⟨a,0,none⟩))).p2
 have he:=zA (ZH r n (by omega));rw [yn (by omega) h0]at he;clear hp Q y r;go_wp2_with fail;refine he.o.mono ?_;rintro e w3 ⟨rfl,R⟩;have N:=zA (Zm R);clear br bs he;go_upto_region 6 with(refine N.o.mono ?_;rintro e w4 ⟨rfl,rfl⟩);clear N
 go_cut [6,7]from 32 to 33 (fun v6 v7 W=>v6= .int .i64 0/\∃H,v7= .slice (some ⟨H,0,none⟩) q q/\Sp W [NA (some ⟨H,0,none⟩) q q (List.replicate q 0),RdA p (rsAt ([]++zP n++zP q) (gs.flatMap ZF++gs.flatMap grpB)),BlkA C 124 #[.pointer (some ⟨a,0,none⟩)],BlkA a 208 #[.slice none 0 0,.int .i64 (n:Int)],BlkA M 27 #[.int .i64 0],OldA w.heap.size w])
 case first=>
  have cd:=run_make_row' (P:=prog) 55 3 (.int .i64 0) 8 underlying55 (by kernel_rfl) rfl .i64 .i64 q (by omega) (by omega);have I:=R.drew.mkd (e:=3) (z:= .int .i64 0) (n:=q) rfl (by omega);rw [show(madeCells #[Value.int .i64 0] q).toList=ints (List.replicate q 0) by have:=EA q;rw [yr]at this;exact this]at I
  go_region
  all_goals
   go_wp2
   go_meet
   exact⟨rfl,_,rfl,I⟩
 case rest=>
  obtain⟨rfl,H,rfl,I⟩:=hcut;clear R;have b2:q<=16384:=(by omega);have E:=I.nil 206 3;go_wp2
  go_loopg [6,35] q (fun gk v6 vi wr=>∃(k:Nat) (Z:aA) (v:Nat) (pre:aC),k<=q/\gk=q - k/\vi= .int .i64 k/\v6= .int .i64 (frG gs k:Int)/\
   Sp wr [RowA 206 3 (.slice Z k v) k (yd gs [] k).flatten,NA (some ⟨H,0,none⟩) q q (szs gs q k),RdA p (rsAt pre ((gs.drop k).flatMap ZF++gs.flatMap grpB)),BlkA C 124 #[.pointer (some ⟨a,0,none⟩)],BlkA a 208 #[.slice Z k v,.int .i64 (n:Int)],BlkA M 27 #[.int .i64 0],OldA w.heap.size w])
  case atStart=>exact⟨0,none,0,_,zJ _,rfl,rfl,rfl,E⟩
  case round=>
   obtain⟨k,Z,v,pre,hk,rfl,rfl,rfl,U⟩:=hrel;clear E I
   by_cases a4:k<q
   ·obtain⟨g,Hg⟩:∃g,Hid (gs[k]? =some g):=⟨_,zB (by rw [Hq.o];exact a4)⟩;obtain⟨b,S⟩:=eX (frG gs k);obtain⟨z,hz⟩:=eX (g.length);obtain⟨f,t⟩:=eX (glen gs k);have ch:0<z:=(by rw [<-hz];exact List.length_pos_iff.2 (bb.o g (zD Hg.o)));have G:frG gs (k+1)=b+z:=(by rw [d9 Hg.o,S,hz])
    have a0:b+z<=n:=by
     rw [<-G];have:=XI gs (k+1);rw [hh.o,hr.o]at this;exact this
    have hw:f<=nb:=(by rw [<-t];exact ht.o k)
    have ha:Sp wr [RdA p (rsAt pre (zP z++(zP f++((gs.drop (k+1)).flatMap ZF++gs.flatMap grpB)))),RowA 206 3 (.slice Z k v) k (yd gs [] k).flatten,NA (some ⟨H,0,none⟩) q q (szs gs q k),BlkA C 124 #[.pointer (some ⟨a,0,none⟩)],BlkA a 208 #[.slice Z k v,.int .i64 (n:Int)],BlkA M 27 #[.int .i64 0],OldA w.heap.size w]:=by
     have h:=U.p2;rw [yb Hg.o,zp]at h;rw [show ZF g=zP z++zP f by unfold ZF;rw [hz,<-pB Hg.o,t],zO,zO]at h;exact h
    rw [S];have hm:=zA G;have y3:=zA S;have hf:=zA t;have hp:=zA (ZH ha 16384 (by omega));rw [yn (by omega) (by omega)]at hp;clear U ha S hz t G;go_wp2_with fail;refine hp.o.mono ?_;rintro e w5 ⟨rfl,hd⟩;obtain⟨Bk,bg⟩:=eX (w5.heap.size);obtain⟨te,hs⟩:=eX (b+z);have b3:(b:Int)+(z:Int)=(te:Int):=(by omega)
    have bt:IntKind.i64.wrap (te:Int)=(te:Int):=(by rw [zT];omega);have Q:=(hd.blkH 206 #[.int .i64 (b:Int),.int .i64 (te:Int),.slice none 0 0] bg).p1;have he:=zA (ZH Q nb (by omega));rw [yn (by omega) hw]at he;clear hp hd Q;go_wp2_with fail;refine he.o.mono ?_;rintro e w6 ⟨rfl,y⟩;have cg:(k:Int)<q:=(by omega)
    have bk:w6.cell? ⟨H,k,none⟩=some (.int .i64 0):=y.rowCell M3 (by
     unfold szs ints;rw [zH,zR (by simp),zK,xg,yh,show q - k=(q - (k+1))+1 by omega,List.replicate_succ];rfl)
    have bm:=y.rowFree M3 k;have r:=y.p3.rowSet k (.int .i64 (f:Int));rw [<-hf.o,KS a4,hf.o]at r;clear he y;go_upto_region 12 with fail;obtain⟨W6,ax⟩:=eX (w6.setCell ⟨H,k,none⟩ (.int .i64 (f:Int)));rw [ax]at r⊢
    have au:W6.drew.cell? ⟨Bk,0,none⟩=some (.int .i64 (b:Int))/\W6.drew.cell? ⟨Bk,1,none⟩=some (.int .i64 (te:Int))/\W6.drew.cell? ⟨C,0,none⟩=some (.pointer (some ⟨a,0,none⟩))/\W6.drew.cell? ⟨a,1,none⟩=some (.int .i64 (n:Int)):=⟨r.drew.cell M2 0,r.drew.cell M2 1,r.drew.cell M4 0,r.drew.cell M5 1⟩;have N:=zA (Zm r.drew.p1);have bp:(b:Int)<te:=(by omega)
    have bo:(te:Int)<=n:=(by omega);have b0:decide ((b:Int)<te)=true:=decide_eq_true bp;have bz:decide ((te:Int)<=n)=true:=decide_eq_true bo;clear bk bm ax
    go_cut []from 51 to 66 (fun W=>W=W6.drew)
    case first=>
     go_region_held3 (fun W=>W.cell? ⟨Bk,0,none⟩=some (.int .i64 (b:Int))/\W.cell? ⟨Bk,1,none⟩=some (.int .i64 (te:Int))/\W.cell? ⟨C,0,none⟩=some (.pointer (some ⟨a,0,none⟩))/\W.cell? ⟨a,1,none⟩=some (.int .i64 (n:Int))) (first|with_reducible assumption|fail)
      ((go_at_call 144;(with_reducible refine N.o.mono ?_);rintro e w7 ⟨rfl,rfl⟩))
     all_goals
      go_wp2
      go_meet
      rfl
    case rest=>
     have R:=r.drew;rw [<-hcut]at R;have I:=R.drew.p3;have az:=I.cl M5 0;have ab:=I.cl M4 0;have y7:=I.cl M3 0;have y8:=I.cl M3 1;have aa:=I.cl M3 2;have bu:∀o,(wc.alloc o).cell? ⟨a,0,none⟩=some (.slice Z k v):=fun o=>(R.p3.al o).cell M5 0;clear au N r R hcut;go_upto_region 13 with fail
     go_cut []from 67 to 76 (fun W=>∃(A8:aA) (c8:Nat),Sp W [BlkA a 208 #[.slice A8 (k+1) c8,.int .i64 (n:Int)],RowA 206 3 (.slice A8 (k+1) c8) (k+1) (yd gs [] (k+1)).flatten,NA (some ⟨H,0,none⟩) q q (szs gs q (k+1)),RdA p (rsAt (pre++zP z++zP f) ((gs.drop (k+1)).flatMap ZF++gs.flatMap grpB)),BlkA Bk 206 #[.int .i64 (b:Int),.int .i64 (te:Int),.slice none 0 0],BlkA C 124 #[.pointer (some ⟨a,0,none⟩)],BlkA M 27 #[.int .i64 0],OldA w.heap.size w])
     case first=>
      have bv:wc.drew.cell? ⟨C,0,none⟩=some (.pointer (some ⟨a,0,none⟩))/\wc.drew.cell? ⟨Bk,0,none⟩=some (.int .i64 (b:Int))/\wc.drew.cell? ⟨Bk,1,none⟩=some (.int .i64 (te:Int))/\wc.drew.cell? ⟨Bk,2,none⟩=some (.slice none 0 0):=⟨ab,y7,y8,aa⟩;refine wp_region_noPanic ?_
      refine gR [(10,fun W=>W.cell? ⟨a,0,none⟩=some (.slice Z k v)/\W.cell? ⟨C,0,none⟩=some (.pointer (some ⟨a,0,none⟩))/\W.cell? ⟨Bk,0,none⟩=some (.int .i64 (b:Int))/\W.cell? ⟨Bk,1,none⟩=some (.int .i64 (te:Int))/\W.cell? ⟨Bk,2,none⟩=some (.slice none 0 0))] (hB ⟨az,ab,y7,y8,aa⟩) ?_;refine gL 0 10 M0 ?_;refine gL 1 10 M0 ?_;refine gF 2 ?_;refine gF 3 ?_;refine gL 4 10 M0 ?_
      refine gL 5 10 M0 ?_;intro hC;refine gO 6 fun K hK=> ?_;go_simp;refine hK.o _ _ (hB ⟨(I.al _).cell M5 0,(I.al _).cell M4 0,(I.al _).cell M3 0,(I.al _).cell M3 1,(I.al _).cell M3 2⟩) ?_;clear hK K hC;intro hC;refine gO 7 fun K hK=> ?_
      refine yz JZ (.tmp 71) (.tmp 73) rfl rfl I rfl (cs:= #[.int .i64 (b:Int),.int .i64 (te:Int),.slice none 0 0]) rfl rfl rfl (by intro u hu;simp at hu;rcases hu with rfl|rfl|rfl<;>rfl) (by omega) (by omega) ?_
      intro A8 c8 w8 bj bq E;have q0:=E.cl M5 0;have q2:=(E.blkOf M5).frozen 0;refine hK.o _ _ (hB ⟨E.cell M5 0,E.cell M4 0,E.cell M3 0,E.cell M3 1,E.cell M3 2⟩) ?_;clear hK K hC;refine gF 8 ?_;refine gF 9 ?_;intro hC;refine gO 10 fun K hK=> ?_;go_simp;refine hK.o _ _ hA ?_;clear hK K hC;intro hC;refine xW (by kernel_rfl) ?_;refine NoPanic.normal ?_
      all_goals
       go_wp2
       go_meet
       refine⟨A8,c8,?_⟩;have h:=E.p5.set 0 (.slice A8 (k+1) c8)
       have e:(yd gs [] k).flatten++ #[Value.int .i64 (b:Int),.int .i64 (te:Int),.slice none 0 0].toList=(yd gs [] (k+1)).flatten:=by
        rw [s8,yf];simp only [Yj,y3.o,hm.o,hs,yM,List.flatten_nil,zo];rfl
       rw [e]at h;exact h
     case rest=>
      obtain⟨A8,c8,E⟩:=hcut;have b6:=E.cl M4 1;clear I az ab y7 y8 aa bu;go_wp2
      go_roundg (q - (k+1))
      ·exact⟨k+1,A8,c8,_,by omega,rfl,by go_num,by rw [hm.o,hs],E.sel [1,2,3,5,0,6,7]⟩
      ·omega
   ·obtain rfl:k=q:=by omega
    have a1:frG gs k=n:=(by unfold frG;rw [zF (by rw [Hq.o];omega),hh.o,hr.o]);rw [a1];rw [zQ (by rw [Hq.o];omega),x7,zZ]at U
    have ha:Sp wr [RdA p (rsAt pre ((gs.drop 0).flatMap grpB)),BlkA a 208 #[.slice Z k v,.int .i64 (n:Int)],RowA 206 3 (.slice Z k v) k (yd gs [] k).flatten,zz (bysA gs []),zz (([]:aE).map fun D=>ObjA D (.deferred (some []))),NA (some ⟨H,0,none⟩) k k (szs gs k k),BlkA C 124 #[.pointer (some ⟨a,0,none⟩)],BlkA M 27 #[.int .i64 0],OldA w.heap.size w]:=U.starNil.starNil.sel [4,6,2,0,1,3,5,7,8]
    have N:=zA (Zm ha);have bf:=ha.cl M1 1;have be:=ha.cl M1 0;have bd:=ha.d1.cl M5 0;clear U;go_wp2_with (refine N.o.mono ?_;rintro e w7 ⟨rfl,rfl⟩);clear N bf be bd a1
    refine wp_loop_ghost_k (fun gk a' wr=>∃(u10 u11 u94 u95 u96 u97 u98 u99 u100 u101 u102 u103 u104 u105 u106 u107 u108 u109 u110 u111 u112 u113 u114 u115 u116 u117 u118 u119:V) (Ds:aE) (j:Nat) (As:List aA) (pre:aC),(j<=k/\gk=k - j/\As.length=j/\Sp wr [RdA p (rsAt pre ((gs.drop j).flatMap grpB)),BlkA a 208 #[.slice Z k v,.int .i64 (n:Int)],RowA 206 3 (.slice Z k v) k (yd gs As k).flatten,zz (bysA gs As),zz (Ds.map fun D=>ObjA D (.deferred (some []))),NA (some ⟨H,0,none⟩) k k (szs gs k k),BlkA C 124 #[.pointer (some ⟨a,0,none⟩)],BlkA M 27 #[.int .i64 0],OldA w.heap.size w])/\
     a' ={tmps:= #[.slice A nb c,undef,.pointer (some ⟨C,0,none⟩),.pointer (some ⟨M,0,none⟩),.pointer (some ⟨p,0,none⟩),.int .i64 (k:Int),.int .i64 (n:Int),.slice (some ⟨H,0,none⟩) k k,u8,u9,u10,u11,undef,undef,undef,undef,undef,.func (.func 143) #[] #[.pointer (some ⟨C,0,none⟩),.pointer (some ⟨M,0,none⟩)],.slice A nb c,.pointer (some ⟨p,0,none⟩),.pointer (some ⟨p,0,none⟩),.int .i64 (n:Int),.agg #[.slice none 0 0,.int .i64 (n:Int)],.pointer (some ⟨a,0,none⟩),.pointer (some ⟨p,0,none⟩),.pointer (some ⟨a,0,none⟩),.pointer (some ⟨a,0,none⟩),.pointer (some ⟨a,1,none⟩),.int .i64 (n:Int),.int .i64 (k:Int),.pointer (some ⟨p,0,none⟩),.tuple #[],u32,u33,.int .i64 (k:Int),.int .i64 (k:Int),.bool false,u37,u38,u39,u40,u41,u42,u43,u44,u45,u46,u47,u48,u49,u50,u51,u52,u53,u54,u55,u56,u57,u58,u59,u60,u61,u62,u63,u64,u65,u66,u67,u68,u69,u70,u71,u72,u73,u74,u75,u76,u77,u78,u79,.pointer (some ⟨p,0,none⟩),.int .i64 (n:Int),.pointer (some ⟨a,0,none⟩),.pointer (some ⟨a,0,none⟩),.pointer (some ⟨a,1,none⟩),.int .i64 (n:Int),.bool true,.tuple #[],.pointer (some ⟨a,0,none⟩),.pointer (some ⟨a,0,none⟩),.pointer (some ⟨a,0,none⟩),.slice Z k v,.int .i64 (k:Int),.int .i64 (j:Int),u94,u95,u96,u97,u98,u99,u100,u101,u102,u103,u104,u105,u106,u107,u108,u109,u110,u111,u112,u113,u114,u115,u116,u117,u118,u119,undef,undef,undef,undef,undef,undef,undef,undef,undef,undef,undef,undef,undef,undef,undef,undef,undef,undef,undef,undef,undef,undef,undef,undef,undef,undef,undef,undef,undef,undef],defers:=Ds.map (fun D=>{target:= .collected D,args:= #[]})++ [{target:= .fn (.func 143) #[.pointer (some ⟨C,0,none⟩),.pointer (some ⟨M,0,none⟩)],args:= #[]}]}) k ?_ ?_
    ·exact⟨_,_,_,_,_,_,_,_,_,_,_,_,_,_,_,_,_,_,_,_,_,_,_,_,_,_,_,_, [],0, [],_,⟨zJ _,rfl,rfl,ha⟩,rfl⟩
    ·rintro gk _ wr ⟨u10,u11,u94,u95,u96,u97,u98,u99,u100,u101,u102,u103,u104,u105,u106,u107,u108,u109,u110,u111,u112,u113,u114,u115,u116,u117,u118,u119,Ds,j,As,pre,⟨hj,rfl,hv,U⟩,rfl⟩ J K hJ hK;clear ha
     by_cases a3:j<k
     ·obtain⟨g,Hg⟩:∃g,Hid (gs[j]? =some g):=⟨_,zB (by rw [Hq.o];exact a3)⟩;obtain⟨gc,rfl, -, -, -⟩:=(U.rowOf M2).at_ (by omega)
      obtain⟨f,t⟩:=eX (glen gs j);have hw:f<=nb:=(by rw [<-t];exact ht.o j);have af:(grpB g).length=f:=(by rw [<-pB Hg.o,t]);have bx :(j:Int)<k:=(by omega);have c1:=U.d1.cl M5 0;have c2:=U.cl M1 0
      have c3:wr.cell? ⟨H,j,none⟩=some (.int .i64 (f:Int)):=by
       have h:=U.rowCell M5 (KT a3);rw [t]at h;exact h
      have hd:Sp wr [RdA p (rsAt pre (grpB g++(gs.drop (j+1)).flatMap grpB)),BlkA a 208 #[.slice (some ⟨gc,0,none⟩) k v,.int .i64 (n:Int)],RowA 206 3 (.slice (some ⟨gc,0,none⟩) k v) k (yd gs As k).flatten,zz (bysA gs As),zz (Ds.map fun D=>ObjA D (.deferred (some []))),NA (some ⟨H,0,none⟩) k k (szs gs k k),BlkA C 124 #[.pointer (some ⟨a,0,none⟩)],BlkA M 27 #[.int .i64 0],OldA w.heap.size w]:=by
       rw [yb Hg.o,zp]at U;exact U
      have ak:=zA (XQ hd af (by omega));have hf:=zA t;have b4:=zA af;clear U hd t af;go_wp2_with fail;refine ak.o.mono ?_;rintro e w8 ⟨A5,rfl,Q⟩;have hy:=u6 (gs:=gs) (As:=As) (m:=k) A5 (by omega);rw [hv,hf.o]at hy;have q0:w8.cell? ⟨gc,j*3+2,none⟩=some (.slice none 0 0):=Q.rowCell M3 (Zi (k:=j) (j:=2) (by omega) (u7 (by omega)));have q1:=Q.rowFree M3 (j*3+2)
      have y:=Q.p3.rowSet (j*3+2) (.slice A5 f f);rw [hy]at y;obtain⟨b,S⟩:=eX (frG gs j);obtain⟨z,hz⟩:=eX (g.length);have G:frG gs (j+1)=b+z:=(by rw [d9 Hg.o,S,hz])
      have hg:Yj gs (As++ [A5]) j= [.int .i64 (b:Int),.int .i64 ((b+z:Nat):Int),.slice A5 f f]:=by
       unfold Yj;rw [S,G,hf.o,zR (by omega),hv,yh];rfl
      obtain⟨W4,aw⟩:=eX (w8.setCell ⟨gc,j*3+2,none⟩ (.slice A5 f f));rw [aw]at y;have e0:W4.cell? ⟨gc,j*3,none⟩=some (.int .i64 (b:Int)):=y.rowCell M0 (Zi (k:=j) (j:=0) (by omega) (by rw [hg];rfl));have e1:W4.cell? ⟨gc,j*3+1,none⟩=some (.int .i64 ((b+z:Nat):Int)):=y.rowCell M0 (Zi (k:=j) (j:=1) (by omega) (by rw [hg];rfl))
      have e2:W4.cell? ⟨gc,j*3+2,none⟩=some (.slice A5 f f):=y.rowCell M0 (Zi (k:=j) (j:=2) (by omega) (by rw [hg];rfl));have N:=zA (Zm y.p2);have hm:=zA G;have Hz:=zA hz
      have hs:(b+z:Nat)<=n:=by
       rw [<-G];have:=XI gs (j+1);rw [hh.o,hr.o]at this;exact this
      obtain⟨te,h9⟩:=eX (b+z);rw [h9]at e1 hs;have HB:Hid (∀B:Nat,W4.heap.size=B->Sp (W4.alloc (.cells #[.int .i64 (b:Int),.int .i64 (te:Int),.slice A5 f f] 206)) (BlkA B 206 #[.int .i64 (b:Int),.int .i64 (te:Int),.slice A5 f f]::_)):=fun B hB=>y.blkH _ _ hB;clear Q y hy hg G S hz ak c1 c3;go_upto_region 22 with fail;clear q0 q1 aw
      go_wp2_with (first
       |(go_at_call 144;refine N.o.mono ?_;rintro e w9 ⟨rfl,rfl⟩)
       |(go_at_call 108;refine(lW _ _ _ _).mono ?_;rintro e ba ⟨rfl,rfl⟩)
       |fail)
      have a6:te=b+g.length:=(by rw [Hz.o,h9]);subst a6;obtain⟨Bc,aq⟩:=eX (w9.heap.size);rw [aq];have r:=HB.o Bc aq;have ae:Hid (∀x∈g,Y9 x=true/\QB x):=fun x hx=>y4.o x (by rw [<-hh.o];exact List.mem_flatten.2 ⟨g,zD Hg.o,hx⟩)
      have R:Sp (w9.alloc (.cells #[.int .i64 (b:Int),.int .i64 ((b+g.length:Nat):Int),.slice A5 f f] 206)) (BlkA Bc 206 #[.int .i64 (b:Int),.int .i64 ((b+g.length:Nat):Int),.slice A5 f f]::BA A5 f f (grpB g):: [RowA 206 3 (.slice (some ⟨gc,0,none⟩) k v) k (yd gs (As++ [A5]) k).flatten,RdA p (rsAt (pre++grpB g) ((gs.drop (j+1)).flatMap grpB)),BlkA a 208 #[.slice (some ⟨gc,0,none⟩) k v,.int .i64 (n:Int)],zz (bysA gs As),zz (Ds.map fun D=>ObjA D (.deferred (some []))),NA (some ⟨H,0,none⟩) k k (szs gs k k),BlkA C 124 #[.pointer (some ⟨a,0,none⟩)],BlkA M 27 #[.int .i64 0],OldA w.heap.size w]):=r.p2.p1
      clear r HB e0 e1 e2 c2;refine(wpIn_wide (n:=6)).1 ?_
      refine Wz (F:=Fence.wide) (gf:=189) (lb:= #[.pointer (some ⟨Bc,0,none⟩)]) (L' :=BlkA Bc 206 #[.int .i64 (b:Int),.int .i64 ((b+g.length:Nat):Int),.slice A5 f f]::BA A5 f f (grpB g):: [RowA 206 3 (.slice (some ⟨gc,0,none⟩) k v) k (yd gs (As++ [A5]) k).flatten,RdA p (rsAt (pre++grpB g) ((gs.drop (j+1)).flatMap grpB)),BlkA a 208 #[.slice (some ⟨gc,0,none⟩) k v,.int .i64 (n:Int)],zz (bysA gs As),zz (Ds.map fun D=>ObjA D (.deferred (some []))),NA (some ⟨H,0,none⟩) k k (szs gs k k),BlkA C 124 #[.pointer (some ⟨a,0,none⟩)],BlkA M 27 #[.int .i64 0],OldA w.heap.size w]) rfl (by omega) rfl trivial (enters_of func189 (by kernel_rfl) rfl) R
       (fun vals X Y=>∃(v0:V) (A' :aA) (n' c' :Nat) (x:List Entry),vals= #[v0,.slice A' n' c']/\X= [DatA (.slice A' n' c') x]/\Y= []) ?body ?seq ?done
      case body=>
       rintro l _ _ _ ⟨v0,A',n',c',x,rfl,rfl,rfl⟩;exact⟨rfl,_,fun W K hK=>wpIn_skip hK,fun T W h=>wpIn_block (wpIn_skip ⟨rfl,h.tail⟩)⟩
      case seq=>
       intro l T0 hY W hW
       refine pE (T0:=T0) (fun _=> [RowA 206 3 (.slice (some ⟨gc,0,none⟩) k v) k (yd gs (As++ [A5]) k).flatten,RdA p (rsAt (pre++grpB g) ((gs.drop (j+1)).flatMap grpB)),BlkA a 208 #[.slice (some ⟨gc,0,none⟩) k v,.int .i64 (n:Int)],zz (bysA gs As),zz (Ds.map fun D=>ObjA D (.deferred (some []))),NA (some ⟨H,0,none⟩) k k (szs gs k k),BlkA C 124 #[.pointer (some ⟨a,0,none⟩)],BlkA M 27 #[.int .i64 0],OldA w.heap.size w]) l 5 (by omega) ae.o (by omega) ?_ hW (by omega)
       intro k2 x A' n' c' T W2 hx h
       have h2:=hY #[.int .i64 ((b+k2:Nat):Int),.slice A' n' c'] [DatA (.slice A' n' c') x] [] ([RowA 206 3 (.slice (some ⟨gc,0,none⟩) k v) k (yd gs (As++ [A5]) k).flatten,RdA p (rsAt (pre++grpB g) ((gs.drop (j+1)).flatMap grpB)),BlkA a 208 #[.slice (some ⟨gc,0,none⟩) k v,.int .i64 (n:Int)],zz (bysA gs As),zz (Ds.map fun D=>ObjA D (.deferred (some []))),NA (some ⟨H,0,none⟩) k k (szs gs k k),BlkA C 124 #[.pointer (some ⟨a,0,none⟩)],BlkA M 27 #[.int .i64 0],OldA w.heap.size w]++T) W2 ⟨_,_,_,_,_,rfl,rfl,rfl⟩ (by rw [zO];exact h)
       rw [zO]at h2;exact h2
      case done=>
       intro D W hW;have h1:=((hW.sel [1,5,11,6,3,4,2,7,8,9,10]).starPush.p1.p2.p1.starIn).sel [2,3,4,1,0,5,6,7,8];clear hW R;go_wp2;refine⟨k - (j+1),by omega,hJ _ _ _ ⟨_,_,_,_,_,_,_,_,_,_,_,_,_,_,_,_,_,_,_,_,_,_,_,_,_,_,_,_,D::Ds,j+1,As++ [A5],pre++grpB g,⟨by omega,rfl,by simp [hv],?_⟩,rfl⟩⟩;rw [F8,hv,hf.o,Hg.o];exact h1
     ·obtain rfl:j=k:=by omega
      rw [zQ (by rw [Hq.o];omega),x7]at U;have y1:=Xz U;rw [YL]at y1;have am:=zA y1;clear y1;go_wp2_with fail;refine am.o.mono ?_;rintro e w8 ⟨rfl,k8,rfl⟩;have hd:=U.drewN k8;have N:=zA (Zm hd);obtain⟨Lb,y6⟩:=eX ((wr.drewN k8).heap.size);have Q:=(((hd.nil 36 1).elsNil (α:=List Entry)).blkH 179 #[.slice none 0 0] y6)
      have c1:((wr.drewN k8).alloc (.cells #[.slice none 0 0] 179)).cell? ⟨C,0,none⟩=some (.pointer (some ⟨a,0,none⟩)):=Q.d1.d1.d1.cell M6 0;have c2:((wr.drewN k8).alloc (.cells #[.slice none 0 0] 179)).cell? ⟨a,0,none⟩=some (.slice Z j v):=Q.cell M4 0;clear U am;go_wp2_with (go_at_call 144;refine N.o.mono ?_;rintro e w9 ⟨rfl,rfl⟩);clear c1 c2 N
      have h7:wr.heap.size=Lb:=y6;rw [h7]
      have y:Sp ((wr.drewN k8).alloc (.cells #[.slice none 0 0] 179)) [AllA Lb docs 0,BlkA a 208 #[.slice Z j v,.int .i64 (n:Int)],RowA 206 3 (.slice Z j v) j (yd gs As j).flatten,zz (bysA gs As),zz (Ds.map fun D=>ObjA D (.deferred (some []))),BlkA C 124 #[.pointer (some ⟨a,0,none⟩)],BlkA M 27 #[.int .i64 0],RdA p (rsAt pre []),OldA w.heap.size w]:=
       Sp.allIn (A:=none) (c:=0) (css:= []) (m:=0) (docs:=docs) (Q.sel [0,2,1,4,5,6,7,9,10,3,11])
      clear Q y6 h7 hd
      refine wp_loop_ghost_k (fun gk a' wr=>∃(a8 a9 xb xi xn xs x1 x2 x3 x4 x5 x6 x8 ys:V) (Ds:aE) (i:Nat),(i<=j/\gk=j - i/\Sp wr [AllA Lb docs (frG gs i),BlkA a 208 #[.slice Z j v,.int .i64 (n:Int)],RowA 206 3 (.slice Z j v) j (yd gs As j).flatten,zz (bysA gs As),zz (Ds.map fun D=>ObjA D (.deferred (some []))),BlkA C 124 #[.pointer (some ⟨a,0,none⟩)],BlkA M 27 #[.int .i64 0],RdA p (rsAt pre []),OldA w.heap.size w])/\
       a' ={tmps:= #[.slice A nb c,undef,.pointer (some ⟨C,0,none⟩),.pointer (some ⟨M,0,none⟩),.pointer (some ⟨p,0,none⟩),.int .i64 (j:Int),.int .i64 (n:Int),.slice (some ⟨H,0,none⟩) j j,u8,u9,u10,u11,.pointer (some ⟨Lb,0,none⟩),undef,a8,undef,a9,.func (.func 143) #[] #[.pointer (some ⟨C,0,none⟩),.pointer (some ⟨M,0,none⟩)],.slice A nb c,.pointer (some ⟨p,0,none⟩),.pointer (some ⟨p,0,none⟩),.int .i64 (n:Int),.agg #[.slice none 0 0,.int .i64 (n:Int)],.pointer (some ⟨a,0,none⟩),.pointer (some ⟨p,0,none⟩),.pointer (some ⟨a,0,none⟩),.pointer (some ⟨a,0,none⟩),.pointer (some ⟨a,1,none⟩),.int .i64 (n:Int),.int .i64 (j:Int),.pointer (some ⟨p,0,none⟩),.tuple #[],u32,u33,.int .i64 (j:Int),.int .i64 (j:Int),.bool false,u37,u38,u39,u40,u41,u42,u43,u44,u45,u46,u47,u48,u49,u50,u51,u52,u53,u54,u55,u56,u57,u58,u59,u60,u61,u62,u63,u64,u65,u66,u67,u68,u69,u70,u71,u72,u73,u74,u75,u76,u77,u78,u79,.pointer (some ⟨p,0,none⟩),.int .i64 (n:Int),.pointer (some ⟨a,0,none⟩),.pointer (some ⟨a,0,none⟩),.pointer (some ⟨a,1,none⟩),.int .i64 (n:Int),.bool true,.tuple #[],.pointer (some ⟨a,0,none⟩),.pointer (some ⟨a,0,none⟩),.pointer (some ⟨a,0,none⟩),.slice Z j v,.int .i64 (j:Int),.int .i64 (j:Int),.bool false,u95,u96,u97,u98,u99,u100,u101,u102,u103,u104,u105,u106,u107,u108,u109,u110,u111,u112,u113,u114,u115,u116,u117,u118,u119,.pointer (some ⟨p,0,none⟩),.pointer (some ⟨p,0,none⟩),.int .i64 0,.bool true,.tuple #[],.pointer (some ⟨a,0,none⟩),.pointer (some ⟨a,0,none⟩),.pointer (some ⟨a,0,none⟩),.slice Z j v,.int .i64 (j:Int),.int .i64 (i:Int),xb,xi,xn,xs,x1,x2,x3,x4,x5,x6,x8,ys,undef,undef,undef,undef,undef,undef,undef],defers:=Ds.map (fun D=>{target:= .collected D,args:= #[]})++ [{target:= .fn (.func 143) #[.pointer (some ⟨C,0,none⟩),.pointer (some ⟨M,0,none⟩)],args:= #[]}]}) j ?_ ?_
      ·exact⟨_,_,_,_,_,_,_,_,_,_,_,_,_,_,Ds,0,⟨zJ _,rfl,y⟩,rfl⟩
      ·rintro gk _ wr ⟨a8,a9,xb,xi,xn,xs,x1,x2,x3,x4,x5,x6,x8,ys,Ds,i,⟨hi,rfl,U⟩,rfl⟩ J K hJ hK;clear y
       by_cases bn:i<j
       ·obtain⟨g,Hg⟩:∃g,Hid (gs[i]? =some g):=⟨_,zB (by rw [Hq.o];exact bn)⟩;obtain⟨gc,rfl, -, -, -⟩:=(U.rowOf M2).at_ (by omega)
        obtain⟨f,t⟩:=eX (glen gs i);have hw:f<=nb:=(by rw [<-t];exact ht.o i);obtain⟨Ai,y5⟩:∃Ai,As[i]? =some Ai:=⟨_,zB (by omega)⟩;obtain⟨b,S⟩:=eX (frG gs i);have G:frG gs (i+1)=b+g.length:=(by rw [d9 Hg.o,S])
        have hg:Yj gs As i= [.int .i64 (b:Int),.int .i64 ((b+g.length:Nat):Int),.slice Ai f f]:=by
         unfold Yj;rw [S,G,t,y5]
        have ay:(bysA gs As)[i]? =some (BA Ai f f (grpB g)):=by
         rw [KF (by omega)];unfold byA;rw [y5,t,Hg.o];rfl
        have e0:wr.cell? ⟨gc,i*3,none⟩=some (.int .i64 (b:Int)):=U.rowCell M2 (Zi (k:=i) (j:=0) (by omega) (by rw [hg];rfl));have e1:wr.cell? ⟨gc,i*3+1,none⟩=some (.int .i64 ((b+g.length:Nat):Int)):=U.rowCell M2 (Zi (k:=i) (j:=1) (by omega) (by rw [hg];rfl));have e2:wr.cell? ⟨gc,i*3+2,none⟩=some (.slice Ai f f):=U.rowCell M2 (Zi (k:=i) (j:=2) (by omega) (by rw [hg];rfl))
        have hs:b+g.length<=n:=by
         rw [<-G];have:=XI gs (i+1);rw [hh.o,hr.o]at this;exact this
        rw [S]at U;have y3:=zA S;have hm:=zA G;have ap:=zA ay;obtain⟨tl,a7⟩:=eX (b+g.length);rw [a7]at e1 hs;have bw :(i:Int)<j:=(by omega);obtain⟨Cj,ar⟩:=eX (wr.heap.size);have r:=U.blkH 206 #[.int .i64 (b:Int),.int .i64 (tl:Int),.slice Ai f f] ar
        have f0:(wr.alloc (.cells #[.int .i64 (b:Int),.int .i64 (tl:Int),.slice Ai f f] 206)).cell? ⟨Cj,0,none⟩=some (.int .i64 (b:Int)):=r.cell M0 0;have f1:(wr.alloc (.cells #[.int .i64 (b:Int),.int .i64 (tl:Int),.slice Ai f f] 206)).cell? ⟨Cj,1,none⟩=some (.int .i64 (tl:Int)):=r.cell M0 1
        have f2:(wr.alloc (.cells #[.int .i64 (b:Int),.int .i64 (tl:Int),.slice Ai f f] 206)).cell? ⟨Cj,2,none⟩=some (.slice Ai f f):=r.cell M0 2;clear U S G t hg ay y5;go_wp2_with (go_at_call 108;refine(lW _ _ _ _).mono ?_;rintro e ba ⟨rfl,rfl⟩);clear e0 e1 e2 f0 f1 f2;subst a7
        have R:=(((r.blkH 206 #[.int .i64 (b:Int),.int .i64 ((b+g.length:Nat):Int),.slice Ai f f] (H:=Cj+1) (by simp [ar])).p5.starAt ap.o).sel [2,0,4,3,5,6,1,7,8,9,10,11]);have ae:Hid (∀x∈g,Y9 x=true/\QB x):=fun x hx=>y4.o x (by rw [<-hh.o];exact List.mem_flatten.2 ⟨g,zD Hg.o,hx⟩)
        have bl:Hid (∀(k2:Nat) (x:List Entry),g[k2]? =some x->docs.take (b+(k2+1))=docs.take (b+k2)++ [x]):=by
         intro k2 x hx;rw [<-Nat.add_assoc,zI];have h:=E8 Hg.o (zN hx);rw [show(gs.take i).flatten.length=b from y3.o,hh.o,hx]at h;rw [h];rfl
        clear r;refine(wpIn_wide (n:=6)).1 ?_
        refine Wz (F:=Fence.wide) (gf:=189) (lb:= #[.pointer (some ⟨Cj+1,0,none⟩)]) (L:=BlkA (Cj+1) 206 #[.int .i64 (b:Int),.int .i64 ((b+g.length:Nat):Int),.slice Ai f f]::BA Ai f f (grpB g)::AllA Lb docs b:: [BlkA Cj 206 #[.int .i64 (b:Int),.int .i64 ((b+g.length:Nat):Int),.slice Ai f f],BlkA a 208 #[.slice (some ⟨gc,0,none⟩) j v,.int .i64 (n:Int)],RowA 206 3 (.slice (some ⟨gc,0,none⟩) j v) j (yd gs As j).flatten,zz ((bysA gs As).eraseIdx i),zz (Ds.map fun D=>ObjA D (.deferred (some []))),BlkA C 124 #[.pointer (some ⟨a,0,none⟩)],BlkA M 27 #[.int .i64 0],RdA p (rsAt pre []),OldA w.heap.size w]) (L' :=BlkA (Cj+1) 206 #[.int .i64 (b:Int),.int .i64 ((b+g.length:Nat):Int),.slice Ai f f]::BA Ai f f (grpB g)::AllA Lb docs (b+g.length):: [BlkA Cj 206 #[.int .i64 (b:Int),.int .i64 ((b+g.length:Nat):Int),.slice Ai f f],BlkA a 208 #[.slice (some ⟨gc,0,none⟩) j v,.int .i64 (n:Int)],RowA 206 3 (.slice (some ⟨gc,0,none⟩) j v) j (yd gs As j).flatten,zz ((bysA gs As).eraseIdx i),zz (Ds.map fun D=>ObjA D (.deferred (some []))),BlkA C 124 #[.pointer (some ⟨a,0,none⟩)],BlkA M 27 #[.int .i64 0],RdA p (rsAt pre []),OldA w.heap.size w]) rfl (by omega) rfl trivial (enters_of func189 (by kernel_rfl) rfl) R
         (fun vals X Y=>∃(k2:Nat) (x:List Entry) (A' :aA) (n' c' :Nat),g[k2]? =some x/\vals= #[.int .i64 ((b+k2:Nat):Int),.slice A' n' c']/\X= [DatA (.slice A' n' c') x,AllA Lb docs (b+k2)]/\Y= [AllA Lb docs (b+(k2+1))]) ?body ?seq ?done
        case body=>
         rintro l _ _ _ ⟨k2,x,A',n',c',hx,rfl,rfl,rfl⟩;have b8:=zN hx;have bc:=zA (bl.o k2 x hx);clear R hx;refine⟨rfl,?_⟩
         apply Exists.intro
         refine⟨?_,?_⟩
         ·intro W K hK
          gi_wp2
          exact hK
         ·intro T W h;obtain⟨Aa,ca,css,h2⟩:=Sp.allOut (L:=DatA (.slice A' n' c') x::T) h.p1;have h3:=h2.p1;have c0:=h3.cl M1 0;clear h h2
          gi_wp2_with (gi_at_builtin;refine YA JY (.tmp 138) (.tmp 140) rfl rfl (h3.al _) rfl rfl (Ye _ #[.slice A' n' c'] _ rfl (H:=W.heap.size) rfl) (by intro u hu;simp at hu;subst hu;rfl) (by omega) (by omega) ?_;intro A8 c8 w8 bj bq h4;have q0:=h4.cl M1 0;have qf:=(h4.blkOf M1).frozen 0)
          have h5:=(((h4.p1.set 0 (.slice A8 (b+k2+1) c8)).p3.p3.p1).elsPush).p2.p2;rw [<-bc.o]at h5;have e:css.flatten++ #[Value.slice A' n' c'].toList=(css++ [[Value.slice A' n' c']]).flatten:=(by simp);rw [e]at h5;exact Sp.allIn h5
        case seq=>
         intro l T0 hY W hW
         refine pE (T0:=T0) (fun k2=>AllA Lb docs (b+k2):: [BlkA Cj 206 #[.int .i64 (b:Int),.int .i64 ((b+g.length:Nat):Int),.slice Ai f f],BlkA a 208 #[.slice (some ⟨gc,0,none⟩) j v,.int .i64 (n:Int)],RowA 206 3 (.slice (some ⟨gc,0,none⟩) j v) j (yd gs As j).flatten,zz ((bysA gs As).eraseIdx i),zz (Ds.map fun D=>ObjA D (.deferred (some []))),BlkA C 124 #[.pointer (some ⟨a,0,none⟩)],BlkA M 27 #[.int .i64 0],RdA p (rsAt pre []),OldA w.heap.size w]) l 5 (by omega) ae.o (by omega) ?_ hW (by omega)
         intro k2 x A' n' c' T W2 hx h
         have h2:=hY #[.int .i64 ((b+k2:Nat):Int),.slice A' n' c'] [DatA (.slice A' n' c') x,AllA Lb docs (b+k2)] [AllA Lb docs (b+(k2+1))] ([BlkA Cj 206 #[.int .i64 (b:Int),.int .i64 ((b+g.length:Nat):Int),.slice Ai f f],BlkA a 208 #[.slice (some ⟨gc,0,none⟩) j v,.int .i64 (n:Int)],RowA 206 3 (.slice (some ⟨gc,0,none⟩) j v) j (yd gs As j).flatten,zz ((bysA gs As).eraseIdx i),zz (Ds.map fun D=>ObjA D (.deferred (some []))),BlkA C 124 #[.pointer (some ⟨a,0,none⟩)],BlkA M 27 #[.int .i64 0],RdA p (rsAt pre []),OldA w.heap.size w]++T) W2 ⟨k2,x,A',n',c',hx,rfl,rfl,rfl⟩ (by rw [zO];exact h)
         rw [zO]at h2;exact h2
        case done=>
         intro D W hW;have h1:=(Sp.starBack (X:=BA Ai f f (grpB g)) (hW.sel [1,6,12,7,2,4,5,8,9,10,11]) ap.o).p1.p2.p1.starIn.sel [2,3,4,1,0,5,6,7,8];clear hW R;go_wp2;refine⟨j - (i+1),by omega,hJ _ _ _ ⟨_,_,_,_,_,_,_,_,_,_,_,_,_,_,D::Ds,i+1,⟨by omega,rfl,?_⟩,rfl⟩⟩;rw [hm.o];exact h1
       ·obtain rfl:i=j:=by omega
        have a0:frG gs i=n:=(by unfold frG;rw [zF (by rw [Hq.o];omega),hh.o,hr.o]);rw [a0]at U;obtain⟨Aa,ca,css,h2⟩:=Sp.allOut U;rw [zF (by rw [hr.o];omega)]at h2
        have r:Sp wr [DatA (.slice Aa n ca) docs,BlkA Lb 179 #[.slice Aa n ca],BlkA a 208 #[.slice Z i v,.int .i64 (n:Int)],RowA 206 3 (.slice Z i v) i (yd gs As i).flatten,zz (bysA gs As),zz (Ds.map fun D=>ObjA D (.deferred (some []))),BlkA C 124 #[.pointer (some ⟨a,0,none⟩)],BlkA M 27 #[.int .i64 0],RdA p (rsAt pre []),OldA w.heap.size w]:=
         (Sp.els (α:=List Entry) (h2.sel [1,2,0,3,4,5,6,7,8,9,10]))
        have aj:=zA (gN Aa n ca docs wr (r.ls M0) hn y4.o);have c0:=r.cl M1 0;clear h2 U;go_wp2_with fail;refine aj.o.mono ?_;rintro e w8 ⟨A8,m8,c8,rfl,ao⟩;have E:=r.c1 ao;have y0:=zA (bY A8 A m8 nb c8 c (ZB docs) (ZB docs) w8 (by have:=(E.rb M0).2;omega) (E.rb M0).1 (Hl.o.on ((E.d1.d1).below M8)));rw [decide_eq_true rfl]at y0;clear aj ao r;go_wp2_with fail
        refine y0.o.mono ?_;rintro e w9 ⟨rfl,q9,rfl⟩;have ho:=(E.drewN q9).sel [9,3,4,5,6,7,8,10];have N:=zA (Zm ho);have g0:(w8.drewN q9).cell? ⟨C,0,none⟩=some (.pointer (some ⟨a,0,none⟩)):=ho.cell M5 0;have g1:=(ho.blkOf M5).frozen 0;have g2:(w8.drewN q9).cell? ⟨M,0,none⟩=some (.int .i64 0):=ho.cell M6 0;have g3:=(ho.blkOf M6).frozen 0;have cf:M≠C:=(by omega)
        have b1:C≠M:=(by omega);clear E y0;go_wp2_with (go_at_call 144;refine N.o.mono ?_;rintro e ba ⟨rfl,rfl⟩);have hS:=(((ho.p5.set 0 (.pointer (some ⟨a,0,none⟩))).p6.set 0 (.int .i64 0)).sel [6,3,4,5,1,0,7]);clear ho N;have eg:=enters_of func143 (by kernel_rfl) rfl
        refine Vy (L:= [BlkA a 208 #[.slice Z i v,.int .i64 (n:Int)],RowA 206 3 (.slice Z i v) i (yd gs As i).flatten,zz (bysA gs As),BlkA C 124 #[.pointer (some ⟨a,0,none⟩)],BlkA M 27 #[.int .i64 0],OldA w.heap.size w]) (fun w' h=> ?_) Ds hS
        refine⟨by simp,.inr ⟨fun _=>by omega,.func 143,#[.pointer (some ⟨C,0,none⟩),.pointer (some ⟨M,0,none⟩)],143,#[.pointer (some ⟨C,0,none⟩),.pointer (some ⟨M,0,none⟩)],rfl,by simp [invoke,go_sem,eg],fun _ _=>trivial,?_⟩⟩;refine(tZ _ ⟨C,0,none⟩ ⟨M,0,none⟩ w').mono ?_;rintro e u' ci ⟨rfl,rfl,hb⟩;have h2:=h.grow hb
        refine⟨_,C6 (s:=C) (e:=M) (by rfl) (by rfl) (h2.cell M3 0) (h2.cell M4 0),a,v,Z,As,rfl,hv,?_⟩;exact h2.sel [0,1,2,5]
end Go.Proofs.YtjbhbfaeielbiaaGreatDoor

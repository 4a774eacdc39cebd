import Derived.Test.YtjbhbfaeielbiaaGreatDoorPart42
import Derived.Deep.Fields
import Derived.OpenShut
set_option maxRecDepth 100000
set_option maxHeartbeats 8000000
set_option linter.unusedVariables false
set_option linter.unusedSimpArgs false
namespace Go.Proofs.YtjbhbfaeielbiaaGreatDoor
open Go.Proofs.Tryz
open Rep (rep)
open Go.RowKit Go.Shelf
attribute [local go_sem] Oper.semAt_some
attribute [local go_sem ↓] zU zV
theorem JZ :Elt prog 204 206 3 40:=xt (by kernel_rfl) (by decide) (by kernel_rfl)
theorem LR (gs:List N7) (k:Nat):glen gs k<=(gs.flatMap grpB).length:=by
 unfold glen;rcases h:gs[k]? with _|g
 ·simp [grpB]
 ·exact XN (f:=grpB) (zD h)
theorem EA (n:Nat):(madeCells (Value.int .i64 0).cells (n*1)).toList=ints (List.replicate n 0):=by
 simp [madeCells,Value.cells,Nat.mod_one,List.map_const',ints]
def szs (gs:List N7) (q k:Nat):aD:=(List.range k).map (fun j=>(glen gs j:Int))++List.replicate (q - k) 0
theorem KS {gs:List N7} {q k:Nat} (a:k<q):(ints (szs gs q k)).set k (.int .i64 (glen gs k:Int))=ints (szs gs q (k+1)):=by
 have e:ints (szs gs q (k+1))=ints ((szs gs q k).set k (glen gs k:Int)):=by
  congr 1
  unfold szs;rw [xB _ _ (by simp),zK,xg,yh,show q - k=(q - (k+1))+1 by omega,List.replicate_succ,yw,List.range_succ,zw];simp
 rw [e];simp [ints,List.map_set]
theorem KT {gs:List N7} {q j:Nat} (h:j<q):(ints (szs gs q q))[j]? =some (.int .i64 (glen gs j:Int)):=by
 unfold szs ints;rw [yh,List.replicate_zero,zo,zH,zH,zq h];rfl
theorem wC (A:aA) (nb c:Nat) (docs:N7) (w:O) (hc:nb<=c) (b7:c<=9223372036854775807) (ce:nb<=100000000000) (hl:RB w A nb (ZB docs)) (hn:docs.length<=16384) (a5:∀d∈docs,Y9 d=true/\QB d):
 Calls prog 82 #[.slice A nb c] w fun e w' =>∃(a t:Nat) (U:aA) (As:List aA),e= .returned (.tuple #[.pointer (some ⟨a,0,none⟩),.int .i64 0])/\As.length=(yL docs).length/\
  Sp w' [BlkA a 208 #[.slice U (yL docs).length t,.int .i64 (docs.length:Nat)],RowA 206 3 (.slice U (yL docs).length t) (yL docs).length (yd (yL docs) As (yL docs).length).flatten,zz (bysA (yL docs) As),OldA w.heap.size w]:=by
 have ad:=ZK docs;have h0:=Qi docs;have ag:=lN docs;have a2:=XO docs;obtain⟨n,h6⟩:=eX (docs.length);obtain⟨gs,ah⟩:=eX (yL docs);obtain⟨q,hq⟩:=eX (gs.length);have ai:ZB docs=zP n++(zP q++(gs.flatMap ZF++gs.flatMap grpB)):=by unfold ZB;rw [ah,h6,hq]
 rw [ah]at ad h0 ag a2⊢;rw [hq]at h0⊢;rw [h6]at hn h0⊢;have cb:=@mF prog;have b5:=zA ai;have Hl:=zA hl;rw [ai]at hl;have hh:=zA ad;have bb:=zA ag;have Hq:=zA hq;have hr:=zA h6;have y4:=zA a5
 have h8:∀k,glen gs k<=nb:=by
  intro k;have h1:=hl.len;simp only [zG]at h1;have:=LR gs k;omega
 have ht:=zA h8;obtain⟨y,av⟩:=eX (w.heap.size);obtain⟨I,bh⟩:=eX (y+1);have y2:=((Sp.start w).blkH 124 #[.pointer none] av).blkH 27 #[.int .i64 0] (H:=I) (by simp [av,bh]);have an:=zA (VG (c:=c) y2 (hl.on (y2.below M2)) (by omega));clear hl ai ad ag a2 hq h6 a5 ah h8;refine(callsIn_wide (n:=6)).1 ?_;refine callsIn_of_wp_marks func82 rfl trivial ?_ rfl
 simp only [ntmps82,yP,z6,yO,Nat.reduceAdd,Nat.reduceSub,xI,xH,xf,xM,zZ,yI];refine wpIn_wide.2 ?_;go_wp2_with fail;refine an.o.mono ?_;rintro e w1 ⟨p,rfl,ha⟩
 have hd:Sp w1 [RdA p (rsAt [] (zP n++(zP q++(gs.flatMap ZF++gs.flatMap grpB)))),BlkA I 27 #[.int .i64 0],BlkA y 124 #[.pointer none],OldA w.heap.size w]:=by
  simpa [rsAt]using ha
 have hp:=zA (ZH hd 16384 (by omega));rw [yn (by omega) hn]at hp;clear an y2 ha hd;go_wp2_with fail;refine hp.o.mono ?_;rintro e w2 ⟨rfl,N⟩;obtain⟨a,bi⟩:=eX (w2.heap.size);have v:=(N.blkH 208 #[.slice none 0 0,.int .i64 (n:Int)] bi);have br:(w2.alloc (.cells #[.slice none 0 0,.int .i64 (n:Int)] 208)).cell? ⟨y,0,none⟩=some (.pointer none):=v.cell M3 0
 have bs:=(v.blkOf M3).frozen 0
 have f:Sp ((w2.alloc (.cells #[.slice none 0 0,.int .i64 (n:Int)] 208)).setCell ⟨y,0,none⟩ (.pointer (some ⟨a,0,none⟩))) [RdA p (rsAt (([]:aC)++zP n) (zP q++(gs.flatMap ZF++gs.flatMap grpB))),BlkA y 124 #[.pointer (some ⟨a,0,none⟩)],BlkA a 208 #[.slice none 0 0,.int .i64 (n:Int)],BlkA I 27 #[.int .i64 0],OldA w.heap.size w]:=
  (v.p3.set 0 (.pointer (some ⟨a,0,none⟩))).p2
 have he:=zA (ZH f n (by omega));rw [yn (by omega) h0]at he;clear hp N v f;go_wp2_with fail;refine he.o.mono ?_;rintro e w3 ⟨rfl,Q⟩;have M:=zA (Zm Q);clear br bs he;go_upto_region 6 with(refine M.o.mono ?_;rintro e w4 ⟨rfl,rfl⟩);clear M
 go_cut [6,7]from 32 to 33 (fun v6 v7 W=>v6= .int .i64 0/\∃H,v7= .slice (some ⟨H,0,none⟩) q q/\Sp W [NA (some ⟨H,0,none⟩) q q (List.replicate q 0),RdA p (rsAt ([]++zP n++zP q) (gs.flatMap ZF++gs.flatMap grpB)),BlkA y 124 #[.pointer (some ⟨a,0,none⟩)],BlkA a 208 #[.slice none 0 0,.int .i64 (n:Int)],BlkA I 27 #[.int .i64 0],OldA w.heap.size w])
 case first=>
  have cd:=run_make_row' (P:=prog) 55 3 (.int .i64 0) 8 underlying55 (by kernel_rfl) rfl .i64 .i64 q (by omega) (by omega);have G:=Q.drew.mkd (e:=3) (z:= .int .i64 0) (n:=q) rfl (by omega);rw [show(madeCells #[Value.int .i64 0] q).toList=ints (List.replicate q 0) by have:=EA q;rw [yr]at this;exact this]at G
  go_region
  all_goals
   go_wp2
   go_meet
   exact⟨rfl,_,rfl,G⟩
 case rest=>
  obtain⟨rfl,H,rfl,G⟩:=hcut;clear Q;have b2:q<=16384:=(by omega);have C:=G.nil 206 3;go_wp2
  go_loopg [6,35] q (fun gk v6 vi wr=>∃(k:Nat) (U:aA) (t:Nat) (pre:aC),k<=q/\gk=q - k/\vi= .int .i64 k/\v6= .int .i64 (frG gs k:Int)/\
   Sp wr [RowA 206 3 (.slice U k t) k (yd gs [] k).flatten,NA (some ⟨H,0,none⟩) q q (szs gs q k),RdA p (rsAt pre ((gs.drop k).flatMap ZF++gs.flatMap grpB)),BlkA y 124 #[.pointer (some ⟨a,0,none⟩)],BlkA a 208 #[.slice U k t,.int .i64 (n:Int)],BlkA I 27 #[.int .i64 0],OldA w.heap.size w])
  case atStart=>exact⟨0,none,0,_,zJ _,rfl,rfl,rfl,C⟩
  case round=>
   obtain⟨k,U,t,pre,hk,rfl,rfl,rfl,S⟩:=hrel;clear C G
   by_cases a4:k<q
   ·obtain⟨g,Hg⟩:∃g,Hid (gs[k]? =some g):=⟨_,zB (by rw [Hq.o];exact a4)⟩;obtain⟨fr,R⟩:=eX (frG gs k);obtain⟨z,hz⟩:=eX (g.length);obtain⟨b,r⟩:=eX (glen gs k);have ch:0<z:=(by rw [<-hz];exact List.length_pos_iff.2 (bb.o g (zD Hg.o)));have E:frG gs (k+1)=fr+z:=(by rw [d9 Hg.o,R,hz])
    have a0:fr+z<=n:=by
     rw [<-E];have:=XI gs (k+1);rw [hh.o,hr.o]at this;exact this
    have hw:b<=nb:=(by rw [<-r];exact ht.o k)
    have ha:Sp wr [RdA p (rsAt pre (zP z++(zP b++((gs.drop (k+1)).flatMap ZF++gs.flatMap grpB)))),RowA 206 3 (.slice U k t) k (yd gs [] k).flatten,NA (some ⟨H,0,none⟩) q q (szs gs q k),BlkA y 124 #[.pointer (some ⟨a,0,none⟩)],BlkA a 208 #[.slice U k t,.int .i64 (n:Int)],BlkA I 27 #[.int .i64 0],OldA w.heap.size w]:=by
     have h:=S.p2;rw [yb Hg.o,zp]at h;rw [show ZF g=zP z++zP b by unfold ZF;rw [hz,<-pB Hg.o,r],zO,zO]at h;exact h
    rw [R];have hm:=zA E;have y3:=zA R;have hf:=zA r;have hp:=zA (ZH ha 16384 (by omega));rw [yn (by omega) (by omega)]at hp;clear S ha R hz r E;go_wp2_with fail;refine hp.o.mono ?_;rintro e w5 ⟨rfl,hd⟩;obtain⟨Bk,bg⟩:=eX (w5.heap.size);obtain⟨te,hs⟩:=eX (fr+z);have b3:(fr:Int)+(z:Int)=(te:Int):=(by omega)
    have bt:IntKind.i64.wrap (te:Int)=(te:Int):=(by rw [zT];omega);have N:=(hd.blkH 206 #[.int .i64 (fr:Int),.int .i64 (te:Int),.slice none 0 0] bg).p1;have he:=zA (ZH N nb (by omega));rw [yn (by omega) hw]at he;clear hp hd N;go_wp2_with fail;refine he.o.mono ?_;rintro e w6 ⟨rfl,v⟩;have cg:(k:Int)<q:=(by omega)
    have bk:w6.cell? ⟨H,k,none⟩=some (.int .i64 0):=v.rowCell M3 (by
     unfold szs ints;rw [zH,zR (by simp),zK,xg,yh,show q - k=(q - (k+1))+1 by omega,List.replicate_succ];rfl)
    have bm:=v.rowFree M3 k;have f:=v.p3.rowSet k (.int .i64 (b:Int));rw [<-hf.o,KS a4,hf.o]at f;clear he v;go_upto_region 12 with fail;obtain⟨W6,ax⟩:=eX (w6.setCell ⟨H,k,none⟩ (.int .i64 (b:Int)));rw [ax]at f⊢
    have au:W6.drew.cell? ⟨Bk,0,none⟩=some (.int .i64 (fr:Int))/\W6.drew.cell? ⟨Bk,1,none⟩=some (.int .i64 (te:Int))/\W6.drew.cell? ⟨y,0,none⟩=some (.pointer (some ⟨a,0,none⟩))/\W6.drew.cell? ⟨a,1,none⟩=some (.int .i64 (n:Int)):=⟨f.drew.cell M2 0,f.drew.cell M2 1,f.drew.cell M4 0,f.drew.cell M5 1⟩;have M:=zA (Zm f.drew.p1);have bp:(fr:Int)<te:=(by omega)
    have bo:(te:Int)<=n:=(by omega);have b0:decide ((fr:Int)<te)=true:=decide_eq_true bp;have bz:decide ((te:Int)<=n)=true:=decide_eq_true bo;clear bk bm ax
    go_cut []from 51 to 66 (fun W=>W=W6.drew)
    case first=>
     go_region_held3 (fun W=>W.cell? ⟨Bk,0,none⟩=some (.int .i64 (fr:Int))/\W.cell? ⟨Bk,1,none⟩=some (.int .i64 (te:Int))/\W.cell? ⟨y,0,none⟩=some (.pointer (some ⟨a,0,none⟩))/\W.cell? ⟨a,1,none⟩=some (.int .i64 (n:Int))) (first|with_reducible assumption|fail)
      ((go_at_call 144;(with_reducible refine M.o.mono ?_);rintro e w7 ⟨rfl,rfl⟩))
     all_goals
      go_wp2
      go_meet
      rfl
    case rest=>
     have Q:=f.drew;rw [<-hcut]at Q;have G:=Q.drew.p3;have az:=G.cl M5 0;have ab:=G.cl M4 0;have y7:=G.cl M3 0;have y8:=G.cl M3 1;have aa:=G.cl M3 2;have bu:∀o,(wc.alloc o).cell? ⟨a,0,none⟩=some (.slice U k t):=fun o=>(Q.p3.al o).cell M5 0;clear au M f Q hcut;go_upto_region 13 with fail
     go_cut []from 67 to 76 (fun W=>∃(A8:aA) (c8:Nat),Sp W [BlkA a 208 #[.slice A8 (k+1) c8,.int .i64 (n:Int)],RowA 206 3 (.slice A8 (k+1) c8) (k+1) (yd gs [] (k+1)).flatten,NA (some ⟨H,0,none⟩) q q (szs gs q (k+1)),RdA p (rsAt (pre++zP z++zP b) ((gs.drop (k+1)).flatMap ZF++gs.flatMap grpB)),BlkA Bk 206 #[.int .i64 (fr:Int),.int .i64 (te:Int),.slice none 0 0],BlkA y 124 #[.pointer (some ⟨a,0,none⟩)],BlkA I 27 #[.int .i64 0],OldA w.heap.size w])
     case first=>
      have bv:wc.drew.cell? ⟨y,0,none⟩=some (.pointer (some ⟨a,0,none⟩))/\wc.drew.cell? ⟨Bk,0,none⟩=some (.int .i64 (fr:Int))/\wc.drew.cell? ⟨Bk,1,none⟩=some (.int .i64 (te:Int))/\wc.drew.cell? ⟨Bk,2,none⟩=some (.slice none 0 0):=⟨ab,y7,y8,aa⟩;refine wp_region_noPanic ?_
      refine gR [(10,fun W=>W.cell? ⟨a,0,none⟩=some (.slice U k t)/\W.cell? ⟨y,0,none⟩=some (.pointer (some ⟨a,0,none⟩))/\W.cell? ⟨Bk,0,none⟩=some (.int .i64 (fr:Int))/\W.cell? ⟨Bk,1,none⟩=some (.int .i64 (te:Int))/\W.cell? ⟨Bk,2,none⟩=some (.slice none 0 0))] (hB ⟨az,ab,y7,y8,aa⟩) ?_;refine gL 0 10 M0 ?_;refine gL 1 10 M0 ?_;refine gF 2 ?_;refine gF 3 ?_;refine gL 4 10 M0 ?_
      refine gL 5 10 M0 ?_;intro hC;refine gO 6 fun K hK=> ?_;go_simp;refine hK.o _ _ (hB ⟨(G.al _).cell M5 0,(G.al _).cell M4 0,(G.al _).cell M3 0,(G.al _).cell M3 1,(G.al _).cell M3 2⟩) ?_;clear hK K hC;intro hC;refine gO 7 fun K hK=> ?_
      refine yz JZ (.tmp 71) (.tmp 73) rfl rfl G rfl (cs:= #[.int .i64 (fr:Int),.int .i64 (te:Int),.slice none 0 0]) rfl rfl rfl (by intro u hu;simp at hu;rcases hu with rfl|rfl|rfl<;>rfl) (by omega) (by omega) ?_
      intro A8 c8 w8 bj bq C;have q0:=C.cl M5 0;have q2:=(C.blkOf M5).frozen 0;refine hK.o _ _ (hB ⟨C.cell M5 0,C.cell M4 0,C.cell M3 0,C.cell M3 1,C.cell M3 2⟩) ?_;clear hK K hC;refine gF 8 ?_;refine gF 9 ?_;intro hC;refine gO 10 fun K hK=> ?_;go_simp;refine hK.o _ _ hA ?_;clear hK K hC;intro hC;refine xW (by kernel_rfl) ?_;refine NoPanic.normal ?_
      all_goals
       go_wp2
       go_meet
       refine⟨A8,c8,?_⟩;have h:=C.p5.set 0 (.slice A8 (k+1) c8)
       have e:(yd gs [] k).flatten++ #[Value.int .i64 (fr:Int),.int .i64 (te:Int),.slice none 0 0].toList=(yd gs [] (k+1)).flatten:=by
        rw [s8,yf];simp only [Yj,y3.o,hm.o,hs,yM,List.flatten_nil,zo];rfl
       rw [e]at h;exact h
     case rest=>
      obtain⟨A8,c8,C⟩:=hcut;have b6:=C.cl M4 1;clear G az ab y7 y8 aa bu;go_wp2
      go_roundg (q - (k+1))
      ·exact⟨k+1,A8,c8,_,by omega,rfl,by go_num,by rw [hm.o,hs],C.sel [1,2,3,5,0,6,7]⟩
      ·omega
   ·obtain rfl:k=q:=by omega
    have a1:frG gs k=n:=(by unfold frG;rw [zF (by rw [Hq.o];omega),hh.o,hr.o]);rw [a1];rw [zQ (by rw [Hq.o];omega),x7,zZ]at S
    have ha:Sp wr [RdA p (rsAt pre ((gs.drop 0).flatMap grpB)),BlkA a 208 #[.slice U k t,.int .i64 (n:Int)],RowA 206 3 (.slice U k t) k (yd gs [] k).flatten,zz (bysA gs []),zz (([]:aE).map fun D=>ObjA D (.deferred (some []))),NA (some ⟨H,0,none⟩) k k (szs gs k k),BlkA y 124 #[.pointer (some ⟨a,0,none⟩)],BlkA I 27 #[.int .i64 0],OldA w.heap.size w]:=S.starNil.starNil.sel [4,6,2,0,1,3,5,7,8]
    have M:=zA (Zm ha);have bf:=ha.cl M1 1;have be:=ha.cl M1 0;have bd:=ha.d1.cl M5 0;clear S;go_wp2_with (refine M.o.mono ?_;rintro e w7 ⟨rfl,rfl⟩);clear M bf be bd a1
    refine wp_loop_ghost_k (fun gk a' wr=>∃(u10 u11 u94 u95 u96 u97 u98 u99 u100 u101 u102 u103 u104 u105 u106 u107 u108 u109 u110 u111 u112 u113 u114 u115 u116 u117 u118 u119:V) (Ds:aE) (j:Nat) (As:List aA) (pre:aC),(j<=k/\gk=k - j/\As.length=j/\Sp wr [RdA p (rsAt pre ((gs.drop j).flatMap grpB)),BlkA a 208 #[.slice U k t,.int .i64 (n:Int)],RowA 206 3 (.slice U k t) k (yd gs As k).flatten,zz (bysA gs As),zz (Ds.map fun D=>ObjA D (.deferred (some []))),NA (some ⟨H,0,none⟩) k k (szs gs k k),BlkA y 124 #[.pointer (some ⟨a,0,none⟩)],BlkA I 27 #[.int .i64 0],OldA w.heap.size w])/\
     a' ={tmps:= #[.slice A nb c,undef,.pointer (some ⟨y,0,none⟩),.pointer (some ⟨I,0,none⟩),.pointer (some ⟨p,0,none⟩),.int .i64 (k:Int),.int .i64 (n:Int),.slice (some ⟨H,0,none⟩) k k,u8,u9,u10,u11,undef,undef,undef,undef,undef,.func (.func 143) #[] #[.pointer (some ⟨y,0,none⟩),.pointer (some ⟨I,0,none⟩)],.slice A nb c,.pointer (some ⟨p,0,none⟩),.pointer (some ⟨p,0,none⟩),.int .i64 (n:Int),.agg #[.slice none 0 0,.int .i64 (n:Int)],.pointer (some ⟨a,0,none⟩),.pointer (some ⟨p,0,none⟩),.pointer (some ⟨a,0,none⟩),.pointer (some ⟨a,0,none⟩),.pointer (some ⟨a,1,none⟩),.int .i64 (n:Int),.int .i64 (k:Int),.pointer (some ⟨p,0,none⟩),.tuple #[],u32,u33,.int .i64 (k:Int),.int .i64 (k:Int),.bool false,u37,u38,u39,u40,u41,u42,u43,u44,u45,u46,u47,u48,u49,u50,u51,u52,u53,u54,u55,u56,u57,u58,u59,u60,u61,u62,u63,u64,u65,u66,u67,u68,u69,u70,u71,u72,u73,u74,u75,u76,u77,u78,u79,.pointer (some ⟨p,0,none⟩),.int .i64 (n:Int),.pointer (some ⟨a,0,none⟩),.pointer (some ⟨a,0,none⟩),.pointer (some ⟨a,1,none⟩),.int .i64 (n:Int),.bool true,.tuple #[],.pointer (some ⟨a,0,none⟩),.pointer (some ⟨a,0,none⟩),.pointer (some ⟨a,0,none⟩),.slice U k t,.int .i64 (k:Int),.int .i64 (j:Int),u94,u95,u96,u97,u98,u99,u100,u101,u102,u103,u104,u105,u106,u107,u108,u109,u110,u111,u112,u113,u114,u115,u116,u117,u118,u119,undef,undef,undef,undef,undef,undef,undef,undef,undef,undef,undef,undef,undef,undef,undef,undef,undef,undef,undef,undef,undef,undef,undef,undef,undef,undef,undef,undef,undef,undef],defers:=Ds.map (fun D=>{target:= .collected D,args:= #[]})++ [{target:= .fn (.func 143) #[.pointer (some ⟨y,0,none⟩),.pointer (some ⟨I,0,none⟩)],args:= #[]}]}) k ?_ ?_
    ·exact⟨_,_,_,_,_,_,_,_,_,_,_,_,_,_,_,_,_,_,_,_,_,_,_,_,_,_,_,_, [],0, [],_,⟨zJ _,rfl,rfl,ha⟩,rfl⟩
    ·rintro gk _ wr ⟨u10,u11,u94,u95,u96,u97,u98,u99,u100,u101,u102,u103,u104,u105,u106,u107,u108,u109,u110,u111,u112,u113,u114,u115,u116,u117,u118,u119,Ds,j,As,pre,⟨hj,rfl,hv,S⟩,rfl⟩ J K hJ hK;clear ha
     by_cases a3:j<k
     ·obtain⟨g,Hg⟩:∃g,Hid (gs[j]? =some g):=⟨_,zB (by rw [Hq.o];exact a3)⟩;obtain⟨Z,rfl, -, -, -⟩:=(S.rowOf M2).at_ (by omega)
      obtain⟨b,r⟩:=eX (glen gs j);have hw:b<=nb:=(by rw [<-r];exact ht.o j);have af:(grpB g).length=b:=(by rw [<-pB Hg.o,r]);have bx :(j:Int)<k:=(by omega);have c1:=S.d1.cl M5 0;have c2:=S.cl M1 0
      have c3:wr.cell? ⟨H,j,none⟩=some (.int .i64 (b:Int)):=by
       have h:=S.rowCell M5 (KT a3);rw [r]at h;exact h
      have hd:Sp wr [RdA p (rsAt pre (grpB g++(gs.drop (j+1)).flatMap grpB)),BlkA a 208 #[.slice (some ⟨Z,0,none⟩) k t,.int .i64 (n:Int)],RowA 206 3 (.slice (some ⟨Z,0,none⟩) k t) k (yd gs As k).flatten,zz (bysA gs As),zz (Ds.map fun D=>ObjA D (.deferred (some []))),NA (some ⟨H,0,none⟩) k k (szs gs k k),BlkA y 124 #[.pointer (some ⟨a,0,none⟩)],BlkA I 27 #[.int .i64 0],OldA w.heap.size w]:=by
       rw [yb Hg.o,zp]at S;exact S
      have ak:=zA (XQ hd af (by omega));have hf:=zA r;have b4:=zA af;clear S hd r af;go_wp2_with fail;refine ak.o.mono ?_;rintro e w8 ⟨A5,rfl,N⟩;have hy:=u6 (gs:=gs) (As:=As) (m:=k) A5 (by omega);rw [hv,hf.o]at hy;have q0:w8.cell? ⟨Z,j*3+2,none⟩=some (.slice none 0 0):=N.rowCell M3 (Zi (k:=j) (j:=2) (by omega) (u7 (by omega)));have q1:=N.rowFree M3 (j*3+2)
      have v:=N.p3.rowSet (j*3+2) (.slice A5 b b);rw [hy]at v;obtain⟨fr,R⟩:=eX (frG gs j);obtain⟨z,hz⟩:=eX (g.length);have E:frG gs (j+1)=fr+z:=(by rw [d9 Hg.o,R,hz])
      have hg:Yj gs (As++ [A5]) j= [.int .i64 (fr:Int),.int .i64 ((fr+z:Nat):Int),.slice A5 b b]:=by
       unfold Yj;rw [R,E,hf.o,zR (by omega),hv,yh];rfl
      obtain⟨W4,aw⟩:=eX (w8.setCell ⟨Z,j*3+2,none⟩ (.slice A5 b b));rw [aw]at v;have e0:W4.cell? ⟨Z,j*3,none⟩=some (.int .i64 (fr:Int)):=v.rowCell M0 (Zi (k:=j) (j:=0) (by omega) (by rw [hg];rfl));have e1:W4.cell? ⟨Z,j*3+1,none⟩=some (.int .i64 ((fr+z:Nat):Int)):=v.rowCell M0 (Zi (k:=j) (j:=1) (by omega) (by rw [hg];rfl))
      have e2:W4.cell? ⟨Z,j*3+2,none⟩=some (.slice A5 b b):=v.rowCell M0 (Zi (k:=j) (j:=2) (by omega) (by rw [hg];rfl));have M:=zA (Zm v.p2);have hm:=zA E;have Hz:=zA hz
      have hs:(fr+z:Nat)<=n:=by
       rw [<-E];have:=XI gs (j+1);rw [hh.o,hr.o]at this;exact this
      obtain⟨te,h9⟩:=eX (fr+z);rw [h9]at e1 hs;have HB:Hid (∀B:Nat,W4.heap.size=B->Sp (W4.alloc (.cells #[.int .i64 (fr:Int),.int .i64 (te:Int),.slice A5 b b] 206)) (BlkA B 206 #[.int .i64 (fr:Int),.int .i64 (te:Int),.slice A5 b b]::_)):=fun B hB=>v.blkH _ _ hB;clear N v hy hg E R hz ak c1 c3;go_upto_region 22 with fail;clear q0 q1 aw
      go_wp2_with (first
       |(go_at_call 144;refine M.o.mono ?_;rintro e w9 ⟨rfl,rfl⟩)
       |(go_at_call 108;refine(lW _ _ _ _).mono ?_;rintro e ba ⟨rfl,rfl⟩)
       |fail)
      have a6:te=fr+g.length:=(by rw [Hz.o,h9]);subst a6;obtain⟨Bc,aq⟩:=eX (w9.heap.size);rw [aq];have f:=HB.o Bc aq;have ae:Hid (∀x∈g,Y9 x=true/\QB x):=fun x hx=>y4.o x (by rw [<-hh.o];exact List.mem_flatten.2 ⟨g,zD Hg.o,hx⟩)
      have Q:Sp (w9.alloc (.cells #[.int .i64 (fr:Int),.int .i64 ((fr+g.length:Nat):Int),.slice A5 b b] 206)) (BlkA Bc 206 #[.int .i64 (fr:Int),.int .i64 ((fr+g.length:Nat):Int),.slice A5 b b]::BA A5 b b (grpB g):: [RowA 206 3 (.slice (some ⟨Z,0,none⟩) k t) k (yd gs (As++ [A5]) k).flatten,RdA p (rsAt (pre++grpB g) ((gs.drop (j+1)).flatMap grpB)),BlkA a 208 #[.slice (some ⟨Z,0,none⟩) k t,.int .i64 (n:Int)],zz (bysA gs As),zz (Ds.map fun D=>ObjA D (.deferred (some []))),NA (some ⟨H,0,none⟩) k k (szs gs k k),BlkA y 124 #[.pointer (some ⟨a,0,none⟩)],BlkA I 27 #[.int .i64 0],OldA w.heap.size w]):=f.p2.p1
      clear f HB e0 e1 e2 c2;refine(wpIn_wide (n:=6)).1 ?_
      refine Wz (F:=Fence.wide) (gf:=189) (lb:= #[.pointer (some ⟨Bc,0,none⟩)]) (L' :=BlkA Bc 206 #[.int .i64 (fr:Int),.int .i64 ((fr+g.length:Nat):Int),.slice A5 b b]::BA A5 b b (grpB g):: [RowA 206 3 (.slice (some ⟨Z,0,none⟩) k t) k (yd gs (As++ [A5]) k).flatten,RdA p (rsAt (pre++grpB g) ((gs.drop (j+1)).flatMap grpB)),BlkA a 208 #[.slice (some ⟨Z,0,none⟩) k t,.int .i64 (n:Int)],zz (bysA gs As),zz (Ds.map fun D=>ObjA D (.deferred (some []))),NA (some ⟨H,0,none⟩) k k (szs gs k k),BlkA y 124 #[.pointer (some ⟨a,0,none⟩)],BlkA I 27 #[.int .i64 0],OldA w.heap.size w]) rfl (by omega) rfl trivial (enters_of func189 (by kernel_rfl) rfl) Q
       (fun vals X Y=>∃(v0:V) (A' :aA) (n' c' :Nat) (x:List Entry),vals= #[v0,.slice A' n' c']/\X= [DatA (.slice A' n' c') x]/\Y= []) ?body ?seq ?done
      case body=>
       rintro l _ _ _ ⟨v0,A',n',c',x,rfl,rfl,rfl⟩;exact⟨rfl,_,fun W K hK=>wpIn_skip hK,fun T W h=>wpIn_block (wpIn_skip ⟨rfl,h.tail⟩)⟩
      case seq=>
       intro l T0 hY W hW
       refine pE (T0:=T0) (fun _=> [RowA 206 3 (.slice (some ⟨Z,0,none⟩) k t) k (yd gs (As++ [A5]) k).flatten,RdA p (rsAt (pre++grpB g) ((gs.drop (j+1)).flatMap grpB)),BlkA a 208 #[.slice (some ⟨Z,0,none⟩) k t,.int .i64 (n:Int)],zz (bysA gs As),zz (Ds.map fun D=>ObjA D (.deferred (some []))),NA (some ⟨H,0,none⟩) k k (szs gs k k),BlkA y 124 #[.pointer (some ⟨a,0,none⟩)],BlkA I 27 #[.int .i64 0],OldA w.heap.size w]) l 5 (by omega) ae.o (by omega) ?_ hW (by omega)
       intro k2 x A' n' c' T W2 hx h
       have h2:=hY #[.int .i64 ((fr+k2:Nat):Int),.slice A' n' c'] [DatA (.slice A' n' c') x] [] ([RowA 206 3 (.slice (some ⟨Z,0,none⟩) k t) k (yd gs (As++ [A5]) k).flatten,RdA p (rsAt (pre++grpB g) ((gs.drop (j+1)).flatMap grpB)),BlkA a 208 #[.slice (some ⟨Z,0,none⟩) k t,.int .i64 (n:Int)],zz (bysA gs As),zz (Ds.map fun D=>ObjA D (.deferred (some []))),NA (some ⟨H,0,none⟩) k k (szs gs k k),BlkA y 124 #[.pointer (some ⟨a,0,none⟩)],BlkA I 27 #[.int .i64 0],OldA w.heap.size w]++T) W2 ⟨_,_,_,_,_,rfl,rfl,rfl⟩ (by rw [zO];exact h)
       rw [zO]at h2;exact h2
      case done=>
       intro D W hW;have h1:=((hW.sel [1,5,11,6,3,4,2,7,8,9,10]).starPush.p1.p2.p1.starIn).sel [2,3,4,1,0,5,6,7,8];clear hW Q;go_wp2;refine⟨k - (j+1),by omega,hJ _ _ _ ⟨_,_,_,_,_,_,_,_,_,_,_,_,_,_,_,_,_,_,_,_,_,_,_,_,_,_,_,_,D::Ds,j+1,As++ [A5],pre++grpB g,⟨by omega,rfl,by simp [hv],?_⟩,rfl⟩⟩;rw [F8,hv,hf.o,Hg.o];exact h1
     ·obtain rfl:j=k:=by omega
      rw [zQ (by rw [Hq.o];omega),x7]at S;have y1:=Xz S;rw [YL]at y1;have am:=zA y1;clear y1;go_wp2_with fail;refine am.o.mono ?_;rintro e w8 ⟨rfl,k8,rfl⟩;have hd:=S.drewN k8;have M:=zA (Zm hd);obtain⟨Lb,y6⟩:=eX ((wr.drewN k8).heap.size);have N:=(((hd.nil 36 1).elsNil (α:=List Entry)).blkH 179 #[.slice none 0 0] y6)
      have c1:((wr.drewN k8).alloc (.cells #[.slice none 0 0] 179)).cell? ⟨y,0,none⟩=some (.pointer (some ⟨a,0,none⟩)):=N.d1.d1.d1.cell M6 0;have c2:((wr.drewN k8).alloc (.cells #[.slice none 0 0] 179)).cell? ⟨a,0,none⟩=some (.slice U j t):=N.cell M4 0;clear S am;go_wp2_with (go_at_call 144;refine M.o.mono ?_;rintro e w9 ⟨rfl,rfl⟩);clear c1 c2 M
      have h7:wr.heap.size=Lb:=y6;rw [h7]
      have v:Sp ((wr.drewN k8).alloc (.cells #[.slice none 0 0] 179)) [AllA Lb docs 0,BlkA a 208 #[.slice U j t,.int .i64 (n:Int)],RowA 206 3 (.slice U j t) j (yd gs As j).flatten,zz (bysA gs As),zz (Ds.map fun D=>ObjA D (.deferred (some []))),BlkA y 124 #[.pointer (some ⟨a,0,none⟩)],BlkA I 27 #[.int .i64 0],RdA p (rsAt pre []),OldA w.heap.size w]:=
       Sp.allIn (A:=none) (c:=0) (css:= []) (m:=0) (docs:=docs) (N.sel [0,2,1,4,5,6,7,9,10,3,11])
      clear N y6 h7 hd
      refine wp_loop_ghost_k (fun gk a' wr=>∃(a8 a9 xb xi xn xs x1 x2 x3 x4 x5 x6 x8 ys:V) (Ds:aE) (i:Nat),(i<=j/\gk=j - i/\Sp wr [AllA Lb docs (frG gs i),BlkA a 208 #[.slice U j t,.int .i64 (n:Int)],RowA 206 3 (.slice U j t) j (yd gs As j).flatten,zz (bysA gs As),zz (Ds.map fun D=>ObjA D (.deferred (some []))),BlkA y 124 #[.pointer (some ⟨a,0,none⟩)],BlkA I 27 #[.int .i64 0],RdA p (rsAt pre []),OldA w.heap.size w])/\
       a' ={tmps:= #[.slice A nb c,undef,.pointer (some ⟨y,0,none⟩),.pointer (some ⟨I,0,none⟩),.pointer (some ⟨p,0,none⟩),.int .i64 (j:Int),.int .i64 (n:Int),.slice (some ⟨H,0,none⟩) j j,u8,u9,u10,u11,.pointer (some ⟨Lb,0,none⟩),undef,a8,undef,a9,.func (.func 143) #[] #[.pointer (some ⟨y,0,none⟩),.pointer (some ⟨I,0,none⟩)],.slice A nb c,.pointer (some ⟨p,0,none⟩),.pointer (some ⟨p,0,none⟩),.int .i64 (n:Int),.agg #[.slice none 0 0,.int .i64 (n:Int)],.pointer (some ⟨a,0,none⟩),.pointer (some ⟨p,0,none⟩),.pointer (some ⟨a,0,none⟩),.pointer (some ⟨a,0,none⟩),.pointer (some ⟨a,1,none⟩),.int .i64 (n:Int),.int .i64 (j:Int),.pointer (some ⟨p,0,none⟩),.tuple #[],u32,u33,.int .i64 (j:Int),.int .i64 (j:Int),.bool false,u37,u38,u39,u40,u41,u42,u43,u44,u45,u46,u47,u48,u49,u50,u51,u52,u53,u54,u55,u56,u57,u58,u59,u60,u61,u62,u63,u64,u65,u66,u67,u68,u69,u70,u71,u72,u73,u74,u75,u76,u77,u78,u79,.pointer (some ⟨p,0,none⟩),.int .i64 (n:Int),.pointer (some ⟨a,0,none⟩),.pointer (some ⟨a,0,none⟩),.pointer (some ⟨a,1,none⟩),.int .i64 (n:Int),.bool true,.tuple #[],.pointer (some ⟨a,0,none⟩),.pointer (some ⟨a,0,none⟩),.pointer (some ⟨a,0,none⟩),.slice U j t,.int .i64 (j:Int),.int .i64 (j:Int),.bool false,u95,u96,u97,u98,u99,u100,u101,u102,u103,u104,u105,u106,u107,u108,u109,u110,u111,u112,u113,u114,u115,u116,u117,u118,u119,.pointer (some ⟨p,0,none⟩),.pointer (some ⟨p,0,none⟩),.int .i64 0,.bool true,.tuple #[],.pointer (some ⟨a,0,none⟩),.pointer (some ⟨a,0,none⟩),.pointer (some ⟨a,0,none⟩),.slice U j t,.int .i64 (j:Int),.int .i64 (i:Int),xb,xi,xn,xs,x1,x2,x3,x4,x5,x6,x8,ys,undef,undef,undef,undef,undef,undef,undef],defers:=Ds.map (fun D=>{target:= .collected D,args:= #[]})++ [{target:= .fn (.func 143) #[.pointer (some ⟨y,0,none⟩),.pointer (some ⟨I,0,none⟩)],args:= #[]}]}) j ?_ ?_
      ·exact⟨_,_,_,_,_,_,_,_,_,_,_,_,_,_,Ds,0,⟨zJ _,rfl,v⟩,rfl⟩
      ·rintro gk _ wr ⟨a8,a9,xb,xi,xn,xs,x1,x2,x3,x4,x5,x6,x8,ys,Ds,i,⟨hi,rfl,S⟩,rfl⟩ J K hJ hK;clear v
       by_cases bn:i<j
       ·obtain⟨g,Hg⟩:∃g,Hid (gs[i]? =some g):=⟨_,zB (by rw [Hq.o];exact bn)⟩;obtain⟨Z,rfl, -, -, -⟩:=(S.rowOf M2).at_ (by omega)
        obtain⟨b,r⟩:=eX (glen gs i);have hw:b<=nb:=(by rw [<-r];exact ht.o i);obtain⟨Ai,y5⟩:∃Ai,As[i]? =some Ai:=⟨_,zB (by omega)⟩;obtain⟨fr,R⟩:=eX (frG gs i);have E:frG gs (i+1)=fr+g.length:=(by rw [d9 Hg.o,R])
        have hg:Yj gs As i= [.int .i64 (fr:Int),.int .i64 ((fr+g.length:Nat):Int),.slice Ai b b]:=by
         unfold Yj;rw [R,E,r,y5]
        have ay:(bysA gs As)[i]? =some (BA Ai b b (grpB g)):=by
         rw [KF (by omega)];unfold byA;rw [y5,r,Hg.o];rfl
        have e0:wr.cell? ⟨Z,i*3,none⟩=some (.int .i64 (fr:Int)):=S.rowCell M2 (Zi (k:=i) (j:=0) (by omega) (by rw [hg];rfl));have e1:wr.cell? ⟨Z,i*3+1,none⟩=some (.int .i64 ((fr+g.length:Nat):Int)):=S.rowCell M2 (Zi (k:=i) (j:=1) (by omega) (by rw [hg];rfl));have e2:wr.cell? ⟨Z,i*3+2,none⟩=some (.slice Ai b b):=S.rowCell M2 (Zi (k:=i) (j:=2) (by omega) (by rw [hg];rfl))
        have hs:fr+g.length<=n:=by
         rw [<-E];have:=XI gs (i+1);rw [hh.o,hr.o]at this;exact this
        rw [R]at S;have y3:=zA R;have hm:=zA E;have ap:=zA ay;obtain⟨tl,a7⟩:=eX (fr+g.length);rw [a7]at e1 hs;have bw :(i:Int)<j:=(by omega);obtain⟨Cj,ar⟩:=eX (wr.heap.size);have f:=S.blkH 206 #[.int .i64 (fr:Int),.int .i64 (tl:Int),.slice Ai b b] ar
        have f0:(wr.alloc (.cells #[.int .i64 (fr:Int),.int .i64 (tl:Int),.slice Ai b b] 206)).cell? ⟨Cj,0,none⟩=some (.int .i64 (fr:Int)):=f.cell M0 0;have f1:(wr.alloc (.cells #[.int .i64 (fr:Int),.int .i64 (tl:Int),.slice Ai b b] 206)).cell? ⟨Cj,1,none⟩=some (.int .i64 (tl:Int)):=f.cell M0 1
        have f2:(wr.alloc (.cells #[.int .i64 (fr:Int),.int .i64 (tl:Int),.slice Ai b b] 206)).cell? ⟨Cj,2,none⟩=some (.slice Ai b b):=f.cell M0 2;clear S R E r hg ay y5;go_wp2_with (go_at_call 108;refine(lW _ _ _ _).mono ?_;rintro e ba ⟨rfl,rfl⟩);clear e0 e1 e2 f0 f1 f2;subst a7
        have Q:=(((f.blkH 206 #[.int .i64 (fr:Int),.int .i64 ((fr+g.length:Nat):Int),.slice Ai b b] (H:=Cj+1) (by simp [ar])).p5.starAt ap.o).sel [2,0,4,3,5,6,1,7,8,9,10,11]);have ae:Hid (∀x∈g,Y9 x=true/\QB x):=fun x hx=>y4.o x (by rw [<-hh.o];exact List.mem_flatten.2 ⟨g,zD Hg.o,hx⟩)
        have bl:Hid (∀(k2:Nat) (x:List Entry),g[k2]? =some x->docs.take (fr+(k2+1))=docs.take (fr+k2)++ [x]):=by
         intro k2 x hx;rw [<-Nat.add_assoc,zI];have h:=E8 Hg.o (zN hx);rw [show(gs.take i).flatten.length=fr from y3.o,hh.o,hx]at h;rw [h];rfl
        clear f;refine(wpIn_wide (n:=6)).1 ?_
        refine Wz (F:=Fence.wide) (gf:=189) (lb:= #[.pointer (some ⟨Cj+1,0,none⟩)]) (L:=BlkA (Cj+1) 206 #[.int .i64 (fr:Int),.int .i64 ((fr+g.length:Nat):Int),.slice Ai b b]::BA Ai b b (grpB g)::AllA Lb docs fr:: [BlkA Cj 206 #[.int .i64 (fr:Int),.int .i64 ((fr+g.length:Nat):Int),.slice Ai b b],BlkA a 208 #[.slice (some ⟨Z,0,none⟩) j t,.int .i64 (n:Int)],RowA 206 3 (.slice (some ⟨Z,0,none⟩) j t) j (yd gs As j).flatten,zz ((bysA gs As).eraseIdx i),zz (Ds.map fun D=>ObjA D (.deferred (some []))),BlkA y 124 #[.pointer (some ⟨a,0,none⟩)],BlkA I 27 #[.int .i64 0],RdA p (rsAt pre []),OldA w.heap.size w]) (L' :=BlkA (Cj+1) 206 #[.int .i64 (fr:Int),.int .i64 ((fr+g.length:Nat):Int),.slice Ai b b]::BA Ai b b (grpB g)::AllA Lb docs (fr+g.length):: [BlkA Cj 206 #[.int .i64 (fr:Int),.int .i64 ((fr+g.length:Nat):Int),.slice Ai b b],BlkA a 208 #[.slice (some ⟨Z,0,none⟩) j t,.int .i64 (n:Int)],RowA 206 3 (.slice (some ⟨Z,0,none⟩) j t) j (yd gs As j).flatten,zz ((bysA gs As).eraseIdx i),zz (Ds.map fun D=>ObjA D (.deferred (some []))),BlkA y 124 #[.pointer (some ⟨a,0,none⟩)],BlkA I 27 #[.int .i64 0],RdA p (rsAt pre []),OldA w.heap.size w]) rfl (by omega) rfl trivial (enters_of func189 (by kernel_rfl) rfl) Q
         (fun vals X Y=>∃(k2:Nat) (x:List Entry) (A' :aA) (n' c' :Nat),g[k2]? =some x/\vals= #[.int .i64 ((fr+k2:Nat):Int),.slice A' n' c']/\X= [DatA (.slice A' n' c') x,AllA Lb docs (fr+k2)]/\Y= [AllA Lb docs (fr+(k2+1))]) ?body ?seq ?done
        case body=>
         rintro l _ _ _ ⟨k2,x,A',n',c',hx,rfl,rfl,rfl⟩;have b8:=zN hx;have bc:=zA (bl.o k2 x hx);clear Q hx;refine⟨rfl,?_⟩
         apply Exists.intro
         refine⟨?_,?_⟩
         ·intro W K hK
          gi_wp2
          exact hK
         ·intro T W h;obtain⟨Aa,ca,css,h2⟩:=Sp.allOut (L:=DatA (.slice A' n' c') x::T) h.p1;have h3:=h2.p1;have c0:=h3.cl M1 0;clear h h2
          gi_wp2_with (gi_at_builtin;refine YA JY (.tmp 138) (.tmp 140) rfl rfl (h3.al _) rfl rfl (Ye _ #[.slice A' n' c'] _ rfl (H:=W.heap.size) rfl) (by intro u hu;simp at hu;subst hu;rfl) (by omega) (by omega) ?_;intro A8 c8 w8 bj bq h4;have q0:=h4.cl M1 0;have qf:=(h4.blkOf M1).frozen 0)
          have h5:=(((h4.p1.set 0 (.slice A8 (fr+k2+1) c8)).p3.p3.p1).elsPush).p2.p2;rw [<-bc.o]at h5;have e:css.flatten++ #[Value.slice A' n' c'].toList=(css++ [[Value.slice A' n' c']]).flatten:=(by simp);rw [e]at h5;exact Sp.allIn h5
        case seq=>
         intro l T0 hY W hW
         refine pE (T0:=T0) (fun k2=>AllA Lb docs (fr+k2):: [BlkA Cj 206 #[.int .i64 (fr:Int),.int .i64 ((fr+g.length:Nat):Int),.slice Ai b b],BlkA a 208 #[.slice (some ⟨Z,0,none⟩) j t,.int .i64 (n:Int)],RowA 206 3 (.slice (some ⟨Z,0,none⟩) j t) j (yd gs As j).flatten,zz ((bysA gs As).eraseIdx i),zz (Ds.map fun D=>ObjA D (.deferred (some []))),BlkA y 124 #[.pointer (some ⟨a,0,none⟩)],BlkA I 27 #[.int .i64 0],RdA p (rsAt pre []),OldA w.heap.size w]) l 5 (by omega) ae.o (by omega) ?_ hW (by omega)
         intro k2 x A' n' c' T W2 hx h
         have h2:=hY #[.int .i64 ((fr+k2:Nat):Int),.slice A' n' c'] [DatA (.slice A' n' c') x,AllA Lb docs (fr+k2)] [AllA Lb docs (fr+(k2+1))] ([BlkA Cj 206 #[.int .i64 (fr:Int),.int .i64 ((fr+g.length:Nat):Int),.slice Ai b b],BlkA a 208 #[.slice (some ⟨Z,0,none⟩) j t,.int .i64 (n:Int)],RowA 206 3 (.slice (some ⟨Z,0,none⟩) j t) j (yd gs As j).flatten,zz ((bysA gs As).eraseIdx i),zz (Ds.map fun D=>ObjA D (.deferred (some []))),BlkA y 124 #[.pointer (some ⟨a,0,none⟩)],BlkA I 27 #[.int .i64 0],RdA p (rsAt pre []),OldA w.heap.size w]++T) W2 ⟨k2,x,A',n',c',hx,rfl,rfl,rfl⟩ (by rw [zO];exact h)
         rw [zO]at h2;exact h2
        case done=>
         intro D W hW;have h1:=(Sp.starBack (X:=BA Ai b b (grpB g)) (hW.sel [1,6,12,7,2,4,5,8,9,10,11]) ap.o).p1.p2.p1.starIn.sel [2,3,4,1,0,5,6,7,8];clear hW Q;go_wp2;refine⟨j - (i+1),by omega,hJ _ _ _ ⟨_,_,_,_,_,_,_,_,_,_,_,_,_,_,D::Ds,i+1,⟨by omega,rfl,?_⟩,rfl⟩⟩;rw [hm.o];exact h1
       ·obtain rfl:i=j:=by omega
        have a0:frG gs i=n:=(by unfold frG;rw [zF (by rw [Hq.o];omega),hh.o,hr.o]);rw [a0]at S;obtain⟨Aa,ca,css,h2⟩:=Sp.allOut S;rw [zF (by rw [hr.o];omega)]at h2
        have f:Sp wr [DatA (.slice Aa n ca) docs,BlkA Lb 179 #[.slice Aa n ca],BlkA a 208 #[.slice U i t,.int .i64 (n:Int)],RowA 206 3 (.slice U i t) i (yd gs As i).flatten,zz (bysA gs As),zz (Ds.map fun D=>ObjA D (.deferred (some []))),BlkA y 124 #[.pointer (some ⟨a,0,none⟩)],BlkA I 27 #[.int .i64 0],RdA p (rsAt pre []),OldA w.heap.size w]:=
         (Sp.els (α:=List Entry) (h2.sel [1,2,0,3,4,5,6,7,8,9,10]))
        have aj:=zA (gN Aa n ca docs wr (f.ls M0) hn y4.o);have c0:=f.cl M1 0;clear h2 S;go_wp2_with fail;refine aj.o.mono ?_;rintro e w8 ⟨A8,m8,c8,rfl,ao⟩;have C:=f.c1 ao;have y0:=zA (bY A8 A m8 nb c8 c (ZB docs) (ZB docs) w8 (by have:=(C.rb M0).2;omega) (C.rb M0).1 (Hl.o.on ((C.d1.d1).below M8)));rw [decide_eq_true rfl]at y0;clear aj ao f;go_wp2_with fail
        refine y0.o.mono ?_;rintro e w9 ⟨rfl,q9,rfl⟩;have ho:=(C.drewN q9).sel [9,3,4,5,6,7,8,10];have M:=zA (Zm ho);have g0:(w8.drewN q9).cell? ⟨y,0,none⟩=some (.pointer (some ⟨a,0,none⟩)):=ho.cell M5 0;have g1:=(ho.blkOf M5).frozen 0;have g2:(w8.drewN q9).cell? ⟨I,0,none⟩=some (.int .i64 0):=ho.cell M6 0;have g3:=(ho.blkOf M6).frozen 0;have cf:I≠y:=(by omega)
        have b1:y≠I:=(by omega);clear C y0;go_wp2_with (go_at_call 144;refine M.o.mono ?_;rintro e ba ⟨rfl,rfl⟩);have hS:=(((ho.p5.set 0 (.pointer (some ⟨a,0,none⟩))).p6.set 0 (.int .i64 0)).sel [6,3,4,5,1,0,7]);clear ho M;have eg:=enters_of func143 (by kernel_rfl) rfl
        refine Vy (L:= [BlkA a 208 #[.slice U i t,.int .i64 (n:Int)],RowA 206 3 (.slice U i t) i (yd gs As i).flatten,zz (bysA gs As),BlkA y 124 #[.pointer (some ⟨a,0,none⟩)],BlkA I 27 #[.int .i64 0],OldA w.heap.size w]) (fun w' h=> ?_) Ds hS
        refine⟨by simp,.inr ⟨fun _=>by omega,.func 143,#[.pointer (some ⟨y,0,none⟩),.pointer (some ⟨I,0,none⟩)],143,#[.pointer (some ⟨y,0,none⟩),.pointer (some ⟨I,0,none⟩)],rfl,by simp [invoke,go_sem,eg],fun _ _=>trivial,?_⟩⟩;refine(tZ _ ⟨y,0,none⟩ ⟨I,0,none⟩ w').mono ?_;rintro e u' ci ⟨rfl,rfl,hb⟩;have h2:=h.grow hb
        refine⟨_,C6 (s:=y) (e:=I) (by rfl) (by rfl) (h2.cell M3 0) (h2.cell M4 0),a,t,U,As,rfl,hv,?_⟩;exact h2.sel [0,1,2,5]
open Go.RowKit
theorem LT {B:aA} {m c:Nat} {items:List xw} {w:O} (o:zL w (·<w.heap.size) B m c items):
 Calls prog 7 #[.slice B m c] w fun e w' =>∃b,e= .returned (.bool b)/\xG w w' :=by
 have D:=zA o;have s:=o.cap;clear o;go_enter func7,ntmps7;go_wp2
 go_loopg [3,4] m (fun gk v3 v4 wr=>∃(z:Int) (i:Nat),v3= .int .i64 z/\v4= .int .i64 i/\i<=m/\gk=m - i/\xG w wr)
 case atStart=>exact⟨0,0,rfl,rfl,zJ _,rfl,xG.refl w⟩
 case round=>
  obtain⟨z,i,rfl,rfl,J,rfl,f⟩:=hrel
  by_cases a:i<m/\i<40
  ·obtain⟨a,G⟩:=a;have r :(i:Int)<40:=(by omega);obtain⟨b,off,x,rfl, -,U,u⟩:=D.o.at_ a
   obtain⟨L,h,R, -,M,g, -⟩:=xw.at_ u
   have l:=zA g;have n:=g.cap;clear u g;obtain⟨q,rfl⟩:=f;go_wp2
   go_loopg [3,5] h (fun gk v3 v5 wr=>∃(z:Int) (k:Nat),v3= .int .i64 z/\v5= .int .i64 k/\k<=h/\gk=h - k/\xG w wr)
   case atStart=>exact⟨z,0,rfl,rfl,zJ _,rfl,⟨_,rfl⟩⟩
   case round=>
    obtain⟨y,k,rfl,rfl,W,rfl,Y,rfl⟩:=hrel
    by_cases p:k<h
    ·obtain⟨P,C,t,rfl, -,H,j⟩:=l.o.at_ p
     obtain⟨K,X,Q, -,T1,N, -⟩:=Entry.at_ j
     have A :(k:Int)<h:=(by omega);have v :(i:Int)<m:=(by omega);clear j;go_upto_region 8 with fail
     go_quiet (fail)
     go_wp2
     go_roundg (h - (k+1))
     ·exact⟨_,k+1,rfl,by go_num,by omega,rfl,⟨_,rfl⟩⟩
     ·omega
    ·obtain rfl:k=h:=by omega
     go_wp2
     go_roundg (m - (i+1))
     ·exact⟨y,i+1,rfl,by go_num,by omega,rfl,⟨_,rfl⟩⟩
     ·omega
  ·have I:i=m\/(i<m/\¬i<40):=(by omega);clear a;rcases I with rfl|⟨S,T⟩
   ·by_cases F:i<=30
    ·have d :(i:Int)<=30:=(by omega);go_wp2;go_ret
     first|exact⟨_,rfl,f⟩|exact⟨.inl rfl,f⟩
    ·have d :¬(i:Int)<=30:=(by omega);go_wp2;go_ret
     first|exact⟨_,rfl,f⟩|exact⟨.inl rfl,f⟩
   ·have E :¬(i:Int)<40:=(by omega);have d :¬(m:Int)<=30:=(by omega);go_wp2;go_ret
    first|exact⟨_,rfl,f⟩|exact⟨.inl rfl,f⟩
def fsG:List Field:= [⟨⟨#[116]⟩,1, [1,10],0,0,false,false⟩,⟨⟨#[107]⟩,2, [],0,0,false,false⟩]
def O2:List Entry:= [⟨⟨#[116]⟩,⟨#[66,32,97]⟩, []⟩,⟨⟨#[107]⟩,⟨#[120]⟩, []⟩]
def itG:List xw:= [(⟨5⟩,O2)]
theorem Yh {α:Type} [Rep α] {W:O} {F:Nat->Prop} {g k:Nat} {t:TypeId} {cs:aG} {es:aF} {x:α} (h:Blk W g t cs) (b:rep W F es x) (a:∀j u,es[j]? =some u->cs[k*Rep.size α+j]? =some u):xp W F g 0 k x:=
 ⟨es,b,fun j u c=>by rw [zx,h.cell];exact a j u c⟩
theorem Xe {a b c:aF} {j:Nat} {u:V} (h:b[j]? =some u):((a++b++c).toArray)[a.length+j]? =some u:=by
 have d:=zN h;rw [yF,zO,zR (by omega),z9 (by omega)];rw [<-h];congr 1;omega
theorem EF {W:O} {F:Nat->Prop} {g n:Nat} {t:TypeId} {xs:aD} (h:Blk W g t (xs.map (Value.int .i64)).toArray) (e:xs.length=n) (f:∀x∈xs,In64 x) (hF:F g) (d:n<=9223372036854775807):zL W F (some ⟨g,0,none⟩) n n xs:=
 zL.of_elems e (zC _) d hF (fun k x a=>Yh h (es:= [.int .i64 x]) ⟨rfl,f x (zD a)⟩ (fun j u b=>by
  have c:j=0:=(by have:=zN b;simp at this;omega);subst c;rw [show Rep.size Int=1 from rfl,yF,yr,yt,zH,a]
  simpa using b))
theorem ES (w:O):Calls prog 91 #[] w fun e w' =>∃A,e= .returned (.agg #[.slice A 2 2])/\zL w' (·<w'.heap.size) A 2 2 fsG/\Below w.heap.size w w' :=by
 go_enter func91,ntmps91;go_wp2;obtain⟨W0,b⟩:=eX ((w.alloc (.cells #[.slice (some ⟨w.heap.size+1+1,0,none⟩) 2 2] 24)).alloc (.cells #[.int .i64 1,.int .i64 10] 3));have i:W0.heap.size=w.heap.size+2:=by rw [<-b];simp
 have f:Below w.heap.size w W0:=by rw [<-b];exact((zE _ _).alloc (zC _) _).alloc (by simp) _
 have y:Blk W0 w.heap.size 24 #[.slice (some ⟨w.heap.size+1+1,0,none⟩) 2 2]:=by rw [<-b];exact(Blk.new w _ _).alloc _
 have z:Blk W0 (w.heap.size+1) 3 #[.int .i64 1,.int .i64 10]:=by
  rw [<-b];have:=Blk.new (w.alloc (.cells #[.slice (some ⟨w.heap.size+1+1,0,none⟩) 2 2] 24)) 3 #[.int .i64 1,.int .i64 10]
  simpa using this
 rw [b];clear b;have l:=Blk.new W0 61 #[.string ⟨#[116]⟩,.int .i64 1,.slice (some ⟨w.heap.size+1,0,none⟩) 2 2,.int .i64 0,.int .i64 0,.bool false,.bool false,.string ⟨#[107]⟩,.int .i64 2,.slice none 0 0,.int .i64 0,.int .i64 0,.bool false,.bool false]
 have g:=f.alloc f.size (.cells #[.string ⟨#[116]⟩,.int .i64 1,.slice (some ⟨w.heap.size+1,0,none⟩) 2 2,.int .i64 0,.int .i64 0,.bool false,.bool false,.string ⟨#[107]⟩,.int .i64 2,.slice none 0 0,.int .i64 0,.int .i64 0,.bool false,.bool false] 61)
 have p:=(y.alloc (.cells #[.string ⟨#[116]⟩,.int .i64 1,.slice (some ⟨w.heap.size+1,0,none⟩) 2 2,.int .i64 0,.int .i64 0,.bool false,.bool false,.string ⟨#[107]⟩,.int .i64 2,.slice none 0 0,.int .i64 0,.int .i64 0,.bool false,.bool false] 61))
 have q:=(z.alloc (.cells #[.string ⟨#[116]⟩,.int .i64 1,.slice (some ⟨w.heap.size+1,0,none⟩) 2 2,.int .i64 0,.int .i64 0,.bool false,.bool false,.string ⟨#[107]⟩,.int .i64 2,.slice none 0 0,.int .i64 0,.int .i64 0,.bool false,.bool false] 61))
 obtain⟨W,m⟩:=eX (W0.alloc (.cells #[.string ⟨#[116]⟩,.int .i64 1,.slice (some ⟨w.heap.size+1,0,none⟩) 2 2,.int .i64 0,.int .i64 0,.bool false,.bool false,.string ⟨#[107]⟩,.int .i64 2,.slice none 0 0,.int .i64 0,.int .i64 0,.bool false,.bool false] 61));have r:W.heap.size=w.heap.size+3:=by rw [<-m];simp [i]
 rw [i]at l;rw [m]at l g p q⊢;clear m;have d:=p.cell 0;have t:w.heap.size<W.heap.size:=by omega
 simp only [yF,zf]at d;refine bodyPost_ret (v:= .agg #[.slice (some ⟨w.heap.size+1+1,0,none⟩) 2 2]) (by simp [results,Tryz.results91,go_sem,d,t]) rfl ⟨_,rfl,?_,g⟩;refine zL.of_elems rfl (zC _) (by omega) (by omega) (fun k x h=> ?_);have n:k=0\/k=1:=by have:=zN h;simp [fsG]at this;omega
 rcases n with rfl|rfl
 ·simp [fsG]at h;subst h;exact Yh l (Field.of_cells (x:=⟨⟨#[116]⟩,1, [1,10],0,0,false,false⟩) (EF (xs:= [1,10]) q rfl (by intro x s;simp at s;unfold In64;omega) (by omega) (by decide)) (by unfold In64;decide) (by unfold In64;decide) (by unfold In64;decide) (by decide)) (fun j u o=>Xe (a:= []) o)
 ·simp [fsG]at h;subst h;exact Yh l (Field.of_cells (x:=⟨⟨#[107]⟩,2, [],0,0,false,false⟩) zL.nil (by unfold In64;decide) (by unfold In64;decide) (by unfold In64;decide) (by decide)) (fun j u o=>Xe (a:= [.string ⟨#[116]⟩,.int .i64 1,.slice (some ⟨w.heap.size+1,0,none⟩) 2 2,.int .i64 0,.int .i64 0,.bool false,.bool false]) (c:= []) o)
theorem JI {w W:O} (e:(w.alloc (.cells #[.string ⟨#[116]⟩,.string ⟨#[66,32,97]⟩,.slice none 0 0,.string ⟨#[107]⟩,.string ⟨#[120]⟩,.slice none 0 0] 86)).alloc (.cells #[.int .u64 5,.slice (some ⟨w.heap.size,0,none⟩) 2 2] 40)=W):
 zL W (·<W.heap.size) (some ⟨w.heap.size+1,0,none⟩) 1 1 itG/\Below w.heap.size w W:=by
 have l:W.heap.size=w.heap.size+2:=by rw [<-e];simp
 have h:Below w.heap.size w W:=by rw [<-e];exact((zE _ _).alloc (zC _) _).alloc (by simp) _
 have g:Blk W w.heap.size 86 #[.string ⟨#[116]⟩,.string ⟨#[66,32,97]⟩,.slice none 0 0,.string ⟨#[107]⟩,.string ⟨#[120]⟩,.slice none 0 0]:=by rw [<-e];exact(Blk.new w _ _).alloc _
 have m:Blk W (w.heap.size+1) 40 #[.int .u64 5,.slice (some ⟨w.heap.size,0,none⟩) 2 2]:=by
  rw [<-e];have:=Blk.new (w.alloc (.cells #[.string ⟨#[116]⟩,.string ⟨#[66,32,97]⟩,.slice none 0 0,.string ⟨#[107]⟩,.string ⟨#[120]⟩,.slice none 0 0] 86)) 40 #[.int .u64 5,.slice (some ⟨w.heap.size,0,none⟩) 2 2]
  simpa using this
 clear e;refine⟨zL.of_elems rfl (zC _) (by omega) (by omega) (fun k x b=> ?_),h⟩;have d:k=0:=by have:=zN b;simp [itG]at this;omega
 subst d;simp [itG]at b;subst b
 have i:zL W (·<W.heap.size) (some ⟨w.heap.size,0,none⟩) 2 2 O2:=by
  refine zL.of_elems rfl (zC _) (by omega) (by omega) (fun k x b=> ?_);have d:k=0\/k=1:=(by have:=zN b;simp [O2]at this;omega);rcases d with rfl|rfl
  ·simp [O2]at b;subst b;exact Yh g (Entry.of_cells (x:=⟨⟨#[116]⟩,⟨#[66,32,97]⟩, []⟩) zL.nil (by decide) (by decide)) (fun j u f=>Xe (a:= []) f)
  ·simp [O2]at b;subst b;exact Yh g (Entry.of_cells (x:=⟨⟨#[107]⟩,⟨#[120]⟩, []⟩) zL.nil (by decide) (by decide)) (fun j u f=>Xe (a:= [.string ⟨#[116]⟩,.string ⟨#[66,32,97]⟩,.slice none 0 0]) (c:= []) f)
 exact Yh m (es:= [.int .u64 5,.slice (some ⟨w.heap.size,0,none⟩) 2 2]) ⟨[.int .u64 5], [.slice (some ⟨w.heap.size,0,none⟩) 2 2],rfl,⟨rfl,by decide⟩,⟨_,_,_,rfl,i⟩⟩ (fun j u f=>Xe (a:= []) (c:= []) f)
open Go.RowKit Go.ChangeShapes Go.WideShapes Go.Deep
def Qs (P:Program) (t:TypeId) (α:Type) [Rep α] (Q:α->Prop):Prop:=
 ∀{H:Type} {enc:TypeId×V->H} {w:O} {base:Nat} {spare:Nat->Bool} {held:Bool} {fuel:Nat} {cs:aF} {x:DataW H×List MemPlace},
  DataW.trod enc P w base spare held fuel t cs=some x->Rows.uptoBulk x.1<=1048576->∃v:α,rep w (·<w.heap.size) cs v/\Q v
variable {P:Program}
theorem QR {t:TypeId} (a:P.underlying t=some (.int .i64)):Qs P t Int (fun _=>True):=by
 intro _ _ _ _ _ _ _ _ _ h _;obtain⟨n,rfl,_,b⟩:=DataW.trod_int a h;have:=bounds_i64 b;exact⟨n,⟨rfl,by unfold In64;omega⟩,trivial⟩
theorem jM {t:TypeId} (a:P.underlying t=some .bool):Qs P t Bool (fun _=>True):=by
 intro _ _ _ _ _ _ _ _ _ h _;obtain⟨b,rfl,_⟩:=DataW.trod_bool a h;exact⟨b,rfl,trivial⟩
theorem KG {H:Type} (bytes:aC):Rows.uptoBulk (DataW.lit (H:=H) (.string bytes))=bytes.length+1:=by simp [Rows.uptoBulk]
theorem KH {H:Type} (d:DataW H):1<=Rows.uptoBulk d:=by
 cases d with
 |lit l=>cases l<;>simp [Rows.uptoBulk]
 |nil=>simp [Rows.uptoBulk]
 |ptr d=>simp [Rows.uptoBulk]
 |slice elems spare=>simp [Rows.uptoBulk]
 |agg parts=>simp [Rows.uptoBulk]
 |iface t d=>simp [Rows.uptoBulk]
 |map entries=>simp [Rows.uptoBulk]
 |held h=>simp [Rows.uptoBulk]
theorem Uo {H:Type} {d:DataW H}:∀{l:List (DataW H)},d∈l->Rows.uptoBulk d<=Rows.uptoBulkAll l
 |x::r,h=>by
  simp only [Rows.uptoBulkAll];rcases yx.1 h with rfl|e
  ·omega
  ·have:=Uo e;omega
theorem oC {H:Type}:∀(l:List (DataW H)),l.length<=Rows.uptoBulkAll l
 | []=>by simp [Rows.uptoBulkAll]
 |x::r=>by have:=KH x;have:=oC r;simp only [Rows.uptoBulkAll,z6];omega
theorem U8 {t:TypeId} (b:P.underlying t=some .string):Qs P t aB (fun s=>s.size<=1048576):=by
 intro _ _ _ _ _ _ _ _ x h c;obtain⟨s,rfl,e,a⟩:=DataW.trod_string b h;refine⟨s,⟨rfl,a⟩,?_⟩;rw [e,KG]at c;have:s.data.toList.length=s.size:=by simp
 omega
theorem DS {t:TypeId} (b:P.underlying t=some (.int .u64)):Qs P t U64 (fun _=>True):=by
 intro _ _ _ _ _ _ _ _ _ h _;obtain⟨n,rfl,_,c⟩:=DataW.trod_int b h;have a:0<=n/\n<=18446744073709551615:=by simpa [Lit.wf,IntKind.min,IntKind.max,IntKind.signed,IntKind.bits]using c
 exact⟨⟨n.toNat⟩,⟨by show [Value.int .u64 n]= [Value.int .u64 ((n.toNat:Nat):Int)];rw [Int.toNat_of_nonneg a.1],by show n.toNat<_;omega⟩,trivial⟩
theorem X7 {α:Type} [Rep α] {Q:α->Prop} {t e:TypeId} (ht:P.underlying t=some (.slice e)) (hC:P.cellsOf e=Rep.size α) (ho:Qs P e α Q):
 Qs P t (List α) (fun xs=>xs.length<=1048576/\∀x∈xs,Q x):=by
 intro H enc w base spare held fuel cs x h hw;rcases open_slice ht h with⟨rfl,_⟩|⟨a,f,cap,m,n,D,Pl,rfl,hb,hl,hm,T,rfl,hi⟩
 ·exact⟨[],⟨none,0,0,rfl,zL.nil⟩,by simp,by simp⟩
 ·have ha:f<=m:=by rw [T];split<;>omega
  have Z:Rows.uptoBulkAll ((List.range f).map D)<=1048576:=(by simp only [Rows.uptoBulk]at hw;omega)
  have E:∀i,i<f->∃v:α,∃c,w.cells? base (a.add (i*P.cellsOf e)) (P.cellsOf e)=some c /\rep w (·<w.heap.size) c v/\Q v:=by
   intro i S;obtain⟨c,M,W⟩:=hi i (by omega);have G:=zY (Uo (List.mem_map.2 ⟨i,List.mem_range.2 S,rfl⟩:D i∈(List.range f).map D)) Z;obtain⟨v,Y,hq⟩:=ho W G;exact⟨v,c,M,Y,hq⟩
  have g:∀i:Fin f,∃v:α,∃c,w.cells? base (a.add (i.1*P.cellsOf e)) (P.cellsOf e)=some c /\rep w (·<w.heap.size) c v/\Q v:=fun i=>E i.1 i.2;refine⟨List.ofFn fun i=>Classical.choose (g i),⟨some a,f,cap,rfl,by simp,hl,hm,?_⟩,?_,?_⟩
  ·intro k x I;have z:k<f:=(by have:=zN I;simpa using this);rw [zB (by simpa using z),List.getElem_ofFn]at I;cases I;obtain⟨c,M,Y,_⟩:=Classical.choose_spec (g ⟨k,z⟩);obtain⟨_,R,s⟩:=World.cells?_some M;rw [hC]at R s;have q:0<Rep.size α:=Rep.pos;have h0:=s 0 q;obtain⟨u,K⟩:∃u,c[0]? =some u:=⟨_,zB (by omega)⟩;rw [K]at h0;obtain⟨_,L,N,_⟩:=E 0 (by omega)
   obtain⟨_,C,o⟩:=World.cells?_some N;rw [hC]at C o;have A:=o 0 q;obtain⟨u0,X⟩:∃u,L[0]? =some u:=⟨_,zB (by omega)⟩;rw [X]at A;obtain⟨b,off,J⟩:=a
   have y:J=none:=by
    have U:=World.cell?_spot A
    simpa [Addr.add]using U
   subst y
   have l:∀i j:Nat,((⟨b,off,none⟩:Addr).add i).add j=⟨b,off+i+j,none⟩:=by
    intro i j;unfold Addr.add;split<;>split<;>simp_all
   have B:b<w.heap.size:=by
    have:=ye h0;rw [l]at this;exact this
   refine⟨b,off,rfl,B,c,Y,fun j u K=> ?_⟩;have hj:j<Rep.size α:=(by have:=zN K;omega);have:=s j hj;rw [l,K]at this;exact this
  ·have:=oC ((List.range f).map D);simp at this⊢;omega
  ·intro x I;obtain⟨k,z⟩:=z8 I;have F:k<f:=(by have:=zN z;simpa using this);rw [zB (by simpa using F),List.getElem_ofFn]at z;cases z;exact(Classical.choose_spec (g ⟨k,F⟩)).choose_spec.2.2
theorem X8 {H:Type} {enc:TypeId×V->H} {w:O} {base:Nat} {spare:Nat->Bool} {held:Bool} {t:TypeId} {b:Array _root_.Go.Field} {fuel:Nat} {cs:aF} {x:DataW H×List MemPlace} (l:P.underlying t=some (.struct b)) (h:DataW.trod enc P w base spare held fuel t cs=some x) (m:Rows.uptoBulk x.1<=1048576):
 cs.length=P.cellsOf t/\∀(i:Nat) (f:_root_.Go.Field),b[i]? =some f->∃n y,DataW.trod enc P w base spare held n f.type ((cs.drop f.offset).take (P.cellsOf f.type))=some y/\Rows.uptoBulk y.1<=1048576:=by
 obtain⟨xs,n,_,rfl,j,hlen,g⟩:=DataW.trod_struct l h;refine⟨j,fun i f e=> ?_⟩;have a:i<xs.length:=by rw [hlen];exact(Array.getElem?_eq_some_iff.1 e).1
 have c:=g i f e;rw [zB a]at c;refine⟨n,_,c,?_⟩;have k:(xs[i]).1∈xs.map (·.1):=List.mem_map.2 ⟨xs[i],List.getElem_mem a,rfl⟩;have o:=Uo k;simp only [Rows.uptoBulk]at m;omega
theorem uJ:Qs prog 61 Field (fun _=>True):=by
 intro H enc w base spare held fuel cs x h l;obtain⟨b,a⟩:=X8 underlying61 h l;rw [show Tryz.prog.cellsOf 61=7 by kernel_rfl]at b
 match cs,b with
 | [c0,c1,c2,c3,c4,c5,c6],_=>
   obtain⟨_,_,c,w0⟩:=a 0 _ rfl;obtain⟨_,_,e,B⟩:=a 1 _ rfl;obtain⟨_,_,f,C⟩:=a 2 _ rfl;obtain⟨_,_,g,D⟩:=a 3 _ rfl;obtain⟨_,_,i,E⟩:=a 4 _ rfl;obtain⟨_,_,j,F⟩:=a 5 _ rfl;obtain⟨_,_,k,G⟩:=a 6 _ rfl;obtain⟨y,m,_⟩:=U8 underlying9 c w0;obtain⟨z,n,_⟩:=QR underlying3 e B;obtain⟨v2,o,_⟩:=X7 underlying55 (show Tryz.prog.cellsOf 3=1 by kernel_rfl) (QR underlying3) f C
   obtain⟨v3,q,_⟩:=QR underlying3 g D;obtain⟨v4,s,_⟩:=QR underlying3 i E;obtain⟨v5,t,_⟩:=jM underlying4 j F;obtain⟨A,u,_⟩:=jM underlying4 k G;exact⟨⟨y,z,v2,v3,v4,v5,A⟩,⟨c0,c1,c2,c3,c4,c5,c6,rfl,m,n,o,q,s,t,u⟩,trivial⟩
theorem uK:Qs prog 86 Entry (fun e=>e.text.size<=1048576/\e.numbers.length<=1048576):=by
 intro H enc w base spare held fuel cs x h i;obtain⟨b,a⟩:=X8 underlying86 h i;rw [show Tryz.prog.cellsOf 86=3 by kernel_rfl]at b
 match cs,b with
 | [c0,c1,c2],_=>
   obtain⟨_,_,c,w0⟩:=a 0 _ rfl;obtain⟨_,_,f,s⟩:=a 1 _ rfl;obtain⟨_,_,g,t⟩:=a 2 _ rfl;obtain⟨o,l,_⟩:=U8 underlying9 c w0;obtain⟨q,m,j⟩:=U8 underlying9 f s;obtain⟨v2,n,k,_⟩:=X7 underlying57 (show Tryz.prog.cellsOf 2=1 by kernel_rfl) (QR underlying2) g t;exact⟨⟨o,q,v2⟩,⟨c0,c1,c2,rfl,l,m,n⟩,j,k⟩
theorem wT:Qs prog 40 xw (fun x=>∀e∈x.2,e.text.size<=1048576/\e.numbers.length<=1048576):=by
 intro H enc w base spare held fuel cs x h j;obtain⟨b,c⟩:=X8 underlying40 h j;rw [show Tryz.prog.cellsOf 40=2 by kernel_rfl]at b
 match cs,b with
 | [c0,c1],_=>
   obtain⟨_,_,f,w0⟩:=c 0 _ rfl;obtain⟨_,_,g,q⟩:=c 1 _ rfl;obtain⟨n,l,_⟩:=DS underlying35 f w0;obtain⟨_,a⟩:=X8 underlying38 g q;obtain⟨_,_,i,s⟩:=a 0 _ rfl;obtain⟨o,m,_,k⟩:=X7 underlying36 (show Tryz.prog.cellsOf 86=3 by kernel_rfl) uK i s;exact⟨(n,o),⟨[c0], [c1],rfl,l,m⟩,k⟩
section
variable {H:Type} {enc:TypeId×V->H} {w:O} {base:Nat} {spare:Nat->Bool} {held:Bool} {r:Reach} {b0:Nat} {v:V} {d:DataW H} {p:List MemPlace}
theorem uL (m:Value.okWide prog w r b0 24 v) (h:DataW.Trod enc prog w base spare held 24 v d p) (o:Rows.uptoBulk d<=1048576):
 ∃A n c a,v= .agg #[.slice A n c]/\zL (α:=Field) w (·<w.heap.size) A n c a:=by
 obtain⟨cs,rfl,e⟩:=okWide_struct underlying24 m;obtain⟨l⟩:=cs
 match l,e.trans (show Tryz.prog.cellsOf 24=1 by kernel_rfl)with
 | [c0],_=>
   obtain⟨fuel,i⟩:=h;obtain⟨_,j⟩:=X8 underlying24 i o;obtain⟨_,_,f,w0⟩:=j 0 _ rfl;obtain⟨a,⟨A,n,c,g,k⟩,_⟩:=X7 underlying22 (show Tryz.prog.cellsOf 61=7 by kernel_rfl) uJ f w0;have b :c0= .slice A n c:=(by simpa [Value.cells,show Tryz.prog.cellsOf 22=1 by kernel_rfl]using g);exact⟨A,n,c,a,by rw [b],k⟩
theorem wU (m:Value.okWide prog w r b0 25 v) (h:DataW.Trod enc prog w base spare held 25 v d p) (o:Rows.uptoBulk d<=1048576):
 ∃A n c items,v= .slice A n c/\zL (α:=xw) w (·<w.heap.size) A n c items/\∀x∈items,∀e∈x.2,e.text.size<=1048576/\e.numbers.length<=1048576:=by
 obtain⟨a,l,f,rfl⟩:=okWide_slice underlying25 m;obtain⟨fuel,i⟩:=h;obtain⟨items,⟨A,n,c,g,k⟩,_,j⟩:=X7 underlying25 (show Tryz.prog.cellsOf 40=2 by kernel_rfl) wT i o;have b :Value.slice a l f= .slice A n c:=by simpa [Value.cells]using g
 exact⟨A,n,c,items,b,k,j⟩
end
end Go.Proofs.YtjbhbfaeielbiaaGreatDoor

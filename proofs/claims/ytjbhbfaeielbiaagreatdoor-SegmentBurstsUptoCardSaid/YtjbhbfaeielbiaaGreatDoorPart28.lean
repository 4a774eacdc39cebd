import Derived.Test.YtjbhbfaeielbiaaGreatDoorPart25
import Derived.Test.YtjbhbfaeielbiaaGreatDoorPart26
import Derived.Test.YtjbhbfaeielbiaaGreatDoorPart22
set_option maxRecDepth 100000
set_option maxHeartbeats 8000000
set_option linter.unusedVariables false
set_option linter.unusedSimpArgs false
namespace Go.Proofs.YtjbhbfaeielbiaaGreatDoor
open Tryz
open Rep (rep)
open Go.RowKit
attribute [local go_sem ↓] zU zV
theorem nD {rows:List aD} {k:Nat} {row:aD} {y:UInt8} (h:rows[k]? =some row) (hy:(Zq rows)[k / 8]? =some y):y.toNat.testBit (k%8)= !row.isEmpty:=by
 have hk:=zN h;have e:=Us (XX rows) 1 k;unfold bitB at e;rw [show Z8 (XX rows) 1=Zq rows from rfl,hy]at e;simp only [yk,yq]at e;rw [e];unfold N9 XX;rw [zK,Nat.one_mul,decide_eq_true hk,Nat.div_one,zH,h,Nat.mod_one];cases row<;>simp
theorem pQ {y r:Nat} (hy:y<256):bits .and .u8 ((y:Int) / 2^r) 1=if y.testBit r then 1 else 0:=by
 have e:(y:Int) / 2^r=((y / 2^r:Nat):Int):=by
  rw [Int.natCast_ediv,Int.natCast_pow];rfl
 rw [e];have hl:y / 2^r<256:=Nat.lt_of_le_of_lt (Nat.div_le_self _ _) hy
 have ht:y.testBit r=decide (y / 2^r%2=1):=by
  rw [Nat.testBit_eq_decide_div_mod_eq]
 rw [ht];generalize y / 2^r=x at*;show IntKind.u8.wrap ((BitVec.ofInt 8 (x:Int) &&& BitVec.ofInt 8 1).toNat:Int)=_;rw [yE,show BitVec.ofInt 8 1=BitVec.ofNat 8 1 from rfl,BitVec.toNat_and,yJ,yJ,zy (by omega),show 1%2^8=2^1 - 1 from rfl,Nat.and_two_pow_sub_one_eq_mod,IntKind.wrap_u8]
 by_cases h:x%2=1<;>simp [h]<;>omega
def cntL (rows:List aD) (k:Nat):Nat:=(yp (rows.take k)).length
theorem lZ {rows:List aD} {k:Nat} {row:aD} (h:rows[k]? =some row):cntL rows (k+1)=cntL rows k+if row.isEmpty then 0 else 1:=by
 unfold cntL yp;rw [zI,h];cases row<;>simp
theorem LN {rows:List aD} {k:Nat} {row:aD} (h:rows[k]? =some row) (hne:row≠ []):(yp rows)[cntL rows k]? =some ((row.length:Int) - 1):=by
 have e:yp rows=yp (rows.take k)++((row.length:Int) - 1)::yp (rows.drop (k+1)):=by
  conv=>lhs;rw [<-zu k rows,yb h]
  unfold yp;rw [List.filter_append,zw,List.filter_cons_of_pos (by simpa using hne)];rfl
 unfold cntL;rw [e,zR (zC _),yh];rfl
theorem pK (rows:List aD) (k:Nat):cntL rows k<=k:=by
 unfold cntL yp;rw [zK];have:=List.length_filter_le (fun l:aD=> !l.isEmpty) (rows.take k);rw [zr]at this;omega
def Y4 (rows:List aD) (k:Nat):aD:=(List.range k).map fun j=>((rows.take (j+1)).flatten.length:Int)
theorem jW (rows:List aD) (k:Nat):Y4 rows (k+1)=Y4 rows k++ [((rows.take (k+1)).flatten.length:Int)]:=by
 simp [Y4,List.range_succ]
theorem iE (rows:List aD):(Zq rows).length=(rows.length+7) / 8:=by
 unfold Zq;rw [XU,zK];unfold yK;rw [Nat.one_mul]
theorem YL (pre post:aC):(rsAt pre post).left=post.length:=by simp [rsAt,RS.left]
theorem QA {p:Nat} {pre post:aC} {L:List Asn} {w:O} (h:Sp w (RdA p (rsAt pre post)::L)):
 Calls prog 79 #[.pointer (some ⟨p,0,none⟩)] w fun e w' =>e= .returned (.int .i64 0)/\w=w' :=dH h
theorem CM {w:O} {g:Nat} {u v:V} {tmps:aG} {b:Bool} (h0:tmps.getD 2 undef= .pointer (some ⟨g,0,none⟩)) (h3:tmps.getD 3 undef= .bool b) (hb:Blk w g 324 #[u,v]):(results Tryz.f204 tmps).run prog w= .ok (.tuple #[.agg #[u,v],.bool b]) w:=by
 have h1:=run_loadVar_row (P:=prog) w g 324 324 #[u,v] (0,0) _ hb underlying324 rfl (by kernel_rfl);have h2:Tryz.f204.results= #[ResultVar.cell 2 324,ResultVar.tmp 3]:=rfl;have h5:tmps[2]?.getD undef= .pointer (some ⟨g,0,none⟩):=by simpa using h0
 have h6:tmps[3]?.getD undef= .bool b:=by simpa using h3
 simp [results,h2,h5,h6,h1,asAddr,Result.andThen]
theorem iQ (A:aA) (nb c:Nat) (rows:List aD) (w:O) (hc:nb<=c) (hc2:c<=9223372036854775807) (hnb:nb<=100000000000) (hl:RB w A nb (colL rows)) (hn:rows.length<=16384) (hr:∀r∈rows,r.length<=64/\InL r):
 Calls prog 204 #[.slice A nb c] w fun e w' =>∃A1 A2 c1 n m,e= .returned (.tuple #[.agg #[.slice A1 n c1,.slice A2 m m],.bool true])/\
  Sp w' [NA A1 n c1 (Y4 rows rows.length),IA A2 m m rows.flatten,OldA w.heap.size w]:=by
 obtain⟨n,hn0⟩:=eX (rows.length);rw [hn0]at hn⊢;obtain⟨N,hN⟩:=eX ((n+7) / 8);have hN1:((n:Int)+7) / 8=(N:Int):=by omega
 have hN2:wrap64 (N:Int)=N:=by unfold wrap64;omega
 have hN16:N<=2100:=by omega
 have hNn:n<=8*N:=by omega
 have Hn0:=zA hn0;have Hr:=zA hr;have HNl:Hid ((Zq rows).length=N):=by show _=_;rw [iE,hn0];exact hN
 obtain⟨Rb,hRb⟩:=eX (w.heap.size);obtain⟨Bc,hBc⟩:=eX (Rb+1);have HS0:=((Sp.start w).blkH 324 #[.slice none 0 0,.slice none 0 0] hRb).blkH 324 #[.slice none 0 0,.slice none 0 0] (H:=Bc) (by simp [hRb,hBc]);have HNr:=zA (VG (c:=c) HS0 (hl.on (HS0.below M2)) (by omega))
 have hle:InL (yp rows):=by
  intro x hx;unfold yp at hx;obtain⟨l,hl,rfl⟩:=List.mem_map.1 hx;have:=(hr l (List.mem_filter.1 hl).1).1;omega
 have hfl:InL rows.flatten:=by
  intro x hx;obtain⟨l,hl,hx⟩:=List.mem_flatten.1 hx;exact(hr l hl).2 x hx
 have HLe:=zA hle;have HFl:=zA hfl;have hnbl:Hid ((colL rows).length=nb):=hl.len;clear hl hr hN hn0 hle hfl;go_enter func204,ntmps204;go_wp2_with fail;refine HNr.out.mono ?_;rintro e w1 ⟨p,rfl,HS1⟩
 have HS2:Sp w1 [RdA p (rsAt [] (zP n++(Zq rows++(putL (yp rows)++putL rows.flatten)))),BlkA Bc 324 #[.slice none 0 0,.slice none 0 0],BlkA Rb 324 #[.slice none 0 0,.slice none 0 0],OldA w.heap.size w]:=by
  unfold colL at HS1;rw [Hn0.out]at HS1
  simpa [rsAt]using HS1
 have HSz:=zA (ZH HS2 16384 (by omega));rw [yn (by omega) hn]at HSz;clear HNr HS0 HS1 HS2;go_wp2_with fail;refine HSz.out.mono ?_;rintro e w2 ⟨rfl,HS3⟩;have HBy:=zA (XQ (z:=N) HS3 HNl.out (by omega));clear HSz HS3;go_wp2_with fail;refine HBy.out.mono ?_;rintro e w3 ⟨A3,rfl,HS4⟩;have HEr:=zA (QA HS4.p1);clear HBy;go_wp2_with fail;refine HEr.out.mono ?_;rintro e w4 ⟨rfl,rfl⟩;clear HEr
 obtain⟨g3,hg3,hc3⟩:∃g3,(0<N->A3=some ⟨g3,0,none⟩)/\∀j y,(Zq rows)[j]? =some y->w3.cell? ⟨g3,j,none⟩=some (.int .u8 (y.toNat:Int)):=by
  rcases zi N with h|h
  ·refine⟨0,fun h' =>by omega,fun j y hy=> ?_⟩;have h1:=zN hy;rw [HNl.out]at h1;omega
  ·obtain⟨g3,e,_,_,hc⟩:=(HS4.rowOf M0).at_ h
   exact⟨g3,fun _=>e,fun j y hy=>hc j _ (V4 hy)⟩
 have Hg3:=zA hg3;have Hc3:=zA hc3;clear hg3 hc3;go_wp2
 go_loopg [8,33] n (fun gk v8 vi wr=>∃k:Nat,vi= .int .i64 k/\v8= .int .i64 (cntL rows k:Nat)/\k<=n/\gk=n - k/\wr=w3)
 case atStart=>exact⟨0,rfl,rfl,zJ _,rfl,rfl⟩
 case round=>
  obtain⟨k,rfl,rfl,hk,rfl,rfl⟩:=hrel
  by_cases hkn:k<n
  ·obtain⟨row,Hrow⟩:∃row,Hid (rows[k]? =some row):=⟨_,zB (by rw [Hn0.out];exact hkn)⟩;have hk8:k / 8<N:=(by omega);obtain⟨y,Hy⟩:∃y,Hid ((Zq rows)[k / 8]? =some y):=⟨_,zB (by rw [HNl.out];exact hk8)⟩;obtain rfl:A3=some ⟨g3,0,none⟩:=Hg3.out (by omega);have hcy:=Hc3.out _ _ Hy.out
   have hbit:bits .and .u8 ((y.toNat:Int) / 2^(k%8)) 1=if row.isEmpty then 0 else 1:=by
    rw [pQ y.toNat_lt,nD Hrow.out Hy.out];cases row<;>rfl
   have Hst:=zA (lZ Hrow.out);have hcl:=pK rows k;go_wp2
   all_goals
    go_roundg (n - (k+1))
    ·exact⟨k+1,by go_num,by rw [Hst.out];simp [*],by omega,rfl,rfl⟩
    ·omega
  ·obtain rfl:k=n:=by omega
   obtain⟨m1,hm1⟩:=eX ((yp rows).length);have hall:cntL rows k=m1:=(by unfold cntL;rw [zF (by rw [Hn0.out];exact zC _),hm1]);have hm1k:m1<=k:=(by rw [<-hall];exact pK rows k);have Hm1:=zA hm1;rw [hall];obtain⟨rest,hrest⟩:=eX (putL (yp rows)++putL rows.flatten);obtain⟨Z,hZ⟩:=eX (rest.length)
   have hZn:Z<=nb:=by
    have h:=hnbl.out;unfold colL at h;rw [hrest]at h;simp only [zG]at h;omega
   have Hrest:=zA hrest;have HZ:=zA hZ;rw [hrest]at HS4;have HLt:=zA (Xz HS4.p1);rw [YL,hZ]at HLt;clear hrest hZ hall hm1 hN1 hNn;go_wp2_with fail;refine HLt.out.mono ?_;rintro e w5 ⟨rfl,k5,rfl⟩;have HS5:=(HS4.drewN k5).p1;rw [<-zo rest]at HS5;have HBr:=zA (XQ (z:=Z) HS5 HZ.out (by omega));clear HLt HS4 HS5;go_wp2_with fail;refine HBr.out.mono ?_;rintro e w6 ⟨A6,rfl,HS6⟩;clear HBr
   have HG:=zA (getS (c:=Z) HS6 (by have h:=(HS6.rb M0).1;rw [<-Hrest.out]at h;exact h) (by omega) HLe.out (by rw [Hm1.out];omega));rw [Hm1.out]at HG;go_wp2_with fail;refine HG.out.mono ?_;rintro e w7 ⟨A7,rfl,HS7⟩;clear HG HS6
   obtain⟨g7,hg7⟩:∃g7,0<m1->A7=some ⟨g7,0,none⟩:=by
    rcases zi m1 with h|h
    ·exact⟨0,fun h' =>by omega⟩
    ·obtain⟨g7,e,_⟩:=(HS7.rowOf M0).at_ h
     exact⟨g7,fun _=>e⟩
   have Hg7:=zA hg7;have HS8:=(HS7.nil 3 1).sel [0,5,1,2,4,6,7];simp only [yo,List.filterMap_nil,zf,zj]at HS8;clear hg7 HS7;go_wp2
   go_loopg [14,15,64] k (fun gk v14 v15 vi wr=>∃(j q a:Nat) (Ae:aA) (ce:Nat),vi= .int .i64 j/\v15= .int .i64 q/\v14= .int .i64 a/\j<=k/\gk=k - j/\q<=j/\a<=64*j/\Hid (q=cntL rows j)/\Hid (a=(rows.take j).flatten.length)/\
    Sp wr [NA Ae j ce (Y4 rows j),BlkA Bc 324 #[.slice Ae j ce,.slice none 0 0],IA A7 m1 m1 (yp rows),BA A6 Z Z rest,BA A3 N N (Zq rows),BlkA Rb 324 #[.slice none 0 0,.slice none 0 0],OldA w.heap.size w])
   case atStart=>exact⟨0,0,0,none,0,rfl,rfl,rfl,zJ _,rfl,zC _,zJ _,rfl,rfl,HS8⟩
   case round=>
    obtain⟨j,q,a,Ae,ce,rfl,rfl,rfl,hj,rfl,hqj,haj,HQ,HA,HS⟩:=hrel;clear HS8
    by_cases hjk:j<k
    ·obtain⟨row,Hrow⟩:∃row,Hid (rows[j]? =some row):=⟨_,zB (by rw [Hn0.out];exact hjk)⟩;have hk8:j / 8<N:=(by have h:=HNl.out;rw [iE,Hn0.out]at h;omega);obtain⟨y,Hy⟩:∃y,Hid ((Zq rows)[j / 8]? =some y):=⟨_,zB (by rw [HNl.out];exact hk8)⟩;obtain rfl:A3=some ⟨g3,0,none⟩:=Hg3.out (by omega);have hcy:=HS.rowCell M4 (V4 Hy.out)
     have hbit:bits .and .u8 ((y.toNat:Int) / 2^(j%8)) 1=if row.isEmpty then 0 else 1:=by
      rw [pQ y.toNat_lt,nD Hrow.out Hy.out];cases row<;>rfl
     have Hst:=zA (lZ Hrow.out)
     have Hfl2:Hid ((rows.take (j+1)).flatten.length=a+row.length):=by
      show _=_;rw [zI,Hrow.out,HA.out];simp
     have hb0:=HS.cl M1 0
     by_cases hne:row= []
     ·subst hne;have hbit' :bits .and .u8 ((y.toNat:Int) / 2^(j%8)) 1=0:=(by rw [hbit];exact if_pos rfl);clear hbit;go_wp2_with (at_builtin;refine yC Xr (.tmp 100) (.tmp 102) rfl rfl HS rfl (cs:= #[.int .i64 (a:Int)]) rfl rfl rfl (by intro u hu;simp at hu;subst hu;rfl) (by omega) (by omega) ?_;intro A8 c8 w8 hc8 hm8 HS8;have hq1:=HS8.cl M1 0;have hqf1:=(HS8.blkOf M1).frozen 0)
      have HS9:=(HS8.p1.set 0 (.slice A8 (j+1) c8)).p1;have e:ints (Y4 rows j)++ #[Value.int .i64 (a:Int)].toList=ints (Y4 rows (j+1)):=(by rw [jW,Hfl2.out];simp [ints]);rw [e]at HS9
      have HQ2:Hid (q=cntL rows (j+1)):=by
       have h:=Hst.out;rw [<-HQ.out]at h;exact h.symm
      have HA2:Hid (a=(rows.take (j+1)).flatten.length):=Hfl2.out.symm;clear hbit' Hst Hfl2 HQ HA HS8
      go_roundg (k - (j+1))
      ·exact⟨j+1,q,a,A8,c8,by go_num,rfl,rfl,by omega,rfl,by omega,by omega,HQ2,HA2,HS9⟩
      ·omega
     ·have hie:row.isEmpty=false:=by
       cases row with
       |nil=>exact absurd rfl hne
       |cons _ _=>rfl
      have hbit' :bits .and .u8 ((y.toNat:Int) / 2^(j%8)) 1=1:=(by rw [hbit,hie];exact if_neg Bool.false_ne_true);obtain⟨L,hL⟩:=eX (row.length);have hL1:1<=L:=Nat.pos_of_ne_zero fun h=>hne (List.length_eq_zero_iff.1 (hL.trans h));have hL2:L<=64:=(by rw [<-hL];exact(Hr.out row (zD Hrow.out)).1);have hla:=LN Hrow.out hne;rw [<-HQ.out,hL]at hla;have hqm:q<m1:=(by rw [<-Hm1.out];exact zN hla)
      obtain rfl:A7=some ⟨g7,0,none⟩:=Hg7.out (by omega);have hcl:=HS.rowCell M2 (Z9 hla);have hl1:¬((L:Int) - 1<0):=(by omega);have hl2:¬((64:Int)<=(L:Int) - 1):=(by omega);have hst2:cntL rows (j+1)=q+1:=(by rw [Hst.out,<-HQ.out,hie,if_neg Bool.false_ne_true]);have Hst2:=zA hst2;have Hfl3:Hid ((rows.take (j+1)).flatten.length=a+L):=(by show _=_;rw [Hfl2.out,hL])
      clear hbit hL hla Hst hst2 Hfl2 hne hie;go_wp2_with (at_builtin;refine yC Xr (.tmp 100) (.tmp 102) rfl rfl HS rfl (cs:= #[.int .i64 ((a:Int)+(L:Int))]) rfl rfl rfl (by intro u hu;simp at hu;subst hu;rfl) (by omega) (by omega) ?_;intro A8 c8 w8 hc8 hm8 HS8;have hq1:=HS8.cl M1 0;have hqf1:=(HS8.blkOf M1).frozen 0);have HS9:=(HS8.p1.set 0 (.slice A8 (j+1) c8)).p1
      have e:ints (Y4 rows j)++ #[Value.int .i64 ((a:Int)+(L:Int))].toList=ints (Y4 rows (j+1)):=(by rw [jW,Hfl3.out];simp [ints]);rw [e]at HS9;have HQ2:=Hst2.out.symm;have HA2:=Hfl3.out.symm;clear hbit' HQ HA HS8
      go_roundg (k - (j+1))
      case measure=>omega
      case rel=>
       have hae:(a:Int)+(L:Int)=((a+L:Nat):Int):=(by omega);rw [hae];exact⟨j+1,q+1,a+L,A8,c8,by go_num,by go_num,rfl,by omega,rfl,by omega,by omega,HQ2,HA2,HS9⟩
    ·obtain rfl:j=k:=by omega
     have haf:a=rows.flatten.length:=by
      have h:=HA.out;rw [zF (by rw [Hn0.out];exact zC _)]at h;exact h
     obtain⟨s1,hs1⟩:=eX ((putL (yp rows)).length);obtain⟨s2,hs2⟩:=eX ((putL rows.flatten).length);have hss:s1+s2=Z:=(by rw [<-HZ.out,<-Hrest.out,zG,hs1,hs2]);have hT:=(HS.rb M3).1.tail (k:=s1) (zC _) (by omega);rw [<-Hrest.out,<-hs1,List.drop_left,hs1,<-zo (putL rows.flatten)]at hT;have hk1:(s1:Int)<=Z:=(by omega);have hk0:(0:Int)<=s1:=(by omega)
     have hx:∀W:O,(Instr.slice 65 (.slice A6 Z Z) (some (.int .i64 (s1:Int))) none none).run prog W= .ok (.slice (if Z=s1 then A6 else A6.map (·.add s1)) (Z - s1) (Z - s1)) W:=by
      intro W;clear hT HS;simp [Instr.slice,Instr.sliceBounds,go_sem,hk1,hk0]
     obtain⟨A9,hA9⟩:=eX ((if Z=s1 then A6 else A6.map (·.add s1)));obtain⟨z2,hz2⟩:=eX (Z - s1);rw [hA9,hz2]at hT;simp only [hA9,hz2]at hx;have HG:=zA (getS (c:=z2) HS hT (by omega) HFl.out (by omega));rw [hs2,<-haf]at HG;have hsum:(s1:Int)+(s2:Int)=(Z:Int):=(by omega);have Haf:=zA haf;rw [hs1];clear hT hA9 hz2 haf hs1 hs2 hss;go_wp2_with fail;refine HG.out.mono ?_;rintro e w9 ⟨A10,rfl,HS9⟩
     have hc0:=HS9.cl M2 0;have hc1:=HS9.cl M2 1;have hf0:=(HS9.blkOf M2).frozen 0;have hf1:=(HS9.blkOf M2).frozen 1;have hr0:=HS9.d1.cl M5 0;have hr1:=HS9.d1.cl M5 1;have hg0:=(HS9.d1.blkOf M5).frozen 0;have hg1:=(HS9.d1.blkOf M5).frozen 1;have hne:¬Rb=Bc:=(by omega);have hne2:¬Bc=Rb:=(by omega);go_wp2
     try simp only [Exit.inBlock,Exit.then]
     have HS10:=((HS9.p2.set 1 (.slice A10 a a)).sel [2,1,6,0,7]);simp only [yo,List.filterMap_nil,zf,zj]at HS10;have HS11:=(HS10.p2.set 0 (.slice Ae j ce)).set 1 (.slice A10 a a);refine bodyPost_ret (CM (g:=Rb) (u:= .slice Ae j ce) (v:= .slice A10 a a) (b:=true) (by rfl) (by rfl) ?_) rfl ?_
     ·exact HS11.blkOf M0
     ·refine⟨Ae,A10,ce,j,a,rfl,?_⟩;have HS12:=HS11.sel [1,2,4];exact HS12
theorem V1 (B:Nat) (A:aA) (n c:Nat) (w:O) (h0:w.cell? ⟨B,0,none⟩=some (.slice A n c)):
 Calls prog 267 #[.pointer (some ⟨B,0,none⟩)] w fun e w' =>e= .returned (.int .i64 (n:Int))/\w' =w:=by
 go_enter func267,ntmps267;go_wp2;go_ret
 exact⟨rfl,rfl⟩
structure ColAt (w:O) (B:Nat) (rows:List aD) (n:Nat) (E:aA) (ce:Nat) (A:aA) (m:Nat):Prop where
 c0:w.cell? ⟨B,0,none⟩=some (.slice E n ce)
 c1:w.cell? ⟨B,1,none⟩=some (.slice A m m)
 re:RI w E n (Y4 rows n)
 len:rows.length=n
 all:rows.flatten.length=m
theorem nS {rows:List aD} {n k:Nat} (h:k<n):(Y4 rows n)[k]? =some ((rows.take (k+1)).flatten.length:Int):=by
 simp [Y4,h]
theorem Qk (rows:List aD) (k:Nat):(rows.take k).flatten.length<=rows.flatten.length:=by
 conv=>rhs;rw [<-zu k rows,yf,zG]
 omega
theorem Xg {rows:List aD} {k:Nat} {row:aD} (h:rows[k]? =some row):(rows.take (k+1)).flatten=(rows.take k).flatten++row:=by
 rw [zI,h];simp
theorem j5 (B:Nat) (rows:List aD) (n k:Nat) (E:aA) (ce:Nat) (A:aA) (m:Nat) (w:O) (hc:ColAt w B rows n E ce A m) (hk:k<n) (hm:m<=100000000) (hn:n<=16384) (row:aD) (hrow:rows[k]? =some row):
 Calls prog 269 #[.pointer (some ⟨B,0,none⟩),.int .i64 (k:Int)] w fun e w' =>e= .returned (.slice (if m=(rows.take k).flatten.length then A else A.map (·.add (rows.take k).flatten.length)) row.length (m - (rows.take k).flatten.length))/\xG w w' :=by
 obtain⟨h0,h1,hr,hl,ha⟩:=hc;obtain⟨f,hf⟩:=eX ((rows.take k).flatten.length);obtain⟨t,ht⟩:=eX ((rows.take (k+1)).flatten.length);have hft:f+row.length=t:=by rw [<-ht,Xg hrow,zG,hf]
 have htm:t<=m:=by rw [<-ht,<-ha];exact Qk _ _
 obtain⟨b,off,rfl,_,hce⟩:=hr.2 (by omega)
 have hct:w.cell? ⟨b,off+k,none⟩=some (.int .i64 (t:Int)):=by
  refine hce k _ ?_;unfold ints;rw [zH,nS hk,ht];rfl
 have Hcol:=zA (V1 B (some ⟨b,off,none⟩) n ce w h0);rw [hf];obtain⟨z,hz⟩:=eX (row.length);rw [hz]at hft⊢;have hzs:t - f=z:=by omega
 have hft1:(f:Int)<=t:=by omega
 have htm1:(t:Int)<=m:=by omega
 have hf0:(0:Int)<=f:=by omega
 have hnf:¬t<f:=by omega
 have ht0:(0:Int)<=t:=by omega
 have hx:∀W:O,(Instr.slice 57 (.slice A m m) (some (.int .i64 (f:Int))) (some (.int .i64 (t:Int))) none).run prog W= .ok (.slice (if m=f then A else A.map (·.add f)) z (m - f)) W:=by
  intro W;clear hct hce Hcol;simp [Instr.slice,Instr.sliceBounds,go_sem,hft1,htm1,hf0,ht0,hzs,hnf]
 by_cases hk0:k=0
 ·subst hk0;have hf00:f=0:=(by rw [<-hf];rfl);subst hf00;have hA0:(if m=0 then A else A.map (·.add 0))=A:=by cases A<;>simp [Addr.add]
  rw [hA0,Nat.sub_zero];simp only [yt]at hct;clear hce hrow hf ht;go_enter func269,ntmps269;go_wp2_with (refine Hcol.out.mono ?_;rintro e w1 ⟨rfl,rfl⟩)
  go_region
  all_goals
   go_wp2;go_ret
   exact⟨rfl,1,rfl⟩
 ·obtain⟨A5,hA5⟩:=eX ((if m=f then A else A.map (·.add f)));obtain⟨c5,hc5⟩:=eX (m - f);rw [hA5,hc5];simp only [hA5,hc5]at hx;clear hA5 hc5
  have hcf:w.cell? ⟨b,off+(k - 1),none⟩=some (.int .i64 (f:Int)):=by
   refine hce (k - 1) _ ?_;unfold ints;rw [zH,nS (by omega),show k - 1+1=k by omega,hf];rfl
  have hk1:(k:Int) - 1=((k - 1:Nat):Int):=(by omega);have hkp:(0:Int)<k:=(by omega);clear hce hrow hf ht;go_enter func269,ntmps269;go_wp2_with (refine Hcol.out.mono ?_;rintro e w1 ⟨rfl,rfl⟩)
  go_region
  all_goals
   go_wp2;go_ret
   exact⟨rfl,1,rfl⟩
def OT (A:aA) (m:Nat) (rows:List aD) (k:Nat):V:=
 .slice (if m=(rows.take k).flatten.length then A else A.map (·.add (rows.take k).flatten.length)) ((rows[k]?).getD []).length (m - (rows.take k).flatten.length)
def Vb (A:aA) (m:Nat) (rows:List aD) (k:Nat):List aF:=(List.range k).map fun j=> [OT A m rows j]
theorem vV (A:aA) (m:Nat) (rows:List aD) (k:Nat):Vb A m rows (k+1)=Vb A m rows k++ [[OT A m rows k]]:=by
 simp [Vb,List.range_succ]
theorem nQ {rows:List aD} {k j:Nat} {row:aD} (h:rows[k]? =some row) (hj:j<row.length):rows.flatten[(rows.take k).flatten.length+j]? =row[j]? :=by
 have e:rows.flatten=(rows.take k).flatten++(row++(rows.drop (k+1)).flatten):=by
  conv=>lhs;rw [<-zu k rows,yb h]
  rw [yf,yM]
 rw [e,zR (by omega),Nat.add_sub_cancel_left,z9 hj]
theorem Sp.rowsOf {w:O} {L:List Asn} {A:aA} {m:Nat} {rows:List aD} (h:Sp w (IA A m m rows.flatten::L)) (hI:InL rows.flatten):Sp w (ElsA (Vb A m rows rows.length) rows::L):=by
 have hil:=(h.ilen M0);refine h.turn fun S hS=>⟨⟨by simp [Vb],fun k cs row h1 h2=> ?_⟩,fun b hb=>(hS.2.lt b ((hS.1 b).1 hb)).2⟩;have hk:=zN h2;unfold Vb at h1;rw [zH,zq hk]at h1;obtain rfl:=(yG h1).symm;have hle:=Qk rows (k+1);rw [Xg h2,zG]at hle;have hf:=hil.1;have e:((rows[k]?).getD []).length=row.length:=by rw [h2];rfl
 show rep w S [OT A m rows k] row;unfold OT;rw [e];refine⟨_,_,_,rfl,rfl,by omega,by omega,fun j x hx=> ?_⟩;have hj:=zN hx;obtain⟨g,hg,_,_,hc⟩:=hS.2.at_ (by omega)
 subst hg;rw [if_neg (by omega)];refine⟨g,0+(rows.take k).flatten.length,by rw [yk,Qq],(hS.1 g).2 rfl, [.int .i64 x],⟨rfl,?_⟩,fun i u hu=> ?_⟩
 ·exact hI x (List.mem_flatten.2 ⟨row,zD h2,zD hx⟩)
 ·have hi:i=0:=(by have:=zN hu;simp at this;omega);subst hi;cases hu;rw [zx,show Rep.size Int=1 from rfl,yr,yt];refine hc _ _ ?_;unfold Go.Proofs.YtjbhbfaeielbiaaGreatDoor.ints;rw [zH,nQ h2 hj,hx];rfl
theorem CL {w:O} {L:List Asn} {B n ce m:Nat} {t:TypeId} {E A:aA} {rows:List aD} (h:Sp w (BlkA B t #[.slice E n ce,.slice A m m]::NA E n ce (Y4 rows n)::IA A m m rows.flatten::L)) (hlen:rows.length=n) (hn:n<=16384) (hI:InL rows.flatten) (hm:m<=100000000):
 Calls prog 209 #[.pointer (some ⟨B,0,none⟩)] w fun e w' =>∃A' c',e= .returned (.slice A' n c')/\Sp w' (DatA (.slice A' n c') rows::BlkA B t #[.slice E n ce,.slice A m m]::NA E n ce (Y4 rows n)::L):=by
 have hil:=(h.ilen M2);have Hlen:=zA hlen;have Hal:=zA hil.1;have HLe:=zA (V1 B E n ce w (h.cell M0 0));have HS0:=h.nil 57 1;clear h hlen hil;go_enter func209,ntmps209;go_wp2_with fail;refine HLe.out.mono ?_;rintro e w1 ⟨rfl,rfl⟩;go_wp2
 go_loopg [3,7] n (fun gk vo vi wr=>∃(k:Nat) (Ao:aA) (co:Nat),k<=n/\gk=n - k/\vi= .int .i64 k/\vo= .slice Ao k co/\Sp wr (RowA 57 1 (.slice Ao k co) k (Vb A m rows k).flatten::BlkA B t #[.slice E n ce,.slice A m m]::NA E n ce (Y4 rows n)::IA A m m rows.flatten::L))
 case atStart=>exact⟨0,none,0,zJ _,rfl,rfl,rfl,HS0⟩
 case round=>
  obtain⟨k,Ao,co,hk,rfl,rfl,rfl,HS⟩:=hrel;clear HS0 HLe
  by_cases hkn:k<n
  ·obtain⟨row,Hrow⟩:∃row,Hid (rows[k]? =some row):=⟨_,zB (by rw [Hlen.out];exact hkn)⟩;have HR:=zA (j5 B rows n k E ce A m wr ⟨HS.cell M1 0,HS.cell M1 1,HS.rc M2,Hlen.out,Hal.out⟩ hkn hm hn row Hrow.out)
   have hv:OT A m rows k= .slice (if m=(rows.take k).flatten.length then A else A.map (·.add (rows.take k).flatten.length)) row.length (m - (rows.take k).flatten.length):=by
    unfold OT;rw [Hrow.out];rfl
   obtain⟨A5,hA5⟩:=eX ((if m=(rows.take k).flatten.length then A else A.map (·.add (rows.take k).flatten.length)));obtain⟨z5,hz5⟩:=eX (row.length);obtain⟨c5,hc5⟩:=eX (m - (rows.take k).flatten.length);rw [hA5,hz5,hc5]at HR hv;have Hs:Hid ((Vb A m rows (k+1)).flatten=(Vb A m rows k).flatten++ #[Value.slice A5 z5 c5].toList):=(by show _=_;rw [vV,hv];simp);clear hv hA5 hz5 hc5;go_wp2_with fail
   refine HR.out.mono ?_;rintro e w2 ⟨rfl,q,rfl⟩;have HS2:=HS.drewN q;go_wp2_with (at_builtin;refine yC WY (.tmp 10) (.tmp 14) rfl rfl HS2 rfl (cs:= #[.slice A5 z5 c5]) rfl rfl rfl (by intro u hu;simp at hu;subst hu;rfl) (by omega) (by omega) ?_;intro A8 c8 w8 hc8 hm8 HS8);rw [<-Hs.out]at HS8
   go_roundg (n - (k+1))
   ·exact⟨k+1,A8,c8,by omega,rfl,by go_num,rfl,HS8⟩
   ·omega
  ·obtain rfl:k=n:=by omega
   have HS1:=HS.p3.rowsOf hI;rw [Hlen.out]at HS1;have HS2:=HS1.p1.els (α:=aD);go_wp2;go_ret
   exact⟨Ao,co,rfl,HS2⟩
theorem CK (A:aA) (n c:Nat) (rows:List aD) (w:O) (hl:zL w (·<w.heap.size) A n c rows) (hn:n<=16384) (hr:∀r∈rows,r.length<=64/\InL r):
 Calls prog 222 #[.slice A n c] w fun e w' =>∃A' c',e= .returned (.tuple #[.slice A' n c',.bool true])/\Sp w' [DatA (.slice A' n c') (rows.map xP),OldA w.heap.size w]:=by
 have Hlen:=zA hl.length;have Hl:=zA hl;have Hr:=zA hr;have HS0:=(Sp.start w).elsNil (α:=aD);have hnb:(n:Int)<=16384:=by omega
 have hmin:min (n:Int) 16384=(n:Int):=by omega
 clear hl hr;go_enter func222,ntmps222;go_wp2_with (at_make;refine gG WY (.const (.int .i64 0)) (.tmp 9) rfl rfl HS0 rfl rfl (by omega) (by omega) ?_;intro w2 A2 HS2)
 go_loopg [4,13] n (fun gk vo vi wr=>∃(k:Nat) (Ao:aA) (co:Nat) (css:List aF),k<=n/\gk=n - k/\vi= .int .i64 k/\vo= .slice Ao k co/\Sp wr [RowA 57 1 (.slice Ao k co) k css.flatten,ElsA css ((rows.take k).map xP),OldA w.heap.size w])
 case atStart=>exact⟨0,A2,n, [],zJ _,rfl,rfl,rfl,HS2⟩
 case round=>
  obtain⟨k,Ao,co,css,hk,rfl,rfl,rfl,HS⟩:=hrel;clear HS2
  by_cases hkn:k<n
  ·obtain⟨b,off,row,rfl,Hrow,hb,hel⟩:=Hl.out.at_ hkn
   obtain⟨Ar,nr,cr,e0,h5⟩:=hel.list;have hbl:=HS.below M2;have hc0:=(hbl.cell (p:=⟨b,off+k,none⟩) hb).trans e0;obtain⟨hr1,hr2⟩:=Hr.out row (zD Hrow.out);have hnr:=h5.length;have hnr64:(nr:Int)<=64:=(by omega);have HC:=zA (XW Ar nr cr (ints row) wr (by omega) (((h5.below hbl).more fun x hx=>zX hx hbl.size).reads_ints) (Y3 row))
   have htk:(rows.take (k+1)).map xP=(rows.take k).map xP++ [xP row]:=(by rw [zI,Hrow.out];simp);have Htk:=zA htk;have Hr2:Hid (∀x∈xP row,In64 x):=fun x hx=>hr2 x (lH.1 hx);clear htk e0 hel hbl h5 hr1 hr2;go_wp2_with fail;refine HC.out.mono ?_;rintro e w3 ⟨A3,c3,rfl,hrow3,hb3⟩;have HS3:Sp w3 (IA A3 nr c3 row::_):=HS.row hrow3 hb3;have HSo:=zA (mH HS3 (by omega));clear HC;go_wp2_with fail
   refine HSo.out.mono ?_;rintro e w4 ⟨rfl,HS4⟩;have HS5:=(HS4.ints Hr2.out).p1;go_wp2_with (at_builtin;refine yC WY (.tmp 29) (.tmp 31) rfl rfl HS5 rfl (cs:= #[.slice A3 nr c3]) rfl rfl rfl (by intro u hu;simp at hu;subst hu;rfl) (by omega) (by omega) ?_;intro A8 c8 w8 hc8 hm8 HS8);have HS9:=(HS8.p1.p2.p1).elsPush
   go_roundg (n - (k+1))
   ·exact⟨k+1,A8,c8,css++ [[.slice A3 nr c3]],by omega,rfl,by go_num,rfl,by rw [Htk.out];simpa using HS9.p1⟩
   ·omega
  ·obtain rfl:k=n:=by omega
   rw [zF (by rw [Hlen.out];omega)]at HS;have HS1:=HS.els (α:=aD);go_wp2;go_ret2;exact⟨Ao,co,rfl,HS1⟩
theorem gW (A:aA) (n c:Nat) (rows:List aD) (w:O) (hl:zL w (·<w.heap.size) A n c rows) (hn:n<=16384) (hr:∀r∈rows,r.length<=64/\InL r):
 Calls prog 166 #[.slice A n c] w fun e w' =>∃A' m c',e= .returned (.slice A' m c')/\m<=3000000000/\Sp w' [BA A' m c' (colL (rows.map xP)),OldA w.heap.size w]:=by
 have HV:=zA (CK A n c rows w hl hn hr)
 have hr2:∀r∈rows.map xP,r.length<=64/\InL r:=by
  intro r h;obtain⟨r0,h0,rfl⟩:=List.mem_map.1 h;exact⟨by rw [U0];exact(hr r0 h0).1,fun x hx=>(hr r0 h0).2 x (lH.1 hx)⟩
 have Hr:=zA hr2;clear hl hr hr2;go_enter func166,ntmps166;go_wp2_with fail;refine HV.out.mono ?_;rintro e w1 ⟨A1,c1,rfl,HS1⟩;have HF:=zA (kM A1 n c1 (rows.map xP) w1 (HS1.ls M0) hn Hr.out);go_wp2_with fail;refine HF.out.mono ?_;rintro e w2 ⟨A2,m2,c2,rfl,hm2,HT⟩;have HS2:=HS1.c1 HT;go_wp2;go_ret
 exact⟨A2,m2,c2,rfl,hm2,HS2.d1⟩
theorem zL.ri {w:O} {A:aA} {n c:Nat} {l:aD} (h:zL w (·<w.heap.size) A n c l):RI w A n l:=
 ⟨by rw [yr,<-h.length];simp [Go.Proofs.YtjbhbfaeielbiaaGreatDoor.ints],fun h0=>by
  obtain⟨b,off,x,rfl,_,hb,_⟩:=h.at_ h0
  refine⟨b,off,rfl,hb,fun j u hu=> ?_⟩;unfold Go.Proofs.YtjbhbfaeielbiaaGreatDoor.ints at hu;rw [zH]at hu;rcases hx:l[j]? with _|y
  ·rw [hx]at hu;cases hu
  ·rw [hx]at hu;cases hu;exact(h.elem hx).2.int.1⟩
def fldV (f:Field) (A:aA) (n c:Nat):aG:= #[.string f.name,.int .i64 f.kind,.slice A n c,.int .i64 f.scale,.int .i64 f.dims,.bool f.many,.bool f.stored]
theorem J0 (f:Field) (A:aA) (n c:Nat) (w:O) (h:1<=f.dims) (h4:f.dims<=4):
 Calls prog 168 #[.agg (fldV f A n c)] w fun e w' =>e= .returned (.int .i64 f.dims)/\Below w.heap.size w w' :=by
 have hb:=zA ((zE w.heap.size w).alloc (zC _) (.cells (fldV f A n c) 61));have hm:max f.dims 1=f.dims:=by omega
 unfold fldV at hb⊢;go_enter func168,ntmps168;go_wp2;go_ret
 exact⟨rfl,hb.out⟩
structure InvOk (f:Field) (ts:List aB) (ls:List (List PostD)) (lens:aD) (tx:List (List aB)) (nums:List aD) (pts:List Pt):Prop where
 tl:ls.length=ts.length
 tn:ts.length<=10000000000
 ps:∀ps∈ls,ps.length<=1000000/\∀p∈ps,p.pos.length<=10000000000
 ln:lens.length<=16384
 li:InL lens
 xn:tx.length<=16384
 xi:∀r∈tx,r.length<=64/\∀x∈r,x.size<=256
 nn:nums.length<=16384
 ni:∀r∈nums,r.length<=64/\InL r
 pn:pts.length<=1048576
 pi:ZG (if f.kind=5 then f.dims.toNat else 1) pts
def Ze (f:Field) (ts:List aB) (ls:List (List PostD)) (lens:aD) (tx:List (List aB)) (nums:List aD) (pts:List Pt):List aC:=
 if f.kind=1 then [ZM ts (atL ls ts.length),allL ls,putL lens]else if f.kind=2 then [ZM ts (atL ls ts.length),allL ls,Z5 tx]else if f.kind=5 then [bkdB f.dims.toNat pts]else [colL (nums.map xP),bkdB 1 pts]
def WA (f:Field) (ts:List aB) (ls:List (List PostD)):Prop:=f.kind=1\/f.kind=2->xQ ts=true/\(∀ps∈ls,xk ps=true)/\(allL ls).length<=16777216
theorem eE:Elt prog 128 65 1 24:=xt (by kernel_rfl) (by decide) (by kernel_rfl)
theorem sE {f:Field} {Af A0 A1 A2 A3 A4 A5:aA} {nf cf n0 c0 n1 c1 n2 c2 n3 c3 n4 c4 n5 c5:Nat} {ts:List aB} {ls:List (List PostD)} {lens:aD} {tx:List (List aB)} {nums:List aD} {pts:List Pt} {w:O}
 (hk:1<=f.kind/\f.kind<=5) (hd:f.kind=5->1<=f.dims/\f.dims<=4) (ok:InvOk f ts ls lens tx nums pts)
 (h0:zL w (·<w.heap.size) A0 n0 c0 ts) (h1:zL w (·<w.heap.size) A1 n1 c1 ls) (h2:zL w (·<w.heap.size) A2 n2 c2 lens) (h3:zL w (·<w.heap.size) A3 n3 c3 tx) (h4:zL w (·<w.heap.size) A4 n4 c4 nums) (h5:zL w (·<w.heap.size) A5 n5 c5 pts):
 Calls prog 88 #[.agg (fldV f Af nf cf),.agg #[.slice A0 n0 c0,.slice A1 n1 c1,.slice A2 n2 c2,.slice A3 n3 c3,.slice A4 n4 c4,.slice A5 n5 c5]] w (fH (WA f ts ls) w fun v w' =>∃A' n' c',v= .slice A' n' c' /\WA f ts ls/\(∀s∈Ze f ts ls lens tx nums pts,s.length<=6000000000)/\Sp w' [DatA (.slice A' n' c') (Ze f ts ls lens tx nums pts),OldA w.heap.size w]):=by
 obtain⟨H,hH⟩:=eX (w.heap.size);have HS0:=((Sp.start w).blkH 61 (fldV f Af nf cf) hH).blkH 150 #[.slice A0 n0 c0,.slice A1 n1 c1,.slice A2 n2 c2,.slice A3 n3 c3,.slice A4 n4 c4,.slice A5 n5 c5] (H:=H+1) (by simp [hH]);have e01:n1=n0:=by rw [<-h0.length,<-h1.length];exact ok.tl
 subst e01;have hbw:=HS0.below M2;obtain⟨w2,hw2⟩:=eX ((w.alloc (.cells (fldV f Af nf cf) 61)).alloc (.cells #[.slice A0 n1 c0,.slice A1 n1 c1,.slice A2 n2 c2,.slice A3 n3 c3,.slice A4 n4 c4,.slice A5 n5 c5] 150));rw [hw2]at HS0 hbw;have H0:=zA (h0.on hbw);have H1:=zA (h1.on hbw);have H2:=zA (h2.on hbw);have H3:=zA (h3.on hbw);have H4:=zA (h4.on hbw);have H5:=zA (h5.on hbw);have Ok:=zA ok
 have hl0:=h0.length;have hl2:=h2.length;have hl3:=h3.length;have hl4:=h4.length;have hl5:=h5.length;have hc2:=h2.cap;have b0:n1<=10000000000:=hl0▸ok.tn;have b2:n2<=16384:=hl2▸ok.ln;have b3:n3<=16384:=hl3▸ok.xn;have b4:n4<=16384:=hl4▸ok.nn;have b5:n5<=1048576:=hl5▸ok.pn;have Hl0:=zA hl0;clear h0 h1 h2 h3 h4 h5 ok hbw hl0 hl2 hl3 hl4 hl5;have p0:=HS0.cl M0 0;have p1:=HS0.cl M0 1;have p2:=HS0.cl M0 2
 have p3:=HS0.cl M0 3;have p4:=HS0.cl M0 4;have p5:=HS0.cl M0 5;have pk:=HS0.cl M1 1;unfold fldV at hw2⊢;obtain⟨kd,hkd⟩:=eX (f.kind);rw [hkd]at hk hd pk hw2;rcases(show kd=1\/kd=2\/kd=5\/(kd=3\/kd=4) by omega)with rfl|rfl|rfl|h34
 ·have HL:=zA (lK (v2:= .slice A2 n2 c2) (v3:= .slice A3 n3 c3) (v4:= .slice A4 n4 c4) (v5:= .slice A5 n5 c5) (w:=w2.drew) (H0.out.on (zE _ _).drew) (H1.out.on (zE _ _).drew) b0 Ok.out.ps);go_enter func88,ntmps88;go_upto_region 3 with fail;have HSd:=HS0.drew;clear HS0 hw2 p0 p1 p2 p3 p4 p5 pk hH
  refine gR [(1,fun w=>w.cell? ⟨H+1,0,none⟩=some (.slice A0 n1 c0)/\w.cell? ⟨H+1,1,none⟩=some (.slice A1 n1 c1)/\w.cell? ⟨H+1,2,none⟩=some (.slice A2 n2 c2)/\w.cell? ⟨H+1,3,none⟩=some (.slice A3 n3 c3)/\w.cell? ⟨H+1,4,none⟩=some (.slice A4 n4 c4)/\w.cell? ⟨H+1,5,none⟩=some (.slice A5 n5 c5)),(4,fun w=>w.cell? ⟨H+1,2,none⟩=some (.slice A2 n2 c2))] (zg (OG HSd M0) (hB (HSd.cell M0 2))) ?_
  refine gL 0 1 M0 ?_;refine gF 2 ?_;refine gL 3 4 M1 ?_;intro hC;refine gO 1 fun K hK=> ?_;go_simp;refine HL.out.mono ?_;rintro e w5 (⟨v,rfl,A',css,rfl,k1,k2,k3,k4,HS5⟩|⟨er,k0,kg,rfl,hb5⟩);rotate_left
  ·exact⟨rfl,.inr ⟨er,k0,fun g=>kg (g (.inl hkd)),rfl,(HSd.grow hb5).below M2⟩⟩
  have hb5:=HS5.below M2;have HS6:=HSd.c2 HS5;refine hK.out _ _ (zg (OG HS6 M2) (hB (HS6.cell M2 2))) ?_;clear hK K hC;intro hC;have HP:=zA (Qc A2 n2 c2 lens w5 (by omega) hc2.1 hc2.2 ((H2.out.on (zE _ _).drew).on hb5).ri Ok.out.li);clear HSd HS5 HL hb5;refine gO 4 fun K hK=> ?_;go_simp;refine HP.out.mono ?_;rintro e w6 ⟨A6,m6,rfl,hm6,HS7⟩;have HS8:=HS6.c1 HS7;refine hK.out _ _ hA ?_
  clear hK K hC;intro hC;clear HS6 HS7 HP;refine gO 5 fun K hK=> ?_;go_simp;refine hK.out _ _ hA ?_;clear hK K hC;intro hC;refine gO 6 fun K hK=> ?_;refine yz eE (.tmp 10) (.tmp 14) rfl rfl HS8.p1 rfl (cs:= #[.slice A6 m6 m6]) rfl rfl rfl (by intro u hu;simp at hu;subst hu;rfl) (by omega) (by omega) ?_;intro A8 c8 w8 hc8 hm8 HS9;refine hK.out _ _ hA ?_;clear hK K hC;refine gF 7 ?_;intro hC
  refine xW (by kernel_rfl) ?_;have e1:css.flatten++(#[Value.slice A6 m6 m6]:aG).toList=(css++ [[Value.slice A6 m6 m6]]).flatten:=(by simp);rw [e1]at HS9;have h1:=(Sp.bytes HS9.p1).p1;have h2:=(Sp.selT [_,_,_] h1 [1,2,0]).elsPush;have h3:=Sp.els (α:=aC) h2.p1;have hsec:Ze f ts ls lens tx nums pts= [ZM ts (atL ls n1),allL ls]++ [putL lens]:=(by unfold Ze;simp [hkd,Hl0.out])
  have hl6:=(HS8.rb M0).1.len
  have hsl:Hid (∀s∈Ze f ts ls lens tx nums pts,s.length<=6000000000):=by
   show ∀s∈Ze f ts ls lens tx nums pts,s.length<=6000000000;intro s hs;rw [hsec]at hs;simp at hs;rcases hs with rfl|rfl|rfl<;>omega
  rw [<-hsec]at h3;have h4:=Sp.selT [_,_,_,_] h3 [0,3];clear h1 h2 h3 HS9 HS8 hC e1 hsec hl6;go_wp2;go_ret
  exact .inl ⟨_,rfl,A8,3,c8,rfl,fun _=>⟨k1,k2,k3⟩,hsl.out,h4⟩
 ·have HL:=zA (lK (v2:= .slice A2 n2 c2) (v3:= .slice A3 n3 c3) (v4:= .slice A4 n4 c4) (v5:= .slice A5 n5 c5) (w:=w2.drew) (H0.out.on (zE _ _).drew) (H1.out.on (zE _ _).drew) b0 Ok.out.ps);go_enter func88,ntmps88;go_upto_region 5 with fail;have HSd:=HS0.drew;clear HS0 hw2 p0 p1 p2 p3 p4 p5 pk hH
  refine gR [(1,fun w=>w.cell? ⟨H+1,0,none⟩=some (.slice A0 n1 c0)/\w.cell? ⟨H+1,1,none⟩=some (.slice A1 n1 c1)/\w.cell? ⟨H+1,2,none⟩=some (.slice A2 n2 c2)/\w.cell? ⟨H+1,3,none⟩=some (.slice A3 n3 c3)/\w.cell? ⟨H+1,4,none⟩=some (.slice A4 n4 c4)/\w.cell? ⟨H+1,5,none⟩=some (.slice A5 n5 c5)),(4,fun w=>w.cell? ⟨H+1,3,none⟩=some (.slice A3 n3 c3))] (zg (OG HSd M0) (hB (HSd.cell M0 3))) ?_
  refine gL 0 1 M0 ?_;refine gF 2 ?_;refine gL 3 4 M1 ?_;intro hC;refine gO 1 fun K hK=> ?_;go_simp;refine HL.out.mono ?_;rintro e w5 (⟨v,rfl,A',css,rfl,k1,k2,k3,k4,HS5⟩|⟨er,k0,kg,rfl,hb5⟩);rotate_left
  ·exact⟨rfl,.inr ⟨er,k0,fun g=>kg (g (.inr hkd)),rfl,(HSd.grow hb5).below M2⟩⟩
  have hb5:=HS5.below M2;have HS6:=HSd.c2 HS5;refine hK.out _ _ (zg (OG HS6 M2) (hB (HS6.cell M2 3))) ?_;clear hK K hC;intro hC;have HP:=zA (kQ A3 n3 c3 tx w5 ((H3.out.on (zE _ _).drew).on hb5) (by omega) Ok.out.xi);clear HSd HS5 HL hb5;refine gO 4 fun K hK=> ?_;go_simp;refine HP.out.mono ?_;rintro e w6 ⟨A6,m6,c6,rfl,hm6,HS7⟩;have HS8:=HS6.c1 HS7;refine hK.out _ _ hA ?_;clear hK K hC;intro hC
  clear HS6 HS7 HP;refine gO 5 fun K hK=> ?_;go_simp;refine hK.out _ _ hA ?_;clear hK K hC;intro hC;refine gO 6 fun K hK=> ?_;refine yz eE (.tmp 19) (.tmp 23) rfl rfl HS8.p1 rfl (cs:= #[.slice A6 m6 c6]) rfl rfl rfl (by intro u hu;simp at hu;subst hu;rfl) (by omega) (by omega) ?_;intro A8 c8 w8 hc8 hm8 HS9;refine hK.out _ _ hA ?_;clear hK K hC;refine gF 7 ?_;intro hC;refine xW (by kernel_rfl) ?_
  have e1:css.flatten++(#[Value.slice A6 m6 c6]:aG).toList=(css++ [[Value.slice A6 m6 c6]]).flatten:=(by simp);rw [e1]at HS9;have h1:=(Sp.bytes HS9.p1).p1;have h2:=(Sp.selT [_,_,_] h1 [1,2,0]).elsPush;have h3:=Sp.els (α:=aC) h2.p1;have hsec:Ze f ts ls lens tx nums pts= [ZM ts (atL ls n1),allL ls]++ [Z5 tx]:=(by unfold Ze;simp [hkd,Hl0.out]);have hl6:=(HS8.rb M0).1.len
  have hsl:Hid (∀s∈Ze f ts ls lens tx nums pts,s.length<=6000000000):=by
   show ∀s∈Ze f ts ls lens tx nums pts,s.length<=6000000000;intro s hs;rw [hsec]at hs;simp at hs;rcases hs with rfl|rfl|rfl<;>omega
  rw [<-hsec]at h3;have h4:=Sp.selT [_,_,_,_] h3 [0,3];clear h1 h2 h3 HS9 HS8 hC e1 hsec hl6;go_wp2;go_ret
  exact .inl ⟨_,rfl,A8,3,c8,rfl,fun _=>⟨k1,k2,k3⟩,hsl.out,h4⟩
 ·obtain⟨d,hdd⟩:∃d:Nat,f.dims=(d:Int):=⟨f.dims.toNat,by have:=hd rfl;omega⟩;have hd1:1<=d/\d<=4:=(by have:=hd rfl;omega);have HD:=zA (J0 f Af nf cf w2.drew (by omega) (by omega));unfold fldV at HD HS0;rw [hkd,hdd]at HD HS0;rw [hdd]at hw2;have hpi:ZG d pts:=(by have h:=Ok.out.pi;rw [if_pos hkd,hdd]at h;exact h);have Hpi:=zA hpi;clear hpi;go_enter func88,ntmps88;go_upto_region 9 with fail
  have HSd:=HS0.drew;clear HS0 hw2 p0 p1 p2 p3 p4 p5 pk hH
  have h7:w2.drew.cell? ⟨H,0,none⟩=some (.string f.name)/\w2.drew.cell? ⟨H,1,none⟩=some (.int .i64 5)/\w2.drew.cell? ⟨H,2,none⟩=some (.slice Af nf cf)/\w2.drew.cell? ⟨H,3,none⟩=some (.int .i64 f.scale)/\w2.drew.cell? ⟨H,4,none⟩=some (.int .i64 (d:Int))/\w2.drew.cell? ⟨H,5,none⟩=some (.bool f.many)/\w2.drew.cell? ⟨H,6,none⟩=some (.bool f.stored):=⟨HSd.cell M1 0,HSd.cell M1 1,HSd.cell M1 2,HSd.cell M1 3,HSd.cell M1 4,HSd.cell M1 5,HSd.cell M1 6⟩
  refine gR [(1,fun w=>w.cell? ⟨H,0,none⟩=some (.string f.name)/\w.cell? ⟨H,1,none⟩=some (.int .i64 5)/\w.cell? ⟨H,2,none⟩=some (.slice Af nf cf)/\w.cell? ⟨H,3,none⟩=some (.int .i64 f.scale)/\w.cell? ⟨H,4,none⟩=some (.int .i64 (d:Int))/\w.cell? ⟨H,5,none⟩=some (.bool f.many)/\w.cell? ⟨H,6,none⟩=some (.bool f.stored)),(4,fun w=>w.cell? ⟨H+1,5,none⟩=some (.slice A5 n5 c5))] (zg h7 (hB (HSd.cell M0 5))) ?_
  refine gL 0 1 M0 ?_;refine gF 2 ?_;refine gL 3 4 M1 ?_;intro hC;refine gO 1 fun K hK=> ?_;go_simp;refine HD.out.mono ?_;rintro e w5 ⟨rfl,hb5⟩;have HS6:=HSd.grow hb5;refine hK.out _ _ (zg ⟨HS6.cell M1 0,HS6.cell M1 1,HS6.cell M1 2,HS6.cell M1 3,HS6.cell M1 4,HS6.cell M1 5,HS6.cell M1 6⟩ (hB (HS6.cell M0 5))) ?_;clear hK K hC;intro hC
  have HP:=zA (Qm A5 n5 c5 d pts w5 ((H5.out.on (zE _ _).drew).on hb5) Hpi.out (by omega) (by omega) (by omega));clear HSd HD hb5 h7;refine gO 4 fun K hK=> ?_;go_simp;refine HP.out.mono ?_;rintro e w6 ⟨A6,m6,c6,rfl,hm6,HS7⟩;have HS8:=HS6.c1 HS7;refine hK.out _ _ hA ?_;clear hK K hC;intro hC;clear HS6 HS7 HP;refine gO 5 fun K hK=> ?_;go_simp;refine hK.out _ _ hA ?_;clear hK K hC;refine gF 6 ?_
  intro hC;refine xW (by kernel_rfl) ?_;have h1:=(HS8.bytes.elsNil).p1.elsPush.lit #[.slice A6 m6 c6] 65 1 1 rfl (by decide);have h3:=Sp.els (α:=aC) (css:= [[.slice A6 m6 c6]]) (xs:= [bkdB d pts]) h1;have hsec:Ze f ts ls lens tx nums pts= [bkdB d pts]:=(by unfold Ze;simp [hkd,hdd]);have hl6:=(HS8.rb M0).1.len
  have hsl:Hid (∀s∈Ze f ts ls lens tx nums pts,s.length<=6000000000):=by
   show ∀s∈Ze f ts ls lens tx nums pts,s.length<=6000000000;intro s hs;rw [hsec]at hs;simp at hs;subst hs;omega
  rw [<-hsec]at h3;have h4:=Sp.selT [_,_,_,_] h3 [0,3];clear h1 h3 HS8 hC hsec hl6;go_wp2;go_ret
  exact .inl ⟨_,rfl,_,1,1,rfl,fun h=>by omega,hsl.out,h4⟩
 ·have HN:=zA (gW A4 n4 c4 nums w2.drew (H4.out.on (zE _ _).drew) (by omega) Ok.out.ni);have hpi:ZG 1 pts:=(by have h:=Ok.out.pi;rw [if_neg (by omega)]at h;exact h);have Hpi:=zA hpi;clear hpi;have hsec:Ze f ts ls lens tx nums pts= [colL (nums.map xP),bkdB 1 pts]:=(by unfold Ze;rw [if_neg (by omega),if_neg (by omega),if_neg (by omega)]);have Hsec:=zA hsec;clear hsec;rcases h34 with rfl|rfl
  all_goals
   go_enter func88,ntmps88;go_upto_region 8 with fail;have HSd:=HS0.drew;clear HS0 hw2 p0 p1 p2 p3 p4 p5 pk hH;refine gR [(2,fun w=>w.cell? ⟨H+1,4,none⟩=some (.slice A4 n4 c4)),(5,fun w=>w.cell? ⟨H+1,5,none⟩=some (.slice A5 n5 c5))] (zg (HSd.cell M0 4) (hB (HSd.cell M0 5))) ?_;refine gF 0 ?_;refine gL 1 2 M0 ?_;refine gF 3 ?_;refine gL 4 5 M1 ?_;intro hC;refine gO 2 fun K hK=> ?_;go_simp
   refine HN.out.mono ?_;rintro e w5 ⟨A7,m7,c7,rfl,hm7,HS5⟩;have hb5:=HS5.below M1;have HS6:=HSd.c1 HS5;refine hK.out _ _ (zg (HS6.cell M1 4) (hB (HS6.cell M1 5))) ?_;clear hK K hC;intro hC;have HP:=zA (Qm A5 n5 c5 1 pts w5 ((H5.out.on (zE _ _).drew).on hb5) Hpi.out (by decide) (by decide) (by omega));clear HSd HN hb5 HS5;refine gO 5 fun K hK=> ?_;go_simp;refine HP.out.mono ?_
   rintro e w6 ⟨A6,m6,c6,rfl,hm6,HS7⟩;have HS8:=HS6.c1 HS7;refine hK.out _ _ hA ?_;clear hK K hC;intro hC;clear HS6 HS7 HP;refine gO 6 fun K hK=> ?_;go_simp;refine hK.out _ _ hA ?_;clear hK K hC;refine gF 7 ?_;intro hC;refine xW (by kernel_rfl) ?_;have h1:=(HS8.p1.bytes.elsNil).p1.elsPush;have h2:=(h1.p1.bytes.elsPush).lit #[.slice A7 m7 c7,.slice A6 m6 c6] 65 1 2 rfl (by decide)
   have h3:=Sp.els (α:=aC) (css:= [[.slice A7 m7 c7], [.slice A6 m6 c6]]) (xs:= [colL (nums.map xP),bkdB 1 pts]) h2;have hl6:=(HS8.rb M0).1.len;have hl7:=(HS8.rb M1).1.len
   have hsl:Hid (∀s∈Ze f ts ls lens tx nums pts,s.length<=6000000000):=by
    show ∀s∈Ze f ts ls lens tx nums pts,s.length<=6000000000;intro s hs;rw [Hsec.out]at hs;simp only [yx,xZ,or_false]at hs;rcases hs with rfl|rfl<;>omega
   rw [<-Hsec.out]at h3;have h4:=Sp.selT [_,_,_,_] h3 [0,3];clear h1 h2 h3 HS8 hC hl6 hl7;go_wp2;go_ret
   exact .inl ⟨_,rfl,_,2,2,rfl,fun h=>by omega,hsl.out,h4⟩
theorem vQ (B:Nat) (A:aA) (n c:Nat) (w:O) (h0:w.cell? ⟨B,0,none⟩=some (.slice A n c)):
 Calls prog 207 #[.pointer (some ⟨B,0,none⟩)] w fun e w' =>e= .returned (.int .i64 (n:Int))/\w' =w:=by
 have H:=zA (V1 B A n c w h0);go_enter func207,ntmps207;go_wp2_with (refine H.out.mono ?_;rintro e w1 ⟨rfl,rfl⟩);go_ret
 exact⟨rfl,rfl⟩
theorem wR (B:Nat) (rows:List aD) (n k:Nat) (E:aA) (ce:Nat) (A:aA) (m:Nat) (w:O) (hc:ColAt w B rows n E ce A m) (hra:RI w A m rows.flatten) (hk:k<n) (hm:m<=100000000) (hn:n<=16384) (row:aD) (hrow:rows[k]? =some row) (hz:row.length<=64):
 Calls prog 268 #[.pointer (some ⟨B,0,none⟩),.int .i64 (k:Int)] w fun e w' =>∃A' c',e= .returned (.slice A' row.length c')/\Sp w' [NA A' row.length c' row,OldA w.heap.size w]:=by
 have HR:=zA (j5 B rows n k E ce A m w hc hk hm hn row hrow);obtain⟨f,hf⟩:=eX ((rows.take k).flatten.length);obtain⟨z,hz0⟩:=eX (row.length)
 have hfz:f+z<=m:=by
  have h:=Qk rows (k+1);rw [Xg hrow,zG,hf,hz0,hc.all]at h;exact h
 have Hce:Hid (0<z->∃b off,(if m=f then A else A.map (·.add f))=some ⟨b,off,none⟩/\∀j x,row[j]? =some x->b<w.heap.size/\w.cell? ⟨b,off+j,none⟩=some (.int .i64 x)):=by
  intro h0;obtain⟨b,off,rfl,hb,hcx⟩:=hra.2 (by omega);refine⟨b,off+f,by rw [if_neg (by omega),yk,Qq],fun j x hx=>⟨hb,?_⟩⟩;rw [Nat.add_assoc];refine hcx (f+j) _ ?_;unfold ints;rw [zH,<-hf,nQ hrow (zN hx),hx];rfl
 have Hz0:=zA hz0;rw [hf,hz0]at HR;rw [hz0]at hz⊢;obtain⟨A5,hA5⟩:=eX ((if m=f then A else A.map (·.add f)));obtain⟨c5,hc5⟩:=eX (m - f);rw [hA5,hc5]at HR;rw [hA5]at Hce;have HS0:=(Sp.start w).nil 3 1;clear hA5 hc5 hf hz0 hra hc hfz;go_enter func268,ntmps268;go_wp2_with fail;refine HR.out.mono ?_;rintro e w1 ⟨rfl,q,rfl⟩;have HS1:=HS0.drewN q;go_wp2
 go_loopg [5,16] z (fun gk vo vi wr=>∃(j:Nat) (Ao:aA) (co:Nat),j<=z/\gk=z - j/\vi= .int .i64 j/\vo= .slice Ao j co/\Sp wr [NA Ao j co (row.take j),OldA w.heap.size w])
 case atStart=>exact⟨0,none,0,zJ _,rfl,rfl,rfl,HS1⟩
 case round=>
  obtain⟨j,Ao,co,hj,rfl,rfl,rfl,HS⟩:=hrel;clear HS0 HS1
  by_cases hjz:j<z
  ·obtain⟨b,off,rfl,hcx⟩:=Hce.out (by omega);obtain⟨x,Hx⟩:∃x,Hid (row[j]? =some x):=⟨_,zB (by rw [Hz0.out];exact hjz)⟩;obtain⟨hb,hcx1⟩:=hcx j x Hx.out;have hcy:=((HS.below M1).cell (p:=⟨b,off+j,none⟩) hb).trans hcx1;clear hcx hcx1
   go_wp2_with (at_builtin;refine yC Xr (.tmp 20) (.tmp 22) rfl rfl HS rfl (cs:= #[.int .i64 x]) rfl rfl rfl (by intro u hu;simp at hu;subst hu;rfl) (by omega) (by omega) ?_;intro A8 c8 w8 hc8 hm8 HS8);have e:ints (row.take j)++ #[Value.int .i64 x].toList=ints (row.take (j+1)):=(by rw [zI,Hx.out];simp [ints]);rw [e]at HS8
   go_roundg (z - (j+1))
   ·exact⟨j+1,A8,c8,by omega,rfl,by go_num,rfl,HS8⟩
   ·omega
  ·obtain rfl:j=z:=by omega
   rw [zF (by rw [Hz0.out];omega)]at HS;go_wp2;go_ret
   exact⟨Ao,co,rfl,HS⟩
theorem vP (B:Nat) (rows:List aD) (n k:Nat) (E:aA) (ce:Nat) (A:aA) (m:Nat) (w:O) (hc:ColAt w B rows n E ce A m) (hra:RI w A m rows.flatten) (hk:k<n) (hm:m<=100000000) (hn:n<=16384) (row:aD) (hrow:rows[k]? =some row) (hz:row.length<=64)
 (At:aA) (mt ct:Nat) (ts:List aB) (hB:B<w.heap.size) (h2:w.cell? ⟨B,2,none⟩=some (.slice At mt ct)) (hts:zL w (·<w.heap.size) At mt ct ts) (l:List aB) (hl:l.length=row.length) (hx:∀(j:Nat) (t:aB),l[j]? =some t->∃i:Nat,row[j]? =some (i:Int)/\ts[i]? =some t):
 Calls prog 208 #[.pointer (some ⟨B,0,none⟩),.int .i64 (k:Int)] w fun e w' =>∃A' c',e= .returned (.slice A' l.length c')/\Sp w' [TA A' l.length c' l,OldA w.heap.size w]:=by
 have HR:=zA (wR B rows n k E ce A m w hc hra hk hm hn row hrow hz);have Hts:=zA hts;have Hx:=zA hx;have H2:=zA h2;obtain⟨z,hz0⟩:=eX (l.length);rw [<-hl,hz0]at HR;rw [<-hl,hz0]at hz;rw [hz0];have Hz0:=zA hz0;clear hts hx hz0 hra hc hrow hl h2;go_enter func208,ntmps208;go_wp2_with fail;refine HR.out.mono ?_;rintro e w1 ⟨A1,c1,rfl,HS1⟩;have HS2:=HS1.nil 9 1;go_wp2
 go_loopg [5,12] z (fun gk vo vi wr=>∃(j:Nat) (Ao:aA) (co:Nat),j<=z/\gk=z - j/\vi= .int .i64 j/\vo= .slice Ao j co/\Sp wr [TA Ao j co (l.take j),NA A1 z c1 row,OldA w.heap.size w])
 case atStart=>exact⟨0,none,0,zJ _,rfl,rfl,rfl,HS2⟩
 case round=>
  obtain⟨j,Ao,co,hj,rfl,rfl,rfl,HS⟩:=hrel;clear HS1 HS2
  by_cases hjz:j<z
  ·obtain⟨t,Ht⟩:∃t,Hid (l[j]? =some t):=⟨_,zB (by rw [Hz0.out];exact hjz)⟩;obtain⟨i,hi1,hi2⟩:=Hx.out j t Ht.out;obtain⟨g1,rfl, -, -, -⟩:=(HS.rowOf M1).at_ (by omega)
   have hci:wr.cell? ⟨g1,j,none⟩=some (.int .i64 (i:Int)):=HS.rowCell M1 (by unfold ints;rw [zH,hi1];rfl);have hbl:=HS.below M2;have him:=zN hi2;rw [Hts.out.length]at him;obtain⟨bt,ot,t',rfl,Ht',hbt,he⟩:=Hts.out.at_ him
   have e:=Ht'.out.symm.trans hi2;cases e;have hct:=(hbl.cell (p:=⟨bt,ot+i,none⟩) hbt).trans he.str.1;have hcb:=(hbl.cell (p:=⟨B,2,none⟩) hB).trans H2.out;have him2:(i:Int)<mt:=(by omega);clear he hi1 hi2 hbl
   go_wp2_with (at_builtin;refine yC Ql (.tmp 16) (.tmp 24) rfl rfl HS rfl (cs:= #[.string t]) rfl rfl rfl (by intro u hu;simp at hu;subst hu;rfl) (by omega) (by omega) ?_;intro A8 c8 w8 hc8 hm8 HS8);have e:sC (l.take j)++ #[Value.string t].toList=sC (l.take (j+1)):=(by rw [zI,Ht.out];simp [sC]);rw [e]at HS8
   go_roundg (z - (j+1))
   ·exact⟨j+1,A8,c8,by omega,rfl,by go_num,rfl,HS8⟩
   ·omega
  ·obtain rfl:j=z:=by omega
   rw [zF (by rw [Hz0.out];omega)]at HS;go_wp2;go_ret
   exact⟨Ao,co,rfl,HS.d1⟩
theorem KO (x:Int) (Cb Tb:Nat) (At:aA) (mt ct:Nat) (w:O) (hx:0<=x/\x<mt) (hc:w.cell? ⟨Cb,0,none⟩=some (.pointer (some ⟨Tb,0,none⟩))) (ht:w.cell? ⟨Tb,2,none⟩=some (.slice At mt ct)):
 Calls prog 206 #[.int .i64 x,.pointer (some ⟨Cb,0,none⟩)] w fun e w' =>e= .returned (.bool false)/\w' =w:=by
 have h1:¬x<0:=by omega
 have h2:¬(mt:Int)<=x:=by omega
 go_enter func206,ntmps206;go_wp2;go_ret
 exact⟨rfl,rfl⟩
theorem JL (A:aA) (n c:Nat) (l:aD) (w:O) (hl:RI w A n l) (Cb Tb:Nat) (At:aA) (mt ct:Nat) (hx:∀x∈l,0<=x/\x<mt) (hc:w.cell? ⟨Cb,0,none⟩=some (.pointer (some ⟨Tb,0,none⟩))) (ht:w.cell? ⟨Tb,2,none⟩=some (.slice At mt ct)) (hn:n<=1000000000):
 Calls prog 266 #[.slice A n c,.func (.func 206) #[] #[.pointer (some ⟨Cb,0,none⟩)]] w fun e w' =>e= .returned (.int .i64 (-1))/\w' =w:=by
 have hlen:l.length=n:=by have h:=hl.1;unfold ints at h;rw [zK]at h;omega
 have Hlen:=zA hlen;have Hl:=zA hl;have Hx:=zA hx;have HW:=zA (fun x (hx:0<=x/\x<(mt:Int))=>KO x Cb Tb At mt ct w hx hc ht);clear hl hx hlen hc ht;go_enter func266,ntmps266;go_wp2
 go_loopg [8] n (fun gk vi wr=>∃j:Nat,j<=n/\gk=n - j/\vi= .int .i64 j/\wr=w)
 case atStart=>exact⟨0,zJ _,rfl,rfl,rfl⟩
 case round=>
  obtain⟨j,hj,rfl,rfl,rfl⟩:=hrel
  by_cases hjn:j<n
  ·obtain⟨b,off,rfl,hb,hcx⟩:=Hl.out.2 (by omega);obtain⟨x,hx⟩:∃x,l[j]? =some x:=⟨_,zB (by rw [Hlen.out];exact hjn)⟩;have hcy:wr.cell? ⟨b,off+j,none⟩=some (.int .i64 x):=hcx j _ (by unfold ints;rw [zH,hx];rfl);have hxx:=Hx.out x (zD hx);have HW1:=zA (HW.out x hxx);clear hcx hx hxx;go_wp2_with (refine HW1.out.mono ?_;rintro e w2 ⟨rfl,rfl⟩)
   go_roundg (n - (j+1))
   ·exact⟨j+1,by omega,rfl,by go_num,rfl⟩
   ·omega
  ·obtain rfl:j=n:=by omega
   go_wp2;go_ret
   exact⟨rfl,rfl⟩
theorem FN (A:aA) (n c:Nat) (l:aD) (w:O) (hl:RI w A n l) (Cb Tb:Nat) (At:aA) (mt ct:Nat) (hx:∀x∈l,0<=x/\x<mt) (hc:w.cell? ⟨Cb,0,none⟩=some (.pointer (some ⟨Tb,0,none⟩))) (ht:w.cell? ⟨Tb,2,none⟩=some (.slice At mt ct)) (hn:n<=1000000000):
 Calls prog 205 #[.slice A n c,.func (.func 206) #[] #[.pointer (some ⟨Cb,0,none⟩)]] w fun e w' =>e= .returned (.bool false)/\w' =w:=by
 have H:=zA (JL A n c l w hl Cb Tb At mt ct hx hc ht hn);go_enter func205,ntmps205;go_wp2_with (refine H.out.mono ?_;rintro e w2 ⟨rfl,rfl⟩);go_ret
 exact⟨rfl,rfl⟩
theorem Sp.ilen' {w:O} {L:List Asn} {A:aA} {m c:Nat} {l:aD} (h:Sp w L) (hm:NA A m c l∈L):l.length=m/\m<=c/\c<=9223372036854775807:=by
 have:=h.rowOf hm;exact⟨by have h:=this.1;rw [Xd]at h;omega,this.cap.2⟩
theorem DV (A:aA) (nb c:Nat) (rows:List aD) (w:O) (hc:nb<=c) (hc2:c<=9223372036854775807) (hnb:nb<=100000000000) (hl:RB w A nb (colL rows)) (hn:rows.length<=16384) (hr:∀r∈rows,r.length<=64/\InL r) (hs:rows.map xP=rows):
 Calls prog 154 #[.slice A nb c] w fun e w' =>∃p,e= .returned (.tuple #[.pointer p,.int .i64 0])/\Below w.heap.size w w' :=by
 have HV:=zA (iQ A nb c rows w hc hc2 hnb hl hn hr);obtain⟨n,hn0⟩:=eX (rows.length);rw [hn0]at hn HV;have Hl:=zA hl;have Hr:=zA hr;have Hs:=zA hs;have Hn0:=zA hn0
 have hfl:InL rows.flatten:=by
  intro x hx;obtain⟨l,hl,hx⟩:=List.mem_flatten.1 hx;exact(hr l hl).2 x hx
 have Hfl:=zA hfl;clear hl hr hs hn0 hfl;go_enter func154,ntmps154;go_wp2_with fail;refine HV.out.mono ?_;rintro e w1 ⟨A1,A2,c1,n1,m,rfl,HS1⟩;obtain rfl:n1=n:=by have:=(HS1.ilen' M0).1;simp [Y4]at this;omega
 obtain⟨Bc,hBc⟩:=eX (w1.heap.size);have HS2:=HS1.blkH 324 #[.slice A1 n1 c1,.slice A2 m m] hBc
 have hm:m<=100000000:=by
  have h:=(HS1.ilen M1).1;have h2:=Wq (B:=64) (ls:=rows) fun l hl=>(Hr.out l hl).1;rw [Hn0.out]at h2;omega
 have HRo:=zA (CL HS2 Hn0.out hn Hfl.out hm);go_wp2_with fail;refine HRo.out.mono ?_;rintro e w3 ⟨A3,c3,rfl,HS3⟩;have HNu:=zA (gW A3 n1 c3 rows w3 (HS3.ls M0) hn Hr.out);rw [Hs.out]at HNu;clear HV HRo HS1 HS2;go_wp2_with fail;refine HNu.out.mono ?_;rintro e w4 ⟨A4,m4,c4,rfl,hm4,HT4⟩;have HS4:=HS3.c1 HT4
 have HEq:=zA (bY A4 A m4 nb c4 c (colL rows) (colL rows) w4 (by omega) (HS4.rb M0).1 (Hl.out.on (HS4.below M4)));rw [decide_eq_true rfl]at HEq;have hcell:w4.cell? ⟨Bc,0,none⟩=some (.slice A1 n1 c1)/\w4.cell? ⟨Bc,1,none⟩=some (.slice A2 m m):=⟨HS4.cell M2 0,HS4.cell M2 1⟩;clear HNu HT4;go_wp2_with fail;refine HEq.out.mono ?_;rintro e w5 ⟨rfl,q5,rfl⟩;obtain⟨hq0,hq1⟩:=hcell
 have hbl:=(HS4.drewN q5).below M4;go_wp2;go_ret2;exact⟨_,rfl,(hbl.alloc hbl.size _)⟩
theorem pC:∀(ts:List aB),ts.length<=(ts.flatMap XY).length
 | []=>by simp
 |t::ts=>by
  have h:=pC ts;have h2:=Yb t.size;simp only [zp,zG,z6,XY];omega
theorem DQ (A:aA) (nb c:Nat) (rows:List (List aB)) (w:O) (hc:nb<=c) (hc2:c<=9223372036854775807) (hnb:nb<=100000000000) (hl:RB w A nb (Z5 rows)) (hn:rows.length<=16384) (hr:∀r∈rows,r.length<=64/\∀x∈r,x.size<=256):
 Calls prog 152 #[.slice A nb c] w fun e w' =>∃p,e= .returned (.tuple #[.pointer p,.int .i64 0])/\Below w.heap.size w w' :=by
 obtain⟨ls,hls⟩:=eX (WH rows);obtain⟨ts,hts⟩:=eX (WD ls);obtain⟨os,hos⟩:=eX (X6 ls);obtain⟨n,hn0⟩:=eX (ls.length);obtain⟨T,hT⟩:=eX (ts.length);have hn1:n<=16384:=by rw [<-hn0,<-hls];unfold WH;rw [zK];exact hn
 have hlr:∀r∈ls,r.length<=64/\∀x∈r,x.size<=256:=by
  intro r h;rw [<-hls]at h;obtain⟨r0,h0,rfl⟩:=List.mem_map.1 h;exact⟨zY (Vh r0) (hr r0 h0).1,fun x hx=>(hr r0 h0).2 x (X9.1 hx)⟩
 have htB:Z5 rows=zP T++(ts.flatMap XY ++colL os):=by unfold Z5;rw [hls,hts,hT,hos]
 have htl:Z5 ls=Z5 rows:=by rw [<-hls];exact tS rows
 have hT1:T<=1048576:=by
  have h1:=vS ls;have h2:=Wq (B:=64) (ls:=ls) fun l hl=>(hlr l hl).1;rw [hts,hT]at h1;rw [hn0]at h2;omega
 have hTn:T<=nb:=by
  have h1:=hl.len;have h2:=pC ts;rw [htB,zG,zG]at h1;omega
 have htz:∀x∈ts,x.size<=256:=by
  intro x hx;rw [<-hts]at hx;obtain⟨l,hl,hx⟩:=List.mem_flatten.1 (X9.1 hx);exact(hlr l hl).2 x hx
 have hol:os.length=n:=by rw [<-hos,<-hn0];unfold X6;rw [zK]
 have hor:∀r∈os,r.length<=64/\∀x∈r,0<=x/\x<(T:Int):=by
  intro r hr;rw [<-hos]at hr;refine⟨?_,fun x hx=> ?_⟩
  ·unfold X6 at hr;obtain⟨l0,hl0,rfl⟩:=List.mem_map.1 hr;unfold xc;rw [zK];exact(hlr l0 hl0).1
  ·have:=oV hr x hx;rw [hts,hT]at this;exact this
 have hdec:∀(k:Nat) (l:List aB),ls[k]? =some l->∃row,os[k]? =some row/\l.length=row.length/\∀(j:Nat) (t:aB),l[j]? =some t->∃i:Nat,row[j]? =some (i:Int)/\ts[i]? =some t:=by
  intro k l hk;refine⟨xc ts l,by rw [<-hos,<-hts];unfold X6;rw [zH,hk];rfl,by unfold xc;rw [zK],fun j t hj=>⟨idxT ts t,by unfold xc;rw [zH,hj];rfl,pA ?_⟩⟩;rw [<-hts];exact VV (zD hk) (zD hj)
 have Hl:=zA hl;rw [htB]at hl;have Hlr:=zA hlr;have HtB:=zA htB;have Htl:=zA htl;have Htz:=zA htz;have Hol:=zA hol;have Hor:=zA hor;have Hdec:=zA hdec;have HT:=zA hT;have Hn0:=zA hn0;obtain⟨Tb,hTb⟩:=eX (w.heap.size);obtain⟨Cb,hCb⟩:=eX (Tb+1);have HS0:=((Sp.start w).blkH 326 #[.slice none 0 0,.slice none 0 0,.slice none 0 0] hTb).blkH 102 #[.pointer (some ⟨Tb,0,none⟩)] (H:=Cb) (by simp [hTb,hCb])
 have HNr:=zA (VG (c:=c) HS0 (hl.on (HS0.below M2)) (by omega));have hnbi:(nb:Int)<=100000000000:=by omega
 clear hl hr hlr htB htl htz hol hor hdec hT hn0 hls hts hos hn;go_enter func152,ntmps152;go_wp2_with fail;refine HNr.out.mono ?_;rintro e w1 ⟨p,rfl,HS1⟩
 have HS2:Sp w1 [RdA p (rsAt [] (zP T++(ts.flatMap XY ++colL os))),BlkA Cb 102 #[.pointer (some ⟨Tb,0,none⟩)],BlkA Tb 326 #[.slice none 0 0,.slice none 0 0,.slice none 0 0],OldA w.heap.size w]:=by
  simpa [rsAt]using HS1
 have HSz:=zA (ZH HS2 nb (by omega));rw [yn (by omega) hTn]at HSz;clear HNr HS0 HS1 HS2;go_wp2_with fail;refine HSz.out.mono ?_;rintro e w2 ⟨rfl,HS3⟩;have HS4:=HS3.nil 9 1;clear HSz HS3;go_wp2
 go_loopg [6] T (fun gk vi wr=>∃(k:Nat) (A1:aA) (c1:Nat) (pre:aC),k<=T/\gk=T - k/\vi= .int .i64 ((T - k:Nat):Int)/\Sp wr [TA A1 k c1 (ts.take k),RdA p (rsAt pre ((ts.drop k).flatMap XY ++colL os)),BlkA Cb 102 #[.pointer (some ⟨Tb,0,none⟩)],BlkA Tb 326 #[.slice none 0 0,.slice none 0 0,.slice A1 k c1],OldA w.heap.size w])
 case atStart=>exact⟨0,none,0,_,by omega,rfl,rfl,HS4⟩
 case round=>
  obtain⟨k,A1,c1,pre,hkz,rfl,rfl,HS⟩:=hrel;obtain⟨z,hz⟩:=eX (T - k);rw [hz];clear HS4;have HE:=zA (QA HS.p1)
  by_cases hz0:0<z
  ·obtain⟨t,Ht⟩:∃t,Hid (ts[k]? =some t):=⟨_,zB (by rw [HT.out];omega)⟩;have hts:=Htz.out t (zD Ht.out);have hz1:(0:Int)<z:=(by omega);have Hdr:=zA (yb Ht.out);go_upto_region 6 with(refine HE.out.mono ?_;rintro e w3 ⟨rfl,rfl⟩)
   have HS5:Sp wr.drew [RdA p (rsAt pre (zP t.data.toList.length++t.data.toList++((ts.drop (k+1)).flatMap XY ++colL os))),TA A1 k c1 (ts.take k),BlkA Cb 102 #[.pointer (some ⟨Tb,0,none⟩)],BlkA Tb 326 #[.slice none 0 0,.slice none 0 0,.slice A1 k c1],OldA w.heap.size w]:=by
    have h:=HS.p1.drew;rw [Hdr.out,zp,zO]at h;unfold XY at h⊢;have e:t.data.toList.length=t.size:=(by simp);rw [e]
    simpa using h
   have hTx:=bV HS5 256 (by omega);rw [QM (by simp;omega) (by simp;omega),show(⟨t.data.toList.toArray⟩:aB)=t from rfl,show((256:Nat):Int)=256 from rfl]at hTx;have HTx:=zA hTx;have hcc:=HS5.cl M2 0;have hct:=HS5.cl M3 2;have hne:Cb≠Tb:=(by omega);have hne2:Tb≠Cb:=(by omega);clear hTx HE
   refine gR [(11,fun W=>W.cell? ⟨Tb,2,none⟩=some (.slice A1 k c1)/\W.cell? ⟨Cb,0,none⟩=some (.pointer (some ⟨Tb,0,none⟩)))] (hB ⟨hct,hcc⟩) ?_;refine gL 0 11 M0 ?_;refine gL 1 11 M0 ?_;refine gF 2 ?_;refine gF 3 ?_;refine gL 4 11 M0 ?_;refine gF 5 ?_;intro hC;refine gO 6 fun K hK=> ?_;go_simp;refine HTx.out.mono ?_;rintro e w4 ⟨rfl,HS6⟩;refine hK.out _ _ (hB ⟨HS6.cell M3 2,HS6.cell M2 0⟩) ?_
   clear hK K hC;intro hC;refine gO 7 fun K hK=> ?_;go_simp;refine hK.out _ _ (hB ⟨(HS6.al _).cell M3 2,(HS6.al _).cell M2 0⟩) ?_;clear hK K hC;intro hC;refine gO 8 fun K hK=> ?_;refine yz Ql (.tmp 31) (.tmp 34) rfl rfl HS6.p1 rfl (cs:= #[.string t]) rfl rfl rfl (by intro u hu;simp at hu;subst hu;rfl) (by omega) (by omega) ?_;intro A2 c2 w5 hc5 hm5 HS7;have q4:=HS7.cl M3 2
   have q5:=(HS7.blkOf M3).frozen 2;refine hK.out _ _ (hB ⟨HS7.cell M3 2,HS7.cell M2 0⟩) ?_;clear hK K hC;refine gF 9 ?_;refine gF 10 ?_;intro hC;refine gO 11 fun K hK=> ?_;go_simp;refine hK.out _ _ hA ?_;clear hK K hC;intro hC;refine xW (by kernel_rfl) ?_
   all_goals
    have HS8:=HS7.p3.set 2 (.slice A2 (k+1) c2);have e:sC (ts.take k)++ #[Value.string t].toList=sC (ts.take (k+1)):=(by rw [zI,Ht.out];simp [sC]);rw [e]at HS8;have HS9:=HS8.sel [1,2,3,0,4];have hz2:(z:Int) - 1=((T - (k+1):Nat):Int):=(by omega);clear e HS8 HS7 HS6 HS5 q4 q5 hcc hct HS;go_wp2
    go_roundg (T - (k+1))
    ·exact⟨k+1,A2,c2,_,by omega,rfl,by rw [<-hz2],HS9⟩
    ·omega
  ·obtain rfl:z=0:=by omega
   obtain rfl:k=T:=by omega
   rw [zF (by rw [HT.out];omega),zQ (by rw [HT.out];omega),x7,zZ]at HS;have HSt:=HS.strs fun x hx=>by have:=Htz.out x hx;omega
   have HE:=zA (QA HSt.p1)
   have HSw:Sp wr [RdA p (rsAt pre (colL os++ [])),DatA (.slice A1 k c1) ts,BlkA Cb 102 #[.pointer (some ⟨Tb,0,none⟩)],BlkA Tb 326 #[.slice none 0 0,.slice none 0 0,.slice A1 k c1],OldA w.heap.size w]:=by
    rw [zo];exact HSt.p1
   have HS5:Sp wr.drew [RdA p (rsAt pre (colL os++ [])),DatA (.slice A1 k c1) ts,BlkA Cb 102 #[.pointer (some ⟨Tb,0,none⟩)],BlkA Tb 326 #[.slice none 0 0,.slice none 0 0,.slice A1 k c1],OldA w.heap.size w]:=by
    rw [zo];exact HSt.p1.drew
   have HLf:=Xz HS5;rw [YL,zo]at HLf;obtain⟨Z,hZ⟩:=eX ((colL os).length);rw [hZ]at HLf;have HLt:=zA HLf
   have hZn:Z<=nb:=by
    have h1:=Hl.out.len;rw [HtB.out]at h1;simp only [zG]at h1;omega
   have HZ:=zA hZ;have hne:Cb≠Tb:=(by omega);have hne2:Tb≠Cb:=(by omega);have hcc:=HS5.cl M2 0;have hct:wr.drew.cell? ⟨Tb,0,none⟩=some (.slice none 0 0)/\wr.drew.cell? ⟨Tb,1,none⟩=some (.slice none 0 0):=⟨HS5.cell M3 0,HS5.cell M3 1⟩;have HoI:Hid (∀r∈os,r.length<=64/\InL r):=fun r hr=>⟨(Hor.out r hr).1,fun x hx=>by have:=(Hor.out r hr).2 x hx;omega⟩;clear HLf hZ HS HSt
   go_upto_region 10 with(refine HE.out.mono ?_;rintro e w3 ⟨rfl,rfl⟩);clear HE
   go_cut [7]from 41 to 51 (fun v7 W=>v7= .bool true/\∃(E A2:aA) (ce m:Nat),Sp W [BlkA Tb 326 #[.slice E n ce,.slice A2 m m,.slice A1 k c1],NA E n ce (Y4 os n),IA A2 m m os.flatten,DatA (.slice A1 k c1) ts,BlkA Cb 102 #[.pointer (some ⟨Tb,0,none⟩)],OldA w.heap.size w])
   case first=>
    go_region_held3 (fun W=>W.cell? ⟨Cb,0,none⟩=some (.pointer (some ⟨Tb,0,none⟩))) (first|with_reducible assumption|exact HS6.cell M2 0|exact HS7.cell M3 0|exact HS8.cell M5 0|go_keep)
     (first
      |(go_at_call 77;(with_reducible refine HLt.out.mono ?_);rintro e w4 ⟨rfl,k4,rfl⟩;have HS6:=HSw.drewN (1+k4);have HBy:=zA (XQ (z:=Z) HS6 HZ.out (by omega)))
      |(go_at_call 76;(with_reducible refine HBy.out.mono ?_);rintro e w5 ⟨A5,rfl,HS7⟩;have HVr:=zA (iQ A5 Z Z os w5 (zC _) (by omega) (by omega) (HS7.rb M0).1 (by rw [Hol.out];exact hn1) HoI.out))
      |(go_at_call 204;(with_reducible refine HVr.out.mono ?_);rintro e w6 ⟨E,A2,ce,n2,m,rfl,HT6⟩;have HS8:=HS7.call [_,_] HT6;have q0:=HS8.d1.cl M5 0;have q1:=HS8.d1.cl M5 1;have q2:=(HS8.d1.blkOf M5).frozen 0;have q3:=(HS8.d1.blkOf M5).frozen 1)
      |fail)
    all_goals
     obtain rfl:n2=n:=by have h:=(HS8.ilen' M0).1;simp only [Y4,zK,xg]at h;rw [Hol.out]at h;omega
     rw [Hol.out]at HS8;have HS9:=((HS8.sel [6,0,1,4,5,7]).set 0 (.slice E n2 ce)).set 1 (.slice A2 m m);clear q0 q1 q2 q3 HS8 HS7 HS6;go_wp2
     go_meet
     exact⟨rfl,E,A2,ce,m,HS9⟩
   case rest=>
    obtain⟨rfl,E,A2,ce,m,HS9⟩:=hcut;have hmf:=@mF prog;have Hfl:=zA (HS9.ilen M2).1
    have hm:m<=100000000:=by
     have h2:=Wq (B:=64) (ls:=os) fun l hl=>(Hor.out l hl).1;rw [Hol.out,Hfl.out]at h2;omega
    have hflx:∀x∈os.flatten,0<=x/\x<(k:Int):=by
     intro x hx;obtain⟨l,hl,hx⟩:=List.mem_flatten.1 hx;exact(Hor.out l hl).2 x hx
    have HCf:=zA (FN A2 m m os.flatten wc (HS9.rc M2) Cb Tb A1 k c1 hflx (HS9.cell M4 0) (HS9.cell M0 2) (by omega));have d0:=HS9.cl M4 0;have d1:=HS9.cl M0 1;have HLn:=zA (vQ Tb E n ce wc (HS9.cell M0 0));have HS10:=(HS9.elsNil (α:=List aB)).nil 129 1;clear hflx HLt HZ HS9 hcc hct HS5 HSw
    go_wp2_with (first
     |(go_at_call 205;refine HCf.out.mono ?_;rintro e w7 ⟨rfl,rfl⟩)
     |(go_at_call 207;refine HLn.out.mono ?_;rintro e w8 ⟨rfl,rfl⟩))
    go_loopg [8,65] n (fun gk vo vi wr=>∃(j:Nat) (Ao:aA) (co:Nat) (css:List aF),j<=n/\gk=n - j/\vi= .int .i64 j/\vo= .slice Ao j co/\Sp wr [RowA 129 1 (.slice Ao j co) j css.flatten,ElsA css (ls.take j),BlkA Tb 326 #[.slice E n ce,.slice A2 m m,.slice A1 k c1],NA E n ce (Y4 os n),IA A2 m m os.flatten,DatA (.slice A1 k c1) ts,BlkA Cb 102 #[.pointer (some ⟨Tb,0,none⟩)],OldA w.heap.size w])
    case atStart=>exact⟨0,none,0, [],zJ _,rfl,rfl,rfl,HS10⟩
    case round=>
     obtain⟨j,Ao,co,css,hj,rfl,rfl,rfl,HS⟩:=hrel;clear HS10 d0 d1
     by_cases hjn:j<n
     ·obtain⟨l,Hlj⟩:∃l,Hid (ls[j]? =some l):=⟨_,zB (by rw [Hn0.out];exact hjn)⟩;obtain⟨row,hrow,hlrow,hdc⟩:=Hdec.out j l Hlj.out;have hl64:=(Hlr.out l (zD Hlj.out));have d0:=HS.d1.cl M5 0;have HRw:=zA (vP Tb os n j E ce A2 m wr ⟨HS.cell M2 0,HS.cell M2 1,HS.rc M3,Hol.out,Hfl.out⟩ (HS.rc M4) hjn hm hn1 row hrow (by omega) A1 k c1 ts (HS.blkOf M2).lt (HS.cell M2 2) (HS.ls M5) l hlrow hdc)
      obtain⟨z,hz9⟩:=eX (l.length);rw [hz9]at HRw;have Hlz:=zA hl64.2;clear hrow hlrow hdc hl64 hz9;go_wp2_with fail;refine HRw.out.mono ?_;rintro e w3 ⟨A5,c5,rfl,HT5⟩;have HS3:=((HS.c1 HT5).strs fun x hx=>by have:=Hlz.out x hx;omega).p1;clear HT5 HRw HS d0
      go_wp2_with (at_builtin;refine yC UN (.tmp 68) (.tmp 72) rfl rfl HS3 rfl (cs:= #[.slice A5 z c5]) rfl rfl rfl (by intro u hu;simp at hu;subst hu;rfl) (by omega) (by omega) ?_;intro A8 c8 w8 hc8 hm8 HS8);have HS9:=(HS8.p1.p2.p1).elsPush;have Htk:Hid (ls.take (j+1)=ls.take j++ [l]):=by show _=_;rw [zI,Hlj.out];rfl
      go_roundg (n - (j+1))
      ·exact⟨j+1,A8,c8,css++ [[.slice A5 z c5]],by omega,rfl,by go_num,rfl,by rw [Htk.out];simpa using HS9.p1⟩
      ·omega
     ·obtain rfl:j=n:=by omega
      rw [zF (by rw [Hn0.out];omega)]at HS;have HS1:=HS.els (α:=List aB);have HTx:=zA (kQ Ao j co ls wr (HS1.ls M0) hn1 Hlr.out);rw [Htl.out]at HTx;clear HS;go_wp2_with fail;refine HTx.out.mono ?_;rintro e w7 ⟨A7,m7,c7,rfl,hm7,HT7⟩;have HS7:=HS1.c1 HT7;have HEq:=zA (bY A7 A m7 nb c7 c (Z5 rows) (Z5 rows) w7 (by omega) (HS7.rb M0).1 (Hl.out.on (HS7.below M7)));rw [decide_eq_true rfl]at HEq
      have d0:=HS7.d1.cl M5 0;clear HTx HT7 HS1;go_wp2_with fail;refine HEq.out.mono ?_;rintro e w9 ⟨rfl,q9,rfl⟩;have hbl:=(HS7.drewN q9).below M7;go_wp2;go_ret2;exact⟨_,rfl,hbl⟩
end Go.Proofs.YtjbhbfaeielbiaaGreatDoor

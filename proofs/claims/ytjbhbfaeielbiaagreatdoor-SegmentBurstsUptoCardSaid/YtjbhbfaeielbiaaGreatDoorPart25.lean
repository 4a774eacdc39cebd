import Derived.Test.YtjbhbfaeielbiaaGreatDoorPart14
import Derived.Test.YtjbhbfaeielbiaaGreatDoorPart21
import Derived.Test.YtjbhbfaeielbiaaGreatDoorPart23
import Derived.Test.YtjbhbfaeielbiaaGreatDoorKys
set_option maxRecDepth 100000
set_option maxHeartbeats 8000000
set_option linter.unusedVariables false
set_option linter.unusedSimpArgs false
namespace Go.Proofs.YtjbhbfaeielbiaaGreatDoor
open Tryz
open Rep (rep)
open Go.RowKit
theorem WY:Elt prog 147 57 1 24:=xt (by kernel_rfl) (by decide) (by kernel_rfl)
section
variable {w:O} {L:List Asn} {A:aA} {n c:Nat}
theorem mH {l:aD} (h:Sp w (IA A n c l::L)) (hn:n<=1000000000000):
 Calls prog 194 #[.slice A n c] w fun e w' =>e= .returned (.tuple #[])/\Sp w' (IA A n c (xP l)::L):=by
 have hl:=(h.ilen M0).1;rcases zi n with h0|h0
 ·subst h0;have hl0:l= []:=zS hl;subst hl0;refine(Tryz.slices_Sort_int_none_f194 A c w).mono ?_;rintro e w' ⟨rfl,rfl⟩;exact⟨rfl,by simpa [xP]using h⟩
 ·obtain⟨g,rfl,_,hg,_⟩:=(h.rowOf M0).at_ h0
  have hH:=h.holds (enc:=Value.int .i64) (xs:=l) M0;have hs:=(h.ilen M0).2;have:=Tryz.slices_Sort_int_f194 g 0 c l w hH hg (by omega);rw [hl]at this;refine this.mono ?_;rintro e w' ⟨rfl,k,os,rfl⟩;exact⟨rfl,h.putR (enc:=Value.int .i64) (xP l) (by rw [U0,hl]) k os⟩
abbrev TA (A:aA) (m c:Nat) (l:List aB):Asn:=RowA 9 1 (.slice A m c) m (sC l)
theorem Sp.tlen {l:List aB} (h:Sp w L) (hm:TA A n c l∈L):l.length=n/\n<=c/\c<=9223372036854775807:=by
 have:=h.rowOf hm;exact⟨by have h:=this.1;unfold sC at h;rw [zK]at h;omega,this.cap.2⟩
theorem dD (l:List aB):sC l=(l.map zn).map encStr:=by
 unfold sC;rw [yD];rfl
theorem dK {l:List aB} (h:Sp w (TA A n c l::L)) (hn:n<=1000000000000):
 Calls prog 192 #[.slice A n c] w fun e w' =>e= .returned (.tuple #[])/\Sp w' (TA A n c (xq l)::L):=by
 have hl:=(h.tlen M0).1;rcases zi n with h0|h0
 ·subst h0;have hl0:l= []:=zS hl;subst hl0;refine(Tryz.slices_Sort_string_none A c w).mono ?_;rintro e w' ⟨rfl,rfl⟩;exact⟨rfl,by simpa [xq,X0]using h⟩
 ·obtain⟨g,rfl,_,hg,_⟩:=(h.rowOf M0).at_ h0
  unfold TA at h;rw [dD]at h;have hH:=h.holds (enc:=encStr) (xs:=l.map zn) M0;have hs:=((h.rowOf M0).cap).2;have:=Tryz.slices_Sort_string g 0 c (l.map zn) w hH hg (by rw [zK];omega);rw [zK,hl]at this;refine this.mono ?_;rintro e w' ⟨rfl,k,os,rfl⟩;refine⟨rfl,?_⟩;unfold TA;rw [dD];unfold xq;rw [Wp];exact h.putR (enc:=encStr) (X0 (l.map zn)) (by rw [kU,zK,hl]) k os
theorem eJ {l:List aB} (h:Sp w (TA A n c l::L)):
 Calls prog 193 #[.slice A n c] w fun e w' =>∃m,e= .returned (.slice A m c)/\m<=n/\Sp w' (TA A m c (bP l)::L):=by
 have hl:=(h.tlen M0).1;rcases zi n with h0|h0
 ·subst h0;have hl0:l= []:=zS hl;subst hl0;refine(Tryz.slices_Compact_string_empty A c w).mono ?_;rintro e w' ⟨rfl,rfl⟩;exact⟨0,rfl,zC _,h⟩
 ·obtain⟨g,rfl,_,hg,_⟩:=(h.rowOf M0).at_ h0
  have hcap:=h.tlen M0;unfold TA at h;rw [dD]at h;have hH:=h.holds (enc:=encStr) (xs:=l.map zn) M0;have:=Tryz.slices_Compact_string g 0 c (l.map zn) w hH (by rw [zK];omega) (by rw [zK];omega);rw [zK,hl]at this;have hcl:=iJ (l.map zn);rw [zK,hl]at hcl;refine this.mono ?_;rintro e w' ⟨rfl,k,rfl⟩;refine⟨_,rfl,hcl,?_⟩
  have h2:=h.putR (enc:=encStr) (Lib.compact (l.map zn)++List.replicate (n - (Lib.compact (l.map zn)).length) []) (by simp;omega) k #[];rw [Sort.grow_empty]at h2;rw [zw]at h2;have h3:=h2.cutRow;unfold TA;rw [dD];unfold bP;rw [Wp];rw [zK]at h3;exact h3
end
attribute [local go_sem ↓] zU zV
def XX (rows:List aD):aE:=rows.map fun l=>if l= []then 0 else 1
theorem KN:(Tryz.prog.info? 5).bind (fun i=>i.zero)=some (.int .u8 0):=by kernel_rfl
theorem YW.skip {l:aE} {N k:Nat} {cur:aC} (h:YW l 1 N k cur) (hx:l[k]? =some 0):YW l 1 N (k+1) cur:=by
 refine⟨h.1,fun j=> ?_⟩;rw [h.2 j]
 by_cases hj:j=k
 ·subst hj;have:N9 l 1 j=false:=(by unfold N9;simp [hx,Nat.mod_one]);simp [this]
 ·congr 1
  exact decide_eq_decide.2 (by omega)
theorem YW.whole {l:aE} {N:Nat} {cur:aC} (h:YW l 1 N l.length cur) (hN:N=(l.length+7) / 8):cur=Z8 l 1:=by
 refine mW (by rw [h.1,hN];unfold yK;rw [Nat.one_mul]) fun i _=> ?_;rw [h.2 i]
 by_cases hi:i<l.length
 ·simp [hi]
 ·have:N9 l 1 i=false:=(by unfold N9;rw [Nat.div_one,zh (by omega)];simp);simp [hi,this]
theorem M9 {y r:Nat} (hy:y<256) (hr:r<8):bits .or .u8 (y:Int) (2^r%256)=((Zd y 1 0 1 r:Nat):Int):=by
 have h1:(2:Nat)^r<256:=zX (Nat.pow_lt_pow_right (by omega) hr) (by decide)
 have e:(2:Int)^r%256=((2^r:Nat):Int):=by
  rw [show(2:Int)^r=((2^r:Nat):Int) by rw [Int.natCast_pow];rfl];generalize 2^r=P at*;omega
 rw [e,qK hy h1];unfold Zd;simp
theorem kM (A:aA) (n c:Nat) (rows:List aD) (w:O) (hl:zL w (·<w.heap.size) A n c rows) (hn:n<=16384) (hr:∀r∈rows,r.length<=64/\InL r):
 Calls prog 221 #[.slice A n c] w fun e w' =>∃A' m c',e= .returned (.slice A' m c')/\m<=3000000000/\Sp w' [BA A' m c' (colL rows),OldA w.heap.size w]:=by
 have Hl:=zA hl;have Hlen:=zA hl.length;have Hr:=zA hr;obtain⟨N,hN⟩:=eX ((n+7) / 8);have hNw:IntKind.i64.wrap (((n:Int)+7).tdiv 8)=(N:Int):=by rw [Int.tdiv_eq_ediv_of_nonneg (by omega),zT];omega
 have hN1:((n:Int)+7) / 8=(N:Int):=by omega
 have hN2:wrap64 (N:Int)=N:=by unfold wrap64;omega
 have hNn:n<=8*N:=by omega
 have hN16:N<=2100:=by omega
 have HN:=zA hN;have HP0:=zA (ZR (c:=0) (Sp.start w) (RB.none_ _) (x:=n) (by omega) (by omega));clear hl hr hN;go_enter func221,ntmps221;go_wp2_with fail;refine HP0.out.mono ?_;rintro e w1 ⟨A1,m1,rfl,hm1,HS1⟩;rw [zZ]at HS1;obtain⟨H,hH⟩:=eX (w1.heap.size);go_wp2_with (at_make;refine Zk yW (.tmp 16) (.tmp 16) rfl rfl HS1 hH rfl rfl (by omega) (by omega) KN ?_;intro w2 HS2;rw [jN]at HS2)
 have HS3:=((HS2.nil 2 1).nil 2 1).p2
 go_loopg [5,6,20] n (fun gk v5 v6 vi wr=>∃(k:Nat) (A5 A6:aA) (m5 c5 m6 c6:Nat) (cur:aC),vi= .int .i64 k/\k<=n/\gk=n - k/\v5= .slice A5 m5 c5/\v6= .slice A6 m6 c6/\m5<=k/\m6<=64*k/\Hid (YW (XX rows) 1 N k cur)/\
  Sp wr [BA (some ⟨H,0,none⟩) N N cur,IA A5 m5 c5 (yp (rows.take k)),IA A6 m6 c6 (rows.take k).flatten,BA A1 m1 m1 (zP n),OldA w.heap.size w])
 case atStart=>exact⟨0,none,none,0,0,0,0,List.replicate N 0,rfl,zJ _,rfl,rfl,rfl,by omega,by omega,YW.start _ 1 N,HS3⟩
 case round=>
  obtain⟨k,A5,A6,m5,c5,m6,c6,cur,rfl,hk,rfl,rfl,rfl,hm5,hm6,HB,HS⟩:=hrel;clear HS1 HS2 HS3
  by_cases hkn:k<n
  ·obtain⟨b,off,row,rfl,Hrow,hb,hel⟩:=Hl.out.at_ hkn
   obtain⟨Ar,nr,cr,e0,h5⟩:=hel.list;have hbl:=HS.below M4;have hc0:=(hbl.cell (p:=⟨b,off+k,none⟩) hb).trans e0;obtain⟨hr1,hr2⟩:=Hr.out row (zD Hrow.out);have hnr:=h5.length;have Hrd:=zA ((h5.below hbl).reads_ints);have htk:rows.take (k+1)=rows.take k++ [row]:=(by rw [zI,Hrow.out];rfl);have Htk:=zA htk;clear htk e0 hel hbl
   by_cases h0:nr=0
   ·subst h0;have hre:row= []:=zS hnr;have HB2:Hid (YW (XX rows) 1 N (k+1) cur):=HB.out.skip (by unfold XX;rw [zH,Hrow.out,hre];rfl);have e1:yp (rows.take (k+1))=yp (rows.take k):=(by rw [Htk.out,hre];simp [yp]);have e2:(rows.take (k+1)).flatten=(rows.take k).flatten:=(by rw [Htk.out,hre];simp);rw [<-e1,<-e2]at HS;clear e1 e2 h5 hnr;go_wp2
    go_roundg (n - (k+1))
    ·exact⟨k+1,A5,A6,m5,c5,m6,c6,cur,by go_num,by omega,rfl,rfl,rfl,by omega,by omega,HB2,HS⟩
    ·omega
   ·have hnr0:(0:Int)<nr:=(by omega);have hq:k / 8<N:=(by omega);have hr7:k%8<8:=(by omega);obtain⟨y,hy⟩:∃y,cur[k / 8]? =some y:=⟨_,zB (by rw [HB.out.1];exact hq)⟩;have hcy:wr.cell? ⟨H,k / 8,none⟩=some (.int .u8 (y.toNat:Int)):=HS.rowCell M0 (V4 hy);have hcf:=HS.rowFree M0 (k / 8)
    have HB2:=zA (HB.out.step (l:=XX rows) (k:=k) (j:=0) (T:=1) (x:=1) (y:=y) hy (by
     unfold XX;rw [zH,Hrow.out];have:row≠ []:=(by intro h;rw [h]at hnr;simp at hnr;omega);simp [this]) (by omega) (by omega) (by omega))
    have Hor:=zA (M9 (y:=y.toNat) (r:=k%8) y.toNat_lt hr7);have Hy:=zA hy;have H5:=zA h5;have hnr64:nr<=64:=(by rw [<-hnr];exact hr1);have Hnr:=zA hnr;have hrne:Hid (row≠ []):=(by intro h;rw [h]at hnr;simp at hnr;omega);clear hy h5 hnr hr1 hr2;go_wp2
    go_region
    rw [Hor.out];have HS4:=(HS.rowSet (k / 8) (.int .u8 ((Zd y.toNat 1 0 1 (k%8):Nat):Int))).drew;rw [<-fX _ _ (WE (y:=y.toNat) (x:=1) (j:=0) (T:=1) (r:=k%8) y.toNat_lt (by omega))]at HS4;generalize (wr.setCell ⟨H,k / 8,none⟩ (.int .u8 ((Zd y.toNat 1 0 1 (k%8):Nat):Int))).drew=w4 at HS4⊢;have HS5:=HS4.p1;clear HS HS4 hcy hcf Hrd
    go_wp2_with (first
     |(at_builtin;refine yC Zs (.tmp 38) (.tmp 42) rfl rfl HS5 rfl (cs:= #[.int .i64 ((nr:Int) - 1)]) rfl rfl rfl (by intro u hu;simp at hu;subst hu;rfl) (by omega) (by omega) ?_;intro A8 c8 w8 hc8 hm8 HS8;have Hrd:=zA (H5.out.below (HS8.below M4)).reads_ints)
     |(at_builtin;refine yR Zs (.tmp 44) (.tmp 45) rfl rfl HS8.p2 rfl rfl Hrd.out (Y3 _) (by omega) (by omega) ?_;intro A9 c9 w9 hc9 hm9 HS9)
     |fail)
    have HS10:=HS9.p2
    have e1:ints (yp (rows.take k))++ #[Value.int .i64 ((nr:Int) - 1)].toList=ints (yp (rows.take (k+1))):=by
     rw [Htk.out];have:=hrne.out;simp [yp,this,Hnr.out,ints]
    have e2:ints (rows.take k).flatten++ints row=ints (rows.take (k+1)).flatten:=(by rw [Htk.out];simp [ints]);rw [e1,e2]at HS10
    go_roundg (n - (k+1))
    ·exact⟨k+1,A8,A9,m5+1,c8,m6+nr,c9,_,by go_num,by omega,rfl,rfl,rfl,by omega,by omega,HB2,HS10.p2.p1⟩
    ·omega
  ·obtain rfl:k=n:=by omega
   have hall:rows.take k=rows:=zF (by rw [Hlen.out];omega)
   have hcur:cur=Zq rows:=by
    have hml:(XX rows).length=k:=(by unfold XX;rw [zK,Hlen.out]);have h:=HB.out;have e:=YW.whole (l:=XX rows) (N:=N) (cur:=cur) (by rw [hml];exact h) (by rw [hml,HN.out]);rw [e];rfl
   rw [hall,hcur]at HS
   have hle:InL (yp rows):=by
    intro x hx;unfold yp at hx;obtain⟨l,hl,rfl⟩:=List.mem_map.1 hx;have:=(Hr.out l (List.mem_filter.1 hl).1).1;omega
   have hfl:InL rows.flatten:=by
    intro x hx;obtain⟨l,hl,hx⟩:=List.mem_flatten.1 hx;exact(Hr.out l hl).2 x hx
   have HLe:=zA hle;have HFl:=zA hfl;have hk2:k<=16384:=hn;have Hrd:=zA (HS.rb M0).1.reads;clear hle hfl hall hcur HB hNw hN1 hN2;go_wp2_with (at_builtin;refine yR yW (.tmp 48) (.tmp 49) rfl rfl HS.p3 rfl rfl Hrd.out (xd _) (by omega) (by omega) ?_;intro A7 c7 w5 hc7 hm7 HS5);have h5:=HS5.ilen M2;have HPu:=zA (Qc A5 m5 c5 (yp rows) w5 (by omega) h5.2.1 h5.2.2 (HS5.rc M2) HLe.out)
   refine HPu.out.mono ?_;rintro e w6 ⟨A8,m8,rfl,hm8,HT6⟩;have HS6:=HS5.c1 HT6;have Hrd6:=zA (HS6.rb M0).1.reads;go_wp2_with (at_builtin;refine yR yW (.tmp 51) (.tmp 53) rfl rfl HS6.p1 rfl rfl Hrd6.out (xd _) (by omega) (by omega) ?_;intro A10 c10 w7 hc10 hm10 HS7);have h6:=HS7.ilen M4;have HPv:=zA (Qc A6 m6 c6 rows.flatten w7 (by omega) h6.2.1 h6.2.2 (HS7.rc M4) HFl.out);refine HPv.out.mono ?_
   rintro e w8 ⟨A11,m11,rfl,hm11,HT8⟩;have HS8:=HS7.c1 HT8;have Hrd8:=zA (HS8.rb M0).1.reads;go_wp2_with (at_builtin;refine yR yW (.tmp 55) (.tmp 57) rfl rfl HS8.p1 rfl rfl Hrd8.out (xd _) (by omega) (by omega) ?_;intro A12 c12 w9 hc12 hm12 HS9);go_ret
   refine⟨A12,_,c12,rfl,by omega,?_⟩;have h:=HS9.d1.d1.d1.d1.d1
   have e:bC (zP k)++bC (Zq rows)++bC (putL (yp rows))++bC (putL rows.flatten)=bC (colL rows):=by
    unfold colL;rw [Hlen.out];simp [y9]
   rw [e]at h;exact h
structure RowT where
 A:aA
 c:Nat
 l:List aB
def RowT.v (r:RowT):V:= .slice r.A r.l.length r.c
abbrev RowT.asn (r:RowT):Asn:=TA r.A r.l.length r.c r.l
theorem zL.reads_sC {w:O} {B:Nat} {A:aA} {n c:Nat} {xs:List aB} (h:zL w (·<B) A n c xs):xA w B 1 A n (sC xs):=by
 refine⟨by unfold sC;rw [zK,h.length];omega,fun h0=> ?_⟩;obtain⟨b,off,x,hA,_,hb,_⟩:=h.at_ h0
 refine⟨_,hA,hb,fun j u hu=> ?_⟩;unfold sC at hu;rw [zH]at hu;obtain⟨y,hy,rfl⟩:=Option.map_eq_some_iff.1 hu;subst hA;obtain⟨_,he⟩:=h.elem hy;rw [Qq];exact he.str.1
theorem UN:Elt prog 146 129 1 24:=xt (by kernel_rfl) (by decide) (by kernel_rfl)
theorem CJ (A:aA) (n c:Nat) (rows:List (List aB)) (w:O) (hl:zL w (·<w.heap.size) A n c rows) (hn:n<=16384) (hr:∀r∈rows,r.length<=64):
 Calls prog 218 #[.slice A n c] w fun e w' =>∃(A' :aA) (c' :Nat) (rs:List RowT),e= .returned (.tuple #[.slice A' n c',.bool true])/\rs.map RowT.l=rows.map xq/\Sp w' [RowA 129 1 (.slice A' n c') n (rs.map RowT.v),zz (rs.map RowT.asn),OldA w.heap.size w]:=by
 have Hlen:=zA hl.length;have Hl:=zA hl;have Hr:=zA hr;have HS0:=(Sp.start w).starNil;have hnb:(n:Int)<=16384:=by omega
 have hmin:min (n:Int) 16384=(n:Int):=by omega
 clear hl hr;go_enter func218,ntmps218;go_wp2_with (at_make;refine gG UN (.const (.int .i64 0)) (.tmp 9) rfl rfl HS0 rfl rfl (by omega) (by omega) ?_;intro w2 A2 HS2)
 go_loopg [4,13] n (fun gk vo vi wr=>∃(k:Nat) (Ao:aA) (co:Nat) (rs:List RowT),k<=n/\gk=n - k/\vi= .int .i64 k/\vo= .slice Ao k co/\Hid (rs.map RowT.l=(rows.take k).map xq)/\Sp wr [RowA 129 1 (.slice Ao k co) k (rs.map RowT.v),zz (rs.map RowT.asn),OldA w.heap.size w])
 case atStart=>exact⟨0,A2,n, [],zJ _,rfl,rfl,rfl,rfl,HS2⟩
 case round=>
  obtain⟨k,Ao,co,rs,hk,rfl,rfl,rfl,HR,HS⟩:=hrel;clear HS2
  by_cases hkn:k<n
  ·obtain⟨b,off,row,rfl,Hrow,hb,hel⟩:=Hl.out.at_ hkn
   obtain⟨Ar,nr,cr,e0,h5⟩:=hel.list;have hbl:=HS.below M2;have hc0:=(hbl.cell (p:=⟨b,off+k,none⟩) hb).trans e0;have hr1:=Hr.out row (zD Hrow.out);have hnr:=h5.length;have hnr64:(nr:Int)<=64:=(by omega);have HC:=zA (FP Ar nr cr (sC row) wr (by omega) (((h5.below hbl).more fun x hx=>zX hx hbl.size).reads_sC) (pX row))
   have htk:(rows.take (k+1)).map xq=(rows.take k).map xq++ [xq row]:=(by rw [zI,Hrow.out];simp);have Htk:=zA htk;have Hnr:=zA hnr;clear htk e0 hel hbl h5 hr1 hnr;go_wp2_with fail;refine HC.out.mono ?_;rintro e w3 ⟨A3,c3,rfl,hrow3,hb3⟩;have HS3:Sp w3 (TA A3 nr c3 row::_):=HS.row hrow3 hb3;have HSo:=zA (dK HS3 (by omega));clear HC;go_wp2_with fail;refine HSo.out.mono ?_;rintro e w4 ⟨rfl,HS4⟩
   have HS5:=HS4.p1;go_wp2_with (at_builtin;refine yC UN (.tmp 29) (.tmp 31) rfl rfl HS5 rfl (cs:= #[.slice A3 nr c3]) rfl rfl rfl (by intro u hu;simp at hu;subst hu;rfl) (by omega) (by omega) ?_;intro A8 c8 w8 hc8 hm8 HS8);have hsl:(xq row).length=nr:=(by rw [UY,Hnr.out])
   have ht:TA A3 nr c3 (xq row)=RowT.asn ⟨A3,c3,xq row⟩:=by
    show _=TA A3 (xq row).length c3 (xq row);rw [hsl]
   have hv: [Value.slice A3 nr c3]= [RowT.v ⟨A3,c3,xq row⟩]:=by
    show _= [Value.slice A3 (xq row).length c3];rw [hsl]
   rw [ht,hv]at HS8;have HS9:=(HS8.p1.p2.p1).starPush.p1
   go_roundg (n - (k+1))
   ·exact⟨k+1,A8,c8,rs++ [⟨A3,c3,xq row⟩],by omega,rfl,by go_num,rfl,by show _=_;rw [Htk.out,zw,HR.out];rfl,by simpa using HS9⟩
   ·omega
  ·obtain rfl:k=n:=by omega
   rw [zF (by rw [Hlen.out];omega)]at HR;go_wp2;go_ret2;exact⟨Ao,co,rs,rfl,HR.out,HS⟩
theorem Sp.starTexts {w:O} {L:List Asn}:∀(ds:List RowT) {css:List aF} {xs:List (List aB)},Sp w (zz (ds.map RowT.asn)::ElsA css xs::L)->(∀r∈ds,∀x∈r.l,x.size<=9223372036854775807)->Sp w (ElsA (css++ds.map fun r=> [r.v]) (xs++ds.map RowT.l)::L)
 | [],_,_,h,_=>by simpa using h.tail
 |r::ds,css,xs,h,hs=>by
  have h1:=(Sp.starOut (X:=r.asn) (M:=ds.map RowT.asn) h).strs (hs r (by simp));have h2:=Sp.starTexts ds (h1.p2.p1.elsPush).p1 fun q hq=>hs q (by simp [hq]);rw [zO,zO]at h2;exact h2
theorem iD (vs:aF):(vs.map fun v=> [v]).flatten=vs:=by induction vs with|nil=>rfl|cons v vs ih=>simp [ih]
theorem CG:(Tryz.prog.info? 57).bind (fun i=>i.zero)=some (.slice none 0 0):=by kernel_rfl
theorem D8 (n:Nat):(madeCells (Value.slice none 0 0).cells (n*1)).toList=List.replicate n (Value.slice none 0 0):=by
 simp [madeCells,Value.cells,Nat.mod_one,List.map_const']
theorem kQ (A:aA) (n c:Nat) (rows:List (List aB)) (w:O) (hl:zL w (·<w.heap.size) A n c rows) (hn:n<=16384) (hr:∀r∈rows,r.length<=64/\∀x∈r,x.size<=256):
 Calls prog 165 #[.slice A n c] w fun e w' =>∃A' m c',e= .returned (.slice A' m c')/\m<=4000000000/\Sp w' [BA A' m c' (Z5 rows),OldA w.heap.size w]:=by
 have HV:=zA (CJ A n c rows w hl hn fun r h=>(hr r h).1);have Hlen:=zA hl.length;have Hr:=zA hr;clear hl hr;go_enter func165,ntmps165;go_wp2_with fail;refine HV.out.mono ?_;rintro e w1 ⟨A1,c1,rs,rfl,hrs,HS1⟩;have Hrs:=zA hrs;have HS2:=HS1.nil 9 1;clear hrs HV;go_wp2
 go_loopg [5,25] n (fun gk vt vi wr=>∃(k mt ct:Nat) (At:aA) (ds ts:List RowT),k<=n/\gk=n - k/\vi= .int .i64 k/\vt= .slice At mt ct/\mt<=64*k/\ds.length=k/\Hid (ds.map RowT.l=(rows.take k).map setT)/\Hid (ts.map RowT.l=(rows.drop k).map xq)/\
  Sp wr [TA At mt ct ((rows.take k).map setT).flatten,RowA 129 1 (.slice A1 n c1) n ((ds++ts).map RowT.v),zz ((ds++ts).map RowT.asn),OldA w.heap.size w])
 case atStart=>exact⟨0,0,0,none, [],rs,zJ _,rfl,rfl,rfl,by omega,rfl,rfl,Hrs.out,HS2⟩
 case round=>
  obtain⟨k,mt,ct,At,ds,ts,hk,rfl,rfl,rfl,hmt,hds,HD,HT,HS⟩:=hrel;clear HS1 HS2
  by_cases hkn:k<n
  ·obtain⟨row,Hrow⟩:∃row,Hid (rows[k]? =some row):=⟨_,zB (by rw [Hlen.out];exact hkn)⟩;obtain⟨hr1,hr2⟩:=Hr.out row (zD Hrow.out)
   obtain⟨r,ts',rfl,hrl,HT2⟩:∃r ts',ts=r::ts' /\r.l=xq row/\Hid (ts'.map RowT.l=(rows.drop (k+1)).map xq):=by
    have h:=HT.out;rw [yb Hrow.out]at h;cases ts with
    |nil=>simp at h
    |cons r ts' =>simp only [yH,List.cons.injEq]at h;exact⟨r,ts',rfl,h.1,h.2⟩
   obtain⟨g1,rfl, -, -, -⟩:=(HS.rowOf M1).at_ (by omega)
   obtain⟨Ar,cr,lr⟩:=r;simp only at hrl;subst hrl;have hcel:wr.cell? ⟨g1,k,none⟩=some (.slice Ar (xq row).length cr):=HS.rowCell M1 (by rw [zw,zR (by rw [zK];omega),zK,hds,yh];rfl);have HS3:=HS.p2;rw [zw,yH]at HS3;have HS4:=HS3.starTake;have HC:=zA (eJ HS4);rw [Wt]at HC;have hsl:(xq row).length<=64:=(by rw [UY];exact hr1);obtain⟨sl,hsl0⟩:=eX ((xq row).length);rw [hsl0]at hcel HC hsl
   clear HS3 HS4;go_wp2_with fail;refine HC.out.mono ?_;rintro e w2 ⟨m,rfl,hm,HS5⟩;have hml:=(HS5.tlen M0).1
   have HS6:Sp w2 [RowA 129 1 (.slice (some ⟨g1,0,none⟩) n c1) n ((ds++⟨Ar,cr,xq row⟩::ts').map RowT.v),zz ((ds++⟨Ar,cr,setT row⟩::ts').map RowT.asn),TA At mt ct ((rows.take k).map setT).flatten,OldA w.heap.size w]:=by
    have e:TA Ar m cr (setT row)=RowT.asn ⟨Ar,cr,setT row⟩:=by
     show _=TA Ar (setT row).length cr (setT row);rw [hml]
    rw [e]at HS5;have h:=HS5.starPut;rw [<-yH,<-zw]at h;exact h.sel [2,0,1,3]
   have hfz:=HS6.rowFree M0 k;have hc2:w2.cell? ⟨g1,k,none⟩=some (.slice Ar sl cr):=HS6.rowCell M0 (by rw [zw,zR (by rw [zK];omega),zK,hds,yh];show some (Value.slice Ar (xq row).length cr)=_;rw [hsl0]);have HS7:=HS6.rowSet k (.slice Ar m cr)
   have e7:((ds++(⟨Ar,cr,xq row⟩:RowT)::ts').map RowT.v).set k (.slice Ar m cr)=(ds++(⟨Ar,cr,setT row⟩:RowT)::ts').map RowT.v:=by
    rw [zw,zw,xB _ _ (by rw [zK];omega),zK,hds,yh];simp only [yH,yw];rw [show RowT.v ⟨Ar,cr,setT row⟩= .slice Ar m cr by show Value.slice Ar (setT row).length cr=_;rw [hml]]
   rw [e7]at HS7;have hcl2:(w2.setCell ⟨g1,k,none⟩ (.slice Ar m cr)).cell? ⟨g1,k,none⟩=some (.slice Ar m cr):=HS7.rowCell M0 (by rw [zw,zR (by rw [zK];omega),zK,hds,yh];show some (Value.slice Ar (setT row).length cr)=_;rw [hml])
   have Hrd:Hid (xA (w2.setCell ⟨g1,k,none⟩ (.slice Ar m cr)) (w2.setCell ⟨g1,k,none⟩ (.slice Ar m cr)).heap.size 1 Ar m (sC (setT row))):=by
    have h:=HS7.p1;rw [zw,yH]at h;have h2:=(h.starTake.rc M0).reads;simp only [hml]at h2;exact h2
   have HS8:=HS7.p2;have Htk:Hid ((rows.take (k+1)).map setT=(rows.take k).map setT++ [setT row]):=(by show _=_;rw [zI,Hrow.out];simp);have HD2:Hid ((ds++ [(⟨Ar,cr,setT row⟩:RowT)]).map RowT.l=(rows.take (k+1)).map setT):=(by show _=_;rw [Htk.out,zw,HD.out];rfl);clear HS5 HS6 HS7 e7 HT HC HS
   go_wp2_with (at_builtin;refine yR Ql (.tmp 36) (.tmp 40) rfl rfl HS8 rfl rfl Hrd.out (pX _) (by omega) (by omega) ?_;intro A9 c9 w9 hc9 hm9 HS9);have e9:sC ((rows.take k).map setT).flatten++sC (setT row)=sC ((rows.take (k+1)).map setT).flatten:=(by rw [Htk.out];simp [sC]);rw [e9]at HS9
   go_roundg (n - (k+1))
   ·exact⟨k+1,mt+m,c9,A9,ds++ [⟨Ar,cr,setT row⟩],ts',by omega,rfl,by go_num,rfl,by omega,by simp [hds],HD2,HT2,by simpa using HS9⟩
   ·omega
  ·obtain rfl:k=n:=by omega
   have htn:ts= []:=by
    have h:=HT.out;rw [zQ (by rw [Hlen.out];omega)]at h
    simpa using h
   subst htn;rw [zF (by rw [Hlen.out];omega)]at HD HS;rw [zo]at HS;obtain⟨ls,hls⟩:=eX (rows.map setT);rw [hls]at HD HS;have Hls:Hid (WH rows=ls):=hls
   have HLs:Hid (∀l∈ls,l.length<=64/\∀x∈l,x.size<=256):=by
    intro l hl;rw [<-hls]at hl;obtain⟨r,hr,rfl⟩:=List.mem_map.1 hl;exact⟨zY (Vh r) (Hr.out r hr).1,fun x hx=>(Hr.out r hr).2 x (X9.1 hx)⟩
   have hdl:∀r∈ds,∀x∈r.l,x.size<=9223372036854775807:=by
    intro r hr x hx;have:=(HLs.out r.l (by rw [<-HD.out];exact List.mem_map.2 ⟨r,hr,rfl⟩)).2 x hx;omega
   have HS1:Sp wr [DatA (.slice A1 k c1) ls,TA At mt ct ls.flatten,OldA w.heap.size w]:=by
    have h:Sp wr [zz (ds.map RowT.asn),ElsA [] ([]:List (List aB)),TA At mt ct ls.flatten,RowA 129 1 (.slice A1 k c1) k (ds.map RowT.v),OldA w.heap.size w]:=(HS.elsNil (α:=List aB)).sel [3,0,1,2,4];have h2:=Sp.starTexts ds (css:= []) (xs:= []) h hdl;rw [zZ,zZ,HD.out]at h2;have e:ds.map RowT.v=(ds.map fun r=> [r.v]).flatten:=(by rw [<-iD (ds.map RowT.v),yD];rfl);have h3:=h2.p2;rw [e]at h3
    exact h3.els
   have HSo:=zA (dK HS1.p1 (by omega));have Hlsn:Hid (ls.length=k):=(by show _=_;rw [<-hls,zK,Hlen.out]);clear hls hdl HS HD;go_wp2_with fail;refine HSo.out.mono ?_;rintro e w2 ⟨rfl,HS2⟩;have HCo:=zA (eJ HS2);rw [Wt]at HCo;go_wp2_with fail;refine HCo.out.mono ?_;rintro e w3 ⟨m,rfl,hm,HS3⟩;obtain⟨tt,htt⟩:=eX (setT ls.flatten);rw [htt]at HS3;have Htt:Hid (WD ls=tt):=htt;have htl:=(HS3.tlen M0).1
   have Htl:=zA htl
   have Hts:Hid (∀x∈tt,x.size<=256):=by
    intro x hx;rw [<-htt]at hx;obtain⟨l,hl,hx⟩:=List.mem_flatten.1 (X9.1 hx);exact(HLs.out l hl).2 x hx
   have Hpw:Hid ((tt.map zn).Pairwise (·<·)):=(by show List.Pairwise _ _;rw [<-htt];exact oP _);have HS4:=HS3.strs fun x hx=>by have:=Hts.out x hx;omega
   have HPu:=zA (ZR (c:=0) HS4 (RB.none_ _) (x:=m) (by omega) (by omega));have hmw:IntKind.u64.wrap (m:Int)=(m:Int):=(by rw [zW];omega);clear HS1 HS2 HS3 HSo HCo htt htl;go_wp2_with fail;refine HPu.out.mono ?_;rintro e w4 ⟨Ab,mb,rfl,hmb,HS5⟩;rw [zZ]at HS5;clear HS4 HPu;obtain⟨l,hl0⟩:=eX (zP m)
   have HB0:Hid (Z5 rows=l++(tt.flatMap XY ++colL (X6 ls))):=(by show _=_;unfold Z5;rw [Hls.out,Htt.out,Htl.out,hl0]);rw [hl0]at HS5;clear hl0;go_wp2
   go_loopg [7,53] m (fun gk vb vi wq=>∃(j:Nat) (Ab:aA) (mb cb:Nat) (l:aC),j<=m/\gk=m - j/\vi= .int .i64 j/\vb= .slice Ab mb cb/\mb<=10+270*j/\Hid (Z5 rows=l++((tt.drop j).flatMap XY ++colL (X6 ls)))/\Sp wq [BA Ab mb cb l,DatA (.slice At m ct) tt,DatA (.slice A1 k c1) ls,OldA w.heap.size w])
   case atStart=>exact⟨0,Ab,mb,mb,l,zJ _,rfl,rfl,rfl,by omega,HB0.out,HS5⟩
   case round=>
    obtain⟨j,Ab,mb,cb,l,hj,rfl,rfl,rfl,hmb,HB,HS⟩:=hrel;clear HS5 HB0
    by_cases hjm:j<m
    ·obtain⟨b,off,t,rfl,Ht,_,he⟩:=(HS.ls M1).at_ hjm
     have hct:=he.str.1;have hts:=Hts.out t (zD Ht.out);have hts2:¬(256:Int)<t.size:=(by omega);have HPt:=zA (cD (c:=0) (s:=t) HS (RB.none_ _) (by omega));have Hdr:=zA (yb Ht.out);clear he;go_wp2_with fail;refine HPt.out.mono ?_;rintro e w5 ⟨A5,m5,rfl,hm5,HS6⟩;rw [zZ]at HS6;have Hr5:=zA (HS6.rb M0).1.reads
     go_wp2_with (at_builtin;refine yR yW (.tmp 60) (.tmp 62) rfl rfl HS6.p1 rfl rfl Hr5.out (xd _) (by omega) (by omega) ?_;intro A9 c9 w9 hc9 hm9 HS9);have HS10:=HS9.d1;rw [<-y9]at HS10
     go_roundg (m - (j+1))
     ·exact⟨j+1,A9,mb+m5,c9,_,by omega,rfl,by go_num,rfl,by omega,by show _=_;rw [HB.out,Hdr.out];simp [XY],HS10⟩
     ·omega
    ·obtain rfl:j=m:=by omega
     have HB2:Hid (Z5 rows=l++colL (X6 ls)):=(by show _=_;rw [HB.out,zQ (by rw [Htl.out];omega)];rfl);obtain⟨Ho,hHo⟩:=eX (wr.heap.size);clear HB;go_wp2_with (at_make;refine Zk WY (.tmp 66) (.tmp 66) rfl rfl HS hHo rfl rfl (by omega) (by omega) CG ?_;intro w6 HS6;rw [D8]at HS6)
     have HS7:Sp w6 [RowA 57 1 (.slice (some ⟨Ho,0,none⟩) k k) k ([]++List.replicate (k - 0) (.slice none 0 0)),ElsA (([]:aF).map fun v=> [v]) ((ls.take 0).map (xc tt)),DatA (.slice At j ct) tt,DatA (.slice A1 k c1) ls,BA Ab mb cb l,OldA w.heap.size w]:=(HS6.elsNil (α:=aD)).sel [1,0,3,4,2,5];clear HS HS6
     go_loopg [70] k (fun gk vi wr=>∃(q:Nat) (vs:aF),q<=k/\gk=k - q/\vi= .int .i64 q/\vs.length=q/\Sp wr [RowA 57 1 (.slice (some ⟨Ho,0,none⟩) k k) k (vs++List.replicate (k - q) (.slice none 0 0)),ElsA (vs.map fun v=> [v]) ((ls.take q).map (xc tt)),DatA (.slice At j ct) tt,DatA (.slice A1 k c1) ls,BA Ab mb cb l,OldA w.heap.size w])
     case atStart=>exact⟨0, [],zJ _,rfl,rfl,rfl,HS7⟩
     case round=>
      obtain⟨q,vs,hq,rfl,rfl,hvs,HS⟩:=hrel;clear HS7
      by_cases hqk:q<k
      ·obtain⟨row,Hrow⟩:∃row,Hid (ls[q]? =some row):=⟨_,zB (by rw [Hlsn.out];exact hqk)⟩;obtain⟨b1,off1,Ar,nr,cr,rfl,e0,hnr, -, -,HSf⟩:=HS.p3.focus Hrow.out;obtain⟨hr1,hr2⟩:=HLs.out row (zD Hrow.out);have Hnr:=zA hnr;have hnr64:nr<=64:=(by omega);have hrt:Hid (∀t∈row,t∈tt):=fun t ht=>by rw [<-Htt.out];exact VV (zD Hrow.out) ht
       obtain⟨z,hz⟩:∃z,k - q=z+1:=⟨k - q - 1,by omega⟩
       have HS8:Sp wr [IA none 0 0 ((xc tt row).take 0),RowA 57 1 (.slice (some ⟨Ho,0,none⟩) k k) k (vs++ .slice none 0 0::List.replicate z (.slice none 0 0)),Z1 [.slice (some ⟨b1,off1,none⟩) k c1] ls [.slice Ar nr cr] row,ElsA (vs.map fun v=> [v]) ((ls.take q).map (xc tt)),DatA (.slice At j ct) tt,BA Ab mb cb l,OldA w.heap.size w]:=by
        rw [hz]at HSf;exact(HSf.nil 2 1).p2.p1
       have Hz:=zA hz;clear hr1 hr2 hnr HS HSf hz;go_wp2
       go_loopg [78] nr (fun gk vi wr=>∃(p:Nat) (Aq:aA) (cq:Nat),p<=nr/\gk=nr - p/\vi= .int .i64 p/\Sp wr [IA Aq p cq ((xc tt row).take p),RowA 57 1 (.slice (some ⟨Ho,0,none⟩) k k) k (vs++ .slice Aq p cq::List.replicate z (.slice none 0 0)),Z1 [.slice (some ⟨b1,off1,none⟩) k c1] ls [.slice Ar nr cr] row,ElsA (vs.map fun v=> [v]) ((ls.take q).map (xc tt)),DatA (.slice At j ct) tt,BA Ab mb cb l,OldA w.heap.size w])
       case atStart=>exact⟨0,none,0,zJ _,rfl,rfl,HS8⟩
       case round=>
        obtain⟨p,Aq,cq,hp,rfl,rfl,HS⟩:=hrel;clear HS8 e0
        by_cases hpn:p<nr
        ·obtain⟨b2,off2,t,rfl,Ht, -,he2⟩:=(HS.ls2 M2).at_ hpn
         have hct:=he2.str.1;have htm:=hrt.out t (zD Ht.out);have Hbi:=zA (MH At j ct tt t wr (HS.ls M4) (by omega) Hpw.out);have hvk:(vs++Value.slice Aq p cq::List.replicate z (.slice none 0 0))[q]? =some (.slice Aq p cq):=(by rw [zR (by omega),hvs,yh];rfl);have Hvk:=zA hvk;have Htm:=zA htm;clear he2 hvk htm;go_wp2_with fail;refine Hbi.out.mono ?_;rintro e w7 ⟨kk,bb,rfl,hst,q7,rfl⟩
         have HSd:=HS.drewN q7;have hcq:(wr.drewN q7).cell? ⟨Ho,q,none⟩=some (.slice Aq p cq):=HSd.rowCell M1 Hvk.out;have hkj:kk<=j:=(by have:=hst.1;rw [Htl.out]at this;exact this);have hkx:=NF Hpw.out (hst.get Hpw.out Htm.out);have Hkx:=zA hkx;have hqk' :(q:Int)<k:=(by omega);clear hst hkx HS Hbi hct
         go_wp2_with (at_builtin;refine yC Zs (.tmp 93) (.tmp 95) rfl rfl HSd rfl (cs:= #[.int .i64 (kk:Int)]) rfl rfl rfl (by intro u hu;simp at hu;subst hu;rfl) (by omega) (by omega) ?_;intro A9 c9 w9 hc9 hm9 HS9;have hq1:w9.cell? ⟨Ho,q,none⟩=some (.slice Aq p cq):=HS9.rowCell M1 Hvk.out;have hq2:=HS9.rowFree M1 q);have HS10:=(HS9.p1.rowSet q (.slice A9 (p+1) c9)).p1
         have e1:(vs++Value.slice Aq p cq::List.replicate z (.slice none 0 0)).set q (.slice A9 (p+1) c9)=vs++Value.slice A9 (p+1) c9::List.replicate z (.slice none 0 0):=by
          rw [xB _ _ (by omega),hvs,yh];rfl
         have e2:ints ((xc tt row).take p)++ #[Value.int .i64 (kk:Int)].toList=ints ((xc tt row).take (p+1)):=by
          rw [zI];have:(xc tt row)[p]? =some (kk:Int):=(by unfold xc;rw [zH,Ht.out,yk,Hkx.out]);rw [this];simp [ints]
         rw [e1,e2]at HS10;clear e1 e2 HS9 HSd
         go_roundg (nr - (p+1))
         ·exact⟨p+1,A9,c9,by omega,rfl,by go_num,HS10⟩
         ·omega
        ·obtain rfl:p=nr:=by omega
         have hol:(xc tt row).length=p:=(by unfold xc;rw [zK,Hnr.out]);rw [zF (by omega)]at HS
         have hoi:∀x∈xc tt row,In64 x:=by
          intro x hx;obtain⟨t,ht,rfl⟩:=List.mem_map.1 hx;have:=cP (hrt.out t ht);rw [Htl.out]at this;unfold In64;omega
         have h1:=(HS.ints hoi).p3.p1.elsPush;have e1:(vs.map fun v=> [v])++ [[Value.slice Aq p cq]]=(vs++ [Value.slice Aq p cq]).map fun v=> [v]:=(by simp);have e2:(ls.take q).map (xc tt)++ [xc tt row]=(ls.take (q+1)).map (xc tt):=(by rw [zI,Hrow.out];simp)
         have e3:vs++Value.slice Aq p cq::List.replicate z (.slice none 0 0)=(vs++ [Value.slice Aq p cq])++List.replicate (k - (q+1)) (.slice none 0 0):=by
          have:=Hz.out;rw [show k - (q+1)=z by omega];simp
         rw [e1,e2,e3]at h1;have h3:Sp wr [RowA 57 1 (.slice (some ⟨Ho,0,none⟩) k k) k (vs++ [Value.slice Aq p cq]++List.replicate (k - (q+1)) (.slice none 0 0)),ElsA ((vs++ [Value.slice Aq p cq]).map fun v=> [v]) ((ls.take (q+1)).map (xc tt)),DatA (.slice At j ct) tt,DatA (.slice (some ⟨b1,off1,none⟩) k c1) ls,BA Ab mb cb l,OldA w.heap.size w]:=h1.p2.unfocus.sel [2,1,3,0,4,5]
         clear HS hol hoi h1 e1 e2 e3;go_wp2
         go_roundg (k - (q+1))
         ·exact⟨q+1,vs++ [Value.slice Aq p cq],by omega,rfl,by go_num,by simp [hvs],h3⟩
         ·omega
      ·obtain rfl:q=k:=by omega
       rw [zF (by rw [Hlsn.out];omega),yh,List.replicate_zero,zo]at HS;have ho:(ls.map (xc tt))=X6 ls:=(by unfold X6;rw [Htt.out]);rw [ho]at HS
       have HS1:Sp wr [DatA (.slice (some ⟨Ho,0,none⟩) q q) (X6 ls),DatA (.slice At j ct) tt,DatA (.slice A1 q c1) ls,BA Ab mb cb l,OldA w.heap.size w]:=by
        have e:RowA 57 1 (.slice (some ⟨Ho,0,none⟩) q q) q vs=RowA 57 (Rep.size aD) (.slice (some ⟨Ho,0,none⟩) q q) q (vs.map fun v=> [v]).flatten:=(by rw [iD];rfl);rw [e]at HS;exact HS.els
       have hoI:∀r∈X6 ls,r.length<=64/\InL r:=by
        intro r hr;refine⟨?_,fun x hx=> ?_⟩
        ·unfold X6 at hr;obtain⟨l0,hl0,rfl⟩:=List.mem_map.1 hr;unfold xc;rw [zK];exact(HLs.out l0 hl0).1
        ·have:=oV hr x hx;have h2:=Htl.out;rw [Htt.out]at this;omega
       have HF:=zA (kM (some ⟨Ho,0,none⟩) q q (X6 ls) wr (HS1.ls M0) hn hoI);clear HS hoI ho;go_wp2_with fail;refine HF.out.mono ?_;rintro e w7 ⟨A7,m7,c7,rfl,hm7,HT7⟩;have HS7:=HS1.c1 HT7;have Hr7:=zA (HS7.rb M0).1.reads;go_wp2_with (at_builtin;refine yR yW (.tmp 100) (.tmp 102) rfl rfl HS7.p4 rfl rfl Hr7.out (xd _) (by omega) (by omega) ?_;intro A9 c9 w9 hc9 hm9 HS9);go_ret
       refine⟨A9,_,c9,rfl,by omega,?_⟩;have h:=HS9.d1.d1.d1.d1;rw [<-y9,<-HB2.out]at h;exact h
open Go.RowKit Go.Maps Go.Shelf
theorem EK (mb:Option Nat) (w:O):Calls prog 116 #[.map mb] w fun e w' =>e= .returned (.func (.func 196) #[] #[.pointer (some ⟨w.heap.size,0,none⟩)])/\w' =w.alloc (.cells #[.map mb] 144):=
 (callsIn_wide (n:=5)).1 (AnyZ.keys_in Tryz.keysS Fence.wide 5 trivial rfl mb w)
theorem EL (mb:Option Nat) (w:O):Calls prog 118 #[.map mb] w fun e w' =>e= .returned (.func (.func 199) #[] #[.pointer (some ⟨w.heap.size,0,none⟩)])/\w' =w.alloc (.cells #[.map mb] 219):=
 (callsIn_wide (n:=5)).1 (AnyZI.keys_in Tryz.keysI Fence.wide 5 trivial rfl mb w)
theorem MQ (m:Nat):AnyZ.SortsIn prog Tryz.sortedS_ren Fence.wide m:=
 ⟨fun blk off cap ss W hH hblk hsz=>callsIn_wide.2 (Tryz.slices_Sort_string blk off cap ss W hH hblk hsz),fun p cap W=>callsIn_wide.2 (Tryz.slices_Sort_string_none p cap W)⟩
theorem MR (m:Nat):AnyZI.SortsIn prog Tryz.sortedI_ren Fence.wide m:=
 ⟨fun blk off cap ss W hH hblk hsz=>callsIn_wide.2 (Tryz.slices_Sort_int blk off cap ss W hH hblk hsz),fun p cap W=>callsIn_wide.2 (Tryz.slices_Sort_int_none p cap W)⟩
theorem Vc:Keyed prog 9:=string_keyed underlying9
theorem UD:Keyed prog 3:=int_keyed underlying3
theorem keyS (s:aB) (hs:s.size<=9223372036854775807):Go.keyOf prog 9 (.string s)=some (.string s.data.toList):=Go.WideMaps.keyOf_string_mk underlying9 (by unfold maxLen;omega)
theorem O3 (n:Int) (hn:In64 n):Go.keyOf prog 3 (.int .i64 n)=some (.int .i64 n):=keyOf_int_mk underlying3 (WalkArith.wf_i64 (by unfold In64 at hn;omega))
section
variable {w:O} {L:List Asn} {b Bm:Nat} {l:List (V×V)}
theorem tX {ts:List aB} (h:Sp w L) (hm:MapA prog 9 b l∈L) (hl:l.map (·.1)=ts.map Value.string) (hB:w.cell? ⟨Bm,0,none⟩=some (.map (some b))) (hBm:Bm<w.heap.size) (hn:ts.length<=10000000000):
 Calls prog 115 #[.func (.func 196) #[] #[.pointer (some ⟨Bm,0,none⟩)]] w fun e w' =>∃A c,e= .returned (.slice A ts.length c)/\Sp w' (SA A ts.length c (xq ts)::L):=by
 obtain⟨es,clock,hb,F,he⟩:=h.mapOf hm
 have hlen:es.toList.length=ts.length:=by
  have:=congrArg List.length hl;rw [<-he]at this
  simpa using this
 obtain⟨D,hD⟩:=eX (DataW.map ((es.toList.map (Go.WideElems.rg prog 9 R0)).foldr DataW.insert []))
 have hsz:Maps.size D=ts.length:=by
  rw [<-hD];show((es.toList.map (Go.WideElems.rg prog 9 R0)).foldr DataW.insert []).length=_;rw [(Go.WideShapes.sorted_perm _).length_eq];simpa using hlen
 have hown:w.ownsMap prog 9 R0 b ts.length D:=⟨es,clock,hb,F,by rw [<-Array.length_toList,hlen];exact zC _,hD.symm⟩;have hseq:=AnyZ.keys_gives (ρ:=Tryz.keysS_ren) {Tryz.keysS with} Fence.wide 2 trivial rfl (by omega) Bm b ts.length D w hBm hB hown
 have cS:=AnyZ.sorted_in Tryz.sortedS Fence.wide 5 trivial trivial trivial trivial rfl (by omega) (MQ _) (enters_of func192 (by kernel_rfl) rfl) 196 #[.pointer (some ⟨Bm,0,none⟩)] trivial (enters_of func196 (by kernel_rfl) rfl) _ (Maps.size D) (by rw [hsz];unfold maxLen;omega) (by rw [hsz];omega) w hseq;refine((callsIn_wide (n:=5)).1 cS).mono ?_;rintro e w' ⟨v,ss,rfl,hS,hrow,hnil,hbel⟩
 have hperm:ss.Perm (ts.map zn):=by
  refine hS.trans ?_;rw [<-hD];show(((es.toList.map (Go.WideElems.rg prog 9 R0)).foldr DataW.insert []).map fun p=>Go.strOf p.1).Perm _;refine((Go.WideShapes.sorted_perm _).map _).trans ?_;rw [yD]
  have:es.toList.map ((fun p=>Go.strOf p.1) ∘ Go.WideElems.rg prog 9 R0)=ts.map zn:=by
   have h1:es.toList.map (fun e=>e.key)=ts.map Value.string:=by rw [<-hl,<-he,yD];rfl
   apply yX
   intro i;rw [zH,zH];have h2:=congrArg (·[i]?) h1;simp only [zH]at h2;rcases hx:es.toList[i]? with _|x<;>rcases hy:ts[i]? with _|y<;>rw [hx,hy]at h2<;>simp at h2⊢
   obtain⟨z,hz⟩:=F.reads x (zD hx);rw [Go.WideElems.rg_of hz];have hk:=Go.WideElems.rd_key hz;rw [h2]at hk;simp [Go.keyOf,mapKey,underlying9]at hk;rw [<-hk.2];rfl
  rw [this]
 have hln:ss.length=ts.length:=by simpa using hperm.length_eq
 obtain⟨A,c,rfl⟩:=U7 hrow
 have hsort:(ss.mergeSort fun x y=>decide (x<=y)).map encStr=sC (xq ts):=by
  have:ss.mergeSort (fun x y=>decide (x<=y))=X0 (ts.map zn):=by
   show X0 ss=_;exact((List.mergeSort_perm _ _).trans (hperm.trans (List.mergeSort_perm _ _).symm)).eq_of_pairwise (fun a b _ _ h1 h2=>List.le_antisymm h1 h2) (dL _) (dL _)
  rw [this];simp [sC,xq,WC,encStr]
 rw [hsort,hln]at hrow;exact⟨A,c,by rw [hln],h.row (Yd hrow) hbel⟩
theorem tY {ts:aD} (h:Sp w L) (hm:MapA prog 3 b l∈L) (hl:l.map (·.1)=ts.map (Value.int .i64)) (hB:w.cell? ⟨Bm,0,none⟩=some (.map (some b))) (hBm:Bm<w.heap.size) (hn:ts.length<=10000000000):
 Calls prog 117 #[.func (.func 199) #[] #[.pointer (some ⟨Bm,0,none⟩)]] w fun e w' =>∃A c,e= .returned (.slice A ts.length c)/\Sp w' (NA A ts.length c (xP ts)::L):=by
 obtain⟨es,clock,hb,F,he⟩:=h.mapOf hm
 have hlen:es.toList.length=ts.length:=by
  have:=congrArg List.length hl;rw [<-he]at this
  simpa using this
 obtain⟨D,hD⟩:=eX (DataW.map ((es.toList.map (Go.WideElems.rg prog 3 R0)).foldr DataW.insert []))
 have hsz:Maps.size D=ts.length:=by
  rw [<-hD];show((es.toList.map (Go.WideElems.rg prog 3 R0)).foldr DataW.insert []).length=_;rw [(Go.WideShapes.sorted_perm _).length_eq];simpa using hlen
 have hown:w.ownsMap prog 3 R0 b ts.length D:=⟨es,clock,hb,F,by rw [<-Array.length_toList,hlen];exact zC _,hD.symm⟩;have hseq:=AnyZI.keys_gives (ρ:=Tryz.keysI_ren) {Tryz.keysI with} Fence.wide 2 trivial rfl (by omega) Bm b ts.length D w hBm hB hown
 have cS:=AnyZI.sorted_in Tryz.sortedI Fence.wide 5 trivial trivial trivial trivial rfl (by omega) (MR _) (enters_of func198 (by kernel_rfl) rfl) 199 #[.pointer (some ⟨Bm,0,none⟩)] trivial (enters_of func199 (by kernel_rfl) rfl) _ (Maps.size D) (by rw [hsz];unfold maxLen;omega) (by rw [hsz];omega) w hseq;refine((callsIn_wide (n:=5)).1 cS).mono ?_;rintro e w' ⟨v,ss,rfl,hS,hrow,hnil,hbel⟩
 have hperm:ss.Perm (ts):=by
  refine hS.trans ?_;rw [<-hD];show(((es.toList.map (Go.WideElems.rg prog 3 R0)).foldr DataW.insert []).map fun p=>Go.intOf p.1).Perm _;refine((Go.WideShapes.sorted_perm _).map _).trans ?_;rw [yD]
  have:es.toList.map ((fun p=>Go.intOf p.1) ∘ Go.WideElems.rg prog 3 R0)=ts:=by
   have h1:es.toList.map (fun e=>e.key)=ts.map (Value.int .i64):=by rw [<-hl,<-he,yD];rfl
   apply yX
   intro i;rw [zH];have h2:=congrArg (·[i]?) h1;simp only [zH]at h2;rcases hx:es.toList[i]? with _|x<;>rcases hy:ts[i]? with _|y<;>rw [hx,hy]at h2<;>simp at h2⊢
   obtain⟨z,hz⟩:=F.reads x (zD hx);rw [Go.WideElems.rg_of hz];have hk:=Go.WideElems.rd_key hz;rw [h2]at hk;simp [Go.keyOf,mapKey,underlying3]at hk;rw [<-hk.2];rfl
  rw [this]
 have hln:ss.length=ts.length:=by simpa using hperm.length_eq
 obtain⟨A,c,rfl⟩:=U7 hrow
 have hsort:(ss.mergeSort fun x y=>decide (x<=y)).map encZ=ints (xP ts):=by
  have pw:∀l:aD,(xP l).Pairwise (fun a b=>a<=b):=fun l=>by
   have:=List.pairwise_mergeSort (le:=fun x y:Int=>decide (x<=y)) (by simp;omega) (by simp;omega) l
   simpa [xP]using this
  have:ss.mergeSort (fun x y=>decide (x<=y))=xP ts:=((List.mergeSort_perm _ _).trans (hperm.trans (List.mergeSort_perm _ _).symm)).eq_of_pairwise (fun a b _ _ h1 h2=>Int.le_antisymm h1 h2) (pw ss) (pw ts);rw [this];rfl
 rw [hsort,hln]at hrow;exact⟨A,c,by rw [hln],h.row (Yd hrow) hbel⟩
end
section
variable {κ ν:Type} [DecidableEq κ]
def upd (k:κ) (f:Option ν->ν):List (κ×ν)->List (κ×ν)
 | []=> [(k,f none)]
 |p::l=>if p.1=k then(k,f (some p.2))::l else p::upd k f l
def Xa (l:List (κ×ν)) (k:κ):Option ν:=(l.find? fun p=>decide (p.1=k)).map (·.2)
theorem QG (k:κ) (f:Option ν->ν) (p:κ×ν) (l:List (κ×ν)):upd k f (p::l)=if p.1=k then(k,f (some p.2))::l else p::upd k f l:=rfl
theorem cH {k:κ} {f:Option ν->ν}:∀{l:List (κ×ν)},(∀p∈l,p.1≠k)->upd k f l=l++ [(k,f none)]
 | [],_=>rfl
 |p::l,h=>by
  unfold upd;rw [if_neg (h p (by simp)),cH fun q hq=>h q (by simp [hq])];rfl
theorem V9 {k:κ} {f:Option ν->ν}:∀{l:List (κ×ν)} {j:Nat} {v:ν},(l.map (·.1)).Nodup->l[j]? =some (k,v)->upd k f l=l.set j (k,f (some v))
 | [],j,v,_,h=>by simp at h
 |p::l,0,v,_,h=>by
  simp at h;subst h;simp [upd]
 |p::l,j+1,v,hn,h=>by
  rw [yH,List.nodup_cons]at hn;have h' :l[j]? =some (k,v):=(by simpa using h);unfold upd;rw [if_neg fun e=>hn.1 (by rw [e];exact List.mem_map.2 ⟨_,zD h',rfl⟩),V9 hn.2 h'];rfl
theorem UW {k:κ} {f:Option ν->ν}:∀{l:List (κ×ν)},(l.map (·.1)).Nodup->((upd k f l).map (·.1)).Nodup
 | [],_=>by simp [upd]
 |p::l,h=>by
  rw [yH,List.nodup_cons]at h;unfold upd
  split
  ·rename_i e;rw [yH,List.nodup_cons];exact⟨by rw [<-e];exact h.1,h.2⟩
  ·rename_i e;rw [yH,List.nodup_cons];refine⟨fun hm=> ?_,UW h.2⟩;obtain⟨q,hq,e2⟩:=List.mem_map.1 hm
   have:∀{l:List (κ×ν)},q∈upd k f l->q.1=k\/q∈l:=by
    intro l
    induction l with
    |nil=>intro h;simp [upd]at h;exact .inl (by rw [h])
    |cons a l ih=>
     intro h;unfold upd at h
     split at h
     ·rcases yx.1 h with rfl|h
      ·exact .inl rfl
      ·exact .inr (by simp [h])
     ·rcases yx.1 h with rfl|h
      ·exact .inr (by simp)
      ·rcases ih h with h|h
       ·exact .inl h
       ·exact .inr (by simp [h])
   rcases this hq with h' |h'
   ·exact e (e2▸h')
   ·exact h.1 (e2▸List.mem_map.2 ⟨q,h',rfl⟩)
theorem KP {k:κ} {f g:Option ν->ν} {l:List (κ×ν)} {j:Nat} {v:ν} (hn:(l.map (·.1)).Nodup) (hj:(upd k g l)[j]? =some (k,v)) (hfg:∀o,f o=f (some (g o))):upd k f l=(upd k g l).set j (k,f (some v)):=by
 have h1:=V9 (f:=f) (UW (f:=g) hn) hj;rw [<-h1];clear h1 hj hn
 induction l with
 |nil=>simp [upd];exact hfg none
 |cons p l ih=>
  rw [QG,QG]
  by_cases e:p.1=k
  ·rw [if_pos e,if_pos e,QG,if_pos rfl,hfg]
  ·rw [if_neg e,if_neg e,QG,if_neg e,ih]
end
abbrev Wc:=List (Int×aD)
abbrev xo:=List (aB×Wc)
def OJ (ds:Wc) (d p:Int):Wc:=upd d (fun q=>q.getD []++ [p]) ds
def addT (td:xo) (t:aB) (d p:Int):xo:=upd t (fun o=>OJ (o.getD []) d p) td
def Zo (ds:Wc):List PostD:=(xP (ds.map (·.1))).map fun d=>⟨d,(Xa ds d).getD []⟩
def Zl (td:xo):List aB:=xq (td.map (·.1))
def Y2 (td:xo):List (List PostD):=(Zl td).map fun t=>Zo ((Xa td t).getD [])
def Ya (n:Nat) (td:xo):Prop:=td.length<=n/\∀p∈td,p.2.length<=n/\∀q∈p.2,q.2.length<=n
structure DR where
 doc:Int
 A:aA
 c:Nat
 l:aD
def DR.kv (d:DR):V×V:=(.int .i64 d.doc,.slice d.A d.l.length d.c)
def DR.asn (d:DR):Asn:=NA d.A d.l.length d.c d.l
def DR.pl (d:DR):Int×aD:=(d.doc,d.l)
structure TR where
 term:aB
 b:Nat
 docs:List DR
def qO (b:Nat) (ds:List DR):List Asn:=MapA prog 3 b (ds.map DR.kv)::ds.map DR.asn
def TR.kv (r:TR):V×V:=(.string r.term,.map (some r.b))
def TR.asn (r:TR):Asn:=zz (qO r.b r.docs)
def TR.pl (r:TR):aB×Wc:=(r.term,r.docs.map DR.pl)
def YR (T:Nat) (td:xo):Asn:=ExA fun rs:{rs:List TR // rs.map TR.pl=td}=>zz (MapA prog 9 T (rs.1.map TR.kv)::rs.1.map TR.asn)
section
variable {w:O} {L:List Asn} {T:Nat} {td:xo}
theorem Sp.termsOut (h:Sp w (YR T td::L)):∃rs:List TR,rs.map TR.pl=td/\Sp w (MapA prog 9 T (rs.map TR.kv)::zz (rs.map TR.asn)::L):=by
 obtain⟨rs,h⟩:=h.exOut;exact⟨rs.1,rs.2,h.starOut⟩
theorem Sp.termsIn {rs:List TR} (hp:rs.map TR.pl=td) (h:Sp w (MapA prog 9 T (rs.map TR.kv)::zz (rs.map TR.asn)::L)):Sp w (YR T td::L):=
 Sp.exIn (f:=fun rs:{rs:List TR // rs.map TR.pl=td}=>zz (MapA prog 9 T (rs.1.map TR.kv)::rs.1.map TR.asn)) ⟨rs,hp⟩ h.starIn
theorem Sp.starSet {M:List Asn} {X' :Asn} {k:Nat} (h:Sp w (X' ::zz (M.eraseIdx k)::L)) (hk:k<M.length):Sp w (zz (M.set k X')::L):=by
 have h1:(M.set k X')[k]? =some X' :=by rw [List.getElem?_set_self hk]
 have h2:(M.set k X').eraseIdx k=M.eraseIdx k:=by rw [List.eraseIdx_set_eq]
 rw [<-h2]at h;exact h.starBack h1
end
end Go.Proofs.YtjbhbfaeielbiaaGreatDoor

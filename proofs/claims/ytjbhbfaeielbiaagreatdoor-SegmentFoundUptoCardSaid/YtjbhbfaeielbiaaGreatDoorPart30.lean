import Derived.Test.YtjbhbfaeielbiaaGreatDoorPart17
import Derived.Test.YtjbhbfaeielbiaaGreatDoorPart26
import Derived.Test.YtjbhbfaeielbiaaGreatDoorPart06
import Derived.Test.YtjbhbfaeielbiaaGreatDoorKys
set_option maxRecDepth 100000
set_option maxHeartbeats 8000000
set_option linter.unusedVariables false
set_option linter.unusedSimpArgs false
namespace Go.Proofs.YtjbhbfaeielbiaaGreatDoor
open Tryz
open Rep (rep)
open Go.RowKit
theorem WY:Elt prog 147 57 1 24:=xt (by kernel_rfl) (by decide) (by kernel_rfl)
section
variable {w:O} {L:List Asn} {A:aA} {n c:Nat}
theorem mH {l:aD} (h:Sp w (IA A n c l::L)) (m:n<=1000000000000):
 Calls prog 194 #[.slice A n c] w fun e w' =>e= .returned (.tuple #[])/\Sp w' (IA A n c (xP l)::L):=by
 have b:=(h.ilen M0).1;rcases zi n with a|a
 ·subst a;have d:l= []:=zS b;subst d;refine(Tryz.slices_Sort_int_none_f194 A c w).mono ?_;rintro e w' ⟨rfl,rfl⟩;exact⟨rfl,by simpa [xP]using h⟩
 ·obtain⟨g,rfl,_,i,_⟩:=(h.rowOf M0).at_ a
  have f:=h.holds (enc:=Value.int .i64) (xs:=l) M0;have o:=(h.ilen M0).2;have:=Tryz.slices_Sort_int_f194 g 0 c l w f i (by omega);rw [b]at this;refine this.mono ?_;rintro e w' ⟨rfl,k,j,rfl⟩;exact⟨rfl,h.putR (enc:=Value.int .i64) (xP l) (by rw [U0,b]) k j⟩
abbrev TA (A:aA) (m c:Nat) (l:List aB):Asn:=RowA 9 1 (.slice A m c) m (sC l)
theorem Sp.tlen {l:List aB} (h:Sp w L) (a:TA A n c l∈L):l.length=n/\n<=c/\c<=9223372036854775807:=by
 have:=h.rowOf a;exact⟨by have h:=this.1;unfold sC at h;rw [zK]at h;omega,this.cap.2⟩
theorem dD (l:List aB):sC l=(l.map zn).map encStr:=by
 unfold sC;rw [yD];rfl
theorem dK {l:List aB} (h:Sp w (TA A n c l::L)) (m:n<=1000000000000):
 Calls prog 192 #[.slice A n c] w fun e w' =>e= .returned (.tuple #[])/\Sp w' (TA A n c (xq l)::L):=by
 have b:=(h.tlen M0).1;rcases zi n with a|a
 ·subst a;have d:l= []:=zS b;subst d;refine(Tryz.slices_Sort_string_none A c w).mono ?_;rintro e w' ⟨rfl,rfl⟩;exact⟨rfl,by simpa [xq,X0]using h⟩
 ·obtain⟨g,rfl,_,i,_⟩:=(h.rowOf M0).at_ a
  unfold TA at h;rw [dD]at h;have f:=h.holds (enc:=encStr) (xs:=l.map zn) M0;have o:=((h.rowOf M0).cap).2;have:=Tryz.slices_Sort_string g 0 c (l.map zn) w f i (by rw [zK];omega);rw [zK,b]at this;refine this.mono ?_;rintro e w' ⟨rfl,k,j,rfl⟩;refine⟨rfl,?_⟩;unfold TA;rw [dD];unfold xq;rw [Wp];exact h.putR (enc:=encStr) (X0 (l.map zn)) (by rw [kU,zK,b]) k j
theorem eJ {l:List aB} (h:Sp w (TA A n c l::L)):
 Calls prog 193 #[.slice A n c] w fun e w' =>∃m,e= .returned (.slice A m c)/\m<=n/\Sp w' (TA A m c (bP l)::L):=by
 have f:=(h.tlen M0).1;rcases zi n with b|b
 ·subst b;have i:l= []:=zS f;subst i;refine(Tryz.slices_Compact_string_empty A c w).mono ?_;rintro e w' ⟨rfl,rfl⟩;exact⟨0,rfl,zC _,h⟩
 ·obtain⟨g,rfl,_,q,_⟩:=(h.rowOf M0).at_ b
  have o:=h.tlen M0;unfold TA at h;rw [dD]at h;have p:=h.holds (enc:=encStr) (xs:=l.map zn) M0;have:=Tryz.slices_Compact_string g 0 c (l.map zn) w p (by rw [zK];omega) (by rw [zK];omega);rw [zK,f]at this;have a:=iJ (l.map zn);rw [zK,f]at a;refine this.mono ?_;rintro e w' ⟨rfl,k,rfl⟩;refine⟨_,rfl,a,?_⟩
  have d:=h.putR (enc:=encStr) (Lib.compact (l.map zn)++List.replicate (n - (Lib.compact (l.map zn)).length) []) (by simp;omega) k #[];rw [Sort.grow_empty]at d;rw [zw]at d;have j:=d.cutRow;unfold TA;rw [dD];unfold bP;rw [Wp];rw [zK]at j;exact j
end
attribute [local go_sem ↓] zU zV
def XX (rows:List aD):aE:=rows.map fun l=>if l= []then 0 else 1
theorem KN:(Tryz.prog.info? 5).bind (fun i=>i.zero)=some (.int .u8 0):=by kernel_rfl
theorem YW.skip {l:aE} {N k:Nat} {cur:aC} (h:YW l 1 N k cur) (b:l[k]? =some 0):YW l 1 N (k+1) cur:=by
 refine⟨h.1,fun j=> ?_⟩;rw [h.2 j]
 by_cases a:j=k
 ·subst a;have:N9 l 1 j=false:=(by unfold N9;simp [b,Nat.mod_one]);simp [this]
 ·congr 1
  exact decide_eq_decide.2 (by omega)
theorem YW.whole {l:aE} {N:Nat} {cur:aC} (h:YW l 1 N l.length cur) (b:N=(l.length+7) / 8):cur=Z8 l 1:=by
 refine mW (by rw [h.1,b];unfold yK;rw [Nat.one_mul]) fun i _=> ?_;rw [h.2 i]
 by_cases a:i<l.length
 ·simp [a]
 ·have:N9 l 1 i=false:=(by unfold N9;rw [Nat.div_one,zh (by omega)];simp);simp [a,this]
theorem M9 {y r:Nat} (c:y<256) (b:r<8):bits .or .u8 (y:Int) (2^r%256)=((Zd y 1 0 1 r:Nat):Int):=by
 have a:(2:Nat)^r<256:=zX (Nat.pow_lt_pow_right (by omega) b) (by decide)
 have e:(2:Int)^r%256=((2^r:Nat):Int):=by
  rw [show(2:Int)^r=((2^r:Nat):Int) by rw [Int.natCast_pow];rfl];generalize 2^r=P at*;omega
 rw [e,qK c a];unfold Zd;simp
theorem kM (A:aA) (n c:Nat) (rows:List aD) (w:O) (L:zL w (·<w.heap.size) A n c rows) (hn:n<=16384) (hr:∀r∈rows,r.length<=64/\InL r):
 Calls prog 221 #[.slice A n c] w fun e w' =>∃A' m c',e= .returned (.slice A' m c')/\m<=3000000000/\Sp w' [BA A' m c' (colL rows),OldA w.heap.size w]:=by
 have Hl:=zA L;have o:=zA L.length;have Hr:=zA hr;obtain⟨N,hN⟩:=eX ((n+7) / 8);have h8:IntKind.i64.wrap (((n:Int)+7).tdiv 8)=(N:Int):=by rw [Int.tdiv_eq_ediv_of_nonneg (by omega),zT];omega
 have h4:((n:Int)+7) / 8=(N:Int):=by omega
 have h7:wrap64 (N:Int)=N:=by unfold wrap64;omega
 have y4:n<=8*N:=by omega
 have x3:N<=2100:=by omega
 have HN:=zA hN;have hs:=zA (ZR (c:=0) (Sp.start w) (RB.none_ _) (x:=n) (by omega) (by omega));clear L hr hN;go_enter func221,ntmps221;go_wp2_with fail;refine hs.o.mono ?_;rintro e w1 ⟨A1,m1,rfl,ab,F⟩;rw [zZ]at F;obtain⟨H,hH⟩:=eX (w1.heap.size);go_wp2_with (at_make;refine Zk yW (.tmp 16) (.tmp 16) rfl rfl F hH rfl rfl (by omega) (by omega) KN ?_;intro w2 G;rw [jN]at G)
 have Y:=((G.nil 2 1).nil 2 1).p2
 go_loopg [5,6,20] n (fun gk v5 v6 vi wr=>∃(k:Nat) (U W:aA) (P c5 Q c6:Nat) (cur:aC),vi= .int .i64 k/\k<=n/\gk=n - k/\v5= .slice U P c5/\v6= .slice W Q c6/\P<=k/\Q<=64*k/\Hid (YW (XX rows) 1 N k cur)/\
  Sp wr [BA (some ⟨H,0,none⟩) N N cur,IA U P c5 (yp (rows.take k)),IA W Q c6 (rows.take k).flatten,BA A1 m1 m1 (zP n),OldA w.heap.size w])
 case atStart=>exact⟨0,none,none,0,0,0,0,List.replicate N 0,rfl,zJ _,rfl,rfl,rfl,by omega,by omega,YW.start _ 1 N,Y⟩
 case round=>
  obtain⟨k,U,W,P,c5,Q,c6,cur,rfl,hk,rfl,rfl,rfl,ad,ae,X,s⟩:=hrel;clear F G Y
  by_cases xi:k<n
  ·obtain⟨b,off,f,rfl,d,hb,hd⟩:=Hl.o.at_ xi
   obtain⟨Ar,S,cr,e0,B⟩:=hd.list;have K:=s.below M4;have y5:=(K.cell (p:=⟨b,off+k,none⟩) hb).trans e0;obtain⟨hh,x1⟩:=Hr.o f (zD d.o);have a:=B.length;have q:=zA ((B.below K).reads_ints);have hj:rows.take (k+1)=rows.take k++ [f]:=(by rw [zI,d.o];rfl);have v:=zA hj;clear hj e0 hd K
   by_cases h0:S=0
   ·subst h0;have M:f= []:=zS a;have E:Hid (YW (XX rows) 1 N (k+1) cur):=X.o.skip (by unfold XX;rw [zH,d.o,M];rfl);have e1:yp (rows.take (k+1))=yp (rows.take k):=(by rw [v.o,M];simp [yp]);have e2:(rows.take (k+1)).flatten=(rows.take k).flatten:=(by rw [v.o,M];simp);rw [<-e1,<-e2]at s;clear e1 e2 B a;go_wp2
    go_roundg (n - (k+1))
    ·exact⟨k+1,U,W,P,c5,Q,c6,cur,by go_num,by omega,rfl,rfl,rfl,by omega,by omega,E,s⟩
    ·omega
   ·have y0:(0:Int)<S:=(by omega);have hq:k / 8<N:=(by omega);have x2:k%8<8:=(by omega);obtain⟨y,hy⟩:∃y,cur[k / 8]? =some y:=⟨_,zB (by rw [X.o.1];exact hq)⟩;have xb:wr.cell? ⟨H,k / 8,none⟩=some (.int .u8 (y.toNat:Int)):=s.rowCell M0 (V4 hy);have h9:=s.rowFree M0 (k / 8)
    have E:=zA (X.o.step (l:=XX rows) (k:=k) (j:=0) (T:=1) (x:=1) (y:=y) hy (by
     unfold XX;rw [zH,d.o];have:f≠ []:=(by intro h;rw [h]at a;simp at a;omega);simp [this]) (by omega) (by omega) (by omega))
    have h2:=zA (M9 (y:=y.toNat) (r:=k%8) y.toNat_lt x2);have Hy:=zA hy;have H5:=zA B;have xs:S<=64:=(by rw [<-a];exact hh);have h1:=zA a;have hi:Hid (f≠ []):=(by intro h;rw [h]at a;simp at a;omega);clear hy B a hh x1;go_wp2
    go_region
    rw [h2.o];have t:=(s.rowSet (k / 8) (.int .u8 ((Zd y.toNat 1 0 1 (k%8):Nat):Int))).drew;rw [<-fX _ _ (WE (y:=y.toNat) (x:=1) (j:=0) (T:=1) (r:=k%8) y.toNat_lt (by omega))]at t;generalize (wr.setCell ⟨H,k / 8,none⟩ (.int .u8 ((Zd y.toNat 1 0 1 (k%8):Nat):Int))).drew=w4 at t⊢;have g:=t.p1;clear s t xb h9 q
    go_wp2_with (first
     |(at_builtin;refine yC Zs (.tmp 38) (.tmp 42) rfl rfl g rfl (cs:= #[.int .i64 ((S:Int) - 1)]) rfl rfl rfl (by intro u hu;simp at hu;subst hu;rfl) (by omega) (by omega) ?_;intro A8 c8 w8 y7 xn i;have q:=zA (H5.o.below (i.below M4)).reads_ints)
     |(at_builtin;refine yR Zs (.tmp 44) (.tmp 45) rfl rfl i.p2 rfl rfl q.o (Y3 _) (by omega) (by omega) ?_;intro A9 c9 w9 y8 ag J)
     |fail)
    have z:=J.p2
    have e1:ints (yp (rows.take k))++ #[Value.int .i64 ((S:Int) - 1)].toList=ints (yp (rows.take (k+1))):=by
     rw [v.o];have:=hi.o;simp [yp,this,h1.o,ints]
    have e2:ints (rows.take k).flatten++ints f=ints (rows.take (k+1)).flatten:=(by rw [v.o];simp [ints]);rw [e1,e2]at z
    go_roundg (n - (k+1))
    ·exact⟨k+1,A8,A9,P+1,c8,Q+S,c9,_,by go_num,by omega,rfl,rfl,rfl,by omega,by omega,E,z.p2.p1⟩
    ·omega
  ·obtain rfl:k=n:=by omega
   have C:rows.take k=rows:=zF (by rw [o.o];omega)
   have D:cur=Zq rows:=by
    have hg:(XX rows).length=k:=(by unfold XX;rw [zK,o.o]);have h:=X.o;have e:=YW.whole (l:=XX rows) (N:=N) (cur:=cur) (by rw [hg];exact h) (by rw [hg,HN.o]);rw [e];rfl
   rw [C,D]at s
   have hf:InL (yp rows):=by
    intro x R;unfold yp at R;obtain⟨l,L,rfl⟩:=List.mem_map.1 R;have:=(Hr.o l (List.mem_filter.1 L).1).1;omega
   have he:InL rows.flatten:=by
    intro x R;obtain⟨l,L,R⟩:=List.mem_flatten.1 R;exact(Hr.o l L).2 x R
   have hp:=zA hf;have ho:=zA he;have aa:k<=16384:=hn;have q:=zA (s.rb M0).1.reads;clear hf he C D X h8 h4 h7;go_wp2_with (at_builtin;refine yR yW (.tmp 48) (.tmp 49) rfl rfl s.p3 rfl rfl q.o (xd _) (by omega) (by omega) ?_;intro A7 c7 w5 y6 af g);have B:=g.ilen M2;have ht:=zA (Qc U P c5 (yp rows) w5 (by omega) B.2.1 B.2.2 (g.rc M2) hp.o)
   refine ht.o.mono ?_;rintro e w6 ⟨A8,m8,rfl,xn,hw⟩;have Z:=g.c1 hw;have ha:=zA (Z.rb M0).1.reads;go_wp2_with (at_builtin;refine yR yW (.tmp 51) (.tmp 53) rfl rfl Z.p1 rfl rfl ha.o (xd _) (by omega) (by omega) ?_;intro y1 y3 w7 x4 x6 I);have h6:=I.ilen M4;have hv:=zA (Qc W Q c6 rows.flatten w7 (by omega) h6.2.1 h6.2.2 (I.rc M4) ho.o);refine hv.o.mono ?_
   rintro e w8 ⟨y2,ah,rfl,x8,hz⟩;have i:=I.c1 hz;have hc:=zA (i.rb M0).1.reads;go_wp2_with (at_builtin;refine yR yW (.tmp 55) (.tmp 57) rfl rfl i.p1 rfl rfl hc.o (xd _) (by omega) (by omega) ?_;intro hm h3 w9 x5 ys J);go_ret
   refine⟨hm,_,h3,rfl,by omega,?_⟩;have h:=J.d1.d1.d1.d1.d1
   have e:bC (zP k)++bC (Zq rows)++bC (putL (yp rows))++bC (putL rows.flatten)=bC (colL rows):=by
    unfold colL;rw [o.o];simp [y9]
   rw [e]at h;exact h
structure RowT where
 A:aA
 c:Nat
 l:List aB
def RowT.v (r:RowT):V:= .slice r.A r.l.length r.c
abbrev RowT.asn (r:RowT):Asn:=TA r.A r.l.length r.c r.l
theorem zL.reads_sC {w:O} {B:Nat} {A:aA} {n c:Nat} {xs:List aB} (h:zL w (·<B) A n c xs):xA w B 1 A n (sC xs):=by
 refine⟨by unfold sC;rw [zK,h.length];omega,fun d=> ?_⟩;obtain⟨b,off,x,hA,_,e,_⟩:=h.at_ d
 refine⟨_,hA,e,fun j u a=> ?_⟩;unfold sC at a;rw [zH]at a;obtain⟨y,g,rfl⟩:=Option.map_eq_some_iff.1 a;subst hA;obtain⟨_,f⟩:=h.elem g;rw [Qq];exact f.str.1
theorem UN:Elt prog 146 129 1 24:=xt (by kernel_rfl) (by decide) (by kernel_rfl)
theorem CJ (A:aA) (n c:Nat) (rows:List (List aB)) (w:O) (P:zL w (·<w.heap.size) A n c rows) (hn:n<=16384) (X:∀r∈rows,r.length<=64):
 Calls prog 218 #[.slice A n c] w fun e w' =>∃(A' :aA) (T :Nat) (rs:List RowT),e= .returned (.tuple #[.slice A' n T,.bool true])/\rs.map RowT.l=rows.map xq/\Sp w' [RowA 129 1 (.slice A' n T) n (rs.map RowT.v),zz (rs.map RowT.asn),OldA w.heap.size w]:=by
 have q:=zA P.length;have Hl:=zA P;have Hr:=zA X;have D:=(Sp.start w).starNil;have he:(n:Int)<=16384:=by omega
 have W:min (n:Int) 16384=(n:Int):=by omega
 clear P X;go_enter func218,ntmps218;go_wp2_with (at_make;refine gG UN (.const (.int .i64 0)) (.tmp 9) rfl rfl D rfl rfl (by omega) (by omega) ?_;intro w2 Z m)
 go_loopg [4,13] n (fun gk vo vi wr=>∃(k:Nat) (Ao:aA) (co:Nat) (rs:List RowT),k<=n/\gk=n - k/\vi= .int .i64 k/\vo= .slice Ao k co/\Hid (rs.map RowT.l=(rows.take k).map xq)/\Sp wr [RowA 129 1 (.slice Ao k co) k (rs.map RowT.v),zz (rs.map RowT.asn),OldA w.heap.size w])
 case atStart=>exact⟨0,Z,n, [],zJ _,rfl,rfl,rfl,rfl,m⟩
 case round=>
  obtain⟨k,Ao,co,rs,hk,rfl,rfl,rfl,B,C⟩:=hrel;clear m
  by_cases N:k<n
  ·obtain⟨b,off,a,rfl,h,hb,s⟩:=Hl.o.at_ N
   obtain⟨Ar,j,cr,U,L⟩:=s.list;have g:=C.below M2;have ha:=(g.cell (p:=⟨b,off+k,none⟩) hb).trans U;have R:=Hr.o a (zD h.o);have t:=L.length;have Q:(j:Int)<=64:=(by omega);have S:=zA (FP Ar j cr (sC a) wr (by omega) (((L.below g).more fun x hx=>zX hx g.size).reads_sC) (pX a))
   have z:(rows.take (k+1)).map xq=(rows.take k).map xq++ [xq a]:=(by rw [zI,h.o];simp);have K:=zA z;have J:=zA t;clear z U s g L R t;go_wp2_with fail;refine S.o.mono ?_;rintro e w3 ⟨d,f,rfl,i,M⟩;have E:Sp w3 (TA d j f a::_):=C.row i M;have I:=zA (dK E (by omega));clear S;go_wp2_with fail;refine I.o.mono ?_;rintro e w4 ⟨rfl,F⟩
   have G:=F.p1;go_wp2_with (at_builtin;refine yC UN (.tmp 29) (.tmp 31) rfl rfl G rfl (cs:= #[.slice d j f]) rfl rfl rfl (by intro u Y;simp at Y;subst Y;rfl) (by omega) (by omega) ?_;intro A8 c8 w8 hc hd o);have y:(xq a).length=j:=(by rw [UY,J.o])
   have ht:TA d j f (xq a)=RowT.asn ⟨d,f,xq a⟩:=by
    show _=TA d (xq a).length f (xq a);rw [y]
   have hv: [Value.slice d j f]= [RowT.v ⟨d,f,xq a⟩]:=by
    show _= [Value.slice d (xq a).length f];rw [y]
   rw [ht,hv]at o;have H:=(o.p1.p2.p1).starPush.p1
   go_roundg (n - (k+1))
   ·exact⟨k+1,A8,c8,rs++ [⟨d,f,xq a⟩],by omega,rfl,by go_num,rfl,by show _=_;rw [K.o,zw,B.o];rfl,by simpa using H⟩
   ·omega
  ·obtain rfl:k=n:=by omega
   rw [zF (by rw [q.o];omega)]at B;go_wp2;go_ret2;exact⟨Ao,co,rs,rfl,B.o,C⟩
theorem Sp.starTexts {w:O} {L:List Asn}:∀(ds:List RowT) {css:List aF} {xs:List (List aB)},Sp w (zz (ds.map RowT.asn)::ElsA css xs::L)->(∀r∈ds,∀x∈r.l,x.size<=9223372036854775807)->Sp w (ElsA (css++ds.map fun r=> [r.v]) (xs++ds.map RowT.l)::L)
 | [],_,_,h,_=>by simpa using h.tail
 |r::ds,css,xs,h,hs=>by
  have b:=(Sp.starOut (X:=r.asn) (M:=ds.map RowT.asn) h).strs (hs r (by simp));have a:=Sp.starTexts ds (b.p2.p1.elsPush).p1 fun q c=>hs q (by simp [c]);rw [zO,zO]at a;exact a
theorem iD (a:aF):(a.map fun v=> [v]).flatten=a:=by induction a with|nil=>rfl|cons v a ih=>simp [ih]
theorem CG:(Tryz.prog.info? 57).bind (fun i=>i.zero)=some (.slice none 0 0):=by kernel_rfl
theorem D8 (n:Nat):(madeCells (Value.slice none 0 0).cells (n*1)).toList=List.replicate n (Value.slice none 0 0):=by
 simp [madeCells,Value.cells,Nat.mod_one,List.map_const']
theorem kQ (A:aA) (n c:Nat) (rows:List (List aB)) (w:O) (hl:zL w (·<w.heap.size) A n c rows) (hn:n<=16384) (R:∀r∈rows,r.length<=64/\∀x∈r,x.size<=256):
 Calls prog 165 #[.slice A n c] w fun e w' =>∃A' m c',e= .returned (.slice A' m c')/\m<=4000000000/\Sp w' [BA A' m c' (Z5 rows),OldA w.heap.size w]:=by
 have HV:=zA (CJ A n c rows w hl hn fun r h=>(R r h).1);have M:=zA hl.length;have Hr:=zA R;clear hl R;go_enter func165,ntmps165;go_wp2_with fail;refine HV.o.mono ?_;rintro e w1 ⟨A1,Y,rs,rfl,y6,G⟩;have ap:=zA y6;have T:=G.nil 9 1;clear y6 HV;go_wp2
 go_loopg [5,25] n (fun gk vt vi wr=>∃(k mt N:Nat) (L:aA) (ds ts:List RowT),k<=n/\gk=n - k/\vi= .int .i64 k/\vt= .slice L mt N/\mt<=64*k/\ds.length=k/\Hid (ds.map RowT.l=(rows.take k).map setT)/\Hid (ts.map RowT.l=(rows.drop k).map xq)/\
  Sp wr [TA L mt N ((rows.take k).map setT).flatten,RowA 129 1 (.slice A1 n Y) n ((ds++ts).map RowT.v),zz ((ds++ts).map RowT.asn),OldA w.heap.size w])
 case atStart=>exact⟨0,0,0,none, [],rs,zJ _,rfl,rfl,rfl,by omega,rfl,rfl,ap.o,T⟩
 case round=>
  obtain⟨k,mt,N,L,ds,ts,hk,rfl,rfl,rfl,be,Z,HD,HT,d⟩:=hrel;clear G T
  by_cases av:k<n
  ·obtain⟨a,i⟩:∃a,Hid (rows[k]? =some a):=⟨_,zB (by rw [M.o];exact av)⟩;obtain⟨h7,y4⟩:=Hr.o a (zD i.o)
   obtain⟨r,D,rfl,y5,ag⟩:∃r D,ts=r::D /\r.l=xq a/\Hid (D.map RowT.l=(rows.drop (k+1)).map xq):=by
    have h:=HT.o;rw [yb i.o]at h;cases ts with
    |nil=>simp at h
    |cons r D =>simp only [yH,List.cons.injEq]at h;exact⟨r,D,rfl,h.1,h.2⟩
   obtain⟨g1,rfl, -, -, -⟩:=(d.rowOf M1).at_ (by omega)
   obtain⟨g,y,lr⟩:=r;simp only at y5;subst y5;have x5:wr.cell? ⟨g1,k,none⟩=some (.slice g (xq a).length y):=d.rowCell M1 (by rw [zw,zR (by rw [zK];omega),zK,Z,yh];rfl);have I:=d.p2;rw [zw,yH]at I;have U:=I.starTake;have HC:=zA (eJ U);rw [Wt]at HC;have a1:(xq a).length<=64:=(by rw [UY];exact h7);obtain⟨sl,hv⟩:=eX ((xq a).length);rw [hv]at x5 HC a1
   clear I U;go_wp2_with fail;refine HC.o.mono ?_;rintro e w2 ⟨m,rfl,hm,F⟩;have hi:=(F.tlen M0).1
   have o:Sp w2 [RowA 129 1 (.slice (some ⟨g1,0,none⟩) n Y) n ((ds++⟨g,y,xq a⟩::D).map RowT.v),zz ((ds++⟨g,y,setT a⟩::D).map RowT.asn),TA L mt N ((rows.take k).map setT).flatten,OldA w.heap.size w]:=by
    have e:TA g m y (setT a)=RowT.asn ⟨g,y,setT a⟩:=by
     show _=TA g (setT a).length y (setT a);rw [hi]
    rw [e]at F;have h:=F.starPut;rw [<-yH,<-zw]at h;exact h.sel [2,0,1,3]
   have a9:=o.rowFree M0 k;have a7:w2.cell? ⟨g1,k,none⟩=some (.slice g sl y):=o.rowCell M0 (by rw [zw,zR (by rw [zK];omega),zK,Z,yh];show some (Value.slice g (xq a).length y)=_;rw [hv]);have B:=o.rowSet k (.slice g m y)
   have e7:((ds++(⟨g,y,xq a⟩:RowT)::D).map RowT.v).set k (.slice g m y)=(ds++(⟨g,y,setT a⟩:RowT)::D).map RowT.v:=by
    rw [zw,zw,xB _ _ (by rw [zK];omega),zK,Z,yh];simp only [yH,yw];rw [show RowT.v ⟨g,y,setT a⟩= .slice g m y by show Value.slice g (setT a).length y=_;rw [hi]]
   rw [e7]at B;have a3:(w2.setCell ⟨g1,k,none⟩ (.slice g m y)).cell? ⟨g1,k,none⟩=some (.slice g m y):=B.rowCell M0 (by rw [zw,zR (by rw [zK];omega),zK,Z,yh];show some (Value.slice g (setT a).length y)=_;rw [hi])
   have ao:Hid (xA (w2.setCell ⟨g1,k,none⟩ (.slice g m y)) (w2.setCell ⟨g1,k,none⟩ (.slice g m y)).heap.size 1 g m (sC (setT a))):=by
    have h:=B.p1;rw [zw,yH]at h;have h2:=(h.starTake.rc M0).reads;simp only [hi]at h2;exact h2
   have hg:=B.p2;have x2:Hid ((rows.take (k+1)).map setT=(rows.take k).map setT++ [setT a]):=(by show _=_;rw [zI,i.o];simp);have ae:Hid ((ds++ [(⟨g,y,setT a⟩:RowT)]).map RowT.l=(rows.take (k+1)).map setT):=(by show _=_;rw [x2.o,zw,HD.o];rfl);clear F o B e7 HT HC d
   go_wp2_with (at_builtin;refine yR Ql (.tmp 36) (.tmp 40) rfl rfl hg rfl rfl ao.o (pX _) (by omega) (by omega) ?_;intro A9 c9 w9 h5 h6 C);have e9:sC ((rows.take k).map setT).flatten++sC (setT a)=sC ((rows.take (k+1)).map setT).flatten:=(by rw [x2.o];simp [sC]);rw [e9]at C
   go_roundg (n - (k+1))
   ·exact⟨k+1,mt+m,c9,A9,ds++ [⟨g,y,setT a⟩],D,by omega,rfl,by go_num,rfl,by omega,by simp [Z],ae,ag,by simpa using C⟩
   ·omega
  ·obtain rfl:k=n:=by omega
   have a2:ts= []:=by
    have h:=HT.o;rw [zQ (by rw [M.o];omega)]at h
    simpa using h
   subst a2;rw [zF (by rw [M.o];omega)]at HD d;rw [zo]at d;obtain⟨ls,hb⟩:=eX (rows.map setT);rw [hb]at HD d;have ak:Hid (WH rows=ls):=hb
   have hf:Hid (∀l∈ls,l.length<=64/\∀x∈l,x.size<=256):=by
    intro l hl;rw [<-hb]at hl;obtain⟨r,R,rfl⟩:=List.mem_map.1 hl;exact⟨zY (Vh r) (Hr.o r R).1,fun x P=>(Hr.o r R).2 x (X9.1 P)⟩
   have x8:∀r∈ds,∀x∈r.l,x.size<=9223372036854775807:=by
    intro r R x P;have:=(hf.o r.l (by rw [<-HD.o];exact List.mem_map.2 ⟨r,R,rfl⟩)).2 x P;omega
   have G:Sp wr [DatA (.slice A1 k Y) ls,TA L mt N ls.flatten,OldA w.heap.size w]:=by
    have h:Sp wr [zz (ds.map RowT.asn),ElsA [] ([]:List (List aB)),TA L mt N ls.flatten,RowA 129 1 (.slice A1 k Y) k (ds.map RowT.v),OldA w.heap.size w]:=(d.elsNil (α:=List aB)).sel [3,0,1,2,4];have h2:=Sp.starTexts ds (css:= []) (xs:= []) h x8;rw [zZ,zZ,HD.o]at h2;have e:ds.map RowT.v=(ds.map fun r=> [r.v]).flatten:=(by rw [<-iD (ds.map RowT.v),yD];rfl);have h3:=h2.p2;rw [e]at h3
    exact h3.els
   have xn:=zA (dK G.p1 (by omega));have hs:Hid (ls.length=k):=(by show _=_;rw [<-hb,zK,M.o]);clear hb x8 d HD;go_wp2_with fail;refine xn.o.mono ?_;rintro e w2 ⟨rfl,T⟩;have hw:=zA (eJ T);rw [Wt]at hw;go_wp2_with fail;refine hw.o.mono ?_;rintro e w3 ⟨m,rfl,hm,I⟩;obtain⟨f,hc⟩:=eX (setT ls.flatten);rw [hc]at I;have hh:Hid (WD ls=f):=hc;have y8:=(I.tlen M0).1
   have X:=zA y8
   have x3:Hid (∀x∈f,x.size<=256):=by
    intro x P;rw [<-hc]at P;obtain⟨l,hl,P⟩:=List.mem_flatten.1 (X9.1 P);exact(hf.o l hl).2 x P
   have h4:Hid ((f.map zn).Pairwise (·<·)):=(by show List.Pairwise _ _;rw [<-hc];exact oP _);have U:=I.strs fun x P=>by have:=x3.o x P;omega
   have xi:=zA (ZR (c:=0) U (RB.none_ _) (x:=m) (by omega) (by omega));have bf:IntKind.u64.wrap (m:Int)=(m:Int):=(by rw [zW];omega);clear G T I xn hw hc y8;go_wp2_with fail;refine xi.o.mono ?_;rintro e w4 ⟨S,Q,rfl,aw,F⟩;rw [zZ]at F;clear U xi;obtain⟨l,ha⟩:=eX (zP m)
   have xb:Hid (Z5 rows=l++(f.flatMap XY ++colL (X6 ls))):=(by show _=_;unfold Z5;rw [ak.o,hh.o,X.o,ha]);rw [ha]at F;clear ha;go_wp2
   go_loopg [7,53] m (fun gk vb vi wq=>∃(j:Nat) (S:aA) (Q cb:Nat) (l:aC),j<=m/\gk=m - j/\vi= .int .i64 j/\vb= .slice S Q cb/\Q<=10+270*j/\Hid (Z5 rows=l++((f.drop j).flatMap XY ++colL (X6 ls)))/\Sp wq [BA S Q cb l,DatA (.slice L m N) f,DatA (.slice A1 k Y) ls,OldA w.heap.size w])
   case atStart=>exact⟨0,S,Q,Q,l,zJ _,rfl,rfl,rfl,by omega,xb.o,F⟩
   case round=>
    obtain⟨j,S,Q,cb,l,hj,rfl,rfl,rfl,aw,HB,d⟩:=hrel;clear F xb
    by_cases au:j<m
    ·obtain⟨b,off,t,rfl,Ht,_,he⟩:=(d.ls M1).at_ au
     have x6:=he.str.1;have bi:=x3.o t (zD Ht.o);have a5:¬(256:Int)<t.size:=(by omega);have af:=zA (cD (c:=0) (s:=t) d (RB.none_ _) (by omega));have ai:=zA (yb Ht.o);clear he;go_wp2_with fail;refine af.o.mono ?_;rintro e w5 ⟨A5,m5,rfl,bc,o⟩;rw [zZ]at o;have am:=zA (o.rb M0).1.reads
     go_wp2_with (at_builtin;refine yR yW (.tmp 60) (.tmp 62) rfl rfl o.p1 rfl rfl am.o (xd _) (by omega) (by omega) ?_;intro A9 c9 w9 h5 h6 C);have H:=C.d1;rw [<-y9]at H
     go_roundg (m - (j+1))
     ·exact⟨j+1,A9,Q+m5,c9,_,by omega,rfl,by go_num,rfl,by omega,by show _=_;rw [HB.o,ai.o];simp [XY],H⟩
     ·omega
    ·obtain rfl:j=m:=by omega
     have ad:Hid (Z5 rows=l++colL (X6 ls)):=(by show _=_;rw [HB.o,zQ (by rw [X.o];omega)];rfl);obtain⟨W,ar⟩:=eX (wr.heap.size);clear HB;go_wp2_with (at_make;refine Zk WY (.tmp 66) (.tmp 66) rfl rfl d ar rfl rfl (by omega) (by omega) CG ?_;intro w6 o;rw [D8]at o)
     have B:Sp w6 [RowA 57 1 (.slice (some ⟨W,0,none⟩) k k) k ([]++List.replicate (k - 0) (.slice none 0 0)),ElsA (([]:aF).map fun v=> [v]) ((ls.take 0).map (xc f)),DatA (.slice L j N) f,DatA (.slice A1 k Y) ls,BA S Q cb l,OldA w.heap.size w]:=(o.elsNil (α:=aD)).sel [1,0,3,4,2,5];clear d o
     go_loopg [70] k (fun gk vi wr=>∃(q:Nat) (E:aF),q<=k/\gk=k - q/\vi= .int .i64 q/\E.length=q/\Sp wr [RowA 57 1 (.slice (some ⟨W,0,none⟩) k k) k (E++List.replicate (k - q) (.slice none 0 0)),ElsA (E.map fun v=> [v]) ((ls.take q).map (xc f)),DatA (.slice L j N) f,DatA (.slice A1 k Y) ls,BA S Q cb l,OldA w.heap.size w])
     case atStart=>exact⟨0, [],zJ _,rfl,rfl,rfl,B⟩
     case round=>
      obtain⟨q,E,hq,rfl,rfl,h9,d⟩:=hrel;clear B
      by_cases a0:q<k
      ·obtain⟨a,i⟩:∃a,Hid (ls[q]? =some a):=⟨_,zB (by rw [hs.o];exact a0)⟩;obtain⟨b1,hd,g,nr,y,rfl,e0,y1, -, -,h0⟩:=d.p3.focus i.o;obtain⟨h7,y4⟩:=hf.o a (zD i.o);have al:=zA y1;have ax:nr<=64:=(by omega);have y7:Hid (∀t∈a,t∈f):=fun t ht=>by rw [<-hh.o];exact VV (zD i.o) ht
       obtain⟨z,hz⟩:∃z,k - q=z+1:=⟨k - q - 1,by omega⟩
       have hg:Sp wr [IA none 0 0 ((xc f a).take 0),RowA 57 1 (.slice (some ⟨W,0,none⟩) k k) k (E++ .slice none 0 0::List.replicate z (.slice none 0 0)),Z1 [.slice (some ⟨b1,hd,none⟩) k Y] ls [.slice g nr y] a,ElsA (E.map fun v=> [v]) ((ls.take q).map (xc f)),DatA (.slice L j N) f,BA S Q cb l,OldA w.heap.size w]:=by
        rw [hz]at h0;exact(h0.nil 2 1).p2.p1
       have Hz:=zA hz;clear h7 y4 y1 d h0 hz;go_wp2
       go_loopg [78] nr (fun gk vi wr=>∃(p:Nat) (J:aA) (K:Nat),p<=nr/\gk=nr - p/\vi= .int .i64 p/\Sp wr [IA J p K ((xc f a).take p),RowA 57 1 (.slice (some ⟨W,0,none⟩) k k) k (E++ .slice J p K::List.replicate z (.slice none 0 0)),Z1 [.slice (some ⟨b1,hd,none⟩) k Y] ls [.slice g nr y] a,ElsA (E.map fun v=> [v]) ((ls.take q).map (xc f)),DatA (.slice L j N) f,BA S Q cb l,OldA w.heap.size w])
       case atStart=>exact⟨0,none,0,zJ _,rfl,rfl,hg⟩
       case round=>
        obtain⟨p,J,K,hp,rfl,rfl,d⟩:=hrel;clear hg e0
        by_cases az:p<nr
        ·obtain⟨b2,a6,t,rfl,Ht, -,ys⟩:=(d.ls2 M2).at_ az
         have x6:=ys.str.1;have aa:=y7.o t (zD Ht.o);have x1:=zA (MH L j N f t wr (d.ls M4) (by omega) h4.o);have ab:(E++Value.slice J p K::List.replicate z (.slice none 0 0))[q]? =some (.slice J p K):=(by rw [zR (by omega),h9,yh];rfl);have x4:=zA ab;have aq:=zA aa;clear ys ab aa;go_wp2_with fail;refine x1.o.mono ?_;rintro e w7 ⟨kk,bb,rfl,h8,q7,rfl⟩
         have hy:=d.drewN q7;have a8:(wr.drewN q7).cell? ⟨W,q,none⟩=some (.slice J p K):=hy.rowCell M1 x4.o;have ba:kk<=j:=(by have:=h8.1;rw [X.o]at this;exact this);have y0:=NF h4.o (h8.get h4.o aq.o);have aj:=zA y0;have a4 :(q:Int)<k:=(by omega);clear h8 y0 d x1 x6
         go_wp2_with (at_builtin;refine yC Zs (.tmp 93) (.tmp 95) rfl rfl hy rfl (cs:= #[.int .i64 (kk:Int)]) rfl rfl rfl (by intro u hu;simp at hu;subst hu;rfl) (by omega) (by omega) ?_;intro A9 c9 w9 h5 h6 C;have bg:w9.cell? ⟨W,q,none⟩=some (.slice J p K):=C.rowCell M1 x4.o;have bh:=C.rowFree M1 q);have H:=(C.p1.rowSet q (.slice A9 (p+1) c9)).p1
         have e1:(E++Value.slice J p K::List.replicate z (.slice none 0 0)).set q (.slice A9 (p+1) c9)=E++Value.slice A9 (p+1) c9::List.replicate z (.slice none 0 0):=by
          rw [xB _ _ (by omega),h9,yh];rfl
         have e2:ints ((xc f a).take p)++ #[Value.int .i64 (kk:Int)].toList=ints ((xc f a).take (p+1)):=by
          rw [zI];have:(xc f a)[p]? =some (kk:Int):=(by unfold xc;rw [zH,Ht.o,yk,aj.o]);rw [this];simp [ints]
         rw [e1,e2]at H;clear e1 e2 C hy
         go_roundg (nr - (p+1))
         ·exact⟨p+1,A9,c9,by omega,rfl,by go_num,H⟩
         ·omega
        ·obtain rfl:p=nr:=by omega
         have ay:(xc f a).length=p:=(by unfold xc;rw [zK,al.o]);rw [zF (by omega)]at d
         have y3:∀x∈xc f a,In64 x:=by
          intro x P;obtain⟨t,ht,rfl⟩:=List.mem_map.1 P;have:=cP (y7.o t ht);rw [X.o]at this;unfold In64;omega
         have h1:=(d.ints y3).p3.p1.elsPush;have e1:(E.map fun v=> [v])++ [[Value.slice J p K]]=(E++ [Value.slice J p K]).map fun v=> [v]:=(by simp);have e2:(ls.take q).map (xc f)++ [xc f a]=(ls.take (q+1)).map (xc f):=(by rw [zI,i.o];simp)
         have e3:E++Value.slice J p K::List.replicate z (.slice none 0 0)=(E++ [Value.slice J p K])++List.replicate (k - (q+1)) (.slice none 0 0):=by
          have:=Hz.o;rw [show k - (q+1)=z by omega];simp
         rw [e1,e2,e3]at h1;have h3:Sp wr [RowA 57 1 (.slice (some ⟨W,0,none⟩) k k) k (E++ [Value.slice J p K]++List.replicate (k - (q+1)) (.slice none 0 0)),ElsA ((E++ [Value.slice J p K]).map fun v=> [v]) ((ls.take (q+1)).map (xc f)),DatA (.slice L j N) f,DatA (.slice (some ⟨b1,hd,none⟩) k Y) ls,BA S Q cb l,OldA w.heap.size w]:=h1.p2.unfocus.sel [2,1,3,0,4,5]
         clear d ay y3 h1 e1 e2 e3;go_wp2
         go_roundg (k - (q+1))
         ·exact⟨q+1,E++ [Value.slice J p K],by omega,rfl,by go_num,by simp [h9],h3⟩
         ·omega
      ·obtain rfl:q=k:=by omega
       rw [zF (by rw [hs.o];omega),yh,List.replicate_zero,zo]at d;have ho:(ls.map (xc f))=X6 ls:=(by unfold X6;rw [hh.o]);rw [ho]at d
       have G:Sp wr [DatA (.slice (some ⟨W,0,none⟩) q q) (X6 ls),DatA (.slice L j N) f,DatA (.slice A1 q Y) ls,BA S Q cb l,OldA w.heap.size w]:=by
        have e:RowA 57 1 (.slice (some ⟨W,0,none⟩) q q) q E=RowA 57 (Rep.size aD) (.slice (some ⟨W,0,none⟩) q q) q (E.map fun v=> [v]).flatten:=(by rw [iD];rfl);rw [e]at d;exact d.els
       have y2:∀r∈X6 ls,r.length<=64/\InL r:=by
        intro r R;refine⟨?_,fun x P=> ?_⟩
        ·unfold X6 at R;obtain⟨l0,ha,rfl⟩:=List.mem_map.1 R;unfold xc;rw [zK];exact(hf.o l0 ha).1
        ·have:=oV R x P;have h2:=X.o;rw [hh.o]at this;omega
       have HF:=zA (kM (some ⟨W,0,none⟩) q q (X6 ls) wr (G.ls M0) hn y2);clear d y2 ho;go_wp2_with fail;refine HF.o.mono ?_;rintro e w7 ⟨A7,m7,c7,rfl,bd,ah⟩;have B:=G.c1 ah;have an:=zA (B.rb M0).1.reads;go_wp2_with (at_builtin;refine yR yW (.tmp 100) (.tmp 102) rfl rfl B.p4 rfl rfl an.o (xd _) (by omega) (by omega) ?_;intro A9 c9 w9 h5 h6 C);go_ret
       refine⟨A9,_,c9,rfl,by omega,?_⟩;have h:=C.d1.d1.d1.d1;rw [<-y9,<-ad.o]at h;exact h
open Go.RowKit Go.Maps Go.Shelf
theorem EK (a:Option Nat) (w:O):Calls prog 116 #[.map a] w fun e w' =>e= .returned (.func (.func 196) #[] #[.pointer (some ⟨w.heap.size,0,none⟩)])/\w' =w.alloc (.cells #[.map a] 144):=
 (callsIn_wide (n:=5)).1 (AnyZ.keys_in Tryz.keysS Fence.wide 5 trivial rfl a w)
theorem EL (a:Option Nat) (w:O):Calls prog 118 #[.map a] w fun e w' =>e= .returned (.func (.func 199) #[] #[.pointer (some ⟨w.heap.size,0,none⟩)])/\w' =w.alloc (.cells #[.map a] 219):=
 (callsIn_wide (n:=5)).1 (AnyZI.keys_in Tryz.keysI Fence.wide 5 trivial rfl a w)
theorem MQ (m:Nat):AnyZ.SortsIn prog Tryz.sortedS_ren Fence.wide m:=
 ⟨fun c off cap f W e a d=>callsIn_wide.2 (Tryz.slices_Sort_string c off cap f W e a d),fun p cap W=>callsIn_wide.2 (Tryz.slices_Sort_string_none p cap W)⟩
theorem MR (m:Nat):AnyZI.SortsIn prog Tryz.sortedI_ren Fence.wide m:=
 ⟨fun c off cap f W e a d=>callsIn_wide.2 (Tryz.slices_Sort_int c off cap f W e a d),fun p cap W=>callsIn_wide.2 (Tryz.slices_Sort_int_none p cap W)⟩
theorem Vc:Keyed prog 9:=string_keyed underlying9
theorem UD:Keyed prog 3:=int_keyed underlying3
theorem keyS (s:aB) (a:s.size<=9223372036854775807):Go.keyOf prog 9 (.string s)=some (.string s.data.toList):=Go.WideMaps.keyOf_string_mk underlying9 (by unfold maxLen;omega)
theorem O3 (n:Int) (a:In64 n):Go.keyOf prog 3 (.int .i64 n)=some (.int .i64 n):=keyOf_int_mk underlying3 (WalkArith.wf_i64 (by unfold In64 at a;omega))
section
variable {w:O} {L:List Asn} {b Bm:Nat} {l:List (V×V)}
theorem tX {ts:List aB} (h:Sp w L) (N:MapA prog 9 b l∈L) (G:l.map (·.1)=ts.map Value.string) (hB:w.cell? ⟨Bm,0,none⟩=some (.map (some b))) (u:Bm<w.heap.size) (P:ts.length<=10000000000):
 Calls prog 115 #[.func (.func 196) #[] #[.pointer (some ⟨Bm,0,none⟩)]] w fun e w' =>∃A c,e= .returned (.slice A ts.length c)/\Sp w' (SA A ts.length c (xq ts)::L):=by
 obtain⟨es,clock,M,F,E⟩:=h.mapOf N
 have hlen:es.toList.length=ts.length:=by
  have:=congrArg List.length G;rw [<-E]at this
  simpa using this
 obtain⟨D,B⟩:=eX (DataW.map ((es.toList.map (Go.WideElems.rg prog 9 R0)).foldr DataW.insert []))
 have r:Maps.size D=ts.length:=by
  rw [<-B];show((es.toList.map (Go.WideElems.rg prog 9 R0)).foldr DataW.insert []).length=_;rw [(Go.WideShapes.sorted_perm _).length_eq];simpa using hlen
 have o:w.ownsMap prog 9 R0 b ts.length D:=⟨es,clock,M,F,by rw [<-Array.length_toList,hlen];exact zC _,B.symm⟩;have q:=AnyZ.keys_gives (ρ:=Tryz.keysS_ren) {Tryz.keysS with} Fence.wide 2 trivial rfl (by omega) Bm b ts.length D w u hB o
 have J:=AnyZ.sorted_in Tryz.sortedS Fence.wide 5 trivial trivial trivial trivial rfl (by omega) (MQ _) (enters_of func192 (by kernel_rfl) rfl) 196 #[.pointer (some ⟨Bm,0,none⟩)] trivial (enters_of func196 (by kernel_rfl) rfl) _ (Maps.size D) (by rw [r];unfold maxLen;omega) (by rw [r];omega) w q;refine((callsIn_wide (n:=5)).1 J).mono ?_;rintro e w' ⟨v,s,rfl,K,f,H,k⟩
 have d:s.Perm (ts.map zn):=by
  refine K.trans ?_;rw [<-B];show(((es.toList.map (Go.WideElems.rg prog 9 R0)).foldr DataW.insert []).map fun p=>Go.strOf p.1).Perm _;refine((Go.WideShapes.sorted_perm _).map _).trans ?_;rw [yD]
  have:es.toList.map ((fun p=>Go.strOf p.1) ∘ Go.WideElems.rg prog 9 R0)=ts.map zn:=by
   have t:es.toList.map (fun e=>e.key)=ts.map Value.string:=by rw [<-G,<-E,yD];rfl
   apply yX
   intro i;rw [zH,zH];have j:=congrArg (·[i]?) t;simp only [zH]at j;rcases hx:es.toList[i]? with _|x<;>rcases hy:ts[i]? with _|y<;>rw [hx,hy]at j<;>simp at j⊢
   obtain⟨z,I⟩:=F.reads x (zD hx);rw [Go.WideElems.rg_of I];have C:=Go.WideElems.rd_key I;rw [j]at C;simp [Go.keyOf,mapKey,underlying9]at C;rw [<-C.2];rfl
  rw [this]
 have m:s.length=ts.length:=by simpa using d.length_eq
 obtain⟨A,c,rfl⟩:=U7 f
 have g:(s.mergeSort fun x y=>decide (x<=y)).map encStr=sC (xq ts):=by
  have:s.mergeSort (fun x y=>decide (x<=y))=X0 (ts.map zn):=by
   show X0 s=_;exact((List.mergeSort_perm _ _).trans (d.trans (List.mergeSort_perm _ _).symm)).eq_of_pairwise (fun a b _ _ t j=>List.le_antisymm t j) (dL _) (dL _)
  rw [this];simp [sC,xq,WC,encStr]
 rw [g,m]at f;exact⟨A,c,by rw [m],h.row (Yd f) k⟩
theorem tY {ts:aD} (h:Sp w L) (P:MapA prog 3 b l∈L) (G:l.map (·.1)=ts.map (Value.int .i64)) (hB:w.cell? ⟨Bm,0,none⟩=some (.map (some b))) (u:Bm<w.heap.size) (Q:ts.length<=10000000000):
 Calls prog 117 #[.func (.func 199) #[] #[.pointer (some ⟨Bm,0,none⟩)]] w fun e w' =>∃A c,e= .returned (.slice A ts.length c)/\Sp w' (NA A ts.length c (xP ts)::L):=by
 obtain⟨es,clock,N,F,E⟩:=h.mapOf P
 have hlen:es.toList.length=ts.length:=by
  have:=congrArg List.length G;rw [<-E]at this
  simpa using this
 obtain⟨D,B⟩:=eX (DataW.map ((es.toList.map (Go.WideElems.rg prog 3 R0)).foldr DataW.insert []))
 have r:Maps.size D=ts.length:=by
  rw [<-B];show((es.toList.map (Go.WideElems.rg prog 3 R0)).foldr DataW.insert []).length=_;rw [(Go.WideShapes.sorted_perm _).length_eq];simpa using hlen
 have o:w.ownsMap prog 3 R0 b ts.length D:=⟨es,clock,N,F,by rw [<-Array.length_toList,hlen];exact zC _,B.symm⟩;have q:=AnyZI.keys_gives (ρ:=Tryz.keysI_ren) {Tryz.keysI with} Fence.wide 2 trivial rfl (by omega) Bm b ts.length D w u hB o
 have K:=AnyZI.sorted_in Tryz.sortedI Fence.wide 5 trivial trivial trivial trivial rfl (by omega) (MR _) (enters_of func198 (by kernel_rfl) rfl) 199 #[.pointer (some ⟨Bm,0,none⟩)] trivial (enters_of func199 (by kernel_rfl) rfl) _ (Maps.size D) (by rw [r];unfold maxLen;omega) (by rw [r];omega) w q;refine((callsIn_wide (n:=5)).1 K).mono ?_;rintro e w' ⟨v,s,rfl,M,f,H,k⟩
 have d:s.Perm (ts):=by
  refine M.trans ?_;rw [<-B];show(((es.toList.map (Go.WideElems.rg prog 3 R0)).foldr DataW.insert []).map fun p=>Go.intOf p.1).Perm _;refine((Go.WideShapes.sorted_perm _).map _).trans ?_;rw [yD]
  have:es.toList.map ((fun p=>Go.intOf p.1) ∘ Go.WideElems.rg prog 3 R0)=ts:=by
   have t:es.toList.map (fun e=>e.key)=ts.map (Value.int .i64):=by rw [<-G,<-E,yD];rfl
   apply yX
   intro i;rw [zH];have j:=congrArg (·[i]?) t;simp only [zH]at j;rcases hx:es.toList[i]? with _|x<;>rcases hy:ts[i]? with _|y<;>rw [hx,hy]at j<;>simp at j⊢
   obtain⟨z,I⟩:=F.reads x (zD hx);rw [Go.WideElems.rg_of I];have C:=Go.WideElems.rd_key I;rw [j]at C;simp [Go.keyOf,mapKey,underlying3]at C;rw [<-C.2];rfl
  rw [this]
 have m:s.length=ts.length:=by simpa using d.length_eq
 obtain⟨A,c,rfl⟩:=U7 f
 have g:(s.mergeSort fun x y=>decide (x<=y)).map encZ=ints (xP ts):=by
  have J:∀l:aD,(xP l).Pairwise (fun a b=>a<=b):=fun l=>by
   have:=List.pairwise_mergeSort (le:=fun x y:Int=>decide (x<=y)) (by simp;omega) (by simp;omega) l
   simpa [xP]using this
  have:s.mergeSort (fun x y=>decide (x<=y))=xP ts:=((List.mergeSort_perm _ _).trans (d.trans (List.mergeSort_perm _ _).symm)).eq_of_pairwise (fun a b _ _ t j=>Int.le_antisymm t j) (J s) (J ts);rw [this];rfl
 rw [g,m]at f;exact⟨A,c,by rw [m],h.row (Yd f) k⟩
end
section
variable {κ ν:Type} [DecidableEq κ]
def upd (k:κ) (f:Option ν->ν):List (κ×ν)->List (κ×ν)
 | []=> [(k,f none)]
 |p::l=>if p.1=k then(k,f (some p.2))::l else p::upd k f l
def Xa (l:List (κ×ν)) (k:κ):Option ν:=(l.find? fun p=>decide (p.1=k)).map (·.2)
theorem QG (k:κ) (f:Option ν->ν) (p:κ×ν) (l:List (κ×ν)):upd k f (p::l)=if p.1=k then(k,f (some p.2))::l else p::upd k f l:=rfl
theorem cH {k:κ} {f:Option ν->ν}:∀{l:List (κ×ν)},(∀p∈l,p.1≠k)->upd k f l=l++ [(k,f none)]
 | [],_=>rfl
 |p::l,h=>by
  unfold upd;rw [if_neg (h p (by simp)),cH fun q a=>h q (by simp [a])];rfl
theorem V9 {k:κ} {f:Option ν->ν}:∀{l:List (κ×ν)} {j:Nat} {v:ν},(l.map (·.1)).Nodup->l[j]? =some (k,v)->upd k f l=l.set j (k,f (some v))
 | [],j,v,_,h=>by simp at h
 |p::l,0,v,_,h=>by
  simp at h;subst h;simp [upd]
 |p::l,j+1,v,hn,h=>by
  rw [yH,List.nodup_cons]at hn;have a :l[j]? =some (k,v):=(by simpa using h);unfold upd;rw [if_neg fun e=>hn.1 (by rw [e];exact List.mem_map.2 ⟨_,zD a,rfl⟩),V9 hn.2 a];rfl
theorem UW {k:κ} {f:Option ν->ν}:∀{l:List (κ×ν)},(l.map (·.1)).Nodup->((upd k f l).map (·.1)).Nodup
 | [],_=>by simp [upd]
 |p::l,h=>by
  rw [yH,List.nodup_cons]at h;unfold upd
  split
  ·rename_i e;rw [yH,List.nodup_cons];exact⟨by rw [<-e];exact h.1,h.2⟩
  ·rename_i e;rw [yH,List.nodup_cons];refine⟨fun d=> ?_,UW h.2⟩;obtain⟨q,g,c⟩:=List.mem_map.1 d
   have:∀{l:List (κ×ν)},q∈upd k f l->q.1=k\/q∈l:=by
    intro l
    induction l with
    |nil=>intro h;simp [upd]at h;exact .inl (by rw [h])
    |cons a l ih=>
     intro h;unfold upd at h
     split at h
     ·rcases yx.1 h with rfl|h
      ·exact .inl rfl
      ·exact .inr (by simp [h])
     ·rcases yx.1 h with rfl|h
      ·exact .inr (by simp)
      ·rcases ih h with h|h
       ·exact .inl h
       ·exact .inr (by simp [h])
   rcases this g with b |b
   ·exact e (c▸b)
   ·exact h.1 (c▸List.mem_map.2 ⟨q,b,rfl⟩)
theorem KP {k:κ} {f g:Option ν->ν} {l:List (κ×ν)} {j:Nat} {v:ν} (d:(l.map (·.1)).Nodup) (c:(upd k g l)[j]? =some (k,v)) (a:∀o,f o=f (some (g o))):upd k f l=(upd k g l).set j (k,f (some v)):=by
 have b:=V9 (f:=f) (UW (f:=g) d) c;rw [<-b];clear b c d
 induction l with
 |nil=>simp [upd];exact a none
 |cons p l ih=>
  rw [QG,QG]
  by_cases e:p.1=k
  ·rw [if_pos e,if_pos e,QG,if_pos rfl,a]
  ·rw [if_neg e,if_neg e,QG,if_neg e,ih]
end
abbrev Wc:=List (Int×aD)
abbrev xo:=List (aB×Wc)
def OJ (ds:Wc) (d p:Int):Wc:=upd d (fun q=>q.getD []++ [p]) ds
def addT (td:xo) (t:aB) (d p:Int):xo:=upd t (fun o=>OJ (o.getD []) d p) td
def Zo (ds:Wc):List PostD:=(xP (ds.map (·.1))).map fun d=>⟨d,(Xa ds d).getD []⟩
def Zl (td:xo):List aB:=xq (td.map (·.1))
def Y2 (td:xo):List (List PostD):=(Zl td).map fun t=>Zo ((Xa td t).getD [])
def Ya (n:Nat) (td:xo):Prop:=td.length<=n/\∀p∈td,p.2.length<=n/\∀q∈p.2,q.2.length<=n
structure DR where
 doc:Int
 A:aA
 c:Nat
 l:aD
def DR.kv (d:DR):V×V:=(.int .i64 d.doc,.slice d.A d.l.length d.c)
def DR.asn (d:DR):Asn:=NA d.A d.l.length d.c d.l
def DR.pl (d:DR):Int×aD:=(d.doc,d.l)
structure TR where
 term:aB
 b:Nat
 docs:List DR
def qO (b:Nat) (ds:List DR):List Asn:=MapA prog 3 b (ds.map DR.kv)::ds.map DR.asn
def TR.kv (r:TR):V×V:=(.string r.term,.map (some r.b))
def TR.asn (r:TR):Asn:=zz (qO r.b r.docs)
def TR.pl (r:TR):aB×Wc:=(r.term,r.docs.map DR.pl)
def YR (T:Nat) (td:xo):Asn:=ExA fun rs:{rs:List TR // rs.map TR.pl=td}=>zz (MapA prog 9 T (rs.1.map TR.kv)::rs.1.map TR.asn)
section
variable {w:O} {L:List Asn} {T:Nat} {td:xo}
theorem Sp.termsOut (h:Sp w (YR T td::L)):∃rs:List TR,rs.map TR.pl=td/\Sp w (MapA prog 9 T (rs.map TR.kv)::zz (rs.map TR.asn)::L):=by
 obtain⟨rs,h⟩:=h.exOut;exact⟨rs.1,rs.2,h.starOut⟩
theorem Sp.termsIn {rs:List TR} (a:rs.map TR.pl=td) (h:Sp w (MapA prog 9 T (rs.map TR.kv)::zz (rs.map TR.asn)::L)):Sp w (YR T td::L):=
 Sp.exIn (f:=fun rs:{rs:List TR // rs.map TR.pl=td}=>zz (MapA prog 9 T (rs.1.map TR.kv)::rs.1.map TR.asn)) ⟨rs,a⟩ h.starIn
theorem Sp.starSet {M:List Asn} {X' :Asn} {k:Nat} (h:Sp w (X' ::zz (M.eraseIdx k)::L)) (c:k<M.length):Sp w (zz (M.set k X')::L):=by
 have a:(M.set k X')[k]? =some X' :=by rw [List.getElem?_set_self c]
 have b:(M.set k X').eraseIdx k=M.eraseIdx k:=by rw [List.eraseIdx_set_eq]
 rw [<-b]at h;exact h.starBack a
end
end Go.Proofs.YtjbhbfaeielbiaaGreatDoor

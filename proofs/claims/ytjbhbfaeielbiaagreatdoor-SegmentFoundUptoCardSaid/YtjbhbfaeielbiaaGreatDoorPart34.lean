import Derived.Test.YtjbhbfaeielbiaaGreatDoorPart30
import Derived.Test.YtjbhbfaeielbiaaGreatDoorPart33
set_option maxRecDepth 100000
set_option maxHeartbeats 8000000
set_option linter.unusedVariables false
set_option linter.unusedSimpArgs false
namespace Go.Proofs.YtjbhbfaeielbiaaGreatDoor
open Go.Proofs.Tryz
open Rep (rep)
open Go.RowKit Go.Maps
attribute [local go_sem ↓] zU zV
theorem LU (x:Option Nat) (w:O):(binOp .eql 219 (.map x) (.map none)).run prog w= .ok (.bool x.isNone) w:=by
 cases x<;>kernel_rfl
theorem TR.kv_inj {rs:List TR} {j:Nat} {t:aB} {v:V} (h:(rs.map TR.kv)[j]? =some (.string t,v)):∃r,rs[j]? =some r/\r.term=t/\v= .map (some r.b):=by
 rw [zH]at h;rcases hr:rs[j]? with _|r
 ·rw [hr]at h;cases h
 ·rw [hr]at h;simp only [yk,TR.kv,Option.some.injEq,Prod.mk.injEq,Value.string.injEq]at h;exact⟨r,rfl,h.1,h.2.symm⟩
theorem DR.kv_inj {ds:List DR} {j:Nat} {d:Int} {v:V} (h:(ds.map DR.kv)[j]? =some (.int .i64 d,v)):∃r,ds[j]? =some r/\r.doc=d/\v= .slice r.A r.l.length r.c:=by
 rw [zH]at h;rcases hr:ds[j]? with _|r
 ·rw [hr]at h;cases h
 ·rw [hr]at h;simp only [yk,DR.kv,Option.some.injEq,Prod.mk.injEq,Value.int.injEq,true_and]at h;exact⟨r,rfl,h.1,h.2.symm⟩
section
variable {P:Program} {k t e:TypeId} {b:Nat} {l:List (V×V)} {w:O} {L:List Asn}
theorem Sp.mapAt (K:Keyed P k) (s:P.underlying t=some (.map k e)) {z:V} (u:∀w,(zeroValue e).run P w= .ok z w) (h:Sp w L) (i:MapA P k b l∈L) {a v:V} {x:Lit} (d:Go.keyOf P k a=some x) {j:Nat} (f:l[j]? =some (a,v)):
 (Instr.lookup t (.map (some b)) a false).run P w= .ok v w:=by
 rcases h.mapLook K s (u w) i d with⟨_,c⟩|⟨m,v',q,c⟩
 ·exact absurd rfl (c _ (zD f))
 ·have r:=h.mapDistinct i
  have g:j=m :=by
   have n:(l.map (·.1))[j]? =some a:=(by rw [zH,f];rfl);have o:(l.map (·.1))[m]? =some a:=(by rw [zH,c];rfl);obtain⟨y,p⟩:=List.getElem?_eq_some_iff.1 n;obtain⟨A,c2⟩:=List.getElem?_eq_some_iff.1 o;exact(List.getElem_inj r).1 (p.trans c2.symm)
  subst g;rw [f]at c;cases c;exact q
theorem Sp.mapNo (K:Keyed P k) (j:P.underlying t=some (.map k e)) {z:V} (m:∀w,(zeroValue e).run P w= .ok z w) (h:Sp w L) (i:MapA P k b l∈L) {a:V} {n:Lit} (c:Go.keyOf P k a=some n) (g:∀p∈l,p.1≠a):
 (Instr.lookup t (.map (some b)) a false).run P w= .ok z w:=by
 rcases h.mapLook K j (m w) i c with⟨d,_⟩|⟨o,v',_,f⟩
 ·exact d
 ·exact absurd rfl (g _ (zD f))
end
theorem US (w:O):(zeroValue 219).run prog w= .ok (.map none) w:=by kernel_rfl
theorem UT (w:O):(zeroValue 55).run prog w= .ok (.slice none 0 0) w:=by kernel_rfl
theorem gJ {w:O} {L:List Asn} {T:Nat} {rs:List TR} (h:Sp w L) (c:MapA prog 9 T (rs.map TR.kv)∈L):(rs.map TR.term).Nodup:=by
 have:=h.mapDistinct c;rw [yD]at this;have a:rs.map ((·.1) ∘ TR.kv)=(rs.map TR.term).map Value.string:=by rw [yD];rfl
 rw [a]at this;exact(List.pairwise_map.1 this).imp fun h e=>h (by rw [e])
theorem rN {α:Type} {l:List α} {i:Nat} {x:α} (h:l[i]? =some x):l.set i x=l:=by
 apply yX
 intro j;rw [xO]
 by_cases a:i=j
 ·subst a;rw [if_pos rfl,if_pos (zN h),h]
 ·rw [if_neg a]
theorem oK {W:O} {L:List Asn} {T b j:Nat} {td:xo} {t:aB} {d p:Int} {rs:List TR} {ds ds' :List DR} (c:(td.map (·.1)).Nodup) (a:rs[j]? =some ⟨t,b,ds⟩) (g:rs.map TR.pl=upd t (fun o=>o.getD []) td) (u:ds'.map DR.pl=OJ (ds.map DR.pl) d p)
 (h:Sp W (MapA prog 3 b (ds'.map DR.kv)::zz (ds'.map DR.asn)::MapA prog 9 T (rs.map TR.kv)::zz ((rs.map TR.asn).eraseIdx j)::L)):Sp W (YR T (addT td t d p)::L):=by
 have r:=Sp.selT [_,_,_] (h.starIn) [0,2,1];have i:=Sp.starSet (X' :=TR.asn ⟨t,b,ds'⟩) r (by rw [zK];exact zN a);have n:(rs.map TR.asn).set j (TR.asn ⟨t,b,ds'⟩)=(rs.set j ⟨t,b,ds'⟩).map TR.asn:=by rw [List.map_set]
 have q:rs.map TR.kv=(rs.set j ⟨t,b,ds'⟩).map TR.kv:=by
  rw [List.map_set];exact(rN (by rw [zH,a];rfl)).symm
 rw [n]at i;have m:=i.p1;rw [q]at m;refine m.termsIn ?_;rw [List.map_set,g];have s:(upd t (fun o:Option Wc=>o.getD []) td)[j]? =some (t,ds.map DR.pl):=by rw [<-g,zH,a];rfl
 unfold addT;rw [KP (f:=fun o=>OJ (o.getD []) d p) c s (fun o=>rfl)]
 congr 1
 show(t,ds'.map DR.pl)=_;rw [u];rfl
theorem pS {G T N:Nat} {gs:aG} {td:xo} {w:O} {L:List Asn} (t:aB) (d p:Int) (hd:In64 d) (ht:t.size<=1000000000) (hN:Ya N td) (ai:N<=10000000000)
 (HS:Sp w (YR T td::BlkA G 152 gs::L)) (hg:gs[8]? =some (.map (some T))):
 Calls prog 191 #[.pointer (some ⟨G,0,none⟩),.string t,.int .i64 d,.int .i64 p] w fun e w' =>e= .returned (.tuple #[])/\Sp w' (YR T (addT td t d p)::BlkA G 152 gs::L):=by
 obtain⟨rs,Q,z⟩:=HS.termsOut;have hy:=zA (keyS t (by omega));have hw:=zA (O3 d hd);have c8:w.cell? ⟨G,8,none⟩=some (.map (some T)):=(z.cell M2 8).trans hg;have xi:=fun x W=>LU x W
 have U:(td.map (·.1)).Nodup:=by
  have J:td.map (·.1)=rs.map TR.term:=(by rw [<-Q,yD];rfl);rw [J];exact gJ z M0
 have Hg:=zA hg;have I:=zA Q;have HN:=zA hN;have m:=zA U;have an:rs.length<=N:=by have:=hN.1;rw [<-Q]at this;simpa using this
 clear HS hg Q hN U hd
 obtain⟨x,hl,hx⟩:∃x:Option Nat,(Instr.lookup 144 (.map (some T)) (.string t) false).run prog w= .ok (.map x) w/\((x=none/\∀p∈rs.map TR.kv,p.1≠ .string t)\/∃(j:Nat) (r:TR),rs[j]? =some r/\r.term=t/\x=some r.b):=by
  rcases z.mapLook Vc underlying144 (US w) M0 hy.o with⟨hl,a⟩|⟨j,v,hl,hj⟩
  ·exact⟨none,hl,.inl ⟨rfl,a⟩⟩
  ·obtain⟨r,g,y7,rfl⟩:=TR.kv_inj hj;exact⟨some r.b,hl,.inr ⟨j,r,g,y7,rfl⟩⟩
 have Hx:=zA hx;clear hx;go_enter func191,ntmps191
 go_upto_if 14 with fail
 clear hl
 go_cut []from 15 to 20 (fun W=>∃(f :List TR) (j b:Nat) (ds:List DR),f[j]? =some ⟨t,b,ds⟩/\f.map TR.pl=upd t (fun o=>o.getD []) td/\Sp W (MapA prog 3 b (ds.map DR.kv)::zz (ds.map DR.asn)::MapA prog 9 T (f.map TR.kv)::zz ((f.map TR.asn).eraseIdx j)::BlkA G 152 gs::L))
 case first=>
  rcases Hx.o with⟨rfl,a⟩|⟨j,r,g,rfl,rfl⟩
  ·obtain⟨Bn,ys⟩:=eX (w.heap.size);have B:=(z.mapNew (P:=prog) (k:=3) ys).p1;obtain⟨w2,l',xb,y2,x6⟩:=B.mapPut Vc underlying144 (by rw [zK];unfold maxLen;omega) (.map (some Bn)) hy.o;have am:=fun w=>run_makeMap (P:=prog) 219 w;have ah:∀o,(w.alloc o).cell? ⟨G,8,none⟩=some (.map (some T)):=fun o=>ON c8 o;go_wp2
   go_meet
   rcases y2 with⟨_,rfl⟩|⟨j,v,hj,_⟩
   ·refine⟨rs++ [⟨t,Bn, []⟩],rs.length,Bn, [],by simp,?_,?_⟩
    ·rw [zw,I.o,cH]
     ·rfl
     ·intro q y e;rw [<-I.o]at y;obtain⟨r,g,rfl⟩:=List.mem_map.1 y;exact a _ (List.mem_map.2 ⟨r,g,rfl⟩) (by show Value.string r.term=_;rw [show r.term=t from e])
    ·have e1:((rs++ [(⟨t,Bn, []⟩:TR)]).map TR.asn).eraseIdx rs.length=rs.map TR.asn:=by
      rw [zw,List.eraseIdx_append_of_length_le (by simp)];simp
     rw [e1,zw];exact Sp.selT [_,_,_,_] x6.starNil [2,0,1,3]
   ·exact absurd rfl (a _ (zD hj))
  ·go_wp2
   go_meet
   have hv:(rs.map TR.asn)[j]? =some r.asn:=(by rw [zH,g];rfl);have x8:=((z.p1.starAt hv).starOut (X:=MapA prog 3 r.b (r.docs.map DR.kv)) (M:=r.docs.map DR.asn));refine⟨rs,j,r.b,r.docs,g,?_,Sp.selT [_,_,_,_] x8 [0,1,3,2]⟩;have s:td[j]? =some (r.term,r.docs.map DR.pl):=(by rw [<-I.o,zH,g];rfl);rw [I.o,V9 m.o s]
   apply yX
   intro i;rw [xO]
   by_cases Z:j=i
   ·subst Z;rw [if_pos rfl,if_pos (zN s),s];rfl
   ·rw [if_neg Z]
 case rest=>
  obtain⟨f,j,b,ds,K,hz,B⟩:=hcut;have x5 :=HN;clear HN Hx z c8 xi;have he:=zA hz;have hf:=zA K
  have h8:ds.length<=N/\∀r∈ds,r.l.length<=N:=by
   have s:(upd t (fun o:Option Wc=>o.getD []) td)[j]? =some (t,ds.map DR.pl):=(by rw [<-hz,zH,K];rfl)
   have J:(t,ds.map DR.pl)∈td\/ds= []:=by
    by_cases a:∀q∈td,q.1≠t
    ·rw [cH a]at s;rcases zk j td.length with hj|hj
     ·rw [z9 hj]at s;exact .inl (zD s)
     ·rw [zR hj]at s;have:=zN s;simp at this;rw [show j - td.length=0 by omega]at s;simp at s;exact .inr s
    ·obtain⟨q,y,x1⟩:∃q∈td,q.1=t:=by
      by_cases hh:∃q∈td,q.1=t
      ·exact hh
      ·exact absurd (fun q y e=>hh ⟨q,y,e⟩) a
     obtain⟨i,Z⟩:=z8 y;have hs:td[i]? =some (t,q.2):=(by rw [Z,<-x1]);rw [V9 m.o hs]at s;have h3:=zD s;rcases xe h3 with h|h
     ·exact .inl h
     ·simp only [yq,Prod.mk.injEq,true_and]at h;rw [h,<-x1];exact .inl y
   rcases J with J|rfl
   ·have h3:=x5.o.2 _ J;refine⟨by simpa using h3.1,fun r g=> ?_⟩;exact h3.2 r.pl (List.mem_map.2 ⟨r,g,rfl⟩)
   ·exact⟨zJ _,fun r g=>by simp at g⟩
  have h5:=zA h8;have ha :=K;clear h8 hz K
  obtain⟨A,c,l,E,hl,HR,h9,Y⟩:∃(A:aA) (c:Nat) (l:aD) (E:List Asn),l.length<=N/\
   Sp wc (NA A l.length c l::MapA prog 3 b (ds.map DR.kv)::zz E::MapA prog 9 T (f.map TR.kv)::zz ((f.map TR.asn).eraseIdx j)::BlkA G 152 gs::L)/\
   (∀(W:O) (L' :List Asn),Sp W L' ->MapA prog 3 b (ds.map DR.kv)∈L' ->(Instr.lookup 219 (.map (some b)) (.int .i64 d) false).run prog W= .ok (.slice A l.length c) W)/\
   ∀(W:O) (A' :aA) (C :Nat) (es:List (V×V)),((∀q∈ds.map DR.kv,q.1≠ .int .i64 d)/\es=ds.map DR.kv++ [(.int .i64 d,.slice A' (l.length+1) C)]\/∃(i:Nat) (v:V),(ds.map DR.kv)[i]? =some (.int .i64 d,v)/\es=(ds.map DR.kv).set i (.int .i64 d,.slice A' (l.length+1) C))->
    Sp W (MapA prog 3 b es::NA A' (l.length+1) C (l++ [p])::zz E::MapA prog 9 T (f.map TR.kv)::zz ((f.map TR.asn).eraseIdx j)::BlkA G 152 gs::L)->Sp W (YR T (addT td t d p)::BlkA G 152 gs::L):=by
   by_cases a:∀q∈ds.map DR.kv,q.1≠ .int .i64 d
   ·refine⟨none,0, [],ds.map DR.asn,zJ _,B.nil 3 1,fun W L' h hm=>h.mapNo UD underlying219 UT hm hw.o a,fun W A' C es hp h=> ?_⟩;rcases hp with⟨_,rfl⟩|⟨i,v,Z,_⟩
    ·refine oK (ds' :=ds++ [⟨d,A',C, [p]⟩]) m.o hf.o he.o ?_ ?_
     ·rw [zw];unfold OJ;rw [cH fun q y e=> ?_]
      ·rfl
      ·obtain⟨r,g,rfl⟩:=List.mem_map.1 y;exact a r.kv (List.mem_map.2 ⟨r,g,rfl⟩) (by show Value.int .i64 r.doc=_;rw [show r.doc=d from e])
     ·rw [zw,zw];have J:Sp W (NA A' 1 C [p]::zz (ds.map DR.asn)::_):=Sp.selT [_,_,_] h [1,2,0];exact J.starPush.p1
    ·exact absurd rfl (a _ (zD Z))
   ·obtain⟨q,y,xs⟩:∃q∈ds.map DR.kv,q.1= .int .i64 d:=by
     by_cases hh:∃q∈ds.map DR.kv,q.1= .int .i64 d
     ·exact hh
     ·exact absurd (fun q y e=>hh ⟨q,y,e⟩) a
    obtain⟨i,Z⟩:=z8 y;obtain⟨r,g,h0,ao⟩:=DR.kv_inj (v:=q.2) (by rw [Z,<-xs]);have hv:(ds.map DR.asn)[i]? =some r.asn:=(by rw [zH,g];rfl);have y1:(ds.map DR.kv)[i]? =some (.int .i64 d,.slice r.A r.l.length r.c):=(by rw [zH,g,<-h0];rfl)
    refine⟨r.A,r.c,r.l,(ds.map DR.asn).eraseIdx i,h5.o.2 r (zD g),?_,fun W L' h hm=>h.mapAt UD underlying219 UT hm hw.o y1,fun W A' C es hp h=> ?_⟩
    ·exact Sp.selT [_,_,_] (B.p1.starAt hv) [0,2,1]
    ·have h7:(ds.map DR.doc).Nodup:=by
      have:=B.mapDistinct M0;rw [yD]at this;have h3:ds.map ((·.1) ∘ DR.kv)=(ds.map DR.doc).map (Value.int .i64):=(by rw [yD];rfl);rw [h3]at this;exact(List.pairwise_map.1 this).imp fun h e=>h (by rw [e])
     rcases hp with⟨xn,_⟩|⟨R,v,hs,rfl⟩
     ·exact absurd xs (xn q y)
     ·have y0:R=i:=by
       obtain⟨r2,y6,x2,_⟩:=DR.kv_inj hs;have a1:(ds.map DR.doc)[i]? =some d:=(by rw [zH,g,<-h0];rfl);have a2:(ds.map DR.doc)[R]? =some d:=(by rw [zH,y6,<-x2];rfl);obtain⟨b1,c1⟩:=List.getElem?_eq_some_iff.1 a1;obtain⟨b2,c2⟩:=List.getElem?_eq_some_iff.1 a2;exact(List.getElem_inj h7).1 (c2.trans c1.symm)
      subst y0;have y4:(ds.map DR.pl)[R]? =some (d,r.l):=(by rw [zH,g,<-h0];rfl);have y5:((ds.map DR.pl).map (·.1)).Nodup:=(by rw [yD];exact h7);refine oK (ds' :=ds.set R ⟨d,A',C,r.l++ [p]⟩) m.o hf.o he.o ?_ ?_
      ·rw [List.map_set];unfold OJ;rw [V9 y5 y4];rfl
      ·have e1:(ds.map DR.kv).set R (.int .i64 d,.slice A' (r.l.length+1) C)=(ds.set R ⟨d,A',C,r.l++ [p]⟩).map DR.kv:=by
        rw [List.map_set];simp [DR.kv]
       have e2:(ds.map DR.asn).set R (NA A' (r.l.length+1) C (r.l++ [p]))=(ds.set R ⟨d,A',C,r.l++ [p]⟩).map DR.asn:=by
        rw [List.map_set];simp [DR.asn]
       rw [<-e1,<-e2];have J:Sp W (NA A' (r.l.length+1) C (r.l++ [p])::zz ((ds.map DR.asn).eraseIdx R)::_):=Sp.selT [_,_,_] h [1,2,0];exact(J.starSet (by rw [zK];exact zN g)).p1
  have S:=zA Y;have hc:=zA h9;clear Y h9 B he hf m;have F:=HR.drew;have m8:wc.cell? ⟨G,8,none⟩=some (.map (some T)):=(HR.cell M5 8).trans Hg.o;obtain⟨n,hn⟩:=eX (l.length);rw [hn]at HR F hc hl S;have h6:(f.map TR.kv)[j]? =some (.string t,.map (some b)):=(by rw [zH,ha];rfl)
  have x3:∀(W:O) (L' :List Asn),Sp W L' ->MapA prog 9 T (f.map TR.kv)∈L' ->(Instr.lookup 144 (.map (some T)) (.string t) false).run prog W= .ok (.map (some b)) W:=fun W L' h hm=>h.mapAt Vc underlying144 US hm hy.o h6;have ho:=zA x3;have ab:=ho.o wc.drew _ F M3;have ad:=fun o=>ho.o (wc.alloc o).drew _ (HR.al o).drew M3;have y8:=hc.o wc.drew _ F M1
  have aa:=fun o=>hc.o (wc.alloc o).drew _ (HR.al o).drew M1;have x4:∀o,(wc.alloc o).drew.cell? ⟨G,8,none⟩=some (.map (some T)):=fun o=>ON m8 o;have D:(ds.map DR.kv).length<maxLen:=(by have:=h5.o.1;rw [zK];unfold maxLen;omega);have hk:=zA D;clear x3 h6 hn D ha;go_upto_region 2 with fail
  go_region_held3 (fun W=>W.cell? ⟨G,8,none⟩=some (.map (some T))) (first|with_reducible assumption|exact x4 _|go_keep|fail) (first
   |(refine yz Xr (.tmp 35) (.tmp 37) rfl rfl F rfl (cs:= #[.int .i64 p]) rfl rfl rfl (by intro u hu;simp at hu;subst hu;rfl) (by omega) (by omega) ?_;intro A8 c8 w8 aj ak hb;have af:w8.cell? ⟨G,8,none⟩=some (.map (some T)):=(hb.cell M5 8).trans Hg.o;have ae:=ho.o _ _ hb M3;obtain⟨w9,l9,xb,y3,H⟩:=Sp.mapPut UD underlying219 hb.p1 hk.o (.slice A8 (n+1) c8) hw.o;have ag:w9.cell? ⟨G,8,none⟩=some (.map (some T)):=(H.cell M5 8).trans Hg.o)
   |fail)
  all_goals
   have e1:ints l++(#[Value.int .i64 p]:aG).toList=ints (l++ [p]):=(by simp [Go.Proofs.YtjbhbfaeielbiaaGreatDoor.ints]);rw [e1]at H;have h4:=S.o w9 A8 c8 l9 y3 H;clear H xb ab ad ae y8 aa m8 x4 af ag
   go_end0
   exact⟨rfl,h4⟩
theorem eP {κ ν:Type} [DecidableEq κ] (k:κ) (f:Option ν->ν):∀(l:List (κ×ν)),(upd k f l).length<=l.length+1
 | []=>by simp [upd]
 |p::l=>by
  rw [QG]
  split
  ·simp
  ·simpa using eP k f l
theorem Q2 {κ ν:Type} [DecidableEq κ] {k:κ} {f:Option ν->ν}:∀{l:List (κ×ν)} {q:κ×ν},q∈upd k f l->q∈l\/q=(k,f none)\/∃v,(k,v)∈l/\q=(k,f (some v))
 | [],q,h=>by simp [upd]at h;exact .inr (.inl h)
 |p::l,q,h=>by
  rw [QG]at h
  split at h
  ·rename_i e;rcases yx.1 h with rfl|h
   ·exact .inr (.inr ⟨p.2,by rw [<-e];simp,rfl⟩)
   ·exact .inl (by simp [h])
  ·rcases yx.1 h with rfl|h
   ·exact .inl (by simp)
   ·rcases Q2 h with h|h|⟨v,h,e⟩
    ·exact .inl (by simp [h])
    ·exact .inr (.inl h)
    ·exact .inr (.inr ⟨v,by simp [h],e⟩)
theorem Ya.add {N:Nat} {td:xo} (h:Ya N td) (t:aB) (d p:Int):Ya (N+1) (addT td t d p):=by
 have a:∀ds:Wc,ds.length<=N->(∀q∈ds,q.2.length<=N)->(OJ ds d p).length<=N+1/\∀q∈OJ ds d p,q.2.length<=N+1:=fun ds b e=>by
  refine⟨zY (eP _ _ _) (by omega),fun q c=> ?_⟩;rcases Q2 c with h|rfl|⟨v,h,rfl⟩
  ·have:=e q h;omega
  ·simp
  ·have:=e _ h;simp at this⊢;omega
 refine⟨zY (eP _ _ _) (by have:=h.1;omega),fun q c=> ?_⟩;rcases Q2 c with b|rfl|⟨v,b,rfl⟩
 ·have:=h.2 q b;exact⟨by omega,fun r f=>by have:=this.2 r f;omega⟩
 ·exact a [] (by simp) (by simp)
 ·have:=h.2 _ b;exact a v this.1 this.2
theorem Ya.mono {N M:Nat} {td:xo} (h:Ya N td) (a:N<=M):Ya M td:=⟨zY h.1 a,fun p b=>⟨zY (h.2 p b).1 a,fun q c=>zY ((h.2 p b).2 q c) a⟩⟩
def Y6 (td:xo) (d:Int) (l:List Token):xo:=l.foldl (fun td t=>addT td t.text d t.pos) td
theorem Va {a:List Token} {j k:Nat} {t:Token} {v:V} (h:a[j]? =some t) (c:t.cells[k]? =some v) (b:k<4):(a.flatMap Token.cells)[j*4+k]? =some v:=by
 rw [List.flatMap_def];exact(xX (a.map Token.cells) j k t.cells (by simp [Token.cells]) (by simp [h]) b).trans c
theorem B6 {G T N s c2 b i n c m X:Nat} {D A B:aA} {gs:aG} {td:xo} {lens:aD} {v:List Field} {cells:List yZ} {f:Field} {w:O} {L:List Asn} (hV:Tabs w) (hs:zL w (·<w.heap.size) A n c v) (he:zL w (·<w.heap.size) B m X cells)
 (P:xC v=true) (hf:v[i]? =some f) (hk:f.kind=1) (hm:m<=64) (y:∀t∈tokP v i cells,t.text.size<=1000000000) (hd:b<=16384) (hN:Ya N td) (hh:N<=6000000000) (hn:s<=1000000)
 (Q:Sp w (YR T td::BlkA G 152 gs::IA D s c2 lens::L)) (g2:gs[2]? =some (.slice D s c2)) (Y:gs[6]? =some (.slice A n c)) (Z:gs[7]? =some (.int .i64 (i:Int))) (g8:gs[8]? =some (.map (some T))):
 Calls prog 110 #[.pointer (some ⟨G,0,none⟩),.int .i64 (b:Int),.slice B m X] w fun e w' =>e= .returned (.tuple #[])/\∃E K,Sp w' (YR T (Y6 td b (tokP v i cells))::BlkA G 152 (gs.setIfInBounds 2 (.slice E (s+1) K))::IA E (s+1) K (lens++ [((tokP v i cells).length:Int)])::L):=by
 have J:=tN A B n c m X i v cells f w.drew (hV.on (zE _ _).drew) (hs.on (zE _ _).drew) (he.on (zE _ _).drew) P hf hk hm;obtain⟨o,ho⟩:=eX (tokP v i cells);rw [ho]at J y⊢;have J:=zA J;have U:=zA y;have HN:=zA hN;have G2:=zA g2;have G6:=zA Y;have G7:=zA Z;have G8:=zA g8;have q6:w.cell? ⟨G,6,none⟩=some (.slice A n c):=(Q.cell M1 6).trans Y
 have q7:w.cell? ⟨G,7,none⟩=some (.int .i64 (i:Int)):=(Q.cell M1 7).trans Z;have I:=Q.drew;clear hV hs he P hf y hN g2 Y Z g8 ho Q;go_enter func110,ntmps110;go_upto_region 0 with fail
 go_region_held3 (fun W=>W.cell? ⟨G,6,none⟩=some (.slice A n c)/\W.cell? ⟨G,7,none⟩=some (.int .i64 (i:Int))) (first|with_reducible assumption|(with_reducible exact⟨by assumption,by assumption⟩)|go_keep|fail) (first
  |(go_at_call 10;refine J.o.mono ?_;rintro r w1 ⟨Ak,z,ck,rfl,M,hg,F⟩;have x:=zA M;clear M;have p:=I.c1 F;have k6:w1.cell? ⟨G,6,none⟩=some (.slice A n c):=(p.cell M2 6).trans G6.o;have k7:w1.cell? ⟨G,7,none⟩=some (.int .i64 (i:Int)):=(p.cell M2 7).trans G7.o)
  |fail)
 clear q6 q7 k6 k7 J I F;go_wp2
 go_loopg [21] z (fun gj hc wr=>∃j:Nat,hc= .int .i64 j/\j<=z/\gj=z - j/\Sp wr (TkA Ak z ck o::YR T (Y6 td b (o.take j))::BlkA G 152 gs::IA D s c2 lens::L)/\Ya (N+j) (Y6 td b (o.take j)))
 case atStart=>exact⟨0,rfl,zJ _,rfl,p,HN.o⟩
 case round=>
  obtain⟨j,rfl,hj,rfl,a,q⟩:=hrel;clear p
  by_cases hb:j<z
  ·obtain⟨t,C⟩:∃t,o[j]? =some t:=⟨_,zB (by rw [<-x.o];exact hb)⟩;obtain⟨gk,rfl, -, -⟩:=(a.rowOf M0).at_ (by omega)
   have t0:wr.cell? ⟨gk,j*4,none⟩=some (.string t.text):=by
    have:=a.rowCell M0 (Va (k:=0) C rfl (by omega))
    simpa using this
   have t1:wr.cell? ⟨gk,j*4+1,none⟩=some (.int .i64 t.pos):=a.rowCell M0 (Va C rfl (by omega));have t2:wr.cell? ⟨gk,j*4+2,none⟩=some (.int .i64 t.from_):=a.rowCell M0 (Va C rfl (by omega));have t3:wr.cell? ⟨gk,j*4+3,none⟩=some (.int .i64 t.to_):=a.rowCell M0 (Va C rfl (by omega));obtain⟨Tb,ha⟩:=eX (wr.heap.size)
   have d:=a.blkH 48 #[.string t.text,.int .i64 t.pos,.int .i64 t.from_,.int .i64 t.to_] ha;have HA:=zA (pS (N:=N+j) t.text (b:Int) t.pos ⟨by omega,by omega⟩ (U.o t (zD C)) q (by omega) (Sp.selT [_,_,_,_] d [2,3,1,0]) G8.o)
   have l:Y6 td b (o.take (j+1))=addT (Y6 td b (o.take j)) t.text b t.pos:=by
    rw [zI,C];unfold Y6;rw [xE];rfl
   have h:=zA l;have S:=zA q;clear a d l q;go_wp2_with (go_at_call 191;refine HA.o.mono ?_;rintro r w2 ⟨rfl,H⟩)
   go_roundg (z - (j+1))
   case measure=>omega
   case rel=>
    rw [<-h.o]at H;exact⟨j+1,by go_num,by omega,rfl,Sp.selT [_,_,_,_] H [2,0,1],by rw [h.o];exact S.o.add _ _ _⟩
  ·obtain rfl:j=z:=by omega
   rw [zF (by rw [<-x.o];exact zC _)]at a;have d:=Sp.selT [_,_,_,_] a [3,2,1];have k2:wr.cell? ⟨G,2,none⟩=some (.slice D s c2):=(d.cell M1 2).trans G2.o;clear a q
   go_wp2_with (at_builtin;refine yC Zs (.tmp 38) (.tmp 41) rfl rfl d rfl (cs:= #[.int .i64 (j:Int)]) rfl rfl rfl (by intro u hu;simp at hu;subst hu;rfl) (by omega) (by omega) ?_;intro A8 c8 w8 hi hl g;have k3:w8.cell? ⟨G,2,none⟩=some (.slice D s c2):=(g.cell M1 2).trans G2.o;have k4:=(g.blkOf M1).frozen 2)
   have e1:ints lens++(#[Value.int .i64 (j:Int)]:aG).toList=ints (lens++ [(o.length:Int)]):=(by rw [<-x.o];simp [Go.Proofs.YtjbhbfaeielbiaaGreatDoor.ints]);rw [e1]at g;have R:=(g.p1).set 2 (.slice A8 (s+1) c8);clear g e1 k2 k3 k4;go_wp2
   go_end0
   exact⟨rfl,A8,c8,R.p2⟩
open Go.RowKit
def YO (a:Int):Nat:=if a=1 then 110 else if a=2 then 111 else if a=5 then 113 else 112
theorem CB {G i n c:Nat} {A:aA} {z:List Field} {f:Field} {w:O} (x:zL w (·<w.heap.size) A n c z) (t:z[i]? =some f) (Y:1<=f.kind/\f.kind<=5)
 (B:w.cell? ⟨G,6,none⟩=some (.slice A n c)) (C:w.cell? ⟨G,7,none⟩=some (.int .i64 (i:Int))) (hG:G<w.heap.size):
 Calls prog 62 #[.pointer (some ⟨G,0,none⟩)] w fun e w' =>e= .returned (.func (.func (YO f.kind)) #[.pointer (some ⟨G,0,none⟩)] #[])/\Below w.heap.size w w' :=by
 have ha:=@mF prog;have u:i<n:=by rw [<-x.length];exact zN t
 have X:(i:Int)<(n:Int):=by omega
 obtain⟨b,off,f',rfl,l,hb,D⟩:=x.at_ u
 cases l.o.symm.trans t;obtain⟨A2,n2,c2,N,q,P,Q,R,S,T, -⟩:=Field.at_ D
 have k:∀o,Below w.heap.size w (w.alloc o):=fun o=>(zE _ _).alloc (zC _) o;have L:∀o,(w.alloc o).cell? ⟨G,6,none⟩=some (.slice (some ⟨b,off,none⟩) n c):=fun o=>ON B o;have M:∀o,(w.alloc o).cell? ⟨G,7,none⟩=some (.int .i64 (i:Int)):=fun o=>ON C o;have y:∀o,(w.alloc o).cell? ⟨b,off+i*7+1,none⟩=some (.int .i64 f.kind):=fun o=>ON q o;obtain⟨F,m⟩:=eX (f.kind);rw [m]at y Y q⊢
 have g:=zA k;clear x t N P Q R S T D l m k;obtain⟨a,v⟩:∃a:Nat,F=(a:Int):=⟨F.toNat,by omega⟩;subst v;have Z:(a:Int)<6:=by omega
 obtain⟨d,s⟩:∃d:aG,#[Value.nilFunc,Value.func (.func 110) #[.pointer (some ⟨G,0,none⟩)] #[],Value.func (.func 111) #[.pointer (some ⟨G,0,none⟩)] #[],Value.func (.func 112) #[.pointer (some ⟨G,0,none⟩)] #[],Value.func (.func 112) #[.pointer (some ⟨G,0,none⟩)] #[],Value.func (.func 113) #[.pointer (some ⟨G,0,none⟩)] #[]]=d:=⟨_,rfl⟩
 have h:d[a]? =some (.func (.func (YO (a:Int))) #[.pointer (some ⟨G,0,none⟩)] #[]):=by
  rw [<-s];have W:a=1\/a=2\/a=3\/a=4\/a=5:=(by omega);rcases W with rfl|rfl|rfl|rfl|rfl<;>rfl
 obtain⟨H,U⟩:=eX (w.heap.size);have E:(w.alloc (.cells d 154)).cell? ⟨H,a,none⟩=some (.func (.func (YO (a:Int))) #[.pointer (some ⟨G,0,none⟩)] #[]):=by rw [<-U];simpa using h
 obtain⟨w2,p⟩:=eX (w.alloc (.cells d 154));have j:Below w.heap.size w w2:=by rw [<-p];exact g.o _
 have J:=L (.cells d 154);have K:=M (.cells d 154);have I:=y (.cells d 154);rw [p]at E J K I;have r:=zA j;clear L M y h j g;go_enter func62,ntmps62;go_wp2
 go_region
 all_goals
  clear J K I E B C q;go_wp2;go_ret
  exact⟨rfl,r.o.drew⟩
end Go.Proofs.YtjbhbfaeielbiaaGreatDoor

/-
  SegmentBack, the second form: whatever schema and two lists of items (together with the rest of bulk at most 2^20): a segment is opened again from its bytes, two have one file just if their items are the same, and what was handed in reads as it did; no condition beyond the bulk's bound and the listed variables of the library, which the card ties to the program's text.
  The texts Part01 and on were made small by program out of the repository's templates; the frame was written after the kit's worked example over listed variables.
-/
import Derived.Test.YtjbhbfaeielbiaaGreatDoorPart50
set_option maxRecDepth 100000
set_option maxHeartbeats 8000000
set_option linter.unusedVariables false
set_option linter.unusedSimpArgs false
namespace Go.Proofs.YtjbhbfaeielbiaaGreatDoor
open Go.Proofs.Tryz
open Rep (rep)
open Go.RowKit
attribute [local go_sem ↓] zU zV
theorem sB {X f n B o:Nat} {t:aA} {I:List Zj} {z:Zj} {p:aW} {w:O} (C:w.cell? ⟨X,4,none⟩=some (.slice t n B)) (m:zL w (·<w.heap.size) t n B I) (l:I[f]? =some z) (E:z.2.1[o]? =some p):
 Calls prog 13 #[.pointer (some ⟨X,0,none⟩),.int .i64 (f:Int),.int .i64 (o:Int)] w fun e w' =>∃v,e= .returned v/\rep w (·<w.heap.size) [v] p/\Below w.heap.size w w' :=by
 have d:f<n:=by have:=zN l;have:=m.length;omega
 have u:=zA (Q9 C m d);have K:=zA l;have x:=zA E;clear C m l E d;go_enter func13,ntmps13;go_wp2_with fail;refine u.o.mono ?_;rintro e Y ⟨U,Z,v2,v3,v4,v5,z',H,rfl,F,i⟩;rw [K.o]at H;cases H;obtain⟨A,k,c,L,r⟩:=(Qj F).2.1;cases L;have S:=zN x.o;have N:o<k:=by have:=r.length;omega
 obtain⟨b,off,y,rfl,G,j,cs,a,D⟩:=r.at_ N
 have s:y=p:=yG (G.o.symm.trans x.o);subst s;have T:cs.length=1:=Rep.len a;obtain⟨v,rfl⟩:=List.length_eq_one_iff.1 T
 have q:Y.cell? ⟨b,off+o,none⟩=some v:=by
  have h:=(i.cell j).trans (D 0 _ rfl);have e:Rep.size aW=1:=rfl;rw [e]at h
  simpa using h
 have J:=zA i;have g:=zA a;have P:¬k<=o:=by omega
 have Q:(o:Int)<(k:Int):=by omega
 have R:¬(k:Int)<=(o:Int):=by omega
 clear r D G F i u a;have M:∀W:O,(Instr.field 106 (.agg #[U,.slice (some ⟨b,off,none⟩) k c,v2,v3,v4,v5]) 1).run prog W= .ok (.slice (some ⟨b,off,none⟩) k c) W:=fun W=>by kernel_rfl
 go_wp2;go_ret
 exact⟨v,rfl,g.o,J.o⟩
theorem dE {α:Type} [Rep α] {w:O} {F:Nat->Prop} {v:V} {x:α} (h:rep w F [v] (Ptr.mk (some x))):∃b,v= .pointer (some ⟨b,0,none⟩):=by
 obtain⟨b,a, -⟩:=h;cases a;exact⟨b,rfl⟩
theorem nR {D k:Nat} {s:aB} {ls:List aB} {at_:aE} {L:List Asn} {w:O} (h:Sp w L) (o:aX L D ls at_) (i:xQ ls=true) (a:at_.length=ls.length) (p:∀x∈at_,x<18446744073709551616) (c:ls[k]? =some s):
 Calls prog 12 #[.pointer (some ⟨D,0,none⟩),.string s] w fun e w' =>e= .returned (.tuple #[.int .i64 (k:Int),.bool true])/\Sp w' L:=by
 refine(JV h o i a p).mono ?_;rintro e w' ⟨j,b,rfl,l,m,n⟩;cases b with
 |false=>exact absurd (zD c) (m rfl).2
 |true=>
  have d:=l rfl;have f:=dJ i
  obtain rfl:j =k:=by
   rcases Nat.lt_trichotomy j k with g|g|g
   ·exact absurd (aZ f g d c) (ZO _)
   ·exact g
   ·exact absurd (aZ f g c d) (ZO _)
  exact⟨rfl,n⟩
theorem pG {w0:O} {D:Nat} {ls:List aB} {at_:aE} {L:List Asn} (b:OldA w0.heap.size w0∈L) (h:rep w0 (·<w0.heap.size) [.pointer (some ⟨D,0,none⟩)] (Ptr.mk (some (tBl ls at_,tFi ls,(ls.length:Int))))):aX L D ls at_:=
 fun _ a=>Rep.on h (a.below b)
theorem o0 {w0:O} {D:Nat} {ps:List PostD} {L:List Asn} (a:OldA w0.heap.size w0∈L) (h:rep w0 (·<w0.heap.size) [.pointer (some ⟨D,0,none⟩)] (Xo ps)):bQ L D ps:=
 ⟨w0.heap.size,w0,a,zC _,h⟩
abbrev bH (ps:List PostD):aD:=ps.map (·.doc)
theorem t7 {X f n c c4 k:Nat} {A1 A4:aA} {fs:List Field} {ms:List Zj} {fd:Field} {z:Zj} {ts:List aB} {ls:List (List PostD)} {ps:List PostD} {name text:aB} {w:O}
 (h0:w.cell? ⟨X,0,none⟩=some (.slice A1 n c)) (g:zL w (·<w.heap.size) A1 n c fs) (h4:w.cell? ⟨X,4,none⟩=some (.slice A4 n c4)) (F:zL w (·<w.heap.size) A4 n c4 ms)
 (hN:Zx fs name=some f) (C:fs[f]? =some fd) (hj:fd.kind=2) (hz:ms[f]? =some z) (hm:z.1=aT ts ls) (hn:z.2.1=ls.map Xo) (ht:xQ ts=true) (ha:(allL ls).length<=16777216)
 (hx:ts[k]? =some text) (H:ls[k]? =some ps) (hr:xk ps=true):
 Calls prog 18 #[.pointer (some ⟨X,0,none⟩),.string name,.string text] w fun e w' =>∃A' m,e= .returned (.slice A' m m)/\ps.length=m/\Sp w' [NA A' m m (bH ps),OldA w.heap.size w]:=by
 have hi:f<n:=by have:=zN C;have:=g.length;omega
 obtain⟨b1,o1,g1,rfl,Z,he,hh⟩:=g.at_ hi
 have e1:g1=fd:=yG (Z.o.symm.trans C);subst e1;obtain⟨_,_,_, -,r, -⟩:=Field.at_ hh
 rw [hj]at r;obtain⟨b4,o4,z',rfl,Hz,y,cs,B,hc⟩:=F.at_ hi
 have e2:z' =z:=yG (Hz.o.symm.trans hz);subst e2;obtain⟨v0,v1,v2,v3,v4,v5,rfl⟩:=mM (Rep.len B);have h9:Rep.size Zj=6:=rfl;rw [h9]at hc;have J:w.cell? ⟨b4,o4+f*6,none⟩=some v0:=hc 0 _ rfl;have K:w.cell? ⟨b4,o4+f*6+1,none⟩=some v1:=hc 1 _ rfl;obtain⟨r0,r1, -⟩:=Qj B;rw [hm]at r0;rw [hn]at r1;obtain⟨D,rfl⟩:=dE r0;obtain⟨Al,nl,cl,xb,q⟩:=r1;cases xb
 have hk:k<nl:=by have h1:=zN H;have h2:=q.length;rw [zK]at h2;omega
 obtain⟨bl,ol,pm,rfl,Hp,hf,hv,a,hg⟩:=q.at_ hk
 have e3:pm=Xo ps:=by
  have h:=Hp.o;rw [zH,H]at h;exact(yG h).symm
 subst e3;obtain⟨v,rfl⟩:=List.length_eq_one_iff.1 (show hv.length=1 from Rep.len a);obtain⟨E,rfl⟩:=dE a
 have M:w.cell? ⟨bl,ol+k,none⟩=some (.pointer (some ⟨E,0,none⟩)):=by
  have h:=hg 0 _ rfl;have e:Rep.size aW=1:=rfl;rw [e]at h
  simpa using h
 have hw:=g.cap;have hy:=F.cap;have h3:=q.cap;have Q:=zA (Ug _ n c fs name w g f hN);have HD:=zA (fun(W:O) (j:Sp W [OldA w.heap.size w])=>nR j (pG M0 r0) ht (Qp _ _) (fY ha) hx);have HL:=zA (fun X:Asn=>o0 (L:= [X,OldA w.heap.size w]) M1 a);obtain⟨h6, -,h8⟩:=QN hr;have Hr:=zA hr
 have HK:=zA (fun(W:O) (j:Below w.heap.size w W)=>And.intro ((j.cell (ye h0)).trans h0) (And.intro ((j.cell (ye h4)).trans h4) (And.intro ((j.cell he).trans r) (And.intro ((j.cell y).trans J) (And.intro ((j.cell y).trans K) ((j.cell hf).trans M))))));obtain⟨N,G⟩:=eX (ps.length);rw [G]at h8;have d:=zA G;have h5:(f:Int)<n:=by omega
 have h7:(k:Int)<nl:=by omega
 clear g F hh B hc a hg q r0 Z Hz Hp hz hm hn hN C hj hx H ht ha hr r J K M h4 G he y hf h6;go_enter func18,ntmps18;go_wp2_with fail;refine Q.o.mono ?_;rintro e w1 ⟨rfl,hb⟩;have R:=(Sp.start w).grow hb;obtain⟨q0,q1,r,J,K,M⟩:=HK.o w1 hb;have P:=zA (HD.o w1 R);clear Q hb HD h0;go_wp2_with fail;refine P.o.mono ?_;rintro e w2 ⟨rfl,x⟩
 clear q0 q1 r J K M R P;obtain⟨q0,q1,r,J,K,M⟩:=HK.o w2 (x.below M0);have HI:=zA (nK (D:=E) x);clear x;go_wp2_with fail;refine HI.o.mono ?_;rintro e w3 ⟨I,rfl,S⟩
 have T:Sp w3 (ItA I E (.slice none 0 0) ps 0++ [NA none 0 0 (bH (ps.take 0)),OldA w.heap.size w]):=by
  have h:=(((S.elsNil (α:=PostD)).nil 116 2).els (α:=PostD) (css:= [])).nil 3 1;exact Sp.selT [_,_,_,_] h [2,1,0,3]
 clear S HI q0 q1 r J K M HK h5 h7 hk;go_wp2
 go_loopg [10] (N+1) (fun gk xi wr=>∃(o:Nat) (A:aA) (cp:Nat) (vp:V),xi= .slice A o cp/\o<=N/\gk=N+1 - o/\Sp wr (ItA I E vp ps o++ [NA A o cp (bH (ps.take o)),OldA w.heap.size w]))
 case atStart=>exact⟨0,none,0,.slice none 0 0,rfl,zJ _,rfl,T⟩
 case round=>
  obtain⟨o,A,cp,vp,rfl,ho,rfl,HS⟩:=hrel;clear T;have s:=lD HS (HL.o _) Hr.o (by rw [d.o];exact ho);rw [d.o]at s
  by_cases hl:o<N
  ·rw [decide_eq_true hl]at s;have t:=zA s;obtain⟨p,hp⟩:∃p,ps[o]? =some p:=⟨_,zB (by rw [d.o];exact hl)⟩;have Hp:=zA hp;have Y:=zA (fun(W:O) (i :V) (j:Sp W (ItA I E i ps (o+1)++ [NA A o cp (bH (ps.take o)),OldA w.heap.size w]))=>pF j (by omega) (show ps[o+1 - 1]? =some p from hp));clear hp s HS
   go_wp2_with (first
    |(go_at_call 20;refine t.o.mono ?_;rintro e w4 ⟨i,rfl,l⟩;have hs:=zA (Y.o w4 i l))
    |(go_at_call 16;refine hs.o.mono ?_;rintro e w5 ⟨rfl,hd⟩;have b:=(show Sp w5 _ from(by obtain⟨n0,rfl⟩:=hd;exact Sp.selT [_,_,_,_] (l.drewN n0) [2,0,1,3]));clear hd)
    |(at_builtin;refine yC Xr (.tmp 66) (.tmp 69) rfl rfl b rfl (cs:= #[.int .i64 p.doc]) rfl rfl rfl (by intro u hu;simp at hu;subst hu;rfl) (by omega) (by omega) ?_;intro A8 c8 w8 xs x1 U)
    |fail)
   have e1:ints (bH (ps.take o))++ #[Value.int .i64 p.doc].toList=ints (bH (ps.take (o+1))):=by
    rw [zI,Hp.o];simp [ints,bH]
   rw [e1]at U
   go_roundg (N+1 - (o+1))
   ·exact⟨o+1,A8,c8,i,rfl,by omega,rfl,Sp.selT [_,_,_,_] U [1,2,0,3]⟩
   ·omega
  ·obtain rfl:o=N:=by omega
   rw [decide_eq_false (Nat.lt_irrefl _)]at s;have t:=zA s;clear s HS
   go_wp2_with (first
    |(go_at_call 20;refine t.o.mono ?_;rintro e w4 ⟨i,rfl,l⟩;have b:=Sp.selT [_,_,_,_] l [2,3];have xn:=(b.rowOf M0).cap)
    |(go_at_call 54;refine(UO _ _ _ _ (by omega) (by omega)).mono ?_;rintro e w' ⟨rfl,rfl⟩)
    |fail)
   go_ret
   refine⟨A,o,rfl,d.o,?_⟩;rw [zF (by rw [d.o];exact zC _)]at b;exact b.clip
theorem NG:dG fsG itG:=⟨NI,by rw [fT];exact MU,by rw [fT];exact NU⟩
theorem LB {w:O} (u:Vs w):Calls prog 35 #[] w fun e w' =>∃(X g q:Nat) (c d f h i:aA) (c2 k l m j:Nat) (As:List aA),e= .returned (.pointer (some ⟨X,0,none⟩))/\
 Sp w' (OP X 2 q 1 g c d f h i c2 k l m j As fsG (O5 itG) (bL itG) invG (bG fsG itG)++ [OldA w.heap.size w]):=by
 have D:=zA u;clear u;go_enter func35,ntmps35;go_wp2_with fail;refine(ES _).mono ?_;rintro e C ⟨A,rfl,hF,r⟩;obtain⟨W,v⟩:=eX ((C.alloc (.cells #[.string ⟨#[116]⟩,.string ⟨#[66,32,97]⟩,.slice none 0 0,.string ⟨#[107]⟩,.string ⟨#[120]⟩,.slice none 0 0] 86)).alloc (.cells #[.int .u64 5,.slice (some ⟨C.heap.size,0,none⟩) 2 2] 40));obtain⟨z,b⟩:=JI v;have a:=r.trans (b.mono r.size)
 have t:=zA (jA (D.o.on a) (hF.on b) z (fun x B e y=>by
  simp only [itG,List.mem_singleton]at B;subst B;simp only [O2,yx,xZ,or_false]at y;rcases y with rfl|rfl<;>exact⟨by decide,by decide⟩))
 have p:=zA a;clear hF z b r a;go_wp2_with fail;refine t.o.mono ?_;unfold fZ;rintro e F (⟨G,E,s,rfl,a⟩|⟨X,g,q,c,d,f,h,i,c2,k,l,m,j,As,rfl, -, -, -,n⟩)
 ·exact absurd NG s
 ·have o:Hid (Sp F (OP X 2 q 1 g c d f h i c2 k l m j As fsG (O5 itG) (bL itG) invG (bG fsG itG)++ [OldA w.heap.size w])):=by
   rw [fT]at n;exact((Sp.start w).grow p.o).call _ n
  clear n t v;go_wp2;go_ret
  exact⟨X,g,q,c,d,f,h,i,c2,k,l,m,j,As,rfl,o.o⟩
theorem O0:(aR fsG invG 2)[0]? =some (aT [⟨#[97]⟩,⟨#[98]⟩] [[⟨0, [1]⟩], [⟨0, [0]⟩]], [Xo [⟨0, [1]⟩],Xo [⟨0, [0]⟩]], [2],⟨⟩,⟨⟩,⟨⟩):=rfl
theorem O8:(aR fsG invG 2)[1]? =some (aT [⟨#[120]⟩] [[⟨0, [0]⟩]], [Xo [⟨0, [0]⟩]], [],⟨⟩,⟨⟩,⟨⟩):=rfl
theorem lJ {w W:O} {L:List Asn} {v:Int} {R:Nat} (a:w.heap.size=R) (b:w.alloc (.cells #[.int .i64 v] 3)=W):xA W (R+1) 1 (some ⟨R,0,none⟩) 1 (ints [v]):=by
 subst b;exact Ye w #[.int .i64 v] 3 rfl a
theorem GH {w:O} (hV:Vs w):Calls prog 8 #[] w fun e w' =>e= .returned (.bool true)/\Below w.heap.size w w' :=by
 have HO:=zA (LB hV);clear hV;go_enter func8,ntmps8;go_wp2_with fail;refine HO.o.mono ?_;rintro e p ⟨X,g,q,A1,A2,A3,A4,Ac,c2,c3,c4,cc,Tb,As,rfl,n⟩;unfold OP at n;simp only [yI,zZ]at n;have ha:=zA (n.below M8);have h0:=n.cl M0 0;have h2:=n.cl M0 2;have x:=n.cl M0 4;have hg:=n.ls M1;have l:=n.ls M4;have HT:=zA (sA (f:=0) x l (by omega))
 have HP:=zA (fun(W:O) (a:Below p.heap.size p W)=>sB (o:=0) (w:=W) ((a.cell (ye x)).trans x) (l.on a) O0 rfl);have HL:=zA (fun(W:O) (a:Below p.heap.size p W)=>wD (w:=W) ((a.cell (ye h2)).trans h2));have HN:=zA (fun(W:O) (a:Below p.heap.size p W)=>rI (i:=0) (w:=W) ((a.cell (ye x)).trans x) (l.on a) O0 rfl)
 have HF:=zA (fun(W:O) (a:Below p.heap.size p W)=>t7 (w:=W) (name:=⟨#[107]⟩) (f:=1) (k:=0) ((a.cell (ye h0)).trans h0) (hg.on a) ((a.cell (ye x)).trans x) (l.on a) (by decide) rfl rfl O8 rfl rfl (by decide+kernel) (by decide+kernel) rfl rfl (by decide+kernel));clear n HO h0 h2 x hg l;go_wp2_with fail;refine HT.o.mono ?_;rintro e w2 ⟨v,z,hz,rfl,G,hb⟩;rw [O0]at hz;cases hz
 obtain⟨D,rfl⟩:=dE G;have M:=zA (nR (k:=0) (s:=⟨#[97]⟩) ((Sp.start p).grow hb) (pG M0 G) (by decide+kernel) (Qp _ _) (fY (by decide+kernel)) rfl);clear G hb HT;go_wp2_with fail;refine M.o.mono ?_;rintro e b ⟨rfl,S⟩;have F:=zA (S.below M0);have Q:=zA (HP.o b F.o);clear M S HP;go_wp2_with fail;refine Q.o.mono ?_;rintro e w4 ⟨v,rfl,G,hd⟩;obtain⟨E,rfl⟩:=dE G
 have Hd:=zA (show bQ [OldA b.heap.size b] E [⟨0, [1]⟩]from o0 M0 G);have HI:=zA (nK (D:=E) ((Sp.start b).grow hd));clear G hd Q;go_wp2_with fail;refine HI.o.mono ?_;rintro e w5 ⟨I,rfl,T⟩;have C:Sp w5 (ItA I E (.slice none 0 0) [⟨0, [1]⟩] 0++ [OldA b.heap.size b]):=(((T.elsNil (α:=PostD)).nil 116 2).els (α:=PostD) (css:= [])).p1
 have HB:=zA (fun(W:O) (a:Below b.heap.size b W)=>F.o.trans (a.mono F.o.size));have ht:=zA (HL.o w5 (HB.o w5 (C.below M2)));have hv:=zA (show Calls prog 20 #[.pointer (some ⟨I,0,none⟩)] w5 fun e w' =>∃H,e= .returned (.bool true)/\Sp w' (ItA I E H [⟨0, [1]⟩] 1++ [OldA b.heap.size b])from lD C Hd.o (by decide+kernel) (by decide));clear T C HI HL
 go_wp2_with (first
  |(go_at_call 26;refine ht.o.mono ?_;rintro e w' ⟨rfl,rfl⟩)
  |(go_at_call 20;refine hv.o.mono ?_;rintro e w6 ⟨H,rfl,U⟩;have hp:=zA (pF (o:=1) U (by omega) (show([⟨0, [1]⟩]:List PostD)[1 - 1]? =some ⟨0, [1]⟩from rfl)))
  |(go_at_call 16;refine hp.o.mono ?_;rintro e w7 ⟨rfl,hf⟩;have Y:=(show Sp w7 (ItA I E H [⟨0, [1]⟩] 1++ [OldA b.heap.size b])from(by obtain⟨n0,rfl⟩:=hf;exact U.drewN n0));have hw:=zA (K4 (o:=1) Y (by omega) (show([⟨0, [1]⟩]:List PostD)[1 - 1]? =some ⟨0, [1]⟩from rfl) (by decide));clear hf)
  |(go_at_call 17;refine hw.o.mono ?_;rintro e w8 ⟨A',n',c',rfl,hh,Z⟩;have h1:=(show n' =1 from hh.symm);subst h1;obtain⟨R,hR⟩:=eX (w8.heap.size);obtain⟨K,hi⟩:=eX (w8.alloc (.cells #[.int .i64 1] 3));have h:=(Sp.call (Xs:= [RowA 3 1 (.slice A' 1 c') 1 (ints [1])]) Y Z).al (.cells #[.int .i64 1] 3);rw [hi]at h;have hj:=(show xA K K.heap.size 1 A' 1 (ints [1])from zt.reads (c:=c') (h.rowOf M0));have N:=zA (show Calls prog 36 #[.slice A' 1 c',.slice (some ⟨R,0,none⟩) 1 1] K fun e w' =>e= .returned (.bool true)/\xG K w' from nL A' (some ⟨R,0,none⟩) 1 1 c' 1 [1] [1] K.heap.size (R+1) K (by decide) hj (lJ (v:=1) (L:= []) hR hi));clear hj;clear Z hh)
  |(go_at_call 36;refine P.o.mono ?_;rintro e ho ⟨rfl,he⟩)
  |(go_at_call 36;refine N.o.mono ?_;rintro e J ⟨rfl,A⟩;have r:=(show Sp J _ from(by obtain⟨n0,rfl⟩:=A;exact h.drewN n0));have hu:=zA (HN.o J (HB.o J (r.below M3)));clear A)
  |(go_at_call 37;refine hu.o.mono ?_;rintro e hl ⟨rfl,y⟩;have t:=r.grow y;have hs:=zA (HF.o hl (HB.o hl (t.below M3)));clear y)
  |(go_at_call 18;refine hs.o.mono ?_;rintro e hn ⟨A5,m,rfl,hm,u⟩;have hy:=(show m=1 from hm.symm);subst hy;obtain⟨R2,hx⟩:=eX (hn.heap.size);obtain⟨d,B⟩:=eX (hn.alloc (.cells #[.int .i64 0] 3));have j:=(Sp.call (Xs:= [NA A5 1 1 [0]]) t u).al (.cells #[.int .i64 0] 3);rw [B]at j;have hk:=(show xA d d.heap.size 1 A5 1 (ints [0])from zt.reads (c:=1) (j.rowOf M0));have P:=zA (show Calls prog 36 #[.slice A5 1 1,.slice (some ⟨R2,0,none⟩) 1 1] d fun e w' =>e= .returned (.bool true)/\xG d w' from nL A5 (some ⟨R2,0,none⟩) 1 1 1 1 [0] [0] d.heap.size (R2+1) d (by decide) hk (lJ (v:=0) (L:= []) hx B));clear hk;clear u hm)
  |fail)
 go_ret
 have hc:Below b.heap.size b ho:=by obtain⟨n0,rfl⟩:=he;exact(j.drewN n0).below M4
 exact⟨rfl,ha.o.trans ((HB.o ho hc).mono ha.o.size)⟩
end Go.Proofs.YtjbhbfaeielbiaaGreatDoor
namespace Go.Proofs.YtjbhbfaeielbiaaGreatDoor.segmentBack
open Go.Proofs.Tryz
open Rep (rep)
open Go.ChangeShapes Go.WideShapes Go.ChangeAt Go.RowKit Go.Deep
theorem NT {W:O} (a:laidMet prog Rows.segmentBackUptoRow.laid W) (b:W.ShapedOpen prog):Vs W where
 tabs:=rH (Lib.laidMet.reads a (by unfold Rows.segmentBackUptoRow;simp only [yx,Prod.mk.injEq,true_and,and_true,reduceCtorEq,String.reduceEq,false_and,false_or,or_true,true_or])) (Lib.laidMet.reads a (by unfold Rows.segmentBackUptoRow;simp only [yx,Prod.mk.injEq,true_and,and_true,reduceCtorEq,String.reduceEq,false_and,false_or,or_true,true_or]))
 maxLen:=by
  obtain⟨m,h⟩:=cell_of_shapedOpen_int (g:=0) (t:=3) (zero:= #[.int .i64 0]) (k:= .i64) b (of_decide_eq_true (by kernel_rfl)) (by kernel_rfl) rfl (by kernel_rfl) (by kernel_rfl) underlying3;exact⟨m,h,ye h⟩
 esyn:=nM (n:= "strconv.ErrSyntax") (ty:=297) (Lib.laidMet.reads a (d:=Rows.laid_strconv_ErrSyntax) (by unfold Rows.segmentBackUptoRow;simp only [yx,Prod.mk.injEq,true_and,and_true,reduceCtorEq,String.reduceEq,false_and,false_or,or_true,true_or])) (by kernel_rfl) (by kernel_rfl) (by kernel_rfl)
 erng:=nM (n:= "strconv.ErrRange") (ty:=297) (Lib.laidMet.reads a (d:=Rows.laid_strconv_ErrRange) (by unfold Rows.segmentBackUptoRow;simp only [yx,Prod.mk.injEq,true_and,and_true,reduceCtorEq,String.reduceEq,false_and,false_or,or_true,true_or])) (by kernel_rfl) (by kernel_rfl) (by kernel_rfl)
theorem J7 (H:Type) (enc:TypeId×V->H) (W:O) (base:Nat) (args:aG) (ds gs:List (DataW H)) (before:List MemPlace)
 (a:∀(j:Nat) t v,Tryz.f4.params[j]? =some t->args[j]? =some v->Value.okWide prog W .any base t v)
 (K:DataW.Whole enc prog Tryz.f4.params.toList Rows.segmentBackSpec.vars false W args.toList ds gs before) (hk:Rows.uptoSmall H (ds++gs)=true) (Z:Vs W):
 Calls prog 4 args W fun e F =>∃v,e= .returned v/\Rows.segmentBackSpec.post enc prog Tryz.f4 false true false false W args v F :=by
 have k :=K;obtain⟨p,q,hA0,i,rfl,ha,hb⟩:=K;have hA:DataW.TrodAll enc prog W 0 (fun _=>true) true Tryz.f4.params.toList args.toList ds p:=hA0;rw [Tryz.params4]at hA a;obtain⟨P,hc,R,U,p0,q0,o,rfl,rfl,G,r0⟩:=trodAll_cons hA;obtain⟨Q,hd,S,X,p1,q1,rfl,rfl,rfl,I,r1⟩:=trodAll_cons r0;obtain⟨v2,hf,T,Y,p2,q2,rfl,rfl,rfl,J,r2⟩:=trodAll_cons r1
 obtain⟨rfl,rfl,rfl⟩:=trodAll_nil r2;obtain rfl:args= #[P,Q,v2]:=by cases args;simp_all
 obtain⟨rfl,rfl⟩:=trodVars_none i;have L:=G;have M:=I;have N:=J;have z:∀x∈p0,x.block<W.heap.size:=by obtain⟨m,f⟩:=L;exact DataW.trod_lt m _ _ _ f
 have E:∀x∈p2,x.block<W.heap.size:=by obtain⟨m,f⟩:=N;exact DataW.trod_lt m _ _ _ f
 have D:∀x∈p1,x.block<W.heap.size:=by obtain⟨m,f⟩:=M;exact DataW.trod_lt m _ _ _ f
 have r:Rows.uptoBulkAll ([R,S,T]++([]:List (DataW H)))<=1048576:=of_decide_eq_true hk;simp only [zo,yI,zZ,Rows.uptoBulkAll]at r;obtain⟨A,n,c,fs,rfl,hs⟩:=uL (a 0 24 P rfl rfl) G (by omega);obtain⟨B,m,cm,items,rfl,hi,hz⟩:=wU (a 1 25 Q rfl rfl) I (by omega);obtain⟨C,l,cl,g,rfl,s,y⟩:=wU (a 2 25 v2 rfl rfl) J (by omega);clear hA0
 refine(P6 (fun w h=>GH h) Z hs hi s (fun x u e d=>by have:=hz x u e d;omega) (fun x u e d=>by have:=y x u e d;omega)).mono fun e F ⟨d,b⟩=> ?_;subst d
 exact⟨_,rfl,_,_,_, [],_, [],k,trodAll_mk1 (shut_bool underlying4 _),(trodAll_cons_mk (Below.trod o6 (by kernel_rfl) (of_decide_eq_true (by kernel_rfl)) L b z) (trodAll_cons_mk (Below.trod o6 (by kernel_rfl) (of_decide_eq_true (by kernel_rfl)) M b D) (trodAll_cons_mk (Below.trod o6 (by kernel_rfl) (of_decide_eq_true (by kernel_rfl)) N b E) trodAll_mk0))),rfl,b.frame _,fun h=>by cases h⟩
theorem ND (c:Os) (started:c.Started) (H:Type) (enc:TypeId×V->H) (F:Stop.Interp):
 ReturnsInHanded {} Tryz.checked c 4 .any ((Rows.OpenSpec.upto Rows.segmentBackSpec).preRow enc prog Tryz.f4 Rows.segmentBackUptoRow.domain false Rows.segmentBackUptoRow.laid) (((Rows.OpenSpec.upto Rows.segmentBackSpec).at F).post enc prog Tryz.f4 false true false false):=by
 obtain⟨yg,h⟩:=reads c enc
 refine returnsInHanded_of_row (C:=Tryz.checked) (s:=Rows.OpenSpec.upto Rows.segmentBackSpec) PH started (by kernel_rfl) func4
  (tH (enc:=enc) (C:=Tryz.checked) false (World.laidAll prog c laid) #[.agg #[.slice none 0 0],.slice none 0 0,.slice none 0 0] (World.laidAll_os _ _ _)
   (World.shaped_of_ZipB (by kernel_rfl) (by kernel_rfl)) (by kernel_rfl)
   (OpenSpec.preRow_of_cond 8 h (by kernel_rfl) (fun k g=>by cases g;kernel_rfl) (by kernel_rfl) (by rw [MakeChecks.laidMetH_plain _ _ _ (by kernel_rfl)];exact laidMet_laidAll _ (by kernel_rfl) (by kernel_rfl)))) ?_
 intro W base args ds gs before b f _ a _ d e _;rw [MakeChecks.laidMetH_plain _ _ _ (by kernel_rfl)]at d;exact J7 H enc W base args ds gs before b f (a _ rfl) (NT d e)
theorem sH:(Rows.segmentBackUptoRow.inPlace==Tryz.pinned.checked.prog.inPlace 4)=true:=by kernel_rfl
theorem qX:(Rows.segmentBackUptoRow.unfollowed==Tryz.pinned.checked.prog.unfollowed 4)=true:=by kernel_rfl
theorem rJ:(Rows.segmentBackUptoRow.recurses==Tryz.pinned.checked.prog.recurses 4)=true:=by kernel_rfl
theorem wK:(Rows.segmentBackUptoRow.named==Tryz.pinned.checked.prog.varsNamed 4)=true:=by kernel_rfl
theorem NK:joinedFacts Tryz.pinned.checked.prog 4 Tryz.f4 (Rows.OpenSpec.upto Rows.segmentBackSpec).bare Rows.segmentBackUptoRow=true:=by
 unfold joinedFacts;simp only [zM]
 exact⟨⟨⟨⟨⟨⟨⟨⟨⟨⟨⟨⟨⟨⟨⟨⟨⟨⟨⟨⟨⟨⟨⟨⟨⟨⟨⟨⟨⟨⟨⟨by kernel_rfl,by kernel_rfl⟩,by kernel_rfl⟩,by kernel_rfl⟩,by kernel_rfl⟩,by kernel_rfl⟩,by kernel_rfl⟩,by kernel_rfl⟩,by kernel_rfl⟩,sH⟩,qX⟩,rJ⟩,wK⟩,by kernel_rfl⟩,by kernel_rfl⟩,by kernel_rfl⟩,by kernel_rfl⟩,by kernel_rfl⟩,by kernel_rfl⟩,by kernel_rfl⟩,by kernel_rfl⟩,by kernel_rfl⟩,by kernel_rfl⟩,by kernel_rfl⟩,by kernel_rfl⟩,by kernel_rfl⟩,by kernel_rfl⟩,by kernel_rfl⟩,by kernel_rfl⟩,by kernel_rfl⟩,by kernel_rfl⟩,by kernel_rfl⟩
theorem bD:Rows.SegmentBackUptoSaid:=
 OpenClaim.holds_of_cond 4 Tryz.f4 rfl rfl rfl rfl rfl rfl rfl ⟨rfl,rfl,rfl,rfl,rfl⟩ rfl rfl rfl rfl rfl (by kernel_rfl) func4 NK
  (of_decide_eq_true (by kernel_rfl)) (by unfold Func.isWrapper;first|(rw [if_pos (by decide+kernel)];kernel_rfl)|(rw [if_neg (by decide+kernel)];exact⟨rfl,rfl⟩))
  (fun os started H enc _ F=>by rw [OpenClaim.pre_eq_preRow];exact ND os started H enc F)
theorem P7:Rows.segmentBackUptoRow.wfByText (Rows.OpenSpec.upto Rows.segmentBackSpec)=true:=by kernel_rfl
theorem RA:Tryz.pinned.checked.prog.mainIs=some (true,("f017f3c1bf931a095882f8ea4c7599dac00e2a1f3f4b28c4ddaa625bcbcc2c38" :String).toList):=by kernel_rfl
theorem P9:true=Tryz.pinned.checked.prog.looks []:=by kernel_rfl
theorem P8:false=Rows.segmentBackUptoRow.goesBy Tryz.pinned.checked.prog:=N4 rfl N5
theorem card_holds:Rows.SegmentBackUptoCardSaid:=
 Claim7.holds_tied_plain_at .later [] [.data,.data,.data,.data,.sentinel,.sentinel,.pinned] true (true, "f017f3c1bf931a095882f8ea4c7599dac00e2a1f3f4b28c4ddaa625bcbcc2c38") true bD (fun _ h=>by cases h) P7 (fun _ h=>by cases h) segmentBackUpto_row_tie rfl ⟨rfl,rfl⟩ RA rfl
  (fun f d e b=>by
   obtain rfl:f=4:=yG ((show Tryz.prog.funcNamed Rows.segmentBackUptoRow.func=some 4 by kernel_rfl).symm.trans e)|>.symm;obtain rfl:d=Tryz.f4:=(yG (Tryz.func4.symm.trans b)).symm
   exact⟨P9,fun j t c=>by
    rw [Tryz.params4]at c;have g:t∈ [24,25,25]:=(by simpa using Array.mem_of_getElem? c);have a:([24,25,25].all fun u=> !Tryz.prog.wantsStandIn u)=true:=(by kernel_rfl);exact(show Tryz.prog.wantsStandIn t=false by simpa using List.all_eq_true.1 a t g)⟩)
  P8
#print axioms card_holds
end Go.Proofs.YtjbhbfaeielbiaaGreatDoor.segmentBack

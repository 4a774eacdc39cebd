import Derived.Test.YtjbhbfaeielbiaaGreatDoorPart40
set_option maxRecDepth 100000
set_option maxHeartbeats 8000000
set_option linter.unusedVariables false
set_option linter.unusedSimpArgs false
namespace Go.Proofs.YtjbhbfaeielbiaaGreatDoor
open Go.Proofs.Tryz
open Rep (rep)
open Go.RowKit
attribute [local go_sem ↓] zU zV
theorem GO {f a n:Nat} {l s:List Pt} {d c:Nat} (e:l.length=n) (g:¬n<=8) (h:(xF l a).1=d) (i:s=Zu d l) (b:(n+1) / 2=c):
 allP (f+1) a l=allP f a (s.take c)++allP f a (s.drop c):=by
 subst i h;rw [allP,if_neg (by rw [e];exact g),e,b]
theorem ER {n a:Nat} (h:(n+1) / 2=a) (d:n<1000000000):Int.tdiv (n:Int) 2=((n - a:Nat):Int)/\IntKind.i64.wrap (Int.tdiv (n:Int) 2)=((n - a:Nat):Int):=by
 have b:Int.tdiv (n:Int) 2=((n / 2:Nat):Int):=rfl;have c:n / 2=n - a:=by omega
 rw [b,c];exact⟨rfl,by rw [zT];omega⟩
theorem Sp.rot5 {w:O} {A B C D E:Asn} {L:List Asn} (h:Sp w (A::B::C::D::E::L)):Sp w (B::C::D::E::A::L):=Sp.selT [A,B,C,D,E] h [1,2,3,4,0]
theorem nA {q p a:Nat} (hi:0<a) (h4:a<=4):∀(f:Nat) (w:O) (L:List Asn) (m c n:Nat) (A:aA) (CX:List aF) (PX l:List Pt) (pre post:aC),ZG a l->l.length=n->n<=f->0<f->m+n<=1048576->
 Sp w (O1 q p a (rsAt pre (xS f a l++post)) A m c CX PX L)->
 Calls prog 212 #[.pointer (some ⟨q,0,none⟩),.int .i64 (n:Int)] w fun e w' =>∃b A' c' xi,
  e= .returned (.pointer (some ⟨b,0,none⟩))/\Sp w' (O1 q p a (rsAt (pre++xS f a l) post) A' (m+n) c' xi (PX++allP f a l) L)
 |0,_,_,_,_,_,_,_,_,_,_,_,_,_,_,h0,_,_=>absurd h0 (Nat.lt_irrefl _)
 |f+1,w,L,m,c,n,A,CX,PX,l,pre,post,hP,hn,hf,_,hm,h=>by
  by_cases hk:n<=8
  ·exact DX hP hi h4 hn hk (by omega) h
  ·have IH:=zA (nA (q:=q) (p:=p) hi h4 f);obtain⟨j,U⟩:=eX ((n+1) / 2);have ak:0<j:=(by omega);have ai:decide ((8:Int)<(n:Int))=true:=(by simp;omega);have ae :j<n:=(by omega);obtain⟨J,K⟩:=nN U (by omega);obtain⟨M,N⟩:=ER U (by omega);obtain⟨d,hd⟩:=eX ((xF l a).1);have y4:d<a:=(by rw [<-hd];exact VN _ _ hi);obtain⟨s,hs⟩:∃s,s=Zu d l:=⟨_,rfl⟩
   have y6:s.length=n:=(by rw [hs,UZ,hn]);have S:ZG a s:=(by rw [hs];exact hP.perm (Yc d l));obtain⟨pt,hl⟩:∃pt,s[j]? =some pt:=⟨_,zB (by omega)⟩;have I:=S pt (zD hl);obtain⟨x,hx⟩:∃x,pt.2[d]? =some x:=⟨_,zB (by rw [I.1];exact y4)⟩;have h9:=I.2.2.2 x (zD hx);have T:=jS (f:=f) (x:=x) hn hk hd hs U (by rw [hl];simp [Pt.x_get hx]);have h2:=GO (f:=f) hn hk hd hs U
   obtain⟨lb,hj⟩:=eX (xS f a (s.take j));obtain⟨Y,ho⟩:=eX (xS f a (s.drop j));rw [hj,ho]at T;rw [T,h2];obtain⟨o,H⟩:=eX (lb.length);rw [H];rw [T,H,show([1]++zP d++zP (yc x)++zP o++lb++Y)++post= [1]++(zP d++(zP (yc x)++(zP o++(lb++(Y++post))))) by simp]at h;obtain⟨S0,h6⟩:=h.rdOf;have h3:=h6.2.2.1;simp only [rsAt,zG]at h3;have c0:=h.cl M1 0
   have HB:=zA (XQ h (z:=1) rfl (by omega));have x1:Hid (ZG a (s.take j)):=fun p hp=>S p (yu hp);have x2:Hid (ZG a (s.drop j)):=fun p hp=>S p (List.mem_of_mem_drop hp);have x3:Hid ((s.take j).length=j):=(by show _=_;rw [zr];omega);have x4:Hid ((s.drop j).length=n - j):=(by show _=_;rw [ze];omega);obtain⟨N2,hh⟩:=eX ((Y++post).length)
   have h1:o+N2<=140737488355328:=(by rw [<-hh,<-H,zG];omega);have hw:=zA hj;have hy:=zA ho;have X:=zA H;have Z:=zA hh;have x8:=zA h9;clear hj ho H hh h9 h3 h6 T h2 hx I hl S y6 hs hd hP hn h;go_enter func212,ntmps212;go_wp2_with fail;refine HB.o.mono ?_;rintro e w1 ⟨A1,rfl,v⟩;obtain⟨g1,rfl, -, -⟩:=(v.rowOf M0).at_ (by decide)
   have k0:w1.cell? ⟨g1,0,none⟩=some (.int .u8 1):=v.rowCell M0 rfl;have c1:=v.cl M2 0;have y0:=v.cl M2 1;have ha:=v.tail;have HE:=zA (QA ha);have HG:=zA Ut;clear HB v c0
   go_wp2_with (first
    |(go_at_call 79;refine HE.o.mono ?_;rintro e w' ⟨rfl,rfl⟩)
    |(go_at_call 211;refine(HG.o _).mono ?_;rintro e w' ⟨rfl,rfl⟩))
   obtain⟨B,y5⟩:∃B,a=B+1:=⟨a - 1,by omega⟩;subst y5;have y7:IntKind.i64.wrap (((B+1:Nat):Int) - 1)=(B:Int):=(by rw [zT];omega);have y8:(((B+1:Nat):Int) - 1)=(B:Int):=(by omega);have aa:IntKind.i64.wrap (B:Int)=(B:Int):=(by rw [zT];omega);have HZ:=ZH ha.drew B (by omega);rw [yn (show d<2^64 by omega) (show d<=B by omega)]at HZ;have HZ:=zA HZ;clear k0 HE
   go_region_held3 (fun W=>W.cell? ⟨q,0,none⟩=some (.pointer (some ⟨p,0,none⟩))/\W.cell? ⟨q,1,none⟩=some (.int .i64 ((B+1:Nat):Int))) (first|with_reducible assumption|go_keep|(with_reducible exact⟨by assumption,by assumption⟩)|fail) (first
    |(go_at_call 74;refine HZ.o.mono ?_;rintro e w2 ⟨rfl,Q⟩;have c2:=Q.cl M1 0;have y1:=Q.cl M1 1;have HI:=gB Q;rw [Vm x8.o]at HI;have HI:=zA HI)
    |(go_at_call 134;refine HI.o.mono ?_;rintro e w3 ⟨rfl,R⟩;have c3:=R.cl M1 0;have y2:=R.cl M1 1)
    |fail)
   obtain⟨Bx,hg⟩:=eX (w3.heap.size);have E:=(R.blkH 394 #[.slice none 0 0,.int .i64 (d:Int),.int .i64 x,.pointer none,.pointer none] hg).rot5;go_wp2;obtain⟨w5,h8⟩:=eX (w3.alloc (.cells #[.slice none 0 0,.int .i64 (d:Int),.int .i64 x,.pointer none,.pointer none] 394));rw [h8]at E⊢;rw [hg];have c5:=E.cl M1 0;obtain⟨N1,hz⟩:=eX (o+N2);obtain⟨N0,y3⟩:=eX ((zP o).length+N1)
   have h7:=ya (n:=o) (by omega);have C:=Xz E.drew;rw [YL,show(zP o++(lb++(Y++post))).length=N0 by rw [zG,zG,X.o,Z.o];omega]at C;have C:=zA C;have G:=fun k=>ZH (E.drewN k) N0 (by omega);rw [yn (show o<2^64 by omega) (show o<=N0 by omega)]at G;have G:=zA G;have aj:o<=N1:=(by omega)
   have he:Hid (IntKind.i64.wrap ((N1:Int) - (N2:Int))=(o:Int)):=(by show _=_;rw [zT];omega);have hc:Hid (((N1:Int) - (N2:Int))=(o:Int)):=(by show _=_;omega);have x6:Hid (wrap64 (o:Int)=(o:Int)):=(by show _=_;unfold wrap64;omega);have xs:=zA hz;clear h8 c1 y0 c2 y1 c3 y2 ha Q R HZ HI hg y7 y8 aa hz y3 h1 h7
   go_region_held3 (fun W=>W.cell? ⟨q,0,none⟩=some (.pointer (some ⟨p,0,none⟩))) (first|with_reducible assumption|go_keep|fail) (first
    |(go_at_call 77;refine C.o.mono ?_;rintro e w6 ⟨rfl,k6,rfl⟩)
    |(go_at_call 74;refine(G.o _).mono ?_;rintro e w7 ⟨rfl,F⟩;have c7:=F.cl M1 0)
    |fail)
   have ht:=zA (QA F);have r:=Xz F;rw [YL,show(lb++(Y++post)).length=N1 by rw [zG,X.o,Z.o];exact xs.o]at r;have r:=zA r
   have hu:=zA (fun k=>IH.o (w7.drewN k) (BlkA Bx 394 #[.slice none 0 0,.int .i64 (d:Int),.int .i64 x,.pointer none,.pointer none]::L) m c j A CX PX (s.take j) (pre++ [1]++zP d++zP (yc x)++zP o) (Y++post) x1.o x3.o (by omega) (by omega) (by omega) (by rw [hw.o];exact F.drewN k));clear C G c5 E
   go_wp2_with (first
    |(go_at_call 79;refine ht.o.mono ?_;rintro e w' ⟨rfl,rfl⟩)
    |(go_at_call 211;refine(HG.o _).mono ?_;rintro e w' ⟨rfl,rfl⟩)
    |(go_at_call 77;refine r.o.mono ?_;rintro e w8 ⟨rfl,k8,rfl⟩))
   refine(hu.o _).mono ?_;rintro e w8 ⟨b1,A8,c8,xn,rfl,y⟩;have al:Bx≠q:=y.p1.p4.ne;have ag:=y.cl M1 0;have ah:=y.cl M4 3;have af:=(y.blkOf M4).frozen 3;have hb:=y.p4.set 3 (.pointer (some ⟨b1,0,none⟩));have t:=Xz hb.p1;rw [YL,Z.o]at t;have t:=zA t;have i:=he.o;have g:=hc.o;have P:=x6.o
   have hv:=zA (fun k=>IH.o ((w8.setCell ⟨Bx,3,none⟩ (.pointer (some ⟨b1,0,none⟩))).drewN k) _ (m+j) c8 (n - j) A8 xn (PX++allP f (B+1) (s.take j)) (s.drop j) (pre++ [1]++zP d++zP (yc x)++zP o++xS f (B+1) (s.take j)) post x2.o x4.o (by clear J K M N i g P;omega) (by clear J K M N i g P;omega) (by clear J K M N i g P;omega) (by rw [hy.o];exact hb.rot5.drewN k))
   clear y hb c7 F ht r hu
   go_wp2_with (first
    |(go_at_call 211;refine(HG.o _).mono ?_;rintro e w' ⟨rfl,rfl⟩)
    |(go_at_call 77;refine t.o.mono ?_;rintro e w9 ⟨rfl,k9,rfl⟩))
   refine(hv.o _).mono ?_;rintro e am ⟨b2,xb,ys,hr,rfl,u⟩;have ad:=u.cell M4 4;have ab:=(u.blkOf M4).frozen 4;have D:=(u.p4.set 4 (.pointer (some ⟨b2,0,none⟩))).tail;have h5:m+j+(n - j)=m+n:=(by clear J K M N i g P;omega);rw [h5,hw.o,hy.o]at D;have x5:=zA D;clear u D hv i g P J K M N h5;go_wp2;go_ret
   refine⟨Bx,xb,ys,hr,rfl,?_⟩;have h:=x5.o;have e1:pre++ [1]++zP d++zP (yc x)++zP o++lb++Y=pre++([1]++zP d++zP (yc x)++zP o++lb++Y):=(by simp);rw [e1,zO PX]at h;exact h
theorem vC (p q:Addr) (w:O):
 CallsD prog 210 #[.pointer (some p),.pointer (some q)] .returning w fun e c w' =>e= .returned (.tuple #[])/\c = .returning/\Below w.heap.size w w' :=by
 have b:∀W:O,(Instr.typeAssert Value.nilIface 20 336 true).run prog W= .ok (.tuple #[.agg #[],.bool false]) W:=fun W=>by kernel_rfl
 refine callsD_of_wpS func210 rfl fun c₀ cs a=> ?_
 apply wpS_seq
 apply wpS_region
 simp [wpOpsS,go_sem,recoverD,a,ntmps210,Exit.thenS];refine wpS_of_wp ?_;show Code.wp _ _ _ {tmps:= #[.pointer (some p),.pointer (some q),.nilIface,undef,undef,.nilIface,undef,undef,undef,undef,undef,undef,undef,undef,undef],defers:= []} _;go_wp2;refine⟨rfl,.returning,?_,.tuple #[],results_none rfl _ _ _,rfl,rfl,(zE _ _).alloc (zC _) _⟩;cases c₀;simp only at a;subst a;rfl
section
variable {w:O} {L:List Asn}
theorem F9 {w:O} {s e:Nat} {v:V} {a:aG} (c:a.getD 2 undef= .pointer (some ⟨s,0,none⟩)) (d:a.getD 3 undef= .pointer (some ⟨e,0,none⟩)) (i:w.cell? ⟨s,0,none⟩=some v) (h:w.cell? ⟨e,0,none⟩=some (.int .i64 0)):
 (results Tryz.f156 a).run prog w= .ok (.tuple #[v,.int .i64 0]) w:=by
 have b:Tryz.f156.results= #[ResultVar.cell 2 104,ResultVar.cell 3 27]:=rfl;have f:a[2]?.getD undef= .pointer (some ⟨s,0,none⟩):=by simpa using c
 have g:a[3]?.getD undef= .pointer (some ⟨e,0,none⟩):=by simpa using d
 simp [results,b,f,g,asAddr,Result.andThen,go_sem,i,h]
theorem Sp.focusPt {A:aA} {n c k:Nat} {ps:List Pt} {p:Pt} (h:Sp w (DatA (.slice A n c) ps::L)) (l:ps[k]? =some p):
 ∃b off A' n' a,A=some ⟨b,off,none⟩/\w.cell? ⟨b,off+k*2,none⟩=some (.int .i64 p.1)/\w.cell? ⟨b,off+k*2+1,none⟩=some (.slice A' n' a)/\p.2.length=n' /\Sp w (Z1 [.slice A n c] ps [.slice A' n' a] p.2::L):=by
 obtain⟨S,o,q,r⟩:=h;obtain⟨⟨t,v,u,e,d⟩,g⟩:=q;cases e;have f:k<n:=by rw [<-d.length];exact zN l
 obtain⟨b,off,x,rfl,m,_,cs,s,j⟩:=d.at_ f
 have e:=m.o.symm.trans l;cases e;obtain⟨A',n',a,rfl, -,i⟩:=Pt.at_ s
 exact⟨b,off,A',n',a,rfl,j 0 _ rfl,j 1 _ rfl,i.length,S,o,⟨⟨⟨_,_,_,rfl,d⟩,g⟩,⟨⟨_,_,_,rfl,i⟩,g⟩⟩,r⟩
end
theorem kA (A:aA) (nb c a n:Nat) (h:List Pt) (w:O) (av:nb<=100000000000000) (hl:RB w A nb (bkdB a h)) (hP:ZG a h) (X:0<a) (hr:a<=4) (hlen:h.length=n) (hn:n<=1048576):
 Calls prog 156 #[.slice A nb c] w fun e w' =>∃D,e= .returned (.tuple #[.pointer (some ⟨D,0,none⟩),.int .i64 0])/\Below w.heap.size w w' :=by
 have au:=@mF prog;obtain⟨f,hf⟩:∃f,f=(if n=0 then 1 else n):=⟨_,rfl⟩
 have hp:bkdB a h=zP a++(zP n++xS f a h):=by
  unfold bkdB;rw [hlen]
  by_cases h0:n=0
  ·subst h0 hf;have:=zS hlen;subst this
   have e:xS 1 a []= [0,0]:=by
    rw [xS,if_pos (by simp),show Zu 0 []= [] by simp [Zu]];rw [YT (by simp)];rfl
   rw [if_pos rfl,if_pos rfl,e];simp
  ·rw [hf,if_neg h0,if_neg h0];simp
 have x2:0<f:=by rw [hf];split<;>omega
 have x8:n<=f:=by rw [hf];split<;>omega
 obtain⟨m,ho⟩:=eX (w.heap.size);have hh:=((Sp.start w).blkH 104 #[.pointer none] ho).blkH 27 #[.int .i64 0] (H:=m+1) (by simp [ho]);have y0:RB (((w.alloc (.cells #[.pointer none] 104))).alloc (.cells #[.int .i64 0] 27)) A nb (bkdB a h):=hl.on (hh.below M2);have HN:=zA (VG (c:=c) hh y0 (by omega));rw [hp]at HN;have Hl:=zA hl;have HP:=zA hP;have R:=zA hlen;have ap:=zA hp
 clear hl hP hlen hp y0 hh hf
 go_enter_defers func156,ntmps156
 go_wp2_with fail;refine HN.o.mono ?_;rintro e w1 ⟨p,rfl,hw⟩;obtain⟨q,hq⟩:=eX (w1.heap.size);have d:=(hw.blkH 340 #[.pointer (some ⟨p,0,none⟩),.int .i64 0,.slice none 0 0] hq).p1;have d:Sp _ (RdA p (rsAt [] (zP a++(zP n++xS f a h)))::_):=d;have P:=ZH d 4 (by omega);rw [yn (show a<2^64 by omega) hr]at P;have P:=zA P;clear HN hw d;go_wp2_with fail
 refine P.o.mono ?_;rintro e w2 ⟨rfl,v⟩;have q1:=v.cl M1 1;have q0:=v.cl M1 0;have qf:=(v.blkOf M1).frozen 1;have hy:=(v.p1.set 1 (.int .i64 (a:Int))).p1;have Q:=ZH hy 1048576 (by omega);rw [show zP n++xS f a h=zP n++xS f a h from rfl,yn (show n<2^64 by omega) hn]at Q;have Q:=zA Q;clear P v hy hq;go_wp2_with fail;refine Q.o.mono ?_
 rintro e w3 ⟨rfl,M⟩;have c0:=M.cl M1 0;have C:=M.cl M1 1;have HE:=zA (QA (post:=xS f a h) M);have HG:=zA Ut;have x1:decide ((0:Int)<(a:Int))=true:=by simp;omega
 clear Q q0 q1 qf
 go_wp2_with (first
  |(go_at_call 79;refine HE.o.mono ?_;rintro e w' ⟨rfl,rfl⟩)
  |(go_at_call 211;refine(HG.o _).mono ?_;rintro e w' ⟨rfl,rfl⟩))
 have hi:Sp _ (O1 q p a (rsAt ([]++zP a++zP n) (xS f a h)) none 0 0 [] [] [BlkA (m+1) 27 #[.int .i64 0],BlkA m 104 #[.pointer none],OldA w.heap.size w]):=
  Sp.selT [_,_,_,_] ((M.nil 232 2).elsNil (α:=Pt)) [2,3,1,0]
 rw [<-zo (xS f a h)]at hi;have hg:=zA (nA X hr f _ _ 0 0 n none [] [] h _ [] HP.o R.o x8 x2 (by omega) hi.drew);rw [zx]at hg;clear M hi HE c0 x1
 go_region_held3 (fun W=>W.cell? ⟨q,1,none⟩=some (.int .i64 (a:Int))) (first|with_reducible assumption|go_keep|fail) (first
  |(go_at_call 212;refine hg.o.mono ?_;rintro e w4 ⟨rt,Y,E,ao,rfl,B⟩;obtain⟨u,h9⟩:=eX (w4.heap.size);have aa:=B.cl M1 1;have aw:m≠q:=(B.p1.p5).ne;have b0:=(fun o=>(B.al o).cell M5 0);have bf:=(fun o=>((B.al o).blkOf M5).frozen 0))
  |fail)
 have h1:=((B.blkH 345 #[.int .i64 (a:Int),.int .i64 (n:Int),.pointer (some ⟨rt,0,none⟩),.slice none 0 0,.slice none 0 0] h9).p6).set 0 (.pointer (some ⟨u,0,none⟩));have l:Sp _ (DatA (.slice Y n E) (allP f a h)::_):=Sp.els (Sp.selT [_,_,_,_,_,_,_,_] h1 [4,5,0,1,3,6,7]);clear B h1 hg aa b0 bf C;go_wp2
 obtain⟨w5,y2⟩:=eX ((w4.alloc (.cells #[.int .i64 (a:Int),.int .i64 (n:Int),.pointer (some ⟨rt,0,none⟩),.slice none 0 0,.slice none 0 0] 345)).setCell ⟨m,0,none⟩ (.pointer (some ⟨u,0,none⟩)));rw [y2]at l⊢;clear y2 h9;have t:(allP f a h).Perm h:=Uw f a h (by rw [R.o];exact x8) x2;obtain⟨ps,ys⟩:=eX (allP f a h);rw [ys]at l t
 have hv:Hid (ZG a ps):=HP.o.perm t;have h6:Hid (ps.length=n):=by show _=_;rw [t.length_eq,R.o]
 have xn:bkdB a ps=bkdB a h:=BZ t;have HB:=Qm Y n E a ps _ (l.drew.ls M0) hv.o X hr hn;rw [xn]at HB;have HB:=zA HB;have ha:=l.drew;have C:=l.cl M3 1;have c2:=l.cl M3 2;clear l t xn ys ho
 go_region_held3 (fun W=>W.cell? ⟨q,1,none⟩=some (.int .i64 (a:Int))/\W.cell? ⟨q,2,none⟩=some (.slice Y n E)) (first|with_reducible assumption|(with_reducible exact⟨by assumption,by assumption⟩)|go_keep|fail) (first
  |(go_at_call 167;refine HB.o.mono ?_;rintro e w6 ⟨A6,m6,c6,rfl,ak,r⟩;have g:=ha.c1 r;have J:=bY A6 A m6 nb c6 c (bkdB a h) (bkdB a h) _ (by omega) (g.rb M0).1 (Hl.o.on (g.below M6));rw [decide_eq_true rfl]at J;have J:=zA J;have ab:=g.cl M4 1;have h8:=g.cl M4 2)
  |(go_at_call 145;refine J.o.mono ?_;rintro e w7 ⟨rfl,k7,rfl⟩)
  |(go_at_call 211;refine(HG.o _).mono ?_;rintro e w' ⟨rfl,rfl⟩)
  |fail)
 have y:Sp _ [IA none 0 0 [],IA none 0 0 [],BlkA u 345 #[.int .i64 (a:Int),.int .i64 (n:Int),.pointer (some ⟨rt,0,none⟩),.slice none 0 0,.slice none 0 0],DatA (.slice Y n E) ps,BlkA m 104 #[.pointer (some ⟨u,0,none⟩)],BlkA q 340 #[.pointer (some ⟨p,0,none⟩),.int .i64 (a:Int),.slice Y n E],BlkA (m+1) 27 #[.int .i64 0],OldA w.heap.size w]:=((((g.tail).drewN k7).p2.nil 2 1).nil 2 1)
 have ad:(w6.drewN k7).cell? ⟨q,2,none⟩=some (.slice Y n E):=h8;clear ha r J HB g C c2 ab h8 ak;go_wp2;clear ad
 go_loopg [6,7,8,9,69,91] n (fun gk _ _ _ _ vi _ wr=>∃(k z:Nat) (Al Z:aA) (cl F:Nat) (I G:aD),vi= .int .i64 k/\k<=n/\gk=n - k/\z=(if k=0 then 0 else a)/\Sp wr [IA Al z cl I,IA Z z F G,BlkA u 345 #[.int .i64 (a:Int),.int .i64 (n:Int),.pointer (some ⟨rt,0,none⟩),.slice Al z cl,.slice Z z F],DatA (.slice Y n E) ps,BlkA m 104 #[.pointer (some ⟨u,0,none⟩)],BlkA q 340 #[.pointer (some ⟨p,0,none⟩),.int .i64 (a:Int),.slice Y n E],BlkA (m+1) 27 #[.int .i64 0],OldA w.heap.size w])
 case atStart=>exact⟨0,0,none,none,0,0, [], [],rfl,zJ _,rfl,rfl,y⟩
 case round=>
  obtain⟨k,z,Al,Z,cl,F,I,G,rfl,hk,rfl,hz,HS⟩:=hrel;clear y
  by_cases aj:k<n
  ·obtain⟨pt,ht⟩:∃pt,ps[k]? =some pt:=⟨_,zB (by rw [h6.o];exact aj)⟩;obtain⟨b,off,S,i,C,rfl,f0,f1,x5,hm⟩:=HS.p3.focusPt ht;have hd:=hv.o pt (zD ht);have am:i=a:=(by rw [<-x5];exact hd.1);subst am;obtain⟨D,hD⟩:=eX (pt.1);rw [hD]at f0;obtain⟨Bp,xb⟩:=eX (wr.heap.size);clear HS hd x5 ht hD
   have e1:∀o,(wr.alloc o).cell? ⟨m,0,none⟩=some (.pointer (some ⟨u,0,none⟩)):=fun o=>(hm.al o).cell M4 0;have r:=(hm.blkH 232 #[.int .i64 D,.slice S i C] xb)
   go_upto_if 75 with fail
   obtain⟨w8,y3⟩:=eX (wr.alloc (.cells #[.int .i64 D,.slice S i C] 232));rw [y3]at r⊢;clear e1 y3 f0 f1 xb hm
   go_cut []from 76 to 87 (fun W=>∃(Al Z:aA) (cl F:Nat) (I G:aD),Sp W [IA Al i cl I,IA Z i F G,BlkA u 345 #[.int .i64 (i:Int),.int .i64 (n:Int),.pointer (some ⟨rt,0,none⟩),.slice Al i cl,.slice Z i F],Z1 [.slice (some ⟨b,off,none⟩) n E] ps [.slice S i C] pt.2,BlkA m 104 #[.pointer (some ⟨u,0,none⟩)],BlkA q 340 #[.pointer (some ⟨p,0,none⟩),.int .i64 (i:Int),.slice (some ⟨b,off,none⟩) n E],BlkA (m+1) 27 #[.int .i64 0],OldA w.heap.size w,BlkA Bp 232 #[.int .i64 D,.slice S i C]])
   case first=>
    by_cases x4:k=0
    ·subst x4;have d0:=r.cl M5 0;have d1:=r.cl M0 1;have g1:u≠m:=(Sp.p1 (r.p5.p5)).ne.symm;have g2:u≠Bp:=(r.p4).ne;have h3:=r.drew;have y4:=zA (XW S i C _ _ (by omega) (h3.ls2 M1).reads_ints (Y3 _));clear r;go_wp2
     go_region_held3 (fun W=>W.cell? ⟨m,0,none⟩=some (.pointer (some ⟨u,0,none⟩))/\W.cell? ⟨Bp,1,none⟩=some (.slice S i C)) (first|with_reducible assumption|(with_reducible exact⟨by assumption,by assumption⟩)|go_keep|fail) (first
      |(go_at_call 96;refine y4.o.mono ?_;rintro e w9 ⟨A9,c9,rfl,y1,xi⟩;have l:=h3.row y1 xi;have y5:=zA (XW S i C _ _ (by omega) (l.ls2 M2).reads_ints (Y3 _));have ae:=l.cl M6 0;have af:=l.cl M1 1)
      |(go_at_call 96;refine y5.o.mono ?_;rintro e ay ⟨hu,h7,rfl,he,hc⟩;have g:=l.row he hc;have ag:=g.cl M7 0;have ah:=g.cl M2 1;have b3:=g.cell M6 3;have b4:=g.cell M6 4;have y7:=(g.blkOf M6).frozen 3;have y8:=(g.blkOf M6).frozen 4)
      |fail)
     all_goals
      have y:=(((g.p6.set 3 (.slice A9 i c9)).set 4 (.slice hu i h7)).sel [2,1,0,4,7,8,9,10,3]);clear l g y1 xi he hc d0 d1 ae af ag ah b3 b4 y7 y8;go_wp2
      go_meet
      exact⟨A9,hu,c9,h7,pt.2,pt.2,y⟩
    ·have an:z=i:=(by rw [hz,if_neg x4]);subst an;have ar:((k:Int)==0)=false:=(by simp;omega);go_wp2
     go_meet
     exact⟨Al,Z,cl,F,I,G,r.sel [2,3,4,1,5,6,7,8,0]⟩
   case rest=>
    obtain⟨Al,Z,cl,F,I,G,N⟩:=hcut;obtain⟨U,rfl, -, -⟩:=(N.rowOf M0).at_ X
    obtain⟨T,rfl, -, -⟩:=(N.rowOf M1).at_ X
    have d1:=N.cl M8 1;go_wp2;clear d1
    go_loopg [8,9,91] i (fun gj _ _ vj wr=>∃(j:Nat) (I G:aD),vj= .int .i64 j/\j<=i/\gj=i - j/\Sp wr [IA (some ⟨U,0,none⟩) i cl I,IA (some ⟨T,0,none⟩) i F G,BlkA u 345 #[.int .i64 (i:Int),.int .i64 (n:Int),.pointer (some ⟨rt,0,none⟩),.slice (some ⟨U,0,none⟩) i cl,.slice (some ⟨T,0,none⟩) i F],Z1 [.slice (some ⟨b,off,none⟩) n E] ps [.slice S i C] pt.2,BlkA m 104 #[.pointer (some ⟨u,0,none⟩)],BlkA q 340 #[.pointer (some ⟨p,0,none⟩),.int .i64 (i:Int),.slice (some ⟨b,off,none⟩) n E],BlkA (m+1) 27 #[.int .i64 0],OldA w.heap.size w,BlkA Bp 232 #[.int .i64 D,.slice S i C]])
    case atStart=>exact⟨0,I,G,rfl,zJ _,rfl,N⟩
    case round=>
     obtain⟨j,I,G,rfl,hj,rfl,d⟩:=hrel;clear N
     by_cases hs:j<i
     ·obtain⟨b1,o1,x,rfl, -,ai,xs⟩:=(d.ls2 M3).at_ hs
      have xs:=xs.int.1;obtain⟨lx,x6⟩:∃lx,I[j]? =some lx:=⟨_,zB (by rw [(d.ilen M0).1];exact hs)⟩;obtain⟨hx,x3⟩:∃hx,G[j]? =some hx:=⟨_,zB (by rw [(d.ilen M1).1];exact hs)⟩;have e1:=d.cl M4 0;have e2:=d.cl M2 3;have e3:=d.cl M2 4;have e4:wr.cell? ⟨U,j,none⟩=some (.int .i64 lx):=d.rowCell M0 (Z9 x6);have e5:wr.cell? ⟨T,j,none⟩=some (.int .i64 hx):=d.rowCell M1 (Z9 x3)
      have e6:=d.rowFree M0 j;have e7:=d.rowFree M1 j;have g1:U≠T:=d.neRR;have aq :T≠U:=d.neRR.symm;have g2:U≠u:=d.d1.neRB;have g3:T≠u:=d.tail.neRB;have g4:U≠m:=(d.d1.d1.d1).neRB;have g5:T≠m:=(d.tail.d1.d1).neRB;have h4:=(((d.rowSet j (.int .i64 (min lx x))).p1.rowSet j (.int .i64 (max hx x))).p1).drew
      have h5:=(((d.p1.rowSet j (.int .i64 (max hx x))).p1.rowSet j (.int .i64 (min lx x)))).drew;rw [<-WR,<-WR]at h4 h5;clear d x6 x3 ai;go_wp2;refine wp_region_noPanic ?_
      refine gR [(29,fun W=>W.cell? ⟨U,j,none⟩=some (.int .i64 lx)),(31,fun W=>W.cell? ⟨m,0,none⟩=some (.pointer (some ⟨u,0,none⟩))/\W.cell? ⟨u,3,none⟩=some (.slice (some ⟨U,0,none⟩) i cl)/\W.cell? ⟨u,4,none⟩=some (.slice (some ⟨T,0,none⟩) i F)/\W.cell? ⟨T,j,none⟩=some (.int .i64 hx))] (zg e4 (hB ⟨e1,e2,e3,e5⟩)) ?_;refine gL 0 31 M1 ?_;refine gF 1 ?_;refine gF 2 ?_
      refine gL 3 31 M1 ?_;refine gF 4 ?_;refine gL 5 31 M1 ?_;refine gF 6 ?_;refine gF 7 ?_;refine gL 8 31 M1 ?_;refine gF 9 ?_;refine gL 10 31 M1 ?_;refine gF 11 ?_;refine gF 12 ?_;refine gL 13 31 M1 ?_;refine gF 14 ?_;refine gF 15 ?_;refine gL 16 29 M0 ?_;refine gF 17 ?_;refine gF 18 ?_;refine gL 19 31 M1 ?_;refine gF 20 ?_;refine gF 21 ?_;refine gL 22 31 M1 ?_;refine gF 23 ?_
      refine gF 24 ?_;refine gL 25 31 M1 ?_;refine gF 26 ?_;refine gF 27 ?_;refine gF 28 ?_;intro hC;refine gO 29 fun K hK=> ?_;go_simp;refine hK.o _ _ (YP (by kernel_rfl) (hB ⟨by go_simp,by go_simp,by go_simp,by go_simp⟩)) ?_;clear hK K hC;refine gF 30 ?_;intro hC;refine gO 31 fun K hK=> ?_;go_simp;refine hK.o _ _ hA ?_;clear hK K hC;intro hC;refine xW (by kernel_rfl) ?_
      refine NoPanic.normal ?_
      all_goals
       clear e1 e2 e3 e4 e5 e6 e7;go_wp2
       go_roundg (i - (j+1))
       case measure=>omega
       case rel=>first
        |exact⟨j+1,_,_,by go_num,by omega,rfl,h4⟩
        |exact⟨j+1,_,_,by go_num,by omega,rfl,h5⟩
     ·obtain rfl:j=i:=by omega
      have v:=(d.p3.unfocus).sel [1,2,3,0,4,5,6,7];clear d;go_wp2
      go_roundg (n - (k+1))
      ·exact⟨k+1,j,_,_,cl,F,I,G,by go_num,by omega,rfl,by rw [if_neg (by omega)],v⟩
      ·omega
  ·obtain rfl:k=n:=by omega
   have e1:=HS.cl M4 0;have e2:=HS.cl M6 0;have e3:=(HS.blkOf M4).frozen 0;have e4:=(HS.blkOf M6).frozen 0;have y6:=(HS.p4.set 0 (.pointer (some ⟨u,0,none⟩))).p6.set 0 (.int .i64 0);have e5:m≠m+1:=(by omega);clear HS;have eg:=enters_of func210 (by kernel_rfl) rfl;go_wp2
   refine leaves_cons (f:=210) (args:= #[.pointer (some ⟨m,0,none⟩),.pointer (some ⟨m+1,0,none⟩)]) (by simp) (by simp [invoke,go_sem,eg]) ?_;refine(vC _ _ _).mono ?_;rintro e u' ax ⟨rfl,rfl,hb⟩;have h2:=y6.grow hb;refine⟨_,F9 (s:=m) (e:=m+1) (by rfl) (by rfl) (h2.cell M1 0) (h2.cell M0 0),u,rfl,h2.below M7⟩
end Go.Proofs.YtjbhbfaeielbiaaGreatDoor

import Derived.Test.YtjbhbfaeielbiaaGreatDoorPart37
import Derived.Test.YtjbhbfaeielbiaaGreatDoorPart36
import Derived.Test.YtjbhbfaeielbiaaGreatDoorPart34
set_option maxRecDepth 100000
set_option maxHeartbeats 8000000
set_option linter.unusedVariables false
set_option linter.unusedSimpArgs false
namespace Go.Proofs.YtjbhbfaeielbiaaGreatDoor
open Go.Proofs.Tryz
open Rep (rep)
open Go.RowKit
attribute [local go_sem ↓] zU zV
theorem pC:∀(ts:List aB),ts.length<=(ts.flatMap XY).length
 | []=>by simp
 |t::ts=>by
  have h:=pC ts;have a:=Yb t.size;simp only [zp,zG,z6,XY];omega
theorem DQ (A:aA) (nb c:Nat) (rows:List (List aB)) (w:O) (hc:nb<=c) (av:c<=9223372036854775807) (a3:nb<=100000000000) (J:RB w A nb (Z5 rows)) (hn:rows.length<=16384) (X:∀r∈rows,r.length<=64/\∀x∈r,x.size<=256):
 Calls prog 152 #[.slice A nb c] w fun e w' =>∃p,e= .returned (.tuple #[.pointer p,.int .i64 0])/\Below w.heap.size w w' :=by
 obtain⟨ls,R⟩:=eX (WH rows);obtain⟨ts,y⟩:=eX (WD ls);obtain⟨s,U⟩:=eX (X6 ls);obtain⟨n,S⟩:=eX (ls.length);obtain⟨T,hT⟩:=eX (ts.length);have h5:n<=16384:=by rw [<-S,<-R];unfold WH;rw [zK];exact hn
 have P:∀r∈ls,r.length<=64/\∀x∈r,x.size<=256:=by
  intro r h;rw [<-R]at h;obtain⟨r0,h0,rfl⟩:=List.mem_map.1 h;exact⟨zY (Vh r0) (X r0 h0).1,fun x v=>(X r0 h0).2 x (X9.1 v)⟩
 have hh:Z5 rows=zP T++(ts.flatMap XY ++colL s):=by unfold Z5;rw [R,y,hT,U]
 have y3:Z5 ls=Z5 rows:=by rw [<-R];exact tS rows
 have ar:T<=1048576:=by
  have h1:=vS ls;have h2:=Wq (B:=64) (ls:=ls) fun l J=>(P l J).1;rw [y,hT]at h1;rw [S]at h2;omega
 have ak:T<=nb:=by
  have h1:=J.len;have h2:=pC ts;rw [hh,zG,zG]at h1;omega
 have y4:∀x∈ts,x.size<=256:=by
  intro x v;rw [<-y]at v;obtain⟨l,J,v⟩:=List.mem_flatten.1 (X9.1 v);exact(P l J).2 x v
 have y1:s.length=n:=by rw [<-U,<-S];unfold X6;rw [zK]
 have y2:∀r∈s,r.length<=64/\∀x∈r,0<=x/\x<(T:Int):=by
  intro r X;rw [<-U]at X;refine⟨?_,fun x v=> ?_⟩
  ·unfold X6 at X;obtain⟨l0,an,rfl⟩:=List.mem_map.1 X;unfold xc;rw [zK];exact(P l0 an).1
  ·have:=oV X x v;rw [y,hT]at this;exact this
 have ho:∀(k:Nat) (l:List aB),ls[k]? =some l->∃Y,s[k]? =some Y/\l.length=Y.length/\∀(j:Nat) (t:aB),l[j]? =some t->∃i:Nat,Y[j]? =some (i:Int)/\ts[i]? =some t:=by
  intro k l hk;refine⟨xc ts l,by rw [<-U,<-y];unfold X6;rw [zH,hk];rfl,by unfold xc;rw [zK],fun j t hj=>⟨idxT ts t,by unfold xc;rw [zH,hj];rfl,pA ?_⟩⟩;rw [<-y];exact VV (zD hk) (zD hj)
 have Hl:=zA J;rw [hh]at J;have x3:=zA P;have ag:=zA hh;have ai:=zA y3;have x5:=zA y4;have M:=zA y1;have he:=zA y2;have x1:=zA ho;have HT:=zA hT;have x4:=zA S;obtain⟨f,x6⟩:=eX (w.heap.size);obtain⟨F,aj⟩:=eX (f+1);have hw:=((Sp.start w).blkH 326 #[.slice none 0 0,.slice none 0 0,.slice none 0 0] x6).blkH 102 #[.pointer (some ⟨f,0,none⟩)] (H:=F) (by simp [x6,aj])
 have h8:=zA (VG (c:=c) hw (J.on (hw.below M2)) (by omega));have aq:(nb:Int)<=100000000000:=by omega
 clear J X P hh y3 y4 y1 y2 ho hT S R y U hn;go_enter func152,ntmps152;go_wp2_with fail;refine h8.o.mono ?_;rintro e w1 ⟨p,rfl,I⟩
 have h9:Sp w1 [RdA p (rsAt [] (zP T++(ts.flatMap XY ++colL s))),BlkA F 102 #[.pointer (some ⟨f,0,none⟩)],BlkA f 326 #[.slice none 0 0,.slice none 0 0,.slice none 0 0],OldA w.heap.size w]:=by
  simpa [rsAt]using I
 have hy:=zA (ZH h9 nb (by omega));rw [yn (by omega) ak]at hy;clear h8 hw I h9;go_wp2_with fail;refine hy.o.mono ?_;rintro e w2 ⟨rfl,hb⟩;have xb:=hb.nil 9 1;clear hy hb;go_wp2
 go_loopg [6] T (fun gk vi wr=>∃(k:Nat) (C:aA) (D:Nat) (pre:aC),k<=T/\gk=T - k/\vi= .int .i64 ((T - k:Nat):Int)/\Sp wr [TA C k D (ts.take k),RdA p (rsAt pre ((ts.drop k).flatMap XY ++colL s)),BlkA F 102 #[.pointer (some ⟨f,0,none⟩)],BlkA f 326 #[.slice none 0 0,.slice none 0 0,.slice C k D],OldA w.heap.size w])
 case atStart=>exact⟨0,none,0,_,by omega,rfl,rfl,xb⟩
 case round=>
  obtain⟨k,C,D,pre,ay,rfl,rfl,q⟩:=hrel;obtain⟨z,hz⟩:=eX (T - k);rw [hz];clear xb;have HE:=zA (QA q.p1)
  by_cases a4:0<z
  ·obtain⟨t,Ht⟩:∃t,Hid (ts[k]? =some t):=⟨_,zB (by rw [HT.o];omega)⟩;have y:=x5.o t (zD Ht.o);have a5:(0:Int)<z:=(by omega);have ad:=zA (yb Ht.o);go_upto_region 6 with(refine HE.o.mono ?_;rintro e w3 ⟨rfl,rfl⟩)
   have g:Sp wr.drew [RdA p (rsAt pre (zP t.data.toList.length++t.data.toList++((ts.drop (k+1)).flatMap XY ++colL s))),TA C k D (ts.take k),BlkA F 102 #[.pointer (some ⟨f,0,none⟩)],BlkA f 326 #[.slice none 0 0,.slice none 0 0,.slice C k D],OldA w.heap.size w]:=by
    have h:=q.p1.drew;rw [ad.o,zp,zO]at h;unfold XY at h⊢;have e:t.data.toList.length=t.size:=(by simp);rw [e]
    simpa using h
   have h4:=bV g 256 (by omega);rw [QM (by simp;omega) (by simp;omega),show(⟨t.data.toList.toArray⟩:aB)=t from rfl,show((256:Nat):Int)=256 from rfl]at h4;have L:=zA h4;have hf:=g.cl M2 0;have hg:=g.cl M3 2;have ao:F≠f:=(by omega);have y0:f≠F:=(by omega);clear h4 HE
   refine gR [(11,fun W=>W.cell? ⟨f,2,none⟩=some (.slice C k D)/\W.cell? ⟨F,0,none⟩=some (.pointer (some ⟨f,0,none⟩)))] (hB ⟨hg,hf⟩) ?_;refine gL 0 11 M0 ?_;refine gL 1 11 M0 ?_;refine gF 2 ?_;refine gF 3 ?_;refine gL 4 11 M0 ?_;refine gF 5 ?_;intro hC;refine gO 6 fun K N=> ?_;go_simp;refine L.o.mono ?_;rintro e w4 ⟨rfl,o⟩;refine N.o _ _ (hB ⟨o.cell M3 2,o.cell M2 0⟩) ?_
   clear N K hC;intro hC;refine gO 7 fun K N=> ?_;go_simp;refine N.o _ _ (hB ⟨(o.al _).cell M3 2,(o.al _).cell M2 0⟩) ?_;clear N K hC;intro hC;refine gO 8 fun K N=> ?_;refine yz Ql (.tmp 31) (.tmp 34) rfl rfl o.p1 rfl (cs:= #[.string t]) rfl rfl rfl (by intro u hu;simp at hu;subst hu;rfl) (by omega) (by omega) ?_;intro G c2 w5 aw az a;have q4:=a.cl M3 2
   have q5:=(a.blkOf M3).frozen 2;refine N.o _ _ (hB ⟨a.cell M3 2,a.cell M2 0⟩) ?_;clear N K hC;refine gF 9 ?_;refine gF 10 ?_;intro hC;refine gO 11 fun K N=> ?_;go_simp;refine N.o _ _ hA ?_;clear N K hC;intro hC;refine xW (by kernel_rfl) ?_
   all_goals
    have b:=a.p3.set 2 (.slice G (k+1) c2);have e:sC (ts.take k)++ #[Value.string t].toList=sC (ts.take (k+1)):=(by rw [zI,Ht.o];simp [sC]);rw [e]at b;have d:=b.sel [1,2,3,0,4];have ap:(z:Int) - 1=((T - (k+1):Nat):Int):=(by omega);clear e b a o g q4 q5 hf hg q;go_wp2
    go_roundg (T - (k+1))
    ·exact⟨k+1,G,c2,_,by omega,rfl,by rw [<-ap],d⟩
    ·omega
  ·obtain rfl:z=0:=by omega
   obtain rfl:k=T:=by omega
   rw [zF (by rw [HT.o];omega),zQ (by rw [HT.o];omega),x7,zZ]at q;have hd:=q.strs fun x v=>by have:=x5.o x v;omega
   have HE:=zA (QA hd.p1)
   have xi:Sp wr [RdA p (rsAt pre (colL s++ [])),DatA (.slice C k D) ts,BlkA F 102 #[.pointer (some ⟨f,0,none⟩)],BlkA f 326 #[.slice none 0 0,.slice none 0 0,.slice C k D],OldA w.heap.size w]:=by
    rw [zo];exact hd.p1
   have g:Sp wr.drew [RdA p (rsAt pre (colL s++ [])),DatA (.slice C k D) ts,BlkA F 102 #[.pointer (some ⟨f,0,none⟩)],BlkA f 326 #[.slice none 0 0,.slice none 0 0,.slice C k D],OldA w.heap.size w]:=by
    rw [zo];exact hd.p1.drew
   have ha:=Xz g;rw [YL,zo]at ha;obtain⟨Z,hZ⟩:=eX ((colL s).length);rw [hZ]at ha;have h7:=zA ha
   have au:Z<=nb:=by
    have h1:=Hl.o.len;rw [ag.o]at h1;simp only [zG]at h1;omega
   have HZ:=zA hZ;have ao:F≠f:=(by omega);have y0:f≠F:=(by omega);have hf:=g.cl M2 0;have hg:wr.drew.cell? ⟨f,0,none⟩=some (.slice none 0 0)/\wr.drew.cell? ⟨f,1,none⟩=some (.slice none 0 0):=⟨g.cell M3 0,g.cell M3 1⟩;have af:Hid (∀r∈s,r.length<=64/\InL r):=fun r X=>⟨(he.o r X).1,fun x v=>by have:=(he.o r X).2 x v;omega⟩;clear ha hZ q hd
   go_upto_region 10 with(refine HE.o.mono ?_;rintro e w3 ⟨rfl,rfl⟩);clear HE
   go_cut [7]from 41 to 51 (fun v7 W=>v7= .bool true/\∃(E G:aA) (ce m:Nat),Sp W [BlkA f 326 #[.slice E n ce,.slice G m m,.slice C k D],NA E n ce (Y4 s n),IA G m m s.flatten,DatA (.slice C k D) ts,BlkA F 102 #[.pointer (some ⟨f,0,none⟩)],OldA w.heap.size w])
   case first=>
    go_region_held3 (fun W=>W.cell? ⟨F,0,none⟩=some (.pointer (some ⟨f,0,none⟩))) (first|with_reducible assumption|exact o.cell M2 0|exact a.cell M3 0|exact b.cell M5 0|go_keep)
     (first
      |(go_at_call 77;(with_reducible refine h7.o.mono ?_);rintro e w4 ⟨rfl,k4,rfl⟩;have o:=xi.drewN (1+k4);have y6:=zA (XQ (z:=Z) o HZ.o (by omega)))
      |(go_at_call 76;(with_reducible refine y6.o.mono ?_);rintro e w5 ⟨A5,rfl,a⟩;have ab:=zA (iQ A5 Z Z s w5 (zC _) (by omega) (by omega) (a.rb M0).1 (by rw [M.o];exact h5) af.o))
      |(go_at_call 204;(with_reducible refine ab.o.mono ?_);rintro e w6 ⟨E,G,ce,n2,m,rfl,aa⟩;have b:=a.call [_,_] aa;have q0:=b.d1.cl M5 0;have q1:=b.d1.cl M5 1;have q2:=(b.d1.blkOf M5).frozen 0;have q3:=(b.d1.blkOf M5).frozen 1)
      |fail)
    all_goals
     obtain rfl:n2=n:=by have h:=(b.ilen' M0).1;simp only [Y4,zK,xg]at h;rw [M.o]at h;omega
     rw [M.o]at b;have d:=((b.sel [6,0,1,4,5,7]).set 0 (.slice E n2 ce)).set 1 (.slice G m m);clear q0 q1 q2 q3 b a o;go_wp2
     go_meet
     exact⟨rfl,E,G,ce,m,d⟩
   case rest=>
    obtain⟨rfl,E,G,ce,m,d⟩:=hcut;have a2:=@mF prog;have x2:=zA (d.ilen M2).1
    have hm:m<=100000000:=by
     have h2:=Wq (B:=64) (ls:=s) fun l J=>(he.o l J).1;rw [M.o,x2.o]at h2;omega
    have hp:∀x∈s.flatten,0<=x/\x<(k:Int):=by
     intro x v;obtain⟨l,J,v⟩:=List.mem_flatten.1 v;exact(he.o l J).2 x v
    have y7:=zA (FN G m m s.flatten wc (d.rc M2) F f C k D hp (d.cell M4 0) (d.cell M0 2) (by omega));have d0:=d.cl M4 0;have d1:=d.cl M0 1;have y8:=zA (vQ f E n ce wc (d.cell M0 0));have hi:=(d.elsNil (α:=List aB)).nil 129 1;clear hp h7 HZ d hf hg g xi
    go_wp2_with (first
     |(go_at_call 205;refine y7.o.mono ?_;rintro e w7 ⟨rfl,rfl⟩)
     |(go_at_call 207;refine y8.o.mono ?_;rintro e w8 ⟨rfl,rfl⟩))
    go_loopg [8,65] n (fun gk vo vi wr=>∃(j:Nat) (Ao:aA) (co:Nat) (css:List aF),j<=n/\gk=n - j/\vi= .int .i64 j/\vo= .slice Ao j co/\Sp wr [RowA 129 1 (.slice Ao j co) j css.flatten,ElsA css (ls.take j),BlkA f 326 #[.slice E n ce,.slice G m m,.slice C k D],NA E n ce (Y4 s n),IA G m m s.flatten,DatA (.slice C k D) ts,BlkA F 102 #[.pointer (some ⟨f,0,none⟩)],OldA w.heap.size w])
    case atStart=>exact⟨0,none,0, [],zJ _,rfl,rfl,rfl,hi⟩
    case round=>
     obtain⟨j,Ao,co,css,hj,rfl,rfl,rfl,q⟩:=hrel;clear hi d0 d1
     by_cases ys:j<n
     ·obtain⟨l,h3⟩:∃l,Hid (ls[j]? =some l):=⟨_,zB (by rw [x4.o];exact ys)⟩;obtain⟨Y,ht,Q,x8⟩:=x1.o j l h3.o;have hs:=(x3.o l (zD h3.o));have d0:=q.d1.cl M5 0;have hv:=zA (vP f s n j E ce G m wr ⟨q.cell M2 0,q.cell M2 1,q.rc M3,M.o,x2.o⟩ (q.rc M4) ys hm h5 Y ht (by omega) C k D ts (q.blkOf M2).lt (q.cell M2 2) (q.ls M5) l Q x8)
      obtain⟨z,y5⟩:=eX (l.length);rw [y5]at hv;have ae:=zA hs.2;clear ht Q x8 hs y5;go_wp2_with fail;refine hv.o.mono ?_;rintro e w3 ⟨A5,c5,rfl,xn⟩;have hb:=((q.c1 xn).strs fun x v=>by have:=ae.o x v;omega).p1;clear xn hv q d0
      go_wp2_with (at_builtin;refine yC UN (.tmp 68) (.tmp 72) rfl rfl hb rfl (cs:= #[.slice A5 z c5]) rfl rfl rfl (by intro u hu;simp at hu;subst hu;rfl) (by omega) (by omega) ?_;intro A8 c8 w8 ax a1 b);have d:=(b.p1.p2.p1).elsPush;have ah:Hid (ls.take (j+1)=ls.take j++ [l]):=by show _=_;rw [zI,h3.o];rfl
      go_roundg (n - (j+1))
      ·exact⟨j+1,A8,c8,css++ [[.slice A5 z c5]],by omega,rfl,by go_num,rfl,by rw [ah.o];simpa using d.p1⟩
      ·omega
     ·obtain rfl:j=n:=by omega
      rw [zF (by rw [x4.o];omega)]at q;have I:=q.els (α:=List aB);have L:=zA (kQ Ao j co ls wr (I.ls M0) h5 x3.o);rw [ai.o]at L;clear q;go_wp2_with fail;refine L.o.mono ?_;rintro e w7 ⟨A7,m7,c7,rfl,a0,xs⟩;have a:=I.c1 xs;have h6:=zA (bY A7 A m7 nb c7 c (Z5 rows) (Z5 rows) w7 (by omega) (a.rb M0).1 (Hl.o.on (a.below M7)));rw [decide_eq_true rfl]at h6
      have d0:=a.d1.cl M5 0;clear L xs I;go_wp2_with fail;refine h6.o.mono ?_;rintro e w9 ⟨rfl,q9,rfl⟩;have am:=(a.drewN q9).below M7;go_wp2;go_ret2;exact⟨_,rfl,am⟩
open Go.RowKit Go.Maps
theorem FT (A:aA) (n c:Nat) (w:O) (h:n<=c) (a:c<=9223372036854775807):Calls prog 120 #[.slice A n c] w fun e w' =>e= .returned (.slice A n n)/\w=w' :=by
 go_enter func120,ntmps120;go_wp2;go_ret
 exact⟨rfl,rfl⟩
def Y7 (td:xo) (d:Int) (l:List aB):xo:=l.foldl (fun td t=>addT td t d 0) td
def YK (cells:List yZ):List aB:=cells.map fun c=>c.2.1
theorem KJ {G T N h J d m W:Nat} {I B:aA} {gs:aG} {td:xo} {css:List aF} {tx:List (List aB)} {v:aF} {ox cells:List yZ} {w:O} {L:List Asn}
 (hm:m<=64) (hf:∀c∈cells,c.2.1.size<=1000000000) (hy:d<=16384) (hN:Ya N td) (hz:N<=6000000000) (h0:h<=1000000)
 (HS:Sp w (YR T td::BlkA G 152 gs::RowA 129 1 (.slice I h J) h css.flatten::ElsA css tx::Z1 v ox [.slice B m W] cells::L)) (g3:gs[3]? =some (.slice I h J)) (g8:gs[8]? =some (.map (some T))):
 Calls prog 111 #[.pointer (some ⟨G,0,none⟩),.int .i64 (d:Int),.slice B m W] w fun e w' =>e= .returned (.tuple #[])/\∃K U css',Sp w' (YR T (Y7 td d (setT (YK cells)))::BlkA G 152 (gs.setIfInBounds 3 (.slice K (h+1) U))::RowA 129 1 (.slice K (h+1) U) (h+1) css'.flatten::ElsA css' (tx++ [setT (YK cells)])::Z1 v ox [.slice B m W] cells::L):=by
 have hl:=zA hf;have HN:=zA hN;have G3:=zA g3;have G8:=zA g8;have hlen:=zA (HS.ls2 M4).length;have hx:=(HS.ls2 M4).cap;have M:Sp w (TA none 0 0 []::_):=HS.nil 9 1;obtain⟨H,F⟩:=eX (setT (YK cells));rw [F];have R:=zA F;clear F;clear hf hN g3 g8 HS;go_enter func111,ntmps111;go_wp2
 go_loopg [6,13] m (fun gk v6 hv wr=>∃(k:Nat) (y:aA) (c6:Nat),v6= .slice y k c6/\hv= .int .i64 k/\k<=m/\gk=m - k/\Sp wr (TA y k c6 (YK (cells.take k))::YR T td::BlkA G 152 gs::RowA 129 1 (.slice I h J) h css.flatten::ElsA css tx::Z1 v ox [.slice B m W] cells::L))
 case atStart=>exact⟨0,none,0,rfl,rfl,zJ _,rfl,M⟩
 case round=>
  obtain⟨k,y,c6,rfl,rfl,hk,rfl,i⟩:=hrel;clear M
  by_cases hp:k<m
  ·obtain⟨b,off,x,rfl,ht,hb,Z⟩:=(i.ls2 M5).at_ hp
   obtain⟨Ax,nx,cx,E0,E1,E2,he, -⟩:=yZ.at_ Z
   obtain⟨Tb,Y⟩:=eX (wr.heap.size);have p:=(i.blkH 59 #[.int .i64 x.1,.string x.2.1,.slice Ax nx cx] Y).p1;clear i he Z;go_upto_region 4 with fail;obtain⟨w4,hg⟩:=eX (wr.alloc (.cells #[.int .i64 x.1,.string x.2.1,.slice Ax nx cx] 59));rw [hg]at p⊢;have z1:=p.cl M1 1;clear E0 E1 E2 hg Y
   go_wp2_with (at_builtin;refine yC Ql (.tmp 17) (.tmp 20) rfl rfl p rfl (cs:= #[.string x.2.1]) rfl rfl rfl (by intro u hu;simp at hu;subst hu;rfl) (by omega) (by omega) ?_;intro A8 c8 w8 hn hr a)
   have X:sC (YK (cells.take k))++(#[Value.string x.2.1]:aG).toList=sC (YK (cells.take (k+1))):=by
    rw [zI,ht.o];simp [sC,YK]
   rw [X]at a;have g:=a.d1;clear p a X z1;go_wp2
   go_roundg (m - (k+1))
   ·exact⟨k+1,A8,c8,rfl,by go_num,by omega,rfl,g⟩
   ·omega
  ·obtain rfl:k=m:=by omega
   rw [zF (by rw [hlen.o];exact zC _)]at i;have HP:=zA (dK i (by omega));clear i
   go_wp2_with (first
    |(go_at_call 192;refine HP.o.mono ?_;rintro r w5 ⟨rfl,hh⟩;have HQ:=zA (eJ hh))
    |(go_at_call 193;refine HQ.o.mono ?_;rintro r w6 ⟨t,rfl,h1,D⟩;have E:=(D.tlen M0).2;have HC:=zA (FT y t c6 w6 E.1 E.2))
    |(go_at_call 120;refine HC.o.mono ?_;rintro r w7 ⟨rfl,rfl⟩))
   have l:=D.clip;rw [Wt]at l;rw [R.o]at l;have ha:=(l.tlen M0).1
   have hd:∀s∈H,s.size<=1000000000:=fun s C=>by
    rw [<-R.o]at C;obtain⟨c,hc,rfl⟩:=List.mem_map.1 (X9.1 C);exact hl.o c hc
   have Q:=zA ha;have S:=zA hd;clear D ha hd E HQ HP HC
   go_loopg [30] t (fun gj hw wr=>∃j:Nat,hw= .int .i64 j/\j<=t/\gj=t - j/\Ya (N+j) (Y7 td d (H.take j))/\Sp wr (TA y t t H::YR T (Y7 td d (H.take j))::BlkA G 152 gs::RowA 129 1 (.slice I h J) h css.flatten::ElsA css tx::Z1 v ox [.slice B k W] cells::L))
   case atStart=>exact⟨0,rfl,zJ _,rfl,HN.o,l⟩
   case round=>
    obtain⟨j,rfl,hj,rfl,q,a⟩:=hrel;clear l
    by_cases ho:j<t
    ·obtain⟨s,C⟩:∃s,H[j]? =some s:=⟨_,zB (by rw [Q.o];exact ho)⟩;obtain⟨gk,rfl, -, -⟩:=(a.rowOf M0).at_ (by omega)
     have t0:wr.cell? ⟨gk,j,none⟩=some (.string s):=a.rowCell M0 (Vk C);have HA:=zA (pS (N:=N+j) s (d:Int) 0 ⟨by omega,by omega⟩ (S.o s (zD C)) q (by omega) (Sp.selT [_,_,_] a [1,2,0]) G8.o)
     have o:Y7 td d (H.take (j+1))=addT (Y7 td d (H.take j)) s d 0:=by
      rw [zI,C];unfold Y7;rw [xE];rfl
     have n:=zA o;have hi:=zA q;clear a o q;go_wp2_with (go_at_call 191;refine HA.o.mono ?_;rintro r w2 ⟨rfl,g⟩)
     go_roundg (t - (j+1))
     case measure=>omega
     case rel=>
      rw [<-n.o]at g;exact⟨j+1,by go_num,by omega,rfl,by rw [n.o];exact hi.o.add _ _ _,Sp.selT [_,_,_] g [2,0,1]⟩
    ·obtain rfl:j=t:=by omega
     rw [zF (by rw [Q.o];exact zC _)]at a;have g:=Sp.selT [_,_,_,_] a [3,2,1,0];have k2:wr.cell? ⟨G,3,none⟩=some (.slice I h J):=(g.cell M1 3).trans G3.o;clear a q
     go_wp2_with (at_builtin;refine yC UN (.tmp 44) (.tmp 46) rfl rfl g rfl (cs:= #[.slice y j j]) rfl rfl rfl (by intro u hu;simp at hu;subst hu;rfl) (by omega) (by omega) ?_;intro A8 c8 w8 hn hr f;have k3:w8.cell? ⟨G,3,none⟩=some (.slice I h J):=(f.cell M1 3).trans G3.o;have k4:=(f.blkOf M1).frozen 3)
     have X:css.flatten++(#[Value.slice y j j]:aG).toList=(css++ [[Value.slice y j j]]).flatten:=(by simp);rw [X]at f;have z:=(f.p1).set 3 (.slice A8 (h+1) c8);have A:=Sp.strs (Sp.selT [_,_,_,_] z [3,0,1,2]) (fun s C=>by have:=S.o s C;omega);have P:=(Sp.selT [_,_,_,_,_] A [0,4,1,2,3]).elsPush;clear g f z A X k2 k3 k4;go_wp2
     go_end0
     exact⟨rfl,A8,c8,_,Sp.selT [_,_,_,_] P [3,1,2,0]⟩
end Go.Proofs.YtjbhbfaeielbiaaGreatDoor

import Derived.Test.YtjbhbfaeielbiaaGreatDoorPart39
import Derived.Test.YtjbhbfaeielbiaaGreatDoorPart40
import Derived.Test.YtjbhbfaeielbiaaGreatDoorPart38
set_option maxRecDepth 100000
set_option maxHeartbeats 8000000
set_option linter.unusedVariables false
set_option linter.unusedSimpArgs false
namespace Go.Proofs.YtjbhbfaeielbiaaGreatDoor
open Go.Proofs.Tryz
open Rep (rep)
open Go.RowKit Go.Maps
attribute [local go_sem ↓] zU zV
theorem l5 (A:aA) (n c:Nat) (w:O) (h:n<=c) (a:c<=9223372036854775807):Calls prog 109 #[.slice A n c] w fun e w' =>e= .returned (.slice A n n)/\w=w' :=by
 go_enter func109,ntmps109;go_wp2;go_ret
 exact⟨rfl,rfl⟩
theorem eM {gs:aG} {i:Nat} {v:V} (h:gs[i]? =some v):gs.setIfInBounds i v=gs:=by
 apply Array.ext_getElem?
 intro j;rw [yV]
 split
 ·rename_i e;subst e;obtain⟨a,_⟩:=Array.getElem?_eq_some_iff.1 h;rw [if_pos a,h]
 ·rfl
theorem Uv (gs:aG) (i:Nat) (u v:V):(gs.setIfInBounds i u).setIfInBounds i v=gs.setIfInBounds i v:=by
 apply Array.ext_getElem?
 intro j;rw [yV,yV,yV]
 split
 ·rename_i e;subst e;simp
 ·rfl
theorem XS {gs:aG} {i:Nat} (u:V) {v:V} (h:gs[i]? =some v):(gs.setIfInBounds i u)[i]? =some u:=by
 obtain⟨a,_⟩:=Array.getElem?_eq_some_iff.1 h;rw [yV,if_pos rfl,if_pos a]
def ptsC (a:Nat) (cells:List yZ):List Pt:=cells.map fun c=>((a:Int),c.2.2)
theorem oF {G t c5 a m cm:Nat} {A5 B:aA} {gs:aG} {css:List aF} {p:List Pt} {H:aF} {ox cells:List yZ} {w:O} {L:List Asn}
 (hm:m<=64) (z:∀c∈cells,c.2.2.length<=1000000000) (hj:a<=16384) (ht:t<=10000000)
 (HS:Sp w (BlkA G 152 gs::RowA 232 2 (.slice A5 t c5) t css.flatten::ElsA css p::Z1 H ox [.slice B m cm] cells::L)) (g5:gs[5]? =some (.slice A5 t c5)):
 Calls prog 113 #[.pointer (some ⟨G,0,none⟩),.int .i64 (a:Int),.slice B m cm] w fun e w' =>e= .returned (.tuple #[])/\∃A' n css',Sp w' (BlkA G 152 (gs.setIfInBounds 5 (.slice A' (t+m) n))::RowA 232 2 (.slice A' (t+m) n) (t+m) css'.flatten::ElsA css' (p++ptsC a cells)::Z1 H ox [.slice B m cm] cells::L):=by
 have R:=zA z;have J:=zA g5;have hlen:=zA (HS.ls2 M3).length;have hi:=(HS.ls2 M3).cap;have A:=HS;rw [<-eM g5]at A;clear z g5 HS;go_enter func113,ntmps113;go_wp2
 go_loopg [10] m (fun gk hg wr=>∃(k n' :Nat) (A' :aA) (n :Nat) (css' :List aF),hg= .int .i64 k/\k<=m/\gk=m - k/\n' =t+k/\Sp wr (BlkA G 152 (gs.setIfInBounds 5 (.slice A' n' n))::RowA 232 2 (.slice A' n' n) n' css'.flatten::ElsA css' (p++ptsC a (cells.take k))::Z1 H ox [.slice B m cm] cells::L))
 case atStart=>exact⟨0,t,A5,c5,css,rfl,zJ _,rfl,rfl,by simpa [ptsC]using A⟩
 case round=>
  obtain⟨k,n',A',n,css',rfl,hk,rfl,Z,j⟩:=hrel;have Q :=zA Z;have hw:n' <=20000000:=(by omega);clear A Z
  by_cases hf:k<m
  ·obtain⟨b,off,x,rfl,hc,hb,Y⟩:=(j.ls2 M3).at_ hf
   obtain⟨Ax,f,cx,E0,E1,E2,i, -⟩:=yZ.at_ Y
   have hx:f<=1000000000:=(by rw [<-i.length];exact R.o x (zD hc.o));obtain⟨Tb,T⟩:=eX (wr.heap.size);have h:=j.blkH 59 #[.int .i64 x.1,.string x.2.1,.slice Ax f cx] T;go_upto_region 3 with fail;obtain⟨w4,F⟩:=eX (wr.alloc (.cells #[.int .i64 x.1,.string x.2.1,.slice Ax f cx] 59));have E:Below wr.heap.size wr w4:=(by rw [<-F];exact(zE _ _).alloc (zC _) _);rw [F]at h⊢
   have hn:=zA E;have ho:=zA i;have z2:=h.cl M0 2;have y5:w4.cell? ⟨G,5,none⟩=some (.slice A' n' n):=(h.cell M1 5).trans (XS _ J.o);have hh:∀o,(w4.alloc o).cell? ⟨G,5,none⟩=some (.slice A' n' n):=fun o=>ON y5 o;have hr:G≠Tb:=h.ne.symm;have D:=h.drew;have HC:=zA (XW Ax f cx (ints x.2.2) w4.drew (by omega) ((i.on E).on (zE _ _).drew).reads_ints (Y3 _))
   have hd:Hid (∀v∈x.2.2,In64 v):=fun v hv=>by
    obtain⟨q,hq⟩:=z8 hv;obtain⟨b2,hl,y,rfl,Hx,_,he⟩:=i.at_ (k:=q) (by rw [<-i.length];exact zN hq)
    cases Hx.o.symm.trans hq;exact he.int.2
   clear j Y i E0 E1 E2 F T E;refine gR [(17,fun W=>W.cell? ⟨G,5,none⟩=some (.slice A' n' n)/\W.cell? ⟨Tb,2,none⟩=some (.slice Ax f cx))] (hB ⟨y5,D.cell M0 2⟩) ?_;refine gF 0 ?_;refine gF 1 ?_;refine gF 2 ?_;refine gF 3 ?_;refine gF 4 ?_;refine gL 5 17 M0 ?_;refine gF 6 ?_;refine gF 7 ?_;refine gL 8 17 M0 ?_;intro s;refine gO 9 fun K g=> ?_;go_simp;refine HC.o.mono ?_
   rintro r w5 ⟨I,c8,rfl,ha,U⟩;have d:=D.row ha U;have X:=(d.ilen M0).2;have HP:=zA (l5 I f c8 w5 X.1 X.2);refine g.o _ _ (hB ⟨(d.cell M2 5).trans (XS _ J.o),d.cell M1 2⟩) ?_;clear g K s;intro s;refine gO 10 fun K g=> ?_;go_simp;refine HP.o.mono ?_;rintro r w6 ⟨rfl,rfl⟩;refine g.o _ _ (hB ⟨(d.cell M2 5).trans (XS _ J.o),d.cell M1 2⟩) ?_
   clear g K s;refine gF 11 ?_;intro s;refine gO 12 fun K g=> ?_;go_simp;refine g.o _ _ (hB ⟨((d.al _).cell M2 5).trans (XS _ J.o),(d.al _).cell M1 2⟩) ?_;clear g K s;intro s;refine gO 13 fun K g=> ?_
   refine yz Ws (.tmp 19) (.tmp 26) rfl rfl (d.p3) rfl (cs:= #[.int .i64 (a:Int),.slice I f f]) rfl rfl rfl (by intro u hu;simp at hu;rcases hu with rfl|rfl<;>rfl) (by omega) (by omega) ?_
   intro A9 c9 w9 hp hs l;have y7:w9.cell? ⟨G,5,none⟩=some (.slice A' n' n):=(l.cell M3 5).trans (XS _ J.o);have y8:=(l.blkOf M3).frozen 5;refine g.o _ _ (hB ⟨y7,l.cell M2 2⟩) ?_;clear g K s;refine gF 14 ?_;refine gF 15 ?_;refine gF 16 ?_;intro s;refine gO 17 fun K g=> ?_;go_simp;refine g.o _ _ hA ?_;clear g K s;intro s;refine xW (by kernel_rfl) ?_
   all_goals
    have C:=(l.p3).set 5 (.slice A9 (n' +1) c9);rw [Uv]at C;have M:=Sp.ints (Sp.clip (Sp.selT [_,_,_,_,_,_] C [2,0,1,4,5])) hd.o;have N:=Sp.mk1 (cs:= [.int .i64 (a:Int),.slice I f f]) (x:=(((a:Int),x.2.2):Pt)) M fun S hS=>⟨[.int .i64 (a:Int)], [.slice I f f],rfl,⟨rfl,show In64 ((a:Nat):Int)from⟨by omega,by omega⟩⟩,hS⟩
    have P:=Sp.selT [_,_,_,_] (Sp.selT [_,_,_,_,_] N [0,3,1,2,4]).elsPush [1,2,0,3];have e1:css'.flatten++(#[Value.int .i64 (a:Int),Value.slice I f f]:aG).toList=(css' ++ [[Value.int .i64 (a:Int),Value.slice I f f]]).flatten:=(by simp)
    have e2:p++ptsC a (cells.take k)++ [((a:Int),x.2.2)]=p++ptsC a (cells.take (k+1)):=by
     rw [zI,hc.o];simp [ptsC]
    rw [e1,e2]at P;clear h d l C M N D e1 e2 z2 y5 hh y7 y8 ha U;go_wp2
    go_roundg (m - (k+1))
    ·exact⟨k+1,n' +1,A9,c9,_,by go_num,by omega,rfl,by have:=Q.o;omega,P⟩
    ·omega
  ·obtain rfl:k=m:=by omega
   rw [zF (by rw [hlen.o];exact zC _),Q.o]at j;go_wp2
   go_end0
   exact⟨rfl,A',n,css',j⟩
def YG (cells:List yZ):aD:=cells.map fun c=>c.2.2.getD 0 0
theorem GF {G f R i c5 S m cm:Nat} {P Y B:aA} {gs:aG} {a css:List aF} {nums:List aD} {J:List Pt} {H:aF} {I cells:List yZ} {w:O} {L:List Asn}
 (hm:m<=64) (N:∀c∈cells,1<=c.2.2.length/\c.2.2.length<=1000000000) (hn:S<=16384) (h5:f<=10000000) (hz:i<=10000000)
 (HS:Sp w (BlkA G 152 gs::RowA 57 1 (.slice P f R) f a.flatten::ElsA a nums::RowA 232 2 (.slice Y i c5) i css.flatten::ElsA css J::Z1 H I [.slice B m cm] cells::L)) (g4:gs[4]? =some (.slice P f R)) (g5:gs[5]? =some (.slice Y i c5)):
 Calls prog 112 #[.pointer (some ⟨G,0,none⟩),.int .i64 (S:Int),.slice B m cm] w fun e w' =>e= .returned (.tuple #[])/\∃X he p A' c' css',
  Sp w' (BlkA G 152 ((gs.setIfInBounds 4 (.slice X (f+1) he)).setIfInBounds 5 (.slice A' (i+m) c'))::RowA 57 1 (.slice X (f+1) he) (f+1) p.flatten::ElsA p (nums++ [xP (YG cells)])::RowA 232 2 (.slice A' (i+m) c') (i+m) css'.flatten::ElsA css' (J++ptsC S cells)::Z1 H I [.slice B m cm] cells::L):=by
 have n:=zA N;have Z:=zA g4;have G5:=zA g5;have hlen:=zA (HS.ls2 M5).length;have h2:=(HS.ls2 M5).cap;have ha:Sp w (IA none 0 0 []::_):=HS.nil 2 1;clear N g4 g5 HS;go_enter func112,ntmps112;go_wp2
 go_loopg [6,11] m (fun gk v6 h1 wr=>∃(k:Nat) (C:aA) (c6:Nat),v6= .slice C k c6/\h1= .int .i64 k/\k<=m/\gk=m - k/\Sp wr (IA C k c6 (YG (cells.take k))::BlkA G 152 gs::RowA 57 1 (.slice P f R) f a.flatten::ElsA a nums::RowA 232 2 (.slice Y i c5) i css.flatten::ElsA css J::Z1 H I [.slice B m cm] cells::L))
 case atStart=>exact⟨0,none,0,rfl,rfl,zJ _,rfl,ha⟩
 case round=>
  obtain⟨k,C,c6,rfl,rfl,hk,rfl,g⟩:=hrel;clear ha
  by_cases hw:k<m
  ·obtain⟨b,off,x,rfl,hr,hb,F⟩:=(g.ls2 M6).at_ hw
   obtain⟨Ax,nx,cx,E0,E1,E2,h, -⟩:=yZ.at_ F
   have h0:=n.o x (zD hr.o);rw [h.length]at h0;obtain⟨bx,I,v0,rfl,T,hj,t⟩:=h.at_ (k:=0) (by omega)
   have h4:(0:Int)<(nx:Int):=(by omega);obtain⟨Tb,hh⟩:=eX (wr.heap.size);have D:=(g.blkH 59 #[.int .i64 x.1,.string x.2.1,.slice (some ⟨bx,I,none⟩) nx cx] hh).p1;go_upto_region 4 with fail;obtain⟨w4,U⟩:=eX (wr.alloc (.cells #[.int .i64 x.1,.string x.2.1,.slice (some ⟨bx,I,none⟩) nx cx] 59));have hi:Below wr.heap.size wr w4:=(by rw [<-U];exact(zE _ _).alloc (zC _) _)
   rw [U]at D⊢;have z2:=D.cl M1 2;have z3:w4.cell? ⟨bx,I,none⟩=some (.int .i64 v0):=(hi.cell hj).trans (by simpa using t.int.1);have h3:=zA t.int.2;clear g F h E0 E1 E2 U hh hi t
   go_wp2_with (at_builtin;refine yC Zs (.tmp 15) (.tmp 20) rfl rfl D rfl (cs:= #[.int .i64 v0]) rfl rfl rfl (by intro u hu;simp at hu;subst hu;rfl) (by omega) (by omega) ?_;intro z A w8 ht hy d)
   have e1:ints (YG (cells.take k))++(#[Value.int .i64 v0]:aG).toList=ints (YG (cells.take (k+1))):=by
    have e2:x.2.2.getD 0 0=v0:=(by rw [zm,T.o];rfl);rw [zI,hr.o];simp [Go.Proofs.YtjbhbfaeielbiaaGreatDoor.ints,YG,<-e2,zm]
   rw [e1]at d;have j:=d.d1;clear D d e1 z2 z3;go_wp2
   go_roundg (m - (k+1))
   ·exact⟨k+1,z,A,rfl,by go_num,by omega,rfl,j⟩
   ·omega
  ·obtain rfl:k=m:=by omega
   rw [zF (by rw [hlen.o];exact zC _)]at g;have HP:=zA (mH g (by omega));clear g;go_wp2_with (go_at_call 194;refine HP.o.mono ?_;rintro r w5 ⟨rfl,Q⟩);have l:=Q.drew;have hl:=(l.ilen M0).2;have HC:=zA (l5 C k c6 w5.drew hl.1 hl.2);have y5:w5.cell? ⟨G,4,none⟩=some (.slice P f R):=(Q.cell M1 4).trans Z.o
   have h6:∀o,(w5.alloc o).cell? ⟨G,4,none⟩=some (.slice P f R):=fun o=>ON y5 o;clear Q HP
   go_cut []from 25 to 37 (fun W=>∃(z:aA) (A:Nat),Sp W (RowA 57 1 (.slice z (f+1) A) (f+1) (a.flatten++(#[Value.slice C k k]:aG).toList)::BlkA G 152 (gs.setIfInBounds 4 (.slice z (f+1) A))::IA C k c6 (xP (YG cells))::ElsA a nums::RowA 232 2 (.slice Y i c5) i css.flatten::ElsA css J::Z1 H I [.slice B k cm] cells::L))
   case first=>
    refine gR [(13,fun W=>W.cell? ⟨G,4,none⟩=some (.slice P f R))] (hB ((l.cell M1 4).trans Z.o)) ?_;refine gF 0 ?_;refine gF 1 ?_;refine gF 2 ?_;refine gF 3 ?_;refine gF 4 ?_;refine gL 5 13 M0 ?_;refine gF 6 ?_;intro M;refine gO 7 fun K s=> ?_;go_simp;refine HC.o.mono ?_;rintro r w6 ⟨rfl,rfl⟩;refine s.o _ _ (hB ((l.cell M1 4).trans Z.o)) ?_;clear s K M;intro M
    refine gO 8 fun K s=> ?_;go_simp;refine s.o _ _ (hB (((l.al _).cell M1 4).trans Z.o)) ?_;clear s K M;intro M;refine gO 9 fun K s=> ?_;refine yz WY (.tmp 30) (.tmp 33) rfl rfl (l.p2) rfl (cs:= #[.slice C k k]) rfl rfl rfl (by intro u hu;simp at hu;subst hu;rfl) (by omega) (by omega) ?_;intro z A w8 ht hy d
    have y6:w8.cell? ⟨G,4,none⟩=some (.slice P f R):=(d.cell M2 4).trans Z.o;have y7:=(d.blkOf M2).frozen 4;refine s.o _ _ (hB y6) ?_;clear s K M;refine gF 10 ?_;refine gF 11 ?_;refine gF 12 ?_;intro M;refine gO 13 fun K s=> ?_;go_simp;refine s.o _ _ hA ?_;clear s K M;intro M;refine xW (by kernel_rfl) ?_
    all_goals
     have j:=(d.p2).set 4 (.slice z (f+1) A);go_wp2
     go_meet
     exact⟨z,A,j.p1⟩
   case rest=>
    obtain⟨z,A,E⟩:=hcut;have e1:a.flatten++(#[Value.slice C k k]:aG).toList=(a++ [[Value.slice C k k]]).flatten:=(by simp);rw [e1]at E
    have ho:∀v∈xP (YG cells),In64 v:=fun v hv=>by
     have:=(List.mergeSort_perm (YG cells) fun x y=>decide (x<=y)).mem_iff.1 hv;obtain⟨x,hx,rfl⟩:=List.mem_map.1 this;obtain⟨q,hq⟩:=z8 hx;obtain⟨b,off,y,rfl,Hy,hb,F⟩:=(E.ls2 M6).at_ (k:=q) (by rw [<-hlen.o];exact zN hq)
     cases Hy.o.symm.trans hq;obtain⟨Ax,nx,cx, -, -, -,h, -⟩:=yZ.at_ F
     have hp:=(n.o x hx).1;rw [h.length]at hp;obtain⟨bx,I,v0,rfl,T,hj,t⟩:=h.at_ (k:=0) hp
     rw [zm,T.o];exact t.int.2
    have hd:=(Sp.selT [_,_,_,_] (Sp.ints (Sp.clip (Sp.selT [_,_,_] E [2,0,1])) ho) [0,3,2,1]).elsPush;have d:=Sp.selT [_,_,_,_,_,_] hd [1,3,4,5,0,2]
    have hg :(gs.setIfInBounds 4 (.slice z (f+1) A))[5]? =some (.slice Y i c5):=by
     rw [yV,if_neg (by decide)];exact G5.o
    have hs:=zA (oF hm (fun c hc=>(n.o c hc).2) hn hz d hg);clear E hd d e1 hg ho;go_wp2_with (go_at_call 113;refine hs.o.mono ?_;rintro r w9 ⟨rfl,A9,c9,hf,j⟩)
    go_end0
    exact⟨rfl,z,A,_,A9,c9,hf,Sp.selT [_,_,_,_,_,_] j [0,5,4,1,2,3]⟩
theorem lE {α β:Type} {f:α->β} {j i:List β} (h:j.Perm i):∀l:List α,l.map f=j->∃d :List α,d.Perm l/\d.map f=i:=by
 induction h with
 |nil=>exact fun l c=>⟨l,List.Perm.refl _,c⟩
 |cons x _ ih=>
  intro l c;cases l with
  |nil=>cases c
  |cons a l=>
   simp only [yH,List.cons.injEq]at c;obtain⟨d,e,g⟩:=ih l c.2;exact⟨a::d,e.cons a,by simp [c.1,g]⟩
 |swap x y m=>
  intro l c
  match l,c with
  |a::b::l,c=>
   simp only [yH,List.cons.injEq]at c;exact⟨b::a::l,List.Perm.swap a b l,by simp [c.1,c.2.1,c.2.2]⟩
 |trans _ _ ih1 ih2=>
  intro l c;obtain⟨o,e,g⟩:=ih1 l c;obtain⟨p,k,n⟩:=ih2 o g;exact⟨p,k.trans e,n⟩
theorem Ub {κ ν:Type} [DecidableEq κ]:∀{l:List (κ×ν)} {k:κ} {v:ν},(l.map (·.1)).Nodup->(k,v)∈l->Xa l k=some v
 | [],_,_,_,h=>by simp at h
 |p::l,k,v,hn,h=>by
  rw [yH,List.nodup_cons]at hn;unfold Xa;rcases yx.1 h with rfl|h
  ·simp
  ·have a:p.1≠k:=fun e=>hn.1 (by rw [e];exact List.mem_map.2 ⟨_,h,rfl⟩);rw [List.find?_cons_of_neg (by simpa using a)];exact Ub hn.2 h
theorem iW (l:List aB):(xq l).Perm l:=by
 have h:=(List.mergeSort_perm (l.map zn) fun x y=>decide (x<=y)).map WC;rw [kP]at h;exact h
theorem Q7 (l:aD):(xP l).Perm l:=List.mergeSort_perm _ _
theorem tT {rs:List TR}:∃a :List TR,a.Perm rs/\a.map TR.term=Zl (rs.map TR.pl):=by
 have h:(rs.map TR.term).Perm (Zl (rs.map TR.pl)):=by
  unfold Zl;rw [yD];exact(iW _).symm
 exact lE h rs rfl
theorem AS {ds:List DR}:∃ds' :List DR,ds'.Perm ds/\ds'.map DR.doc=xP ((ds.map DR.pl).map (·.1)):=by
 have h:(ds.map DR.doc).Perm (xP ((ds.map DR.pl).map (·.1))):=by
  rw [yD];exact(Q7 _).symm
 exact lE h ds rfl
theorem IV {ds ds' :List DR} (a:(ds.map DR.doc).Nodup) (c:ds'.Perm ds) (b:ds'.map DR.doc=xP ((ds.map DR.pl).map (·.1))):Zo (ds.map DR.pl)=ds'.map fun r=>(⟨r.doc,r.l⟩:PostD):=by
 unfold Zo;rw [<-b,yD]
 apply List.map_congr_left
 intro r d;have:Xa (ds.map DR.pl) r.doc=some r.l:=Ub (by rw [yD];exact a) (List.mem_map.2 ⟨r,c.mem_iff.1 d,rfl⟩);simp [this]
theorem JF {rs a :List TR} (b:(rs.map TR.term).Nodup) (d:a.Perm rs) (c:a.map TR.term=Zl (rs.map TR.pl)):Y2 (rs.map TR.pl)=a.map fun r=>Zo (r.docs.map DR.pl):=by
 unfold Y2;rw [<-c,yD]
 apply List.map_congr_left
 intro r e;have:Xa (rs.map TR.pl) r.term=some (r.docs.map DR.pl):=Ub (by rw [yD];exact b) (List.mem_map.2 ⟨r,d.mem_iff.1 e,rfl⟩);simp [this]
theorem FU (A:aA) (n c:Nat) (w:O) (h:n<=c) (a:c<=9223372036854775807):Calls prog 119 #[.slice A n c] w fun e w' =>e= .returned (.slice A n n)/\w=w' :=by
 go_enter func119,ntmps119;go_wp2;go_ret
 exact⟨rfl,rfl⟩
theorem Sp.post {w:O} {L:List Asn} {r:DR} (h:Sp w (r.asn::L)) (b:In64 r.doc) (d:∀x∈r.l,In64 x):Sp w (RepA [.int .i64 r.doc,.slice r.A r.l.length r.l.length] (⟨r.doc,r.l⟩:PostD)::L):=by
 have a:Sp w (NA r.A r.l.length r.c r.l::L):=h
 exact(a.clip.ints d).mk1 (cs:= [.int .i64 r.doc,.slice r.A r.l.length r.l.length]) (x:=(⟨r.doc,r.l⟩:PostD)) fun S q=>by
  obtain⟨A',n',f,e,h⟩:=q;cases e;exact PostD.of_cells (x:=(⟨r.doc,r.l⟩:PostD)) h b
theorem AU {w:O} {L:List Asn} {b:Nat} {ds:List DR} (h:Sp w L) (a:MapA prog 3 b (ds.map DR.kv)∈L):(ds.map DR.doc).Nodup:=by
 have:=h.mapDistinct a;rw [yD]at this;have e:ds.map ((fun p:V×V=>p.1) ∘ DR.kv)=(ds.map DR.doc).map (Value.int .i64):=by rw [yD];rfl
 rw [e]at this;exact(List.pairwise_map.1 this).imp fun h e=>h (by rw [e])
theorem FI:Elt prog 145 110 1 24:=xt (by kernel_rfl) (by decide) (by kernel_rfl)
theorem GN (gs:aG) (a b c:V):((gs.setIfInBounds 0 a).setIfInBounds 1 b).setIfInBounds 0 c=(gs.setIfInBounds 0 c).setIfInBounds 1 b:=by
 rw [Array.setIfInBounds_comm _ _ (by decide:(0:Nat)≠1),Uv,Array.setIfInBounds_comm _ _ (by decide:(0:Nat)≠1)]
def OZ (td:xo):Prop:=∀p∈td,p.1.size<=1000000000/\∀q∈p.2,In64 q.1/\∀x∈q.2,In64 x
theorem EC {gz:aG} {i:Nat} {v:V} (h:gz[i]? =some v):i<gz.size:=(Array.getElem?_eq_some_iff.1 h).1
theorem MS {gz:aG} (h:5<gz.size) (a b c d e f:V):let g:=(((((gz.setIfInBounds 0 a).setIfInBounds 1 b).setIfInBounds 2 c).setIfInBounds 3 d).setIfInBounds 4 e).setIfInBounds 5 f
 g[0]? =some a/\g[1]? =some b/\g[2]? =some c/\g[3]? =some d/\g[4]? =some e/\g[5]? =some f:=by
 intro g;have i:0<gz.size:=by omega
 have j:1<gz.size:=by omega
 have k:2<gz.size:=by omega
 have l:3<gz.size:=by omega
 have m:4<gz.size:=by omega
 refine⟨?_,?_,?_,?_,?_,?_⟩<;>simp [g,yV,h,i,j,k,l,m]
theorem LP {w:O} {g:Nat} {b c d e f h:V} {a:aG} (i:a.getD 2 undef= .pointer (some ⟨g,0,none⟩)) (m:Blk w g 150 #[b,c,d,e,f,h]):(results Tryz.f66 a).run prog w= .ok (.agg #[b,c,d,e,f,h]) w:=by
 have j:=run_loadVar_row (P:=prog) w g 150 150 #[b,c,d,e,f,h] (0,0) _ m underlying150 rfl (by kernel_rfl);have k:Tryz.f66.results= #[ResultVar.cell 2 150]:=rfl;have l:a[2]?.getD undef= .pointer (some ⟨g,0,none⟩):=by simpa using i
 simp [results,k,l,j,asAddr,Result.andThen]
theorem Sp.clipD {α:Type} [Rep α] {w:O} {L:List Asn} {A:aA} {n c:Nat} {xs:List α} (h:Sp w (DatA (.slice A n c) xs::L)):Sp w (DatA (.slice A n n) xs::L):=
 h.turn fun S a=>⟨by
  obtain⟨A',n',i,e,b,d,f,g⟩:=a.1;cases e;exact⟨A,n,n,rfl,b,zC _,zY d f,g⟩,a.2⟩
theorem CC {G T N y c2 z c3 B c4 C c5:Nat} {A2 A3 A4 A5:aA} {gs:aG} {td:xo} {lens:aD} {tx:List (List aB)} {nums:List aD} {ah:List Pt} {w:O} {L:List Asn}
 (hN:Ya N td) (bz:N<=6000000000) (ar:OZ td)
 (HS:Sp w (YR T td::BlkA G 152 gs::DatA (.slice A2 y c2) lens::DatA (.slice A3 z c3) tx::DatA (.slice A4 B c4) nums::DatA (.slice A5 C c5) ah::L))
 (g0:gs[0]? =some (.slice none 0 0)) (g1:gs[1]? =some (.slice none 0 0)) (g2:gs[2]? =some (.slice A2 y c2)) (g3:gs[3]? =some (.slice A3 z c3)) (g4:gs[4]? =some (.slice A4 B c4)) (g5:gs[5]? =some (.slice A5 C c5)) (g8:gs[8]? =some (.map (some T))):
 Calls prog 66 #[.pointer (some ⟨G,0,none⟩)] w fun e w' =>∃v0 v1,e= .returned (.agg #[v0,v1,.slice A2 y y,.slice A3 z z,.slice A4 B B,.slice A5 C C])/\Sp w' (DatA v0 (Zl td)::DatA v1 (Y2 td)::DatA (.slice A2 y y) lens::DatA (.slice A3 z z) tx::DatA (.slice A4 B B) nums::DatA (.slice A5 C C) ah::L):=by
 obtain⟨rs,hy,E⟩:=HS.termsOut;obtain⟨s,hp,ho⟩:=tT (rs:=rs);have y6:=JF (gJ E M0) hp ho;rw [hy]at ho y6;have U:=(Sp.selT [_,_] E [1,0]).starPerm (hp.symm.map TR.asn);obtain⟨Hb,bk⟩:=eX (w.heap.size);have v:=U.blkH 150 #[.slice none 0 0,.slice none 0 0,.slice none 0 0,.slice none 0 0,.slice none 0 0,.slice none 0 0] bk
 have cb:rs.length<=N:=by have:=hN.1;rw [<-hy]at this;simpa using this
 have Hp:=zA hp;have Ho:=zA ho;have be:=zA y6;have xn:=zA hy;have HN:=zA hN;have am:=zA ar;have G0:=zA g0;have G1:=zA g1;have G2:=zA g2;have G3:=zA g3;have G4:=zA g4;have G5:=zA g5;have G8:=zA g8;clear HS E U hp ho y6 hy hN ar g0 g1 g2 g3 g4 g5 g8;go_enter func66,ntmps66;go_upto_region 1 with fail
 obtain⟨w2,a1⟩:=eX (w.alloc (.cells #[.slice none 0 0,.slice none 0 0,.slice none 0 0,.slice none 0 0,.slice none 0 0,.slice none 0 0] 150));rw [a1]at v⊢;clear a1;obtain⟨Bm,ap⟩:=eX (w2.heap.size);have F:=v.blkH 144 #[.map (some T)] ap;have c8:w2.cell? ⟨G,8,none⟩=some (.map (some T)):=(v.cell M3 8).trans G8.o
 have HP:=zA (tX (Bm:=Bm) (ts:=rs.map TR.term) F M3 (by rw [yD,yD];rfl) (F.cell M0 0) (by rw [<-ap];show _<(w2.heap.push _).size;rw [Array.size_push];exact Nat.lt_succ_self _) (by rw [zK];omega));clear v F
 go_wp2_with (first
  |(go_at_call 116;refine(EK _ _).mono ?_;rintro r w3 ⟨rfl,rfl⟩)
  |(go_at_call 115;go_loud (refine HP.o.mono ?_;rintro r w4 ⟨At,ct,rfl,H⟩)))
 obtain⟨ts,hc⟩:=eX (s.map TR.term);have a0:xq (rs.map TR.term)=ts:=by rw [<-hc,Ho.o,<-xn.o];unfold Zl;rw [yD];rfl
 obtain⟨ls,au⟩:=eX ((s.map fun r=>Zo (r.docs.map DR.pl)));obtain⟨m,hm⟩:=eX (rs.length);have av :(rs.map TR.term).length=m:=by rw [zK];exact hm
 have aw:s.length=m:=by rw [<-hm];exact Hp.o.length_eq
 rw [a0,av]at H;rw [hm];obtain⟨LL,xs⟩:=eX (BlkA Hb 150 #[.slice none 0 0,.slice none 0 0,.slice none 0 0,.slice none 0 0,.slice none 0 0,.slice none 0 0]::DatA (.slice A2 y c2) lens::DatA (.slice A3 z c3) tx::DatA (.slice A4 B c4) nums::DatA (.slice A5 C c5) ah::L)
 have q:Sp w4 (SA At m ct ts::BlkA G 152 gs::MapA prog 9 T (rs.map TR.kv)::zz (s.map TR.asn)::LL):=by
  rw [<-xs];exact Sp.selT [_,_,_,_,_,_] H [0,5,4,3,2]
 have bb:=zA xs;have hv:=zA hc;have xb:=zA au;have xi:=zA aw
 have hf:Sp w4 (SA At m ct ts::TA none 0 0 []::RowA 110 1 (.slice none 0 0) 0 []::ElsA [] ([]:List (List PostD))::BlkA G 152 gs::MapA prog 9 T (rs.map TR.kv)::zz (s.map TR.asn)::LL):=
  Sp.selT [_,_,_,_] (((q.elsNil (α:=List PostD)).nil 110 1).nil 9 1) [3,0,1,2]
 clear H q HP c8 xs hc au a0 av aw
 go_loopg [17] m (fun gk bv wr=>∃(k:Nat) (D t:aA) (c0 S:Nat) (css:List aF),bv= .int .i64 k/\k<=m/\gk=m - k/\Sp wr (SA At m ct ts::TA D k c0 (ts.take k)::RowA 110 1 (.slice t k S) k css.flatten::ElsA css (ls.take k)::BlkA G 152 ((gs.setIfInBounds 0 (.slice D k c0)).setIfInBounds 1 (.slice t k S))::MapA prog 9 T (rs.map TR.kv)::zz ((s.drop k).map TR.asn)::LL))
 case atStart=>
  refine⟨0,none,none,0,0, [],rfl,zJ _,rfl,?_⟩;rw [eM G0.o,eM G1.o];exact hf
 case round=>
  obtain⟨k,D,t,c0,S,css,rfl,hk,rfl,I⟩:=hrel;clear hf
  by_cases bp:k<m
  ·obtain⟨r,hr⟩:∃r,s[k]? =some r:=⟨_,zB (by rw [xi.o];exact bp)⟩;have hc:ts[k]? =some r.term:=(by rw [<-hv.o,zH,hr];rfl);obtain⟨i,hi⟩:=z8 (Hp.o.mem_iff.1 (zD hr));obtain⟨bt,rfl, -, -⟩:=(I.rowOf M0).at_ (by omega)
   have t0:wr.cell? ⟨bt,k,none⟩=some (.string r.term):=I.rowCell M0 (Vk hc);have af:r.pl∈td:=(by rw [<-xn.o];exact List.mem_map.2 ⟨r,zD hi,rfl⟩);have ae:=am.o _ af;have ag:=HN.o.2 _ af;have y7:=I.mapAt Vc underlying144 US M5 (keyS r.term (by have:r.term.size<=1000000000:=ae.1;omega)) (show(rs.map TR.kv)[i]? =some (.string r.term,.map (some r.b)) by rw [zH,hi];rfl)
   have y8:wr.cell? ⟨G,8,none⟩=some (.map (some T)):=(I.cell M4 8).trans (by rw [z7 (by decide),z7 (by decide)];exact G8.o);obtain⟨ds',hn,ab⟩:=AS (ds:=r.docs)
   have hg:(s.drop k).map TR.asn=zz (qO r.b r.docs)::(s.drop (k+1)).map TR.asn:=by
    obtain⟨hl,he⟩:=List.getElem?_eq_some_iff.1 hr;rw [za hl,yH,he];rfl
   have p:=Sp.selT [_,_,_,_,_,_,_] I [6,0,1,2,3,4,5];rw [hg]at p;obtain⟨LM,x8⟩:=eX (zz ((s.drop (k+1)).map TR.asn)::SA (some ⟨bt,0,none⟩) m ct ts::TA D k c0 (ts.take k)::RowA 110 1 (.slice t k S) k css.flatten::ElsA css (ls.take k)::BlkA G 152 ((gs.setIfInBounds 0 (.slice D k c0)).setIfInBounds 1 (.slice t k S))::MapA prog 9 T (rs.map TR.kv)::LL)
   have h7:Sp wr (MapA prog 3 r.b (r.docs.map DR.kv)::zz (ds'.map DR.asn)::LM):=by
    have h1:=p.starOut.starOut (X:=MapA prog 3 r.b (r.docs.map DR.kv)) (M:=r.docs.map DR.asn);have h2:=(Sp.selT [_,_] h1 [1,0]).starPerm (hn.symm.map DR.asn);rw [<-x8];exact Sp.selT [_,_] h2 [1,0]
   obtain⟨Bd,ao⟩:=eX (wr.heap.size);have h8:=h7.blkH 219 #[.map (some r.b)] ao;obtain⟨nd,aa⟩:=eX (r.docs.length);have hh:(r.docs.map DR.doc).length=nd:=(by rw [zK];exact aa);have h0:ds'.length=nd:=(by rw [<-aa];exact hn.length_eq);have bx:nd<=N:=(by have h:=ag.1;rw [<-aa];simpa [TR.pl]using h);have az:xP (r.docs.map DR.doc)=ds'.map DR.doc:=(by rw [ab,yD];rfl)
   have HP:=zA (tY (Bm:=Bd) (ts:=r.docs.map DR.doc) h8 M1 (by rw [yD,yD];rfl) (h8.cell M0 0) (by rw [<-ao];show _<(wr.heap.push _).size;rw [Array.size_push];exact Nat.lt_succ_self _) (by rw [hh];omega));rw [hh,az]at HP;have ay:Zo (r.docs.map DR.pl)=ds'.map fun x=>(⟨x.doc,x.l⟩:PostD):=IV (AU h7 M0) hn ab;obtain⟨ps,ad⟩:=eX (Zo (r.docs.map DR.pl));have an:=zA (ad.symm.trans ay)
   have bf:Hid (ls[k]? =some ps):=(by show _=_;rw [<-xb.o,zH,hr,<-ad];rfl);have bc:=zA x8;have bh:=zA ae;have bi:=zA ag;have bg:=zA hn;have hz:=zA h0;have bj:=zA hc;clear I p h7 h8 ay ad x8 ae ag hn ab az hh h0 hg af hc
   go_wp2_with (first
    |(go_at_call 118;refine(EL _ _).mono ?_;rintro r w3 ⟨rfl,rfl⟩)
    |(go_at_call 117;refine HP.o.mono ?_;rintro r w4 ⟨Ad,cd,rfl,J⟩))
   have ai:Sp w4 (NA Ad nd cd (ds'.map DR.doc)::RowA 116 2 (.slice none 0 0) 0 []::ElsA [] ([]:List PostD)::zz (ds'.map DR.asn)::MapA prog 3 r.b (r.docs.map DR.kv)::LM):=
    Sp.selT [_,_,_,_,_,_] (((J).elsNil (α:=PostD)).nil 116 2) [2,0,1,5,4]
   clear J HP y7 y8 t0
   go_loopg [6,31] nd (fun gj v6 bw wr=>∃(j:Nat) (Ap:aA) (cp:Nat) (n:List aF),v6= .slice Ap j cp/\bw= .int .i64 j/\j<=nd/\gj=nd - j/\Sp wr (NA Ad nd cd (ds'.map DR.doc)::RowA 116 2 (.slice Ap j cp) j n.flatten::ElsA n (ps.take j)::zz ((ds'.drop j).map DR.asn)::MapA prog 3 r.b (r.docs.map DR.kv)::LM))
   case atStart=>exact⟨0,none,0, [],rfl,rfl,zJ _,rfl,ai⟩
   case round=>
    obtain⟨j,Ap,cp,n,rfl,rfl,hj,rfl,P⟩:=hrel;clear ai
    by_cases bo:j<nd
    ·obtain⟨d,hd⟩:∃d,ds'[j]? =some d:=⟨_,zB (by rw [hz.o];exact bo)⟩;have hw:=bg.o.mem_iff.1 (zD hd);obtain⟨i2,bn⟩:=z8 hw;have ys:=bh.o.2 d.pl (List.mem_map.2 ⟨d,hw,rfl⟩);have b8:d.l.length<=N:=bi.o.2 d.pl (List.mem_map.2 ⟨d,hw,rfl⟩);obtain⟨bd,rfl, -, -⟩:=(P.rowOf M0).at_ (by omega)
     have t0:wr.cell? ⟨bd,j,none⟩=some (.int .i64 d.doc):=P.rowCell M0 (by rw [show(ints (ds'.map DR.doc))=(ds'.map DR.doc).map (Value.int .i64)from rfl,zH,zH,hd];rfl);have y7:=P.mapAt UD underlying219 UT M4 (O3 d.doc ys.1) (show(r.docs.map DR.kv)[i2]? =some (.int .i64 d.doc,.slice d.A d.l.length d.c) by rw [zH,bn];rfl)
     have hg:(ds'.drop j).map DR.asn=NA d.A d.l.length d.c d.l::(ds'.drop (j+1)).map DR.asn:=by
      obtain⟨hl,he⟩:=List.getElem?_eq_some_iff.1 hd;rw [za hl,yH,he];rfl
     have Q:Sp wr (RowA 116 2 (.slice Ap j cp) j n.flatten::NA d.A d.l.length d.c d.l::ElsA n (ps.take j)::NA (some ⟨bd,0,none⟩) nd cd (ds'.map DR.doc)::zz ((ds'.drop (j+1)).map DR.asn)::MapA prog 3 r.b (r.docs.map DR.kv)::LM):=by
      have h1:=Sp.selT [_,_,_,_] P [3,0,1,2];rw [hg]at h1;exact Sp.selT [_,_,_,_,_] h1.starOut [3,0,4,2,1]
     have bm:=(Q.rowOf M1).cap;have al:=zA ys;clear P hg hw ys
     go_wp2_with (first
      |(go_at_call 54;refine(UO _ _ _ _ (by omega) (by omega)).mono ?_;rintro e w' ⟨rfl,rfl⟩)
      |(at_builtin;refine yC eF (.tmp 35) (.tmp 42) rfl rfl Q rfl (cs:= #[.int .i64 d.doc,.slice d.A d.l.length d.l.length]) rfl (by simp) rfl (by intro u hu;simp at hu;rcases hu with rfl|rfl<;>rfl) (by omega) (by omega) ?_;intro A8 c8 w8 bl bs R)
      |fail)
     have e1:n.flatten++(#[Value.int .i64 d.doc,Value.slice d.A d.l.length d.l.length]:aG).toList=(n++ [[Value.int .i64 d.doc,Value.slice d.A d.l.length d.l.length]]).flatten:=(by simp);rw [e1]at R
     have e2:ps.take (j+1)=ps.take j++ [⟨d.doc,d.l⟩]:=by
      have h:ps[j]? =some ⟨d.doc,d.l⟩:=(by rw [an.o,zH,hd];rfl);rw [zI,h];rfl
     have ha:Sp w8 (NA d.A d.l.length d.c d.l::RowA 116 2 (.slice A8 (j+1) c8) (j+1) (n++ [[Value.int .i64 d.doc,Value.slice d.A d.l.length d.l.length]]).flatten::ElsA n (ps.take j)::NA (some ⟨bd,0,none⟩) nd cd (ds'.map DR.doc)::zz ((ds'.drop (j+1)).map DR.asn)::MapA prog 3 r.b (r.docs.map DR.kv)::LM):=
      Sp.selT [_,_] R [1,0]
     have Z:=Sp.post (r:=d) ha al.o.1 al.o.2;have hb:=(Sp.selT [_,_,_,_,_] Z [0,2,1,3,4]).elsPush;rw [<-e2]at hb;clear Q R Z ha e1 e2 y7 t0;go_wp2
     go_roundg (nd - (j+1))
     ·exact⟨j+1,A8,c8,_,rfl,by go_num,by omega,rfl,Sp.selT [_,_,_,_] hb [2,1,0,3]⟩
     ·omega
    ·obtain rfl:j=nd:=by omega
     have ax:ps.length=j:=(by rw [an.o,zK];exact hz.o);rw [zF (by rw [ax];exact zC _)]at P
     have Q:Sp wr (TA D k c0 (ts.take k)::BlkA G 152 ((gs.setIfInBounds 0 (.slice D k c0)).setIfInBounds 1 (.slice t k S))::RowA 116 2 (.slice Ap j cp) j n.flatten::ElsA n ps::RowA 110 1 (.slice t k S) k css.flatten::ElsA css (ls.take k)::SA (some ⟨bt,0,none⟩) m ct ts::MapA prog 9 T (rs.map TR.kv)::zz ((s.drop (k+1)).map TR.asn)::LL):=by
      rw [<-bc.o]at P;exact Sp.selT [_,_,_,_,_,_,_,_,_,_,_,_] P [7,10,1,2,8,9,6,11,5]
     have y0:wr.cell? ⟨G,0,none⟩=some (.slice D k c0):=(Q.cell M1 0).trans (by rw [z7 (by decide)];exact XS _ G0.o);have bm:=(Q.rowOf M2).cap;have b6:=(Q.rowOf M4).cap;clear P ax
     go_wp2_with (at_builtin;refine yC Ql (.tmp 50) (.tmp 52) rfl rfl Q rfl (cs:= #[.string r.term]) rfl rfl rfl (by intro u hu;simp at hu;subst hu;rfl) (by omega) (by omega) ?_;intro A8 c8 w8 bl bs R;have k3:w8.cell? ⟨G,0,none⟩=some (.slice D k c0):=(R.cell M1 0).trans (by rw [z7 (by decide)];exact XS _ G0.o);have k4:=(R.blkOf M1).frozen 0)
     have e3:sC (ts.take k)++(#[Value.string r.term]:aG).toList=sC (ts.take (k+1)):=by
      rw [zI,bj.o];simp [sC]
     rw [e3]at R;have Z:=R.p1.set 0 (.slice A8 (k+1) c8);rw [GN]at Z;obtain⟨w9,a2⟩:=eX (w8.setCell ⟨G,0,none⟩ (.slice A8 (k+1) c8));rw [a2]at Z⊢
     have ha:Sp w9 (RowA 110 1 (.slice t k S) k css.flatten::BlkA G 152 ((gs.setIfInBounds 0 (.slice A8 (k+1) c8)).setIfInBounds 1 (.slice t k S))::RowA 116 2 (.slice Ap j cp) j n.flatten::ElsA n ps::TA A8 (k+1) c8 (ts.take (k+1))::ElsA css (ls.take k)::SA (some ⟨bt,0,none⟩) m ct ts::MapA prog 9 T (rs.map TR.kv)::zz ((s.drop (k+1)).map TR.asn)::LL):=
      Sp.selT [_,_,_,_,_,_] Z [4,0,2,3,1,5]
     have z1:w9.cell? ⟨G,1,none⟩=some (.slice t k S):=(ha.cell M1 1).trans (XS _ (by rw [z7 (by decide)];exact G1.o));have ba:∀o,(w9.alloc o).cell? ⟨G,1,none⟩=some (.slice t k S):=fun o=>ON z1 o;clear Q R Z y0 k3 k4 a2 e3;have aq:j<=cp/\cp<=9223372036854775807:=(by have h:=(ha.rowOf M2).cap;omega);have J:=ha.drew;have HC:=zA (FU Ap j cp w9.drew aq.1 aq.2)
     refine gR [(13,fun W=>W.cell? ⟨G,1,none⟩=some (.slice t k S))] (hB z1) ?_;refine gF 0 ?_;refine gF 1 ?_;refine gF 2 ?_;refine gF 3 ?_;refine gF 4 ?_;refine gL 5 13 M0 ?_;refine gF 6 ?_;intro a;refine gO 7 fun K f=> ?_;go_simp;refine HC.o.mono ?_;rintro r w6 ⟨rfl,rfl⟩;refine f.o _ _ (hB z1) ?_;clear f K a;intro a;refine gO 8 fun K f=> ?_;go_simp
     refine f.o _ _ (hB (ba _)) ?_;clear f K a;intro a;refine gO 9 fun K f=> ?_;refine yz FI (.tmp 62) (.tmp 65) rfl rfl J rfl (cs:= #[.slice Ap j j]) rfl rfl rfl (by intro u hu;simp at hu;subst hu;rfl) (by omega) (by omega) ?_;intro A9 c9 w9 b7 ca hb;have x1:w9.cell? ⟨G,1,none⟩=some (.slice t k S):=(hb.cell M1 1).trans (XS _ (by rw [z7 (by decide)];exact G1.o))
     have x2:=(hb.blkOf M1).frozen 1;refine f.o _ _ (hB x1) ?_;clear f K a;refine gF 10 ?_;refine gF 11 ?_;refine gF 12 ?_;intro a;refine gO 13 fun K f=> ?_;go_simp;refine f.o _ _ hA ?_;clear f K a;intro a;refine xW (by kernel_rfl) ?_
     all_goals
      have h9:=hb.p1.set 1 (.slice A9 (k+1) c9);rw [Uv]at h9;have aj:=Sp.els (α:=PostD) (Sp.clip (Sp.selT [_,_,_,_] h9 [2,3,0,1]));have ak:=(Sp.selT [_,_,_,_,_] aj [0,4,1,2,3]).elsPush;have e4:css.flatten++(#[Value.slice Ap j j]:aG).toList=(css++ [[Value.slice Ap j j]]).flatten:=(by simp);have e5:ls.take k++ [ps]=ls.take (k+1):=(by rw [zI,bf.o];rfl);rw [e4,e5]at ak
      clear ha J hb h9 aj z1 ba x1 x2 e4 e5;go_wp2
      go_roundg (m - (k+1))
      ·exact⟨k+1,A8,A9,c8,c9,_,by go_num,by omega,rfl,Sp.selT [_,_,_,_,_] ak [4,3,2,0,1]⟩
      ·omega
  ·obtain rfl:k=m:=by omega
   have bq:ts.length=k:=(by rw [<-hv.o,zK];exact xi.o);have br:ls.length=k:=(by rw [<-xb.o,zK];exact xi.o);rw [zF (by rw [bq];exact zC _),zF (by rw [br];exact zC _)]at I;go_wp2;rw [<-bb.o]at I;have p:=Sp.selT [_,_,_,_,_,_,_,_,_,_,_,_] I [4,1,2,3,7,8,9,10,11];have b0:=(p.rowOf M1).cap;have b1:=(p.rowOf M2).cap;have b2:=(p.ls M5).cap;have b3:=(p.ls M6).cap
   have b4:=(p.ls (.tail _ M6)).cap;have b5:=(p.ls (.tail _ (.tail _ M6))).cap;obtain⟨gz,Y⟩:=eX ((gs.setIfInBounds 0 (.slice D k c0)).setIfInBounds 1 (.slice t k S));have z0:gz[0]? =some (.slice D k c0):=(by rw [<-Y,z7 (by decide)];exact XS _ G0.o);have z1:gz[1]? =some (.slice t k S):=(by rw [<-Y];exact XS _ (by rw [z7 (by decide)];exact G1.o))
   have z2:gz[2]? =some (.slice A2 y c2):=(by rw [<-Y,z7 (by decide),z7 (by decide)];exact G2.o);have z3:gz[3]? =some (.slice A3 z c3):=(by rw [<-Y,z7 (by decide),z7 (by decide)];exact G3.o);have z4:gz[4]? =some (.slice A4 B c4):=(by rw [<-Y,z7 (by decide),z7 (by decide)];exact G4.o);have z5:gz[5]? =some (.slice A5 C c5):=(by rw [<-Y,z7 (by decide),z7 (by decide)];exact G5.o)
   rw [Y]at p;have J:=p.drew;have y0:wr.cell? ⟨G,0,none⟩=some (.slice D k c0):=(p.cell M0 0).trans z0;have y1:wr.cell? ⟨G,1,none⟩=some (.slice t k S):=(p.cell M0 1).trans z1;have y2:wr.cell? ⟨G,2,none⟩=some (.slice A2 y c2):=(p.cell M0 2).trans z2;have y3:wr.cell? ⟨G,3,none⟩=some (.slice A3 z c3):=(p.cell M0 3).trans z3
   have y4:wr.cell? ⟨G,4,none⟩=some (.slice A4 B c4):=(p.cell M0 4).trans z4;have y5:wr.cell? ⟨G,5,none⟩=some (.slice A5 C c5):=(p.cell M0 5).trans z5
   refine xV [(10,fun w=>w.cell? ⟨G,0,none⟩=some (.slice D k c0)),(15,fun w=>w.cell? ⟨G,1,none⟩=some (.slice t k S)),(20,fun w=>w.cell? ⟨G,2,none⟩=some (.slice A2 y c2)),(25,fun w=>w.cell? ⟨G,3,none⟩=some (.slice A3 z c3)),(30,fun w=>w.cell? ⟨G,4,none⟩=some (.slice A4 B c4)),(35,fun w=>w.cell? ⟨G,5,none⟩=some (.slice A5 C c5))] (by kernel_rfl) (zg y0 (zg y1 (zg y2 (zg y3 (zg y4 (zg y5 (yY))))))) (fun a=> ?_)
   obtain⟨wd,a3⟩:=eX (wr.drew);rw [a3]at a J⊢;have hs:=J;have k0:=(hs.blkOf M0).frozen 0;have e0:wd.cell? ⟨G,0,none⟩=_:=(hs.cell M0 0).trans z0;clear J a3;revert a;refine gF 0 ?_;refine gF 1 ?_;refine gF 2 ?_;refine gF 3 ?_;refine gF 4 ?_;refine gF 5 ?_;refine gF 6 ?_;refine gF 7 ?_;refine gF 8 ?_;refine gL 9 10 M0 ?_;refine gF 11 ?_;refine gF 12 ?_;refine gF 13 ?_
   refine gL 14 15 M1 ?_;refine gF 16 ?_;refine gF 17 ?_;refine gF 18 ?_;refine gL 19 20 M2 ?_;refine gF 21 ?_;refine gF 22 ?_;refine gF 23 ?_;refine gL 24 25 M3 ?_;refine gF 26 ?_;refine gF 27 ?_;refine gF 28 ?_;refine gL 29 30 M4 ?_;refine gF 31 ?_;refine gF 32 ?_;refine gF 33 ?_;refine gL 34 35 M5 ?_;intro a;refine gO 10 fun K f=> ?_;go_simp;refine(KB D k c0 _ b0.2.1 b0.2.2).mono ?_
   rintro e w' ⟨rfl,rfl⟩;refine f.o _ _ (xz a) ?_;clear f K a;intro a;refine gO 15 fun K f=> ?_;go_simp;refine(BG t k S _ b1.2.1 b1.2.2).mono ?_;rintro e w' ⟨rfl,rfl⟩;refine f.o _ _ (xz a) ?_;clear f K a;intro a;refine gO 20 fun K f=> ?_;go_simp;refine(eK A2 y c2 _ b2.1 b2.2).mono ?_;rintro e w' ⟨rfl,rfl⟩;refine f.o _ _ (xz a) ?_;clear f K a;intro a
   refine gO 25 fun K f=> ?_;go_simp;refine(FQ A3 z c3 _ b3.1 b3.2).mono ?_;rintro e w' ⟨rfl,rfl⟩;refine f.o _ _ (xz a) ?_;clear f K a;intro a;refine gO 30 fun K f=> ?_;go_simp;refine(FR A4 B c4 _ b4.1 b4.2).mono ?_;rintro e w' ⟨rfl,rfl⟩;refine f.o _ _ (xz a) ?_;clear f K a;intro a;refine gO 35 fun K f=> ?_;go_simp;refine(BH A5 C c5 _ b5.1 b5.2).mono ?_;rintro e w' ⟨rfl,rfl⟩
   refine f.o _ _ (xz a) ?_;clear f K a;refine gF 36 ?_;refine gF 37 ?_;intro a;refine gO 38 fun K f=> ?_;go_simp;refine f.o _ _ hA ?_;clear f K a;intro a;have E:=hs.set 0 (.slice D k k);obtain⟨x1,a4⟩:=eX (wd.setCell ⟨G,0,none⟩ (.slice D k k));rw [a4]at E a⊢;clear a4 hs;have k1:=(E.blkOf M0).frozen 1
   have e1:x1.cell? ⟨G,1,none⟩=some (.slice t k S):=(E.cell M0 1).trans (by(repeat rw [z7 (by decide)]);exact z1);revert a;refine gF 39 ?_;refine gF 40 ?_;intro a;refine gO 41 fun K f=> ?_;go_simp;refine f.o _ _ hA ?_;clear f K a;intro a;have U:=E.set 1 (.slice t k k);obtain⟨x2,a5⟩:=eX (x1.setCell ⟨G,1,none⟩ (.slice t k k));rw [a5]at U a⊢;clear a5 E
   have k2:=(U.blkOf M0).frozen 2;have e2:x2.cell? ⟨G,2,none⟩=some (.slice A2 y c2):=(U.cell M0 2).trans (by(repeat rw [z7 (by decide)]);exact z2);revert a;refine gF 42 ?_;refine gF 43 ?_;intro a;refine gO 44 fun K f=> ?_;go_simp;refine f.o _ _ hA ?_;clear f K a;intro a;have v:=U.set 2 (.slice A2 y y);obtain⟨x3,a6⟩:=eX (x2.setCell ⟨G,2,none⟩ (.slice A2 y y))
   rw [a6]at v a⊢;clear a6 U;have k3:=(v.blkOf M0).frozen 3;have e3:x3.cell? ⟨G,3,none⟩=some (.slice A3 z c3):=(v.cell M0 3).trans (by(repeat rw [z7 (by decide)]);exact z3);revert a;refine gF 45 ?_;refine gF 46 ?_;intro a;refine gO 47 fun K f=> ?_;go_simp;refine f.o _ _ hA ?_;clear f K a;intro a;have F:=v.set 3 (.slice A3 z z)
   obtain⟨x4,a7⟩:=eX (x3.setCell ⟨G,3,none⟩ (.slice A3 z z));rw [a7]at F a⊢;clear a7 v;have k4:=(F.blkOf M0).frozen 4;have e4:x4.cell? ⟨G,4,none⟩=some (.slice A4 B c4):=(F.cell M0 4).trans (by(repeat rw [z7 (by decide)]);exact z4);revert a;refine gF 48 ?_;refine gF 49 ?_;intro a;refine gO 50 fun K f=> ?_;go_simp;refine f.o _ _ hA ?_;clear f K a;intro a
   have H:=F.set 4 (.slice A4 B B);obtain⟨x5,a8⟩:=eX (x4.setCell ⟨G,4,none⟩ (.slice A4 B B));rw [a8]at H a⊢;clear a8 F;have k5:=(H.blkOf M0).frozen 5;have e5:x5.cell? ⟨G,5,none⟩=some (.slice A5 C c5):=(H.cell M0 5).trans (by(repeat rw [z7 (by decide)]);exact z5);revert a;refine gF 51 ?_;refine gF 52 ?_;intro a;refine gO 53 fun K f=> ?_;go_simp;refine f.o _ _ hA ?_
   clear f K a;intro a;have q:=H.set 5 (.slice A5 C C);obtain⟨x6,a9⟩:=eX (x5.setCell ⟨G,5,none⟩ (.slice A5 C C));rw [a9]at q a⊢;clear a9 H;refine xW (by kernel_rfl) ?_;obtain⟨f0,f1,f2,f3,f4,f5⟩:=MS (gz:=gz) (EC z5) (.slice D k k) (.slice t k k) (.slice A2 y y) (.slice A3 z z) (.slice A4 B B) (.slice A5 C C);replace f0:=(q.cell M0 0).trans f0
   replace f1:=(q.cell M0 1).trans f1;replace f2:=(q.cell M0 2).trans f2;replace f3:=(q.cell M0 3).trans f3;replace f4:=(q.cell M0 4).trans f4;replace f5:=(q.cell M0 5).trans f5;have ht:=Sp.selT [_,_,_,_,_,_,_,_,_] q [4,1,2,3,5,6,7,8];obtain⟨d0,d1,d2,d3,d4,d5⟩:=OG ht M0;have fz:=(ht.blkOf M0).frozen;have r0:=fz 0;have r1:=fz 1;have r2:=fz 2;have r3:=fz 3;have r4:=fz 4
   have r5:=fz 5;have hf:=zA (((((((ht.set 0 (.slice D k k)).set 1 (.slice t k k)).set 2 (.slice A2 y y)).set 3 (.slice A3 z z)).set 4 (.slice A4 B B)).set 5 (.slice A5 C C)));clear y0 y1 y2 y3 y4 y5 z0 z1 z2 z3 z4 z5 b0 b1 b2 b3 b4 b5 k0 k1 k2 k3 k4 k5 a e0 e1 e2 e3 e4 e5 q ht Y fz;go_wp2
   have bu:∀x∈ts,x.size<=9223372036854775807:=fun x hx=>by
    rw [<-hv.o]at hx;obtain⟨r,hr,rfl⟩:=List.mem_map.1 hx;have:=(am.o r.pl (by rw [<-xn.o];exact List.mem_map.2 ⟨r,Hp.o.mem_iff.1 hr,rfl⟩)).1;exact zY this (by decide)
   have e1:Zl td=ts:=(by rw [<-Ho.o];exact hv.o);have e2:Y2 td=ls:=(by rw [be.o];exact xb.o);refine bodyPost_ret (LP (g:=Hb) (by rfl) (hf.o.blkOf M0)) rfl ⟨.slice D k k,.slice t k k,rfl,?_⟩;rw [e1,e2];have h1:=hf.o.tail.clip.strs bu;have h2:=(Sp.selT [_,_,_] h1 [1,2,0]).clip.els (α:=List PostD);have h3:=Sp.clipD (Sp.selT [_,_,_] h2 [2,1,0])
   have h4:=Sp.clipD (Sp.selT [_,_,_,_] h3 [3,0,1,2]);have h5:=Sp.clipD (Sp.selT [_,_,_,_,_] h4 [4,0,1,2,3]);have h6:=Sp.clipD (Sp.selT [_,_,_,_,_,_] h5 [5,0,1,2,3,4]);exact Sp.selT [_,_,_,_,_,_] h6 [4,5,3,2,1,0]
open Go.RowKit
def XH (v:V) (xs:List yZ) (css:List aF) (ys:List yZ):Asn where
 P S w:=(DatA v xs).P S w/\(ElsA css ys).P S w
 lt h:=h.1.2
 keep h ht hn:=⟨(DatA v xs).keep h.1 ht hn,(ElsA css ys).keep h.2 ht hn⟩
theorem qW {P:Program} (w:O) (t e ty:TypeId) (z:V) (i:P.underlying t=some (.slice e)) (k:∀w,(zeroValue e).run P w= .ok z w) (b o n c:Nat) (l:0<n)
 (f:∀j,j<(Builtin.zeroCells z.cells n).toList.length->(w.cell? ⟨b,o+j,none⟩).isSome=true) (h:∀j,w.frozen? ⟨b,o+j,none⟩=false) (d:∀v∈(Builtin.zeroCells z.cells n).toList,v.oneCell' =true):
 (Builtin.clear_ #[t] ty #[.slice (some ⟨b,o,none⟩) n c]).run P w= .ok (.tuple #[]) (w.setCells b o (Builtin.zeroCells z.cells n).toList):=by
 have a:=run_storeCells_cells (P:=P) b o (Builtin.zeroCells z.cells n).toList 0 w (by simpa using f) (by simp [h]) d;simp only [yt]at a;obtain⟨m,rfl⟩:∃m,n=m+1:=⟨n - 1,by omega⟩;simp [Builtin.clear_,run_underlying i,k,a]
section
variable {w:O} {L:List Asn} {A:aA} {n c:Nat} {v:V} {xs ys:List yZ} {css:List aF} {e:TypeId}
theorem Sp.readOut (h:Sp w (DatA (.slice A n c) xs::L)):∃css,css.length=n/\RC w 3 A n css.flatten/\Sp w (XH (.slice A n c) xs css xs::L):=by
 obtain⟨S,i,j,k⟩:=h;obtain⟨⟨A',n',m,e,b⟩,a⟩:=j;cases e;obtain⟨css,f,l,d⟩:=zL.css b a;exact⟨css,f.trans b.length,d,S,i,⟨⟨⟨_,_,_,rfl,b⟩,a⟩,⟨f,l⟩,a⟩,k⟩
theorem Sp.readBack (h:Sp w (Z1 [v] xs [.slice A n c] ys::L)):Sp w (DatA v xs::L):=h.unfocus
theorem Sp.bothIn (h:Sp w (RowA e 3 (.slice A n c) n css.flatten::XH v xs css ys::L)):Sp w (Z1 [v] xs [.slice A n c] ys::L):=
 h.join fun S T i a _=>by
  have d:∀b,S b\/T b->b<w.heap.size:=fun b d=>d.elim (fun d=>(i.2.lt b ((i.1 b).1 d)).2) (a.1.2 b);refine⟨⟨Rep.more a.1.1 fun _=> .inr,d⟩,?_,d⟩;have l:=i.2
  have hlen:∀c∈css,c.length=3:=by
   intro c m;obtain⟨k,f⟩:=z8 m;have o:k<ys.length:=(by have:=zN f;have:=a.2.1.1;omega);exact Rep.len (a.2.1.2 k c ys[k] f (zB o))
  have s:n=css.length:=by
   have t:=Zh css hlen;have y:=l.1;omega
  refine⟨A,n,c,rfl,by rw [s];exact a.2.1.1.symm,l.cap.2.1,l.cap.2.2,fun k x q=> ?_⟩;have f:k<css.length:=(by have:=zN q;have:=a.2.1.1;omega);obtain⟨b,rfl,_,_,m⟩:=l.at_ (by omega)
  refine⟨b,0,rfl,.inl ((i.1 b).2 rfl),css[k],Rep.more (a.2.1.2 k _ x (zB f) q) fun _=> .inr,fun j u p=> ?_⟩
  have r:j<3:=by
   have:=hlen css[k] (List.getElem_mem _);have:=zN p;omega
  rw [zx];exact m _ u (by rw [show k*Rep.size yZ=k*3 from rfl,xX css k j _ hlen (zB f) r];exact p)
theorem Sp.readCell (h:Sp w L) (m:XH v xs css ys∈L) {k:Nat} {x:yZ} (d:ys[k]? =some x):∃A n c,css[k]? =some [.int .i64 x.1,.string x.2.1,.slice A n c]:=by
 obtain⟨S,r,a⟩:=h.get m;have b:k<css.length:=by rw [a.1.1];exact zN d
 obtain⟨o,c2,e,⟨f,_⟩,p,q,l,⟨i,t⟩,A,n,c,j,s⟩:=a.1.2 k _ x (zB b) d;refine⟨A,n,c,?_⟩;rw [zB b,e,f,l,i,j];rfl
theorem Sp.readLen (h:Sp w L) (b:XH v xs css ys∈L):css.length=ys.length:=by
 obtain⟨S,_,a⟩:=h.get b;exact a.1.1
theorem Sp.readSub (h:Sp w (XH v xs css ys::L)) {css' :List aF} {ys' :List yZ} (l:css'.length=ys'.length) (m:∀(k:Nat) (cs:aF) (x:yZ),css'[k]? =some cs->ys'[k]? =some x->∃j:Nat,css[j]? =some cs/\ys[j]? =some x):Sp w (XH v xs css' ys' ::L):=
 h.turn fun S a=>⟨a.1,⟨l,fun k cs x b d=>by
  obtain⟨j,f,i⟩:=m k cs x b d;exact a.2.1.2 j cs x f i⟩,a.2.2⟩
end
section
variable {w:O} {L:List Asn} {g n c size:Nat} {e:TypeId}
theorem Sp.cutRowN {A:aA} {a u:aF} {n' :Nat} (q:0<size) (h:Sp w (RowA e size (.slice A n c) n (a++u)::L)) (j:a.length=n' *size):Sp w (RowA e size (.slice A n' c) n' a::L):=by
 refine h.turn fun S i=>⟨fun b=>by rw [i.1 b];cases A<;>simp [Value.ownBlock],?_⟩
 obtain⟨l,m⟩:=i.2;simp only [zG]at l
 have p:n' <=n:=by
  have:n' *size<=n*size:=(by omega);exact Nat.le_of_mul_le_mul_right this q
 refine⟨j,?_⟩;rcases m with⟨f,x⟩|⟨k,cap,cur,f,_,o,y,r,s,t⟩
 ·cases f;obtain rfl:n' =0:=by omega
  exact .inl ⟨rfl,rfl⟩
 ·cases f;refine .inr ⟨k,c,cur,rfl,trivial,o,by omega,r,s,?_⟩;have d:=congrArg (List.take a.length) t;rw [List.take_take,List.take_left' rfl]at d;rw [Nat.min_eq_left (by omega),j]at d;exact d
theorem Sp.setCells {k:Nat}:∀(b:aF) (o:Nat) {w:O} {xs:aF},k<=o->Sp w (RowA e size (.slice (some ⟨g,0,none⟩) n c) n xs::L)->∃a,a.length=xs.length/\a.take k=xs.take k/\Sp (w.setCells g o b) (RowA e size (.slice (some ⟨g,0,none⟩) n c) n a ::L)
 | [],_,_,xs,_,h=>⟨xs,rfl,rfl,h⟩
 |v::b,o,w,xs,hk,h=>by
  obtain⟨a,d,f,i⟩:=Sp.setCells b (o+1) (k:=k) (by omega) (h.rowSet o v);exact⟨a,by rw [d,List.length_set],by rw [f,List.take_set_of_le hk],i⟩
end
theorem j9 (f:Int) (i:Int) (I:Nat) (cs:aF) (w:O) (a:w.cell? ⟨I,0,none⟩=some (.int .i64 i)) (t:aB) (A:aA) (n c:Nat):
 Calls prog 65 #[.agg #[.int .i64 f,.string t,.slice A n c],.pointer (some ⟨I,0,none⟩)] w fun e w' =>e= .returned (.bool (f !=i))/\Below w.heap.size w w' :=by
 have b:∀o,(w.alloc o).cell? ⟨I,0,none⟩=some (.int .i64 i):=fun o=>ON a o;go_enter func65,ntmps65;go_wp2;go_ret
 exact⟨rfl,(zE _ _).alloc (zC _) _⟩
end Go.Proofs.YtjbhbfaeielbiaaGreatDoor

import Derived.Test.YtjbhbfaeielbiaaGreatDoorPart30
import Derived.Test.YtjbhbfaeielbiaaGreatDoorPart32
import Derived.Test.YtjbhbfaeielbiaaGreatDoorPart31
set_option maxRecDepth 100000
set_option maxHeartbeats 8000000
set_option linter.unusedVariables false
set_option linter.unusedSimpArgs false
namespace Go.Proofs.YtjbhbfaeielbiaaGreatDoor
open Tryz
open Rep (rep)
open Go.RowKit Go.Maps
attribute [local go_sem ↓] zU zV
theorem l5 (A:aA) (n c:Nat) (w:O) (h:n<=c) (hc:c<=9223372036854775807):Calls prog 109 #[.slice A n c] w fun e w' =>e= .returned (.slice A n n)/\w=w' :=by
 go_enter func109,ntmps109;go_wp2;go_ret
 exact⟨rfl,rfl⟩
theorem eM {gs:aG} {i:Nat} {v:V} (h:gs[i]? =some v):gs.setIfInBounds i v=gs:=by
 apply Array.ext_getElem?
 intro j;rw [yV]
 split
 ·rename_i e;subst e;obtain⟨hl,_⟩:=Array.getElem?_eq_some_iff.1 h;rw [if_pos hl,h]
 ·rfl
theorem Uv (gs:aG) (i:Nat) (u v:V):(gs.setIfInBounds i u).setIfInBounds i v=gs.setIfInBounds i v:=by
 apply Array.ext_getElem?
 intro j;rw [yV,yV,yV]
 split
 ·rename_i e;subst e;simp
 ·rfl
theorem XS {gs:aG} {i:Nat} (u:V) {v:V} (h:gs[i]? =some v):(gs.setIfInBounds i u)[i]? =some u:=by
 obtain⟨hl,_⟩:=Array.getElem?_eq_some_iff.1 h;rw [yV,if_pos rfl,if_pos hl]
def ptsC (doc:Nat) (cells:List yZ):List Pt:=cells.map fun c=>((doc:Int),c.2.2)
theorem oF {G n5 c5 doc m cm:Nat} {A5 B:aA} {gs:aG} {css:List aF} {pts:List Pt} {ocs:aF} {ox cells:List yZ} {w:O} {L:List Asn}
 (hm:m<=64) (hnum:∀c∈cells,c.2.2.length<=1000000000) (hdoc:doc<=16384) (hn5:n5<=10000000)
 (HS:Sp w (BlkA G 152 gs::RowA 232 2 (.slice A5 n5 c5) n5 css.flatten::ElsA css pts::Z1 ocs ox [.slice B m cm] cells::L)) (g5:gs[5]? =some (.slice A5 n5 c5)):
 Calls prog 113 #[.pointer (some ⟨G,0,none⟩),.int .i64 (doc:Int),.slice B m cm] w fun e w' =>e= .returned (.tuple #[])/\∃A' c' css',Sp w' (BlkA G 152 (gs.setIfInBounds 5 (.slice A' (n5+m) c'))::RowA 232 2 (.slice A' (n5+m) c') (n5+m) css'.flatten::ElsA css' (pts++ptsC doc cells)::Z1 ocs ox [.slice B m cm] cells::L):=by
 have Hnum:=zA hnum;have G5:=zA g5;have hlen:=zA (HS.ls2 M3).length;have hcap:=(HS.ls2 M3).cap;have HS1:=HS;rw [<-eM g5]at HS1;clear hnum g5 HS;go_enter func113,ntmps113;go_wp2
 go_loopg [10] m (fun gk v10 wr=>∃(k n' :Nat) (A' :aA) (c' :Nat) (css' :List aF),v10= .int .i64 k/\k<=m/\gk=m - k/\n' =n5+k/\Sp wr (BlkA G 152 (gs.setIfInBounds 5 (.slice A' n' c'))::RowA 232 2 (.slice A' n' c') n' css'.flatten::ElsA css' (pts++ptsC doc (cells.take k))::Z1 ocs ox [.slice B m cm] cells::L))
 case atStart=>exact⟨0,n5,A5,c5,css,rfl,zJ _,rfl,rfl,by simpa [ptsC]using HS1⟩
 case round=>
  obtain⟨k,n',A',c',css',rfl,hk,rfl,hn',HS2⟩:=hrel;have Hn' :=zA hn';have hnb:n' <=20000000:=(by omega);clear HS1 hn'
  by_cases hkm:k<m
  ·obtain⟨b,off,x,rfl,hxe,hb,hee⟩:=(HS2.ls2 M3).at_ hkm
   obtain⟨Ax,nx,cx,E0,E1,E2,hnx, -⟩:=yZ.at_ hee
   have hnl:nx<=1000000000:=(by rw [<-hnx.length];exact Hnum.out x (zD hxe.out));obtain⟨Tb,hTb⟩:=eX (wr.heap.size);have HS3:=HS2.blkH 59 #[.int .i64 x.1,.string x.2.1,.slice Ax nx cx] hTb;go_upto_region 3 with fail;obtain⟨w4,hw4⟩:=eX (wr.alloc (.cells #[.int .i64 x.1,.string x.2.1,.slice Ax nx cx] 59));have hbb:Below wr.heap.size wr w4:=(by rw [<-hw4];exact(zE _ _).alloc (zC _) _);rw [hw4]at HS3⊢
   have Hbb:=zA hbb;have Hnx:=zA hnx;have z2:=HS3.cl M0 2;have y5:w4.cell? ⟨G,5,none⟩=some (.slice A' n' c'):=(HS3.cell M1 5).trans (XS _ G5.out);have y5a:∀o,(w4.alloc o).cell? ⟨G,5,none⟩=some (.slice A' n' c'):=fun o=>ON y5 o;have hgt:G≠Tb:=HS3.ne.symm;have HSd:=HS3.drew;have HC:=zA (XW Ax nx cx (ints x.2.2) w4.drew (by omega) ((hnx.on hbb).on (zE _ _).drew).reads_ints (Y3 _))
   have hin:Hid (∀v∈x.2.2,In64 v):=fun v hv=>by
    obtain⟨q,hq⟩:=z8 hv;obtain⟨b2,off2,y,rfl,Hx,_,he⟩:=hnx.at_ (k:=q) (by rw [<-hnx.length];exact zN hq)
    cases Hx.out.symm.trans hq;exact he.int.2
   clear HS2 hee hnx E0 E1 E2 hw4 hTb hbb;refine gR [(17,fun W=>W.cell? ⟨G,5,none⟩=some (.slice A' n' c')/\W.cell? ⟨Tb,2,none⟩=some (.slice Ax nx cx))] (hB ⟨y5,HSd.cell M0 2⟩) ?_;refine gF 0 ?_;refine gF 1 ?_;refine gF 2 ?_;refine gF 3 ?_;refine gF 4 ?_;refine gL 5 17 M0 ?_;refine gF 6 ?_;refine gF 7 ?_;refine gL 8 17 M0 ?_;intro hC;refine gO 9 fun K hK=> ?_;go_simp;refine HC.out.mono ?_
   rintro r w5 ⟨A8,c8,rfl,hr8,hb8⟩;have HS5:=HSd.row hr8 hb8;have hcp:=(HS5.ilen M0).2;have HP:=zA (l5 A8 nx c8 w5 hcp.1 hcp.2);refine hK.out _ _ (hB ⟨(HS5.cell M2 5).trans (XS _ G5.out),HS5.cell M1 2⟩) ?_;clear hK K hC;intro hC;refine gO 10 fun K hK=> ?_;go_simp;refine HP.out.mono ?_;rintro r w6 ⟨rfl,rfl⟩;refine hK.out _ _ (hB ⟨(HS5.cell M2 5).trans (XS _ G5.out),HS5.cell M1 2⟩) ?_
   clear hK K hC;refine gF 11 ?_;intro hC;refine gO 12 fun K hK=> ?_;go_simp;refine hK.out _ _ (hB ⟨((HS5.al _).cell M2 5).trans (XS _ G5.out),(HS5.al _).cell M1 2⟩) ?_;clear hK K hC;intro hC;refine gO 13 fun K hK=> ?_
   refine yz Ws (.tmp 19) (.tmp 26) rfl rfl (HS5.p3) rfl (cs:= #[.int .i64 (doc:Int),.slice A8 nx nx]) rfl rfl rfl (by intro u hu;simp at hu;rcases hu with rfl|rfl<;>rfl) (by omega) (by omega) ?_
   intro A9 c9 w9 hc9 hm9 HS9;have y7:w9.cell? ⟨G,5,none⟩=some (.slice A' n' c'):=(HS9.cell M3 5).trans (XS _ G5.out);have y8:=(HS9.blkOf M3).frozen 5;refine hK.out _ _ (hB ⟨y7,HS9.cell M2 2⟩) ?_;clear hK K hC;refine gF 14 ?_;refine gF 15 ?_;refine gF 16 ?_;intro hC;refine gO 17 fun K hK=> ?_;go_simp;refine hK.out _ _ hA ?_;clear hK K hC;intro hC;refine xW (by kernel_rfl) ?_
   all_goals
    have HSa:=(HS9.p3).set 5 (.slice A9 (n' +1) c9);rw [Uv]at HSa;have HSb:=Sp.ints (Sp.clip (Sp.selT [_,_,_,_,_,_] HSa [2,0,1,4,5])) hin.out;have HSe:=Sp.mk1 (cs:= [.int .i64 (doc:Int),.slice A8 nx nx]) (x:=(((doc:Int),x.2.2):Pt)) HSb fun S hS=>⟨[.int .i64 (doc:Int)], [.slice A8 nx nx],rfl,⟨rfl,show In64 ((doc:Nat):Int)from⟨by omega,by omega⟩⟩,hS⟩
    have HSf:=Sp.selT [_,_,_,_] (Sp.selT [_,_,_,_,_] HSe [0,3,1,2,4]).elsPush [1,2,0,3];have e1:css'.flatten++(#[Value.int .i64 (doc:Int),Value.slice A8 nx nx]:aG).toList=(css' ++ [[Value.int .i64 (doc:Int),Value.slice A8 nx nx]]).flatten:=(by simp)
    have e2:pts++ptsC doc (cells.take k)++ [((doc:Int),x.2.2)]=pts++ptsC doc (cells.take (k+1)):=by
     rw [zI,hxe.out];simp [ptsC]
    rw [e1,e2]at HSf;clear HS3 HS5 HS9 HSa HSb HSe HSd e1 e2 z2 y5 y5a y7 y8 hr8 hb8;go_wp2
    go_roundg (m - (k+1))
    ·exact⟨k+1,n' +1,A9,c9,_,by go_num,by omega,rfl,by have:=Hn'.out;omega,HSf⟩
    ·omega
  ·obtain rfl:k=m:=by omega
   rw [zF (by rw [hlen.out];exact zC _),Hn'.out]at HS2;go_wp2
   go_end0
   exact⟨rfl,A',c',css',HS2⟩
def YG (cells:List yZ):aD:=cells.map fun c=>c.2.2.getD 0 0
theorem GF {G n4 c4 n5 c5 doc m cm:Nat} {A4 A5 B:aA} {gs:aG} {css4 css:List aF} {nums:List aD} {pts:List Pt} {ocs:aF} {ox cells:List yZ} {w:O} {L:List Asn}
 (hm:m<=64) (hnum:∀c∈cells,1<=c.2.2.length/\c.2.2.length<=1000000000) (hdoc:doc<=16384) (hn4:n4<=10000000) (hn5:n5<=10000000)
 (HS:Sp w (BlkA G 152 gs::RowA 57 1 (.slice A4 n4 c4) n4 css4.flatten::ElsA css4 nums::RowA 232 2 (.slice A5 n5 c5) n5 css.flatten::ElsA css pts::Z1 ocs ox [.slice B m cm] cells::L)) (g4:gs[4]? =some (.slice A4 n4 c4)) (g5:gs[5]? =some (.slice A5 n5 c5)):
 Calls prog 112 #[.pointer (some ⟨G,0,none⟩),.int .i64 (doc:Int),.slice B m cm] w fun e w' =>e= .returned (.tuple #[])/\∃A4' c4' css4' A' c' css',
  Sp w' (BlkA G 152 ((gs.setIfInBounds 4 (.slice A4' (n4+1) c4')).setIfInBounds 5 (.slice A' (n5+m) c'))::RowA 57 1 (.slice A4' (n4+1) c4') (n4+1) css4'.flatten::ElsA css4' (nums++ [xP (YG cells)])::RowA 232 2 (.slice A' (n5+m) c') (n5+m) css'.flatten::ElsA css' (pts++ptsC doc cells)::Z1 ocs ox [.slice B m cm] cells::L):=by
 have Hnum:=zA hnum;have G4:=zA g4;have G5:=zA g5;have hlen:=zA (HS.ls2 M5).length;have hcap:=(HS.ls2 M5).cap;have HS1:Sp w (IA none 0 0 []::_):=HS.nil 2 1;clear hnum g4 g5 HS;go_enter func112,ntmps112;go_wp2
 go_loopg [6,11] m (fun gk v6 v11 wr=>∃(k:Nat) (A6:aA) (c6:Nat),v6= .slice A6 k c6/\v11= .int .i64 k/\k<=m/\gk=m - k/\Sp wr (IA A6 k c6 (YG (cells.take k))::BlkA G 152 gs::RowA 57 1 (.slice A4 n4 c4) n4 css4.flatten::ElsA css4 nums::RowA 232 2 (.slice A5 n5 c5) n5 css.flatten::ElsA css pts::Z1 ocs ox [.slice B m cm] cells::L))
 case atStart=>exact⟨0,none,0,rfl,rfl,zJ _,rfl,HS1⟩
 case round=>
  obtain⟨k,A6,c6,rfl,rfl,hk,rfl,HS2⟩:=hrel;clear HS1
  by_cases hkm:k<m
  ·obtain⟨b,off,x,rfl,hxe,hb,hee⟩:=(HS2.ls2 M6).at_ hkm
   obtain⟨Ax,nx,cx,E0,E1,E2,hnx, -⟩:=yZ.at_ hee
   have hnl:=Hnum.out x (zD hxe.out);rw [hnx.length]at hnl;obtain⟨bx,ox,v0,rfl,hv0,hbx,hex⟩:=hnx.at_ (k:=0) (by omega)
   have hnx0:(0:Int)<(nx:Int):=(by omega);obtain⟨Tb,hTb⟩:=eX (wr.heap.size);have HS3:=(HS2.blkH 59 #[.int .i64 x.1,.string x.2.1,.slice (some ⟨bx,ox,none⟩) nx cx] hTb).p1;go_upto_region 4 with fail;obtain⟨w4,hw4⟩:=eX (wr.alloc (.cells #[.int .i64 x.1,.string x.2.1,.slice (some ⟨bx,ox,none⟩) nx cx] 59));have hbb:Below wr.heap.size wr w4:=(by rw [<-hw4];exact(zE _ _).alloc (zC _) _)
   rw [hw4]at HS3⊢;have z2:=HS3.cl M1 2;have z3:w4.cell? ⟨bx,ox,none⟩=some (.int .i64 v0):=(hbb.cell hbx).trans (by simpa using hex.int.1);have hin0:=zA hex.int.2;clear HS2 hee hnx E0 E1 E2 hw4 hTb hbb hex
   go_wp2_with (at_builtin;refine yC Zs (.tmp 15) (.tmp 20) rfl rfl HS3 rfl (cs:= #[.int .i64 v0]) rfl rfl rfl (by intro u hu;simp at hu;subst hu;rfl) (by omega) (by omega) ?_;intro A8 c8 w8 hc8 hm8 HS8)
   have e1:ints (YG (cells.take k))++(#[Value.int .i64 v0]:aG).toList=ints (YG (cells.take (k+1))):=by
    have e2:x.2.2.getD 0 0=v0:=(by rw [zm,hv0.out];rfl);rw [zI,hxe.out];simp [Go.Proofs.YtjbhbfaeielbiaaGreatDoor.ints,YG,<-e2,zm]
   rw [e1]at HS8;have HS9:=HS8.d1;clear HS3 HS8 e1 z2 z3;go_wp2
   go_roundg (m - (k+1))
   ·exact⟨k+1,A8,c8,rfl,by go_num,by omega,rfl,HS9⟩
   ·omega
  ·obtain rfl:k=m:=by omega
   rw [zF (by rw [hlen.out];exact zC _)]at HS2;have HP:=zA (mH HS2 (by omega));clear HS2;go_wp2_with (go_at_call 194;refine HP.out.mono ?_;rintro r w5 ⟨rfl,HS5⟩);have HSd:=HS5.drew;have hcp:=(HSd.ilen M0).2;have HC:=zA (l5 A6 k c6 w5.drew hcp.1 hcp.2);have y5:w5.cell? ⟨G,4,none⟩=some (.slice A4 n4 c4):=(HS5.cell M1 4).trans G4.out
   have y5a:∀o,(w5.alloc o).cell? ⟨G,4,none⟩=some (.slice A4 n4 c4):=fun o=>ON y5 o;clear HS5 HP
   go_cut []from 25 to 37 (fun W=>∃(A8:aA) (c8:Nat),Sp W (RowA 57 1 (.slice A8 (n4+1) c8) (n4+1) (css4.flatten++(#[Value.slice A6 k k]:aG).toList)::BlkA G 152 (gs.setIfInBounds 4 (.slice A8 (n4+1) c8))::IA A6 k c6 (xP (YG cells))::ElsA css4 nums::RowA 232 2 (.slice A5 n5 c5) n5 css.flatten::ElsA css pts::Z1 ocs ox [.slice B k cm] cells::L))
   case first=>
    refine gR [(13,fun W=>W.cell? ⟨G,4,none⟩=some (.slice A4 n4 c4))] (hB ((HSd.cell M1 4).trans G4.out)) ?_;refine gF 0 ?_;refine gF 1 ?_;refine gF 2 ?_;refine gF 3 ?_;refine gF 4 ?_;refine gL 5 13 M0 ?_;refine gF 6 ?_;intro hC;refine gO 7 fun K hK=> ?_;go_simp;refine HC.out.mono ?_;rintro r w6 ⟨rfl,rfl⟩;refine hK.out _ _ (hB ((HSd.cell M1 4).trans G4.out)) ?_;clear hK K hC;intro hC
    refine gO 8 fun K hK=> ?_;go_simp;refine hK.out _ _ (hB (((HSd.al _).cell M1 4).trans G4.out)) ?_;clear hK K hC;intro hC;refine gO 9 fun K hK=> ?_;refine yz WY (.tmp 30) (.tmp 33) rfl rfl (HSd.p2) rfl (cs:= #[.slice A6 k k]) rfl rfl rfl (by intro u hu;simp at hu;subst hu;rfl) (by omega) (by omega) ?_;intro A8 c8 w8 hc8 hm8 HS8
    have y6:w8.cell? ⟨G,4,none⟩=some (.slice A4 n4 c4):=(HS8.cell M2 4).trans G4.out;have y7:=(HS8.blkOf M2).frozen 4;refine hK.out _ _ (hB y6) ?_;clear hK K hC;refine gF 10 ?_;refine gF 11 ?_;refine gF 12 ?_;intro hC;refine gO 13 fun K hK=> ?_;go_simp;refine hK.out _ _ hA ?_;clear hK K hC;intro hC;refine xW (by kernel_rfl) ?_
    all_goals
     have HS9:=(HS8.p2).set 4 (.slice A8 (n4+1) c8);go_wp2
     go_meet
     exact⟨A8,c8,HS9.p1⟩
   case rest=>
    obtain⟨A8,c8,HS6⟩:=hcut;have e1:css4.flatten++(#[Value.slice A6 k k]:aG).toList=(css4++ [[Value.slice A6 k k]]).flatten:=(by simp);rw [e1]at HS6
    have hin:∀v∈xP (YG cells),In64 v:=fun v hv=>by
     have:=(List.mergeSort_perm (YG cells) fun x y=>decide (x<=y)).mem_iff.1 hv;obtain⟨x,hx,rfl⟩:=List.mem_map.1 this;obtain⟨q,hq⟩:=z8 hx;obtain⟨b,off,y,rfl,Hy,hb,hee⟩:=(HS6.ls2 M6).at_ (k:=q) (by rw [<-hlen.out];exact zN hq)
     cases Hy.out.symm.trans hq;obtain⟨Ax,nx,cx, -, -, -,hnx, -⟩:=yZ.at_ hee
     have hl1:=(Hnum.out x hx).1;rw [hnx.length]at hl1;obtain⟨bx,ox,v0,rfl,hv0,hbx,hex⟩:=hnx.at_ (k:=0) hl1
     rw [zm,hv0.out];exact hex.int.2
    have HS7:=(Sp.selT [_,_,_,_] (Sp.ints (Sp.clip (Sp.selT [_,_,_] HS6 [2,0,1])) hin) [0,3,2,1]).elsPush;have HS8:=Sp.selT [_,_,_,_,_,_] HS7 [1,3,4,5,0,2]
    have g5' :(gs.setIfInBounds 4 (.slice A8 (n4+1) c8))[5]? =some (.slice A5 n5 c5):=by
     rw [yV,if_neg (by decide)];exact G5.out
    have HPt:=zA (oF hm (fun c hc=>(Hnum.out c hc).2) hdoc hn5 HS8 g5');clear HS6 HS7 HS8 e1 g5' hin;go_wp2_with (go_at_call 113;refine HPt.out.mono ?_;rintro r w9 ⟨rfl,A9,c9,css9,HS9⟩)
    go_end0
    exact⟨rfl,A8,c8,_,A9,c9,css9,Sp.selT [_,_,_,_,_,_] HS9 [0,5,4,1,2,3]⟩
theorem lE {α β:Type} {f:α->β} {ms ks:List β} (h:ms.Perm ks):∀l:List α,l.map f=ms->∃l' :List α,l'.Perm l/\l'.map f=ks:=by
 induction h with
 |nil=>exact fun l hl=>⟨l,List.Perm.refl _,hl⟩
 |cons x _ ih=>
  intro l hl;cases l with
  |nil=>cases hl
  |cons a l=>
   simp only [yH,List.cons.injEq]at hl;obtain⟨l',h1,h2⟩:=ih l hl.2;exact⟨a::l',h1.cons a,by simp [hl.1,h2]⟩
 |swap x y m=>
  intro l hl
  match l,hl with
  |a::b::l,hl=>
   simp only [yH,List.cons.injEq]at hl;exact⟨b::a::l,List.Perm.swap a b l,by simp [hl.1,hl.2.1,hl.2.2]⟩
 |trans _ _ ih1 ih2=>
  intro l hl;obtain⟨l1,h1,h2⟩:=ih1 l hl;obtain⟨l2,h3,h4⟩:=ih2 l1 h2;exact⟨l2,h3.trans h1,h4⟩
theorem Ub {κ ν:Type} [DecidableEq κ]:∀{l:List (κ×ν)} {k:κ} {v:ν},(l.map (·.1)).Nodup->(k,v)∈l->Xa l k=some v
 | [],_,_,_,h=>by simp at h
 |p::l,k,v,hn,h=>by
  rw [yH,List.nodup_cons]at hn;unfold Xa;rcases yx.1 h with rfl|h
  ·simp
  ·have hne:p.1≠k:=fun e=>hn.1 (by rw [e];exact List.mem_map.2 ⟨_,h,rfl⟩);rw [List.find?_cons_of_neg (by simpa using hne)];exact Ub hn.2 h
theorem iW (l:List aB):(xq l).Perm l:=by
 have h:=(List.mergeSort_perm (l.map zn) fun x y=>decide (x<=y)).map WC;rw [kP]at h;exact h
theorem Q7 (l:aD):(xP l).Perm l:=List.mergeSort_perm _ _
theorem tT {rs:List TR}:∃rs' :List TR,rs'.Perm rs/\rs'.map TR.term=Zl (rs.map TR.pl):=by
 have h:(rs.map TR.term).Perm (Zl (rs.map TR.pl)):=by
  unfold Zl;rw [yD];exact(iW _).symm
 exact lE h rs rfl
theorem AS {ds:List DR}:∃ds' :List DR,ds'.Perm ds/\ds'.map DR.doc=xP ((ds.map DR.pl).map (·.1)):=by
 have h:(ds.map DR.doc).Perm (xP ((ds.map DR.pl).map (·.1))):=by
  rw [yD];exact(Q7 _).symm
 exact lE h ds rfl
theorem IV {ds ds' :List DR} (hn:(ds.map DR.doc).Nodup) (hp:ds'.Perm ds) (ho:ds'.map DR.doc=xP ((ds.map DR.pl).map (·.1))):Zo (ds.map DR.pl)=ds'.map fun r=>(⟨r.doc,r.l⟩:PostD):=by
 unfold Zo;rw [<-ho,yD]
 apply List.map_congr_left
 intro r hr;have:Xa (ds.map DR.pl) r.doc=some r.l:=Ub (by rw [yD];exact hn) (List.mem_map.2 ⟨r,hp.mem_iff.1 hr,rfl⟩);simp [this]
theorem JF {rs rs' :List TR} (hn:(rs.map TR.term).Nodup) (hp:rs'.Perm rs) (ho:rs'.map TR.term=Zl (rs.map TR.pl)):Y2 (rs.map TR.pl)=rs'.map fun r=>Zo (r.docs.map DR.pl):=by
 unfold Y2;rw [<-ho,yD]
 apply List.map_congr_left
 intro r hr;have:Xa (rs.map TR.pl) r.term=some (r.docs.map DR.pl):=Ub (by rw [yD];exact hn) (List.mem_map.2 ⟨r,hp.mem_iff.1 hr,rfl⟩);simp [this]
theorem FU (A:aA) (n c:Nat) (w:O) (h:n<=c) (hc:c<=9223372036854775807):Calls prog 119 #[.slice A n c] w fun e w' =>e= .returned (.slice A n n)/\w=w' :=by
 go_enter func119,ntmps119;go_wp2;go_ret
 exact⟨rfl,rfl⟩
theorem Sp.post {w:O} {L:List Asn} {r:DR} (h:Sp w (r.asn::L)) (hd:In64 r.doc) (hl:∀x∈r.l,In64 x):Sp w (RepA [.int .i64 r.doc,.slice r.A r.l.length r.l.length] (⟨r.doc,r.l⟩:PostD)::L):=by
 have h1:Sp w (NA r.A r.l.length r.c r.l::L):=h
 exact(h1.clip.ints hl).mk1 (cs:= [.int .i64 r.doc,.slice r.A r.l.length r.l.length]) (x:=(⟨r.doc,r.l⟩:PostD)) fun S q=>by
  obtain⟨A',n',c',e,h⟩:=q;cases e;exact PostD.of_cells (x:=(⟨r.doc,r.l⟩:PostD)) h hd
theorem AU {w:O} {L:List Asn} {b:Nat} {ds:List DR} (h:Sp w L) (hm:MapA prog 3 b (ds.map DR.kv)∈L):(ds.map DR.doc).Nodup:=by
 have:=h.mapDistinct hm;rw [yD]at this;have e:ds.map ((fun p:V×V=>p.1) ∘ DR.kv)=(ds.map DR.doc).map (Value.int .i64):=by rw [yD];rfl
 rw [e]at this;exact(List.pairwise_map.1 this).imp fun h e=>h (by rw [e])
theorem FI:Elt prog 145 110 1 24:=xt (by kernel_rfl) (by decide) (by kernel_rfl)
theorem GN (gs:aG) (a b c:V):((gs.setIfInBounds 0 a).setIfInBounds 1 b).setIfInBounds 0 c=(gs.setIfInBounds 0 c).setIfInBounds 1 b:=by
 rw [Array.setIfInBounds_comm _ _ (by decide:(0:Nat)≠1),Uv,Array.setIfInBounds_comm _ _ (by decide:(0:Nat)≠1)]
def OZ (td:xo):Prop:=∀p∈td,p.1.size<=1000000000/\∀q∈p.2,In64 q.1/\∀x∈q.2,In64 x
theorem EC {gz:aG} {i:Nat} {v:V} (h:gz[i]? =some v):i<gz.size:=(Array.getElem?_eq_some_iff.1 h).1
theorem MS {gz:aG} (h:5<gz.size) (a b c d e f:V):let g:=(((((gz.setIfInBounds 0 a).setIfInBounds 1 b).setIfInBounds 2 c).setIfInBounds 3 d).setIfInBounds 4 e).setIfInBounds 5 f
 g[0]? =some a/\g[1]? =some b/\g[2]? =some c/\g[3]? =some d/\g[4]? =some e/\g[5]? =some f:=by
 intro g;have h0:0<gz.size:=by omega
 have h1:1<gz.size:=by omega
 have h2:2<gz.size:=by omega
 have h3:3<gz.size:=by omega
 have h4:4<gz.size:=by omega
 refine⟨?_,?_,?_,?_,?_,?_⟩<;>simp [g,yV,h,h0,h1,h2,h3,h4]
theorem LP {w:O} {g:Nat} {a0 a1 a2 a3 a4 a5:V} {tmps:aG} (h0:tmps.getD 2 undef= .pointer (some ⟨g,0,none⟩)) (hb:Blk w g 150 #[a0,a1,a2,a3,a4,a5]):(results Tryz.f66 tmps).run prog w= .ok (.agg #[a0,a1,a2,a3,a4,a5]) w:=by
 have h1:=run_loadVar_row (P:=prog) w g 150 150 #[a0,a1,a2,a3,a4,a5] (0,0) _ hb underlying150 rfl (by kernel_rfl);have h2:Tryz.f66.results= #[ResultVar.cell 2 150]:=rfl;have h3:tmps[2]?.getD undef= .pointer (some ⟨g,0,none⟩):=by simpa using h0
 simp [results,h2,h3,h1,asAddr,Result.andThen]
theorem Sp.clipD {α:Type} [Rep α] {w:O} {L:List Asn} {A:aA} {n c:Nat} {xs:List α} (h:Sp w (DatA (.slice A n c) xs::L)):Sp w (DatA (.slice A n n) xs::L):=
 h.turn fun S hS=>⟨by
  obtain⟨A',n',c',e,h1,h2,h3,h4⟩:=hS.1;cases e;exact⟨A,n,n,rfl,h1,zC _,zY h2 h3,h4⟩,hS.2⟩
theorem CC {G T N n2 c2 n3 c3 n4 c4 n5 c5:Nat} {A2 A3 A4 A5:aA} {gs:aG} {td:xo} {lens:aD} {tx:List (List aB)} {nums:List aD} {pts:List Pt} {w:O} {L:List Asn}
 (hN:Ya N td) (hN2:N<=6000000000) (hin:OZ td)
 (HS:Sp w (YR T td::BlkA G 152 gs::DatA (.slice A2 n2 c2) lens::DatA (.slice A3 n3 c3) tx::DatA (.slice A4 n4 c4) nums::DatA (.slice A5 n5 c5) pts::L))
 (g0:gs[0]? =some (.slice none 0 0)) (g1:gs[1]? =some (.slice none 0 0)) (g2:gs[2]? =some (.slice A2 n2 c2)) (g3:gs[3]? =some (.slice A3 n3 c3)) (g4:gs[4]? =some (.slice A4 n4 c4)) (g5:gs[5]? =some (.slice A5 n5 c5)) (g8:gs[8]? =some (.map (some T))):
 Calls prog 66 #[.pointer (some ⟨G,0,none⟩)] w fun e w' =>∃v0 v1,e= .returned (.agg #[v0,v1,.slice A2 n2 n2,.slice A3 n3 n3,.slice A4 n4 n4,.slice A5 n5 n5])/\Sp w' (DatA v0 (Zl td)::DatA v1 (Y2 td)::DatA (.slice A2 n2 n2) lens::DatA (.slice A3 n3 n3) tx::DatA (.slice A4 n4 n4) nums::DatA (.slice A5 n5 n5) pts::L):=by
 obtain⟨rs,hrs,HS1⟩:=HS.termsOut;obtain⟨rs',hp,ho⟩:=tT (rs:=rs);have hle:=JF (gJ HS1 M0) hp ho;rw [hrs]at ho hle;have HS2:=(Sp.selT [_,_] HS1 [1,0]).starPerm (hp.symm.map TR.asn);obtain⟨Hb,hHb⟩:=eX (w.heap.size);have HS3:=HS2.blkH 150 #[.slice none 0 0,.slice none 0 0,.slice none 0 0,.slice none 0 0,.slice none 0 0,.slice none 0 0] hHb
 have hrl:rs.length<=N:=by have:=hN.1;rw [<-hrs]at this;simpa using this
 have Hp:=zA hp;have Ho:=zA ho;have Hle:=zA hle;have Hrs:=zA hrs;have HN:=zA hN;have Hin:=zA hin;have G0:=zA g0;have G1:=zA g1;have G2:=zA g2;have G3:=zA g3;have G4:=zA g4;have G5:=zA g5;have G8:=zA g8;clear HS HS1 HS2 hp ho hle hrs hN hin g0 g1 g2 g3 g4 g5 g8;go_enter func66,ntmps66;go_upto_region 1 with fail
 obtain⟨w2,hw2⟩:=eX (w.alloc (.cells #[.slice none 0 0,.slice none 0 0,.slice none 0 0,.slice none 0 0,.slice none 0 0,.slice none 0 0] 150));rw [hw2]at HS3⊢;clear hw2;obtain⟨Bm,hBm⟩:=eX (w2.heap.size);have HS4:=HS3.blkH 144 #[.map (some T)] hBm;have c8:w2.cell? ⟨G,8,none⟩=some (.map (some T)):=(HS3.cell M3 8).trans G8.out
 have HP:=zA (tX (Bm:=Bm) (ts:=rs.map TR.term) HS4 M3 (by rw [yD,yD];rfl) (HS4.cell M0 0) (by rw [<-hBm];show _<(w2.heap.push _).size;rw [Array.size_push];exact Nat.lt_succ_self _) (by rw [zK];omega));clear HS3 HS4
 go_wp2_with (first
  |(go_at_call 116;refine(EK _ _).mono ?_;rintro r w3 ⟨rfl,rfl⟩)
  |(go_at_call 115;go_loud (refine HP.out.mono ?_;rintro r w4 ⟨At,ct,rfl,HS5⟩)))
 obtain⟨ts,hts⟩:=eX (rs'.map TR.term);have hst:xq (rs.map TR.term)=ts:=by rw [<-hts,Ho.out,<-Hrs.out];unfold Zl;rw [yD];rfl
 obtain⟨ls,hls⟩:=eX ((rs'.map fun r=>Zo (r.docs.map DR.pl)));obtain⟨m,hm⟩:=eX (rs.length);have hm' :(rs.map TR.term).length=m:=by rw [zK];exact hm
 have hm2:rs'.length=m:=by rw [<-hm];exact Hp.out.length_eq
 rw [hst,hm']at HS5;rw [hm];obtain⟨LL,hLL⟩:=eX (BlkA Hb 150 #[.slice none 0 0,.slice none 0 0,.slice none 0 0,.slice none 0 0,.slice none 0 0,.slice none 0 0]::DatA (.slice A2 n2 c2) lens::DatA (.slice A3 n3 c3) tx::DatA (.slice A4 n4 c4) nums::DatA (.slice A5 n5 c5) pts::L)
 have HS6:Sp w4 (SA At m ct ts::BlkA G 152 gs::MapA prog 9 T (rs.map TR.kv)::zz (rs'.map TR.asn)::LL):=by
  rw [<-hLL];exact Sp.selT [_,_,_,_,_,_] HS5 [0,5,4,3,2]
 have HLL:=zA hLL;have Hts:=zA hts;have Hls:=zA hls;have Hm2:=zA hm2
 have HS8:Sp w4 (SA At m ct ts::TA none 0 0 []::RowA 110 1 (.slice none 0 0) 0 []::ElsA [] ([]:List (List PostD))::BlkA G 152 gs::MapA prog 9 T (rs.map TR.kv)::zz (rs'.map TR.asn)::LL):=
  Sp.selT [_,_,_,_] (((HS6.elsNil (α:=List PostD)).nil 110 1).nil 9 1) [3,0,1,2]
 clear HS5 HS6 HP c8 hLL hts hls hst hm' hm2
 go_loopg [17] m (fun gk v17 wr=>∃(k:Nat) (A0 A1:aA) (c0 c1:Nat) (css:List aF),v17= .int .i64 k/\k<=m/\gk=m - k/\Sp wr (SA At m ct ts::TA A0 k c0 (ts.take k)::RowA 110 1 (.slice A1 k c1) k css.flatten::ElsA css (ls.take k)::BlkA G 152 ((gs.setIfInBounds 0 (.slice A0 k c0)).setIfInBounds 1 (.slice A1 k c1))::MapA prog 9 T (rs.map TR.kv)::zz ((rs'.drop k).map TR.asn)::LL))
 case atStart=>
  refine⟨0,none,none,0,0, [],rfl,zJ _,rfl,?_⟩;rw [eM G0.out,eM G1.out];exact HS8
 case round=>
  obtain⟨k,A0,A1,c0,c1,css,rfl,hk,rfl,HS9⟩:=hrel;clear HS8
  by_cases hkm:k<m
  ·obtain⟨r,hr⟩:∃r,rs'[k]? =some r:=⟨_,zB (by rw [Hm2.out];exact hkm)⟩;have hts:ts[k]? =some r.term:=(by rw [<-Hts.out,zH,hr];rfl);obtain⟨i,hi⟩:=z8 (Hp.out.mem_iff.1 (zD hr));obtain⟨bt,rfl, -, -⟩:=(HS9.rowOf M0).at_ (by omega)
   have t0:wr.cell? ⟨bt,k,none⟩=some (.string r.term):=HS9.rowCell M0 (Vk hts);have hrt:r.pl∈td:=(by rw [<-Hrs.out];exact List.mem_map.2 ⟨r,zD hi,rfl⟩);have hri:=Hin.out _ hrt;have hrz:=HN.out.2 _ hrt;have hlk:=HS9.mapAt Vc underlying144 US M5 (keyS r.term (by have:r.term.size<=1000000000:=hri.1;omega)) (show(rs.map TR.kv)[i]? =some (.string r.term,.map (some r.b)) by rw [zH,hi];rfl)
   have y8:wr.cell? ⟨G,8,none⟩=some (.map (some T)):=(HS9.cell M4 8).trans (by rw [z7 (by decide),z7 (by decide)];exact G8.out);obtain⟨ds',hp2,ho2⟩:=AS (ds:=r.docs)
   have hdr:(rs'.drop k).map TR.asn=zz (qO r.b r.docs)::(rs'.drop (k+1)).map TR.asn:=by
    obtain⟨hl,he⟩:=List.getElem?_eq_some_iff.1 hr;rw [za hl,yH,he];rfl
   have HSa:=Sp.selT [_,_,_,_,_,_,_] HS9 [6,0,1,2,3,4,5];rw [hdr]at HSa;obtain⟨LM,hLM⟩:=eX (zz ((rs'.drop (k+1)).map TR.asn)::SA (some ⟨bt,0,none⟩) m ct ts::TA A0 k c0 (ts.take k)::RowA 110 1 (.slice A1 k c1) k css.flatten::ElsA css (ls.take k)::BlkA G 152 ((gs.setIfInBounds 0 (.slice A0 k c0)).setIfInBounds 1 (.slice A1 k c1))::MapA prog 9 T (rs.map TR.kv)::LL)
   have HSb:Sp wr (MapA prog 3 r.b (r.docs.map DR.kv)::zz (ds'.map DR.asn)::LM):=by
    have h1:=HSa.starOut.starOut (X:=MapA prog 3 r.b (r.docs.map DR.kv)) (M:=r.docs.map DR.asn);have h2:=(Sp.selT [_,_] h1 [1,0]).starPerm (hp2.symm.map DR.asn);rw [<-hLM];exact Sp.selT [_,_] h2 [1,0]
   obtain⟨Bd,hBd⟩:=eX (wr.heap.size);have HSc:=HSb.blkH 219 #[.map (some r.b)] hBd;obtain⟨nd,hnd⟩:=eX (r.docs.length);have hnd1:(r.docs.map DR.doc).length=nd:=(by rw [zK];exact hnd);have hnd2:ds'.length=nd:=(by rw [<-hnd];exact hp2.length_eq);have hndN:nd<=N:=(by have h:=hrz.1;rw [<-hnd];simpa [TR.pl]using h);have hsd:xP (r.docs.map DR.doc)=ds'.map DR.doc:=(by rw [ho2,yD];rfl)
   have HP:=zA (tY (Bm:=Bd) (ts:=r.docs.map DR.doc) HSc M1 (by rw [yD,yD];rfl) (HSc.cell M0 0) (by rw [<-hBd];show _<(wr.heap.push _).size;rw [Array.size_push];exact Nat.lt_succ_self _) (by rw [hnd1];omega));rw [hnd1,hsd]at HP;have hpo:Zo (r.docs.map DR.pl)=ds'.map fun x=>(⟨x.doc,x.l⟩:PostD):=IV (AU HSb M0) hp2 ho2;obtain⟨ps,hps⟩:=eX (Zo (r.docs.map DR.pl));have Hps:=zA (hps.symm.trans hpo)
   have Hlk:Hid (ls[k]? =some ps):=(by show _=_;rw [<-Hls.out,zH,hr,<-hps];rfl);have HLM:=zA hLM;have Hri:=zA hri;have Hrz:=zA hrz;have Hp2:=zA hp2;have Hnd2:=zA hnd2;have Htk:=zA hts;clear HS9 HSa HSb HSc hpo hps hLM hri hrz hp2 ho2 hsd hnd1 hnd2 hdr hrt hts
   go_wp2_with (first
    |(go_at_call 118;refine(EL _ _).mono ?_;rintro r w3 ⟨rfl,rfl⟩)
    |(go_at_call 117;refine HP.out.mono ?_;rintro r w4 ⟨Ad,cd,rfl,HSd⟩))
   have HSe:Sp w4 (NA Ad nd cd (ds'.map DR.doc)::RowA 116 2 (.slice none 0 0) 0 []::ElsA [] ([]:List PostD)::zz (ds'.map DR.asn)::MapA prog 3 r.b (r.docs.map DR.kv)::LM):=
    Sp.selT [_,_,_,_,_,_] (((HSd).elsNil (α:=PostD)).nil 116 2) [2,0,1,5,4]
   clear HSd HP hlk y8 t0
   go_loopg [6,31] nd (fun gj v6 v31 wr=>∃(j:Nat) (Ap:aA) (cp:Nat) (css2:List aF),v6= .slice Ap j cp/\v31= .int .i64 j/\j<=nd/\gj=nd - j/\Sp wr (NA Ad nd cd (ds'.map DR.doc)::RowA 116 2 (.slice Ap j cp) j css2.flatten::ElsA css2 (ps.take j)::zz ((ds'.drop j).map DR.asn)::MapA prog 3 r.b (r.docs.map DR.kv)::LM))
   case atStart=>exact⟨0,none,0, [],rfl,rfl,zJ _,rfl,HSe⟩
   case round=>
    obtain⟨j,Ap,cp,css2,rfl,rfl,hj,rfl,HSf⟩:=hrel;clear HSe
    by_cases hjn:j<nd
    ·obtain⟨d,hd⟩:∃d,ds'[j]? =some d:=⟨_,zB (by rw [Hnd2.out];exact hjn)⟩;have hdm:=Hp2.out.mem_iff.1 (zD hd);obtain⟨i2,hi2⟩:=z8 hdm;have hdi:=Hri.out.2 d.pl (List.mem_map.2 ⟨d,hdm,rfl⟩);have hdn:d.l.length<=N:=Hrz.out.2 d.pl (List.mem_map.2 ⟨d,hdm,rfl⟩);obtain⟨bd,rfl, -, -⟩:=(HSf.rowOf M0).at_ (by omega)
     have t0:wr.cell? ⟨bd,j,none⟩=some (.int .i64 d.doc):=HSf.rowCell M0 (by rw [show(ints (ds'.map DR.doc))=(ds'.map DR.doc).map (Value.int .i64)from rfl,zH,zH,hd];rfl);have hlk:=HSf.mapAt UD underlying219 UT M4 (O3 d.doc hdi.1) (show(r.docs.map DR.kv)[i2]? =some (.int .i64 d.doc,.slice d.A d.l.length d.c) by rw [zH,hi2];rfl)
     have hdr:(ds'.drop j).map DR.asn=NA d.A d.l.length d.c d.l::(ds'.drop (j+1)).map DR.asn:=by
      obtain⟨hl,he⟩:=List.getElem?_eq_some_iff.1 hd;rw [za hl,yH,he];rfl
     have HSg:Sp wr (RowA 116 2 (.slice Ap j cp) j css2.flatten::NA d.A d.l.length d.c d.l::ElsA css2 (ps.take j)::NA (some ⟨bd,0,none⟩) nd cd (ds'.map DR.doc)::zz ((ds'.drop (j+1)).map DR.asn)::MapA prog 3 r.b (r.docs.map DR.kv)::LM):=by
      have h1:=Sp.selT [_,_,_,_] HSf [3,0,1,2];rw [hdr]at h1;exact Sp.selT [_,_,_,_,_] h1.starOut [3,0,4,2,1]
     have hcp:=(HSg.rowOf M1).cap;have Hdi:=zA hdi;clear HSf hdr hdm hdi
     go_wp2_with (first
      |(go_at_call 54;refine(UO _ _ _ _ (by omega) (by omega)).mono ?_;rintro e w' ⟨rfl,rfl⟩)
      |(at_builtin;refine yC eF (.tmp 35) (.tmp 42) rfl rfl HSg rfl (cs:= #[.int .i64 d.doc,.slice d.A d.l.length d.l.length]) rfl (by simp) rfl (by intro u hu;simp at hu;rcases hu with rfl|rfl<;>rfl) (by omega) (by omega) ?_;intro A8 c8 w8 hc8 hm8 HSh)
      |fail)
     have e1:css2.flatten++(#[Value.int .i64 d.doc,Value.slice d.A d.l.length d.l.length]:aG).toList=(css2++ [[Value.int .i64 d.doc,Value.slice d.A d.l.length d.l.length]]).flatten:=(by simp);rw [e1]at HSh
     have e2:ps.take (j+1)=ps.take j++ [⟨d.doc,d.l⟩]:=by
      have h:ps[j]? =some ⟨d.doc,d.l⟩:=(by rw [Hps.out,zH,hd];rfl);rw [zI,h];rfl
     have HSj:Sp w8 (NA d.A d.l.length d.c d.l::RowA 116 2 (.slice A8 (j+1) c8) (j+1) (css2++ [[Value.int .i64 d.doc,Value.slice d.A d.l.length d.l.length]]).flatten::ElsA css2 (ps.take j)::NA (some ⟨bd,0,none⟩) nd cd (ds'.map DR.doc)::zz ((ds'.drop (j+1)).map DR.asn)::MapA prog 3 r.b (r.docs.map DR.kv)::LM):=
      Sp.selT [_,_] HSh [1,0]
     have HSi:=Sp.post (r:=d) HSj Hdi.out.1 Hdi.out.2;have HSk:=(Sp.selT [_,_,_,_,_] HSi [0,2,1,3,4]).elsPush;rw [<-e2]at HSk;clear HSg HSh HSi HSj e1 e2 hlk t0;go_wp2
     go_roundg (nd - (j+1))
     ·exact⟨j+1,A8,c8,_,rfl,by go_num,by omega,rfl,Sp.selT [_,_,_,_] HSk [2,1,0,3]⟩
     ·omega
    ·obtain rfl:j=nd:=by omega
     have hpl:ps.length=j:=(by rw [Hps.out,zK];exact Hnd2.out);rw [zF (by rw [hpl];exact zC _)]at HSf
     have HSg:Sp wr (TA A0 k c0 (ts.take k)::BlkA G 152 ((gs.setIfInBounds 0 (.slice A0 k c0)).setIfInBounds 1 (.slice A1 k c1))::RowA 116 2 (.slice Ap j cp) j css2.flatten::ElsA css2 ps::RowA 110 1 (.slice A1 k c1) k css.flatten::ElsA css (ls.take k)::SA (some ⟨bt,0,none⟩) m ct ts::MapA prog 9 T (rs.map TR.kv)::zz ((rs'.drop (k+1)).map TR.asn)::LL):=by
      rw [<-HLM.out]at HSf;exact Sp.selT [_,_,_,_,_,_,_,_,_,_,_,_] HSf [7,10,1,2,8,9,6,11,5]
     have y0:wr.cell? ⟨G,0,none⟩=some (.slice A0 k c0):=(HSg.cell M1 0).trans (by rw [z7 (by decide)];exact XS _ G0.out);have hcp:=(HSg.rowOf M2).cap;have hc1:=(HSg.rowOf M4).cap;clear HSf hpl
     go_wp2_with (at_builtin;refine yC Ql (.tmp 50) (.tmp 52) rfl rfl HSg rfl (cs:= #[.string r.term]) rfl rfl rfl (by intro u hu;simp at hu;subst hu;rfl) (by omega) (by omega) ?_;intro A8 c8 w8 hc8 hm8 HSh;have k3:w8.cell? ⟨G,0,none⟩=some (.slice A0 k c0):=(HSh.cell M1 0).trans (by rw [z7 (by decide)];exact XS _ G0.out);have k4:=(HSh.blkOf M1).frozen 0)
     have e3:sC (ts.take k)++(#[Value.string r.term]:aG).toList=sC (ts.take (k+1)):=by
      rw [zI,Htk.out];simp [sC]
     rw [e3]at HSh;have HSi:=HSh.p1.set 0 (.slice A8 (k+1) c8);rw [GN]at HSi;obtain⟨w9,hw9⟩:=eX (w8.setCell ⟨G,0,none⟩ (.slice A8 (k+1) c8));rw [hw9]at HSi⊢
     have HSj:Sp w9 (RowA 110 1 (.slice A1 k c1) k css.flatten::BlkA G 152 ((gs.setIfInBounds 0 (.slice A8 (k+1) c8)).setIfInBounds 1 (.slice A1 k c1))::RowA 116 2 (.slice Ap j cp) j css2.flatten::ElsA css2 ps::TA A8 (k+1) c8 (ts.take (k+1))::ElsA css (ls.take k)::SA (some ⟨bt,0,none⟩) m ct ts::MapA prog 9 T (rs.map TR.kv)::zz ((rs'.drop (k+1)).map TR.asn)::LL):=
      Sp.selT [_,_,_,_,_,_] HSi [4,0,2,3,1,5]
     have z1:w9.cell? ⟨G,1,none⟩=some (.slice A1 k c1):=(HSj.cell M1 1).trans (XS _ (by rw [z7 (by decide)];exact G1.out));have z1a:∀o,(w9.alloc o).cell? ⟨G,1,none⟩=some (.slice A1 k c1):=fun o=>ON z1 o;clear HSg HSh HSi y0 k3 k4 hw9 e3;have hcq:j<=cp/\cp<=9223372036854775807:=(by have h:=(HSj.rowOf M2).cap;omega);have HSd:=HSj.drew;have HC:=zA (FU Ap j cp w9.drew hcq.1 hcq.2)
     refine gR [(13,fun W=>W.cell? ⟨G,1,none⟩=some (.slice A1 k c1))] (hB z1) ?_;refine gF 0 ?_;refine gF 1 ?_;refine gF 2 ?_;refine gF 3 ?_;refine gF 4 ?_;refine gL 5 13 M0 ?_;refine gF 6 ?_;intro hC;refine gO 7 fun K hK=> ?_;go_simp;refine HC.out.mono ?_;rintro r w6 ⟨rfl,rfl⟩;refine hK.out _ _ (hB z1) ?_;clear hK K hC;intro hC;refine gO 8 fun K hK=> ?_;go_simp
     refine hK.out _ _ (hB (z1a _)) ?_;clear hK K hC;intro hC;refine gO 9 fun K hK=> ?_;refine yz FI (.tmp 62) (.tmp 65) rfl rfl HSd rfl (cs:= #[.slice Ap j j]) rfl rfl rfl (by intro u hu;simp at hu;subst hu;rfl) (by omega) (by omega) ?_;intro A9 c9 w9 hc9 hm9 HSk;have x1:w9.cell? ⟨G,1,none⟩=some (.slice A1 k c1):=(HSk.cell M1 1).trans (XS _ (by rw [z7 (by decide)];exact G1.out))
     have x2:=(HSk.blkOf M1).frozen 1;refine hK.out _ _ (hB x1) ?_;clear hK K hC;refine gF 10 ?_;refine gF 11 ?_;refine gF 12 ?_;intro hC;refine gO 13 fun K hK=> ?_;go_simp;refine hK.out _ _ hA ?_;clear hK K hC;intro hC;refine xW (by kernel_rfl) ?_
     all_goals
      have HSl:=HSk.p1.set 1 (.slice A9 (k+1) c9);rw [Uv]at HSl;have HSm:=Sp.els (α:=PostD) (Sp.clip (Sp.selT [_,_,_,_] HSl [2,3,0,1]));have HSn:=(Sp.selT [_,_,_,_,_] HSm [0,4,1,2,3]).elsPush;have e4:css.flatten++(#[Value.slice Ap j j]:aG).toList=(css++ [[Value.slice Ap j j]]).flatten:=(by simp);have e5:ls.take k++ [ps]=ls.take (k+1):=(by rw [zI,Hlk.out];rfl);rw [e4,e5]at HSn
      clear HSj HSd HSk HSl HSm z1 z1a x1 x2 e4 e5;go_wp2
      go_roundg (m - (k+1))
      ·exact⟨k+1,A8,A9,c8,c9,_,by go_num,by omega,rfl,Sp.selT [_,_,_,_,_] HSn [4,3,2,0,1]⟩
      ·omega
  ·obtain rfl:k=m:=by omega
   have hl1:ts.length=k:=(by rw [<-Hts.out,zK];exact Hm2.out);have hl2:ls.length=k:=(by rw [<-Hls.out,zK];exact Hm2.out);rw [zF (by rw [hl1];exact zC _),zF (by rw [hl2];exact zC _)]at HS9;go_wp2;rw [<-HLL.out]at HS9;have HSa:=Sp.selT [_,_,_,_,_,_,_,_,_,_,_,_] HS9 [4,1,2,3,7,8,9,10,11];have b0:=(HSa.rowOf M1).cap;have b1:=(HSa.rowOf M2).cap;have b2:=(HSa.ls M5).cap;have b3:=(HSa.ls M6).cap
   have b4:=(HSa.ls (.tail _ M6)).cap;have b5:=(HSa.ls (.tail _ (.tail _ M6))).cap;obtain⟨gz,hgz⟩:=eX ((gs.setIfInBounds 0 (.slice A0 k c0)).setIfInBounds 1 (.slice A1 k c1));have z0:gz[0]? =some (.slice A0 k c0):=(by rw [<-hgz,z7 (by decide)];exact XS _ G0.out);have z1:gz[1]? =some (.slice A1 k c1):=(by rw [<-hgz];exact XS _ (by rw [z7 (by decide)];exact G1.out))
   have z2:gz[2]? =some (.slice A2 n2 c2):=(by rw [<-hgz,z7 (by decide),z7 (by decide)];exact G2.out);have z3:gz[3]? =some (.slice A3 n3 c3):=(by rw [<-hgz,z7 (by decide),z7 (by decide)];exact G3.out);have z4:gz[4]? =some (.slice A4 n4 c4):=(by rw [<-hgz,z7 (by decide),z7 (by decide)];exact G4.out);have z5:gz[5]? =some (.slice A5 n5 c5):=(by rw [<-hgz,z7 (by decide),z7 (by decide)];exact G5.out)
   rw [hgz]at HSa;have HSd:=HSa.drew;have y0:wr.cell? ⟨G,0,none⟩=some (.slice A0 k c0):=(HSa.cell M0 0).trans z0;have y1:wr.cell? ⟨G,1,none⟩=some (.slice A1 k c1):=(HSa.cell M0 1).trans z1;have y2:wr.cell? ⟨G,2,none⟩=some (.slice A2 n2 c2):=(HSa.cell M0 2).trans z2;have y3:wr.cell? ⟨G,3,none⟩=some (.slice A3 n3 c3):=(HSa.cell M0 3).trans z3
   have y4:wr.cell? ⟨G,4,none⟩=some (.slice A4 n4 c4):=(HSa.cell M0 4).trans z4;have y5:wr.cell? ⟨G,5,none⟩=some (.slice A5 n5 c5):=(HSa.cell M0 5).trans z5
   refine xV [(10,fun w=>w.cell? ⟨G,0,none⟩=some (.slice A0 k c0)),(15,fun w=>w.cell? ⟨G,1,none⟩=some (.slice A1 k c1)),(20,fun w=>w.cell? ⟨G,2,none⟩=some (.slice A2 n2 c2)),(25,fun w=>w.cell? ⟨G,3,none⟩=some (.slice A3 n3 c3)),(30,fun w=>w.cell? ⟨G,4,none⟩=some (.slice A4 n4 c4)),(35,fun w=>w.cell? ⟨G,5,none⟩=some (.slice A5 n5 c5))] (by kernel_rfl) (zg y0 (zg y1 (zg y2 (zg y3 (zg y4 (zg y5 (yY))))))) (fun hC=> ?_)
   obtain⟨wd,hwd⟩:=eX (wr.drew);rw [hwd]at hC HSd⊢;have HS0:=HSd;have k0:=(HS0.blkOf M0).frozen 0;have e0:wd.cell? ⟨G,0,none⟩=_:=(HS0.cell M0 0).trans z0;clear HSd hwd;revert hC;refine gF 0 ?_;refine gF 1 ?_;refine gF 2 ?_;refine gF 3 ?_;refine gF 4 ?_;refine gF 5 ?_;refine gF 6 ?_;refine gF 7 ?_;refine gF 8 ?_;refine gL 9 10 M0 ?_;refine gF 11 ?_;refine gF 12 ?_;refine gF 13 ?_
   refine gL 14 15 M1 ?_;refine gF 16 ?_;refine gF 17 ?_;refine gF 18 ?_;refine gL 19 20 M2 ?_;refine gF 21 ?_;refine gF 22 ?_;refine gF 23 ?_;refine gL 24 25 M3 ?_;refine gF 26 ?_;refine gF 27 ?_;refine gF 28 ?_;refine gL 29 30 M4 ?_;refine gF 31 ?_;refine gF 32 ?_;refine gF 33 ?_;refine gL 34 35 M5 ?_;intro hC;refine gO 10 fun K hK=> ?_;go_simp;refine(KB A0 k c0 _ b0.2.1 b0.2.2).mono ?_
   rintro e w' ⟨rfl,rfl⟩;refine hK.out _ _ (xz hC) ?_;clear hK K hC;intro hC;refine gO 15 fun K hK=> ?_;go_simp;refine(BG A1 k c1 _ b1.2.1 b1.2.2).mono ?_;rintro e w' ⟨rfl,rfl⟩;refine hK.out _ _ (xz hC) ?_;clear hK K hC;intro hC;refine gO 20 fun K hK=> ?_;go_simp;refine(eK A2 n2 c2 _ b2.1 b2.2).mono ?_;rintro e w' ⟨rfl,rfl⟩;refine hK.out _ _ (xz hC) ?_;clear hK K hC;intro hC
   refine gO 25 fun K hK=> ?_;go_simp;refine(FQ A3 n3 c3 _ b3.1 b3.2).mono ?_;rintro e w' ⟨rfl,rfl⟩;refine hK.out _ _ (xz hC) ?_;clear hK K hC;intro hC;refine gO 30 fun K hK=> ?_;go_simp;refine(FR A4 n4 c4 _ b4.1 b4.2).mono ?_;rintro e w' ⟨rfl,rfl⟩;refine hK.out _ _ (xz hC) ?_;clear hK K hC;intro hC;refine gO 35 fun K hK=> ?_;go_simp;refine(BH A5 n5 c5 _ b5.1 b5.2).mono ?_;rintro e w' ⟨rfl,rfl⟩
   refine hK.out _ _ (xz hC) ?_;clear hK K hC;refine gF 36 ?_;refine gF 37 ?_;intro hC;refine gO 38 fun K hK=> ?_;go_simp;refine hK.out _ _ hA ?_;clear hK K hC;intro hC;have HS1:=HS0.set 0 (.slice A0 k k);obtain⟨x1,hx1⟩:=eX (wd.setCell ⟨G,0,none⟩ (.slice A0 k k));rw [hx1]at HS1 hC⊢;clear hx1 HS0;have k1:=(HS1.blkOf M0).frozen 1
   have e1:x1.cell? ⟨G,1,none⟩=some (.slice A1 k c1):=(HS1.cell M0 1).trans (by(repeat rw [z7 (by decide)]);exact z1);revert hC;refine gF 39 ?_;refine gF 40 ?_;intro hC;refine gO 41 fun K hK=> ?_;go_simp;refine hK.out _ _ hA ?_;clear hK K hC;intro hC;have HS2:=HS1.set 1 (.slice A1 k k);obtain⟨x2,hx2⟩:=eX (x1.setCell ⟨G,1,none⟩ (.slice A1 k k));rw [hx2]at HS2 hC⊢;clear hx2 HS1
   have k2:=(HS2.blkOf M0).frozen 2;have e2:x2.cell? ⟨G,2,none⟩=some (.slice A2 n2 c2):=(HS2.cell M0 2).trans (by(repeat rw [z7 (by decide)]);exact z2);revert hC;refine gF 42 ?_;refine gF 43 ?_;intro hC;refine gO 44 fun K hK=> ?_;go_simp;refine hK.out _ _ hA ?_;clear hK K hC;intro hC;have HS3:=HS2.set 2 (.slice A2 n2 n2);obtain⟨x3,hx3⟩:=eX (x2.setCell ⟨G,2,none⟩ (.slice A2 n2 n2))
   rw [hx3]at HS3 hC⊢;clear hx3 HS2;have k3:=(HS3.blkOf M0).frozen 3;have e3:x3.cell? ⟨G,3,none⟩=some (.slice A3 n3 c3):=(HS3.cell M0 3).trans (by(repeat rw [z7 (by decide)]);exact z3);revert hC;refine gF 45 ?_;refine gF 46 ?_;intro hC;refine gO 47 fun K hK=> ?_;go_simp;refine hK.out _ _ hA ?_;clear hK K hC;intro hC;have HS4:=HS3.set 3 (.slice A3 n3 n3)
   obtain⟨x4,hx4⟩:=eX (x3.setCell ⟨G,3,none⟩ (.slice A3 n3 n3));rw [hx4]at HS4 hC⊢;clear hx4 HS3;have k4:=(HS4.blkOf M0).frozen 4;have e4:x4.cell? ⟨G,4,none⟩=some (.slice A4 n4 c4):=(HS4.cell M0 4).trans (by(repeat rw [z7 (by decide)]);exact z4);revert hC;refine gF 48 ?_;refine gF 49 ?_;intro hC;refine gO 50 fun K hK=> ?_;go_simp;refine hK.out _ _ hA ?_;clear hK K hC;intro hC
   have HS5:=HS4.set 4 (.slice A4 n4 n4);obtain⟨x5,hx5⟩:=eX (x4.setCell ⟨G,4,none⟩ (.slice A4 n4 n4));rw [hx5]at HS5 hC⊢;clear hx5 HS4;have k5:=(HS5.blkOf M0).frozen 5;have e5:x5.cell? ⟨G,5,none⟩=some (.slice A5 n5 c5):=(HS5.cell M0 5).trans (by(repeat rw [z7 (by decide)]);exact z5);revert hC;refine gF 51 ?_;refine gF 52 ?_;intro hC;refine gO 53 fun K hK=> ?_;go_simp;refine hK.out _ _ hA ?_
   clear hK K hC;intro hC;have HS6:=HS5.set 5 (.slice A5 n5 n5);obtain⟨x6,hx6⟩:=eX (x5.setCell ⟨G,5,none⟩ (.slice A5 n5 n5));rw [hx6]at HS6 hC⊢;clear hx6 HS5;refine xW (by kernel_rfl) ?_;obtain⟨f0,f1,f2,f3,f4,f5⟩:=MS (gz:=gz) (EC z5) (.slice A0 k k) (.slice A1 k k) (.slice A2 n2 n2) (.slice A3 n3 n3) (.slice A4 n4 n4) (.slice A5 n5 n5);replace f0:=(HS6.cell M0 0).trans f0
   replace f1:=(HS6.cell M0 1).trans f1;replace f2:=(HS6.cell M0 2).trans f2;replace f3:=(HS6.cell M0 3).trans f3;replace f4:=(HS6.cell M0 4).trans f4;replace f5:=(HS6.cell M0 5).trans f5;have HS7:=Sp.selT [_,_,_,_,_,_,_,_,_] HS6 [4,1,2,3,5,6,7,8];obtain⟨d0,d1,d2,d3,d4,d5⟩:=OG HS7 M0;have fz:=(HS7.blkOf M0).frozen;have r0:=fz 0;have r1:=fz 1;have r2:=fz 2;have r3:=fz 3;have r4:=fz 4
   have r5:=fz 5;have HS8:=zA (((((((HS7.set 0 (.slice A0 k k)).set 1 (.slice A1 k k)).set 2 (.slice A2 n2 n2)).set 3 (.slice A3 n3 n3)).set 4 (.slice A4 n4 n4)).set 5 (.slice A5 n5 n5)));clear y0 y1 y2 y3 y4 y5 z0 z1 z2 z3 z4 z5 b0 b1 b2 b3 b4 b5 k0 k1 k2 k3 k4 k5 hC e0 e1 e2 e3 e4 e5 HS6 HS7 hgz fz;go_wp2
   have hsz:∀x∈ts,x.size<=9223372036854775807:=fun x hx=>by
    rw [<-Hts.out]at hx;obtain⟨r,hr,rfl⟩:=List.mem_map.1 hx;have:=(Hin.out r.pl (by rw [<-Hrs.out];exact List.mem_map.2 ⟨r,Hp.out.mem_iff.1 hr,rfl⟩)).1;exact zY this (by decide)
   have e1:Zl td=ts:=(by rw [<-Ho.out];exact Hts.out);have e2:Y2 td=ls:=(by rw [Hle.out];exact Hls.out);refine bodyPost_ret (LP (g:=Hb) (by rfl) (HS8.out.blkOf M0)) rfl ⟨.slice A0 k k,.slice A1 k k,rfl,?_⟩;rw [e1,e2];have h1:=HS8.out.tail.clip.strs hsz;have h2:=(Sp.selT [_,_,_] h1 [1,2,0]).clip.els (α:=List PostD);have h3:=Sp.clipD (Sp.selT [_,_,_] h2 [2,1,0])
   have h4:=Sp.clipD (Sp.selT [_,_,_,_] h3 [3,0,1,2]);have h5:=Sp.clipD (Sp.selT [_,_,_,_,_] h4 [4,0,1,2,3]);have h6:=Sp.clipD (Sp.selT [_,_,_,_,_,_] h5 [5,0,1,2,3,4]);exact Sp.selT [_,_,_,_,_,_] h6 [4,5,3,2,1,0]
open Go.RowKit
def XH (v:V) (xs:List yZ) (css:List aF) (ys:List yZ):Asn where
 P S w:=(DatA v xs).P S w/\(ElsA css ys).P S w
 lt h:=h.1.2
 keep h ht hn:=⟨(DatA v xs).keep h.1 ht hn,(ElsA css ys).keep h.2 ht hn⟩
theorem qW {P:Program} (w:O) (t e ty:TypeId) (z:V) (ht:P.underlying t=some (.slice e)) (hv:∀w,(zeroValue e).run P w= .ok z w) (b o n c:Nat) (hn:0<n)
 (hc:∀j,j<(Builtin.zeroCells z.cells n).toList.length->(w.cell? ⟨b,o+j,none⟩).isSome=true) (hf:∀j,w.frozen? ⟨b,o+j,none⟩=false) (h1:∀v∈(Builtin.zeroCells z.cells n).toList,v.oneCell' =true):
 (Builtin.clear_ #[t] ty #[.slice (some ⟨b,o,none⟩) n c]).run P w= .ok (.tuple #[]) (w.setCells b o (Builtin.zeroCells z.cells n).toList):=by
 have hst:=run_storeCells_cells (P:=P) b o (Builtin.zeroCells z.cells n).toList 0 w (by simpa using hc) (by simp [hf]) h1;simp only [yt]at hst;obtain⟨m,rfl⟩:∃m,n=m+1:=⟨n - 1,by omega⟩;simp [Builtin.clear_,run_underlying ht,hv,hst]
section
variable {w:O} {L:List Asn} {A:aA} {n c:Nat} {v:V} {xs ys:List yZ} {css:List aF} {e:TypeId}
theorem Sp.readOut (h:Sp w (DatA (.slice A n c) xs::L)):∃css,css.length=n/\RC w 3 A n css.flatten/\Sp w (XH (.slice A n c) xs css xs::L):=by
 obtain⟨S,h1,h2,h3⟩:=h;obtain⟨⟨A',n',c',e,hr⟩,hS⟩:=h2;cases e;obtain⟨css,hl,hc,hrc⟩:=zL.css hr hS;exact⟨css,hl.trans hr.length,hrc,S,h1,⟨⟨⟨_,_,_,rfl,hr⟩,hS⟩,⟨hl,hc⟩,hS⟩,h3⟩
theorem Sp.readBack (h:Sp w (Z1 [v] xs [.slice A n c] ys::L)):Sp w (DatA v xs::L):=h.unfocus
theorem Sp.bothIn (h:Sp w (RowA e 3 (.slice A n c) n css.flatten::XH v xs css ys::L)):Sp w (Z1 [v] xs [.slice A n c] ys::L):=
 h.join fun S T hS hT _=>by
  have hb:∀b,S b\/T b->b<w.heap.size:=fun b hb=>hb.elim (fun hb=>(hS.2.lt b ((hS.1 b).1 hb)).2) (hT.1.2 b);refine⟨⟨Rep.more hT.1.1 fun _=> .inr,hb⟩,?_,hb⟩;have hr:=hS.2
  have hlen:∀c∈css,c.length=3:=by
   intro c hc;obtain⟨k,hk⟩:=z8 hc;have hk2:k<ys.length:=(by have:=zN hk;have:=hT.2.1.1;omega);exact Rep.len (hT.2.1.2 k c ys[k] hk (zB hk2))
  have hn:n=css.length:=by
   have h1:=Zh css hlen;have h2:=hr.1;omega
  refine⟨A,n,c,rfl,by rw [hn];exact hT.2.1.1.symm,hr.cap.2.1,hr.cap.2.2,fun k x hx=> ?_⟩;have hk:k<css.length:=(by have:=zN hx;have:=hT.2.1.1;omega);obtain⟨b,rfl,_,_,hc⟩:=hr.at_ (by omega)
  refine⟨b,0,rfl,.inl ((hS.1 b).2 rfl),css[k],Rep.more (hT.2.1.2 k _ x (zB hk) hx) fun _=> .inr,fun j u hu=> ?_⟩
  have hj:j<3:=by
   have:=hlen css[k] (List.getElem_mem _);have:=zN hu;omega
  rw [zx];exact hc _ u (by rw [show k*Rep.size yZ=k*3 from rfl,xX css k j _ hlen (zB hk) hj];exact hu)
theorem Sp.readCell (h:Sp w L) (hm:XH v xs css ys∈L) {k:Nat} {x:yZ} (hx:ys[k]? =some x):∃A n c,css[k]? =some [.int .i64 x.1,.string x.2.1,.slice A n c]:=by
 obtain⟨S,h1,h2⟩:=h.get hm;have hk:k<css.length:=by rw [h2.1.1];exact zN hx
 obtain⟨c1,c2,e,⟨e1,_⟩,d1,d2,e4,⟨e2,hs⟩,A,n,c,e3,hr⟩:=h2.1.2 k _ x (zB hk) hx;refine⟨A,n,c,?_⟩;rw [zB hk,e,e1,e4,e2,e3];rfl
theorem Sp.readLen (h:Sp w L) (hm:XH v xs css ys∈L):css.length=ys.length:=by
 obtain⟨S,_,h2⟩:=h.get hm;exact h2.1.1
theorem Sp.readSub (h:Sp w (XH v xs css ys::L)) {css' :List aF} {ys' :List yZ} (hl:css'.length=ys'.length) (hs:∀(k:Nat) (cs:aF) (x:yZ),css'[k]? =some cs->ys'[k]? =some x->∃j:Nat,css[j]? =some cs/\ys[j]? =some x):Sp w (XH v xs css' ys' ::L):=
 h.turn fun S hS=>⟨hS.1,⟨hl,fun k cs x h1 h2=>by
  obtain⟨j,h3,h4⟩:=hs k cs x h1 h2;exact hS.2.1.2 j cs x h3 h4⟩,hS.2.2⟩
end
section
variable {w:O} {L:List Asn} {g n c size:Nat} {e:TypeId}
theorem Sp.cutRowN {A:aA} {us vs:aF} {n' :Nat} (hs:0<size) (h:Sp w (RowA e size (.slice A n c) n (us++vs)::L)) (hu:us.length=n' *size):Sp w (RowA e size (.slice A n' c) n' us::L):=by
 refine h.turn fun S hS=>⟨fun b=>by rw [hS.1 b];cases A<;>simp [Value.ownBlock],?_⟩
 obtain⟨h1,h2⟩:=hS.2;simp only [zG]at h1
 have hnn:n' <=n:=by
  have:n' *size<=n*size:=(by omega);exact Nat.le_of_mul_le_mul_right this hs
 refine⟨hu,?_⟩;rcases h2 with⟨hv,h0⟩|⟨g',cap,cur,hv,_,hg,k1,k2,k3,k4⟩
 ·cases hv;obtain rfl:n' =0:=by omega
  exact .inl ⟨rfl,rfl⟩
 ·cases hv;refine .inr ⟨g',c,cur,rfl,trivial,hg,by omega,k2,k3,?_⟩;have h3:=congrArg (List.take us.length) k4;rw [List.take_take,List.take_left' rfl]at h3;rw [Nat.min_eq_left (by omega),hu]at h3;exact h3
theorem Sp.setCells {k:Nat}:∀(vs:aF) (o:Nat) {w:O} {xs:aF},k<=o->Sp w (RowA e size (.slice (some ⟨g,0,none⟩) n c) n xs::L)->∃xs',xs'.length=xs.length/\xs'.take k=xs.take k/\Sp (w.setCells g o vs) (RowA e size (.slice (some ⟨g,0,none⟩) n c) n xs' ::L)
 | [],_,_,xs,_,h=>⟨xs,rfl,rfl,h⟩
 |v::vs,o,w,xs,hk,h=>by
  obtain⟨xs',h1,h2,h3⟩:=Sp.setCells vs (o+1) (k:=k) (by omega) (h.rowSet o v);exact⟨xs',by rw [h1,List.length_set],by rw [h2,List.take_set_of_le hk],h3⟩
end
theorem j9 (f:Int) (i:Int) (I:Nat) (cs:aF) (w:O) (hI:w.cell? ⟨I,0,none⟩=some (.int .i64 i)) (t:aB) (A:aA) (n c:Nat):
 Calls prog 65 #[.agg #[.int .i64 f,.string t,.slice A n c],.pointer (some ⟨I,0,none⟩)] w fun e w' =>e= .returned (.bool (f !=i))/\Below w.heap.size w w' :=by
 have hI2:∀o,(w.alloc o).cell? ⟨I,0,none⟩=some (.int .i64 i):=fun o=>ON hI o;go_enter func65,ntmps65;go_wp2;go_ret
 exact⟨rfl,(zE _ _).alloc (zC _) _⟩
section
variable {w:O} {L:List Asn} {g n c I:Nat} {iv:Int} {v:V} {xs ys:List yZ} {css:List aF}
theorem pJ (h:Sp w L) (hm:XH v xs css ys∈L):∀c∈css,c.length=3:=by
 obtain⟨S,h1,h2⟩:=h.get hm;intro c hc;obtain⟨k,hk⟩:=z8 hc;have hk2:k<ys.length:=by have:=zN hk;have:=h2.1.1;omega
 exact Rep.len (h2.1.2 k c ys[k] hk (zB hk2))
theorem U4 {A:aA} (h:Sp w L) (hm:RowA 59 3 (.slice (some ⟨g,0,none⟩) n c) n css.flatten∈L) (hl:∀c∈css,c.length=3) {j:Nat} {a b d:V} (hj:css[j]? =some [a,b,d]):
 w.cell? ⟨g,j*3,none⟩=some a/\w.cell? ⟨g,j*3+1,none⟩=some b/\w.cell? ⟨g,j*3+2,none⟩=some d:=
 ⟨by have:=h.rowCell hm (j:=j*3+0) ((xX css j 0 _ hl hj (by omega)).trans rfl);simpa using this,h.rowCell hm ((xX css j 1 _ hl hj (by omega)).trans rfl),h.rowCell hm ((xX css j 2 _ hl hj (by omega)).trans rfl)⟩
theorem uP {A:aA} (HS:Sp w (RowA 59 3 (.slice A n c) n css.flatten::XH v xs css ys::BlkA I 3 #[.int .i64 iv]::L)) (hn:ys.length=n) (hn2:n<=64):
 Calls prog 114 #[.slice A n c,.func (.func 65) #[] #[.pointer (some ⟨I,0,none⟩)]] w fun e w' =>(∃r:Int,e= .returned (.int .i64 r)/\((r= -1/\∀x∈ys,x.1=iv)\/∃k:Nat,r=k/\k<n/\(∀(j:Nat) (x:yZ),j<k->ys[j]? =some x->x.1=iv)/\∃x,ys[k]? =some x/\x.1≠iv))/\Sp w' (RowA 59 3 (.slice A n c) n css.flatten::XH v xs css ys::BlkA I 3 #[.int .i64 iv]::L):=by
 have Hn:=zA hn;have eg:=enters_of func65 (by kernel_rfl) rfl;clear hn;go_enter func114,ntmps114;go_wp2
 go_loopg [8] n (fun gj v8 wr=>∃j:Nat,v8= .int .i64 j/\j<=n/\gj=n - j/\(∀(q:Nat) (x:yZ),q<j->ys[q]? =some x->x.1=iv)/\Sp wr (RowA 59 3 (.slice A n c) n css.flatten::XH v xs css ys::BlkA I 3 #[.int .i64 iv]::L))
 case atStart=>exact⟨0,rfl,zJ _,rfl,fun q x hq=>by omega,HS⟩
 case round=>
  obtain⟨j,rfl,hj,rfl,hno,HS1⟩:=hrel;have Hno:=zA hno;clear HS hno
  by_cases hjn:j<n
  ·obtain⟨x,hx⟩:∃x,ys[j]? =some x:=⟨_,zB (by rw [Hn.out];exact hjn)⟩;obtain⟨Ax,nx,cx,hcs⟩:=HS1.readCell M1 hx;obtain⟨g,rfl, -, -⟩:=(HS1.rowOf M0).at_ (by omega)
   obtain⟨c0,c1,c2⟩:=U4 (A:=none) HS1 M0 (pJ HS1 M1) hcs;have HB:=zA (j9 x.1 iv I [] wr (HS1.cell M2 0) x.2.1 Ax nx cx);have Hx:=zA hx;clear hx hcs
   by_cases hq:x.1=iv
   ·have hq1:(x.1 !=iv)=false:=(by simp [hq]);have Hq:=zA hq;clear hq;go_wp2_with (go_at_call 65;refine HB.out.mono ?_;rintro r w2 ⟨rfl,hb⟩;have HS2:=HS1.grow hb)
    go_roundg (n - (j+1))
    case measure=>omega
    case rel=>exact⟨j+1,by go_num,by omega,rfl,fun q y hq' hy=>by
     rcases zk q j with h|h
     ·exact Hno.out q y h hy
     ·obtain rfl:q=j:=by omega
      cases Hx.out.symm.trans hy;exact Hq.out,HS2⟩
   ·have hq1:(x.1 !=iv)=true:=(by simp [hq]);have Hq:=zA hq;clear hq;go_wp2_with (go_at_call 65;refine HB.out.mono ?_;rintro r w2 ⟨rfl,hb⟩;have HS2:=HS1.grow hb);go_ret
    exact⟨⟨j,rfl,.inr ⟨j,rfl,hjn,Hno.out,x,Hx.out,Hq.out⟩⟩,HS2⟩
  ·obtain rfl:j=n:=by omega
   go_wp2;go_ret
   exact⟨⟨-1,rfl,.inl ⟨rfl,fun x hx=>by
    obtain⟨q,hq⟩:=z8 hx;exact Hno.out q x (by have:=zN hq;have:=Hn.out;omega) hq⟩⟩,HS1⟩
def Xp (iv:Int) (css:List aF) (ys:List yZ):List (aF×yZ):=(css.zip ys).filter fun z=>decide (z.2.1=iv)
theorem EM {iv:Int} {css:List aF} {ys:List yZ} (h:css.length=ys.length):(Xp iv css ys).map (·.2)=ys.filter fun c=>decide (c.1=iv):=by
 unfold Xp;have e:ys=(css.zip ys).map (·.2):=by rw [List.map_snd_zip];omega
 conv=>rhs;rw [e,List.filter_map]
 rfl
theorem EN {iv:Int} {css:List aF} {ys:List yZ} {k:Nat} {cs:aF} {x:yZ} (h1:((Xp iv css ys).map (·.1))[k]? =some cs) (h2:((Xp iv css ys).map (·.2))[k]? =some x):∃j:Nat,css[j]? =some cs/\ys[j]? =some x:=by
 rw [zH]at h1 h2;rcases hz:(Xp iv css ys)[k]? with _|z
 ·rw [hz]at h1;cases h1
 ·rw [hz]at h1 h2;have hm:=(List.mem_filter.1 (zD hz)).1;obtain⟨j,hj⟩:=z8 hm;rw [List.getElem?_zip_eq_some]at hj;cases h1;cases h2;exact⟨j,hj⟩
theorem VX {iv:Int} {css:List aF} {ys:List yZ} {j:Nat} {cs:aF} {x:yZ} (h1:css[j]? =some cs) (h2:ys[j]? =some x):Xp iv (css.take (j+1)) (ys.take (j+1))=Xp iv (css.take j) (ys.take j)++(if x.1=iv then [(cs,x)]else []):=by
 unfold Xp;rw [zI,zI,h1,h2,List.zip_append (by have:=zN h1;have:=zN h2;simp;omega),List.filter_append]
 congr 1
 by_cases h:x.1=iv<;>simp [h]
theorem EO {iv:Int} {css:List aF} {ys:List yZ} (h:css.length=ys.length) (ha:∀x∈ys,x.1=iv):(Xp iv css ys).map (·.1)=css:=by
 unfold Xp;rw [List.filter_eq_self.2 fun z hz=>by have:=ha z.2 (List.of_mem_zip hz).2;simpa using this,List.map_fst_zip];omega
theorem lP {css:List aF} {i:Nat} {a b d:V} (a' b' d' :V) (hl:∀c∈css,c.length=3) (h:css[i]? =some [a,b,d]):((css.flatten.set (i*3) a').set (i*3+1) b').set (i*3+2) d' =(css.set i [a',b',d']).flatten:=by
 have hi:=zN h
 have hl2:∀(X:aF),X.length=3->∀c∈css.set i X,c.length=3:=fun X hX c hc=>by
  rcases xe hc with h|h
  ·exact hl c h
  ·rw [h,hX]
 have h1:=WV (size:=3) css i 0 a' _ hl h (by omega);have h2:=WV (size:=3) (css.set i [a',b,d]) i 1 b' [a',b,d] (hl2 _ rfl) (by rw [List.getElem?_set_self hi]) (by omega);have h3:=WV (size:=3) (css.set i [a',b',d]) i 2 d' [a',b',d] (hl2 _ rfl) (by rw [List.getElem?_set_self hi]) (by omega);simp only [yt,yw,List.set_cons_succ,List.set_set]at h1 h2 h3;rw [h1,h2,h3]
theorem KY {α:Type} {F G:List α} {i:Nat} (x:α) (hF:F.length=i) (hi:i<G.length):(F++G.drop i).set i x=(F++ [x])++G.drop (i+1):=by
 rw [xB _ _ (by omega),hF,yh,za hi,yw,zO];rfl
def cC:V:= .agg #[.int .i64 0,.string ByteArray.empty,.slice none 0 0]
theorem CH (w:O):(zeroValue 59).run prog w= .ok cC w:=by kernel_rfl
theorem uU {A:aA} (HS:Sp w (RowA 59 3 (.slice A n c) n css.flatten::XH v xs css ys::BlkA I 3 #[.int .i64 iv]::L)) (hn:ys.length=n) (hn2:n<=64) (hc:n<=c) (hcm:c<=9223372036854775807):
 Calls prog 63 #[.slice A n c,.func (.func 65) #[] #[.pointer (some ⟨I,0,none⟩)]] w fun e w' =>∃n' css',e= .returned (.slice A n' c)/\n' <=n/\Sp w' (RowA 59 3 (.slice A n' c) n' css'.flatten::XH v xs css' (ys.filter fun c=>decide (c.1=iv))::BlkA I 3 #[.int .i64 iv]::L):=by
 have Hn:=zA hn;have hcl:=HS.readLen M1;have hc3:=pJ HS M1;have HI:=zA (uP HS hn hn2);have eg:=enters_of func65 (by kernel_rfl) rfl;have Hcl:=zA hcl;have Hc3:=zA hc3;clear HS hn hcl hc3;go_enter func63,ntmps63;go_wp2_with fail;refine HI.out.mono ?_;rintro r w1 ⟨⟨r1,rfl,hr⟩,HS1⟩;rcases hr with⟨rfl,hall⟩|⟨k,rfl,hkn,hno,x,hx,hxn⟩
 ·have Hall:=zA hall;clear hall HI;go_wp2;go_ret
  have hf:ys.filter (fun c=>decide (c.1=iv))=ys:=List.filter_eq_self.2 fun z hz=>by simpa using Hall.out z hz
  rw [hf];exact⟨n,css,rfl,zC _,HS1⟩
 ·obtain⟨g,rfl, -, -⟩:=(HS1.rowOf M0).at_ (by omega)
  have hkm:((k:Int)== -1)=false:=(by simp)
  have hF0:(Xp iv (css.take (k+1)) (ys.take (k+1))).map (·.1)=css.take k:=by
   obtain⟨cs,hcs⟩:∃cs,css[k]? =some cs:=⟨_,zB (by rw [Hcl.out,Hn.out];exact hkn)⟩;rw [VX hcs hx,if_neg hxn,zo];refine EO (by have:=Hcl.out;simp;omega) fun z hz=> ?_;obtain⟨q,hq⟩:=z8 hz;have hqk:q<k:=(by have:=zN hq;simp at this;omega);rw [List.getElem?_take_of_lt hqk]at hq;exact hno q z hqk hq
  have hst:Sp w1 (RowA 59 3 (.slice (some ⟨g,0,none⟩) n c) n ((Xp iv (css.take (k+1)) (ys.take (k+1))).map (·.1)++css.drop k).flatten::XH v xs css ys::BlkA I 3 #[.int .i64 iv]::L):=by
   rw [hF0,zu];exact HS1
  have hFl:((Xp iv (css.take (k+1)) (ys.take (k+1))).map (·.1)).length=k:=(by rw [hF0];have:=Hcl.out;have:=Hn.out;simp;omega);have HFl:=zA hFl;clear hno hx hxn hF0 HS1 HI hFl;go_wp2_with fail
  go_loopg [5,6] (n - (k+1)) (fun gj v5 v6 wr=>∃(i j:Nat) (F:List aF),v5= .int .i64 i/\v6= .int .i64 j/\i<j/\j<=n/\gj=n - j/\(Xp iv (css.take j) (ys.take j)).map (·.1)=F/\F.length=i/\Sp wr (RowA 59 3 (.slice (some ⟨g,0,none⟩) n c) n (F++css.drop i).flatten::XH v xs css ys::BlkA I 3 #[.int .i64 iv]::L))
  case atStart=>exact⟨k,k+1,_,rfl,by go_num,by omega,by omega,rfl,rfl,HFl.out,hst⟩
  case round=>
   obtain⟨i,j,F,rfl,rfl,hij,hj,rfl,hF,hFi,HS2⟩:=hrel;have HF:=zA hF;have HFi:=zA hFi
   have hlF:∀z∈F++css.drop i,z.length=3:=fun z hz=>by
    rcases List.mem_append.1 hz with h|h
    ·rw [<-hF]at h;obtain⟨y,hy,rfl⟩:=List.mem_map.1 h;exact Hc3.out _ (yu (List.of_mem_zip (List.mem_filter.1 hy).1).1)
    ·exact Hc3.out z (List.mem_of_mem_drop h)
   have HlF:=zA hlF;clear hst hF hFi hlF
   by_cases hjn:j<n
   ·obtain⟨x,hx⟩:∃x,ys[j]? =some x:=⟨_,zB (by rw [Hn.out];exact hjn)⟩;obtain⟨Ax,nx,cx,hcs⟩:=HS2.readCell M1 hx;obtain⟨x2,hx2⟩:∃x2,ys[i]? =some x2:=⟨_,zB (by rw [Hn.out];omega)⟩;obtain⟨Ay,ny,cy,hcs2⟩:=HS2.readCell M1 hx2
    have hj1:(F++css.drop i)[j]? =some [.int .i64 x.1,.string x.2.1,.slice Ax nx cx]:=by
     rw [zR (by rw [HFi.out];omega),HFi.out,List.getElem?_drop,<-hcs]
     congr 1;omega
    have hi1:(F++css.drop i)[i]? =some [.int .i64 x2.1,.string x2.2.1,.slice Ay ny cy]:=by
     rw [zR (by rw [HFi.out];omega),HFi.out,List.getElem?_drop,<-hcs2]
     congr 1;omega
    obtain⟨c0,c1,c2⟩:=U4 (A:=none) HS2 M0 HlF.out hj1;obtain⟨Tb,hTb⟩:=eX (wr.heap.size);have HS3:=HS2.blkH 59 #[.int .i64 x.1,.string x.2.1,.slice Ax nx cx] hTb;have Hx:=zA hx;have Hcs:=zA hcs;have Hi1:=zA hi1;clear hx hcs hx2 hcs2 hj1 hi1 HS2;go_upto_region 8 with fail;obtain⟨w4,hw4⟩:=eX (wr.alloc (.cells #[.int .i64 x.1,.string x.2.1,.slice Ax nx cx] 59));rw [hw4]at HS3⊢;have z0:=HS3.cl M0 0
    have z1:=HS3.cl M0 1;have z2:=HS3.cl M0 2;have HB:=zA (j9 x.1 iv I [] w4 (HS3.cell M3 0) x.2.1 Ax nx cx);clear c0 c1 c2 hw4 hTb
    by_cases hq:x.1=iv
    ·have hq1:(x.1 !=iv)=false:=(by simp [hq]);have Hq:=zA hq;clear hq;have hi2:(i:Int)<(n:Int):=(by omega)
     go_wp2_with (go_at_call 65;refine HB.out.mono ?_;rintro r w5 ⟨rfl,hb⟩;have HS4:=HS3.grow hb;have y0:=HS4.cl M0 0;have y1:=HS4.cl M0 1;have y2:=HS4.cl M0 2;have d:=U4 (A:=none) HS4 M1 HlF.out Hi1.out;have d0:=d.1;have d1:=d.2.1;have d2:=d.2.2;have f0:=HS4.rowFree M1 (i*3);have f1:=HS4.rowFree M1 (i*3+1);have f2:=HS4.rowFree M1 (i*3+2))
     have HS5:=((HS4.tail.rowSet (i*3) (.int .i64 x.1)).rowSet (i*3+1) (.string x.2.1)).rowSet (i*3+2) (.slice Ax nx cx);have ef:=lP (.int .i64 x.1) (.string x.2.1) (.slice Ax nx cx) HlF.out Hi1.out;rw [KY _ HFi.out (by rw [Hcl.out,Hn.out];omega)]at ef;rw [ef]at HS5;clear HS3 HS4 y0 y1 y2 z0 z1 z2 d d0 d1 d2 f0 f1 f2 ef
     go_roundg (n - (j+1))
     ·exact⟨i+1,j+1,F++ [[Value.int .i64 x.1,Value.string x.2.1,Value.slice Ax nx cx]],by go_num,by go_num,by omega,by omega,rfl,by rw [VX Hcs.out Hx.out,if_pos Hq.out,zw,HF.out];rfl,by simp [HFi.out],HS5⟩
     ·omega
    ·have hq1:(x.1 !=iv)=true:=(by simp [hq]);have Hq:=zA hq;clear hq;go_wp2_with (go_at_call 65;refine HB.out.mono ?_;rintro r w5 ⟨rfl,hb⟩;have HS4:=HS3.grow hb)
     go_roundg (n - (j+1))
     ·exact⟨i,j+1,F,rfl,by go_num,by omega,by omega,rfl,by rw [VX Hcs.out Hx.out,if_neg Hq.out,zo];exact HF.out,HFi.out,HS4.tail⟩
     ·omega
   ·obtain rfl:j=n:=by omega
    rw [zF (by rw [Hcl.out,Hn.out];exact zC _),zF (by rw [Hn.out];exact zC _)]at HF;obtain⟨Z,hZ⟩:=eX ((Builtin.zeroCells cC.cells (j - i)).toList);have hZl:Z.length=(j - i)*3:=(by rw [<-hZ];simp [Builtin.zeroCells,Value.cells,cC])
    have hZ1:∀v∈Z,v.oneCell' =true:=by
     intro v hv;rw [<-hZ]at hv;simp only [Builtin.zeroCells,Array.toList_map,List.mem_map]at hv;obtain⟨q,_,rfl⟩:=hv;have h3:q%3=0\/q%3=1\/q%3=2:=(by omega);rcases h3 with h|h|h<;>simp [Value.cells,cC,h,Value.oneCell']
    have hcells:∀q,q<(j - i)*3->(wr.cell? ⟨g,i*3+q,none⟩).isSome=true:=by
     intro q hq;have hlen:=(HS2.rowOf M0).1;have:i*3+q<(F++css.drop i).flatten.length:=(by rw [hlen];omega);rw [HS2.rowCell M0 (zB this)];rfl
    have hclear:=fun ty=>qW (P:=prog) wr 32 59 ty cC underlying32 CH g (i*3) (j - i) (c - i) (by omega) (by rw [hZ,hZl];exact hcells) (fun q=>HS2.rowFree M0 _) (by rw [hZ];exact hZ1);rw [hZ]at hclear;obtain⟨ws,hws1,hws2,HS3⟩:=HS2.setCells (k:=i*3) Z (i*3) (zC _);have hFl:F.flatten.length=i*3:=(by rw [Zh F fun z hz=>HlF.out z (List.mem_append_left _ hz),HFi.out])
    have htk:ws.take (i*3)=F.flatten:=(by rw [hws2,yf,List.take_left' hFl])
    have HS4:Sp (wr.setCells g (i*3) Z) (RowA 59 3 (.slice (some ⟨g,0,none⟩) j c) j (F.flatten++ws.drop (i*3))::XH v xs css ys::BlkA I 3 #[.int .i64 iv]::L):=by
     rw [<-htk,zu];exact HS3
    have HS5:=HS4.cutRowN (n' :=i) (by omega) hFl;have hsnd:=EM (iv:=iv) Hcl.out
    have HS6:=Sp.readSub HS5.p1 (css' :=F) (ys' :=ys.filter fun c=>decide (c.1=iv)) (by rw [<-HF.out,<-hsnd,zK,zK]) fun k cs x h1 h2=>by
     rw [<-HF.out]at h1;rw [<-hsnd]at h2;exact EN h1 h2
    clear hcells hZ1 hZ HS2 HS3 HS4 HS5 hsnd htk hws1 hws2;go_wp2;go_ret
    exact⟨i,F,rfl,by omega,HS6.p1⟩
end
abbrev xw:=U64×List Entry
def Vi:Nat->List xw->Bool
 |_, []=>true
 |q,x::l=>decide (q<x.1.val) && Vi x.1.val l
def YN (fs:List Field) (items:List xw):Int:=if xC fs then if 16384<items.length then 3 else if Vi 0 items then 0 else 1 else 80
theorem xw.at_ {w:O} {F:Nat->Prop} {b off k:Nat} {x:xw} (h:xp w F b off k x):∃A n c,w.cell? ⟨b,off+k*2,none⟩=some (.int .u64 (x.1.val:Int))/\w.cell? ⟨b,off+k*2+1,none⟩=some (.slice A n c)/\zL w F A n c x.2/\x.1.val<18446744073709551616:=by
 obtain⟨cs,⟨c1,c2,rfl,⟨rfl,h1⟩,h2⟩,hc⟩:=h;obtain⟨A,n,c,rfl,h2⟩:=h2;exact⟨A,n,c,hc 0 _ rfl,hc 1 _ rfl,h2,h1⟩
theorem BW {A B:aA} {n c m cm:Nat} {fs:List Field} {items:List xw} {w:O} (hT:Tabs w) (hs:zL w (·<w.heap.size) A n c fs) (hi:zL w (·<w.heap.size) B m cm items):
 Calls prog 60 #[.agg #[.slice A n c],.slice B m cm] w fun r w' =>r= .returned (.int .i64 (YN fs items))/\Below w.heap.size w w' :=by
 obtain⟨H,hH⟩:=eX (w.heap.size);have HS0:=(Sp.start w).blkH 24 #[.slice A n c] hH;have hlen:=hi.length;have hcap:=hi.cap;have HI:=zA hi;have HC:=zA (XJ A n c fs _ (hT.on (HS0.below M1)) (hs.on (HS0.below M1)));obtain⟨sb,hsb⟩:=eX (xC fs);rw [hsb]at HC;have Hsb:=zA hsb;have Hlen:=zA hlen;clear hT hs hi hsb hlen;go_enter func60,ntmps60;go_upto_region 1 with fail
 obtain⟨w2,hw2⟩:=eX (w.alloc (.cells #[.slice A n c] 24));rw [hw2]at HS0 HC⊢;clear hH;have q1:=HS0.cl M0 0;cases sb with
 |false=>
  go_wp2_with fail;refine HC.out.mono ?_;rintro r w3 ⟨rfl,hb⟩;have hb2:=zA ((HS0.grow hb).below M1);have Hr:Hid (YN fs items=80):=(by show _=_;simp [YN,Hsb.out]);clear HS0 HC q1 hw2 hb;go_wp2;go_ret
  exact⟨by rw [Hr.out];rfl,hb2.out⟩
 |true=>
  by_cases hm:16384<m
  ·have hmi:(16384:Int)<(m:Int):=(by omega);go_wp2_with fail;refine HC.out.mono ?_;rintro r w3 ⟨rfl,hb⟩;have hb2:=zA ((HS0.grow hb).below M1);have Hr:Hid (YN fs items=3):=(by show _=_;simp [YN,Hsb.out,Hlen.out,hm]);clear HS0 HC q1 hw2 hb;go_wp2;go_ret
   exact⟨by rw [Hr.out];rfl,hb2.out⟩
  ·have hmi:¬(16384:Int)<(m:Int):=(by omega);go_wp2_with fail;refine HC.out.mono ?_;rintro r w3 ⟨rfl,hb⟩;have hb2:=(HS0.grow hb).below M1;have HS1:Sp w3 [OldA w.heap.size w]:=(HS0.grow hb).tail;have Hr:Hid (YN fs items=if Vi 0 items then 0 else 1):=(by show _=_;simp [YN,Hsb.out,Hlen.out,hm]);clear HS0 HC q1 hw2 hb hb2;go_wp2
   go_loopg [5,18] m (fun gk v5 v18 wr=>∃k q:Nat,v5= .int .u64 (q:Int)/\v18= .int .i64 k/\k<=m/\gk=m - k/\Hid (Vi 0 items=Vi q (items.drop k))/\Sp wr [OldA w.heap.size w])
   case atStart=>exact⟨0,0,by go_num,by go_num,zJ _,rfl,rfl,HS1⟩
   case round=>
    obtain⟨k,q,rfl,rfl,hk,rfl,hq,HS⟩:=hrel;clear HS1
    by_cases hkm:k<m
    ·obtain⟨b,off,x,rfl,hxe,hb,hee⟩:=HI.out.at_ hkm
     obtain⟨Ax,nx,cx,E0,E1, -,hx⟩:=xw.at_ hee
     have E0:wr.cell? _=_:=((HS.below M0).cell hb).trans E0;have E1:wr.cell? _=_:=((HS.below M0).cell hb).trans E1
     have hd:items.drop k=x::items.drop (k+1):=by
      obtain⟨hl,he⟩:=List.getElem?_eq_some_iff.1 hxe.out;rw [za hl,he]
     have hq2:Vi 0 items=(decide (q<x.1.val) && Vi x.1.val (items.drop (k+1))):=(by rw [hq.out,hd];rfl);have Hq2:=zA hq2;have HSa:=HS.al (.cells #[.int .u64 (x.1.val:Int),.slice Ax nx cx] 40);obtain⟨y,hy⟩:=eX (x.1.val);rw [hy]at E0 Hq2 HSa;clear hee hq hq2 hd hx hxe
     by_cases hlt:q<y
     ·have hle:¬(y:Int)<=(q:Int):=(by omega);go_wp2
      go_roundg (m - (k+1))
      ·exact⟨k+1,y,rfl,by go_num,by omega,rfl,(Hq2.out.trans (by rw [decide_eq_true hlt];rfl):_=_),HSa⟩
      ·omega
     ·have hle:(y:Int)<=(q:Int):=(by omega);have hr:Vi 0 items=false:=Hq2.out.trans (by rw [decide_eq_false hlt];rfl);have Hr2:Hid (YN fs items=1):=(by show _=_;rw [Hr.out,hr];rfl);have hb2:=zA (HSa.below M0);clear hr;go_wp2;go_ret
      exact⟨by rw [Hr2.out];rfl,hb2.out⟩
    ·obtain rfl:k=m:=by omega
     have hr:Vi 0 items=true:=hq.out.trans (by rw [List.drop_of_length_le (by rw [Hlen.out];exact zC _)];rfl);have Hr2:Hid (YN fs items=0):=(by show _=_;rw [Hr.out,hr];rfl);have hb2:=zA (HS.below M0);clear hr hq;go_wp2;go_ret
     exact⟨by rw [Hr2.out];rfl,hb2.out⟩
theorem vJ:(Tryz.prog.info? 86).bind (fun i=>i.zero)=some (.agg #[.string ⟨#[]⟩,.string ⟨#[]⟩,.slice none 0 0]):=by kernel_rfl
def OW:aF:= [.string ⟨#[]⟩,.string ⟨#[]⟩,.slice none 0 0]
theorem EB (N:Nat):(madeCells (Value.agg #[.string ⟨#[]⟩,.string ⟨#[]⟩,.slice none 0 0]).cells (N*3)).toList=(List.replicate N OW).flatten:=by
 have hc:(Value.agg #[.string ⟨#[]⟩,.string ⟨#[]⟩,.slice none 0 0]).cells= #[.string ⟨#[]⟩,.string ⟨#[]⟩,.slice none 0 0]:=by simp [Value.cells]
 rw [hc]
 apply yX
 intro i
 by_cases hi:i<N*3
 ·obtain⟨j,r,hr,rfl⟩:∃j r,r<3/\i=j*3+r:=⟨i / 3,i%3,Nat.mod_lt _ (by decide),by omega⟩;have hl:∀c∈List.replicate N OW,c.length=3:=fun c hc=>by rw [(List.mem_replicate.1 hc).2];rfl
  rw [xX _ j r OW hl (List.getElem?_replicate_of_lt (by omega)) hr];unfold madeCells;rw [Array.getElem?_toList,Array.getElem?_map,Array.getElem?_range,if_pos hi,yk,show(j*3+r)%(#[.string ⟨#[]⟩,.string ⟨#[]⟩,.slice none 0 0]:aG).size=r from by show(j*3+r)%3=r;omega];rcases r with _|_|_|r<;>first|rfl|omega
 ·rw [zh (by simp [madeCells];omega),zh (by simp [OW];omega)]
theorem L7 {w:O} {g:Nat} {a0:V} {tmps:aG} (h0:tmps.getD 2 undef= .pointer (some ⟨g,0,none⟩)) (hb:Blk w g 38 #[a0]):(results Tryz.f61 tmps).run prog w= .ok (.agg #[a0]) w:=by
 have h1:=run_loadVar_row (P:=prog) w g 38 38 #[a0] (0,0) _ hb underlying38 rfl (by kernel_rfl);have h2:Tryz.f61.results= #[ResultVar.cell 2 38]:=rfl;have h3:tmps[2]?.getD undef= .pointer (some ⟨g,0,none⟩):=by simpa using h0
 simp [results,h2,h3,h1,asAddr,Result.andThen]
theorem vE {A:aA} {n c:Nat} {es:List Entry} {w:O} (he:zL w (·<w.heap.size) A n c es) (hn:n<=64) (hnum:∀e∈es,e.numbers.length<=1000000000):
 Calls prog 61 #[.agg #[.slice A n c]] w fun r w' =>∃A',r= .returned (.agg #[.slice A' n n])/\Sp w' [DatA (.slice A' n n) es,OldA w.heap.size w]:=by
 obtain⟨H,hH⟩:=eX (w.heap.size);have HS0:=((Sp.start w).blkH 38 #[.slice A n c] hH).blkH 38 #[.slice none 0 0] (H:=H+1) (by simp [hH]);have hlen:=zA he.length;have hcap:=he.cap;have He:=zA he;have Hnum:=zA hnum;clear he hnum;go_enter func61,ntmps61;go_upto_region 1 with fail;obtain⟨w2,hw2⟩:=eX ((w.alloc (.cells #[.slice A n c] 38)).alloc (.cells #[.slice none 0 0] 38));rw [hw2]at HS0⊢
 have q1:=HS0.cl M1 0;obtain⟨R,hR⟩:=eX (w2.heap.size);clear hw2;go_wp2_with (at_make;refine Zk lT (.tmp 8) (.tmp 8) rfl rfl HS0 hR rfl rfl (by omega) (by omega) vJ ?_;intro w3 HS3;rw [EB]at HS3;have q2:=HS3.cl M2 0)
 have HS4:Sp w3 [RowA 86 3 (.slice (some ⟨R,0,none⟩) n n) n (List.replicate n OW).flatten,ElsA [] ([]:List Entry),BlkA (H+1) 38 #[.slice none 0 0],BlkA H 38 #[.slice A n c],OldA w.heap.size w]:=(HS3.elsNil (α:=Entry)).p1;clear HS0 HS3 q1 q2 hH hR
 go_loopg [13] n (fun gk v13 wr=>∃(k:Nat) (css:List aF),v13= .int .i64 k/\k<=n/\gk=n - k/\Hid (css.length=n/\∀c∈css,c.length=3)/\Sp wr [RowA 86 3 (.slice (some ⟨R,0,none⟩) n n) n css.flatten,ElsA (css.take k) (es.take k),BlkA (H+1) 38 #[.slice none 0 0],BlkA H 38 #[.slice A n c],OldA w.heap.size w])
 case atStart=>exact⟨0,_,by go_num,zJ _,rfl,⟨List.length_replicate ..,fun c hc=>by rw [(List.mem_replicate.1 hc).2];rfl⟩,HS4⟩
 case round=>
  obtain⟨k,css,rfl,hk,rfl,hcs,HS⟩:=hrel;clear HS4
  by_cases hkn:k<n
  ·obtain⟨b,off,e,rfl,hxe,hb,hee⟩:=He.out.at_ hkn
   obtain⟨An,nn,cn,E0,E1,E2,hnum,s0,s1⟩:=Entry.at_ hee
   have E0:wr.cell? _=_:=((HS.below M4).cell hb).trans E0;have E1:wr.cell? _=_:=((HS.below M4).cell hb).trans E1;have E2:wr.cell? _=_:=((HS.below M4).cell hb).trans E2;have hnl:=Hnum.out e (zD hxe.out);rw [hnum.length]at hnl;obtain⟨cz,hcz⟩:∃cz,css[k]? =some cz:=⟨_,zB (by rw [hcs.out.1];exact hkn)⟩
   obtain⟨u0,u1,u2,rfl⟩:∃a b d,cz= [a,b,d]:=by
    have h:=hcs.out.2 _ (zD hcz)
    match cz,h with
    | [a,b,d],_=>exact⟨a,b,d,rfl⟩
   have Hcz:=zA hcz;have Hcs2:=zA hcs.out.2;obtain⟨Tb,hTb⟩:=eX (wr.heap.size);have HSe:=HS.blkH 86 #[.string e.field,.string e.text,.slice An nn cn] hTb;obtain⟨w4,hw4⟩:=eX (wr.alloc (.cells #[.string e.field,.string e.text,.slice An nn cn] 86));have hb4:Below wr.heap.size wr w4:=(by rw [<-hw4];exact(zE _ _).alloc (zC _) _);have hni:∀x∈e.numbers,In64 x:=hnum.in64;have Hni:=zA hni
   have Hs:=zA (And.intro s0 s1);have HC:=zA (XW An nn cn (ints e.numbers) w4 (by omega) (((hnum.on (HS.below M4)).on hb4)).reads_ints (Y3 _));rw [hw4]at HSe;clear HS hcz hee hnum hni s0 s1 hb4;go_upto_region 5 with fail;have z2:=HSe.cl M0 2;clear hw4 hTb E0 E1 E2
   go_wp2_with (first
    |(go_at_call 96;refine HC.out.mono ?_;rintro r w5 ⟨A8,c8,rfl,hr8,hb8⟩;have HS5:=HSe.row hr8 hb8;have x2:=HS5.cl M1 2;have x3:=(HS5.blkOf M1).frozen 2;have hcp:=hr8.cap;have d0:=HS5.rowCell M2 ((xX css k 0 _ Hcs2.out Hcz.out (by omega)).trans rfl);have d1:=HS5.rowCell M2 ((xX css k 1 _ Hcs2.out Hcz.out (by omega)).trans rfl);have d2:=HS5.rowCell M2 ((xX css k 2 _ Hcs2.out Hcz.out (by omega)).trans rfl);rw [yt]at d0;have g0:=HS5.rowFree M2 (k*3);have g1:=HS5.rowFree M2 (k*3+1);have g2:=HS5.rowFree M2 (k*3+2);have ne:=(Sp.selT [_,_,_] HS5 [2,1]).neRB;have ne2:=Ne.symm ne;clear hr8 hb8 HSe z2)
    |(go_at_call 109;refine(eK _ _ _ _ hcp.2.1 hcp.2.2).mono ?_;rintro r w6 ⟨rfl,rfl⟩;have HS6:=(HS5.p1).set 2 (.slice A8 nn nn);have y0:(w5.setCell ⟨Tb,2,none⟩ (.slice A8 nn nn)).cell? ⟨Tb,0,none⟩=some (.string e.field):=HS6.cell M0 0;have y1:(w5.setCell ⟨Tb,2,none⟩ (.slice A8 nn nn)).cell? ⟨Tb,1,none⟩=some (.string e.text):=HS6.cell M0 1;have y2:(w5.setCell ⟨Tb,2,none⟩ (.slice A8 nn nn)).cell? ⟨Tb,2,none⟩=some (.slice A8 nn nn):=HS6.cell M0 2)
    |fail)
   have HS7:=((((Sp.selT [_,_,_] HS6 [2,0,1]).rowSet (k*3) (.string e.field)).rowSet (k*3+1) (.string e.text)).rowSet (k*3+2) (.slice A8 nn nn));have ef:=lP (.string e.field) (.string e.text) (.slice A8 nn nn) Hcs2.out Hcz.out;rw [ef]at HS7;have HS8:=(Sp.selT [_,_,_] HS7 [2,0]).clip.ints Hni.out
   have HS9:=HS8.mk1 (cs:= [.string e.field,.string e.text,.slice A8 nn nn]) (x:=e) (fun S h=>⟨_,_,_,rfl,⟨rfl,Hs.out.1⟩,⟨rfl,Hs.out.2⟩,h⟩);have HS10:=(Sp.selT [_,_,_] HS9 [0,2,1]).elsPush
   have et1:(css.set k [.string e.field,.string e.text,.slice A8 nn nn]).take (k+1)=css.take k++ [[.string e.field,.string e.text,.slice A8 nn nn]]:=by
    have hlk:k<(css.set k [Value.string e.field,.string e.text,.slice A8 nn nn]).length:=(by rw [List.length_set,hcs.out.1];exact hkn);rw [zI,List.take_set_of_le (zC _),List.getElem?_set_self (by rw [hcs.out.1];exact hkn)];rfl
   have et2:es.take (k+1)=es.take k++ [e]:=(by rw [zI,hxe.out];rfl);rw [<-et1,<-et2]at HS10
   have hcs3:Hid ((css.set k [Value.string e.field,.string e.text,.slice A8 nn nn]).length=n/\∀c∈css.set k [Value.string e.field,.string e.text,.slice A8 nn nn],c.length=3):=by
    refine⟨by rw [List.length_set];exact hcs.out.1,fun c hc=> ?_⟩;rcases xe hc with h|rfl
    ·exact hcs.out.2 c h
    ·rfl
   clear HS5 HS6 HS7 HS8 HS9 ef et1 et2 y0 y1 y2 x2 x3 d0 d1 d2 g0 g1 g2 ne ne2;go_wp2
   go_roundg (n - (k+1))
   ·exact⟨k+1,_,by go_num,by omega,rfl,hcs3,HS10.p1⟩
   ·omega
  ·obtain rfl:k=n:=by omega
   rw [zF (by rw [hcs.out.1];exact zC _),zF (by rw [hlen.out];exact zC _)]at HS;have d0:=HS.cl M2 0;have d1:=(HS.blkOf M2).frozen 0;have h1:=Sp.els (α:=Entry) HS;have h2:=h1.p1.set 0 (.slice (some ⟨R,0,none⟩) k k);clear h1 HS;go_wp2;refine bodyPost_ret (L7 (g:=H+1) (by rfl) (h2.blkOf M0)) rfl ⟨_,rfl,Sp.selT [_,_,_,_] h2 [1,3]⟩
structure FS where
 td:xo
 lens:aD
 tx:List (List aB)
 nums:List aD
 pts:List Pt
def fs0:FS:=⟨[], [], [], [], []⟩
def Zc (fs:List Field) (i:Nat) (kd:Int) (doc:Nat) (cs:List yZ) (x:FS):FS:=
 if kd=1 then {x with td:=Y6 x.td doc (tokP fs i cs),lens:=x.lens++ [((tokP fs i cs).length:Int)]}
 else if kd=2 then {x with td:=Y7 x.td doc (setT (YK cs)),tx:=x.tx++ [setT (YK cs)]}
 else if kd=5 then {x with pts:=x.pts++ptsC doc cs}
 else {x with nums:=x.nums++ [xP (YG cs)],pts:=x.pts++ptsC doc cs}
def dimF (f:Field):Nat:=if f.kind=5 then f.dims.toNat else 1
def Qt (f:Field) (c:yZ):Prop:=(f.kind=2->c.2.1.size<=256)/\(f.kind=3\/f.kind=4->c.2.2.length=1)/\(f.kind=5->c.2.2.length=f.dims.toNat)/\InL c.2.2
theorem wF (xs:aD) (s:aB):∀u∈runT xs s,u.text.size<=1000000000:=by
 have hl:∀(t:aD) (m:Nat) (o:Option (List Token)),(∀l,o=some l->QY m l)->∀l,t.foldl lk o=some l->QY (4^t.length*m) l:=by
  intro t
  induction t with
  |nil=>intro m o h l hl;simpa using h l hl
  |cons a t ih=>
   intro m o h l hl
   have:=ih (4*m) (lk o a) (fun l' hl' =>by
    unfold lk at hl';rcases o with _|o
    ·cases hl'
    ·simp only [Option.bind_some]at hl'
     split at hl'
     ·cases hl';exact gY (h o rfl)
     ·cases hl') l hl
   rw [z6,Nat.pow_succ,Nat.mul_assoc];exact this
 intro u hu;cases xs with
 |nil=>cases hu
 |cons a t=>
  by_cases hc:ZI (a::t)=true
  ·by_cases hs:s.size<=4096
   ·rw [oR hc hs rfl]at hu
    split at hu
    ·rcases ho:lks t (xJ a s)with _|l
     ·rw [ho]at hu;cases hu
     ·rw [ho]at hu;have h1:=hl t s.size (some (xJ a s)) (fun l hl=>by cases hl;exact VC a s) l ho u hu;have h2:=l6 hc;have h3:4^t.length<=4^7:=yB (by decide) h2;have h4:4^t.length*s.size<=4^7*4096:=Nat.mul_le_mul h3 hs;omega
    ·cases hu
   ·rw [kV hs]at hu;cases hu
  ·rw [mO (by simpa using hc)]at hu;cases hu
theorem iT (fs:List Field) (i:Nat) (cs:List yZ):∀u∈tokP fs i cs,u.text.size<=1000000000:=by
 unfold tokP
 split
 ·split
  ·have:∀(cs:List yZ) (ch:aD) (out:List Token),(∀u∈out,u.text.size<=1000000000)->∀u∈cs.foldl (xx ch i) out,u.text.size<=1000000000:=by
    intro cs ch
    induction cs with
    |nil=>intro out h;exact h
    |cons c cs ih=>
     intro out h;refine ih _ fun u hu=> ?_;unfold xx at hu
     split at hu
     ·rcases List.mem_append.1 hu with hu|hu
      ·exact h u hu
      ·obtain⟨v,hv,rfl⟩:=List.mem_map.1 hu;exact wF _ _ v hv
     ·exact h u hu
   exact this cs _ [] (by simp)
  ·simp
 ·simp
theorem CS (fs:List Field) (i:Nat) {cs:List yZ} (hc:cs.length<=64):∀u∈tokP fs i cs,In64 u.pos:=by
 have key:∀(cs:List yZ) (ch:aD) (out:List Token) (B:Int),0<=B->(∀u∈out,0<=u.pos/\u.pos<B)->∀u∈cs.foldl (xx ch i) out,0<=u.pos/\u.pos<B+4197*cs.length:=by
  intro cs ch
  induction cs with
  |nil=>intro out B _ h u hu;have:=h u hu;simpa using this
  |cons c cs ih=>
   intro out B hB h u hu;have:=ih _ (B+4197) (by omega) (iS c h hB) u hu;simp only [z6];omega
 unfold tokP
 split
 ·split
  ·intro u hu;have:=key cs _ [] 0 (by omega) (by simp) u hu
   constructor<;>omega
  ·simp
 ·simp
theorem GV (fs:List Field) (i:Nat) {cs:List yZ} (hc:cs.length<=64):(tokP fs i cs).length<=262144:=by
 have key:∀(cs:List yZ) (ch:aD) (out:List Token),(cs.foldl (xx ch i) out).length<=out.length+4096*cs.length:=by
  intro cs ch
  induction cs with
  |nil=>intro out;simp
  |cons c cs ih=>
   intro out;have h1:=ih (xx ch i out c);have h2:=gI ch i out c;simp only [List.foldl_cons,z6];omega
 unfold tokP
 split
 ·split
  ·have:=key cs (by rename_i f _ _;exact f.chain) [];simp only [yO]at this;omega
  ·simp
 ·simp
def OI (k:Nat) (td:xo):Prop:=∀p∈td,(p.2.map (·.1)).Nodup/\∀q∈p.2,0<=q.1/\q.1<(k:Int)
theorem OI.mono {k:Nat} {td:xo} (h:OI k td):OI (k+1) td:=fun p hp=>⟨(h p hp).1,fun q hq=>by have:=(h p hp).2 q hq;omega⟩
theorem OI.add {k:Nat} {td:xo} (h:OI k td) (t:aB) {d:Nat} (p:Int) (hd:d<k):OI k (addT td t d p):=fun x hx=>by
 have step:∀ds:Wc,(ds.map (·.1)).Nodup->(∀q∈ds,0<=q.1/\q.1<(k:Int))->((OJ ds d p).map (·.1)).Nodup/\∀q∈OJ ds d p,0<=q.1/\q.1<(k:Int):=fun ds hn hq=>
  ⟨UW hn,fun q hm=>by
   rcases Q2 hm with h|rfl|⟨v,_,rfl⟩
   ·exact hq q h
   ·show(0:Int)<=d/\(d:Int)<k;omega
   ·show(0:Int)<=d/\(d:Int)<k;omega⟩
 rcases Q2 hx with h1|rfl|⟨v,hv,rfl⟩
 ·exact h x h1
 ·exact step [] (by simp) (by simp)
 ·exact step v (h _ hv).1 (h _ hv).2
theorem OZ.add {td:xo} (h:OZ td) {t:aB} {d p:Int} (ht:t.size<=1000000000) (hd:In64 d) (hp:In64 p):OZ (addT td t d p):=fun x hx=>by
 have step:∀ds:Wc,(∀q∈ds,In64 q.1/\∀x∈q.2,In64 x)->∀q∈OJ ds d p,In64 q.1/\∀x∈q.2,In64 x:=fun ds hq q hm=>by
  rcases Q2 hm with h|rfl|⟨v,hv,rfl⟩
  ·exact hq q h
  ·exact⟨hd,fun y hy=>by simp at hy;subst hy;exact hp⟩
  ·refine⟨hd,fun y hy=> ?_⟩;simp at hy;rcases hy with hy|rfl
   ·exact(hq _ hv).2 y hy
   ·exact hp
 rcases Q2 hx with h1|rfl|⟨v,hv,rfl⟩
 ·exact h x h1
 ·exact⟨ht,step [] (by simp)⟩
 ·exact⟨ht,step v (h _ hv).2⟩
theorem lG:∀(k:Nat) (l:aD),l.Nodup->(∀x∈l,0<=x/\x<(k:Int))->l.length<=k
 |0,l,_,h=>by
  cases l with
  |nil=>simp
  |cons x l=>have:=h x (by simp);omega
 |k+1,l,hn,h=>by
  have h1:=lG k (l.erase (k:Int)) (hn.erase _) fun x hx=>by
   have h2:=(hn.mem_erase_iff).1 hx;have h3:=h x h2.2;have h4:=h2.1;omega
  by_cases hm:(k:Int)∈l
  ·rw [List.length_erase_of_mem hm]at h1;omega
  ·rw [List.erase_of_not_mem hm]at h1;omega
theorem OI.len {k:Nat} {td:xo} (h:OI k td) {p:aB×Wc} (hp:p∈td):p.2.length<=k:=by
 have h1:=h p hp
 have:=lG k _ h1.1 fun x hx=>by
  obtain⟨q,hq,rfl⟩:=List.mem_map.1 hx;exact h1.2 q hq
 simpa using this
theorem kJ {k d:Nat} (hd:d<k) (hk:k<=16384):∀(l:List Token) (N:Nat) (td:xo),(∀u∈l,u.text.size<=1000000000/\In64 u.pos)->Ya N td->OZ td->OI k td->Ya (N+l.length) (Y6 td d l)/\OZ (Y6 td d l)/\OI k (Y6 td d l)
 | [],N,td,_,h1,h2,h3=>⟨h1,h2,h3⟩
 |u::l,N,td,hl,h1,h2,h3=>by
  have hu:=hl u (by simp);have:=kJ hd hk l (N+1) (addT td u.text d u.pos) (fun v hv=>hl v (by simp [hv])) (h1.add _ _ _) (h2.add hu.1 ⟨by omega,by omega⟩ hu.2) (h3.add _ _ hd);rw [z6,show N+(l.length+1)=N+1+l.length by omega];exact this
theorem kK {k d:Nat} (hd:d<k) (hk:k<=16384):∀(l:List aB) (N:Nat) (td:xo),(∀s∈l,s.size<=1000000000)->Ya N td->OZ td->OI k td->Ya (N+l.length) (Y7 td d l)/\OZ (Y7 td d l)/\OI k (Y7 td d l)
 | [],N,td,_,h1,h2,h3=>⟨h1,h2,h3⟩
 |s::l,N,td,hl,h1,h2,h3=>by
  have:=kK hd hk l (N+1) (addT td s d 0) (fun v hv=>hl v (by simp [hv])) (h1.add _ _ _) (h2.add (hl s (by simp)) ⟨by omega,by omega⟩ ⟨by omega,by omega⟩) (h3.add _ _ hd);rw [z6,show N+(l.length+1)=N+1+l.length by omega];exact this
structure FSok (f:Field) (k:Nat) (x:FS):Prop where
 sz:Ya (262144*k) x.td
 it:OZ x.td
 dc:OI k x.td
 ln:x.lens.length<=k
 li:InL x.lens
 xn:x.tx.length<=k
 xi:∀r∈x.tx,r.length<=64/\∀s∈r,s.size<=256
 nn:x.nums.length<=k
 ni:∀r∈x.nums,r.length<=64/\InL r
 pn:x.pts.length<=64*k
 pi:ZG (dimF f) x.pts
theorem FSok.zero (f:Field):FSok f 0 fs0 where
 sz:=by refine⟨?_,?_⟩<;>simp [fs0]
 it:=fun p hp=>by cases hp
 dc:=fun p hp=>by cases hp
 ln:=by simp [fs0]
 li:=fun x hx=>by cases hx
 xn:=by simp [fs0]
 xi:=fun x hx=>by cases hx
 nn:=by simp [fs0]
 ni:=fun x hx=>by cases hx
 pn:=by simp [fs0]
 pi:=fun x hx=>by cases hx
theorem InL.snoc {l:aD} (h:InL l) {x:Int} (hx: -9223372036854775808<=x/\x<=9223372036854775807):InL (l++ [x]):=fun y hy=>by
 rcases List.mem_append.1 hy with hy|hy
 ·exact h y hy
 ·rw [List.mem_singleton.1 hy];exact hx
theorem p8 {f:Field} {k:Nat} {cs:List yZ} (hk:k<16384) (hc:∀c∈cs,c.2.2.length=dimF f/\InL c.2.2):ZG (dimF f) (ptsC k cs):=fun p hp=>by
 obtain⟨c,hc',rfl⟩:=List.mem_map.1 hp;have:=hc c hc';exact⟨this.1,by show(0:Int)<=k;omega,by show(k:Int)<16384;omega,this.2⟩
theorem FB {cs:List yZ} (hc:∀c∈cs,InL c.2.2):InL (YG cs):=fun x hx=>by
 obtain⟨c,hc',rfl⟩:=List.mem_map.1 hx;rw [zm];rcases h:c.2.2[0]? with _|y
 ·show _/\_;exact⟨by simp,by simp⟩
 ·exact hc c hc' y (zD h)
theorem mJ {l:aD} (h:InL l):InL (xP l):=fun x hx=>h x ((Q7 l).mem_iff.1 hx)
theorem mK {α:Type} {P:α->Prop} {l:List α} {x:α} (h:∀y∈l,P y) (hx:P x):∀y∈l++ [x],P y:=fun y hy=>by
 rcases List.mem_append.1 hy with hy|hy
 ·exact h y hy
 ·rw [List.mem_singleton.1 hy];exact hx
theorem ZG.app {d:Nat} {a b:List Pt} (ha:ZG d a) (hb:ZG d b):ZG d (a++b):=fun p hp=>(List.mem_append.1 hp).elim (ha p) (hb p)
theorem FSok.step {fs:List Field} {i k:Nat} {f:Field} {cs:List yZ} {x:FS} (h:FSok f k x) (hk:k<16384) (hkd:1<=f.kind/\f.kind<=5) (hc:∀c∈cs,Qt f c) (hn:cs.length<=64):FSok f (k+1) (Zc fs i f.kind k cs x):=by
 have hI:∀c∈cs,InL c.2.2:=fun c hc' =>(hc c hc').2.2.2;have hS:Ya (262144*(k+1)) x.td:=h.sz.mono (by omega);have hL:x.lens.length<=k+1:=Nat.le_succ_of_le h.ln;have hX:x.tx.length<=k+1:=Nat.le_succ_of_le h.xn;have hN:x.nums.length<=k+1:=Nat.le_succ_of_le h.nn;have hP:x.pts.length<=64*(k+1):=by have:=h.pn;omega
 unfold Zc
 split
 ·have ht:=kJ (Nat.lt_succ_self k) (by omega) (tokP fs i cs) _ x.td (fun u hu=>⟨iT fs i cs u hu,CS fs i hn u hu⟩) h.sz h.it h.dc.mono;have hl:=GV fs i hn;exact⟨ht.1.mono (by omega),ht.2.1,ht.2.2,by simp;exact h.ln,h.li.snoc ⟨by omega,by omega⟩,hX,h.xi,hN,h.ni,hP,h.pi⟩
 split
 ·rename_i h2
  have hsz:∀s∈setT (YK cs),s.size<=256:=fun s hs=>by
   obtain⟨c,hc',rfl⟩:=List.mem_map.1 (X9.1 hs);exact(hc c hc').1 h2
  have hl:(setT (YK cs)).length<=64:=zY (Vh _) (by simpa [YK]using hn);have ht:=kK (Nat.lt_succ_self k) (by omega) (setT (YK cs)) _ x.td (fun s hs=>zY (hsz s hs) (by decide)) h.sz h.it h.dc.mono;exact⟨ht.1.mono (by omega),ht.2.1,ht.2.2,hL,h.li,by simp;exact h.xn,mK h.xi ⟨hl,hsz⟩,hN,h.ni,hP,h.pi⟩
 split
 ·rename_i h5;have hp:ZG (dimF f) (ptsC k cs):=p8 hk fun c hc' =>⟨by rw [(hc c hc').2.2.1 h5];unfold dimF;rw [if_pos h5],hI c hc'⟩;exact⟨hS,h.it,h.dc.mono,hL,h.li,hX,h.xi,hN,h.ni,by simp [ptsC];have:=h.pn;omega,h.pi.app hp⟩
 ·rename_i h1 h2 h5;have hp:ZG (dimF f) (ptsC k cs):=p8 hk fun c hc' =>⟨by rw [(hc c hc').2.1 (by omega)];unfold dimF;rw [if_neg h5],hI c hc'⟩;exact⟨hS,h.it,h.dc.mono,hL,h.li,hX,h.xi,by simp;exact h.nn,mK h.ni ⟨by rw [(Q7 _).length_eq];simpa [YG]using hn,mJ (FB hI)⟩,by simp [ptsC];have:=h.pn;omega,h.pi.app hp⟩
theorem nG {κ ν:Type} [DecidableEq κ] {l:List (κ×ν)} {k:κ} {v:ν} (h:Xa l k=some v):(k,v)∈l:=by
 unfold Xa at h;rcases hf:l.find? fun p=>decide (p.1=k)with _|p
 ·rw [hf]at h;cases h
 ·rw [hf]at h;cases h;have h1:=List.find?_some hf;have h2:=List.mem_of_find?_eq_some hf;simp only [decide_eq_true_eq]at h1;rw [<-h1];exact h2
theorem FSok.inv {f:Field} {k:Nat} {x:FS} (h:FSok f k x) (hk:k<=16384):InvOk f (Zl x.td) (Y2 x.td) x.lens x.tx x.nums x.pts where
 tl:=by simp [Y2]
 tn:=by
  unfold Zl;rw [(iW _).length_eq,zK];have:=h.sz.1;omega
 ps:=fun ps hps=>by
  unfold Y2 at hps;obtain⟨t, -,rfl⟩:=List.mem_map.1 hps;rcases hl:Xa x.td t with _|ds
  ·refine⟨by simp [Zo,xP],fun p hp=> ?_⟩;simp [Zo,xP]at hp
  ·have hm:=nG hl;have h1:=h.dc.len hm;refine⟨?_,fun p hp=> ?_⟩
   ·simp only [yq,Zo,zK];rw [(Q7 _).length_eq,zK];simp only at h1;omega
   ·simp only [yq,Zo]at hp;obtain⟨d, -,rfl⟩:=List.mem_map.1 hp;show((Xa ds d).getD []).length<=_;rcases hq:Xa ds d with _|q
    ·simp
    ·have h2:=(h.sz.2 _ hm).2 _ (nG hq);simp only [yq];simp only at h2;omega
 ln:=zY h.ln hk
 li:=h.li
 xn:=zY h.xn hk
 xi:=h.xi
 nn:=zY h.nn hk
 ni:=h.ni
 pn:=by have:=h.pn;omega
 pi:=h.pi
end Go.Proofs.YtjbhbfaeielbiaaGreatDoor

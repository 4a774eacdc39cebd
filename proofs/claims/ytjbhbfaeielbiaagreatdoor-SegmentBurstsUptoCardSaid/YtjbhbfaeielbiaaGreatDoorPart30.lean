import Derived.Test.YtjbhbfaeielbiaaGreatDoorPart27
import Derived.Test.YtjbhbfaeielbiaaGreatDoorPart28
set_option maxRecDepth 100000
set_option maxHeartbeats 8000000
set_option linter.unusedVariables false
set_option linter.unusedSimpArgs false
namespace Go.Proofs.YtjbhbfaeielbiaaGreatDoor
open Tryz
open Rep (rep)
open Go.RowKit Go.Maps
attribute [local go_sem ↓] zU zV
theorem FT (A:aA) (n c:Nat) (w:O) (h:n<=c) (hc:c<=9223372036854775807):Calls prog 120 #[.slice A n c] w fun e w' =>e= .returned (.slice A n n)/\w=w' :=by
 go_enter func120,ntmps120;go_wp2;go_ret
 exact⟨rfl,rfl⟩
def Y7 (td:xo) (d:Int) (l:List aB):xo:=l.foldl (fun td t=>addT td t d 0) td
def YK (cells:List yZ):List aB:=cells.map fun c=>c.2.1
theorem KJ {G T N n3 c3 doc m cm:Nat} {A3 B:aA} {gs:aG} {td:xo} {css:List aF} {tx:List (List aB)} {ocs:aF} {ox cells:List yZ} {w:O} {L:List Asn}
 (hm:m<=64) (hts:∀c∈cells,c.2.1.size<=1000000000) (hdoc:doc<=16384) (hN:Ya N td) (hN2:N<=6000000000) (hn3:n3<=1000000)
 (HS:Sp w (YR T td::BlkA G 152 gs::RowA 129 1 (.slice A3 n3 c3) n3 css.flatten::ElsA css tx::Z1 ocs ox [.slice B m cm] cells::L)) (g3:gs[3]? =some (.slice A3 n3 c3)) (g8:gs[8]? =some (.map (some T))):
 Calls prog 111 #[.pointer (some ⟨G,0,none⟩),.int .i64 (doc:Int),.slice B m cm] w fun e w' =>e= .returned (.tuple #[])/\∃A3' c3' css',Sp w' (YR T (Y7 td doc (setT (YK cells)))::BlkA G 152 (gs.setIfInBounds 3 (.slice A3' (n3+1) c3'))::RowA 129 1 (.slice A3' (n3+1) c3') (n3+1) css'.flatten::ElsA css' (tx++ [setT (YK cells)])::Z1 ocs ox [.slice B m cm] cells::L):=by
 have Hts:=zA hts;have HN:=zA hN;have G3:=zA g3;have G8:=zA g8;have hlen:=zA (HS.ls2 M4).length;have hcap:=(HS.ls2 M4).cap;have HS1:Sp w (TA none 0 0 []::_):=HS.nil 9 1;obtain⟨ks,hks⟩:=eX (setT (YK cells));rw [hks];have Hks:=zA hks;clear hks;clear hts hN g3 g8 HS;go_enter func111,ntmps111;go_wp2
 go_loopg [6,13] m (fun gk v6 v13 wr=>∃(k:Nat) (A6:aA) (c6:Nat),v6= .slice A6 k c6/\v13= .int .i64 k/\k<=m/\gk=m - k/\Sp wr (TA A6 k c6 (YK (cells.take k))::YR T td::BlkA G 152 gs::RowA 129 1 (.slice A3 n3 c3) n3 css.flatten::ElsA css tx::Z1 ocs ox [.slice B m cm] cells::L))
 case atStart=>exact⟨0,none,0,rfl,rfl,zJ _,rfl,HS1⟩
 case round=>
  obtain⟨k,A6,c6,rfl,rfl,hk,rfl,HS2⟩:=hrel;clear HS1
  by_cases hkm:k<m
  ·obtain⟨b,off,x,rfl,hxe,hb,hee⟩:=(HS2.ls2 M5).at_ hkm
   obtain⟨Ax,nx,cx,E0,E1,E2,hnum, -⟩:=yZ.at_ hee
   obtain⟨Tb,hTb⟩:=eX (wr.heap.size);have HS3:=(HS2.blkH 59 #[.int .i64 x.1,.string x.2.1,.slice Ax nx cx] hTb).p1;clear HS2 hnum hee;go_upto_region 4 with fail;obtain⟨w4,hw4⟩:=eX (wr.alloc (.cells #[.int .i64 x.1,.string x.2.1,.slice Ax nx cx] 59));rw [hw4]at HS3⊢;have z1:=HS3.cl M1 1;clear E0 E1 E2 hw4 hTb
   go_wp2_with (at_builtin;refine yC Ql (.tmp 17) (.tmp 20) rfl rfl HS3 rfl (cs:= #[.string x.2.1]) rfl rfl rfl (by intro u hu;simp at hu;subst hu;rfl) (by omega) (by omega) ?_;intro A8 c8 w8 hc8 hm8 HS8)
   have e1:sC (YK (cells.take k))++(#[Value.string x.2.1]:aG).toList=sC (YK (cells.take (k+1))):=by
    rw [zI,hxe.out];simp [sC,YK]
   rw [e1]at HS8;have HS9:=HS8.d1;clear HS3 HS8 e1 z1;go_wp2
   go_roundg (m - (k+1))
   ·exact⟨k+1,A8,c8,rfl,by go_num,by omega,rfl,HS9⟩
   ·omega
  ·obtain rfl:k=m:=by omega
   rw [zF (by rw [hlen.out];exact zC _)]at HS2;have HP:=zA (dK HS2 (by omega));clear HS2
   go_wp2_with (first
    |(go_at_call 192;refine HP.out.mono ?_;rintro r w5 ⟨rfl,HS5⟩;have HQ:=zA (eJ HS5))
    |(go_at_call 193;refine HQ.out.mono ?_;rintro r w6 ⟨n6,rfl,hn6,HS6⟩;have hcp:=(HS6.tlen M0).2;have HC:=zA (FT A6 n6 c6 w6 hcp.1 hcp.2))
    |(go_at_call 120;refine HC.out.mono ?_;rintro r w7 ⟨rfl,rfl⟩))
   have HS7:=HS6.clip;rw [Wt]at HS7;rw [Hks.out]at HS7;have hkl:=(HS7.tlen M0).1
   have hkz:∀s∈ks,s.size<=1000000000:=fun s hs=>by
    rw [<-Hks.out]at hs;obtain⟨c,hc,rfl⟩:=List.mem_map.1 (X9.1 hs);exact Hts.out c hc
   have Hkl:=zA hkl;have Hkz:=zA hkz;clear HS6 hkl hkz hcp HQ HP HC
   go_loopg [30] n6 (fun gj v30 wr=>∃j:Nat,v30= .int .i64 j/\j<=n6/\gj=n6 - j/\Ya (N+j) (Y7 td doc (ks.take j))/\Sp wr (TA A6 n6 n6 ks::YR T (Y7 td doc (ks.take j))::BlkA G 152 gs::RowA 129 1 (.slice A3 n3 c3) n3 css.flatten::ElsA css tx::Z1 ocs ox [.slice B k cm] cells::L))
   case atStart=>exact⟨0,rfl,zJ _,rfl,HN.out,HS7⟩
   case round=>
    obtain⟨j,rfl,hj,rfl,hsz,HS8⟩:=hrel;clear HS7
    by_cases hjn:j<n6
    ·obtain⟨s,hs⟩:∃s,ks[j]? =some s:=⟨_,zB (by rw [Hkl.out];exact hjn)⟩;obtain⟨gk,rfl, -, -⟩:=(HS8.rowOf M0).at_ (by omega)
     have t0:wr.cell? ⟨gk,j,none⟩=some (.string s):=HS8.rowCell M0 (Vk hs);have HA:=zA (pS (N:=N+j) s (doc:Int) 0 ⟨by omega,by omega⟩ (Hkz.out s (zD hs)) hsz (by omega) (Sp.selT [_,_,_] HS8 [1,2,0]) G8.out)
     have hstep:Y7 td doc (ks.take (j+1))=addT (Y7 td doc (ks.take j)) s doc 0:=by
      rw [zI,hs];unfold Y7;rw [xE];rfl
     have Hstep:=zA hstep;have Hsz:=zA hsz;clear HS8 hstep hsz;go_wp2_with (go_at_call 191;refine HA.out.mono ?_;rintro r w2 ⟨rfl,HS9⟩)
     go_roundg (n6 - (j+1))
     case measure=>omega
     case rel=>
      rw [<-Hstep.out]at HS9;exact⟨j+1,by go_num,by omega,rfl,by rw [Hstep.out];exact Hsz.out.add _ _ _,Sp.selT [_,_,_] HS9 [2,0,1]⟩
    ·obtain rfl:j=n6:=by omega
     rw [zF (by rw [Hkl.out];exact zC _)]at HS8;have HS9:=Sp.selT [_,_,_,_] HS8 [3,2,1,0];have k2:wr.cell? ⟨G,3,none⟩=some (.slice A3 n3 c3):=(HS9.cell M1 3).trans G3.out;clear HS8 hsz
     go_wp2_with (at_builtin;refine yC UN (.tmp 44) (.tmp 46) rfl rfl HS9 rfl (cs:= #[.slice A6 j j]) rfl rfl rfl (by intro u hu;simp at hu;subst hu;rfl) (by omega) (by omega) ?_;intro A8 c8 w8 hc8 hm8 HS10;have k3:w8.cell? ⟨G,3,none⟩=some (.slice A3 n3 c3):=(HS10.cell M1 3).trans G3.out;have k4:=(HS10.blkOf M1).frozen 3)
     have e1:css.flatten++(#[Value.slice A6 j j]:aG).toList=(css++ [[Value.slice A6 j j]]).flatten:=(by simp);rw [e1]at HS10;have HS11:=(HS10.p1).set 3 (.slice A8 (n3+1) c8);have HS12:=Sp.strs (Sp.selT [_,_,_,_] HS11 [3,0,1,2]) (fun s hs=>by have:=Hkz.out s hs;omega);have HS13:=(Sp.selT [_,_,_,_,_] HS12 [0,4,1,2,3]).elsPush;clear HS9 HS10 HS11 HS12 e1 k2 k3 k4;go_wp2
     go_end0
     exact⟨rfl,A8,c8,_,Sp.selT [_,_,_,_] HS13 [3,1,2,0]⟩
end Go.Proofs.YtjbhbfaeielbiaaGreatDoor

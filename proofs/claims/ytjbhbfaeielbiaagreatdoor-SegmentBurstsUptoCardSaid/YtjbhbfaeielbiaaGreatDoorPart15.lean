import Derived.Test.YtjbhbfaeielbiaaGreatDoorPart12
import Derived.Test.YtjbhbfaeielbiaaGreatDoorPart13
import Derived.Lib.AppendZerosOnto
import Derived.Lib.SlBytesConst
set_option maxRecDepth 100000
set_option maxHeartbeats 8000000
set_option linter.unusedVariables false
set_option linter.unusedSimpArgs false
namespace Go.Proofs.YtjbhbfaeielbiaaGreatDoor
open Tryz
open Go.RowKit
def Qy (b:aC):Option UInt8:=if b.take 3= [76,84,1]then b[3]? else none
theorem nJ (A:aA) (nb c:Nat) (b:aC) (w:O) (hc:nb<=c) (hc2:c<=9223372036854775807) (hl:RB w A nb b):
 Calls prog 126 #[.slice A nb c] w fun e w' =>(match Qy b with|some k=>e= .returned (.tuple #[.int .u8 (k.toNat:Int),.bool true])|none=>e= .returned (.tuple #[.int .u8 0,.bool false]))/\w=w' :=by
 have hlen:=hl.len
 by_cases h4:nb<4
 ·have hk:Qy b=none:=(by unfold Qy;rw [zh (by omega)];simp);rw [hk];have h4' :(nb:Int)<4:=(by omega);clear hl hlen h4 hk;go_enter func126,ntmps126;go_wp2;go_ret2;exact⟨rfl,rfl⟩
 ·have hcv:=(hl.take (x:=3) (by omega)).text (c:=c);obtain⟨S,hS⟩:∃S:aB,(⟨(b.take 3).toArray⟩:aB)=S:=⟨_,rfl⟩;rw [hS]at hcv;obtain⟨g,off,x3,rfl,hg,hcell,Hx⟩:=hl.at_ (k:=3) (by omega)
  have h4' :(4:Int)<=nb:=(by omega);have h3c:(3:Int)<=c:=by omega
  by_cases he:b.take 3= [76,84,1]
  ·have hk:Qy b=some x3:=(by unfold Qy;rw [if_pos he];exact Hx.out);have hs:S=⟨#[76,84,1]⟩:=(by rw [<-hS,he]);subst hs;rw [hk];clear hl hlen h4 Hx he hk hS;go_enter func126,ntmps126;go_wp2;go_ret2;exact⟨rfl,rfl⟩
  ·have hk:Qy b=none:=(by unfold Qy;rw [if_neg he]);rw [hk]
   have hn:S≠⟨#[76,84,1]⟩:=by
    intro h;rw [<-hS]at h
    injection h with h
    exact he (by simpa using congrArg Array.toList h)
   have heq:(S.toList== [76,84,1])=false:=by
    simp only [beq_eq_false_iff_ne,ne_eq,ByteArray.toList_eq];intro h;exact hn (by cases S;congr 1;exact Array.toList_inj.1 h)
   clear hl hlen h4 Hx hk hS hn he;go_enter func126,ntmps126;go_wp2;go_ret2;exact⟨rfl,rfl⟩
theorem JP (n:Nat) (w:O) (hn:n<=100000000000000):
 Calls prog 225 #[.slice none 0 0,.int .i64 (n:Int)] w fun e w' =>∃A c,e= .returned (.slice A 0 c)/\Sp w' [BA A 0 c [],OldA w.heap.size w]:=by
 by_cases h0:n=0
 ·have h0' :(n:Int)<=0:=(by omega);clear h0;go_enter func225,ntmps225;go_wp2;go_ret
  exact⟨none,0,rfl,(Sp.start w).nil _ _⟩
 ·obtain⟨i,z,hi,hz,hs,hb,hzc⟩:=yW.info
  have hrz:∀ty,(Builtin.append_ #[65,3] ty #[.slice none 0 0,.int .i64 (n:Int)]).run prog w= .ok (.slice (some ⟨w.heap.size,0,none⟩) (0+n) (grownCap w (0+n) 0 5)) (w.drew.alloc (.cells (([]:aF).toArray++Builtin.zeroCells z.cells n++Builtin.zeroCells z.cells (grownCap w (0+n) 0 5 - (0+n))) 5)):=fun ty=>
   Lib.run_append_grow_zeros w 65 3 ty 5 i z .i64 .i64 underlying65 underlying3 hi hz none 0 0 [] (run_firstCells_none w.drew _ 0 0 0) n (by omega) (by omega) (by omega) (by omega) (by rw [hb];omega) (by rw [hb,yr,nextslicecap_zero (by omega)];omega)
  have hge:=grownCap_ge w (0+n) 0 5;have hle:=grownCap_le_maxLen w (0+n) 0 5 (by unfold maxLen;omega);obtain⟨G,hG⟩:=eX (grownCap w (0+n) 0 5);simp only [zx]at hrz hge hle hG;rw [hG]at hrz hge hle;unfold maxLen at hle;obtain⟨C,hC⟩:=eX (([]:aF).toArray++Builtin.zeroCells z.cells n++Builtin.zeroCells z.cells (G - n));have hCs:Hid (C.size=G):=(by show _=_;rw [<-hC];simp [size_zeroCells,hzc];omega)
  rw [hC]at hrz;have h0' :(0:Int)<n:=(by omega);have hG' :(0:Int)<=G:=(by omega);clear hi hz hs hb hG hC h0 hzc;go_enter func225,ntmps225;go_wp2_with (at_builtin;refine Lib.wpList_append_run _ rfl _ _ _ _ rfl _ _ rfl rfl _ _ (hrz _) ?_);go_ret
  exact⟨_,_,rfl,(Sp.start w).row (v:= .slice (some ⟨w.heap.size,0,none⟩) 0 G) (n:=0) (xs:= []) ⟨rfl,.inr ⟨w.heap.size,G,C,rfl,zC _,heap_alloc_new w.drew _,zJ _,by unfold maxLen;omega,by have:=hCs.out;omega,rfl⟩⟩ ((zE _ _).drew.alloc (zC _) _)⟩
theorem Yz {ls:List aC} {k:Nat}:(ls.take k).flatten.length<=ls.flatten.length:=by
 conv=>rhs;rw [<-zu k ls,yf,zG]
 omega
theorem j3 (A:aA) (n c:Nat) (ls:List aC) (w:O) (hn:n<=100000000000000) (hl:OY w A n ls) (ht:ls.flatten.length<=100000000000000):
 Calls prog 169 #[.slice A n c] w fun e w' =>∃A' m c',e= .returned (.slice A' m c')/\Sp w' [BA A' m c' ls.flatten,OldA w.heap.size w]:=by
 have Hlen:=zA hl.1;have Hl:=zA hl;have Ht:=zA ht;clear hl ht;go_enter func169,ntmps169;go_wp2
 go_loop [3,11] (fun s i=>∃k:Nat,k<=n/\i= .int .i64 k/\s= .int .i64 ((ls.take k).flatten.length:Nat)) (fun _ i=>n - (intOf i).toNat)
 case atStart=>exact⟨0,zJ _,rfl,rfl⟩
 case round=>
  obtain⟨k,hk,rfl,rfl⟩:=hrel;obtain⟨m,hm⟩:=eX ((ls.take k).flatten.length);have hm2:m<=100000000000000:=(by rw [<-hm];exact zY Yz Ht.out);rw [hm]
  by_cases hlt:k<n
  ·obtain⟨l,hx⟩:∃l,ls[k]? =some l:=⟨_,zB (by have:=Hlen.out;omega)⟩;obtain⟨b,off,A',c',rfl,hb,hcell,_,_⟩:=Hl.out.2 k l hx;have hm3:((ls.take (k+1)).flatten).length=m+l.length:=(by rw [QW hx,zG,hm]);have hm4:m+l.length<=100000000000000:=(by rw [<-hm3];exact zY Yz Ht.out);have Hm3:=zA hm3;clear hm3 hm hx;go_wp2
   go_round
   case rel=>exact⟨k+1,by omega,by go_num,by rw [Hm3.out];go_num⟩
   case measure=>simp [intOf];omega
  ·obtain rfl:k=n:=by omega
   have Hg:=zA (JP m w hm2);clear hm;go_wp2_with fail;refine Hg.out.mono ?_;rintro e w1 ⟨A1,c1,rfl,HS⟩;have hc1:=(HS.rb (.head _)).2;go_wp2
   go_loopw [6,27] (fun v i wr=>∃(j:Nat) (A1:aA) (m c1:Nat),j<=k/\i= .int .i64 j/\v= .slice A1 m c1/\Sp wr [BA A1 m c1 (ls.take j).flatten,OldA w.heap.size w]) (fun _ i _=>k - (intOf i).toNat)
   case atStart=>exact⟨0,A1,0,c1,zJ _,rfl,rfl,HS⟩
   case round=>
    obtain⟨j,A1,m,c1,hj,rfl,rfl,HS⟩:=hrel
    by_cases hlt:j<k
    ·obtain⟨l,hx⟩:∃l,ls[j]? =some l:=⟨_,zB (by have:=Hlen.out;omega)⟩;obtain⟨b,off,A',c',rfl,hb,hcell,hrb,_⟩:=(Hl.out.on (HS.below (.tail _ (.head _)))).2 j l hx;have hlen:=(HS.rb (.head _)).1.len;have hm4:m+l.length<=100000000000000:=(by rw [<-hlen,<-zG,<-QW hx];exact zY Yz Ht.out);have Hft:=zA (QW hx);have Hrb:=zA hrb;clear hrb hlen hx
     go_wp2_with (at_builtin;refine yR yW (.tmp 31) (.tmp 32) rfl rfl HS rfl rfl Hrb.out.reads (xd l) (by omega) (by omega) ?_;intro A2 c2 w2 hc2 hm2 HS2)
     go_roundw
     case rel=>exact⟨j+1,A2,m+l.length,c2,by omega,by go_num,rfl,by have h:=HS2;rw [<-y9]at h;rw [Hft.out];exact h⟩
     case measure=>simp [intOf];omega
    ·obtain rfl:j=k:=by omega
     have Hall:Hid (ls.take j=ls):=zF (by have:=Hlen.out;omega);go_wp2;go_ret
     exact⟨A1,m,c1,rfl,by rw [<-Hall.out];exact HS⟩
theorem sK (w:O) (cs:aG) (t:TypeId) (k:Nat×Nat) (n size:Nat) (hs:cs.size=n*size):xA (w.alloc (.cells cs t k)) (w.heap.size+1) size (some ⟨w.heap.size,0,none⟩) n cs.toList:=
 ⟨by simpa using hs,fun _=>⟨_,rfl,by simp,fun j u hu=>by
  rw [Yl,cell_of_row _ _ j cs t k (heap_alloc_new w _)]
  simpa using hu⟩⟩
theorem eW {w:O} {A:aA} {n:Nat} (c:Nat) {l:aC} (t:TypeId) (hl:RB w A n l) (hn:n<=9223372036854775807) {H:Nat} (hH:w.heap.size=H):OY (w.alloc (.cells #[.slice A n c] t)) (some ⟨H,0,none⟩) 1 [l]:=by
 subst hH;have hlen:=hl.len;subst hlen;refine⟨rfl,fun k l' hk=> ?_⟩;have h0:k=0:=by have:=zN hk;simpa using this
 subst h0;simp at hk;subst hk;exact⟨w.heap.size,0,A,c,rfl,by simp,(Blk.new w t _).cell 0,hl.on ((zE _ _).alloc (zC _) _),hn⟩
theorem eT (l:aC):sumL l<4294967296:=by unfold sumL;omega
def Yp (kind:UInt8) (ls:List aC) (w:O) (e:Ending) (w' :O):Prop:=
 if xR kind ls=true then ∃A' m,e= .returned (.tuple #[.slice A' m m,.int .i64 0])/\Sp w' [BA A' m m (ZQ kind ls),OldA w.heap.size w]
 else e= .returned (.tuple #[.slice none 0 0,.int .i64 3])/\Below w.heap.size w w'
theorem Yp.bad {kind:UInt8} {ls:List aC} {w w' :O} (h:xR kind ls=false) (hb:Below w.heap.size w w'):Yp kind ls w (.returned (.tuple #[.slice none 0 0,.int .i64 3])) w' :=by
 unfold Yp;rw [if_neg (by simp [h])];exact⟨rfl,hb⟩
theorem pD {kind:UInt8} {ls:List aC} (h:16777216<(WS kind ls).length+ls.flatten.length+4):xR kind ls=false:=by
 unfold xR xN;rw [zG];have:decide ((WS kind ls).length+ls.flatten.length+4<=16777216)=false:=by simp only [decide_eq_false_iff_not];omega
 rw [this,Bool.and_false]
def UH (kind:UInt8) (ls:List aC) (k:Nat):aC:= [76,84,1,kind]++(zP ls.length++(ls.take k).flatMap fun s=>zP s.length)
theorem AF {kind:UInt8} {ls:List aC} {k:Nat} {l:aC} (h:ls[k]? =some l):UH kind ls (k+1)=UH kind ls k++zP l.length:=by
 unfold UH;rw [zI,h];simp
theorem EQ (kind:UInt8) (ls:List aC):UH kind ls ls.length=WS kind ls:=by
 unfold UH WS;rw [List.take_length]
theorem IM (kind:UInt8) (A:aA) (n c:Nat) (ls:List aC) (w:O) (hn:n<=100000000000000) (hl:OY w A n ls) (hm:ls.flatten.length<=10000000000000):
 Calls prog 90 #[.int .u8 (kind.toNat:Int),.slice A n c] w fun e w' =>Yp kind ls w e w' :=by
 have Hlen:=zA hl.1;have Hl:=zA hl;have Hm:=zA hm;clear hl hm
 by_cases hbig:1024<n
 ·have hbad:Hid (xR kind ls=false):=by
   show _=_;unfold xR;have:=Hlen.out;simp;omega
  have hbig' :(1024:Int)<n:=(by omega);clear hbig;go_enter func90,ntmps90;go_wp2;go_ret2;exact Yp.bad hbad.out (zE _ _)
 ·have hn' :(n:Int)<=1024:=(by omega);obtain⟨N,hN⟩:∃N:Nat,N=3:=⟨_,rfl⟩;have HN:=zA hN
  have hcv:∀C:aG,(convert 65 65 (.slice (some ⟨w.heap.size,0,none⟩) 3 3)).run prog (w.alloc (.cells C 5))= .ok (.slice (some ⟨w.heap.size,0,none⟩) N N) (w.alloc (.cells C 5 (C.size,C.size+1))):=fun C=>by
   rw [hN];exact Lib.run_convert_bytes_const (P:=prog) w 65 5 C 3 3 underlying65 underlying5
  clear hN;clear hbig;go_enter func90,ntmps90
  go_wp2_with (at_builtin;refine rR yW (.tmp 14) (.tmp 16) rfl rfl (((Sp.start w).al _).al _) rfl (by have:=HN.out;omega) ((sK w #[.int .u8 76,.int .u8 84,.int .u8 1] 5 (3,4) N 1 (by rw [HN.out];rfl)).alloc (by simp) _) rfl (by omega) (Ye _ #[.int .u8 (kind.toNat:Int)] _ rfl (H:=w.heap.size+1) (by simp)) (by have:=HN.out;omega) (by have:=HN.out;omega) ?_;intro A1 c1 w1 hc1 hm1 HS)
  obtain rfl:N=3:=HN.out;have HS0:Sp w1 [BA A1 4 c1 [76,84,1,kind],OldA w.heap.size w]:=HS;clear HS;refine(ZR HS0.tail (HS0.rb (.head _)).1 (by omega) (by omega)).mono ?_;rintro e w2 ⟨A2,m2,rfl,hm2,HS⟩
  have HS2:Sp w2 [BA A2 m2 m2 (UH kind ls 0),OldA w.heap.size w]:=by
   have e:UH kind ls 0= [76,84,1,kind]++zP n:=(by unfold UH;rw [Hlen.out];simp);rw [e];exact HS
  clear HS HS0;go_wp2
  go_loopw [6,7,24] (fun v s i wr=>∃(k:Nat) (A1:aA) (m S:Nat),k<=n/\i= .int .i64 k/\v= .slice A1 m m/\s= .int .i64 (4+(S:Int))/\Hid ((ls.take k).flatten.length=S)/\S<=16777212/\m<=14+10*k/\Sp wr [BA A1 m m (UH kind ls k),OldA w.heap.size w]) (fun _ _ i _=>n - (intOf i).toNat)
  case atStart=>exact⟨0,A2,m2,0,zJ _,rfl,rfl,rfl,rfl,by omega,by omega,HS2⟩
  case round=>
   obtain⟨k,A1,m,S,hk,rfl,rfl,rfl,HS1,hS,hm,HS⟩:=hrel
   by_cases hlt:k<n
   ·obtain⟨l,hx⟩:∃l,ls[k]? =some l:=⟨_,zB (by have:=Hlen.out;omega)⟩;obtain⟨b,off,A',c',rfl,hb,hcell,_,_⟩:=(Hl.out.on (HS.below (.tail _ (.head _)))).2 k l hx;have Hk1:=zA (AF (kind:=kind) hx);have HT:Hid ((ls.take (k+1)).flatten.length=S+l.length):=(by show _=_;rw [QW hx,zG,HS1.out]);have hL:S+l.length<=10000000000000:=(by rw [<-HT.out];exact zY Yz Hm.out);obtain⟨L,hLl⟩:=eX (l.length)
    rw [hLl]at hL hcell HT Hk1;clear hx hLl
    by_cases hbig:16777212<S+L
    ·have hbig' :(16777216:Int)<4+(S:Int)+L:=(by omega);have hbad:Hid (xR kind ls=false):=pD (by have h1:=Yz (ls:=ls) (k:=k+1);have h2:=HT.out;omega);clear hbig;go_wp2_with (refine(ZR HS.tail (HS.rb (.head _)).1 (by omega) (by omega)).mono ?_;rintro e w3 ⟨A3,m3,rfl,hm3,HS3⟩);go_ret2;exact Yp.bad hbad.out (HS3.below (.tail _ (.head _)))
    ·have hbig' :4+(S:Int)+L<=16777216:=(by omega);go_wp2_with (refine(ZR HS.tail (HS.rb (.head _)).1 (by omega) (by omega)).mono ?_;rintro e w3 ⟨A3,m3,rfl,hm3,HS3⟩)
     go_roundw
     case rel=>exact⟨k+1,A3,m3,S+L,by omega,by go_num,rfl,by go_num,HT,by omega,by omega,by rw [Hk1.out];exact HS3⟩
     case measure=>simp [intOf];omega
   ·obtain rfl:k=n:=by omega
    have HS' :Sp wr [BA A1 m m (WS kind ls),OldA w.heap.size w]:=(by rw [<-EQ,Hlen.out];exact HS);have HSl:Hid (ls.flatten.length=S):=(by show _=_;have:=HS1.out;rwa [zF (by have:=Hlen.out;omega)]at this);have hml:=(HS'.rb (.head _)).1.len
    by_cases hbig:16777212<m+S
    ·have hbig' :(16777216:Int)<m+(4+(S:Int)):=(by omega);have hbad:Hid (xR kind ls=false):=pD (by have h2:=HSl.out;omega);clear hbig hml;go_wp2;go_ret2;exact Yp.bad hbad.out (HS'.below (.tail _ (.head _)))
    ·have hbig' :m+(4+(S:Int))<=16777216:=(by omega)
     have hgood:Hid (xR kind ls=true):=by
      show _=_;unfold xR xN;rw [zG];have h2:=HSl.out;have h3:=Hlen.out;simp only [zM,decide_eq_true_eq];omega
     have Hcc:=zA ((HS'.below (.tail _ (.head _))));have Hls:=zA (Hl.out.on Hcc.out);clear hbig hml HS;go_wp2_with fail;refine(j3 A k c ls wr hn Hls.out (by have:=HSl.out;omega)).mono ?_;rintro e w3 ⟨A3,m3,c3,rfl,HS3⟩;have HS4:Sp w3 [BA A1 m m (WS kind ls),BA A3 m3 c3 ls.flatten,OldA w.heap.size w]:=(HS'.c1 HS3).p1;have hr3:=(HS4.rb (.tail _ (.head _))).1
     have hm3:m3=S:=(by rw [<-hr3.len];exact HSl.out);subst hm3;have Hr3:=zA hr3.reads;clear hr3 HS3;go_wp2_with (at_builtin;refine yR yW (.tmp 45) (.tmp 47) rfl rfl HS4 rfl rfl Hr3.out (xd _) (by omega) (by omega) ?_;intro A5 c5 w5 hc5 hm5 HS5)
     have HS6:Sp w5 [BA A5 (m+m3) c5 (xN kind ls),OldA w.heap.size w]:=by
      have h:=HS5.d1;rw [<-y9]at h;exact h
     have hr6:=(HS6.rb (.head _)).1;have Hr6:=zA hr6;clear hr6 HS5 HS4 HS' Hr3
     go_wp2_with (first
      |(go_at_call 128;refine(eS _ 1 1 [xN kind ls] _ (by omega) (eW _ _ Hr6.out (by omega) rfl)).mono ?_;rintro e w6 ⟨rfl,hb6⟩;have HS7:=(HS6.al _).grow hb6;clear hb6)
      |(go_at_call 127;refine(eA _ _ (eT _)).mono ?_;rintro e w7 ⟨A7,rfl,hr7,hb7⟩;have HS8:Sp w7 [BA A7 4 4 (Za (sumL (xN kind ls))),BA A5 (m+m3) c5 (xN kind ls),OldA w.heap.size w]:=HS7.row hr7 hb7;have Hr8:=zA (HS8.rb (.head _)).1.reads;clear hr7 hb7)
      |(at_builtin;refine yR yW (.tmp 49) (.tmp 53) rfl rfl HS8.p1 rfl rfl Hr8.out (xd _) (by omega) (by omega) ?_;intro A9 c9 w9 hc9 hm9 HS9)
      |(go_at_call 55;refine(Zt _ _ _ _ (by omega) (by omega)).mono ?_;rintro e w' ⟨rfl,rfl⟩))
     go_ret2;unfold Yp;rw [if_pos hgood.out];refine⟨A9,_,rfl,?_⟩;have h:=HS9.d1.clip;rw [<-y9]at h;exact h
theorem lS (A:aA) (n c:Nat) (l:aC) (A' :aA) (n' c' :Nat) (l' :aC) (w:O) (h:RB w A n l) (h' :RB w A' n' l'):
 Calls prog 57 #[.slice A n c,.slice A' n' c'] w fun e w' =>e= .returned (.bool (l==l'))/\w=w' :=by
 have h1:=RB.text (c:=c) h;have h2:=RB.text (c:=c') h';clear h h';go_enter func57,ntmps57;go_wp2;go_ret
 exact⟨rfl,rfl⟩
theorem sU {kind:UInt8} {b:aC} (h:ZN kind b=true):Qy b=some kind:=by
 unfold ZN at h;simp only [zM,decide_eq_true_eq]at h;obtain⟨⟨h1,h2⟩,h3⟩:=h;unfold Qy;rw [if_pos (by have:=congrArg (List.take 3) h2;rw [List.take_take]at this;exact this)];have:=congrArg (fun l=>l[3]?) h2;simp only [yy]at this;exact this
theorem I1 (kind:UInt8) (A:aA) (nb c:Nat) (b:aC) (w:O) (hc:nb<=c) (hc2:c<=9223372036854775807) (hl:RB w A nb b) (hs:ZN kind b=false):
 Calls prog 72 #[.int .u8 (kind.toNat:Int),.slice A nb c] w fun e w' =>(∃er,e= .returned (.tuple #[.slice none 0 0,.int .i64 er])/\(nb<=16777216->er=20)/\er≠0)/\Below w.heap.size w w' :=by
 have Hl:=zA hl;have Hs:=zA hs;have Hlen:=zA hl.len;have Hk:=zA (nJ A nb c b w hc hc2 hl);clear hl hs
 by_cases hbig:16777216<nb
 ·have hbig' :(16777216:Int)<nb:=(by omega);clear hbig;go_enter func72,ntmps72;go_wp2;go_ret2;exact⟨⟨3,rfl,by omega⟩,zE _ _⟩
 ·have hbig' :(nb:Int)<=16777216:=(by omega);clear hbig;have hsub:IntKind.i64.wrap ((nb:Int) - 4)=(nb:Int) - 4:=(by rw [zT];omega);cases hk:Qy b with
  |none=>
   have Hk0:=zA (show Calls prog 126 #[.slice A nb c] w fun e w' =>e= .returned (.tuple #[.int .u8 0,.bool false])/\w=w' by have h:=Hk.out;rw [hk]at h;exact h);go_enter func72,ntmps72;go_wp2_with (refine Hk0.out.mono ?_;rintro e w2 ⟨rfl,rfl⟩)
   go_quiet (fail)
   all_goals go_wp2
   all_goals go_ret2
   all_goals exact⟨⟨20,rfl,fun _=>rfl,by decide⟩,zd (zE _ _) _⟩
  |some k=>
   have Hk0:=zA (show Calls prog 126 #[.slice A nb c] w fun e w' =>e= .returned (.tuple #[.int .u8 (k.toNat:Int),.bool true])/\w=w' by have h:=Hk.out;rw [hk]at h;exact h)
   by_cases hkk:k=kind
   ·subst hkk
    by_cases h8:nb<8
    ·have h8' :(nb:Int) - 4<4:=(by omega);have h8b:decide ((nb:Int) - 4<4)=true:=(by simp [h8']);clear h8;obtain⟨k1,hk1⟩:∃k1:Int,(k.toNat:Int)=k1:=⟨_,rfl⟩;rw [hk1]at Hk0⊢;have hkb:(k1==k1)=true:=(by simp);have hkb2:(k1 !=k1)=false:=(by simp);clear hk1 hk;go_enter func72,ntmps72;go_wp2_with (refine Hk0.out.mono ?_;rintro e w2 ⟨rfl,rfl⟩)
     go_quiet (fail)
     all_goals go_wp2
     all_goals go_ret2
     all_goals exact⟨⟨20,rfl,fun _=>rfl,by decide⟩,zd (zE _ _) _⟩
    ·obtain⟨q,hq⟩:∃q:Nat,nb=q+4:=⟨nb - 4,by omega⟩;have hqe:IntKind.i64.wrap ((nb:Int) - 4)=(q:Int):=(by rw [zT];omega);have hq1:(q:Int)<=nb:=(by omega);have hq2:(q:Int)<=c:=(by omega);have hq3:¬((q:Int)<4):=(by omega);have hq3b:decide ((q:Int)<4)=false:=(by simp [hq3]);have hq4:(0:Int)<=q:=(by omega);have hnc:(nb:Int)<=c:=(by omega);have hnq:nb - q=4:=(by omega)
     have Hne:Hid ((b.drop q==Za (sumL [b.take q].flatten))=false):=by
      show _=_;rw [beq_eq_false_iff_ne];intro e
      have h4:b.take 4= [76,84,1,k]:=by
       have h:=hk;unfold Qy at h
       split at h
       ·rename_i h3;rw [zI,h3,h];rfl
       ·cases h
      have h:=Hs.out;unfold ZN at h;rw [Hlen.out,h4,show nb - 4=q by omega,e]at h;simp at h;omega
     have hD:RB w A q (b.take q):=Hl.out.take (by omega);have hT:RB w (if c=q then A else A.map (·.add q)) (nb - q) (b.drop q):=Hl.out.tail hc (by omega);obtain⟨s,hs⟩:=eX (sumL [b.take q].flatten);have hs2:s<4294967296:=(by rw [<-hs];exact eT _);rw [hs]at Hne;have Hq:=zA hq;obtain⟨k1,hk1⟩:∃k1:Int,(k.toNat:Int)=k1:=⟨_,rfl⟩;rw [hk1]at Hk0⊢;have hkb:(k1==k1)=true:=(by simp)
     have hkb2:(k1 !=k1)=false:=(by simp);have h8n:0<nb:=(by omega);clear hk1 hk hsub h8 hq;obtain⟨bk,off,rfl⟩:∃bk off,A=some ⟨bk,off,none⟩:=by obtain⟨bk,off,e,_⟩:=Hl.out.2 h8n;exact⟨bk,off,e⟩
     have HSum:=zA (eS (some ⟨w.heap.size,0,none⟩) 1 1 [b.take q] ((w.alloc (.cells #[.slice (some ⟨bk,off,none⟩) q c] 65)).drew) (by omega) (eW c 65 (hD.on (w' :=w.drew) (zE _ _).drew) (by omega) rfl));rw [hs]at HSum;rw [if_neg (by omega),hnq]at hT;have HT:=zA (show RB w (some ⟨bk,off+q,none⟩) 4 (b.drop q) by simpa [Addr.add,show q≠0 by omega]using hT)
     have HS:=((Sp.start w).al (.cells #[.slice (some ⟨bk,off,none⟩) q c] 65)).drew;clear hD hT hs;go_enter func72,ntmps72;go_wp2_with (refine Hk0.out.mono ?_;rintro e w2 ⟨rfl,rfl⟩)
     go_region_held3 (fun _=>True) (trivial) (first
      |(go_at_call 128;refine HSum.out.mono ?_;rintro e5 w5 ⟨rfl,hb5⟩;have HS5:=HS.grow hb5)
      |(go_at_call 127;refine(eA s w5 hs2).mono ?_;rintro e6 w6 ⟨A4,rfl,hr4,hb6⟩;have HS6:=HS5.grow hb6;have hr5:RB w6 A4 4 (Za s):=hr4.rc;have Heq:=zA (lS (some ⟨bk,off+q,none⟩) 4 (c - q) (b.drop q) A4 4 4 (Za s) w6 (HT.out.on (HS6.below (.head _))) hr5);rw [Hne.out]at Heq)
      |(go_at_call 57;refine Heq.out.mono ?_;rintro e7 w7 ⟨rfl,rfl⟩))
     all_goals go_wp2
     all_goals go_ret2
     all_goals exact⟨⟨20,rfl,fun _=>rfl,by decide⟩,HS6.below (.head _)⟩
   ·have hkn:¬((k.toNat:Int)=(kind.toNat:Int)):=(by intro e;apply hkk;exact UInt8.toNat_inj.1 (by omega));obtain⟨k1,hk1⟩:∃k1:Int,(k.toNat:Int)=k1:=⟨_,rfl⟩;obtain⟨k2,hk2⟩:∃k2:Int,(kind.toNat:Int)=k2:=⟨_,rfl⟩;rw [hk1]at hkn Hk0;rw [hk2]at hkn⊢;have hkb:(k1==k2)=false:=(by simp [hkn]);have hkb2:(k1 !=k2)=true:=(by simp [hkn]);have hkb3:decide (k1=k2)=false:=(by simp [hkn]);clear hk1 hk2 hk
    clear hkk;go_enter func72,ntmps72;go_wp2_with (refine Hk0.out.mono ?_;rintro e w2 ⟨rfl,rfl⟩)
    go_quiet (fail)
    all_goals go_wp2
    all_goals go_ret2
    all_goals exact⟨⟨20,rfl,fun _=>rfl,by decide⟩,zd (zE _ _) _⟩
end Go.Proofs.YtjbhbfaeielbiaaGreatDoor

import Derived.Test.YtjbhbfaeielbiaaGreatDoorPart28
set_option maxRecDepth 100000
set_option maxHeartbeats 8000000
set_option linter.unusedVariables false
set_option linter.unusedSimpArgs false
namespace Go.Proofs.YtjbhbfaeielbiaaGreatDoor
open Tryz
open Rep (rep)
open Go.RowKit
attribute [local go_sem ↓] zU zV
theorem Ut (w:O):Calls prog 211 #[.bool true] w fun e w' =>e= .returned (.tuple #[])/\w' =w:=by
 go_enter func211,ntmps211;go_wp2
 go_end0
 exact⟨rfl,rfl⟩
abbrev O1 (q p dims:Nat) (r:RS) (A:aA) (m c:Nat) (CX:List aF) (PX:List Pt) (L:List Asn):List Asn:=
 RdA p r::BlkA q 340 #[.pointer (some ⟨p,0,none⟩),.int .i64 (dims:Int),.slice A m c]::RowA 232 2 (.slice A m c) m CX.flatten::ElsA CX PX::L
theorem Sp.ptPush {w:O} {L:List Asn} {At:aA} {j ct D:Nat} {pt:Pt} {CXx:List aF} {PXx:List Pt} (h:Sp w (IA At j ct pt.2::ElsA CXx PXx::L)) (hp:∀v∈pt.2, -9223372036854775808<=v/\v<=9223372036854775807) (hD:pt.1=(D:Int)) (hD2:D<=16383):
 Sp w (ElsA (CXx++ [[Value.int .i64 (D:Int),Value.slice At j ct]]) (PXx++ [pt])::L):=by
 have h1:=h.ints hp;have h2:Sp w (RepA [Value.int .i64 (D:Int),Value.slice At j ct] pt::ElsA CXx PXx::L):=h1.mk1 fun S hS=>⟨[_], [_],rfl,⟨by rw [hD],by rw [hD];unfold In64;omega⟩,hS⟩;exact h2.elsPush
theorem DX {w:O} {L:List Asn} {q p dims m c n f:Nat} {A:aA} {CX:List aF} {PX l:List Pt} {pre post:aC} (hP:ZG dims l) (hd0:0<dims) (hd4:dims<=4) (hn:l.length=n) (hn8:n<=8) (hm:m<=1048576)
 (h:Sp w (O1 q p dims (rsAt pre (xS (f+1) dims l++post)) A m c CX PX L)):
 Calls prog 212 #[.pointer (some ⟨q,0,none⟩),.int .i64 (n:Int)] w fun e w' =>∃b A' c' CX',
  e= .returned (.pointer (some ⟨b,0,none⟩))/\Sp w' (O1 q p dims (rsAt (pre++xS (f+1) dims l) post) A' (m+n) c' CX' (PX++allP (f+1) dims l) L):=by
 obtain⟨s,hs⟩:=eX (Zu 0 l);have hform:xS (f+1) dims l= [0]++(zP n++s.flatMap OA):=by unfold xS;rw [if_pos (by rw [hn];exact hn8),hn,hs];rfl
 have hall:allP (f+1) dims l=s:=by unfold allP;rw [if_pos (by rw [hn];exact hn8),hs]
 have HPs:Hid (ZG dims s):=by show ZG dims s;rw [<-hs];exact hP.perm (Yc 0 l)
 have Hls:Hid (s.length=n):=by show _=_;rw [<-hs,UZ,hn]
 rw [hform,hall];rw [hform,zO,zO]at h;have c0:=h.cl M1 0;have HB:=zA (XQ h (z:=1) rfl (by omega));clear hs hform hall hP hn;go_enter func212,ntmps212;go_wp2_with fail;refine HB.out.mono ?_;rintro e w1 ⟨A1,rfl,HS1⟩;obtain⟨g1,rfl, -, -⟩:=(HS1.rowOf M0).at_ (by decide)
 have k0:w1.cell? ⟨g1,0,none⟩=some (.int .u8 0):=HS1.rowCell M0 rfl;have c1:=HS1.cl M2 0;have HS2:=HS1.tail;have HE:=zA (QA HS2);have HG:=zA Ut;have HZ:=ZH HS2 8 (by omega);rw [yn (show n<2^64 by omega) hn8]at HZ;have HZ:=zA HZ;clear h HB HS1 c0
 go_wp2_with (first
  |(go_at_call 79;refine HE.out.mono ?_;rintro e w' ⟨rfl,rfl⟩)
  |(go_at_call 211;refine(HG.out _).mono ?_;rintro e w' ⟨rfl,rfl⟩)
  |(go_at_call 74;refine HZ.out.mono ?_;rintro e w2 ⟨rfl,HS3⟩;obtain⟨Bx,hBx⟩:=eX (w2.heap.size);have HS4:=HS3.blkH 394 #[.slice none 0 0,.int .i64 0,.int .i64 0,.pointer none,.pointer none] hBx;have c2:=HS3.cl M1 0;have HE:=zA (QA HS3)))
 have HS5:=((HS4.nil 232 2).elsNil (α:=Pt)).p2;have HF0:Hid ((pre++ [0]++zP n)++(s.drop 0).flatMap OA=pre++([0]++(zP n++s.flatMap OA))):=by show _=_;simp
 rw [show s.flatMap OA=(s.drop 0).flatMap OA from rfl]at HS5;clear HS2 HS3 HS4 HE HZ k0 c1 c2
 go_loopg [7,52,64] n (fun gk _ vi _ wr=>∃(k:Nat) (Ax:aA) (cx:Nat) (CXx:List aF) (pre' :aC),vi= .int .i64 k/\k<=n/\gk=n - k/\Hid (pre' ++(s.drop k).flatMap OA=pre++([0]++(zP n++s.flatMap OA)))/\Sp wr (BlkA Bx 394 #[.slice Ax k cx,.int .i64 0,.int .i64 0,.pointer none,.pointer none]::ElsA CXx (s.take k)::RowA 232 2 (.slice Ax k cx) k CXx.flatten::O1 q p dims (rsAt pre' ((s.drop k).flatMap OA++post)) A m c CX PX L))
 case atStart=>exact⟨0,none,0, [],_,rfl,zJ _,rfl,HF0,HS5⟩
 case round=>
  obtain⟨k,Ax,cx,CXx,pre',rfl,hk,rfl,HF,HS⟩:=hrel;clear HF0 HS5 hBx
  by_cases hkn:k<n
  ·obtain⟨pt,hpt⟩:∃pt,s[k]? =some pt:=⟨_,zB (by rw [Hls.out];exact hkn)⟩;obtain⟨p1,p2,p3,p4⟩:=HPs.out pt (zD hpt);obtain⟨D,hD⟩:∃D:Nat,pt.1=(D:Int):=⟨pt.1.toNat,by omega⟩;have hD2:D<=16383:=(by omega);have Hpt:=zA hpt;have Hp4:=zA p4;have Hp1:=zA p1;have HD:=zA hD
   have hdr:(s.drop k).flatMap OA++post=zP D++(OM pt.2++((s.drop (k+1)).flatMap OA++post)):=by
    rw [yb hpt,zp,fP,hD];simp
   have HF1:Hid ((pre' ++zP D)++(OM (pt.2.drop 0)++(s.drop (k+1)).flatMap OA)=pre++([0]++(zP n++s.flatMap OA))):=by
    show _=_;rw [<-HF.out,yb hpt,zp,fP,hD];simp
   have c0:=HS.cl M4 0;have HSr:=HS.p3;rw [hdr]at HSr;have HZ:=ZH HSr 16383 (by omega);rw [yn (show D<2^64 by omega) hD2]at HZ;have HZ:=zA HZ;clear HS HSr HF p1 p2 p3 p4 hpt hD hdr
   go_wp2_with (go_at_call 74;refine HZ.out.mono ?_;rintro e w2 ⟨rfl,HS3⟩;obtain⟨Bp,hBp⟩:=eX (w2.heap.size);have HS4:=HS3.blkH 232 #[.int .i64 (D:Int),.slice none 0 0] hBp;have c2:∀o,(w2.alloc o).cell? ⟨q,1,none⟩=some (.int .i64 (dims:Int)):=fun o=>(HS3.al o).cell M4 1);have HS5:=(HS4.nil 2 1).p1;rw [show OM pt.2=OM (pt.2.drop 0)from rfl]at HS5;clear HS3 HS4 c0 c2 HZ hBp
   go_loopg [64] dims (fun gj vj wq=>∃(j:Nat) (At:aA) (ct:Nat) (pre2:aC),vj= .int .i64 j/\j<=dims/\gj=dims - j/\Hid (pre2++(OM (pt.2.drop j)++(s.drop (k+1)).flatMap OA)=pre++([0]++(zP n++s.flatMap OA)))/\Sp wq (BlkA Bp 232 #[.int .i64 (D:Int),.slice At j ct]::IA At j ct (pt.2.take j)::RdA p (rsAt pre2 (OM (pt.2.drop j)++((s.drop (k+1)).flatMap OA++post)))::BlkA Bx 394 #[.slice Ax k cx,.int .i64 0,.int .i64 0,.pointer none,.pointer none]::ElsA CXx (s.take k)::RowA 232 2 (.slice Ax k cx) k CXx.flatten::BlkA q 340 #[.pointer (some ⟨p,0,none⟩),.int .i64 (dims:Int),.slice A m c]::RowA 232 2 (.slice A m c) m CX.flatten::ElsA CX PX::L))
   case atStart=>exact⟨0,none,0,_,rfl,zJ _,rfl,HF1,HS5⟩
   case round=>
    obtain⟨j,At,ct,pre2,rfl,hj,rfl,HF2,HS6⟩:=hrel;clear HS5 HF1
    by_cases hjd:j<dims
    ·obtain⟨x,hx⟩:∃x,pt.2[j]? =some x:=⟨_,zB (by rw [Hp1.out];exact hjd)⟩;have hxr:=Hp4.out x (zD hx)
     have hdr:OM (pt.2.drop j)++((s.drop (k+1)).flatMap OA++post)=zP (yc x)++(OM (pt.2.drop (j+1))++((s.drop (k+1)).flatMap OA++post)):=by
      rw [yb hx];simp [OM]
     have HF3:Hid ((pre2++zP (yc x))++(OM (pt.2.drop (j+1))++(s.drop (k+1)).flatMap OA)=pre++([0]++(zP n++s.flatMap OA))):=by
      show _=_;rw [<-HF2.out,yb hx];simp [OM]
     have Htk:Hid (pt.2.take (j+1)=pt.2.take j++ [x]):=(by show _=_;rw [zI,hx];rfl);have dq:=HS6.cl M6 0;have hne:Bp≠q:=(HS6.p6.ne).symm;have dB:=HS6.cl M0 1;have HSi:=HS6.p2.drew;rw [hdr]at HSi;have HI:=gB HSi;rw [Vm hxr]at HI;have HI:=zA HI;have hcp:=(HS6.ilen M1).2;clear HS6 HSi hdr hx hxr HF2;go_wp2
     go_region_law (first
      |(go_simp;go_at_call 134;refine HI.out.mono ?_;rintro e w6 ⟨rfl,HS7⟩;have q1:=HS7.cl M1 1;have q1a:=(fun o=>(HS7.al o).cell M1 1);have q1c:=(fun o=>(HS7.al o).cell M6 0);have hq6:=HS7.cl M6 0)
      |(refine yz Zs (.tmp 67) (.tmp 73) rfl rfl HS7.p2 rfl (cs:= #[.int .i64 x]) rfl rfl rfl (by intro u hu;simp at hu;subst hu;rfl) (by omega) (by omega) ?_;intro A8 c8 w8 hc8 hm8 HS8;have q2:=HS8.cell M2 1;have qf:=(HS8.blkOf M2).frozen 1;have hq8:=HS8.cl M6 0)
      |fail)
     all_goals
      have HS9:=HS8.p2.set 1 (.slice A8 (j+1) c8);have e:Go.Proofs.YtjbhbfaeielbiaaGreatDoor.ints (pt.2.take (j+1))=Go.Proofs.YtjbhbfaeielbiaaGreatDoor.ints (pt.2.take j)++ #[Value.int .i64 x].toList:=(by rw [Htk.out];simp [Go.Proofs.YtjbhbfaeielbiaaGreatDoor.ints]);unfold IA at HS9;rw [<-e]at HS9;clear HS7 HS8 q1 q1a q1c hq6 q2 qf hq8 dq dB hne HI e;go_wp2
      go_roundg (dims - (j+1))
      ·exact⟨j+1,A8,c8,_,by go_num,by omega,rfl,HF3,HS9⟩
      ·omega
    ·obtain rfl:j=dims:=by omega
     rw [zQ (show pt.2.length<=j by rw [Hp1.out];exact zC _)]at HF2 HS6;rw [zF (show pt.2.length<=j by rw [Hp1.out];exact zC _)]at HS6
     have HF3:Hid (pre2++(s.drop (k+1)).flatMap OA=pre++([0]++(zP n++s.flatMap OA))):=by
      show _=_;rw [<-HF2.out];simp [OM]
     have HS7:Sp wr (RdA p (rsAt pre2 ((s.drop (k+1)).flatMap OA++post))::_):=HS6.p2;have HE:=zA (QA HS7);have dq:=HS7.cl M6 0;have d0:=HS7.cl M1 0;have d1:=HS7.cl M1 1;have hx0:=HS7.cl M3 0;have HSx:=HS7.p5.drew;have hX0:=HSx.rowOf M0;have hXl:∀o,(wr.alloc o).cell? ⟨Bx,0,none⟩=some (.slice Ax k cx):=fun o=>(HS7.al o).cell M3 0;have hcpx:=(hX0.cap).2;clear HS6 HF2 HS7 hX0
     go_wp2_with (first
      |(go_at_call 79;refine HE.out.mono ?_;rintro e w' ⟨rfl,rfl⟩)
      |(go_at_call 211;refine(HG.out _).mono ?_;rintro e w' ⟨rfl,rfl⟩))
     go_region_law (refine yz Ws (.tmp 88) (.tmp 90) rfl rfl HSx rfl (cs:= #[.int .i64 (D:Int),.slice At j ct]) rfl rfl rfl (by intro u hu;simp at hu;rcases hu with rfl|rfl<;>rfl) (by omega) (by omega) ?_;intro A8 c8 w8 hc8 hm8 HS8;have q2:=HS8.cl M4 0;have qf:=(HS8.blkOf M4).frozen 0)
     all_goals
      have HS9:=((HS8.p4.set 0 (.slice A8 (k+1) c8)).p5.p5.ptPush Hp4.out HD.out hD2).p4.tail.p1;have e1:s.take (k+1)=s.take k++ [pt]:=(by rw [zI,Hpt.out];rfl);have e2:CXx.flatten++ #[Value.int .i64 (D:Int),Value.slice At j ct].toList=(CXx++ [[Value.int .i64 (D:Int),Value.slice At j ct]]).flatten:=(by simp);rw [<-e1,e2]at HS9;clear HS8 q2 qf HSx hXl hx0 d0 d1 dq HE e1 e2;go_wp2
      go_roundg (n - (k+1))
      ·exact⟨k+1,A8,c8,_,pre2,by go_num,by omega,rfl,HF3,HS9⟩
      ·omega
  ·obtain rfl:k=n:=by omega
   rw [zQ (show s.length<=k by rw [Hls.out];exact zC _)]at HF HS;rw [zF (show s.length<=k by rw [Hls.out];exact zC _)]at HS;have HF3:Hid (pre' =pre++([0]++(zP k++s.flatMap OA))):=(by show _=_;rw [<-HF.out];simp);have d2:=HS.cl M4 2;have hx0:=HS.cl M0 0;have hne:q≠Bx:=(HS.p4.ne);have HSx:=HS.p5.drew;have Hr:=zA (HSx.rc M3).reads;have Ho:=zA (HSx.elsOne M2);clear HS HF;go_wp2
   go_region_law (refine XT Ws (.tmp 99) (.tmp 103) rfl rfl HSx rfl rfl Hr.out Ho.out (by omega) (by omega) ?_;intro A8 c8 w8 hc8 hm8 HS8;have q2:=HS8.cl M5 2;have qf:=(HS8.blkOf M5).frozen 2)
   all_goals
    have HS9:=(HS8.p5.set 2 (.slice A8 (m+k) c8)).p6.p4.p1.elsJoin;rw [<-yf]at HS9;have HS10:=Sp.selT [_,_,_,_,_,_] HS9 [5,1,2,0];clear HS8 HS9 q2 qf HSx d2 hx0 hne;go_wp2;go_ret
    rw [HF3.out]at HS10;exact⟨Bx,A8,c8,_,rfl,HS10⟩
end Go.Proofs.YtjbhbfaeielbiaaGreatDoor

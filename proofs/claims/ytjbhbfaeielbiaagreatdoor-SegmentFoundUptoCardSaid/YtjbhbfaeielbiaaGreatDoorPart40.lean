import Derived.Test.YtjbhbfaeielbiaaGreatDoorPart35
set_option maxRecDepth 100000
set_option maxHeartbeats 8000000
set_option linter.unusedVariables false
set_option linter.unusedSimpArgs false
namespace Go.Proofs.YtjbhbfaeielbiaaGreatDoor
open Go.Proofs.Tryz
open Rep (rep)
open Go.RowKit
attribute [local go_sem ↓] zU zV
theorem Ut (w:O):Calls prog 211 #[.bool true] w fun e w' =>e= .returned (.tuple #[])/\w' =w:=by
 go_enter func211,ntmps211;go_wp2
 go_end0
 exact⟨rfl,rfl⟩
abbrev O1 (q p a:Nat) (r:RS) (A:aA) (m c:Nat) (b:List aF) (d:List Pt) (L:List Asn):List Asn:=
 RdA p r::BlkA q 340 #[.pointer (some ⟨p,0,none⟩),.int .i64 (a:Int),.slice A m c]::RowA 232 2 (.slice A m c) m b.flatten::ElsA b d::L
theorem Sp.ptPush {w:O} {L:List Asn} {d:aA} {j e D:Nat} {c:Pt} {a:List aF} {b:List Pt} (h:Sp w (IA d j e c.2::ElsA a b::L)) (m:∀v∈c.2, -9223372036854775808<=v/\v<=9223372036854775807) (f:c.1=(D:Int)) (k:D<=16383):
 Sp w (ElsA (a++ [[Value.int .i64 (D:Int),Value.slice d j e]]) (b++ [c])::L):=by
 have g:=h.ints m;have i:Sp w (RepA [Value.int .i64 (D:Int),Value.slice d j e] c::ElsA a b::L):=g.mk1 fun S l=>⟨[_], [_],rfl,⟨by rw [f],by rw [f];unfold In64;omega⟩,l⟩;exact i.elsPush
theorem DX {w:O} {L:List Asn} {q p a m c n f:Nat} {A:aA} {CX:List aF} {PX l:List Pt} {pre post:aC} (hP:ZG a l) (h8:0<a) (h9:a<=4) (hn:l.length=n) (ha:n<=8) (hm:m<=1048576)
 (h:Sp w (O1 q p a (rsAt pre (xS (f+1) a l++post)) A m c CX PX L)):
 Calls prog 212 #[.pointer (some ⟨q,0,none⟩),.int .i64 (n:Int)] w fun e w' =>∃b A' c' ht,
  e= .returned (.pointer (some ⟨b,0,none⟩))/\Sp w' (O1 q p a (rsAt (pre++xS (f+1) a l) post) A' (m+n) c' ht (PX++allP (f+1) a l) L):=by
 obtain⟨s,hs⟩:=eX (Zu 0 l);have F:xS (f+1) a l= [0]++(zP n++s.flatMap OA):=by unfold xS;rw [if_pos (by rw [hn];exact ha),hn,hs];rfl
 have T:allP (f+1) a l=s:=by unfold allP;rw [if_pos (by rw [hn];exact ha),hs]
 have hv:Hid (ZG a s):=by show ZG a s;rw [<-hs];exact hP.perm (Yc 0 l)
 have Y:Hid (s.length=n):=by show _=_;rw [<-hs,UZ,hn]
 rw [F,T];rw [F,zO,zO]at h;have c0:=h.cl M1 0;have HB:=zA (XQ h (z:=1) rfl (by omega));clear hs F T hP hn;go_enter func212,ntmps212;go_wp2_with fail;refine HB.o.mono ?_;rintro e w1 ⟨A1,rfl,I⟩;obtain⟨g1,rfl, -, -⟩:=(I.rowOf M0).at_ (by decide)
 have k0:w1.cell? ⟨g1,0,none⟩=some (.int .u8 0):=I.rowCell M0 rfl;have c1:=I.cl M2 0;have U:=I.tail;have HE:=zA (QA U);have HG:=zA Ut;have K:=ZH U 8 (by omega);rw [yn (show n<2^64 by omega) ha]at K;have K:=zA K;clear h HB I c0
 go_wp2_with (first
  |(go_at_call 79;refine HE.o.mono ?_;rintro e w' ⟨rfl,rfl⟩)
  |(go_at_call 211;refine(HG.o _).mono ?_;rintro e w' ⟨rfl,rfl⟩)
  |(go_at_call 74;refine K.o.mono ?_;rintro e w2 ⟨rfl,v⟩;obtain⟨Bx,hh⟩:=eX (w2.heap.size);have J:=v.blkH 394 #[.slice none 0 0,.int .i64 0,.int .i64 0,.pointer none,.pointer none] hh;have c2:=v.cl M1 0;have HE:=zA (QA v)))
 have E:=((J.nil 232 2).elsNil (α:=Pt)).p2;have hd:Hid ((pre++ [0]++zP n)++(s.drop 0).flatMap OA=pre++([0]++(zP n++s.flatMap OA))):=by show _=_;simp
 rw [show s.flatMap OA=(s.drop 0).flatMap OA from rfl]at E;clear U v J HE K k0 c1 c2
 go_loopg [7,52,64] n (fun gk _ vi _ wr=>∃(k:Nat) (Ax:aA) (cx:Nat) (C:List aF) (B :aC),vi= .int .i64 k/\k<=n/\gk=n - k/\Hid (B ++(s.drop k).flatMap OA=pre++([0]++(zP n++s.flatMap OA)))/\Sp wr (BlkA Bx 394 #[.slice Ax k cx,.int .i64 0,.int .i64 0,.pointer none,.pointer none]::ElsA C (s.take k)::RowA 232 2 (.slice Ax k cx) k C.flatten::O1 q p a (rsAt B ((s.drop k).flatMap OA++post)) A m c CX PX L))
 case atStart=>exact⟨0,none,0, [],_,rfl,zJ _,rfl,hd,E⟩
 case round=>
  obtain⟨k,Ax,cx,C,B,rfl,hk,rfl,HF,P⟩:=hrel;clear hd E hh
  by_cases h1:k<n
  ·obtain⟨i,N⟩:∃i,s[k]? =some i:=⟨_,zB (by rw [Y.o];exact h1)⟩;obtain⟨p1,p2,p3,p4⟩:=hv.o i (zD N);obtain⟨D,hD⟩:∃D:Nat,i.1=(D:Int):=⟨i.1.toNat,by omega⟩;have hi:D<=16383:=(by omega);have hw:=zA N;have hf:=zA p4;have Z:=zA p1;have HD:=zA hD
   have M:(s.drop k).flatMap OA++post=zP D++(OM i.2++((s.drop (k+1)).flatMap OA++post)):=by
    rw [yb N,zp,fP,hD];simp
   have he:Hid ((B ++zP D)++(OM (i.2.drop 0)++(s.drop (k+1)).flatMap OA)=pre++([0]++(zP n++s.flatMap OA))):=by
    show _=_;rw [<-HF.o,yb N,zp,fP,hD];simp
   have c0:=P.cl M4 0;have X:=P.p3;rw [M]at X;have K:=ZH X 16383 (by omega);rw [yn (show D<2^64 by omega) hi]at K;have K:=zA K;clear P X HF p1 p2 p3 p4 N hD M
   go_wp2_with (go_at_call 74;refine K.o.mono ?_;rintro e w2 ⟨rfl,v⟩;obtain⟨Bp,hg⟩:=eX (w2.heap.size);have J:=v.blkH 232 #[.int .i64 (D:Int),.slice none 0 0] hg;have c2:∀o,(w2.alloc o).cell? ⟨q,1,none⟩=some (.int .i64 (a:Int)):=fun o=>(v.al o).cell M4 1);have E:=(J.nil 2 1).p1;rw [show OM i.2=OM (i.2.drop 0)from rfl]at E;clear v J c0 c2 K hg
   go_loopg [64] a (fun gj vj wq=>∃(j:Nat) (At:aA) (ct:Nat) (pre2:aC),vj= .int .i64 j/\j<=a/\gj=a - j/\Hid (pre2++(OM (i.2.drop j)++(s.drop (k+1)).flatMap OA)=pre++([0]++(zP n++s.flatMap OA)))/\Sp wq (BlkA Bp 232 #[.int .i64 (D:Int),.slice At j ct]::IA At j ct (i.2.take j)::RdA p (rsAt pre2 (OM (i.2.drop j)++((s.drop (k+1)).flatMap OA++post)))::BlkA Bx 394 #[.slice Ax k cx,.int .i64 0,.int .i64 0,.pointer none,.pointer none]::ElsA C (s.take k)::RowA 232 2 (.slice Ax k cx) k C.flatten::BlkA q 340 #[.pointer (some ⟨p,0,none⟩),.int .i64 (a:Int),.slice A m c]::RowA 232 2 (.slice A m c) m CX.flatten::ElsA CX PX::L))
   case atStart=>exact⟨0,none,0,_,rfl,zJ _,rfl,he,E⟩
   case round=>
    obtain⟨j,At,ct,pre2,rfl,hj,rfl,G,r⟩:=hrel;clear E he
    by_cases h0:j<a
    ·obtain⟨x,hx⟩:∃x,i.2[j]? =some x:=⟨_,zB (by rw [Z.o];exact h0)⟩;have hr:=hf.o x (zD hx)
     have M:OM (i.2.drop j)++((s.drop (k+1)).flatMap OA++post)=zP (yc x)++(OM (i.2.drop (j+1))++((s.drop (k+1)).flatMap OA++post)):=by
      rw [yb hx];simp [OM]
     have H:Hid ((pre2++zP (yc x))++(OM (i.2.drop (j+1))++(s.drop (k+1)).flatMap OA)=pre++([0]++(zP n++s.flatMap OA))):=by
      show _=_;rw [<-G.o,yb hx];simp [OM]
     have hy:Hid (i.2.take (j+1)=i.2.take j++ [x]):=(by show _=_;rw [zI,hx];rfl);have dq:=r.cl M6 0;have hb:Bp≠q:=(r.p6.ne).symm;have dB:=r.cl M0 1;have W:=r.p2.drew;rw [M]at W;have HI:=gB W;rw [Vm hr]at HI;have HI:=zA HI;have h7:=(r.ilen M1).2;clear r W M hx hr G;go_wp2
     go_region_law (first
      |(go_simp;go_at_call 134;refine HI.o.mono ?_;rintro e w6 ⟨rfl,d⟩;have q1:=d.cl M1 1;have h4:=(fun o=>(d.al o).cell M1 1);have h5:=(fun o=>(d.al o).cell M6 0);have h2:=d.cl M6 0)
      |(refine yz Zs (.tmp 67) (.tmp 73) rfl rfl d.p2 rfl (cs:= #[.int .i64 x]) rfl rfl rfl (by intro u hu;simp at hu;subst hu;rfl) (by omega) (by omega) ?_;intro Q S w8 ho hp g;have q2:=g.cell M2 1;have qf:=(g.blkOf M2).frozen 1;have h3:=g.cl M6 0)
      |fail)
     all_goals
      have t:=g.p2.set 1 (.slice Q (j+1) S);have e:Go.Proofs.YtjbhbfaeielbiaaGreatDoor.ints (i.2.take (j+1))=Go.Proofs.YtjbhbfaeielbiaaGreatDoor.ints (i.2.take j)++ #[Value.int .i64 x].toList:=(by rw [hy.o];simp [Go.Proofs.YtjbhbfaeielbiaaGreatDoor.ints]);unfold IA at t;rw [<-e]at t;clear d g q1 h4 h5 h2 q2 qf h3 dq dB hb HI e;go_wp2
      go_roundg (a - (j+1))
      ·exact⟨j+1,Q,S,_,by go_num,by omega,rfl,H,t⟩
      ·omega
    ·obtain rfl:j=a:=by omega
     rw [zQ (show i.2.length<=j by rw [Z.o];exact zC _)]at G r;rw [zF (show i.2.length<=j by rw [Z.o];exact zC _)]at r
     have H:Hid (pre2++(s.drop (k+1)).flatMap OA=pre++([0]++(zP n++s.flatMap OA))):=by
      show _=_;rw [<-G.o];simp [OM]
     have d:Sp wr (RdA p (rsAt pre2 ((s.drop (k+1)).flatMap OA++post))::_):=r.p2;have HE:=zA (QA d);have dq:=d.cl M6 0;have d0:=d.cl M1 0;have d1:=d.cl M1 1;have hc:=d.cl M3 0;have y:=d.p5.drew;have hl:=y.rowOf M0;have hz:∀o,(wr.alloc o).cell? ⟨Bx,0,none⟩=some (.slice Ax k cx):=fun o=>(d.al o).cell M3 0;have h6:=(hl.cap).2;clear r G d hl
     go_wp2_with (first
      |(go_at_call 79;refine HE.o.mono ?_;rintro e w' ⟨rfl,rfl⟩)
      |(go_at_call 211;refine(HG.o _).mono ?_;rintro e w' ⟨rfl,rfl⟩))
     go_region_law (refine yz Ws (.tmp 88) (.tmp 90) rfl rfl y rfl (cs:= #[.int .i64 (D:Int),.slice At j ct]) rfl rfl rfl (by intro u hu;simp at hu;rcases hu with rfl|rfl<;>rfl) (by omega) (by omega) ?_;intro Q S w8 ho hp g;have q2:=g.cl M4 0;have qf:=(g.blkOf M4).frozen 0)
     all_goals
      have t:=((g.p4.set 0 (.slice Q (k+1) S)).p5.p5.ptPush hf.o HD.o hi).p4.tail.p1;have e1:s.take (k+1)=s.take k++ [i]:=(by rw [zI,hw.o];rfl);have e2:C.flatten++ #[Value.int .i64 (D:Int),Value.slice At j ct].toList=(C++ [[Value.int .i64 (D:Int),Value.slice At j ct]]).flatten:=(by simp);rw [<-e1,e2]at t;clear g q2 qf y hz hc d0 d1 dq HE e1 e2;go_wp2
      go_roundg (n - (k+1))
      ·exact⟨k+1,Q,S,_,pre2,by go_num,by omega,rfl,H,t⟩
      ·omega
  ·obtain rfl:k=n:=by omega
   rw [zQ (show s.length<=k by rw [Y.o];exact zC _)]at HF P;rw [zF (show s.length<=k by rw [Y.o];exact zC _)]at P;have H:Hid (B =pre++([0]++(zP k++s.flatMap OA))):=(by show _=_;rw [<-HF.o];simp);have d2:=P.cl M4 2;have hc:=P.cl M0 0;have hb:q≠Bx:=(P.p4.ne);have y:=P.p5.drew;have Hr:=zA (y.rc M3).reads;have Ho:=zA (y.elsOne M2);clear P HF;go_wp2
   go_region_law (refine XT Ws (.tmp 99) (.tmp 103) rfl rfl y rfl rfl Hr.o Ho.o (by omega) (by omega) ?_;intro Q S w8 ho hp g;have q2:=g.cl M5 2;have qf:=(g.blkOf M5).frozen 2)
   all_goals
    have t:=(g.p5.set 2 (.slice Q (m+k) S)).p6.p4.p1.elsJoin;rw [<-yf]at t;have R:=Sp.selT [_,_,_,_,_,_] t [5,1,2,0];clear g t q2 qf y d2 hc hb;go_wp2;go_ret
    rw [H.o]at R;exact⟨Bx,Q,S,_,rfl,R⟩
end Go.Proofs.YtjbhbfaeielbiaaGreatDoor

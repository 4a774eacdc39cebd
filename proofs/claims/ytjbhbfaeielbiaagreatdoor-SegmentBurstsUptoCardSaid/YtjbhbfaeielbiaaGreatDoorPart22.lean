import Derived.Test.YtjbhbfaeielbiaaGreatDoorPart17
import Derived.Test.YtjbhbfaeielbiaaGreatDoorPart21
set_option maxRecDepth 100000
set_option maxHeartbeats 8000000
set_option linter.unusedVariables false
set_option linter.unusedSimpArgs false
namespace Go.Proofs.YtjbhbfaeielbiaaGreatDoor
open Tryz
open Rep (rep)
open Go.RowKit
attribute [local go_sem ↓] zU zV
section
variable {w w0:O} {B0:Nat} {L:List Asn} {CA:List aF} {PA:List Pt}
def OM (l:aD):aC:=l.flatMap fun v=>zP (yc v)
theorem fP (p:Pt):OA p=zP p.1.toNat++OM p.2:=rfl
theorem Sp.atOf {ix n c:Nat} {A:aA} {d:Int} (h:Sp w L) (he:OD B0 w0 CA PA∈L) (h0:0<CA.length) (hE:Hid (encA CA ix= [.int .i64 d,.slice A n c])):zL w (·<w.heap.size) A n c (ptA PA ix).2:=by
 obtain⟨A',n',c',e, -,h2⟩:=Pt.at_ (h.encRep he h0 ix)
 rw [hE.out]at e;cases e;exact h2
theorem Sp.encOf (h:Sp w L) (he:OD B0 w0 CA PA∈L) (h0:0<CA.length) (ix:Nat):∃A n c,Hid (encA CA ix= [.int .i64 (ptA PA ix).1,.slice A n c]):=by
 obtain⟨A',n',c',e, -,h2⟩:=Pt.at_ (h.encRep he h0 ix)
 exact⟨A',n',c',e⟩
theorem Sp.cellsOf {g N c o k ix n1 c1:Nat} {pre post:aF} {is:aE} {A1:aA} {d:Int} (h:Sp w L) (hm:PtsA CA g N c pre is post∈L) (he:OD B0 w0 CA PA∈L) (h0:0<CA.length) (ho:pre.length=o) (hk:is[k]? =some ix) (hE:Hid (encA CA ix= [.int .i64 d,.slice A1 n1 c1])):
 w.cell? ⟨g,o+k*2,none⟩=some (.int .i64 d)/\w.cell? ⟨g,o+k*2+1,none⟩=some (.slice A1 n1 c1):=by
 have hk2:∀i,(encA CA i).length=2:=fun i=>Rep.len (h.encRep he h0 i)
 have hget:∀j,j<2->(pre++is.flatMap (encA CA)++post)[o+k*2+j]? =(encA CA ix)[j]? :=by
  intro j hj;have hkl:=zN hk;have hl:k*2+j<(is.flatMap (encA CA)).length:=(by rw [VZ hk2];omega);rw [zO,zR (by omega),z9 (by omega),show o+k*2+j - pre.length=k*2+j by omega,List.flatMap_def];exact xX (size:=2) _ k j _ (by simpa using fun a _=>hk2 a) (by rw [zH,hk];rfl) hj
 exact⟨h.rowCell hm (by have:=hget 0 (by omega);rw [hE.out]at this;simpa using this),h.rowCell hm (by have:=hget 1 (by omega);rw [hE.out]at this;simpa using this)⟩
theorem E6 {N c g n cap dims o f:Nat} {pre post:aF} {is:aE} (h0:0<CA.length) (hP:ZG dims PA)
 (h:Sp w (PtsA CA g N c pre is post::OD B0 w0 CA PA::L)) (hn:is.length=n) (hn1:0<n) (hn8:n<=8) (hd0:0<dims) (hd4:dims<=4) (ho:pre.length=o):
 Calls prog 223 #[.int .i64 (dims:Int),.slice (some ⟨g,o,none⟩) n cap] w fun e w' =>∃A m c' is',
  e= .returned (.slice A m c')/\m+31<=112*n/\is'.length=n/\Sp w' (BA A m c' (xS (f+1) dims (is.map (ptA PA)))::PtsA CA g N c pre is' post::OD B0 w0 CA PA::L):=by
 have Hn:=zA hn;have HP:=zA hP;have Ho:=zA ho
 have Hform:Hid (xS (f+1) dims (is.map (ptA PA))=(0::zP n)++(Zu 0 (is.map (ptA PA))).flatMap OA):=by
  show _=_;unfold xS;rw [if_pos (by simpa [hn]using hn8)];simp [hn]
 obtain⟨q,hq⟩:=eX (w.heap.size);have h1:=(h.blkH 3 #[.int .i64 ((0:Nat):Int)] hq).p1;have hP2:∀p∈PA,p.2.length=dims:=fun p hp=>(hP p hp).1;have HO:=zA (lF 0 w);rw [hq]at HO;have HSo:=zA (mG (cap:=cap) (d:=0) h0 hd0 hP2 h1 hn (by omega));rw [ho]at HSo;clear hn hP h ho h1 hP2;go_enter func223,ntmps223
 go_wp2_with (first
  |(go_at_call 275;refine HO.out.mono ?_;rintro e w' ⟨rfl,rfl⟩)
  |(go_at_call 274;refine HSo.out.mono ?_;rintro e w1 ⟨rfl,is1,hl1,hs1,HS1⟩))
 obtain⟨H1,hH1⟩:=eX (w1.heap.size)
 have HS2:Sp (w1.alloc (.cells #[.int .u8 0] 5)) (BA (some ⟨H1,0,none⟩) 1 1 [0]::PtsA CA g N c pre is1 post::OD B0 w0 CA PA::L):=by
  rw [<-hH1];exact HS1.lit #[.int .u8 0] 5 1 1 rfl (by decide)
 have HP1:=zA (ZR (c:=0) HS2 (RB.none_ _) (by omega) (x:=n) (by omega));have Hs1:=zA hs1;have Hl1:=zA hl1;clear HS1 HO HSo hs1 hl1 hq
 go_wp2_with (first
  |(go_at_call 85;refine HP1.out.mono ?_;rintro e w2 ⟨A2,m2,rfl,hm2,HS3⟩;have Hr:=zA (HS3.rb M0).1.reads;have HS3:=HS3.p1)
  |(at_builtin;refine yR yW (.tmp 21) (.tmp 25) rfl rfl HS3 rfl rfl Hr.out (xd _) (by omega) (by omega) ?_;intro A3 c3 w3 hc3 hm3 HS4))
 have HS5:Sp w3 (BA A3 (1+m2) c3 (0::zP n)::PtsA CA g N c pre is1 post::OD B0 w0 CA PA::L):=by
  have h:=HS4.d1;rw [<-y9]at h
  simpa using h
 clear HS2 HS3 HS4 HP1 Hr hH1;obtain⟨l1,hl1⟩:=eX (is1.map (ptA PA));have HL1:=zA hl1;have Hlen1:Hid (l1.length=n):=by show _=_;rw [<-hl1,zK,Hl1.out]
 have HF0:Hid (xS (f+1) dims (is.map (ptA PA))=(0::zP n)++(l1.drop 0).flatMap OA):=by show _=_;rw [Hform.out,<-Hs1.out,hl1];rfl
 clear hl1 Hform Hs1
 go_loopg [5,7,9,29,42] n (fun gk v5 _ _ vi _ wr=>∃(k:Nat) (A5:aA) (m5 c5:Nat) (bs:aC),vi= .int .i64 k/\k<=n/\gk=n - k/\v5= .slice A5 m5 c5/\m5<=11+50*k/\Hid (xS (f+1) dims (is.map (ptA PA))=bs++(l1.drop k).flatMap OA)/\Sp wr (BA A5 m5 c5 bs::PtsA CA g N c pre is1 post::OD B0 w0 CA PA::L))
 case atStart=>exact⟨0,A3,_,c3,_,rfl,zJ _,rfl,rfl,by omega,HF0,HS5⟩
 case round=>
  obtain⟨k,A5,m5,c5,bs,rfl,hk,rfl,rfl,hm5,HF,HS⟩:=hrel;clear HS5 HF0
  by_cases hkn:k<n
  ·obtain⟨ix,hix⟩:∃ix,is1[k]? =some ix:=⟨_,zB (by rw [Hl1.out];exact hkn)⟩;obtain⟨A1,n1,c1,HE⟩:=HS.encOf M2 h0 ix;have hpin:=HP.out _ (Vp (HS.elsLen M2) h0 ix);have hnd:n1=dims:=(by rw [<-(HS.atOf M2 h0 HE).length];exact hpin.1);subst hnd;obtain⟨D,hD⟩:∃D:Nat,(ptA PA ix).1=(D:Int):=⟨(ptA PA ix).1.toNat,by omega⟩;have hD2:D<16384:=(by have:=hpin.2.2.1;omega);have HR:=zA hpin.2.2.2
   have HDr:Hid ((l1.drop k).flatMap OA=(zP D++OM (ptA PA ix).2)++(l1.drop (k+1)).flatMap OA):=by
    have e:l1[k]? =some (ptA PA ix):=(by rw [<-HL1.out,zH,hix];rfl);show _=_;rw [yb e,zp,fP,hD];simp
   rw [hD]at HE;obtain⟨f0,f1⟩:=HS.cellsOf M1 M2 h0 Ho.out hix HE;have hwr:IntKind.u64.wrap (D:Int)=(D:Int):=(by rw [zW];omega);obtain⟨H,hH⟩:=eX (wr.heap.size);have HSb:=(HS.blkH 232 #[.int .i64 (D:Int),.slice A1 n1 c1] hH);have HP1:=zA (ZR (c:=0) HSb (RB.none_ _) (by omega) (x:=D) (by omega));have HSb2:=zA HSb;clear HS hpin hD hix;go_wp2_with fail;refine HP1.out.mono ?_
   rintro e w2 ⟨A2,m2,rfl,hm2,HS3⟩;have Hr:=zA (HS3.rb M0).1.reads;have HS3' :=HS3.p2;have q1:=HS3.cell M1 1;go_wp2_with (at_builtin;refine yR yW (.tmp 33) (.tmp 37) rfl rfl HS3' rfl rfl Hr.out (xd _) (by omega) (by omega) ?_;intro A6 c6 w3 hc6 hm6 HS4;have q2:=HS4.cl M2 1)
   have HS5:Sp w3 (BA A6 (m5+m2) c6 (bs++zP D)::PtsA CA g N c pre is1 post::OD B0 w0 CA PA::L):=by
    have h:=HS4.d1.d1;rw [<-y9]at h
    simpa using h
   have HF1:Hid (xS (f+1) n1 (is.map (ptA PA))=(bs++zP D)++(OM ((ptA PA ix).2.drop 0)++(l1.drop (k+1)).flatMap OA)):=by
    show _=_;rw [HF.out,HDr.out];simp
   clear HS3 HS3' HS4 HSb HSb2 HP1 Hr HF HDr q1 q2 f0 f1 hH
   go_loopg [5,9,42] n1 (fun gj v5 _ vj wq=>∃(j:Nat) (A5:aA) (m c5:Nat) (bs:aC),vj= .int .i64 j/\j<=n1/\gj=n1 - j/\v5= .slice A5 m c5/\m<=m5+m2+10*j/\Hid (xS (f+1) n1 (is.map (ptA PA))=bs++(OM ((ptA PA ix).2.drop j)++(l1.drop (k+1)).flatMap OA))/\Sp wq (BA A5 m c5 bs::PtsA CA g N c pre is1 post::OD B0 w0 CA PA::L))
   case atStart=>exact⟨0,A6,_,c6,_,rfl,zJ _,rfl,rfl,by omega,HF1,HS5⟩
   case round=>
    obtain⟨j,A7,m7,c7,bs2,rfl,hj,rfl,rfl,hm7,HF2,HS6⟩:=hrel;clear HF1 HS5
    by_cases hjn:j<n1
    ·obtain⟨b1,o1,x,rfl,Hx,hb1,hcx⟩:=(HS6.atOf M2 h0 HE).at_ hjn
     have hx:=HR.out x (zD Hx.out);have hx1:=hx.1;have hx2:=hx.2;have hcx:=hcx.int.1;have HP2:=zA (pInt (c:=0) HS6 (RB.none_ _) (by omega) hx)
     have HF3:Hid (xS (f+1) n1 (is.map (ptA PA))=(bs2++zP (yc x))++(OM ((ptA PA ix).2.drop (j+1))++(l1.drop (k+1)).flatMap OA)):=by
      show _=_;rw [HF2.out,yb Hx.out];simp [OM]
     clear HF2 Hx hx
     go_wp2_with (first
      |(go_at_call 161;refine HP2.out.mono ?_;rintro e w4 ⟨A8,m8,rfl,hm8,HS7⟩;have Hr:=zA (HS7.rb M0).1.reads;have HS7:=HS7.p1)
      |(at_builtin;refine yR yW (.tmp 46) (.tmp 48) rfl rfl HS7 rfl rfl Hr.out (xd _) (by omega) (by omega) ?_;intro A9 c9 w5 hc9 hm9 HS8))
     have HS9:Sp w5 (BA A9 (m7+m8) c9 (bs2++zP (yc x))::PtsA CA g N c pre is1 post::OD B0 w0 CA PA::L):=by
      have h:=HS8.d1;rw [<-y9]at h
      simpa using h
     go_roundg (n1 - (j+1))
     ·exact⟨j+1,A9,_,c9,_,by go_num,by omega,rfl,rfl,by omega,HF3,HS9⟩
     ·omega
    ·obtain rfl:j=n1:=by omega
     have HF3:Hid (xS (f+1) j (is.map (ptA PA))=bs2++(l1.drop (k+1)).flatMap OA):=by
      show _=_;rw [HF2.out,zQ (by rw [(HS6.atOf M2 h0 HE).length];exact zC _)];simp [OM]
     clear HF2;go_wp2
     go_roundg (n - (k+1))
     ·exact⟨k+1,A7,_,c7,_,by go_num,by omega,rfl,rfl,by omega,HF3,HS6⟩
     ·omega
  ·obtain rfl:k=n:=by omega
   have HF3:Hid (xS (f+1) dims (is.map (ptA PA))=bs):=by
    show _=_;rw [HF.out,zQ (by rw [Hlen1.out];exact zC _)];simp
   clear HF;go_wp2;go_ret
   refine⟨A5,m5,c5,is1,rfl,by omega,Hl1.out,?_⟩;rw [HF3.out];exact HS
end
section
variable {w0:O} {B0:Nat} {CA:List aF} {PA:List Pt}
theorem nN {n nn:Nat} (h:(n+1) / 2=nn) (hn:n<1000000000):IntKind.i64.wrap (Int.tdiv (IntKind.i64.wrap ((n:Int)+1)) 2)=(nn:Int)/\Int.tdiv ((n:Int)+1) 2=(nn:Int):=by
 have e1:IntKind.i64.wrap ((n:Int)+1)=((n+1:Nat):Int):=by rw [zT];omega
 have e2:Int.tdiv ((n+1:Nat):Int) 2=(nn:Int):=by rw [<-h];rfl
 refine⟨?_,e2⟩;rw [e1,e2,zT];omega
theorem jS {f dims n:Nat} {l s:List Pt} {d nn:Nat} {x:Int} (hl:l.length=n) (h8:¬n<=8) (hd:(xF l dims).1=d) (hs:s=Zu d l) (hnn:(n+1) / 2=nn) (hx:s[nn]?.map (Pt.x d)=some x):
 xS (f+1) dims l=([1]++zP d++zP (yc x))++zP (xS f dims (s.take nn)).length++xS f dims (s.take nn)++xS f dims (s.drop nn):=by
 subst hs hd;rw [xS,if_neg (by rw [hl];exact h8),hl,hnn];simp only [hx];simp
theorem L4 (g o n cap nn:Nat) (h:nn<n) (hc:n<=cap) (hm:cap<=9223372036854775807):
 (∀W:O,(Instr.slice 148 (.slice (some ⟨g,o,none⟩) n cap) none (some (.int .i64 (nn:Int))) none).run prog W= .ok (.slice (some ⟨g,o,none⟩) nn cap) W)/\
 (∀W:O,(Instr.slice 148 (.slice (some ⟨g,o,none⟩) n cap) (some (.int .i64 (nn:Int))) none none).run prog W= .ok (.slice (some ⟨g,o+nn*2,none⟩) (n - nn) (cap - nn)) W):=by
 have h1:nn<=cap:=by omega
 have h2:nn<=n:=by omega
 have h3:¬cap=nn:=by omega
 constructor<;>intro W<;>simp [Instr.slice,Instr.sliceBounds,go_sem,Addr.add, *]
theorem l7 (h0:0<CA.length) {dims:Nat} (hP:ZG dims PA) (hd0:0<dims) (hd4:dims<=4):∀(f:Nat) (w:O) (L:List Asn) (N c g n cap o:Nat) (pre post:aF) (is:aE),
 n<=f->Sp w (PtsA CA g N c pre is post::OD B0 w0 CA PA::L)->is.length=n->0<n->n<=1048576->n<=cap->cap<=9223372036854775807->pre.length=o->
 Calls prog 223 #[.int .i64 (dims:Int),.slice (some ⟨g,o,none⟩) n cap] w fun e w' =>∃A m c' is',
  e= .returned (.slice A m c')/\m+31<=112*n/\is'.length=n/\Sp w' (BA A m c' (xS f dims (is.map (ptA PA)))::PtsA CA g N c pre is' post::OD B0 w0 CA PA::L)
 |0,_,_,_,_,_,_,_,_,_,_,_,hf,_,_,h,_,_,_,_=>by omega
 |f+1,w,L,N,c,g,n,cap,o,pre,post,is,hf,h,hn,hn1,hn2,hcap,hcapm,ho=>by
  by_cases hn8:n<=8
  ·exact E6 h0 hP h hn hn1 hn8 hd0 hd4 ho
  ·obtain⟨nn,hnn⟩:=eX ((n+1) / 2);have hn0:0<nn:=(by omega);have hnn' :nn<n:=(by omega);obtain⟨hq1,hq2⟩:=nN hnn (by omega);have HW:=zA (vL (cap:=cap) h0 hP h hn hn1 (by omega) hd0 hd4 ho);obtain⟨d,hd⟩:=eX ((xF (is.map (ptA PA)) dims).1);have hdd:d<dims:=(by rw [<-hd];exact VN _ _ hd0);rw [hd]at HW;have Hd:=zA hd;have Hn:=zA hn;have HP:=zA hP;have Ho:=zA ho;have IH:=zA (l7 h0 hP hd0 hd4 f)
   clear hd hn hP ho h;go_enter func223,ntmps223;go_wp2_with fail;refine HW.out.mono ?_;rintro e w1 ⟨rfl,HS1⟩;obtain⟨q,hq⟩:=eX (w1.heap.size);have h1:=(HS1.blkH 3 #[.int .i64 (d:Int)] hq).p1;have HO:=zA (lF d w1);rw [hq]at HO;have HSo:=zA (mG (cap:=cap) (d:=d) h0 hdd (fun p hp=>(HP.out p hp).1) h1 Hn.out (by omega));rw [Ho.out]at HSo;clear h1 HS1
   go_wp2_with (go_at_call 275;refine HO.out.mono ?_;rintro e w' ⟨rfl,rfl⟩);refine HSo.out.mono ?_;rintro e w2 ⟨rfl,is1,hl1,hs1,HS2⟩;obtain⟨ix,hix⟩:∃ix,is1[nn]? =some ix:=⟨_,zB (by rw [hl1];exact hnn')⟩;obtain⟨A1,n1,c1,HE⟩:=HS2.encOf M1 h0 ix;have hpin:=HP.out _ (Vp (HS2.elsLen M1) h0 ix);have hnd:n1=dims:=(by rw [<-(HS2.atOf M1 h0 HE).length];exact hpin.1)
   obtain⟨b1,o1,x,rfl,Hx, -,hcx⟩:=(HS2.atOf M1 h0 HE).at_ (k:=d) (by omega)
   have hx:=hpin.2.2.2 x (zD Hx.out);have hcx:=hcx.int.1;obtain⟨-,f1⟩:=HS2.cellsOf M0 M1 h0 Ho.out hix HE;have hdn:d<n1:=(by omega)
   have HX:Hid ((is1.map (ptA PA))[nn]?.map (Pt.x d)=some x):=by
    show _=_;rw [zH,hix];simp [Pt.x_get Hx.out]
   have HFm:=zA (jS (f:=f) (by rw [zK];exact Hn.out) hn8 Hd.out hs1 hnn HX.out);rw [<-List.map_take,<-List.map_drop]at HFm;obtain⟨lb,hlb⟩:=eX (xS f dims ((is1.take nn).map (ptA PA)));obtain⟨rb,hrb⟩:=eX (xS f dims ((is1.drop nn).map (ptA PA)));rw [hlb,hrb]at HFm;have Hrb:=zA hrb;have hcat:is1.take nn++is1.drop nn=is1:=zu _ _;have HlL:Hid ((is1.take nn).length=nn):=(by show _=_;rw [zr];omega)
   have HlR:Hid ((is1.drop nn).length=n - nn):=(by show _=_;rw [ze];omega)
   have HSL:Sp w2 (PtsA CA g N c pre (is1.take nn) ((is1.drop nn).flatMap (encA CA)++post)::OD B0 w0 CA PA::L):=by
    have e:pre++(is1.take nn).flatMap (encA CA)++((is1.drop nn).flatMap (encA CA)++post)=pre++is1.flatMap (encA CA)++post:=by
     have e2:is1.flatMap (encA CA)=(is1.take nn).flatMap (encA CA)++(is1.drop nn).flatMap (encA CA):=(by rw [<-yS,hcat]);rw [e2];simp only [zO]
    unfold PtsA;rw [e];exact HS2
   have HI:=zA (IH.out w2 L N c g nn cap o pre _ _ (by clear hq1 hq2;omega) HSL HlL.out hn0 (by clear hq1 hq2;omega) (by clear hq1 hq2;omega) hcapm Ho.out);rw [hlb]at HI;clear hlb hrb HO HSo HW hix HE hpin hnd Hx hs1 HX hcat HSL HS2 hq hl1;obtain⟨hsl,hsr⟩:=L4 g o n cap nn hnn' hcap hcapm;go_wp2_with fail;clear hq1 hq2;refine HI.out.mono ?_;rintro e w3 ⟨AL,mL,cL,isL,rfl,hmL,hlL,HS3⟩
   have HlenL:Hid (lb.length=mL):=(HS3.rb M0).1.len;rw [HlenL.out]at HFm;obtain⟨H3,hH3⟩:=eX (w3.heap.size)
   have HS4:Sp (w3.alloc (.cells #[.int .u8 1] 5)) (BA (some ⟨H3,0,none⟩) 1 1 [1]::BA AL mL cL lb::PtsA CA g N c pre isL ((is1.drop nn).flatMap (encA CA)++post)::OD B0 w0 CA PA::L):=by
    rw [<-hH3];exact HS3.lit #[.int .u8 1] 5 1 1 rfl (by decide)
   have HP1:=zA (ZR (c:=1) HS4 (HS4.rb M0).1 (by omega) (x:=d) (by omega));clear HS3 hcx f1;clear HS4;go_wp2_with fail;refine HP1.out.mono ?_;rintro e w4 ⟨A5,m5,rfl,hm5,HS5⟩;have HP2:=zA (pInt (c:=m5) HS5 (HS5.rb M0).1 (by omega) hx);go_wp2_with fail;refine HP2.out.mono ?_;rintro e w5 ⟨A6,m6,rfl,hm6,HS6⟩;have HP3:=zA (ZR (c:=0) HS6 (RB.none_ _) (by omega) (x:=mL) (by omega))
   have hmLw:IntKind.u64.wrap (mL:Int)=(mL:Int):=(by rw [zW];omega);go_wp2_with fail;refine HP3.out.mono ?_;rintro e w6 ⟨A7,m7,rfl,hm7,HS7⟩;have Hr:=zA (HS7.rb M0).1.reads;have HS7' :=HS7.p1;clear HS5 HS6 HP1 HP2 HP3;go_wp2_with (at_builtin;refine yR yW (.tmp 83) (.tmp 87) rfl rfl HS7' rfl rfl Hr.out (xd _) (by omega) (by omega) ?_;intro A8 c8 w8 hc8 hm8 HS8)
   have hkk:∀i,(encA CA i).length=2:=fun i=>Rep.len (HS8.encRep M6 h0 i);have hoR:(pre++isL.flatMap (encA CA)).length=o+nn*2:=(by rw [zG,VZ hkk,Ho.out,hlL])
   have HS9:Sp w8 (BA A8 (m6+m7) c8 (([1]++zP d++zP (yc x))++zP mL)::BA AL mL cL lb::PtsA CA g N c (pre++isL.flatMap (encA CA)) (is1.drop nn) post::OD B0 w0 CA PA::L):=by
    have h:=HS8.d1.d1.d1;rw [<-y9]at h;have e:pre++isL.flatMap (encA CA)++((is1.drop nn).flatMap (encA CA)++post)=(pre++isL.flatMap (encA CA))++(is1.drop nn).flatMap (encA CA)++post:=(by simp);unfold PtsA at h;rw [e]at h;exact h
   have IHR:=zA (fun w L HS=>IH.out w L N c g (n - nn) (cap - nn) (o+nn*2) (pre++isL.flatMap (encA CA)) post (is1.drop nn) (by omega) HS HlR.out (by omega) (by omega) (by omega) (by omega) hoR);have HS9:=HS9.drew;have HrL:=zA (HS9.rb M1).1.reads
   have hfin:∀isR,PtsA CA g N c (pre++isL.flatMap (encA CA)) isR post=PtsA CA g N c pre (isL++isR) post:=by
    intro isR;unfold PtsA;rw [yS];simp only [zO]
   have Hfin:=zA hfin;clear HS7 HS7' HS8 Hr hkk hoR IH hfin hcx hnn hH3
   go_region_held3 (fun _=>True) (trivial) (first
    |(refine XT yW (.tmp 89) (.tmp 90) rfl rfl HS9 rfl rfl HrL.out (xd _) (by omega) (by omega) ?_;intro A10 c10 w10 hc10 hm10 HS10)
    |(go_at_call 223;refine(IHR.out _ _ HS10.p3.p3).mono ?_;rintro e w11 ⟨AR,mR,cR,isR,rfl,hmR,hlR,HS11⟩)
    |(refine XT yW (.tmp 91) (.tmp 96) rfl rfl HS11.p3 rfl rfl (HS11.rb M0).1.reads (xd _) (by omega) (by omega) ?_;intro A12 c12 w12 hc12 hm12 HS12)
    |fail)
   go_wp2;go_ret
   refine⟨A12,_,c12,isL++isR,rfl,by omega,by rw [zG,hlL,hlR];omega,?_⟩;have h:=HS12.d1.d3;rw [<-y9,<-y9,Hrb.out,<-HFm.out,Hfin.out]at h;exact h
end
theorem zL.css {α:Type} [Rep α] {w:O} {F:Nat->Prop} {A:aA} {n c:Nat} {xs:List α} (h:zL w F A n c xs) (hF:∀b,F b->b<w.heap.size):
 ∃css:List aF,css.length=xs.length/\(∀(k:Nat) (cs:aF) (x:α),css[k]? =some cs->xs[k]? =some x->rep w F cs x)/\RC w (Rep.size α) A n css.flatten:=by
 have hlen:=h.length
 have hex:∀k,∃cs:aF,∀x,xs[k]? =some x->rep w F cs x/\∃b off,A=some ⟨b,off,none⟩/\F b/\∀j u,cs[j]? =some u->w.cell? ⟨b,off+k*Rep.size α+j,none⟩=some u:=by
  intro k;rcases hx:xs[k]? with _|x
  ·exact⟨[],fun x h=>by cases h⟩
  ·obtain⟨b,off,x',rfl,e,hb,cs,h1,h2⟩:=h.at_ (k:=k) (by rw [<-hlen];exact zN hx)
   have e:=e.out.symm.trans hx;cases e;exact⟨cs,fun y hy=>by cases hy;exact⟨h1,b,off,rfl,hb,h2⟩⟩
 obtain⟨f,hf⟩:=Classical.axiomOfChoice hex
 have hget:∀k,((List.range n).map f)[k]? =if k<n then some (f k)else none:=by
  intro k;rw [zH]
  by_cases hk:k<n
  ·rw [zq hk,if_pos hk];rfl
  ·rw [zh (by simpa using hk),if_neg hk];rfl
 have hl2:∀cs∈(List.range n).map f,cs.length=Rep.size α:=by
  intro cs hcs;obtain⟨k,hk,rfl⟩:=List.mem_map.1 hcs;have hk:=List.mem_range.1 hk;exact Rep.len (hf k xs[k] (zB (by omega))).1
 refine⟨(List.range n).map f,by simp [hlen],fun k cs x h1 h2=> ?_,?_,fun h0=> ?_⟩
 ·rw [hget]at h1
  split at h1
  ·cases h1;exact(hf k x h2).1
  ·cases h1
 ·rw [Zh _ hl2];simp
 ·obtain⟨b,off,x,rfl,e,hb, -⟩:=h.at_ h0
  refine⟨b,off,rfl,hF b hb,fun j u hu=> ?_⟩;have hp:=Rep.pos (α:=α);have hj:j<n*Rep.size α:=(by have:=zN hu;rw [Zh _ hl2]at this;simpa using this);have hq:j / Rep.size α<n:=(Nat.div_lt_iff_lt_mul hp).2 hj;have e1:=xX (size:=Rep.size α) ((List.range n).map f) (j / Rep.size α) (j%Rep.size α) (f (j / Rep.size α)) hl2 (by rw [hget,if_pos hq]) (Nat.mod_lt _ hp)
  have e2:j / Rep.size α*Rep.size α+j%Rep.size α=j:=(by rw [Nat.mul_comm];exact Nat.div_add_mod _ _);rw [e2]at e1;obtain⟨_,b',off',e3,_,h4⟩:=hf (j / Rep.size α) xs[j / Rep.size α] (zB (by omega));cases e3;have:=h4 (j%Rep.size α) u (by rw [<-e1];exact hu)
  rwa [Nat.add_assoc,e2]at this
theorem DM (CA:List aF) (PA:List Pt) (hl:CA.length=PA.length) (n:Nat) (hn:CA.length=n):(List.range n).flatMap (encA CA)=CA.flatten/\(List.range n).map (ptA PA)=PA:=by
 constructor
 ·rw [List.flatMap_def]
  congr 1
  apply yX
  intro i;rw [zH]
  by_cases h:i<n
  ·rw [zq h];have h2:i<CA.length:=(by omega);simp [encA,h2]
  ·rw [zh (by simpa using h),zh (by omega)];rfl
 ·apply yX
  intro i;rw [zH]
  by_cases h:i<n
  ·rw [zq h];have h2:i<PA.length:=(by omega);simp [ptA,h2]
  ·rw [zh (by simpa using h),zh (by omega)];rfl
theorem Qm (A:aA) (n c dims:Nat) (pts:List Pt) (w:O) (hl:zL w (·<w.heap.size) A n c pts) (hP:ZG dims pts) (hd0:0<dims) (hd4:dims<=4) (hn:n<=1048576):
 Calls prog 167 #[.int .i64 (dims:Int),.slice A n c] w fun e w' =>∃A' m c',e= .returned (.slice A' m c')/\m<=112*n+40/\Sp w' [BA A' m c' (bkdB dims pts),OldA w.heap.size w]:=by
 have Hlen:=zA hl.length;have Hl:=zA hl;have HP:=zA hP;have HS0:=Sp.start w;clear hl hP;go_enter func167,ntmps167;go_wp2
 go_loopg [6,21] n (fun gk _ vi wr=>∃k:Nat,vi= .int .i64 k/\k<=n/\gk=n - k/\Sp wr [OldA w.heap.size w])
 case atStart=>exact⟨0,rfl,zJ _,rfl,HS0⟩
 case round=>
  obtain⟨k,rfl,hk,rfl,HS⟩:=hrel;clear HS0
  by_cases hkn:k<n
  ·obtain⟨b,off,p,rfl,Hx,hb,cs,hrep,hcells⟩:=Hl.out.at_ hkn
   obtain⟨A1,n1,c1,rfl, -,h2⟩:=Pt.at_ hrep
   have hbl:=HS.below M0;have f0:=(hbl.cell (p:=⟨b,off+k*2,none⟩) hb).trans (hcells 0 _ rfl);have f1:=(hbl.cell (p:=⟨b,off+k*2+1,none⟩) hb).trans (hcells 1 _ rfl);obtain⟨p1,p2,p3, -⟩:=HP.out p (zD Hx.out);have hn1:n1=dims:=(by rw [<-h2.length];exact p1);subst hn1;obtain⟨D,hD⟩:∃D:Nat,p.1=(D:Int):=⟨p.1.toNat,by omega⟩;rw [hD]at f0 p2 p3;have hD2:D<16384:=(by omega)
   have HS2:=HS.al (.cells #[.int .i64 (D:Int),.slice A1 n1 c1] 232);clear hrep hcells h2 hbl p1 p2 p3 Hx hD;go_wp2
   go_roundg (n - (k+1))
   ·exact⟨k+1,by go_num,by omega,rfl,HS2⟩
   ·omega
  ·obtain rfl:k=n:=by omega
   by_cases hk0:k=0
   ·subst hk0;have Hb:Hid (bkdB dims pts=(zP dims++zP 0)++ [0,0]):=(by show _=_;unfold bkdB;rw [Hlen.out,if_pos rfl]);obtain⟨H,hH⟩:=eX (wr.heap.size)
    have HS1:Sp (wr.alloc (.cells #[.int .u8 0,.int .u8 0] 5)) (BA (some ⟨H,0,none⟩) 2 2 [0,0]:: [OldA w.heap.size w]):=by
     rw [<-hH];exact HS.lit #[.int .u8 0,.int .u8 0] 5 1 2 rfl (by decide)
    have HP1:=zA (ZR (c:=0) HS1 (RB.none_ _) (by omega) (x:=dims) (by omega));have hdw:IntKind.u64.wrap (dims:Int)=(dims:Int):=(by rw [zW];omega);clear HS1;go_wp2_with fail;refine HP1.out.mono ?_;rintro e w2 ⟨A2,m2,rfl,hm2,HS2⟩;have HP2:=zA (ZR (c:=m2) HS2 (HS2.rb M0).1 (by omega) (x:=0) (by omega));go_wp2_with fail;refine HP2.out.mono ?_;rintro e w3 ⟨A3,m3,rfl,hm3,HS3⟩
    have Hr:=zA (HS3.rb M2).1.reads;go_wp2_with (at_builtin;refine yR yW (.tmp 55) (.tmp 56) rfl rfl HS3 rfl rfl Hr.out (xd _) (by omega) (by omega) ?_;intro A4 c4 w4 hc4 hm4 HS4);go_ret
    refine⟨A4,_,c4,rfl,by omega,?_⟩;have h:=HS4.d1.d1;rw [<-y9,zZ,<-Hb.out]at h;exact h
   ·have Hb:Hid (bkdB dims pts=(zP dims++zP k)++xS k dims pts):=(by show _=_;unfold bkdB;rw [Hlen.out,if_neg hk0]);obtain⟨CA,hCl,hCr,hRC⟩:=Hl.out.css (fun _ h=>h);have hbl:=HS.below M0
    have hone:∀u∈CA.flatten,u.oneCell' =true:=by
     intro u hu;obtain⟨cs,hc,hu⟩:=List.mem_flatten.1 hu;obtain⟨j,hj⟩:=z8 hc;have hjl:j<pts.length:=(by rw [<-hCl];exact zN hj);exact Rep.one (hCr j cs pts[j] hj (zB hjl)) hu
    have hE:Sp wr [OD w.heap.size w CA pts]:=HS.turn fun S hS=>⟨hS,⟨⟨hCl,fun j cs x h1 h2=>Rep.more (Rep.below (hCr j cs x h1 h2) hS.2.2) fun b hb=>(hS.1 b).2 hb⟩,fun b hb=>zX ((hS.1 b).1 hb) hS.2.2.size⟩⟩;have HC:=zA (uZ A k c CA.flatten wr (by omega) (hRC.on hbl).reads hone);have HE:=zA hE;have HCl:=zA hCl;clear HS hRC hCr hone hbl hE hCl;go_wp2_with fail;refine HC.out.mono ?_
    rintro e w2 ⟨A',c',rfl,hrow,hb2⟩;have hcap:=hrow.cap.2;obtain⟨g,rfl, -, -⟩:=hrow.at_ (by omega)
    have hr:=DM CA pts HCl.out k (HCl.out.trans Hlen.out)
    have HS2:Sp w2 (PtsA CA g k c' [] (List.range k) []:: [OD w.heap.size w CA pts]):=by
     have h:=HE.out.row hrow hb2;unfold PtsA;rw [hr.1]
     simpa using h
    have HF:=zA (l7 (by rw [HCl.out,Hlen.out];omega) HP.out hd0 hd4 k w2 [] k c' g k c' 0 [] [] (List.range k) (zC _) HS2 (by simp) (by omega) hn hcap.1 hcap.2 rfl);rw [hr.2]at HF;clear hrow hb2 HE hr HS2;go_wp2_with fail;refine HF.out.mono ?_;rintro e w3 ⟨A3,m3,c3,is3,rfl,hm3, -,HS3⟩;have HP1:=zA (ZR (c:=0) HS3 (RB.none_ _) (by omega) (x:=dims) (by omega))
    have hdw:IntKind.u64.wrap (dims:Int)=(dims:Int):=(by rw [zW];omega);have hkw:IntKind.u64.wrap (k:Int)=(k:Int):=(by rw [zW];omega);clear HS3;go_wp2_with fail;refine HP1.out.mono ?_;rintro e w4 ⟨A4,m4,rfl,hm4,HS4⟩;have HP2:=zA (ZR (c:=m4) HS4 (HS4.rb M0).1 (by omega) (x:=k) (by omega));go_wp2_with fail;refine HP2.out.mono ?_;rintro e w5 ⟨A5,m5,rfl,hm5,HS5⟩;have Hr:=zA (HS5.rb M2).1.reads
    go_wp2_with (at_builtin;refine yR yW (.tmp 55) (.tmp 56) rfl rfl HS5 rfl rfl Hr.out (xd _) (by omega) (by omega) ?_;intro A6 c6 w6 hc6 hm6 HS6);go_ret
    refine⟨A6,_,c6,rfl,by omega,?_⟩;have h:=HS6.d1.d1.d1.p1.turn (A' :=OldA w.heap.size w) fun _ hS=>hS.1;have h:=h.p1;rw [<-y9,zZ,<-Hb.out]at h;exact h
end Go.Proofs.YtjbhbfaeielbiaaGreatDoor

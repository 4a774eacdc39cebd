import Derived.Test.YtjbhbfaeielbiaaGreatDoorPart24
import Derived.Test.YtjbhbfaeielbiaaGreatDoorPart26
set_option maxRecDepth 100000
set_option maxHeartbeats 8000000
set_option linter.unusedVariables false
set_option linter.unusedSimpArgs false
namespace Go.Proofs.YtjbhbfaeielbiaaGreatDoor
open Tryz
open Rep (rep)
open Go.RowKit
attribute [local go_sem ↓] zU zV
section
variable {w w0:O} {B0:Nat} {L:List Asn} {CA:List aF} {PA:List Pt}
def OM (l:aD):aC:=l.flatMap fun v=>zP (yc v)
theorem fP (p:Pt):OA p=zP p.1.toNat++OM p.2:=rfl
theorem Sp.atOf {a n c:Nat} {A:aA} {d:Int} (h:Sp w L) (i:OD B0 w0 CA PA∈L) (b:0<CA.length) (g:Hid (encA CA a= [.int .i64 d,.slice A n c])):zL w (·<w.heap.size) A n c (ptA PA a).2:=by
 obtain⟨A',n',j,e, -,f⟩:=Pt.at_ (h.encRep i b a)
 rw [g.o]at e;cases e;exact f
theorem Sp.encOf (h:Sp w L) (f:OD B0 w0 CA PA∈L) (d:0<CA.length) (a:Nat):∃A n c,Hid (encA CA a= [.int .i64 (ptA PA a).1,.slice A n c]):=by
 obtain⟨A',n',b,e, -,g⟩:=Pt.at_ (h.encRep f d a)
 exact⟨A',n',b,e⟩
theorem Sp.cellsOf {g N c o k l s n:Nat} {pre post:aF} {f:aE} {m:aA} {d:Int} (h:Sp w L) (r:PtsA CA g N c pre f post∈L) (u:OD B0 w0 CA PA∈L) (t:0<CA.length) (z:pre.length=o) (q:f[k]? =some l) (p:Hid (encA CA l= [.int .i64 d,.slice m s n])):
 w.cell? ⟨g,o+k*2,none⟩=some (.int .i64 d)/\w.cell? ⟨g,o+k*2+1,none⟩=some (.slice m s n):=by
 have e:∀i,(encA CA i).length=2:=fun i=>Rep.len (h.encRep u t i)
 have b:∀j,j<2->(pre++f.flatMap (encA CA)++post)[o+k*2+j]? =(encA CA l)[j]? :=by
  intro j v;have x:=zN q;have y:k*2+j<(f.flatMap (encA CA)).length:=(by rw [VZ e];omega);rw [zO,zR (by omega),z9 (by omega),show o+k*2+j - pre.length=k*2+j by omega,List.flatMap_def];exact xX (size:=2) _ k j _ (by simpa using fun a _=>e a) (by rw [zH,q];rfl) v
 exact⟨h.rowCell r (by have:=b 0 (by omega);rw [p.o]at this;simpa using this),h.rowCell r (by have:=b 1 (by omega);rw [p.o]at this;simpa using this)⟩
theorem E6 {N c g n cap a o f:Nat} {pre post:aF} {t:aE} (X:0<CA.length) (hP:ZG a PA)
 (h:Sp w (PtsA CA g N c pre t post::OD B0 w0 CA PA::L)) (hn:t.length=n) (x4:0<n) (h3:n<=8) (hw:0<a) (xb:a<=4) (ho:pre.length=o):
 Calls prog 223 #[.int .i64 (a:Int),.slice (some ⟨g,o,none⟩) n cap] w fun e w' =>∃A m c' hr,
  e= .returned (.slice A m c')/\m+31<=112*n/\hr.length=n/\Sp w' (BA A m c' (xS (f+1) a (t.map (ptA PA)))::PtsA CA g N c pre hr post::OD B0 w0 CA PA::L):=by
 have Hn:=zA hn;have HP:=zA hP;have Ho:=zA ho
 have z:Hid (xS (f+1) a (t.map (ptA PA))=(0::zP n)++(Zu 0 (t.map (ptA PA))).flatMap OA):=by
  show _=_;unfold xS;rw [if_pos (by simpa [hn]using h3)];simp [hn]
 obtain⟨q,hq⟩:=eX (w.heap.size);have h1:=(h.blkH 3 #[.int .i64 ((0:Nat):Int)] hq).p1;have hi:∀p∈PA,p.2.length=a:=fun p hp=>(hP p hp).1;have HO:=zA (lF 0 w);rw [hq]at HO;have Q:=zA (mG (cap:=cap) (d:=0) X hw hi h1 hn (by omega));rw [ho]at Q;clear hn hP h ho h1 hi;go_enter func223,ntmps223
 go_wp2_with (first
  |(go_at_call 275;refine HO.o.mono ?_;rintro e w' ⟨rfl,rfl⟩)
  |(go_at_call 274;refine Q.o.mono ?_;rintro e w1 ⟨rfl,i,l,hm,hd⟩))
 obtain⟨H1,hh⟩:=eX (w1.heap.size)
 have he:Sp (w1.alloc (.cells #[.int .u8 0] 5)) (BA (some ⟨H1,0,none⟩) 1 1 [0]::PtsA CA g N c pre i post::OD B0 w0 CA PA::L):=by
  rw [<-hh];exact hd.lit #[.int .u8 0] 5 1 1 rfl (by decide)
 have v:=zA (ZR (c:=0) he (RB.none_ _) (by omega) (x:=n) (by omega));have hg:=zA hm;have R:=zA l;clear hd HO Q hm l hq
 go_wp2_with (first
  |(go_at_call 85;refine v.o.mono ?_;rintro e w2 ⟨A2,m2,rfl,h2,b⟩;have T:=zA (b.rb M0).1.reads;have b:=b.p1)
  |(at_builtin;refine yR yW (.tmp 21) (.tmp 25) rfl rfl b rfl rfl T.o (xd _) (by omega) (by omega) ?_;intro A3 c3 w3 h7 xi s))
 have y:Sp w3 (BA A3 (1+m2) c3 (0::zP n)::PtsA CA g N c pre i post::OD B0 w0 CA PA::L):=by
  have h:=s.d1;rw [<-y9]at h
  simpa using h
 clear he b s v T hh;obtain⟨E,l⟩:=eX (i.map (ptA PA));have hs:=zA l;have S:Hid (E.length=n):=by show _=_;rw [<-l,zK,R.o]
 have hb:Hid (xS (f+1) a (t.map (ptA PA))=(0::zP n)++(E.drop 0).flatMap OA):=by show _=_;rw [z.o,<-hg.o,l];rfl
 clear l z hg
 go_loopg [5,7,9,29,42] n (fun gk v5 _ _ vi _ wr=>∃(k:Nat) (K:aA) (Z W:Nat) (bs:aC),vi= .int .i64 k/\k<=n/\gk=n - k/\v5= .slice K Z W/\Z<=11+50*k/\Hid (xS (f+1) a (t.map (ptA PA))=bs++(E.drop k).flatMap OA)/\Sp wr (BA K Z W bs::PtsA CA g N c pre i post::OD B0 w0 CA PA::L))
 case atStart=>exact⟨0,A3,_,c3,_,rfl,zJ _,rfl,rfl,by omega,hb,y⟩
 case round=>
  obtain⟨k,K,Z,W,bs,rfl,hk,rfl,rfl,xn,HF,M⟩:=hrel;clear y hb
  by_cases hz:k<n
  ·obtain⟨B,Y⟩:∃B,i[k]? =some B:=⟨_,zB (by rw [R.o];exact hz)⟩;obtain⟨A1,C,c1,HE⟩:=M.encOf M2 X B;have r:=HP.o _ (Vp (M.elsLen M2) X B);have h4:C=a:=(by rw [<-(M.atOf M2 X HE).length];exact r.1);subst h4;obtain⟨D,hD⟩:∃D:Nat,(ptA PA B).1=(D:Int):=⟨(ptA PA B).1.toNat,by omega⟩;have h5:D<16384:=(by have:=r.2.2.1;omega);have HR:=zA r.2.2.2
   have ha:Hid ((E.drop k).flatMap OA=(zP D++OM (ptA PA B).2)++(E.drop (k+1)).flatMap OA):=by
    have e:E[k]? =some (ptA PA B):=(by rw [<-hs.o,zH,Y];rfl);show _=_;rw [yb e,zp,fP,hD];simp
   rw [hD]at HE;obtain⟨f0,f1⟩:=M.cellsOf M1 M2 X Ho.o Y HE;have x5:IntKind.u64.wrap (D:Int)=(D:Int):=(by rw [zW];omega);obtain⟨H,hH⟩:=eX (wr.heap.size);have P:=(M.blkH 232 #[.int .i64 (D:Int),.slice A1 C c1] hH);have v:=zA (ZR (c:=0) P (RB.none_ _) (by omega) (x:=D) (by omega));have hf:=zA P;clear M r hD Y;go_wp2_with fail;refine v.o.mono ?_
   rintro e w2 ⟨A2,m2,rfl,h2,b⟩;have T:=zA (b.rb M0).1.reads;have J :=b.p2;have q1:=b.cell M1 1;go_wp2_with (at_builtin;refine yR yW (.tmp 33) (.tmp 37) rfl rfl J rfl rfl T.o (xd _) (by omega) (by omega) ?_;intro A6 c6 w3 h8 xs s;have q2:=s.cl M2 1)
   have y:Sp w3 (BA A6 (Z+m2) c6 (bs++zP D)::PtsA CA g N c pre i post::OD B0 w0 CA PA::L):=by
    have h:=s.d1.d1;rw [<-y9]at h
    simpa using h
   have hc:Hid (xS (f+1) C (t.map (ptA PA))=(bs++zP D)++(OM ((ptA PA B).2.drop 0)++(E.drop (k+1)).flatMap OA)):=by
    show _=_;rw [HF.o,ha.o];simp
   clear b J s P hf v T HF ha q1 q2 f0 f1 hH
   go_loopg [5,9,42] C (fun gj v5 _ vj wq=>∃(j:Nat) (K:aA) (m W:Nat) (bs:aC),vj= .int .i64 j/\j<=C/\gj=C - j/\v5= .slice K m W/\m<=Z+m2+10*j/\Hid (xS (f+1) C (t.map (ptA PA))=bs++(OM ((ptA PA B).2.drop j)++(E.drop (k+1)).flatMap OA))/\Sp wq (BA K m W bs::PtsA CA g N c pre i post::OD B0 w0 CA PA::L))
   case atStart=>exact⟨0,A6,_,c6,_,rfl,zJ _,rfl,rfl,by omega,hc,y⟩
   case round=>
    obtain⟨j,A7,m7,c7,U,rfl,hj,rfl,rfl,x1,F,G⟩:=hrel;clear hc y
    by_cases hy:j<C
    ·obtain⟨b1,o1,x,rfl,Hx,h6,hl⟩:=(G.atOf M2 X HE).at_ hy
     have hx:=HR.o x (zD Hx.o);have x6:=hx.1;have x8:=hx.2;have hl:=hl.int.1;have ht:=zA (pInt (c:=0) G (RB.none_ _) (by omega) hx)
     have u:Hid (xS (f+1) C (t.map (ptA PA))=(U++zP (yc x))++(OM ((ptA PA B).2.drop (j+1))++(E.drop (k+1)).flatMap OA)):=by
      show _=_;rw [F.o,yb Hx.o];simp [OM]
     clear F Hx hx
     go_wp2_with (first
      |(go_at_call 161;refine ht.o.mono ?_;rintro e w4 ⟨A8,m8,rfl,x2,I⟩;have T:=zA (I.rb M0).1.reads;have I:=I.p1)
      |(at_builtin;refine yR yW (.tmp 46) (.tmp 48) rfl rfl I rfl rfl T.o (xd _) (by omega) (by omega) ?_;intro A9 c9 w5 h9 x3 hu))
     have hv:Sp w5 (BA A9 (m7+m8) c9 (U++zP (yc x))::PtsA CA g N c pre i post::OD B0 w0 CA PA::L):=by
      have h:=hu.d1;rw [<-y9]at h
      simpa using h
     go_roundg (C - (j+1))
     ·exact⟨j+1,A9,_,c9,_,by go_num,by omega,rfl,rfl,by omega,u,hv⟩
     ·omega
    ·obtain rfl:j=C:=by omega
     have u:Hid (xS (f+1) j (t.map (ptA PA))=U++(E.drop (k+1)).flatMap OA):=by
      show _=_;rw [F.o,zQ (by rw [(G.atOf M2 X HE).length];exact zC _)];simp [OM]
     clear F;go_wp2
     go_roundg (n - (k+1))
     ·exact⟨k+1,A7,_,c7,_,by go_num,by omega,rfl,rfl,by omega,u,G⟩
     ·omega
  ·obtain rfl:k=n:=by omega
   have u:Hid (xS (f+1) a (t.map (ptA PA))=bs):=by
    show _=_;rw [HF.o,zQ (by rw [S.o];exact zC _)];simp
   clear HF;go_wp2;go_ret
   refine⟨K,Z,W,i,rfl,by omega,R.o,?_⟩;rw [u.o];exact M
end
section
variable {w0:O} {B0:Nat} {CA:List aF} {PA:List Pt}
theorem nN {n a:Nat} (h:(n+1) / 2=a) (d:n<1000000000):IntKind.i64.wrap (Int.tdiv (IntKind.i64.wrap ((n:Int)+1)) 2)=(a:Int)/\Int.tdiv ((n:Int)+1) 2=(a:Int):=by
 have c:IntKind.i64.wrap ((n:Int)+1)=((n+1:Nat):Int):=by rw [zT];omega
 have b:Int.tdiv ((n+1:Nat):Int) 2=(a:Int):=by rw [<-h];rfl
 refine⟨?_,b⟩;rw [c,b,zT];omega
theorem jS {f a n:Nat} {l s:List Pt} {d b:Nat} {x:Int} (e:l.length=n) (g:¬n<=8) (h:(xF l a).1=d) (i:s=Zu d l) (c:(n+1) / 2=b) (j:s[b]?.map (Pt.x d)=some x):
 xS (f+1) a l=([1]++zP d++zP (yc x))++zP (xS f a (s.take b)).length++xS f a (s.take b)++xS f a (s.drop b):=by
 subst i h;rw [xS,if_neg (by rw [e];exact g),e,c];simp only [j];simp
theorem L4 (g o n cap a:Nat) (h:a<n) (e:n<=cap) (f:cap<=9223372036854775807):
 (∀W:O,(Instr.slice 148 (.slice (some ⟨g,o,none⟩) n cap) none (some (.int .i64 (a:Int))) none).run prog W= .ok (.slice (some ⟨g,o,none⟩) a cap) W)/\
 (∀W:O,(Instr.slice 148 (.slice (some ⟨g,o,none⟩) n cap) (some (.int .i64 (a:Int))) none none).run prog W= .ok (.slice (some ⟨g,o+a*2,none⟩) (n - a) (cap - a)) W):=by
 have b:a<=cap:=by omega
 have c:a<=n:=by omega
 have d:¬cap=a:=by omega
 constructor<;>intro W<;>simp [Instr.slice,Instr.sliceBounds,go_sem,Addr.add, *]
theorem l7 (u:0<CA.length) {b:Nat} (hP:ZG b PA) (B:0<b) (T:b<=4):∀(f:Nat) (w:O) (L:List Asn) (N c g n cap o:Nat) (pre post:aF) (is:aE),
 n<=f->Sp w (PtsA CA g N c pre is post::OD B0 w0 CA PA::L)->is.length=n->0<n->n<=1048576->n<=cap->cap<=9223372036854775807->pre.length=o->
 Calls prog 223 #[.int .i64 (b:Int),.slice (some ⟨g,o,none⟩) n cap] w fun e w' =>∃A m c' hw,
  e= .returned (.slice A m c')/\m+31<=112*n/\hw.length=n/\Sp w' (BA A m c' (xS f b (is.map (ptA PA)))::PtsA CA g N c pre hw post::OD B0 w0 CA PA::L)
 |0,_,_,_,_,_,_,_,_,_,_,_,hf,_,_,h,_,_,_,_=>by omega
 |f+1,w,L,N,c,g,n,cap,o,pre,post,is,hf,h,hn,hn1,hn2,hcap,hcapm,ho=>by
  by_cases ht:n<=8
  ·exact E6 u hP h hn hn1 ht B T ho
  ·obtain⟨j,X⟩:=eX ((n+1) / 2);have h9:0<j:=(by omega);have I :j<n:=(by omega);obtain⟨C,D⟩:=nN X (by omega);have HW:=zA (vL (cap:=cap) u hP h hn hn1 (by omega) B T ho);obtain⟨d,hd⟩:=eX ((xF (is.map (ptA PA)) b).1);have h7:d<b:=(by rw [<-hd];exact VN _ _ B);rw [hd]at HW;have Hd:=zA hd;have Hn:=zA hn;have HP:=zA hP;have Ho:=zA ho;have IH:=zA (l7 u hP B T f)
   clear hd hn hP ho h;go_enter func223,ntmps223;go_wp2_with fail;refine HW.o.mono ?_;rintro e w1 ⟨rfl,he⟩;obtain⟨q,hq⟩:=eX (w1.heap.size);have h1:=(he.blkH 3 #[.int .i64 (d:Int)] hq).p1;have HO:=zA (lF d w1);rw [hq]at HO;have R:=zA (mG (cap:=cap) (d:=d) u h7 (fun p hp=>(HP.o p hp).1) h1 Hn.o (by omega));rw [Ho.o]at R;clear h1 he
   go_wp2_with (go_at_call 275;refine HO.o.mono ?_;rintro e w' ⟨rfl,rfl⟩);refine R.o.mono ?_;rintro e w2 ⟨rfl,a,hr,hv,r⟩;obtain⟨ix,U⟩:∃ix,a[j]? =some ix:=⟨_,zB (by rw [hr];exact I)⟩;obtain⟨A1,n1,c1,HE⟩:=r.encOf M1 u ix;have s:=HP.o _ (Vp (r.elsLen M1) u ix);have xb:n1=b:=(by rw [<-(r.atOf M1 u HE).length];exact s.1)
   obtain⟨b1,o1,x,rfl,Hx, -,z⟩:=(r.atOf M1 u HE).at_ (k:=d) (by omega)
   have hx:=s.2.2.2 x (zD Hx.o);have z:=z.int.1;obtain⟨-,f1⟩:=r.cellsOf M0 M1 u Ho.o U HE;have x6:d<n1:=(by omega)
   have HX:Hid ((a.map (ptA PA))[j]?.map (Pt.x d)=some x):=by
    show _=_;rw [zH,U];simp [Pt.x_get Hx.o]
   have v:=zA (jS (f:=f) (by rw [zK];exact Hn.o) ht Hd.o hv X HX.o);rw [<-List.map_take,<-List.map_drop]at v;obtain⟨lb,W⟩:=eX (xS f b ((a.take j).map (ptA PA)));obtain⟨rb,Y⟩:=eX (xS f b ((a.drop j).map (ptA PA)));rw [W,Y]at v;have h4:=zA Y;have G:a.take j++a.drop j=a:=zu _ _;have hz:Hid ((a.take j).length=j):=(by show _=_;rw [zr];omega)
   have h2:Hid ((a.drop j).length=n - j):=(by show _=_;rw [ze];omega)
   have hj:Sp w2 (PtsA CA g N c pre (a.take j) ((a.drop j).flatMap (encA CA)++post)::OD B0 w0 CA PA::L):=by
    have e:pre++(a.take j).flatMap (encA CA)++((a.drop j).flatMap (encA CA)++post)=pre++a.flatMap (encA CA)++post:=by
     have e2:a.flatMap (encA CA)=(a.take j).flatMap (encA CA)++(a.drop j).flatMap (encA CA):=(by rw [<-yS,G]);rw [e2];simp only [zO]
    unfold PtsA;rw [e];exact r
   have HI:=zA (IH.o w2 L N c g j cap o pre _ _ (by clear C D;omega) hj hz.o h9 (by clear C D;omega) (by clear C D;omega) hcapm Ho.o);rw [W]at HI;clear W Y HO R HW U HE s xb Hx hv HX G hj r hq hr;obtain⟨y4,y5⟩:=L4 g o n cap j I hcap hcapm;go_wp2_with fail;clear C D;refine HI.o.mono ?_;rintro e w3 ⟨AL,Z,cL,l,rfl,y2,hs,J⟩
   have S:Hid (lb.length=Z):=(J.rb M0).1.len;rw [S.o]at v;obtain⟨H3,hl⟩:=eX (w3.heap.size)
   have K:Sp (w3.alloc (.cells #[.int .u8 1] 5)) (BA (some ⟨H3,0,none⟩) 1 1 [1]::BA AL Z cL lb::PtsA CA g N c pre l ((a.drop j).flatMap (encA CA)++post)::OD B0 w0 CA PA::L):=by
    rw [<-hl];exact J.lit #[.int .u8 1] 5 1 1 rfl (by decide)
   have ha:=zA (ZR (c:=1) K (K.rb M0).1 (by omega) (x:=d) (by omega));clear J z f1;clear K;go_wp2_with fail;refine ha.o.mono ?_;rintro e w4 ⟨A5,m5,rfl,x8,M⟩;have hb:=zA (pInt (c:=m5) M (M.rb M0).1 (by omega) hx);go_wp2_with fail;refine hb.o.mono ?_;rintro e w5 ⟨A6,m6,rfl,ys,hi⟩;have hc:=zA (ZR (c:=0) hi (RB.none_ _) (by omega) (x:=Z) (by omega))
   have x2:IntKind.u64.wrap (Z:Int)=(Z:Int):=(by rw [zW];omega);go_wp2_with fail;refine hc.o.mono ?_;rintro e w6 ⟨A7,m7,rfl,y0,P⟩;have Hr:=zA (P.rb M0).1.reads;have F :=P.p1;clear M hi ha hb hc;go_wp2_with (at_builtin;refine yR yW (.tmp 83) (.tmp 87) rfl rfl F rfl rfl Hr.o (xd _) (by omega) (by omega) ?_;intro A8 c8 w8 x5 y1 Q)
   have hm:∀i,(encA CA i).length=2:=fun i=>Rep.len (Q.encRep M6 u i);have hu:(pre++l.flatMap (encA CA)).length=o+j*2:=(by rw [zG,VZ hm,Ho.o,hs])
   have y:Sp w8 (BA A8 (m6+m7) c8 (([1]++zP d++zP (yc x))++zP Z)::BA AL Z cL lb::PtsA CA g N c (pre++l.flatMap (encA CA)) (a.drop j) post::OD B0 w0 CA PA::L):=by
    have h:=Q.d1.d1.d1;rw [<-y9]at h;have e:pre++l.flatMap (encA CA)++((a.drop j).flatMap (encA CA)++post)=(pre++l.flatMap (encA CA))++(a.drop j).flatMap (encA CA)++post:=(by simp);unfold PtsA at h;rw [e]at h;exact h
   have h5:=zA (fun w L HS=>IH.o w L N c g (n - j) (cap - j) (o+j*2) (pre++l.flatMap (encA CA)) post (a.drop j) (by omega) HS h2.o (by omega) (by omega) (by omega) (by omega) hu);have y:=y.drew;have h3:=zA (y.rb M1).1.reads
   have H:∀t,PtsA CA g N c (pre++l.flatMap (encA CA)) t post=PtsA CA g N c pre (l++t) post:=by
    intro t;unfold PtsA;rw [yS];simp only [zO]
   have hk:=zA H;clear P F Q Hr hm hu IH H z X hl
   go_region_held3 (fun _=>True) (trivial) (first
    |(refine XT yW (.tmp 89) (.tmp 90) rfl rfl y rfl rfl h3.o (xd _) (by omega) (by omega) ?_;intro x3 x4 y6 xi xs hg)
    |(go_at_call 223;refine(h5.o _ _ hg.p3.p3).mono ?_;rintro e y7 ⟨AR,mR,cR,t,rfl,y3,h8,E⟩)
    |(refine XT yW (.tmp 91) (.tmp 96) rfl rfl E.p3 rfl rfl (E.rb M0).1.reads (xd _) (by omega) (by omega) ?_;intro hy h6 y8 xn x1 hh)
    |fail)
   go_wp2;go_ret
   refine⟨hy,_,h6,l++t,rfl,by omega,by rw [zG,hs,h8];omega,?_⟩;have h:=hh.d1.d3;rw [<-y9,<-y9,h4.o,<-v.o,hk.o]at h;exact h
end
theorem zL.css {α:Type} [Rep α] {w:O} {F:Nat->Prop} {A:aA} {n c:Nat} {xs:List α} (h:zL w F A n c xs) (hF:∀b,F b->b<w.heap.size):
 ∃css:List aF,css.length=xs.length/\(∀(k:Nat) (cs:aF) (x:α),css[k]? =some cs->xs[k]? =some x->rep w F cs x)/\RC w (Rep.size α) A n css.flatten:=by
 have hlen:=h.length
 have p:∀k,∃cs:aF,∀x,xs[k]? =some x->rep w F cs x/\∃b off,A=some ⟨b,off,none⟩/\F b/\∀j u,cs[j]? =some u->w.cell? ⟨b,off+k*Rep.size α+j,none⟩=some u:=by
  intro k;rcases hx:xs[k]? with _|x
  ·exact⟨[],fun x h=>by cases h⟩
  ·obtain⟨b,off,J,rfl,e,m,cs,i,l⟩:=h.at_ (k:=k) (by rw [<-hlen];exact zN hx)
   have e:=e.o.symm.trans hx;cases e;exact⟨cs,fun y H=>by cases H;exact⟨i,b,off,rfl,m,l⟩⟩
 obtain⟨f,q⟩:=Classical.axiomOfChoice p
 have a:∀k,((List.range n).map f)[k]? =if k<n then some (f k)else none:=by
  intro k;rw [zH]
  by_cases d:k<n
  ·rw [zq d,if_pos d];rfl
  ·rw [zh (by simpa using d),if_neg d];rfl
 have g:∀cs∈(List.range n).map f,cs.length=Rep.size α:=by
  intro cs o;obtain⟨k,d,rfl⟩:=List.mem_map.1 o;have d:=List.mem_range.1 d;exact Rep.len (q k xs[k] (zB (by omega))).1
 refine⟨(List.range n).map f,by simp [hlen],fun k cs x i l=> ?_,?_,fun C=> ?_⟩
 ·rw [a]at i
  split at i
  ·cases i;exact(q k x l).1
  ·cases i
 ·rw [Zh _ g];simp
 ·obtain⟨b,off,x,rfl,e,m, -⟩:=h.at_ C
  refine⟨b,off,rfl,hF b m,fun j u v=> ?_⟩;have t:=Rep.pos (α:=α);have E:j<n*Rep.size α:=(by have:=zN v;rw [Zh _ g]at this;simpa using this);have G:j / Rep.size α<n:=(Nat.div_lt_iff_lt_mul t).2 E;have r:=xX (size:=Rep.size α) ((List.range n).map f) (j / Rep.size α) (j%Rep.size α) (f (j / Rep.size α)) g (by rw [a,if_pos G]) (Nat.mod_lt _ t)
  have s:j / Rep.size α*Rep.size α+j%Rep.size α=j:=(by rw [Nat.mul_comm];exact Nat.div_add_mod _ _);rw [s]at r;obtain⟨_,I,z,B,_,D⟩:=q (j / Rep.size α) xs[j / Rep.size α] (zB (by omega));cases B;have:=D (j%Rep.size α) u (by rw [<-r];exact v)
  rwa [Nat.add_assoc,s]at this
theorem DM (a:List aF) (b:List Pt) (d:a.length=b.length) (n:Nat) (e:a.length=n):(List.range n).flatMap (encA a)=a.flatten/\(List.range n).map (ptA b)=b:=by
 constructor
 ·rw [List.flatMap_def]
  congr 1
  apply yX
  intro i;rw [zH]
  by_cases h:i<n
  ·rw [zq h];have c:i<a.length:=(by omega);simp [encA,c]
  ·rw [zh (by simpa using h),zh (by omega)];rfl
 ·apply yX
  intro i;rw [zH]
  by_cases h:i<n
  ·rw [zq h];have c:i<b.length:=(by omega);simp [ptA,c]
  ·rw [zh (by simpa using h),zh (by omega)];rfl
theorem Qm (A:aA) (n c a:Nat) (d:List Pt) (w:O) (hl:zL w (·<w.heap.size) A n c d) (hP:ZG a d) (Z:0<a) (ha:a<=4) (hn:n<=1048576):
 Calls prog 167 #[.int .i64 (a:Int),.slice A n c] w fun e w' =>∃A' m K,e= .returned (.slice A' m K)/\m<=112*n+40/\Sp w' [BA A' m K (bkdB a d),OldA w.heap.size w]:=by
 have l:=zA hl.length;have Hl:=zA hl;have HP:=zA hP;have M:=Sp.start w;clear hl hP;go_enter func167,ntmps167;go_wp2
 go_loopg [6,21] n (fun gk _ vi wr=>∃k:Nat,vi= .int .i64 k/\k<=n/\gk=n - k/\Sp wr [OldA w.heap.size w])
 case atStart=>exact⟨0,rfl,zJ _,rfl,M⟩
 case round=>
  obtain⟨k,rfl,hk,rfl,J⟩:=hrel;clear M
  by_cases hf:k<n
  ·obtain⟨b,off,p,rfl,Hx,L,cs,z,f⟩:=Hl.o.at_ hf
   obtain⟨A1,n1,c1,rfl, -,U⟩:=Pt.at_ z
   have q:=J.below M0;have f0:=(q.cell (p:=⟨b,off+k*2,none⟩) L).trans (f 0 _ rfl);have f1:=(q.cell (p:=⟨b,off+k*2+1,none⟩) L).trans (f 1 _ rfl);obtain⟨p1,p2,p3, -⟩:=HP.o p (zD Hx.o);have hi:n1=a:=(by rw [<-U.length];exact p1);subst hi;obtain⟨D,hD⟩:∃D:Nat,p.1=(D:Int):=⟨p.1.toNat,by omega⟩;rw [hD]at f0 p2 p3;have hm:D<16384:=(by omega)
   have i:=J.al (.cells #[.int .i64 (D:Int),.slice A1 n1 c1] 232);clear z f U q p1 p2 p3 Hx hD;go_wp2
   go_roundg (n - (k+1))
   ·exact⟨k+1,by go_num,by omega,rfl,i⟩
   ·omega
  ·obtain rfl:k=n:=by omega
   by_cases T:k=0
   ·subst T;have X:Hid (bkdB a d=(zP a++zP 0)++ [0,0]):=(by show _=_;unfold bkdB;rw [l.o,if_pos rfl]);obtain⟨H,hH⟩:=eX (wr.heap.size)
    have N:Sp (wr.alloc (.cells #[.int .u8 0,.int .u8 0] 5)) (BA (some ⟨H,0,none⟩) 2 2 [0,0]:: [OldA w.heap.size w]):=by
     rw [<-hH];exact J.lit #[.int .u8 0,.int .u8 0] 5 1 2 rfl (by decide)
    have C:=zA (ZR (c:=0) N (RB.none_ _) (by omega) (x:=a) (by omega));have hd:IntKind.u64.wrap (a:Int)=(a:Int):=(by rw [zW];omega);clear N;go_wp2_with fail;refine C.o.mono ?_;rintro e w2 ⟨A2,m2,rfl,ht,i⟩;have E:=zA (ZR (c:=m2) i (i.rb M0).1 (by omega) (x:=0) (by omega));go_wp2_with fail;refine E.o.mono ?_;rintro e w3 ⟨A3,m3,rfl,hg,r⟩
    have Y:=zA (r.rb M2).1.reads;go_wp2_with (at_builtin;refine yR yW (.tmp 55) (.tmp 56) rfl rfl r rfl rfl Y.o (xd _) (by omega) (by omega) ?_;intro A4 c4 w4 ho hh s);go_ret
    refine⟨A4,_,c4,rfl,by omega,?_⟩;have h:=s.d1.d1;rw [<-y9,zZ,<-X.o]at h;exact h
   ·have X:Hid (bkdB a d=(zP a++zP k)++xS k a d):=(by show _=_;unfold bkdB;rw [l.o,if_neg T]);obtain⟨I,t,F,Q⟩:=Hl.o.css (fun _ h=>h);have q:=J.below M0
    have y:∀u∈I.flatten,u.oneCell' =true:=by
     intro u hu;obtain⟨cs,hc,hu⟩:=List.mem_flatten.1 hu;obtain⟨j,hj⟩:=z8 hc;have he:j<d.length:=(by rw [<-t];exact zN hj);exact Rep.one (F j cs d[j] hj (zB he)) hu
    have hE:Sp wr [OD w.heap.size w I d]:=J.turn fun S G=>⟨G,⟨⟨t,fun j cs x h1 U=>Rep.more (Rep.below (F j cs x h1 U) G.2.2) fun b L=>(G.1 b).2 L⟩,fun b L=>zX ((G.1 b).1 L) G.2.2.size⟩⟩;have HC:=zA (uZ A k c I.flatten wr (by omega) (Q.on q).reads y);have HE:=zA hE;have B:=zA t;clear J Q F y q hE t;go_wp2_with fail;refine HC.o.mono ?_
    rintro e w2 ⟨A',K,rfl,o,R⟩;have v:=o.cap.2;obtain⟨g,rfl, -, -⟩:=o.at_ (by omega)
    have hr:=DM I d B.o k (B.o.trans l.o)
    have i:Sp w2 (PtsA I g k K [] (List.range k) []:: [OD w.heap.size w I d]):=by
     have h:=HE.o.row o R;unfold PtsA;rw [hr.1]
     simpa using h
    have HF:=zA (l7 (by rw [B.o,l.o];omega) HP.o Z ha k w2 [] k K g k K 0 [] [] (List.range k) (zC _) i (by simp) (by omega) hn v.1 v.2 rfl);rw [hr.2]at HF;clear o R HE hr i;go_wp2_with fail;refine HF.o.mono ?_;rintro e w3 ⟨A3,m3,c3,hx,rfl,hg, -,r⟩;have C:=zA (ZR (c:=0) r (RB.none_ _) (by omega) (x:=a) (by omega))
    have hd:IntKind.u64.wrap (a:Int)=(a:Int):=(by rw [zW];omega);have hs:IntKind.u64.wrap (k:Int)=(k:Int):=(by rw [zW];omega);clear r;go_wp2_with fail;refine C.o.mono ?_;rintro e w4 ⟨A4,m4,rfl,hh,s⟩;have E:=zA (ZR (c:=m4) s (s.rb M0).1 (by omega) (x:=k) (by omega));go_wp2_with fail;refine E.o.mono ?_;rintro e w5 ⟨A5,m5,rfl,hv,P⟩;have Y:=zA (P.rb M2).1.reads
    go_wp2_with (at_builtin;refine yR yW (.tmp 55) (.tmp 56) rfl rfl P rfl rfl Y.o (xd _) (by omega) (by omega) ?_;intro A6 c6 w6 hp hw W);go_ret
    refine⟨A6,_,c6,rfl,by omega,?_⟩;have h:=W.d1.d1.d1.p1.turn (A' :=OldA w.heap.size w) fun _ G=>G.1;have h:=h.p1;rw [<-y9,zZ,<-X.o]at h;exact h
end Go.Proofs.YtjbhbfaeielbiaaGreatDoor

import Derived.Test.YtjbhbfaeielbiaaGreatDoorPart08
import Derived.Test.YtjbhbfaeielbiaaGreatDoorPart26
set_option maxRecDepth 100000
set_option maxHeartbeats 8000000
set_option linter.unusedVariables false
set_option linter.unusedSimpArgs false
namespace Go.Proofs.YtjbhbfaeielbiaaGreatDoor
open Tryz
open Rep (rep)
open Go.RowKit
attribute [local go_sem ↓] zU zV
abbrev BxA (a:Nat) (A:aA) (m c:Nat):Asn:=BlkA a 65 #[.slice A m c]
theorem putC {w:O} {L:List Asn} {g b k c c2:Nat} {i j:aA} {l p:aC} (h:Sp w (BA j c c2 p::BxA g i b k::BA i b k l::L)) (t:b+c<=100000000000000):
 Calls prog 270 #[.slice j c c2,.pointer (some ⟨g,0,none⟩)] w fun e w' =>∃d f,e= .returned (.tuple #[])/\Sp w' (BxA g d (b+c) f::BA d (b+c) f (l++p)::L):=by
 have s:=h.cl M1 0;have n:=zA (h.rb M0).1.reads;have m:=h.p2;clear h;go_enter func270,ntmps270;go_wp2_with (at_builtin;refine yR yW (.tmp 3) (.tmp 4) rfl rfl m rfl rfl n.o (xd _) (by omega) (by omega) ?_;intro d f v o q a;have u:=a.cl M2 0;have r:=(a.blkOf M2).frozen 0)
 go_end0
 refine⟨d,f,rfl,?_⟩;have h:=(a.p2.set 0 (.slice d (b+c) f)).d2;rw [<-y9]at h;exact h
def Qv (s:aB):aC:=zP s.size++s.data.toList
theorem QI (s:aB):aM (Z3 s)=Qv s:=by unfold aM Qv;rw [iM];rfl
theorem JS (A:aA) (n c:Nat) (d:List Entry) (w:O) (hl:zL w (·<w.heap.size) A n c d) (J:Y9 d=true):
 Calls prog 216 #[.slice A n c] w fun e w' =>∃A' m c',e= .returned (.tuple #[.slice A' m c',.bool true])/\m<=300000/\Sp w' [BA A' m c' (docB d),OldA w.heap.size w]:=by
 have Hl:=zA hl;have o:=zA hl.length;have y2:=@mF prog;unfold Y9 at J;simp only [zM,decide_eq_true_eq]at J;obtain⟨Z,ha⟩:=J;have x6:n<=64:=by rw [<-o.o];exact Z
 have Ho:=zA (List.all_eq_true.1 ha);obtain⟨Bb,hz⟩:=eX (w.heap.size);have K:=(((Sp.start w).nil 5 1).blkH 65 #[.slice none 0 0] hz);have hp:=zA (ZR (c:=0) K (RB.none_ _) (by omega) (x:=n) (by omega));clear hl Z ha;go_enter func216,ntmps216;go_wp2_with fail;refine hp.o.mono ?_;rintro e w1 ⟨i,u,rfl,xb,L⟩;have hg:=zA (putC (c2:=u) (l:= []) L (by omega));go_wp2_with fail
 refine hg.o.mono ?_;rintro e w2 ⟨A2,c2,rfl,N⟩;go_wp2
 go_loopg [19] n (fun gk vi wr=>∃(k:Nat) (i:aA) (u q:Nat) (l:aC),vi= .int .i64 k/\k<=n/\gk=n - k/\u<=10+4300*k/\Hid (docB d=l++(d.drop k).flatMap Xh)/\Sp wr [BxA Bb i u q,BA i u q l,OldA w.heap.size w])
 case atStart=>exact⟨0,A2,_,c2,_,rfl,zJ _,rfl,by omega,by show _=_;unfold docB;rw [o.o];rfl,N⟩
 case round=>
  obtain⟨k,i,u,q,l,rfl,hk,rfl,xb,HD,r⟩:=hrel;clear K L N
  by_cases h9:k<n
  ·obtain⟨b,off,e,rfl,He,hb,X⟩:=Hl.o.at_ h9
   obtain⟨A5,g,c5,e0,e1,e2,h5,h6,h7⟩:=Entry.at_ X
   obtain⟨h1,h2,S⟩:e.field.size<=24/\e.text.size<=4096/\e.numbers.length<=4:=by
    have:=Ho.o e (zD He.o);unfold XP at this;simp only [zM,decide_eq_true_eq]at this;exact⟨this.1.1,this.1.2,this.2⟩
   have y:=r.below M2;have U:=(y.cell (p:=⟨b,off+k*3,none⟩) hb).trans e0;have W:=(y.cell (p:=⟨b,off+k*3+1,none⟩) hb).trans e1;have h4:=(y.cell (p:=⟨b,off+k*3+2,none⟩) hb).trans e2;obtain⟨f,hf⟩:=eX (e.field);obtain⟨t,ht⟩:=eX (e.text);rw [hf]at U h1;rw [ht]at W h2;have y4:g<=4:=(by rw [<-h5.length];exact S);have x2:(f.size:Int)<=24:=(by omega)
   have x8:(t.size:Int)<=4096:=(by omega);have x5:(g:Int)<=4:=(by omega);have x1 :(n:Int)<=64:=(by omega)
   have ho:Hid (Xh e=Qv f++(Qv t++(zP g++e.numbers.flatMap fun z=>zP (yc z)))):=by
    show _=_;unfold Xh;rw [QI,QI,hf,ht,h5.length]
   have hv:=zA (yb He.o);have H5:=zA h5;obtain⟨Be,h0⟩:=eX (wr.heap.size);have R:=r.blkH 86 #[.string f,.string t,.slice A5 g c5] h0;have hr:=zA (cD (c:=0) R.p2.p2 (RB.none_ _) (s:=f) (by omega));clear e0 e1 e2 X h5 h6 h7 hf ht y r S;go_wp2_with fail;refine hr.o.mono ?_;rintro H w3 ⟨A3,m3,rfl,xi,P⟩
   have B :Sp w3 [BA A3 m3 m3 (Qv f),BxA Bb i u q,BA i u q l,BlkA Be 86 #[.string f,.string t,.slice A5 g c5],OldA w.heap.size w]:=by
    simpa [Qv]using P
   have hh:=zA (putC B (by omega));clear P B R U W h4;go_wp2_with fail;refine hh.o.mono ?_;rintro H w4 ⟨A6,c6,rfl,C⟩;have q1:=C.cl M2 1;have hs:=zA (cD (c:=0) C (RB.none_ _) (s:=t) (by omega));go_wp2_with fail;refine hs.o.mono ?_;rintro H w5 ⟨A7,m7,rfl,xn,D⟩;rw [zZ]at D;have hi:=zA (putC D (by omega));clear C q1;go_wp2_with fail;refine hi.o.mono ?_
   rintro H w6 ⟨A8,c8,rfl,E⟩;have q2:=E.cl M2 2;have hu:=zA (ZR (c:=0) E (RB.none_ _) (x:=g) (by omega) (by omega));clear D;go_wp2_with fail;refine hu.o.mono ?_;rintro H w7 ⟨A9,m9,rfl,xs,F⟩;rw [zZ]at F;have hm:=zA (putC F (by omega));clear E q2;go_wp2_with fail;refine hm.o.mono ?_;rintro H w8 ⟨hd,hx,rfl,v⟩;have q2:=v.cl M2 2
   obtain⟨base,a⟩:=eX (l++Qv f++Qv t++zP g);obtain⟨mb,Y⟩:=eX (u+m3+m7+m9);have x4:mb<=10+4300*k+34+4106+10:=(by omega);have T:l++Qv f++(zP t.size++t.data.toList)++zP g=base:=a;rw [T,Y]at v;have G:=zA a;clear F a T Y xi xn xs;go_wp2
   go_loopg [64] g (fun gq vi wq=>∃(j:Nat) (i:aA) (mj q:Nat) (l1:aC),vi= .int .i64 j/\j<=g/\gq=g - j/\mj<=mb+10*j/\Hid (base++(e.numbers.flatMap fun z=>zP (yc z))=l1++((e.numbers.drop j).flatMap fun z=>zP (yc z)))/\Sp wq [BxA Bb i mj q,BA i mj q l1,BlkA Be 86 #[.string f,.string t,.slice A5 g c5],OldA w.heap.size w])
   case atStart=>exact⟨0,hd,mb,hx,base,rfl,zJ _,rfl,by omega,rfl,v⟩
   case round=>
    obtain⟨j,i,mj,q,l1,rfl,hj,rfl,y3,HQ,r⟩:=hrel;clear v q2
    by_cases h8:j<g
    ·obtain⟨b2,hc,z,rfl,Hz,h3,I⟩:=H5.o.at_ h8
     have y1:=((r.below M3).cell (p:=⟨b2,hc+j,none⟩) h3).trans I.int.1;have HP:=zA (pInt (c:=0) r (RB.none_ _) (x:=z) (by omega) I.int.2);have hw:=zA (yb Hz.o);clear I;go_wp2_with fail;refine HP.o.mono ?_;rintro H w9 ⟨ys,y5,rfl,x3,Q⟩;rw [zZ]at Q;have HC:=zA (putC Q (by omega));clear r;go_wp2_with fail;refine HC.o.mono ?_;rintro H y6 ⟨he,hy,rfl,M⟩;go_wp2
     go_roundg (g - (j+1))
     ·exact⟨j+1,he,_,hy,_,by go_num,by omega,rfl,by omega,by show _=_;rw [HQ.o,hw.o];simp,M⟩
     ·omega
    ·obtain rfl:j=g:=by omega
     have h:e.numbers.drop j= []:=zQ (by rw [H5.o.length];omega);have hQ:=HQ.o;rw [h,x7,zo]at hQ
     have hn:Hid (docB d=l1++(d.drop (k+1)).flatMap Xh):=by
      show _=_;rw [HD.o,hv.o,zp,ho.o,<-hQ,<-G.o];simp
     clear h hQ;go_wp2
     go_roundg (n - (k+1))
     ·exact⟨k+1,i,mj,q,l1,by go_num,by omega,rfl,by omega,hn,r.d2⟩
     ·omega
  ·obtain rfl:k=n:=by omega
   have h:d.drop k= []:=zQ (by rw [o.o];omega);have hD:=HD.o;rw [h]at hD;have y0:=r.cl M0 0;go_wp2;go_ret2;refine⟨i,u,q,rfl,by omega,?_⟩;rw [hD]
   simpa using r.tail
abbrev OQ:=Int×Int×aC
def chks:Nat->List N7->List OQ
 |_, []=> []
 |s,g::gs=>((s:Int),((s+g.length:Nat):Int),grpB g)::chks (s+g.length) gs
theorem Ul (g:N7):∀(gs:List N7) (s:Nat),chks s (gs++ [g])=chks s gs++ [(((s+gs.flatten.length:Nat):Int),((s+gs.flatten.length+g.length:Nat):Int),grpB g)]
 | [],s=>by simp [chks]
 |x::gs,s=>by simp [chks,Ul g gs,Nat.add_assoc]
theorem L0:Elt prog 204 206 3 40:=xt underlying204 (by decide) (by kernel_rfl)
def UK (gs:List N7):Bool:=match gs.getLast? with|none=>true|some g=>decide (256<=(grpB g).length)
theorem sW {gs:List N7} (d:List Entry) (h:UK gs=true):YF gs d=gs++ [[d]]:=by
 unfold UK at h;unfold YF;rcases hl:gs.getLast? with _|g
 ·rw [List.getLast?_eq_none_iff]at hl;subst hl;rfl
 ·rw [hl]at h;simp only [decide_eq_true_eq]at h;simp only [if_pos h]
theorem sV {init:List N7} {g:N7} (d:List Entry) (h:UK (init++ [g])=false):YF (init++ [g]) d=init++ [g++ [d]]:=by
 unfold UK at h;unfold YF;simp only [List.getLast?_append,List.getLast?_singleton,Option.some_or,decide_eq_false_iff_not]at h⊢;rw [if_neg h];simp
theorem IJ {l:aF} {o:Nat} (f:l.length=o) (a b c d e :V):((l++ [a,b,c]).set (o+2) e).set (o+1) d =l++ [a,d,e]:=by
 subst f;rw [xB _ _ (by omega),xB _ _ (by omega)];simp
theorem JQ {l:aF} {o:Nat} (d:l.length=o) (a b c:V):(l++ [a,b,c])[o+1]? =some b/\(l++ [a,b,c])[o+2]? =some c:=by
 subst d
 constructor<;>rw [zR (by omega)]<;>simp
theorem jR (init:List N7) (g:N7):UK (init++ [g])=decide (256<=(grpB g).length):=by
 simp [UK]
inductive CutSt (gs:List N7) (B:Nat) (w0:O) (v4:V) (wr:O):Bool->Prop where
 |shut {Ao:aA} {co:Nat} {css:List aF} (hv:v4= .slice Ao gs.length co) (hf:UK gs=true) (hs:Sp wr [RowA 206 3 (.slice Ao gs.length co) gs.length css.flatten,ElsA css (chks 0 gs),OldA B w0]):CutSt gs B w0 v4 wr true
 |open_ {init:List N7} {g:N7} {Ao Al:aA} {co q ml cl:Nat} {css:List aF} (hg:gs=init++ [g]) (hq:q=init.length+1) (hv:v4= .slice Ao q co) (hf:UK gs=false)
  (hs:Sp wr [RowA 206 3 (.slice Ao q co) q (css.flatten++ [.int .i64 (init.flatten.length:Nat),.int .i64 (gs.flatten.length:Nat),.slice Al ml cl]),ElsA css (chks 0 init),BA Al ml cl (grpB g),OldA B w0]):CutSt gs B w0 v4 wr false
theorem L5 (A:aA) (n c:Nat) (docs:N7) (w:O) (hl:zL w (·<w.heap.size) A n c docs) (hn:n<=16384) (X:∀d∈docs,Y9 d=true):
 Calls prog 163 #[.slice A n c] w fun e w' =>∃Ao q co css,e= .returned (.tuple #[.slice Ao q co,.bool true])/\q=(yL docs).length/\
  Sp w' [RowA 206 3 (.slice Ao q co) q css.flatten,ElsA css (chks 0 (yL docs)),OldA w.heap.size w]:=by
 have Hl:=zA hl;have i:=zA hl.length;have hi:=zA X;have h7 :(n:Int)<=16384:=by omega
 have L:=((Sp.start w).elsNil (α:=OQ)).nil 206 3;clear hl X;go_enter func163,ntmps163;go_wp2
 go_loopg [4,5,16] n (fun gk v4 v5 vi wr=>∃(k:Nat) (full:Bool),vi= .int .i64 k/\k<=n/\gk=n - k/\v5= .bool full/\Hid (CutSt (yL (docs.take k)) w.heap.size w v4 wr full))
 case atStart=>exact⟨0,true,rfl,zJ _,rfl,rfl,.shut (Ao:=none) (co:=0) (css:= []) rfl rfl L⟩
 case round=>
  obtain⟨k,full,rfl,hk,rfl,rfl,E⟩:=hrel;clear L
  by_cases hr:k<n
  ·obtain⟨b,off,d,rfl,Hd,hb,Q⟩:=Hl.o.at_ hr
   obtain⟨A5,n5,c5,e0,h5⟩:=Q.list
   have t:Below w.heap.size w wr:=by
    cases E.o with
    |shut _ _ hs=>exact hs.below M2
    |open_ _ _ _ _ hs=>exact hs.below M3
   have h4:=(t.cell (p:=⟨b,off+k,none⟩) hb).trans e0;have HF:=zA (JS A5 n5 c5 d wr ((h5.below t).more fun x hx=>zX hx t.size) (hi.o d (zD Hd.o)));clear t e0 h5 Q;go_wp2_with fail;refine HF.o.mono ?_;rintro e w2 ⟨A8,m,c8,rfl,h6,HT⟩
   go_upto_if 28 with fail
   have J:(yL (docs.take k)).length<=k:=(by have:=Qi (docs.take k);rw [zr]at this;omega);have I:(yL (docs.take k)).flatten.length=k:=(by rw [ZK,zr,i.o];omega);have ha:docs.take (k+1)=docs.take k++ [d]:=(by rw [zI,Hd.o];rfl);have P:=zA ha;clear ha
   go_cut [4]from 29 to 33 (fun v4 W=>∃(init:List N7) (g:N7) (Ao Al:aA) (co q ml cl:Nat) (css:List aF) (te:Int),v4= .slice Ao q co/\Hid (q=init.length+1)/\Hid (yL (docs.take (k+1))=init++ [g++ [d]])/\q<=k+1/\ml<=256/\
    Sp W [RowA 206 3 (.slice Ao q co) q (css.flatten++ [.int .i64 (init.flatten.length:Nat),.int .i64 te,.slice Al ml cl]),ElsA css (chks 0 init),BA Al ml cl (grpB g),BA A8 m c8 (docB d),OldA w.heap.size w])
   case first=>
    cases E.o with
    | @shut Ao co css hv hf hs=>
      subst hv;have h:=(hs.c1 HT).p1;have Hf:=zA hf;obtain⟨q,o⟩:=eX ((yL (docs.take k)).length);rw [o]at h J;have G:=zA o;rw [o];clear hs hf HT o E
      go_wp2_with (at_builtin;refine yC L0 (.tmp 29) (.tmp 32) rfl rfl h rfl (cs:= #[.int .i64 (k:Int),.int .i64 0,.slice none 0 0]) rfl rfl rfl (by intro u hu;simp at hu;rcases hu with rfl|rfl|rfl<;>rfl) (by omega) (by omega) ?_;intro y z w3 hm ht hd)
      go_meet
      refine⟨yL (docs.take k), [],y,none,z,q+1,0,0,css,0,rfl,by show _=_;rw [G.o],by show _=_;rw [P.o,iA,sW d Hf.o];rfl,by omega,by omega,?_⟩;rw [I];exact(hd.nil 5 1).sel [1,3,0,2,4]
    | @open_ init g Ao Al co q ml cl css hg o hv hf hs=>
      subst hv;have h:=hs.c1 HT
      have U:ml<=256:=by
       have:=(hs.rb M2).1.len;have H:=hf;rw [hg]at H;unfold UK at H;simp only [List.getLast?_append,List.getLast?_singleton,Option.some_or,decide_eq_false_iff_not]at H;omega
      have hp:yL (docs.take (k+1))=init++ [g++ [d]]:=by
       rw [P.o,iA,hg];exact sV d (by rw [<-hg];exact hf)
      have Z:q<=k+1:=(by rw [hg]at J;simp at J;omega);go_wp2
      go_meet
      exact⟨init,g,Ao,Al,co,q,ml,cl,css,_,rfl,o,hp,Z,U,h.sel [1,2,3,0,4]⟩
   case rest=>
    obtain⟨init,g,Ao,Al,co,q,ml,cl,css,te,rfl,G,N,Z,U,h⟩:=hcut;clear HT E;have hw:=G.o;obtain⟨f,Y⟩:∃f,init.length=f :=⟨_,rfl⟩;obtain⟨s,rfl,_,_,_⟩:=(h.rowOf M0).at_ (by omega)
    have K:=(h.rowOf M0).1;rw [zG]at K;have ho:css.flatten.length=f *3:=(by simp only [z6,yO]at K;omega);obtain⟨g1,g2⟩:=JQ ho (.int .i64 (init.flatten.length:Nat)) (.int .i64 te) (.slice Al ml cl);have r1:wc.cell? ⟨s,f *3+1,none⟩=some (.int .i64 te):=h.rowCell M0 g1;have r2:wc.cell? ⟨s,f *3+2,none⟩=some (.slice Al ml cl):=h.rowCell M0 g2
    have h8:IntKind.i64.wrap ((q:Int) - 1)=(f :Int):=(by rw [zT];omega);have hy:(q:Int) - 1=(f :Int):=(by omega);have hz:(f :Int)<q:=(by omega);have h0:(0:Int)<=f :=(by omega);have hj:=zA (h.rb M3).1.reads;have R:=(h.rb M2).1.len;have T:=(h.rb M3).1.len
    have F:Hid ((grpB (g++ [d])).length=ml+m/\grpB (g++ [d])=grpB g++docB d):=by
     have e:grpB (g++ [d])=grpB g++docB d:=(by simp [grpB]);exact⟨by rw [e,zG,R,T],e⟩
    have M:=h.p2;have he:=zA g1;have hh:=zA g2;have Ho:=zA ho;have h3 :=zA Y;clear h K hw Y ho g1 g2 R T
    go_wp2_with (at_builtin;refine yR yW (.tmp 44) (.tmp 45) rfl rfl M rfl rfl hj.o (xd _) (by omega) (by omega) ?_;intro y z w3 hm ht l;have s1:w3.cell? ⟨s,f *3+1,none⟩=some (.int .i64 te):=l.rowCell M1 he.o;have s2:w3.cell? ⟨s,f *3+2,none⟩=some (.slice Al ml cl):=l.rowCell M1 hh.o;have s3:=l.rowFree M1 (f *3+1);have s4:=l.rowFree M1 (f *3+2))
    have a:=(l.p1.rowSet (f *3+2) (.slice y (ml+m) z)).rowSet (f *3+1) (.int .i64 ((k:Int)+1));rw [IJ Ho.o,<-y9,<-F.o.2]at a;generalize (w3.setCell ⟨s,f *3+2,none⟩ (.slice y (ml+m) z)).setCell ⟨s,f *3+1,none⟩ (.int .i64 ((k:Int)+1))=w4 at a⊢;have j:(init++ [g++ [d]]).flatten.length=k+1:=(by rw [<-N.o,ZK,zr,i.o];omega)
    have v:(init++ [g++ [d]]).length=q:=(by rw [zG,G.o];rfl)
    have hc:Hid (CutSt (yL (docs.take (k+1))) w.heap.size w (.slice (some ⟨s,0,none⟩) q co) w4 (decide ((256:Int)<=(ml:Int)+(m:Int)))):=by
     show CutSt _ _ _ _ _ _;rw [N.o]
     by_cases B:256<=ml+m
     ·rw [decide_eq_true (show(256:Int)<=(ml:Int)+(m:Int) by omega)]
      have h1:=((a.p1.bytes).mk1 (α:=OQ) (cs:= [.int .i64 (init.flatten.length:Nat),.int .i64 ((k:Int)+1),.slice y (ml+m) z]) (x:=((init.flatten.length:Int),(k:Int)+1,grpB (g++ [d]))) fun S r=>
       (show rep w4 S [.int .i64 (init.flatten.length:Nat),.int .i64 ((k:Int)+1),.slice y (ml+m) z] (((init.flatten.length:Int),(k:Int)+1,grpB (g++ [d])):OQ)from
        ⟨_,_,rfl,⟨rfl,show In64 (init.flatten.length:Int) by simp only [yf,zG]at j;unfold In64;omega⟩,_,_,rfl,⟨rfl,show In64 ((k:Int)+1) by unfold In64;omega⟩,r⟩))
      have H:=h1.p2.p1.elsPush.p1.d2;refine .shut (Ao:=some ⟨s,0,none⟩) (co:=co) (by rw [v]) (by rw [jR,F.o.1];simpa using B) (css:=css++ [[.int .i64 (init.flatten.length:Nat),.int .i64 ((k:Int)+1),.slice y (ml+m) z]]) ?_;rw [v,Ul]
      have e:0+init.flatten.length+(g++ [d]).length=k+1:=by
       rw [yf,zG]at j;simp at j⊢;omega
      rw [e,zx]
      simpa using H
     ·rw [decide_eq_false (show ¬(256:Int)<=(ml:Int)+(m:Int) by omega)];refine .open_ (init:=init) (g:=g++ [d]) (Ao:=some ⟨s,0,none⟩) (Al:=y) (co:=co) (q:=q) (ml:=ml+m) (cl:=z) (css:=css) rfl G.o rfl (by rw [jR,F.o.1];simpa using B) ?_;rw [j];exact a.sel [0,2,1,4]
    clear l a M s1 s2 s3 s4 r1 r2
    go_roundg (n - (k+1))
    ·exact⟨k+1,_,by go_num,by omega,rfl,rfl,hc⟩
    ·omega
  ·obtain rfl:k=n:=by omega
   have C:docs.take k=docs:=zF (by rw [i.o];omega);rw [C]at E
   have D:Hid (∃Ao q co css,u4= .slice Ao q co/\q=(yL docs).length/\Sp wr [RowA 206 3 (.slice Ao q co) q css.flatten,ElsA css (chks 0 (yL docs)),OldA w.heap.size w]):=by
    have I:(yL docs).flatten.length=k:=(by rw [ZK,i.o]);cases E.o with
    | @shut Ao co css hv hf hs=>exact⟨Ao,_,co,css,hv,rfl,hs⟩
    | @open_ init g Ao Al co q ml cl css hg o hv hf hs=>
      have v:(yL docs).length=q:=(by rw [hg,zG,o];rfl)
      have h1:=((hs.p2.bytes).mk1 (α:=OQ) (cs:= [.int .i64 (init.flatten.length:Nat),.int .i64 ((yL docs).flatten.length:Nat),.slice Al ml cl]) (x:=((init.flatten.length:Int),((yL docs).flatten.length:Int),grpB g)) fun S r=>
       (show rep wr S [.int .i64 (init.flatten.length:Nat),.int .i64 ((yL docs).flatten.length:Nat),.slice Al ml cl] (((init.flatten.length:Int),((yL docs).flatten.length:Int),grpB g):OQ)from
        ⟨_,_,rfl,⟨rfl,show In64 (init.flatten.length:Int) by rw [hg,yf,zG]at I;unfold In64;omega⟩,_,_,rfl,⟨rfl,show In64 ((yL docs).flatten.length:Int) by unfold In64;omega⟩,r⟩))
      have H:=h1.p2.p1.elsPush.p1;refine⟨Ao,q,co,css++ [[.int .i64 (init.flatten.length:Nat),.int .i64 ((yL docs).flatten.length:Nat),.slice Al ml cl]],hv,v.symm,?_⟩
      have e:chks 0 (yL docs)=chks 0 init++ [((init.flatten.length:Int),((yL docs).flatten.length:Int),grpB g)]:=by
       rw [hg,Ul];simp
      rw [e]
      simpa using H
   obtain⟨Ao,q,co,css,rfl,o,h⟩:=D.o;have G:=zA o;clear o D E C;go_wp2;go_ret2;exact⟨Ao,q,co,css,rfl,G.o,h⟩
theorem Wr {α:Type} {f:α->aC} {B:Nat}:∀{l:List α},(∀x∈l,(f x).length<=B)->(l.flatMap f).length<=B*l.length
 | [],_=>by simp
 |x::l,h=>by
  have b:=h x (by simp);have c:=Wr (f:=f) (B:=B) (l:=l) fun y a=>h y (by simp [a]);simp only [zp,zG,z6,Nat.mul_add];omega
theorem XN {α:Type} {f:α->aC}:∀{l:List α} {x:α},x∈l->(f x).length<=(l.flatMap f).length
 |y::l,x,h=>by
  rw [zp,zG];rcases yx.1 h with rfl|h
  ·omega
  ·have:=XN (f:=f) h;omega
theorem XD:∀{l:List N7} {x:N7},x∈l->x.length<=l.flatten.length
 |y::l,x,h=>by
  rw [yM,zG];rcases yx.1 h with rfl|h
  ·omega
  ·have:=XD h;omega
theorem XI (l:List N7) (k:Nat):(l.take k).flatten.length<=l.flatten.length:=by
 conv=>rhs;rw [<-zu k l,yf,zG]
 omega
theorem GU {z:Int} (h:In64 z):(zP (yc z)).length<=10:=ya (QH h)
def QB (d:List Entry):Prop:=∀e∈d,∀z∈e.numbers,In64 z
theorem nX {d:List Entry} (h:Y9 d=true) (i:QB d):(docB d).length<=300000:=by
 unfold Y9 at h;simp only [zM,decide_eq_true_eq]at h;obtain⟨k,g⟩:=h
 have m:=Wr (f:=Xh) (B:=4200) (l:=d) fun e b=>by
  have a:=List.all_eq_true.1 g e b;unfold XP at a;simp only [zM,decide_eq_true_eq]at a;have o:=Wr (f:=fun z=>zP (yc z)) (B:=10) (l:=e.numbers) fun z j=>GU (i e b z j);have p:=ya (n:=e.field.size) (by omega);have q:=ya (n:=e.text.size) (by omega);have r:=ya (n:=e.numbers.length) (by omega);have s:e.field.data.toList.length=e.field.size:=(by simp)
  have c:e.text.data.toList.length=e.text.size:=(by simp);unfold Xh;rw [QI,QI];simp only [Qv,zG];omega
 have a:=ya (n:=d.length) (by omega);unfold docB;rw [zG];omega
theorem fD:∀{gs:List N7} {s k:Nat} {g:N7},gs[k]? =some g->(chks s gs)[k]? =some (((s+(gs.take k).flatten.length:Nat):Int),((s+(gs.take k).flatten.length+g.length:Nat):Int),grpB g)
 | [],_,_,_,h=>by simp at h
 |x::gs,s,0,g,h=>by simp at h;subst h;simp [chks]
 |x::gs,s,k+1,g,h=>by
  have:=fD (s:=s+x.length) (gs:=gs) (k:=k) (g:=g) (by simpa using h);simp only [chks,zj,this,xL,yM,zG,Nat.add_assoc]
theorem qH {w:O} {F:Nat->Prop} {b off k:Nat} {x:OQ} (h:xp w F b off k x):∃A n c,w.cell? ⟨b,off+k*3,none⟩=some (.int .i64 x.1)/\w.cell? ⟨b,off+k*3+1,none⟩=some (.int .i64 x.2.1)/\w.cell? ⟨b,off+k*3+2,none⟩=some (.slice A n c)/\zL w F A n c x.2.2:=by
 obtain⟨cs,⟨_,_,rfl,⟨rfl,_⟩,_,_,rfl,⟨rfl,_⟩,A,n,c,rfl,d⟩,a⟩:=h;exact⟨A,n,c,a 0 _ rfl,a 1 _ rfl,a 2 _ rfl,d⟩
theorem gN (A:aA) (n c:Nat) (docs:N7) (w:O) (hl:zL w (·<w.heap.size) A n c docs) (hn:n<=16384) (N:∀d∈docs,Y9 d=true/\QB d):
 Calls prog 87 #[.slice A n c] w fun e w' =>∃A' m c',e= .returned (.slice A' m c')/\Sp w' [BA A' m c' (ZB docs),OldA w.heap.size w]:=by
 have v:=zA hl.length;have hv:=zA (L5 A n c docs w hl hn fun d hd=>(N d hd).1)
 have hr:(docs.flatMap docB).length<=300000*16384:=by
  have h:=Wr (f:=docB) (B:=300000) (l:=docs) fun d hd=>nX (N d hd).1 (N d hd).2;rw [hl.length]at h;exact zY h (Nat.mul_le_mul_left _ hn)
 clear hl N;go_enter func87,ntmps87;go_wp2_with fail;refine hv.o.mono ?_;rintro e w1 ⟨Ao,q,co,css,rfl,hq,Q⟩;obtain⟨gs,s⟩:=eX (yL docs);rw [s]at hq Q;have hb:=Q.els (α:=OQ);have aa:q<=16384:=by have:=Qi docs;rw [s,v.o]at this;omega
 have hh:gs.flatMap grpB=docs.flatMap docB:=by rw [<-s];exact XO docs
 have h9:Hid (ZB docs=(zP n++zP q)++(gs.flatMap ZF++gs.flatMap grpB)):=by
  show _=_;unfold ZB;rw [v.o,s,<-hq];simp
 have hi:∀g∈gs,(grpB g).length<=300000*16384/\g.length<=16384:=by
  intro g hg;have h1:=XN (f:=grpB) hg;have h2:=XD hg;have h3:gs.flatten.length=n:=(by rw [<-s,ZK,v.o]);rw [hh]at h1;omega
 have he:=zA hi;have h8:Hid (gs.flatten.length<=16384):=by show _<=_;rw [<-s,ZK,v.o];exact hn
 have Hq:=zA hq.symm;have h0:=zA (ZR (c:=0) hb (RB.none_ _) (x:=n) (by omega) (by omega));clear Q hq s hh hi hr;go_wp2_with fail;refine h0.o.mono ?_;rintro e w2 ⟨A2,m2,rfl,y5,J⟩;rw [zZ]at J;have h4:=zA (ZR (c:=m2) J (J.rb M0).1 (x:=q) (by omega) (by omega));go_wp2_with fail;refine h4.o.mono ?_;rintro e w3 ⟨A3,m3,rfl,y6,hc⟩;have o:=hc.d1;clear hb J hc;go_wp2
 go_loopg [5,27] q (fun gk vb vi wr=>∃(k:Nat) (I:aA) (C L:Nat) (l:aC),vi= .int .i64 k/\k<=q/\gk=q - k/\vb= .slice I C L/\C<=20+20*k/\Hid (ZB docs=l++((gs.drop k).flatMap ZF++gs.flatMap grpB))/\Sp wr [BA I C L l,DatA (.slice Ao q co) (chks 0 gs),OldA w.heap.size w])
 case atStart=>exact⟨0,A3,m3,m3,_,rfl,zJ _,rfl,rfl,by omega,h9.o,o⟩
 case round=>
  obtain⟨k,I,C,L,l,rfl,hk,rfl,rfl,xs,HD,P⟩:=hrel;clear o
  by_cases ho:k<q
  ·obtain⟨g,S⟩:∃g,Hid (gs[k]? =some g):=⟨_,zB (by rw [Hq.o];exact ho)⟩;obtain⟨X,Y⟩:=he.o g (zD S.o);obtain⟨b,off,x,rfl,Hx,_,G⟩:=(P.ls M1).at_ ho
   have t:=Hx.o;rw [fD S.o]at t;obtain rfl:=yG t;obtain⟨u,a,y,e0,e1,e2,h5⟩:=qH G;have M:(grpB g).length=a:=h5.length;obtain⟨E,hf⟩:=eX ((0+(gs.take k).flatten.length));obtain⟨z,hz⟩:=eX (g.length);obtain⟨H,hs⟩:=eX (E+z);simp only [hf,hz,hs]at e0 e1;have y4:E<=16384:=(by have:=XI gs k;have:=h8.o;omega)
   have x6:IntKind.i64.wrap ((H:Int) - (E:Int))=(z:Int):=(by rw [zT];omega);have x2:(H:Int) - (E:Int)=(z:Int):=(by omega);have x3:IntKind.i64.wrap (z:Int)=(z:Int):=(by rw [zT];omega);have x4:IntKind.u64.wrap (z:Int)=(z:Int):=(by rw [zW];omega);have x5:IntKind.u64.wrap (a:Int)=(a:Int):=(by rw [zW];omega);obtain⟨i,T⟩:=eX (wr.heap.size)
   have r:=(P.blkH 206 #[.int .i64 (E:Int),.int .i64 (H:Int),.slice u a y] T).drew;have h6:=zA (ZR (c:=0) r (RB.none_ _) (x:=z) (by omega) (by omega))
   have y2:(wr.alloc (.cells #[.int .i64 (E:Int),.int .i64 (H:Int),.slice u a y] 206)).drew.cell? ⟨i,0,none⟩=some (.int .i64 (E:Int))/\(wr.alloc (.cells #[.int .i64 (E:Int),.int .i64 (H:Int),.slice u a y] 206)).drew.cell? ⟨i,1,none⟩=some (.int .i64 (H:Int))/\(wr.alloc (.cells #[.int .i64 (E:Int),.int .i64 (H:Int),.slice u a y] 206)).drew.cell? ⟨i,2,none⟩=some (.slice u a y):=⟨r.cell M0 0,r.cell M0 1,r.cell M0 2⟩
   have xb:Hid (ZF g=zP z++zP a):=(by show _=_;unfold ZF;rw [hz,M]);have R:=zA (yb S.o);have hp:a<=10000000000:=(by omega);have ab:z<=16384:=(by omega);have x8:z<18446744073709551616:=(by omega);have Z:a<18446744073709551616:=(by omega);clear G h5 M hf hz hs X Y t;go_wp2
   go_region_held3 (fun W=>W.cell? ⟨i,0,none⟩=some (.int .i64 (E:Int))/\W.cell? ⟨i,1,none⟩=some (.int .i64 (H:Int))/\W.cell? ⟨i,2,none⟩=some (.slice u a y)) (first|with_reducible assumption|fail)
    (first
     |(go_at_call 85;(with_reducible refine h6.o.mono ?_);rintro e w5 ⟨A6,m6,rfl,y7,o⟩;have ys:w5.cell? ⟨i,0,none⟩=some (.int .i64 (E:Int))/\w5.cell? ⟨i,1,none⟩=some (.int .i64 (H:Int))/\w5.cell? ⟨i,2,none⟩=some (.slice u a y):=⟨o.cell M1 0,o.cell M1 1,o.cell M1 2⟩;have h7:=zA (ZR (c:=m6) o (o.rb M0).1 (x:=a) (by omega) Z))
     |(go_at_call 85;(with_reducible refine h7.o.mono ?_);rintro e w6 ⟨A7,m7,rfl,y8,F⟩;have y0:w6.cell? ⟨i,0,none⟩=some (.int .i64 (E:Int))/\w6.cell? ⟨i,1,none⟩=some (.int .i64 (H:Int))/\w6.cell? ⟨i,2,none⟩=some (.slice u a y):=⟨F.cell M2 0,F.cell M2 1,F.cell M2 2⟩)
     |(refine XT yW (.tmp 31) (.tmp 43) rfl rfl F.p3 rfl rfl (F.rb M0).1.reads (xd _) (by omega) (by omega) ?_;intro A8 c8 w8 xn x1 D;have y1:w8.cell? ⟨i,0,none⟩=some (.int .i64 (E:Int))/\w8.cell? ⟨i,1,none⟩=some (.int .i64 (H:Int))/\w8.cell? ⟨i,2,none⟩=some (.slice u a y):=⟨D.cell M3 0,D.cell M3 1,D.cell M3 2⟩)
     |fail)
   go_wp2
   have K:Sp w8 [BA A8 (C+m7) c8 (l++ZF g),DatA (.slice (some ⟨b,off,none⟩) q co) (chks 0 gs),OldA w.heap.size w]:=by
    have h:=D.d1.d1.d1;rw [<-y9,zZ,<-xb.o]at h;exact h
   go_roundg (q - (k+1))
   ·exact⟨k+1,A8,C+m7,c8,l++ZF g,by go_num,by omega,rfl,rfl,by omega,by show _=_;rw [HD.o,R.o];simp,K⟩
   ·omega
  ·obtain rfl:k=q:=by omega
   have p:gs.drop k= []:=zQ (by rw [Hq.o];omega);have U:=HD.o;rw [p,x7,zZ]at U;have hw:=zA U;clear p U;go_wp2
   go_loopg [5,48] k (fun gk vb vi wr=>∃(j:Nat) (I:aA) (C L:Nat) (l:aC),vi= .int .i64 j/\j<=k/\gk=k - j/\vb= .slice I C L/\C<=20+20*k+5000000000*j/\Hid (ZB docs=l++(gs.drop j).flatMap grpB)/\Sp wr [BA I C L l,DatA (.slice Ao k co) (chks 0 gs),OldA w.heap.size w])
   case atStart=>exact⟨0,I,C,L,l,rfl,zJ _,rfl,rfl,by omega,hw.o,P⟩
   case round=>
    obtain⟨j,I,C,L,l,rfl,hj,rfl,rfl,xs,ha,P⟩:=hrel
    by_cases hm:j<k
    ·obtain⟨g,S⟩:∃g,Hid (gs[j]? =some g):=⟨_,zB (by rw [Hq.o];exact hm)⟩;obtain⟨X,Y⟩:=he.o g (zD S.o);obtain⟨b,off,x,rfl,Hx,_,G⟩:=(P.ls M1).at_ hm
     have t:=Hx.o;rw [fD S.o]at t;obtain rfl:=yG t;obtain⟨u,a,y,e0,e1,e2,h5⟩:=qH G;have M:(grpB g).length=a:=h5.length;obtain⟨v0,ht⟩:=eX (((0+(gs.take j).flatten.length:Nat):Int));obtain⟨v1,hu⟩:=eX (((0+(gs.take j).flatten.length+g.length:Nat):Int));simp only [ht]at e0;simp only [hu]at e1;obtain⟨i,T⟩:=eX (wr.heap.size)
     have r:=(P.blkH 206 #[.int .i64 v0,.int .i64 v1,.slice u a y] T);have y3:(wr.alloc (.cells #[.int .i64 v0,.int .i64 v1,.slice u a y] 206)).cell? ⟨i,2,none⟩=some (.slice u a y):=r.cell M0 2;have xi:=zA ((h5.rb (fun x hx=>hx)).on (zE _ _|>.alloc (zC _) (.cells #[.int .i64 v0,.int .i64 v1,.slice u a y] 206))|>.reads)
     have hp:a<=4915200000:=(by omega);have R:=zA (yb S.o);clear G h5 M ht hu X Y t;go_wp2_with (at_builtin;refine yR yW (.tmp 52) (.tmp 54) rfl rfl r.p1 rfl rfl xi.o (xd _) (by omega) (by omega) ?_;intro A8 c8 w8 xn x1 D);have K:=D.d1;rw [<-y9]at K
     go_roundg (k - (j+1))
     ·exact⟨j+1,A8,C+a,c8,_,by go_num,by omega,rfl,rfl,by omega,by show _=_;rw [ha.o,R.o];simp,K⟩
     ·omega
    ·obtain rfl:j=k:=by omega
     have p:gs.drop j= []:=zQ (by rw [Hq.o];omega);have U:=ha.o;rw [p,x7,zo]at U;have hy:=zA U;clear p U;go_wp2;go_ret
     exact⟨I,C,L,rfl,by rw [hy.o];exact P.d1⟩
end Go.Proofs.YtjbhbfaeielbiaaGreatDoor

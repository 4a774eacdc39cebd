import Derived.Test.YtjbhbfaeielbiaaGreatDoorPart26
set_option maxRecDepth 100000
set_option maxHeartbeats 8000000
set_option linter.unusedVariables false
set_option linter.unusedSimpArgs false
namespace Go.Proofs.YtjbhbfaeielbiaaGreatDoor
open Tryz
open Rep (rep)
open Go.RowKit
attribute [local go_sem ↓] zU zV
abbrev BxA (Bb:Nat) (A:aA) (m c:Nat):Asn:=BlkA Bb 65 #[.slice A m c]
theorem putC {w:O} {L:List Asn} {Bb m1 c1 m2 c2:Nat} {A1 A2:aA} {l p:aC} (h:Sp w (BA A2 m2 c2 p::BxA Bb A1 m1 c1::BA A1 m1 c1 l::L)) (hn:m1+m2<=100000000000000):
 Calls prog 270 #[.slice A2 m2 c2,.pointer (some ⟨Bb,0,none⟩)] w fun e w' =>∃A3 c3,e= .returned (.tuple #[])/\Sp w' (BxA Bb A3 (m1+m2) c3::BA A3 (m1+m2) c3 (l++p)::L):=by
 have hb:=h.cl M1 0;have Hr:=zA (h.rb M0).1.reads;have HS:=h.p2;clear h;go_enter func270,ntmps270;go_wp2_with (at_builtin;refine yR yW (.tmp 3) (.tmp 4) rfl rfl HS rfl rfl Hr.out (xd _) (by omega) (by omega) ?_;intro A3 c3 w3 hc3 hm3 HS3;have hq:=HS3.cl M2 0;have hqf:=(HS3.blkOf M2).frozen 0)
 go_end0
 refine⟨A3,c3,rfl,?_⟩;have h:=(HS3.p2.set 0 (.slice A3 (m1+m2) c3)).d2;rw [<-y9]at h;exact h
def Qv (s:aB):aC:=zP s.size++s.data.toList
theorem QI (s:aB):aM (Z3 s)=Qv s:=by unfold aM Qv;rw [iM];rfl
theorem JS (A:aA) (n c:Nat) (d:List Entry) (w:O) (hl:zL w (·<w.heap.size) A n c d) (hok:Y9 d=true):
 Calls prog 216 #[.slice A n c] w fun e w' =>∃A' m c',e= .returned (.tuple #[.slice A' m c',.bool true])/\m<=300000/\Sp w' [BA A' m c' (docB d),OldA w.heap.size w]:=by
 have Hl:=zA hl;have Hlen:=zA hl.length;have hmf:=@mF prog;unfold Y9 at hok;simp only [zM,decide_eq_true_eq]at hok;obtain⟨ho1,ho2⟩:=hok;have hn64:n<=64:=by rw [<-Hlen.out];exact ho1
 have Ho:=zA (List.all_eq_true.1 ho2);obtain⟨Bb,hBb⟩:=eX (w.heap.size);have HS0:=(((Sp.start w).nil 5 1).blkH 65 #[.slice none 0 0] hBb);have HP0:=zA (ZR (c:=0) HS0 (RB.none_ _) (by omega) (x:=n) (by omega));clear hl ho1 ho2;go_enter func216,ntmps216;go_wp2_with fail;refine HP0.out.mono ?_;rintro e w1 ⟨A1,m1,rfl,hm1,HS1⟩;have HC1:=zA (putC (c2:=m1) (l:= []) HS1 (by omega));go_wp2_with fail
 refine HC1.out.mono ?_;rintro e w2 ⟨A2,c2,rfl,HS2⟩;go_wp2
 go_loopg [19] n (fun gk vi wr=>∃(k:Nat) (A1:aA) (m1 c1:Nat) (l:aC),vi= .int .i64 k/\k<=n/\gk=n - k/\m1<=10+4300*k/\Hid (docB d=l++(d.drop k).flatMap Xh)/\Sp wr [BxA Bb A1 m1 c1,BA A1 m1 c1 l,OldA w.heap.size w])
 case atStart=>exact⟨0,A2,_,c2,_,rfl,zJ _,rfl,by omega,by show _=_;unfold docB;rw [Hlen.out];rfl,HS2⟩
 case round=>
  obtain⟨k,A1,m1,c1,l,rfl,hk,rfl,hm1,HD,HS⟩:=hrel;clear HS0 HS1 HS2
  by_cases hkn:k<n
  ·obtain⟨b,off,e,rfl,He,hb,hel⟩:=Hl.out.at_ hkn
   obtain⟨A5,n5,c5,e0,e1,e2,h5,h6,h7⟩:=Entry.at_ hel
   obtain⟨hb1,hb2,hb3⟩:e.field.size<=24/\e.text.size<=4096/\e.numbers.length<=4:=by
    have:=Ho.out e (zD He.out);unfold XP at this;simp only [zM,decide_eq_true_eq]at this;exact⟨this.1.1,this.1.2,this.2⟩
   have hbl:=HS.below M2;have hc0:=(hbl.cell (p:=⟨b,off+k*3,none⟩) hb).trans e0;have hc1:=(hbl.cell (p:=⟨b,off+k*3+1,none⟩) hb).trans e1;have hc2:=(hbl.cell (p:=⟨b,off+k*3+2,none⟩) hb).trans e2;obtain⟨f,hf⟩:=eX (e.field);obtain⟨t,ht⟩:=eX (e.text);rw [hf]at hc0 hb1;rw [ht]at hc1 hb2;have hn5:n5<=4:=(by rw [<-h5.length];exact hb3);have hf24:(f.size:Int)<=24:=(by omega)
   have ht24:(t.size:Int)<=4096:=(by omega);have hn54:(n5:Int)<=4:=(by omega);have hn64' :(n:Int)<=64:=(by omega)
   have HEn:Hid (Xh e=Qv f++(Qv t++(zP n5++e.numbers.flatMap fun z=>zP (yc z)))):=by
    show _=_;unfold Xh;rw [QI,QI,hf,ht,h5.length]
   have Hdr:=zA (yb He.out);have H5:=zA h5;obtain⟨Be,hBe⟩:=eX (wr.heap.size);have HSe:=HS.blkH 86 #[.string f,.string t,.slice A5 n5 c5] hBe;have HP1:=zA (cD (c:=0) HSe.p2.p2 (RB.none_ _) (s:=f) (by omega));clear e0 e1 e2 hel h5 h6 h7 hf ht hbl HS hb3;go_wp2_with fail;refine HP1.out.mono ?_;rintro e' w3 ⟨A3,m3,rfl,hm3,HS3⟩
   have HS3' :Sp w3 [BA A3 m3 m3 (Qv f),BxA Bb A1 m1 c1,BA A1 m1 c1 l,BlkA Be 86 #[.string f,.string t,.slice A5 n5 c5],OldA w.heap.size w]:=by
    simpa [Qv]using HS3
   have HC2:=zA (putC HS3' (by omega));clear HS3 HS3' HSe hc0 hc1 hc2;go_wp2_with fail;refine HC2.out.mono ?_;rintro e' w4 ⟨A6,c6,rfl,HS4⟩;have q1:=HS4.cl M2 1;have HP2:=zA (cD (c:=0) HS4 (RB.none_ _) (s:=t) (by omega));go_wp2_with fail;refine HP2.out.mono ?_;rintro e' w5 ⟨A7,m7,rfl,hm7,HS5⟩;rw [zZ]at HS5;have HC3:=zA (putC HS5 (by omega));clear HS4 q1;go_wp2_with fail;refine HC3.out.mono ?_
   rintro e' w6 ⟨A8,c8,rfl,HS6⟩;have q2:=HS6.cl M2 2;have HP3:=zA (ZR (c:=0) HS6 (RB.none_ _) (x:=n5) (by omega) (by omega));clear HS5;go_wp2_with fail;refine HP3.out.mono ?_;rintro e' w7 ⟨A9,m9,rfl,hm9,HS7⟩;rw [zZ]at HS7;have HC4:=zA (putC HS7 (by omega));clear HS6 q2;go_wp2_with fail;refine HC4.out.mono ?_;rintro e' w8 ⟨A10,c10,rfl,HS8⟩;have q2:=HS8.cl M2 2
   obtain⟨base,hbase⟩:=eX (l++Qv f++Qv t++zP n5);obtain⟨mb,hmb⟩:=eX (m1+m3+m7+m9);have hmb2:mb<=10+4300*k+34+4106+10:=(by omega);have hbs:l++Qv f++(zP t.size++t.data.toList)++zP n5=base:=hbase;rw [hbs,hmb]at HS8;have Hbase:=zA hbase;clear HS7 hbase hbs hmb hm3 hm7 hm9;go_wp2
   go_loopg [64] n5 (fun gq vi wq=>∃(j:Nat) (A1:aA) (mj c1:Nat) (l1:aC),vi= .int .i64 j/\j<=n5/\gq=n5 - j/\mj<=mb+10*j/\Hid (base++(e.numbers.flatMap fun z=>zP (yc z))=l1++((e.numbers.drop j).flatMap fun z=>zP (yc z)))/\Sp wq [BxA Bb A1 mj c1,BA A1 mj c1 l1,BlkA Be 86 #[.string f,.string t,.slice A5 n5 c5],OldA w.heap.size w])
   case atStart=>exact⟨0,A10,mb,c10,base,rfl,zJ _,rfl,by omega,rfl,HS8⟩
   case round=>
    obtain⟨j,A1,mj,c1,l1,rfl,hj,rfl,hmj,HQ,HS⟩:=hrel;clear HS8 q2
    by_cases hjn:j<n5
    ·obtain⟨b2,off2,z,rfl,Hz,hbz,hez⟩:=H5.out.at_ hjn
     have hcz:=((HS.below M3).cell (p:=⟨b2,off2+j,none⟩) hbz).trans hez.int.1;have HP:=zA (pInt (c:=0) HS (RB.none_ _) (x:=z) (by omega) hez.int.2);have Hdz:=zA (yb Hz.out);clear hez;go_wp2_with fail;refine HP.out.mono ?_;rintro e' w9 ⟨A11,m11,rfl,hm11,HS9⟩;rw [zZ]at HS9;have HC:=zA (putC HS9 (by omega));clear HS;go_wp2_with fail;refine HC.out.mono ?_;rintro e' w10 ⟨A12,c12,rfl,HS10⟩;go_wp2
     go_roundg (n5 - (j+1))
     ·exact⟨j+1,A12,_,c12,_,by go_num,by omega,rfl,by omega,by show _=_;rw [HQ.out,Hdz.out];simp,HS10⟩
     ·omega
    ·obtain rfl:j=n5:=by omega
     have hend:e.numbers.drop j= []:=zQ (by rw [H5.out.length];omega);have hQ:=HQ.out;rw [hend,x7,zo]at hQ
     have HD2:Hid (docB d=l1++(d.drop (k+1)).flatMap Xh):=by
      show _=_;rw [HD.out,Hdr.out,zp,HEn.out,<-hQ,<-Hbase.out];simp
     clear hend hQ;go_wp2
     go_roundg (n - (k+1))
     ·exact⟨k+1,A1,mj,c1,l1,by go_num,by omega,rfl,by omega,HD2,HS.d2⟩
     ·omega
  ·obtain rfl:k=n:=by omega
   have hend:d.drop k= []:=zQ (by rw [Hlen.out];omega);have hD:=HD.out;rw [hend]at hD;have hbb:=HS.cl M0 0;go_wp2;go_ret2;refine⟨A1,m1,c1,rfl,by omega,?_⟩;rw [hD]
   simpa using HS.tail
abbrev OQ:=Int×Int×aC
def chks:Nat->List N7->List OQ
 |_, []=> []
 |s,g::gs=>((s:Int),((s+g.length:Nat):Int),grpB g)::chks (s+g.length) gs
theorem Ul (g:N7):∀(gs:List N7) (s:Nat),chks s (gs++ [g])=chks s gs++ [(((s+gs.flatten.length:Nat):Int),((s+gs.flatten.length+g.length:Nat):Int),grpB g)]
 | [],s=>by simp [chks]
 |x::gs,s=>by simp [chks,Ul g gs,Nat.add_assoc]
theorem L0:Elt prog 204 206 3 40:=xt underlying204 (by decide) (by kernel_rfl)
def UK (gs:List N7):Bool:=match gs.getLast? with|none=>true|some g=>decide (256<=(grpB g).length)
theorem sW {gs:List N7} (d:List Entry) (h:UK gs=true):YF gs d=gs++ [[d]]:=by
 unfold UK at h;unfold YF;rcases hl:gs.getLast? with _|g
 ·rw [List.getLast?_eq_none_iff]at hl;subst hl;rfl
 ·rw [hl]at h;simp only [decide_eq_true_eq]at h;simp only [if_pos h]
theorem sV {init:List N7} {g:N7} (d:List Entry) (h:UK (init++ [g])=false):YF (init++ [g]) d=init++ [g++ [d]]:=by
 unfold UK at h;unfold YF;simp only [List.getLast?_append,List.getLast?_singleton,Option.some_or,decide_eq_false_iff_not]at h⊢;rw [if_neg h];simp
theorem IJ {l:aF} {o:Nat} (ho:l.length=o) (a b c b' c' :V):((l++ [a,b,c]).set (o+2) c').set (o+1) b' =l++ [a,b',c']:=by
 subst ho;rw [xB _ _ (by omega),xB _ _ (by omega)];simp
theorem JQ {l:aF} {o:Nat} (ho:l.length=o) (a b c:V):(l++ [a,b,c])[o+1]? =some b/\(l++ [a,b,c])[o+2]? =some c:=by
 subst ho
 constructor<;>rw [zR (by omega)]<;>simp
theorem jR (init:List N7) (g:N7):UK (init++ [g])=decide (256<=(grpB g).length):=by
 simp [UK]
inductive CutSt (gs:List N7) (B:Nat) (w0:O) (v4:V) (wr:O):Bool->Prop where
 |shut {Ao:aA} {co:Nat} {css:List aF} (hv:v4= .slice Ao gs.length co) (hf:UK gs=true) (hs:Sp wr [RowA 206 3 (.slice Ao gs.length co) gs.length css.flatten,ElsA css (chks 0 gs),OldA B w0]):CutSt gs B w0 v4 wr true
 |open_ {init:List N7} {g:N7} {Ao Al:aA} {co q ml cl:Nat} {css:List aF} (hg:gs=init++ [g]) (hq:q=init.length+1) (hv:v4= .slice Ao q co) (hf:UK gs=false)
  (hs:Sp wr [RowA 206 3 (.slice Ao q co) q (css.flatten++ [.int .i64 (init.flatten.length:Nat),.int .i64 (gs.flatten.length:Nat),.slice Al ml cl]),ElsA css (chks 0 init),BA Al ml cl (grpB g),OldA B w0]):CutSt gs B w0 v4 wr false
theorem L5 (A:aA) (n c:Nat) (docs:N7) (w:O) (hl:zL w (·<w.heap.size) A n c docs) (hn:n<=16384) (hok:∀d∈docs,Y9 d=true):
 Calls prog 163 #[.slice A n c] w fun e w' =>∃Ao q co css,e= .returned (.tuple #[.slice Ao q co,.bool true])/\q=(yL docs).length/\
  Sp w' [RowA 206 3 (.slice Ao q co) q css.flatten,ElsA css (chks 0 (yL docs)),OldA w.heap.size w]:=by
 have Hl:=zA hl;have Hlen:=zA hl.length;have Hok:=zA hok;have hn' :(n:Int)<=16384:=by omega
 have HS0:=((Sp.start w).elsNil (α:=OQ)).nil 206 3;clear hl hok;go_enter func163,ntmps163;go_wp2
 go_loopg [4,5,16] n (fun gk v4 v5 vi wr=>∃(k:Nat) (full:Bool),vi= .int .i64 k/\k<=n/\gk=n - k/\v5= .bool full/\Hid (CutSt (yL (docs.take k)) w.heap.size w v4 wr full))
 case atStart=>exact⟨0,true,rfl,zJ _,rfl,rfl,.shut (Ao:=none) (co:=0) (css:= []) rfl rfl HS0⟩
 case round=>
  obtain⟨k,full,rfl,hk,rfl,rfl,HC⟩:=hrel;clear HS0
  by_cases hkn:k<n
  ·obtain⟨b,off,d,rfl,Hd,hb,hel⟩:=Hl.out.at_ hkn
   obtain⟨A5,n5,c5,e0,h5⟩:=hel.list
   have hbl:Below w.heap.size w wr:=by
    cases HC.out with
    |shut _ _ hs=>exact hs.below M2
    |open_ _ _ _ _ hs=>exact hs.below M3
   have hc0:=(hbl.cell (p:=⟨b,off+k,none⟩) hb).trans e0;have HF:=zA (JS A5 n5 c5 d wr ((h5.below hbl).more fun x hx=>zX hx hbl.size) (Hok.out d (zD Hd.out)));clear hbl e0 h5 hel;go_wp2_with fail;refine HF.out.mono ?_;rintro e w2 ⟨A8,m8,c8,rfl,hm8,HT⟩
   go_upto_if 28 with fail
   have hgl:(yL (docs.take k)).length<=k:=(by have:=Qi (docs.take k);rw [zr]at this;omega);have hfl:(yL (docs.take k)).flatten.length=k:=(by rw [ZK,zr,Hlen.out];omega);have htk:docs.take (k+1)=docs.take k++ [d]:=(by rw [zI,Hd.out];rfl);have Htk:=zA htk;clear htk
   go_cut [4]from 29 to 33 (fun v4 W=>∃(init:List N7) (g:N7) (Ao Al:aA) (co q ml cl:Nat) (css:List aF) (te:Int),v4= .slice Ao q co/\Hid (q=init.length+1)/\Hid (yL (docs.take (k+1))=init++ [g++ [d]])/\q<=k+1/\ml<=256/\
    Sp W [RowA 206 3 (.slice Ao q co) q (css.flatten++ [.int .i64 (init.flatten.length:Nat),.int .i64 te,.slice Al ml cl]),ElsA css (chks 0 init),BA Al ml cl (grpB g),BA A8 m8 c8 (docB d),OldA w.heap.size w])
   case first=>
    cases HC.out with
    | @shut Ao co css hv hf hs=>
      subst hv;have HS:=(hs.c1 HT).p1;have Hf:=zA hf;obtain⟨q,hq⟩:=eX ((yL (docs.take k)).length);rw [hq]at HS hgl;have Hq:=zA hq;rw [hq];clear hs hf HT hq HC
      go_wp2_with (at_builtin;refine yC L0 (.tmp 29) (.tmp 32) rfl rfl HS rfl (cs:= #[.int .i64 (k:Int),.int .i64 0,.slice none 0 0]) rfl rfl rfl (by intro u hu;simp at hu;rcases hu with rfl|rfl|rfl<;>rfl) (by omega) (by omega) ?_;intro A9 c9 w3 hc9 hm9 HS3)
      go_meet
      refine⟨yL (docs.take k), [],A9,none,c9,q+1,0,0,css,0,rfl,by show _=_;rw [Hq.out],by show _=_;rw [Htk.out,iA,sW d Hf.out];rfl,by omega,by omega,?_⟩;rw [hfl];exact(HS3.nil 5 1).sel [1,3,0,2,4]
    | @open_ init g Ao Al co q ml cl css hg hq hv hf hs=>
      subst hv;have HS:=hs.c1 HT
      have hml:ml<=256:=by
       have:=(hs.rb M2).1.len;have h2:=hf;rw [hg]at h2;unfold UK at h2;simp only [List.getLast?_append,List.getLast?_singleton,Option.some_or,decide_eq_false_iff_not]at h2;omega
      have hgs:yL (docs.take (k+1))=init++ [g++ [d]]:=by
       rw [Htk.out,iA,hg];exact sV d (by rw [<-hg];exact hf)
      have hqk:q<=k+1:=(by rw [hg]at hgl;simp at hgl;omega);go_wp2
      go_meet
      exact⟨init,g,Ao,Al,co,q,ml,cl,css,_,rfl,hq,hgs,hqk,hml,HS.sel [1,2,3,0,4]⟩
   case rest=>
    obtain⟨init,g,Ao,Al,co,q,ml,cl,css,te,rfl,Hq,Hgs,hqk,hml,HS⟩:=hcut;clear HT HC;have hq0:=Hq.out;obtain⟨q',hq'⟩:∃q',init.length=q' :=⟨_,rfl⟩;obtain⟨go,rfl,_,_,_⟩:=(HS.rowOf M0).at_ (by omega)
    have hxl:=(HS.rowOf M0).1;rw [zG]at hxl;have ho:css.flatten.length=q' *3:=(by simp only [z6,yO]at hxl;omega);obtain⟨g1,g2⟩:=JQ ho (.int .i64 (init.flatten.length:Nat)) (.int .i64 te) (.slice Al ml cl);have r1:wc.cell? ⟨go,q' *3+1,none⟩=some (.int .i64 te):=HS.rowCell M0 g1;have r2:wc.cell? ⟨go,q' *3+2,none⟩=some (.slice Al ml cl):=HS.rowCell M0 g2
    have hqw:IntKind.i64.wrap ((q:Int) - 1)=(q' :Int):=(by rw [zT];omega);have hqw2:(q:Int) - 1=(q' :Int):=(by omega);have hqw3:(q' :Int)<q:=(by omega);have hqw4:(0:Int)<=q' :=(by omega);have Hr8:=zA (HS.rb M3).1.reads;have hl1:=(HS.rb M2).1.len;have hl2:=(HS.rb M3).1.len
    have Hll:Hid ((grpB (g++ [d])).length=ml+m8/\grpB (g++ [d])=grpB g++docB d):=by
     have e:grpB (g++ [d])=grpB g++docB d:=(by simp [grpB]);exact⟨by rw [e,zG,hl1,hl2],e⟩
    have HS1:=HS.p2;have Hg1:=zA g1;have Hg2:=zA g2;have Ho:=zA ho;have Hq' :=zA hq';clear HS hxl hq0 hq' ho g1 g2 hl1 hl2
    go_wp2_with (at_builtin;refine yR yW (.tmp 44) (.tmp 45) rfl rfl HS1 rfl rfl Hr8.out (xd _) (by omega) (by omega) ?_;intro A9 c9 w3 hc9 hm9 HS9;have s1:w3.cell? ⟨go,q' *3+1,none⟩=some (.int .i64 te):=HS9.rowCell M1 Hg1.out;have s2:w3.cell? ⟨go,q' *3+2,none⟩=some (.slice Al ml cl):=HS9.rowCell M1 Hg2.out;have s3:=HS9.rowFree M1 (q' *3+1);have s4:=HS9.rowFree M1 (q' *3+2))
    have HS10:=(HS9.p1.rowSet (q' *3+2) (.slice A9 (ml+m8) c9)).rowSet (q' *3+1) (.int .i64 ((k:Int)+1));rw [IJ Ho.out,<-y9,<-Hll.out.2]at HS10;generalize (w3.setCell ⟨go,q' *3+2,none⟩ (.slice A9 (ml+m8) c9)).setCell ⟨go,q' *3+1,none⟩ (.int .i64 ((k:Int)+1))=w4 at HS10⊢;have hfl2:(init++ [g++ [d]]).flatten.length=k+1:=(by rw [<-Hgs.out,ZK,zr,Hlen.out];omega)
    have hlg:(init++ [g++ [d]]).length=q:=(by rw [zG,Hq.out];rfl)
    have HC2:Hid (CutSt (yL (docs.take (k+1))) w.heap.size w (.slice (some ⟨go,0,none⟩) q co) w4 (decide ((256:Int)<=(ml:Int)+(m8:Int)))):=by
     show CutSt _ _ _ _ _ _;rw [Hgs.out]
     by_cases h256:256<=ml+m8
     ·rw [decide_eq_true (show(256:Int)<=(ml:Int)+(m8:Int) by omega)]
      have h1:=((HS10.p1.bytes).mk1 (α:=OQ) (cs:= [.int .i64 (init.flatten.length:Nat),.int .i64 ((k:Int)+1),.slice A9 (ml+m8) c9]) (x:=((init.flatten.length:Int),(k:Int)+1,grpB (g++ [d]))) fun S r=>
       (show rep w4 S [.int .i64 (init.flatten.length:Nat),.int .i64 ((k:Int)+1),.slice A9 (ml+m8) c9] (((init.flatten.length:Int),(k:Int)+1,grpB (g++ [d])):OQ)from
        ⟨_,_,rfl,⟨rfl,show In64 (init.flatten.length:Int) by simp only [yf,zG]at hfl2;unfold In64;omega⟩,_,_,rfl,⟨rfl,show In64 ((k:Int)+1) by unfold In64;omega⟩,r⟩))
      have h2:=h1.p2.p1.elsPush.p1.d2;refine .shut (Ao:=some ⟨go,0,none⟩) (co:=co) (by rw [hlg]) (by rw [jR,Hll.out.1];simpa using h256) (css:=css++ [[.int .i64 (init.flatten.length:Nat),.int .i64 ((k:Int)+1),.slice A9 (ml+m8) c9]]) ?_;rw [hlg,Ul]
      have e:0+init.flatten.length+(g++ [d]).length=k+1:=by
       rw [yf,zG]at hfl2;simp at hfl2⊢;omega
      rw [e,zx]
      simpa using h2
     ·rw [decide_eq_false (show ¬(256:Int)<=(ml:Int)+(m8:Int) by omega)];refine .open_ (init:=init) (g:=g++ [d]) (Ao:=some ⟨go,0,none⟩) (Al:=A9) (co:=co) (q:=q) (ml:=ml+m8) (cl:=c9) (css:=css) rfl Hq.out rfl (by rw [jR,Hll.out.1];simpa using h256) ?_;rw [hfl2];exact HS10.sel [0,2,1,4]
    clear HS9 HS10 HS1 s1 s2 s3 s4 r1 r2
    go_roundg (n - (k+1))
    ·exact⟨k+1,_,by go_num,by omega,rfl,rfl,HC2⟩
    ·omega
  ·obtain rfl:k=n:=by omega
   have hall:docs.take k=docs:=zF (by rw [Hlen.out];omega);rw [hall]at HC
   have hfin:Hid (∃Ao q co css,u4= .slice Ao q co/\q=(yL docs).length/\Sp wr [RowA 206 3 (.slice Ao q co) q css.flatten,ElsA css (chks 0 (yL docs)),OldA w.heap.size w]):=by
    have hfl:(yL docs).flatten.length=k:=(by rw [ZK,Hlen.out]);cases HC.out with
    | @shut Ao co css hv hf hs=>exact⟨Ao,_,co,css,hv,rfl,hs⟩
    | @open_ init g Ao Al co q ml cl css hg hq hv hf hs=>
      have hlg:(yL docs).length=q:=(by rw [hg,zG,hq];rfl)
      have h1:=((hs.p2.bytes).mk1 (α:=OQ) (cs:= [.int .i64 (init.flatten.length:Nat),.int .i64 ((yL docs).flatten.length:Nat),.slice Al ml cl]) (x:=((init.flatten.length:Int),((yL docs).flatten.length:Int),grpB g)) fun S r=>
       (show rep wr S [.int .i64 (init.flatten.length:Nat),.int .i64 ((yL docs).flatten.length:Nat),.slice Al ml cl] (((init.flatten.length:Int),((yL docs).flatten.length:Int),grpB g):OQ)from
        ⟨_,_,rfl,⟨rfl,show In64 (init.flatten.length:Int) by rw [hg,yf,zG]at hfl;unfold In64;omega⟩,_,_,rfl,⟨rfl,show In64 ((yL docs).flatten.length:Int) by unfold In64;omega⟩,r⟩))
      have h2:=h1.p2.p1.elsPush.p1;refine⟨Ao,q,co,css++ [[.int .i64 (init.flatten.length:Nat),.int .i64 ((yL docs).flatten.length:Nat),.slice Al ml cl]],hv,hlg.symm,?_⟩
      have e:chks 0 (yL docs)=chks 0 init++ [((init.flatten.length:Int),((yL docs).flatten.length:Int),grpB g)]:=by
       rw [hg,Ul];simp
      rw [e]
      simpa using h2
   obtain⟨Ao,q,co,css,rfl,hq,HS⟩:=hfin.out;have Hq:=zA hq;clear hq hfin HC hall;go_wp2;go_ret2;exact⟨Ao,q,co,css,rfl,Hq.out,HS⟩
theorem Wr {α:Type} {f:α->aC} {B:Nat}:∀{l:List α},(∀x∈l,(f x).length<=B)->(l.flatMap f).length<=B*l.length
 | [],_=>by simp
 |x::l,h=>by
  have h1:=h x (by simp);have h2:=Wr (f:=f) (B:=B) (l:=l) fun y hy=>h y (by simp [hy]);simp only [zp,zG,z6,Nat.mul_add];omega
theorem XN {α:Type} {f:α->aC}:∀{l:List α} {x:α},x∈l->(f x).length<=(l.flatMap f).length
 |y::l,x,h=>by
  rw [zp,zG];rcases yx.1 h with rfl|h
  ·omega
  ·have:=XN (f:=f) h;omega
theorem XD:∀{l:List N7} {x:N7},x∈l->x.length<=l.flatten.length
 |y::l,x,h=>by
  rw [yM,zG];rcases yx.1 h with rfl|h
  ·omega
  ·have:=XD h;omega
theorem XI (l:List N7) (k:Nat):(l.take k).flatten.length<=l.flatten.length:=by
 conv=>rhs;rw [<-zu k l,yf,zG]
 omega
theorem GU {z:Int} (h:In64 z):(zP (yc z)).length<=10:=ya (QH h)
def QB (d:List Entry):Prop:=∀e∈d,∀z∈e.numbers,In64 z
theorem nX {d:List Entry} (h:Y9 d=true) (hn:QB d):(docB d).length<=300000:=by
 unfold Y9 at h;simp only [zM,decide_eq_true_eq]at h;obtain⟨h1,h2⟩:=h
 have h3:=Wr (f:=Xh) (B:=4200) (l:=d) fun e he=>by
  have h4:=List.all_eq_true.1 h2 e he;unfold XP at h4;simp only [zM,decide_eq_true_eq]at h4;have h5:=Wr (f:=fun z=>zP (yc z)) (B:=10) (l:=e.numbers) fun z hz=>GU (hn e he z hz);have h6:=ya (n:=e.field.size) (by omega);have h7:=ya (n:=e.text.size) (by omega);have h8:=ya (n:=e.numbers.length) (by omega);have h9:e.field.data.toList.length=e.field.size:=(by simp)
  have h10:e.text.data.toList.length=e.text.size:=(by simp);unfold Xh;rw [QI,QI];simp only [Qv,zG];omega
 have h4:=ya (n:=d.length) (by omega);unfold docB;rw [zG];omega
theorem fD:∀{gs:List N7} {s k:Nat} {g:N7},gs[k]? =some g->(chks s gs)[k]? =some (((s+(gs.take k).flatten.length:Nat):Int),((s+(gs.take k).flatten.length+g.length:Nat):Int),grpB g)
 | [],_,_,_,h=>by simp at h
 |x::gs,s,0,g,h=>by simp at h;subst h;simp [chks]
 |x::gs,s,k+1,g,h=>by
  have:=fD (s:=s+x.length) (gs:=gs) (k:=k) (g:=g) (by simpa using h);simp only [chks,zj,this,xL,yM,zG,Nat.add_assoc]
theorem qH {w:O} {F:Nat->Prop} {b off k:Nat} {x:OQ} (h:xp w F b off k x):∃A n c,w.cell? ⟨b,off+k*3,none⟩=some (.int .i64 x.1)/\w.cell? ⟨b,off+k*3+1,none⟩=some (.int .i64 x.2.1)/\w.cell? ⟨b,off+k*3+2,none⟩=some (.slice A n c)/\zL w F A n c x.2.2:=by
 obtain⟨cs,⟨_,_,rfl,⟨rfl,_⟩,_,_,rfl,⟨rfl,_⟩,A,n,c,rfl,h1⟩,hc⟩:=h;exact⟨A,n,c,hc 0 _ rfl,hc 1 _ rfl,hc 2 _ rfl,h1⟩
theorem gN (A:aA) (n c:Nat) (docs:N7) (w:O) (hl:zL w (·<w.heap.size) A n c docs) (hn:n<=16384) (hok:∀d∈docs,Y9 d=true/\QB d):
 Calls prog 87 #[.slice A n c] w fun e w' =>∃A' m c',e= .returned (.slice A' m c')/\Sp w' [BA A' m c' (ZB docs),OldA w.heap.size w]:=by
 have Hlen:=zA hl.length;have HCu:=zA (L5 A n c docs w hl hn fun d hd=>(hok d hd).1)
 have htot:(docs.flatMap docB).length<=300000*16384:=by
  have h:=Wr (f:=docB) (B:=300000) (l:=docs) fun d hd=>nX (hok d hd).1 (hok d hd).2;rw [hl.length]at h;exact zY h (Nat.mul_le_mul_left _ hn)
 clear hl hok;go_enter func87,ntmps87;go_wp2_with fail;refine HCu.out.mono ?_;rintro e w1 ⟨Ao,q,co,css,rfl,hq,HS1⟩;obtain⟨gs,hgs⟩:=eX (yL docs);rw [hgs]at hq HS1;have HS2:=HS1.els (α:=OQ);have hqn:q<=16384:=by have:=Qi docs;rw [hgs,Hlen.out]at this;omega
 have hgb:gs.flatMap grpB=docs.flatMap docB:=by rw [<-hgs];exact XO docs
 have Hgs:Hid (ZB docs=(zP n++zP q)++(gs.flatMap ZF++gs.flatMap grpB)):=by
  show _=_;unfold ZB;rw [Hlen.out,hgs,<-hq];simp
 have hgl:∀g∈gs,(grpB g).length<=300000*16384/\g.length<=16384:=by
  intro g hg;have h1:=XN (f:=grpB) hg;have h2:=XD hg;have h3:gs.flatten.length=n:=(by rw [<-hgs,ZK,Hlen.out]);rw [hgb]at h1;omega
 have Hgl:=zA hgl;have Hfn:Hid (gs.flatten.length<=16384):=by show _<=_;rw [<-hgs,ZK,Hlen.out];exact hn
 have Hq:=zA hq.symm;have HP1:=zA (ZR (c:=0) HS2 (RB.none_ _) (x:=n) (by omega) (by omega));clear HS1 hq hgs hgb hgl htot;go_wp2_with fail;refine HP1.out.mono ?_;rintro e w2 ⟨A2,m2,rfl,hm2,HS3⟩;rw [zZ]at HS3;have HP2:=zA (ZR (c:=m2) HS3 (HS3.rb M0).1 (x:=q) (by omega) (by omega));go_wp2_with fail;refine HP2.out.mono ?_;rintro e w3 ⟨A3,m3,rfl,hm3,HS4⟩;have HS5:=HS4.d1;clear HS2 HS3 HS4;go_wp2
 go_loopg [5,27] q (fun gk vb vi wr=>∃(k:Nat) (A1:aA) (m1 c1:Nat) (l:aC),vi= .int .i64 k/\k<=q/\gk=q - k/\vb= .slice A1 m1 c1/\m1<=20+20*k/\Hid (ZB docs=l++((gs.drop k).flatMap ZF++gs.flatMap grpB))/\Sp wr [BA A1 m1 c1 l,DatA (.slice Ao q co) (chks 0 gs),OldA w.heap.size w])
 case atStart=>exact⟨0,A3,m3,m3,_,rfl,zJ _,rfl,rfl,by omega,Hgs.out,HS5⟩
 case round=>
  obtain⟨k,A1,m1,c1,l,rfl,hk,rfl,rfl,hm1,HD,HS⟩:=hrel;clear HS5
  by_cases hkq:k<q
  ·obtain⟨g,Hg⟩:∃g,Hid (gs[k]? =some g):=⟨_,zB (by rw [Hq.out];exact hkq)⟩;obtain⟨hg1,hg2⟩:=Hgl.out g (zD Hg.out);obtain⟨b,off,x,rfl,Hx,_,hel⟩:=(HS.ls M1).at_ hkq
   have hxe:=Hx.out;rw [fD Hg.out]at hxe;obtain rfl:=yG hxe;obtain⟨A5,n5,c5,e0,e1,e2,h5⟩:=qH hel;have h5l:(grpB g).length=n5:=h5.length;obtain⟨fr,hfr⟩:=eX ((0+(gs.take k).flatten.length));obtain⟨z,hz⟩:=eX (g.length);obtain⟨tt,htt⟩:=eX (fr+z);simp only [hfr,hz,htt]at e0 e1;have hfb:fr<=16384:=(by have:=XI gs k;have:=Hfn.out;omega)
   have hsub:IntKind.i64.wrap ((tt:Int) - (fr:Int))=(z:Int):=(by rw [zT];omega);have hsub2:(tt:Int) - (fr:Int)=(z:Int):=(by omega);have hsub3:IntKind.i64.wrap (z:Int)=(z:Int):=(by rw [zT];omega);have hsub4:IntKind.u64.wrap (z:Int)=(z:Int):=(by rw [zW];omega);have hsub5:IntKind.u64.wrap (n5:Int)=(n5:Int):=(by rw [zW];omega);obtain⟨Bc,hBc⟩:=eX (wr.heap.size)
   have HSc:=(HS.blkH 206 #[.int .i64 (fr:Int),.int .i64 (tt:Int),.slice A5 n5 c5] hBc).drew;have HPa:=zA (ZR (c:=0) HSc (RB.none_ _) (x:=z) (by omega) (by omega))
   have hSc:(wr.alloc (.cells #[.int .i64 (fr:Int),.int .i64 (tt:Int),.slice A5 n5 c5] 206)).drew.cell? ⟨Bc,0,none⟩=some (.int .i64 (fr:Int))/\(wr.alloc (.cells #[.int .i64 (fr:Int),.int .i64 (tt:Int),.slice A5 n5 c5] 206)).drew.cell? ⟨Bc,1,none⟩=some (.int .i64 (tt:Int))/\(wr.alloc (.cells #[.int .i64 (fr:Int),.int .i64 (tt:Int),.slice A5 n5 c5] 206)).drew.cell? ⟨Bc,2,none⟩=some (.slice A5 n5 c5):=⟨HSc.cell M0 0,HSc.cell M0 1,HSc.cell M0 2⟩
   have Hhd:Hid (ZF g=zP z++zP n5):=(by show _=_;unfold ZF;rw [hz,h5l]);have Hdr:=zA (yb Hg.out);have hn5b:n5<=10000000000:=(by omega);have hzb:z<=16384:=(by omega);have hz64:z<18446744073709551616:=(by omega);have hn564:n5<18446744073709551616:=(by omega);clear hel h5 h5l hfr hz htt hg1 hg2 hxe;go_wp2
   go_region_held3 (fun W=>W.cell? ⟨Bc,0,none⟩=some (.int .i64 (fr:Int))/\W.cell? ⟨Bc,1,none⟩=some (.int .i64 (tt:Int))/\W.cell? ⟨Bc,2,none⟩=some (.slice A5 n5 c5)) (first|with_reducible assumption|fail)
    (first
     |(go_at_call 85;(with_reducible refine HPa.out.mono ?_);rintro e w5 ⟨A6,m6,rfl,hm6,HS5⟩;have hS5:w5.cell? ⟨Bc,0,none⟩=some (.int .i64 (fr:Int))/\w5.cell? ⟨Bc,1,none⟩=some (.int .i64 (tt:Int))/\w5.cell? ⟨Bc,2,none⟩=some (.slice A5 n5 c5):=⟨HS5.cell M1 0,HS5.cell M1 1,HS5.cell M1 2⟩;have HPb:=zA (ZR (c:=m6) HS5 (HS5.rb M0).1 (x:=n5) (by omega) hn564))
     |(go_at_call 85;(with_reducible refine HPb.out.mono ?_);rintro e w6 ⟨A7,m7,rfl,hm7,HS6⟩;have hS6:w6.cell? ⟨Bc,0,none⟩=some (.int .i64 (fr:Int))/\w6.cell? ⟨Bc,1,none⟩=some (.int .i64 (tt:Int))/\w6.cell? ⟨Bc,2,none⟩=some (.slice A5 n5 c5):=⟨HS6.cell M2 0,HS6.cell M2 1,HS6.cell M2 2⟩)
     |(refine XT yW (.tmp 31) (.tmp 43) rfl rfl HS6.p3 rfl rfl (HS6.rb M0).1.reads (xd _) (by omega) (by omega) ?_;intro A8 c8 w8 hc8 hm8 HS8;have hS8:w8.cell? ⟨Bc,0,none⟩=some (.int .i64 (fr:Int))/\w8.cell? ⟨Bc,1,none⟩=some (.int .i64 (tt:Int))/\w8.cell? ⟨Bc,2,none⟩=some (.slice A5 n5 c5):=⟨HS8.cell M3 0,HS8.cell M3 1,HS8.cell M3 2⟩)
     |fail)
   go_wp2
   have HS9:Sp w8 [BA A8 (m1+m7) c8 (l++ZF g),DatA (.slice (some ⟨b,off,none⟩) q co) (chks 0 gs),OldA w.heap.size w]:=by
    have h:=HS8.d1.d1.d1;rw [<-y9,zZ,<-Hhd.out]at h;exact h
   go_roundg (q - (k+1))
   ·exact⟨k+1,A8,m1+m7,c8,l++ZF g,by go_num,by omega,rfl,rfl,by omega,by show _=_;rw [HD.out,Hdr.out];simp,HS9⟩
   ·omega
  ·obtain rfl:k=q:=by omega
   have hend:gs.drop k= []:=zQ (by rw [Hq.out];omega);have hD:=HD.out;rw [hend,x7,zZ]at hD;have HD0:=zA hD;clear hend hD;go_wp2
   go_loopg [5,48] k (fun gk vb vi wr=>∃(j:Nat) (A1:aA) (m1 c1:Nat) (l:aC),vi= .int .i64 j/\j<=k/\gk=k - j/\vb= .slice A1 m1 c1/\m1<=20+20*k+5000000000*j/\Hid (ZB docs=l++(gs.drop j).flatMap grpB)/\Sp wr [BA A1 m1 c1 l,DatA (.slice Ao k co) (chks 0 gs),OldA w.heap.size w])
   case atStart=>exact⟨0,A1,m1,c1,l,rfl,zJ _,rfl,rfl,by omega,HD0.out,HS⟩
   case round=>
    obtain⟨j,A1,m1,c1,l,rfl,hj,rfl,rfl,hm1,HDj,HS⟩:=hrel
    by_cases hjk:j<k
    ·obtain⟨g,Hg⟩:∃g,Hid (gs[j]? =some g):=⟨_,zB (by rw [Hq.out];exact hjk)⟩;obtain⟨hg1,hg2⟩:=Hgl.out g (zD Hg.out);obtain⟨b,off,x,rfl,Hx,_,hel⟩:=(HS.ls M1).at_ hjk
     have hxe:=Hx.out;rw [fD Hg.out]at hxe;obtain rfl:=yG hxe;obtain⟨A5,n5,c5,e0,e1,e2,h5⟩:=qH hel;have h5l:(grpB g).length=n5:=h5.length;obtain⟨v0,hv0⟩:=eX (((0+(gs.take j).flatten.length:Nat):Int));obtain⟨v1,hv1⟩:=eX (((0+(gs.take j).flatten.length+g.length:Nat):Int));simp only [hv0]at e0;simp only [hv1]at e1;obtain⟨Bc,hBc⟩:=eX (wr.heap.size)
     have HSc:=(HS.blkH 206 #[.int .i64 v0,.int .i64 v1,.slice A5 n5 c5] hBc);have hcc:(wr.alloc (.cells #[.int .i64 v0,.int .i64 v1,.slice A5 n5 c5] 206)).cell? ⟨Bc,2,none⟩=some (.slice A5 n5 c5):=HSc.cell M0 2;have Hr5:=zA ((h5.rb (fun x hx=>hx)).on (zE _ _|>.alloc (zC _) (.cells #[.int .i64 v0,.int .i64 v1,.slice A5 n5 c5] 206))|>.reads)
     have hn5b:n5<=4915200000:=(by omega);have Hdr:=zA (yb Hg.out);clear hel h5 h5l hv0 hv1 hg1 hg2 hxe;go_wp2_with (at_builtin;refine yR yW (.tmp 52) (.tmp 54) rfl rfl HSc.p1 rfl rfl Hr5.out (xd _) (by omega) (by omega) ?_;intro A8 c8 w8 hc8 hm8 HS8);have HS9:=HS8.d1;rw [<-y9]at HS9
     go_roundg (k - (j+1))
     ·exact⟨j+1,A8,m1+n5,c8,_,by go_num,by omega,rfl,rfl,by omega,by show _=_;rw [HDj.out,Hdr.out];simp,HS9⟩
     ·omega
    ·obtain rfl:j=k:=by omega
     have hend:gs.drop j= []:=zQ (by rw [Hq.out];omega);have hD:=HDj.out;rw [hend,x7,zo]at hD;have HDf:=zA hD;clear hend hD;go_wp2;go_ret
     exact⟨A1,m1,c1,rfl,by rw [HDf.out];exact HS.d1⟩
def itP (ps:List PostD) (o:Nat):List PostD:=if o=0\/ps.length<o then []else blkP ps ((o - 1) / 8*8)
def itAt (ps:List PostD) (o:Nat):Int:=if o=0 then -1 else if ps.length<o then 0 else((o - 1)%8:Nat)
def itN (ps:List PostD) (o:Nat):Int:=if o=0 then 0 else if ps.length<o then 1073741824 else((o - 1) / 8+1:Nat)
abbrev bQ (L:List Asn) (D:Nat) (ps:List PostD):Prop:=∃(B:Nat) (w0:O),OldA B w0∈L/\B<=w0.heap.size/\rep w0 (·<B) [.pointer (some ⟨D,0,none⟩)] (Ptr.mk (some (pBl ps,(ps.length:Int))))
abbrev ItB (I D:Nat) (vp:V) (at_ nx:Int):Asn:=BlkA I 114 #[vp,.int .i64 at_,.pointer (some ⟨D,0,none⟩),.int .i64 nx]
theorem UG {I m c:Nat} {A:aA} {z:Int} {w:O} (h0:w.cell? ⟨I,0,none⟩=some (.slice A m c)) (h1:w.cell? ⟨I,1,none⟩=some (.int .i64 z)):
 Calls prog 51 #[.pointer (some ⟨I,0,none⟩)] w fun e w' =>e= .returned (.bool (decide (0<=z) && decide (z<m)))/\xG w w' :=by
 rcases Int.lt_or_le z 0 with hz|hz
 ·have hz1:decide (0<=z)=false:=decide_eq_false (by omega);rw [hz1,Bool.false_and];clear hz;go_enter func51,ntmps51;go_wp2_with fail
  go_quiet (fail)
  go_wp2;go_ret
  exact⟨rfl,⟨_,rfl⟩⟩
 ·have hz1:decide (0<=z)=true:=decide_eq_true hz;rw [hz1,Bool.true_and];cases hz2:decide (z<(m:Int))
  ·clear hz;go_enter func51,ntmps51;go_wp2_with fail
   go_quiet (fail)
   go_wp2;go_ret
   exact⟨rfl,⟨_,rfl⟩⟩
  ·clear hz;go_enter func51,ntmps51;go_wp2_with fail
   go_quiet (fail)
   go_wp2;go_ret
   exact⟨rfl,⟨_,rfl⟩⟩
theorem nK {D:Nat} {L:List Asn} {w:O} (HS:Sp w L):
 Calls prog 14 #[.pointer (some ⟨D,0,none⟩)] w fun e w' =>∃I,e= .returned (.pointer (some ⟨I,0,none⟩))/\Sp w' (ItB I D (.slice none 0 0) (-1) 0::L):=by
 obtain⟨H,hH⟩:=eX (w.heap.size);have HS1:=zA (HS.blkH 114 #[.slice none 0 0,.int .i64 (-1),.pointer (some ⟨D,0,none⟩),.int .i64 0] hH);go_enter func14,ntmps14;go_wp2;go_ret
 exact⟨H,rfl,HS1.out⟩
theorem jO {w:O} {F:Nat->Prop} {D:Nat} {bs:List OH} {n:Int} (h:rep w F [.pointer (some ⟨D,0,none⟩)] (Ptr.mk (some (bs,n)))):
 ∃A1 n1 c1,F D/\w.cell? ⟨D,0,none⟩=some (.slice A1 n1 c1)/\w.cell? ⟨D,1,none⟩=some (.int .i64 n)/\zL w F A1 n1 c1 bs:=by
 obtain⟨hF,cs,⟨_,_,rfl,⟨A1,n1,c1,rfl,h1⟩,rfl,_⟩,hc⟩:=Ptr.get h;have h0:=hc 0 _ rfl;have h1' :=hc 1 _ rfl;simp only [Nat.zero_mul,yt,zx]at h0 h1';exact⟨A1,n1,c1,hF,h0,h1',h1⟩
theorem JC {I D:Nat} {vp:V} {z nx:Int} {ps:List PostD} {L:List Asn} {w:O} (HS:Sp w (ItB I D vp z nx::L)) (hd:bQ L D ps) (hn:(nP ps.length:Int)<=nx):
 Calls prog 52 #[.pointer (some ⟨I,0,none⟩)] w fun e w' =>e= .returned (.bool false)/\Sp w' (ItB I D (.slice none 0 0) 0 1073741824::L):=by
 obtain⟨B,w0,hm,hB,hrp⟩:=hd;have hbw:=HS.below (.tail _ hm);obtain⟨A1,n1,c1,hDB,d0,_,hl⟩:=jO hrp;have d0:w.cell? ⟨D,0,none⟩=some (.slice A1 n1 c1):=(hbw.cell hDB).trans d0;have hl1:n1=nP ps.length:=by rw [<-hl.length];simp [pBl]
 have hn2:decide ((n1:Int)<=nx)=true:=decide_eq_true (by rw [hl1];exact hn);have q2:=HS.cl M0 2;have q3:=HS.cl M0 3;have Hd:=zA HS;clear HS hl hn hl1 hbw hrp hm;go_enter func52,ntmps52;go_upto_region 1 with fail
 go_quiet (fail)
 have HS1:=Hd.out.drewN nq;obtain⟨w3,hw3⟩:=eX (w.drewN nq);rw [hw3]at HS1⊢;have g0:=HS1.cl M0 0;have g1:=HS1.cl M0 1;have g3:=HS1.cl M0 3;have f0:=(HS1.blkOf M0).frozen 0;have f1:=(HS1.blkOf M0).frozen 1;have f3:=(HS1.blkOf M0).frozen 3;have HS2:=zA (((HS1.set 0 (.slice none 0 0)).set 1 (.int .i64 0)).set 3 (.int .i64 1073741824));clear HS1 d0 q2 q3 hw3;go_wp2;go_ret
 exact⟨rfl,HS2.out⟩
theorem E9 {B:Nat} {w w' :O} {a3 a4 a5 a6 a7:Addr} {v3 v4 v5 v6 v7:V} (h:Below B w w') (b3:a3.block<B) (b4:a4.block<B/\a5.block<B/\a6.block<B/\a7.block<B):w.cell? a3=some v3/\w.cell? a4=some v4/\w.cell? a5=some v5/\w.cell? a6=some v6/\w.cell? a7=some v7->w'.cell? a3=some v3/\w'.cell? a4=some v4/\w'.cell? a5=some v5/\w'.cell? a6=some v6/\w'.cell? a7=some v7:=
 fun⟨h3,h4,h5,h6,h7⟩=>⟨(h.cell b3).trans h3,(h.cell b4.1).trans h4,(h.cell b4.2.1).trans h5,(h.cell b4.2.2.1).trans h6,(h.cell b4.2.2.2).trans h7⟩
theorem NN {w:O} {F:Nat->Prop} {b off k:Nat} {x:OH} (h:xp w F b off k x):∃A n c,w.cell? ⟨b,off+k*4,none⟩=some (.slice A n c)/\w.cell? ⟨b,off+k*4+1,none⟩=some (.int .i64 x.2.1)/\w.cell? ⟨b,off+k*4+2,none⟩=some (.int .i64 x.2.2.1)/\w.cell? ⟨b,off+k*4+3,none⟩=some (.int .i64 x.2.2.2)/\zL w F A n c x.1:=by
 obtain⟨cs,h,hc⟩:=h;obtain⟨_,_,rfl,⟨A,n,c,rfl,h1⟩,_,_,rfl,⟨rfl,_⟩,_,_,rfl,⟨rfl,_⟩,⟨rfl,_⟩⟩:=h;exact⟨A,n,c,hc 0 _ rfl,hc 1 _ rfl,hc 2 _ rfl,hc 3 _ rfl,h1⟩
theorem EE {I D k m:Nat} {vp:V} {z:Int} {ps:List PostD} {L:List Asn} {w:O} (HS:Sp w (ItB I D vp z (k:Int)::L)) (hd:bQ L D ps) (hr:xk ps=true) (hk:k*8<ps.length) (hm:(blkP ps (k*8)).length=m):
 Calls prog 52 #[.pointer (some ⟨I,0,none⟩)] w fun e w' =>∃A' c',e= .returned (.bool true)/\Sp w' (ItB I D (.slice A' m c') 0 ((k+1:Nat):Int)::DatA (.slice A' m c') (blkP ps (k*8))::L):=by
 obtain⟨B,w0,hmm,hB,hrp⟩:=hd;have hbw:=HS.below (.tail _ hmm);obtain⟨A1,n1,c1,hDB,d0,_,hl⟩:=jO hrp;have hl1:n1=nP ps.length:=by rw [<-hl.length];simp [pBl]
 have hkn:k<n1:=by rw [hl1];unfold nP;omega
 have hn2:decide ((n1:Int)<=(k:Int))=false:=decide_eq_false (by omega)
 have hkb:k<=1000000:=by
  obtain⟨_,_,h3⟩:=QN hr;omega
 obtain⟨b,off,x,rfl,Hx,hb,he⟩:=hl.at_ hkn
 have hxe:x=blkE ps k:=by have h:=Hx.out;rw [p9 hk]at h;exact(yG h).symm
 subst hxe;obtain⟨A2,n2,c2,b0,b1,b2,b3,hrow⟩:=NN he;have hcap:=hrow.cap;have hcl:=hl.cap;obtain⟨all0,ha0,hrg⟩:=VD hr (k*8);have hl0:=QS hr (k*8);have hm8:m<=8:=by rw [<-hm];unfold blkP;rw [zr];omega
 have hnb:n2<=100000000000000:=by
  obtain⟨hin,hall,_⟩:=Qb _ _ all0 hl0.1 hl0.2 ha0 hrg;have h1:=kY hin hl0 (by omega) (by omega);have h2:=hrow.length;simp only [blkE]at h2;omega
 simp only [blkE,Xc]at b0 b1 b2 b3;have hE:=Xc ps (k*8);rw [hm]at b3;obtain⟨la,hla⟩:=eX (ZD ps (k*8));obtain⟨lb,hlb⟩:=eX (ZD ps (k*8+8))
 have hP:∀W:O,Below B w0 W->Calls prog 104 #[.agg #[.slice A2 n2 c2,.int .i64 la,.int .i64 lb,.int .i64 (m:Int)]] W fun e w' =>∃A' c' css,e= .returned (.tuple #[.slice A' m c',.bool true])/\Sp w' [RowA 116 2 (.slice A' m c') m css.flatten,ElsA css (blkP ps (k*8)),OldA W.heap.size W]:=fun W hW=>by
  have h:=jI (c:=c2) ((hrow.keep (fun _ hp=>hW.cell hp) (fun _ hp=>zX hp (zY hB hW.size))).rb fun b hb=>hb) hcap.1 hcap.2 hnb hm hm8 hrg hl0 ha0;rw [hE,hla,hlb]at h;exact h
 rw [hla]at b1;rw [hlb]at b2;have HP:=zA hP;have HF:=zA (fun(W:O) (hW:Below B w0 W)=>E9 hW hDB ⟨hb,hb,hb,hb⟩ (And.intro d0 (And.intro b0 (And.intro b1 (And.intro b2 b3)))));obtain⟨e0,e1,e2,e3,e4⟩:=HF.out w hbw;have q2:=HS.cl M0 2;have q3:=HS.cl M0 3;have Hd:=zA HS;have Hmm:=zA hmm;clear HS hl hrow he hP hrg hl0 hE hla hlb hm hk hl1 ha0 hnb Hx d0 b0 b1 b2 b3 hbw hrp hmm hB;go_enter func52,ntmps52
 go_upto_region 1 with fail
 go_quiet (fail)
 have HSd:=Hd.out.drewN (nq+1);go_upto_region 5 with fail
 go_region_held3 (fun W=>W.cell? ⟨I,2,none⟩=some (.pointer (some ⟨D,0,none⟩))/\W.cell? ⟨I,3,none⟩=some (.int .i64 (k:Int))/\W.cell? ⟨D,0,none⟩=some (.slice (some ⟨b,off,none⟩) n1 c1)/\W.cell? ⟨b,off+k*4,none⟩=some (.slice A2 n2 c2)/\W.cell? ⟨b,off+k*4+1,none⟩=some (.int .i64 la)/\W.cell? ⟨b,off+k*4+2,none⟩=some (.int .i64 lb)/\W.cell? ⟨b,off+k*4+3,none⟩=some (.int .i64 (m:Int))) (first|exact⟨HS6.cell M2 2,HS6.cell M2 3,HF.out _ (HS6.below (.tail _ (.tail _ (.tail _ Hmm.out))))⟩|exact⟨HSx.cell M0 2,HSx.cell M0 3,HF.out _ (HSx.below (.tail _ (.tail _ Hmm.out)))⟩|exact⟨by with_reducible assumption,by with_reducible assumption,by with_reducible assumption,by with_reducible assumption,by with_reducible assumption,by with_reducible assumption,by with_reducible assumption⟩|trivial)
  (first
   |(go_at_call 104;refine(HP.out _ (HSd.below (.tail _ Hmm.out))).mono ?_;rintro e w5 ⟨A',c',css,rfl,HS5⟩;have HS6:=HSd.call [_,_] HS5;have HSx:=(HS6.els (α:=PostD)).p1.set 0 (.slice A' m c');have g0:=HS6.cl M2 0;have g1:=HS6.cl M2 1;have g3:=HS6.cl M2 3;have f0:=(HS6.blkOf M2).frozen 0;have f1:=(HS6.blkOf M2).frozen 1;have f3:=(HS6.blkOf M2).frozen 3)
   |fail)
 have HS7:=zA ((HSx.set 1 (.int .i64 0)).set 3 (.int .i64 ((k+1:Nat):Int)));clear HS6 HSx HS5 HSd HF e0 e1 e2 e3 e4 q2 q3;have hk1:IntKind.i64.wrap ((k:Int)+1)=((k+1:Nat):Int):=by rw [zT];omega
 go_wp2;go_ret
 exact⟨A',c',rfl,HS7.out⟩
theorem pZ {f:FuncId} {args:aG} {w:O} {n:Nat} {v:V} (h:Calls prog f args (w.drewN n) fun e w' =>e= .returned v/\xG (w.drewN n) w'):Calls prog f args (w.drewN n) fun e w'' =>e= .returned v/\∃m,w'' =w.drewN m:=
 h.mono fun _ _ ⟨he,m,hm⟩=>⟨he,n+m,by rw [hm,World.drewN_drewN]⟩
def ItA (I D:Nat) (vp:V) (ps:List PostD) (o:Nat):List Asn:= [ItB I D vp (itAt ps o) (itN ps o),DatA vp (itP ps o)]
theorem Ud {ps:List PostD} {o:Nat} (h:1<=o) (h2:o<=ps.length):itP ps o=blkP ps ((o - 1) / 8*8):=by unfold itP;rw [if_neg (by omega)]
theorem UC {ps:List PostD} {o:Nat} (h:1<=o) (h2:o<=ps.length):itAt ps o=(((o - 1)%8:Nat):Int):=by unfold itAt;rw [if_neg (by omega),if_neg (by omega)]
theorem fS {ps:List PostD} {o:Nat} (h:1<=o) (h2:o<=ps.length):itN ps o=(((o - 1) / 8+1:Nat):Int):=by unfold itN;rw [if_neg (by omega),if_neg (by omega)]
theorem eL (ps:List PostD) (x:Nat):(blkP ps x).length=min 8 (ps.length - x):=by unfold blkP;rw [zr,ze]
theorem ME {ps:List PostD} {x j:Nat} (h:j<8):(blkP ps x)[j]? =ps[x+j]? :=by unfold blkP;rw [yy,if_pos h,List.getElem?_drop]
section
variable {I D o:Nat} {vp:V} {ps:List PostD} {L:List Asn} {w:O}
theorem lD (HS:Sp w (ItA I D vp ps o++L)) (hd:bQ L D ps) (hr:xk ps=true) (ho:o<=ps.length):
 Calls prog 20 #[.pointer (some ⟨I,0,none⟩)] w fun e w' =>∃vp',e= .returned (.bool (decide (o<ps.length)))/\Sp w' (ItA I D vp' ps (o+1)++L):=by
 obtain⟨n,hn⟩:=eX (ps.length)
 have hn1:n<=1000000:=by
  obtain⟨_,_,h3⟩:=QN hr;omega
 unfold ItA at HS;simp only [yI,zZ]at HS;obtain⟨A,m,c,hv,hl⟩:=HS.dat M1;cases hv;have hm:=hl.length;have q0:=HS.cl M0 0;obtain⟨z,hz⟩:=eX (itAt ps o);obtain⟨nx,hnx⟩:=eX (itN ps o);rw [hz,hnx]at HS;have q1:=HS.cl M0 1
 by_cases hin:1<=o/\o<n/\o%8≠0
 ·obtain⟨h1,h2,h3⟩:=hin;rw [UC h1 ho]at hz;rw [Ud h1 ho,eL,hn]at hm;rw [fS h1 ho]at hnx;have b1:decide (0<=z)=true:=decide_eq_true (by omega);have b2:decide (z<(m:Int))=true:=decide_eq_true (by omega);have b3:decide (z+1<(m:Int))=true:=decide_eq_true (by omega);have b4:IntKind.i64.wrap (z+1)=z+1:=(by rw [zT];omega);have HH:=zA (fun nq=>pZ (UG (I:=I) (A:=A) (c:=c) (w:=w.drewN nq) q0 q1))
  rw [b1,b2,Bool.true_and]at HH;have e1:itAt ps (o+1)=z+1:=(by rw [UC (by omega) (by omega),<-hz];omega);have e2:itN ps (o+1)=nx:=(by rw [fS (by omega) (by omega),<-hnx];omega)
  have e3:itP ps (o+1)=itP ps o:=by
   rw [Ud (by omega) (by omega),Ud h1 ho]
   congr 1
   omega
  have b5:decide (o<n)=true:=decide_eq_true h2;have Hd:=zA HS;rw [hn,b5];unfold ItA;rw [e1,e2,e3];clear HS hl hm hz hnx hd hr h1 h2 h3 e1 e2 e3 b1 b2 hn ho hn1 b5;go_enter func20,ntmps20;go_upto_region 3 with fail
  go_quiet ((go_at_call 51;exact HH.out _))
  have HS1:=Hd.out.drewN nq;obtain⟨w3,hw3⟩:=eX (w.drewN nq);rw [hw3]at HS1⊢;have g1:=HS1.cl M0 1;have f1:=(HS1.blkOf M0).frozen 1;have HS2:=zA (HS1.set 1 (.int .i64 (z+1)));clear HS1 hw3 q0 q1 HH;go_wp2;go_ret
  exact⟨_,rfl,HS2.out⟩
 ·obtain⟨bh,hbh⟩:=eX ((decide (0<=z) && decide (z<(m:Int))));have hcap:=hl.cap
  have b3:bh=true->IntKind.i64.wrap (z+1)=z+1/\decide (z+1<(m:Int))=false:=fun h=>by
   rw [<-hbh,zM,decide_eq_true_eq,decide_eq_true_eq]at h;refine⟨by rw [zT];omega,?_⟩
   apply decide_eq_false
   have h1:1<=o:=by
    rcases zi o with h0|h0
    ·rw [h0]at hz;unfold itAt at hz;simp at hz;omega
    ·exact h0
   rw [UC h1 ho]at hz;rw [Ud h1 ho,eL,hn]at hm;omega
  have HH:=zA (fun nq=>pZ (UG (I:=I) (A:=A) (c:=c) (w:=w.drewN nq) q0 q1));rw [hbh]at HH
  have HL:=zA (fun(W:O) (hW:Sp W (ItB I D (.slice A m c) z nx::DatA (.slice A m c) (itP ps o)::L))=>show Calls prog 52 #[.pointer (some ⟨I,0,none⟩)] W fun e w' =>∃vp',e= .returned (.bool (decide (o<ps.length)))/\Sp w' (ItA I D vp' ps (o+1)++L)from by
   have hd1:bQ (DatA (.slice A m c) (itP ps o)::L) D ps:=by
    obtain⟨B,w0,h1,h2,h3⟩:=hd;exact⟨B,w0,.tail _ h1,h2,h3⟩
   by_cases hlt:o<n
   ·have h8:o%8=0:=by
     rcases zi o with h0|h0
     ·omega
     ·exact Decidable.byContradiction fun h=>hin ⟨h0,hlt,h⟩
    have hk:nx=((o / 8:Nat):Int):=by
     rw [<-hnx];unfold itN
     split
     ·omega
     ·rw [if_neg (by omega)];omega
    rw [hk]at hW;refine(EE (k:=o / 8) hW hd1 hr (by omega) rfl).mono ?_;rintro e w' ⟨A',c',rfl,hS⟩;refine⟨.slice A' (blkP ps (o / 8*8)).length c',by rw [decide_eq_true (show o<ps.length by omega)],?_⟩;unfold ItA;rw [UC (by omega) (by omega),fS (by omega) (by omega),Ud (by omega) (by omega)];have e1:((o+1 - 1)%8:Nat)=0:=(by omega);have e2:o+1 - 1=o:=(by omega);rw [e1,e2];exact hS.d2
   ·obtain rfl:o=n:=by omega
    have hk:(nP ps.length:Int)<=nx:=by
     rw [<-hnx];unfold itN nP
     split
     ·omega
     ·rw [if_neg (by omega)];omega
    refine(JC hW hd1 hk).mono ?_;rintro e w' ⟨rfl,hS⟩;refine⟨.slice none 0 0,by rw [decide_eq_false (show ¬o<ps.length by omega)],?_⟩;have e1:itAt ps (o+1)=0:=(by unfold itAt;rw [if_neg (by omega),if_pos (by omega)]);have e2:itN ps (o+1)=1073741824:=(by unfold itN;rw [if_neg (by omega),if_pos (by omega)]);have e3:itP ps (o+1)= []:=(by unfold itP;rw [if_pos (by omega)]);unfold ItA;rw [e1,e2,e3]
    exact(((hS.d1.elsNil (α:=PostD)).nil 116 2).els (α:=PostD) (css:= [])).p1)
  have Hd:=zA HS;clear HS hl hm hz hnx hd hr hn ho hn1 hin hbh;cases bh
  all_goals
   (try obtain⟨b4,b5⟩:=b3 rfl)
   clear b3 hcap;go_enter func20,ntmps20;go_upto_region 3 with fail
   go_quiet ((go_at_call 51;exact HH.out _))
   have HL1:=zA (HL.out _ (Hd.out.drewN nq));clear HL HH q0 q1;go_wp2_with fail;refine HL1.out.mono ?_;rintro e w4 ⟨vp',rfl,HS4⟩;go_wp2;go_ret
   exact⟨vp',rfl,HS4⟩
theorem o9 {p:PostD} (HS:Sp w (ItA I D vp ps o++L)) (ho:1<=o) (hp:ps[o - 1]? =some p):∃(A:aA) (m c b off j:Nat) (A1:aA) (n1 c1:Nat),A=some ⟨b,off,none⟩/\j<m/\w.cell? ⟨I,0,none⟩=some (.slice A m c)/\w.cell? ⟨I,1,none⟩=some (.int .i64 (j:Int))/\w.cell? ⟨b,off+j*2,none⟩=some (.int .i64 p.doc)/\w.cell? ⟨b,off+j*2+1,none⟩=some (.slice A1 n1 c1)/\zL w (·<w.heap.size) A1 n1 c1 p.pos:=by
 have hl:=zN hp;unfold ItA at HS;simp only [yI,zZ]at HS;rw [UC ho (by omega),Ud ho (by omega)]at HS;obtain⟨A,m,c,hv,hx⟩:=HS.dat M1;cases hv;have hm:=hx.length;rw [eL]at hm;have hj:(o - 1)%8<m:=by omega
 obtain⟨b,off,x,rfl,Hx,hb,he⟩:=hx.at_ hj
 have hxp:x=p:=by
  have h:=Hx.out;rw [ME (Nat.mod_lt _ (by omega)),show(o - 1) / 8*8+(o - 1)%8=o - 1 by omega,hp]at h;exact(yG h).symm
 subst hxp;obtain⟨A1,n1,c1,E0,E1,hps, -⟩:=PostD.at_ he
 exact⟨_,m,c,b,off,(o - 1)%8,A1,n1,c1,rfl,hj,HS.cell M0 0,HS.cell M0 1,E0,E1,hps⟩
theorem pF {p:PostD} (HS:Sp w (ItA I D vp ps o++L)) (ho:1<=o) (hp:ps[o - 1]? =some p):
 Calls prog 16 #[.pointer (some ⟨I,0,none⟩)] w fun e w' =>e= .returned (.int .i64 p.doc)/\xG w w' :=by
 obtain⟨A,m,c,b,off,j,A1,n1,c1,rfl,hj,q0,q1,q2, -, -⟩:=o9 HS ho hp;have HH:=zA (UG q0 q1);have b1:decide (0<=(j:Int))=true:=decide_eq_true (by omega);have b2:decide ((j:Int)<(m:Int))=true:=decide_eq_true (by omega);rw [b1,b2,Bool.true_and]at HH;have b3:(j:Int)<(m:Int):=by omega
 clear HS hp ho b1 b2 hj;go_enter func16,ntmps16;go_upto_region 2 with(go_at_call 51;refine HH.out.mono ?_;rintro e w1 ⟨rfl,n0,rfl⟩)
 go_quiet (fail)
 go_wp2;go_ret
 exact⟨rfl,⟨_,World.drewN_drewN ..⟩⟩
theorem K4 {p:PostD} (HS:Sp w (ItA I D vp ps o++L)) (ho:1<=o) (hp:ps[o - 1]? =some p) (hb:p.pos.length<=1048576):
 Calls prog 17 #[.pointer (some ⟨I,0,none⟩)] w fun e w' =>∃A' n' c',e= .returned (.slice A' n' c')/\p.pos.length=n' /\Sp w' (RowA 3 1 (.slice A' n' c') n' (ints p.pos)::OldA w.heap.size w:: []):=by
 obtain⟨A,m,c,b,off,j,A1,n1,c1,rfl,hj,q0,q1, -,q3,hps⟩:=o9 HS ho hp;have HH:=zA (UG q0 q1);have b1:decide (0<=(j:Int))=true:=decide_eq_true (by omega);have b2:decide ((j:Int)<(m:Int))=true:=decide_eq_true (by omega);rw [b1,b2,Bool.true_and]at HH;have b3:(j:Int)<(m:Int):=by omega
 have hn1:=hps.length;have HC:=zA (fun(W:O) (hW:Below w.heap.size w W)=>l4 A1 n1 c1 (ints p.pos) W (by omega) (hps.on hW).reads_ints (Y3 _));have Hn1:=zA hn1;clear HS hp ho b1 b2 hj hps hn1;go_enter func17,ntmps17;go_upto_region 3 with(go_at_call 51;refine HH.out.mono ?_;rintro e w1 ⟨rfl,n0,rfl⟩)
 go_region_held3 (fun W=>W.cell? ⟨I,0,none⟩=some (.slice (some ⟨b,off,none⟩) m c)/\W.cell? ⟨I,1,none⟩=some (.int .i64 (j:Int))/\W.cell? ⟨b,off+j*2+1,none⟩=some (.slice A1 n1 c1)) (first|exact⟨by with_reducible assumption,by with_reducible assumption,by with_reducible assumption⟩|exact K5|trivial)
  (first
   |(go_at_call 53;refine(HC.out _ (zd (zE _ _) _)).mono ?_;rintro e w5 ⟨A',c',rfl,hr5,hb5⟩;have hb6:=(zd (zE w.heap.size w) _).trans hb5;have K5:=And.intro ((hb6.cell (ye q0)).trans q0) (And.intro ((hb6.cell (ye q1)).trans q1) ((hb6.cell (ye q3)).trans q3)))
   |fail)
 go_wp2;go_ret
 exact⟨A',n1,c',rfl,Hn1.out,((Sp.start w).grow (zd (zE _ _) _)).row hr5 hb5⟩
end
end Go.Proofs.YtjbhbfaeielbiaaGreatDoor

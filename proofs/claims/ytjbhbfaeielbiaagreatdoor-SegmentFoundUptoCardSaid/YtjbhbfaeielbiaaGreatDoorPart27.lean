import Derived.Test.YtjbhbfaeielbiaaGreatDoorPart25
import Derived.Test.YtjbhbfaeielbiaaGreatDoorPart21
set_option maxRecDepth 100000
set_option maxHeartbeats 8000000
set_option linter.unusedVariables false
set_option linter.unusedSimpArgs false
namespace Go.Proofs.YtjbhbfaeielbiaaGreatDoor
open Go.Proofs.Tryz
open Rep (rep)
open Go.RowKit
def X3 (xs:aD) (s:aB):Bool:=
 match xs with
 | []=>false
 |a::t=>ZI (a::t) && decide (s.size<=4096) && decide ((xJ a s).length<=4096) && (lks t (xJ a s)).isSome
theorem uE {xs:aD} {s:aB} (h:ZI xs=false):X3 xs s=false:=by cases xs<;>simp_all [X3]
theorem jD {xs:aD} {s:aB} (h:¬s.size<=4096):X3 xs s=false:=by cases xs<;>simp [X3,h]
theorem jC {a:Int} {t:aD} {s:aB} {toks:List Token} (b:xJ a s=toks) (h:¬toks.length<=4096):X3 (a::t) s=false:=by subst b;simp [X3,h]
theorem wH {a:Int} {t:aD} {s:aB} {toks:List Token} (b:xJ a s=toks) (h:lks t toks=none):X3 (a::t) s=false:=by subst b;simp [X3,h]
theorem mP {a:Int} {t:aD} {s:aB} {toks cur:List Token} (b:ZI (a::t)=true) (d:s.size<=4096) (e:xJ a s=toks) (h:toks.length<=4096) (c:lks t toks=some cur):X3 (a::t) s=true:=by subst e;simp [X3,b,d,h,c]
theorem bX {a:Int} {b:Bool} (c:b=false) (h:a≠0):a=0↔b=true:=by subst c;simp [h]
theorem qN {b:Bool} (a:b=true):(0:Int)=0↔b=true:=by simp [a]
theorem mQ (A:aA) (n c:Nat) (xs:aD) (s:aB) (w:O) (hT:Tabs w) (hr:zL w (·<w.heap.size) A n c xs):
 Calls prog 47 #[.slice A n c,.string s] w fun e w' =>∃v er,e= .returned (.tuple #[v,.int .i64 er])/\(er=0↔X3 xs s=true)/\Own Flat w' w.heap.size 48 v (runT xs s)/\Below w.heap.size w w' :=by
 have h6:=hr.cap;have hl:=hr.length;have HT:=zA hT;have Hr:=zA hr;clear hr hT;obtain⟨q,hq⟩:=eX (runT xs s);rw [hq]
 by_cases m:ZI xs=true
 ·rcases xs with _|⟨x0,t⟩
  ·cases m
  have h7:=l6 m;have Y:n=t.length+1:=(by simpa using hl.symm);obtain⟨b,off,x,rfl,hx,hb,he⟩:=Hr.o.at_ (k:=0) (by omega)
  obtain rfl:x0=x:=by simpa using hx.o
  have hg:∀W,Below w.heap.size w W->W.cell? ⟨b,off,none⟩=some (.int .i64 x0):=fun W hW=>(hW.cell (p:=⟨b,off,none⟩) hb).trans (by simpa using he.int.1);have ha:=zA hg;have U:=V3 (some ⟨b,off,none⟩) n c (x0::t) w HT.o Hr.o;rw [m,show aS true=0 from rfl]at U;have P:=zA U;clear U;have I:=zA m;have Hq:=zA hq;clear hx he m hq hl hg
  by_cases hs:(4096:Int)<s.size
  ·obtain rfl:q= []:=Hq.o.symm.trans (kV (by omega));have z:=zA (jD (xs:=x0::t) (s:=s) (by omega));clear Y;go_enter func47,ntmps47;go_wp2_with fail;refine P.o.mono ?_;rintro e w1 ⟨rfl,g⟩;have l:=zA g;clear g;go_wp2;go_ret2;exact⟨_,_,rfl,bX z.o (by decide),Own.nil _ _ _ _,l.o⟩
  ·have D:s.size<=4096:=(by omega);have xb:(s.size:Int)<=4096:=(by omega);have h8:0<n:=(by omega);obtain⟨toks,K⟩:=eX (xJ x0 s);have hp:QY 4096 toks:=by rw [<-K];exact fun t ht=>zY (VC x0 s t ht) D
   have d:(if toks.length<=4096 then(lks t toks).getD []else [])=q:=(oR I.o D K).symm.trans Hq.o;have h1:=zA hp;have f:=zA d;have r:=zA K;have C:=zA Y;clear hp d K hs Y Hq
   by_cases h3:c=1
   ·obtain rfl:n=1:=by omega
    subst h3;go_enter func47,ntmps47;go_wp2_with fail;refine P.o.mono ?_;rintro e w1 ⟨rfl,g⟩;have G:=ha.o w1 g;have l:=zA g;clear g;go_wp2_with fail;refine(iR x0 s D w1 (HT.o.on l.o)).mono ?_;rw [r.o];rintro e w2 ⟨v,rfl,o2,F⟩;obtain⟨A2,c2,rfl⟩:=o2.form;have B:=l.o.size;have E:Hid (Below w.heap.size w w2):=l.o.trans (F.mono B)
    have R:Hid (Own Flat w2 w.heap.size 48 (.slice A2 toks.length c2) toks):=o2.mono B;clear o2 F B
    by_cases u:(4096:Int)<toks.length
    ·obtain rfl:q= []:=by rw [<-f.o,if_neg (by omega)]
     have z:=zA (jC (t:=t) r.o (by omega));go_wp2;go_ret2;exact⟨_,_,rfl,bX z.o (by decide),Own.nil _ _ _ _,E.o⟩
    ·have hi:(toks.length:Int)<=4096:=(by omega);have d:(lks t toks).getD []=q:=(by rw [<-f.o,if_pos (by omega)]);have f:=zA d;clear d u G;go_wp2
     go_loopw [7,31] (fun v i wr=>v= .slice A2 toks.length c2/\i= .int .i64 0/\wr=w2) (fun _ _ _=>0)
     case atStart=>exact⟨rfl,rfl,rfl⟩
     case round=>
      obtain⟨rfl,rfl,rfl⟩:=hrel;go_wp2;go_ret2;exact⟨_,_,rfl,qN (mP (cur:=toks) I.o D r.o (by omega) (by rw [zS (show t.length=0 by have:=C.o;omega)];rfl)),by rw [<-f.o,zS (show t.length=0 by have:=C.o;omega)];exact R.o,E.o⟩
   ·go_enter func47,ntmps47;go_wp2_with fail;refine P.o.mono ?_;rintro e w1 ⟨rfl,g⟩;have G:=ha.o w1 g;have l:=zA g;clear g;go_wp2_with fail;refine(iR x0 s D w1 (HT.o.on l.o)).mono ?_;rw [r.o];rintro e w2 ⟨v,rfl,o2,F⟩;obtain⟨A2,c2,rfl⟩:=o2.form;have B:=l.o.size;have E:Hid (Below w.heap.size w w2):=l.o.trans (F.mono B)
    have R:Hid (Own Flat w2 w.heap.size 48 (.slice A2 toks.length c2) toks):=o2.mono B;clear o2 F B
    by_cases u:(4096:Int)<toks.length
    ·obtain rfl:q= []:=by rw [<-f.o,if_neg (by omega)]
     have z:=zA (jC (t:=t) r.o (by omega));go_wp2;go_ret2;exact⟨_,_,rfl,bX z.o (by decide),Own.nil _ _ _ _,E.o⟩
    ·have hi:(toks.length:Int)<=4096:=(by omega);have d:(lks t toks).getD []=q:=(by rw [<-f.o,if_pos (by omega)]);have f:=zA d;clear d u G;go_wp2
     go_loopw [7,31] (fun v i wr=>∃(j:Nat) (cur:List Token),j+1<=n/\i= .int .i64 j/\lks (t.take j) toks=some cur/\QY (4096*4^j) cur/\Own Flat wr w.heap.size 48 v cur/\Below w.heap.size w wr) (fun _ i _=>n - (intOf i).toNat)
     case atStart=>exact⟨0,toks,by omega,rfl,rfl,by simpa using h1.o,R.o,E.o⟩
     case round=>
      obtain⟨j,cur,hj,rfl,hm,ho,oc,hd⟩:=hrel;obtain⟨Ac,cc,rfl⟩:=oc.form;have Q:=zA hm;have hc:=zA ho;have S:=zA oc;have o:=zA hd;obtain⟨L,hL⟩:=eX (cur.length);rw [hL]at S oc⊢;have HL:=zA hL;clear hm ho oc hd hL
      by_cases h9:j<n - 1
      ·obtain⟨y,hy⟩:∃y,t[j]? =some y:=⟨_,zB (by have:=C.o;omega)⟩;have h4:_=_:=(((Hr.o.on o.o).elem (k:=j+1) (by simpa using hy)).2.int.1);rw [show off+(j+1)=off+1+j by omega]at h4;have hf:=s9 I.o hy
       have hu:4096*4^j<=1000000000:=by
        have:4^j<=4^7:=yB (by omega) (by have:=C.o;omega);omega
       have H:=JD (toks:=toks) hy;rw [Q.o]at H;have H:lks (t.take (j+1)) toks=if (Zv y cur).length<=4096 then some (Zv y cur)else none:=H;have T:=zA H;have Hy:=zA hy;have h2:=zA hu;clear hy H hu;have hn:=S.o.reads.more (F' :=(·<wr.heap.size)) (fun _ h=>h.2);have hh:=LJ y hf Ac L cc cur wr (HT.o.on o.o) hn (fun t ht=>zY (hc.o t ht) h2.o)
       have hw:=zA hh;clear hn hh hf;go_wp2_with fail;refine hw.o.mono ?_;rintro e w3 ⟨⟨hk,v3,rfl,o3⟩|⟨h5,rfl⟩,J⟩
       ·have Z:=o.o.size;have N:Hid (Below w.heap.size w w3):=o.o.trans (J.mono Z);have h0:Hid (Own Flat w3 w.heap.size 48 v3 (Zv y cur)):=o3.mono Z;have hz:=zA hk;clear hk o3 J Z;go_wp2
        go_roundw
        case rel=>exact⟨j+1,Zv y cur,by omega,by go_num,by rw [T.o,if_pos hz.o],by rw [Nat.pow_succ,<-Nat.mul_assoc,Nat.mul_comm];exact gY hc.o,h0.o,N.o⟩
        case measure=>simp [intOf];omega
       ·have X:q= []:=by
         rw [<-f.o,nH (j:=j+1) (by rw [T.o,if_neg (by omega)])];rfl
        subst X;have z:=zA (wH (t:=t) r.o (nH (j:=j+1) (by rw [T.o,if_neg (by omega)])));have N:Hid (Below w.heap.size w w3):=o.o.trans (J.mono o.o.size);clear h5 J;go_wp2;go_ret2;exact⟨_,_,rfl,bX z.o (by decide),Own.nil _ _ _ _,N.o⟩
      ·obtain rfl:j=n - 1:=by omega
       have d:cur=q:=by
        rw [<-f.o,<-yq (a:=cur) (b:= []),<-Q.o,zF (by have:=C.o;omega)]
       have M:lks t toks=some cur:=(by rw [<-Q.o,zF (by have:=C.o;omega)]);have hv:=zA (mP I.o D r.o (by omega) M);clear M;subst d;go_wp2;go_ret2;exact⟨_,_,rfl,qN hv.o,S.o,o.o⟩
 ·obtain rfl:q= []:=hq.symm.trans (mO (Bool.eq_false_iff.2 m));have m:=zA (Bool.eq_false_iff.2 m);clear hq hl;go_enter func47,ntmps47;go_wp2_with fail;refine(V3 A n c xs w HT.o Hr.o).mono ?_;rw [m.o,show aS false=60 from rfl];rintro e w1 ⟨rfl,g⟩;have l:=zA g;clear g;go_wp2;go_ret2;exact⟨_,_,rfl,bX (uE m.o) (by decide),Own.nil _ _ _ _,l.o⟩
end Go.Proofs.YtjbhbfaeielbiaaGreatDoor

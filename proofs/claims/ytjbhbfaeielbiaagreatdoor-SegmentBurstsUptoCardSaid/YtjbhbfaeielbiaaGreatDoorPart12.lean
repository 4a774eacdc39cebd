import Derived.Test.YtjbhbfaeielbiaaGreatDoorPart11
import Derived.Test.YtjbhbfaeielbiaaGreatDoorPart05
import Derived.Test.YtjbhbfaeielbiaaGreatDoorPart10
import Derived.Test.YtjbhbfaeielbiaaGreatDoorPart09
import Derived.Test.YtjbhbfaeielbiaaGreatDoorPart07
set_option maxRecDepth 100000
set_option maxHeartbeats 8000000
set_option linter.unusedVariables false
set_option linter.unusedSimpArgs false
namespace Go.Proofs.YtjbhbfaeielbiaaGreatDoor
open Tryz
open Rep (rep)
open Go.RowKit
abbrev BA (A:aA) (m c:Nat) (l:aC):Asn:=RowA 5 1 (.slice A m c) m (bC l)
def RdA (p:Nat) (r:RS):Asn where
 P S w:=Rd w S p r/\∀b,S b->b<w.heap.size
 lt h:=h.2
 keep h ht hn:=⟨h.1.tch ht hn,fun b hb=>zX (h.2 b hb) ht.size⟩
section
variable {w w' :O} {L:List Asn} {A:aA} {n c p:Nat} {l:aC} {r r' :RS}
theorem Sp.rb (h:Sp w L) (hm:BA A n c l∈L):RB w A n l/\n<=c/\c<=9223372036854775807:=
 ⟨(h.rowOf hm).rc,(h.rowOf hm).cap.2⟩
theorem Sp.rd (h:Sp w (RdA p r::L)):∃S,Rd w S p r/\∀w' r',xY w S p r' w' ->Sp w' (RdA p r' ::L):=by
 obtain⟨S,h1,h2,h3⟩:=h;refine⟨S,h2.1,fun w' r' ho=> ?_⟩;have hs:S p:=h2.1.1;exact⟨S,h1,⟨ho.1,fun b hb=>zX (h2.2 b hb) ho.2.size⟩,SpU.tch ho.2 h3 fun b hb _ e=>hb.2 (by subst e;exact hs)⟩
theorem Sp.rdOf (h:Sp w (RdA p r::L)):∃S,Rd w S p r:=by obtain⟨S,k,_⟩:=h.rd;exact⟨S,k⟩
theorem VG (h:Sp w L) (hl:RB w A n l) (hn:n<=140737488355328):
 Calls prog 73 #[.slice A n c] w fun e w' =>∃p,e= .returned (.pointer (some ⟨p,0,none⟩))/\Sp w' (RdA p ⟨l,0,0⟩::L):=
 (VF A n c l w hn hl).mono fun _ w' ⟨p,he,hr,hb⟩=>⟨p,he,h.new (S:=fun b=>w.heap.size<=b/\b<w'.heap.size) hb ⟨hr.mono fun b hb h=>⟨h,hb⟩,fun b hb=>hb.2⟩ fun b hb=>hb.1⟩
theorem MW (h:Sp w (RdA p r::L)):
 Calls prog 253 #[.pointer (some ⟨p,0,none⟩)] w fun e w' =>e= .returned (.int .u64 (r.uint.1:Nat))/\Sp w' (RdA p r.uint.2::L):=by
 obtain⟨S,hr,k⟩:=h.rd;exact(GT p r S w hr).mono fun _ _ ⟨he,ho⟩=>⟨he,k _ _ ho⟩
theorem gB (h:Sp w (RdA p r::L)):
 Calls prog 134 #[.pointer (some ⟨p,0,none⟩)] w fun e w' =>e= .returned (.int .i64 r.int.1)/\Sp w' (RdA p r.int.2::L):=by
 obtain⟨S,hr,k⟩:=h.rd;exact(gS p r S w hr).mono fun _ _ ⟨he,ho⟩=>⟨he,k _ _ ho⟩
theorem ZH (h:Sp w (RdA p r::L)) (most:Nat) (hm:most<=4611686018427387904):
 Calls prog 74 #[.pointer (some ⟨p,0,none⟩),.int .i64 (most:Int)] w fun e w' =>e= .returned (.int .i64 ((r.size most).1:Nat))/\Sp w' (RdA p (r.size most).2::L):=by
 obtain⟨S,hr,k⟩:=h.rd;exact(IF most hm p r S w hr).mono fun _ _ ⟨he,ho⟩=>⟨he,k _ _ ho⟩
theorem bV (h:Sp w (RdA p r::L)) (most:Nat) (hm:most<=4611686018427387904):
 Calls prog 190 #[.pointer (some ⟨p,0,none⟩),.int .i64 (most:Int)] w fun e w' =>e= .returned (.string ⟨(r.text most).1.toArray⟩)/\Sp w' (RdA p (r.text most).2::L):=by
 obtain⟨S,hr,k⟩:=h.rd;exact(GW most hm p r S w hr).mono fun _ _ ⟨he,ho⟩=>⟨he,k _ _ ho⟩
theorem Sp.rd2 (h:Sp w (RdA p r::L)):∃S,Rd w S p r/\∀w' r' A m c l,xY w S p r' w' ->zt w' (Frm w.heap.size) 5 1 (.slice A m c) m (bC l)->Sp w' (BA A m c l::RdA p r' ::L):=by
 obtain⟨S,_,h2,h3⟩:=h;refine⟨S,h2.1,fun w' r' A m c l ho hr=> ?_⟩;have hs:S p:=h2.1.1;refine⟨fun b=>(Value.slice A m c).ownBlock=some b,fun _ _=>trivial,⟨fun _=>Iff.rfl,hr.mono fun _ _ _=>trivial⟩,S,fun b hb=>⟨trivial,fun e=> ?_⟩,⟨ho.1,fun b hb=>zX (h2.2 b hb) ho.2.size⟩,?_⟩
 ·have h4:=(hr.lt b e).1;have h5:=h2.2 b hb;exact absurd h5 (Nat.not_lt.2 h4)
 ·refine SpU.tch ho.2 (SpU.mono h3 fun b hb u=>⟨⟨trivial,fun e=> ?_⟩,u.2⟩) fun b hb _ e=>hb.2 (by subst e;exact hs);exact absurd hb (Nat.not_lt.2 (hr.lt b e).1)
theorem oT (h:Sp w (RdA p r::L)) (m:Nat) (hm:m<=4611686018427387904):
 Calls prog 76 #[.pointer (some ⟨p,0,none⟩),.int .i64 (m:Int)] w fun e w' =>∃A' k,e= .returned (.slice A' k k)/\Sp w' (BA A' k k (r.bytes m).1::RdA p (r.bytes m).2::L):=by
 obtain⟨S,hr,k⟩:=h.rd2;refine(Um m hm p r S w hr).mono fun _ w' ⟨v,he,⟨⟨A',hv⟩,hb⟩,ho⟩=> ?_;subst hv;exact⟨A',_,he,k _ _ _ _ _ _ ho hb⟩
theorem Xz (h:Sp w (RdA p r::L)):
 Calls prog 77 #[.pointer (some ⟨p,0,none⟩)] w fun e w' =>e= .returned (.int .i64 (r.left:Nat))/\∃k,w' =w.drewN k:=by
 obtain⟨S,hr⟩:=h.rdOf;exact dX p r S w hr
theorem dH (h:Sp w (RdA p r::L)):
 Calls prog 79 #[.pointer (some ⟨p,0,none⟩)] w fun e w' =>e= .returned (.int .i64 (r.e:Nat))/\w=w' :=by
 obtain⟨S,hr⟩:=h.rdOf;exact Zr p r S w hr
theorem gC (h:Sp w (RdA p r::L)):
 Calls prog 129 #[.pointer (some ⟨p,0,none⟩)] w fun e w' =>e= .returned (.int .i64 (r.fin.e:Nat))/\Sp w' (RdA p r.fin::L):=by
 obtain⟨S,hr,k⟩:=h.rd;exact(LV p r S w hr).mono fun _ _ ⟨he,ho⟩=>⟨he,k _ _ ho⟩
theorem ZR (h:Sp w L) {x:Nat} (hl:RB w A n l) (hn:n<=100000000000000) (hx:x<18446744073709551616):
 Calls prog 85 #[.slice A n c,.int .u64 (x:Int)] w fun e w' =>∃A' m,e= .returned (.slice A' m m)/\m<=n+10/\Sp w' (BA A' m m (l++zP x)::L):=
 (gT A n c l x w hn hx hl).mono fun _ _ ⟨A',he,hr,hb⟩=>⟨A',_,he,by have:=ya hx;omega,h.row hr hb⟩
theorem pInt (h:Sp w L) {x:Int} (hl:RB w A n l) (hn:n<=100000000000000) (hx: -9223372036854775808<=x/\x<=9223372036854775807):
 Calls prog 161 #[.slice A n c,.int .i64 x] w fun e w' =>∃A' m,e= .returned (.slice A' m m)/\m<=n+10/\Sp w' (BA A' m m (l++zP (yc x))::L):=
 (wN A n c l x w hn hx hl).mono fun _ _ ⟨A',he,hr,hb⟩=>⟨A',_,he,by have:=ya (QH hx);omega,h.row hr hb⟩
theorem cD (h:Sp w L) {s:aB} (hl:RB w A n l) (hn:n+s.size<=100000000000000):
 Calls prog 219 #[.slice A n c,.string s] w fun e w' =>∃A' m,e= .returned (.slice A' m m)/\m<=n+10+s.size/\Sp w' (BA A' m m (l++(zP s.size++s.data.toList))::L):=
 (uG A n c l s w hn hl).mono fun _ _ ⟨A',he,hr,hb⟩=>⟨A',_,he,by have:=ya (n:=s.size) (by omega);omega,h.row hr hb⟩
theorem RB.none_ (w:O):RB w none 0 []:=RB.nil w none
end
def Q1 (er:Int):PanicEntry:={v:= .iface 136 (.agg #[.int .i64 er]),recovered:=false}
def Y8 (er:Int) (v:V) (w:O) (e:Ending) (w' :O):Prop:=(er=0/\e= .returned v\/er≠0/\e= .panicked [Q1 er])/\w' =w
theorem Y8.ok {v:V} {w w' :O} {e:Ending} (h:Y8 0 v w e w'):e= .returned v/\w' =w:=⟨h.1.elim And.right fun h=>absurd rfl h.1,h.2⟩
theorem Y8.bad {er:Int} {v:V} {w w' :O} {e:Ending} (hn:er≠0) (h:Y8 er v w e w'):e= .panicked [Q1 er]/\w' =w:=⟨h.1.elim (fun h=>absurd h.1 hn) And.right,h.2⟩
theorem pM (v:V) (er:Int) (w:O):Calls prog 31 #[v,.int .i64 er] w (Y8 er v w):=by
 by_cases h:er=0
 ·subst h;go_enter func31,ntmps31;go_wp2;go_ret
  exact⟨.inl ⟨rfl,rfl⟩,rfl⟩
 ·go_enter func31,ntmps31;go_wp2;exact⟨rfl,.inr ⟨h,rfl⟩,rfl⟩
theorem pL (v:V) (er:Int) (w:O):Calls prog 71 #[v,.int .i64 er] w (Y8 er v w):=by
 by_cases h:er=0
 ·subst h;go_enter func71,ntmps71;go_wp2;go_ret
  exact⟨.inl ⟨rfl,rfl⟩,rfl⟩
 ·go_enter func71,ntmps71;go_wp2;exact⟨rfl,.inr ⟨h,rfl⟩,rfl⟩
theorem pN (v:V) (er:Int) (w:O):Calls prog 78 #[v,.int .i64 er] w (Y8 er v w):=by
 by_cases h:er=0
 ·subst h;go_enter func78,ntmps78;go_wp2;go_ret
  exact⟨.inl ⟨rfl,rfl⟩,rfl⟩
 ·go_enter func78,ntmps78;go_wp2;exact⟨rfl,.inr ⟨h,rfl⟩,rfl⟩
theorem L9 (v:V) (er:Int) (w:O):Calls prog 81 #[v,.int .i64 er] w (Y8 er v w):=by
 by_cases h:er=0
 ·subst h;go_enter func81,ntmps81;go_wp2;go_ret
  exact⟨.inl ⟨rfl,rfl⟩,rfl⟩
 ·go_enter func81,ntmps81;go_wp2;exact⟨rfl,.inr ⟨h,rfl⟩,rfl⟩
theorem cY (v:V) (er:Int) (w:O):Calls prog 89 #[v,.int .i64 er] w (Y8 er v w):=by
 by_cases h:er=0
 ·subst h;go_enter func89,ntmps89;go_wp2;go_ret
  exact⟨.inl ⟨rfl,rfl⟩,rfl⟩
 ·go_enter func89,ntmps89;go_wp2;exact⟨rfl,.inr ⟨h,rfl⟩,rfl⟩
theorem MB (v:V) (er:Int) (w:O):Calls prog 146 #[v,.int .i64 er] w (Y8 er v w):=by
 by_cases h:er=0
 ·subst h;go_enter func146,ntmps146;go_wp2;go_ret
  exact⟨.inl ⟨rfl,rfl⟩,rfl⟩
 ·go_enter func146,ntmps146;go_wp2;exact⟨rfl,.inr ⟨h,rfl⟩,rfl⟩
theorem NL (v:V) (er:Int) (w:O):Calls prog 149 #[v,.int .i64 er] w (Y8 er v w):=by
 by_cases h:er=0
 ·subst h;go_enter func149,ntmps149;go_wp2;go_ret
  exact⟨.inl ⟨rfl,rfl⟩,rfl⟩
 ·go_enter func149,ntmps149;go_wp2;exact⟨rfl,.inr ⟨h,rfl⟩,rfl⟩
theorem L8 (v:V) (er:Int) (w:O):Calls prog 151 #[v,.int .i64 er] w (Y8 er v w):=by
 by_cases h:er=0
 ·subst h;go_enter func151,ntmps151;go_wp2;go_ret
  exact⟨.inl ⟨rfl,rfl⟩,rfl⟩
 ·go_enter func151,ntmps151;go_wp2;exact⟨rfl,.inr ⟨h,rfl⟩,rfl⟩
theorem MA (v:V) (er:Int) (w:O):Calls prog 153 #[v,.int .i64 er] w (Y8 er v w):=by
 by_cases h:er=0
 ·subst h;go_enter func153,ntmps153;go_wp2;go_ret
  exact⟨.inl ⟨rfl,rfl⟩,rfl⟩
 ·go_enter func153,ntmps153;go_wp2;exact⟨rfl,.inr ⟨h,rfl⟩,rfl⟩
theorem oA (v:V) (er:Int) (w:O):Calls prog 155 #[v,.int .i64 er] w (Y8 er v w):=by
 by_cases h:er=0
 ·subst h;go_enter func155,ntmps155;go_wp2;go_ret
  exact⟨.inl ⟨rfl,rfl⟩,rfl⟩
 ·go_enter func155,ntmps155;go_wp2;exact⟨rfl,.inr ⟨h,rfl⟩,rfl⟩
attribute [local go_sem ↓] zU zV
def RT (w:O) (A:aA) (n:Nat) (l:List aB):Prop:=RC w 1 A n (sC l)
theorem RT.len {w:O} {A:aA} {n:Nat} {l:List aB} (h:RT w A n l):l.length=n:=by have:=h.1;rw [MV]at this;omega
theorem RT.on {w w' :O} {A:aA} {n:Nat} {l:List aB} (h:RT w A n l) (hb:Below w.heap.size w w'):RT w' A n l:=RC.on h hb
theorem RT.at_ {w:O} {A:aA} {n k:Nat} {l:List aB} (h:RT w A n l) (hk:k<n):∃b off s,A=some ⟨b,off,none⟩/\b<w.heap.size/\w.cell? ⟨b,off+k,none⟩=some (.string s)/\Hid (l[k]? =some s):=by
 have hl:=h.len;obtain⟨b,off,rfl,hb,hc⟩:=h.2 (by omega);have hk' :k<l.length:=by omega
 exact⟨b,off,l[k],rfl,hb,hc k _ (bU (zB hk')),zB hk'⟩
theorem RT.cell {w:O} {b off:Nat} {n k:Nat} {l:List aB} {s:aB} (h:RT w (some ⟨b,off,none⟩) n l) (hx:l[k]? =some s):w.cell? ⟨b,off+k,none⟩=some (.string s):=by
 have hl:=h.len;obtain⟨b',off',e,_,hc⟩:=h.2 (by have:=zN hx;omega);cases e;exact hc k _ (bU hx)
def xj:Option aB->List aB->Bool
 |_, []=>true
 |p,s::l=>decide (s.size<=4096) && (match p with|none=>true|some p=>Op.bytesLess p.toList s.toList) && xj (some s) l
def xQ (l:List aB):Bool:=decide (l.length<=1048576) && xj none l
theorem kR {α:Type} {l:List α} {k:Nat} {x:α} (h:l[k]? =some x):(l.take (k+1)).getLast? =some x:=by
 rw [zI,h];simp
theorem wL {l:List aB} {k:Nat} {s:aB} (h:l[k]? =some s):xj (l.take k).getLast? (l.drop k)=(decide (s.size<=4096) && (match (l.take k).getLast? with|none=>true|some p=>Op.bytesLess p.toList s.toList) && xj (l.take (k+1)).getLast? (l.drop (k+1))):=by
 obtain⟨hk,rfl⟩:=List.getElem?_eq_some_iff.1 h;rw [kR h,za hk];rfl
theorem YM:∀{l:List aB} {p:Option aB},xj p l=true->∀s∈l,s.size<=4096
 |s::l,p,h,t,ht=>by
  unfold xj at h;simp only [zM,decide_eq_true_eq]at h;rcases yx.1 ht with rfl|ht
  ·exact h.1.1
  ·exact YM h.2 t ht
theorem dC:∀(a b:aC),shN a b=ZE a b
 | [],b=>by cases b<;>rfl
 |x::l, []=>rfl
 |x::l,y::m=>by unfold shN ZE;rw [dC l m]
theorem oD {α:Type} {l:List α} {i e:Nat} (he:e=min (i+16) l.length):(l.drop i).take 16=(l.drop i).take (e - i):=by
 rcases Nat.le_total (i+16) l.length with h|h
 ·rw [show e - i=16 by omega]
 ·rw [zF (by rw [ze];omega),zF (by rw [ze];omega)]
theorem oE {α:Type} {l:List α} {i e:Nat} {x:α} (h:l[i]? =some x) (he:i<e):(l.drop i).take (e - i)=x::(l.drop (i+1)).take (e - (i+1)):=by
 obtain⟨hk,rfl⟩:=List.getElem?_eq_some_iff.1 h;rw [za hk,show e - i=(e - (i+1))+1 by omega,xL]
theorem UP {f:Nat} {l:List aB} {at_:aE} (h:l≠ []):YI (f+1) l at_=ZZ (l.take 16) (at_.take 16)::YI f (l.drop 16) (at_.drop 16):=by
 conv=>lhs;unfold YI
 rw [if_neg h]
theorem Xw (a:aB) (l:List aB) (at_:aE):ZZ (a::l) at_=zP a.size++a.data.toList++(XZ a l++at_.flatMap zP):=by
 show aM (Z3 a)++_=_;unfold aM;rw [iM];rfl
theorem VO (p s:aB) (l:List aB):XZ p (s::l)=zP (shN p.data.toList s.data.toList)++(zP (s.extract (shN p.data.toList s.data.toList) s.size).size++(s.extract (shN p.data.toList s.data.toList) s.size).data.toList++XZ s l):=by
 have e:=dC p.data.toList s.data.toList;rw [e];have h:=Lib.extract_to_end s (ZE p.data.toList s.data.toList);have h2:(s.extract (ZE p.data.toList s.data.toList) s.size).size=(s.data.toList.drop (ZE p.data.toList s.data.toList)).length:=by rw [<-h];simp
 rw [h,h2];rfl
theorem fN (p s:aB):shN p.data.toList s.data.toList<=s.size/\shN p.data.toList s.data.toList<=p.size:=by
 have e:=iZ p.data.toList s.data.toList;rw [<-dC]at e
 simpa [and_comm]using e
def UR (ls:List aB) (at_:aE) (w:O) (e:Ending) (w' :O):Prop:=
 if xQ ls=true then ∃A' m,m<=6000000000/\e= .returned (.tuple #[.slice A' m m,.int .i64 0])/\Sp w' [BA A' m m (ZM ls at_),OldA w.heap.size w]
 else e= .returned (.tuple #[.slice none 0 0,.int .i64 1])/\Below w.heap.size w w'
theorem UR.bad {ls:List aB} {at_:aE} {w w' :O} (h:xQ ls=false) (hb:Below w.heap.size w w'):UR ls at_ w (.returned (.tuple #[.slice none 0 0,.int .i64 1])) w' :=by
 unfold UR;rw [if_neg (by simp [h])];exact⟨rfl,hb⟩
theorem vT (A A2:aA) (n c c2:Nat) (ls:List aB) (at_:aE) (w:O) (hc:n<=c) (hcm:c<=9223372036854775807) (hc2:n<=c2) (hcm2:c2<=9223372036854775807) (hs:RT w A n ls) (ha:RU w A2 n at_) (hu:∀x∈at_,x<18446744073709551616):
 Calls prog 217 #[.slice A n c,.slice A2 n c2] w fun e w' =>UR ls at_ w e w' :=by
 have hlen:=zA hs.len;have hlen2:=zA ha.len;have Hu:=zA hu
 by_cases hbig:1048576<n
 ·have hbad:Hid (xQ ls=false):=by
   show _=_;unfold xQ;have:=hlen.out;simp;omega
  have hbig' :(1048576:Int)<n:=(by omega);clear hs ha hu hbig;go_enter func217,ntmps217;go_wp2;go_ret2;exact UR.bad hbad.out (zE _ _)
 ·have hn' :(n:Int)<=1048576:=(by omega);have Hs:=zA hs;have Ha:=zA ha
  have HT:Hid (xQ ls=xj (ls.take 0).getLast? (ls.drop 0)):=by
   show _=_;unfold xQ;have:=hlen.out;have:decide (ls.length<=1048576)=true:=(by simp;omega);rw [this,Bool.true_and];rfl
  clear hs ha hu hbig;go_enter func217,ntmps217;go_wp2
  go_loop [28] (fun i=>∃k:Nat,k<=n/\i= .int .i64 k/\xQ ls=xj (ls.take k).getLast? (ls.drop k)) (fun i=>n - (intOf i).toNat)
  case atStart=>exact⟨0,zJ _,rfl,HT.out⟩
  case round=>
   obtain⟨k,hk,rfl,ht⟩:=hrel;have Ht:=zA ht;clear ht
   by_cases hlt:k<n
   ·obtain⟨b,off,s,rfl,hb,hcell,Hx⟩:=Hs.out.at_ hlt
    have Hst:=zA (wL Hx.out)
    by_cases hsz:s.size<=4096
    ·have hsz' :(s.size:Int)<=4096:=(by omega);rcases zi k with h0|h0
     ·have H0:Hid ((ls.take k).getLast? =none):=(by show _=_;rw [h0];rfl);have h0' :(k:Int)<=0:=(by omega);have h1' :(k:Int)<n:=(by omega);clear h0;go_wp2
      go_round
      case rel=>exact⟨k+1,by omega,by go_num,by rw [Ht.out,Hst.out,H0.out];simp [hsz]⟩
      case measure=>simp [intOf];omega
     ·obtain⟨j,rfl⟩:∃j,k=j+1:=⟨k - 1,by omega⟩;obtain⟨_,_,p,e0,_,hcell0,Hp⟩:=Hs.out.at_ (k:=j) (by omega)
      cases e0;have Hlast:=zA (kR Hp.out);have hj0:(0:Int)<(j:Int)+1:=(by omega);have hjn:(j:Int)+1<n:=(by omega);have ej:(((j+1:Nat):Int)) - 1=j:=(by omega);cases hless:Op.bytesLess p.toList s.toList with
      |true=>
       have hless' :(!Op.bytesLess p.toList s.toList)=false:=(by rw [hless];rfl);have Hless:=zA hless;clear hless;go_wp2
       go_round
       case rel=>exact⟨j+1+1,by omega,by go_num,by rw [Ht.out,Hst.out,Hlast.out];simp [hsz,Hless.out]⟩
       case measure=>simp [intOf];omega
      |false=>
       have hless' :(!Op.bytesLess p.toList s.toList)=true:=(by rw [hless];rfl);have hbad:Hid (xQ ls=false):=(by show _=_;rw [Ht.out,Hst.out,Hlast.out];simp [hless]);clear hless;go_wp2;go_ret2;exact UR.bad hbad.out (zE _ _)
    ·have hsz' :(4096:Int)<s.size:=(by omega);have hbad:Hid (xQ ls=false):=(by show _=_;rw [Ht.out,Hst.out];simp [hsz]);clear hsz;go_wp2;go_ret2;exact UR.bad hbad.out (zE _ _)
   ·obtain rfl:k=n:=by omega
    have hgood:Hid (xQ ls=true):=by
     show _=_;rw [Ht.out,zQ (by rw [hlen.out];omega)];rfl
    have Hsz:=zA (YM (p:=none) (l:=ls) (by have:=hgood.out;unfold xQ at this;simp only [zM]at this;exact this.2));clear Ht;go_wp2_with fail;refine(ZR (Sp.start w) (RB.none_ w) (by omega) (x:=k) (by omega)).mono ?_;rintro e w1 ⟨A1,m1,rfl,hm1,HS⟩;have HS1:Sp w1 [BA A1 m1 m1 (zP k),OldA w.heap.size w]:=HS;clear HS;go_wp2
    go_loopg [8,9] (k+16) (fun gk vo vi wr=>∃(i:Nat) (A1:aA) (m1 c1 f:Nat) (done:aC),i<=k+16/\gk=k+16 - i/\vi= .int .i64 i/\vo= .slice A1 m1 c1/\k - i<f/\Hid (ZM ls at_=done++(YI f (ls.drop i) (at_.drop i)).flatten)/\m1<=10+5000*i/\Sp wr [BA A1 m1 c1 done,OldA w.heap.size w])
    case atStart=>exact⟨0,A1,m1,m1,k+1,zP k,zJ _,by omega,rfl,rfl,by omega,by show _=_;unfold ZM;rw [hlen.out];rfl,by omega,HS1⟩
    case round=>
     obtain⟨i,A1,m1,c1,f,done,hi,rfl,rfl,rfl,hf,HD,hm1,HS⟩:=hrel
     by_cases hlt:i<k
     ·obtain⟨f,rfl⟩:∃f',f=f' +1:=⟨f - 1,by omega⟩;obtain⟨b,off,a,rfl,hb,_,Hx⟩:=Hs.out.at_ hlt
      obtain⟨b2,off2,_,rfl,hb2,_,_⟩:=Ha.out.at_ hlt
      have hbl:=HS.below (.tail _ (.head _));have hcell:=(Hs.out.on hbl).cell Hx.out;obtain⟨e,he⟩:∃e,e=min (i+16) k:=⟨_,rfl⟩;have hei:min ((i:Int)+16) k=(e:Int):=(by omega);have he1:i<e:=(by omega);have he2:e<=k:=(by omega);have he3:e<=i+16:=(by omega);have He:=zA he;have hasz:=Hsz.out a (zD Hx.out);have hc1:=(HS.rb (.head _)).2;clear he hbl;go_wp2_with fail
      refine(cD HS (RB.none_ _) (s:=a) (by omega)).mono ?_;rintro e1 w2 ⟨A2,m2,rfl,hm2,HS2⟩;have HX:Hid (((ls.drop i).take (e - i))=a::(ls.drop (i+1)).take (e - (i+1))):=oE Hx.out he1
      have HBk:Hid (ZM ls at_=done++(ZZ (a::(ls.drop (i+1)).take (e - (i+1))) ((at_.drop i).take (e - i))++(YI f (ls.drop (i+16)) (at_.drop (i+16))).flatten)):=by
       show _=_;have hne:ls.drop i≠ []:=(by intro h;have:=congrArg List.length h;rw [ze,hlen.out]at this;simp at this;omega);rw [HD.out,UP hne,yM,oD (e:=e) (by rw [hlen.out];exact He.out),HX.out,oD (l:=at_) (e:=e) (by rw [hlen2.out];exact He.out),List.drop_drop,List.drop_drop]
      obtain⟨rest,hrest⟩:=eX ((YI f (ls.drop (i+16)) (at_.drop (i+16))).flatten);obtain⟨ab,hab⟩:=eX ((at_.drop i).take (e - i));rw [hrest,hab,Xw]at HBk;have Hrest:=zA hrest;have Hab:=zA hab;clear hrest hab HX;go_wp2
      go_loopg [11,12] (e - i) (fun gq vb vk wq=>∃(j:Nat) (A2:aA) (m2:Nat) (blk:aC) (p:aB),vk= .int .i64 ((j:Int)+1)/\i<=j/\j<e/\gq=e - j/\vb= .slice A2 m2 m2/\m2+5000*i<=4106+4120*j+880*i/\Hid (ls[j]? =some p)/\Hid (zP a.size++a.data.toList++XZ a ((ls.drop (i+1)).take (e - (i+1)))=blk++XZ p ((ls.drop (j+1)).take (e - (j+1))))/\Sp wq [BA A2 m2 m2 blk,BA A1 m1 c1 done,OldA w.heap.size w])
      case atStart=>exact⟨i,A2,m2,_,a,rfl,zC _,he1,rfl,rfl,by omega,Hx,rfl,HS2⟩
      case round=>
       obtain⟨j,A2,m2,blk,p,rfl,hj1,hj2,rfl,rfl,hm2,Hp,HT2,HS2⟩:=hrel;have hb4:=HS2.below (.tail _ (.tail _ (.head _)))
       by_cases hje:j+1<e
       ·obtain⟨_,_,s,e0,_,_,Hxs⟩:=Hs.out.at_ (k:=j+1) (by omega)
        cases e0;have hcp:=(Hs.out.on hb4).cell Hp.out;have hcs:=(Hs.out.on hb4).cell Hxs.out;have hps:=Hsz.out p (zD Hp.out);have hss:=Hsz.out s (zD Hxs.out);have hsh:=(fN p s);have HT3:=zA ((congrArg (XZ p) (oE Hxs.out hje)).trans (VO p s _));have Hsd:=zA (fun W=>iY p s W (by omega) (by omega));obtain⟨t,ht⟩:=eX (shN p.data.toList s.data.toList);rw [ht]at HT3 Hsd hsh
        have hxsz:(s.extract t s.size).size<=4096:=(by rw [yQ];omega);obtain⟨x,hx⟩:=eX (s.extract t s.size);rw [hx]at HT3 hxsz;have ht1:(t:Int)<=s.size:=(by omega);have ht2:(t:Int)<=4096:=(by omega);have ht3:IntKind.u64.wrap (t:Int)=t:=(by rw [zW];omega);have hje' :(j:Int)+1<e:=(by omega);have ej1:IntKind.i64.wrap ((j:Int)+1 - 1)=j:=(by rw [zT];omega);have ej2:((j:Int)+1).toNat=j+1:=(by omega)
        have ej3:(0:Int)<=(j:Int)+1:=(by omega);have ej4:(j:Int)+1<k:=(by omega);have ej5:(j:Int)<k:=(by omega);have Hpu:=zA (fun nn=>ZR (HS2.drewN nn).tail ((HS2.drewN nn).rb (.head _)).1 (c:=m2) (x:=t) (by omega) (by omega));clear ht hb4;go_wp2
        go_quiet ((go_at_call 252;exact Calls.quiet_of (Hsd.out _)))
        go_wp2
        go_region_held3 (fun W=>W.cell? ⟨b,off+(j+1),none⟩=some (.string s)) (first|assumption|exact hcs|exact(HS5.below (.tail _ (.tail _ (.head _)))).cell (p:=⟨b,off+(j+1),none⟩) hb|>.trans (Hs.out.cell Hxs.out)|exact(HS6.below (.tail _ (.tail _ (.head _)))).cell (p:=⟨b,off+(j+1),none⟩) hb|>.trans (Hs.out.cell Hxs.out))
         (first
          |(go_at_call 85;((with_reducible refine(Hpu.out _).mono ?_));rintro e5 w5 ⟨A5,m5,rfl,hm5,HS5⟩;have Hpt:=zA (cD HS5.tail (HS5.rb (.head _)).1 (c:=m5) (s:=x) (by omega)))
          |(go_at_call 219;((with_reducible refine Hpt.out.mono ?_));rintro e6 w6 ⟨A6,m6,rfl,hm6,HS6⟩))
        go_wp2
        go_roundg (e - (j+1))
        case measure=>omega
        case rel=>
         exact⟨j+1,A6,m6,_,s,by go_num,by omega,hje,rfl,rfl,by omega,Hxs,by show _=_;rw [HT2.out,HT3.out,<-zO,<-zO],HS6⟩
       ·obtain rfl:e=j+1:=by omega
        have HT4:Hid (zP a.size++a.data.toList++(XZ a ((ls.drop (i+1)).take (j+1 - (i+1)))++ab.flatMap zP)=blk++(ab.drop 0).flatMap zP):=by
         show _=_;have h:=HT2.out;rw [yh]at h;rw [<-zO,h];simp [XZ]
        rw [HT4.out]at HBk;have hin:(i:Int)<k:=(by omega);have hic:(i:Int)<c2:=(by omega);have hie:(i:Int)<=(j:Int)+1:=(by omega);have hec:(j:Int)+1<=c2:=(by omega);go_wp2
        go_loopg [11,103] (j+1 - i) (fun gq vb vq wq=>∃(q:Nat) (A2:aA) (m2:Nat) (blk:aC),vq= .int .i64 q/\q<=j+1 - i/\gq=j+1 - i - q/\vb= .slice A2 m2 m2/\m2+4120*i<=4106+4120*(j+1)+20*q/\Hid (ZM ls at_=done++(blk++(ab.drop q).flatMap zP++rest))/\Sp wq [BA A2 m2 m2 blk,BA A1 m1 c1 done,OldA w.heap.size w])
        case atStart=>exact⟨0,A2,m2,blk,rfl,zJ _,rfl,rfl,by omega,HBk,HS2⟩
        case round=>
         obtain⟨q,A2,m2,blk,rfl,hq,rfl,rfl,hm2,HB4,HS2⟩:=hrel
         by_cases hqd:q<j+1 - i
         ·obtain⟨u,hu⟩:∃u,at_[i+q]? =some u:=⟨_,zB (by have:=hlen2.out;omega)⟩
          have hcu:wr.cell? ⟨b2,off2+i+q,none⟩=some (.int .u64 (u:Int)):=by
           have h:=(Ha.out.on (HS2.below (.tail _ (.tail _ (.head _))))).2 (by omega);obtain⟨_,_,e0,_,h⟩:=h;cases e0;rw [Nat.add_assoc];exact h _ _ (WB hu)
          have hul:=Hu.out u (zD hu)
          have HT5:Hid ((ab.drop q).flatMap zP=zP u++(ab.drop (q+1)).flatMap zP):=by
           show _=_;have hab:ab[q]? =some u:=(by rw [<-Hab.out,yy,if_pos hqd,List.getElem?_drop];exact hu);obtain⟨h1,h2⟩:=List.getElem?_eq_some_iff.1 hab;rw [za h1,h2,zp]
          have Hpu:=zA (ZR HS2.tail (HS2.rb (.head _)).1 (c:=m2) (x:=u) (by omega) hul);clear hu;go_wp2_with (go_at_call 85;((with_reducible refine Hpu.out.mono ?_));rintro e5 w5 ⟨A5,m5,rfl,hm5,HS5⟩)
          go_roundg (j+1 - i - (q+1))
          ·exact⟨q+1,A5,m5,_,by go_num,by omega,rfl,rfl,by omega,by show _=_;rw [HB4.out,HT5.out,<-zO blk],HS5⟩
          ·omega
         ·obtain rfl:q=j+1 - i:=by omega
          have HB5:Hid (ZM ls at_=done++blk++(YI f (ls.drop (i+16)) (at_.drop (i+16))).flatten):=by
           show _=_;rw [HB4.out,Hrest.out,zQ (by rw [<-Hab.out];exact List.length_take_le _ _)];simp
          have Hr:=zA (HS2.rb (.head _)).1.reads;go_wp2_with (at_builtin;refine yR yW (.tmp 111) (.tmp 112) rfl rfl HS2.p1 rfl rfl Hr.out (xd _) (by omega) (by omega) ?_;intro A9 c9 w9 hc9 hm9 HS9)
          go_roundg (k+16 - (i+16))
          ·exact⟨i+16,A9,m1+m2,c9,f,done++blk,by omega,rfl,by go_num,rfl,by omega,HB5,by omega,by have h:=HS9.d1;rw [<-y9]at h;exact h⟩
          ·omega
     ·have HE:Hid (ZM ls at_=done):=by
       show _=_;rw [HD.out,zQ (by rw [hlen.out];omega)];cases f<;>simp [YI]
      have hcap:=(HS.rb (.head _)).2;go_wp2_with (go_at_call 55;refine(Zt _ _ _ _ (by omega) (by omega)).mono ?_;rintro e w' ⟨rfl,rfl⟩);go_ret2;unfold UR;rw [if_pos hgood.out,HE.out];exact⟨A1,m1,by omega,rfl,HS.clip⟩
def YZ:List aB->Nat->aC
 | [],_=> []
 |a::l,0=>zP a.size++a.data.toList++XZ a l
 |a::l,1=>XZ a l
 |_::l,i+2=>YZ l (i+1)
theorem iN (a:aB) (l:List aB) (at_:aE):ZZ (a::l) at_=YZ (a::l) 0++at_.flatMap zP:=by
 rw [Xw];simp [YZ]
theorem jG {ls:List aB} {a:aB} (h:ls[0]? =some a):YZ ls 0=zP a.size++a.data.toList++YZ ls 1:=by
 cases ls with
 |nil=>simp at h
 |cons b l=>simp at h;subst h;rfl
theorem jH:∀{ls:List aB} {i:Nat} {p s:aB},ls[i]? =some p->ls[i+1]? =some s->
 YZ ls (i+1)=zP (shN p.data.toList s.data.toList)++(zP (s.extract (shN p.data.toList s.data.toList) s.size).size++(s.extract (shN p.data.toList s.data.toList) s.size).data.toList++YZ ls (i+2))
 | [],_,_,_,h,_=>by simp at h
 | [a],0,_,_,_,k=>by simp at k
 |a::b::l,0,p,s,h,k=>by
  simp at h k;subst h k;show XZ a (b::l)=_;rw [VO];simp [YZ]
 |a::l,i+1,p,s,h,k=>by
  simp only [zj]at h k;exact jH (ls:=l) h k
theorem U5:∀(ls:List aB),YZ ls ls.length= []
 | []=>rfl
 | [a]=>rfl
 |a::b::l=>U5 (b::l)
theorem oB (x:aB):ByteArray.mk x.data.toList.toArray=x:=by cases x;simp
theorem KX (p s:aB):p.extract 0 (shN p.data.toList s.data.toList)++s.extract (shN p.data.toList s.data.toList) s.size=s:=by
 apply vB
 have h:=Vg p.data.toList s.data.toList;rw [<-dC]at h;have h2:=Lib.extract_to_end s (shN p.data.toList s.data.toList)
 have e:(p.extract 0 (shN p.data.toList s.data.toList)).data.toList=p.data.toList.take (shN p.data.toList s.data.toList):=by
  simp
 unfold Z3;simp only [ByteArray.data_append,Array.toList_append];rw [e,h,h2,zu]
theorem mU {ls:List aB} {p0:Option aB} (h:xj p0 ls=true):∀{i:Nat} {p s:aB},ls[i]? =some p->ls[i+1]? =some s->Op.bytesLess p.toList s.toList=true:=by
 induction ls generalizing p0 with
 |nil=>intro i p s h;simp at h
 |cons a l ih=>
  unfold xj at h;simp only [zM]at h;intro i p s h1 h2;cases i with
  |zero=>
   simp at h1;subst h1;cases l with
   |nil=>simp at h2
   |cons b l=>
    simp at h2;subst h2;have h3:=h.2;unfold xj at h3;simp only [zM]at h3;exact h3.1.2
  |succ i=>exact ih h.2 (by simpa using h1) (by simpa using h2)
theorem dW:∀{x y:aC},Op.bytesLess x y=true->Op.bytesLess y x=false/\(y==x)=false
 |_, [],h=>by simp [Op.bytesLess]at h
 | [],_::_,_=>⟨rfl,rfl⟩
 |a::x,b::y,h=>by
  simp only [Op.bytesLess,Bool.or_eq_true,decide_eq_true_eq,zM,beq_iff_eq]at h;rcases h with h|⟨rfl,h⟩
  ·have h1:¬b<a:=(by simp only [UInt8.lt_iff_toNat_lt]at h⊢;omega);have h2:b≠a:=(by rintro rfl;simp only [UInt8.lt_iff_toNat_lt]at h;omega);simp [Op.bytesLess,h1,h2]
  ·have:=dW h
   simpa [Op.bytesLess]using this
theorem LK {p s:aB} (h:Op.bytesLess p.toList s.toList=true):s≠⟨#[]⟩:=by
 rintro rfl;have e:(ByteArray.mk #[]).toList= []:=by rw [ByteArray.toList_eq]
 rw [e]at h;cases hp:p.toList<;>rw [hp]at h<;>simp [Op.bytesLess]at h
theorem JH (x y:Int) (w:O):Calls prog 319 #[.int .i64 x,.int .i64 y] w fun e w' =>e= .returned (.bool (decide (x<y)))/\w=w' :=by
 go_enter func319,ntmps319;go_wp2_with (go_at_call 357;refine(Tryz.cmp_isNaN_int _ _).mono ?_;rintro e w' ⟨rfl,rfl⟩);go_ret
 exact⟨rfl,rfl⟩
theorem Xf {zs:aD} {k:Nat} {z:Int} (h:zs[k]? =some z):zs.getD k 0=z:=by simp [zm,h]
theorem wA (A:aA) (n c:Nat) (zs:aD) (w:O) (F:Nat->Prop) (hn:n<=1000000000000) (hl:zL w F A n c zs):
 Calls prog 322 #[.slice A n c] w fun e w' =>e= .returned (.bool (Q6 zs))/\xG w w' :=by
 have Hlen:=zA hl.length;have Hl:=zA hl;clear hl;go_enter func322,ntmps322;go_wp2
 go_loopw [3] (fun i wr=>∃k:Nat,k<=n/\i= .int .i64 ((k:Int) - 1)/\Q6 zs=OK zs (k - 1)/\xG w wr) (fun i _=>(intOf i+1).toNat)
 case atStart=>exact⟨n,zC _,rfl,by unfold Q6;rw [Hlen.out],0,rfl⟩
 case round=>
  obtain⟨k,hk,rfl,hs,hd0⟩:=hrel;have Hs:=zA hs;have Hd:=zA hd0;clear hs hd0
  by_cases hlt:1<k
  ·obtain⟨j,rfl⟩:∃j,k=j+2:=⟨k - 2,by omega⟩;obtain⟨b,off,z1,rfl,Hz1,_,he1⟩:=Hl.out.at_ (k:=j+1) (by omega)
   obtain⟨_,_,z0,e0,Hz0,_,he0⟩:=Hl.out.at_ (k:=j) (by omega)
   cases e0;have c1:wr.cell? ⟨b,off+(j+1),none⟩=some (.int .i64 z1):=(by obtain⟨nq,e⟩:=Hd.out;rw [e];exact he1.int.1);have c0:wr.cell? ⟨b,off+j,none⟩=some (.int .i64 z0):=(by obtain⟨nq,e⟩:=Hd.out;rw [e];exact he0.int.1);have ej:(((j+2:Nat):Int)) - 1=(j:Int)+1:=(by omega);rw [ej];have ej1:IntKind.i64.wrap ((j:Int)+1 - 1)=j:=(by rw [zT];omega);have ej2:((j:Int)+1).toNat=j+1:=(by omega)
   have ej3:(0:Int)<=(j:Int)+1:=(by omega);have ej6:(0:Int)<=(j:Int):=(by omega);have ej7:IntKind.i64.wrap (j:Int)=j:=(by rw [zT];omega);have ej4:(j:Int)+1<n:=(by omega);have ej5:(j:Int)<n:=(by omega);have Hst:=zA (FX zs j);rw [Xf Hz1.out,Xf Hz0.out]at Hst;have Hl1:=zA (JH z1 z0);clear he0 he1
   by_cases hle:z0<=z1
   ·have hd:decide (z1<z0)=false:=(by simp;omega);rw [hd]at Hl1;clear hd;go_wp2
    go_quiet ((go_at_call 319;exact Calls.quiet_of_same ((Hl1.out _).mono fun _ _ h=>⟨h.1,h.2.symm⟩)))
    go_wp2
    go_roundw
    case rel=>exact⟨j+1,by omega,by go_num,by rw [Hs.out];show OK zs (j+1)=OK zs j;rw [Hst.out];simp [hle],Hd.out.more _⟩
    case measure=>simp [intOf];omega
   ·have hd:decide (z1<z0)=true:=(by simp;omega);rw [hd]at Hl1;clear hd;go_wp2
    go_quiet ((go_at_call 319;exact Calls.quiet_of_same ((Hl1.out _).mono fun _ _ h=>⟨h.1,h.2.symm⟩)))
    go_wp2;go_ret
    exact⟨by rw [Hs.out];show _=Ending.returned (.bool (OK zs (j+1)));rw [Hst.out];simp [hle],Hd.out.more _⟩
  ·have hk1:(k:Int) - 1<=0:=(by omega);go_wp2;go_ret
   exact⟨by rw [Hs.out,show k - 1=0 by omega];rfl,Hd.out⟩
theorem DI (A:aA) (n c:Nat) (ps:List PostD) (w:O) (hn:n<=1000000000) (hl:zL w (·<w.heap.size) A n c ps) (hp:∀p∈ps,p.pos.length<=10000000000):
 Calls prog 263 #[.slice A n c] w fun e w' =>e= .returned (.bool (xk ps))/\Below w.heap.size w w' :=by
 have Hlen:=zA hl.length;have Hl:=zA hl;have Hp:=zA hp;clear hl hp;go_enter func263,ntmps263;go_wp2
 go_loopw [3,4,9] (fun vl va i wr=>∃(k:Nat) (last:Int) (all:Nat),k<=n/\i= .int .i64 k/\vl= .int .i64 last/\va= .int .i64 all/\all<=1048576/\Hid (xk ps=xa last all (ps.drop k))/\Below w.heap.size w wr) (fun _ _ i _=>n - (intOf i).toNat)
 case atStart=>exact⟨0, -1,0,zJ _,rfl,rfl,rfl,by omega,rfl,zE _ _⟩
 case round=>
  obtain⟨k,last,all,hk,rfl,rfl,rfl,hall,Hr,hb⟩:=hrel;have HA:=zA hb;clear hb
  by_cases hlt:k<n
  ·obtain⟨b,off,p,rfl,Hx,hbl,he⟩:=Hl.out.at_ hlt
   obtain⟨A2,n2,c2,e0,e1,h2,hd⟩:=PostD.at_ he
   have hc0:=(HA.out.cell (p:=⟨b,off+k*2,none⟩) hbl).trans e0;have hc1:=(HA.out.cell (p:=⟨b,off+k*2+1,none⟩) hbl).trans e1;have Hst:=zA (sI (last:=last) (all:=all) Hx.out);have hn2:=h2.length;have hpl:=Hp.out p (zD Hx.out);rw [hn2]at hpl;have Hn2:=zA hn2;obtain⟨W,hW⟩:=eX (wr.alloc (.cells #[.int .i64 p.doc,.slice A2 n2 c2] 116))
   have hWb:Below w.heap.size w W:=(by rw [<-hW];exact HA.out.alloc HA.out.size _);obtain⟨sb,hsb⟩:=eX (Q6 p.pos);have Hso:=zA (wA A2 n2 c2 p.pos W _ (by omega) (h2.below hWb));rw [<-hW,hsb]at Hso;have Hsb:=zA hsb;have HA2:Hid (Below w.heap.size w (wr.alloc (.cells #[.int .i64 p.doc,.slice A2 n2 c2] 116))):=(by rw [hW];exact hWb);have H2:=zA h2
   have Hbad:Hid (Yv last all p=false->xk ps=false):=fun h=>by rw [Hr.out,Hst.out,h];rfl
   obtain⟨d,hd0⟩:=eX (p.doc);rw [hd0]at hc0 Hso HA2;have Hd0:=zA hd0;unfold In64 at hd;rw [hd0]at hd;clear e0 e1 he hn2 hW hWb hsb h2 hd0
   by_cases h1:last<d
   ·by_cases h2:d<16384
    ·by_cases h3:0<n2
     ·by_cases h4:all+n2<=1048576
      ·have h4' :(all:Int)+n2<=1048576:=(by omega);obtain⟨j,hj⟩:∃j,n2=j+1:=⟨n2 - 1,by omega⟩;have HJ:=zA hj;obtain⟨b2,off2,z0,rfl,Hz0,hb2,hz0⟩:=H2.out.at_ (k:=0) (by omega)
       obtain⟨_,_,zl,e2,Hzl,_,hzl⟩:=H2.out.at_ (k:=j) (by omega)
       cases e2;have hcz:=(HA.out.cell (p:=⟨b2,off2+0,none⟩) hb2).trans hz0.int.1;have hcl:=(HA.out.cell (p:=⟨b2,off2+j,none⟩) hb2).trans hzl.int.1;rw [yt]at hcz;have hbw:b2<wr.heap.size:=zX hb2 HA.out.size;have ej:(n2:Int) - 1=j:=(by omega);have hj1:(0:Int)<n2:=(by omega);have hj2:(j:Int)<n2:=(by omega);clear hj;have hj3:(0:Int)<=j:=(by omega);have G0:=zA (Xf Hz0.out)
       have GL:=zA (Xf Hzl.out);clear hz0 hzl;cases sb with
       |false=>
        have hbd:=Hbad.out (by unfold Yv;rw [Hsb.out,Hd0.out,Hn2.out];simp);have HB:=zA hbd;clear hbd;go_wp2_with (go_at_call 322;refine Hso.out.mono ?_;rintro e w3 ⟨rfl,nq,rfl⟩);go_ret
        exact⟨by rw [HB.out];rfl,zd HA2.out _⟩
       |true=>
        by_cases h6:0<=z0
        ·by_cases h7:zl<=1048576
         ·have hok:Hid (Yv last all p=true):=by
           show _=_;unfold Yv;rw [Hsb.out,Hd0.out,Hn2.out,show n2 - 1=j by have:=HJ.out;omega,G0.out,GL.out];simp [h1,h2,h3,h4,h6,h7]
          go_wp2_with (go_at_call 322;refine Hso.out.mono ?_;rintro e w3 ⟨rfl,nq,rfl⟩)
          ·exfalso
           rename_i hq;simp only [beq_iff_eq]at hq;omega
          ·exact⟨⟨k+1,d,all+n2,by omega,by go_num,rfl,by go_num,by omega,by show _=_;rw [Hr.out,Hst.out,hok.out,Hd0.out,Hn2.out];simp,zd HA2.out _⟩,by simp [intOf];omega⟩
         ·have h7' :1048576<zl:=(by omega);have hbd:=Hbad.out (by unfold Yv;rw [Hsb.out,Hd0.out,Hn2.out];rw [show n2 - 1=j by have:=HJ.out;omega,GL.out];simp [h7]);have HB:=zA hbd;clear hbd;go_wp2_with (go_at_call 322;refine Hso.out.mono ?_;rintro e w3 ⟨rfl,nq,rfl⟩);go_ret
          exact⟨by rw [HB.out];rfl,zd HA2.out _⟩
        ·have h6' :z0<0:=(by omega);have hbd:=Hbad.out (by unfold Yv;rw [Hsb.out,Hd0.out,Hn2.out];rw [G0.out];simp [h6]);have HB:=zA hbd;clear hbd;go_wp2_with (go_at_call 322;refine Hso.out.mono ?_;rintro e w3 ⟨rfl,nq,rfl⟩);go_ret
         exact⟨by rw [HB.out];rfl,zd HA2.out _⟩
      ·have h4' :(1048576:Int)<(all:Int)+n2:=(by omega);have hbd:=Hbad.out (by unfold Yv;rw [Hsb.out,Hd0.out,Hn2.out];rw [decide_eq_false (show ¬all+n2<=1048576 by omega)];simp);have HB:=zA hbd;clear hbd;go_wp2_with (go_at_call 322;refine Hso.out.mono ?_;rintro e w3 ⟨rfl,nq,rfl⟩);go_ret
       exact⟨by rw [HB.out];rfl,HA2.out⟩
     ·obtain rfl:n2=0:=by omega
      have hbd:=Hbad.out (by unfold Yv;rw [Hsb.out,Hd0.out,Hn2.out];simp);have HB:=zA hbd;clear hbd;go_wp2_with (go_at_call 322;refine Hso.out.mono ?_;rintro e w3 ⟨rfl,nq,rfl⟩);go_ret
      exact⟨by rw [HB.out];rfl,HA2.out⟩
    ·have h2' :16384<=d:=(by omega);have hbd:=Hbad.out (by unfold Yv;rw [Hsb.out,Hd0.out,Hn2.out];rw [decide_eq_false (show ¬d<16384 by omega)];simp);have HB:=zA hbd;clear hbd;go_wp2_with (go_at_call 322;refine Hso.out.mono ?_;rintro e w3 ⟨rfl,nq,rfl⟩);go_ret
     exact⟨by rw [HB.out];rfl,HA2.out⟩
   ·have h1' :d<=last:=(by omega);have hbd:=Hbad.out (by unfold Yv;rw [Hsb.out,Hd0.out,Hn2.out];rw [decide_eq_false (show ¬last<d by omega)];simp);have HB:=zA hbd;clear hbd;go_wp2_with (go_at_call 322;refine Hso.out.mono ?_;rintro e w3 ⟨rfl,nq,rfl⟩);go_ret
    exact⟨by rw [HB.out];rfl,HA2.out⟩
  ·obtain rfl:k=n:=by omega
   have HE:Hid (xk ps=true):=(by show _=_;rw [Hr.out,zQ (by rw [Hlen.out];omega)];rfl);go_wp2;go_ret
   exact⟨by rw [HE.out];rfl,HA.out⟩
end Go.Proofs.YtjbhbfaeielbiaaGreatDoor

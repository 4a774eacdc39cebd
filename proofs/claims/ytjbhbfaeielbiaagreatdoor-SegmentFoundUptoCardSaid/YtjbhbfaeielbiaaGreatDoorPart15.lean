import Derived.Test.YtjbhbfaeielbiaaGreatDoorPart14
import Derived.Test.YtjbhbfaeielbiaaGreatDoorPart09
import Derived.Test.YtjbhbfaeielbiaaGreatDoorPart12
import Derived.Test.YtjbhbfaeielbiaaGreatDoorPart11
set_option maxRecDepth 100000
set_option maxHeartbeats 8000000
set_option linter.unusedVariables false
set_option linter.unusedSimpArgs false
namespace Go.Proofs.YtjbhbfaeielbiaaGreatDoor
open Tryz
open Rep (rep)
open Go.RowKit
abbrev BA (A:aA) (m c:Nat) (l:aC):Asn:=RowA 5 1 (.slice A m c) m (bC l)
def RdA (p:Nat) (r:RS):Asn where
 P S w:=Rd w S p r/\∀b,S b->b<w.heap.size
 lt h:=h.2
 keep h ht hn:=⟨h.1.tch ht hn,fun b a=>zX (h.2 b a) ht.size⟩
section
variable {w w' :O} {L:List Asn} {A:aA} {n c p:Nat} {l:aC} {r r' :RS}
theorem Sp.rb (h:Sp w L) (a:BA A n c l∈L):RB w A n l/\n<=c/\c<=9223372036854775807:=
 ⟨(h.rowOf a).rc,(h.rowOf a).cap.2⟩
theorem Sp.rd (h:Sp w (RdA p r::L)):∃S,Rd w S p r/\∀w' r',xY w S p r' w' ->Sp w' (RdA p r' ::L):=by
 obtain⟨S,g,a,i⟩:=h;refine⟨S,a.1,fun w' r' f=> ?_⟩;have j:S p:=a.1.1;exact⟨S,g,⟨f.1,fun b d=>zX (a.2 b d) f.2.size⟩,SpU.tch f.2 i fun b d _ e=>d.2 (by subst e;exact j)⟩
theorem Sp.rdOf (h:Sp w (RdA p r::L)):∃S,Rd w S p r:=by obtain⟨S,k,_⟩:=h.rd;exact⟨S,k⟩
theorem VG (h:Sp w L) (f:RB w A n l) (g:n<=140737488355328):
 Calls prog 73 #[.slice A n c] w fun e w' =>∃p,e= .returned (.pointer (some ⟨p,0,none⟩))/\Sp w' (RdA p ⟨l,0,0⟩::L):=
 (VF A n c l w g f).mono fun _ w' ⟨p,d,i,a⟩=>⟨p,d,h.new (S:=fun b=>w.heap.size<=b/\b<w'.heap.size) a ⟨i.mono fun b a h=>⟨h,a⟩,fun b a=>a.2⟩ fun b a=>a.1⟩
theorem MW (h:Sp w (RdA p r::L)):
 Calls prog 253 #[.pointer (some ⟨p,0,none⟩)] w fun e w' =>e= .returned (.int .u64 (r.uint.1:Nat))/\Sp w' (RdA p r.uint.2::L):=by
 obtain⟨S,d,k⟩:=h.rd;exact(GT p r S w d).mono fun _ _ ⟨a,b⟩=>⟨a,k _ _ b⟩
theorem gB (h:Sp w (RdA p r::L)):
 Calls prog 134 #[.pointer (some ⟨p,0,none⟩)] w fun e w' =>e= .returned (.int .i64 r.int.1)/\Sp w' (RdA p r.int.2::L):=by
 obtain⟨S,d,k⟩:=h.rd;exact(gS p r S w d).mono fun _ _ ⟨a,b⟩=>⟨a,k _ _ b⟩
theorem ZH (h:Sp w (RdA p r::L)) (a:Nat) (d:a<=4611686018427387904):
 Calls prog 74 #[.pointer (some ⟨p,0,none⟩),.int .i64 (a:Int)] w fun e w' =>e= .returned (.int .i64 ((r.size a).1:Nat))/\Sp w' (RdA p (r.size a).2::L):=by
 obtain⟨S,g,k⟩:=h.rd;exact(IF a d p r S w g).mono fun _ _ ⟨b,f⟩=>⟨b,k _ _ f⟩
theorem bV (h:Sp w (RdA p r::L)) (a:Nat) (d:a<=4611686018427387904):
 Calls prog 190 #[.pointer (some ⟨p,0,none⟩),.int .i64 (a:Int)] w fun e w' =>e= .returned (.string ⟨(r.text a).1.toArray⟩)/\Sp w' (RdA p (r.text a).2::L):=by
 obtain⟨S,g,k⟩:=h.rd;exact(GW a d p r S w g).mono fun _ _ ⟨b,f⟩=>⟨b,k _ _ f⟩
theorem Sp.rd2 (h:Sp w (RdA p r::L)):∃S,Rd w S p r/\∀w' r' A m c l,xY w S p r' w' ->zt w' (Frm w.heap.size) 5 1 (.slice A m c) m (bC l)->Sp w' (BA A m c l::RdA p r' ::L):=by
 obtain⟨S,_,d,i⟩:=h;refine⟨S,d.1,fun w' r' A m c l f g=> ?_⟩;have o:S p:=d.1.1;refine⟨fun b=>(Value.slice A m c).ownBlock=some b,fun _ _=>trivial,⟨fun _=>Iff.rfl,g.mono fun _ _ _=>trivial⟩,S,fun b a=>⟨trivial,fun e=> ?_⟩,⟨f.1,fun b a=>zX (d.2 b a) f.2.size⟩,?_⟩
 ·have j:=(g.lt b e).1;have k:=d.2 b a;exact absurd k (Nat.not_lt.2 j)
 ·refine SpU.tch f.2 (SpU.mono i fun b a u=>⟨⟨trivial,fun e=> ?_⟩,u.2⟩) fun b a _ e=>a.2 (by subst e;exact o);exact absurd a (Nat.not_lt.2 (g.lt b e).1)
theorem oT (h:Sp w (RdA p r::L)) (m:Nat) (d:m<=4611686018427387904):
 Calls prog 76 #[.pointer (some ⟨p,0,none⟩),.int .i64 (m:Int)] w fun e w' =>∃A' k,e= .returned (.slice A' k k)/\Sp w' (BA A' k k (r.bytes m).1::RdA p (r.bytes m).2::L):=by
 obtain⟨S,g,k⟩:=h.rd2;refine(Um m d p r S w g).mono fun _ w' ⟨v,b,⟨⟨A',i⟩,a⟩,f⟩=> ?_;subst i;exact⟨A',_,b,k _ _ _ _ _ _ f a⟩
theorem Xz (h:Sp w (RdA p r::L)):
 Calls prog 77 #[.pointer (some ⟨p,0,none⟩)] w fun e w' =>e= .returned (.int .i64 (r.left:Nat))/\∃k,w' =w.drewN k:=by
 obtain⟨S,a⟩:=h.rdOf;exact dX p r S w a
theorem dH (h:Sp w (RdA p r::L)):
 Calls prog 79 #[.pointer (some ⟨p,0,none⟩)] w fun e w' =>e= .returned (.int .i64 (r.e:Nat))/\w=w' :=by
 obtain⟨S,a⟩:=h.rdOf;exact Zr p r S w a
theorem gC (h:Sp w (RdA p r::L)):
 Calls prog 129 #[.pointer (some ⟨p,0,none⟩)] w fun e w' =>e= .returned (.int .i64 (r.fin.e:Nat))/\Sp w' (RdA p r.fin::L):=by
 obtain⟨S,d,k⟩:=h.rd;exact(LV p r S w d).mono fun _ _ ⟨a,b⟩=>⟨a,k _ _ b⟩
theorem ZR (h:Sp w L) {x:Nat} (f:RB w A n l) (g:n<=100000000000000) (a:x<18446744073709551616):
 Calls prog 85 #[.slice A n c,.int .u64 (x:Int)] w fun e w' =>∃A' m,e= .returned (.slice A' m m)/\m<=n+10/\Sp w' (BA A' m m (l++zP x)::L):=
 (gT A n c l x w g a f).mono fun _ _ ⟨A',d,i,b⟩=>⟨A',_,d,by have:=ya a;omega,h.row i b⟩
theorem pInt (h:Sp w L) {x:Int} (f:RB w A n l) (g:n<=100000000000000) (a: -9223372036854775808<=x/\x<=9223372036854775807):
 Calls prog 161 #[.slice A n c,.int .i64 x] w fun e w' =>∃A' m,e= .returned (.slice A' m m)/\m<=n+10/\Sp w' (BA A' m m (l++zP (yc x))::L):=
 (wN A n c l x w g a f).mono fun _ _ ⟨A',d,i,b⟩=>⟨A',_,d,by have:=ya (QH a);omega,h.row i b⟩
theorem cD (h:Sp w L) {s:aB} (d:RB w A n l) (f:n+s.size<=100000000000000):
 Calls prog 219 #[.slice A n c,.string s] w fun e w' =>∃A' m,e= .returned (.slice A' m m)/\m<=n+10+s.size/\Sp w' (BA A' m m (l++(zP s.size++s.data.toList))::L):=
 (uG A n c l s w f d).mono fun _ _ ⟨A',b,g,a⟩=>⟨A',_,b,by have:=ya (n:=s.size) (by omega);omega,h.row g a⟩
theorem RB.none_ (w:O):RB w none 0 []:=RB.nil w none
end
def Q1 (a:Int):PanicEntry:={v:= .iface 136 (.agg #[.int .i64 a]),recovered:=false}
def Y8 (a:Int) (v:V) (w:O) (e:Ending) (w' :O):Prop:=(a=0/\e= .returned v\/a≠0/\e= .panicked [Q1 a])/\w' =w
theorem Y8.ok {v:V} {w w' :O} {e:Ending} (h:Y8 0 v w e w'):e= .returned v/\w' =w:=⟨h.1.elim And.right fun h=>absurd rfl h.1,h.2⟩
theorem Y8.bad {a:Int} {v:V} {w w' :O} {e:Ending} (b:a≠0) (h:Y8 a v w e w'):e= .panicked [Q1 a]/\w' =w:=⟨h.1.elim (fun h=>absurd h.1 b) And.right,h.2⟩
theorem pM (v:V) (a:Int) (w:O):Calls prog 31 #[v,.int .i64 a] w (Y8 a v w):=by
 by_cases h:a=0
 ·subst h;go_enter func31,ntmps31;go_wp2;go_ret
  exact⟨.inl ⟨rfl,rfl⟩,rfl⟩
 ·go_enter func31,ntmps31;go_wp2;exact⟨rfl,.inr ⟨h,rfl⟩,rfl⟩
theorem pL (v:V) (a:Int) (w:O):Calls prog 71 #[v,.int .i64 a] w (Y8 a v w):=by
 by_cases h:a=0
 ·subst h;go_enter func71,ntmps71;go_wp2;go_ret
  exact⟨.inl ⟨rfl,rfl⟩,rfl⟩
 ·go_enter func71,ntmps71;go_wp2;exact⟨rfl,.inr ⟨h,rfl⟩,rfl⟩
theorem pN (v:V) (a:Int) (w:O):Calls prog 78 #[v,.int .i64 a] w (Y8 a v w):=by
 by_cases h:a=0
 ·subst h;go_enter func78,ntmps78;go_wp2;go_ret
  exact⟨.inl ⟨rfl,rfl⟩,rfl⟩
 ·go_enter func78,ntmps78;go_wp2;exact⟨rfl,.inr ⟨h,rfl⟩,rfl⟩
theorem L9 (v:V) (a:Int) (w:O):Calls prog 81 #[v,.int .i64 a] w (Y8 a v w):=by
 by_cases h:a=0
 ·subst h;go_enter func81,ntmps81;go_wp2;go_ret
  exact⟨.inl ⟨rfl,rfl⟩,rfl⟩
 ·go_enter func81,ntmps81;go_wp2;exact⟨rfl,.inr ⟨h,rfl⟩,rfl⟩
theorem cY (v:V) (a:Int) (w:O):Calls prog 89 #[v,.int .i64 a] w (Y8 a v w):=by
 by_cases h:a=0
 ·subst h;go_enter func89,ntmps89;go_wp2;go_ret
  exact⟨.inl ⟨rfl,rfl⟩,rfl⟩
 ·go_enter func89,ntmps89;go_wp2;exact⟨rfl,.inr ⟨h,rfl⟩,rfl⟩
theorem MB (v:V) (a:Int) (w:O):Calls prog 146 #[v,.int .i64 a] w (Y8 a v w):=by
 by_cases h:a=0
 ·subst h;go_enter func146,ntmps146;go_wp2;go_ret
  exact⟨.inl ⟨rfl,rfl⟩,rfl⟩
 ·go_enter func146,ntmps146;go_wp2;exact⟨rfl,.inr ⟨h,rfl⟩,rfl⟩
theorem NL (v:V) (a:Int) (w:O):Calls prog 149 #[v,.int .i64 a] w (Y8 a v w):=by
 by_cases h:a=0
 ·subst h;go_enter func149,ntmps149;go_wp2;go_ret
  exact⟨.inl ⟨rfl,rfl⟩,rfl⟩
 ·go_enter func149,ntmps149;go_wp2;exact⟨rfl,.inr ⟨h,rfl⟩,rfl⟩
theorem L8 (v:V) (a:Int) (w:O):Calls prog 151 #[v,.int .i64 a] w (Y8 a v w):=by
 by_cases h:a=0
 ·subst h;go_enter func151,ntmps151;go_wp2;go_ret
  exact⟨.inl ⟨rfl,rfl⟩,rfl⟩
 ·go_enter func151,ntmps151;go_wp2;exact⟨rfl,.inr ⟨h,rfl⟩,rfl⟩
theorem MA (v:V) (a:Int) (w:O):Calls prog 153 #[v,.int .i64 a] w (Y8 a v w):=by
 by_cases h:a=0
 ·subst h;go_enter func153,ntmps153;go_wp2;go_ret
  exact⟨.inl ⟨rfl,rfl⟩,rfl⟩
 ·go_enter func153,ntmps153;go_wp2;exact⟨rfl,.inr ⟨h,rfl⟩,rfl⟩
theorem oA (v:V) (a:Int) (w:O):Calls prog 155 #[v,.int .i64 a] w (Y8 a v w):=by
 by_cases h:a=0
 ·subst h;go_enter func155,ntmps155;go_wp2;go_ret
  exact⟨.inl ⟨rfl,rfl⟩,rfl⟩
 ·go_enter func155,ntmps155;go_wp2;exact⟨rfl,.inr ⟨h,rfl⟩,rfl⟩
attribute [local go_sem ↓] zU zV
def RT (w:O) (A:aA) (n:Nat) (l:List aB):Prop:=RC w 1 A n (sC l)
theorem RT.len {w:O} {A:aA} {n:Nat} {l:List aB} (h:RT w A n l):l.length=n:=by have:=h.1;rw [MV]at this;omega
theorem RT.on {w w' :O} {A:aA} {n:Nat} {l:List aB} (h:RT w A n l) (a:Below w.heap.size w w'):RT w' A n l:=RC.on h a
theorem RT.at_ {w:O} {A:aA} {n k:Nat} {l:List aB} (h:RT w A n l) (e:k<n):∃b off s,A=some ⟨b,off,none⟩/\b<w.heap.size/\w.cell? ⟨b,off+k,none⟩=some (.string s)/\Hid (l[k]? =some s):=by
 have f:=h.len;obtain⟨b,off,rfl,c,d⟩:=h.2 (by omega);have a :k<l.length:=by omega
 exact⟨b,off,l[k],rfl,c,d k _ (bU (zB a)),zB a⟩
theorem RT.cell {w:O} {b off:Nat} {n k:Nat} {l:List aB} {s:aB} (h:RT w (some ⟨b,off,none⟩) n l) (a:l[k]? =some s):w.cell? ⟨b,off+k,none⟩=some (.string s):=by
 have g:=h.len;obtain⟨f,c,e,_,d⟩:=h.2 (by have:=zN a;omega);cases e;exact d k _ (bU a)
def xj:Option aB->List aB->Bool
 |_, []=>true
 |p,s::l=>decide (s.size<=4096) && (match p with|none=>true|some p=>Op.bytesLess p.toList s.toList) && xj (some s) l
def xQ (l:List aB):Bool:=decide (l.length<=1048576) && xj none l
theorem kR {α:Type} {l:List α} {k:Nat} {x:α} (h:l[k]? =some x):(l.take (k+1)).getLast? =some x:=by
 rw [zI,h];simp
theorem wL {l:List aB} {k:Nat} {s:aB} (h:l[k]? =some s):xj (l.take k).getLast? (l.drop k)=(decide (s.size<=4096) && (match (l.take k).getLast? with|none=>true|some p=>Op.bytesLess p.toList s.toList) && xj (l.take (k+1)).getLast? (l.drop (k+1))):=by
 obtain⟨a,rfl⟩:=List.getElem?_eq_some_iff.1 h;rw [kR h,za a];rfl
theorem YM:∀{l:List aB} {p:Option aB},xj p l=true->∀s∈l,s.size<=4096
 |s::l,p,h,t,a=>by
  unfold xj at h;simp only [zM,decide_eq_true_eq]at h;rcases yx.1 a with rfl|a
  ·exact h.1.1
  ·exact YM h.2 t a
theorem dC:∀(a b:aC),shN a b=ZE a b
 | [],b=>by cases b<;>rfl
 |x::l, []=>rfl
 |x::l,y::m=>by unfold shN ZE;rw [dC l m]
theorem oD {α:Type} {l:List α} {i e:Nat} (a:e=min (i+16) l.length):(l.drop i).take 16=(l.drop i).take (e - i):=by
 rcases Nat.le_total (i+16) l.length with h|h
 ·rw [show e - i=16 by omega]
 ·rw [zF (by rw [ze];omega),zF (by rw [ze];omega)]
theorem oE {α:Type} {l:List α} {i e:Nat} {x:α} (h:l[i]? =some x) (b:i<e):(l.drop i).take (e - i)=x::(l.drop (i+1)).take (e - (i+1)):=by
 obtain⟨a,rfl⟩:=List.getElem?_eq_some_iff.1 h;rw [za a,show e - i=(e - (i+1))+1 by omega,xL]
theorem UP {f:Nat} {l:List aB} {at_:aE} (h:l≠ []):YI (f+1) l at_=ZZ (l.take 16) (at_.take 16)::YI f (l.drop 16) (at_.drop 16):=by
 conv=>lhs;unfold YI
 rw [if_neg h]
theorem Xw (a:aB) (l:List aB) (at_:aE):ZZ (a::l) at_=zP a.size++a.data.toList++(XZ a l++at_.flatMap zP):=by
 show aM (Z3 a)++_=_;unfold aM;rw [iM];rfl
theorem VO (p s:aB) (l:List aB):XZ p (s::l)=zP (shN p.data.toList s.data.toList)++(zP (s.extract (shN p.data.toList s.data.toList) s.size).size++(s.extract (shN p.data.toList s.data.toList) s.size).data.toList++XZ s l):=by
 have e:=dC p.data.toList s.data.toList;rw [e];have h:=Lib.extract_to_end s (ZE p.data.toList s.data.toList);have a:(s.extract (ZE p.data.toList s.data.toList) s.size).size=(s.data.toList.drop (ZE p.data.toList s.data.toList)).length:=by rw [<-h];simp
 rw [h,a];rfl
theorem fN (p s:aB):shN p.data.toList s.data.toList<=s.size/\shN p.data.toList s.data.toList<=p.size:=by
 have e:=iZ p.data.toList s.data.toList;rw [<-dC]at e
 simpa [and_comm]using e
def UR (ls:List aB) (at_:aE) (w:O) (e:Ending) (w' :O):Prop:=
 if xQ ls=true then ∃A' m,m<=6000000000/\e= .returned (.tuple #[.slice A' m m,.int .i64 0])/\Sp w' [BA A' m m (ZM ls at_),OldA w.heap.size w]
 else e= .returned (.tuple #[.slice none 0 0,.int .i64 1])/\Below w.heap.size w w'
theorem UR.bad {ls:List aB} {at_:aE} {w w' :O} (h:xQ ls=false) (a:Below w.heap.size w w'):UR ls at_ w (.returned (.tuple #[.slice none 0 0,.int .i64 1])) w' :=by
 unfold UR;rw [if_neg (by simp [h])];exact⟨rfl,a⟩
theorem vT (A v:aA) (n c c2:Nat) (ls:List aB) (at_:aE) (w:O) (hc:n<=c) (aa:c<=9223372036854775807) (y7:n<=c2) (x5:c2<=9223372036854775807) (hs:RT w A n ls) (ha:RU w v n at_) (N:∀x∈at_,x<18446744073709551616):
 Calls prog 217 #[.slice A n c,.slice v n c2] w fun e w' =>UR ls at_ w e w' :=by
 have hlen:=zA hs.len;have hlen2:=zA ha.len;have Hu:=zA N
 by_cases M:1048576<n
 ·have o:Hid (xQ ls=false):=by
   show _=_;unfold xQ;have:=hlen.o;simp;omega
  have h8 :(1048576:Int)<n:=(by omega);clear hs ha N M;go_enter func217,ntmps217;go_wp2;go_ret2;exact UR.bad o.o (zE _ _)
 ·have au :(n:Int)<=1048576:=(by omega);have G:=zA hs;have Ha:=zA ha
  have HT:Hid (xQ ls=xj (ls.take 0).getLast? (ls.drop 0)):=by
   show _=_;unfold xQ;have:=hlen.o;have:decide (ls.length<=1048576)=true:=(by simp;omega);rw [this,Bool.true_and];rfl
  clear hs ha N M;go_enter func217,ntmps217;go_wp2
  go_loop [28] (fun i=>∃k:Nat,k<=n/\i= .int .i64 k/\xQ ls=xj (ls.take k).getLast? (ls.drop k)) (fun i=>n - (intOf i).toNat)
  case atStart=>exact⟨0,zJ _,rfl,HT.o⟩
  case round=>
   obtain⟨k,hk,rfl,ht⟩:=hrel;have Z:=zA ht;clear ht
   by_cases J:k<n
   ·obtain⟨b,off,s,rfl,hb,Y,Hx⟩:=G.o.at_ J
    have H:=zA (wL Hx.o)
    by_cases K:s.size<=4096
    ·have hr :(s.size:Int)<=4096:=(by omega);rcases zi k with h0|h0
     ·have H0:Hid ((ls.take k).getLast? =none):=(by show _=_;rw [h0];rfl);have y3 :(k:Int)<=0:=(by omega);have y4 :(k:Int)<n:=(by omega);clear h0;go_wp2
      go_round
      case rel=>exact⟨k+1,by omega,by go_num,by rw [Z.o,H.o,H0.o];simp [K]⟩
      case measure=>simp [intOf];omega
     ·obtain⟨j,rfl⟩:∃j,k=j+1:=⟨k - 1,by omega⟩;obtain⟨_,_,p,e0,_,hy,Hp⟩:=G.o.at_ (k:=j) (by omega)
      cases e0;have C:=zA (kR Hp.o);have am:(0:Int)<(j:Int)+1:=(by omega);have ap:(j:Int)+1<n:=(by omega);have ej:(((j+1:Nat):Int)) - 1=j:=(by omega);cases hless:Op.bytesLess p.toList s.toList with
      |true=>
       have I :(!Op.bytesLess p.toList s.toList)=false:=(by rw [hless];rfl);have R:=zA hless;clear hless;go_wp2
       go_round
       case rel=>exact⟨j+1+1,by omega,by go_num,by rw [Z.o,H.o,C.o];simp [K,R.o]⟩
       case measure=>simp [intOf];omega
      |false=>
       have I :(!Op.bytesLess p.toList s.toList)=true:=(by rw [hless];rfl);have o:Hid (xQ ls=false):=(by show _=_;rw [Z.o,H.o,C.o];simp [hless]);clear hless;go_wp2;go_ret2;exact UR.bad o.o (zE _ _)
    ·have hr :(4096:Int)<s.size:=(by omega);have o:Hid (xQ ls=false):=(by show _=_;rw [Z.o,H.o];simp [K]);clear K;go_wp2;go_ret2;exact UR.bad o.o (zE _ _)
   ·obtain rfl:k=n:=by omega
    have E:Hid (xQ ls=true):=by
     show _=_;rw [Z.o,zQ (by rw [hlen.o];omega)];rfl
    have U:=zA (YM (p:=none) (l:=ls) (by have:=E.o;unfold xQ at this;simp only [zM]at this;exact this.2));clear Z;go_wp2_with fail;refine(ZR (Sp.start w) (RB.none_ w) (by omega) (x:=k) (by omega)).mono ?_;rintro e w1 ⟨F,z,rfl,xb,L⟩;have h3:Sp w1 [BA F z z (zP k),OldA w.heap.size w]:=L;clear L;go_wp2
    go_loopg [8,9] (k+16) (fun gk vo vi wr=>∃(i:Nat) (F:aA) (z c1 f:Nat) (done:aC),i<=k+16/\gk=k+16 - i/\vi= .int .i64 i/\vo= .slice F z c1/\k - i<f/\Hid (ZM ls at_=done++(YI f (ls.drop i) (at_.drop i)).flatten)/\z<=10+5000*i/\Sp wr [BA F z c1 done,OldA w.heap.size w])
    case atStart=>exact⟨0,F,z,z,k+1,zP k,zJ _,by omega,rfl,rfl,by omega,by show _=_;unfold ZM;rw [hlen.o];rfl,by omega,h3⟩
    case round=>
     obtain⟨i,F,z,c1,f,done,hi,rfl,rfl,rfl,hf,HD,xb,L⟩:=hrel
     by_cases J:i<k
     ·obtain⟨f,rfl⟩:∃f',f=f' +1:=⟨f - 1,by omega⟩;obtain⟨b,off,a,rfl,hb,_,Hx⟩:=G.o.at_ J
      obtain⟨b2,hw,_,rfl,y5,_,_⟩:=Ha.o.at_ J
      have hm:=L.below (.tail _ (.head _));have Y:=(G.o.on hm).cell Hx.o;obtain⟨e,he⟩:∃e,e=min (i+16) k:=⟨_,rfl⟩;have ai:min ((i:Int)+16) k=(e:Int):=(by omega);have hn:i<e:=(by omega);have af:e<=k:=(by omega);have ag:e<=i+16:=(by omega);have He:=zA he;have x3:=U.o a (zD Hx.o);have y6:=(L.rb (.head _)).2;clear he hm;go_wp2_with fail
      refine(cD L (RB.none_ _) (s:=a) (by omega)).mono ?_;rintro e1 w2 ⟨v,m,rfl,hp,d⟩;have HX:Hid (((ls.drop i).take (e - i))=a::(ls.drop (i+1)).take (e - (i+1))):=oE Hx.o hn
      have P:Hid (ZM ls at_=done++(ZZ (a::(ls.drop (i+1)).take (e - (i+1))) ((at_.drop i).take (e - i))++(YI f (ls.drop (i+16)) (at_.drop (i+16))).flatten)):=by
       show _=_;have xn:ls.drop i≠ []:=(by intro h;have:=congrArg List.length h;rw [ze,hlen.o]at this;simp at this;omega);rw [HD.o,UP xn,yM,oD (e:=e) (by rw [hlen.o];exact He.o),HX.o,oD (l:=at_) (e:=e) (by rw [hlen2.o];exact He.o),List.drop_drop,List.drop_drop]
      obtain⟨rest,r⟩:=eX ((YI f (ls.drop (i+16)) (at_.drop (i+16))).flatten);obtain⟨ab,D⟩:=eX ((at_.drop i).take (e - i));rw [r,D,Xw]at P;have T:=zA r;have hj:=zA D;clear r D HX;go_wp2
      go_loopg [11,12] (e - i) (fun gq vb vk wq=>∃(j:Nat) (v:aA) (m:Nat) (g:aC) (p:aB),vk= .int .i64 ((j:Int)+1)/\i<=j/\j<e/\gq=e - j/\vb= .slice v m m/\m+5000*i<=4106+4120*j+880*i/\Hid (ls[j]? =some p)/\Hid (zP a.size++a.data.toList++XZ a ((ls.drop (i+1)).take (e - (i+1)))=g++XZ p ((ls.drop (j+1)).take (e - (j+1))))/\Sp wq [BA v m m g,BA F z c1 done,OldA w.heap.size w])
      case atStart=>exact⟨i,v,m,_,a,rfl,zC _,hn,rfl,rfl,by omega,Hx,rfl,d⟩
      case round=>
       obtain⟨j,v,m,g,p,rfl,an,ao,rfl,rfl,hp,Hp,hh,d⟩:=hrel;have X:=d.below (.tail _ (.tail _ (.head _)))
       by_cases ho:j+1<e
       ·obtain⟨_,_,s,e0,_,_,y⟩:=G.o.at_ (k:=j+1) (by omega)
        cases e0;have ad:=(G.o.on X).cell Hp.o;have h9:=(G.o.on X).cell y.o;have av:=U.o p (zD Hp.o);have aw:=U.o s (zD y.o);have x1:=(fN p s);have Q:=zA ((congrArg (XZ p) (oE y.o ho)).trans (VO p s _));have hl:=zA (fun W=>iY p s W (by omega) (by omega));obtain⟨t,ht⟩:=eX (shN p.data.toList s.data.toList);rw [ht]at Q hl x1
        have hv:(s.extract t s.size).size<=4096:=(by rw [yQ];omega);obtain⟨x,hx⟩:=eX (s.extract t s.size);rw [hx]at Q hv;have ax:(t:Int)<=s.size:=(by omega);have ay:(t:Int)<=4096:=(by omega);have az:IntKind.u64.wrap (t:Int)=t:=(by rw [zW];omega);have x6 :(j:Int)+1<e:=(by omega);have x8:IntKind.i64.wrap ((j:Int)+1 - 1)=j:=(by rw [zT];omega);have ys:((j:Int)+1).toNat=j+1:=(by omega)
        have y0:(0:Int)<=(j:Int)+1:=(by omega);have y1:(j:Int)+1<k:=(by omega);have y2:(j:Int)<k:=(by omega);have S:=zA (fun nn=>ZR (d.drewN nn).tail ((d.drewN nn).rb (.head _)).1 (c:=m) (x:=t) (by omega) (by omega));clear ht X;go_wp2
        go_quiet ((go_at_call 252;exact Calls.quiet_of (hl.o _)))
        go_wp2
        go_region_held3 (fun W=>W.cell? ⟨b,off+(j+1),none⟩=some (.string s)) (first|assumption|exact h9|exact(B.below (.tail _ (.tail _ (.head _)))).cell (p:=⟨b,off+(j+1),none⟩) hb|>.trans (G.o.cell y.o)|exact(hg.below (.tail _ (.tail _ (.head _)))).cell (p:=⟨b,off+(j+1),none⟩) hb|>.trans (G.o.cell y.o))
         (first
          |(go_at_call 85;((with_reducible refine(S.o _).mono ?_));rintro e5 w5 ⟨A5,m5,rfl,xi,B⟩;have h7:=zA (cD B.tail (B.rb (.head _)).1 (c:=m5) (s:=x) (by omega)))
          |(go_at_call 219;((with_reducible refine h7.o.mono ?_));rintro e6 w6 ⟨A6,m6,rfl,aq,hg⟩))
        go_wp2
        go_roundg (e - (j+1))
        case measure=>omega
        case rel=>
         exact⟨j+1,A6,m6,_,s,by go_num,by omega,ho,rfl,rfl,by omega,y,by show _=_;rw [hh.o,Q.o,<-zO,<-zO],hg⟩
       ·obtain rfl:e=j+1:=by omega
        have h5:Hid (zP a.size++a.data.toList++(XZ a ((ls.drop (i+1)).take (j+1 - (i+1)))++ab.flatMap zP)=g++(ab.drop 0).flatMap zP):=by
         show _=_;have h:=hh.o;rw [yh]at h;rw [<-zO,h];simp [XZ]
        rw [h5.o]at P;have al:(i:Int)<k:=(by omega);have aj:(i:Int)<c2:=(by omega);have ak:(i:Int)<=(j:Int)+1:=(by omega);have ah:(j:Int)+1<=c2:=(by omega);go_wp2
        go_loopg [11,103] (j+1 - i) (fun gq vb vq wq=>∃(q:Nat) (v:aA) (m:Nat) (g:aC),vq= .int .i64 q/\q<=j+1 - i/\gq=j+1 - i - q/\vb= .slice v m m/\m+4120*i<=4106+4120*(j+1)+20*q/\Hid (ZM ls at_=done++(g++(ab.drop q).flatMap zP++rest))/\Sp wq [BA v m m g,BA F z c1 done,OldA w.heap.size w])
        case atStart=>exact⟨0,v,m,g,rfl,zJ _,rfl,rfl,by omega,P,d⟩
        case round=>
         obtain⟨q,v,m,g,rfl,hq,rfl,rfl,hp,hd,d⟩:=hrel
         by_cases xs:q<j+1 - i
         ·obtain⟨u,N⟩:∃u,at_[i+q]? =some u:=⟨_,zB (by have:=hlen2.o;omega)⟩
          have ae:wr.cell? ⟨b2,hw+i+q,none⟩=some (.int .u64 (u:Int)):=by
           have h:=(Ha.o.on (d.below (.tail _ (.tail _ (.head _))))).2 (by omega);obtain⟨_,_,e0,_,h⟩:=h;cases e0;rw [Nat.add_assoc];exact h _ _ (WB N)
          have x2:=Hu.o u (zD N)
          have h6:Hid ((ab.drop q).flatMap zP=zP u++(ab.drop (q+1)).flatMap zP):=by
           show _=_;have D:ab[q]? =some u:=(by rw [<-hj.o,yy,if_pos xs,List.getElem?_drop];exact N);obtain⟨h1,h2⟩:=List.getElem?_eq_some_iff.1 D;rw [za h1,h2,zp]
          have S:=zA (ZR d.tail (d.rb (.head _)).1 (c:=m) (x:=u) (by omega) x2);clear N;go_wp2_with (go_at_call 85;((with_reducible refine S.o.mono ?_));rintro e5 w5 ⟨A5,m5,rfl,xi,B⟩)
          go_roundg (j+1 - i - (q+1))
          ·exact⟨q+1,A5,m5,_,by go_num,by omega,rfl,rfl,by omega,by show _=_;rw [hd.o,h6.o,<-zO g],B⟩
          ·omega
         ·obtain rfl:q=j+1 - i:=by omega
          have hz:Hid (ZM ls at_=done++g++(YI f (ls.drop (i+16)) (at_.drop (i+16))).flatten):=by
           show _=_;rw [hd.o,T.o,zQ (by rw [<-hj.o];exact List.length_take_le _ _)];simp
          have Hr:=zA (d.rb (.head _)).1.reads;go_wp2_with (at_builtin;refine yR yW (.tmp 111) (.tmp 112) rfl rfl d.p1 rfl rfl Hr.o (xd _) (by omega) (by omega) ?_;intro A9 c9 w9 y8 ar h4)
          go_roundg (k+16 - (i+16))
          ·exact⟨i+16,A9,z+m,c9,f,done++g,by omega,rfl,by go_num,rfl,by omega,hz,by omega,by have h:=h4.d1;rw [<-y9]at h;exact h⟩
          ·omega
     ·have HE:Hid (ZM ls at_=done):=by
       show _=_;rw [HD.o,zQ (by rw [hlen.o];omega)];cases f<;>simp [YI]
      have x4:=(L.rb (.head _)).2;go_wp2_with (go_at_call 55;refine(Zt _ _ _ _ (by omega) (by omega)).mono ?_;rintro e w' ⟨rfl,rfl⟩);go_ret2;unfold UR;rw [if_pos E.o,HE.o];exact⟨F,z,by omega,rfl,L.clip⟩
def YZ:List aB->Nat->aC
 | [],_=> []
 |a::l,0=>zP a.size++a.data.toList++XZ a l
 |a::l,1=>XZ a l
 |_::l,i+2=>YZ l (i+1)
theorem iN (a:aB) (l:List aB) (at_:aE):ZZ (a::l) at_=YZ (a::l) 0++at_.flatMap zP:=by
 rw [Xw];simp [YZ]
theorem jG {ls:List aB} {a:aB} (h:ls[0]? =some a):YZ ls 0=zP a.size++a.data.toList++YZ ls 1:=by
 cases ls with
 |nil=>simp at h
 |cons b l=>simp at h;subst h;rfl
theorem jH:∀{ls:List aB} {i:Nat} {p s:aB},ls[i]? =some p->ls[i+1]? =some s->
 YZ ls (i+1)=zP (shN p.data.toList s.data.toList)++(zP (s.extract (shN p.data.toList s.data.toList) s.size).size++(s.extract (shN p.data.toList s.data.toList) s.size).data.toList++YZ ls (i+2))
 | [],_,_,_,h,_=>by simp at h
 | [a],0,_,_,_,k=>by simp at k
 |a::b::l,0,p,s,h,k=>by
  simp at h k;subst h k;show XZ a (b::l)=_;rw [VO];simp [YZ]
 |a::l,i+1,p,s,h,k=>by
  simp only [zj]at h k;exact jH (ls:=l) h k
theorem U5:∀(ls:List aB),YZ ls ls.length= []
 | []=>rfl
 | [a]=>rfl
 |a::b::l=>U5 (b::l)
theorem oB (x:aB):ByteArray.mk x.data.toList.toArray=x:=by cases x;simp
theorem KX (p s:aB):p.extract 0 (shN p.data.toList s.data.toList)++s.extract (shN p.data.toList s.data.toList) s.size=s:=by
 apply vB
 have h:=Vg p.data.toList s.data.toList;rw [<-dC]at h;have a:=Lib.extract_to_end s (shN p.data.toList s.data.toList)
 have e:(p.extract 0 (shN p.data.toList s.data.toList)).data.toList=p.data.toList.take (shN p.data.toList s.data.toList):=by
  simp
 unfold Z3;simp only [ByteArray.data_append,Array.toList_append];rw [e,h,a,zu]
theorem mU {ls:List aB} {f:Option aB} (h:xj f ls=true):∀{i:Nat} {p s:aB},ls[i]? =some p->ls[i+1]? =some s->Op.bytesLess p.toList s.toList=true:=by
 induction ls generalizing f with
 |nil=>intro i p s h;simp at h
 |cons a l ih=>
  unfold xj at h;simp only [zM]at h;intro i p s d c;cases i with
  |zero=>
   simp at d;subst d;cases l with
   |nil=>simp at c
   |cons b l=>
    simp at c;subst c;have e:=h.2;unfold xj at e;simp only [zM]at e;exact e.1.2
  |succ i=>exact ih h.2 (by simpa using d) (by simpa using c)
theorem dW:∀{x y:aC},Op.bytesLess x y=true->Op.bytesLess y x=false/\(y==x)=false
 |_, [],h=>by simp [Op.bytesLess]at h
 | [],_::_,_=>⟨rfl,rfl⟩
 |a::x,b::y,h=>by
  simp only [Op.bytesLess,Bool.or_eq_true,decide_eq_true_eq,zM,beq_iff_eq]at h;rcases h with h|⟨rfl,h⟩
  ·have c:¬b<a:=(by simp only [UInt8.lt_iff_toNat_lt]at h⊢;omega);have d:b≠a:=(by rintro rfl;simp only [UInt8.lt_iff_toNat_lt]at h;omega);simp [Op.bytesLess,c,d]
  ·have:=dW h
   simpa [Op.bytesLess]using this
theorem LK {p s:aB} (h:Op.bytesLess p.toList s.toList=true):s≠⟨#[]⟩:=by
 rintro rfl;have e:(ByteArray.mk #[]).toList= []:=by rw [ByteArray.toList_eq]
 rw [e]at h;cases hp:p.toList<;>rw [hp]at h<;>simp [Op.bytesLess]at h
theorem JH (x y:Int) (w:O):Calls prog 319 #[.int .i64 x,.int .i64 y] w fun e w' =>e= .returned (.bool (decide (x<y)))/\w=w' :=by
 go_enter func319,ntmps319;go_wp2_with (go_at_call 357;refine(Tryz.cmp_isNaN_int _ _).mono ?_;rintro e w' ⟨rfl,rfl⟩);go_ret
 exact⟨rfl,rfl⟩
theorem Xf {a:aD} {k:Nat} {z:Int} (h:a[k]? =some z):a.getD k 0=z:=by simp [zm,h]
theorem wA (A:aA) (n c:Nat) (d:aD) (w:O) (F:Nat->Prop) (S:n<=1000000000000) (y:zL w F A n c d):
 Calls prog 322 #[.slice A n c] w fun e w' =>e= .returned (.bool (Q6 d))/\xG w w' :=by
 have l:=zA y.length;have z:=zA y;clear y;go_enter func322,ntmps322;go_wp2
 go_loopw [3] (fun i wr=>∃k:Nat,k<=n/\i= .int .i64 ((k:Int) - 1)/\Q6 d=OK d (k - 1)/\xG w wr) (fun i _=>(intOf i+1).toNat)
 case atStart=>exact⟨n,zC _,rfl,by unfold Q6;rw [l.o],0,rfl⟩
 case round=>
  obtain⟨k,R,rfl,B,o⟩:=hrel;have u:=zA B;have g:=zA o;clear B o
  by_cases N:1<k
  ·obtain⟨j,rfl⟩:∃j,k=j+2:=⟨k - 2,by omega⟩;obtain⟨b,off,t,rfl,x,_,q⟩:=z.o.at_ (k:=j+1) (by omega)
   obtain⟨_,_,s,C,v,_,p⟩:=z.o.at_ (k:=j) (by omega)
   cases C;have Q:wr.cell? ⟨b,off+(j+1),none⟩=some (.int .i64 t):=(by obtain⟨nq,e⟩:=g.o;rw [e];exact q.int.1);have P:wr.cell? ⟨b,off+j,none⟩=some (.int .i64 s):=(by obtain⟨nq,e⟩:=g.o;rw [e];exact p.int.1);have D:(((j+2:Nat):Int)) - 1=(j:Int)+1:=(by omega);rw [D];have E:IntKind.i64.wrap ((j:Int)+1 - 1)=j:=(by rw [zT];omega);have G:((j:Int)+1).toNat=j+1:=(by omega)
   have H:(0:Int)<=(j:Int)+1:=(by omega);have K:(0:Int)<=(j:Int):=(by omega);have L:IntKind.i64.wrap (j:Int)=j:=(by rw [zT];omega);have I:(j:Int)+1<n:=(by omega);have J:(j:Int)<n:=(by omega);have f:=zA (FX d j);rw [Xf x.o,Xf v.o]at f;have a:=zA (JH t s);clear p q
   by_cases r:s<=t
   ·have m:decide (t<s)=false:=(by simp;omega);rw [m]at a;clear m;go_wp2
    go_quiet ((go_at_call 319;exact Calls.quiet_of_same ((a.o _).mono fun _ _ h=>⟨h.1,h.2.symm⟩)))
    go_wp2
    go_roundw
    case rel=>exact⟨j+1,by omega,by go_num,by rw [u.o];show OK d (j+1)=OK d j;rw [f.o];simp [r],g.o.more _⟩
    case measure=>simp [intOf];omega
   ·have m:decide (t<s)=true:=(by simp;omega);rw [m]at a;clear m;go_wp2
    go_quiet ((go_at_call 319;exact Calls.quiet_of_same ((a.o _).mono fun _ _ h=>⟨h.1,h.2.symm⟩)))
    go_wp2;go_ret
    exact⟨by rw [u.o];show _=Ending.returned (.bool (OK d (j+1)));rw [f.o];simp [r],g.o.more _⟩
  ·have M:(k:Int) - 1<=0:=(by omega);go_wp2;go_ret
   exact⟨by rw [u.o,show k - 1=0 by omega];rfl,g.o⟩
theorem DI (A:aA) (n c:Nat) (ps:List PostD) (w:O) (hn:n<=1000000000) (T:zL w (·<w.heap.size) A n c ps) (hp:∀p∈ps,p.pos.length<=10000000000):
 Calls prog 263 #[.slice A n c] w fun e w' =>e= .returned (.bool (xk ps))/\Below w.heap.size w w' :=by
 have E:=zA T.length;have Hl:=zA T;have Hp:=zA hp;clear T hp;go_enter func263,ntmps263;go_wp2
 go_loopw [3,4,9] (fun vl va i wr=>∃(k:Nat) (last:Int) (all:Nat),k<=n/\i= .int .i64 k/\vl= .int .i64 last/\va= .int .i64 all/\all<=1048576/\Hid (xk ps=xa last all (ps.drop k))/\Below w.heap.size w wr) (fun _ _ i _=>n - (intOf i).toNat)
 case atStart=>exact⟨0, -1,0,zJ _,rfl,rfl,rfl,by omega,rfl,zE _ _⟩
 case round=>
  obtain⟨k,last,all,hk,rfl,rfl,rfl,ha,L,hb⟩:=hrel;have u:=zA hb;clear hb
  by_cases U:k<n
  ·obtain⟨b,off,p,rfl,Hx,G,he⟩:=Hl.o.at_ U
   obtain⟨K,r,c2,e0,e1,D,hd⟩:=PostD.at_ he
   have R:=(u.o.cell (p:=⟨b,off+k*2,none⟩) G).trans e0;have hm:=(u.o.cell (p:=⟨b,off+k*2+1,none⟩) G).trans e1;have F:=zA (sI (last:=last) (all:=all) Hx.o);have z:=D.length;have Y:=Hp.o p (zD Hx.o);rw [z]at Y;have o:=zA z;obtain⟨W,J⟩:=eX (wr.alloc (.cells #[.int .i64 p.doc,.slice K r c2] 116))
   have x:Below w.heap.size w W:=(by rw [<-J];exact u.o.alloc u.o.size _);obtain⟨sb,B⟩:=eX (Q6 p.pos);have g:=zA (wA K r c2 p.pos W _ (by omega) (D.below x));rw [<-J,B]at g;have q:=zA B;have l:Hid (Below w.heap.size w (wr.alloc (.cells #[.int .i64 p.doc,.slice K r c2] 116))):=(by rw [J];exact x);have H2:=zA D
   have f:Hid (Yv last all p=false->xk ps=false):=fun h=>by rw [L.o,F.o,h];rfl
   obtain⟨d,t⟩:=eX (p.doc);rw [t]at R g l;have m:=zA t;unfold In64 at hd;rw [t]at hd;clear e0 e1 he z J x B D t
   by_cases h1:last<d
   ·by_cases D:d<16384
    ·by_cases h3:0<r
     ·by_cases h4:all+r<=1048576
      ·have Q :(all:Int)+r<=1048576:=(by omega);obtain⟨j,hj⟩:∃j,r=j+1:=⟨r - 1,by omega⟩;have HJ:=zA hj;obtain⟨P,v,z0,rfl,M,y,H⟩:=H2.o.at_ (k:=0) (by omega)
       obtain⟨_,_,zl,e2,N,_,I⟩:=H2.o.at_ (k:=j) (by omega)
       cases e2;have S:=(u.o.cell (p:=⟨P,v+0,none⟩) y).trans H.int.1;have ho:=(u.o.cell (p:=⟨P,v+j,none⟩) y).trans I.int.1;rw [yt]at S;have hi:P<wr.heap.size:=zX y u.o.size;have ej:(r:Int) - 1=j:=(by omega);have hr:(0:Int)<r:=(by omega);have hs:(j:Int)<r:=(by omega);clear hj;have ht:(0:Int)<=j:=(by omega);have Z:=zA (Xf M.o)
       have GL:=zA (Xf N.o);clear H I;cases sb with
       |false=>
        have a:=f.o (by unfold Yv;rw [q.o,m.o,o.o];simp);have s:=zA a;clear a;go_wp2_with (go_at_call 322;refine g.o.mono ?_;rintro e C ⟨rfl,nq,rfl⟩);go_ret
        exact⟨by rw [s.o];rfl,zd l.o _⟩
       |true=>
        by_cases h6:0<=z0
        ·by_cases h7:zl<=1048576
         ·have X:Hid (Yv last all p=true):=by
           show _=_;unfold Yv;rw [q.o,m.o,o.o,show r - 1=j by have:=HJ.o;omega,Z.o,GL.o];simp [h1,D,h3,h4,h6,h7]
          go_wp2_with (go_at_call 322;refine g.o.mono ?_;rintro e C ⟨rfl,nq,rfl⟩)
          ·exfalso
           rename_i hq;simp only [beq_iff_eq]at hq;omega
          ·exact⟨⟨k+1,d,all+r,by omega,by go_num,rfl,by go_num,by omega,by show _=_;rw [L.o,F.o,X.o,m.o,o.o];simp,zd l.o _⟩,by simp [intOf];omega⟩
         ·have hh :1048576<zl:=(by omega);have a:=f.o (by unfold Yv;rw [q.o,m.o,o.o];rw [show r - 1=j by have:=HJ.o;omega,GL.o];simp [h7]);have s:=zA a;clear a;go_wp2_with (go_at_call 322;refine g.o.mono ?_;rintro e C ⟨rfl,nq,rfl⟩);go_ret
          exact⟨by rw [s.o];rfl,zd l.o _⟩
        ·have hg :z0<0:=(by omega);have a:=f.o (by unfold Yv;rw [q.o,m.o,o.o];rw [Z.o];simp [h6]);have s:=zA a;clear a;go_wp2_with (go_at_call 322;refine g.o.mono ?_;rintro e C ⟨rfl,nq,rfl⟩);go_ret
         exact⟨by rw [s.o];rfl,zd l.o _⟩
      ·have Q :(1048576:Int)<(all:Int)+r:=(by omega);have a:=f.o (by unfold Yv;rw [q.o,m.o,o.o];rw [decide_eq_false (show ¬all+r<=1048576 by omega)];simp);have s:=zA a;clear a;go_wp2_with (go_at_call 322;refine g.o.mono ?_;rintro e C ⟨rfl,nq,rfl⟩);go_ret
       exact⟨by rw [s.o];rfl,l.o⟩
     ·obtain rfl:r=0:=by omega
      have a:=f.o (by unfold Yv;rw [q.o,m.o,o.o];simp);have s:=zA a;clear a;go_wp2_with (go_at_call 322;refine g.o.mono ?_;rintro e C ⟨rfl,nq,rfl⟩);go_ret
      exact⟨by rw [s.o];rfl,l.o⟩
    ·have hf :16384<=d:=(by omega);have a:=f.o (by unfold Yv;rw [q.o,m.o,o.o];rw [decide_eq_false (show ¬d<16384 by omega)];simp);have s:=zA a;clear a;go_wp2_with (go_at_call 322;refine g.o.mono ?_;rintro e C ⟨rfl,nq,rfl⟩);go_ret
     exact⟨by rw [s.o];rfl,l.o⟩
   ·have hc :d<=last:=(by omega);have a:=f.o (by unfold Yv;rw [q.o,m.o,o.o];rw [decide_eq_false (show ¬last<d by omega)];simp);have s:=zA a;clear a;go_wp2_with (go_at_call 322;refine g.o.mono ?_;rintro e C ⟨rfl,nq,rfl⟩);go_ret
    exact⟨by rw [s.o];rfl,l.o⟩
  ·obtain rfl:k=n:=by omega
   have HE:Hid (xk ps=true):=(by show _=_;rw [L.o,zQ (by rw [E.o];omega)];rfl);go_wp2;go_ret
   exact⟨by rw [HE.o];rfl,u.o⟩
end Go.Proofs.YtjbhbfaeielbiaaGreatDoor

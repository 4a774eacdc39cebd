import Derived.Lib.SlicesCompact
import Derived.Test.YtjbhbfaeielbiaaGreatDoorPart12
import Derived.Sort.Walk0
import Derived.Test.YtjbhbfaeielbiaaGreatDoorPart13
set_option maxRecDepth 100000
set_option maxHeartbeats 8000000
set_option linter.unusedVariables false
set_option linter.unusedSimpArgs false
namespace Go.Proofs.YtjbhbfaeielbiaaGreatDoor
abbrev OB:=aC
theorem EH {a b c:OB} (h:a<=b) (k:b<=c):a<=c:=List.le_trans h k
theorem EI (a b:OB):a<=b\/b<=a:=List.le_total a b
theorem NE {a b:OB} (h:a<=b) (hn:a≠b):a<b:=by
 rcases Decidable.em (a<b)with k|k
 ·exact k
 ·exact absurd (List.le_antisymm h k) hn
theorem sT {a b c:OB} (h:a<=b) (k:b<c):a<c:=List.lt_of_le_of_lt h k
theorem EJ {a b:OB} (h:a<b):a<=b:=List.le_of_lt h
theorem ZO (a:OB):¬a<a:=List.lt_irrefl a
def X0 (l:List OB):List OB:=l.mergeSort fun x y=>decide (x<=y)
def setB (l:List OB):List OB:=Lib.compact (X0 l)
theorem dL (l:List OB):(X0 l).Pairwise (·<=·):=by
 have:=List.pairwise_mergeSort (le:=fun x y:OB=>decide (x<=y)) (by intro a b c h1 h2;simp at*;exact EH h1 h2) (by intro a b;simp;exact EI a b) l;exact this.imp fun h=>by simpa using h
theorem kU (l:List OB):(X0 l).length=l.length:=List.length_mergeSort l
theorem D5 {l:List OB} {x:OB}:x∈X0 l↔x∈l:=List.mem_mergeSort
theorem IC {l:List OB} (h:l.Pairwise (·<=·)):X0 l=l:=List.mergeSort_of_pairwise (h.imp fun h=>by simpa using h)
theorem j4 {l:List OB}:∀(j:Nat) {x:OB},l[j]? =some x->x∈Lib.compact l
 |j,x,h=>by
  have hj:j<l.length:=by rcases List.getElem?_eq_some_iff.1 h with⟨h,_⟩;exact h
  have e:l.toArray[j]! =x:=by rw [getElem!_pos _ j (by simpa using hj)];simpa [zB hj]using h
  by_cases hk:Lib.keeps l.toArray j=true
  ·unfold Lib.compact Lib.compactUpTo;exact List.mem_map.2 ⟨j,List.mem_filter.2 ⟨List.mem_range.2 hj,hk⟩,e⟩
  ·have hk2:¬(j=0\/l.toArray[j]! ≠l.toArray[j - 1]!):=(by simpa [Lib.keeps]using hk);have h0:j≠0:=fun h=>hk2 (.inl h);have h1:l.toArray[j]! =l.toArray[j - 1]! :=Decidable.byContradiction fun h=>hk2 (.inr h)
   have e2:l[j - 1]? =some x:=by
    rw [zB (by omega),<-e,h1,getElem!_pos _ (j - 1) (by simp;omega)];simp
   exact j4 (j - 1) e2
 termination_by j=>j
theorem uM {l:List OB} {x:OB}:x∈Lib.compact l↔x∈l:=by
 refine⟨fun h=> ?_,fun h=> ?_⟩
 ·unfold Lib.compact Lib.compactUpTo at h;obtain⟨j,hj,rfl⟩:=List.mem_map.1 h;have hj:=List.mem_range.1 (List.mem_filter.1 hj).1;rw [getElem!_pos _ j (by simpa using hj)];simp
 ·obtain⟨j,hj⟩:=z8 h;exact j4 j hj
theorem BB {l:List OB} (h:l.Pairwise (·<=·)):(Lib.compact l).Pairwise (·<·):=by
 unfold Lib.compact Lib.compactUpTo;rw [List.pairwise_map,List.pairwise_filter];refine List.Pairwise.imp_of_mem ?_ List.pairwise_lt_range;intro i j hi hj hij _ hkj;have hj:=List.mem_range.1 hj;have hk:j=0\/l.toArray[j]! ≠l.toArray[j - 1]! :=by simpa [Lib.keeps]using hkj
 rcases hk with hk|hk
 ·omega
 have g:∀a b,a<=b->b<l.length->l.toArray[a]! <=l.toArray[b]! :=by
  intro a b hab hb;rw [getElem!_pos _ a (by simp;omega),getElem!_pos _ b (by simpa using hb)];rcases zk a b with h1|h1
  ·exact List.pairwise_iff_getElem.1 h a b (by omega) hb h1
  ·obtain rfl:a=b:=by omega
   exact List.le_refl _
 exact sT (g i (j - 1) (by omega) (by omega)) (NE (g (j - 1) j (by omega) hj) fun e=>hk e.symm)
theorem BC {l:List OB} (h:l.Pairwise (·<·)):Lib.compact l=l:=by
 refine Lib.compact_all l fun j hj=> ?_;unfold Lib.keeps;rcases zi j with h0|h0
 ·simp [h0]
 ·refine decide_eq_true (.inr fun e=> ?_);rw [getElem!_pos _ j (by simpa using hj),getElem!_pos _ (j - 1) (by simp;omega)]at e;have:=List.pairwise_iff_getElem.1 h (j - 1) j (by omega) hj (by omega);simp only [List.getElem_toArray]at e;rw [e]at this;exact ZO _ this
theorem KZ (l:List OB):(setB l).Pairwise (·<·):=BB (dL l)
theorem JA {l:List OB} {x:OB}:x∈setB l↔x∈l:=uM.trans D5
theorem K0 {l:List OB} (h:l.Pairwise (·<·)):setB l=l:=by
 unfold setB;rw [IC (h.imp EJ),BC h]
theorem iJ (l:List OB):(Lib.compact l).length<=l.length:=by
 unfold Lib.compact Lib.compactUpTo;rw [zK];exact zY (List.length_filter_le _ _) (by simp)
open Tryz
open Rep (rep)
open Go.RowKit
attribute [local go_sem ↓] zU zV
def zn (s:aB):OB:=s.data.toList
theorem QT {s t:aB} (h:zn s=zn t):s=t:=by
 cases s;cases t;simp [zn]at h;rw [h]
def Z0 (ts:List aB) (t:aB) (k:Nat):Prop:=k<=ts.length/\∀(i:Nat) (x:aB),ts[i]? =some x->(i<k↔zn x<zn t)
theorem Z0.get {ts:List aB} {t:aB} {k:Nat} (h:Z0 ts t k) (hp:(ts.map zn).Pairwise (·<·)) (ht:t∈ts):ts[k]? =some t:=by
 obtain⟨j,hj⟩:=z8 ht;have h1:=h.2 j t hj
 have hjk:k<=j:=by
  rcases zk j k with h2|h2
  ·exact absurd (h1.1 h2) (ZO _)
  ·exact h2
 rcases zk k j with h2|h2
 ·have hl:=zN hj;have h3:=(h.2 k ts[k] (zB (by omega)));have h4:=List.pairwise_iff_getElem.1 hp k j (by simp;omega) (by simpa using hl) h2;simp only [List.getElem_map]at h4;have e:ts[j]=t:=(by rw [zB hl]at hj;exact yG hj);rw [e]at h4;exact absurd (h3.2 h4) (by omega)
 ·obtain rfl:k=j:=by omega
  exact hj
theorem Vw (a b:aB):Op.bytesLess a.toList b.toList=decide (zn a<zn b):=by
 rw [bytesLess_eq,Lib.toList_data,Lib.toList_data];rfl
theorem LD (s:aB) (w:O):Calls prog 324 #[.string s] w fun e w' =>e= .returned (.bool false)/\w' =w:=by
 go_enter func324,ntmps324;go_wp2;go_ret
 exact⟨rfl,rfl⟩
theorem I5 (s:aB) (w:O):Calls prog 273 #[.string s] w fun e w' =>e= .returned (.bool false)/\w' =w:=by
 go_enter func273,ntmps273;go_wp2;go_ret
 exact⟨rfl,rfl⟩
theorem JG (s t:aB) (w:O):Calls prog 272 #[.string s,.string t] w fun e w' =>e= .returned (.bool (decide (zn s<zn t)))/\w' =w:=by
 have H:=LD;have hl:=Vw s t;go_enter func272,ntmps272;go_wp2_with (refine(H _ _).mono ?_;rintro e w1 ⟨rfl,rfl⟩);go_ret
 exact⟨rfl,rfl⟩
theorem MH (A:aA) (n c:Nat) (ts:List aB) (t:aB) (w:O) (hl:zL w (·<w.heap.size) A n c ts) (hn:n<=1000000000) (hp:(ts.map zn).Pairwise (·<·)):
 Calls prog 220 #[.slice A n c,.string t] w fun e w' =>∃(k:Nat) (b:Bool),e= .returned (.tuple #[.int .i64 (k:Int),.bool b])/\Z0 ts t k/\xG w w' :=by
 have hlen:=hl.length;have Hl:=zA hl;have Hp:=zA hp;have HL:=zA JG;have HN:=zA I5;have hlen' :=hlen;have Hlen:=zA hlen;clear hl hp hlen;go_enter func220,ntmps220;go_wp2
 go_loopg [7,8] n (fun gk v7 v8 wr=>∃(i j:Nat),v7= .int .i64 i/\v8= .int .i64 j/\i<=j/\j<=n/\gk=j - i/\wr=w/\Hid (∀(q:Nat) (x:aB),ts[q]? =some x->(q<i->zn x<zn t)/\(j<=q->¬zn x<zn t)))
 case atStart=>exact⟨0,n,rfl,rfl,zJ _,zC _,rfl,rfl,fun q x hx=>⟨fun h=>by omega,fun h=>by have:=zN hx;rw [Hlen.out]at this;omega⟩⟩
 case round=>
  obtain⟨i,j,rfl,rfl,hij,hj,rfl,rfl,HQ⟩:=hrel
  by_cases hlt:i<j
  ·obtain⟨s,hs⟩:=eX (i+j);obtain⟨h,hh⟩:=eX (s / 2);have h1:IntKind.i64.wrap (s:Int)=(s:Int):=(by rw [zT];omega);have h2:((i:Int)+(j:Int))=(s:Int):=(by omega);have h3:IntKind.u64.wrap (s:Int)=(s:Int):=(by rw [zW];omega);have h4:(s:Int) / 2^1=(h:Int):=(by omega);have h4b:(s:Int) / 2=(h:Int):=(by omega);have h5:IntKind.i64.wrap (h:Int)=(h:Int):=(by rw [zT];omega)
   have h6:IntKind.u64.wrap (h:Int)=(h:Int):=(by rw [zW];omega);have hhn:h<n:=(by omega);have hjh:h<j:=(by omega);have hih:i<=h:=(by omega);obtain⟨b,off,x,rfl,Hx,hb,he⟩:=Hl.out.at_ hhn
   have hc0:wr.cell? ⟨b,off+h,none⟩=some (.string x):=he.str.1
   have Hpw:∀(q:Nat) (y:aB),ts[q]? =some y->(q<h->zn y<zn x)/\(h<q->zn x<zn y):=by
    intro q y hy;have g:=List.pairwise_iff_getElem.1 Hp.out;have q1:=zN hy;have q2:=zN Hx.out;have e1:ts[q]=y:=(by rw [zB q1]at hy;exact yG hy);have e2:ts[h]=x:=(by have hx:=Hx.out;rw [zB q2]at hx;exact yG hx);refine⟨fun hq=> ?_,fun hq=> ?_⟩
    ·have:=g q h (by simpa using q1) (by simpa using q2) hq
     simpa [e1,e2]using this
    ·have:=g h q (by simpa using q2) (by simpa using q1) hq
     simpa [e1,e2]using this
   have HPw:=zA Hpw
   by_cases hxt:zn x<zn t
   ·have hxt' :decide (zn x<zn t)=true:=decide_eq_true hxt
    have HQ2:Hid (∀(q:Nat) (y:aB),ts[q]? =some y->(q<h+1->zn y<zn t)/\(j<=q->¬zn y<zn t)):=by
     intro q y hy;refine⟨fun hq=> ?_,(HQ.out q y hy).2⟩;rcases zk q h with h7|h7
     ·exact List.lt_trans ((HPw.out q y hy).1 h7) hxt
     ·obtain rfl:q=h:=by omega
      rw [Hx.out]at hy;cases hy;exact hxt
    clear Hpw HQ he hxt;go_wp2_with (refine(HL.out _ _ _).mono ?_;rintro e w1 ⟨rfl,rfl⟩)
    go_roundg (j - (h+1))
    ·exact⟨h+1,j,by go_num,rfl,by omega,hj,rfl,rfl,HQ2⟩
    ·omega
   ·have hxt' :decide (zn x<zn t)=false:=decide_eq_false hxt
    have HQ2:Hid (∀(q:Nat) (y:aB),ts[q]? =some y->(q<i->zn y<zn t)/\(h<=q->¬zn y<zn t)):=by
     intro q y hy;refine⟨(HQ.out q y hy).1,fun hq=> ?_⟩;rcases zk h q with h7|h7
     ·intro h8;exact hxt (List.lt_trans ((HPw.out q y hy).2 h7) h8)
     ·obtain rfl:q=h:=by omega
      rw [Hx.out]at hy;cases hy;exact hxt
    clear Hpw HQ he hxt;go_wp2_with (refine(HL.out _ _ _).mono ?_;rintro e w1 ⟨rfl,rfl⟩)
    go_roundg (h - i)
    ·exact⟨i,h,rfl,rfl,hih,by omega,rfl,rfl,HQ2⟩
    ·omega
  ·obtain rfl:i=j:=by omega
   have hst:Hid (Z0 ts t i):=⟨by rw [Hlen.out];exact hj,fun q x hx=>⟨fun h=>((HQ.out q x hx).1 h),fun h=>by
    rcases zk q i with h2|h2
    ·exact h2
    ·exact absurd h ((HQ.out q x hx).2 h2)⟩⟩
   by_cases hin:i<n
   ·obtain⟨b,off,x,rfl,Hx,hb,he⟩:=Hl.out.at_ hin
    have hc0:wr.cell? ⟨b,off+i,none⟩=some (.string x):=he.str.1;clear he
    by_cases hxt:x=t
    ·subst hxt;go_wp2_with (refine(HN.out _ _).mono ?_;rintro e w1 ⟨rfl,rfl⟩);go_ret2;exact⟨i,true,rfl,hst.out,⟨0,rfl⟩⟩
    ·have hne:¬x.toList=t.toList:=fun e=>hxt (QT (by rw [Lib.toList_data,Lib.toList_data]at e;exact e));have hne2:(x.toList==t.toList)=false:=(by simpa using hne);go_wp2_with (refine(HN.out _ _).mono ?_;rintro e w1 ⟨rfl,rfl⟩);go_ret2;exact⟨i,_,rfl,hst.out,⟨0,rfl⟩⟩
   ·go_wp2;go_ret2;exact⟨i,false,rfl,hst.out,⟨0,rfl⟩⟩
def WC (k:OB):aB:=⟨k.toArray⟩
theorem Wp (l:List OB):(l.map WC).map zn=l:=by rw [yD];exact List.map_id' l
theorem kP (l:List aB):(l.map zn).map WC=l:=by rw [yD];exact List.map_id' l
def xq (l:List aB):List aB:=(X0 (l.map zn)).map WC
def bP (l:List aB):List aB:=(Lib.compact (l.map zn)).map WC
def setT (l:List aB):List aB:=(setB (l.map zn)).map WC
theorem Wt (l:List aB):bP (xq l)=setT l:=by unfold bP xq setT setB;rw [Wp]
theorem UY (l:List aB):(xq l).length=l.length:=by unfold xq;rw [zK,kU,zK]
theorem FO (l:List aB):(bP l).length<=l.length:=by unfold bP;rw [zK];have:=iJ (l.map zn);rwa [zK]at this
theorem Vh (l:List aB):(setT l).length<=l.length:=by rw [<-Wt];have:=FO (xq l);rwa [UY]at this
theorem dT {l:List aB} {s:aB}:zn s∈l.map zn↔s∈l:=
 ⟨fun h=>by obtain⟨t,ht,e⟩:=List.mem_map.1 h;rw [<-QT e];exact ht,fun h=>List.mem_map.2 ⟨s,h,rfl⟩⟩
theorem I9 {l:List OB} {s:aB}:s∈l.map WC↔zn s∈l:=
 ⟨fun h=>by obtain⟨t,ht,rfl⟩:=List.mem_map.1 h;exact ht,fun h=>List.mem_map.2 ⟨zn s,h,rfl⟩⟩
theorem X9 {l:List aB} {s:aB}:s∈setT l↔s∈l:=by unfold setT;rw [I9,JA,dT]
theorem oP (l:List aB):((setT l).map zn).Pairwise (·<·):=by unfold setT;rw [Wp];exact KZ _
theorem C9 (l:List aB):setT (setT l)=setT l:=by
 show(setB ((setT l).map zn)).map WC=_;rw [K0 (oP l),kP]
def WH (rows:List (List aB)):List (List aB):=rows.map setT
def WD (ls:List (List aB)):List aB:=setT ls.flatten
def idxT (ts:List aB) (t:aB):Nat:=(ts.map zn).idxOf (zn t)
def xc (ts:List aB) (l:List aB):aD:=l.map fun t=>((idxT ts t:Nat):Int)
def X6 (ls:List (List aB)):List aD:=ls.map (xc (WD ls))
def XY (s:aB):aC:=zP s.size++s.data.toList
def Z5 (rows:List (List aB)):aC:=zP (WD (WH rows)).length++((WD (WH rows)).flatMap XY ++colL (X6 (WH rows)))
theorem wJ (rows:List (List aB)):WH (WH rows)=WH rows:=by
 unfold WH;rw [yD];exact List.map_congr_left fun l _=>C9 l
theorem tS (rows:List (List aB)):Z5 (WH rows)=Z5 rows:=by unfold Z5;rw [wJ]
theorem VV {ls:List (List aB)} {l:List aB} {t:aB} (hl:l∈ls) (ht:t∈l):t∈WD ls:=X9.2 (List.mem_flatten.2 ⟨l,hl,ht⟩)
theorem cP {ts:List aB} {t:aB} (h:t∈ts):idxT ts t<ts.length:=by
 have:=List.idxOf_lt_length_of_mem (dT.2 h)
 rwa [zK]at this
theorem pA {ts:List aB} {t:aB} (h:t∈ts):ts[idxT ts t]? =some t:=by
 have h1:=List.idxOf_lt_length_of_mem (dT.2 h);have h2:=List.getElem_idxOf h1;rw [List.getElem_map]at h2;rw [zB (cP h)];exact congrArg some (QT h2)
theorem NF {ts:List aB} {t:aB} {k:Nat} (hp:(ts.map zn).Pairwise (·<·)) (h:ts[k]? =some t):idxT ts t=k:=by
 have ht:=zD h;have h1:=cP ht;have h2:=zN h;have e1:ts[idxT ts t]=t:=by have:=pA ht;rw [zB h1]at this;exact yG this
 have e2:ts[k]=t:=by rw [zB h2]at h;exact yG h
 rcases Nat.lt_trichotomy (idxT ts t) k with g|g|g
 ·have:=List.pairwise_iff_getElem.1 hp _ _ (by simpa using h1) (by simpa using h2) g;simp only [List.getElem_map,e1,e2]at this;exact absurd this (ZO _)
 ·exact g
 ·have:=List.pairwise_iff_getElem.1 hp _ _ (by simpa using h2) (by simpa using h1) g;simp only [List.getElem_map,e1,e2]at this;exact absurd this (ZO _)
theorem oV {ls:List (List aB)} {r:aD} (h:r∈X6 ls):∀x∈r,0<=x/\x<(WD ls).length:=by
 obtain⟨l,hl,rfl⟩:=List.mem_map.1 h;intro x hx;obtain⟨t,ht,rfl⟩:=List.mem_map.1 hx;have:=cP (VV hl ht);omega
theorem vS (ls:List (List aB)):(WD ls).length<=ls.flatten.length:=Vh _
theorem Wq {α:Type} {B:Nat}:∀{ls:List (List α)},(∀l∈ls,l.length<=B)->ls.flatten.length<=B*ls.length
 | [],_=>by simp
 |l::ls,h=>by
  have h1:=h l (by simp);have h2:=Wq (B:=B) (ls:=ls) fun l hl=>h l (by simp [hl]);simp only [yM,zG,z6,Nat.mul_add];omega
theorem iI (a b:Nat):xh (a^^^b)=xh a^^^xh b:=by
 have h2:(a^^^b) / 2=a / 2^^^b / 2:=by simpa using Nat.xor_div_two_pow (a:=a) (b:=b) (n:=1)
 have hm:(a^^^b)%2=a%2^^^b%2:=by simpa using Nat.xor_mod_two_pow (a:=a) (b:=b) (n:=1)
 unfold xh;rw [h2,hm]
 have e:∀x y:Nat,x<2->y<2->3988292384*(x^^^y)=(3988292384*x)^^^(3988292384*y):=by
  intro x y hx hy;have hx' :x=0\/x=1:=(by omega);have hy' :y=0\/y=1:=(by omega);rcases hx' with rfl|rfl<;>rcases hy' with rfl|rfl<;>decide
 rw [e _ _ (Nat.mod_lt _ (by decide)) (Nat.mod_lt _ (by decide))];generalize 3988292384*(a%2)=u;generalize 3988292384*(b%2)=v;rw [Nat.xor_assoc,Nat.xor_assoc]
 congr 1
 rw [<-Nat.xor_assoc,Nat.xor_comm (b / 2) u,Nat.xor_assoc]
theorem uW (q:Nat):xh (2*q)=q:=by unfold xh;rw [Nat.mul_mod_right,Nat.mul_zero,Nat.xor_zero];omega
theorem AY {x:Nat} (hx:x<2^32) (h0:x≠0):xh x≠0:=by
 intro h;unfold xh at h
 have h1:x / 2=3988292384*(x%2):=by
  have:=congrArg (·^^^(3988292384*(x%2))) h
  simpa [Nat.xor_assoc]using this
 have:x%2=0\/x%2=1:=by omega
 rcases this with e|e<;>rw [e]at h1<;>omega
def crcN:Nat->Nat->Nat
 |0,c=>c
 |n+1,c=>xh (crcN n c)
theorem nZ (n a b:Nat):crcN n (a^^^b)=crcN n a^^^crcN n b:=by
 induction n with
 |zero=>rfl
 |succ n ih=>simp only [crcN];rw [ih,iI]
theorem L6 (n c:Nat):crcN (n+1) c=crcN n (xh c):=by
 induction n with
 |zero=>rfl
 |succ n ih=>simp only [crcN]at ih⊢;rw [ih]
theorem eH:∀(n q:Nat),crcN n (2^n*q)=q
 |0,q=>by simp [crcN]
 |n+1,q=>by rw [L6,show 2^(n+1)*q=2*(2^n*q) by rw [Nat.pow_succ,Nat.mul_comm (2^n) 2,Nat.mul_assoc],uW,eH]
theorem cW {x:Nat} (hx:x<2^32) (h0:x≠0):∀n,crcN n x<2^32/\crcN n x≠0
 |0=>⟨hx,h0⟩
 |n+1=>⟨Yi (cW hx h0 n).1,AY (cW hx h0 n).1 (cW hx h0 n).2⟩
def reg (f:Nat->Bool) (c:Nat):Nat->Nat
 |0=>c
 |n+1=>xh (reg f c n^^^(f n).toNat)
theorem cJ {f g:Nat->Bool} {c:Nat}:∀{n:Nat},(∀i,i<n->f i=g i)->reg f c n=reg g c n
 |0,_=>rfl
 |n+1,h=>by simp only [reg];rw [cJ (n:=n) fun i hi=>h i (by omega),h n (by omega)]
theorem eV (f:Nat->Bool) (c m:Nat):∀n,reg f c (m+n)=reg (fun i=>f (m+i)) (reg f c m) n
 |0=>rfl
 |n+1=>by rw [<-Nat.add_assoc];simp only [reg];rw [eV f c m n]
theorem oS (f g:Nat->Bool) (a b:Nat):∀n,reg (fun i=>f i !=g i) (a^^^b) n=reg f a n^^^reg g b n
 |0=>rfl
 |n+1=>by
  have e:(f n !=g n).toNat=(f n).toNat^^^(g n).toNat:=by cases f n<;>cases g n<;>rfl
  simp only [reg];rw [oS f g a b n,e,<-iI]
  congr 1
  rw [Nat.xor_assoc,Nat.xor_assoc]
  congr 1
  rw [<-Nat.xor_assoc,Nat.xor_comm (reg g b n),Nat.xor_assoc]
theorem mV:∀n,reg (fun _=>false) 0 n=0
 |0=>rfl
 |n+1=>by simp only [reg];rw [mV n];rfl
theorem sO (p k:Nat):p%2^(k+1)=(p%2^k)^^^(2^k*(p.testBit k).toNat):=by
 apply Nat.eq_of_testBit_eq
 intro i;rw [Nat.testBit_mod_two_pow,Nat.testBit_xor,Nat.testBit_mod_two_pow];cases hb:p.testBit k with
 |false=>
  simp only [Bool.toNat_false,Nat.mul_zero,Nat.zero_testBit,Bool.xor_false]
  by_cases h:i=k
  ·subst h;simp [hb]
  ·congr 1;simp;omega
 |true=>
  simp only [Bool.toNat_true,yr,Nat.testBit_two_pow]
  by_cases h:i=k
  ·subst h;simp [hb]
  ·have:decide (k=i)=false:=(by simp;omega);rw [this,Bool.xor_false]
   congr 1;simp;omega
theorem Vn (f:Nat->Bool) (p c:Nat):∀n,(∀i,i<n->f i=p.testBit i)->reg f c n=crcN n (c^^^(p%2^n))
 |0,_=>by simp [reg,crcN,Nat.mod_one]
 |n+1,h=>by
  simp only [reg,crcN];rw [Vn f p c n fun i hi=>h i (by omega),h n (by omega),sO,<-Nat.xor_assoc,nZ n (c^^^p%2^n),eH]
theorem lY (c:Nat):Uk c=crcN 4 c:=by
 have e:c=(2^4*(c / 16))^^^(c%16):=by
  apply Nat.eq_of_testBit_eq
  intro i;rw [Nat.testBit_xor,Nat.testBit_two_pow_mul,show c%16=c%2^4 from rfl,Nat.testBit_mod_two_pow,show c / 16=c / 2^4 from rfl,Nat.testBit_div_two_pow]
  by_cases h:4<=i
  ·have h2:decide (i<4)=false:=(by simp;omega);simp [h,h2]
  ·have h2:decide (i<4)=true:=(by simp;omega);simp [h,h2]
 conv=>rhs;rw [e,nZ,eH]
 rfl
theorem J4 (m n c:Nat):crcN (m+n) c=crcN m (crcN n c):=by
 induction m with
 |zero=>rw [zx];rfl
 |succ m ih=>rw [Nat.succ_add];simp only [crcN];rw [ih]
theorem uY (c:Nat) (b:UInt8) (f:Nat->Bool) (hf:∀i,i<8->f i=b.toNat.testBit i):Xt c b=reg f c 8:=by
 rw [Vn f b.toNat c 8 hf,zy (show b.toNat<2^8 from b.toNat_lt)];unfold Xt;rw [lY,lY,<-J4]
theorem GD (b:UInt8) (l:aC) {i:Nat} (h:i<8):bitB (b::l) i=b.toNat.testBit i:=by
 unfold bitB;rw [Nat.div_eq_of_lt h,zy h];rfl
theorem GE (b:UInt8) (l:aC) (i:Nat):bitB (b::l) (8+i)=bitB l i:=by
 unfold bitB;rw [show(8+i) / 8=i / 8+1 by omega,show(8+i)%8=i%8 by omega];rfl
theorem eI:∀(l:aC) (c:Nat),crcL c l=reg (bitB l) c (8*l.length)
 | [],_=>rfl
 |b::l,c=>by
  rw [z6,Nat.mul_add,yr,Nat.add_comm,eV,<-uY c b _ fun i hi=>GD b l hi];show crcL (Xt c b) l=_;rw [eI l];exact cJ fun i _=>(GE b l i).symm
theorem EZ (s i:Nat) (h:i<32):bitB (Za s) i=s.testBit i:=by
 have e:∀k,(s / 2^k%256).toUInt8.toNat=s / 2^k%2^8:=fun k=>Yt (Nat.mod_lt _ (by decide));have h0:=e 0;have h1:=e 8;have h2:=e 16;have h3:=e 24
 have g:∀k,i / 8=k->(Za s)[i / 8]?.map UInt8.toNat=some (s / 2^(8*k)%2^8):=by
  intro k hk;rw [hk];have:k=0\/k=1\/k=2\/k=3:=(by omega);rcases this with rfl|rfl|rfl|rfl
  ·simp [Za]
  ·simp [Za]
  ·simp [Za]
  ·simp [Za]
 unfold bitB;rw [g _ rfl,yq,Nat.testBit_mod_two_pow,Nat.testBit_div_two_pow];have:decide (i%8<8)=true:=by simp;omega
 rw [this,Bool.true_and]
 congr 1;omega
theorem J5 {c:Nat} (h:c<2^32):crcL c (Za (4294967295 - c))=crcN 32 4294967295:=by
 have e4:(Za (4294967295 - c)).length=4:=rfl;rw [eI,e4,Vn _ (4294967295 - c) c (8*4) fun i hi=>EZ _ i (by omega)]
 have e:c^^^(4294967295 - c)%2^(8*4)=4294967295:=by
  rw [zy (by omega)];have h2:4294967295 - c=2^32 - (c+1):=by omega
  apply Nat.eq_of_testBit_eq
  intro i;rw [Nat.testBit_xor,h2,Nat.testBit_two_pow_sub_succ h,show(4294967295:Nat)=2^32 - 1 from rfl,Nat.testBit_two_pow_sub_one]
  by_cases hi:i<32
  ·simp [hi]
  ·have:c.testBit i=false:=Nat.testBit_lt_two_pow (zX h (yB (by decide) (by omega)));simp [hi,this]
 rw [e]
theorem uX (c:Nat) (a b:aC):crcL c (a++b)=crcL (crcL c a) b:=xE
theorem i8 {k:UInt8} {d:aC} (h:ZN k d=true):reg (bitB d) 4294967295 (8*d.length)=crcN 32 4294967295:=by
 unfold ZN at h;simp only [zM,decide_eq_true_eq]at h;rw [<-eI]
 conv=>lhs;rw [<-zu (d.length - 4) d,h.2,uX]
 exact J5 (cX _ (by decide))
theorem rQ {k:UInt8} {d d' :aC} {fr p:Nat} (hl:d'.length=d.length) (hp:p<2^32)
 (hb:∀i,i<8*d.length->bitB d' i=(bitB d i !=(decide (fr<=i) && p.testBit (i - fr)))) (hit:∃j,fr+j<8*d.length/\p.testBit j=true) (hs:ZN k d=true):ZN k d' =false:=by
 cases hs' :ZN k d' with
 |false=>rfl
 |true=>
  exfalso
  have h1:=i8 hs;have h2:=i8 hs';rw [hl,cJ hb]at h2;have h3:=oS (bitB d) (fun i=>decide (fr<=i) && p.testBit (i - fr)) 4294967295 0 (8*d.length);rw [Nat.xor_zero,h1,h2]at h3
  have h4:reg (fun i=>decide (fr<=i) && p.testBit (i - fr)) 0 (8*d.length)=0:=by
   have:=congrArg (crcN 32 4294967295^^^·) h3
   simpa [<-Nat.xor_assoc]using this.symm
  obtain⟨j,hj,hbit⟩:=hit;obtain⟨m,hm⟩:∃m,8*d.length=fr+m:=⟨8*d.length - fr,by omega⟩;rw [hm,eV,cJ (g:=fun _=>false) (n:=fr) (by intro i hi;rw [show decide (fr<=i)=false from by simp;omega,Bool.false_and])]at h4;rw [mV,Vn _ p 0 m (by intro i _;simp),Nat.zero_xor]at h4;refine(cW (Nat.lt_of_le_of_lt (Nat.mod_le _ _) hp) (fun h0=> ?_) m).2 h4
  have h6:(p%2^m).testBit j=true:=by
   rw [Nat.testBit_mod_two_pow,hbit,Bool.and_true,decide_eq_true_eq];omega
  rw [h0]at h6;simp at h6
end Go.Proofs.YtjbhbfaeielbiaaGreatDoor

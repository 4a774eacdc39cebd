import Derived.Lib.SlicesCompact
import Derived.Test.YtjbhbfaeielbiaaGreatDoorPart15
import Derived.Sort.Walk0
set_option maxRecDepth 100000
set_option maxHeartbeats 8000000
set_option linter.unusedVariables false
set_option linter.unusedSimpArgs false
namespace Go.Proofs.YtjbhbfaeielbiaaGreatDoor
abbrev OB:=aC
theorem EH {a b c:OB} (h:a<=b) (k:b<=c):a<=c:=List.le_trans h k
theorem EI (a b:OB):a<=b\/b<=a:=List.le_total a b
theorem NE {a b:OB} (h:a<=b) (c:a≠b):a<b:=by
 rcases Decidable.em (a<b)with k|k
 ·exact k
 ·exact absurd (List.le_antisymm h k) c
theorem sT {a b c:OB} (h:a<=b) (k:b<c):a<c:=List.lt_of_le_of_lt h k
theorem EJ {a b:OB} (h:a<b):a<=b:=List.le_of_lt h
theorem ZO (a:OB):¬a<a:=List.lt_irrefl a
def X0 (l:List OB):List OB:=l.mergeSort fun x y=>decide (x<=y)
def setB (l:List OB):List OB:=Lib.compact (X0 l)
theorem dL (l:List OB):(X0 l).Pairwise (·<=·):=by
 have:=List.pairwise_mergeSort (le:=fun x y:OB=>decide (x<=y)) (by intro a b c d e;simp at*;exact EH d e) (by intro a b;simp;exact EI a b) l;exact this.imp fun h=>by simpa using h
theorem kU (l:List OB):(X0 l).length=l.length:=List.length_mergeSort l
theorem D5 {l:List OB} {x:OB}:x∈X0 l↔x∈l:=List.mem_mergeSort
theorem IC {l:List OB} (h:l.Pairwise (·<=·)):X0 l=l:=List.mergeSort_of_pairwise (h.imp fun h=>by simpa using h)
theorem j4 {l:List OB}:∀(j:Nat) {x:OB},l[j]? =some x->x∈Lib.compact l
 |j,x,h=>by
  have b:j<l.length:=by rcases List.getElem?_eq_some_iff.1 h with⟨h,_⟩;exact h
  have e:l.toArray[j]! =x:=by rw [getElem!_pos _ j (by simpa using b)];simpa [zB b]using h
  by_cases c:Lib.keeps l.toArray j=true
  ·unfold Lib.compact Lib.compactUpTo;exact List.mem_map.2 ⟨j,List.mem_filter.2 ⟨List.mem_range.2 b,c⟩,e⟩
  ·have a:¬(j=0\/l.toArray[j]! ≠l.toArray[j - 1]!):=(by simpa [Lib.keeps]using c);have g:j≠0:=fun h=>a (.inl h);have f:l.toArray[j]! =l.toArray[j - 1]! :=Decidable.byContradiction fun h=>a (.inr h)
   have d:l[j - 1]? =some x:=by
    rw [zB (by omega),<-e,f,getElem!_pos _ (j - 1) (by simp;omega)];simp
   exact j4 (j - 1) d
 termination_by j=>j
theorem uM {l:List OB} {x:OB}:x∈Lib.compact l↔x∈l:=by
 refine⟨fun h=> ?_,fun h=> ?_⟩
 ·unfold Lib.compact Lib.compactUpTo at h;obtain⟨j,a,rfl⟩:=List.mem_map.1 h;have a:=List.mem_range.1 (List.mem_filter.1 a).1;rw [getElem!_pos _ j (by simpa using a)];simp
 ·obtain⟨j,a⟩:=z8 h;exact j4 j a
theorem BB {l:List OB} (h:l.Pairwise (·<=·)):(Lib.compact l).Pairwise (·<·):=by
 unfold Lib.compact Lib.compactUpTo;rw [List.pairwise_map,List.pairwise_filter];refine List.Pairwise.imp_of_mem ?_ List.pairwise_lt_range;intro i j p d o _ f;have d:=List.mem_range.1 d;have c:j=0\/l.toArray[j]! ≠l.toArray[j - 1]! :=by simpa [Lib.keeps]using f
 rcases c with c|c
 ·omega
 have g:∀a b,a<=b->b<l.length->l.toArray[a]! <=l.toArray[b]! :=by
  intro a b n m;rw [getElem!_pos _ a (by simp;omega),getElem!_pos _ b (by simpa using m)];rcases zk a b with k|k
  ·exact List.pairwise_iff_getElem.1 h a b (by omega) m k
  ·obtain rfl:a=b:=by omega
   exact List.le_refl _
 exact sT (g i (j - 1) (by omega) (by omega)) (NE (g (j - 1) j (by omega) d) fun e=>c e.symm)
theorem BC {l:List OB} (h:l.Pairwise (·<·)):Lib.compact l=l:=by
 refine Lib.compact_all l fun j b=> ?_;unfold Lib.keeps;rcases zi j with a|a
 ·simp [a]
 ·refine decide_eq_true (.inr fun e=> ?_);rw [getElem!_pos _ j (by simpa using b),getElem!_pos _ (j - 1) (by simp;omega)]at e;have:=List.pairwise_iff_getElem.1 h (j - 1) j (by omega) b (by omega);simp only [List.getElem_toArray]at e;rw [e]at this;exact ZO _ this
theorem KZ (l:List OB):(setB l).Pairwise (·<·):=BB (dL l)
theorem JA {l:List OB} {x:OB}:x∈setB l↔x∈l:=uM.trans D5
theorem K0 {l:List OB} (h:l.Pairwise (·<·)):setB l=l:=by
 unfold setB;rw [IC (h.imp EJ),BC h]
theorem iJ (l:List OB):(Lib.compact l).length<=l.length:=by
 unfold Lib.compact Lib.compactUpTo;rw [zK];exact zY (List.length_filter_le _ _) (by simp)
open Tryz
open Rep (rep)
open Go.RowKit
attribute [local go_sem ↓] zU zV
def zn (s:aB):OB:=s.data.toList
theorem QT {s t:aB} (h:zn s=zn t):s=t:=by
 cases s;cases t;simp [zn]at h;rw [h]
def Z0 (ts:List aB) (t:aB) (k:Nat):Prop:=k<=ts.length/\∀(i:Nat) (x:aB),ts[i]? =some x->(i<k↔zn x<zn t)
theorem Z0.get {ts:List aB} {t:aB} {k:Nat} (h:Z0 ts t k) (l:(ts.map zn).Pairwise (·<·)) (m:t∈ts):ts[k]? =some t:=by
 obtain⟨j,b⟩:=z8 m;have f:=h.2 j t b
 have i:k<=j:=by
  rcases zk j k with a|a
  ·exact absurd (f.1 a) (ZO _)
  ·exact a
 rcases zk k j with a|a
 ·have d:=zN b;have g:=(h.2 k ts[k] (zB (by omega)));have c:=List.pairwise_iff_getElem.1 l k j (by simp;omega) (by simpa using d) a;simp only [List.getElem_map]at c;have e:ts[j]=t:=(by rw [zB d]at b;exact yG b);rw [e]at c;exact absurd (g.2 c) (by omega)
 ·obtain rfl:k=j:=by omega
  exact b
theorem Vw (a b:aB):Op.bytesLess a.toList b.toList=decide (zn a<zn b):=by
 rw [bytesLess_eq,Lib.toList_data,Lib.toList_data];rfl
theorem LD (s:aB) (w:O):Calls prog 324 #[.string s] w fun e w' =>e= .returned (.bool false)/\w' =w:=by
 go_enter func324,ntmps324;go_wp2;go_ret
 exact⟨rfl,rfl⟩
theorem I5 (s:aB) (w:O):Calls prog 273 #[.string s] w fun e w' =>e= .returned (.bool false)/\w' =w:=by
 go_enter func273,ntmps273;go_wp2;go_ret
 exact⟨rfl,rfl⟩
theorem JG (s t:aB) (w:O):Calls prog 272 #[.string s,.string t] w fun e w' =>e= .returned (.bool (decide (zn s<zn t)))/\w' =w:=by
 have H:=LD;have a:=Vw s t;go_enter func272,ntmps272;go_wp2_with (refine(H _ _).mono ?_;rintro e b ⟨rfl,rfl⟩);go_ret
 exact⟨rfl,rfl⟩
theorem MH (A:aA) (n c:Nat) (ts:List aB) (t:aB) (w:O) (J:zL w (·<w.heap.size) A n c ts) (hn:n<=1000000000) (Y:(ts.map zn).Pairwise (·<·)):
 Calls prog 220 #[.slice A n c,.string t] w fun e w' =>∃(k:Nat) (b:Bool),e= .returned (.tuple #[.int .i64 (k:Int),.bool b])/\Z0 ts t k/\xG w w' :=by
 have hlen:=J.length;have S:=zA J;have Z:=zA Y;have Q:=zA JG;have R:=zA I5;have K :=hlen;have f:=zA hlen;clear J Y hlen;go_enter func220,ntmps220;go_wp2
 go_loopg [7,8] n (fun gk v7 v8 wr=>∃(i j:Nat),v7= .int .i64 i/\v8= .int .i64 j/\i<=j/\j<=n/\gk=j - i/\wr=w/\Hid (∀(q:Nat) (x:aB),ts[q]? =some x->(q<i->zn x<zn t)/\(j<=q->¬zn x<zn t)))
 case atStart=>exact⟨0,n,rfl,rfl,zJ _,zC _,rfl,rfl,fun q x p=>⟨fun h=>by omega,fun h=>by have:=zN p;rw [f.o]at this;omega⟩⟩
 case round=>
  obtain⟨i,j,rfl,rfl,hc,W,rfl,rfl,r⟩:=hrel
  by_cases hf:i<j
  ·obtain⟨s,hs⟩:=eX (i+j);obtain⟨h,hh⟩:=eX (s / 2);have h1:IntKind.i64.wrap (s:Int)=(s:Int):=(by rw [zT];omega);have E:((i:Int)+(j:Int))=(s:Int):=(by omega);have h3:IntKind.u64.wrap (s:Int)=(s:Int):=(by rw [zW];omega);have h4:(s:Int) / 2^1=(h:Int):=(by omega);have ha:(s:Int) / 2=(h:Int):=(by omega);have h5:IntKind.i64.wrap (h:Int)=(h:Int):=(by rw [zT];omega)
   have h6:IntKind.u64.wrap (h:Int)=(h:Int):=(by rw [zW];omega);have G:h<n:=(by omega);have hd:h<j:=(by omega);have H:i<=h:=(by omega);obtain⟨b,off,x,rfl,z,hb,u⟩:=S.o.at_ G
   have F:wr.cell? ⟨b,off+h,none⟩=some (.string x):=u.str.1
   have m:∀(q:Nat) (y:aB),ts[q]? =some y->(q<h->zn y<zn x)/\(h<q->zn x<zn y):=by
    intro q y d;have g:=List.pairwise_iff_getElem.1 Z.o;have M:=zN d;have N:=zN z.o;have T:ts[q]=y:=(by rw [zB M]at d;exact yG d);have U:ts[h]=x:=(by have p:=z.o;rw [zB N]at p;exact yG p);refine⟨fun C=> ?_,fun C=> ?_⟩
    ·have:=g q h (by simpa using M) (by simpa using N) C
     simpa [T,U]using this
    ·have:=g h q (by simpa using N) (by simpa using M) C
     simpa [T,U]using this
   have v:=zA m
   by_cases a:zn x<zn t
   ·have D :decide (zn x<zn t)=true:=decide_eq_true a
    have l:Hid (∀(q:Nat) (y:aB),ts[q]? =some y->(q<h+1->zn y<zn t)/\(j<=q->¬zn y<zn t)):=by
     intro q y d;refine⟨fun C=> ?_,(r.o q y d).2⟩;rcases zk q h with B|B
     ·exact List.lt_trans ((v.o q y d).1 B) a
     ·obtain rfl:q=h:=by omega
      rw [z.o]at d;cases d;exact a
    clear m r u a;go_wp2_with (refine(Q.o _ _ _).mono ?_;rintro e P ⟨rfl,rfl⟩)
    go_roundg (j - (h+1))
    ·exact⟨h+1,j,by go_num,rfl,by omega,W,rfl,rfl,l⟩
    ·omega
   ·have D :decide (zn x<zn t)=false:=decide_eq_false a
    have l:Hid (∀(q:Nat) (y:aB),ts[q]? =some y->(q<i->zn y<zn t)/\(h<=q->¬zn y<zn t)):=by
     intro q y d;refine⟨(r.o q y d).1,fun C=> ?_⟩;rcases zk h q with B|B
     ·intro h8;exact a (List.lt_trans ((v.o q y d).2 B) h8)
     ·obtain rfl:q=h:=by omega
      rw [z.o]at d;cases d;exact a
    clear m r u a;go_wp2_with (refine(Q.o _ _ _).mono ?_;rintro e P ⟨rfl,rfl⟩)
    go_roundg (h - i)
    ·exact⟨i,h,rfl,rfl,H,by omega,rfl,rfl,l⟩
    ·omega
  ·obtain rfl:i=j:=by omega
   have o:Hid (Z0 ts t i):=⟨by rw [f.o];exact W,fun q x p=>⟨fun h=>((r.o q x p).1 h),fun h=>by
    rcases zk q i with E|E
    ·exact E
    ·exact absurd h ((r.o q x p).2 E)⟩⟩
   by_cases I:i<n
   ·obtain⟨b,off,x,rfl,z,hb,u⟩:=S.o.at_ I
    have F:wr.cell? ⟨b,off+i,none⟩=some (.string x):=u.str.1;clear u
    by_cases a:x=t
    ·subst a;go_wp2_with (refine(R.o _ _).mono ?_;rintro e P ⟨rfl,rfl⟩);go_ret2;exact⟨i,true,rfl,o.o,⟨0,rfl⟩⟩
    ·have L:¬x.toList=t.toList:=fun e=>a (QT (by rw [Lib.toList_data,Lib.toList_data]at e;exact e));have X:(x.toList==t.toList)=false:=(by simpa using L);go_wp2_with (refine(R.o _ _).mono ?_;rintro e P ⟨rfl,rfl⟩);go_ret2;exact⟨i,_,rfl,o.o,⟨0,rfl⟩⟩
   ·go_wp2;go_ret2;exact⟨i,false,rfl,o.o,⟨0,rfl⟩⟩
def WC (k:OB):aB:=⟨k.toArray⟩
theorem Wp (l:List OB):(l.map WC).map zn=l:=by rw [yD];exact List.map_id' l
theorem kP (l:List aB):(l.map zn).map WC=l:=by rw [yD];exact List.map_id' l
def xq (l:List aB):List aB:=(X0 (l.map zn)).map WC
def bP (l:List aB):List aB:=(Lib.compact (l.map zn)).map WC
def setT (l:List aB):List aB:=(setB (l.map zn)).map WC
theorem Wt (l:List aB):bP (xq l)=setT l:=by unfold bP xq setT setB;rw [Wp]
theorem UY (l:List aB):(xq l).length=l.length:=by unfold xq;rw [zK,kU,zK]
theorem FO (l:List aB):(bP l).length<=l.length:=by unfold bP;rw [zK];have:=iJ (l.map zn);rwa [zK]at this
theorem Vh (l:List aB):(setT l).length<=l.length:=by rw [<-Wt];have:=FO (xq l);rwa [UY]at this
theorem dT {l:List aB} {s:aB}:zn s∈l.map zn↔s∈l:=
 ⟨fun h=>by obtain⟨t,a,e⟩:=List.mem_map.1 h;rw [<-QT e];exact a,fun h=>List.mem_map.2 ⟨s,h,rfl⟩⟩
theorem I9 {l:List OB} {s:aB}:s∈l.map WC↔zn s∈l:=
 ⟨fun h=>by obtain⟨t,a,rfl⟩:=List.mem_map.1 h;exact a,fun h=>List.mem_map.2 ⟨zn s,h,rfl⟩⟩
theorem X9 {l:List aB} {s:aB}:s∈setT l↔s∈l:=by unfold setT;rw [I9,JA,dT]
theorem oP (l:List aB):((setT l).map zn).Pairwise (·<·):=by unfold setT;rw [Wp];exact KZ _
theorem C9 (l:List aB):setT (setT l)=setT l:=by
 show(setB ((setT l).map zn)).map WC=_;rw [K0 (oP l),kP]
def WH (rows:List (List aB)):List (List aB):=rows.map setT
def WD (ls:List (List aB)):List aB:=setT ls.flatten
def idxT (ts:List aB) (t:aB):Nat:=(ts.map zn).idxOf (zn t)
def xc (ts:List aB) (l:List aB):aD:=l.map fun t=>((idxT ts t:Nat):Int)
def X6 (ls:List (List aB)):List aD:=ls.map (xc (WD ls))
def XY (s:aB):aC:=zP s.size++s.data.toList
def Z5 (rows:List (List aB)):aC:=zP (WD (WH rows)).length++((WD (WH rows)).flatMap XY ++colL (X6 (WH rows)))
theorem wJ (rows:List (List aB)):WH (WH rows)=WH rows:=by
 unfold WH;rw [yD];exact List.map_congr_left fun l _=>C9 l
theorem tS (rows:List (List aB)):Z5 (WH rows)=Z5 rows:=by unfold Z5;rw [wJ]
theorem VV {ls:List (List aB)} {l:List aB} {t:aB} (a:l∈ls) (b:t∈l):t∈WD ls:=X9.2 (List.mem_flatten.2 ⟨l,a,b⟩)
theorem cP {ts:List aB} {t:aB} (h:t∈ts):idxT ts t<ts.length:=by
 have:=List.idxOf_lt_length_of_mem (dT.2 h)
 rwa [zK]at this
theorem pA {ts:List aB} {t:aB} (h:t∈ts):ts[idxT ts t]? =some t:=by
 have b:=List.idxOf_lt_length_of_mem (dT.2 h);have a:=List.getElem_idxOf b;rw [List.getElem_map]at a;rw [zB (cP h)];exact congrArg some (QT a)
theorem NF {ts:List aB} {t:aB} {k:Nat} (e:(ts.map zn).Pairwise (·<·)) (h:ts[k]? =some t):idxT ts t=k:=by
 have f:=zD h;have a:=cP f;have b:=zN h;have c:ts[idxT ts t]=t:=by have:=pA f;rw [zB a]at this;exact yG this
 have d:ts[k]=t:=by rw [zB b]at h;exact yG h
 rcases Nat.lt_trichotomy (idxT ts t) k with g|g|g
 ·have:=List.pairwise_iff_getElem.1 e _ _ (by simpa using a) (by simpa using b) g;simp only [List.getElem_map,c,d]at this;exact absurd this (ZO _)
 ·exact g
 ·have:=List.pairwise_iff_getElem.1 e _ _ (by simpa using b) (by simpa using a) g;simp only [List.getElem_map,c,d]at this;exact absurd this (ZO _)
theorem oV {ls:List (List aB)} {r:aD} (h:r∈X6 ls):∀x∈r,0<=x/\x<(WD ls).length:=by
 obtain⟨l,a,rfl⟩:=List.mem_map.1 h;intro x c;obtain⟨t,b,rfl⟩:=List.mem_map.1 c;have:=cP (VV a b);omega
theorem vS (ls:List (List aB)):(WD ls).length<=ls.flatten.length:=Vh _
theorem Wq {α:Type} {B:Nat}:∀{ls:List (List α)},(∀l∈ls,l.length<=B)->ls.flatten.length<=B*ls.length
 | [],_=>by simp
 |l::ls,h=>by
  have b:=h l (by simp);have c:=Wq (B:=B) (ls:=ls) fun l a=>h l (by simp [a]);simp only [yM,zG,z6,Nat.mul_add];omega
end Go.Proofs.YtjbhbfaeielbiaaGreatDoor

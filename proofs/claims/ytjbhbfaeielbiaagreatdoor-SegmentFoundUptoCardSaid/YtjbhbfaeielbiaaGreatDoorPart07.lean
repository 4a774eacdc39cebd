import Derived.BigQuiet
import Derived.Test.YtjbhbfaeielbiaaGreatDoorShelf
import Derived.Test.YtjbhbfaeielbiaaGreatDoorPart02
set_option maxRecDepth 100000
set_option maxHeartbeats 8000000
set_option linter.unusedVariables false
set_option linter.unusedSimpArgs false
namespace Go.Proofs.YtjbhbfaeielbiaaGreatDoor
open Rep (rep)
open Go.RowKit
theorem yl {a b:Bool} (h:a=b):Ending.returned (.bool a)=Ending.returned (.bool b):=by rw [h]
theorem eU {k:IntKind} {a b:Int} (h:a=b):Ending.returned (.int k a)=Ending.returned (.int k b):=by rw [h]
theorem xA.int_at {w:O} {B:Nat} {A:aA} {n k:Nat} {xs:aD} (h:xA w B 1 A n (ints xs)) (e:k<n):
 ∃b x,A=some b/\w.cell? (b.add k)=some (.int .i64 x)/\Hid (xs[k]? =some x):=by
 obtain⟨b,u,hA,_,c,d⟩:=h.at_ e
 have f:xs.length=n:=by have:=h.1;rw [Xd]at this;omega
 have a :k<xs.length:=by omega
 rw [dZ a]at c;cases c;exact⟨b,xs[k],hA,d,zB a⟩
theorem xA.ints_length {w:O} {B:Nat} {A:aA} {n:Nat} {xs:aD} (h:xA w B 1 A n (ints xs)):xs.length=n:=by
 have:=h.1;rw [Xd]at this;omega
def W8 (xs a:aD) (k:Nat):Prop:=xs.take k=a.take k
def xG (w wr:O):Prop:=∃j,wr=w.drewN j
theorem xG.refl (w:O):xG w w:=⟨0,rfl⟩
theorem xG.more {w wr:O} (h:xG w wr) (j:Nat):xG w (wr.drewN j):=by
 obtain⟨i,rfl⟩:=h;exact⟨i+j,by rw [World.drewN_drewN]⟩
theorem W8.step {xs c:aD} {k:Nat} {x:Int} (h:W8 xs c k) (a:Hid (xs[k]? =some x)) (b:Hid (c[k]? =some x)):W8 xs c (k+1):=by
 have a:=a.o;have b:=b.o;unfold W8 at*;rw [zI,zI,h,a,b]
theorem W8.all {xs a:aD} {n:Nat} (h:W8 xs a n) (b:xs.length=n) (c:a.length=n):xs=a:=by
 unfold W8 at h
 rwa [zF (by omega),zF (by omega)]at h
open Tryz
def shN:aC->aC->Nat
 |a::x,b::y=>if a=b then shN x y+1 else 0
 |_,_=>0
theorem IG {a b:aC} {i:Nat} {x y:UInt8} (c:a[i]? =some x) (d:b[i]? =some y):shN (a.drop i) (b.drop i)=if x=y then shN (a.drop (i+1)) (b.drop (i+1))+1 else 0:=by
 obtain⟨e,rfl⟩:=List.getElem?_eq_some_iff.1 c;obtain⟨f,rfl⟩:=List.getElem?_eq_some_iff.1 d;rw [za e,za f];rfl
theorem oN {a b:aC} {i:Nat} (h:a.length<=i\/b.length<=i):shN (a.drop i) (b.drop i)=0:=by
 rcases h with h|h
 ·rw [zQ h];rfl
 ·rw [zQ h];cases a.drop i<;>rfl
theorem kT {s:aB} {k:Nat} {x:UInt8} (h:s.data.toList[k]? =some x) (w:O):(Instr.index 9 (.string s) (.int .i64 (k:Int))).run prog w= .ok (.int .u8 (x.toNat:Int)) w:=by
 obtain⟨a,e⟩:=List.getElem?_eq_some_iff.1 h;have c:k<s.size:=by simpa using a
 have b:s[k]? =some x:=by
  rw [getElem?_pos s k c]
  congr 1
 have d:(underlying 9).run prog w= .ok .string w:=by
  have:=underlying9;simp [underlying,this]
 simp [Instr.index,asIntOf,d,b]
theorem iY (a b:aB) (w:O) (E:a.size<=1000000000) (F:b.size<=1000000000):
 Calls prog 252 #[.string a,.string b] w fun e w' =>e= .returned (.int .i64 (shN a.data.toList b.data.toList:Nat))/\xG w w' :=by
 obtain⟨n,u⟩:=eX (a.size);obtain⟨m,s⟩:=eX (b.size);have v:a.data.toList.length=n:=by rw [<-u];simp
 have lb:b.data.toList.length=m:=by rw [<-s];simp
 obtain⟨t,l⟩:=eX (shN a.data.toList b.data.toList);have z:=zA l;have q:=zA v;have r:=zA lb;rw [l];rw [u]at E;rw [s]at F;clear l v lb;go_enter func252,ntmps252;go_wp2
 go_loopw [5] (fun i wr=>∃k:Nat,k<=n/\k<=m/\i= .int .i64 k/\Hid (t=k+shN (a.data.toList.drop k) (b.data.toList.drop k))/\xG w wr) (fun i _=>n - (intOf i).toNat)
 case atStart=>exact⟨0,zJ _,zJ _,rfl,by show t=_;rw [<-z.o];simp,0,rfl⟩
 case round=>
  obtain⟨k,J,H,rfl,g,G⟩:=hrel;obtain⟨j,rfl⟩:=G
  by_cases C:k<n
  ·have A:decide ((k:Int)<(n:Int))=true:=by simp;omega
   by_cases D:k<m
   ·have B:decide ((k:Int)<(m:Int))=true:=(by simp;omega);obtain⟨x,o⟩:∃x,a.data.toList[k]? =some x:=⟨_,zB (by rw [q.o];exact C)⟩;obtain⟨y,p⟩:∃y,b.data.toList[k]? =some y:=⟨_,zB (by rw [r.o];exact D)⟩;have c:=IG o p;have K:=kT o;have L:=kT p;clear o p
    by_cases f:x=y
    ·subst f;rw [if_pos rfl]at c;have d:=zA c;clear c;go_wp2
     go_quiet (fail)
     go_wp2
     go_roundw
     case rel=>exact⟨k+1,by omega,by omega,by go_num,by show t=_;rw [g.o,d.o];omega,⟨_,rfl⟩⟩
     case measure=>simp [intOf];omega
    ·have I:((x.toNat:Int)==(y.toNat:Int))=false:=by
      simp only [beq_eq_false_iff_ne,ne_eq];intro h;exact f (UInt8.toNat_inj.1 (by omega))
     rw [if_neg f]at c;have d:=zA c;clear c;go_wp2
     go_quiet (fail)
     go_wp2;go_ret
     exact⟨by rw [g.o,d.o];rfl,xG.more ⟨j,rfl⟩ _⟩
   ·have B:decide ((k:Int)<(m:Int))=false:=(by simp;omega);have c:=oN (a:=a.data.toList) (b:=b.data.toList) (i:=k) (.inr (by rw [r.o];omega));have d:=zA c;clear c;go_wp2
    go_quiet (fail)
    go_wp2;go_ret
    exact⟨by rw [g.o,d.o];rfl,xG.more ⟨j,rfl⟩ _⟩
  ·have A:decide ((k:Int)<(n:Int))=false:=(by simp;omega);have c:=oN (a:=a.data.toList) (b:=b.data.toList) (i:=k) (.inl (by rw [q.o];omega));have d:=zA c;clear c;go_wp2
   go_quiet (fail)
   go_wp2;go_ret
   exact⟨by rw [g.o,d.o];rfl,xG.more ⟨j,rfl⟩ _⟩
open Go.RowKit Go.Shelf
theorem qR:(Tryz.prog.info? 365).map (·.size)=some 2:=by kernel_rfl
theorem rD (b:Nat) (w:O) (c:w.cell? ⟨b,0,none⟩=some (.pointer (some ⟨b,0,none⟩))):
 Calls prog 282 #[.pointer (some ⟨b,0,none⟩)] w fun e w' =>e= .returned (.tuple #[])/\w=w' :=by
 obtain⟨j,a,_⟩:=Option.map_eq_some_iff.1 qR;go_enter func282,ntmps282;go_wp2;rw [Lib.run_neq_ptr_same w _ underlying363 a];go_wp2
 go_end0
 exact⟨rfl,rfl⟩
theorem q8 (b:Nat) (w:O) (g:w.cell? ⟨b,0,none⟩=some (.pointer none)) (a:w.shape? b=some (365,2)) (f:w.frozen? ⟨b,0,none⟩=false):
 Calls prog 282 #[.pointer (some ⟨b,0,none⟩)] w fun e w' =>e= .returned (.tuple #[])/\w' =w.setCell ⟨b,0,none⟩ (.pointer (some ⟨b,0,none⟩)):=by
 obtain⟨j,d,c⟩:=Option.map_eq_some_iff.1 qR;go_enter func282,ntmps282;go_wp2;rw [Lib.run_to_unsafe w ⟨b,0,none⟩ underlying363 underlying444 d (by rw [c];decide) a (Nat.zero_lt_succ 1)];simp only [Result.andThen];rw [Oper.upon_value];go_wp2;rw [run_callFunc_extern func335 (by kernel_rfl) (by kernel_rfl) (by kernel_rfl) (e:=Extern.AbiNoEscape.same) (by kernel_rfl)];rw [Lib.run_noEscape]
 simp only [Result.andThen];rw [Oper.upon_value];go_wp2;rw [Lib.run_from_unsafe w ⟨b,0,none⟩ underlying444 underlying363 d a Tryz.Builder_Extra_169.liesBuilder];simp only [Result.andThen];rw [Oper.upon_value];go_wp2
 go_end0
 exact⟨rfl,rfl⟩
theorem VK (B b:Nat) (bs:aF) (w:O) (h:Lib.IsBuilder 365 5 B b bs w):
 Calls prog 282 #[.pointer (some ⟨b,0,none⟩)] w fun e w' =>e= .returned (.tuple #[])/\(Lib.BuilderAt 365 5 B b (.pointer (some ⟨b,0,none⟩)) bs w' /\Below B w w' /\Lib.OthersKept 5 (some b) w w'):=by
 rcases h with h|h
 ·refine(q8 b w h.cell0 h.shape h.frozen0).mono ?_;rintro e w' ⟨rfl,rfl⟩;exact⟨rfl,h.used _,(zE B w).setCell (p:=⟨b,0,none⟩) h.1 _,(Lib.OthersKept.refl _ _ w).setCell ⟨b,0,none⟩ rfl _⟩
 ·refine(rD b w h.cell0).mono ?_;rintro e w' ⟨rfl,rfl⟩;exact⟨rfl,h,zE B _,Lib.OthersKept.refl _ _ _⟩
theorem Qu (B b:Nat) (bs:aF) (s:aB) (w:O) (h:Lib.IsBuilder 365 5 B b bs w) (hlen:bs.length+s.size<=140737488355328) (C:B<=w.heap.size):
 Calls prog 233 #[.pointer (some ⟨b,0,none⟩),.string s] w fun e w' =>e= .returned (.tuple #[.int .i64 s.size,.nilIface])/\(Lib.BuilderAt 365 5 B b (.pointer (some ⟨b,0,none⟩)) (bs++Lib.strCells s) w' /\Below B w w' /\Lib.OthersKept 5 (some b) w w'):=by
 obtain⟨F,D,u,x,y⟩:=info_parts Tryz.Builder_Extra_169.infoByte;go_enter func233,ntmps233;go_wp2_with (go_at_call 282;refine(VK B b bs _ h).mono ?_);rintro e l ⟨rfl,A,j,o⟩;obtain⟨hB,v,i,c,r⟩:=A;have G:l.cell? ⟨b,0,none⟩=some (.pointer (some ⟨b,0,none⟩)):=by rw [Lib.cell_of_heap i];rfl
 have H:l.cell? ⟨b,1,none⟩=some v:=by rw [Lib.cell_of_heap i];rfl
 go_wp2_with (at_builtin;refine Lib.wpList_append_own_string _ rfl _ _ 65 9 rfl B 5 F underlying65 underlying9 D u x y _ _ _ rfl c s rfl ?c3 ?c4 ?c5 ?_)
 case c3=>unfold maxLen;omega
 case c4=>omega
 case c5=>have:=j.size;omega
 intro v' m d a _
 have q:b<l.heap.size:=by
  rcases zk b l.heap.size with n |n
  ·exact n
  ·simp [x9 n]at i
 have f:m.heap[b]? =some (.cells #[.pointer (some ⟨b,0,none⟩),v] 365 (0,0)):=by
  rw [a.block b q (fun e=>r e.symm)];exact i
 have I:m.cell? ⟨b,0,none⟩=some (.pointer (some ⟨b,0,none⟩)):=by rw [Lib.cell_of_heap f];rfl
 have J:m.cell? ⟨b,1,none⟩=some v:=by rw [Lib.cell_of_heap f];rfl
 have K:m.frozen? ⟨b,1,none⟩=false:=Lib.frozen_of_heap f 1
 obtain⟨z,n',cap,rfl⟩:∃z n' cap,v' = .slice z n' cap:=by
  rcases d.2 with⟨t,_⟩|⟨g,cap,cur,t,_⟩
  ·exact⟨_,_,_,t⟩
  ·exact⟨_,_,_,t⟩
 go_wp2;go_ret2;refine⟨rfl,?_,?_,(o.grown a (Lib.ownsRowF_kind (World.ownsRowF_of c))).setCell ⟨b,1,none⟩ rfl _⟩
 ·exact Lib.BuilderAt.put (T:=365) (e:=5) hB f (bs' :=bs++Lib.strCells s) (by simpa [Lib.strCells_length]using d) (by decide)
 ·exact(j.grown a (by have:=j.size;omega) (fun k E=>(c.lt k E).1)).setCell (p:=⟨b,1,none⟩) hB _
theorem rG (B b:Nat) (bs:aF) (r:Int) (A: -2147483648<=r) (C:r<=2147483647) (w:O) (h:Lib.IsBuilder 365 5 B b bs w) (hlen:bs.length+4<=140737488355328) (F:B<=w.heap.size):
 Calls prog 343 #[.pointer (some ⟨b,0,none⟩),.int .i32 r] w fun e w' =>e= .returned (.tuple #[.int .i64 (Lib.runeCells r).length,.nilIface])/\(Lib.BuilderAt 365 5 B b (.pointer (some ⟨b,0,none⟩)) (bs++Lib.runeCells r) w' /\Below B w w' /\Lib.OthersKept 5 (some b) w w'):=by
 have H:=Lib.runeCells_le r;go_enter func343,ntmps343;go_wp2_with (go_at_call 282;refine(VK B b bs _ h).mono ?_);rintro e q ⟨rfl,E,i,x⟩;obtain⟨hB,v,l,d,z⟩:=E
 obtain⟨n,cap,rfl⟩:∃n cap,v= .slice n bs.length cap:=by
  rcases d.2 with⟨s,D⟩|⟨g,cap,cur,s,_⟩
  ·exact⟨none,0,by rw [s,D]⟩
  ·exact⟨_,_,s⟩
 have I:q.cell? ⟨b,0,none⟩=some (.pointer (some ⟨b,0,none⟩)):=by rw [Lib.cell_of_heap l];rfl
 have J:q.cell? ⟨b,1,none⟩=some (.slice n bs.length cap):=by rw [Lib.cell_of_heap l];rfl
 go_wp2_with (go_at_call 370;refine(Tryz.utf8_AppendRune_plain B _ bs.length bs r A C _ d hlen (by have:=i.size;omega)).mono ?_);rintro e t ⟨v',rfl,f,o,a⟩
 have y:b<q.heap.size:=by
  rcases zk b q.heap.size with u |u
  ·exact u
  ·simp [x9 u]at l
 have j:t.heap[b]? =some (.cells #[.pointer (some ⟨b,0,none⟩),.slice n bs.length cap] 365 (0,0)):=by
  rw [a.block b (by simp;omega) (fun e=>z e.symm),Lib.alloc_old q _ b y];exact l
 have K:t.cell? ⟨b,0,none⟩=some (.pointer (some ⟨b,0,none⟩)):=by rw [Lib.cell_of_heap j];rfl
 have L:t.cell? ⟨b,1,none⟩=some (.slice n bs.length cap):=by rw [Lib.cell_of_heap j];rfl
 have M:t.frozen? ⟨b,1,none⟩=false:=Lib.frozen_of_heap j 1
 obtain⟨g,c,rfl⟩:∃g c,v' = .slice (some ⟨g,0,none⟩) (bs.length+(Lib.runeCells r).length) c :=by
  rcases f.2 with⟨_,D⟩|⟨g,c,cur,s,_⟩
  ·omega
  ·exact⟨g,c,s⟩
 have m:(q.alloc o).ownsRow B 5 1 (.slice n bs.length cap) bs.length bs:=d.alloc _;go_wp2;go_ret2;refine⟨?_,?_,?_,((x.alloc _).grown a (Lib.ownsRowF_kind (World.ownsRowF_of m))).setCell ⟨b,1,none⟩ rfl _⟩
 ·have e:((bs.length:Int)+((Lib.runeCells r).length:Int) - (bs.length:Int))=((Lib.runeCells r).length:Int):=(by omega);simp [e]
 ·exact Lib.BuilderAt.put (T:=365) (e:=5) hB j (bs' :=bs++Lib.runeCells r) (by simpa using f) (by decide)
 ·exact((i.alloc (by have:=i.size;omega) o).grown a (by have:=i.size;simp;omega) (fun k G=>(d.lt k G).1)).setCell (p:=⟨b,1,none⟩) hB _
theorem H6 (s:aB) (a:aN s=true) (w:O):Calls prog 290 #[.string s] w fun e w' =>e= .returned (.bool true)/\w=w' :=by
 rcases vW s a with rfl|rfl|rfl|rfl|rfl|rfl|rfl|rfl|rfl|rfl|rfl|rfl|rfl|rfl|rfl|rfl|rfl|rfl|rfl|rfl|rfl|rfl|rfl|rfl|rfl|rfl|rfl|rfl|rfl|rfl|rfl|rfl|rfl
 all_goals
  clear a;go_enter func290,ntmps290;go_wp2;go_ret
  exact⟨rfl,rfl⟩
theorem sN {s:aB} (a:aN s=false) (l:aC) (b:gA.contains l=true):(s.toList==l)=false:=by
 rw [beq_eq_false_iff_ne,ByteArray.toList_eq];intro e;rw [aN,e,b]at a;cases a
theorem KW (s:aB) (a:aN s=false) (w:O):Calls prog 290 #[.string s] w fun e w' =>e= .returned (.bool false)/\w=w' :=by
 have B:=sN a [97] rfl;have C:=sN a [97,110] rfl;have D:=sN a [97,110,100] rfl;have E:=sN a [97,114,101] rfl;have F:=sN a [97,115] rfl;have G:=sN a [97,116] rfl;have H:=sN a [98,101] rfl;have I:=sN a [98,117,116] rfl;have J:=sN a [98,121] rfl;have K:=sN a [102,111,114] rfl;have b:=sN a [105,102] rfl;have c:=sN a [105,110] rfl;have d:=sN a [105,110,116,111] rfl
 have f:=sN a [105,115] rfl;have g:=sN a [105,116] rfl;have h:=sN a [110,111] rfl;have i:=sN a [110,111,116] rfl;have j:=sN a [111,102] rfl;have k:=sN a [111,110] rfl;have l:=sN a [111,114] rfl;have m:=sN a [115,117,99,104] rfl;have n:=sN a [116,104,97,116] rfl;have o:=sN a [116,104,101] rfl;have p:=sN a [116,104,101,105,114] rfl
 have q:=sN a [116,104,101,110] rfl;have r:=sN a [116,104,101,114,101] rfl;have t:=sN a [116,104,101,115,101] rfl;have u:=sN a [116,104,101,121] rfl;have v:=sN a [116,104,105,115] rfl;have x:=sN a [116,111] rfl;have y:=sN a [119,97,115] rfl;have z:=sN a [119,105,108,108] rfl;have A:=sN a [119,105,116,104] rfl;clear a;go_enter func290,ntmps290;go_wp2;go_ret
 exact⟨rfl,rfl⟩
end Go.Proofs.YtjbhbfaeielbiaaGreatDoor

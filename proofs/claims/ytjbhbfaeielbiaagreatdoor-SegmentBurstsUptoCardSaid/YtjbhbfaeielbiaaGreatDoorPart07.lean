import Derived.Test.YtjbhbfaeielbiaaGreatDoorShelf
import Derived.Test.YtjbhbfaeielbiaaGreatDoorPart02
set_option maxRecDepth 100000
set_option maxHeartbeats 8000000
set_option linter.unusedVariables false
set_option linter.unusedSimpArgs false
namespace Go.Proofs.YtjbhbfaeielbiaaGreatDoor
open Rep (rep)
open Go.RowKit
theorem yl {a b:Bool} (h:a=b):Ending.returned (.bool a)=Ending.returned (.bool b):=by rw [h]
theorem eU {k:IntKind} {a b:Int} (h:a=b):Ending.returned (.int k a)=Ending.returned (.int k b):=by rw [h]
theorem xA.int_at {w:O} {B:Nat} {A:aA} {n k:Nat} {xs:aD} (h:xA w B 1 A n (ints xs)) (hk:k<n):
 ∃ad x,A=some ad/\w.cell? (ad.add k)=some (.int .i64 x)/\Hid (xs[k]? =some x):=by
 obtain⟨ad,u,hA,_,hu,hc⟩:=h.at_ hk
 have hl:xs.length=n:=by have:=h.1;rw [Xd]at this;omega
 have hk' :k<xs.length:=by omega
 rw [dZ hk']at hu;cases hu;exact⟨ad,xs[k],hA,hc,zB hk'⟩
theorem xA.ints_length {w:O} {B:Nat} {A:aA} {n:Nat} {xs:aD} (h:xA w B 1 A n (ints xs)):xs.length=n:=by
 have:=h.1;rw [Xd]at this;omega
def W8 (xs ys:aD) (k:Nat):Prop:=xs.take k=ys.take k
def xG (w wr:O):Prop:=∃j,wr=w.drewN j
theorem xG.refl (w:O):xG w w:=⟨0,rfl⟩
theorem xG.more {w wr:O} (h:xG w wr) (j:Nat):xG w (wr.drewN j):=by
 obtain⟨i,rfl⟩:=h;exact⟨i+j,by rw [World.drewN_drewN]⟩
theorem W8.step {xs ys:aD} {k:Nat} {x:Int} (h:W8 xs ys k) (hx:Hid (xs[k]? =some x)) (hy:Hid (ys[k]? =some x)):W8 xs ys (k+1):=by
 have hx:=hx.out;have hy:=hy.out;unfold W8 at*;rw [zI,zI,h,hx,hy]
theorem W8.all {xs ys:aD} {n:Nat} (h:W8 xs ys n) (hx:xs.length=n) (hy:ys.length=n):xs=ys:=by
 unfold W8 at h
 rwa [zF (by omega),zF (by omega)]at h
open Tryz
def shN:aC->aC->Nat
 |a::x,b::y=>if a=b then shN x y+1 else 0
 |_,_=>0
theorem IG {a b:aC} {i:Nat} {x y:UInt8} (h1:a[i]? =some x) (h2:b[i]? =some y):shN (a.drop i) (b.drop i)=if x=y then shN (a.drop (i+1)) (b.drop (i+1))+1 else 0:=by
 obtain⟨h3,rfl⟩:=List.getElem?_eq_some_iff.1 h1;obtain⟨h4,rfl⟩:=List.getElem?_eq_some_iff.1 h2;rw [za h3,za h4];rfl
theorem oN {a b:aC} {i:Nat} (h:a.length<=i\/b.length<=i):shN (a.drop i) (b.drop i)=0:=by
 rcases h with h|h
 ·rw [zQ h];rfl
 ·rw [zQ h];cases a.drop i<;>rfl
theorem kT {s:aB} {k:Nat} {x:UInt8} (h:s.data.toList[k]? =some x) (w:O):(Instr.index 9 (.string s) (.int .i64 (k:Int))).run prog w= .ok (.int .u8 (x.toNat:Int)) w:=by
 obtain⟨h1,h2⟩:=List.getElem?_eq_some_iff.1 h;have hs:k<s.size:=by simpa using h1
 have h3:s[k]? =some x:=by
  rw [getElem?_pos s k hs]
  congr 1
 have hu:(underlying 9).run prog w= .ok .string w:=by
  have:=underlying9;simp [underlying,this]
 simp [Instr.index,asIntOf,hu,h3]
theorem iY (a b:aB) (w:O) (ha:a.size<=1000000000) (hb:b.size<=1000000000):
 Calls prog 252 #[.string a,.string b] w fun e w' =>e= .returned (.int .i64 (shN a.data.toList b.data.toList:Nat))/\xG w w' :=by
 obtain⟨n,hn⟩:=eX (a.size);obtain⟨m,hm⟩:=eX (b.size);have la:a.data.toList.length=n:=by rw [<-hn];simp
 have lb:b.data.toList.length=m:=by rw [<-hm];simp
 obtain⟨t,ht⟩:=eX (shN a.data.toList b.data.toList);have Ht:=zA ht;have La:=zA la;have Lb:=zA lb;rw [ht];rw [hn]at ha;rw [hm]at hb;clear ht la lb;go_enter func252,ntmps252;go_wp2
 go_loopw [5] (fun i wr=>∃k:Nat,k<=n/\k<=m/\i= .int .i64 k/\Hid (t=k+shN (a.data.toList.drop k) (b.data.toList.drop k))/\xG w wr) (fun i _=>n - (intOf i).toNat)
 case atStart=>exact⟨0,zJ _,zJ _,rfl,by show t=_;rw [<-Ht.out];simp,0,rfl⟩
 case round=>
  obtain⟨k,hk,hk2,rfl,Hs,hd⟩:=hrel;obtain⟨j,rfl⟩:=hd
  by_cases h1:k<n
  ·have d1:decide ((k:Int)<(n:Int))=true:=by simp;omega
   by_cases h2:k<m
   ·have d2:decide ((k:Int)<(m:Int))=true:=(by simp;omega);obtain⟨x,hx⟩:∃x,a.data.toList[k]? =some x:=⟨_,zB (by rw [La.out];exact h1)⟩;obtain⟨y,hy⟩:∃y,b.data.toList[k]? =some y:=⟨_,zB (by rw [Lb.out];exact h2)⟩;have hst:=IG hx hy;have ix:=kT hx;have iy:=kT hy;clear hx hy
    by_cases hxy:x=y
    ·subst hxy;rw [if_pos rfl]at hst;have Hst:=zA hst;clear hst;go_wp2
     go_quiet (fail)
     go_wp2
     go_roundw
     case rel=>exact⟨k+1,by omega,by omega,by go_num,by show t=_;rw [Hs.out,Hst.out];omega,⟨_,rfl⟩⟩
     case measure=>simp [intOf];omega
    ·have hne:((x.toNat:Int)==(y.toNat:Int))=false:=by
      simp only [beq_eq_false_iff_ne,ne_eq];intro h;exact hxy (UInt8.toNat_inj.1 (by omega))
     rw [if_neg hxy]at hst;have Hst:=zA hst;clear hst;go_wp2
     go_quiet (fail)
     go_wp2;go_ret
     exact⟨by rw [Hs.out,Hst.out];rfl,xG.more ⟨j,rfl⟩ _⟩
   ·have d2:decide ((k:Int)<(m:Int))=false:=(by simp;omega);have hst:=oN (a:=a.data.toList) (b:=b.data.toList) (i:=k) (.inr (by rw [Lb.out];omega));have Hst:=zA hst;clear hst;go_wp2
    go_quiet (fail)
    go_wp2;go_ret
    exact⟨by rw [Hs.out,Hst.out];rfl,xG.more ⟨j,rfl⟩ _⟩
  ·have d1:decide ((k:Int)<(n:Int))=false:=(by simp;omega);have hst:=oN (a:=a.data.toList) (b:=b.data.toList) (i:=k) (.inl (by rw [La.out];omega));have Hst:=zA hst;clear hst;go_wp2
   go_quiet (fail)
   go_wp2;go_ret
   exact⟨by rw [Hs.out,Hst.out];rfl,xG.more ⟨j,rfl⟩ _⟩
open Go.RowKit Go.Shelf
theorem qR:(Tryz.prog.info? 365).map (·.size)=some 2:=by kernel_rfl
theorem rD (b:Nat) (w:O) (h0:w.cell? ⟨b,0,none⟩=some (.pointer (some ⟨b,0,none⟩))):
 Calls prog 282 #[.pointer (some ⟨b,0,none⟩)] w fun e w' =>e= .returned (.tuple #[])/\w=w' :=by
 obtain⟨j,hj,_⟩:=Option.map_eq_some_iff.1 qR;go_enter func282,ntmps282;go_wp2;rw [Lib.run_neq_ptr_same w _ underlying363 hj];go_wp2
 go_end0
 exact⟨rfl,rfl⟩
theorem q8 (b:Nat) (w:O) (h0:w.cell? ⟨b,0,none⟩=some (.pointer none)) (hsh:w.shape? b=some (365,2)) (hfz:w.frozen? ⟨b,0,none⟩=false):
 Calls prog 282 #[.pointer (some ⟨b,0,none⟩)] w fun e w' =>e= .returned (.tuple #[])/\w' =w.setCell ⟨b,0,none⟩ (.pointer (some ⟨b,0,none⟩)):=by
 obtain⟨j,hj,hjs⟩:=Option.map_eq_some_iff.1 qR;go_enter func282,ntmps282;go_wp2;rw [Lib.run_to_unsafe w ⟨b,0,none⟩ underlying363 underlying444 hj (by rw [hjs];decide) hsh (Nat.zero_lt_succ 1)];simp only [Result.andThen];rw [Oper.upon_value];go_wp2;rw [run_callFunc_extern func335 (by kernel_rfl) (by kernel_rfl) (by kernel_rfl) (e:=Extern.AbiNoEscape.same) (by kernel_rfl)];rw [Lib.run_noEscape]
 simp only [Result.andThen];rw [Oper.upon_value];go_wp2;rw [Lib.run_from_unsafe w ⟨b,0,none⟩ underlying444 underlying363 hj hsh Tryz.Builder_Extra_169.liesBuilder];simp only [Result.andThen];rw [Oper.upon_value];go_wp2
 go_end0
 exact⟨rfl,rfl⟩
theorem VK (B b:Nat) (bs:aF) (w:O) (h:Lib.IsBuilder 365 5 B b bs w):
 Calls prog 282 #[.pointer (some ⟨b,0,none⟩)] w fun e w' =>e= .returned (.tuple #[])/\(Lib.BuilderAt 365 5 B b (.pointer (some ⟨b,0,none⟩)) bs w' /\Below B w w' /\Lib.OthersKept 5 (some b) w w'):=by
 rcases h with h|h
 ·refine(q8 b w h.cell0 h.shape h.frozen0).mono ?_;rintro e w' ⟨rfl,rfl⟩;exact⟨rfl,h.used _,(zE B w).setCell (p:=⟨b,0,none⟩) h.1 _,(Lib.OthersKept.refl _ _ w).setCell ⟨b,0,none⟩ rfl _⟩
 ·refine(rD b w h.cell0).mono ?_;rintro e w' ⟨rfl,rfl⟩;exact⟨rfl,h,zE B _,Lib.OthersKept.refl _ _ _⟩
theorem Qu (B b:Nat) (bs:aF) (s:aB) (w:O) (h:Lib.IsBuilder 365 5 B b bs w) (hlen:bs.length+s.size<=140737488355328) (hBw:B<=w.heap.size):
 Calls prog 233 #[.pointer (some ⟨b,0,none⟩),.string s] w fun e w' =>e= .returned (.tuple #[.int .i64 s.size,.nilIface])/\(Lib.BuilderAt 365 5 B b (.pointer (some ⟨b,0,none⟩)) (bs++Lib.strCells s) w' /\Below B w w' /\Lib.OthersKept 5 (some b) w w'):=by
 obtain⟨i0,hi,hz0,hz1,hz2⟩:=info_parts Tryz.Builder_Extra_169.infoByte;go_enter func233,ntmps233;go_wp2_with (go_at_call 282;refine(VK B b bs _ h).mono ?_);rintro e w1 ⟨rfl,h1,hb1,hk1⟩;obtain⟨hB,v,hbk,hown,hne⟩:=h1;have c0:w1.cell? ⟨b,0,none⟩=some (.pointer (some ⟨b,0,none⟩)):=by rw [Lib.cell_of_heap hbk];rfl
 have c1:w1.cell? ⟨b,1,none⟩=some v:=by rw [Lib.cell_of_heap hbk];rfl
 go_wp2_with (at_builtin;refine Lib.wpList_append_own_string _ rfl _ _ 65 9 rfl B 5 i0 underlying65 underlying9 hi hz0 hz1 hz2 _ _ _ rfl hown s rfl ?c3 ?c4 ?c5 ?_)
 case c3=>unfold maxLen;omega
 case c4=>omega
 case c5=>have:=hb1.size;omega
 intro v' w2 hown' hgrow _
 have hlt:b<w1.heap.size:=by
  rcases zk b w1.heap.size with h' |h'
  ·exact h'
  ·simp [x9 h']at hbk
 have hb2:w2.heap[b]? =some (.cells #[.pointer (some ⟨b,0,none⟩),v] 365 (0,0)):=by
  rw [hgrow.block b hlt (fun e=>hne e.symm)];exact hbk
 have d0:w2.cell? ⟨b,0,none⟩=some (.pointer (some ⟨b,0,none⟩)):=by rw [Lib.cell_of_heap hb2];rfl
 have d1:w2.cell? ⟨b,1,none⟩=some v:=by rw [Lib.cell_of_heap hb2];rfl
 have f1:w2.frozen? ⟨b,1,none⟩=false:=Lib.frozen_of_heap hb2 1
 obtain⟨ao,n',cap,rfl⟩:∃ao n' cap,v' = .slice ao n' cap:=by
  rcases hown'.2 with⟨hv,_⟩|⟨g,cap,cur,hv,_⟩
  ·exact⟨_,_,_,hv⟩
  ·exact⟨_,_,_,hv⟩
 go_wp2;go_ret2;refine⟨rfl,?_,?_,(hk1.grown hgrow (Lib.ownsRowF_kind (World.ownsRowF_of hown))).setCell ⟨b,1,none⟩ rfl _⟩
 ·exact Lib.BuilderAt.put (T:=365) (e:=5) hB hb2 (bs' :=bs++Lib.strCells s) (by simpa [Lib.strCells_length]using hown') (by decide)
 ·exact(hb1.grown hgrow (by have:=hb1.size;omega) (fun k hk=>(hown.lt k hk).1)).setCell (p:=⟨b,1,none⟩) hB _
theorem rG (B b:Nat) (bs:aF) (r:Int) (hr0: -2147483648<=r) (hr1:r<=2147483647) (w:O) (h:Lib.IsBuilder 365 5 B b bs w) (hlen:bs.length+4<=140737488355328) (hBw:B<=w.heap.size):
 Calls prog 343 #[.pointer (some ⟨b,0,none⟩),.int .i32 r] w fun e w' =>e= .returned (.tuple #[.int .i64 (Lib.runeCells r).length,.nilIface])/\(Lib.BuilderAt 365 5 B b (.pointer (some ⟨b,0,none⟩)) (bs++Lib.runeCells r) w' /\Below B w w' /\Lib.OthersKept 5 (some b) w w'):=by
 have hk4:=Lib.runeCells_le r;go_enter func343,ntmps343;go_wp2_with (go_at_call 282;refine(VK B b bs _ h).mono ?_);rintro e w1 ⟨rfl,h1,hb1,hk1⟩;obtain⟨hB,v,hbk,hown,hne⟩:=h1
 obtain⟨ao,cap,rfl⟩:∃ao cap,v= .slice ao bs.length cap:=by
  rcases hown.2 with⟨hv,h0⟩|⟨g,cap,cur,hv,_⟩
  ·exact⟨none,0,by rw [hv,h0]⟩
  ·exact⟨_,_,hv⟩
 have c0:w1.cell? ⟨b,0,none⟩=some (.pointer (some ⟨b,0,none⟩)):=by rw [Lib.cell_of_heap hbk];rfl
 have c1:w1.cell? ⟨b,1,none⟩=some (.slice ao bs.length cap):=by rw [Lib.cell_of_heap hbk];rfl
 go_wp2_with (go_at_call 370;refine(Tryz.utf8_AppendRune_plain B _ bs.length bs r hr0 hr1 _ hown hlen (by have:=hb1.size;omega)).mono ?_);rintro e w2 ⟨v',rfl,hown',o,hgrow⟩
 have hlt:b<w1.heap.size:=by
  rcases zk b w1.heap.size with h' |h'
  ·exact h'
  ·simp [x9 h']at hbk
 have hb2:w2.heap[b]? =some (.cells #[.pointer (some ⟨b,0,none⟩),.slice ao bs.length cap] 365 (0,0)):=by
  rw [hgrow.block b (by simp;omega) (fun e=>hne e.symm),Lib.alloc_old w1 _ b hlt];exact hbk
 have d0:w2.cell? ⟨b,0,none⟩=some (.pointer (some ⟨b,0,none⟩)):=by rw [Lib.cell_of_heap hb2];rfl
 have d1:w2.cell? ⟨b,1,none⟩=some (.slice ao bs.length cap):=by rw [Lib.cell_of_heap hb2];rfl
 have f1:w2.frozen? ⟨b,1,none⟩=false:=Lib.frozen_of_heap hb2 1
 obtain⟨g,cap',rfl⟩:∃g cap',v' = .slice (some ⟨g,0,none⟩) (bs.length+(Lib.runeCells r).length) cap' :=by
  rcases hown'.2 with⟨_,h0⟩|⟨g,cap',cur,hv,_⟩
  ·omega
  ·exact⟨g,cap',hv⟩
 have hown1:(w1.alloc o).ownsRow B 5 1 (.slice ao bs.length cap) bs.length bs:=hown.alloc _;go_wp2;go_ret2;refine⟨?_,?_,?_,((hk1.alloc _).grown hgrow (Lib.ownsRowF_kind (World.ownsRowF_of hown1))).setCell ⟨b,1,none⟩ rfl _⟩
 ·have e:((bs.length:Int)+((Lib.runeCells r).length:Int) - (bs.length:Int))=((Lib.runeCells r).length:Int):=(by omega);simp [e]
 ·exact Lib.BuilderAt.put (T:=365) (e:=5) hB hb2 (bs' :=bs++Lib.runeCells r) (by simpa using hown') (by decide)
 ·exact((hb1.alloc (by have:=hb1.size;omega) o).grown hgrow (by have:=hb1.size;simp;omega) (fun k hk=>(hown.lt k hk).1)).setCell (p:=⟨b,1,none⟩) hB _
theorem H6 (s:aB) (hs:aN s=true) (w:O):Calls prog 290 #[.string s] w fun e w' =>e= .returned (.bool true)/\w=w' :=by
 rcases vW s hs with rfl|rfl|rfl|rfl|rfl|rfl|rfl|rfl|rfl|rfl|rfl|rfl|rfl|rfl|rfl|rfl|rfl|rfl|rfl|rfl|rfl|rfl|rfl|rfl|rfl|rfl|rfl|rfl|rfl|rfl|rfl|rfl|rfl
 all_goals
  clear hs;go_enter func290,ntmps290;go_wp2;go_ret
  exact⟨rfl,rfl⟩
theorem sN {s:aB} (hs:aN s=false) (l:aC) (hl:gA.contains l=true):(s.toList==l)=false:=by
 rw [beq_eq_false_iff_ne,ByteArray.toList_eq];intro e;rw [aN,e,hl]at hs;cases hs
theorem KW (s:aB) (hs:aN s=false) (w:O):Calls prog 290 #[.string s] w fun e w' =>e= .returned (.bool false)/\w=w' :=by
 have h0:=sN hs [97] rfl;have h1:=sN hs [97,110] rfl;have h2:=sN hs [97,110,100] rfl;have h3:=sN hs [97,114,101] rfl;have h4:=sN hs [97,115] rfl;have h5:=sN hs [97,116] rfl;have h6:=sN hs [98,101] rfl;have h7:=sN hs [98,117,116] rfl;have h8:=sN hs [98,121] rfl;have h9:=sN hs [102,111,114] rfl;have h10:=sN hs [105,102] rfl;have h11:=sN hs [105,110] rfl;have h12:=sN hs [105,110,116,111] rfl
 have h13:=sN hs [105,115] rfl;have h14:=sN hs [105,116] rfl;have h15:=sN hs [110,111] rfl;have h16:=sN hs [110,111,116] rfl;have h17:=sN hs [111,102] rfl;have h18:=sN hs [111,110] rfl;have h19:=sN hs [111,114] rfl;have h20:=sN hs [115,117,99,104] rfl;have h21:=sN hs [116,104,97,116] rfl;have h22:=sN hs [116,104,101] rfl;have h23:=sN hs [116,104,101,105,114] rfl
 have h24:=sN hs [116,104,101,110] rfl;have h25:=sN hs [116,104,101,114,101] rfl;have h26:=sN hs [116,104,101,115,101] rfl;have h27:=sN hs [116,104,101,121] rfl;have h28:=sN hs [116,104,105,115] rfl;have h29:=sN hs [116,111] rfl;have h30:=sN hs [119,97,115] rfl;have h31:=sN hs [119,105,108,108] rfl;have h32:=sN hs [119,105,116,104] rfl;clear hs;go_enter func290,ntmps290;go_wp2;go_ret
 exact⟨rfl,rfl⟩
theorem nL (A A' :aA) (n m c c' :Nat) (xs ys:aD) (B B' :Nat) (w:O) (hn:n<=maxLen) (hx:xA w B 1 A n (ints xs)) (hy:xA w B' 1 A' m (ints ys)):
 Calls prog 36 #[.slice A n c,.slice A' m c'] w fun e w' =>e= .returned (.bool (decide (xs=ys)))/\xG w w' :=by
 unfold maxLen at hn;have lx:=hx.ints_length;have ly:=hy.ints_length
 by_cases hnm:n=m
 ·subst hnm;have Lx:=zA lx;have Ly:=zA ly;clear lx ly;go_enter func36,ntmps36;go_wp2
  go_loopw [5] (fun i wr=>∃k:Nat,k<=n/\i= .int .i64 k/\W8 xs ys k/\xG w wr) (fun i _=>n - (intOf i).toNat)
  case atStart=>exact⟨0,zJ _,rfl,rfl,0,rfl⟩
  case round=>
   obtain⟨k,hk,rfl,hs,hd⟩:=hrel
   by_cases hlt:k<n
   ·obtain⟨j,rfl⟩:=hd;obtain⟨ad,x,rfl,hcx,Hx⟩:=hx.int_at hlt;obtain⟨ad',y,rfl,hcy,Hy⟩:=hy.int_at hlt;clear hx hy
    by_cases hxy:x=y
    ·subst hxy;have Hs:=zA (hs.step Hx Hy);clear hs;go_wp2
     go_quiet (fail)
     go_wp2
     go_roundw
     case rel=>exact⟨k+1,by omega,by go_num,Hs.out,⟨_,rfl⟩⟩
     case measure=>simp [intOf];omega
    ·have hne:(x !=y)=true:=(by simp [hxy])
     have hfin:decide (xs=ys)=false:=by
      simp only [decide_eq_false_iff_not];rintro rfl;have:=Hx.out.symm.trans Hy.out;cases this;exact hxy rfl
     have Hfin:=zA hfin;clear hfin hs hxy;go_wp2
     go_quiet (fail)
     go_wp2;go_ret
     exact⟨yl Hfin.out.symm,xG.more ⟨j,rfl⟩ _⟩
   ·obtain rfl:k=n:=by omega
    have hfin:decide (xs=ys)=true:=(by simp [hs.all Lx.out Ly.out]);have Hfin:=zA hfin;obtain⟨j,rfl⟩:=hd;clear hfin hs;go_wp2;go_ret
    exact⟨yl Hfin.out.symm,j,rfl⟩
 ·have hne:((n:Int) !=m)=true:=(by simp;omega)
  have hfin:decide (xs=ys)=false:=by
   simp only [decide_eq_false_iff_not];rintro rfl;omega
  have Hfin:=zA hfin;clear hfin lx ly hx hy;go_enter func36,ntmps36;go_wp2;go_ret
  exact⟨yl Hfin.out.symm,0,rfl⟩
end Go.Proofs.YtjbhbfaeielbiaaGreatDoor

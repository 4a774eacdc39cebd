import Derived.Test.YtjbhbfaeielbiaaGreatDoorPart03
import Derived.Test.YtjbhbfaeielbiaaGreatDoorPart04
import Derived.Lib.Zigzag
import Derived.Test.YtjbhbfaeielbiaaGreatDoorPart07
set_option maxRecDepth 100000
set_option maxHeartbeats 8000000
set_option linter.unusedVariables false
set_option linter.unusedSimpArgs false
namespace Go.Proofs.YtjbhbfaeielbiaaGreatDoor
open Tryz
open Go.RowKit
theorem cZ (l:aC) {n:Nat} (h:n<256):bC (l++ [n.toUInt8])=bC l++ [.int .u8 (n:Int)]:=by
 rw [y9];simp [bC,Yt h]
theorem sL (x:Int) (w:O):Calls prog 158 #[.int .u64 x] w fun e w' =>e= .returned (.int .u64 x)/\w=w' :=by
 go_enter func158,ntmps158;go_wp2;go_ret
 exact⟨rfl,rfl⟩
theorem IU (A:aA) (n c:Nat) (l:aC) (x:Nat) (w:O) (X:n<=100000000000000) (P:x<18446744073709551616) (D:RB w A n l):
 Calls prog 157 #[.slice A n c,.int .u64 (x:Int),.func (.func 158) #[] #[]] w fun e w' =>∃A',e= .returned (.slice A' (n+(zP x).length) (n+(zP x).length))/\zt w' (Frm w.heap.size) 5 1 (.slice A' (n+(zP x).length) (n+(zP x).length)) (n+(zP x).length) (bC (l++zP x))/\Below w.heap.size w w' :=by
 have s:=Xi A n c (bC l) w (by omega) D.reads (xd l);have B:=zA s;have o:=zA (ya P);clear s D;go_enter func157,ntmps157;go_wp2_with fail;refine B.o.mono ?_;rintro e Z ⟨U,W,rfl,t,k⟩;have F:=zA t;have E:=zA k;clear t k;go_wp2_with fail;refine(sL _ _).mono ?_;rintro e w' ⟨rfl,rfl⟩;go_wp2
 go_loopw [7,8] (fun R C wr=>∃(y:Nat) (pre:aC),C= .int .u64 (y:Int)/\y<=x/\zP x=pre++zP y/\zt wr (Frm w.heap.size) 5 1 R (n+pre.length) (bC (l++pre))/\Below w.heap.size w wr)
  (fun _ C _=>(intOf C).toNat)
 case atStart=>exact⟨x, [],rfl,zC _,rfl,by simpa using F.o,E.o⟩
 case round=>
  obtain⟨y,pre,rfl,Y,b,t,k⟩:=hrel
  have M:pre.length+(zP y).length<=10:=by
   have J:=congrArg List.length b;rw [zG]at J;have:=o.o;omega
  have Q:=Yb y;have N:=k.size;have a:=zA b;have p:=zA t;have m:=zA k;clear b t k
  by_cases r:127<y
  ·have L:bits .or .u8 ((y:Int)%256) 128=((y%128+128:Nat):Int):=by
    rw [Lib.u8_or128_any _ (by omega) (by omega)];omega
   go_wp2_with (at_builtin;refine xm (S:=Frm w.heap.size) yW (.tmp 18) (.tmp 22) rfl rfl rfl (p.o.alloc _) rfl (QO wr _ _) (by intro u z;simp at z;subst z;rfl) (by omega) (by omega) (by simp [Frm];omega) ?_;intro A' G T d j _ f;have i:=zA d;have g:=zA (m.o.trans (((zE _ wr).alloc (by omega) _).trans (f.below (by simp;omega) (fun _ h=>h))));clear d j f)
   go_roundw
   case rel=>
    refine⟨y / 128,pre++ [(y%128+128).toUInt8],by go_num,by omega,by rw [a.o,Wd r];simp,?_,g.o⟩;have I:((y%128+128:Nat):Int)=(y:Int)%128+128:=(by omega);have:=i.o;rw [<-zO,cZ _ (by omega),I,zG,List.length_singleton,<-Nat.add_assoc];exact this
   case measure=>simp [intOf];omega
  ·have v:zP y= [y.toUInt8]:=YT (by omega);have q:=zA v;clear v
   go_wp2_with (at_builtin;refine xm (S:=Frm w.heap.size) yW (.tmp 24) (.tmp 27) rfl rfl rfl (p.o.alloc _) rfl (QO wr _ _) (by intro u z;simp at z;subst z;rfl) (by omega) (by omega) (by simp [Frm];omega) ?_;intro A' G T d j _ f;have K:=d.cap;have i:=zA d.clip;have g:=zA (m.o.trans (((zE _ wr).alloc (by omega) _).trans (f.below (by simp;omega) (fun _ h=>h))));clear d j f)
   refine(Zt _ _ _ _ (by omega) (by omega)).mono ?_;rintro e w' ⟨rfl,rfl⟩;go_wp2;go_ret
   have H:n+(zP x).length=n+pre.length+1:=(by rw [a.o,q.o];simp;omega);rw [H,a.o,q.o,<-zO,cZ _ (by omega)];exact⟨_,rfl,i.o,g.o⟩
theorem tM {x:Int} (h: -9223372036854775808<=x/\x<=9223372036854775807):bits .xor .u64 (IntKind.u64.wrap (wrap64 (x*2))) (IntKind.u64.wrap (x / 9223372036854775808))=(yc x:Int):=by
 by_cases c:0<=x
 ·have a:IntKind.u64.wrap (wrap64 (x*2))=(((2*x).toNat:Nat):Int):=by
   rw [zW];unfold wrap64;omega
  have b:IntKind.u64.wrap (x / 9223372036854775808)=((0:Nat):Int):=by
   rw [zW];omega
  rw [a,b,bits_xor_u64_nat _ _ (by omega) (by decide),Nat.xor_zero];unfold yc;rw [if_pos c]
 ·have a:IntKind.u64.wrap (wrap64 (x*2))=(((2*x+18446744073709551616).toNat:Nat):Int):=by
   rw [zW];unfold wrap64;omega
  have b:IntKind.u64.wrap (x / 9223372036854775808)=((2^64 - 1:Nat):Int):=by
   rw [zW];omega
  rw [a,b,bits_xor_u64_nat _ _ (by omega) (by decide),Nat.xor_comm,Lib.xor_ones64 _ (by omega)];unfold yc;rw [if_neg c];omega
theorem uH (x:Int) (h: -9223372036854775808<=x/\x<=9223372036854775807) (w:O):Calls prog 215 #[.int .i64 x] w fun e w' =>e= .returned (.int .u64 (yc x:Int))/\w=w' :=by
 have H:=zA (tM h);go_enter func215,ntmps215;go_wp2;go_ret
 exact⟨by rw [<-H.o];rfl,rfl⟩
theorem K2 (A:aA) (n c:Nat) (l:aC) (B:Int) (x:Nat) (D:yc B=x) (Q: -9223372036854775808<=B/\B<=9223372036854775807) (w:O) (hn:n<=100000000000000) (T:x<18446744073709551616) (F:RB w A n l):
 Calls prog 214 #[.slice A n c,.int .i64 B,.func (.func 215) #[] #[]] w fun e w' =>∃A',e= .returned (.slice A' (n+(zP x).length) (n+(zP x).length))/\zt w' (Frm w.heap.size) 5 1 (.slice A' (n+(zP x).length) (n+(zP x).length)) (n+(zP x).length) (bC (l++zP x))/\Below w.heap.size w w' :=by
 have s:=Xi A n c (bC l) w (by omega) F.reads (xd l);have C:=zA s;have o:=zA (ya T);clear s F;go_enter func214,ntmps214;go_wp2_with fail;refine C.o.mono ?_;rintro e w1 ⟨Y,Z,rfl,t,k⟩;have H:=zA t;have G:=zA k;clear t k;go_wp2_with fail;refine(uH _ Q _).mono ?_;rintro e w' ⟨rfl,rfl⟩;rw [D];go_wp2
 go_loopw [7,8] (fun W E wr=>∃(y:Nat) (pre:aC),E= .int .u64 (y:Int)/\y<=x/\zP x=pre++zP y/\zt wr (Frm w.heap.size) 5 1 W (n+pre.length) (bC (l++pre))/\Below w.heap.size w wr)
  (fun _ E _=>(intOf E).toNat)
 case atStart=>exact⟨x, [],rfl,zC _,rfl,by simpa using H.o,G.o⟩
 case round=>
  obtain⟨y,pre,rfl,hy,b,t,k⟩:=hrel
  have P:pre.length+(zP y).length<=10:=by
   have L:=congrArg List.length b;rw [zG]at L;have:=o.o;omega
  have U:=Yb y;have R:=k.size;have a:=zA b;have p:=zA t;have m:=zA k;clear b t k
  by_cases r:127<y
  ·have N:bits .or .u8 ((y:Int)%256) 128=((y%128+128:Nat):Int):=by
    rw [Lib.u8_or128_any _ (by omega) (by omega)];omega
   go_wp2_with (at_builtin;refine xm (S:=Frm w.heap.size) yW (.tmp 18) (.tmp 22) rfl rfl rfl (p.o.alloc _) rfl (QO wr _ _) (by intro u z;simp at z;subst z;rfl) (by omega) (by omega) (by simp [Frm];omega) ?_;intro A' I X d j _ f;have i:=zA d;have g:=zA (m.o.trans (((zE _ wr).alloc (by omega) _).trans (f.below (by simp;omega) (fun _ h=>h))));clear d j f)
   go_roundw
   case rel=>
    refine⟨y / 128,pre++ [(y%128+128).toUInt8],by go_num,by omega,by rw [a.o,Wd r];simp,?_,g.o⟩;have K:((y%128+128:Nat):Int)=(y:Int)%128+128:=(by omega);have:=i.o;rw [<-zO,cZ _ (by omega),K,zG,List.length_singleton,<-Nat.add_assoc];exact this
   case measure=>simp [intOf];omega
  ·have v:zP y= [y.toUInt8]:=YT (by omega);have q:=zA v;clear v
   go_wp2_with (at_builtin;refine xm (S:=Frm w.heap.size) yW (.tmp 24) (.tmp 27) rfl rfl rfl (p.o.alloc _) rfl (QO wr _ _) (by intro u z;simp at z;subst z;rfl) (by omega) (by omega) (by simp [Frm];omega) ?_;intro A' I X d j _ f;have M:=d.cap;have i:=zA d.clip;have g:=zA (m.o.trans (((zE _ wr).alloc (by omega) _).trans (f.below (by simp;omega) (fun _ h=>h))));clear d j f)
   refine(Zt _ _ _ _ (by omega) (by omega)).mono ?_;rintro e w' ⟨rfl,rfl⟩;go_wp2;go_ret
   have J:n+(zP x).length=n+pre.length+1:=(by rw [a.o,q.o];simp;omega);rw [J,a.o,q.o,<-zO,cZ _ (by omega)];exact⟨_,rfl,i.o,g.o⟩
theorem gT (A:aA) (n c:Nat) (l:aC) (x:Nat) (w:O) (h:n<=100000000000000) (i:x<18446744073709551616) (b:RB w A n l):
 Calls prog 85 #[.slice A n c,.int .u64 (x:Int)] w fun e w' =>∃A',e= .returned (.slice A' (n+(zP x).length) (n+(zP x).length))/\zt w' (Frm w.heap.size) 5 1 (.slice A' (n+(zP x).length) (n+(zP x).length)) (n+(zP x).length) (bC (l++zP x))/\Below w.heap.size w w' :=by
 have H:=zA (IU A n c l x w h i b);clear b;go_enter func85,ntmps85;go_wp2_with fail;refine H.o.mono ?_;rintro e j ⟨A',rfl,d,a⟩;have g:=zA d;have f:=zA a;clear d a;go_wp2;go_ret
 exact⟨_,rfl,g.o,f.o⟩
theorem wN (A:aA) (n c:Nat) (l:aC) (x:Int) (w:O) (i:n<=100000000000000) (f: -9223372036854775808<=x/\x<=9223372036854775807) (b:RB w A n l):
 Calls prog 161 #[.slice A n c,.int .i64 x] w fun e w' =>∃A',e= .returned (.slice A' (n+(zP (yc x)).length) (n+(zP (yc x)).length))/\zt w' (Frm w.heap.size) 5 1 (.slice A' (n+(zP (yc x)).length) (n+(zP (yc x)).length)) (n+(zP (yc x)).length) (bC (l++zP (yc x)))/\Below w.heap.size w w' :=by
 have H:=zA (K2 A n c l x (yc x) rfl f w i (QH f) b);clear b;go_enter func161,ntmps161;go_wp2_with fail;refine H.o.mono ?_;rintro e j ⟨A',rfl,d,a⟩;have h:=zA d;have g:=zA a;clear d a;go_wp2;go_ret
 exact⟨_,rfl,h.o,g.o⟩
theorem tA (s:aB):byteCells s=bC s.data.toList:=rfl
theorem uG (A:aA) (n c:Nat) (l:aC) (s:aB) (w:O) (t:n+s.size<=100000000000000) (m:RB w A n l):
 Calls prog 219 #[.slice A n c,.string s] w fun e w' =>∃A',e= .returned (.slice A' (n+(zP s.size).length+s.size) (n+(zP s.size).length+s.size))/\zt w' (Frm w.heap.size) 5 1 (.slice A' (n+(zP s.size).length+s.size) (n+(zP s.size).length+s.size)) (n+(zP s.size).length+s.size) (bC (l++(zP s.size++s.data.toList)))/\Below w.heap.size w w' :=by
 have H:=zA (gT A n c l s.size w (by omega) (by omega) m);have hlen:=ya (n:=s.size) (by omega);clear m;go_enter func219,ntmps219;go_wp2_with fail;refine H.o.mono ?_;rintro e u ⟨A',rfl,o,k⟩;have p:=zA o;have j:=zA k;clear o k;have i:=j.o.size
 go_wp2_with (at_builtin;refine qV (S:=Frm w.heap.size) yW underlying9 (.tmp 9) (.tmp 10) rfl rfl rfl p.o rfl (by omega) (by simp [Frm];omega) ?_;intro r c2 v a g _ b;have q:=a.cap;have f:=zA a.clip;have d:=zA (j.o.trans (b.below i (fun _ h=>h)));clear a g b);refine(Zt _ _ _ _ (by omega) (by omega)).mono ?_;rintro e w' ⟨rfl,rfl⟩;go_wp2;go_ret
 refine⟨_,rfl,?_,d.o⟩;rw [<-zO,y9,<-tA];exact f.o
open Rep (rep)
theorem nL (A A' :aA) (n m c G :Nat) (xs f:aD) (B z :Nat) (w:O) (J:n<=maxLen) (l:xA w B 1 A n (ints xs)) (o:xA w z 1 A' m (ints f)):
 Calls prog 36 #[.slice A n c,.slice A' m G] w fun e w' =>e= .returned (.bool (decide (xs=f)))/\xG w w' :=by
 unfold maxLen at J;have r:=l.ints_length;have s:=o.ints_length
 by_cases q:n=m
 ·subst q;have D:=zA r;have E:=zA s;clear r s;go_enter func36,ntmps36;go_wp2
  go_loopw [5] (fun i wr=>∃k:Nat,k<=n/\i= .int .i64 k/\W8 xs f k/\xG w wr) (fun i _=>n - (intOf i).toNat)
  case atStart=>exact⟨0,zJ _,rfl,rfl,0,rfl⟩
  case round=>
   obtain⟨k,L,rfl,h,v⟩:=hrel
   by_cases g:k<n
   ·obtain⟨j,rfl⟩:=v;obtain⟨K,x,rfl,H,t⟩:=l.int_at g;obtain⟨F,y,rfl,I,u⟩:=o.int_at g;clear l o
    by_cases d:x=y
    ·subst d;have C:=zA (h.step t u);clear h;go_wp2
     go_quiet (fail)
     go_wp2
     go_roundw
     case rel=>exact⟨k+1,by omega,by go_num,C.o,⟨_,rfl⟩⟩
     case measure=>simp [intOf];omega
    ·have p:(x !=y)=true:=(by simp [d])
     have a:decide (xs=f)=false:=by
      simp only [decide_eq_false_iff_not];rintro rfl;have:=t.o.symm.trans u.o;cases this;exact d rfl
     have b:=zA a;clear a h d;go_wp2
     go_quiet (fail)
     go_wp2;go_ret
     exact⟨yl b.o.symm,xG.more ⟨j,rfl⟩ _⟩
   ·obtain rfl:k=n:=by omega
    have a:decide (xs=f)=true:=(by simp [h.all D.o E.o]);have b:=zA a;obtain⟨j,rfl⟩:=v;clear a h;go_wp2;go_ret
    exact⟨yl b.o.symm,j,rfl⟩
 ·have p:((n:Int) !=m)=true:=(by simp;omega)
  have a:decide (xs=f)=false:=by
   simp only [decide_eq_false_iff_not];rintro rfl;omega
  have b:=zA a;clear a r s l o;go_enter func36,ntmps36;go_wp2;go_ret
  exact⟨yl b.o.symm,0,rfl⟩
end Go.Proofs.YtjbhbfaeielbiaaGreatDoor

import Derived.Test.YtjbhbfaeielbiaaGreatDoorPart01
import Derived.Lib.Zigzag
set_option maxRecDepth 100000
set_option maxHeartbeats 8000000
set_option linter.unusedVariables false
set_option linter.unusedSimpArgs false
namespace Go.Proofs.YtjbhbfaeielbiaaGreatDoor
open Tryz
open Go.RowKit
theorem cZ (l:aC) {n:Nat} (h:n<256):bC (l++ [n.toUInt8])=bC l++ [.int .u8 (n:Int)]:=by
 rw [y9];simp [bC,Yt h]
theorem sL (x:Int) (w:O):Calls prog 158 #[.int .u64 x] w fun e w' =>e= .returned (.int .u64 x)/\w=w' :=by
 go_enter func158,ntmps158;go_wp2;go_ret
 exact⟨rfl,rfl⟩
theorem IU (A:aA) (n c:Nat) (l:aC) (x:Nat) (w:O) (hn:n<=100000000000000) (hx:x<18446744073709551616) (hl:RB w A n l):
 Calls prog 157 #[.slice A n c,.int .u64 (x:Int),.func (.func 158) #[] #[]] w fun e w' =>∃A',e= .returned (.slice A' (n+(zP x).length) (n+(zP x).length))/\zt w' (Frm w.heap.size) 5 1 (.slice A' (n+(zP x).length) (n+(zP x).length)) (n+(zP x).length) (bC (l++zP x))/\Below w.heap.size w w' :=by
 have hcl:=Xi A n c (bC l) w (by omega) hl.reads (xd l);have Hcl:=zA hcl;have Hlen:=zA (ya hx);clear hcl hl;go_enter func157,ntmps157;go_wp2_with fail;refine Hcl.out.mono ?_;rintro e w1 ⟨A1,c1,rfl,ho,hb⟩;have Ho:=zA ho;have Hb:=zA hb;clear ho hb;go_wp2_with fail;refine(sL _ _).mono ?_;rintro e w' ⟨rfl,rfl⟩;go_wp2
 go_loopw [7,8] (fun vb vx wr=>∃(y:Nat) (pre:aC),vx= .int .u64 (y:Int)/\y<=x/\zP x=pre++zP y/\zt wr (Frm w.heap.size) 5 1 vb (n+pre.length) (bC (l++pre))/\Below w.heap.size w wr)
  (fun _ vx _=>(intOf vx).toNat)
 case atStart=>exact⟨x, [],rfl,zC _,rfl,by simpa using Ho.out,Hb.out⟩
 case round=>
  obtain⟨y,pre,rfl,hy,hsplit,ho,hb⟩:=hrel
  have hpl:pre.length+(zP y).length<=10:=by
   have h2:=congrArg List.length hsplit;rw [zG]at h2;have:=Hlen.out;omega
  have hyp:=Yb y;have hsz:=hb.size;have Hsplit:=zA hsplit;have Ho1:=zA ho;have Hb1:=zA hb;clear hsplit ho hb
  by_cases h128:127<y
  ·have hor:bits .or .u8 ((y:Int)%256) 128=((y%128+128:Nat):Int):=by
    rw [Lib.u8_or128_any _ (by omega) (by omega)];omega
   go_wp2_with (at_builtin;refine xm (S:=Frm w.heap.size) yW (.tmp 18) (.tmp 22) rfl rfl rfl (Ho1.out.alloc _) rfl (QO wr _ _) (by intro u hu;simp at hu;subst hu;rfl) (by omega) (by omega) (by simp [Frm];omega) ?_;intro A' c' w3 ho3 hg3 _ hb3;have Ho3:=zA ho3;have Hb3:=zA (Hb1.out.trans (((zE _ wr).alloc (by omega) _).trans (hb3.below (by simp;omega) (fun _ h=>h))));clear ho3 hg3 hb3)
   go_roundw
   case rel=>
    refine⟨y / 128,pre++ [(y%128+128).toUInt8],by go_num,by omega,by rw [Hsplit.out,Wd h128];simp,?_,Hb3.out⟩;have ec:((y%128+128:Nat):Int)=(y:Int)%128+128:=(by omega);have:=Ho3.out;rw [<-zO,cZ _ (by omega),ec,zG,List.length_singleton,<-Nat.add_assoc];exact this
   case measure=>simp [intOf];omega
  ·have hsm:zP y= [y.toUInt8]:=YT (by omega);have Hsm:=zA hsm;clear hsm
   go_wp2_with (at_builtin;refine xm (S:=Frm w.heap.size) yW (.tmp 24) (.tmp 27) rfl rfl rfl (Ho1.out.alloc _) rfl (QO wr _ _) (by intro u hu;simp at hu;subst hu;rfl) (by omega) (by omega) (by simp [Frm];omega) ?_;intro A' c' w3 ho3 hg3 _ hb3;have hc3:=ho3.cap;have Ho3:=zA ho3.clip;have Hb3:=zA (Hb1.out.trans (((zE _ wr).alloc (by omega) _).trans (hb3.below (by simp;omega) (fun _ h=>h))));clear ho3 hg3 hb3)
   refine(Zt _ _ _ _ (by omega) (by omega)).mono ?_;rintro e w' ⟨rfl,rfl⟩;go_wp2;go_ret
   have e1:n+(zP x).length=n+pre.length+1:=(by rw [Hsplit.out,Hsm.out];simp;omega);rw [e1,Hsplit.out,Hsm.out,<-zO,cZ _ (by omega)];exact⟨_,rfl,Ho3.out,Hb3.out⟩
theorem tM {x:Int} (h: -9223372036854775808<=x/\x<=9223372036854775807):bits .xor .u64 (IntKind.u64.wrap (wrap64 (x*2))) (IntKind.u64.wrap (x / 9223372036854775808))=(yc x:Int):=by
 by_cases h0:0<=x
 ·have e1:IntKind.u64.wrap (wrap64 (x*2))=(((2*x).toNat:Nat):Int):=by
   rw [zW];unfold wrap64;omega
  have e2:IntKind.u64.wrap (x / 9223372036854775808)=((0:Nat):Int):=by
   rw [zW];omega
  rw [e1,e2,bits_xor_u64_nat _ _ (by omega) (by decide),Nat.xor_zero];unfold yc;rw [if_pos h0]
 ·have e1:IntKind.u64.wrap (wrap64 (x*2))=(((2*x+18446744073709551616).toNat:Nat):Int):=by
   rw [zW];unfold wrap64;omega
  have e2:IntKind.u64.wrap (x / 9223372036854775808)=((2^64 - 1:Nat):Int):=by
   rw [zW];omega
  rw [e1,e2,bits_xor_u64_nat _ _ (by omega) (by decide),Nat.xor_comm,Lib.xor_ones64 _ (by omega)];unfold yc;rw [if_neg h0];omega
theorem uH (x:Int) (h: -9223372036854775808<=x/\x<=9223372036854775807) (w:O):Calls prog 215 #[.int .i64 x] w fun e w' =>e= .returned (.int .u64 (yc x:Int))/\w=w' :=by
 have H:=zA (tM h);go_enter func215,ntmps215;go_wp2;go_ret
 exact⟨by rw [<-H.out];rfl,rfl⟩
theorem K2 (A:aA) (n c:Nat) (l:aC) (y0:Int) (x:Nat) (hxy:yc y0=x) (hr: -9223372036854775808<=y0/\y0<=9223372036854775807) (w:O) (hn:n<=100000000000000) (hx:x<18446744073709551616) (hl:RB w A n l):
 Calls prog 214 #[.slice A n c,.int .i64 y0,.func (.func 215) #[] #[]] w fun e w' =>∃A',e= .returned (.slice A' (n+(zP x).length) (n+(zP x).length))/\zt w' (Frm w.heap.size) 5 1 (.slice A' (n+(zP x).length) (n+(zP x).length)) (n+(zP x).length) (bC (l++zP x))/\Below w.heap.size w w' :=by
 have hcl:=Xi A n c (bC l) w (by omega) hl.reads (xd l);have Hcl:=zA hcl;have Hlen:=zA (ya hx);clear hcl hl;go_enter func214,ntmps214;go_wp2_with fail;refine Hcl.out.mono ?_;rintro e w1 ⟨A1,c1,rfl,ho,hb⟩;have Ho:=zA ho;have Hb:=zA hb;clear ho hb;go_wp2_with fail;refine(uH _ hr _).mono ?_;rintro e w' ⟨rfl,rfl⟩;rw [hxy];go_wp2
 go_loopw [7,8] (fun vb vx wr=>∃(y:Nat) (pre:aC),vx= .int .u64 (y:Int)/\y<=x/\zP x=pre++zP y/\zt wr (Frm w.heap.size) 5 1 vb (n+pre.length) (bC (l++pre))/\Below w.heap.size w wr)
  (fun _ vx _=>(intOf vx).toNat)
 case atStart=>exact⟨x, [],rfl,zC _,rfl,by simpa using Ho.out,Hb.out⟩
 case round=>
  obtain⟨y,pre,rfl,hy,hsplit,ho,hb⟩:=hrel
  have hpl:pre.length+(zP y).length<=10:=by
   have h2:=congrArg List.length hsplit;rw [zG]at h2;have:=Hlen.out;omega
  have hyp:=Yb y;have hsz:=hb.size;have Hsplit:=zA hsplit;have Ho1:=zA ho;have Hb1:=zA hb;clear hsplit ho hb
  by_cases h128:127<y
  ·have hor:bits .or .u8 ((y:Int)%256) 128=((y%128+128:Nat):Int):=by
    rw [Lib.u8_or128_any _ (by omega) (by omega)];omega
   go_wp2_with (at_builtin;refine xm (S:=Frm w.heap.size) yW (.tmp 18) (.tmp 22) rfl rfl rfl (Ho1.out.alloc _) rfl (QO wr _ _) (by intro u hu;simp at hu;subst hu;rfl) (by omega) (by omega) (by simp [Frm];omega) ?_;intro A' c' w3 ho3 hg3 _ hb3;have Ho3:=zA ho3;have Hb3:=zA (Hb1.out.trans (((zE _ wr).alloc (by omega) _).trans (hb3.below (by simp;omega) (fun _ h=>h))));clear ho3 hg3 hb3)
   go_roundw
   case rel=>
    refine⟨y / 128,pre++ [(y%128+128).toUInt8],by go_num,by omega,by rw [Hsplit.out,Wd h128];simp,?_,Hb3.out⟩;have ec:((y%128+128:Nat):Int)=(y:Int)%128+128:=(by omega);have:=Ho3.out;rw [<-zO,cZ _ (by omega),ec,zG,List.length_singleton,<-Nat.add_assoc];exact this
   case measure=>simp [intOf];omega
  ·have hsm:zP y= [y.toUInt8]:=YT (by omega);have Hsm:=zA hsm;clear hsm
   go_wp2_with (at_builtin;refine xm (S:=Frm w.heap.size) yW (.tmp 24) (.tmp 27) rfl rfl rfl (Ho1.out.alloc _) rfl (QO wr _ _) (by intro u hu;simp at hu;subst hu;rfl) (by omega) (by omega) (by simp [Frm];omega) ?_;intro A' c' w3 ho3 hg3 _ hb3;have hc3:=ho3.cap;have Ho3:=zA ho3.clip;have Hb3:=zA (Hb1.out.trans (((zE _ wr).alloc (by omega) _).trans (hb3.below (by simp;omega) (fun _ h=>h))));clear ho3 hg3 hb3)
   refine(Zt _ _ _ _ (by omega) (by omega)).mono ?_;rintro e w' ⟨rfl,rfl⟩;go_wp2;go_ret
   have e1:n+(zP x).length=n+pre.length+1:=(by rw [Hsplit.out,Hsm.out];simp;omega);rw [e1,Hsplit.out,Hsm.out,<-zO,cZ _ (by omega)];exact⟨_,rfl,Ho3.out,Hb3.out⟩
theorem gT (A:aA) (n c:Nat) (l:aC) (x:Nat) (w:O) (hn:n<=100000000000000) (hx:x<18446744073709551616) (hl:RB w A n l):
 Calls prog 85 #[.slice A n c,.int .u64 (x:Int)] w fun e w' =>∃A',e= .returned (.slice A' (n+(zP x).length) (n+(zP x).length))/\zt w' (Frm w.heap.size) 5 1 (.slice A' (n+(zP x).length) (n+(zP x).length)) (n+(zP x).length) (bC (l++zP x))/\Below w.heap.size w w' :=by
 have H:=zA (IU A n c l x w hn hx hl);clear hl;go_enter func85,ntmps85;go_wp2_with fail;refine H.out.mono ?_;rintro e w1 ⟨A',rfl,ho,hb⟩;have Ho:=zA ho;have Hb:=zA hb;clear ho hb;go_wp2;go_ret
 exact⟨_,rfl,Ho.out,Hb.out⟩
theorem wN (A:aA) (n c:Nat) (l:aC) (x:Int) (w:O) (hn:n<=100000000000000) (hr: -9223372036854775808<=x/\x<=9223372036854775807) (hl:RB w A n l):
 Calls prog 161 #[.slice A n c,.int .i64 x] w fun e w' =>∃A',e= .returned (.slice A' (n+(zP (yc x)).length) (n+(zP (yc x)).length))/\zt w' (Frm w.heap.size) 5 1 (.slice A' (n+(zP (yc x)).length) (n+(zP (yc x)).length)) (n+(zP (yc x)).length) (bC (l++zP (yc x)))/\Below w.heap.size w w' :=by
 have H:=zA (K2 A n c l x (yc x) rfl hr w hn (QH hr) hl);clear hl;go_enter func161,ntmps161;go_wp2_with fail;refine H.out.mono ?_;rintro e w1 ⟨A',rfl,ho,hb⟩;have Ho:=zA ho;have Hb:=zA hb;clear ho hb;go_wp2;go_ret
 exact⟨_,rfl,Ho.out,Hb.out⟩
theorem tA (s:aB):byteCells s=bC s.data.toList:=rfl
theorem uG (A:aA) (n c:Nat) (l:aC) (s:aB) (w:O) (hn:n+s.size<=100000000000000) (hl:RB w A n l):
 Calls prog 219 #[.slice A n c,.string s] w fun e w' =>∃A',e= .returned (.slice A' (n+(zP s.size).length+s.size) (n+(zP s.size).length+s.size))/\zt w' (Frm w.heap.size) 5 1 (.slice A' (n+(zP s.size).length+s.size) (n+(zP s.size).length+s.size)) (n+(zP s.size).length+s.size) (bC (l++(zP s.size++s.data.toList)))/\Below w.heap.size w w' :=by
 have H:=zA (gT A n c l s.size w (by omega) (by omega) hl);have hlen:=ya (n:=s.size) (by omega);clear hl;go_enter func219,ntmps219;go_wp2_with fail;refine H.out.mono ?_;rintro e w1 ⟨A',rfl,ho,hb⟩;have Ho:=zA ho;have Hb:=zA hb;clear ho hb;have hsz:=Hb.out.size
 go_wp2_with (at_builtin;refine qV (S:=Frm w.heap.size) yW underlying9 (.tmp 9) (.tmp 10) rfl rfl rfl Ho.out rfl (by omega) (by simp [Frm];omega) ?_;intro A2 c2 w3 ho3 hg3 _ hb3;have hc3:=ho3.cap;have Ho3:=zA ho3.clip;have Hb3:=zA (Hb.out.trans (hb3.below hsz (fun _ h=>h)));clear ho3 hg3 hb3);refine(Zt _ _ _ _ (by omega) (by omega)).mono ?_;rintro e w' ⟨rfl,rfl⟩;go_wp2;go_ret
 refine⟨_,rfl,?_,Hb3.out⟩;rw [<-zO,y9,<-tA];exact Ho3.out
end Go.Proofs.YtjbhbfaeielbiaaGreatDoor

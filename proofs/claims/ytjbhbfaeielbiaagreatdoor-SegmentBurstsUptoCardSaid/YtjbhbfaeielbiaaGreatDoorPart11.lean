import Derived.Test.YtjbhbfaeielbiaaGreatDoorPart01
import Derived.Lib.MinMax
import Derived.Deep.RegionHeld3
import Derived.StillTailTactics
import Derived.Shelf.Abstract
import Derived.Lib.Zigzag
set_option maxRecDepth 100000
set_option maxHeartbeats 8000000
set_option linter.unusedVariables false
set_option linter.unusedSimpArgs false
namespace Go.Proofs.YtjbhbfaeielbiaaGreatDoor
open Tryz
open Go.RowKit
theorem MY (k:Nat):(2:Nat)^(7*k)=128^k:=by rw [Nat.pow_mul]
theorem IY {k m x:Nat} (hk:k<=9) (hm:m<128^k) (hx:x<256) (h9:k=9->x%128<=1):
 bits .or .u64 (m:Int) (IntKind.u64.wrap (IntKind.u64.wrap (bits .and .u8 (x:Int) 127)*2^(7*k)))=((m+x%128*128^k:Nat):Int):=by
 have hp:128^k<=128^9:=yB (by omega) hk
 have hP:x%128*128^k<18446744073709551616:=by
  by_cases h:k=9
  ·subst h;have:=h9 rfl;omega
  ·have h8:128^k<=128^8:=yB (by omega) (by omega);have:x%128*128^k<=127*128^8:=Nat.mul_le_mul (by omega) h8;omega
 have e1:IntKind.u64.wrap (bits .and .u8 (x:Int) 127)=((x%128:Nat):Int):=by rw [u8_and127 _ (by omega) (by omega),zW];omega
 have e2:(2:Int)^(7*k)=((128^k:Nat):Int):=by rw [<-MY,Int.natCast_pow];rfl
 rw [e1,e2,<-Int.natCast_mul];generalize hPe:x%128*128^k=P at*;have e3:IntKind.u64.wrap (P:Int)=(P:Int):=by rw [zW];omega
 have hPm:(P:Int)%2^(7*k)=0:=by rw [e2,<-hPe,Int.natCast_mul];exact Int.mul_emod_left _ _
 rw [e3,bits_join_low .u64 64 (by decide) wraps_u64 (7*k) (m:Int) (P:Int) (by omega) (by rw [e2];omega) (by omega) (by omega) hPm (by omega)];omega
theorem qB {X:Int} {N k:Nat} (h:X=(N:Int)):Ending.returned (.tuple #[.int .u64 X,.int .i64 ((k:Int)+1)])=Ending.returned (.tuple #[.int .u64 (((some (N,k+1)).map (·.1)).getD 0:Nat),.int .i64 (((some (N,k+1)).map fun(x:Nat×Nat)=>(x.2:Int)).getD (-1))]):=by subst h;rfl
theorem wW {x:UInt8} {b:aC} {k m:Nat} (h10:k≠10) (h9:¬(k=9/\1<x.toNat%128)) (h128:¬x.toNat<128):YD (x::b) k m=YD b (k+1) (m+x.toNat%128*128^k):=by rw [YD,if_neg h10,if_neg h9,if_neg h128]
theorem LA {x:Nat} (h:x=0):Ending.returned (.tuple #[.int .u64 (bits .or .u64 0 (IntKind.u64.wrap (IntKind.u64.wrap (bits .and .u8 0 127)))),.int .i64 1])=Ending.returned (.tuple #[.int .u64 ((x:Int)%128),.int .i64 1]):=by subst h;rfl
theorem dV {k m x:Nat} (hm:m<128^k):m+x%128*128^k<128^(k+1):=by
 rw [Nat.pow_succ];have:x%128*128^k<=127*128^k:=yj _ (by omega);omega
theorem FJ {l:aC} {k:Nat} {x:UInt8} (h:l[k]? =some x):l.drop k=x::l.drop (k+1):=by
 have hk:=zN h;rw [za hk];rw [zB hk]at h;cases h;rfl
theorem VU (p:V) (A:aA) (n c:Nat) (l:aC) (w:O) (hcap:n<=c) (hc:c<=9223372036854775807) (hl:RB w A n l):
 Calls prog 133 #[p,.slice A n c] w fun e w' =>e= .returned (.tuple #[.int .u64 (((numL l).map (·.1)).getD 0:Nat),.int .i64 (((numL l).map fun x=>(x.2:Int)).getD (-1))])/\w=w' :=by
 have hlen:=zA hl.len;obtain⟨q,hq⟩:=eX (numL l);rw [hq];have Hq:=zA hq;clear hq;have Hl:=zA hl;clear hl;obtain⟨M,hM⟩:∃M,M=min n 10:=⟨_,rfl⟩;have hMn:M<=n:=by omega
 have hM10:M<=10:=by omega
 have hmin:min (n:Int) 10=(M:Int):=by omega
 have HM:Hid (∀m,YD (l.drop M) M m=none):=fun m=>by
  by_cases h:n<=10
  ·rw [List.drop_of_length_le (by have:=hlen.out;omega)];rfl
  ·rw [show M=10 by omega];cases l.drop 10<;>simp [YD]
 clear hM;go_enter func133,ntmps133;go_wp2
 go_loop [6,16] (fun a i=>∃k m:Nat,k<=M/\i= .int .i64 k/\a= .int .u64 m/\m<128^k/\YD (l.drop k) k m=q) (fun _ i=>M - (intOf i).toNat)
 case atStart=>exact⟨0,0,zJ _,rfl,rfl,by simp,by simpa [numL]using Hq.out⟩
 case round=>
  obtain⟨k,m,hk,rfl,rfl,hm,hg⟩:=hrel
  by_cases hlt:k<M
  ·obtain⟨b,off,x,rfl,_,hcx,Hx⟩:=Hl.out.at_ (k:=k) (by omega)
   rw [FJ Hx.out]at hg;have hx256:=x.toNat_lt;have Hg:=zA hg;have Hm:=zA hm;clear hg hm
   by_cases h9:k=9/\1<x.toNat%128
   ·obtain⟨hk9,hbig⟩:=h9;have hq:q=none:=(by rw [<-Hg.out];unfold YD;rw [if_neg (by omega),if_pos ⟨hk9,hbig⟩]);subst hq;have h9' :(1:Int)<IntKind.u64.wrap (bits .and .u8 (x.toNat:Int) 127):=(by rw [u8_and127 _ (by omega) (by omega),zW];omega);have hk9i:((k:Int)==9)=true:=(by simp [hk9]);clear hk9 hbig;go_wp2;go_ret2;exact⟨rfl,rfl⟩
   ·have H9:Hid (k=9->x.toNat%128<=1):=fun e=>by
     rcases zk 1 (x.toNat%128)with h|h
     ·exact absurd ⟨e,h⟩ h9
     ·exact h
    have H9n:=zA h9;have Hor:=zA (IY (k:=k) (m:=m) (x:=x.toNat) (by omega) Hm.out (by omega) H9.out)
    by_cases h128:x.toNat<128
    ·by_cases h0:x.toNat=0/\0<k
     ·have hq:q=none:=(by rw [<-Hg.out];unfold YD;rw [if_neg (by omega),if_neg H9n.out,if_pos h128,if_pos ⟨h0.1,h0.2⟩]);subst hq;obtain⟨h0a,h0b⟩:=h0;have h0ai:((x.toNat:Int)==0)=true:=(by simp [h0a]);have h128i:(x.toNat:Int)<128:=(by omega);clear h0a
      by_cases hk9:k=9
      ·have hsm:IntKind.u64.wrap (bits .and .u8 (x.toNat:Int) 127)<=1:=(by rw [u8_and127 _ (by omega) (by omega),zW];have:=H9.out hk9;omega);have hk9i:((k:Int)==9)=true:=(by simp [hk9]);clear hk9;go_wp2;go_ret2;exact⟨rfl,rfl⟩
      ·have hk9i:((k:Int)==9)=false:=(by simp;omega);clear hk9;go_wp2;go_ret2;exact⟨rfl,rfl⟩
     ·have hq:q=some (m+x.toNat%128*128^k,k+1):=(by rw [<-Hg.out];unfold YD;rw [if_neg (by omega),if_neg H9n.out,if_pos h128,if_neg (fun h=>h0 ⟨h.1,h.2⟩)]);subst hq
      by_cases hk9:k=9
      ·have hsm:IntKind.u64.wrap (bits .and .u8 (x.toNat:Int) 127)<=1:=by rw [u8_and127 _ (by omega) (by omega),zW];have:=H9.out hk9;omega
       by_cases hx0:x.toNat=0
       ·exact absurd ⟨hx0,by omega⟩ h0
       ·have hx0i:((x.toNat:Int)==0)=false:=(by simp [hx0]);have hk9i:((k:Int)==9)=true:=(by simp [hk9]);clear hx0 h0 hk9;go_wp2;go_ret2;exact⟨qB Hor.out,rfl⟩
      ·have hk9i:((k:Int)==9)=false:=(by simp;omega);clear hk9
       by_cases hx0:x.toNat=0
       ·obtain rfl:k=0:=by
         rcases zi k with h|h
         ·exact h
         ·exact absurd ⟨hx0,h⟩ h0
        obtain rfl:m=0:=by have:=Hm.out;simpa using this
        have hcx0:w.cell? ⟨b,off,none⟩=some (.int .u8 0):=(by rw [hx0]at hcx;simpa using hcx);have Hx0:=zA hx0;clear hx0 h0 hcx Hor H9 H9n Hg Hm hk9i Hx hx256 h128;go_wp2;go_ret2;exact⟨LA Hx0.out,rfl⟩
       ·have hx0i:((x.toNat:Int)==0)=false:=(by simp [hx0]);clear hx0 h0;go_wp2;go_ret2;exact⟨qB Hor.out,rfl⟩
    ·have hq:q=YD (l.drop (k+1)) (k+1) (m+x.toNat%128*128^k):=(by rw [<-Hg.out];exact wW (by omega) H9n.out h128);have Hq2:=zA hq;clear hq
     by_cases hk9:k=9
     ·have hsm:IntKind.u64.wrap (bits .and .u8 (x.toNat:Int) 127)<=1:=(by rw [u8_and127 _ (by omega) (by omega),zW];have:=H9.out hk9;omega);have hk9i:((k:Int)==9)=true:=(by simp [hk9]);clear hk9;go_wp2
      go_round
      case rel=>exact⟨k+1,m+x.toNat%128*128^k,by omega,by go_num,by rw [<-Hor.out],dV Hm.out,Hq2.out.symm⟩
      case measure=>simp [intOf];omega
     ·have hk9i:((k:Int)==9)=false:=(by simp;omega);clear hk9;go_wp2
      go_round
      case rel=>exact⟨k+1,m+x.toNat%128*128^k,by omega,by go_num,by rw [<-Hor.out],dV Hm.out,Hq2.out.symm⟩
      case measure=>simp [intOf];omega
  ·obtain rfl:k=M:=by omega
   have hq:q=none:=by
    rw [<-hg];exact HM.out _
   subst hq;clear hg hm;go_wp2;go_ret2;exact⟨rfl,rfl⟩
def xY (w:O) (S:Nat->Prop) (p:Nat) (r' :RS) (w' :O):Prop:=Rd w' S p r' /\Tch (fun b=>b=p) w w'
theorem xY.of_e {w w1:O} {S:Nat->Prop} {p:Nat} {r:RS} (h:Rd w S p r) (hb:Below w.heap.size w w1):xY w S p {r with e:=20} (w1.setCell ⟨p,2,none⟩ (.int .i64 20)):=
 ⟨(h.on hb).put_e,(Tch.new (S:=fun b=>b=p) hb).trans (Tch.put _ _ _ _) (fun _ _ h=>h)⟩
theorem xY.of_at {w w1:O} {S:Nat->Prop} {p k:Nat} {r:RS} (h:Rd w S p r) (hb:Below w.heap.size w w1) (hk:k<=r.b.length):xY w S p {r with at_:=k} (w1.setCell ⟨p,1,none⟩ (.int .i64 (k:Int))):=
 ⟨(h.on hb).put_at hk,(Tch.new (S:=fun b=>b=p) hb).trans (Tch.put _ _ _ _) (fun _ _ h=>h)⟩
theorem xY.same {w:O} {S:Nat->Prop} {p:Nat} {r:RS} (h:Rd w S p r):xY w S p r w:=⟨h,Tch.refl _ _⟩
def BVal (w:O) (S:Nat->Prop) (v:V) (l:aC):Prop:=(∃A,v= .slice A l.length l.length)/\BR w S v l
theorem BVal.nil (w:O) (S:Nat->Prop):BVal w S (.slice none 0 0) []:=⟨⟨none,rfl⟩,BR.nil _ _⟩
theorem BVal.put {w:O} {base p i:Nat} {v u:V} {l:aC} (h:BVal w (Frm base) v l) (hp:p<base):BVal (w.setCell ⟨p,i,none⟩ u) (Frm base) v l:=
 ⟨h.1,zt.tch h.2 (Tch.put w p i u) (fun g hg e=>by have:=(h.2.lt g hg).1;subst e;exact absurd this (by simp [Frm];omega))⟩
theorem CU (G:FuncId) (ba lb:aG) (f:aC->Option (Nat×Nat)) (hf:Qr f) (z:Nat) (hz:(fun(x:Nat)=>Value.int .u64 (x:Int)) z=Value.int .u64 0) (p:Nat) (r:RS) (S:Nat->Prop) (w:O) (h:Rd w S p r)
 (hent:∀(args:aG) (W:O),(callFunc G args).run prog W= .ok (.enter G args) W)
 (hG:∀W A n c,Below w.heap.size w W->n<=c->c<=9223372036854775807->RB W A n r.rest->Calls prog G (ba.push (.slice A n c)++lb) W fun e W' =>e= .returned (.tuple #[(match f r.rest with|none=>Value.int .u64 0|some x=>(fun(x:Nat)=>Value.int .u64 (x:Int)) x.1),.int .i64 (match f r.rest with|none=> -1|some x=>(x.2:Int))])/\Below W.heap.size W W'):
 Calls prog 201 #[.pointer (some ⟨p,0,none⟩),.func (.func G) ba lb] w fun e w' =>e= .returned ((fun(x:Nat)=>Value.int .u64 (x:Int)) (r.take z f).1)/\xY w S p (r.take z f).2 w' :=by
 obtain⟨A,c,h0,h1,h2,hr,hlt⟩:=h.cells;obtain⟨hle,he⟩:=h.2.1;have h5:=h.2.2.1;have H:=zA h;have f1:=h.frozen 1;have f2:=h.frozen 2;have Hz:=zA hz;clear h hz;rcases he with he0|he0
 ·have h2' :w.cell? ⟨p,2,none⟩=some (.int .i64 0):=(by rw [h2,he0];rfl);have Hr:=zA hr.rb;have hc:=(zt.cap hr).2;have hS:∀W,Below w.heap.size w W->W.cell? ⟨p,0,none⟩=some (.slice A r.b.length c)/\W.cell? ⟨p,1,none⟩=some (.int .i64 (r.at_:Int))/\Below w.heap.size w W:=fun W hb=>⟨(hb.cell (p:=⟨p,0,none⟩) hlt).trans h0,(hb.cell (p:=⟨p,1,none⟩) hlt).trans h1,hb⟩;have HS:=zA hS
  have hnum:=hG w.drew _ _ (c - r.at_) (zE _ _).drew (by omega) (by omega) ((Hr.out.on (zE _ _).drew).tail hc.1 hle);obtain⟨A2,hA2⟩:=eX ((if c=r.at_ then A else Option.map (fun x=>x.add r.at_) A));rw [hA2]at hnum;rcases hq:f r.rest with _|⟨x,k⟩
  ·rw [hq]at hnum;have Hnum:Hid (Calls prog G (ba.push (.slice A2 (r.b.length - r.at_) (c - r.at_))++lb) w.drew fun e W' =>e= .returned (.tuple #[Value.int .u64 0,.int .i64 (-1)])/\Below w.heap.size w W'):=hnum.mono fun _ _ ⟨h1,h2⟩=>⟨h1,(zE _ _).drew.trans h2⟩;have Hu:Hid (r.take z f=(z,{r with e:=20})):=RS.take_none he0 hq;clear h2 hr hS hnum hq he0 hG;go_enter func201,ntmps201;go_wp2_with fail
   go_region_held3 (fun W=>W.cell? ⟨p,0,none⟩=some (.slice A r.b.length c)/\W.cell? ⟨p,1,none⟩=some (.int .i64 (r.at_:Int))/\Below w.heap.size w W) (first|exact HS.out _ (zE _ _)|exact HS.out _ (zE _ _).drew|exact HS.out _ (by assumption)) (((with_reducible refine Hnum.out.mono ?_);rintro e W1 ⟨rfl,hW1⟩))
   have f2w:=(hW1.frozen (p:=⟨p,2,none⟩) hlt).trans f2;have h2w:=(hW1.cell (p:=⟨p,2,none⟩) hlt).trans h2';go_wp2;go_ret
   rw [Hu.out,Hz.out];exact⟨rfl,xY.of_e H.out hW1⟩
  ·rw [hq]at hnum;have hk:r.at_+k<=r.b.length:=(by have:=hf _ _ _ hq;simp only [RS.rest,ze]at this;omega)
   have Hnum:Hid (Calls prog G (ba.push (.slice A2 (r.b.length - r.at_) (c - r.at_))++lb) w.drew fun e W' =>e= .returned (.tuple #[(fun(x:Nat)=>Value.int .u64 (x:Int)) x,.int .i64 (k:Int)])/\Below w.heap.size w W'):=hnum.mono fun _ _ ⟨h1,h2⟩=>⟨h1,(zE _ _).drew.trans h2⟩;have Hu:Hid (r.take z f=(x,{r with at_:=r.at_+k})):=RS.take_some he0 hq;clear h2 hr hS hnum hq he0 hG;go_enter func201,ntmps201
   go_wp2_with fail
   go_region_held3 (fun W=>W.cell? ⟨p,0,none⟩=some (.slice A r.b.length c)/\W.cell? ⟨p,1,none⟩=some (.int .i64 (r.at_:Int))/\Below w.heap.size w W) (first|exact HS.out _ (zE _ _)|exact HS.out _ (zE _ _).drew|exact HS.out _ (by assumption)) (((with_reducible refine Hnum.out.mono ?_);rintro e W1 ⟨rfl,hW1⟩))
   have f1w:=(hW1.frozen (p:=⟨p,1,none⟩) hlt).trans f1;have h1w:=(hW1.cell (p:=⟨p,1,none⟩) hlt).trans h1;go_wp2;go_ret
   rw [Hu.out];exact⟨rfl,(Int.natCast_add r.at_ k)▸xY.of_at H.out hW1 hk⟩
 ·have h2' :w.cell? ⟨p,2,none⟩=some (.int .i64 20):=(by rw [h2,he0];rfl);have Hu:Hid (r.take z f=(z,r)):=RS.take_bad (by omega) _ _;clear h2 he0 hG;go_enter func201,ntmps201;go_wp2;go_ret
  rw [Hu.out,Hz.out];exact⟨rfl,xY.same H.out⟩
theorem GY (G:FuncId) (ba lb:aG) (f:aC->Option (Nat×Nat)) (hf:Qr f) (z:Nat) (hz:(fun(x:Nat)=>Value.int .i64 (x:Int)) z=Value.int .i64 0) (p:Nat) (r:RS) (S:Nat->Prop) (w:O) (h:Rd w S p r)
 (hent:∀(args:aG) (W:O),(callFunc G args).run prog W= .ok (.enter G args) W)
 (hG:∀W A n c,Below w.heap.size w W->n<=c->c<=9223372036854775807->RB W A n r.rest->Calls prog G (ba.push (.slice A n c)++lb) W fun e W' =>e= .returned (.tuple #[(match f r.rest with|none=>Value.int .i64 0|some x=>(fun(x:Nat)=>Value.int .i64 (x:Int)) x.1),.int .i64 (match f r.rest with|none=> -1|some x=>(x.2:Int))])/\Below W.heap.size W W'):
 Calls prog 131 #[.pointer (some ⟨p,0,none⟩),.func (.func G) ba lb] w fun e w' =>e= .returned ((fun(x:Nat)=>Value.int .i64 (x:Int)) (r.take z f).1)/\xY w S p (r.take z f).2 w' :=by
 obtain⟨A,c,h0,h1,h2,hr,hlt⟩:=h.cells;obtain⟨hle,he⟩:=h.2.1;have h5:=h.2.2.1;have H:=zA h;have f1:=h.frozen 1;have f2:=h.frozen 2;have Hz:=zA hz;clear h hz;rcases he with he0|he0
 ·have h2' :w.cell? ⟨p,2,none⟩=some (.int .i64 0):=(by rw [h2,he0];rfl);have Hr:=zA hr.rb;have hc:=(zt.cap hr).2;have hS:∀W,Below w.heap.size w W->W.cell? ⟨p,0,none⟩=some (.slice A r.b.length c)/\W.cell? ⟨p,1,none⟩=some (.int .i64 (r.at_:Int))/\Below w.heap.size w W:=fun W hb=>⟨(hb.cell (p:=⟨p,0,none⟩) hlt).trans h0,(hb.cell (p:=⟨p,1,none⟩) hlt).trans h1,hb⟩;have HS:=zA hS
  have hnum:=hG w.drew _ _ (c - r.at_) (zE _ _).drew (by omega) (by omega) ((Hr.out.on (zE _ _).drew).tail hc.1 hle);obtain⟨A2,hA2⟩:=eX ((if c=r.at_ then A else Option.map (fun x=>x.add r.at_) A));rw [hA2]at hnum;rcases hq:f r.rest with _|⟨x,k⟩
  ·rw [hq]at hnum;have Hnum:Hid (Calls prog G (ba.push (.slice A2 (r.b.length - r.at_) (c - r.at_))++lb) w.drew fun e W' =>e= .returned (.tuple #[Value.int .i64 0,.int .i64 (-1)])/\Below w.heap.size w W'):=hnum.mono fun _ _ ⟨h1,h2⟩=>⟨h1,(zE _ _).drew.trans h2⟩;have Hu:Hid (r.take z f=(z,{r with e:=20})):=RS.take_none he0 hq;clear h2 hr hS hnum hq he0 hG;go_enter func131,ntmps131;go_wp2_with fail
   go_region_held3 (fun W=>W.cell? ⟨p,0,none⟩=some (.slice A r.b.length c)/\W.cell? ⟨p,1,none⟩=some (.int .i64 (r.at_:Int))/\Below w.heap.size w W) (first|exact HS.out _ (zE _ _)|exact HS.out _ (zE _ _).drew|exact HS.out _ (by assumption)) (((with_reducible refine Hnum.out.mono ?_);rintro e W1 ⟨rfl,hW1⟩))
   have f2w:=(hW1.frozen (p:=⟨p,2,none⟩) hlt).trans f2;have h2w:=(hW1.cell (p:=⟨p,2,none⟩) hlt).trans h2';go_wp2;go_ret
   rw [Hu.out,Hz.out];exact⟨rfl,xY.of_e H.out hW1⟩
  ·rw [hq]at hnum;have hk:r.at_+k<=r.b.length:=(by have:=hf _ _ _ hq;simp only [RS.rest,ze]at this;omega)
   have Hnum:Hid (Calls prog G (ba.push (.slice A2 (r.b.length - r.at_) (c - r.at_))++lb) w.drew fun e W' =>e= .returned (.tuple #[(fun(x:Nat)=>Value.int .i64 (x:Int)) x,.int .i64 (k:Int)])/\Below w.heap.size w W'):=hnum.mono fun _ _ ⟨h1,h2⟩=>⟨h1,(zE _ _).drew.trans h2⟩;have Hu:Hid (r.take z f=(x,{r with at_:=r.at_+k})):=RS.take_some he0 hq;clear h2 hr hS hnum hq he0 hG;go_enter func131,ntmps131
   go_wp2_with fail
   go_region_held3 (fun W=>W.cell? ⟨p,0,none⟩=some (.slice A r.b.length c)/\W.cell? ⟨p,1,none⟩=some (.int .i64 (r.at_:Int))/\Below w.heap.size w W) (first|exact HS.out _ (zE _ _)|exact HS.out _ (zE _ _).drew|exact HS.out _ (by assumption)) (((with_reducible refine Hnum.out.mono ?_);rintro e W1 ⟨rfl,hW1⟩))
   have f1w:=(hW1.frozen (p:=⟨p,1,none⟩) hlt).trans f1;have h1w:=(hW1.cell (p:=⟨p,1,none⟩) hlt).trans h1;go_wp2;go_ret
   rw [Hu.out];exact⟨rfl,(Int.natCast_add r.at_ k)▸xY.of_at H.out hW1 hk⟩
 ·have h2' :w.cell? ⟨p,2,none⟩=some (.int .i64 20):=(by rw [h2,he0];rfl);have Hu:Hid (r.take z f=(z,r)):=RS.take_bad (by omega) _ _;clear h2 he0 hG;go_enter func131,ntmps131;go_wp2;go_ret
  rw [Hu.out,Hz.out];exact⟨rfl,xY.same H.out⟩
theorem CV (G:FuncId) (ba lb:aG) (f:aC->Option (aC×Nat)) (hf:Qr f) (z:aC) (hz:(fun(x:aC)=>Value.string ⟨x.toArray⟩) z=Value.string ⟨#[]⟩) (p:Nat) (r:RS) (S:Nat->Prop) (w:O) (h:Rd w S p r)
 (hent:∀(args:aG) (W:O),(callFunc G args).run prog W= .ok (.enter G args) W)
 (hG:∀W A n c,Below w.heap.size w W->n<=c->c<=9223372036854775807->RB W A n r.rest->Calls prog G (ba.push (.slice A n c)++lb) W fun e W' =>e= .returned (.tuple #[(match f r.rest with|none=>Value.string ⟨#[]⟩|some x=>(fun(x:aC)=>Value.string ⟨x.toArray⟩) x.1),.int .i64 (match f r.rest with|none=> -1|some x=>(x.2:Int))])/\Below W.heap.size W W'):
 Calls prog 254 #[.pointer (some ⟨p,0,none⟩),.func (.func G) ba lb] w fun e w' =>e= .returned ((fun(x:aC)=>Value.string ⟨x.toArray⟩) (r.take z f).1)/\xY w S p (r.take z f).2 w' :=by
 obtain⟨A,c,h0,h1,h2,hr,hlt⟩:=h.cells;obtain⟨hle,he⟩:=h.2.1;have h5:=h.2.2.1;have H:=zA h;have f1:=h.frozen 1;have f2:=h.frozen 2;have Hz:=zA hz;clear h hz;rcases he with he0|he0
 ·have h2' :w.cell? ⟨p,2,none⟩=some (.int .i64 0):=(by rw [h2,he0];rfl);have Hr:=zA hr.rb;have hc:=(zt.cap hr).2;have hS:∀W,Below w.heap.size w W->W.cell? ⟨p,0,none⟩=some (.slice A r.b.length c)/\W.cell? ⟨p,1,none⟩=some (.int .i64 (r.at_:Int))/\Below w.heap.size w W:=fun W hb=>⟨(hb.cell (p:=⟨p,0,none⟩) hlt).trans h0,(hb.cell (p:=⟨p,1,none⟩) hlt).trans h1,hb⟩;have HS:=zA hS
  have hnum:=hG w.drew _ _ (c - r.at_) (zE _ _).drew (by omega) (by omega) ((Hr.out.on (zE _ _).drew).tail hc.1 hle);obtain⟨A2,hA2⟩:=eX ((if c=r.at_ then A else Option.map (fun x=>x.add r.at_) A));rw [hA2]at hnum;rcases hq:f r.rest with _|⟨x,k⟩
  ·rw [hq]at hnum;have Hnum:Hid (Calls prog G (ba.push (.slice A2 (r.b.length - r.at_) (c - r.at_))++lb) w.drew fun e W' =>e= .returned (.tuple #[Value.string ⟨#[]⟩,.int .i64 (-1)])/\Below w.heap.size w W'):=hnum.mono fun _ _ ⟨h1,h2⟩=>⟨h1,(zE _ _).drew.trans h2⟩;have Hu:Hid (r.take z f=(z,{r with e:=20})):=RS.take_none he0 hq;clear h2 hr hS hnum hq he0 hG;go_enter func254,ntmps254
   go_wp2_with fail
   go_region_held3 (fun W=>W.cell? ⟨p,0,none⟩=some (.slice A r.b.length c)/\W.cell? ⟨p,1,none⟩=some (.int .i64 (r.at_:Int))/\Below w.heap.size w W) (first|exact HS.out _ (zE _ _)|exact HS.out _ (zE _ _).drew|exact HS.out _ (by assumption)) (((with_reducible refine Hnum.out.mono ?_);rintro e W1 ⟨rfl,hW1⟩))
   have f2w:=(hW1.frozen (p:=⟨p,2,none⟩) hlt).trans f2;have h2w:=(hW1.cell (p:=⟨p,2,none⟩) hlt).trans h2';go_wp2;go_ret
   rw [Hu.out,Hz.out];exact⟨rfl,xY.of_e H.out hW1⟩
  ·rw [hq]at hnum;have hk:r.at_+k<=r.b.length:=(by have:=hf _ _ _ hq;simp only [RS.rest,ze]at this;omega)
   have Hnum:Hid (Calls prog G (ba.push (.slice A2 (r.b.length - r.at_) (c - r.at_))++lb) w.drew fun e W' =>e= .returned (.tuple #[(fun(x:aC)=>Value.string ⟨x.toArray⟩) x,.int .i64 (k:Int)])/\Below w.heap.size w W'):=hnum.mono fun _ _ ⟨h1,h2⟩=>⟨h1,(zE _ _).drew.trans h2⟩;have Hu:Hid (r.take z f=(x,{r with at_:=r.at_+k})):=RS.take_some he0 hq;clear h2 hr hS hnum hq he0 hG
   go_enter func254,ntmps254;go_wp2_with fail
   go_region_held3 (fun W=>W.cell? ⟨p,0,none⟩=some (.slice A r.b.length c)/\W.cell? ⟨p,1,none⟩=some (.int .i64 (r.at_:Int))/\Below w.heap.size w W) (first|exact HS.out _ (zE _ _)|exact HS.out _ (zE _ _).drew|exact HS.out _ (by assumption)) (((with_reducible refine Hnum.out.mono ?_);rintro e W1 ⟨rfl,hW1⟩))
   have f1w:=(hW1.frozen (p:=⟨p,1,none⟩) hlt).trans f1;have h1w:=(hW1.cell (p:=⟨p,1,none⟩) hlt).trans h1;go_wp2;go_ret
   rw [Hu.out];exact⟨rfl,(Int.natCast_add r.at_ k)▸xY.of_at H.out hW1 hk⟩
 ·have h2' :w.cell? ⟨p,2,none⟩=some (.int .i64 20):=(by rw [h2,he0];rfl);have Hu:Hid (r.take z f=(z,r)):=RS.take_bad (by omega) _ _;clear h2 he0 hG;go_enter func254,ntmps254;go_wp2;go_ret
  rw [Hu.out,Hz.out];exact⟨rfl,xY.same H.out⟩
theorem vU (G:FuncId) (ba lb:aG) (f:aC->Option (aC×Nat)) (hf:Qr f) (p:Nat) (r:RS) (S:Nat->Prop) (w:O) (h:Rd w S p r)
 (hent:∀(args:aG) (W:O),(callFunc G args).run prog W= .ok (.enter G args) W)
 (hG:∀W A n c,Below w.heap.size w W->n<=c->c<=9223372036854775807->RB W A n r.rest->Calls prog G (ba.push (.slice A n c)++lb) W fun e W' =>∃v,e= .returned (.tuple #[v,.int .i64 (match f r.rest with|none=> -1|some x=>(x.2:Int))])/\BVal W' (Frm W.heap.size) v (match f r.rest with|none=> []|some x=>x.1)/\Below W.heap.size W W'):
 Calls prog 139 #[.pointer (some ⟨p,0,none⟩),.func (.func G) ba lb] w fun e w' =>∃v,e= .returned v/\BVal w' (Frm w.heap.size) v (r.take [] f).1/\xY w S p (r.take [] f).2 w' :=by
 obtain⟨A,c,h0,h1,h2,hr,hlt⟩:=h.cells;obtain⟨hle,he⟩:=h.2.1;have h5:=h.2.2.1;have H:=zA h;have f1:=h.frozen 1;have f2:=h.frozen 2;clear h;rcases he with he0|he0
 ·have h2' :w.cell? ⟨p,2,none⟩=some (.int .i64 0):=(by rw [h2,he0];rfl);have Hr:=zA hr.rb;have hc:=(zt.cap hr).2;have hS:∀W,Below w.heap.size w W->W.cell? ⟨p,0,none⟩=some (.slice A r.b.length c)/\W.cell? ⟨p,1,none⟩=some (.int .i64 (r.at_:Int))/\Below w.heap.size w W:=fun W hb=>⟨(hb.cell (p:=⟨p,0,none⟩) hlt).trans h0,(hb.cell (p:=⟨p,1,none⟩) hlt).trans h1,hb⟩;have HS:=zA hS
  have hnum:=hG w.drew _ _ (c - r.at_) (zE _ _).drew (by omega) (by omega) ((Hr.out.on (zE _ _).drew).tail hc.1 hle);obtain⟨A2,hA2⟩:=eX ((if c=r.at_ then A else Option.map (fun x=>x.add r.at_) A));rw [hA2]at hnum;rcases hq:f r.rest with _|⟨x,k⟩
  ·rw [hq]at hnum;have Hnum:Hid (Calls prog G (ba.push (.slice A2 (r.b.length - r.at_) (c - r.at_))++lb) w.drew fun e W' =>∃v,e= .returned (.tuple #[v,.int .i64 (-1)])/\BVal W' (Frm w.heap.size) v []/\Below w.heap.size w W'):=hnum.mono fun _ _ ⟨v,h1,h3,h2⟩=>⟨v,h1,h3,(zE _ _).drew.trans h2⟩;have Hu:Hid (r.take [] f=([],{r with e:=20})):=RS.take_none he0 hq;clear h2 hr hS hnum hq he0 hG
   go_enter func139,ntmps139;go_wp2_with fail
   go_region_held3 (fun W=>W.cell? ⟨p,0,none⟩=some (.slice A r.b.length c)/\W.cell? ⟨p,1,none⟩=some (.int .i64 (r.at_:Int))/\Below w.heap.size w W) (first|exact HS.out _ (zE _ _)|exact HS.out _ (zE _ _).drew|exact HS.out _ (by assumption)) (((with_reducible refine Hnum.out.mono ?_);rintro e W1 ⟨v,rfl,hv,hW1⟩;have Hv:=zA hv;clear hv))
   have f2w:=(hW1.frozen (p:=⟨p,2,none⟩) hlt).trans f2;have h2w:=(hW1.cell (p:=⟨p,2,none⟩) hlt).trans h2';go_wp2;go_ret
   rw [Hu.out];exact⟨_,rfl,BVal.nil _ _,xY.of_e H.out hW1⟩
  ·rw [hq]at hnum;have hk:r.at_+k<=r.b.length:=(by have:=hf _ _ _ hq;simp only [RS.rest,ze]at this;omega)
   have Hnum:Hid (Calls prog G (ba.push (.slice A2 (r.b.length - r.at_) (c - r.at_))++lb) w.drew fun e W' =>∃v,e= .returned (.tuple #[v,.int .i64 (k:Int)])/\BVal W' (Frm w.heap.size) v x/\Below w.heap.size w W'):=hnum.mono fun _ _ ⟨v,h1,h3,h2⟩=>⟨v,h1,h3,(zE _ _).drew.trans h2⟩;have Hu:Hid (r.take [] f=(x,{r with at_:=r.at_+k})):=RS.take_some he0 hq;clear h2 hr hS hnum hq he0 hG
   go_enter func139,ntmps139;go_wp2_with fail
   go_region_held3 (fun W=>W.cell? ⟨p,0,none⟩=some (.slice A r.b.length c)/\W.cell? ⟨p,1,none⟩=some (.int .i64 (r.at_:Int))/\Below w.heap.size w W) (first|exact HS.out _ (zE _ _)|exact HS.out _ (zE _ _).drew|exact HS.out _ (by assumption)) (((with_reducible refine Hnum.out.mono ?_);rintro e W1 ⟨v,rfl,hv,hW1⟩;have Hv:=zA hv;clear hv))
   have f1w:=(hW1.frozen (p:=⟨p,1,none⟩) hlt).trans f1;have h1w:=(hW1.cell (p:=⟨p,1,none⟩) hlt).trans h1;go_wp2;go_ret
   rw [Hu.out];exact⟨_,rfl,Hv.out.put hlt,(Int.natCast_add r.at_ k)▸xY.of_at H.out hW1 hk⟩
 ·have h2' :w.cell? ⟨p,2,none⟩=some (.int .i64 20):=(by rw [h2,he0];rfl);have Hu:Hid (r.take [] f=([],r)):=RS.take_bad (by omega) _ _;clear h2 he0 hG;go_enter func139,ntmps139;go_wp2;go_ret
  rw [Hu.out];exact⟨_,rfl,BVal.nil _ _,xY.same H.out⟩
theorem Y1:∀(fn:Fn) (first cap:aG) (w:O),(Instr.makeFunc fn first cap).run prog w= .ok (.func fn first cap) w:=fun _ _ _ _=>rfl
theorem oW (l:aC):(((numL l).map (·.1)).getD 0=(match numL l with|none=>0|some x=>x.1))/\(((numL l).map fun x=>(x.2:Int)).getD (-1)=(match numL l with|none=> -1|some x=>(x.2:Int))):=by cases numL l<;>exact⟨rfl,rfl⟩
theorem kO (p:Nat) (r:RS) (S:Nat->Prop) (w:O) (h:Rd w S p r):
 Calls prog 201 #[.pointer (some ⟨p,0,none⟩),.func (.func 133) #[.pointer (some ⟨p,0,none⟩)] #[]] w fun e w' =>e= .returned (.int .u64 (r.uint.1:Nat))/\xY w S p r.uint.2 w' :=by
 refine CU 133 #[.pointer (some ⟨p,0,none⟩)] #[] numL Yw 0 rfl p r S w h (enters_of func133 (by kernel_rfl) rfl) ?_;intro W A n c _ hn hc hl;have hnum:=VU (.pointer (some ⟨p,0,none⟩)) A n c r.rest W hn hc hl;rw [(oW r.rest).1,(oW r.rest).2]at hnum;refine Calls.mono (f:=133) (args:= #[.pointer (some ⟨p,0,none⟩),.slice A n c]) hnum ?_;rintro e W' ⟨rfl,rfl⟩;refine⟨?_,zE _ _⟩;cases numL r.rest<;>rfl
theorem GT (p:Nat) (r:RS) (S:Nat->Prop) (w:O) (h:Rd w S p r):
 Calls prog 253 #[.pointer (some ⟨p,0,none⟩)] w fun e w' =>e= .returned (.int .u64 (r.uint.1:Nat))/\xY w S p r.uint.2 w' :=by
 have hmf:=Y1;have H:=zA (kO p r S w h);clear h;go_enter func253,ntmps253;go_wp2_with fail;refine H.out.mono ?_;rintro e w1 ⟨rfl,ho⟩;have Ho:=zA ho;clear ho;go_wp2;go_ret
 exact⟨rfl,Ho.out⟩
theorem GG (u:Nat) (hu:u<18446744073709551616):bits .xor .i64 ((u:Int) / 2) (wrap64 (-wrap64 (bits .and .u64 (u:Int) 1)))=back u:=by
 rw [Lib.u64_and1 _ (by omega) (by omega)];have e1:(u:Int) / 2=((u / 2:Nat):Int):=by omega
 unfold back;rcases Nat.mod_two_eq_zero_or_one u with h|h
 ·have e2:wrap64 (-wrap64 ((u:Int)%2))=0:=(by unfold wrap64;omega);rw [e1,e2,if_pos h];show IntKind.i64.wrap ((BitVec.ofInt 64 ((u / 2:Nat):Int)^^^BitVec.ofInt 64 0).toNat:Int)=_;rw [show BitVec.ofInt 64 0=0#64 from rfl,BitVec.xor_zero,yE,yJ,zT];omega
 ·have e2:wrap64 (-wrap64 ((u:Int)%2))= -1:=(by unfold wrap64;omega);rw [e1,e2,if_neg (by omega)];have:=Lib.i64_not (u / 2) (by omega);rw [<-this];show IntKind.i64.wrap ((BitVec.ofInt 64 ((u / 2:Nat):Int)^^^BitVec.ofInt 64 (-1)).toNat:Int)=IntKind.i64.wrap ((BitVec.ofInt 64 (-1)^^^BitVec.ofInt 64 ((u / 2:Nat):Int)).toNat:Int);rw [BitVec.xor_comm]
theorem m0:∀(b:aC) (i m x k:Nat),i<=10->m<128^i->(i=10->m<18446744073709551616)->YD b i m=some (x,k)->x<18446744073709551616
 | [],_,_,_,_,_,_,_,h=>by simp [YD]at h
 |c::b,i,m,x,k,hi,hm,h10,h=>by
  unfold YD at h
  split at h
  ·cases h
  rename_i hne
  split at h
  ·cases h
  rename_i h9;have hlt:=dV (x:=c.toNat) hm
  have hb:m+c.toNat%128*128^i<18446744073709551616:=by
   by_cases e:i=9
   ·subst e;have:c.toNat%128<=1:=(by omega);have:c.toNat%128*128^9<=1*128^9:=yj _ this;omega
   ·have:128^(i+1)<=128^9:=yB (by omega) (by omega);omega
  split at h
  ·split at h
   ·cases h
   ·cases h;exact hb
  ·exact m0 b (i+1) _ x k (by omega) hlt (fun _=>hb) h
theorem eY {b:aC} {x k:Nat} (h:numL b=some (x,k)):x<18446744073709551616:=m0 b 0 0 x k (by omega) (by simp) (by omega) h
theorem eQ (r:RS):r.uint.1<18446744073709551616:=by
 unfold RS.uint RS.take
 split
 ·simp
 ·split
  ·simp
  ·rename_i x n h;exact eY h
theorem gS (p:Nat) (r:RS) (S:Nat->Prop) (w:O) (h:Rd w S p r):
 Calls prog 134 #[.pointer (some ⟨p,0,none⟩)] w fun e w' =>e= .returned (.int .i64 r.int.1)/\xY w S p r.int.2 w' :=by
 have hmf:=Y1;have H:=zA (kO p r S w h);have Hb:=zA (GG r.uint.1 (eQ r));have hu:=eQ r;have e1:r.int=(back r.uint.1,r.uint.2):=rfl;have E1:=zA e1;clear h e1;go_enter func134,ntmps134;go_wp2_with fail;refine H.out.mono ?_;rintro e w1 ⟨rfl,ho⟩;have Ho:=zA ho;clear ho;go_wp2;go_ret
 rw [E1.out];exact⟨by rw [<-Hb.out];rfl,Ho.out⟩
theorem C8 (most:Nat) (hm:most<=4611686018427387904) (pv:V) (Bp Bm:Nat) (A:aA) (n c:Nat) (l:aC) (w:O) (hcap:n<=c) (hc:c<=9223372036854775807) (hl:RB w A n l) (h1:w.cell? ⟨Bp,0,none⟩=some pv) (h2:w.cell? ⟨Bm,0,none⟩=some (.int .i64 (most:Int))):
 Calls prog 132 #[.slice A n c,.pointer (some ⟨Bp,0,none⟩),.pointer (some ⟨Bm,0,none⟩)] w fun e w' =>e= .returned (.tuple #[(match Xl most l with|none=> .int .i64 0|some x=> .int .i64 (x.1:Int)),.int .i64 (match Xl most l with|none=> -1|some x=>(x.2:Int))])/\Below w.heap.size w w' :=by
 have hnum:=VU pv A n c l w hcap hc hl;rcases hq:numL l with _|⟨x,k⟩
 ·have hs:Xl most l=none:=(by unfold Xl;rw [hq]);rw [hq]at hnum;rw [hs];have Hn:Hid (Calls prog 133 #[pv,.slice A n c] w fun e w' =>e= .returned (.tuple #[.int .u64 0,.int .i64 (-1)])/\w=w'):=hnum;clear hnum hq hs hl;go_enter func132,ntmps132;go_wp2_with fail;refine Hn.out.mono ?_;rintro e w' ⟨rfl,rfl⟩;go_wp2;go_ret2;exact⟨rfl,zE _ _⟩
 ·have hx:=eY hq;rw [hq]at hnum;have Hn:Hid (Calls prog 133 #[pv,.slice A n c] w fun e w' =>e= .returned (.tuple #[.int .u64 (x:Int),.int .i64 (k:Int)])/\w=w'):=hnum;have hkn:k<=n:=by have:=Yw _ _ _ hq;have:=hl.len;omega
  by_cases hle:x<=most
  ·have hs:Xl most l=some (x,k):=(by unfold Xl;rw [hq];simp [hle]);rw [hs];have hle' :(x:Int)<=most:=(by omega);clear hnum hq hs hl hle;go_enter func132,ntmps132;go_wp2_with fail;refine Hn.out.mono ?_;rintro e w' ⟨rfl,rfl⟩;go_wp2;go_ret2;exact⟨rfl,zE _ _⟩
  ·have hs:Xl most l=none:=(by unfold Xl;rw [hq];simp [hle]);rw [hs];have hle' :(most:Int)<x:=(by omega);clear hnum hq hs hl hle;go_enter func132,ntmps132;go_wp2_with fail;refine Hn.out.mono ?_;rintro e w' ⟨rfl,rfl⟩;go_wp2;go_ret2;exact⟨rfl,zE _ _⟩
theorem IF (most:Nat) (hm:most<=4611686018427387904) (p:Nat) (r:RS) (S:Nat->Prop) (w:O) (h:Rd w S p r):
 Calls prog 74 #[.pointer (some ⟨p,0,none⟩),.int .i64 (most:Int)] w fun e w' =>e= .returned (.int .i64 ((r.size most).1:Nat))/\xY w S p (r.size most).2 w' :=by
 have hmf:=Y1;have hlt:p<w.heap.size:=by obtain⟨_,_,_,_,_,_,h⟩:=h.cells;exact h
 have hb0:Below w.heap.size w ((w.alloc (.cells #[.pointer (some ⟨p,0,none⟩)] 167)).alloc (.cells #[.int .i64 (most:Int)] 3)):=((zE _ _).alloc (zC _) _).alloc (by simp) _
 have H:=GY 132 #[] #[.pointer (some ⟨w.heap.size,0,none⟩),.pointer (some ⟨w.heap.size+1,0,none⟩)] (Xl most) (r7 most) 0 rfl p r S _ (h.on hb0) (enters_of func132 (by kernel_rfl) rfl) (fun W A n c hW hn hc hl=>C8 most hm (.pointer (some ⟨p,0,none⟩)) w.heap.size (w.heap.size+1) A n c r.rest W hn hc hl ((hW.cell (p:=⟨w.heap.size,0,none⟩) (by simp;omega)).trans (by simp)) ((hW.cell (p:=⟨w.heap.size+1,0,none⟩) (by simp)).trans (by simp)))
 have H:=zA H;have Hb0:=zA hb0;have e1:r.size most=r.take 0 (Xl most):=rfl;have E1:=zA e1;clear h e1 hb0;go_enter func74,ntmps74;go_wp2_with fail;refine H.out.mono ?_;rintro e w1 ⟨rfl,ho⟩;have Ho:=zA ho;clear ho;go_wp2;go_ret
 rw [E1.out];exact⟨rfl,Ho.out.1,(Tch.new (S:=fun b=>b=p) Hb0.out).trans Ho.out.2 (fun _ _ h=>h)⟩
theorem RB.text {w:O} {A:aA} {n c:Nat} {l:aC} (h:RB w A n l):(convert 65 9 (.slice A n c)).run prog w= .ok (.string ⟨l.toArray⟩) w:=by
 have hlen:=h.len;subst hlen;cases A with
 |none=>
  have hl:l= []:=by
   rcases zi l.length with h0|h0
   ·exact zS h0
   ·obtain⟨_,_,hA,_⟩:=h.2 h0;cases hA
  subst hl;exact run_convert_bytes_nil w 65 5 underlying65 underlying5 0 c 9 underlying9
 |some a=>
  refine run_convert_bytes_back w 65 9 5 a c l underlying65 underlying5 underlying9 (fun j hj=> ?_);obtain⟨b,off,e,_,hc⟩:=h.2 (by omega);cases e;rw [Qq];exact hc j _ (V4 (zB hj))
theorem RB.take {w:O} {A:aA} {n x:Nat} {l:aC} (h:RB w A n l) (hx:x<=n):RB w A x (l.take x):=by
 refine⟨by rw [dF,zr,h.len];omega,fun h0=> ?_⟩;obtain⟨b,off,rfl,hb,hc⟩:=h.2 (by omega);refine⟨b,off,rfl,hb,fun j u hu=>hc j u ?_⟩;simp only [bC,List.map_take,yy]at hu⊢
 split at hu
 ·exact hu
 ·cases hu
theorem CT (most:Nat) (hm:most<=4611686018427387904) (pv:V) (Bp Bm:Nat) (A:aA) (n c:Nat) (l:aC) (w:O) (hcap:n<=c) (hc:c<=9223372036854775807) (hl:RB w A n l) (h1:w.cell? ⟨Bp,0,none⟩=some pv) (h2:w.cell? ⟨Bm,0,none⟩=some (.int .i64 (most:Int))):
 Calls prog 255 #[.slice A n c,.pointer (some ⟨Bp,0,none⟩),.pointer (some ⟨Bm,0,none⟩)] w fun e w' =>e= .returned (.tuple #[(match XF most l with|none=> .string ⟨#[]⟩|some x=> .string ⟨x.1.toArray⟩),.int .i64 (match XF most l with|none=> -1|some x=>(x.2:Int))])/\Below w.heap.size w w' :=by
 have hnum:=VU pv A n c l w hcap hc hl;have hlen:=hl.len;rcases hq:numL l with _|⟨x,k⟩
 ·have hs:XF most l=none:=(by unfold XF;rw [hq]);rw [hq]at hnum;rw [hs];have Hn:Hid (Calls prog 133 #[pv,.slice A n c] w fun e w' =>e= .returned (.tuple #[.int .u64 0,.int .i64 (-1)])/\w=w'):=hnum;clear hnum hq hs hl hlen;go_enter func255,ntmps255;go_wp2_with fail;refine Hn.out.mono ?_;rintro e w' ⟨rfl,rfl⟩;go_wp2;go_ret2;exact⟨rfl,zE _ _⟩
 ·have hx:=eY hq;rw [hq]at hnum;have Hn:Hid (Calls prog 133 #[pv,.slice A n c] w fun e w' =>e= .returned (.tuple #[.int .u64 (x:Int),.int .i64 (k:Int)])/\w=w'):=hnum;have hkn:k<=n:=(by have:=Yw _ _ _ hq;omega);have hkn' :(k:Int)<=n:=by omega
  by_cases hle:x<=most
  ·by_cases hle2:x<=n - k
   ·have hs:XF most l=some ((l.drop k).take x,k+x):=(by unfold XF;rw [hq];simp [hle,hlen,hle2]);rw [hs];have hle' :(x:Int)<=most:=(by omega);have hle3:(x:Int)<=(n:Int) - k:=(by omega);obtain⟨A3,hA3⟩:=eX ((if c=k then A else Option.map (fun x=>x.add k) A));have hcv:=(((hl.tail hcap hkn).take hle2)).text (c:=c - k);rw [hA3]at hcv;clear hnum hq hs hl hle hle2;go_enter func255,ntmps255
    go_wp2_with fail;refine Hn.out.mono ?_;rintro e w' ⟨rfl,rfl⟩;go_wp2;go_ret2;exact⟨by simp only [Int.natCast_add];rfl,zE _ _⟩
   ·have hs:XF most l=none:=(by unfold XF;rw [hq];simp [hlen,hle2]);rw [hs];have hle' :(x:Int)<=most:=(by omega);have hle3:(n:Int) - k<x:=(by omega);clear hnum hq hs hl hle hle2;go_enter func255,ntmps255;go_wp2_with fail;refine Hn.out.mono ?_;rintro e w' ⟨rfl,rfl⟩;go_wp2;go_ret2;exact⟨rfl,zE _ _⟩
  ·have hs:XF most l=none:=(by unfold XF;rw [hq];simp [hle]);rw [hs];have hle' :(most:Int)<x:=(by omega);clear hnum hq hs hl hle;go_enter func255,ntmps255;go_wp2_with fail;refine Hn.out.mono ?_;rintro e w' ⟨rfl,rfl⟩;go_wp2;go_ret2;exact⟨rfl,zE _ _⟩
theorem GW (most:Nat) (hm:most<=4611686018427387904) (p:Nat) (r:RS) (S:Nat->Prop) (w:O) (h:Rd w S p r):
 Calls prog 190 #[.pointer (some ⟨p,0,none⟩),.int .i64 (most:Int)] w fun e w' =>e= .returned (.string ⟨(r.text most).1.toArray⟩)/\xY w S p (r.text most).2 w' :=by
 have hmf:=Y1;have hlt:p<w.heap.size:=by obtain⟨_,_,_,_,_,_,h⟩:=h.cells;exact h
 have hb0:Below w.heap.size w ((w.alloc (.cells #[.pointer (some ⟨p,0,none⟩)] 167)).alloc (.cells #[.int .i64 (most:Int)] 3)):=((zE _ _).alloc (zC _) _).alloc (by simp) _
 have H:=CV 255 #[] #[.pointer (some ⟨w.heap.size,0,none⟩),.pointer (some ⟨w.heap.size+1,0,none⟩)] (XF most) (rX most) [] rfl p r S _ (h.on hb0) (enters_of func255 (by kernel_rfl) rfl) (fun W A n c hW hn hc hl=>CT most hm (.pointer (some ⟨p,0,none⟩)) w.heap.size (w.heap.size+1) A n c r.rest W hn hc hl ((hW.cell (p:=⟨w.heap.size,0,none⟩) (by simp;omega)).trans (by simp)) ((hW.cell (p:=⟨w.heap.size+1,0,none⟩) (by simp)).trans (by simp)))
 have H:=zA H;have Hb0:=zA hb0;have e1:r.text most=r.take [] (XF most):=rfl;have E1:=zA e1;clear h e1 hb0;go_enter func190,ntmps190;go_wp2_with fail;refine H.out.mono ?_;rintro e w1 ⟨rfl,ho⟩;have Ho:=zA ho;clear ho;go_wp2;go_ret
 rw [E1.out];exact⟨rfl,Ho.out.1,(Tch.new (S:=fun b=>b=p) Hb0.out).trans Ho.out.2 (fun _ _ h=>h)⟩
theorem BU (m:Nat) (hm:m<=4611686018427387904) (Bm:Nat) (A:aA) (n c:Nat) (l:aC) (w:O) (hn:n<=140737488355328) (hcap:n<=c) (hc:c<=9223372036854775807) (hl:RB w A n l) (h2:w.cell? ⟨Bm,0,none⟩=some (.int .i64 (m:Int))):
 Calls prog 140 #[.slice A n c,.pointer (some ⟨Bm,0,none⟩)] w fun e w' =>∃v,e= .returned (.tuple #[v,.int .i64 (match Y5 m l with|none=> -1|some x=>(x.2:Int))])/\BVal w' (Frm w.heap.size) v (match Y5 m l with|none=> []|some x=>x.1)/\Below w.heap.size w w' :=by
 have hlen:=hl.len
 by_cases hle:m<=n
 ·have hs:Y5 m l=some (l.take m,m):=(by unfold Y5;rw [hlen,if_pos hle]);rw [hs];have hle' :(m:Int)<=n:=(by omega);have hmc:m<=c:=(by omega);have hcl:=fun W (hb:Below w.heap.size w W)=>Xi A m c (bC (l.take m)) W (by omega) ((hl.on hb).take hle).reads (xd _);have Hcl:=zA hcl;have hlt:=ye h2
  have hS:∀W,Below w.heap.size w W->W.cell? ⟨Bm,0,none⟩=some (.int .i64 (m:Int))/\Below w.heap.size w W:=fun W hb=>⟨(hb.cell (p:=⟨Bm,0,none⟩) hlt).trans h2,hb⟩;have HS:=zA hS;have htl:(l.take m).length=m:=(by rw [zr];omega);have Htl:=zA htl;clear hs hl hle hS hcl htl;go_enter func140,ntmps140;go_wp2
  go_region_held3 (fun W=>W.cell? ⟨Bm,0,none⟩=some (.int .i64 (m:Int))/\Below w.heap.size w W) (first|exact HS.out _ (zE _ _)|exact HS.out _ (zE _ _).drew|exact HS.out _ (by assumption))
   (first
    |(go_at_call 56;refine(Hcl.out _ (zE _ _).drew).mono ?_;rintro e W1 ⟨A1,c1,rfl,ho,hb⟩;have hcur:Below w.heap.size w W1:=(zE _ _).drew.trans hb;have hcp:=ho.cap;have Ho:=zA ho.clip;clear ho hb)
    |(go_at_call 55;refine(Zt _ _ _ _ (by omega) (by omega)).mono ?_;rintro e W2 ⟨rfl,rfl⟩))
  go_wp2;go_ret2;exact⟨_,rfl,⟨⟨A1,by rw [Htl.out];rfl⟩,by unfold BR;rw [Htl.out];exact Ho.out.mono (fun _ _ h=>h)⟩,hcur⟩
 ·have hs:Y5 m l=none:=(by unfold Y5;rw [hlen,if_neg hle]);rw [hs];have hle' :(n:Int)<m:=(by omega);clear hs hl hle;go_enter func140,ntmps140;go_wp2;go_ret2;exact⟨_,rfl,BVal.nil _ _,zE _ _⟩
theorem Um (m:Nat) (hm:m<=4611686018427387904) (p:Nat) (r:RS) (S:Nat->Prop) (w:O) (h:Rd w S p r):
 Calls prog 76 #[.pointer (some ⟨p,0,none⟩),.int .i64 (m:Int)] w fun e w' =>∃v,e= .returned v/\BVal w' (Frm w.heap.size) v (r.bytes m).1/\xY w S p (r.bytes m).2 w' :=by
 have hmf:=Y1;have hlt:p<w.heap.size:=by obtain⟨_,_,_,_,_,_,h⟩:=h.cells;exact h
 have h5:=h.2.2.1;have hb0:Below w.heap.size w (w.alloc (.cells #[.int .i64 (m:Int)] 3)):=(zE _ _).alloc (zC _) _;have hrl:r.rest.length=r.b.length - r.at_:=by simp [RS.rest]
 have hb1:∀W A n c,Below (w.alloc (.cells #[.int .i64 (m:Int)] 3)).heap.size (w.alloc (.cells #[.int .i64 (m:Int)] 3)) W->n<=c->c<=9223372036854775807->RB W A n r.rest->_:=fun W A n c hW hn hc hl=>BU m hm w.heap.size A n c r.rest W (by have:=hl.len;omega) hn hc hl ((hW.cell (p:=⟨w.heap.size,0,none⟩) (by simp)).trans (by simp))
 have H:=vU 140 #[] #[.pointer (some ⟨w.heap.size,0,none⟩)] (Y5 m) (VL m) p r S _ (h.on hb0) (enters_of func140 (by kernel_rfl) rfl) hb1;clear hb1;have H:=zA H;have Hb0:=zA hb0;have e1:r.bytes m=r.take [] (Y5 m):=rfl;have E1:=zA e1;clear h e1 hb0;go_enter func76,ntmps76;go_wp2_with fail;refine H.out.mono ?_;rintro e w1 ⟨v,rfl,hv,ho⟩;have Ho:=zA ho;have Hv:=zA hv;clear ho hv;go_wp2;go_ret
 rw [E1.out];exact⟨_,rfl,⟨Hv.out.1,Hv.out.2.mono (fun _ _ h=>by simp [Frm]at h⊢;omega)⟩,Ho.out.1,(Tch.new (S:=fun b=>b=p) Hb0.out).trans Ho.out.2 (fun _ _ h=>h)⟩
theorem LV (p:Nat) (r:RS) (S:Nat->Prop) (w:O) (h:Rd w S p r):
 Calls prog 129 #[.pointer (some ⟨p,0,none⟩)] w fun e w' =>e= .returned (.int .i64 (r.fin.e:Int))/\xY w S p r.fin w' :=by
 obtain⟨A,c,h0,h1,h2,hr,hlt⟩:=h.cells;obtain⟨hle,he⟩:=h.2.1;have H:=zA h;rcases he with he0|he0
 ·have h2' :w.cell? ⟨p,2,none⟩=some (.int .i64 0):=(by rw [h2,he0];rfl);have f2:=h.frozen 2;have hleft:=zA (dX p r S w h)
  by_cases hl:0<r.left
  ·have hf:r.fin={r with e:=20}:=(by unfold RS.fin;rw [if_pos ⟨he0,hl⟩]);have Hf:=zA hf;have hl' :(0:Int)<r.left:=(by omega);clear h h0 h1 h2 hr hle he0 hf hl;go_enter func129,ntmps129;go_wp2_with fail;refine hleft.out.mono ?_;rintro e w1 ⟨rfl,j,rfl⟩;go_wp2_with fail;refine(Zr p {r with e:=20} S _ ((H.out.on (zd (zE _ w) j)).put_e)).mono ?_;rintro e w1 ⟨rfl,rfl⟩;go_wp2;go_ret
   rw [Hf.out];exact⟨rfl,xY.of_e H.out (zd (zE _ w) j)⟩
  ·have hf:r.fin=r:=(by unfold RS.fin;rw [if_neg (fun h=>hl h.2)]);have Hf:=zA hf;have hl' :(r.left:Int)<=0:=(by omega);have He:=zA he0;clear h h0 h1 h2 hr hle he0 hf hl;go_enter func129,ntmps129;go_wp2_with fail;refine hleft.out.mono ?_;rintro e w1 ⟨rfl,j,rfl⟩;go_wp2_with fail;refine(Zr p r S _ (H.out.on (zd (zE _ w) j))).mono ?_;rintro e w1 ⟨rfl,rfl⟩;go_wp2;go_ret
   rw [Hf.out];exact⟨rfl,H.out.on (zd (zE _ w) j),Tch.new (zd (zE _ w) j)⟩
 ·have h2' :w.cell? ⟨p,2,none⟩=some (.int .i64 20):=(by rw [h2,he0];rfl);have hf:r.fin=r:=(by unfold RS.fin;rw [if_neg (fun h=>by omega)]);have Hf:=zA hf;have He:=zA he0;clear h h0 h1 h2 hr hle he0 hf;go_enter func129,ntmps129;go_wp2_with fail;refine(Zr p r S _ H.out).mono ?_;rintro e w1 ⟨rfl,rfl⟩;go_wp2;go_ret
  rw [Hf.out];exact⟨rfl,xY.same H.out⟩
end Go.Proofs.YtjbhbfaeielbiaaGreatDoor

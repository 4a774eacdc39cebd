import Derived.Test.YtjbhbfaeielbiaaGreatDoorPart03
import Derived.Test.YtjbhbfaeielbiaaGreatDoorPart04
import Derived.Lib.VarintBits
import Derived.BigQuiet
import Derived.Lib.MinMax
import Derived.Deep.RegionHeld3
import Derived.StillTailTactics
import Derived.Shelf.Abstract
import Derived.Lib.Zigzag
set_option maxRecDepth 100000
set_option maxHeartbeats 8000000
set_option linter.unusedVariables false
set_option linter.unusedSimpArgs false
namespace Go.Proofs.YtjbhbfaeielbiaaGreatDoor
open Tryz
open Go.RowKit
def Rd (w:O) (S:Nat->Prop) (p:Nat) (r:RS):Prop:=
 S p/\r.Ok/\r.b.length<=140737488355328/\∃A c,Blk w p 239 #[.slice A r.b.length c,.int .i64 (r.at_:Int),.int .i64 (r.e:Int)]/\BR w S (.slice A r.b.length c) r.b
theorem Rd.tch {w w' :O} {S S' :Nat->Prop} {p:Nat} {r:RS} (h:Rd w S p r) (e:Tch S' w w') (f:∀b,S b->¬S' b):Rd w' S p r:=by
 obtain⟨a,i,k,A,c,j,d⟩:=h;exact⟨a,i,k,A,c,j.tch e (f p a),zt.tch d e (fun g l=>f g (d.lt g l).1)⟩
theorem Rd.on {w w' :O} {S:Nat->Prop} {p:Nat} {r:RS} (h:Rd w S p r) (a:Below w.heap.size w w'):Rd w' S p r:=h.tch (S' :=fun _=>False) (Tch.new a) (fun _ _=>id)
theorem Rd.mono {w:O} {S S' :Nat->Prop} {p:Nat} {r:RS} (h:Rd w S p r) (d:∀b,b<w.heap.size->S b->S' b):Rd w S' p r:=by
 obtain⟨e,f,i,A,c,a,g⟩:=h;exact⟨d p a.lt e,f,i,A,c,a,g.mono d⟩
theorem Rd.cells {w:O} {S:Nat->Prop} {p:Nat} {r:RS} (h:Rd w S p r):∃A c,w.cell? ⟨p,0,none⟩=some (.slice A r.b.length c)/\w.cell? ⟨p,1,none⟩=some (.int .i64 (r.at_:Int))/\w.cell? ⟨p,2,none⟩=some (.int .i64 (r.e:Int))/\BR w S (.slice A r.b.length c) r.b/\p<w.heap.size:=by
 obtain⟨_,_,_,A,c,a,d⟩:=h;exact⟨A,c,a.cell 0,a.cell 1,a.cell 2,d,a.lt⟩
theorem Rd.put_at {w:O} {S:Nat->Prop} {p:Nat} {r:RS} (h:Rd w S p r) {k:Nat} (m:k<=r.b.length):Rd (w.setCell ⟨p,1,none⟩ (.int .i64 (k:Int))) S p {r with at_:=k}:=by
 obtain⟨f,i,j,A,c,a,d⟩:=h;exact⟨f,⟨m,i.e⟩,j,A,c,a.set_ 1 _,zt.tch d (Tch.put w p _ _) (fun g l e=>by subst e;exact d.ne_ a (by decide) l)⟩
theorem Rd.put_e {w:O} {S:Nat->Prop} {p:Nat} {r:RS} (h:Rd w S p r):Rd (w.setCell ⟨p,2,none⟩ (.int .i64 20)) S p {r with e:=20}:=by
 obtain⟨d,f,i,A,c,a,b⟩:=h;exact⟨d,⟨f.le,.inr rfl⟩,i,A,c,a.set_ 2 _,zt.tch b (Tch.put w p _ _) (fun g j e=>by subst e;exact b.ne_ a (by decide) j)⟩
theorem Rd.frozen {w:O} {S:Nat->Prop} {p:Nat} {r:RS} (h:Rd w S p r) (i:Nat):w.frozen? ⟨p,i,none⟩=false:=by
 obtain⟨_,_,_,A,c,a,_⟩:=h;exact a.frozen i
theorem VF (A:aA) (n c:Nat) (l:aC) (w:O) (k:n<=140737488355328) (d:RB w A n l):
 Calls prog 73 #[.slice A n c] w fun e w' =>∃p,e= .returned (.pointer (some ⟨p,0,none⟩))/\Rd w' (Frm w.heap.size) p ⟨l,0,0⟩/\Below w.heap.size w w' :=by
 have hlen:=d.len;have b:=zA (Xi A n c (bC l) w (by omega) d.reads (xd l));clear d;subst hlen;go_enter func73,ntmps73;go_wp2_with fail;refine b.o.mono ?_;rintro e m ⟨h,j,rfl,g,f⟩;have i:=zA g;have a:=zA f;clear g f;go_wp2;go_ret
 exact⟨m.heap.size,rfl,⟨a.o.size,⟨zJ _,.inl rfl⟩,k,h,j,Blk.new _ _ _,i.o.alloc _⟩,a.o.alloc a.o.size _⟩
theorem dX (p:Nat) (r:RS) (S:Nat->Prop) (w:O) (h:Rd w S p r):
 Calls prog 77 #[.pointer (some ⟨p,0,none⟩)] w fun e w' =>e= .returned (.int .i64 (r.left:Int))/\∃k,w' =w.drewN k:=by
 obtain⟨A,c,f,g,a,_⟩:=h.cells;have d:=h.2.1.le;have i:=h.2.2.1;have e:((r.left:Nat):Int)=(r.b.length:Int) - r.at_:=by unfold RS.left;omega
 rw [e];clear e a h;go_enter func77,ntmps77;go_wp2
 go_quiet (fail)
 go_wp2;go_ret
 exact⟨rfl,_,rfl⟩
theorem Zr (p:Nat) (r:RS) (S:Nat->Prop) (w:O) (h:Rd w S p r):
 Calls prog 79 #[.pointer (some ⟨p,0,none⟩)] w fun e w' =>e= .returned (.int .i64 (r.e:Int))/\w=w' :=by
 obtain⟨A,c,a,b,d,_⟩:=h.cells;clear a b h;go_enter func79,ntmps79;go_wp2;go_ret
 exact⟨rfl,rfl⟩
theorem MY (k:Nat):(2:Nat)^(7*k)=128^k:=by rw [Nat.pow_mul]
theorem IY {k m x:Nat} (i:k<=9) (l:m<128^k) (o:x<256) (g:k=9->x%128<=1):
 bits .or .u64 (m:Int) (IntKind.u64.wrap (IntKind.u64.wrap (bits .and .u8 (x:Int) 127)*2^(7*k)))=((m+x%128*128^k:Nat):Int):=by
 have n:128^k<=128^9:=yB (by omega) i
 have j:x%128*128^k<18446744073709551616:=by
  by_cases h:k=9
  ·subst h;have:=g rfl;omega
  ·have f:128^k<=128^8:=yB (by omega) (by omega);have:x%128*128^k<=127*128^8:=Nat.mul_le_mul (by omega) f;omega
 have d:IntKind.u64.wrap (bits .and .u8 (x:Int) 127)=((x%128:Nat):Int):=by rw [u8_and127 _ (by omega) (by omega),zW];omega
 have a:(2:Int)^(7*k)=((128^k:Nat):Int):=by rw [<-MY,Int.natCast_pow];rfl
 rw [d,a,<-Int.natCast_mul];generalize b:x%128*128^k=P at*;have e:IntKind.u64.wrap (P:Int)=(P:Int):=by rw [zW];omega
 have c:(P:Int)%2^(7*k)=0:=by rw [a,<-b,Int.natCast_mul];exact Int.mul_emod_left _ _
 rw [e,bits_join_low .u64 64 (by decide) wraps_u64 (7*k) (m:Int) (P:Int) (by omega) (by rw [a];omega) (by omega) (by omega) c (by omega)];omega
theorem qB {X:Int} {N k:Nat} (h:X=(N:Int)):Ending.returned (.tuple #[.int .u64 X,.int .i64 ((k:Int)+1)])=Ending.returned (.tuple #[.int .u64 (((some (N,k+1)).map (·.1)).getD 0:Nat),.int .i64 (((some (N,k+1)).map fun(x:Nat×Nat)=>(x.2:Int)).getD (-1))]):=by subst h;rfl
theorem wW {x:UInt8} {b:aC} {k m:Nat} (c:k≠10) (d:¬(k=9/\1<x.toNat%128)) (a:¬x.toNat<128):YD (x::b) k m=YD b (k+1) (m+x.toNat%128*128^k):=by rw [YD,if_neg c,if_neg d,if_neg a]
theorem LA {x:Nat} (h:x=0):Ending.returned (.tuple #[.int .u64 (bits .or .u64 0 (IntKind.u64.wrap (IntKind.u64.wrap (bits .and .u8 0 127)))),.int .i64 1])=Ending.returned (.tuple #[.int .u64 ((x:Int)%128),.int .i64 1]):=by subst h;rfl
theorem dV {k m x:Nat} (a:m<128^k):m+x%128*128^k<128^(k+1):=by
 rw [Nat.pow_succ];have:x%128*128^k<=127*128^k:=yj _ (by omega);omega
theorem FJ {l:aC} {k:Nat} {x:UInt8} (h:l[k]? =some x):l.drop k=x::l.drop (k+1):=by
 have a:=zN h;rw [za a];rw [zB a]at h;cases h;rfl
theorem VU (p:V) (A:aA) (n c:Nat) (l:aC) (w:O) (S:n<=c) (hc:c<=9223372036854775807) (L:RB w A n l):
 Calls prog 133 #[p,.slice A n c] w fun e w' =>e= .returned (.tuple #[.int .u64 (((numL l).map (·.1)).getD 0:Nat),.int .i64 (((numL l).map fun x=>(x.2:Int)).getD (-1))])/\w=w' :=by
 have hlen:=zA L.len;obtain⟨q,o⟩:=eX (numL l);rw [o];have Y:=zA o;clear o;have X:=zA L;clear L;obtain⟨M,hM⟩:∃M,M=min n 10:=⟨_,rfl⟩;have hb:M<=n:=by omega
 have R:M<=10:=by omega
 have U:min (n:Int) 10=(M:Int):=by omega
 have W:Hid (∀m,YD (l.drop M) M m=none):=fun m=>by
  by_cases h:n<=10
  ·rw [List.drop_of_length_le (by have:=hlen.o;omega)];rfl
  ·rw [show M=10 by omega];cases l.drop 10<;>simp [YD]
 clear hM;go_enter func133,ntmps133;go_wp2
 go_loop [6,16] (fun a i=>∃k m:Nat,k<=M/\i= .int .i64 k/\a= .int .u64 m/\m<128^k/\YD (l.drop k) k m=q) (fun _ i=>M - (intOf i).toNat)
 case atStart=>exact⟨0,0,zJ _,rfl,rfl,by simp,by simpa [numL]using Y.o⟩
 case round=>
  obtain⟨k,m,hk,rfl,rfl,N,F⟩:=hrel
  by_cases hd:k<M
  ·obtain⟨b,off,x,rfl,_,v,P⟩:=X.o.at_ (k:=k) (by omega)
   rw [FJ P.o]at F;have y:=x.toNat_lt;have B:=zA F;have C:=zA N;clear F N
   by_cases K:k=9/\1<x.toNat%128
   ·obtain⟨d,u⟩:=K;have o:q=none:=(by rw [<-B.o];unfold YD;rw [if_neg (by omega),if_pos ⟨d,u⟩]);subst o;have ha :(1:Int)<IntKind.u64.wrap (bits .and .u8 (x.toNat:Int) 127):=(by rw [u8_and127 _ (by omega) (by omega),zW];omega);have f:((k:Int)==9)=true:=(by simp [d]);clear d u;go_wp2;go_ret2;exact⟨rfl,rfl⟩
   ·have z:Hid (k=9->x.toNat%128<=1):=fun e=>by
     rcases zk 1 (x.toNat%128)with h|h
     ·exact absurd ⟨e,h⟩ K
     ·exact h
    have s:=zA K;have r:=zA (IY (k:=k) (m:=m) (x:=x.toNat) (by omega) C.o (by omega) z.o)
    by_cases j:x.toNat<128
    ·by_cases t:x.toNat=0/\0<k
     ·have o:q=none:=(by rw [<-B.o];unfold YD;rw [if_neg (by omega),if_neg s.o,if_pos j,if_pos ⟨t.1,t.2⟩]);subst o;obtain⟨E,Z⟩:=t;have Q:((x.toNat:Int)==0)=true:=(by simp [E]);have J:(x.toNat:Int)<128:=(by omega);clear E
      by_cases d:k=9
      ·have G:IntKind.u64.wrap (bits .and .u8 (x.toNat:Int) 127)<=1:=(by rw [u8_and127 _ (by omega) (by omega),zW];have:=z.o d;omega);have f:((k:Int)==9)=true:=(by simp [d]);clear d;go_wp2;go_ret2;exact⟨rfl,rfl⟩
      ·have f:((k:Int)==9)=false:=(by simp;omega);clear d;go_wp2;go_ret2;exact⟨rfl,rfl⟩
     ·have o:q=some (m+x.toNat%128*128^k,k+1):=(by rw [<-B.o];unfold YD;rw [if_neg (by omega),if_neg s.o,if_pos j,if_neg (fun h=>t ⟨h.1,h.2⟩)]);subst o
      by_cases d:k=9
      ·have G:IntKind.u64.wrap (bits .and .u8 (x.toNat:Int) 127)<=1:=by rw [u8_and127 _ (by omega) (by omega),zW];have:=z.o d;omega
       by_cases g:x.toNat=0
       ·exact absurd ⟨g,by omega⟩ t
       ·have H:((x.toNat:Int)==0)=false:=(by simp [g]);have f:((k:Int)==9)=true:=(by simp [d]);clear g t d;go_wp2;go_ret2;exact⟨qB r.o,rfl⟩
      ·have f:((k:Int)==9)=false:=(by simp;omega);clear d
       by_cases g:x.toNat=0
       ·obtain rfl:k=0:=by
         rcases zi k with h|h
         ·exact h
         ·exact absurd ⟨g,h⟩ t
        obtain rfl:m=0:=by have:=C.o;simpa using this
        have T:w.cell? ⟨b,off,none⟩=some (.int .u8 0):=(by rw [g]at v;simpa using v);have I:=zA g;clear g t v r z s B C f P y j;go_wp2;go_ret2;exact⟨LA I.o,rfl⟩
       ·have H:((x.toNat:Int)==0)=false:=(by simp [g]);clear g t;go_wp2;go_ret2;exact⟨qB r.o,rfl⟩
    ·have o:q=YD (l.drop (k+1)) (k+1) (m+x.toNat%128*128^k):=(by rw [<-B.o];exact wW (by omega) s.o j);have D:=zA o;clear o
     by_cases d:k=9
     ·have G:IntKind.u64.wrap (bits .and .u8 (x.toNat:Int) 127)<=1:=(by rw [u8_and127 _ (by omega) (by omega),zW];have:=z.o d;omega);have f:((k:Int)==9)=true:=(by simp [d]);clear d;go_wp2
      go_round
      case rel=>exact⟨k+1,m+x.toNat%128*128^k,by omega,by go_num,by rw [<-r.o],dV C.o,D.o.symm⟩
      case measure=>simp [intOf];omega
     ·have f:((k:Int)==9)=false:=(by simp;omega);clear d;go_wp2
      go_round
      case rel=>exact⟨k+1,m+x.toNat%128*128^k,by omega,by go_num,by rw [<-r.o],dV C.o,D.o.symm⟩
      case measure=>simp [intOf];omega
  ·obtain rfl:k=M:=by omega
   have o:q=none:=by
    rw [<-F];exact W.o _
   subst o;clear F N;go_wp2;go_ret2;exact⟨rfl,rfl⟩
def xY (w:O) (S:Nat->Prop) (p:Nat) (a :RS) (w' :O):Prop:=Rd w' S p a /\Tch (fun b=>b=p) w w'
theorem xY.of_e {w c:O} {S:Nat->Prop} {p:Nat} {r:RS} (h:Rd w S p r) (a:Below w.heap.size w c):xY w S p {r with e:=20} (c.setCell ⟨p,2,none⟩ (.int .i64 20)):=
 ⟨(h.on a).put_e,(Tch.new (S:=fun b=>b=p) a).trans (Tch.put _ _ _ _) (fun _ _ h=>h)⟩
theorem xY.of_at {w c:O} {S:Nat->Prop} {p k:Nat} {r:RS} (h:Rd w S p r) (a:Below w.heap.size w c) (d:k<=r.b.length):xY w S p {r with at_:=k} (c.setCell ⟨p,1,none⟩ (.int .i64 (k:Int))):=
 ⟨(h.on a).put_at d,(Tch.new (S:=fun b=>b=p) a).trans (Tch.put _ _ _ _) (fun _ _ h=>h)⟩
theorem xY.same {w:O} {S:Nat->Prop} {p:Nat} {r:RS} (h:Rd w S p r):xY w S p r w:=⟨h,Tch.refl _ _⟩
def BVal (w:O) (S:Nat->Prop) (v:V) (l:aC):Prop:=(∃A,v= .slice A l.length l.length)/\BR w S v l
theorem BVal.nil (w:O) (S:Nat->Prop):BVal w S (.slice none 0 0) []:=⟨⟨none,rfl⟩,BR.nil _ _⟩
theorem BVal.put {w:O} {base p i:Nat} {v u:V} {l:aC} (h:BVal w (Frm base) v l) (b:p<base):BVal (w.setCell ⟨p,i,none⟩ u) (Frm base) v l:=
 ⟨h.1,zt.tch h.2 (Tch.put w p i u) (fun g a e=>by have:=(h.2.lt g a).1;subst e;exact absurd this (by simp [Frm];omega))⟩
theorem CU (G:FuncId) (u lb:aG) (f:aC->Option (Nat×Nat)) (Z:Qr f) (z:Nat) (J:(fun(x:Nat)=>Value.int .u64 (x:Int)) z=Value.int .u64 0) (p:Nat) (r:RS) (S:Nat->Prop) (w:O) (h:Rd w S p r)
 (I:∀(args:aG) (W:O),(callFunc G args).run prog W= .ok (.enter G args) W)
 (v:∀W A n c,Below w.heap.size w W->n<=c->c<=9223372036854775807->RB W A n r.rest->Calls prog G (u.push (.slice A n c)++lb) W fun e s =>e= .returned (.tuple #[(match f r.rest with|none=>Value.int .u64 0|some x=>(fun(x:Nat)=>Value.int .u64 (x:Int)) x.1),.int .i64 (match f r.rest with|none=> -1|some x=>(x.2:Int))])/\Below W.heap.size W s):
 Calls prog 201 #[.pointer (some ⟨p,0,none⟩),.func (.func G) u lb] w fun e w' =>e= .returned ((fun(x:Nat)=>Value.int .u64 (x:Int)) (r.take z f).1)/\xY w S p (r.take z f).2 w' :=by
 obtain⟨A,c,R,o,l,y,i⟩:=h.cells;obtain⟨D,Y⟩:=h.2.1;have h5:=h.2.2.1;have H:=zA h;have M:=h.frozen 1;have P:=h.frozen 2;have F:=zA J;clear h J;rcases Y with d|d
 ·have t :w.cell? ⟨p,2,none⟩=some (.int .i64 0):=(by rw [l,d];rfl);have K:=zA y.rb;have X:=(zt.cap y).2;have B:∀W,Below w.heap.size w W->W.cell? ⟨p,0,none⟩=some (.slice A r.b.length c)/\W.cell? ⟨p,1,none⟩=some (.int .i64 (r.at_:Int))/\Below w.heap.size w W:=fun W C=>⟨(C.cell (p:=⟨p,0,none⟩) i).trans R,(C.cell (p:=⟨p,1,none⟩) i).trans o,C⟩;have m:=zA B
  have a:=v w.drew _ _ (c - r.at_) (zE _ _).drew (by omega) (by omega) ((K.o.on (zE _ _).drew).tail X.1 D);obtain⟨E,hA2⟩:=eX ((if c=r.at_ then A else Option.map (fun x=>x.add r.at_) A));rw [hA2]at a;rcases hq:f r.rest with _|⟨x,k⟩
  ·rw [hq]at a;have j:Hid (Calls prog G (u.push (.slice E (r.b.length - r.at_) (c - r.at_))++lb) w.drew fun e s =>e= .returned (.tuple #[Value.int .u64 0,.int .i64 (-1)])/\Below w.heap.size w s):=a.mono fun _ _ ⟨o,l⟩=>⟨o,(zE _ _).drew.trans l⟩;have q:Hid (r.take z f=(z,{r with e:=20})):=RS.take_none d hq;clear l y B a hq d v;go_enter func201,ntmps201;go_wp2_with fail
   go_region_held3 (fun W=>W.cell? ⟨p,0,none⟩=some (.slice A r.b.length c)/\W.cell? ⟨p,1,none⟩=some (.int .i64 (r.at_:Int))/\Below w.heap.size w W) (first|exact m.o _ (zE _ _)|exact m.o _ (zE _ _).drew|exact m.o _ (by assumption)) (((with_reducible refine j.o.mono ?_);rintro e L ⟨rfl,g⟩))
   have Q:=(g.frozen (p:=⟨p,2,none⟩) i).trans P;have U:=(g.cell (p:=⟨p,2,none⟩) i).trans t;go_wp2;go_ret
   rw [q.o,F.o];exact⟨rfl,xY.of_e H.o g⟩
  ·rw [hq]at a;have hk:r.at_+k<=r.b.length:=(by have:=Z _ _ _ hq;simp only [RS.rest,ze]at this;omega)
   have j:Hid (Calls prog G (u.push (.slice E (r.b.length - r.at_) (c - r.at_))++lb) w.drew fun e s =>e= .returned (.tuple #[(fun(x:Nat)=>Value.int .u64 (x:Int)) x,.int .i64 (k:Int)])/\Below w.heap.size w s):=a.mono fun _ _ ⟨o,l⟩=>⟨o,(zE _ _).drew.trans l⟩;have q:Hid (r.take z f=(x,{r with at_:=r.at_+k})):=RS.take_some d hq;clear l y B a hq d v;go_enter func201,ntmps201
   go_wp2_with fail
   go_region_held3 (fun W=>W.cell? ⟨p,0,none⟩=some (.slice A r.b.length c)/\W.cell? ⟨p,1,none⟩=some (.int .i64 (r.at_:Int))/\Below w.heap.size w W) (first|exact m.o _ (zE _ _)|exact m.o _ (zE _ _).drew|exact m.o _ (by assumption)) (((with_reducible refine j.o.mono ?_);rintro e L ⟨rfl,g⟩))
   have N:=(g.frozen (p:=⟨p,1,none⟩) i).trans M;have T:=(g.cell (p:=⟨p,1,none⟩) i).trans o;go_wp2;go_ret
   rw [q.o];exact⟨rfl,(Int.natCast_add r.at_ k)▸xY.of_at H.o g hk⟩
 ·have t :w.cell? ⟨p,2,none⟩=some (.int .i64 20):=(by rw [l,d];rfl);have q:Hid (r.take z f=(z,r)):=RS.take_bad (by omega) _ _;clear l d v;go_enter func201,ntmps201;go_wp2;go_ret
  rw [q.o,F.o];exact⟨rfl,xY.same H.o⟩
theorem GY (G:FuncId) (u lb:aG) (f:aC->Option (Nat×Nat)) (Z:Qr f) (z:Nat) (J:(fun(x:Nat)=>Value.int .i64 (x:Int)) z=Value.int .i64 0) (p:Nat) (r:RS) (S:Nat->Prop) (w:O) (h:Rd w S p r)
 (I:∀(args:aG) (W:O),(callFunc G args).run prog W= .ok (.enter G args) W)
 (v:∀W A n c,Below w.heap.size w W->n<=c->c<=9223372036854775807->RB W A n r.rest->Calls prog G (u.push (.slice A n c)++lb) W fun e s =>e= .returned (.tuple #[(match f r.rest with|none=>Value.int .i64 0|some x=>(fun(x:Nat)=>Value.int .i64 (x:Int)) x.1),.int .i64 (match f r.rest with|none=> -1|some x=>(x.2:Int))])/\Below W.heap.size W s):
 Calls prog 131 #[.pointer (some ⟨p,0,none⟩),.func (.func G) u lb] w fun e w' =>e= .returned ((fun(x:Nat)=>Value.int .i64 (x:Int)) (r.take z f).1)/\xY w S p (r.take z f).2 w' :=by
 obtain⟨A,c,R,o,l,y,i⟩:=h.cells;obtain⟨D,Y⟩:=h.2.1;have h5:=h.2.2.1;have H:=zA h;have M:=h.frozen 1;have P:=h.frozen 2;have F:=zA J;clear h J;rcases Y with d|d
 ·have t :w.cell? ⟨p,2,none⟩=some (.int .i64 0):=(by rw [l,d];rfl);have K:=zA y.rb;have X:=(zt.cap y).2;have B:∀W,Below w.heap.size w W->W.cell? ⟨p,0,none⟩=some (.slice A r.b.length c)/\W.cell? ⟨p,1,none⟩=some (.int .i64 (r.at_:Int))/\Below w.heap.size w W:=fun W C=>⟨(C.cell (p:=⟨p,0,none⟩) i).trans R,(C.cell (p:=⟨p,1,none⟩) i).trans o,C⟩;have m:=zA B
  have a:=v w.drew _ _ (c - r.at_) (zE _ _).drew (by omega) (by omega) ((K.o.on (zE _ _).drew).tail X.1 D);obtain⟨E,hA2⟩:=eX ((if c=r.at_ then A else Option.map (fun x=>x.add r.at_) A));rw [hA2]at a;rcases hq:f r.rest with _|⟨x,k⟩
  ·rw [hq]at a;have j:Hid (Calls prog G (u.push (.slice E (r.b.length - r.at_) (c - r.at_))++lb) w.drew fun e s =>e= .returned (.tuple #[Value.int .i64 0,.int .i64 (-1)])/\Below w.heap.size w s):=a.mono fun _ _ ⟨o,l⟩=>⟨o,(zE _ _).drew.trans l⟩;have q:Hid (r.take z f=(z,{r with e:=20})):=RS.take_none d hq;clear l y B a hq d v;go_enter func131,ntmps131;go_wp2_with fail
   go_region_held3 (fun W=>W.cell? ⟨p,0,none⟩=some (.slice A r.b.length c)/\W.cell? ⟨p,1,none⟩=some (.int .i64 (r.at_:Int))/\Below w.heap.size w W) (first|exact m.o _ (zE _ _)|exact m.o _ (zE _ _).drew|exact m.o _ (by assumption)) (((with_reducible refine j.o.mono ?_);rintro e L ⟨rfl,g⟩))
   have Q:=(g.frozen (p:=⟨p,2,none⟩) i).trans P;have U:=(g.cell (p:=⟨p,2,none⟩) i).trans t;go_wp2;go_ret
   rw [q.o,F.o];exact⟨rfl,xY.of_e H.o g⟩
  ·rw [hq]at a;have hk:r.at_+k<=r.b.length:=(by have:=Z _ _ _ hq;simp only [RS.rest,ze]at this;omega)
   have j:Hid (Calls prog G (u.push (.slice E (r.b.length - r.at_) (c - r.at_))++lb) w.drew fun e s =>e= .returned (.tuple #[(fun(x:Nat)=>Value.int .i64 (x:Int)) x,.int .i64 (k:Int)])/\Below w.heap.size w s):=a.mono fun _ _ ⟨o,l⟩=>⟨o,(zE _ _).drew.trans l⟩;have q:Hid (r.take z f=(x,{r with at_:=r.at_+k})):=RS.take_some d hq;clear l y B a hq d v;go_enter func131,ntmps131
   go_wp2_with fail
   go_region_held3 (fun W=>W.cell? ⟨p,0,none⟩=some (.slice A r.b.length c)/\W.cell? ⟨p,1,none⟩=some (.int .i64 (r.at_:Int))/\Below w.heap.size w W) (first|exact m.o _ (zE _ _)|exact m.o _ (zE _ _).drew|exact m.o _ (by assumption)) (((with_reducible refine j.o.mono ?_);rintro e L ⟨rfl,g⟩))
   have N:=(g.frozen (p:=⟨p,1,none⟩) i).trans M;have T:=(g.cell (p:=⟨p,1,none⟩) i).trans o;go_wp2;go_ret
   rw [q.o];exact⟨rfl,(Int.natCast_add r.at_ k)▸xY.of_at H.o g hk⟩
 ·have t :w.cell? ⟨p,2,none⟩=some (.int .i64 20):=(by rw [l,d];rfl);have q:Hid (r.take z f=(z,r)):=RS.take_bad (by omega) _ _;clear l d v;go_enter func131,ntmps131;go_wp2;go_ret
  rw [q.o,F.o];exact⟨rfl,xY.same H.o⟩
theorem CV (G:FuncId) (u lb:aG) (f:aC->Option (aC×Nat)) (Z:Qr f) (z:aC) (J:(fun(x:aC)=>Value.string ⟨x.toArray⟩) z=Value.string ⟨#[]⟩) (p:Nat) (r:RS) (S:Nat->Prop) (w:O) (h:Rd w S p r)
 (I:∀(args:aG) (W:O),(callFunc G args).run prog W= .ok (.enter G args) W)
 (v:∀W A n c,Below w.heap.size w W->n<=c->c<=9223372036854775807->RB W A n r.rest->Calls prog G (u.push (.slice A n c)++lb) W fun e s =>e= .returned (.tuple #[(match f r.rest with|none=>Value.string ⟨#[]⟩|some x=>(fun(x:aC)=>Value.string ⟨x.toArray⟩) x.1),.int .i64 (match f r.rest with|none=> -1|some x=>(x.2:Int))])/\Below W.heap.size W s):
 Calls prog 254 #[.pointer (some ⟨p,0,none⟩),.func (.func G) u lb] w fun e w' =>e= .returned ((fun(x:aC)=>Value.string ⟨x.toArray⟩) (r.take z f).1)/\xY w S p (r.take z f).2 w' :=by
 obtain⟨A,c,R,o,l,y,i⟩:=h.cells;obtain⟨D,Y⟩:=h.2.1;have h5:=h.2.2.1;have H:=zA h;have M:=h.frozen 1;have P:=h.frozen 2;have F:=zA J;clear h J;rcases Y with d|d
 ·have t :w.cell? ⟨p,2,none⟩=some (.int .i64 0):=(by rw [l,d];rfl);have K:=zA y.rb;have X:=(zt.cap y).2;have B:∀W,Below w.heap.size w W->W.cell? ⟨p,0,none⟩=some (.slice A r.b.length c)/\W.cell? ⟨p,1,none⟩=some (.int .i64 (r.at_:Int))/\Below w.heap.size w W:=fun W C=>⟨(C.cell (p:=⟨p,0,none⟩) i).trans R,(C.cell (p:=⟨p,1,none⟩) i).trans o,C⟩;have m:=zA B
  have a:=v w.drew _ _ (c - r.at_) (zE _ _).drew (by omega) (by omega) ((K.o.on (zE _ _).drew).tail X.1 D);obtain⟨E,hA2⟩:=eX ((if c=r.at_ then A else Option.map (fun x=>x.add r.at_) A));rw [hA2]at a;rcases hq:f r.rest with _|⟨x,k⟩
  ·rw [hq]at a;have j:Hid (Calls prog G (u.push (.slice E (r.b.length - r.at_) (c - r.at_))++lb) w.drew fun e s =>e= .returned (.tuple #[Value.string ⟨#[]⟩,.int .i64 (-1)])/\Below w.heap.size w s):=a.mono fun _ _ ⟨o,l⟩=>⟨o,(zE _ _).drew.trans l⟩;have q:Hid (r.take z f=(z,{r with e:=20})):=RS.take_none d hq;clear l y B a hq d v;go_enter func254,ntmps254
   go_wp2_with fail
   go_region_held3 (fun W=>W.cell? ⟨p,0,none⟩=some (.slice A r.b.length c)/\W.cell? ⟨p,1,none⟩=some (.int .i64 (r.at_:Int))/\Below w.heap.size w W) (first|exact m.o _ (zE _ _)|exact m.o _ (zE _ _).drew|exact m.o _ (by assumption)) (((with_reducible refine j.o.mono ?_);rintro e L ⟨rfl,g⟩))
   have Q:=(g.frozen (p:=⟨p,2,none⟩) i).trans P;have U:=(g.cell (p:=⟨p,2,none⟩) i).trans t;go_wp2;go_ret
   rw [q.o,F.o];exact⟨rfl,xY.of_e H.o g⟩
  ·rw [hq]at a;have hk:r.at_+k<=r.b.length:=(by have:=Z _ _ _ hq;simp only [RS.rest,ze]at this;omega)
   have j:Hid (Calls prog G (u.push (.slice E (r.b.length - r.at_) (c - r.at_))++lb) w.drew fun e s =>e= .returned (.tuple #[(fun(x:aC)=>Value.string ⟨x.toArray⟩) x,.int .i64 (k:Int)])/\Below w.heap.size w s):=a.mono fun _ _ ⟨o,l⟩=>⟨o,(zE _ _).drew.trans l⟩;have q:Hid (r.take z f=(x,{r with at_:=r.at_+k})):=RS.take_some d hq;clear l y B a hq d v
   go_enter func254,ntmps254;go_wp2_with fail
   go_region_held3 (fun W=>W.cell? ⟨p,0,none⟩=some (.slice A r.b.length c)/\W.cell? ⟨p,1,none⟩=some (.int .i64 (r.at_:Int))/\Below w.heap.size w W) (first|exact m.o _ (zE _ _)|exact m.o _ (zE _ _).drew|exact m.o _ (by assumption)) (((with_reducible refine j.o.mono ?_);rintro e L ⟨rfl,g⟩))
   have N:=(g.frozen (p:=⟨p,1,none⟩) i).trans M;have T:=(g.cell (p:=⟨p,1,none⟩) i).trans o;go_wp2;go_ret
   rw [q.o];exact⟨rfl,(Int.natCast_add r.at_ k)▸xY.of_at H.o g hk⟩
 ·have t :w.cell? ⟨p,2,none⟩=some (.int .i64 20):=(by rw [l,d];rfl);have q:Hid (r.take z f=(z,r)):=RS.take_bad (by omega) _ _;clear l d v;go_enter func254,ntmps254;go_wp2;go_ret
  rw [q.o,F.o];exact⟨rfl,xY.same H.o⟩
theorem vU (G:FuncId) (y lb:aG) (f:aC->Option (aC×Nat)) (hf:Qr f) (p:Nat) (r:RS) (S:Nat->Prop) (w:O) (h:Rd w S p r)
 (K:∀(args:aG) (W:O),(callFunc G args).run prog W= .ok (.enter G args) W)
 (z:∀W A n c,Below w.heap.size w W->n<=c->c<=9223372036854775807->RB W A n r.rest->Calls prog G (y.push (.slice A n c)++lb) W fun e m =>∃v,e= .returned (.tuple #[v,.int .i64 (match f r.rest with|none=> -1|some x=>(x.2:Int))])/\BVal m (Frm W.heap.size) v (match f r.rest with|none=> []|some x=>x.1)/\Below W.heap.size W m):
 Calls prog 139 #[.pointer (some ⟨p,0,none⟩),.func (.func G) y lb] w fun e w' =>∃v,e= .returned v/\BVal w' (Frm w.heap.size) v (r.take [] f).1/\xY w S p (r.take [] f).2 w' :=by
 obtain⟨A,c,T,q,l,B,i⟩:=h.cells;obtain⟨F,Z⟩:=h.2.1;have h5:=h.2.2.1;have H:=zA h;have N:=h.frozen 1;have Q:=h.frozen 2;clear h;rcases Z with d|d
 ·have t :w.cell? ⟨p,2,none⟩=some (.int .i64 0):=(by rw [l,d];rfl);have L:=zA B.rb;have Y:=(zt.cap B).2;have D:∀W,Below w.heap.size w W->W.cell? ⟨p,0,none⟩=some (.slice A r.b.length c)/\W.cell? ⟨p,1,none⟩=some (.int .i64 (r.at_:Int))/\Below w.heap.size w W:=fun W E=>⟨(E.cell (p:=⟨p,0,none⟩) i).trans T,(E.cell (p:=⟨p,1,none⟩) i).trans q,E⟩;have o:=zA D
  have a:=z w.drew _ _ (c - r.at_) (zE _ _).drew (by omega) (by omega) ((L.o.on (zE _ _).drew).tail Y.1 F);obtain⟨I,hA2⟩:=eX ((if c=r.at_ then A else Option.map (fun x=>x.add r.at_) A));rw [hA2]at a;rcases hq:f r.rest with _|⟨x,k⟩
  ·rw [hq]at a;have j:Hid (Calls prog G (y.push (.slice I (r.b.length - r.at_) (c - r.at_))++lb) w.drew fun e m =>∃v,e= .returned (.tuple #[v,.int .i64 (-1)])/\BVal m (Frm w.heap.size) v []/\Below w.heap.size w m):=a.mono fun _ _ ⟨v,q,C,l⟩=>⟨v,q,C,(zE _ _).drew.trans l⟩;have s:Hid (r.take [] f=([],{r with e:=20})):=RS.take_none d hq;clear l B D a hq d z
   go_enter func139,ntmps139;go_wp2_with fail
   go_region_held3 (fun W=>W.cell? ⟨p,0,none⟩=some (.slice A r.b.length c)/\W.cell? ⟨p,1,none⟩=some (.int .i64 (r.at_:Int))/\Below w.heap.size w W) (first|exact o.o _ (zE _ _)|exact o.o _ (zE _ _).drew|exact o.o _ (by assumption)) (((with_reducible refine j.o.mono ?_);rintro e M ⟨v,rfl,u,g⟩;have J:=zA u;clear u))
   have R:=(g.frozen (p:=⟨p,2,none⟩) i).trans Q;have X:=(g.cell (p:=⟨p,2,none⟩) i).trans t;go_wp2;go_ret
   rw [s.o];exact⟨_,rfl,BVal.nil _ _,xY.of_e H.o g⟩
  ·rw [hq]at a;have hk:r.at_+k<=r.b.length:=(by have:=hf _ _ _ hq;simp only [RS.rest,ze]at this;omega)
   have j:Hid (Calls prog G (y.push (.slice I (r.b.length - r.at_) (c - r.at_))++lb) w.drew fun e m =>∃v,e= .returned (.tuple #[v,.int .i64 (k:Int)])/\BVal m (Frm w.heap.size) v x/\Below w.heap.size w m):=a.mono fun _ _ ⟨v,q,C,l⟩=>⟨v,q,C,(zE _ _).drew.trans l⟩;have s:Hid (r.take [] f=(x,{r with at_:=r.at_+k})):=RS.take_some d hq;clear l B D a hq d z
   go_enter func139,ntmps139;go_wp2_with fail
   go_region_held3 (fun W=>W.cell? ⟨p,0,none⟩=some (.slice A r.b.length c)/\W.cell? ⟨p,1,none⟩=some (.int .i64 (r.at_:Int))/\Below w.heap.size w W) (first|exact o.o _ (zE _ _)|exact o.o _ (zE _ _).drew|exact o.o _ (by assumption)) (((with_reducible refine j.o.mono ?_);rintro e M ⟨v,rfl,u,g⟩;have J:=zA u;clear u))
   have P:=(g.frozen (p:=⟨p,1,none⟩) i).trans N;have U:=(g.cell (p:=⟨p,1,none⟩) i).trans q;go_wp2;go_ret
   rw [s.o];exact⟨_,rfl,J.o.put i,(Int.natCast_add r.at_ k)▸xY.of_at H.o g hk⟩
 ·have t :w.cell? ⟨p,2,none⟩=some (.int .i64 20):=(by rw [l,d];rfl);have s:Hid (r.take [] f=([],r)):=RS.take_bad (by omega) _ _;clear l d z;go_enter func139,ntmps139;go_wp2;go_ret
  rw [s.o];exact⟨_,rfl,BVal.nil _ _,xY.same H.o⟩
theorem Y1:∀(a:Fn) (first cap:aG) (w:O),(Instr.makeFunc a first cap).run prog w= .ok (.func a first cap) w:=fun _ _ _ _=>rfl
theorem oW (l:aC):(((numL l).map (·.1)).getD 0=(match numL l with|none=>0|some x=>x.1))/\(((numL l).map fun x=>(x.2:Int)).getD (-1)=(match numL l with|none=> -1|some x=>(x.2:Int))):=by cases numL l<;>exact⟨rfl,rfl⟩
theorem kO (p:Nat) (r:RS) (S:Nat->Prop) (w:O) (h:Rd w S p r):
 Calls prog 201 #[.pointer (some ⟨p,0,none⟩),.func (.func 133) #[.pointer (some ⟨p,0,none⟩)] #[]] w fun e w' =>e= .returned (.int .u64 (r.uint.1:Nat))/\xY w S p r.uint.2 w' :=by
 refine CU 133 #[.pointer (some ⟨p,0,none⟩)] #[] numL Yw 0 rfl p r S w h (enters_of func133 (by kernel_rfl) rfl) ?_;intro W A n c _ g b d;have a:=VU (.pointer (some ⟨p,0,none⟩)) A n c r.rest W g b d;rw [(oW r.rest).1,(oW r.rest).2]at a;refine Calls.mono (f:=133) (args:= #[.pointer (some ⟨p,0,none⟩),.slice A n c]) a ?_;rintro e i ⟨rfl,rfl⟩;refine⟨?_,zE _ _⟩;cases numL r.rest<;>rfl
theorem GT (p:Nat) (r:RS) (S:Nat->Prop) (w:O) (h:Rd w S p r):
 Calls prog 253 #[.pointer (some ⟨p,0,none⟩)] w fun e w' =>e= .returned (.int .u64 (r.uint.1:Nat))/\xY w S p r.uint.2 w' :=by
 have c:=Y1;have H:=zA (kO p r S w h);clear h;go_enter func253,ntmps253;go_wp2_with fail;refine H.o.mono ?_;rintro e d ⟨rfl,a⟩;have b:=zA a;clear a;go_wp2;go_ret
 exact⟨rfl,b.o⟩
theorem GG (u:Nat) (c:u<18446744073709551616):bits .xor .i64 ((u:Int) / 2) (wrap64 (-wrap64 (bits .and .u64 (u:Int) 1)))=back u:=by
 rw [Lib.u64_and1 _ (by omega) (by omega)];have b:(u:Int) / 2=((u / 2:Nat):Int):=by omega
 unfold back;rcases Nat.mod_two_eq_zero_or_one u with h|h
 ·have a:wrap64 (-wrap64 ((u:Int)%2))=0:=(by unfold wrap64;omega);rw [b,a,if_pos h];show IntKind.i64.wrap ((BitVec.ofInt 64 ((u / 2:Nat):Int)^^^BitVec.ofInt 64 0).toNat:Int)=_;rw [show BitVec.ofInt 64 0=0#64 from rfl,BitVec.xor_zero,yE,yJ,zT];omega
 ·have a:wrap64 (-wrap64 ((u:Int)%2))= -1:=(by unfold wrap64;omega);rw [b,a,if_neg (by omega)];have:=Lib.i64_not (u / 2) (by omega);rw [<-this];show IntKind.i64.wrap ((BitVec.ofInt 64 ((u / 2:Nat):Int)^^^BitVec.ofInt 64 (-1)).toNat:Int)=IntKind.i64.wrap ((BitVec.ofInt 64 (-1)^^^BitVec.ofInt 64 ((u / 2:Nat):Int)).toNat:Int);rw [BitVec.xor_comm]
theorem m0:∀(b:aC) (i m x k:Nat),i<=10->m<128^i->(i=10->m<18446744073709551616)->YD b i m=some (x,k)->x<18446744073709551616
 | [],_,_,_,_,_,_,_,h=>by simp [YD]at h
 |c::b,i,m,x,k,hi,hm,h10,h=>by
  unfold YD at h
  split at h
  ·cases h
  rename_i f
  split at h
  ·cases h
  rename_i g;have a:=dV (x:=c.toNat) hm
  have d:m+c.toNat%128*128^i<18446744073709551616:=by
   by_cases e:i=9
   ·subst e;have:c.toNat%128<=1:=(by omega);have:c.toNat%128*128^9<=1*128^9:=yj _ this;omega
   ·have:128^(i+1)<=128^9:=yB (by omega) (by omega);omega
  split at h
  ·split at h
   ·cases h
   ·cases h;exact d
  ·exact m0 b (i+1) _ x k (by omega) a (fun _=>d) h
theorem eY {b:aC} {x k:Nat} (h:numL b=some (x,k)):x<18446744073709551616:=m0 b 0 0 x k (by omega) (by simp) (by omega) h
theorem eQ (r:RS):r.uint.1<18446744073709551616:=by
 unfold RS.uint RS.take
 split
 ·simp
 ·split
  ·simp
  ·rename_i x n h;exact eY h
theorem gS (p:Nat) (r:RS) (S:Nat->Prop) (w:O) (h:Rd w S p r):
 Calls prog 134 #[.pointer (some ⟨p,0,none⟩)] w fun e w' =>e= .returned (.int .i64 r.int.1)/\xY w S p r.int.2 w' :=by
 have g:=Y1;have H:=zA (kO p r S w h);have d:=zA (GG r.uint.1 (eQ r));have i:=eQ r;have a:r.int=(back r.uint.1,r.uint.2):=rfl;have c:=zA a;clear h a;go_enter func134,ntmps134;go_wp2_with fail;refine H.o.mono ?_;rintro e j ⟨rfl,b⟩;have f:=zA b;clear b;go_wp2;go_ret
 rw [c.o];exact⟨by rw [<-d.o];rfl,f.o⟩
theorem C8 (a:Nat) (t:a<=4611686018427387904) (m:V) (o Bm:Nat) (A:aA) (n c:Nat) (l:aC) (w:O) (g:n<=c) (p:c<=9223372036854775807) (h:RB w A n l) (r:w.cell? ⟨o,0,none⟩=some m) (s:w.cell? ⟨Bm,0,none⟩=some (.int .i64 (a:Int))):
 Calls prog 132 #[.slice A n c,.pointer (some ⟨o,0,none⟩),.pointer (some ⟨Bm,0,none⟩)] w fun e w' =>e= .returned (.tuple #[(match Xl a l with|none=> .int .i64 0|some x=> .int .i64 (x.1:Int)),.int .i64 (match Xl a l with|none=> -1|some x=>(x.2:Int))])/\Below w.heap.size w w' :=by
 have b:=VU m A n c l w g p h;rcases hq:numL l with _|⟨x,k⟩
 ·have f:Xl a l=none:=(by unfold Xl;rw [hq]);rw [hq]at b;rw [f];have j:Hid (Calls prog 133 #[m,.slice A n c] w fun e w' =>e= .returned (.tuple #[.int .u64 0,.int .i64 (-1)])/\w=w'):=b;clear b hq f h;go_enter func132,ntmps132;go_wp2_with fail;refine j.o.mono ?_;rintro e w' ⟨rfl,rfl⟩;go_wp2;go_ret2;exact⟨rfl,zE _ _⟩
 ·have u:=eY hq;rw [hq]at b;have j:Hid (Calls prog 133 #[m,.slice A n c] w fun e w' =>e= .returned (.tuple #[.int .u64 (x:Int),.int .i64 (k:Int)])/\w=w'):=b;have q:k<=n:=by have:=Yw _ _ _ hq;have:=h.len;omega
  by_cases d:x<=a
  ·have f:Xl a l=some (x,k):=(by unfold Xl;rw [hq];simp [d]);rw [f];have i :(x:Int)<=a:=(by omega);clear b hq f h d;go_enter func132,ntmps132;go_wp2_with fail;refine j.o.mono ?_;rintro e w' ⟨rfl,rfl⟩;go_wp2;go_ret2;exact⟨rfl,zE _ _⟩
  ·have f:Xl a l=none:=(by unfold Xl;rw [hq];simp [d]);rw [f];have i :(a:Int)<x:=(by omega);clear b hq f h d;go_enter func132,ntmps132;go_wp2_with fail;refine j.o.mono ?_;rintro e w' ⟨rfl,rfl⟩;go_wp2;go_ret2;exact⟨rfl,zE _ _⟩
theorem IF (a:Nat) (s:a<=4611686018427387904) (p:Nat) (r:RS) (S:Nat->Prop) (w:O) (h:Rd w S p r):
 Calls prog 74 #[.pointer (some ⟨p,0,none⟩),.int .i64 (a:Int)] w fun e w' =>e= .returned (.int .i64 ((r.size a).1:Nat))/\xY w S p (r.size a).2 w' :=by
 have t:=Y1;have q:p<w.heap.size:=by obtain⟨_,_,_,_,_,_,h⟩:=h.cells;exact h
 have d:Below w.heap.size w ((w.alloc (.cells #[.pointer (some ⟨p,0,none⟩)] 167)).alloc (.cells #[.int .i64 (a:Int)] 3)):=((zE _ _).alloc (zC _) _).alloc (by simp) _
 have H:=GY 132 #[] #[.pointer (some ⟨w.heap.size,0,none⟩),.pointer (some ⟨w.heap.size+1,0,none⟩)] (Xl a) (r7 a) 0 rfl p r S _ (h.on d) (enters_of func132 (by kernel_rfl) rfl) (fun W A n c j u m o=>C8 a s (.pointer (some ⟨p,0,none⟩)) w.heap.size (w.heap.size+1) A n c r.rest W u m o ((j.cell (p:=⟨w.heap.size,0,none⟩) (by simp;omega)).trans (by simp)) ((j.cell (p:=⟨w.heap.size+1,0,none⟩) (by simp)).trans (by simp)))
 have H:=zA H;have f:=zA d;have i:r.size a=r.take 0 (Xl a):=rfl;have l:=zA i;clear h i d;go_enter func74,ntmps74;go_wp2_with fail;refine H.o.mono ?_;rintro e v ⟨rfl,k⟩;have g:=zA k;clear k;go_wp2;go_ret
 rw [l.o];exact⟨rfl,g.o.1,(Tch.new (S:=fun b=>b=p) f.o).trans g.o.2 (fun _ _ h=>h)⟩
theorem RB.text {w:O} {A:aA} {n c:Nat} {l:aC} (h:RB w A n l):(convert 65 9 (.slice A n c)).run prog w= .ok (.string ⟨l.toArray⟩) w:=by
 have hlen:=h.len;subst hlen;cases A with
 |none=>
  have i:l= []:=by
   rcases zi l.length with d|d
   ·exact zS d
   ·obtain⟨_,_,hA,_⟩:=h.2 d;cases hA
  subst i;exact run_convert_bytes_nil w 65 5 underlying65 underlying5 0 c 9 underlying9
 |some a=>
  refine run_convert_bytes_back w 65 9 5 a c l underlying65 underlying5 underlying9 (fun j g=> ?_);obtain⟨b,off,e,_,f⟩:=h.2 (by omega);cases e;rw [Qq];exact f j _ (V4 (zB g))
theorem RB.take {w:O} {A:aA} {n x:Nat} {l:aC} (h:RB w A n l) (f:x<=n):RB w A x (l.take x):=by
 refine⟨by rw [dF,zr,h.len];omega,fun e=> ?_⟩;obtain⟨b,off,rfl,c,d⟩:=h.2 (by omega);refine⟨b,off,rfl,c,fun j u a=>d j u ?_⟩;simp only [bC,List.map_take,yy]at a⊢
 split at a
 ·exact a
 ·cases a
theorem CT (a:Nat) (B:a<=4611686018427387904) (p:V) (s Bm:Nat) (A:aA) (n c:Nat) (l:aC) (w:O) (h:n<=c) (u:c<=9223372036854775807) (j:RB w A n l) (y:w.cell? ⟨s,0,none⟩=some p) (z:w.cell? ⟨Bm,0,none⟩=some (.int .i64 (a:Int))):
 Calls prog 255 #[.slice A n c,.pointer (some ⟨s,0,none⟩),.pointer (some ⟨Bm,0,none⟩)] w fun e w' =>e= .returned (.tuple #[(match XF a l with|none=> .string ⟨#[]⟩|some x=> .string ⟨x.1.toArray⟩),.int .i64 (match XF a l with|none=> -1|some x=>(x.2:Int))])/\Below w.heap.size w w' :=by
 have b:=VU p A n c l w h u j;have hlen:=j.len;rcases hq:numL l with _|⟨x,k⟩
 ·have g:XF a l=none:=(by unfold XF;rw [hq]);rw [hq]at b;rw [g];have m:Hid (Calls prog 133 #[p,.slice A n c] w fun e w' =>e= .returned (.tuple #[.int .u64 0,.int .i64 (-1)])/\w=w'):=b;clear b hq g j hlen;go_enter func255,ntmps255;go_wp2_with fail;refine m.o.mono ?_;rintro e w' ⟨rfl,rfl⟩;go_wp2;go_ret2;exact⟨rfl,zE _ _⟩
 ·have C:=eY hq;rw [hq]at b;have m:Hid (Calls prog 133 #[p,.slice A n c] w fun e w' =>e= .returned (.tuple #[.int .u64 (x:Int),.int .i64 (k:Int)])/\w=w'):=b;have r:k<=n:=(by have:=Yw _ _ _ hq;omega);have t :(k:Int)<=n:=by omega
  by_cases f:x<=a
  ·by_cases d:x<=n - k
   ·have g:XF a l=some ((l.drop k).take x,k+x):=(by unfold XF;rw [hq];simp [f,hlen,d]);rw [g];have i :(x:Int)<=a:=(by omega);have o:(x:Int)<=(n:Int) - k:=(by omega);obtain⟨v,hA3⟩:=eX ((if c=k then A else Option.map (fun x=>x.add k) A));have q:=(((j.tail h r).take d)).text (c:=c - k);rw [hA3]at q;clear b hq g j f d;go_enter func255,ntmps255
    go_wp2_with fail;refine m.o.mono ?_;rintro e w' ⟨rfl,rfl⟩;go_wp2;go_ret2;exact⟨by simp only [Int.natCast_add];rfl,zE _ _⟩
   ·have g:XF a l=none:=(by unfold XF;rw [hq];simp [hlen,d]);rw [g];have i :(x:Int)<=a:=(by omega);have o:(n:Int) - k<x:=(by omega);clear b hq g j f d;go_enter func255,ntmps255;go_wp2_with fail;refine m.o.mono ?_;rintro e w' ⟨rfl,rfl⟩;go_wp2;go_ret2;exact⟨rfl,zE _ _⟩
  ·have g:XF a l=none:=(by unfold XF;rw [hq];simp [f]);rw [g];have i :(a:Int)<x:=(by omega);clear b hq g j f;go_enter func255,ntmps255;go_wp2_with fail;refine m.o.mono ?_;rintro e w' ⟨rfl,rfl⟩;go_wp2;go_ret2;exact⟨rfl,zE _ _⟩
theorem GW (a:Nat) (s:a<=4611686018427387904) (p:Nat) (r:RS) (S:Nat->Prop) (w:O) (h:Rd w S p r):
 Calls prog 190 #[.pointer (some ⟨p,0,none⟩),.int .i64 (a:Int)] w fun e w' =>e= .returned (.string ⟨(r.text a).1.toArray⟩)/\xY w S p (r.text a).2 w' :=by
 have t:=Y1;have q:p<w.heap.size:=by obtain⟨_,_,_,_,_,_,h⟩:=h.cells;exact h
 have d:Below w.heap.size w ((w.alloc (.cells #[.pointer (some ⟨p,0,none⟩)] 167)).alloc (.cells #[.int .i64 (a:Int)] 3)):=((zE _ _).alloc (zC _) _).alloc (by simp) _
 have H:=CV 255 #[] #[.pointer (some ⟨w.heap.size,0,none⟩),.pointer (some ⟨w.heap.size+1,0,none⟩)] (XF a) (rX a) [] rfl p r S _ (h.on d) (enters_of func255 (by kernel_rfl) rfl) (fun W A n c j u m o=>CT a s (.pointer (some ⟨p,0,none⟩)) w.heap.size (w.heap.size+1) A n c r.rest W u m o ((j.cell (p:=⟨w.heap.size,0,none⟩) (by simp;omega)).trans (by simp)) ((j.cell (p:=⟨w.heap.size+1,0,none⟩) (by simp)).trans (by simp)))
 have H:=zA H;have f:=zA d;have i:r.text a=r.take [] (XF a):=rfl;have l:=zA i;clear h i d;go_enter func190,ntmps190;go_wp2_with fail;refine H.o.mono ?_;rintro e v ⟨rfl,k⟩;have g:=zA k;clear k;go_wp2;go_ret
 rw [l.o];exact⟨rfl,g.o.1,(Tch.new (S:=fun b=>b=p) f.o).trans g.o.2 (fun _ _ h=>h)⟩
theorem BU (m:Nat) (J:m<=4611686018427387904) (Bm:Nat) (A:aA) (n c:Nat) (l:aC) (w:O) (K:n<=140737488355328) (z:n<=c) (I:c<=9223372036854775807) (o:RB w A n l) (u:w.cell? ⟨Bm,0,none⟩=some (.int .i64 (m:Int))):
 Calls prog 140 #[.slice A n c,.pointer (some ⟨Bm,0,none⟩)] w fun e w' =>∃v,e= .returned (.tuple #[v,.int .i64 (match Y5 m l with|none=> -1|some x=>(x.2:Int))])/\BVal w' (Frm w.heap.size) v (match Y5 m l with|none=> []|some x=>x.1)/\Below w.heap.size w w' :=by
 have hlen:=o.len
 by_cases a:m<=n
 ·have j:Y5 m l=some (l.take m,m):=(by unfold Y5;rw [hlen,if_pos a]);rw [j];have i :(m:Int)<=n:=(by omega);have F:m<=c:=(by omega);have f:=fun W (b:Below w.heap.size w W)=>Xi A m c (bC (l.take m)) W (by omega) ((o.on b).take a).reads (xd _);have r:=zA f;have s:=ye u
  have y:∀W,Below w.heap.size w W->W.cell? ⟨Bm,0,none⟩=some (.int .i64 (m:Int))/\Below w.heap.size w W:=fun W b=>⟨(b.cell (p:=⟨Bm,0,none⟩) s).trans u,b⟩;have q:=zA y;have k:(l.take m).length=m:=(by rw [zr];omega);have d:=zA k;clear j o a y f k;go_enter func140,ntmps140;go_wp2
  go_region_held3 (fun W=>W.cell? ⟨Bm,0,none⟩=some (.int .i64 (m:Int))/\Below w.heap.size w W) (first|exact q.o _ (zE _ _)|exact q.o _ (zE _ _).drew|exact q.o _ (by assumption))
   (first
    |(go_at_call 56;refine(r.o _ (zE _ _).drew).mono ?_;rintro e D ⟨B,H,rfl,t,b⟩;have g:Below w.heap.size w D:=(zE _ _).drew.trans b;have E:=t.cap;have C:=zA t.clip;clear t b)
    |(go_at_call 55;refine(Zt _ _ _ _ (by omega) (by omega)).mono ?_;rintro e G ⟨rfl,rfl⟩))
  go_wp2;go_ret2;exact⟨_,rfl,⟨⟨B,by rw [d.o];rfl⟩,by unfold BR;rw [d.o];exact C.o.mono (fun _ _ h=>h)⟩,g⟩
 ·have j:Y5 m l=none:=(by unfold Y5;rw [hlen,if_neg a]);rw [j];have i :(n:Int)<m:=(by omega);clear j o a;go_enter func140,ntmps140;go_wp2;go_ret2;exact⟨_,rfl,BVal.nil _ _,zE _ _⟩
theorem Um (m:Nat) (x:m<=4611686018427387904) (p:Nat) (r:RS) (S:Nat->Prop) (w:O) (h:Rd w S p r):
 Calls prog 76 #[.pointer (some ⟨p,0,none⟩),.int .i64 (m:Int)] w fun e w' =>∃v,e= .returned v/\BVal w' (Frm w.heap.size) v (r.bytes m).1/\xY w S p (r.bytes m).2 w' :=by
 have y:=Y1;have u:p<w.heap.size:=by obtain⟨_,_,_,_,_,_,h⟩:=h.cells;exact h
 have C:=h.2.2.1;have a:Below w.heap.size w (w.alloc (.cells #[.int .i64 (m:Int)] 3)):=(zE _ _).alloc (zC _) _;have B:r.rest.length=r.b.length - r.at_:=by simp [RS.rest]
 have d:∀W A n c,Below (w.alloc (.cells #[.int .i64 (m:Int)] 3)).heap.size (w.alloc (.cells #[.int .i64 (m:Int)] 3)) W->n<=c->c<=9223372036854775807->RB W A n r.rest->_:=fun W A n c s z t k=>BU m x w.heap.size A n c r.rest W (by have:=k.len;omega) z t k ((s.cell (p:=⟨w.heap.size,0,none⟩) (by simp)).trans (by simp))
 have H:=vU 140 #[] #[.pointer (some ⟨w.heap.size,0,none⟩)] (Y5 m) (VL m) p r S _ (h.on a) (enters_of func140 (by kernel_rfl) rfl) d;clear d;have H:=zA H;have f:=zA a;have j:r.bytes m=r.take [] (Y5 m):=rfl;have q:=zA j;clear h j a;go_enter func76,ntmps76;go_wp2_with fail;refine H.o.mono ?_;rintro e D ⟨v,rfl,o,l⟩;have g:=zA l;have i:=zA o;clear l o;go_wp2;go_ret
 rw [q.o];exact⟨_,rfl,⟨i.o.1,i.o.2.mono (fun _ _ h=>by simp [Frm]at h⊢;omega)⟩,g.o.1,(Tch.new (S:=fun b=>b=p) f.o).trans g.o.2 (fun _ _ h=>h)⟩
theorem LV (p:Nat) (r:RS) (S:Nat->Prop) (w:O) (h:Rd w S p r):
 Calls prog 129 #[.pointer (some ⟨p,0,none⟩)] w fun e w' =>e= .returned (.int .i64 (r.fin.e:Int))/\xY w S p r.fin w' :=by
 obtain⟨A,c,m,n,i,s,v⟩:=h.cells;obtain⟨f,u⟩:=h.2.1;have H:=zA h;rcases u with a|a
 ·have o :w.cell? ⟨p,2,none⟩=some (.int .i64 0):=(by rw [i,a];rfl);have x:=h.frozen 2;have b:=zA (dX p r S w h)
  by_cases k:0<r.left
  ·have d:r.fin={r with e:=20}:=(by unfold RS.fin;rw [if_pos ⟨a,k⟩]);have g:=zA d;have q :(0:Int)<r.left:=(by omega);clear h m n i s f a d k;go_enter func129,ntmps129;go_wp2_with fail;refine b.o.mono ?_;rintro e l ⟨rfl,j,rfl⟩;go_wp2_with fail;refine(Zr p {r with e:=20} S _ ((H.o.on (zd (zE _ w) j)).put_e)).mono ?_;rintro e l ⟨rfl,rfl⟩;go_wp2;go_ret
   rw [g.o];exact⟨rfl,xY.of_e H.o (zd (zE _ w) j)⟩
  ·have d:r.fin=r:=(by unfold RS.fin;rw [if_neg (fun h=>k h.2)]);have g:=zA d;have q :(r.left:Int)<=0:=(by omega);have t:=zA a;clear h m n i s f a d k;go_enter func129,ntmps129;go_wp2_with fail;refine b.o.mono ?_;rintro e l ⟨rfl,j,rfl⟩;go_wp2_with fail;refine(Zr p r S _ (H.o.on (zd (zE _ w) j))).mono ?_;rintro e l ⟨rfl,rfl⟩;go_wp2;go_ret
   rw [g.o];exact⟨rfl,H.o.on (zd (zE _ w) j),Tch.new (zd (zE _ w) j)⟩
 ·have o :w.cell? ⟨p,2,none⟩=some (.int .i64 20):=(by rw [i,a];rfl);have d:r.fin=r:=(by unfold RS.fin;rw [if_neg (fun h=>by omega)]);have g:=zA d;have t:=zA a;clear h m n i s f a d;go_enter func129,ntmps129;go_wp2_with fail;refine(Zr p r S _ H.o).mono ?_;rintro e l ⟨rfl,rfl⟩;go_wp2;go_ret
  rw [g.o];exact⟨rfl,xY.same H.o⟩
end Go.Proofs.YtjbhbfaeielbiaaGreatDoor

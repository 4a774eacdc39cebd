import Derived.Test.YtjbhbfaeielbiaaGreatDoorPart03
import Derived.Lib.ItoaNum
import Derived.Lib.Slices
import Derived.Test.YtjbhbfaeielbiaaGreatDoorPart04
import Derived.Test.YtjbhbfaeielbiaaGreatDoorShelf
import Derived.Lib.EndianBits
import Derived.Lib.MinMax
import Derived.BigQuiet
import Derived.Deep.Light
set_option maxRecDepth 100000
set_option maxHeartbeats 8000000
set_option linter.unusedVariables false
set_option linter.unusedSimpArgs false
namespace Go.Proofs.YtjbhbfaeielbiaaGreatDoor
def ofB (f:Nat->Bool):Nat->Nat
 |0=>0
 |k+1=>ofB f k+(if f k then 2^k else 0)
theorem WM (f:Nat->Bool):∀k,ofB f k<2^k
 |0=>by simp [ofB]
 |k+1=>by
  have:=WM f k;rw [ofB,Nat.pow_succ]
  split<;>omega
theorem Vt (f:Nat->Bool):∀k i,i<k->(ofB f k).testBit i=f i
 |0,i,h=>by omega
 |k+1,i,h=>by
  rw [ofB]
  by_cases a:i=k
  ·subst a;cases hf:f i with
   |true=>rw [if_pos rfl,Nat.add_comm,Nat.testBit_two_pow_add_eq,Nat.testBit_lt_two_pow (WM f i)];rfl
   |false=>simp [Nat.testBit_lt_two_pow (WM f i)]
  ·cases hf:f k with
   |true=>rw [if_pos rfl,Nat.add_comm,Nat.testBit_two_pow_add_gt (by omega),Vt f k i (by omega)]
   |false=>simp [Vt f k i (by omega)]
theorem mZ (f:Nat->Bool) (k i:Nat) (h:k<=i):(ofB f k).testBit i=false:=
 Nat.testBit_lt_two_pow (zX (WM f k) (yB (by omega) h))
theorem fU {n k:Nat} {f:Nat->Bool} (b:n<2^k) (h:∀i,i<k->n.testBit i=f i):n=ofB f k:=by
 refine Nat.eq_of_testBit_eq fun i=> ?_;rcases zk i k with a|a
 ·rw [h i a,Vt f k i a]
 ·rw [mZ f k i a,Nat.testBit_lt_two_pow (zX b (yB (by omega) a))]
def N9 (l:aE) (w i:Nat):Bool:=decide (i<w*l.length) && (l[i / w]?.getD 0).testBit (i%w)
def R8 (b:aC) (i:Nat):Bool:=((b[i / 8]?.map UInt8.toNat).getD 0).testBit (i%8)
def yK (w n:Nat):Nat:=(w*n+7) / 8
def Z8 (l:aE) (w:Nat):aC:=(List.range (yK w l.length)).map fun j=>(ofB (fun i=>N9 l w (8*j+i)) 8).toUInt8
theorem XU (l:aE) (w:Nat):(Z8 l w).length=yK w l.length:=by simp [Z8]
theorem Us (l:aE) (w i:Nat):R8 (Z8 l w) i=N9 l w i:=by
 unfold R8 Z8;rw [zH];rcases zk (i / 8) (yK w l.length)with h|h
 ·rw [zq h];simp only [yk,yq];have b:=WM (fun a=>N9 l w (8*(i / 8)+a)) 8;rw [Nat.toUInt8,UInt8.toNat_ofNat',zy (by omega),Vt _ 8 _ (by omega)]
  congr 1;omega
 ·rw [zh (by simpa using h)];simp only [Option.map_none,Option.getD_none,Nat.zero_testBit];unfold N9 yK at*;rw [decide_eq_false (by omega)];rfl
theorem mW {l:aE} {w:Nat} {b:aC} (d:b.length=yK w l.length) (h:∀i,i<8*b.length->R8 b i=N9 l w i):b=Z8 l w:=by
 refine yX fun j=> ?_;rcases zk j b.length with a|a
 ·rw [zB a,Z8,zH,zq (by omega)];simp only [yk,Option.some.injEq]
  have:b[j].toNat=ofB (fun i=>N9 l w (8*j+i)) 8:=by
   refine fU (by have:=b[j].toNat_lt;omega) fun i c=> ?_;have:=h (8*j+i) (by omega);rw [<-this];unfold R8;rw [show(8*j+i) / 8=j by omega,show(8*j+i)%8=i by omega,zB a];rfl
  rw [<-this];simp
 ·rw [zh a,zh (by rw [XU];omega)]
def YE (b:aC) (w n:Nat):aE:=(List.range n).map fun i=>ofB (fun k=>R8 b (i*w+k)) w
theorem tK {l:aE} {w:Nat} (h:∀x∈l,x<2^w):YE (Z8 l w) w l.length=l:=by
 refine yX fun j=> ?_;unfold YE;rw [zH];rcases zk j l.length with a|a
 ·rw [zq a,zB a];simp only [yk,Option.some.injEq];refine(fU (h _ (List.getElem_mem a)) fun k b=> ?_).symm;rw [Us];unfold N9;have f:0<w:=(by omega);have c:(j*w+k) / w=j:=(by rw [Nat.mul_comm,Nat.mul_add_div f,Nat.div_eq_of_lt b,yt]);have d:(j*w+k)%w=k:=(by rw [Nat.mul_comm,Nat.mul_add_mod,zy b])
  have e:j*w+k<w*l.length:=by
   have:(j+1)*w<=l.length*w:=yj w (by omega);rw [xK,Nat.one_mul]at this;rw [Nat.mul_comm w];omega
  rw [c,d,decide_eq_true e,zB a];rfl
 ·rw [zh (by simpa using a),zh a];rfl
def orL (l:aE):Nat:=l.foldl (·|||·) 0
def ZW (l:aE):Nat:=Lib.bitLen (orL l)
theorem mX (l:aE) (a:Nat):l.foldl (·|||·) a=a|||orL l:=by
 induction l generalizing a with
 |nil=>simp [orL]
 |cons x l ih=>simp only [List.foldl_cons,orL];rw [ih,ih (0|||x)];simp [Nat.or_assoc]
theorem I0 (l:aE) (x:Nat):orL (l++ [x])=orL l|||x:=by simp [orL]
theorem NC {l:aE} {x:Nat} (h:x∈l):x<=orL l:=by
 induction l with
 |nil=>cases h
 |cons y l ih=>
  have e:orL (y::l)=y|||orL l:=by
   show List.foldl (·|||·) (0|||y) l=_;rw [mX];simp
  rw [e];rcases yx.1 h with rfl|h
  ·exact Nat.left_le_or
  ·exact zY (ih h) Nat.right_le_or
theorem fQ {l:aE} {k:Nat} (h:∀x∈l,x<2^k):orL l<2^k:=by
 induction l with
 |nil=>exact xU k
 |cons y l ih=>
  have e:orL (y::l)=y|||orL l:=by
   show List.foldl (·|||·) (0|||y) l=_;rw [mX];simp
  rw [e];exact Nat.or_lt_two_pow (h y (by simp)) (ih fun x a=>h x (by simp [a]))
theorem ED {x:Nat} (h:x<2^64):x<2^Lib.bitLen x:=by
 by_cases a:x=0
 ·subst a;exact xU _
 ·exact(Lib.bitLenAux_bounds 64 x h a).2.2
theorem CI {l:aE} (h:∀x∈l,x<2^64) {x:Nat} (a:x∈l):x<2^ZW l:=
 Nat.lt_of_le_of_lt (NC a) (ED (fQ h))
theorem UU {l:aE} (h:∀x∈l,x<2^64):ZW l<=64:=Lib.bitLen_le _ 64 (zC _) (fQ h)
def minN (l:aE):Nat:=l.foldl min (l.headD 0)
theorem nC {l:aD} {x:Int} (h:x∈l):Lib.minOf l<=x:=by
 have c:∀(l:aD) (a:Int),l.foldl min a<=a/\∀y∈l,l.foldl min a<=y:=by
  intro l
  induction l with
  |nil=>intro a;exact⟨Int.le_refl _,fun y b=>by cases b⟩
  |cons z l ih=>
   intro a;have:=ih (min a z);refine⟨by have:=this.1;simp only [List.foldl_cons];omega,fun y b=> ?_⟩;rcases yx.1 b with rfl|b
   ·have:=this.1;simp only [List.foldl_cons];omega
   ·exact this.2 y b
 exact(c l _).2 x h
theorem Wn {l:aD} (h:l≠ []):Lib.minOf l∈l:=by
 have b:∀(l:aD) (a:Int),l.foldl min a=a\/l.foldl min a∈l:=by
  intro l
  induction l with
  |nil=>intro a;exact .inl rfl
  |cons z l ih=>
   intro a;simp only [List.foldl_cons,yx];rcases ih (min a z)with e|e
   ·rw [e];rcases Int.le_total a z with h|h
    ·left;omega
    ·right;left;omega
   ·exact .inr (.inr e)
 cases l with
 |nil=>exact absurd rfl h
 |cons a l=>
  rcases b (a::l) ((a::l).headD 0)with e|e
  ·rw [Lib.minOf,e];simp
  ·exact e
theorem D1 {l:aE} (h:0∈l):minN l=0:=by
 have c:∀(l:aE) (a:Nat),l.foldl min a<=a/\∀y∈l,l.foldl min a<=y:=by
  intro l
  induction l with
  |nil=>intro a;exact⟨zC _,fun y b=>by cases b⟩
  |cons z l ih=>
   intro a;have:=ih (min a z);refine⟨by have:=this.1;simp only [List.foldl_cons];omega,fun y b=> ?_⟩;rcases yx.1 b with rfl|b
   ·have:=this.1;simp only [List.foldl_cons];omega
   ·exact this.2 y b
 have:=(c l (l.headD 0)).2 0 h;unfold minN;omega
def xv (l:aD):aE:=l.map fun n=>(n - Lib.minOf l).toNat
def Zf (l:aD):aC:=zP (yc (Lib.minOf l))++((ZW (xv l)).toUInt8::Z8 (xv l) (ZW (xv l)))
def putL (l:aD):aC:=if h:l= []then []else Zf (l.take 128)++putL (l.drop 128)
 termination_by l.length
 decreasing_by simp;have:=List.length_pos_iff.2 h;omega
theorem QP:putL []= []:=by unfold putL;simp
theorem U6 {l:aD} (h:l≠ []):putL l=Zf (l.take 128)++putL (l.drop 128):=by rw [putL,dif_neg h]
def Z2 (b:aC) (w n:Nat):Option aE:=
 if b.length≠yK w n then none else if (w*n)%8>0/\(b[(w*n) / 8]?.getD 0).toNat / 2^((w*n)%8)≠0 then none else some (YE b w n)
def xu (least:Int):aE->Option aD
 | []=>some []
 |u::l=>if least+u<=9223372036854775807 then(xu least l).map ((least+u)::·)else none
def QV (n:Nat):Nat->aD->RS->Option (aD×Nat)
 |0,_,_=>none
 |f+1,l,r=>
  if l.length<n then
   let x:=r.int
   let w:=x.2.bytes 1
   let wd:=(w.1.headD 0).toNat
   if w.2.e≠0\/64<wd then none else
    let k:=min (n - l.length) 128
    let bs:=w.2.bytes (yK wd k)
    match Z2 bs.1 wd k with
    |none=>none
    |some above=>if bs.2.e≠0\/ZW above≠wd\/minN above≠0 then none else
     match xu x.1 above with
     |none=>none
     |some xs=>QV n f (l++xs) bs.2
  else some (l,r.at_)
def getL (b:aC) (n:Nat):Option (aD×Nat):=QV n (n+1) [] ⟨b,0,0⟩
theorem tL {l:aE} {w:Nat} (h:∀x∈l,x<2^w):Z2 (Z8 l w) w l.length=some l:=by
 unfold Z2;rw [if_neg (by simp [XU]),if_neg ?_,tK h];rintro⟨f,e⟩
 apply e
 rw [Nat.div_eq_zero_iff_lt (xU _)];refine Nat.lt_pow_two_of_testBit _ fun i j=> ?_;have a:=Us l w (8*((w*l.length) / 8)+i)
 by_cases g:i<8
 ·have b:(8*((w*l.length) / 8)+i) / 8=(w*l.length) / 8:=(by omega);have c:(8*((w*l.length) / 8)+i)%8=i:=(by omega);unfold R8 at a;rw [b,c]at a
  have d:((Z8 l w)[(w*l.length) / 8]?.getD 0).toNat=((Z8 l w)[(w*l.length) / 8]?.map UInt8.toNat).getD 0:=by
   cases (Z8 l w)[(w*l.length) / 8]? <;>rfl
  rw [d,a];unfold N9;rw [decide_eq_false (by omega)];rfl
 ·exact Nat.testBit_lt_two_pow (zX (UInt8.toNat_lt _) (yB (by omega) (by omega)))
def InL (l:aD):Prop:=∀x∈l, -9223372036854775808<=x/\x<=9223372036854775807
theorem Wv {l:aD} (h:InL l):∀x∈xv l,x<2^64:=by
 intro x c;obtain⟨n,a,rfl⟩:=List.mem_map.1 c;have b:l≠ []:=fun e=>by rw [e]at a;cases a
 have d:=h n a;have f:=h _ (Wn b);omega
theorem tC {l:aD} (h:InL l):xu (Lib.minOf l) (xv l)=some l:=by
 have b:∀t:aD,(∀x∈t,x∈l)->xu (Lib.minOf l) (t.map fun n=>(n - Lib.minOf l).toNat)=some t:=by
  intro t
  induction t with
  |nil=>intro _;rfl
  |cons x t ih=>
   intro a;have f:=nC (a x (by simp));have c:=h x (a x (by simp));have e:Lib.minOf l+((x - Lib.minOf l).toNat:Int)=x:=(by omega);simp only [yH,xu];rw [e,if_pos c.2,ih fun y d=>a y (by simp [d])];rfl
 exact b l fun _ h=>h
theorem CF {l:aD} (h:l≠ []):minN (xv l)=0:=
 D1 (List.mem_map.2 ⟨_,Wn h,by omega⟩)
theorem ET:∀(f n:Nat) (done a:aD) (pre post:aC),a.length<f->n=done.length+a.length->InL a->QV n f done (rsAt pre (putL a++post))=some (done++a,(pre++putL a).length):=by
 intro f
 induction f with
 |zero=>intro n done a pre post h;omega
 |succ f ih=>
  intro n done a pre post s r c
  by_cases i:a= []
  ·subst i;unfold QV;rw [if_neg (by simp at r;omega),QP];simp [rsAt]
  ·have p:=List.length_pos_iff.2 i;have b :InL (a.take 128):=fun x g=>c x (yu g)
   have d:a.take 128≠ []:=by
    intro e;rcases List.take_eq_nil_iff.1 e with h|h
    ·omega
    ·exact i h
   have t:=UU (Wv b);have o:(xv (a.take 128)).length=min (n - done.length) 128:=(by simp [xv];omega);have q:((ZW (xv (a.take 128))).toUInt8).toNat=ZW (xv (a.take 128)):=Yt (by omega);rw [U6 i];unfold QV;rw [if_pos (by omega)];unfold Zf;simp only [zO,yI];rw [Vm (b _ (Wn d))]
   have j:=X4 [(ZW (xv (a.take 128))).toUInt8] (pre++zP (yc (Lib.minOf (a.take 128)))) (Z8 (xv (a.take 128)) (ZW (xv (a.take 128)))++(putL (a.drop 128)++post));simp only [z6,yO,zx,yI,zZ]at j;simp only [j,List.headD_cons,q];rw [if_neg (by simp [rsAt];omega)]
   have k:=X4 (Z8 (xv (a.take 128)) (ZW (xv (a.take 128)))) (pre++zP (yc (Lib.minOf (a.take 128)))++ [(ZW (xv (a.take 128))).toUInt8]) (putL (a.drop 128)++post);rw [XU,o]at k;have m:=tL (l:=xv (a.take 128)) fun x g=>CI (Wv b) g;rw [o]at m;simp only [k,m];rw [if_neg (by simp [rsAt,CF d]),tC b];simp only
   rw [ih n (done++a.take 128) (a.drop 128) _ post (by simp;omega) (by simp;omega) (fun x g=>c x (List.mem_of_mem_drop g))];simp
theorem d7 {l:aD} (h:InL l) (post:aC):getL (putL l++post) l.length=some (l,(putL l).length):=by
 have:=ET (l.length+1) l.length [] l [] post (by omega) (by simp) h
 simpa [rsAt,getL]using this
open Tryz
open Go.RowKit
theorem cI (w n:Nat) (c:w<=64) (b:n<=1048576) (W:O):
 Calls prog 136 #[.int .i64 (w:Int),.int .i64 (n:Int)] W fun e w' =>e= .returned (.int .i64 (yK w n:Nat))/\W=w' :=by
 have g:w*n<=64*1048576:=Nat.mul_le_mul c b;obtain⟨P,a⟩:∃P:Nat,P=w*n:=⟨_,rfl⟩;have f:(w:Int)*(n:Int)=(P:Int):=by rw [a,Int.natCast_mul]
 have e:((yK w n:Nat):Int)=((P:Int)+7) / 8:=by unfold yK;rw [<-a];omega
 have d:P<=67108864:=by omega
 have E:=zA e;clear g a e c b;go_enter func136,ntmps136;go_wp2;go_ret
 exact⟨by rw [E.o];rfl,rfl⟩
theorem qA {a b:Nat} (c:a<18446744073709551616) (d:b<18446744073709551616):bits .or .u64 (a:Int) (b:Int)=((a|||b:Nat):Int):=by
 show IntKind.u64.wrap ((BitVec.ofInt 64 (a:Int)|||BitVec.ofInt 64 (b:Int)).toNat:Int)=_
 rw [yE,yE,BitVec.toNat_or,yJ,yJ,zy (by omega),zy (by omega),zW];have:=Nat.or_lt_two_pow (n:=64) c d;omega
def RU (w:O) (A:aA) (n:Nat) (l:aE):Prop:=RC w 1 A n (uC l)
theorem RU.len {w:O} {A:aA} {n:Nat} {l:aE} (h:RU w A n l):l.length=n:=by have:=h.1;rw [MM]at this;omega
theorem RU.at_ {w:O} {A:aA} {n k:Nat} {l:aE} (h:RU w A n l) (e:k<n):∃b off x:Nat,A=some ⟨b,off,none⟩/\b<w.heap.size/\w.cell? ⟨b,off+k,none⟩=some (.int .u64 (x:Int))/\Hid (l[k]? =some x):=by
 have f:=h.len;obtain⟨b,off,rfl,c,d⟩:=h.2 (by omega);have a :k<l.length:=by omega
 exact⟨b,off,l[k],rfl,c,d k _ (WB (zB a)),zB a⟩
theorem RU.on {w w' :O} {A:aA} {n:Nat} {l:aE} (h:RU w A n l) (a:Below w.heap.size w w'):RU w' A n l:=RC.on h a
def RI (w:O) (A:aA) (n:Nat) (l:aD):Prop:=RC w 1 A n (ints l)
theorem RI.len {w:O} {A:aA} {n:Nat} {l:aD} (h:RI w A n l):l.length=n:=by have:=h.1;rw [Xd]at this;omega
theorem RI.at_ {w:O} {A:aA} {n k:Nat} {l:aD} (h:RI w A n l) (e:k<n):∃b off x,A=some ⟨b,off,none⟩/\b<w.heap.size/\w.cell? ⟨b,off+k,none⟩=some (.int .i64 x)/\Hid (l[k]? =some x):=by
 have f:=h.len;obtain⟨b,off,rfl,c,d⟩:=h.2 (by omega);have a :k<l.length:=by omega
 exact⟨b,off,l[k],rfl,c,d k _ (dZ a),zB a⟩
theorem RI.on {w w' :O} {A:aA} {n:Nat} {l:aD} (h:RI w A n l) (a:Below w.heap.size w w'):RI w' A n l:=RC.on h a
theorem IZ {l:aE} {k x:Nat} (a:l[k]? =some x):orL (l.take (k+1))=orL (l.take k)|||x:=by
 rw [zI,a];exact I0 _ _
theorem kL (A:aA) (n c:Nat) (l:aE) (w:O) (z:n<=9223372036854775807) (g:RU w A n l) (p:∀x∈l,x<18446744073709551616):
 Calls prog 137 #[.slice A n c] w fun e w' =>e= .returned (.int .i64 (ZW l:Nat))/\w=w' :=by
 have hlen:=zA g.len;have r:=zA g;have m:=zA p;clear g p;have d:∀k,orL (l.take k)<18446744073709551616:=fun k=>fQ (k:=64) (fun x j=>m.o x (yu j));have f:=zA d;clear d;go_enter func137,ntmps137;go_wp2_with fail
 go_loop [3,8] (fun a i=>∃k:Nat,k<=n/\i= .int .i64 k/\a= .int .u64 (orL (l.take k):Nat)) (fun _ i=>n - (intOf i).toNat)
 case atStart=>exact⟨0,zJ _,rfl,rfl⟩
 case round=>
  obtain⟨k,y,rfl,rfl⟩:=hrel;have u:=f.o k
  by_cases h:k<n
  ·obtain⟨b,off,x,rfl,_,v,o⟩:=r.o.at_ h
   have j:=m.o x (zD o.o);have s:=zA (qA u j);have t:=zA (IZ o.o);go_wp2_with fail
   go_round
   case rel=>exact⟨k+1,by omega,by go_num,by rw [s.o,t.o]⟩
   case measure=>simp [intOf];omega
  ·obtain rfl:k=n:=by omega
   have q:Hid (l.take k=l):=zF (by have:=hlen.o;omega);go_wp2_with fail;refine(Tryz.bits_Len64 _ _ (by omega) (by omega)).mono ?_;rintro e w' ⟨rfl,rfl⟩;go_wp2;go_ret
   exact⟨by rw [show ZW l=Lib.bitLen (orL (l.take k)) by unfold ZW;rw [q.o]];rfl,rfl⟩
def minI (l:aD):Int:=Lib.minOf l
theorem I8 {l:aD} {x:Int} (h:l[0]? =some x):minI (l.take 1)=x:=by
 cases l with
 |nil=>cases h
 |cons a t=>simp at h;subst h;simp [minI,Lib.minOf]
theorem D4 {l:aD} {k:Nat} {x:Int} (b:1<=k) (h:l[k]? =some x):minI (l.take (k+1))=min (minI (l.take k)) x:=by
 cases l with
 |nil=>cases h
 |cons a t=>
  obtain⟨j,rfl⟩:∃j,k=j+1:=⟨k - 1,by omega⟩;rw [zI,h];simp [minI,Lib.minOf,xE]
theorem I7 {l:aE} {x:Nat} (h:l[0]? =some x):minN (l.take 1)=x:=by
 cases l with
 |nil=>cases h
 |cons a t=>simp at h;subst h;simp [minN]
theorem D3 {l:aE} {k x:Nat} (b:1<=k) (h:l[k]? =some x):minN (l.take (k+1))=min (minN (l.take k)) x:=by
 cases l with
 |nil=>cases h
 |cons a t=>
  obtain⟨j,rfl⟩:∃j,k=j+1:=⟨k - 1,by omega⟩;rw [zI,h];simp [minN,xE]
theorem LF (A:aA) (n c:Nat) (l:aD) (w:O) (t:0<n) (z:n<=9223372036854775807) (f:RI w A n l):
 Calls prog 160 #[.slice A n c] w fun e w' =>e= .returned (.int .i64 (minI l:Int))/\w=w' :=by
 have hlen:=zA f.len;obtain⟨b,off,x0,rfl,_,d,g⟩:=f.at_ t
 have m :w.cell? ⟨b,off,none⟩=some (.int .i64 (x0:Int)):=d;have q:=zA f;clear f d;go_enter func160,ntmps160;go_wp2_with fail
 go_loop [3,4] (fun a i=>∃k:Nat,1<=k/\k<=n/\i= .int .i64 k/\a= .int .i64 (minI (l.take k):Int)) (fun _ i=>n - (intOf i).toNat)
 case atStart=>exact⟨1,by omega,by omega,rfl,by rw [I8 g.o]⟩
 case round=>
  obtain⟨k,h,y,rfl,rfl⟩:=hrel
  by_cases j:k<n
  ·obtain⟨v,o,x,e,_,u,s⟩:=q.o.at_ j
   cases e;have r:=zA (D4 h s.o);go_wp2_with fail
   go_round
   case rel=>exact⟨k+1,by omega,by omega,by go_num,by rw [r.o]⟩
   case measure=>simp [intOf];omega
  ·obtain rfl:k=n:=by omega
   have p:Hid (l.take k=l):=zF (by have:=hlen.o;omega);go_wp2;go_ret
   exact⟨by rw [p.o];rfl,rfl⟩
theorem LE (A:aA) (n c:Nat) (l:aE) (w:O) (t:0<n) (z:n<=9223372036854775807) (f:RU w A n l):
 Calls prog 138 #[.slice A n c] w fun e w' =>e= .returned (.int .u64 (minN l:Nat))/\w=w' :=by
 have hlen:=zA f.len;obtain⟨b,off,x0,rfl,_,d,g⟩:=f.at_ t
 have m :w.cell? ⟨b,off,none⟩=some (.int .u64 (x0:Int)):=d;have q:=zA f;clear f d;go_enter func138,ntmps138;go_wp2_with fail
 go_loop [3,4] (fun a i=>∃k:Nat,1<=k/\k<=n/\i= .int .i64 k/\a= .int .u64 (minN (l.take k):Nat)) (fun _ i=>n - (intOf i).toNat)
 case atStart=>exact⟨1,by omega,by omega,rfl,by rw [I7 g.o]⟩
 case round=>
  obtain⟨k,h,y,rfl,rfl⟩:=hrel
  by_cases j:k<n
  ·obtain⟨v,o,x,e,_,u,s⟩:=q.o.at_ j
   cases e;have r:=zA (D3 h s.o);go_wp2_with fail
   go_round
   case rel=>exact⟨k+1,by omega,by omega,by go_num,by rw [r.o];congr 1;omega⟩
   case measure=>simp [intOf];omega
  ·obtain rfl:k=n:=by omega
   have p:Hid (l.take k=l):=zF (by have:=hlen.o;omega);go_wp2;go_ret
   exact⟨by rw [p.o];rfl,rfl⟩
def YW (l:aE) (wd N a:Nat) (cur:aC):Prop:=cur.length=N/\∀j,R8 cur j=(decide (j<a) && N9 l wd j)
theorem YW.start (l:aE) (wd N:Nat):YW l wd N (wd*0) (List.replicate N 0):=by
 refine⟨by simp,fun j=> ?_⟩;rw [decide_eq_false (by omega)];unfold R8;rw [List.getElem?_replicate]
 split<;>simp
def Zd (y x j T r:Nat):Nat:=y|||(x / 2^j%2^T*2^r)
theorem gM {x j T r:Nat} (h:r+T<=8):x / 2^j%2^T*2^r<256:=by
 have b:x / 2^j%2^T<2^T:=Nat.mod_lt _ (xU T);have a:x / 2^j%2^T*2^r<2^T*2^r:=Nat.mul_lt_mul_of_pos_right b (xU r);rw [<-Nat.pow_add]at a;exact zX a (by rw [show(256:Nat)=2^8 from rfl];exact yB (by omega) (by omega))
theorem WE {y x j T r:Nat} (a:y<256) (h:r+T<=8):Zd y x j T r<256:=Nat.or_lt_two_pow (n:=8) a (gM h)
theorem rY {y x j T r s:Nat}:(Zd y x j T r).testBit s=(y.testBit s||(decide (r<=s) && (decide (s - r<T) && x.testBit (j+(s - r))))):=by
 unfold Zd;rw [Nat.testBit_or,<-Nat.shiftLeft_eq,Nat.testBit_shiftLeft,Nat.testBit_mod_two_pow,Nat.testBit_div_two_pow]
 congr 2
 rw [Nat.add_comm]
theorem qK {a b:Nat} (c:a<256) (d:b<256):bits .or .u8 (a:Int) (b:Int)=((a|||b:Nat):Int):=by
 show IntKind.u8.wrap ((BitVec.ofInt 8 (a:Int)|||BitVec.ofInt 8 (b:Int)).toNat:Int)=_
 rw [yE,yE,BitVec.toNat_or,yJ,yJ,zy (by omega),zy (by omega),IntKind.wrap_u8];have:=Nat.or_lt_two_pow (n:=8) c d;omega
theorem KL {X T:Nat} (c:X<18446744073709551616) (b:T<=8):bits .and .u64 (X:Int) (IntKind.u64.wrap (IntKind.u64.wrap (2^T) - 1))=((X%2^T:Nat):Int):=by
 have d:(2:Nat)^T<=2^8:=yB (by omega) b;have a:=xU T
 have e:IntKind.u64.wrap (IntKind.u64.wrap (2^T) - 1)=((2^T - 1:Nat):Int):=by
  rw [show(2:Int)^T=((2^T:Nat):Int) by rw [Int.natCast_pow];rfl];generalize 2^T=P at*;rw [zW,zW];omega
 rw [e];show IntKind.u64.wrap ((BitVec.ofInt 64 (X:Int) &&& BitVec.ofInt 64 ((2^T - 1:Nat):Int)).toNat:Int)=_;rw [yE,yE,BitVec.toNat_and,yJ,yJ,zy (by omega),zy (by omega),Nat.and_two_pow_sub_one_eq_mod,zW];have:X%2^T<2^T:=Nat.mod_lt _ a;omega
theorem vX {y x j T r:Nat} (f:y<256) (e:x<18446744073709551616) (h:r+T<=8):
 bits .or .u8 (y:Int) (bits .and .u64 ((x:Int) / 2^j) (IntKind.u64.wrap (IntKind.u64.wrap (2^T) - 1))%256*2^r%256)=((Zd y x j T r:Nat):Int):=by
 have b:(x:Int) / 2^j=((x / 2^j:Nat):Int):=by
  rw [Int.natCast_ediv,Int.natCast_pow];rfl
 have d:x / 2^j<18446744073709551616:=Nat.lt_of_le_of_lt (Nat.div_le_self _ _) e;rw [b,KL d (by omega)];have a:=gM (x:=x) (j:=j) h;have g:x / 2^j%2^T<256:=zX (Nat.mod_lt _ (xU T)) (by rw [show(256:Nat)=2^8 from rfl];exact yB (by omega) (by omega))
 have c:((x / 2^j%2^T:Nat):Int)%256*2^r%256=((x / 2^j%2^T*2^r:Nat):Int):=by
  rw [show(2:Int)^r=((2^r:Nat):Int) by rw [Int.natCast_pow];rfl,show((x / 2^j%2^T:Nat):Int)%256=((x / 2^j%2^T:Nat):Int) by omega,<-Int.natCast_mul];omega
 rw [c,qK f a];rfl
theorem YW.step {l:aE} {wd N a j k T:Nat} {cur:aC} {y:UInt8} {x:Nat} (h:YW l wd N a cur) (p:cur[a / 8]? =some y) (o:l[k]? =some x) (B:a=wd*k+j) (A:j+T<=wd) (w:a%8+T<=8):
 YW l wd N (a+T) (cur.set (a / 8) (Zd y.toNat x j T (a%8)).toUInt8):=by
 obtain⟨u,m⟩:=h;refine⟨by simpa using u,fun i=> ?_⟩;have t:=zN o;have v:=zN p
 by_cases n:i / 8=a / 8
 ·have c:y.toNat.testBit (i%8)=(decide (i<a) && N9 l wd i):=by
   have:=m i;unfold R8 at this;rw [n,p]at this
   simpa using this
  unfold R8;rw [n,List.getElem?_set_self v];simp only [yk,yq];rw [Yt (WE y.toNat_lt w),rY,c]
  by_cases b:i<a
  ·rw [decide_eq_true b,decide_eq_true (show i<a+T by omega),decide_eq_false (show ¬a%8<=i%8 by omega)];simp
  ·rw [decide_eq_false b,decide_eq_true (show a%8<=i%8 by omega)]
   by_cases d:i<a+T
   ·rw [decide_eq_true d,decide_eq_true (show i%8 - a%8<T by omega)];have z:0<wd:=(by omega);have f:i=wd*k+(j+(i - a)):=(by omega);have g:j+(i - a)<wd:=(by omega);have q:i / wd=k:=(by rw [f,Nat.mul_add_div z,Nat.div_eq_of_lt g,yt])
    have r:i%wd=j+(i - a):=by
     conv=>lhs;rw [f]
     rw [Nat.mul_add_mod,zy g]
    have s:i<wd*l.length:=by
     have:wd*(k+1)<=wd*l.length:=Nat.mul_le_mul_left _ t;rw [Nat.mul_add]at this;omega
    unfold N9;rw [q,r,decide_eq_true s,o,show j+(i%8 - a%8)=j+(i - a) by omega];simp
   ·rw [decide_eq_false d,decide_eq_false (show ¬i%8 - a%8<T by omega)];simp
 ·have e:R8 (cur.set (a / 8) (Zd y.toNat x j T (a%8)).toUInt8) i=R8 cur i:=by
   unfold R8;rw [List.getElem?_set_ne (by omega)]
  rw [e,m i]
  by_cases b:i<a
  ·rw [decide_eq_true b,decide_eq_true (show i<a+T by omega)]
  ·rw [decide_eq_false b,decide_eq_false (show ¬i<a+T by omega)]
theorem YW.done {l:aE} {wd N:Nat} {cur:aC} (h:YW l wd N (wd*l.length) cur) (b:N=yK wd l.length):cur=Z8 l wd:=by
 refine mW (by rw [h.1,b]) fun i _=> ?_;rw [h.2 i];unfold N9
 by_cases a:i<wd*l.length
 ·rw [decide_eq_true a];simp
 ·rw [decide_eq_false a];simp
theorem zt.set {w:O} {S:Nat->Prop} {e:TypeId} {g n c j:Nat} {xs:aF} {u:V} (h:zt w S e 1 (.slice (some ⟨g,0,none⟩) n c) n xs) (p:j<n):zt (w.setCell ⟨g,j,none⟩ u) S e 1 (.slice (some ⟨g,0,none⟩) n c) n (xs.set j u):=by
 refine⟨by rw [List.length_set];exact h.1,?_⟩;rcases h.2 with⟨a,_⟩|⟨d,cap,cur,a,m,o,f,i,k,l⟩
 ·cases a
 ·have b:d =g:=by injection a with hA _ _;injection hA with hA;injection hA with hA _ _;exact hA.symm
  subst b;refine .inr ⟨d,cap,cur.setIfInBounds j u,a,m,?_,f,i,by simpa using k,?_⟩
  ·simp [World.setCell,Array.getElem?_modify,o]
  ·rw [Array.toList_setIfInBounds,List.take_set,l]
theorem zt.frozen {w:O} {S:Nat->Prop} {e:TypeId} {size n:Nat} {v:V} {xs:aF} (h:zt w S e size v n xs) {g:Nat} (b:v.ownBlock=some g) (i:Nat):w.frozen? ⟨g,i,none⟩=false:=by
 rcases h.2 with⟨rfl,_⟩|⟨c,cap,cur,rfl,_,a,_⟩
 ·cases b
 ·cases b;simp [World.frozen?,a]
theorem fX (l:aC) (j:Nat) {n:Nat} (h:n<256):bC (l.set j n.toUInt8)=(bC l).set j (.int .u8 (n:Int)):=by
 unfold bC;rw [List.map_set,Yt h]
theorem jN (N:Nat):(madeCells (Value.int .u8 0).cells (N*1)).toList=bC (List.replicate N 0):=by
 apply List.ext_getElem
 ·simp [madeCells,bC]
 ·intro i a b;simp [madeCells,bC,Value.cells,Nat.mod_one]
theorem GC (A:aA) (n c:Nat) (w:O):Calls prog 162 #[.slice A n c,.int .i64 0] w fun e w' =>e= .returned (.slice none 0 0)/\w=w' :=by
 go_enter func162,ntmps162;go_wp2;go_ret
 exact⟨rfl,rfl⟩
theorem GB (A:aA) (n c wd:Nat) (l:aE) (w:O) (h4:1<=wd) (hw:wd<=64) (hn:n<=1048576) (hl:RU w A n l) (o:∀x∈l,x<18446744073709551616):
 Calls prog 162 #[.slice A n c,.int .i64 (wd:Int)] w fun e w' =>∃g,e= .returned (.slice (some ⟨g,0,none⟩) (yK wd n) (yK wd n))/\zt w' (Frm w.heap.size) 5 1 (.slice (some ⟨g,0,none⟩) (yK wd n) (yK wd n)) (yK wd n) (bC (Z8 l wd))/\Below w.heap.size w w' :=by
 have hm :(1:Int)<=wd:=by omega
 have hx :(wd:Int)<=64:=by omega
 have G:=cI wd n hw hn w
 have he:yK wd n<=67108864:=by
  have:wd*n<=64*1048576:=Nat.mul_le_mul hw hn;unfold yK;omega
 obtain⟨N,hN⟩:=eX (yK wd n);rw [hN]at G he⊢;have ha:=zA G;have HN:=zA hN;have Hl:=zA hl;have Hb:=zA o;clear G hN hl o;obtain⟨i0,hi,P,Q,R⟩:=info_parts (show(Tryz.prog.info? 5).map (fun i=>(i.zero,i.size,i.bytes))=some (some (.int .u8 0),1,1) by kernel_rfl);go_enter func162,ntmps162;go_wp2_with fail;refine ha.o.mono ?_;rintro e w' ⟨rfl,rfl⟩
 go_wp2_with (at_make;refine wpList_make_full _ rfl _ _ _ rfl w.heap.size 5 i0 _ 1 underlying65 hi P Q .i64 .i64 _ _ N rfl rfl rfl rfl (by rw [R];omega) (by unfold maxLen;omega) (zC _) ?_;intro w1 M K;have h:=zA (Yd M);have m:=zA K;clear M K);have J:Below w.heap.size w w1:=⟨m.o.os,m.o.tape,m.o.output,m.o.size,fun k hk=>m.o.block k hk (by simp)⟩
 have h0:=h.o.at_ (A:=some ⟨w.heap.size,0,none⟩)
 have X:=zA J;have hz:=jN N;rw [hz]at h;have h:Hid (zt w1 (Frm w.heap.size) 5 1 (.slice (some ⟨w.heap.size,0,none⟩) N N) N (bC (List.replicate N 0))):=h;clear J hz h0 hi P Q R;obtain⟨B,hB⟩:∃B,B=w.heap.size:=⟨_,rfl⟩;obtain⟨g,hg⟩:∃g,g=w.heap.size:=⟨_,rfl⟩;have Z:Hid (zt w1 (Frm B) 5 1 (.slice (some ⟨g,0,none⟩) N N) N (bC (List.replicate N 0))):=by rw [hB,hg];exact h.o
 have HB:=zA hB;rw [<-hg];clear hg hB h
 go_loopw [25,6] (fun i a wr=>∃(k:Nat) (cur:aC),k<=n/\i= .int .i64 k/\a= .int .i64 ((wd*k:Nat):Int)/\YW l wd N (wd*k) cur/\zt wr (Frm B) 5 1 (.slice (some ⟨g,0,none⟩) N N) N (bC cur)/\Below w.heap.size w wr) (fun i _ _=>n - (intOf i).toNat)
 case atStart=>exact⟨0,List.replicate N 0,zJ _,rfl,rfl,YW.start _ _ _,Z.o,X.o⟩
 case round=>
  obtain⟨k,cur,hk,rfl,rfl,t,s,o⟩:=hrel;have H:=zA t;have C:=zA s;have d:=zA o;clear t s o
  by_cases F:k<n
  ·obtain⟨b,off,x,rfl,hd,E,Hx⟩:=Hl.o.at_ F
   have hh :=(d.o.cell (p:=⟨b,off+k,none⟩) hd).trans E;have hp:=zA E;have hf:=Hb.o x (zD Hx.o);clear E
   have L:wd*k+wd<=67108864:=by
    have S:wd*(k+1)<=wd*n:=Nat.mul_le_mul_left _ F;have h2:wd*n<=64*1048576:=Nat.mul_le_mul hw hn;rw [Nat.mul_add]at S;omega
   obtain⟨f,D⟩:=eX (wd*k);rw [D]at H L⊢;have z:=zA D;clear D;go_wp2;obtain⟨wo,rfl⟩:∃wo:O,wo=wr:=⟨_,rfl⟩
   go_loopw [9,6] (fun v a wr=>∃(j:Nat) (cur:aC),j<=wd/\v= .int .i64 j/\a= .int .i64 ((f+j:Nat):Int)/\YW l wd N (f+j) cur/\zt wr (Frm B) 5 1 (.slice (some ⟨g,0,none⟩) N N) N (bC cur)/\Below w.heap.size w wr) (fun v _ _=>wd - (intOf v).toNat)
   case atStart=>exact⟨0,cur,zJ _,rfl,rfl,H.o,C.o,d.o⟩
   case round=>
    obtain⟨j,cur,hj,rfl,rfl,t,s,o⟩:=hrel
    by_cases hv:j<wd
    ·have hq:(f+j) / 8<N:=by
      have S:wd*(k+1)<=wd*n:=Nat.mul_le_mul_left _ F;rw [Nat.mul_add]at S;have h2:=HN.o;have h3:=z.o;unfold yK at h2;omega
     obtain⟨y,U⟩:∃y,cur[(f+j) / 8]? =some y:=⟨_,zB (by rw [t.1];exact hq)⟩;have ht:wr.cell? ⟨g,(f+j) / 8,none⟩=some (.int .u8 (y.toNat:Int)):=s.cells rfl _ _ (V4 U);have hu:wr.frozen? ⟨g,(f+j) / 8,none⟩=false:=s.frozen rfl _;obtain⟨T,hT⟩:∃T:Nat,T=min (8 - (f+j)%8) (wd - j):=⟨_,rfl⟩;have hs:min (8 - ((f:Int)+j)%8) ((wd:Int) - j)=(T:Int):=(by omega);have hr:1<=T:=(by omega)
     have hc:j+T<=wd:=(by omega);have q:(f+j)%8+T<=8:=(by omega);have W:=zA (t.step U Hx.o (by have:=z.o;omega) hc q);have Hv:=zA (vX (y:=y.toNat) (x:=x) (j:=j) (T:=T) (r:=(f+j)%8) y.toNat_lt hf q);have Y:=zA (WE (y:=y.toNat) (x:=x) (j:=j) (T:=T) (r:=(f+j)%8) y.toNat_lt q);have C:=zA s;have d:=zA o;have Hy:=zA U;clear t s o U hT q;go_wp2
     go_region
     go_wp2
     go_roundw
     case rel=>
      refine⟨j+T,_,by omega,by go_num,by congr 1;omega,(by rw [<-Nat.add_assoc];exact W.o),?_,?_⟩
      ·rw [Hv.o];have:=(C.o.set (u:= .int .u8 ((Zd y.toNat x j T ((f+j)%8):Nat):Int)) hq);rw [<-fX _ _ Y.o]at this;exact zt.on this (zE _ _).drew
      ·exact(d.o.setCell (p:=⟨g,(f+j) / 8,none⟩) (by have S:B<=g:=(C.o.lt g rfl).1;have h2:=HB.o;show w.heap.size<=g;omega) _).drew
     case measure=>simp [intOf];omega
    ·obtain rfl:j=wd:=by omega
     have H:=zA t;have C:=zA s;have d:=zA o;have I:Hid (f+j=j*(k+1)):=(by have:=z.o;show _=_;rw [Nat.mul_add];omega);clear t s o;go_wp2
     go_roundw
     case rel=>exact⟨k+1,cur,by omega,by go_num,by rw [I.o],by rw [<-I.o];exact H.o,C.o,d.o⟩
     case measure=>simp [intOf];omega
  ·obtain rfl:k=n:=by omega
   have hlen:=Hl.o.len;have Hf:=zA (YW.done (by rw [hlen];exact H.o) (by rw [hlen];exact HN.o.symm));clear hlen;go_wp2;go_ret
   refine⟨g,rfl,?_,d.o⟩;rw [<-Hf.o,<-HB.o];exact C.o
def aY (b:aC) (a:Nat):Nat->Bool:=fun s=>R8 b (a+s)
def Vd (v y k T r:Nat):Nat:=v|||(y / 2^r%2^T*2^k)
theorem vZ {b:aC} {a k T:Nat} {y:UInt8} (e:b[(a+k) / 8]? =some y) (g:(a+k)%8+T<=8):Vd (ofB (aY b a) k) y.toNat k T ((a+k)%8)=ofB (aY b a) (k+T):=by
 have c:y.toNat / 2^((a+k)%8)%2^T<2^T:=Nat.mod_lt _ (xU T);refine fU ?_ fun i f=> ?_
 ·unfold Vd;refine Nat.or_lt_two_pow (zX (WM _ _) (yB (by omega) (by omega))) ?_;rw [Nat.add_comm k T,Nat.pow_add];exact Nat.mul_lt_mul_of_pos_right c (xU k)
 ·unfold Vd;rw [Nat.testBit_or,<-Nat.shiftLeft_eq,Nat.testBit_shiftLeft,Nat.testBit_mod_two_pow,Nat.testBit_div_two_pow]
  by_cases d:i<k
  ·rw [Vt _ _ _ d,decide_eq_false (show ¬k<=i by omega)];simp
  ·rw [mZ _ _ _ (by omega),decide_eq_true (show k<=i by omega),decide_eq_true (show i - k<T by omega)];simp only [Bool.false_or,Bool.true_and];unfold aY R8;rw [show(a+i) / 8=(a+k) / 8 by omega,e,show(a+i)%8=i - k+(a+k)%8 by omega];rfl
theorem LI {X T:Nat} (c:X<256) (b:T<=8):bits .and .u8 (X:Int) ((2^T - 1)%256)=((X%2^T:Nat):Int):=by
 have d:(2:Nat)^T<=2^8:=yB (by omega) b;have a:=xU T
 have e:((2:Int)^T - 1)%256=((2^T - 1:Nat):Int):=by
  rw [show(2:Int)^T=((2^T:Nat):Int) by rw [Int.natCast_pow];rfl];generalize 2^T=P at*;omega
 rw [e];show IntKind.u8.wrap ((BitVec.ofInt 8 (X:Int) &&& BitVec.ofInt 8 ((2^T - 1:Nat):Int)).toNat:Int)=_;rw [yE,yE,BitVec.toNat_and,yJ,yJ,zy (by omega),zy (by omega),Nat.and_two_pow_sub_one_eq_mod,IntKind.wrap_u8];have:X%2^T<2^T:=Nat.mod_lt _ a;omega
theorem DW {v y j T r:Nat} (g:v<18446744073709551616) (i:y<256) (h:r+T<=8) (k:j+T<=64):
 bits .or .u64 (v:Int) (IntKind.u64.wrap (IntKind.u64.wrap (bits .and .u8 ((y:Int) / 2^r) ((2^T - 1)%256))*2^j))=((Vd v y j T r:Nat):Int):=by
 have b:(y:Int) / 2^r=((y / 2^r:Nat):Int):=by
  rw [Int.natCast_ediv,Int.natCast_pow];rfl
 have f:y / 2^r<256:=Nat.lt_of_le_of_lt (Nat.div_le_self _ _) i;rw [b,LI f (by omega)];have d:y / 2^r%2^T<2^T:=Nat.mod_lt _ (xU T)
 have e:y / 2^r%2^T*2^j<2^64:=by
  have a:y / 2^r%2^T*2^j<2^T*2^j:=Nat.mul_lt_mul_of_pos_right d (xU j);rw [<-Nat.pow_add]at a;exact zX a (yB (by omega) (by omega))
 have l:(2:Nat)^T<=2^8:=yB (by omega) (by omega)
 have c:IntKind.u64.wrap (IntKind.u64.wrap ((y / 2^r%2^T:Nat):Int)*2^j)=((y / 2^r%2^T*2^j:Nat):Int):=by
  rw [show IntKind.u64.wrap ((y / 2^r%2^T:Nat):Int)=((y / 2^r%2^T:Nat):Int) by rw [zW];omega];rw [show(2:Int)^j=((2^j:Nat):Int) by rw [Int.natCast_pow];rfl,<-Int.natCast_mul,zW];omega
 rw [c,qA g e];rfl
def QZ (b:aC) (wd n i k:Nat) (cur:aE):Prop:=cur.length=n/\∀t,t<n->cur[t]? =some (if t<i then ofB (aY b (t*wd)) wd else if t=i then ofB (aY b (i*wd)) k else 0)
theorem QZ.start (b:aC) (wd n:Nat):QZ b wd n 0 0 (List.replicate n 0):=by
 refine⟨by simp,fun t a=> ?_⟩;rw [List.getElem?_replicate,if_pos a,if_neg (by omega)]
 split<;>rfl
theorem QZ.next {b:aC} {wd n i:Nat} {cur:aE} (h:QZ b wd n i wd cur):QZ b wd n (i+1) 0 cur:=by
 refine⟨h.1,fun t d=> ?_⟩;rw [h.2 t d]
 by_cases a:t<i
 ·rw [if_pos a,if_pos (by omega)]
 ·rw [if_neg a]
  by_cases c:t=i
  ·subst c;rw [if_pos rfl,if_pos (by omega)]
  ·rw [if_neg c,if_neg (by omega)]
   split<;>rfl
theorem QZ.step {b:aC} {wd n i k T:Nat} {cur:aE} {y:UInt8} (h:QZ b wd n i k cur) (f:i<n) (e:b[(i*wd+k) / 8]? =some y) (d:(i*wd+k)%8+T<=8):
 QZ b wd n i (k+T) (cur.set i (Vd (ofB (aY b (i*wd)) k) y.toNat k T ((i*wd+k)%8))):=by
 refine⟨by simpa using h.1,fun t c=> ?_⟩
 by_cases a:t=i
 ·subst a;rw [List.getElem?_set_self (by rw [h.1];exact c),if_neg (by omega),if_pos rfl,vZ e d]
 ·rw [List.getElem?_set_ne (by omega),h.2 t c];simp [a]
theorem QZ.done {b:aC} {wd n:Nat} {cur:aE} (h:QZ b wd n n 0 cur):cur=YE b wd n:=by
 refine yX fun t=> ?_;rcases zk t n with a|a
 ·rw [h.2 t a,if_pos a];unfold YE;rw [zH,zq a];rfl
 ·rw [zh (by rw [h.1];exact a),zh (by simp [YE];exact a)]
theorem Vv (N:Nat):(madeCells (Value.int .u64 0).cells (N*1)).toList=uC (List.replicate N 0):=by
 apply List.ext_getElem
 ·simp [madeCells,uC]
 ·intro i a b;simp [madeCells,uC,Value.cells,Nat.mod_one]
theorem fK (l:aE) (j n:Nat):uC (l.set j n)=(uC l).set j (.int .u64 (n:Int)):=by
 unfold uC;rw [List.map_set]
theorem rV (A:aA) (nb c wd n:Nat) (b:aC) (w:O) (k:wd<=64) (h:n<=1048576) (g:RB w A nb b) (d:nb≠yK wd n) (j:nb<=140737488355328):
 Calls prog 135 #[.slice A nb c,.int .i64 (wd:Int),.int .i64 (n:Int)] w fun e w' =>e= .returned (.tuple #[.slice none 0 0,.int .i64 20])/\w=w' :=by
 have l :(wd:Int)<=64:=by omega
 have i :(n:Int)<=1048576:=by omega
 have a:=zA (cI wd n k h w);have f :((nb:Int) !=(yK wd n:Nat))=true:=by simp;omega
 clear d g;go_enter func135,ntmps135;go_wp2_with fail;go_step3;go_wp2_with fail;refine a.o.mono ?_;rintro e w' ⟨rfl,rfl⟩;go_wp2
 try rw [Exit.noGoto_ret]
 go_ret2;exact⟨rfl,rfl⟩
theorem kN (A:aA) (c wd n:Nat) (b:aC) (w:O) (hw:wd<=64) (hn:n<=1048576) (hl:RB w A (yK wd n) b):
 Calls prog 135 #[.slice A (yK wd n) c,.int .i64 (wd:Int),.int .i64 (n:Int)] w fun e w' =>∃v er,e= .returned (.tuple #[v,.int .i64 er])/\((Z2 b wd n=none/\er=20/\v= .slice none 0 0)\/(∃A',Z2 b wd n=some (YE b wd n)/\er=0/\v= .slice A' n n/\zt w' (Frm w.heap.size) 35 1 v n (uC (YE b wd n))))/\Below w.heap.size w w' :=by
 have x4 :(wd:Int)<=64:=by omega
 have x3 :(n:Int)<=1048576:=by omega
 have Q:=cI wd n hw hn w
 have h5:yK wd n<=67108864:=by
  have:wd*n<=64*1048576:=Nat.mul_le_mul hw hn;unfold yK;omega
 obtain⟨N,hN⟩:=eX (yK wd n);rw [hN]at Q h5 hl⊢;have hx:=zA Q;have HN:=zA hN;have Hl:=zA hl;clear Q hN hl;have h8 :((N:Int) !=(N:Int))=false:=by simp
 obtain⟨i0,hi,he,hf,hh⟩:=info_parts (show(Tryz.prog.info? 35).map (fun i=>(i.zero,i.size,i.bytes))=some (some (.int .u64 0),1,8) by kernel_rfl);go_enter func135,ntmps135;go_wp2_with fail;go_step3;go_wp2_with fail;refine hx.o.mono ?_;rintro e w' ⟨rfl,rfl⟩
 go_wp2_with (at_make;refine wpList_make_full _ rfl _ _ _ rfl w.heap.size 35 i0 _ 1 underlying123 hi he hf .i64 .i64 _ _ n rfl rfl rfl rfl (by rw [hh];omega) (by unfold maxLen;omega) (zC _) ?_;intro w1 hc Y;have q:=zA (Yd hc);have o:=zA Y;clear hc Y);have X:Below w.heap.size w w1:=⟨o.o.os,o.o.tape,o.o.output,o.o.size,fun k hk=>o.o.block k hk (by simp)⟩
 have hs:=zA X;have hz:=Vv n;rw [hz]at q;have q:Hid (zt w1 (Frm w.heap.size) 35 1 (.slice (some ⟨w.heap.size,0,none⟩) n n) n (uC (List.replicate n 0))):=q;clear X hz hi he hf hh;obtain⟨B,hB⟩:∃B,B=w.heap.size:=⟨_,rfl⟩;obtain⟨g,hg⟩:∃g,g=w.heap.size:=⟨_,rfl⟩;have hu:Hid (zt w1 (Frm B) 35 1 (.slice (some ⟨g,0,none⟩) n n) n (uC (List.replicate n 0))):=by rw [hB,hg];exact q.o
 have HB:=zA hB;rw [<-hg];clear hg hB q;go_wp2;go_step3;go_wp2
 go_loopg [39,9] n (fun gk i a wr=>∃(k:Nat) (cur:aE),k<=n/\gk=n - k/\i= .int .i64 k/\a= .int .i64 ((k*wd:Nat):Int)/\QZ b wd n k 0 cur/\zt wr (Frm B) 35 1 (.slice (some ⟨g,0,none⟩) n n) n (uC cur)/\Below w.heap.size w wr)
 case atStart=>exact⟨0,List.replicate n 0,zJ _,rfl,rfl,by simp,QZ.start _ _ _,hu.o,hs.o⟩
 case round=>
  obtain⟨i,cur,hi,rfl,rfl,rfl,D,x,E⟩:=hrel;have HI:=zA D;have H:=zA x;have f:=zA E;clear D x E
  by_cases t:i<n
  ·have ha:i*wd+wd<=67108864:=by
    have h1:(i+1)*wd<=n*wd:=yj _ t;have I:n*wd<=1048576*64:=Nat.mul_le_mul hn hw;rw [xK]at h1;omega
   obtain⟨u,K⟩:=eX (i*wd);rw [K]at ha⊢;have m:=zA K;clear K;go_wp2;obtain⟨wo,rfl⟩:∃wo:O,wo=wr:=⟨_,rfl⟩
   go_loopg [11,9] wd (fun gk v a wr=>∃(j:Nat) (cur:aE),j<=wd/\gk=wd - j/\v= .int .i64 j/\a= .int .i64 ((u+j:Nat):Int)/\QZ b wd n i j cur/\zt wr (Frm B) 35 1 (.slice (some ⟨g,0,none⟩) n n) n (uC cur)/\Below w.heap.size w wr)
   case atStart=>exact⟨0,cur,zJ _,rfl,rfl,rfl,HI.o,H.o,f.o⟩
   case round=>
    obtain⟨j,cur,hj,rfl,rfl,rfl,D,x,E⟩:=hrel
    by_cases x2:j<wd
    ·have hq:(u+j) / 8<N:=by
      have h1:(i+1)*wd<=n*wd:=yj _ t;rw [xK,Nat.mul_comm n wd]at h1;have I:=HN.o;have h3:=m.o;unfold yK at I;omega
     obtain⟨bb,off,y,rfl,L,d,Hy⟩:=Hl.o.at_ hq
     have h4:=(E.cell (p:=⟨bb,off+(u+j) / 8,none⟩) L).trans d;obtain⟨v,hv⟩:∃v,v=ofB (aY b u) j:=⟨_,rfl⟩;have xs:wr.cell? ⟨g,i,none⟩=some (.int .u64 (v:Int)):=x.cells rfl _ _ (WB (by rw [D.2 i t,if_neg (by omega),if_pos rfl,hv,m.o]));have x1:wr.frozen? ⟨g,i,none⟩=false:=x.frozen rfl _
     have hd:v<18446744073709551616:=by
      rw [hv];exact zX (WM _ j) (yB (by omega) (show j<=64 by omega))
     obtain⟨T,hT⟩:∃T:Nat,T=min (8 - (u+j)%8) (wd - j):=⟨_,rfl⟩;have xn:min (8 - ((u:Int)+j)%8) ((wd:Int) - j)=(T:Int):=(by omega);have xb:1<=T:=(by omega);have xi:j+T<=wd:=(by omega);have J:(u+j)%8+T<=8:=(by omega);have M:=D.step t (T:=T) (by rw [m.o];exact Hy.o) (by rw [m.o];exact J);rw [m.o]at M;have hm:=zA M;have H:=zA x;have f:=zA E
     have ht:=zA (DW (v:=v) (y:=y.toNat) (j:=j) (T:=T) (r:=(u+j)%8) hd y.toNat_lt J (by omega));have Hv:=zA hv;clear D x E hT J M d hv;go_wp2
     go_region
     go_wp2
     go_roundg (wd - (j+T))
     case measure=>omega
     case rel=>
      refine⟨j+T,_,by omega,rfl,by go_num,by congr 1;omega,hm.o,?_,?_⟩
      ·rw [ht.o,Hv.o,fK];exact zt.on (H.o.set t) (zE _ _).drew
      ·exact(f.o.setCell (p:=⟨g,i,none⟩) (by have h1:B<=g:=(H.o.lt g rfl).1;have I:=HB.o;show w.heap.size<=g;omega) _).drew
    ·obtain rfl:j=wd:=by omega
     have HI:=zA D.next;have H:=zA x;have f:=zA E;have hp:Hid (u+j=(i+1)*j):=(by have:=m.o;show _=_;rw [xK];omega);clear D x E;go_wp2
     go_roundg (n - (i+1))
     ·exact⟨i+1,cur,by omega,rfl,by go_num,by rw [hp.o],HI.o,H.o,f.o⟩
     ·omega
  ·obtain rfl:i=n:=by omega
   have S:=zA HI.o.done;obtain⟨P,hP⟩:=eX (i*wd);rw [hP];have HP:Hid (wd*i=P):=(by show _=_;rw [Nat.mul_comm];exact hP)
   have h9:P<=67108864:=by
    have I:i*wd<=1048576*64:=Nat.mul_le_mul hn hw;omega
   clear hP;have F:zt wr (Frm B) 35 1 (.slice (some ⟨g,0,none⟩) i i) i (uC (YE b wd i)):=(by rw [<-S.o];exact H.o);have C:=zA F;have U:b.length=yK wd i:=(by rw [Hl.o.len,HN.o]);have G:=zA U;clear F U
   by_cases hr:P%8=0
   ·have l:Z2 b wd i=some (YE b wd i):=by
     unfold Z2;rw [if_neg (by rw [G.o];simp),if_neg (by rw [HP.o];omega)]
    have s:=zA l;have h6 :(P:Int)%8<=0:=(by omega);clear l hr;go_wp2
    try rw [Exit.noGoto_ret]
    go_ret2;exact⟨_,_,rfl,.inr ⟨_,s.o,rfl,rfl,by rw [<-HB.o];exact C.o⟩,f.o⟩
   ·have hq:P / 8<N:=by
     have I:=HN.o;unfold yK at I;rw [HP.o]at I;omega
    obtain⟨bb,off,y,rfl,L,d,Hy⟩:=Hl.o.at_ hq
    have h4:=(f.o.cell (p:=⟨bb,off+P / 8,none⟩) L).trans d;have h6 :(0:Int)<(P:Int)%8:=(by omega);have h7:(y.toNat:Int) / 2^(P%8)=((y.toNat / 2^(P%8):Nat):Int):=(by rw [Int.natCast_ediv,Int.natCast_pow];rfl);obtain⟨Z,W⟩:=eX (y.toNat / 2^(P%8));rw [W]at h7;have z:(b[P / 8]?.getD 0).toNat=y.toNat:=by rw [Hy.o];rfl
    by_cases R:Z=0
    ·have l:Z2 b wd i=some (YE b wd i):=by
      unfold Z2;rw [if_neg (by rw [G.o];simp),if_neg];rw [HP.o,z,W];exact fun h=>h.2 R
     have s:=zA l;have hy :((Z:Int) !=0)=false:=(by simp [R]);clear l hr W z d R;go_wp2
     try rw [Exit.noGoto_ret]
     go_ret2;exact⟨_,_,rfl,.inr ⟨_,s.o,rfl,rfl,by rw [<-HB.o];exact C.o⟩,f.o⟩
    ·have l:Z2 b wd i=none:=by
      unfold Z2;rw [if_neg (by rw [G.o];simp),if_pos];rw [HP.o,z,W];exact⟨by omega,R⟩
     have s:=zA l;have hy :((Z:Int) !=0)=true:=(by simp [R]);clear l hr W z d R;go_wp2
     try rw [Exit.noGoto_ret]
     go_ret2;exact⟨_,_,rfl,.inl ⟨s.o,rfl,rfl⟩,f.o⟩
def Zq (rows:List aD):aC:=Z8 (rows.map fun l=>if l= []then 0 else 1) 1
def yp (rows:List aD):aD:=(rows.filter fun l=> !l.isEmpty).map fun l=>(l.length:Int) - 1
def colL (rows:List aD):aC:=zP rows.length++(Zq rows++(putL (yp rows)++putL rows.flatten))
structure ColP where
 ends:aD
 all:aD
structure TextColP where
 col:ColP
 terms:List aB
end Go.Proofs.YtjbhbfaeielbiaaGreatDoor

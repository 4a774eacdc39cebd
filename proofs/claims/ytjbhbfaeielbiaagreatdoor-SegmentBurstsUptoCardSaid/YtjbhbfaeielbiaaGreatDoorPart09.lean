import Derived.Test.YtjbhbfaeielbiaaGreatDoorPart01
import Derived.Lib.ItoaNum
import Derived.Lib.Slices
import Derived.Test.YtjbhbfaeielbiaaGreatDoorShelf
import Derived.Lib.MinMax
import Derived.Deep.Light
set_option maxRecDepth 100000
set_option maxHeartbeats 8000000
set_option linter.unusedVariables false
set_option linter.unusedSimpArgs false
namespace Go.Proofs.YtjbhbfaeielbiaaGreatDoor
def ofB (f:Nat->Bool):Nat->Nat
 |0=>0
 |k+1=>ofB f k+(if f k then 2^k else 0)
theorem WM (f:Nat->Bool):∀k,ofB f k<2^k
 |0=>by simp [ofB]
 |k+1=>by
  have:=WM f k;rw [ofB,Nat.pow_succ]
  split<;>omega
theorem Vt (f:Nat->Bool):∀k i,i<k->(ofB f k).testBit i=f i
 |0,i,h=>by omega
 |k+1,i,h=>by
  rw [ofB]
  by_cases hk:i=k
  ·subst hk;cases hf:f i with
   |true=>rw [if_pos rfl,Nat.add_comm,Nat.testBit_two_pow_add_eq,Nat.testBit_lt_two_pow (WM f i)];rfl
   |false=>simp [Nat.testBit_lt_two_pow (WM f i)]
  ·cases hf:f k with
   |true=>rw [if_pos rfl,Nat.add_comm,Nat.testBit_two_pow_add_gt (by omega),Vt f k i (by omega)]
   |false=>simp [Vt f k i (by omega)]
theorem mZ (f:Nat->Bool) (k i:Nat) (h:k<=i):(ofB f k).testBit i=false:=
 Nat.testBit_lt_two_pow (zX (WM f k) (yB (by omega) h))
theorem fU {n k:Nat} {f:Nat->Bool} (hn:n<2^k) (h:∀i,i<k->n.testBit i=f i):n=ofB f k:=by
 refine Nat.eq_of_testBit_eq fun i=> ?_;rcases zk i k with hi|hi
 ·rw [h i hi,Vt f k i hi]
 ·rw [mZ f k i hi,Nat.testBit_lt_two_pow (zX hn (yB (by omega) hi))]
def N9 (l:aE) (w i:Nat):Bool:=decide (i<w*l.length) && (l[i / w]?.getD 0).testBit (i%w)
def bitB (b:aC) (i:Nat):Bool:=((b[i / 8]?.map UInt8.toNat).getD 0).testBit (i%8)
def yK (w n:Nat):Nat:=(w*n+7) / 8
def Z8 (l:aE) (w:Nat):aC:=(List.range (yK w l.length)).map fun j=>(ofB (fun i=>N9 l w (8*j+i)) 8).toUInt8
theorem XU (l:aE) (w:Nat):(Z8 l w).length=yK w l.length:=by simp [Z8]
theorem Us (l:aE) (w i:Nat):bitB (Z8 l w) i=N9 l w i:=by
 unfold bitB Z8;rw [zH];rcases zk (i / 8) (yK w l.length)with h|h
 ·rw [zq h];simp only [yk,yq];have hlt:=WM (fun i_1=>N9 l w (8*(i / 8)+i_1)) 8;rw [Nat.toUInt8,UInt8.toNat_ofNat',zy (by omega),Vt _ 8 _ (by omega)]
  congr 1;omega
 ·rw [zh (by simpa using h)];simp only [Option.map_none,Option.getD_none,Nat.zero_testBit];unfold N9 yK at*;rw [decide_eq_false (by omega)];rfl
theorem mW {l:aE} {w:Nat} {b:aC} (hl:b.length=yK w l.length) (h:∀i,i<8*b.length->bitB b i=N9 l w i):b=Z8 l w:=by
 refine yX fun j=> ?_;rcases zk j b.length with hj|hj
 ·rw [zB hj,Z8,zH,zq (by omega)];simp only [yk,Option.some.injEq]
  have:b[j].toNat=ofB (fun i=>N9 l w (8*j+i)) 8:=by
   refine fU (by have:=b[j].toNat_lt;omega) fun i hi=> ?_;have:=h (8*j+i) (by omega);rw [<-this];unfold bitB;rw [show(8*j+i) / 8=j by omega,show(8*j+i)%8=i by omega,zB hj];rfl
  rw [<-this];simp
 ·rw [zh hj,zh (by rw [XU];omega)]
def YE (b:aC) (w n:Nat):aE:=(List.range n).map fun i=>ofB (fun k=>bitB b (i*w+k)) w
theorem tK {l:aE} {w:Nat} (h:∀x∈l,x<2^w):YE (Z8 l w) w l.length=l:=by
 refine yX fun j=> ?_;unfold YE;rw [zH];rcases zk j l.length with hj|hj
 ·rw [zq hj,zB hj];simp only [yk,Option.some.injEq];refine(fU (h _ (List.getElem_mem hj)) fun k hk=> ?_).symm;rw [Us];unfold N9;have hw:0<w:=(by omega);have h1:(j*w+k) / w=j:=(by rw [Nat.mul_comm,Nat.mul_add_div hw,Nat.div_eq_of_lt hk,yt]);have h2:(j*w+k)%w=k:=(by rw [Nat.mul_comm,Nat.mul_add_mod,zy hk])
  have h3:j*w+k<w*l.length:=by
   have:(j+1)*w<=l.length*w:=yj w (by omega);rw [xK,Nat.one_mul]at this;rw [Nat.mul_comm w];omega
  rw [h1,h2,decide_eq_true h3,zB hj];rfl
 ·rw [zh (by simpa using hj),zh hj];rfl
def orL (l:aE):Nat:=l.foldl (·|||·) 0
def ZW (l:aE):Nat:=Lib.bitLen (orL l)
theorem mX (l:aE) (a:Nat):l.foldl (·|||·) a=a|||orL l:=by
 induction l generalizing a with
 |nil=>simp [orL]
 |cons x l ih=>simp only [List.foldl_cons,orL];rw [ih,ih (0|||x)];simp [Nat.or_assoc]
theorem I0 (l:aE) (x:Nat):orL (l++ [x])=orL l|||x:=by simp [orL]
theorem NC {l:aE} {x:Nat} (h:x∈l):x<=orL l:=by
 induction l with
 |nil=>cases h
 |cons y l ih=>
  have e:orL (y::l)=y|||orL l:=by
   show List.foldl (·|||·) (0|||y) l=_;rw [mX];simp
  rw [e];rcases yx.1 h with rfl|h
  ·exact Nat.left_le_or
  ·exact zY (ih h) Nat.right_le_or
theorem fQ {l:aE} {k:Nat} (h:∀x∈l,x<2^k):orL l<2^k:=by
 induction l with
 |nil=>exact xU k
 |cons y l ih=>
  have e:orL (y::l)=y|||orL l:=by
   show List.foldl (·|||·) (0|||y) l=_;rw [mX];simp
  rw [e];exact Nat.or_lt_two_pow (h y (by simp)) (ih fun x hx=>h x (by simp [hx]))
theorem ED {x:Nat} (h:x<2^64):x<2^Lib.bitLen x:=by
 by_cases h0:x=0
 ·subst h0;exact xU _
 ·exact(Lib.bitLenAux_bounds 64 x h h0).2.2
theorem CI {l:aE} (h:∀x∈l,x<2^64) {x:Nat} (hx:x∈l):x<2^ZW l:=
 Nat.lt_of_le_of_lt (NC hx) (ED (fQ h))
theorem UU {l:aE} (h:∀x∈l,x<2^64):ZW l<=64:=Lib.bitLen_le _ 64 (zC _) (fQ h)
def minN (l:aE):Nat:=l.foldl min (l.headD 0)
theorem nC {l:aD} {x:Int} (h:x∈l):Lib.minOf l<=x:=by
 have key:∀(l:aD) (a:Int),l.foldl min a<=a/\∀y∈l,l.foldl min a<=y:=by
  intro l
  induction l with
  |nil=>intro a;exact⟨Int.le_refl _,fun y hy=>by cases hy⟩
  |cons z l ih=>
   intro a;have:=ih (min a z);refine⟨by have:=this.1;simp only [List.foldl_cons];omega,fun y hy=> ?_⟩;rcases yx.1 hy with rfl|hy
   ·have:=this.1;simp only [List.foldl_cons];omega
   ·exact this.2 y hy
 exact(key l _).2 x h
theorem Wn {l:aD} (h:l≠ []):Lib.minOf l∈l:=by
 have key:∀(l:aD) (a:Int),l.foldl min a=a\/l.foldl min a∈l:=by
  intro l
  induction l with
  |nil=>intro a;exact .inl rfl
  |cons z l ih=>
   intro a;simp only [List.foldl_cons,yx];rcases ih (min a z)with e|e
   ·rw [e];rcases Int.le_total a z with h|h
    ·left;omega
    ·right;left;omega
   ·exact .inr (.inr e)
 cases l with
 |nil=>exact absurd rfl h
 |cons a l=>
  rcases key (a::l) ((a::l).headD 0)with e|e
  ·rw [Lib.minOf,e];simp
  ·exact e
theorem D1 {l:aE} (h:0∈l):minN l=0:=by
 have key:∀(l:aE) (a:Nat),l.foldl min a<=a/\∀y∈l,l.foldl min a<=y:=by
  intro l
  induction l with
  |nil=>intro a;exact⟨zC _,fun y hy=>by cases hy⟩
  |cons z l ih=>
   intro a;have:=ih (min a z);refine⟨by have:=this.1;simp only [List.foldl_cons];omega,fun y hy=> ?_⟩;rcases yx.1 hy with rfl|hy
   ·have:=this.1;simp only [List.foldl_cons];omega
   ·exact this.2 y hy
 have:=(key l (l.headD 0)).2 0 h;unfold minN;omega
def xv (l:aD):aE:=l.map fun n=>(n - Lib.minOf l).toNat
def Zf (l:aD):aC:=zP (yc (Lib.minOf l))++((ZW (xv l)).toUInt8::Z8 (xv l) (ZW (xv l)))
def putL (l:aD):aC:=if h:l= []then []else Zf (l.take 128)++putL (l.drop 128)
 termination_by l.length
 decreasing_by simp;have:=List.length_pos_iff.2 h;omega
theorem QP:putL []= []:=by unfold putL;simp
theorem U6 {l:aD} (h:l≠ []):putL l=Zf (l.take 128)++putL (l.drop 128):=by rw [putL,dif_neg h]
def Z2 (b:aC) (w n:Nat):Option aE:=
 if b.length≠yK w n then none else if (w*n)%8>0/\(b[(w*n) / 8]?.getD 0).toNat / 2^((w*n)%8)≠0 then none else some (YE b w n)
def xu (least:Int):aE->Option aD
 | []=>some []
 |u::l=>if least+u<=9223372036854775807 then(xu least l).map ((least+u)::·)else none
def QV (n:Nat):Nat->aD->RS->Option (aD×Nat)
 |0,_,_=>none
 |f+1,l,r=>
  if l.length<n then
   let x:=r.int
   let w:=x.2.bytes 1
   let wd:=(w.1.headD 0).toNat
   if w.2.e≠0\/64<wd then none else
    let k:=min (n - l.length) 128
    let bs:=w.2.bytes (yK wd k)
    match Z2 bs.1 wd k with
    |none=>none
    |some above=>if bs.2.e≠0\/ZW above≠wd\/minN above≠0 then none else
     match xu x.1 above with
     |none=>none
     |some xs=>QV n f (l++xs) bs.2
  else some (l,r.at_)
def getL (b:aC) (n:Nat):Option (aD×Nat):=QV n (n+1) [] ⟨b,0,0⟩
theorem tL {l:aE} {w:Nat} (h:∀x∈l,x<2^w):Z2 (Z8 l w) w l.length=some l:=by
 unfold Z2;rw [if_neg (by simp [XU]),if_neg ?_,tK h];rintro⟨h1,h2⟩
 apply h2
 rw [Nat.div_eq_zero_iff_lt (xU _)];refine Nat.lt_pow_two_of_testBit _ fun i hi=> ?_;have hb:=Us l w (8*((w*l.length) / 8)+i)
 by_cases h8:i<8
 ·have e1:(8*((w*l.length) / 8)+i) / 8=(w*l.length) / 8:=(by omega);have e2:(8*((w*l.length) / 8)+i)%8=i:=(by omega);unfold bitB at hb;rw [e1,e2]at hb
  have e3:((Z8 l w)[(w*l.length) / 8]?.getD 0).toNat=((Z8 l w)[(w*l.length) / 8]?.map UInt8.toNat).getD 0:=by
   cases (Z8 l w)[(w*l.length) / 8]? <;>rfl
  rw [e3,hb];unfold N9;rw [decide_eq_false (by omega)];rfl
 ·exact Nat.testBit_lt_two_pow (zX (UInt8.toNat_lt _) (yB (by omega) (by omega)))
def InL (l:aD):Prop:=∀x∈l, -9223372036854775808<=x/\x<=9223372036854775807
theorem Wv {l:aD} (h:InL l):∀x∈xv l,x<2^64:=by
 intro x hx;obtain⟨n,hn,rfl⟩:=List.mem_map.1 hx;have hne:l≠ []:=fun e=>by rw [e]at hn;cases hn
 have h1:=h n hn;have h2:=h _ (Wn hne);omega
theorem tC {l:aD} (h:InL l):xu (Lib.minOf l) (xv l)=some l:=by
 have key:∀t:aD,(∀x∈t,x∈l)->xu (Lib.minOf l) (t.map fun n=>(n - Lib.minOf l).toNat)=some t:=by
  intro t
  induction t with
  |nil=>intro _;rfl
  |cons x t ih=>
   intro ht;have h1:=nC (ht x (by simp));have h2:=h x (ht x (by simp));have e:Lib.minOf l+((x - Lib.minOf l).toNat:Int)=x:=(by omega);simp only [yH,xu];rw [e,if_pos h2.2,ih fun y hy=>ht y (by simp [hy])];rfl
 exact key l fun _ h=>h
theorem CF {l:aD} (h:l≠ []):minN (xv l)=0:=
 D1 (List.mem_map.2 ⟨_,Wn h,by omega⟩)
theorem ET:∀(f n:Nat) (done todo:aD) (pre post:aC),todo.length<f->n=done.length+todo.length->InL todo->QV n f done (rsAt pre (putL todo++post))=some (done++todo,(pre++putL todo).length):=by
 intro f
 induction f with
 |zero=>intro n done todo pre post h;omega
 |succ f ih=>
  intro n done todo pre post hf hn hin
  by_cases h0:todo= []
  ·subst h0;unfold QV;rw [if_neg (by simp at hn;omega),QP];simp [rsAt]
  ·have hpos:=List.length_pos_iff.2 h0;have hin' :InL (todo.take 128):=fun x hx=>hin x (yu hx)
   have hne:todo.take 128≠ []:=by
    intro e;rcases List.take_eq_nil_iff.1 e with h|h
    ·omega
    ·exact h0 h
   have hw:=UU (Wv hin');have hl:(xv (todo.take 128)).length=min (n - done.length) 128:=(by simp [xv];omega);have hb:((ZW (xv (todo.take 128))).toUInt8).toNat=ZW (xv (todo.take 128)):=Yt (by omega);rw [U6 h0];unfold QV;rw [if_pos (by omega)];unfold Zf;simp only [zO,yI];rw [Vm (hin' _ (Wn hne))]
   have e1:=X4 [(ZW (xv (todo.take 128))).toUInt8] (pre++zP (yc (Lib.minOf (todo.take 128)))) (Z8 (xv (todo.take 128)) (ZW (xv (todo.take 128)))++(putL (todo.drop 128)++post));simp only [z6,yO,zx,yI,zZ]at e1;simp only [e1,List.headD_cons,hb];rw [if_neg (by simp [rsAt];omega)]
   have e2:=X4 (Z8 (xv (todo.take 128)) (ZW (xv (todo.take 128)))) (pre++zP (yc (Lib.minOf (todo.take 128)))++ [(ZW (xv (todo.take 128))).toUInt8]) (putL (todo.drop 128)++post);rw [XU,hl]at e2;have e3:=tL (l:=xv (todo.take 128)) fun x hx=>CI (Wv hin') hx;rw [hl]at e3;simp only [e2,e3];rw [if_neg (by simp [rsAt,CF hne]),tC hin'];simp only
   rw [ih n (done++todo.take 128) (todo.drop 128) _ post (by simp;omega) (by simp;omega) (fun x hx=>hin x (List.mem_of_mem_drop hx))];simp
theorem d7 {l:aD} (h:InL l) (post:aC):getL (putL l++post) l.length=some (l,(putL l).length):=by
 have:=ET (l.length+1) l.length [] l [] post (by omega) (by simp) h
 simpa [rsAt,getL]using this
open Tryz
open Go.RowKit
theorem cI (w n:Nat) (hw:w<=64) (hn:n<=1048576) (W:O):
 Calls prog 136 #[.int .i64 (w:Int),.int .i64 (n:Int)] W fun e w' =>e= .returned (.int .i64 (yK w n:Nat))/\W=w' :=by
 have hp:w*n<=64*1048576:=Nat.mul_le_mul hw hn;obtain⟨P,hP⟩:∃P:Nat,P=w*n:=⟨_,rfl⟩;have hPi:(w:Int)*(n:Int)=(P:Int):=by rw [hP,Int.natCast_mul]
 have e:((yK w n:Nat):Int)=((P:Int)+7) / 8:=by unfold yK;rw [<-hP];omega
 have hP2:P<=67108864:=by omega
 have E:=zA e;clear hp hP e hw hn;go_enter func136,ntmps136;go_wp2;go_ret
 exact⟨by rw [E.out];rfl,rfl⟩
theorem qA {a b:Nat} (ha:a<18446744073709551616) (hb:b<18446744073709551616):bits .or .u64 (a:Int) (b:Int)=((a|||b:Nat):Int):=by
 show IntKind.u64.wrap ((BitVec.ofInt 64 (a:Int)|||BitVec.ofInt 64 (b:Int)).toNat:Int)=_
 rw [yE,yE,BitVec.toNat_or,yJ,yJ,zy (by omega),zy (by omega),zW];have:=Nat.or_lt_two_pow (n:=64) ha hb;omega
def RU (w:O) (A:aA) (n:Nat) (l:aE):Prop:=RC w 1 A n (uC l)
theorem RU.len {w:O} {A:aA} {n:Nat} {l:aE} (h:RU w A n l):l.length=n:=by have:=h.1;rw [MM]at this;omega
theorem RU.at_ {w:O} {A:aA} {n k:Nat} {l:aE} (h:RU w A n l) (hk:k<n):∃b off x:Nat,A=some ⟨b,off,none⟩/\b<w.heap.size/\w.cell? ⟨b,off+k,none⟩=some (.int .u64 (x:Int))/\Hid (l[k]? =some x):=by
 have hl:=h.len;obtain⟨b,off,rfl,hb,hc⟩:=h.2 (by omega);have hk' :k<l.length:=by omega
 exact⟨b,off,l[k],rfl,hb,hc k _ (WB (zB hk')),zB hk'⟩
theorem RU.on {w w' :O} {A:aA} {n:Nat} {l:aE} (h:RU w A n l) (hb:Below w.heap.size w w'):RU w' A n l:=RC.on h hb
def RI (w:O) (A:aA) (n:Nat) (l:aD):Prop:=RC w 1 A n (ints l)
theorem RI.len {w:O} {A:aA} {n:Nat} {l:aD} (h:RI w A n l):l.length=n:=by have:=h.1;rw [Xd]at this;omega
theorem RI.at_ {w:O} {A:aA} {n k:Nat} {l:aD} (h:RI w A n l) (hk:k<n):∃b off x,A=some ⟨b,off,none⟩/\b<w.heap.size/\w.cell? ⟨b,off+k,none⟩=some (.int .i64 x)/\Hid (l[k]? =some x):=by
 have hl:=h.len;obtain⟨b,off,rfl,hb,hc⟩:=h.2 (by omega);have hk' :k<l.length:=by omega
 exact⟨b,off,l[k],rfl,hb,hc k _ (dZ hk'),zB hk'⟩
theorem RI.on {w w' :O} {A:aA} {n:Nat} {l:aD} (h:RI w A n l) (hb:Below w.heap.size w w'):RI w' A n l:=RC.on h hb
theorem IZ {l:aE} {k x:Nat} (hx:l[k]? =some x):orL (l.take (k+1))=orL (l.take k)|||x:=by
 rw [zI,hx];exact I0 _ _
theorem kL (A:aA) (n c:Nat) (l:aE) (w:O) (hn:n<=9223372036854775807) (hl:RU w A n l) (hb:∀x∈l,x<18446744073709551616):
 Calls prog 137 #[.slice A n c] w fun e w' =>e= .returned (.int .i64 (ZW l:Nat))/\w=w' :=by
 have hlen:=zA hl.len;have Hl:=zA hl;have Hb:=zA hb;clear hl hb;have hor:∀k,orL (l.take k)<18446744073709551616:=fun k=>fQ (k:=64) (fun x hx=>Hb.out x (yu hx));have Hor:=zA hor;clear hor;go_enter func137,ntmps137;go_wp2_with fail
 go_loop [3,8] (fun a i=>∃k:Nat,k<=n/\i= .int .i64 k/\a= .int .u64 (orL (l.take k):Nat)) (fun _ i=>n - (intOf i).toNat)
 case atStart=>exact⟨0,zJ _,rfl,rfl⟩
 case round=>
  obtain⟨k,hk,rfl,rfl⟩:=hrel;have h1:=Hor.out k
  by_cases hlt:k<n
  ·obtain⟨b,off,x,rfl,_,hcx,Hx⟩:=Hl.out.at_ hlt
   have hx:=Hb.out x (zD Hx.out);have Ho:=zA (qA h1 hx);have Ht:=zA (IZ Hx.out);go_wp2_with fail
   go_round
   case rel=>exact⟨k+1,by omega,by go_num,by rw [Ho.out,Ht.out]⟩
   case measure=>simp [intOf];omega
  ·obtain rfl:k=n:=by omega
   have Hf:Hid (l.take k=l):=zF (by have:=hlen.out;omega);go_wp2_with fail;refine(Tryz.bits_Len64 _ _ (by omega) (by omega)).mono ?_;rintro e w' ⟨rfl,rfl⟩;go_wp2;go_ret
   exact⟨by rw [show ZW l=Lib.bitLen (orL (l.take k)) by unfold ZW;rw [Hf.out]];rfl,rfl⟩
def minI (l:aD):Int:=Lib.minOf l
theorem I8 {l:aD} {x:Int} (h:l[0]? =some x):minI (l.take 1)=x:=by
 cases l with
 |nil=>cases h
 |cons a t=>simp at h;subst h;simp [minI,Lib.minOf]
theorem D4 {l:aD} {k:Nat} {x:Int} (hk:1<=k) (h:l[k]? =some x):minI (l.take (k+1))=min (minI (l.take k)) x:=by
 cases l with
 |nil=>cases h
 |cons a t=>
  obtain⟨j,rfl⟩:∃j,k=j+1:=⟨k - 1,by omega⟩;rw [zI,h];simp [minI,Lib.minOf,xE]
theorem I7 {l:aE} {x:Nat} (h:l[0]? =some x):minN (l.take 1)=x:=by
 cases l with
 |nil=>cases h
 |cons a t=>simp at h;subst h;simp [minN]
theorem D3 {l:aE} {k x:Nat} (hk:1<=k) (h:l[k]? =some x):minN (l.take (k+1))=min (minN (l.take k)) x:=by
 cases l with
 |nil=>cases h
 |cons a t=>
  obtain⟨j,rfl⟩:∃j,k=j+1:=⟨k - 1,by omega⟩;rw [zI,h];simp [minN,xE]
theorem LF (A:aA) (n c:Nat) (l:aD) (w:O) (h0:0<n) (hn:n<=9223372036854775807) (hl:RI w A n l):
 Calls prog 160 #[.slice A n c] w fun e w' =>e= .returned (.int .i64 (minI l:Int))/\w=w' :=by
 have hlen:=zA hl.len;obtain⟨b,off,x0,rfl,_,hc0,Hx0⟩:=hl.at_ h0
 have hc0' :w.cell? ⟨b,off,none⟩=some (.int .i64 (x0:Int)):=hc0;have Hl:=zA hl;clear hl hc0;go_enter func160,ntmps160;go_wp2_with fail
 go_loop [3,4] (fun a i=>∃k:Nat,1<=k/\k<=n/\i= .int .i64 k/\a= .int .i64 (minI (l.take k):Int)) (fun _ i=>n - (intOf i).toNat)
 case atStart=>exact⟨1,by omega,by omega,rfl,by rw [I8 Hx0.out]⟩
 case round=>
  obtain⟨k,hk1,hk,rfl,rfl⟩:=hrel
  by_cases hlt:k<n
  ·obtain⟨b',off',x,e,_,hcx,Hx⟩:=Hl.out.at_ hlt
   cases e;have Ht:=zA (D4 hk1 Hx.out);go_wp2_with fail
   go_round
   case rel=>exact⟨k+1,by omega,by omega,by go_num,by rw [Ht.out]⟩
   case measure=>simp [intOf];omega
  ·obtain rfl:k=n:=by omega
   have Hf:Hid (l.take k=l):=zF (by have:=hlen.out;omega);go_wp2;go_ret
   exact⟨by rw [Hf.out];rfl,rfl⟩
theorem LE (A:aA) (n c:Nat) (l:aE) (w:O) (h0:0<n) (hn:n<=9223372036854775807) (hl:RU w A n l):
 Calls prog 138 #[.slice A n c] w fun e w' =>e= .returned (.int .u64 (minN l:Nat))/\w=w' :=by
 have hlen:=zA hl.len;obtain⟨b,off,x0,rfl,_,hc0,Hx0⟩:=hl.at_ h0
 have hc0' :w.cell? ⟨b,off,none⟩=some (.int .u64 (x0:Int)):=hc0;have Hl:=zA hl;clear hl hc0;go_enter func138,ntmps138;go_wp2_with fail
 go_loop [3,4] (fun a i=>∃k:Nat,1<=k/\k<=n/\i= .int .i64 k/\a= .int .u64 (minN (l.take k):Nat)) (fun _ i=>n - (intOf i).toNat)
 case atStart=>exact⟨1,by omega,by omega,rfl,by rw [I7 Hx0.out]⟩
 case round=>
  obtain⟨k,hk1,hk,rfl,rfl⟩:=hrel
  by_cases hlt:k<n
  ·obtain⟨b',off',x,e,_,hcx,Hx⟩:=Hl.out.at_ hlt
   cases e;have Ht:=zA (D3 hk1 Hx.out);go_wp2_with fail
   go_round
   case rel=>exact⟨k+1,by omega,by omega,by go_num,by rw [Ht.out];congr 1;omega⟩
   case measure=>simp [intOf];omega
  ·obtain rfl:k=n:=by omega
   have Hf:Hid (l.take k=l):=zF (by have:=hlen.out;omega);go_wp2;go_ret
   exact⟨by rw [Hf.out];rfl,rfl⟩
def YW (l:aE) (wd N a:Nat) (cur:aC):Prop:=cur.length=N/\∀j,bitB cur j=(decide (j<a) && N9 l wd j)
theorem YW.start (l:aE) (wd N:Nat):YW l wd N (wd*0) (List.replicate N 0):=by
 refine⟨by simp,fun j=> ?_⟩;rw [decide_eq_false (by omega)];unfold bitB;rw [List.getElem?_replicate]
 split<;>simp
def Zd (y x j T r:Nat):Nat:=y|||(x / 2^j%2^T*2^r)
theorem gM {x j T r:Nat} (h:r+T<=8):x / 2^j%2^T*2^r<256:=by
 have h1:x / 2^j%2^T<2^T:=Nat.mod_lt _ (xU T);have h2:x / 2^j%2^T*2^r<2^T*2^r:=Nat.mul_lt_mul_of_pos_right h1 (xU r);rw [<-Nat.pow_add]at h2;exact zX h2 (by rw [show(256:Nat)=2^8 from rfl];exact yB (by omega) (by omega))
theorem WE {y x j T r:Nat} (hy:y<256) (h:r+T<=8):Zd y x j T r<256:=Nat.or_lt_two_pow (n:=8) hy (gM h)
theorem rY {y x j T r s:Nat}:(Zd y x j T r).testBit s=(y.testBit s||(decide (r<=s) && (decide (s - r<T) && x.testBit (j+(s - r))))):=by
 unfold Zd;rw [Nat.testBit_or,<-Nat.shiftLeft_eq,Nat.testBit_shiftLeft,Nat.testBit_mod_two_pow,Nat.testBit_div_two_pow]
 congr 2
 rw [Nat.add_comm]
theorem qK {a b:Nat} (ha:a<256) (hb:b<256):bits .or .u8 (a:Int) (b:Int)=((a|||b:Nat):Int):=by
 show IntKind.u8.wrap ((BitVec.ofInt 8 (a:Int)|||BitVec.ofInt 8 (b:Int)).toNat:Int)=_
 rw [yE,yE,BitVec.toNat_or,yJ,yJ,zy (by omega),zy (by omega),IntKind.wrap_u8];have:=Nat.or_lt_two_pow (n:=8) ha hb;omega
theorem KL {X T:Nat} (hX:X<18446744073709551616) (hT:T<=8):bits .and .u64 (X:Int) (IntKind.u64.wrap (IntKind.u64.wrap (2^T) - 1))=((X%2^T:Nat):Int):=by
 have hp:(2:Nat)^T<=2^8:=yB (by omega) hT;have hp1:=xU T
 have e:IntKind.u64.wrap (IntKind.u64.wrap (2^T) - 1)=((2^T - 1:Nat):Int):=by
  rw [show(2:Int)^T=((2^T:Nat):Int) by rw [Int.natCast_pow];rfl];generalize 2^T=P at*;rw [zW,zW];omega
 rw [e];show IntKind.u64.wrap ((BitVec.ofInt 64 (X:Int) &&& BitVec.ofInt 64 ((2^T - 1:Nat):Int)).toNat:Int)=_;rw [yE,yE,BitVec.toNat_and,yJ,yJ,zy (by omega),zy (by omega),Nat.and_two_pow_sub_one_eq_mod,zW];have:X%2^T<2^T:=Nat.mod_lt _ hp1;omega
theorem vX {y x j T r:Nat} (hy:y<256) (hx:x<18446744073709551616) (h:r+T<=8):
 bits .or .u8 (y:Int) (bits .and .u64 ((x:Int) / 2^j) (IntKind.u64.wrap (IntKind.u64.wrap (2^T) - 1))%256*2^r%256)=((Zd y x j T r:Nat):Int):=by
 have e1:(x:Int) / 2^j=((x / 2^j:Nat):Int):=by
  rw [Int.natCast_ediv,Int.natCast_pow];rfl
 have hX:x / 2^j<18446744073709551616:=Nat.lt_of_le_of_lt (Nat.div_le_self _ _) hx;rw [e1,KL hX (by omega)];have hlt:=gM (x:=x) (j:=j) h;have h1:x / 2^j%2^T<256:=zX (Nat.mod_lt _ (xU T)) (by rw [show(256:Nat)=2^8 from rfl];exact yB (by omega) (by omega))
 have e2:((x / 2^j%2^T:Nat):Int)%256*2^r%256=((x / 2^j%2^T*2^r:Nat):Int):=by
  rw [show(2:Int)^r=((2^r:Nat):Int) by rw [Int.natCast_pow];rfl,show((x / 2^j%2^T:Nat):Int)%256=((x / 2^j%2^T:Nat):Int) by omega,<-Int.natCast_mul];omega
 rw [e2,qK hy hlt];rfl
theorem YW.step {l:aE} {wd N a j k T:Nat} {cur:aC} {y:UInt8} {x:Nat} (h:YW l wd N a cur) (hy:cur[a / 8]? =some y) (hx:l[k]? =some x) (ha:a=wd*k+j) (hT:j+T<=wd) (hr:a%8+T<=8):
 YW l wd N (a+T) (cur.set (a / 8) (Zd y.toNat x j T (a%8)).toUInt8):=by
 obtain⟨hl,hb⟩:=h;refine⟨by simpa using hl,fun i=> ?_⟩;have hk:=zN hx;have hq:=zN hy
 by_cases hi:i / 8=a / 8
 ·have hyb:y.toNat.testBit (i%8)=(decide (i<a) && N9 l wd i):=by
   have:=hb i;unfold bitB at this;rw [hi,hy]at this
   simpa using this
  unfold bitB;rw [hi,List.getElem?_set_self hq];simp only [yk,yq];rw [Yt (WE y.toNat_lt hr),rY,hyb]
  by_cases h1:i<a
  ·rw [decide_eq_true h1,decide_eq_true (show i<a+T by omega),decide_eq_false (show ¬a%8<=i%8 by omega)];simp
  ·rw [decide_eq_false h1,decide_eq_true (show a%8<=i%8 by omega)]
   by_cases h2:i<a+T
   ·rw [decide_eq_true h2,decide_eq_true (show i%8 - a%8<T by omega)];have hw:0<wd:=(by omega);have h3:i=wd*k+(j+(i - a)):=(by omega);have h4:j+(i - a)<wd:=(by omega);have h5:i / wd=k:=(by rw [h3,Nat.mul_add_div hw,Nat.div_eq_of_lt h4,yt])
    have h6:i%wd=j+(i - a):=by
     conv=>lhs;rw [h3]
     rw [Nat.mul_add_mod,zy h4]
    have h7:i<wd*l.length:=by
     have:wd*(k+1)<=wd*l.length:=Nat.mul_le_mul_left _ hk;rw [Nat.mul_add]at this;omega
    unfold N9;rw [h5,h6,decide_eq_true h7,hx,show j+(i%8 - a%8)=j+(i - a) by omega];simp
   ·rw [decide_eq_false h2,decide_eq_false (show ¬i%8 - a%8<T by omega)];simp
 ·have e:bitB (cur.set (a / 8) (Zd y.toNat x j T (a%8)).toUInt8) i=bitB cur i:=by
   unfold bitB;rw [List.getElem?_set_ne (by omega)]
  rw [e,hb i]
  by_cases h1:i<a
  ·rw [decide_eq_true h1,decide_eq_true (show i<a+T by omega)]
  ·rw [decide_eq_false h1,decide_eq_false (show ¬i<a+T by omega)]
theorem YW.done {l:aE} {wd N:Nat} {cur:aC} (h:YW l wd N (wd*l.length) cur) (hN:N=yK wd l.length):cur=Z8 l wd:=by
 refine mW (by rw [h.1,hN]) fun i _=> ?_;rw [h.2 i];unfold N9
 by_cases h1:i<wd*l.length
 ·rw [decide_eq_true h1];simp
 ·rw [decide_eq_false h1];simp
theorem zt.set {w:O} {S:Nat->Prop} {e:TypeId} {g n c j:Nat} {xs:aF} {u:V} (h:zt w S e 1 (.slice (some ⟨g,0,none⟩) n c) n xs) (hj:j<n):zt (w.setCell ⟨g,j,none⟩ u) S e 1 (.slice (some ⟨g,0,none⟩) n c) n (xs.set j u):=by
 refine⟨by rw [List.length_set];exact h.1,?_⟩;rcases h.2 with⟨hv,_⟩|⟨g',cap,cur,hv,hb,hg,h1,h2,h3,h4⟩
 ·cases hv
 ·have hgg:g' =g:=by injection hv with hA _ _;injection hA with hA;injection hA with hA _ _;exact hA.symm
  subst hgg;refine .inr ⟨g',cap,cur.setIfInBounds j u,hv,hb,?_,h1,h2,by simpa using h3,?_⟩
  ·simp [World.setCell,Array.getElem?_modify,hg]
  ·rw [Array.toList_setIfInBounds,List.take_set,h4]
theorem zt.frozen {w:O} {S:Nat->Prop} {e:TypeId} {size n:Nat} {v:V} {xs:aF} (h:zt w S e size v n xs) {g:Nat} (hg:v.ownBlock=some g) (i:Nat):w.frozen? ⟨g,i,none⟩=false:=by
 rcases h.2 with⟨rfl,_⟩|⟨g',cap,cur,rfl,_,hgg,_⟩
 ·cases hg
 ·cases hg;simp [World.frozen?,hgg]
theorem fX (l:aC) (j:Nat) {n:Nat} (h:n<256):bC (l.set j n.toUInt8)=(bC l).set j (.int .u8 (n:Int)):=by
 unfold bC;rw [List.map_set,Yt h]
theorem jN (N:Nat):(madeCells (Value.int .u8 0).cells (N*1)).toList=bC (List.replicate N 0):=by
 apply List.ext_getElem
 ·simp [madeCells,bC]
 ·intro i h1 h2;simp [madeCells,bC,Value.cells,Nat.mod_one]
theorem GC (A:aA) (n c:Nat) (w:O):Calls prog 162 #[.slice A n c,.int .i64 0] w fun e w' =>e= .returned (.slice none 0 0)/\w=w' :=by
 go_enter func162,ntmps162;go_wp2;go_ret
 exact⟨rfl,rfl⟩
theorem GB (A:aA) (n c wd:Nat) (l:aE) (w:O) (hw0:1<=wd) (hw:wd<=64) (hn:n<=1048576) (hl:RU w A n l) (hb:∀x∈l,x<18446744073709551616):
 Calls prog 162 #[.slice A n c,.int .i64 (wd:Int)] w fun e w' =>∃g,e= .returned (.slice (some ⟨g,0,none⟩) (yK wd n) (yK wd n))/\zt w' (Frm w.heap.size) 5 1 (.slice (some ⟨g,0,none⟩) (yK wd n) (yK wd n)) (yK wd n) (bC (Z8 l wd))/\Below w.heap.size w w' :=by
 have hw0' :(1:Int)<=wd:=by omega
 have hw' :(wd:Int)<=64:=by omega
 have hsz:=cI wd n hw hn w
 have hps:yK wd n<=67108864:=by
  have:wd*n<=64*1048576:=Nat.mul_le_mul hw hn;unfold yK;omega
 obtain⟨N,hN⟩:=eX (yK wd n);rw [hN]at hsz hps⊢;have Hsz:=zA hsz;have HN:=zA hN;have Hl:=zA hl;have Hb:=zA hb;clear hsz hN hl hb;obtain⟨i0,hi,hz0,hz1,hz2⟩:=info_parts (show(Tryz.prog.info? 5).map (fun i=>(i.zero,i.size,i.bytes))=some (some (.int .u8 0),1,1) by kernel_rfl);go_enter func162,ntmps162;go_wp2_with fail;refine Hsz.out.mono ?_;rintro e w' ⟨rfl,rfl⟩
 go_wp2_with (at_make;refine wpList_make_full _ rfl _ _ _ rfl w.heap.size 5 i0 _ 1 underlying65 hi hz0 hz1 .i64 .i64 _ _ N rfl rfl rfl rfl (by rw [hz2];omega) (by unfold maxLen;omega) (zC _) ?_;intro w1 ho1 hg1;have Ho1:=zA (Yd ho1);have Hg1:=zA hg1;clear ho1 hg1);have hb1:Below w.heap.size w w1:=⟨Hg1.out.os,Hg1.out.tape,Hg1.out.output,Hg1.out.size,fun k hk=>Hg1.out.block k hk (by simp)⟩
 have h0:=Ho1.out.at_ (A:=some ⟨w.heap.size,0,none⟩)
 have Hb1:=zA hb1;have hz:=jN N;rw [hz]at Ho1;have Ho1:Hid (zt w1 (Frm w.heap.size) 5 1 (.slice (some ⟨w.heap.size,0,none⟩) N N) N (bC (List.replicate N 0))):=Ho1;clear hb1 hz h0 hi hz0 hz1 hz2;obtain⟨B,hB⟩:∃B,B=w.heap.size:=⟨_,rfl⟩;obtain⟨g,hg⟩:∃g,g=w.heap.size:=⟨_,rfl⟩;have Ho2:Hid (zt w1 (Frm B) 5 1 (.slice (some ⟨g,0,none⟩) N N) N (bC (List.replicate N 0))):=by rw [hB,hg];exact Ho1.out
 have HB:=zA hB;rw [<-hg];clear hg hB Ho1
 go_loopw [25,6] (fun i a wr=>∃(k:Nat) (cur:aC),k<=n/\i= .int .i64 k/\a= .int .i64 ((wd*k:Nat):Int)/\YW l wd N (wd*k) cur/\zt wr (Frm B) 5 1 (.slice (some ⟨g,0,none⟩) N N) N (bC cur)/\Below w.heap.size w wr) (fun i _ _=>n - (intOf i).toNat)
 case atStart=>exact⟨0,List.replicate N 0,zJ _,rfl,rfl,YW.start _ _ _,Ho2.out,Hb1.out⟩
 case round=>
  obtain⟨k,cur,hk,rfl,rfl,hI,ho,hb⟩:=hrel;have HI:=zA hI;have Ho:=zA ho;have Hbw:=zA hb;clear hI ho hb
  by_cases hlt:k<n
  ·obtain⟨b,off,x,rfl,hbl,hcx,Hx⟩:=Hl.out.at_ hlt
   have hcx' :=(Hbw.out.cell (p:=⟨b,off+k,none⟩) hbl).trans hcx;have Hcx:=zA hcx;have hxb:=Hb.out x (zD Hx.out);clear hcx
   have hmul:wd*k+wd<=67108864:=by
    have h1:wd*(k+1)<=wd*n:=Nat.mul_le_mul_left _ hlt;have h2:wd*n<=64*1048576:=Nat.mul_le_mul hw hn;rw [Nat.mul_add]at h1;omega
   obtain⟨a0,ha0⟩:=eX (wd*k);rw [ha0]at HI hmul⊢;have Ha0:=zA ha0;clear ha0;go_wp2;obtain⟨wo,rfl⟩:∃wo:O,wo=wr:=⟨_,rfl⟩
   go_loopw [9,6] (fun v a wr=>∃(j:Nat) (cur:aC),j<=wd/\v= .int .i64 j/\a= .int .i64 ((a0+j:Nat):Int)/\YW l wd N (a0+j) cur/\zt wr (Frm B) 5 1 (.slice (some ⟨g,0,none⟩) N N) N (bC cur)/\Below w.heap.size w wr) (fun v _ _=>wd - (intOf v).toNat)
   case atStart=>exact⟨0,cur,zJ _,rfl,rfl,HI.out,Ho.out,Hbw.out⟩
   case round=>
    obtain⟨j,cur,hj,rfl,rfl,hI,ho,hb⟩:=hrel
    by_cases hjw:j<wd
    ·have hq:(a0+j) / 8<N:=by
      have h1:wd*(k+1)<=wd*n:=Nat.mul_le_mul_left _ hlt;rw [Nat.mul_add]at h1;have h2:=HN.out;have h3:=Ha0.out;unfold yK at h2;omega
     obtain⟨y,hy⟩:∃y,cur[(a0+j) / 8]? =some y:=⟨_,zB (by rw [hI.1];exact hq)⟩;have hcy:wr.cell? ⟨g,(a0+j) / 8,none⟩=some (.int .u8 (y.toNat:Int)):=ho.cells rfl _ _ (V4 hy);have hfy:wr.frozen? ⟨g,(a0+j) / 8,none⟩=false:=ho.frozen rfl _;obtain⟨T,hT⟩:∃T:Nat,T=min (8 - (a0+j)%8) (wd - j):=⟨_,rfl⟩;have hTi:min (8 - ((a0:Int)+j)%8) ((wd:Int) - j)=(T:Int):=(by omega);have hT1:1<=T:=(by omega)
     have hT2:j+T<=wd:=(by omega);have hT3:(a0+j)%8+T<=8:=(by omega);have HI2:=zA (hI.step hy Hx.out (by have:=Ha0.out;omega) hT2 hT3);have Hv:=zA (vX (y:=y.toNat) (x:=x) (j:=j) (T:=T) (r:=(a0+j)%8) y.toNat_lt hxb hT3);have Hlt:=zA (WE (y:=y.toNat) (x:=x) (j:=j) (T:=T) (r:=(a0+j)%8) y.toNat_lt hT3);have Ho:=zA ho;have Hbw:=zA hb;have Hy:=zA hy;clear hI ho hb hy hT hT3;go_wp2
     go_region
     go_wp2
     go_roundw
     case rel=>
      refine⟨j+T,_,by omega,by go_num,by congr 1;omega,(by rw [<-Nat.add_assoc];exact HI2.out),?_,?_⟩
      ·rw [Hv.out];have:=(Ho.out.set (u:= .int .u8 ((Zd y.toNat x j T ((a0+j)%8):Nat):Int)) hq);rw [<-fX _ _ Hlt.out]at this;exact zt.on this (zE _ _).drew
      ·exact(Hbw.out.setCell (p:=⟨g,(a0+j) / 8,none⟩) (by have h1:B<=g:=(Ho.out.lt g rfl).1;have h2:=HB.out;show w.heap.size<=g;omega) _).drew
     case measure=>simp [intOf];omega
    ·obtain rfl:j=wd:=by omega
     have HI:=zA hI;have Ho:=zA ho;have Hbw:=zA hb;have Ha1:Hid (a0+j=j*(k+1)):=(by have:=Ha0.out;show _=_;rw [Nat.mul_add];omega);clear hI ho hb;go_wp2
     go_roundw
     case rel=>exact⟨k+1,cur,by omega,by go_num,by rw [Ha1.out],by rw [<-Ha1.out];exact HI.out,Ho.out,Hbw.out⟩
     case measure=>simp [intOf];omega
  ·obtain rfl:k=n:=by omega
   have hlen:=Hl.out.len;have Hf:=zA (YW.done (by rw [hlen];exact HI.out) (by rw [hlen];exact HN.out.symm));clear hlen;go_wp2;go_ret
   refine⟨g,rfl,?_,Hbw.out⟩;rw [<-Hf.out,<-HB.out];exact Ho.out
def aY (b:aC) (a:Nat):Nat->Bool:=fun s=>bitB b (a+s)
def Vd (v y k T r:Nat):Nat:=v|||(y / 2^r%2^T*2^k)
theorem vZ {b:aC} {a k T:Nat} {y:UInt8} (hy:b[(a+k) / 8]? =some y) (hr:(a+k)%8+T<=8):Vd (ofB (aY b a) k) y.toNat k T ((a+k)%8)=ofB (aY b a) (k+T):=by
 have h1:y.toNat / 2^((a+k)%8)%2^T<2^T:=Nat.mod_lt _ (xU T);refine fU ?_ fun i hi=> ?_
 ·unfold Vd;refine Nat.or_lt_two_pow (zX (WM _ _) (yB (by omega) (by omega))) ?_;rw [Nat.add_comm k T,Nat.pow_add];exact Nat.mul_lt_mul_of_pos_right h1 (xU k)
 ·unfold Vd;rw [Nat.testBit_or,<-Nat.shiftLeft_eq,Nat.testBit_shiftLeft,Nat.testBit_mod_two_pow,Nat.testBit_div_two_pow]
  by_cases hk:i<k
  ·rw [Vt _ _ _ hk,decide_eq_false (show ¬k<=i by omega)];simp
  ·rw [mZ _ _ _ (by omega),decide_eq_true (show k<=i by omega),decide_eq_true (show i - k<T by omega)];simp only [Bool.false_or,Bool.true_and];unfold aY bitB;rw [show(a+i) / 8=(a+k) / 8 by omega,hy,show(a+i)%8=i - k+(a+k)%8 by omega];rfl
theorem LI {X T:Nat} (hX:X<256) (hT:T<=8):bits .and .u8 (X:Int) ((2^T - 1)%256)=((X%2^T:Nat):Int):=by
 have hp:(2:Nat)^T<=2^8:=yB (by omega) hT;have hp1:=xU T
 have e:((2:Int)^T - 1)%256=((2^T - 1:Nat):Int):=by
  rw [show(2:Int)^T=((2^T:Nat):Int) by rw [Int.natCast_pow];rfl];generalize 2^T=P at*;omega
 rw [e];show IntKind.u8.wrap ((BitVec.ofInt 8 (X:Int) &&& BitVec.ofInt 8 ((2^T - 1:Nat):Int)).toNat:Int)=_;rw [yE,yE,BitVec.toNat_and,yJ,yJ,zy (by omega),zy (by omega),Nat.and_two_pow_sub_one_eq_mod,IntKind.wrap_u8];have:X%2^T<2^T:=Nat.mod_lt _ hp1;omega
theorem DW {v y j T r:Nat} (hv:v<18446744073709551616) (hy:y<256) (h:r+T<=8) (hj:j+T<=64):
 bits .or .u64 (v:Int) (IntKind.u64.wrap (IntKind.u64.wrap (bits .and .u8 ((y:Int) / 2^r) ((2^T - 1)%256))*2^j))=((Vd v y j T r:Nat):Int):=by
 have e1:(y:Int) / 2^r=((y / 2^r:Nat):Int):=by
  rw [Int.natCast_ediv,Int.natCast_pow];rfl
 have hY:y / 2^r<256:=Nat.lt_of_le_of_lt (Nat.div_le_self _ _) hy;rw [e1,LI hY (by omega)];have h1:y / 2^r%2^T<2^T:=Nat.mod_lt _ (xU T)
 have h2:y / 2^r%2^T*2^j<2^64:=by
  have h3:y / 2^r%2^T*2^j<2^T*2^j:=Nat.mul_lt_mul_of_pos_right h1 (xU j);rw [<-Nat.pow_add]at h3;exact zX h3 (yB (by omega) (by omega))
 have hp:(2:Nat)^T<=2^8:=yB (by omega) (by omega)
 have e2:IntKind.u64.wrap (IntKind.u64.wrap ((y / 2^r%2^T:Nat):Int)*2^j)=((y / 2^r%2^T*2^j:Nat):Int):=by
  rw [show IntKind.u64.wrap ((y / 2^r%2^T:Nat):Int)=((y / 2^r%2^T:Nat):Int) by rw [zW];omega];rw [show(2:Int)^j=((2^j:Nat):Int) by rw [Int.natCast_pow];rfl,<-Int.natCast_mul,zW];omega
 rw [e2,qA hv h2];rfl
def QZ (b:aC) (wd n i k:Nat) (cur:aE):Prop:=cur.length=n/\∀t,t<n->cur[t]? =some (if t<i then ofB (aY b (t*wd)) wd else if t=i then ofB (aY b (i*wd)) k else 0)
theorem QZ.start (b:aC) (wd n:Nat):QZ b wd n 0 0 (List.replicate n 0):=by
 refine⟨by simp,fun t ht=> ?_⟩;rw [List.getElem?_replicate,if_pos ht,if_neg (by omega)]
 split<;>rfl
theorem QZ.next {b:aC} {wd n i:Nat} {cur:aE} (h:QZ b wd n i wd cur):QZ b wd n (i+1) 0 cur:=by
 refine⟨h.1,fun t ht=> ?_⟩;rw [h.2 t ht]
 by_cases h1:t<i
 ·rw [if_pos h1,if_pos (by omega)]
 ·rw [if_neg h1]
  by_cases h2:t=i
  ·subst h2;rw [if_pos rfl,if_pos (by omega)]
  ·rw [if_neg h2,if_neg (by omega)]
   split<;>rfl
theorem QZ.step {b:aC} {wd n i k T:Nat} {cur:aE} {y:UInt8} (h:QZ b wd n i k cur) (hi:i<n) (hy:b[(i*wd+k) / 8]? =some y) (hr:(i*wd+k)%8+T<=8):
 QZ b wd n i (k+T) (cur.set i (Vd (ofB (aY b (i*wd)) k) y.toNat k T ((i*wd+k)%8))):=by
 refine⟨by simpa using h.1,fun t ht=> ?_⟩
 by_cases h2:t=i
 ·subst h2;rw [List.getElem?_set_self (by rw [h.1];exact ht),if_neg (by omega),if_pos rfl,vZ hy hr]
 ·rw [List.getElem?_set_ne (by omega),h.2 t ht];simp [h2]
theorem QZ.done {b:aC} {wd n:Nat} {cur:aE} (h:QZ b wd n n 0 cur):cur=YE b wd n:=by
 refine yX fun t=> ?_;rcases zk t n with ht|ht
 ·rw [h.2 t ht,if_pos ht];unfold YE;rw [zH,zq ht];rfl
 ·rw [zh (by rw [h.1];exact ht),zh (by simp [YE];exact ht)]
theorem Vv (N:Nat):(madeCells (Value.int .u64 0).cells (N*1)).toList=uC (List.replicate N 0):=by
 apply List.ext_getElem
 ·simp [madeCells,uC]
 ·intro i h1 h2;simp [madeCells,uC,Value.cells,Nat.mod_one]
theorem fK (l:aE) (j n:Nat):uC (l.set j n)=(uC l).set j (.int .u64 (n:Int)):=by
 unfold uC;rw [List.map_set]
theorem rV (A:aA) (nb c wd n:Nat) (b:aC) (w:O) (hw:wd<=64) (hn:n<=1048576) (hl:RB w A nb b) (hne:nb≠yK wd n) (hnb:nb<=140737488355328):
 Calls prog 135 #[.slice A nb c,.int .i64 (wd:Int),.int .i64 (n:Int)] w fun e w' =>e= .returned (.tuple #[.slice none 0 0,.int .i64 20])/\w=w' :=by
 have hw' :(wd:Int)<=64:=by omega
 have hn' :(n:Int)<=1048576:=by omega
 have Hsz:=zA (cI wd n hw hn w);have hne' :((nb:Int) !=(yK wd n:Nat))=true:=by simp;omega
 clear hne hl;go_enter func135,ntmps135;go_wp2_with fail;go_step3;go_wp2_with fail;refine Hsz.out.mono ?_;rintro e w' ⟨rfl,rfl⟩;go_wp2
 try rw [Exit.noGoto_ret]
 go_ret2;exact⟨rfl,rfl⟩
theorem kN (A:aA) (c wd n:Nat) (b:aC) (w:O) (hw:wd<=64) (hn:n<=1048576) (hl:RB w A (yK wd n) b):
 Calls prog 135 #[.slice A (yK wd n) c,.int .i64 (wd:Int),.int .i64 (n:Int)] w fun e w' =>∃v er,e= .returned (.tuple #[v,.int .i64 er])/\((Z2 b wd n=none/\er=20/\v= .slice none 0 0)\/(∃A',Z2 b wd n=some (YE b wd n)/\er=0/\v= .slice A' n n/\zt w' (Frm w.heap.size) 35 1 v n (uC (YE b wd n))))/\Below w.heap.size w w' :=by
 have hw' :(wd:Int)<=64:=by omega
 have hn' :(n:Int)<=1048576:=by omega
 have hsz:=cI wd n hw hn w
 have hps:yK wd n<=67108864:=by
  have:wd*n<=64*1048576:=Nat.mul_le_mul hw hn;unfold yK;omega
 obtain⟨N,hN⟩:=eX (yK wd n);rw [hN]at hsz hps hl⊢;have Hsz:=zA hsz;have HN:=zA hN;have Hl:=zA hl;clear hsz hN hl;have hne' :((N:Int) !=(N:Int))=false:=by simp
 obtain⟨i0,hi,hz0,hz1,hz2⟩:=info_parts (show(Tryz.prog.info? 35).map (fun i=>(i.zero,i.size,i.bytes))=some (some (.int .u64 0),1,8) by kernel_rfl);go_enter func135,ntmps135;go_wp2_with fail;go_step3;go_wp2_with fail;refine Hsz.out.mono ?_;rintro e w' ⟨rfl,rfl⟩
 go_wp2_with (at_make;refine wpList_make_full _ rfl _ _ _ rfl w.heap.size 35 i0 _ 1 underlying123 hi hz0 hz1 .i64 .i64 _ _ n rfl rfl rfl rfl (by rw [hz2];omega) (by unfold maxLen;omega) (zC _) ?_;intro w1 ho1 hg1;have Ho1:=zA (Yd ho1);have Hg1:=zA hg1;clear ho1 hg1);have hb1:Below w.heap.size w w1:=⟨Hg1.out.os,Hg1.out.tape,Hg1.out.output,Hg1.out.size,fun k hk=>Hg1.out.block k hk (by simp)⟩
 have Hb1:=zA hb1;have hz:=Vv n;rw [hz]at Ho1;have Ho1:Hid (zt w1 (Frm w.heap.size) 35 1 (.slice (some ⟨w.heap.size,0,none⟩) n n) n (uC (List.replicate n 0))):=Ho1;clear hb1 hz hi hz0 hz1 hz2;obtain⟨B,hB⟩:∃B,B=w.heap.size:=⟨_,rfl⟩;obtain⟨g,hg⟩:∃g,g=w.heap.size:=⟨_,rfl⟩;have Ho2:Hid (zt w1 (Frm B) 35 1 (.slice (some ⟨g,0,none⟩) n n) n (uC (List.replicate n 0))):=by rw [hB,hg];exact Ho1.out
 have HB:=zA hB;rw [<-hg];clear hg hB Ho1;go_wp2;go_step3;go_wp2
 go_loopg [39,9] n (fun gk i a wr=>∃(k:Nat) (cur:aE),k<=n/\gk=n - k/\i= .int .i64 k/\a= .int .i64 ((k*wd:Nat):Int)/\QZ b wd n k 0 cur/\zt wr (Frm B) 35 1 (.slice (some ⟨g,0,none⟩) n n) n (uC cur)/\Below w.heap.size w wr)
 case atStart=>exact⟨0,List.replicate n 0,zJ _,rfl,rfl,by simp,QZ.start _ _ _,Ho2.out,Hb1.out⟩
 case round=>
  obtain⟨i,cur,hi,rfl,rfl,rfl,hI,ho,hb⟩:=hrel;have HI:=zA hI;have Ho:=zA ho;have Hbw:=zA hb;clear hI ho hb
  by_cases hlt:i<n
  ·have hmul:i*wd+wd<=67108864:=by
    have h1:(i+1)*wd<=n*wd:=yj _ hlt;have h2:n*wd<=1048576*64:=Nat.mul_le_mul hn hw;rw [xK]at h1;omega
   obtain⟨a0,ha0⟩:=eX (i*wd);rw [ha0]at hmul⊢;have Ha0:=zA ha0;clear ha0;go_wp2;obtain⟨wo,rfl⟩:∃wo:O,wo=wr:=⟨_,rfl⟩
   go_loopg [11,9] wd (fun gk v a wr=>∃(j:Nat) (cur:aE),j<=wd/\gk=wd - j/\v= .int .i64 j/\a= .int .i64 ((a0+j:Nat):Int)/\QZ b wd n i j cur/\zt wr (Frm B) 35 1 (.slice (some ⟨g,0,none⟩) n n) n (uC cur)/\Below w.heap.size w wr)
   case atStart=>exact⟨0,cur,zJ _,rfl,rfl,rfl,HI.out,Ho.out,Hbw.out⟩
   case round=>
    obtain⟨j,cur,hj,rfl,rfl,rfl,hI,ho,hb⟩:=hrel
    by_cases hjw:j<wd
    ·have hq:(a0+j) / 8<N:=by
      have h1:(i+1)*wd<=n*wd:=yj _ hlt;rw [xK,Nat.mul_comm n wd]at h1;have h2:=HN.out;have h3:=Ha0.out;unfold yK at h2;omega
     obtain⟨bb,off,y,rfl,hbl,hcy0,Hy⟩:=Hl.out.at_ hq
     have hcy:=(hb.cell (p:=⟨bb,off+(a0+j) / 8,none⟩) hbl).trans hcy0;obtain⟨v,hv⟩:∃v,v=ofB (aY b a0) j:=⟨_,rfl⟩;have hcu:wr.cell? ⟨g,i,none⟩=some (.int .u64 (v:Int)):=ho.cells rfl _ _ (WB (by rw [hI.2 i hlt,if_neg (by omega),if_pos rfl,hv,Ha0.out]));have hfu:wr.frozen? ⟨g,i,none⟩=false:=ho.frozen rfl _
     have hv64:v<18446744073709551616:=by
      rw [hv];exact zX (WM _ j) (yB (by omega) (show j<=64 by omega))
     obtain⟨T,hT⟩:∃T:Nat,T=min (8 - (a0+j)%8) (wd - j):=⟨_,rfl⟩;have hTi:min (8 - ((a0:Int)+j)%8) ((wd:Int) - j)=(T:Int):=(by omega);have hT1:1<=T:=(by omega);have hT2:j+T<=wd:=(by omega);have hT3:(a0+j)%8+T<=8:=(by omega);have hst:=hI.step hlt (T:=T) (by rw [Ha0.out];exact Hy.out) (by rw [Ha0.out];exact hT3);rw [Ha0.out]at hst;have HI2:=zA hst;have Ho:=zA ho;have Hbw:=zA hb
     have Hnv:=zA (DW (v:=v) (y:=y.toNat) (j:=j) (T:=T) (r:=(a0+j)%8) hv64 y.toNat_lt hT3 (by omega));have Hv:=zA hv;clear hI ho hb hT hT3 hst hcy0 hv;go_wp2
     go_region
     go_wp2
     go_roundg (wd - (j+T))
     case measure=>omega
     case rel=>
      refine⟨j+T,_,by omega,rfl,by go_num,by congr 1;omega,HI2.out,?_,?_⟩
      ·rw [Hnv.out,Hv.out,fK];exact zt.on (Ho.out.set hlt) (zE _ _).drew
      ·exact(Hbw.out.setCell (p:=⟨g,i,none⟩) (by have h1:B<=g:=(Ho.out.lt g rfl).1;have h2:=HB.out;show w.heap.size<=g;omega) _).drew
    ·obtain rfl:j=wd:=by omega
     have HI:=zA hI.next;have Ho:=zA ho;have Hbw:=zA hb;have Ha1:Hid (a0+j=(i+1)*j):=(by have:=Ha0.out;show _=_;rw [xK];omega);clear hI ho hb;go_wp2
     go_roundg (n - (i+1))
     ·exact⟨i+1,cur,by omega,rfl,by go_num,by rw [Ha1.out],HI.out,Ho.out,Hbw.out⟩
     ·omega
  ·obtain rfl:i=n:=by omega
   have Hcur:=zA HI.out.done;obtain⟨P,hP⟩:=eX (i*wd);rw [hP];have HP:Hid (wd*i=P):=(by show _=_;rw [Nat.mul_comm];exact hP)
   have hP2:P<=67108864:=by
    have h2:i*wd<=1048576*64:=Nat.mul_le_mul hn hw;omega
   clear hP;have hres:zt wr (Frm B) 35 1 (.slice (some ⟨g,0,none⟩) i i) i (uC (YE b wd i)):=(by rw [<-Hcur.out];exact Ho.out);have Hres:=zA hres;have hNl:b.length=yK wd i:=(by rw [Hl.out.len,HN.out]);have Hnl:=zA hNl;clear hres hNl
   by_cases hr:P%8=0
   ·have hok:Z2 b wd i=some (YE b wd i):=by
     unfold Z2;rw [if_neg (by rw [Hnl.out];simp),if_neg (by rw [HP.out];omega)]
    have Hok:=zA hok;have hr' :(P:Int)%8<=0:=(by omega);clear hok hr;go_wp2
    try rw [Exit.noGoto_ret]
    go_ret2;exact⟨_,_,rfl,.inr ⟨_,Hok.out,rfl,rfl,by rw [<-HB.out];exact Hres.out⟩,Hbw.out⟩
   ·have hq:P / 8<N:=by
     have h2:=HN.out;unfold yK at h2;rw [HP.out]at h2;omega
    obtain⟨bb,off,y,rfl,hbl,hcy0,Hy⟩:=Hl.out.at_ hq
    have hcy:=(Hbw.out.cell (p:=⟨bb,off+P / 8,none⟩) hbl).trans hcy0;have hr' :(0:Int)<(P:Int)%8:=(by omega);have hyv:(y.toNat:Int) / 2^(P%8)=((y.toNat / 2^(P%8):Nat):Int):=(by rw [Int.natCast_ediv,Int.natCast_pow];rfl);obtain⟨Z,hZ⟩:=eX (y.toNat / 2^(P%8));rw [hZ]at hyv;have hyb:(b[P / 8]?.getD 0).toNat=y.toNat:=by rw [Hy.out];rfl
    by_cases h0:Z=0
    ·have hok:Z2 b wd i=some (YE b wd i):=by
      unfold Z2;rw [if_neg (by rw [Hnl.out];simp),if_neg];rw [HP.out,hyb,hZ];exact fun h=>h.2 h0
     have Hok:=zA hok;have h0' :((Z:Int) !=0)=false:=(by simp [h0]);clear hok hr hZ hyb hcy0 h0;go_wp2
     try rw [Exit.noGoto_ret]
     go_ret2;exact⟨_,_,rfl,.inr ⟨_,Hok.out,rfl,rfl,by rw [<-HB.out];exact Hres.out⟩,Hbw.out⟩
    ·have hok:Z2 b wd i=none:=by
      unfold Z2;rw [if_neg (by rw [Hnl.out];simp),if_pos];rw [HP.out,hyb,hZ];exact⟨by omega,h0⟩
     have Hok:=zA hok;have h0' :((Z:Int) !=0)=true:=(by simp [h0]);clear hok hr hZ hyb hcy0 h0;go_wp2
     try rw [Exit.noGoto_ret]
     go_ret2;exact⟨_,_,rfl,.inl ⟨Hok.out,rfl,rfl⟩,Hbw.out⟩
def Zq (rows:List aD):aC:=Z8 (rows.map fun l=>if l= []then 0 else 1) 1
def yp (rows:List aD):aD:=(rows.filter fun l=> !l.isEmpty).map fun l=>(l.length:Int) - 1
def colL (rows:List aD):aC:=zP rows.length++(Zq rows++(putL (yp rows)++putL rows.flatten))
structure ColP where
 ends:aD
 all:aD
structure TextColP where
 col:ColP
 terms:List aB
end Go.Proofs.YtjbhbfaeielbiaaGreatDoor

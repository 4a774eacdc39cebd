import Derived.Test.YtjbhbfaeielbiaaGreatDoorPart11
import Derived.Test.YtjbhbfaeielbiaaGreatDoorPart14
set_option maxRecDepth 100000
set_option maxHeartbeats 8000000
set_option linter.unusedVariables false
set_option linter.unusedSimpArgs false
namespace Go.Proofs.YtjbhbfaeielbiaaGreatDoor
def xh (c:Nat):Nat:=(c / 2)^^^(3988292384*(c%2))
def yi (i:Nat):Nat:=xh (xh (xh (xh i)))
def Uk (c:Nat):Nat:=(c / 16)^^^yi (c%16)
def Xt (c:Nat) (b:UInt8):Nat:=Uk (Uk (c^^^b.toNat))
def crcL (c:Nat) (l:aC):Nat:=l.foldl Xt c
def sumL (l:aC):Nat:=4294967295 - crcL 4294967295 l
theorem Yi {c:Nat} (h:c<2^32):xh c<2^32:=
 Nat.xor_lt_two_pow (by omega) (by omega)
theorem lX {i:Nat} (h:i<2^32):yi i<2^32:=Yi (Yi (Yi (Yi h)))
theorem Uj {c:Nat} (h:c<2^32):Uk c<2^32:=Nat.xor_lt_two_pow (by omega) (lX (by omega))
theorem AZ {c:Nat} (b:UInt8) (h:c<2^32):Xt c b<2^32:=
 Uj (Uj (Nat.xor_lt_two_pow h (by have:=b.toNat_lt;omega)))
theorem cX:∀(l:aC) {c:Nat},c<2^32->crcL c l<2^32
 | [],_,h=>h
 |b::l,_,h=>cX l (AZ b h)
def Za (n:Nat):aC:= [(n%256).toUInt8,(n / 256%256).toUInt8,(n / 65536%256).toUInt8,(n / 16777216%256).toUInt8]
def WS (kind:UInt8) (a:List aC):aC:= [76,84,1,kind]++(zP a.length++a.flatMap fun s=>zP s.length)
def xN (kind:UInt8) (a:List aC):aC:=WS kind a++a.flatten
def xR (kind:UInt8) (a:List aC):Bool:=decide (a.length<=1024) && decide ((xN kind a).length+4<=16777216)
def ZQ (kind:UInt8) (a:List aC):aC:=xN kind a++Za (sumL (xN kind a))
def Wg:Nat->RS->aE×RS
 |0,r=>([],r)
 |k+1,r=>((r.size 16777216).1::(Wg k (r.size 16777216).2).1,(Wg k (r.size 16777216).2).2)
def Wl:aE->RS->List aC×RS
 | [],r=>([],r)
 |n::l,r=>((r.bytes n).1::(Wl l (r.bytes n).2).1,(Wl l (r.bytes n).2).2)
def mY (b:aC):Option (List aC):=
 let n:=(RS.mk b 0 0).size 1024
 let s:=Wg n.1 n.2
 let p:=Wl s.1 s.2
 if p.2.fin.e=0 then some p.1 else none
def ZN (kind:UInt8) (a:aC):Bool:=
 decide (8<=a.length) && decide (a.take 4= [76,84,1,kind]) && decide (a.drop (a.length - 4)=Za (sumL (a.take (a.length - 4))))
def gD (kind:UInt8) (a:aC):Option (List aC):=
 if ZN kind a then mY ((a.take (a.length - 4)).drop 4)else none
theorem iX:∀(l:List aC) (pre post:aC),(∀s∈l,s.length<=16777216)->
 Wg l.length (rsAt pre ((l.flatMap fun s=>zP s.length)++post))=(l.map List.length,rsAt (pre++l.flatMap fun s=>zP s.length) post)
 | [],pre,post,_=>by simp [Wg]
 |s::l,pre,post,h=>by
  simp only [z6,Wg,zp,zO,yH];have a:=h s (by simp);rw [yn (by omega) a,iX l _ post fun t b=>h t (by simp [b])];simp
theorem jL:∀(l:List aC) (pre post:aC),Wl (l.map List.length) (rsAt pre (l.flatten++post))=(l,rsAt (pre++l.flatten) post)
 | [],pre,post=>by simp [Wl]
 |s::l,pre,post=>by
  simp only [yH,Wl,yM,zO];rw [X4,jL l _ post];simp
theorem Uc:∀{l:aE} {x:Nat},x∈l->x<=l.sum
 |y::l,x,h=>by
  rw [List.sum_cons];rcases yx.1 h with rfl|h
  ·omega
  ·have:=Uc h;omega
theorem DT {kind:UInt8} {a:List aC} (h:xR kind a=true):gD kind (ZQ kind a)=some a:=by
 simp only [xR,zM,decide_eq_true_eq]at h;have f:(Za (sumL (xN kind a))).length=4:=rfl;have g:4<=(xN kind a).length:=by simp [xN,WS]
 have hlen:(ZQ kind a).length=(xN kind a).length+4:=by simp [ZQ,f]
 have c:(ZQ kind a).take ((ZQ kind a).length - 4)=xN kind a:=by
  rw [hlen,Nat.add_sub_cancel,ZQ,List.take_left]
 have i:(ZQ kind a).drop ((ZQ kind a).length - 4)=Za (sumL (xN kind a)):=by
  rw [hlen,Nat.add_sub_cancel,ZQ,List.drop_left]
 unfold gD;rw [if_pos ?_,c]
 ·have e:(xN kind a).drop 4=zP a.length++((a.flatMap fun s=>zP s.length)++(a.flatten++ [])):=by
   simp [xN,WS]
  have b:∀s∈a,s.length<=16777216:=by
   intro s b;have d:=h.2;simp only [xN,zG,List.length_flatten]at d;have:s.length<=(a.map List.length).sum:=Uc (List.mem_map.2 ⟨s,b,rfl⟩);omega
  unfold mY;rw [e,show RS.mk (zP a.length++((a.flatMap fun s=>zP s.length)++(a.flatten++ []))) 0 0=rsAt [] (zP a.length++((a.flatMap fun s=>zP s.length)++(a.flatten++ []))) by simp [rsAt]];simp only [yn (show a.length<2^64 by omega) h.1,iX a _ _ b,jL];simp [RS.fin,rsAt,RS.left]
 ·unfold ZN;rw [c,i];simp only [hlen,zM,decide_eq_true_eq];refine⟨⟨?_,?_⟩,trivial⟩
  ·omega
  ·rw [ZQ,List.take_append_of_le_length g];simp [xN,WS]
open Tryz
open Go.RowKit
theorem CO (A:aA) (nb c wd n:Nat) (b:aC) (w:O) (j:wd<=64) (g:n<=1048576) (f:RB w A nb b) (a:nb<=140737488355328) (h:Z2 b wd n=none):
 Calls prog 135 #[.slice A nb c,.int .i64 (wd:Int),.int .i64 (n:Int)] w fun e w' =>e= .returned (.tuple #[.slice none 0 0,.int .i64 20])/\Below w.heap.size w w' :=by
 by_cases i:nb=yK wd n
 ·subst i;refine(kN A c wd n b w j g f).mono ?_;rintro e w' ⟨v,l,rfl,⟨_,rfl,rfl⟩|⟨_,d,_⟩,k⟩
  ·exact⟨rfl,k⟩
  ·rw [h]at d;cases d
 ·refine(rV A nb c wd n b w j g f i a).mono ?_;rintro e w' ⟨rfl,rfl⟩;exact⟨rfl,zE _ _⟩
theorem vO (A:aA) (nb c wd n:Nat) (b:aC) (w:O) (k:wd<=64) (g:n<=1048576) (d:RB w A nb b) {l:aE} (h:Z2 b wd n=some l):
 Calls prog 135 #[.slice A nb c,.int .i64 (wd:Int),.int .i64 (n:Int)] w fun e w' =>∃A',e= .returned (.tuple #[.slice A' n n,.int .i64 0])/\zt w' (Frm w.heap.size) 35 1 (.slice A' n n) n (uC l)/\Below w.heap.size w w' :=by
 have j:nb=yK wd n:=by
  unfold Z2 at h
  split at h
  ·cases h
  ·rename_i o;rw [<-d.len];omega
 subst j;refine(kN A c wd n b w k g d).mono ?_;rintro e w' ⟨v,m,rfl,⟨a,_,_⟩|⟨A',a,rfl,rfl,i⟩,f⟩
 ·rw [h]at a;cases a
 ·rw [h]at a;cases a;exact⟨A',rfl,i,f⟩
theorem FZ {r:RS} {n:Nat} (h:(r.bytes n).2.e=0):(r.bytes n).1.length=n:=by
 unfold RS.bytes RS.take at*
 split at h
 ·rename_i b;exact absurd h b
 ·rename_i b
  split at h
  ·simp at h
  ·rename_i x k a;rw [if_neg b];show x.length=n;unfold Y5 at a
   split at a
   ·rename_i c;cases a;rw [zr];omega
   ·cases a
theorem Tch.drewR (S:Nat->Prop) (w:O):Tch S w w.drew:=Tch.new (zE _ _).drew
theorem xY.row {w w' :O} {S S' :Nat->Prop} {p:Nat} {r j :RS} {e:TypeId} {size n:Nat} {v:V} {xs:aF} (h:zt w S' e size v n xs) (i:Rd w S p r) (f:xY w S p j w') (c:e≠239):zt w' S' e size v n xs:=
 h.tch f.2 (fun g d a =>by
  subst a;obtain⟨_,_,_,_,_,b,_⟩:=i;exact h.ne_ b c d)
theorem xY.below {w w' :O} {S:Nat->Prop} {B p:Nat} {r f :RS} (d:Rd w S p r) (c:xY w S p f w') (hB:B<=w.heap.size) (a:∀b,S b->B<=b):Below B w w' :=c.2.below hB (fun b e=>by subst e;exact a _ d.1)
theorem NW (r:RS):r.int.2.b=r.b:=by
 unfold RS.int RS.uint RS.take;simp only
 split
 ·rfl
 ·split<;>rfl
theorem pO (r:RS) (n:Nat):(r.bytes n).2.b=r.b:=by
 unfold RS.bytes RS.take
 split
 ·rfl
 ·split<;>rfl
theorem EU {n f:Nat} {l:aD} {r:RS} (h:l.length=n):QV n (f+1) l r=some (l,r.at_):=by
 conv=>lhs;unfold QV
 rw [if_neg (by omega)]
theorem EP (r:RS): -9223372036854775808<=r.int.1/\r.int.1<=9223372036854775807:=by
 have h:=eQ r;unfold RS.int back;simp only
 split<;>omega
theorem rF {m:Int} {u:Nat} {l:aE} (h:m+u<=9223372036854775807):xu m (u::l)=(xu m l).map ((m+u)::·):=by
 conv=>lhs;unfold xu
 rw [if_pos h]
theorem rA {m:Int} {u:Nat} {l:aE} (h:¬m+u<=9223372036854775807):xu m (u::l)=none:=by
 conv=>lhs;unfold xu
 rw [if_neg h]
theorem vI {m:Int} {a:aE} {j u:Nat} {xs:aD} (c:a[j]? =some u) (h:xu m a=(xu m (a.drop j)).map (xs++·)) (e:m+u<=9223372036854775807):
 xu m a=(xu m (a.drop (j+1))).map ((xs++ [m+u])++·):=by
 have b:=(List.getElem?_eq_some_iff.1 c).1;have d:=(List.getElem?_eq_some_iff.1 c).2;rw [h,za b,d,rF e];cases xu m (a.drop (j+1))<;>simp
theorem vH {m:Int} {a:aE} {j u:Nat} {xs:aD} (c:a[j]? =some u) (h:xu m a=(xu m (a.drop j)).map (xs++·)) (e:¬m+u<=9223372036854775807):
 xu m a=none:=by
 have b:=(List.getElem?_eq_some_iff.1 c).1;have d:=(List.getElem?_eq_some_iff.1 c).2;rw [h,za b,d,rA e];rfl
theorem CE {m:Int} {a:aE} {k:Nat} {xs:aD} (b:a.length=k) (h:xu m a=(xu m (a.drop k)).map (xs++·)):xu m a=some xs:=by
 subst b;rw [h,List.drop_length];simp [xu]
theorem NS {m:Int} {u:Nat} (a: -9223372036854775808<=m/\m<=9223372036854775807) (b:u<18446744073709551616) (h:m+u<=9223372036854775807):IntKind.i64.wrap (IntKind.u64.wrap (IntKind.u64.wrap m+u))=m+u:=by
 rw [zT,zW,zW];omega
theorem MK {m:Int} {u:Nat} (a: -9223372036854775808<=m/\m<=9223372036854775807) (b:u<18446744073709551616) (h:¬m+u<=9223372036854775807):IntKind.i64.wrap (IntKind.u64.wrap (IntKind.u64.wrap m+u))=m+u - 18446744073709551616:=by
 rw [zT,zW,zW];omega
theorem KE (r:RS) (n:Nat):(r.bytes n).1.length<=n:=by
 unfold RS.bytes RS.take
 split
 ·simp
 ·split
  ·simp
  ·rename_i x k a;unfold Y5 at a
   split at a
   ·cases a;show(List.take n r.rest).length<=n;rw [zr];omega
   ·cases a
theorem CP {b:aC} {wd n:Nat} {l:aE} (a:wd<=64) (h:Z2 b wd n=some l):l.length=n/\∀x∈l,x<18446744073709551616:=by
 unfold Z2 at h
 split at h
 ·cases h
 split at h
 ·cases h
 cases h;refine⟨by simp [YE],fun x c=> ?_⟩;obtain⟨i,_,rfl⟩:=List.mem_map.1 c;exact zX (WM _ wd) (yB (by omega) a)
def Uf (n f:Nat) (l:aD) (least:Int) (wd:Nat) (o:Option aE) (a:RS):Option (aD×Nat):=
 match o with
 |none=>none
 |some above=>if a.e≠0\/ZW above≠wd\/minN above≠0 then none else
  match xu least above with
  |none=>none
  |some xs=>QV n f (l++xs) a
def UJ (n f:Nat) (l:aD) (k:Nat) (least:Int) (wd:Nat) (a:RS):Option (aD×Nat):=
 if a.e≠0\/64<wd then none else Uf n f l least wd (Z2 (a.bytes (yK wd k)).1 wd k) (a.bytes (yK wd k)).2
theorem AJ (n f:Nat) (l:aD) (r:RS) (h:l.length<n):QV n (f+1) l r=UJ n f l (min (n - l.length) 128) r.int.1 ((r.int.2.bytes 1).1.headD 0).toNat (r.int.2.bytes 1).2:=by
 conv=>lhs;unfold QV
 rw [if_pos h];rfl
theorem iC {n f k wd:Nat} {l:aD} {least:Int} {a:RS} (h:a.e≠0\/64<wd):UJ n f l k least wd a=none:=by unfold UJ;rw [if_pos h]
theorem AI {n f k wd:Nat} {l:aD} {least:Int} {a:RS} (b:a.e=0) (c:wd<=64):UJ n f l k least wd a=Uf n f l least wd (Z2 (a.bytes (yK wd k)).1 wd k) (a.bytes (yK wd k)).2:=by
 unfold UJ;rw [if_neg];rintro(h|h)
 ·exact h b
 ·omega
theorem VY {n f wd:Nat} {l:aD} {least:Int} {a:aE} {b:RS} (h:b.e≠0\/ZW a≠wd\/minN a≠0):Uf n f l least wd (some a) b=none:=by
 unfold Uf;simp only;rw [if_pos h]
theorem EV {n f wd:Nat} {l:aD} {least:Int} {a:aE} {b:RS} (c:b.e=0) (d:ZW a=wd) (g:minN a=0):Uf n f l least wd (some a) b=(match xu least a with|none=>none|some xs=>QV n f (l++xs) b):=by
 unfold Uf;simp only;rw [if_neg];rintro(h|h|h)
 ·exact h c
 ·exact h d
 ·exact h g
def Ym (q:Option (aD×Nat)) (n:Nat) (w:O) (e:Ending) (w' :O):Prop:=
 Below w.heap.size w w' /\match q with
  |none=>e= .returned (.tuple #[.slice none 0 0,.int .i64 0,.int .i64 20])
  |some (l,at_)=>∃A',e= .returned (.tuple #[.slice A' n n,.int .i64 (at_:Int),.int .i64 0])/\zt w' (Frm w.heap.size) 2 1 (.slice A' n n) n (ints l)
theorem Ym.bad {n:Nat} {w w' :O} (h:Below w.heap.size w w'):Ym none n w (.returned (.tuple #[.slice none 0 0,.int .i64 0,.int .i64 20])) w' :=⟨h,rfl⟩
theorem d6 (A:aA) (nb c n:Nat) (b:aC) (w:O) (hn:n<=1048576) (hl:RB w A nb b) (c3:nb<=100000000000000):
 Calls prog 75 #[.slice A nb c,.int .i64 (n:Int)] w fun e w' =>Ym (getL b n) n w e w' :=by
 have c2 :(n:Int)<=1048576:=by omega
 have hlen:=hl.len;have b5:=zA (VF A nb c b w (by omega) hl);obtain⟨q,hq⟩:=eX (getL b n);rw [hq];have Hq:=zA hq;have b4:=zA hlen;clear hl hq hlen;go_enter func75,ntmps75;go_wp2_with fail;refine b5.o.mono ?_;rintro e w1 ⟨p,rfl,hr,hb⟩;obtain⟨B,hB⟩:∃B,B=w.heap.size:=⟨_,rfl⟩;rw [<-hB]at hr;have HB:=zA hB;obtain⟨J,x4⟩:∃J,J=w1.heap.size:=⟨_,rfl⟩
 obtain⟨D,aq⟩:∃D:Nat->Prop,D=(fun b=>B<=b/\b<J):=⟨_,rfl⟩;have br:Rd w1 D p ⟨b,0,0⟩:=hr.mono (fun g hg h=>by rw [aq];exact⟨h,by rw [x4];exact hg⟩);have Y:Hid (∀b,D b->B<=b/\b<J):=by rw [aq];exact fun _ h=>h
 have af:Hid (B<=J):=by rw [hB,x4];exact hb.size
 have a0:Hid (J<=w1.heap.size):=by rw [x4];exact zC _
 have Hr:=zA br;have Hb:=zA hb;clear hr hb hB br x4 aq;go_wp2
 go_loopg [7] n (fun gk v wr=>∃(f:Nat) (cur:aD) (r:RS),cur.length<=n/\gk=n - cur.length/\n - cur.length<f/\QV n f cur r=q/\zt wr (Frm J) 2 1 v cur.length (ints cur)/\Rd wr D p r/\r.b.length=nb/\J<=wr.heap.size/\Below w.heap.size w wr)
 case atStart=>exact⟨n+1, [],⟨b,0,0⟩,zJ _,rfl,by simp,Hq.o,ZJ _ _ _ _,Hr.o,b4.o,a0.o,Hb.o⟩
 case round=>
  obtain⟨f,cur,r,ch,rfl,hf,bo,ho,hr,h5,bi,hb⟩:=hrel;have a9:=zA h5;obtain⟨AL,cL,rfl⟩:=ho.form;obtain⟨L,hL⟩:=eX (cur.length);rw [hL]at ch hf ho⊢;obtain⟨f',rfl⟩:∃f',f=f' +1:=⟨f - 1,by omega⟩;have HL:=zA hL;have F:=zA bo;have Ho:=zA ho;have Hr:=zA hr;have Hb:=zA hb;clear bo ho hr hb hL h5
  by_cases cn:L<n
  ·obtain⟨k,hk⟩:∃k,k=min (n - L) 128:=⟨_,rfl⟩;have cz:min ((n:Int) - L) 128=(k:Int):=(by omega);have Hk:=zA hk;have cy:1<=k:=(by omega);have cl:k<=128:=(by omega);clear hk;go_wp2_with fail;have ap:B<=wr.heap.size:=(by rw [HB.o];exact Hb.o.size);refine(gS p r D wr Hr.o).mono ?_;rintro e w2 ⟨rfl,ys⟩;have x6:=xY.below Hr.o ys ap (fun b h=>(Y.o b h).1)
   have h7:=xY.row Ho.o Hr.o ys (by decide);have y5:B<=w2.heap.size:=zY ap x6.size;have a7:Hid (wr.heap.size<=w2.heap.size):=x6.size;have x2:=zA (EP r);have U:r.int.2.b.length=nb:=(by rw [NW];exact a9.o);have hi:=zA ys.1;have b6:=zA h7;have b1:Hid (Below w.heap.size w w2):=Hb.o.trans (by rw [<-HB.o];exact x6);clear ys x6 h7 ap;obtain⟨x,hx⟩:=eX (r.int)
   have hv:=AJ n f' cur r (by rw [HL.o];exact cn);rw [HL.o,<-Hk.o]at hv;rw [hx]at hi hv x2 U⊢;obtain⟨least,r1⟩:=x;simp only at hi hv x2 U⊢;have ba:=zA U;have Z:=zA hv;clear hv hx U;go_wp2_with fail;refine(Um 1 (by omega) p r1 D w2 hi.o).mono ?_;rintro e G ⟨vw,rfl,bv,y0⟩;have x8:=xY.below hi.o y0 y5 (fun b h=>(Y.o b h).1)
   have cd:J<=G.heap.size:=zY (zY bi a7.o) x8.size;have h8:=xY.row b6.o hi.o y0 (by decide);have y6:B<=G.heap.size:=zY y5 x8.size;have o:=zA y0.1;have a8:=zA h8;have xn:Hid (Below w.heap.size w G):=b1.o.trans (by rw [<-HB.o];exact x8);have x3:=zA bv;obtain⟨⟨Aw,rfl⟩,_⟩:=bv;have t:=FZ (r:=r1) (n:=1);clear y0 x8 h8
   have X:(r1.bytes 1).2.b.length=nb:=(by rw [pO];exact ba.o);obtain⟨y,hy⟩:=eX (r1.bytes 1);rw [hy]at o Z x3 t X⊢;obtain⟨wb,r2⟩:=y;simp only at o Z x3 t X⊢;have bb:=zA X;clear hy X
   by_cases he:r2.e=0
   ·have h1:=t he
    obtain⟨C,rfl⟩:∃C,wb= [C]:=by
     match wb,h1 with
     | [x],_=>exact⟨x,rfl⟩
    have h5:RB G Aw 1 [C]:=x3.o.2.rb;obtain⟨bw,ow,xb,rfl,cf,y7,bg⟩:=h5.at_ (k:=0) (by omega)
    obtain rfl:C=xb:=by have:=bg.o;simpa using this
    have cg:G.cell? ⟨bw,ow,none⟩=some (.int .u8 (C.toNat:Int)):=y7;have b3:=zA cg;rw [show([C].headD 0)=C from rfl]at Z;have ci :((r2.e:Int) !=0)=false:=(by simp [he]);have He:=zA he;clear t h1 he y7 h5 bg
    by_cases hc:C.toNat<=64
    ·have bh :(C.toNat:Int)<=64:=(by omega);go_wp2_with fail;refine(Zr p r2 D G o.o).mono ?_;rintro e w' ⟨rfl,rfl⟩;go_wp2;obtain⟨m,hm⟩:=eX (yK C.toNat k)
     have c1:m<=1024:=by
      have:C.toNat*k<=64*128:=Nat.mul_le_mul hc cl;rw [<-hm];unfold yK;omega
     have y2:=fun W=>cI C.toNat k hc (by omega) W;rw [hm]at y2;have bd:=zA y2;have d:=Z.o.trans (AI He.o hc);rw [hm]at d;clear y2;obtain⟨z,hz⟩:=eX (r2.bytes m);have au:=fun W (h:Rd W D p r2)=>Um m (by omega) p r2 D W h;rw [hz]at d au;have ai:=zA au;have cs:z.1.length<=m:=(by rw [<-hz];exact KE _ _);have h6:z.2.b.length=nb:=(by rw [<-hz,pO];exact bb.o)
     have az:z.2.e=0\/z.2.e=20:=(by rw [<-hz];exact(RS.take_ok o.o.2.1 _ (VL m)).e);clear au hz;obtain⟨zb,r3⟩:=z;simp only at d ai cs az h6;have bc:=zA h6;clear h6;have c5:IntKind.i64.wrap (C.toNat:Int)=(C.toNat:Int):=(by rw [zT];omega)
     have bl:bw≠p:=by
      intro e;subst e;obtain⟨_,_,_,_,_,ce,_⟩:=o.o;exact zt.ne_ x3.o.2 ce (by decide) rfl
     have hS:∀W,Tch (fun b=>b=p) G W->W.cell? ⟨bw,ow,none⟩=some (.int .u8 (C.toNat:Int))/\Tch (fun b=>b=p) G W:=fun W hW=>⟨(hW.cell (p:=⟨bw,ow,none⟩) cf bl).trans b3.o,hW⟩;have HS:=zA hS;clear hS;rcases hub:Z2 zb C.toNat k with _|a
     ·rw [hub]at d;have l:q=none:=(by rw [<-F.o,d];rfl);subst l;have al:=zA hub;clear hub d
      go_region_held3 (fun W=>W.cell? ⟨bw,ow,none⟩=some (.int .u8 (C.toNat:Int))/\Tch (fun b=>b=p) G W) (first|exact HS.o _ (Tch.refl _ _)|exact HS.o _ (Tch.drewR _ _)|exact HS.o _ (by assumption))
       (first
        |(go_at_call 136;refine(bd.o _).mono ?_;rintro e W ⟨rfl,rfl⟩)
        |(go_at_call 76;refine(ai.o _ (o.o.on (zE _ _).drew)).mono ?_;rintro e W4 ⟨vz,rfl,P,M⟩;have hd:Tch (fun b=>b=p) G W4:=(Tch.drewR _ _).trans M.2 (fun _ _ h=>h);obtain⟨Az,ao⟩:=P.1;subst ao;have am:=zA P.2.rb;have aj:=zA M;clear P M)
        |(go_at_call 135;refine(CO _ _ _ _ _ _ _ hc (by omega) am.o (by omega) al.o).mono ?_;rintro e W5 ⟨rfl,K⟩;have N:Tch (fun b=>b=p) G W5:=hd.trans (Tch.new (S:=fun b=>b=p) K) (fun _ _ h=>h);have ag:=zA K;clear K))
      have h0:=aj.o.1.on ag.o;have hp:Below w.heap.size w W5:=xn.o.trans (by rw [<-HB.o];exact N.below y6 (fun b e=>by subst e;exact(Y.o _ o.o.1).1));have I:=zA h0;have H:=zA hp;clear h0 hp hd N;rcases az with s|s
      ·have an:((r3.e:Int) !=0)=false:=(by simp [s]);clear s;go_wp2
       go_quiet ((go_at_call 79;exact Calls.quiet_of_same ((Zr p r3 D _ (I.o.on (zd (zE _ _) _))).mono fun _ _ h=>⟨h.1,h.2.symm⟩)))
       go_wp2
       try rw [Exit.noGoto_ret]
       go_ret3
       exact Ym.bad (zd H.o _)
      ·have an:((r3.e:Int) !=0)=true:=(by simp [s]);clear s;go_wp2
       go_quiet ((go_at_call 79;exact Calls.quiet_of_same ((Zr p r3 D _ (I.o.on (zd (zE _ _) _))).mono fun _ _ h=>⟨h.1,h.2.symm⟩)))
       go_wp2
       try rw [Exit.noGoto_ret]
       go_ret3
       exact Ym.bad (zd H.o _)
     ·rw [hub]at d;have ar:=CP hc hub;have cm:=ar.1;have a3:=zA ar;have al:=zA hub;have Q:=zA d;clear hub d ar
      go_region_held3 (fun W=>W.cell? ⟨bw,ow,none⟩=some (.int .u8 (C.toNat:Int))/\Tch (fun b=>b=p) G W) (first|exact HS.o _ (Tch.refl _ _)|exact HS.o _ (Tch.drewR _ _)|exact HS.o _ (by assumption))
       (first
        |(go_at_call 136;refine(bd.o _).mono ?_;rintro e W ⟨rfl,rfl⟩)
        |(go_at_call 76;refine(ai.o _ (o.o.on (zE _ _).drew)).mono ?_;rintro e W4 ⟨vz,rfl,P,M⟩;have hd:Tch (fun b=>b=p) G W4:=(Tch.drewR _ _).trans M.2 (fun _ _ h=>h);obtain⟨Az,ao⟩:=P.1;subst ao;have am:=zA P.2.rb;have aj:=zA M;clear P M)
        |(go_at_call 135;refine(vO _ _ _ _ _ _ _ hc (by omega) am.o al.o).mono ?_;rintro e W5 ⟨Au,rfl,bu,K⟩;have N:Tch (fun b=>b=p) G W5:=hd.trans (Tch.new (S:=fun b=>b=p) K) (fun _ _ h=>h);have ag:=zA K;have be:=zA bu;have cc:Hid (G.heap.size<=W4.heap.size):=hd.size;clear K bu))
      have h0:=aj.o.1.on ag.o;have hp:Below w.heap.size w W5:=xn.o.trans (by rw [<-HB.o];exact N.below y6 (fun b e=>by subst e;exact(Y.o _ o.o.1).1));obtain⟨ga,ck,bm,bn,aa⟩:=be.o.at_ (by omega)
      subst ck;have a4:=zA aa;have ct:G.heap.size<=ga:=zY cc.o bm;obtain⟨S2,x5⟩:∃S2:Nat->Prop,S2=(fun b=>J<=b/\b≠ga):=⟨_,rfl⟩;have h9:zt W5 S2 2 1 (.slice AL L cL) L (ints cur):=zt.tch (zt.mono a8.o (fun g hg h=>by rw [x5];exact⟨h,by omega⟩)) N (fun g hg e=>by have h1:=(a8.o.lt g hg).1;have h2:=(Y.o _ o.o.1).2;have h3:J<=g:=h1;omega)
      have hh:Hid (∀b,S2 b->J<=b/\b≠ga):=by rw [x5];exact fun _ h=>h
      have a1 :Hid (∀b,W5.heap.size<=b->S2 b):=by
       rw [x5];intro b hb;have:=N.size;exact⟨by omega,by omega⟩
      have bt:RU W5 (some ⟨ga,0,none⟩) k a:=be.o.rc;have ha:=zA bt;have ak:=zA h9;have I:=zA h0;have H:=zA hp;clear h0 hp hd N bt h9 x5 aa;rcases az with s|s
      ·have an:((r3.e:Int) !=0)=false:=(by simp [s]);have bz:=zA s;clear s;obtain⟨wl,ay⟩:=eX (ZW a);have T:=zA (fun W (h:RU W (some ⟨ga,0,none⟩) k a)=>kL (some ⟨ga,0,none⟩) k k a W (by omega) h a3.o.2);obtain⟨mn,ax⟩:=eX (minN a);have R:=zA (fun W (h:RU W (some ⟨ga,0,none⟩) k a)=>LE (some ⟨ga,0,none⟩) k k a W (by omega) (by omega) h);rw [ay]at T
       rw [ax]at R;have bf:=zA ay;have a6:=zA ax;clear ay ax
       by_cases xi:wl=C.toNat
       ·have cq:((wl:Int) !=(C.toNat:Int))=false:=by simp;omega
        by_cases hw:mn=0
        ·have co:((mn:Int) !=0)=false:=(by simp [hw]);have ad:=Q.o.trans (EV bz.o (by rw [bf.o,xi]) (by rw [a6.o,hw]));have y3:=zA ad;clear ad xi hw;go_wp2
         go_quiet (first
          |(go_at_call 79;exact Calls.quiet_of_same ((Zr p r3 D _ (I.o.on (zd (zE _ _) _))).mono fun _ _ h=>⟨h.1,h.2.symm⟩))
          |(go_at_call 137;exact Calls.quiet_of_same ((T.o _ (ha.o.on (zd (zE _ _) _))).mono fun _ _ h=>⟨h.1,h.2.symm⟩))
          |(go_at_call 138;exact Calls.quiet_of_same ((R.o _ (ha.o.on (zd (zE _ _) _))).mono fun _ _ h=>⟨h.1,h.2.symm⟩)))
         go_wp2
         go_loopg [87,7] k (fun gk i v wv=>∃(j:Nat) (xs:aD),j<=k/\gk=k - j/\i= .int .i64 j/\xs.length=j/\xu least a=(xu least (a.drop j)).map (xs++·)/\zt wv S2 2 1 v (L+j) (ints (cur++xs))/\Tch S2 W5 wv)
         case atStart=>exact⟨0, [],zJ _,rfl,rfl,rfl,by simp,by rw [zo];exact ak.o.drewN _,Tch.new (zd (zE _ _) _)⟩
         case round=>
          obtain⟨j,xs,hj,rfl,rfl,bx,E,ho,ht⟩:=hrel;obtain⟨AV,cV,rfl⟩:=ho.form;have c4:=ho.cap
          by_cases cx:j<k
          ·obtain⟨u,hu⟩:∃u,a[j]? =some u:=⟨_,zB (by omega)⟩;have cw:=(ht.cell (p:=⟨ga,j,none⟩) bn (fun h=>(hh.o _ h).2 rfl)).trans (a4.o j _ (WB hu));have ae:=a3.o.2 u (zD hu);have y2:=ht.size
           by_cases y1:least+u<=9223372036854775807
           ·have a2:=zA (vI hu E y1);have cr:=NS x2.o ae y1;have Ho:=zA ho;have Ht:=zA ht;clear E ho ht hu
            go_wp2_with (at_builtin;refine xm (S:=S2) Zs (.tmp 99) (.tmp 101) rfl rfl rfl (Ho.o.alloc _) rfl (QO wr _ _) (by intro u hu;simp at hu;subst hu;rfl) (by omega) (by omega) (a1.o _ (by simp;omega)) ?_;intro A' c' w9 bq cj _ bk;have b8:=zA bq;have b2:=zA (Ht.o.trans ((Tch.alloc (S:=S2) wr _).trans bk (fun _ _ h=>h)) (fun _ _ h=>h));clear bq cj bk)
            go_roundg (k - (j+1))
            case measure=>omega
            case rel=>
             refine⟨j+1,xs++ [least+u],by omega,rfl,by go_num,by simp [bx],a2.o,?_,b2.o⟩;rw [<-zO,uO];exact b8.o
           ·have l:q=none:=(by rw [<-F.o,y3.o,vH hu E y1]);have cr:=MK x2.o ae y1;subst l;have hs:=ht.below (B:=B) (by omega) (fun b h=>zY af.o (hh.o b h).1);have ah:=zA hs;clear E ho ht hu hs;go_wp2
            try rw [Exit.noGoto_ret]
            go_ret3
            exact Ym.bad (H.o.trans (by rw [<-HB.o];exact ah.o))
          ·obtain rfl:j=k:=by omega
           have ab:QV n f' (cur++xs) r3=q:=(by rw [<-F.o,y3.o,CE cm E]);have bj:J<=wr.heap.size:=(by have:=ht.size;omega);have bs:Rd wr D p r3:=I.o.tch ht (fun b h h2=>by have h3:=(Y.o b h).2;have h4:=(hh.o b h2).1;omega);have bp:zt wr (Frm J) 2 1 (.slice AV (L+j) cV) (L+j) (ints (cur++xs)):=ho.mono (fun g _ h=>(hh.o g h).1)
           have hs:=ht.below (B:=B) (by omega) (fun b h=>zY af.o (hh.o b h).1);have ah:=zA hs;have a5:=zA ab;have ca:=zA bs;have b7:=zA bp;have b0:=zA bj;have x1:Hid ((cur++xs).length=L+j):=(by show _=_;rw [zG,HL.o,bx]);clear E ho ht hs ab bs bp bj;go_wp2
           go_roundg (n - (L+j))
           case measure=>have h1:=HL.o;have h2:=Hk.o;omega
           case rel=>
            refine⟨f',cur++xs,r3,by rw [x1.o];have h2:=Hk.o;omega,by rw [x1.o],by rw [x1.o];have h2:=Hk.o;omega,a5.o,by rw [x1.o];exact b7.o,ca.o,bc.o,b0.o,H.o.trans (by rw [<-HB.o];exact ah.o)⟩
        ·have l:q=none:=(by rw [<-F.o,Q.o];exact VY (.inr (.inr (by rw [a6.o];exact hw))));have co:((mn:Int) !=0)=true:=(by simp;omega);subst l;clear xi hw;go_wp2
         go_quiet (first
          |(go_at_call 79;exact Calls.quiet_of_same ((Zr p r3 D _ (I.o.on (zd (zE _ _) _))).mono fun _ _ h=>⟨h.1,h.2.symm⟩))
          |(go_at_call 137;exact Calls.quiet_of_same ((T.o _ (ha.o.on (zd (zE _ _) _))).mono fun _ _ h=>⟨h.1,h.2.symm⟩))
          |(go_at_call 138;exact Calls.quiet_of_same ((R.o _ (ha.o.on (zd (zE _ _) _))).mono fun _ _ h=>⟨h.1,h.2.symm⟩)))
         go_wp2
         try rw [Exit.noGoto_ret]
         go_ret3
         exact Ym.bad (zd H.o _)
       ·have l:q=none:=(by rw [<-F.o,Q.o];exact VY (.inr (.inl (by rw [bf.o];exact xi))));have cq:((wl:Int) !=(C.toNat:Int))=true:=(by simp;omega);subst l;clear xi;go_wp2
        go_quiet (first
         |(go_at_call 79;exact Calls.quiet_of_same ((Zr p r3 D _ (I.o.on (zd (zE _ _) _))).mono fun _ _ h=>⟨h.1,h.2.symm⟩))
         |(go_at_call 137;exact Calls.quiet_of_same ((T.o _ (ha.o.on (zd (zE _ _) _))).mono fun _ _ h=>⟨h.1,h.2.symm⟩))
         |(go_at_call 138;exact Calls.quiet_of_same ((R.o _ (ha.o.on (zd (zE _ _) _))).mono fun _ _ h=>⟨h.1,h.2.symm⟩)))
        go_wp2
        try rw [Exit.noGoto_ret]
        go_ret3
        exact Ym.bad (zd H.o _)
      ·have an:((r3.e:Int) !=0)=true:=(by simp [s]);have l:q=none:=(by rw [<-F.o,Q.o];exact VY (.inl (by omega)));subst l;clear s;go_wp2
       go_quiet ((go_at_call 79;exact Calls.quiet_of_same ((Zr p r3 D _ (I.o.on (zd (zE _ _) _))).mono fun _ _ h=>⟨h.1,h.2.symm⟩)))
       go_wp2
       try rw [Exit.noGoto_ret]
       go_ret3
       exact Ym.bad (zd H.o _)
    ·have l:q=none:=by
      rw [<-F.o,Z.o];exact iC (.inr (by omega))
     have bh :(64:Int)<C.toNat:=(by omega);subst l;go_wp2_with fail;refine(Zr p r2 D G o.o).mono ?_;rintro e w' ⟨rfl,rfl⟩;go_wp2
     try rw [Exit.noGoto_ret]
     go_ret3
     exact Ym.bad xn.o
   ·have l:q=none:=(by rw [<-F.o,Z.o];exact iC (.inl he));have ci :((r2.e:Int) !=0)=true:=(by simp;omega);subst l;clear he t;go_wp2_with fail;refine(Zr p r2 D G o.o).mono ?_;rintro e w' ⟨rfl,rfl⟩;go_wp2
    try rw [Exit.noGoto_ret]
    go_ret3
    exact Ym.bad xn.o
  ·obtain rfl:L=n:=by omega
   have y8:=EU (f:=f') (r:=r) HL.o;have cp:q=some (cur,r.at_):=(by rw [<-F.o,y8]);have cv:=Ho.o.cap;have c0:=Hr.o.2.1.le;have av:((L:Int))=L:=rfl;obtain⟨lf,aw⟩:=eX (r.left)
   have cu:(nb:Int) - lf=(r.at_:Int):=by
    have h1:=a9.o;unfold RS.left at aw;omega
   have y4:=zA (fun W (h:Rd W D p r)=>dX p r D W h);rw [aw]at y4;subst cp;clear y8 aw av;go_wp2_with fail;refine(eK AL L cL wr (by omega) (by omega)).mono ?_;rintro e w' ⟨rfl,rfl⟩;go_wp2_with (go_at_call 77;refine(y4.o _ Hr.o).mono ?_;rintro e w' ⟨rfl,kd,rfl⟩)
   try rw [Exit.noGoto_ret]
   go_ret3
   exact⟨zd Hb.o _,AL,rfl,(Ho.o.clip.mono (fun g _ h=>by have h1:J<=g:=h;have h2:=HB.o;have h3:=af.o;show w.heap.size<=g;omega)).drewN _⟩
theorem eA (n:Nat) (w:O) (d:n<4294967296):
 Calls prog 127 #[.int .u32 (n:Int)] w fun e w' =>∃A,e= .returned (.slice A 4 4)/\BR w' (Frm w.heap.size) (.slice A 4 4) (Za n)/\Below w.heap.size w w' :=by
 go_enter func127,ntmps127;go_wp2;go_ret
 refine⟨_,rfl,?_,(zE _ _).alloc (zC _) _⟩;have c:(Za n).length=4:=rfl
 have b:bC (Za n)= [.int .u8 ((n:Int)%256),.int .u8 ((n:Int) / 256%256),.int .u8 ((n:Int) / 65536%256),.int .u8 ((n:Int) / 16777216)]:=by
  have a:∀x:Nat,x<256->(x.toUInt8.toNat:Int)=(x:Int):=fun x f=>by rw [show x.toUInt8.toNat=x from by simp [Nat.toUInt8,UInt8.toNat_ofNat'];omega]
  unfold Za bC;simp only [yH,List.map_nil];rw [a _ (by omega),a _ (by omega),a _ (by omega),a _ (by omega)]
  congr 1
  congr 1
  congr 1
  congr 1
  congr 1
  omega
 unfold BR;rw [b];exact Zn w #[_,_,_,_] 5 1 4 rfl (by decide) (zC _)
theorem eO {a b:Nat} (c:a<4294967296) (d:b<4294967296):bits .xor .u32 (a:Int) (b:Int)=((a^^^b:Nat):Int):=by
 show IntKind.u32.wrap ((BitVec.ofInt 32 (a:Int)^^^BitVec.ofInt 32 (b:Int)).toNat:Int)=_;rw [yE,yE,BitVec.toNat_xor,yJ,yJ,zy (by omega),zy (by omega),IntKind.wrap_u32];have:=Nat.xor_lt_two_pow (n:=32) c d;omega
theorem fG {a b:Nat} (d:a<4294967296) (c:b<4294967296):bits .and .u32 (a:Int) (b:Int)=((a &&& b:Nat):Int):=by
 show IntKind.u32.wrap ((BitVec.ofInt 32 (a:Int) &&& BitVec.ofInt 32 (b:Int)).toNat:Int)=_;rw [yE,yE,BitVec.toNat_and,yJ,yJ,zy (by omega),zy (by omega),IntKind.wrap_u32];have:=Nat.and_lt_two_pow (n:=32) a c;omega
theorem J3 (c k:Nat) (h:c<4294967296):Nat.repeat xh k c<4294967296:=by
 induction k with
 |zero=>exact h
 |succ k ih=>exact Yi (c:=Nat.repeat xh k c) ih
theorem H8 (c:Nat) (w:O) (o:c<4294967296):
 Calls prog 262 #[.int .u32 (c:Int)] w fun e w' =>e= .returned (.int .u32 (yi c:Nat))/\w=w' :=by
 go_enter func262,ntmps262;go_wp2
 go_loop [0,3] (fun a i=>∃k:Nat,k<=4/\i= .int .i64 k/\a= .int .u32 (Nat.repeat xh k c:Nat)) (fun _ i=>4 - (intOf i).toNat)
 case atStart=>exact⟨0,by omega,rfl,rfl⟩
 case round=>
  obtain⟨k,q,rfl,rfl⟩:=hrel;have g:=J3 c k o;obtain⟨x,h⟩:=eX (Nat.repeat xh k c);have j:=zA h;rw [h]at g⊢;clear h
  by_cases p:k<4
  ·have f:=fG (a:=x) (b:=1) (by omega) (by omega);rw [Nat.and_one_is_mod]at f;have l:bits .and .u32 (x:Int) 1=((x%2:Nat):Int):=f;clear f;go_wp2
   go_round
   case rel=>
    refine⟨k+1,by omega,by go_num,?_⟩;have r:x%2<2:=Nat.mod_lt _ (by omega);have d:=eO (a:=x / 2) (b:=3988292384*(x%2)) (by omega) (by omega);have m:((x / 2:Nat):Int)=(x:Int) / 2:=(by omega);have n:((3988292384*(x%2):Nat):Int)=3988292384*((x:Int)%2):=(by omega);rw [m,n]at d;rw [d,show Nat.repeat xh (k+1) c=xh (Nat.repeat xh k c)from rfl,j.o];rfl
   case measure=>simp [intOf];omega
  ·obtain rfl:k=4:=by omega
   go_wp2;go_ret
   exact⟨by rw [<-j.o];rfl,rfl⟩
def tabC (k:Nat):aG:=((List.range 16).map fun i=>Value.int .u32 (if i<k then(yi i:Nat)else 0)).toArray
theorem QJ (k:Nat):(tabC k).size=16:=by simp [tabC]
theorem QK {k i:Nat} (a:i<16):(tabC k)[i]? =some (.int .u32 (if i<k then(yi i:Nat)else 0)):=by
 unfold tabC;rw [yF,zH,zq a];rfl
theorem GZ {k:Nat} (c:k<16):(tabC k).setIfInBounds k (.int .u32 (yi k:Nat))=tabC (k+1):=by
 apply Array.ext_getElem?
 intro i
 by_cases b:i<16
 ·rw [yV,QK b,QK b,QJ]
  by_cases h:k=i
  ·subst h;rw [if_pos rfl,if_pos c,if_pos (by omega)]
  ·rw [if_neg h]
   by_cases a:i<k
   ·rw [if_pos a,if_pos (by omega)]
   ·rw [if_neg a,if_neg (by omega)]
 ·rw [x9 (by rw [Array.size_setIfInBounds,QJ];omega),x9 (by rw [QJ];omega)]
theorem Blk.same {w:O} {g k:Nat} (c:Blk w g 316 (tabC 16)) (a:k<16):Blk (w.setCell ⟨g,k,none⟩ (.int .u32 (yi k:Nat))) g 316 (tabC 16):=by
 have h:=c.set_ k (.int .u32 (yi k:Nat))
 have e:(tabC 16).setIfInBounds k (.int .u32 (yi k:Nat))=tabC 16:=by
  apply Array.ext_getElem?
  intro i;rw [yV,QJ]
  by_cases b:k=i
  ·subst b;rw [if_pos rfl,if_pos a,QK a,if_pos a]
  ·rw [if_neg b]
 rw [e]at h;exact h
theorem CZ {w:O} {g:Nat} {a:aG} (b:a.getD 0 undef= .pointer (some ⟨g,0,none⟩)) (f:Blk w g 316 (tabC 16)):(results Tryz.f200 a).run prog w= .ok (.agg (tabC 16)) w:=by
 have c:=run_loadVar_row (P:=prog) w g 316 316 (tabC 16) (0,0) _ f underlying316 rfl (by rw [QJ];kernel_rfl);have d:Tryz.f200.results= #[ResultVar.cell 0 316]:=rfl;have e:a[0]?.getD undef= .pointer (some ⟨g,0,none⟩):=by simpa using b
 simp [results,d,e,c,asAddr,Result.andThen]
theorem C4 (w:O):
 Calls prog 200 #[] w fun e w' =>e= .returned (.agg (tabC 16))/\Below w.heap.size w w' :=by
 go_enter func200,ntmps200;go_wp2
 go_loopw [3] (fun i wr=>∃k:Nat,k<=16/\i= .int .i64 k/\Blk wr w.heap.size 316 (tabC k)/\Below w.heap.size w wr) (fun i _=>16 - (intOf i).toNat)
 case atStart=>exact⟨0,by omega,rfl,Blk.new _ _ _,(zE _ _).alloc (zC _) _⟩
 case round=>
  obtain⟨k,W,rfl,c,f⟩:=hrel;have h:=zA c;have j:=zA f
  by_cases d:k<16
  ·have b:=(c.cell k).trans (QK d);have K:=c.frozen k;rw [if_neg (Nat.lt_irrefl _)]at b;clear c f;go_wp2_with (go_at_call 262;refine(H8 k _ (by omega)).mono ?_;rintro e w' ⟨rfl,rfl⟩)
   go_roundw
   case rel=>
    refine⟨k+1,by omega,by go_num,?_,j.o.setCell (p:=⟨w.heap.size,k,none⟩) (zC _) _⟩;rw [<-GZ d];exact h.o.set_ k _
   case measure=>simp [intOf];omega
  ·obtain rfl:k=16:=by omega
   have b:∀i,i<16->wr.cell? ⟨w.heap.size,i,none⟩=some (.int .u32 (yi i:Nat)):=fun i z=>by
    rw [c.cell i,QK z,if_pos z]
   have K:=c.frozen 0;have A:wr.cell? ⟨w.heap.size,0,none⟩=some (.int .u32 (yi 0:Nat)):=b 0 (by omega);have B:wr.cell? ⟨w.heap.size,1,none⟩=some (.int .u32 (yi 1:Nat)):=b 1 (by omega);have C:wr.cell? ⟨w.heap.size,2,none⟩=some (.int .u32 (yi 2:Nat)):=b 2 (by omega);have D:wr.cell? ⟨w.heap.size,3,none⟩=some (.int .u32 (yi 3:Nat)):=b 3 (by omega)
   have E:wr.cell? ⟨w.heap.size,4,none⟩=some (.int .u32 (yi 4:Nat)):=b 4 (by omega);have F:wr.cell? ⟨w.heap.size,5,none⟩=some (.int .u32 (yi 5:Nat)):=b 5 (by omega);have G:wr.cell? ⟨w.heap.size,6,none⟩=some (.int .u32 (yi 6:Nat)):=b 6 (by omega);have H:wr.cell? ⟨w.heap.size,7,none⟩=some (.int .u32 (yi 7:Nat)):=b 7 (by omega)
   have I:wr.cell? ⟨w.heap.size,8,none⟩=some (.int .u32 (yi 8:Nat)):=b 8 (by omega);have J:wr.cell? ⟨w.heap.size,9,none⟩=some (.int .u32 (yi 9:Nat)):=b 9 (by omega);have l:wr.cell? ⟨w.heap.size,10,none⟩=some (.int .u32 (yi 10:Nat)):=b 10 (by omega);have m:wr.cell? ⟨w.heap.size,11,none⟩=some (.int .u32 (yi 11:Nat)):=b 11 (by omega)
   have n:wr.cell? ⟨w.heap.size,12,none⟩=some (.int .u32 (yi 12:Nat)):=b 12 (by omega);have o:wr.cell? ⟨w.heap.size,13,none⟩=some (.int .u32 (yi 13:Nat)):=b 13 (by omega);have q:wr.cell? ⟨w.heap.size,14,none⟩=some (.int .u32 (yi 14:Nat)):=b 14 (by omega);have r:wr.cell? ⟨w.heap.size,15,none⟩=some (.int .u32 (yi 15:Nat)):=b 15 (by omega)
   have a:∀i,wr.frozen? ⟨w.heap.size,i,none⟩=false:=fun i=>c.frozen i;have L:=a 1;have M:=a 2;have N:=a 3;have P:=a 4;have Q:=a 5;have R:=a 6;have S:=a 7;have T:=a 8;have U:=a 9;have s:=a 10;have t:=a 11;have u:=a 12;have v:=a 13;have x:=a 14;have y:=a 15;clear c f b a;go_wp2
   try simp only [Exit.inBlock,Exit.then]
   refine bodyPost_ret (CZ (g:=w.heap.size) (by rfl) ?_) rfl ⟨rfl,?_⟩
   ·exact(Blk.same (k:=15) (Blk.same (k:=14) (Blk.same (k:=13) (Blk.same (k:=12) (Blk.same (k:=11) (Blk.same (k:=10) (Blk.same (k:=9) (Blk.same (k:=8) (Blk.same (k:=7) (Blk.same (k:=6) (Blk.same (k:=5) (Blk.same (k:=4) (Blk.same (k:=3) (Blk.same (k:=2) (Blk.same (k:=1) (Blk.same (k:=0) h.o (by decide)) (by decide)) (by decide)) (by decide)) (by decide)) (by decide)) (by decide)) (by decide)) (by decide)) (by decide)) (by decide)) (by decide)) (by decide)) (by decide)) (by decide)) (by decide))
   ·exact(Below.setCell (p:=⟨w.heap.size,15,none⟩) (Below.setCell (p:=⟨w.heap.size,14,none⟩) (Below.setCell (p:=⟨w.heap.size,13,none⟩) (Below.setCell (p:=⟨w.heap.size,12,none⟩) (Below.setCell (p:=⟨w.heap.size,11,none⟩) (Below.setCell (p:=⟨w.heap.size,10,none⟩) (Below.setCell (p:=⟨w.heap.size,9,none⟩) (Below.setCell (p:=⟨w.heap.size,8,none⟩) (Below.setCell (p:=⟨w.heap.size,7,none⟩) (Below.setCell (p:=⟨w.heap.size,6,none⟩) (Below.setCell (p:=⟨w.heap.size,5,none⟩) (Below.setCell (p:=⟨w.heap.size,4,none⟩) (Below.setCell (p:=⟨w.heap.size,3,none⟩) (Below.setCell (p:=⟨w.heap.size,2,none⟩) (Below.setCell (p:=⟨w.heap.size,1,none⟩) (Below.setCell (p:=⟨w.heap.size,0,none⟩) j.o (zC _) _) (zC _) _) (zC _) _) (zC _) _) (zC _) _) (zC _) _) (zC _) _) (zC _) _) (zC _) _) (zC _) _) (zC _) _) (zC _) _) (zC _) _) (zC _) _) (zC _) _) (zC _) _)
def OY (w:O) (A:aA) (n:Nat) (ls:List aC):Prop:=
 ls.length=n/\∀k l,ls[k]? =some l->∃b off A' a,A=some ⟨b,off,none⟩/\b<w.heap.size/\w.cell? ⟨b,off+k,none⟩=some (.slice A' l.length a)/\RB w A' l.length l/\l.length<=9223372036854775807
theorem OY.on {w w' :O} {A:aA} {n:Nat} {ls:List aC} (h:OY w A n ls) (a:Below w.heap.size w w'):OY w' A n ls:=by
 refine⟨h.1,fun k l j=> ?_⟩;obtain⟨b,off,A',d,e,c,f,g,i⟩:=h.2 k l j;exact⟨b,off,A',d,e,zX c a.size,(a.cell (p:=⟨b,off+k,none⟩) c).trans f,g.on a,i⟩
theorem FM (c:Nat) (l:aC) (x:UInt8):crcL c (l++ [x])=Xt (crcL c l) x:=by simp [crcL]
theorem FL {c k:Nat} {l:aC} {x:UInt8} (h:l[k]? =some x):crcL c (l.take (k+1))=Xt (crcL c (l.take k)) x:=by
 rw [zI,h];exact FM _ _ _
theorem J6 (c:Nat) (a b:aC):crcL c (a++b)=crcL (crcL c a) b:=by simp [crcL]
theorem QW {ls:List aC} {k:Nat} {l:aC} (h:ls[k]? =some l):(ls.take (k+1)).flatten=(ls.take k).flatten++l:=by
 rw [zI,h];simp
theorem qS (x:Nat) (c:x<4294967296):bits .and .u32 (x:Int) 15=((x%16:Nat):Int):=by
 have h:=fG (a:=x) (b:=15) c (by omega);have e:x &&& 15=x%16:=Nat.and_two_pow_sub_one_eq_mod x 4;rw [e]at h;exact h
theorem oY {x:Nat} (d:x<4294967296):bits .xor .u32 ((x:Int) / 16) (yi (x%16):Nat)=(Uk x:Nat):=by
 have h:=eO (a:=x / 16) (b:=yi (x%16)) (by omega) (lX (by omega));have c:((x / 16:Nat):Int)=(x:Int) / 16:=by omega
 rw [c]at h;exact h
theorem oM:tabC 16= #[.int .u32 (yi 0:Nat),.int .u32 (yi 1:Nat),.int .u32 (yi 2:Nat),.int .u32 (yi 3:Nat),.int .u32 (yi 4:Nat),.int .u32 (yi 5:Nat),.int .u32 (yi 6:Nat),.int .u32 (yi 7:Nat),.int .u32 (yi 8:Nat),.int .u32 (yi 9:Nat),.int .u32 (yi 10:Nat),.int .u32 (yi 11:Nat),.int .u32 (yi 12:Nat),.int .u32 (yi 13:Nat),.int .u32 (yi 14:Nat),.int .u32 (yi 15:Nat)]:=rfl
theorem LC {c:Nat} (a:c<4294967296):bits .xor .u32 IntKind.u32.max (c:Int)=((4294967295 - c:Nat):Int):=by
 show IntKind.u32.wrap ((BitVec.allOnes 32^^^BitVec.ofInt 32 (c:Int)).toNat:Int)=_;rw [yE,BitVec.allOnes_xor,BitVec.toNat_not,yJ,zy (by omega),IntKind.wrap_u32];omega
theorem eS (A:aA) (n c:Nat) (ls:List aC) (w:O) (hn:n<=9223372036854775807) (hl:OY w A n ls):
 Calls prog 128 #[.slice A n c] w fun e w' =>e= .returned (.int .u32 (sumL ls.flatten:Nat))/\Below w.heap.size w w' :=by
 have Hl:=zA hl;clear hl;go_enter func128,ntmps128;go_wp2_with (go_at_call 200;refine(C4 _).mono ?_;rw [oM];rintro e w1 ⟨rfl,D⟩;have t:=zA D;clear D);rw [<-oM];obtain⟨K,f⟩:=eX (w1.alloc (.cells (tabC 16) 316));obtain⟨g,U⟩:=eX (w1.heap.size);have o:Blk K g 316 (tabC 16):=by rw [<-f,<-U];exact Blk.new _ _ _
 have d:Below w.heap.size w K:=by rw [<-f];exact t.o.alloc t.o.size _
 have G:OY K A n ls:=Hl.o.on d;rw [f,U];have u:=zA d;have p:=zA G;have F:∀x,K.cell? ⟨g,x%16,none⟩=some (.int .u32 (yi (x%16):Nat)):=fun x=>by rw [o.cell,QK (by omega),if_pos (by omega)]
 have C:=zA F;have E:∀l,crcL 4294967295 l<4294967296:=fun l=>cX l (by omega);have B:=zA E;clear f U o d G F E
 go_loop [4,12] (fun a i=>∃k:Nat,k<=n/\i= .int .i64 k/\a= .int .u32 (crcL 4294967295 (ls.take k).flatten:Nat)) (fun _ i=>n - (intOf i).toNat)
 case atStart=>exact⟨0,zJ _,rfl,rfl⟩
 case round=>
  obtain⟨k,hk,rfl,rfl⟩:=hrel
  by_cases Y:k<n
  ·obtain⟨l,q⟩:∃l,ls[k]? =some l:=⟨_,zB (by rw [p.o.1];exact Y)⟩;obtain⟨b,off,A',c',rfl,hf,T,I,X⟩:=p.o.2 k l q;have R:=zA I;have Q:=zA (QW q);clear I q;obtain⟨m,Z⟩:=eX (l.length);rw [Z]at T X;have Hm:=zA Z;clear Z;obtain⟨L,h⟩:=eX (crcL 4294967295 (ls.take k).flatten);have H:L<4294967296:=(by rw [<-h];exact B.o _);rw [h];have P:=zA h
   clear h;go_wp2
   go_loop [4,18] (fun a i=>∃j:Nat,j<=m/\i= .int .i64 j/\a= .int .u32 (crcL L (l.take j):Nat)) (fun _ i=>m - (intOf i).toNat)
   case atStart=>exact⟨0,zJ _,rfl,rfl⟩
   case round=>
    obtain⟨j,hj,rfl,rfl⟩:=hrel
    by_cases W:j<m
    ·obtain⟨b2,he,x,rfl,_,hh,S⟩:=R.o.at_ (k:=j) (by rw [Hm.o];exact W)
     have r:crcL L (l.take j)<4294967296:=cX _ H;obtain⟨y,hy⟩:=eX (crcL L (l.take j));rw [hy]at r⊢;have Hy:=zA hy;have hp:=x.toNat_lt;obtain⟨z,N⟩:=eX (y^^^x.toNat);have s:z<4294967296:=(by rw [<-N];exact Nat.xor_lt_two_pow (n:=32) r (by omega));have ha:=eO (a:=y) (b:=x.toNat) r (by omega);rw [N]at ha;have hd:=qS z s;have hr:=C.o z;have hb:=oY s
     obtain⟨v,M⟩:=eX (Uk z);have J:v<4294967296:=(by rw [<-M];exact Uj s);rw [M]at hb;have hc:=qS v J;have hi:=C.o v;have ho:=oY J;have Hz:=zA N;have Hv:=zA M;clear hy N M;go_wp2
     go_round
     case rel=>exact⟨j+1,by omega,by go_num,by rw [FL S.o,Hy.o];unfold Xt;rw [Hz.o,Hv.o]⟩
     case measure=>simp [intOf];omega
    ·obtain rfl:j=m:=by omega
     go_wp2
     go_round
     case rel=>exact⟨k+1,by omega,by go_num,by rw [Q.o,J6,P.o,zF (by rw [Hm.o];exact zC _)]⟩
     case measure=>simp [intOf];omega
  ·obtain rfl:k=n:=by omega
   have Hf:Hid (ls.take k=ls):=zF (by have:=p.o.1;omega);have S:=zA (LC (B.o (ls.take k).flatten));go_wp2;go_ret
   exact⟨by rw [S.o,Hf.o];rfl,u.o⟩
end Go.Proofs.YtjbhbfaeielbiaaGreatDoor

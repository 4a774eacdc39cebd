import Derived.Test.YtjbhbfaeielbiaaGreatDoorPart09
import Derived.Test.YtjbhbfaeielbiaaGreatDoorPart11
set_option maxRecDepth 100000
set_option maxHeartbeats 8000000
set_option linter.unusedVariables false
set_option linter.unusedSimpArgs false
namespace Go.Proofs.YtjbhbfaeielbiaaGreatDoor
def xh (c:Nat):Nat:=(c / 2)^^^(3988292384*(c%2))
def yi (i:Nat):Nat:=xh (xh (xh (xh i)))
def Uk (c:Nat):Nat:=(c / 16)^^^yi (c%16)
def Xt (c:Nat) (b:UInt8):Nat:=Uk (Uk (c^^^b.toNat))
def crcL (c:Nat) (l:aC):Nat:=l.foldl Xt c
def sumL (l:aC):Nat:=4294967295 - crcL 4294967295 l
theorem Yi {c:Nat} (h:c<2^32):xh c<2^32:=
 Nat.xor_lt_two_pow (by omega) (by omega)
theorem lX {i:Nat} (h:i<2^32):yi i<2^32:=Yi (Yi (Yi (Yi h)))
theorem Uj {c:Nat} (h:c<2^32):Uk c<2^32:=Nat.xor_lt_two_pow (by omega) (lX (by omega))
theorem AZ {c:Nat} (b:UInt8) (h:c<2^32):Xt c b<2^32:=
 Uj (Uj (Nat.xor_lt_two_pow h (by have:=b.toNat_lt;omega)))
theorem cX:∀(l:aC) {c:Nat},c<2^32->crcL c l<2^32
 | [],_,h=>h
 |b::l,_,h=>cX l (AZ b h)
def Za (n:Nat):aC:= [(n%256).toUInt8,(n / 256%256).toUInt8,(n / 65536%256).toUInt8,(n / 16777216%256).toUInt8]
def WS (kind:UInt8) (secs:List aC):aC:= [76,84,1,kind]++(zP secs.length++secs.flatMap fun s=>zP s.length)
def xN (kind:UInt8) (secs:List aC):aC:=WS kind secs++secs.flatten
def xR (kind:UInt8) (secs:List aC):Bool:=decide (secs.length<=1024) && decide ((xN kind secs).length+4<=16777216)
def ZQ (kind:UInt8) (secs:List aC):aC:=xN kind secs++Za (sumL (xN kind secs))
def Wg:Nat->RS->aE×RS
 |0,r=>([],r)
 |k+1,r=>((r.size 16777216).1::(Wg k (r.size 16777216).2).1,(Wg k (r.size 16777216).2).2)
def Wl:aE->RS->List aC×RS
 | [],r=>([],r)
 |n::l,r=>((r.bytes n).1::(Wl l (r.bytes n).2).1,(Wl l (r.bytes n).2).2)
def mY (b:aC):Option (List aC):=
 let n:=(RS.mk b 0 0).size 1024
 let s:=Wg n.1 n.2
 let p:=Wl s.1 s.2
 if p.2.fin.e=0 then some p.1 else none
def ZN (kind:UInt8) (data:aC):Bool:=
 decide (8<=data.length) && decide (data.take 4= [76,84,1,kind]) && decide (data.drop (data.length - 4)=Za (sumL (data.take (data.length - 4))))
def gD (kind:UInt8) (data:aC):Option (List aC):=
 if ZN kind data then mY ((data.take (data.length - 4)).drop 4)else none
theorem iX:∀(l:List aC) (pre post:aC),(∀s∈l,s.length<=16777216)->
 Wg l.length (rsAt pre ((l.flatMap fun s=>zP s.length)++post))=(l.map List.length,rsAt (pre++l.flatMap fun s=>zP s.length) post)
 | [],pre,post,_=>by simp [Wg]
 |s::l,pre,post,h=>by
  simp only [z6,Wg,zp,zO,yH];have h1:=h s (by simp);rw [yn (by omega) h1,iX l _ post fun t ht=>h t (by simp [ht])];simp
theorem jL:∀(l:List aC) (pre post:aC),Wl (l.map List.length) (rsAt pre (l.flatten++post))=(l,rsAt (pre++l.flatten) post)
 | [],pre,post=>by simp [Wl]
 |s::l,pre,post=>by
  simp only [yH,Wl,yM,zO];rw [X4,jL l _ post];simp
theorem Uc:∀{l:aE} {x:Nat},x∈l->x<=l.sum
 |y::l,x,h=>by
  rw [List.sum_cons];rcases yx.1 h with rfl|h
  ·omega
  ·have:=Uc h;omega
theorem DT {kind:UInt8} {secs:List aC} (h:xR kind secs=true):gD kind (ZQ kind secs)=some secs:=by
 simp only [xR,zM,decide_eq_true_eq]at h;have h4:(Za (sumL (xN kind secs))).length=4:=rfl;have hb:4<=(xN kind secs).length:=by simp [xN,WS]
 have hlen:(ZQ kind secs).length=(xN kind secs).length+4:=by simp [ZQ,h4]
 have ht:(ZQ kind secs).take ((ZQ kind secs).length - 4)=xN kind secs:=by
  rw [hlen,Nat.add_sub_cancel,ZQ,List.take_left]
 have hd:(ZQ kind secs).drop ((ZQ kind secs).length - 4)=Za (sumL (xN kind secs)):=by
  rw [hlen,Nat.add_sub_cancel,ZQ,List.drop_left]
 unfold gD;rw [if_pos ?_,ht]
 ·have e:(xN kind secs).drop 4=zP secs.length++((secs.flatMap fun s=>zP s.length)++(secs.flatten++ [])):=by
   simp [xN,WS]
  have hs:∀s∈secs,s.length<=16777216:=by
   intro s hs;have h2:=h.2;simp only [xN,zG,List.length_flatten]at h2;have:s.length<=(secs.map List.length).sum:=Uc (List.mem_map.2 ⟨s,hs,rfl⟩);omega
  unfold mY;rw [e,show RS.mk (zP secs.length++((secs.flatMap fun s=>zP s.length)++(secs.flatten++ []))) 0 0=rsAt [] (zP secs.length++((secs.flatMap fun s=>zP s.length)++(secs.flatten++ []))) by simp [rsAt]];simp only [yn (show secs.length<2^64 by omega) h.1,iX secs _ _ hs,jL];simp [RS.fin,rsAt,RS.left]
 ·unfold ZN;rw [ht,hd];simp only [hlen,zM,decide_eq_true_eq];refine⟨⟨?_,?_⟩,trivial⟩
  ·omega
  ·rw [ZQ,List.take_append_of_le_length hb];simp [xN,WS]
open Tryz
open Go.RowKit
theorem CO (A:aA) (nb c wd n:Nat) (b:aC) (w:O) (hw:wd<=64) (hn:n<=1048576) (hl:RB w A nb b) (hnb:nb<=140737488355328) (h:Z2 b wd n=none):
 Calls prog 135 #[.slice A nb c,.int .i64 (wd:Int),.int .i64 (n:Int)] w fun e w' =>e= .returned (.tuple #[.slice none 0 0,.int .i64 20])/\Below w.heap.size w w' :=by
 by_cases hs:nb=yK wd n
 ·subst hs;refine(kN A c wd n b w hw hn hl).mono ?_;rintro e w' ⟨v,er,rfl,⟨_,rfl,rfl⟩|⟨_,h2,_⟩,hb⟩
  ·exact⟨rfl,hb⟩
  ·rw [h]at h2;cases h2
 ·refine(rV A nb c wd n b w hw hn hl hs hnb).mono ?_;rintro e w' ⟨rfl,rfl⟩;exact⟨rfl,zE _ _⟩
theorem vO (A:aA) (nb c wd n:Nat) (b:aC) (w:O) (hw:wd<=64) (hn:n<=1048576) (hl:RB w A nb b) {l:aE} (h:Z2 b wd n=some l):
 Calls prog 135 #[.slice A nb c,.int .i64 (wd:Int),.int .i64 (n:Int)] w fun e w' =>∃A',e= .returned (.tuple #[.slice A' n n,.int .i64 0])/\zt w' (Frm w.heap.size) 35 1 (.slice A' n n) n (uC l)/\Below w.heap.size w w' :=by
 have hs:nb=yK wd n:=by
  unfold Z2 at h
  split at h
  ·cases h
  ·rename_i hh;rw [<-hl.len];omega
 subst hs;refine(kN A c wd n b w hw hn hl).mono ?_;rintro e w' ⟨v,er,rfl,⟨h2,_,_⟩|⟨A',h2,rfl,rfl,ho⟩,hb⟩
 ·rw [h]at h2;cases h2
 ·rw [h]at h2;cases h2;exact⟨A',rfl,ho,hb⟩
theorem FZ {r:RS} {n:Nat} (h:(r.bytes n).2.e=0):(r.bytes n).1.length=n:=by
 unfold RS.bytes RS.take at*
 split at h
 ·rename_i h1;exact absurd h h1
 ·rename_i h1
  split at h
  ·simp at h
  ·rename_i x k hx;rw [if_neg h1];show x.length=n;unfold Y5 at hx
   split at hx
   ·rename_i hle;cases hx;rw [zr];omega
   ·cases hx
theorem Tch.drewR (S:Nat->Prop) (w:O):Tch S w w.drew:=Tch.new (zE _ _).drew
theorem xY.row {w w' :O} {S S' :Nat->Prop} {p:Nat} {r r' :RS} {e:TypeId} {size n:Nat} {v:V} {xs:aF} (h:zt w S' e size v n xs) (hr:Rd w S p r) (ho:xY w S p r' w') (he:e≠239):zt w' S' e size v n xs:=
 h.tch ho.2 (fun g hg e' =>by
  subst e';obtain⟨_,_,_,_,_,hb,_⟩:=hr;exact h.ne_ hb he hg)
theorem xY.below {w w' :O} {S:Nat->Prop} {B p:Nat} {r r' :RS} (hr:Rd w S p r) (ho:xY w S p r' w') (hB:B<=w.heap.size) (hS:∀b,S b->B<=b):Below B w w' :=ho.2.below hB (fun b e=>by subst e;exact hS _ hr.1)
theorem NW (r:RS):r.int.2.b=r.b:=by
 unfold RS.int RS.uint RS.take;simp only
 split
 ·rfl
 ·split<;>rfl
theorem pO (r:RS) (n:Nat):(r.bytes n).2.b=r.b:=by
 unfold RS.bytes RS.take
 split
 ·rfl
 ·split<;>rfl
theorem EU {n f:Nat} {l:aD} {r:RS} (h:l.length=n):QV n (f+1) l r=some (l,r.at_):=by
 conv=>lhs;unfold QV
 rw [if_neg (by omega)]
theorem EP (r:RS): -9223372036854775808<=r.int.1/\r.int.1<=9223372036854775807:=by
 have h:=eQ r;unfold RS.int back;simp only
 split<;>omega
theorem rF {m:Int} {u:Nat} {l:aE} (h:m+u<=9223372036854775807):xu m (u::l)=(xu m l).map ((m+u)::·):=by
 conv=>lhs;unfold xu
 rw [if_pos h]
theorem rA {m:Int} {u:Nat} {l:aE} (h:¬m+u<=9223372036854775807):xu m (u::l)=none:=by
 conv=>lhs;unfold xu
 rw [if_neg h]
theorem vI {m:Int} {above:aE} {j u:Nat} {xs:aD} (hx:above[j]? =some u) (h:xu m above=(xu m (above.drop j)).map (xs++·)) (hu:m+u<=9223372036854775807):
 xu m above=(xu m (above.drop (j+1))).map ((xs++ [m+u])++·):=by
 have hlt:=(List.getElem?_eq_some_iff.1 hx).1;have he:=(List.getElem?_eq_some_iff.1 hx).2;rw [h,za hlt,he,rF hu];cases xu m (above.drop (j+1))<;>simp
theorem vH {m:Int} {above:aE} {j u:Nat} {xs:aD} (hx:above[j]? =some u) (h:xu m above=(xu m (above.drop j)).map (xs++·)) (hu:¬m+u<=9223372036854775807):
 xu m above=none:=by
 have hlt:=(List.getElem?_eq_some_iff.1 hx).1;have he:=(List.getElem?_eq_some_iff.1 hx).2;rw [h,za hlt,he,rA hu];rfl
theorem CE {m:Int} {above:aE} {k:Nat} {xs:aD} (hk:above.length=k) (h:xu m above=(xu m (above.drop k)).map (xs++·)):xu m above=some xs:=by
 subst hk;rw [h,List.drop_length];simp [xu]
theorem NS {m:Int} {u:Nat} (hm: -9223372036854775808<=m/\m<=9223372036854775807) (hu:u<18446744073709551616) (h:m+u<=9223372036854775807):IntKind.i64.wrap (IntKind.u64.wrap (IntKind.u64.wrap m+u))=m+u:=by
 rw [zT,zW,zW];omega
theorem MK {m:Int} {u:Nat} (hm: -9223372036854775808<=m/\m<=9223372036854775807) (hu:u<18446744073709551616) (h:¬m+u<=9223372036854775807):IntKind.i64.wrap (IntKind.u64.wrap (IntKind.u64.wrap m+u))=m+u - 18446744073709551616:=by
 rw [zT,zW,zW];omega
theorem KE (r:RS) (n:Nat):(r.bytes n).1.length<=n:=by
 unfold RS.bytes RS.take
 split
 ·simp
 ·split
  ·simp
  ·rename_i x k hx;unfold Y5 at hx
   split at hx
   ·cases hx;show(List.take n r.rest).length<=n;rw [zr];omega
   ·cases hx
theorem CP {b:aC} {wd n:Nat} {l:aE} (hw:wd<=64) (h:Z2 b wd n=some l):l.length=n/\∀x∈l,x<18446744073709551616:=by
 unfold Z2 at h
 split at h
 ·cases h
 split at h
 ·cases h
 cases h;refine⟨by simp [YE],fun x hx=> ?_⟩;obtain⟨i,_,rfl⟩:=List.mem_map.1 hx;exact zX (WM _ wd) (yB (by omega) hw)
def Uf (n f:Nat) (l:aD) (least:Int) (wd:Nat) (o:Option aE) (r3:RS):Option (aD×Nat):=
 match o with
 |none=>none
 |some above=>if r3.e≠0\/ZW above≠wd\/minN above≠0 then none else
  match xu least above with
  |none=>none
  |some xs=>QV n f (l++xs) r3
def UJ (n f:Nat) (l:aD) (k:Nat) (least:Int) (wd:Nat) (r2:RS):Option (aD×Nat):=
 if r2.e≠0\/64<wd then none else Uf n f l least wd (Z2 (r2.bytes (yK wd k)).1 wd k) (r2.bytes (yK wd k)).2
theorem AJ (n f:Nat) (l:aD) (r:RS) (h:l.length<n):QV n (f+1) l r=UJ n f l (min (n - l.length) 128) r.int.1 ((r.int.2.bytes 1).1.headD 0).toNat (r.int.2.bytes 1).2:=by
 conv=>lhs;unfold QV
 rw [if_pos h];rfl
theorem iC {n f k wd:Nat} {l:aD} {least:Int} {r2:RS} (h:r2.e≠0\/64<wd):UJ n f l k least wd r2=none:=by unfold UJ;rw [if_pos h]
theorem AI {n f k wd:Nat} {l:aD} {least:Int} {r2:RS} (h1:r2.e=0) (h2:wd<=64):UJ n f l k least wd r2=Uf n f l least wd (Z2 (r2.bytes (yK wd k)).1 wd k) (r2.bytes (yK wd k)).2:=by
 unfold UJ;rw [if_neg];rintro(h|h)
 ·exact h h1
 ·omega
theorem VY {n f wd:Nat} {l:aD} {least:Int} {above:aE} {r3:RS} (h:r3.e≠0\/ZW above≠wd\/minN above≠0):Uf n f l least wd (some above) r3=none:=by
 unfold Uf;simp only;rw [if_pos h]
theorem EV {n f wd:Nat} {l:aD} {least:Int} {above:aE} {r3:RS} (h1:r3.e=0) (h2:ZW above=wd) (h3:minN above=0):Uf n f l least wd (some above) r3=(match xu least above with|none=>none|some xs=>QV n f (l++xs) r3):=by
 unfold Uf;simp only;rw [if_neg];rintro(h|h|h)
 ·exact h h1
 ·exact h h2
 ·exact h h3
def Ym (q:Option (aD×Nat)) (n:Nat) (w:O) (e:Ending) (w' :O):Prop:=
 Below w.heap.size w w' /\match q with
  |none=>e= .returned (.tuple #[.slice none 0 0,.int .i64 0,.int .i64 20])
  |some (l,at_)=>∃A',e= .returned (.tuple #[.slice A' n n,.int .i64 (at_:Int),.int .i64 0])/\zt w' (Frm w.heap.size) 2 1 (.slice A' n n) n (ints l)
theorem Ym.bad {n:Nat} {w w' :O} (h:Below w.heap.size w w'):Ym none n w (.returned (.tuple #[.slice none 0 0,.int .i64 0,.int .i64 20])) w' :=⟨h,rfl⟩
theorem d6 (A:aA) (nb c n:Nat) (b:aC) (w:O) (hn:n<=1048576) (hl:RB w A nb b) (hnb:nb<=100000000000000):
 Calls prog 75 #[.slice A nb c,.int .i64 (n:Int)] w fun e w' =>Ym (getL b n) n w e w' :=by
 have hn' :(n:Int)<=1048576:=by omega
 have hlen:=hl.len;have Hnr:=zA (VF A nb c b w (by omega) hl);obtain⟨q,hq⟩:=eX (getL b n);rw [hq];have Hq:=zA hq;have Hnb:=zA hlen;clear hl hq hlen;go_enter func75,ntmps75;go_wp2_with fail;refine Hnr.out.mono ?_;rintro e w1 ⟨p,rfl,hr,hb⟩;obtain⟨B,hB⟩:∃B,B=w.heap.size:=⟨_,rfl⟩;rw [<-hB]at hr;have HB:=zA hB;obtain⟨B1,hB1⟩:∃B1,B1=w1.heap.size:=⟨_,rfl⟩
 obtain⟨S1,hS1⟩:∃S1:Nat->Prop,S1=(fun b=>B<=b/\b<B1):=⟨_,rfl⟩;have hr1:Rd w1 S1 p ⟨b,0,0⟩:=hr.mono (fun g hg h=>by rw [hS1];exact⟨h,by rw [hB1];exact hg⟩);have HS1:Hid (∀b,S1 b->B<=b/\b<B1):=by rw [hS1];exact fun _ h=>h
 have HB1:Hid (B<=B1):=by rw [hB,hB1];exact hb.size
 have HBw1:Hid (B1<=w1.heap.size):=by rw [hB1];exact zC _
 have Hr:=zA hr1;have Hb:=zA hb;clear hr hb hB hr1 hB1 hS1;go_wp2
 go_loopg [7] n (fun gk v wr=>∃(f:Nat) (cur:aD) (r:RS),cur.length<=n/\gk=n - cur.length/\n - cur.length<f/\QV n f cur r=q/\zt wr (Frm B1) 2 1 v cur.length (ints cur)/\Rd wr S1 p r/\r.b.length=nb/\B1<=wr.heap.size/\Below w.heap.size w wr)
 case atStart=>exact⟨n+1, [],⟨b,0,0⟩,zJ _,rfl,by simp,Hq.out,ZJ _ _ _ _,Hr.out,Hnb.out,HBw1.out,Hb.out⟩
 case round=>
  obtain⟨f,cur,r,hcl,rfl,hf,hgo,ho,hr,hrb,hB1w,hb⟩:=hrel;have Hrb:=zA hrb;obtain⟨AL,cL,rfl⟩:=ho.form;obtain⟨L,hL⟩:=eX (cur.length);rw [hL]at hcl hf ho⊢;obtain⟨f',rfl⟩:∃f',f=f' +1:=⟨f - 1,by omega⟩;have HL:=zA hL;have Hgo:=zA hgo;have Ho:=zA ho;have Hr:=zA hr;have Hb:=zA hb;clear hgo ho hr hb hL hrb
  by_cases hlt:L<n
  ·obtain⟨k,hk⟩:∃k,k=min (n - L) 128:=⟨_,rfl⟩;have hki:min ((n:Int) - L) 128=(k:Int):=(by omega);have Hk:=zA hk;have hk1:1<=k:=(by omega);have hk2:k<=128:=(by omega);clear hk;go_wp2_with fail;have hBw:B<=wr.heap.size:=(by rw [HB.out];exact Hb.out.size);refine(gS p r S1 wr Hr.out).mono ?_;rintro e w2 ⟨rfl,ho2⟩;have hb2:=xY.below Hr.out ho2 hBw (fun b h=>(HS1.out b h).1)
   have hrow2:=xY.row Ho.out Hr.out ho2 (by decide);have hBw2:B<=w2.heap.size:=zY hBw hb2.size;have Ho2B:Hid (wr.heap.size<=w2.heap.size):=hb2.size;have Hir:=zA (EP r);have hrb1:r.int.2.b.length=nb:=(by rw [NW];exact Hrb.out);have Hr2:=zA ho2.1;have Ho2:=zA hrow2;have Hb2:Hid (Below w.heap.size w w2):=Hb.out.trans (by rw [<-HB.out];exact hb2);clear ho2 hb2 hrow2 hBw;obtain⟨x,hx⟩:=eX (r.int)
   have hgs:=AJ n f' cur r (by rw [HL.out];exact hlt);rw [HL.out,<-Hk.out]at hgs;rw [hx]at Hr2 hgs Hir hrb1⊢;obtain⟨least,r1⟩:=x;simp only at Hr2 hgs Hir hrb1⊢;have Hrb1:=zA hrb1;have Hgs:=zA hgs;clear hgs hx hrb1;go_wp2_with fail;refine(Um 1 (by omega) p r1 S1 w2 Hr2.out).mono ?_;rintro e w3 ⟨vw,rfl,hvw,ho3⟩;have hb3:=xY.below Hr2.out ho3 hBw2 (fun b h=>(HS1.out b h).1)
   have hB1w3:B1<=w3.heap.size:=zY (zY hB1w Ho2B.out) hb3.size;have hrow3:=xY.row Ho2.out Hr2.out ho3 (by decide);have hBw3:B<=w3.heap.size:=zY hBw2 hb3.size;have Hr3:=zA ho3.1;have Ho3:=zA hrow3;have Hb3:Hid (Below w.heap.size w w3):=Hb2.out.trans (by rw [<-HB.out];exact hb3);have Hvw:=zA hvw;obtain⟨⟨Aw,rfl⟩,_⟩:=hvw;have hlen1:=FZ (r:=r1) (n:=1);clear ho3 hb3 hrow3
   have hrb2:(r1.bytes 1).2.b.length=nb:=(by rw [pO];exact Hrb1.out);obtain⟨y,hy⟩:=eX (r1.bytes 1);rw [hy]at Hr3 Hgs Hvw hlen1 hrb2⊢;obtain⟨wb,r2⟩:=y;simp only at Hr3 Hgs Hvw hlen1 hrb2⊢;have Hrb2:=zA hrb2;clear hy hrb2
   by_cases he:r2.e=0
   ·have h1:=hlen1 he
    obtain⟨cb,rfl⟩:∃cb,wb= [cb]:=by
     match wb,h1 with
     | [x],_=>exact⟨x,rfl⟩
    have hrb:RB w3 Aw 1 [cb]:=Hvw.out.2.rb;obtain⟨bw,ow,xb,rfl,hbw,hcb0,Hxb⟩:=hrb.at_ (k:=0) (by omega)
    obtain rfl:cb=xb:=by have:=Hxb.out;simpa using this
    have hcb:w3.cell? ⟨bw,ow,none⟩=some (.int .u8 (cb.toNat:Int)):=hcb0;have Hcb:=zA hcb;rw [show([cb].headD 0)=cb from rfl]at Hgs;have he' :((r2.e:Int) !=0)=false:=(by simp [he]);have He:=zA he;clear hlen1 h1 he hcb0 hrb Hxb
    by_cases h64:cb.toNat<=64
    ·have h64' :(cb.toNat:Int)<=64:=(by omega);go_wp2_with fail;refine(Zr p r2 S1 w3 Hr3.out).mono ?_;rintro e w' ⟨rfl,rfl⟩;go_wp2;obtain⟨m,hm⟩:=eX (yK cb.toNat k)
     have hm2:m<=1024:=by
      have:cb.toNat*k<=64*128:=Nat.mul_le_mul h64 hk2;rw [<-hm];unfold yK;omega
     have hsz:=fun W=>cI cb.toNat k h64 (by omega) W;rw [hm]at hsz;have Hsz:=zA hsz;have hgs2:=Hgs.out.trans (AI He.out h64);rw [hm]at hgs2;clear hsz;obtain⟨z,hz⟩:=eX (r2.bytes m);have hby:=fun W (h:Rd W S1 p r2)=>Um m (by omega) p r2 S1 W h;rw [hz]at hgs2 hby;have Hby:=zA hby;have hzl:z.1.length<=m:=(by rw [<-hz];exact KE _ _);have hrb3:z.2.b.length=nb:=(by rw [<-hz,pO];exact Hrb2.out)
     have hze:z.2.e=0\/z.2.e=20:=(by rw [<-hz];exact(RS.take_ok Hr3.out.2.1 _ (VL m)).e);clear hby hz;obtain⟨zb,r3⟩:=z;simp only at hgs2 Hby hzl hze hrb3;have Hrb3:=zA hrb3;clear hrb3;have hwr:IntKind.i64.wrap (cb.toNat:Int)=(cb.toNat:Int):=(by rw [zT];omega)
     have hbwp:bw≠p:=by
      intro e;subst e;obtain⟨_,_,_,_,_,hbk,_⟩:=Hr3.out;exact zt.ne_ Hvw.out.2 hbk (by decide) rfl
     have hS:∀W,Tch (fun b=>b=p) w3 W->W.cell? ⟨bw,ow,none⟩=some (.int .u8 (cb.toNat:Int))/\Tch (fun b=>b=p) w3 W:=fun W hW=>⟨(hW.cell (p:=⟨bw,ow,none⟩) hbw hbwp).trans Hcb.out,hW⟩;have HS:=zA hS;clear hS;rcases hub:Z2 zb cb.toNat k with _|above
     ·rw [hub]at hgs2;have hno:q=none:=(by rw [<-Hgo.out,hgs2];rfl);subst hno;have Hub:=zA hub;clear hub hgs2
      go_region_held3 (fun W=>W.cell? ⟨bw,ow,none⟩=some (.int .u8 (cb.toNat:Int))/\Tch (fun b=>b=p) w3 W) (first|exact HS.out _ (Tch.refl _ _)|exact HS.out _ (Tch.drewR _ _)|exact HS.out _ (by assumption))
       (first
        |(go_at_call 136;refine(Hsz.out _).mono ?_;rintro e W ⟨rfl,rfl⟩)
        |(go_at_call 76;refine(Hby.out _ (Hr3.out.on (zE _ _).drew)).mono ?_;rintro e W4 ⟨vz,rfl,hvz,ho4⟩;have ht4:Tch (fun b=>b=p) w3 W4:=(Tch.drewR _ _).trans ho4.2 (fun _ _ h=>h);obtain⟨Az,hAz⟩:=hvz.1;subst hAz;have Hvz:=zA hvz.2.rb;have Ho4:=zA ho4;clear hvz ho4)
        |(go_at_call 135;refine(CO _ _ _ _ _ _ _ h64 (by omega) Hvz.out (by omega) Hub.out).mono ?_;rintro e W5 ⟨rfl,hb5⟩;have ht5:Tch (fun b=>b=p) w3 W5:=ht4.trans (Tch.new (S:=fun b=>b=p) hb5) (fun _ _ h=>h);have Hb5:=zA hb5;clear hb5))
      have hr5:=Ho4.out.1.on Hb5.out;have hbl:Below w.heap.size w W5:=Hb3.out.trans (by rw [<-HB.out];exact ht5.below hBw3 (fun b e=>by subst e;exact(HS1.out _ Hr3.out.1).1));have Hr5:=zA hr5;have Hbl:=zA hbl;clear hr5 hbl ht4 ht5;rcases hze with h30|h30
      ·have h3e:((r3.e:Int) !=0)=false:=(by simp [h30]);clear h30;go_wp2
       go_quiet ((go_at_call 79;exact Calls.quiet_of_same ((Zr p r3 S1 _ (Hr5.out.on (zd (zE _ _) _))).mono fun _ _ h=>⟨h.1,h.2.symm⟩)))
       go_wp2
       try rw [Exit.noGoto_ret]
       go_ret3
       exact Ym.bad (zd Hbl.out _)
      ·have h3e:((r3.e:Int) !=0)=true:=(by simp [h30]);clear h30;go_wp2
       go_quiet ((go_at_call 79;exact Calls.quiet_of_same ((Zr p r3 S1 _ (Hr5.out.on (zd (zE _ _) _))).mono fun _ _ h=>⟨h.1,h.2.symm⟩)))
       go_wp2
       try rw [Exit.noGoto_ret]
       go_ret3
       exact Ym.bad (zd Hbl.out _)
     ·rw [hub]at hgs2;have hal:=CP h64 hub;have hlk:=hal.1;have Hal:=zA hal;have Hub:=zA hub;have Hgs2:=zA hgs2;clear hub hgs2 hal
      go_region_held3 (fun W=>W.cell? ⟨bw,ow,none⟩=some (.int .u8 (cb.toNat:Int))/\Tch (fun b=>b=p) w3 W) (first|exact HS.out _ (Tch.refl _ _)|exact HS.out _ (Tch.drewR _ _)|exact HS.out _ (by assumption))
       (first
        |(go_at_call 136;refine(Hsz.out _).mono ?_;rintro e W ⟨rfl,rfl⟩)
        |(go_at_call 76;refine(Hby.out _ (Hr3.out.on (zE _ _).drew)).mono ?_;rintro e W4 ⟨vz,rfl,hvz,ho4⟩;have ht4:Tch (fun b=>b=p) w3 W4:=(Tch.drewR _ _).trans ho4.2 (fun _ _ h=>h);obtain⟨Az,hAz⟩:=hvz.1;subst hAz;have Hvz:=zA hvz.2.rb;have Ho4:=zA ho4;clear hvz ho4)
        |(go_at_call 135;refine(vO _ _ _ _ _ _ _ h64 (by omega) Hvz.out Hub.out).mono ?_;rintro e W5 ⟨Au,rfl,hu5,hb5⟩;have ht5:Tch (fun b=>b=p) w3 W5:=ht4.trans (Tch.new (S:=fun b=>b=p) hb5) (fun _ _ h=>h);have Hb5:=zA hb5;have Hu5:=zA hu5;have Hw4:Hid (w3.heap.size<=W4.heap.size):=ht4.size;clear hb5 hu5))
      have hr5:=Ho4.out.1.on Hb5.out;have hbl:Below w.heap.size w W5:=Hb3.out.trans (by rw [<-HB.out];exact ht5.below hBw3 (fun b e=>by subst e;exact(HS1.out _ Hr3.out.1).1));obtain⟨ga,hga,hga1,hga2,hga3⟩:=Hu5.out.at_ (by omega)
      subst hga;have Hga3:=zA hga3;have hgaB:w3.heap.size<=ga:=zY Hw4.out hga1;obtain⟨S2,hS2⟩:∃S2:Nat->Prop,S2=(fun b=>B1<=b/\b≠ga):=⟨_,rfl⟩;have hrow5:zt W5 S2 2 1 (.slice AL L cL) L (ints cur):=zt.tch (zt.mono Ho3.out (fun g hg h=>by rw [hS2];exact⟨h,by omega⟩)) ht5 (fun g hg e=>by have h1:=(Ho3.out.lt g hg).1;have h2:=(HS1.out _ Hr3.out.1).2;have h3:B1<=g:=h1;omega)
      have HS2:Hid (∀b,S2 b->B1<=b/\b≠ga):=by rw [hS2];exact fun _ h=>h
      have HS2' :Hid (∀b,W5.heap.size<=b->S2 b):=by
       rw [hS2];intro b hb;have:=ht5.size;exact⟨by omega,by omega⟩
      have hru:RU W5 (some ⟨ga,0,none⟩) k above:=Hu5.out.rc;have Hru:=zA hru;have Hrow5:=zA hrow5;have Hr5:=zA hr5;have Hbl:=zA hbl;clear hr5 hbl ht4 ht5 hru hrow5 hS2 hga3;rcases hze with h30|h30
      ·have h3e:((r3.e:Int) !=0)=false:=(by simp [h30]);have H30:=zA h30;clear h30;obtain⟨wl,hwl⟩:=eX (ZW above);have Hwid:=zA (fun W (h:RU W (some ⟨ga,0,none⟩) k above)=>kL (some ⟨ga,0,none⟩) k k above W (by omega) h Hal.out.2);obtain⟨mn,hmn⟩:=eX (minN above);have Hmin:=zA (fun W (h:RU W (some ⟨ga,0,none⟩) k above)=>LE (some ⟨ga,0,none⟩) k k above W (by omega) (by omega) h);rw [hwl]at Hwid
       rw [hmn]at Hmin;have Hwl:=zA hwl;have Hmn:=zA hmn;clear hwl hmn
       by_cases hw1:wl=cb.toNat
       ·have hwf:((wl:Int) !=(cb.toNat:Int))=false:=by simp;omega
        by_cases hm1:mn=0
        ·have hmf:((mn:Int) !=0)=false:=(by simp [hm1]);have hgs3:=Hgs2.out.trans (EV H30.out (by rw [Hwl.out,hw1]) (by rw [Hmn.out,hm1]));have Hgs3:=zA hgs3;clear hgs3 hw1 hm1;go_wp2
         go_quiet (first
          |(go_at_call 79;exact Calls.quiet_of_same ((Zr p r3 S1 _ (Hr5.out.on (zd (zE _ _) _))).mono fun _ _ h=>⟨h.1,h.2.symm⟩))
          |(go_at_call 137;exact Calls.quiet_of_same ((Hwid.out _ (Hru.out.on (zd (zE _ _) _))).mono fun _ _ h=>⟨h.1,h.2.symm⟩))
          |(go_at_call 138;exact Calls.quiet_of_same ((Hmin.out _ (Hru.out.on (zd (zE _ _) _))).mono fun _ _ h=>⟨h.1,h.2.symm⟩)))
         go_wp2
         go_loopg [87,7] k (fun gk i v wv=>∃(j:Nat) (xs:aD),j<=k/\gk=k - j/\i= .int .i64 j/\xs.length=j/\xu least above=(xu least (above.drop j)).map (xs++·)/\zt wv S2 2 1 v (L+j) (ints (cur++xs))/\Tch S2 W5 wv)
         case atStart=>exact⟨0, [],zJ _,rfl,rfl,rfl,by simp,by rw [zo];exact Hrow5.out.drewN _,Tch.new (zd (zE _ _) _)⟩
         case round=>
          obtain⟨j,xs,hj,rfl,rfl,hxl,hadd,ho,ht⟩:=hrel;obtain⟨AV,cV,rfl⟩:=ho.form;have hvc:=ho.cap
          by_cases hjk:j<k
          ·obtain⟨u,hu⟩:∃u,above[j]? =some u:=⟨_,zB (by omega)⟩;have hcu:=(ht.cell (p:=⟨ga,j,none⟩) hga2 (fun h=>(HS2.out _ h).2 rfl)).trans (Hga3.out j _ (WB hu));have hu64:=Hal.out.2 u (zD hu);have hsz:=ht.size
           by_cases hov:least+u<=9223372036854775807
           ·have Hadd:=zA (vI hu hadd hov);have hxx:=NS Hir.out hu64 hov;have Ho:=zA ho;have Ht:=zA ht;clear hadd ho ht hu
            go_wp2_with (at_builtin;refine xm (S:=S2) Zs (.tmp 99) (.tmp 101) rfl rfl rfl (Ho.out.alloc _) rfl (QO wr _ _) (by intro u hu;simp at hu;subst hu;rfl) (by omega) (by omega) (HS2'.out _ (by simp;omega)) ?_;intro A' c' w9 ho9 hg9 _ hb9;have Ho9:=zA ho9;have Hb9:=zA (Ht.out.trans ((Tch.alloc (S:=S2) wr _).trans hb9 (fun _ _ h=>h)) (fun _ _ h=>h));clear ho9 hg9 hb9)
            go_roundg (k - (j+1))
            case measure=>omega
            case rel=>
             refine⟨j+1,xs++ [least+u],by omega,rfl,by go_num,by simp [hxl],Hadd.out,?_,Hb9.out⟩;rw [<-zO,uO];exact Ho9.out
           ·have hno:q=none:=(by rw [<-Hgo.out,Hgs3.out,vH hu hadd hov]);have hxx:=MK Hir.out hu64 hov;subst hno;have hbt:=ht.below (B:=B) (by omega) (fun b h=>zY HB1.out (HS2.out b h).1);have Hbt:=zA hbt;clear hadd ho ht hu hbt;go_wp2
            try rw [Exit.noGoto_ret]
            go_ret3
            exact Ym.bad (Hbl.out.trans (by rw [<-HB.out];exact Hbt.out))
          ·obtain rfl:j=k:=by omega
           have hgo2:QV n f' (cur++xs) r3=q:=(by rw [<-Hgo.out,Hgs3.out,CE hlk hadd]);have hB5:B1<=wr.heap.size:=(by have:=ht.size;omega);have hr6:Rd wr S1 p r3:=Hr5.out.tch ht (fun b h h2=>by have h3:=(HS1.out b h).2;have h4:=(HS2.out b h2).1;omega);have ho6:zt wr (Frm B1) 2 1 (.slice AV (L+j) cV) (L+j) (ints (cur++xs)):=ho.mono (fun g _ h=>(HS2.out g h).1)
           have hbt:=ht.below (B:=B) (by omega) (fun b h=>zY HB1.out (HS2.out b h).1);have Hbt:=zA hbt;have Hgo2:=zA hgo2;have Hr6:=zA hr6;have Ho6:=zA ho6;have HB5:=zA hB5;have Hcl:Hid ((cur++xs).length=L+j):=(by show _=_;rw [zG,HL.out,hxl]);clear hadd ho ht hbt hgo2 hr6 ho6 hB5;go_wp2
           go_roundg (n - (L+j))
           case measure=>have h1:=HL.out;have h2:=Hk.out;omega
           case rel=>
            refine⟨f',cur++xs,r3,by rw [Hcl.out];have h2:=Hk.out;omega,by rw [Hcl.out],by rw [Hcl.out];have h2:=Hk.out;omega,Hgo2.out,by rw [Hcl.out];exact Ho6.out,Hr6.out,Hrb3.out,HB5.out,Hbl.out.trans (by rw [<-HB.out];exact Hbt.out)⟩
        ·have hno:q=none:=(by rw [<-Hgo.out,Hgs2.out];exact VY (.inr (.inr (by rw [Hmn.out];exact hm1))));have hmf:((mn:Int) !=0)=true:=(by simp;omega);subst hno;clear hw1 hm1;go_wp2
         go_quiet (first
          |(go_at_call 79;exact Calls.quiet_of_same ((Zr p r3 S1 _ (Hr5.out.on (zd (zE _ _) _))).mono fun _ _ h=>⟨h.1,h.2.symm⟩))
          |(go_at_call 137;exact Calls.quiet_of_same ((Hwid.out _ (Hru.out.on (zd (zE _ _) _))).mono fun _ _ h=>⟨h.1,h.2.symm⟩))
          |(go_at_call 138;exact Calls.quiet_of_same ((Hmin.out _ (Hru.out.on (zd (zE _ _) _))).mono fun _ _ h=>⟨h.1,h.2.symm⟩)))
         go_wp2
         try rw [Exit.noGoto_ret]
         go_ret3
         exact Ym.bad (zd Hbl.out _)
       ·have hno:q=none:=(by rw [<-Hgo.out,Hgs2.out];exact VY (.inr (.inl (by rw [Hwl.out];exact hw1))));have hwf:((wl:Int) !=(cb.toNat:Int))=true:=(by simp;omega);subst hno;clear hw1;go_wp2
        go_quiet (first
         |(go_at_call 79;exact Calls.quiet_of_same ((Zr p r3 S1 _ (Hr5.out.on (zd (zE _ _) _))).mono fun _ _ h=>⟨h.1,h.2.symm⟩))
         |(go_at_call 137;exact Calls.quiet_of_same ((Hwid.out _ (Hru.out.on (zd (zE _ _) _))).mono fun _ _ h=>⟨h.1,h.2.symm⟩))
         |(go_at_call 138;exact Calls.quiet_of_same ((Hmin.out _ (Hru.out.on (zd (zE _ _) _))).mono fun _ _ h=>⟨h.1,h.2.symm⟩)))
        go_wp2
        try rw [Exit.noGoto_ret]
        go_ret3
        exact Ym.bad (zd Hbl.out _)
      ·have h3e:((r3.e:Int) !=0)=true:=(by simp [h30]);have hno:q=none:=(by rw [<-Hgo.out,Hgs2.out];exact VY (.inl (by omega)));subst hno;clear h30;go_wp2
       go_quiet ((go_at_call 79;exact Calls.quiet_of_same ((Zr p r3 S1 _ (Hr5.out.on (zd (zE _ _) _))).mono fun _ _ h=>⟨h.1,h.2.symm⟩)))
       go_wp2
       try rw [Exit.noGoto_ret]
       go_ret3
       exact Ym.bad (zd Hbl.out _)
    ·have hno:q=none:=by
      rw [<-Hgo.out,Hgs.out];exact iC (.inr (by omega))
     have h64' :(64:Int)<cb.toNat:=(by omega);subst hno;go_wp2_with fail;refine(Zr p r2 S1 w3 Hr3.out).mono ?_;rintro e w' ⟨rfl,rfl⟩;go_wp2
     try rw [Exit.noGoto_ret]
     go_ret3
     exact Ym.bad Hb3.out
   ·have hno:q=none:=(by rw [<-Hgo.out,Hgs.out];exact iC (.inl he));have he' :((r2.e:Int) !=0)=true:=(by simp;omega);subst hno;clear he hlen1;go_wp2_with fail;refine(Zr p r2 S1 w3 Hr3.out).mono ?_;rintro e w' ⟨rfl,rfl⟩;go_wp2
    try rw [Exit.noGoto_ret]
    go_ret3
    exact Ym.bad Hb3.out
  ·obtain rfl:L=n:=by omega
   have hend:=EU (f:=f') (r:=r) HL.out;have hq2:q=some (cur,r.at_):=(by rw [<-Hgo.out,hend]);have hcc:=Ho.out.cap;have hle:=Hr.out.2.1.le;have hleft:((L:Int))=L:=rfl;obtain⟨lf,hlf⟩:=eX (r.left)
   have hlf2:(nb:Int) - lf=(r.at_:Int):=by
    have h1:=Hrb.out;unfold RS.left at hlf;omega
   have Hlft:=zA (fun W (h:Rd W S1 p r)=>dX p r S1 W h);rw [hlf]at Hlft;subst hq2;clear hend hlf hleft;go_wp2_with fail;refine(eK AL L cL wr (by omega) (by omega)).mono ?_;rintro e w' ⟨rfl,rfl⟩;go_wp2_with (go_at_call 77;refine(Hlft.out _ Hr.out).mono ?_;rintro e w' ⟨rfl,kd,rfl⟩)
   try rw [Exit.noGoto_ret]
   go_ret3
   exact⟨zd Hb.out _,AL,rfl,(Ho.out.clip.mono (fun g _ h=>by have h1:B1<=g:=h;have h2:=HB.out;have h3:=HB1.out;show w.heap.size<=g;omega)).drewN _⟩
theorem eA (n:Nat) (w:O) (hn:n<4294967296):
 Calls prog 127 #[.int .u32 (n:Int)] w fun e w' =>∃A,e= .returned (.slice A 4 4)/\BR w' (Frm w.heap.size) (.slice A 4 4) (Za n)/\Below w.heap.size w w' :=by
 go_enter func127,ntmps127;go_wp2;go_ret
 refine⟨_,rfl,?_,(zE _ _).alloc (zC _) _⟩;have hc:(Za n).length=4:=rfl
 have h2:bC (Za n)= [.int .u8 ((n:Int)%256),.int .u8 ((n:Int) / 256%256),.int .u8 ((n:Int) / 65536%256),.int .u8 ((n:Int) / 16777216)]:=by
  have h3:∀x:Nat,x<256->(x.toUInt8.toNat:Int)=(x:Int):=fun x hx=>by rw [show x.toUInt8.toNat=x from by simp [Nat.toUInt8,UInt8.toNat_ofNat'];omega]
  unfold Za bC;simp only [yH,List.map_nil];rw [h3 _ (by omega),h3 _ (by omega),h3 _ (by omega),h3 _ (by omega)]
  congr 1
  congr 1
  congr 1
  congr 1
  congr 1
  omega
 unfold BR;rw [h2];exact Zn w #[_,_,_,_] 5 1 4 rfl (by decide) (zC _)
theorem eO {a b:Nat} (ha:a<4294967296) (hb:b<4294967296):bits .xor .u32 (a:Int) (b:Int)=((a^^^b:Nat):Int):=by
 show IntKind.u32.wrap ((BitVec.ofInt 32 (a:Int)^^^BitVec.ofInt 32 (b:Int)).toNat:Int)=_;rw [yE,yE,BitVec.toNat_xor,yJ,yJ,zy (by omega),zy (by omega),IntKind.wrap_u32];have:=Nat.xor_lt_two_pow (n:=32) ha hb;omega
theorem fG {a b:Nat} (ha:a<4294967296) (hb:b<4294967296):bits .and .u32 (a:Int) (b:Int)=((a &&& b:Nat):Int):=by
 show IntKind.u32.wrap ((BitVec.ofInt 32 (a:Int) &&& BitVec.ofInt 32 (b:Int)).toNat:Int)=_;rw [yE,yE,BitVec.toNat_and,yJ,yJ,zy (by omega),zy (by omega),IntKind.wrap_u32];have:=Nat.and_lt_two_pow (n:=32) a hb;omega
theorem J3 (c k:Nat) (h:c<4294967296):Nat.repeat xh k c<4294967296:=by
 induction k with
 |zero=>exact h
 |succ k ih=>exact Yi (c:=Nat.repeat xh k c) ih
theorem H8 (c:Nat) (w:O) (hc:c<4294967296):
 Calls prog 262 #[.int .u32 (c:Int)] w fun e w' =>e= .returned (.int .u32 (yi c:Nat))/\w=w' :=by
 go_enter func262,ntmps262;go_wp2
 go_loop [0,3] (fun a i=>∃k:Nat,k<=4/\i= .int .i64 k/\a= .int .u32 (Nat.repeat xh k c:Nat)) (fun _ i=>4 - (intOf i).toNat)
 case atStart=>exact⟨0,by omega,rfl,rfl⟩
 case round=>
  obtain⟨k,hk,rfl,rfl⟩:=hrel;have hlt:=J3 c k hc;obtain⟨x,hx⟩:=eX (Nat.repeat xh k c);have Hx:=zA hx;rw [hx]at hlt⊢;clear hx
  by_cases h4:k<4
  ·have h1:=fG (a:=x) (b:=1) (by omega) (by omega);rw [Nat.and_one_is_mod]at h1;have hand:bits .and .u32 (x:Int) 1=((x%2:Nat):Int):=h1;clear h1;go_wp2
   go_round
   case rel=>
    refine⟨k+1,by omega,by go_num,?_⟩;have hm:x%2<2:=Nat.mod_lt _ (by omega);have hxr:=eO (a:=x / 2) (b:=3988292384*(x%2)) (by omega) (by omega);have e1:((x / 2:Nat):Int)=(x:Int) / 2:=(by omega);have e2:((3988292384*(x%2):Nat):Int)=3988292384*((x:Int)%2):=(by omega);rw [e1,e2]at hxr;rw [hxr,show Nat.repeat xh (k+1) c=xh (Nat.repeat xh k c)from rfl,Hx.out];rfl
   case measure=>simp [intOf];omega
  ·obtain rfl:k=4:=by omega
   go_wp2;go_ret
   exact⟨by rw [<-Hx.out];rfl,rfl⟩
def tabC (k:Nat):aG:=((List.range 16).map fun i=>Value.int .u32 (if i<k then(yi i:Nat)else 0)).toArray
theorem QJ (k:Nat):(tabC k).size=16:=by simp [tabC]
theorem QK {k i:Nat} (hi:i<16):(tabC k)[i]? =some (.int .u32 (if i<k then(yi i:Nat)else 0)):=by
 unfold tabC;rw [yF,zH,zq hi];rfl
theorem GZ {k:Nat} (hk:k<16):(tabC k).setIfInBounds k (.int .u32 (yi k:Nat))=tabC (k+1):=by
 apply Array.ext_getElem?
 intro i
 by_cases hi:i<16
 ·rw [yV,QK hi,QK hi,QJ]
  by_cases h:k=i
  ·subst h;rw [if_pos rfl,if_pos hk,if_pos (by omega)]
  ·rw [if_neg h]
   by_cases h2:i<k
   ·rw [if_pos h2,if_pos (by omega)]
   ·rw [if_neg h2,if_neg (by omega)]
 ·rw [x9 (by rw [Array.size_setIfInBounds,QJ];omega),x9 (by rw [QJ];omega)]
theorem Blk.same {w:O} {g k:Nat} (hb:Blk w g 316 (tabC 16)) (hk:k<16):Blk (w.setCell ⟨g,k,none⟩ (.int .u32 (yi k:Nat))) g 316 (tabC 16):=by
 have h:=hb.set_ k (.int .u32 (yi k:Nat))
 have e:(tabC 16).setIfInBounds k (.int .u32 (yi k:Nat))=tabC 16:=by
  apply Array.ext_getElem?
  intro i;rw [yV,QJ]
  by_cases h1:k=i
  ·subst h1;rw [if_pos rfl,if_pos hk,QK hk,if_pos hk]
  ·rw [if_neg h1]
 rw [e]at h;exact h
theorem CZ {w:O} {g:Nat} {tmps:aG} (h0:tmps.getD 0 undef= .pointer (some ⟨g,0,none⟩)) (hb:Blk w g 316 (tabC 16)):(results Tryz.f200 tmps).run prog w= .ok (.agg (tabC 16)) w:=by
 have h1:=run_loadVar_row (P:=prog) w g 316 316 (tabC 16) (0,0) _ hb underlying316 rfl (by rw [QJ];kernel_rfl);have h2:Tryz.f200.results= #[ResultVar.cell 0 316]:=rfl;have h3:tmps[0]?.getD undef= .pointer (some ⟨g,0,none⟩):=by simpa using h0
 simp [results,h2,h3,h1,asAddr,Result.andThen]
theorem C4 (w:O):
 Calls prog 200 #[] w fun e w' =>e= .returned (.agg (tabC 16))/\Below w.heap.size w w' :=by
 go_enter func200,ntmps200;go_wp2
 go_loopw [3] (fun i wr=>∃k:Nat,k<=16/\i= .int .i64 k/\Blk wr w.heap.size 316 (tabC k)/\Below w.heap.size w wr) (fun i _=>16 - (intOf i).toNat)
 case atStart=>exact⟨0,by omega,rfl,Blk.new _ _ _,(zE _ _).alloc (zC _) _⟩
 case round=>
  obtain⟨k,hk,rfl,hb,hw⟩:=hrel;have Hb:=zA hb;have Hw:=zA hw
  by_cases h16:k<16
  ·have hc:=(hb.cell k).trans (QK h16);have hf:=hb.frozen k;rw [if_neg (Nat.lt_irrefl _)]at hc;clear hb hw;go_wp2_with (go_at_call 262;refine(H8 k _ (by omega)).mono ?_;rintro e w' ⟨rfl,rfl⟩)
   go_roundw
   case rel=>
    refine⟨k+1,by omega,by go_num,?_,Hw.out.setCell (p:=⟨w.heap.size,k,none⟩) (zC _) _⟩;rw [<-GZ h16];exact Hb.out.set_ k _
   case measure=>simp [intOf];omega
  ·obtain rfl:k=16:=by omega
   have hc:∀i,i<16->wr.cell? ⟨w.heap.size,i,none⟩=some (.int .u32 (yi i:Nat)):=fun i hi=>by
    rw [hb.cell i,QK hi,if_pos hi]
   have hf:=hb.frozen 0;have hc0:wr.cell? ⟨w.heap.size,0,none⟩=some (.int .u32 (yi 0:Nat)):=hc 0 (by omega);have hc1:wr.cell? ⟨w.heap.size,1,none⟩=some (.int .u32 (yi 1:Nat)):=hc 1 (by omega);have hc2:wr.cell? ⟨w.heap.size,2,none⟩=some (.int .u32 (yi 2:Nat)):=hc 2 (by omega);have hc3:wr.cell? ⟨w.heap.size,3,none⟩=some (.int .u32 (yi 3:Nat)):=hc 3 (by omega)
   have hc4:wr.cell? ⟨w.heap.size,4,none⟩=some (.int .u32 (yi 4:Nat)):=hc 4 (by omega);have hc5:wr.cell? ⟨w.heap.size,5,none⟩=some (.int .u32 (yi 5:Nat)):=hc 5 (by omega);have hc6:wr.cell? ⟨w.heap.size,6,none⟩=some (.int .u32 (yi 6:Nat)):=hc 6 (by omega);have hc7:wr.cell? ⟨w.heap.size,7,none⟩=some (.int .u32 (yi 7:Nat)):=hc 7 (by omega)
   have hc8:wr.cell? ⟨w.heap.size,8,none⟩=some (.int .u32 (yi 8:Nat)):=hc 8 (by omega);have hc9:wr.cell? ⟨w.heap.size,9,none⟩=some (.int .u32 (yi 9:Nat)):=hc 9 (by omega);have hc10:wr.cell? ⟨w.heap.size,10,none⟩=some (.int .u32 (yi 10:Nat)):=hc 10 (by omega);have hc11:wr.cell? ⟨w.heap.size,11,none⟩=some (.int .u32 (yi 11:Nat)):=hc 11 (by omega)
   have hc12:wr.cell? ⟨w.heap.size,12,none⟩=some (.int .u32 (yi 12:Nat)):=hc 12 (by omega);have hc13:wr.cell? ⟨w.heap.size,13,none⟩=some (.int .u32 (yi 13:Nat)):=hc 13 (by omega);have hc14:wr.cell? ⟨w.heap.size,14,none⟩=some (.int .u32 (yi 14:Nat)):=hc 14 (by omega);have hc15:wr.cell? ⟨w.heap.size,15,none⟩=some (.int .u32 (yi 15:Nat)):=hc 15 (by omega)
   have hfr:∀i,wr.frozen? ⟨w.heap.size,i,none⟩=false:=fun i=>hb.frozen i;have hf1:=hfr 1;have hf2:=hfr 2;have hf3:=hfr 3;have hf4:=hfr 4;have hf5:=hfr 5;have hf6:=hfr 6;have hf7:=hfr 7;have hf8:=hfr 8;have hf9:=hfr 9;have hf10:=hfr 10;have hf11:=hfr 11;have hf12:=hfr 12;have hf13:=hfr 13;have hf14:=hfr 14;have hf15:=hfr 15;clear hb hw hc hfr;go_wp2
   try simp only [Exit.inBlock,Exit.then]
   refine bodyPost_ret (CZ (g:=w.heap.size) (by rfl) ?_) rfl ⟨rfl,?_⟩
   ·exact(Blk.same (k:=15) (Blk.same (k:=14) (Blk.same (k:=13) (Blk.same (k:=12) (Blk.same (k:=11) (Blk.same (k:=10) (Blk.same (k:=9) (Blk.same (k:=8) (Blk.same (k:=7) (Blk.same (k:=6) (Blk.same (k:=5) (Blk.same (k:=4) (Blk.same (k:=3) (Blk.same (k:=2) (Blk.same (k:=1) (Blk.same (k:=0) Hb.out (by decide)) (by decide)) (by decide)) (by decide)) (by decide)) (by decide)) (by decide)) (by decide)) (by decide)) (by decide)) (by decide)) (by decide)) (by decide)) (by decide)) (by decide)) (by decide))
   ·exact(Below.setCell (p:=⟨w.heap.size,15,none⟩) (Below.setCell (p:=⟨w.heap.size,14,none⟩) (Below.setCell (p:=⟨w.heap.size,13,none⟩) (Below.setCell (p:=⟨w.heap.size,12,none⟩) (Below.setCell (p:=⟨w.heap.size,11,none⟩) (Below.setCell (p:=⟨w.heap.size,10,none⟩) (Below.setCell (p:=⟨w.heap.size,9,none⟩) (Below.setCell (p:=⟨w.heap.size,8,none⟩) (Below.setCell (p:=⟨w.heap.size,7,none⟩) (Below.setCell (p:=⟨w.heap.size,6,none⟩) (Below.setCell (p:=⟨w.heap.size,5,none⟩) (Below.setCell (p:=⟨w.heap.size,4,none⟩) (Below.setCell (p:=⟨w.heap.size,3,none⟩) (Below.setCell (p:=⟨w.heap.size,2,none⟩) (Below.setCell (p:=⟨w.heap.size,1,none⟩) (Below.setCell (p:=⟨w.heap.size,0,none⟩) Hw.out (zC _) _) (zC _) _) (zC _) _) (zC _) _) (zC _) _) (zC _) _) (zC _) _) (zC _) _) (zC _) _) (zC _) _) (zC _) _) (zC _) _) (zC _) _) (zC _) _) (zC _) _) (zC _) _)
def OY (w:O) (A:aA) (n:Nat) (ls:List aC):Prop:=
 ls.length=n/\∀k l,ls[k]? =some l->∃b off A' c',A=some ⟨b,off,none⟩/\b<w.heap.size/\w.cell? ⟨b,off+k,none⟩=some (.slice A' l.length c')/\RB w A' l.length l/\l.length<=9223372036854775807
theorem OY.on {w w' :O} {A:aA} {n:Nat} {ls:List aC} (h:OY w A n ls) (hb:Below w.heap.size w w'):OY w' A n ls:=by
 refine⟨h.1,fun k l hk=> ?_⟩;obtain⟨b,off,A',c',h1,h2,h3,h4,h5⟩:=h.2 k l hk;exact⟨b,off,A',c',h1,zX h2 hb.size,(hb.cell (p:=⟨b,off+k,none⟩) h2).trans h3,h4.on hb,h5⟩
theorem FM (c:Nat) (l:aC) (x:UInt8):crcL c (l++ [x])=Xt (crcL c l) x:=by simp [crcL]
theorem FL {c k:Nat} {l:aC} {x:UInt8} (h:l[k]? =some x):crcL c (l.take (k+1))=Xt (crcL c (l.take k)) x:=by
 rw [zI,h];exact FM _ _ _
theorem J6 (c:Nat) (a b:aC):crcL c (a++b)=crcL (crcL c a) b:=by simp [crcL]
theorem QW {ls:List aC} {k:Nat} {l:aC} (h:ls[k]? =some l):(ls.take (k+1)).flatten=(ls.take k).flatten++l:=by
 rw [zI,h];simp
theorem qS (x:Nat) (hx:x<4294967296):bits .and .u32 (x:Int) 15=((x%16:Nat):Int):=by
 have h:=fG (a:=x) (b:=15) hx (by omega);have e:x &&& 15=x%16:=Nat.and_two_pow_sub_one_eq_mod x 4;rw [e]at h;exact h
theorem oY {x:Nat} (hx:x<4294967296):bits .xor .u32 ((x:Int) / 16) (yi (x%16):Nat)=(Uk x:Nat):=by
 have h:=eO (a:=x / 16) (b:=yi (x%16)) (by omega) (lX (by omega));have e1:((x / 16:Nat):Int)=(x:Int) / 16:=by omega
 rw [e1]at h;exact h
theorem oM:tabC 16= #[.int .u32 (yi 0:Nat),.int .u32 (yi 1:Nat),.int .u32 (yi 2:Nat),.int .u32 (yi 3:Nat),.int .u32 (yi 4:Nat),.int .u32 (yi 5:Nat),.int .u32 (yi 6:Nat),.int .u32 (yi 7:Nat),.int .u32 (yi 8:Nat),.int .u32 (yi 9:Nat),.int .u32 (yi 10:Nat),.int .u32 (yi 11:Nat),.int .u32 (yi 12:Nat),.int .u32 (yi 13:Nat),.int .u32 (yi 14:Nat),.int .u32 (yi 15:Nat)]:=rfl
theorem LC {c:Nat} (hc:c<4294967296):bits .xor .u32 IntKind.u32.max (c:Int)=((4294967295 - c:Nat):Int):=by
 show IntKind.u32.wrap ((BitVec.allOnes 32^^^BitVec.ofInt 32 (c:Int)).toNat:Int)=_;rw [yE,BitVec.allOnes_xor,BitVec.toNat_not,yJ,zy (by omega),IntKind.wrap_u32];omega
theorem eS (A:aA) (n c:Nat) (ls:List aC) (w:O) (hn:n<=9223372036854775807) (hl:OY w A n ls):
 Calls prog 128 #[.slice A n c] w fun e w' =>e= .returned (.int .u32 (sumL ls.flatten:Nat))/\Below w.heap.size w w' :=by
 have Hl:=zA hl;clear hl;go_enter func128,ntmps128;go_wp2_with (go_at_call 200;refine(C4 _).mono ?_;rw [oM];rintro e w1 ⟨rfl,hb1⟩;have Hb1:=zA hb1;clear hb1);rw [<-oM];obtain⟨W1,hW1⟩:=eX (w1.alloc (.cells (tabC 16) 316));obtain⟨g,hg⟩:=eX (w1.heap.size);have hblk:Blk W1 g 316 (tabC 16):=by rw [<-hW1,<-hg];exact Blk.new _ _ _
 have hbel:Below w.heap.size w W1:=by rw [<-hW1];exact Hb1.out.alloc Hb1.out.size _
 have hls:OY W1 A n ls:=Hl.out.on hbel;rw [hW1,hg];have Hbel:=zA hbel;have Hls:=zA hls;have hct:∀x,W1.cell? ⟨g,x%16,none⟩=some (.int .u32 (yi (x%16):Nat)):=fun x=>by rw [hblk.cell,QK (by omega),if_pos (by omega)]
 have Hct:=zA hct;have hcl:∀l,crcL 4294967295 l<4294967296:=fun l=>cX l (by omega);have Hcl:=zA hcl;clear hW1 hg hblk hbel hls hct hcl
 go_loop [4,12] (fun a i=>∃k:Nat,k<=n/\i= .int .i64 k/\a= .int .u32 (crcL 4294967295 (ls.take k).flatten:Nat)) (fun _ i=>n - (intOf i).toNat)
 case atStart=>exact⟨0,zJ _,rfl,rfl⟩
 case round=>
  obtain⟨k,hk,rfl,rfl⟩:=hrel
  by_cases hlt:k<n
  ·obtain⟨l,hkl⟩:∃l,ls[k]? =some l:=⟨_,zB (by rw [Hls.out.1];exact hlt)⟩;obtain⟨b,off,A',c',rfl,hbl,hcp,hrb,hll⟩:=Hls.out.2 k l hkl;have Hrb:=zA hrb;have Hft:=zA (QW hkl);clear hrb hkl;obtain⟨m,hm⟩:=eX (l.length);rw [hm]at hcp hll;have Hm:=zA hm;clear hm;obtain⟨c0,hc0⟩:=eX (crcL 4294967295 (ls.take k).flatten);have hlt0:c0<4294967296:=(by rw [<-hc0];exact Hcl.out _);rw [hc0];have Hc0:=zA hc0
   clear hc0;go_wp2
   go_loop [4,18] (fun a i=>∃j:Nat,j<=m/\i= .int .i64 j/\a= .int .u32 (crcL c0 (l.take j):Nat)) (fun _ i=>m - (intOf i).toNat)
   case atStart=>exact⟨0,zJ _,rfl,rfl⟩
   case round=>
    obtain⟨j,hj,rfl,rfl⟩:=hrel
    by_cases hjm:j<m
    ·obtain⟨b2,off2,x,rfl,_,hcx,Hx⟩:=Hrb.out.at_ (k:=j) (by rw [Hm.out];exact hjm)
     have hy0:crcL c0 (l.take j)<4294967296:=cX _ hlt0;obtain⟨y,hy⟩:=eX (crcL c0 (l.take j));rw [hy]at hy0⊢;have Hy:=zA hy;have hxb:=x.toNat_lt;obtain⟨z,hz⟩:=eX (y^^^x.toNat);have hzl:z<4294967296:=(by rw [<-hz];exact Nat.xor_lt_two_pow (n:=32) hy0 (by omega));have hxz:=eO (a:=y) (b:=x.toNat) hy0 (by omega);rw [hz]at hxz;have hz15:=qS z hzl;have hzc:=Hct.out z;have hzn:=oY hzl
     obtain⟨v,hv⟩:=eX (Uk z);have hvl:v<4294967296:=(by rw [<-hv];exact Uj hzl);rw [hv]at hzn;have hv15:=qS v hvl;have hvc:=Hct.out v;have hvn:=oY hvl;have Hz:=zA hz;have Hv:=zA hv;clear hy hz hv;go_wp2
     go_round
     case rel=>exact⟨j+1,by omega,by go_num,by rw [FL Hx.out,Hy.out];unfold Xt;rw [Hz.out,Hv.out]⟩
     case measure=>simp [intOf];omega
    ·obtain rfl:j=m:=by omega
     go_wp2
     go_round
     case rel=>exact⟨k+1,by omega,by go_num,by rw [Hft.out,J6,Hc0.out,zF (by rw [Hm.out];exact zC _)]⟩
     case measure=>simp [intOf];omega
  ·obtain rfl:k=n:=by omega
   have Hf:Hid (ls.take k=ls):=zF (by have:=Hls.out.1;omega);have Hx:=zA (LC (Hcl.out (ls.take k).flatten));go_wp2;go_ret
   exact⟨by rw [Hx.out,Hf.out];rfl,Hbel.out⟩
end Go.Proofs.YtjbhbfaeielbiaaGreatDoor

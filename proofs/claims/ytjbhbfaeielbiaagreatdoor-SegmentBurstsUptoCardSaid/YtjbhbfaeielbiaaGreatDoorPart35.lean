import Derived.Test.YtjbhbfaeielbiaaGreatDoorPart34
import Derived.Test.YtjbhbfaeielbiaaGreatDoorRows
import Derived.Deep.Fields
import Derived.OpenShut
set_option maxRecDepth 100000
set_option maxHeartbeats 8000000
set_option linter.unusedVariables false
set_option linter.unusedSimpArgs false
namespace Go.Proofs.YtjbhbfaeielbiaaGreatDoor
open Go.Proofs.Tryz
open Rep (rep)
open Go.RowKit
theorem NO (A:aA) (n c H:Nat) (w:O) (hH:w.heap.size=H):
 Calls prog 70 #[.slice A n c] w fun e w' =>e= .returned (.func (.func 125) #[] #[.pointer (some ⟨H,0,none⟩)])/\w' =w.alloc (.cells #[.slice A n c] 128):=by
 have hmf:=@mF prog;subst hH;go_enter func70,ntmps70;go_wp2;go_ret
 exact⟨rfl,rfl⟩
theorem zL.tail1 {α:Type} [Rep α] {w:O} {F:Nat->Prop} {b off n c:Nat} {x:α} {xs:List α} {A' :aA} (h:zL w F (some ⟨b,off,none⟩) (n+1) c (x::xs)) (hs:Rep.size α=1) (hA:n=0\/A' =some ⟨b,off+1,none⟩):zL w F A' n (c - 1) xs:=by
 have hl:=h.length;have hc:=h.cap;simp only [z6]at hl;refine⟨by omega,by omega,by omega,fun k y hy=> ?_⟩;have hk:=zN hy;rcases hA with h0|rfl
 ·omega
 ·obtain⟨hb,cs,h1,h2⟩:=h.elem (k:=k+1) (x:=y) (by simpa using hy);refine⟨b,off+1,rfl,hb,cs,h1,fun j u hu=> ?_⟩;have:=h2 j u hu;rw [hs]at this⊢;rw [<-this]
  congr 2
  omega
theorem XB {C n c B:Nat} {A:aA} {t:TypeId} {x:aC} {xs:List aC} {w W0:O} {L:List Asn} (hs:zL W0 (·<B) A (n+1) c (x::xs)) (HS:Sp w (BlkA C t #[.slice A (n+1) c]::L)) (hB:OldA B W0∈L):
 Calls prog 125 #[.pointer (some ⟨C,0,none⟩)] w fun e w' =>∃A1 n1 c1 A',e= .returned (.slice A1 n1 c1)/\zL W0 (·<B) A1 n1 c1 x/\zL W0 (·<B) A' n (c - 1) xs/\Sp w' (BlkA C t #[.slice A' n (c - 1)]::L):=by
 obtain⟨b,off,y,rfl,hy,hb,he⟩:=hs.at_ (k:=0) (by omega)
 cases hy.out;obtain⟨A1,n1,c1,E0,hx⟩:=he.list;have E0:w.cell? ⟨b,off,none⟩=some (.slice A1 n1 c1):=((HS.tail.below hB).cell hb).trans E0;have hcap:=hs.cap;have q1:=HS.cl M0 0;have q2:=(HS.blkOf M0).frozen 0;obtain⟨m,hm⟩:=eX (n+1)
 obtain⟨A',hA',hx1⟩:∃A' :aA,(n=0\/A' =some ⟨b,off+1,none⟩)/\∀W:O,(Instr.slice 128 (.slice (some ⟨b,off,none⟩) m c) (some (.int .i64 1)) none none).run prog W= .ok (.slice A' n (c - 1)) W:=by
  refine⟨if c=1 then some ⟨b,off,none⟩else some ⟨b,off+1,none⟩,?_,fun W=> ?_⟩
  ·by_cases h:c=1
   ·exact .inl (by omega)
   ·exact .inr (if_neg h)
  ·have e1:((1:Int)<=(c:Int)):=(by omega);have e2:((1:Int)<=(m:Int)):=(by omega);have e3:((m:Int)<=(c:Int)):=(by omega);simp [Instr.slice,Instr.sliceBounds,go_sem,e1,e2,e3];omega
 have ht:=hs.tail1 rfl hA';have HS2:=HS.set 0 (.slice A' n (c - 1));rw [hm]at q1;have hm1:¬(m:Int)=0:=by omega
 clear hs hA' he hcap hm HS;go_enter func125,ntmps125;go_wp2;go_ret
 exact⟨A1,n1,c1,A',rfl,hx,ht,HS2⟩
attribute [local go_sem ↓] zU zV
abbrev DicA (D:Nat) (ls:List aB) (at_:aE):Asn:=DatA (.pointer (some ⟨D,0,none⟩)) (Ptr.mk (some (tBl ls at_,tFi ls,(ls.length:Int))))
theorem YQ {w:O} {F:Nat->Prop} {D:Nat} {bs:List aC} {fs:List aB} {n:Int} (h:rep w F [.pointer (some ⟨D,0,none⟩)] (Ptr.mk (some (bs,fs,n)))):
 ∃A1 n1 c1 A2 n2 c2,w.cell? ⟨D,0,none⟩=some (.slice A1 n1 c1)/\w.cell? ⟨D,1,none⟩=some (.slice A2 n2 c2)/\w.cell? ⟨D,2,none⟩=some (.int .i64 n)/\zL w F A1 n1 c1 bs/\zL w F A2 n2 c2 fs:=by
 obtain⟨_,cs,⟨_,_,rfl,⟨A1,n1,c1,rfl,h1⟩,_,_,rfl,⟨A2,n2,c2,rfl,h2⟩,rfl,_⟩,hc⟩:=Ptr.get h;have h0:=hc 0 _ rfl;have h1' :=hc 1 _ rfl;have h2' :=hc 2 _ rfl;simp only [Nat.zero_mul,yt,zx]at h0 h1' h2';exact⟨A1,n1,c1,A2,n2,c2,h0,h1',h2',h1,h2⟩
abbrev aX (L:List Asn) (D:Nat) (ls:List aB) (at_:aE):Prop:=∀w:O,Sp w L->rep w (·<w.heap.size) [.pointer (some ⟨D,0,none⟩)] (Ptr.mk (some (tBl ls at_,tFi ls,(ls.length:Int))))
section
variable {w:O} {L:List Asn} {D k:Nat} {ls:List aB} {at_:aE}
theorem Up (h:Sp w L) (hd:aX L D ls at_) (ht:xQ ls=true) (hat:at_.length=ls.length) (hu:∀x∈at_,x<18446744073709551616) (hk:16*k<ls.length):
 Calls prog 102 #[.pointer (some ⟨D,0,none⟩),.int .i64 (k:Int)] w fun e w' =>∃g g2 m,e= .returned (.tuple #[.slice (some ⟨g,0,none⟩) m m,.slice (some ⟨g2,0,none⟩) m m])/\m=min 16 (ls.length - 16*k)/\
  Sp w' (SA (some ⟨g,0,none⟩) m m (bkT ls k)::UA (some ⟨g2,0,none⟩) m m (bkT at_ k)::L):=by
 obtain⟨n,hn⟩:=eX (ls.length);have ht2:=ht;unfold xQ at ht2;simp only [zM,decide_eq_true_eq]at ht2;obtain⟨hn1,hr⟩:=ht2;obtain⟨A1,n1,c1,_,_,_,d0,_,d2,hb,_⟩:=YQ (hd _ h);obtain⟨p',hrb⟩:=mT hr k;have hlen:n1=nB n:=by rw [<-hb.length];unfold tBl;simp [hn]
 have hk1:k<n1:=by rw [hlen];unfold nB;omega
 obtain⟨b,off,x,rfl,Hx,hbl,he⟩:=hb.at_ hk1
 have hxe:x=ZZ (bkT ls k) (bkT at_ k):=by have h:=Hx.out;rw [fM hk]at h;exact(yG h).symm
 subst hxe;obtain⟨A3,n3,c3,e3,h3⟩:=he.list;have hrb3:=h3.rb fun b hb=>hb
 have hnb:n3<=140737488355328:=by
  have:=h3.cap;rw [<-h3.length]
  have hl:∀(l:List aB) (p:Option aB) (a:aB),xj p l=true->(XZ a l).length<=5000*l.length:=by
   intro l
   induction l with
   |nil=>intro p a _;simp [XZ]
   |cons s l ih=>
    intro p a hh;rw [VO];have hs:=YM hh s (by simp);have:=ih (some s) s (by unfold xj at hh;simp only [zM]at hh;exact hh.2);have h1:=ya (n:=shN a.data.toList s.data.toList) (by have:=(fN a s).1;omega);have h2:=ya (n:=(s.extract (shN a.data.toList s.data.toList) s.size).size) (by rw [yQ];omega);simp only [zG,z6]
    have h3:(s.extract (shN a.data.toList s.data.toList) s.size).data.toList.length<=s.size:=by
     have:(s.extract (shN a.data.toList s.data.toList) s.size).data.toList.length=(s.extract (shN a.data.toList s.data.toList) s.size).size:=(by simp);rw [this,yQ];omega
    omega
  have hf:∀(l:aE),(∀x∈l,x<18446744073709551616)->(l.flatMap zP).length<=10*l.length:=by
   intro l
   induction l with
   |nil=>intro _;simp
   |cons x l ih=>
    intro hh;have h1:=ya (n:=x) (by have:=hh x (by simp);omega);have:=ih fun y hy=>hh y (by simp [hy]);simp only [zp,zG,z6];omega
  have hbl1:(bkT ls k).length<=16:=(by rw [XR];omega);have hbl2:(bkT at_ k).length<=16:=(by rw [XR];omega);have h2:=hf (bkT at_ k) fun x hx=>hu x (fE hx);cases hb4:bkT ls k with
  |nil=>simp [ZZ]
  |cons a l=>
   rw [hb4]at hrb hbl1;have hs:=YM hrb a (by simp);have h1:=hl l (some a) a (by unfold xj at hrb;simp only [zM]at hrb;exact hrb.2);have h5:=ya (n:=a.size) (by omega);have h6:a.data.toList.length=a.size:=(by simp);rw [Xw];simp only [zG,z6]at hbl1⊢;omega
 obtain⟨m,hm⟩:=eX (min 16 (n - 16*k));have HSz:=zA (fun(W:O) (hW:W.cell? ⟨D,2,none⟩=some (.int .i64 (n:Int)))=>lV (k:=k) hW (by omega) (by omega));rw [hm]at HSz;rw [hn]at d2⊢;rw [hm]
 have d2b:∀w',Sp w' L->w'.cell? ⟨D,2,none⟩=some (.int .i64 (n:Int)):=fun w' hs=>by
  obtain⟨_,_,_,_,_,_,_,_,q,_,_⟩:=YQ (hd _ hs);rw [hn]at q;exact q
 have HN2:=zA (VG (c:=c3) h hrb3 hnb);have D2:=zA d2b;have Hl:Hid ((bkT ls k).length=m):=by show _=_;rw [XR,hn];exact hm
 have Ha:Hid ((bkT at_ k).length=m):=by show _=_;rw [XR,hat,hn];exact hm
 have hm0:0<m:=by omega
 have hm16:m<=16:=by omega
 have Hr:=zA hrb;have Hu:=zA (fun(x:Nat) (hx:x∈bkT at_ k)=>hu x (fE hx));have hk0:(k:Int)<n1:=by omega
 have hk2:(0:Int)<=k:=by omega
 clear h hd ht hat hu hk hn hr hb Hx he h3 hrb3 hnb hrb d2b hm hbl;go_enter func102,ntmps102
 go_wp2_with (first
  |(go_at_call 73;refine HN2.out.mono ?_;rintro e w1 ⟨p,rfl,HS1⟩;have d2c:=D2.out _ HS1.tail)
  |(go_at_call 186;refine(HSz.out _ d2c).mono ?_;rintro e w4 ⟨rfl,rfl⟩)
  |(go_at_call 185;refine(lA (pre:= []) (post:= []) hm0 hm16 Hl.out Ha.out Hr.out Hu.out (by simpa [rsAt]using HS1)).mono ?_;rintro e w5 ⟨g,g2,rfl,HS5⟩)
  |fail)
 go_ret2;exact⟨g,g2,m,rfl,rfl,HS5.d2⟩
theorem pP {o k j n:Nat} (hk:o / 16=k) (hj:o%16=j) (ho:o<n) (hn:n<=1048576):
 (o:Int)<n/\(0:Int)<=o/\(o:Int) / 16=(k:Int)/\(o:Int).tdiv 16=(k:Int)/\(o:Int)%16=(j:Int)/\(o:Int).tmod 16=(j:Int)/\wrap64 (k:Int)=k/\wrap64 (j:Int)=j/\(0:Int)<=j/\j<min 16 (n - 16*k)/\j<16/\16*k+j=o:=by
 have h1:(o:Int).tdiv 16=(o:Int) / 16:=Int.tdiv_eq_ediv_of_nonneg (by omega);have h2:(o:Int).tmod 16=(o:Int)%16:=Int.tmod_eq_emod_of_nonneg (by omega);rw [h1,h2];unfold wrap64;refine⟨?_,?_,?_,?_,?_,?_,?_,?_,?_,?_,?_,?_⟩<;>omega
theorem pH (h:Sp w L) (hm:DicA D ls at_∈L):w.cell? ⟨D,2,none⟩=some (.int .i64 (ls.length:Int)):=by
 obtain⟨_,_,_,_,_,_,_,_,q,_,_⟩:=YQ (h.dat hm);exact q
theorem L3 {o x:Nat} (h:Sp w (DicA D ls at_::L)) (ht:xQ ls=true) (hat:at_.length=ls.length) (hu:∀x∈at_,x<18446744073709551616) (ho:at_[o]? =some x):
 Calls prog 148 #[.pointer (some ⟨D,0,none⟩),.int .i64 (o:Int)] w fun e w' =>e= .returned (.int .u64 (x:Int))/\Sp w' (DicA D ls at_::L):=by
 have hol:=zN ho;obtain⟨n,hn⟩:=eX (ls.length);have hd:=pH h M0;obtain⟨k,hk⟩:=eX (o / 16);obtain⟨j,hj⟩:=eX (o%16);have Hlen:=zA (WZ hd);have Hb:=zA (Up (k:=k) h (fun _ h=>h.dat M0) ht hat hu (by rw [<-hat];have:=hol;rw [<-hk];omega));rw [hn]at Hlen Hb;have hn1:n<=1048576:=by unfold xQ at ht;simp only [zM,decide_eq_true_eq]at ht;rw [<-hn];exact ht.1
 have hon0:o<n:=by rw [<-hn,<-hat];exact hol
 obtain⟨hon,ho0,hkd,hkt,hjd,hjt,hkw,hjw,hj0,hjm,hj16,hjo⟩:=pP hk hj hon0 hn1
 have Hx:Hid ((bkT at_ k)[j]? =some x):=by
  show _=_;rw [Ur hj16,hjo];exact ho
 clear h ht hat hu ho hol hn hd hk hj;go_enter func148,ntmps148
 go_wp2_with (first
  |(go_at_call 19;refine Hlen.out.mono ?_;rintro e w1 ⟨rfl,rfl⟩)
  |(go_at_call 102;refine Hb.out.mono ?_;rintro e w5 ⟨g,g2,m,rfl,hm,HS5⟩;have hc:=HS5.rowCell M1 (WB Hx.out);have hjm2:(j:Int)<m:=(by omega);clear hm)
  |fail)
 go_ret
 exact⟨rfl,HS5.tail.tail⟩
end
theorem LT {B:aA} {m c:Nat} {items:List xw} {w:O} (hi:zL w (·<w.heap.size) B m c items):
 Calls prog 7 #[.slice B m c] w fun e w' =>∃b,e= .returned (.bool b)/\xG w w' :=by
 have Hi:=zA hi;have hcap:=hi.cap;clear hi;go_enter func7,ntmps7;go_wp2
 go_loopg [3,4] m (fun gk v3 v4 wr=>∃(z:Int) (i:Nat),v3= .int .i64 z/\v4= .int .i64 i/\i<=m/\gk=m - i/\xG w wr)
 case atStart=>exact⟨0,0,rfl,rfl,zJ _,rfl,xG.refl w⟩
 case round=>
  obtain⟨z,i,rfl,rfl,him,rfl,hd⟩:=hrel
  by_cases hin:i<m/\i<40
  ·obtain⟨hin,h40⟩:=hin;have h40' :(i:Int)<40:=(by omega);obtain⟨b,off,x,rfl, -,hb,he⟩:=Hi.out.at_ hin
   obtain⟨Ae,ne,ce, -,E1,hes, -⟩:=xw.at_ he
   have Hes:=zA hes;have hcape:=hes.cap;clear he hes;obtain⟨q,rfl⟩:=hd;go_wp2
   go_loopg [3,5] ne (fun gk v3 v5 wr=>∃(z:Int) (k:Nat),v3= .int .i64 z/\v5= .int .i64 k/\k<=ne/\gk=ne - k/\xG w wr)
   case atStart=>exact⟨z,0,rfl,rfl,zJ _,rfl,⟨_,rfl⟩⟩
   case round=>
    obtain⟨y,k,rfl,rfl,hk,rfl,q2,rfl⟩:=hrel
    by_cases hkn:k<ne
    ·obtain⟨b2,off2,t,rfl, -,hb2,he2⟩:=Hes.out.at_ hkn
     obtain⟨A3,n3,c3, -,T1,T2, -⟩:=Entry.at_ he2
     have hkn' :(k:Int)<ne:=(by omega);have hin' :(i:Int)<m:=(by omega);clear he2;go_upto_region 8 with fail
     go_quiet (fail)
     go_wp2
     go_roundg (ne - (k+1))
     ·exact⟨_,k+1,rfl,by go_num,by omega,rfl,⟨_,rfl⟩⟩
     ·omega
    ·obtain rfl:k=ne:=by omega
     go_wp2
     go_roundg (m - (i+1))
     ·exact⟨y,i+1,rfl,by go_num,by omega,rfl,⟨_,rfl⟩⟩
     ·omega
  ·have hg:i=m\/(i<m/\¬i<40):=(by omega);clear hin;rcases hg with rfl|⟨h1,h2⟩
   ·by_cases h30:i<=30
    ·have h30' :(i:Int)<=30:=(by omega);go_wp2;go_ret
     first|exact⟨_,rfl,hd⟩|exact⟨.inl rfl,hd⟩
    ·have h30' :¬(i:Int)<=30:=(by omega);go_wp2;go_ret
     first|exact⟨_,rfl,hd⟩|exact⟨.inl rfl,hd⟩
   ·have h2' :¬(i:Int)<40:=(by omega);have h30' :¬(m:Int)<=30:=(by omega);go_wp2;go_ret
    first|exact⟨_,rfl,hd⟩|exact⟨.inl rfl,hd⟩
theorem i7 {L:List Asn} {w:O} (g:Nat) (cb:aG) (n:Nat) (p:Nat->Bool) (eg:∀args w,(callFunc g args).run prog w= .ok (.enter g args) w) (hn:n<=1000000000) (HS:Sp w L)
 (hf:∀(W:O) (i:Nat),Sp W L->i<n->Calls prog g (#[.int .i64 (i:Int)]++cb) W fun e w' =>e= .returned (.bool (p i))/\Sp w' L) (hm:∀a b,a<=b->b<n->p a=true->p b=true):
 Calls prog 100 #[.int .i64 (n:Int),.func (.func g) #[] cb] w fun e w' =>∃k:Nat,e= .returned (.int .i64 (k:Int))/\k<=n/\(∀i,i<n->(i<k↔p i=false))/\Sp w' L:=by
 have HF:=zA hf;have HM:=zA hm;clear hf hm;go_enter func100,ntmps100;go_wp2
 go_loopg [5,6] n (fun gk v5 v6 wr=>∃(i j:Nat),v5= .int .i64 i/\v6= .int .i64 j/\i<=j/\j<=n/\gk=j - i/\Sp wr L/\Hid ((∀t,t<i->p t=false)/\∀t,j<=t->t<n->p t=true))
 case atStart=>exact⟨0,n,rfl,rfl,zJ _,zC _,rfl,HS,⟨fun t h=>by omega,fun t h1 h2=>by omega⟩⟩
 case round=>
  obtain⟨i,j,rfl,rfl,hij,hj,rfl,HS1,HQ⟩:=hrel;clear HS
  by_cases hlt:i<j
  ·obtain⟨s,hs⟩:=eX (i+j);obtain⟨h,hh⟩:=eX (s / 2);have h1:IntKind.i64.wrap (s:Int)=(s:Int):=(by rw [zT];omega);have h2:((i:Int)+(j:Int))=(s:Int):=(by omega);have h3:IntKind.u64.wrap (s:Int)=(s:Int):=(by rw [zW];omega);have h4:(s:Int) / 2^1=(h:Int):=(by omega);have h4b:(s:Int) / 2=(h:Int):=(by omega);have h5:IntKind.i64.wrap (h:Int)=(h:Int):=(by rw [zT];omega)
   have h6:IntKind.u64.wrap (h:Int)=(h:Int):=(by rw [zW];omega);have hhn:h<n:=(by omega);have hjh:h<j:=(by omega);have hih:i<=h:=(by omega);have hc:=HF.out wr h HS1 hhn;cases hp:p h
   ·rw [hp]at hc;have HC:=zA hc
    have HQ2:Hid ((∀t,t<h+1->p t=false)/\∀t,j<=t->t<n->p t=true):=⟨fun t ht=>by
     cases hpt:p t
     ·rfl
     ·rw [HM.out t h (by omega) hhn hpt]at hp;exact absurd hp (by simp),HQ.out.2⟩
    clear hc hp HQ;go_wp2_with (go_at_fn g;refine HC.out.mono ?_;rintro e w1 ⟨rfl,HS2⟩)
    go_roundg (j - (h+1))
    ·exact⟨h+1,j,by go_num,rfl,by omega,hj,rfl,HS2,HQ2⟩
    ·omega
   ·rw [hp]at hc;have HC:=zA hc;have HQ2:Hid ((∀t,t<i->p t=false)/\∀t,h<=t->t<n->p t=true):=⟨HQ.out.1,fun t h1 h2=>HM.out h t h1 h2 hp⟩;clear hc hp HQ;go_wp2_with (go_at_fn g;refine HC.out.mono ?_;rintro e w1 ⟨rfl,HS2⟩)
    go_roundg (h - i)
    ·exact⟨i,h,rfl,rfl,hih,by omega,rfl,HS2,HQ2⟩
    ·omega
  ·obtain rfl:i=j:=by omega
   go_wp2;go_ret
   exact⟨i,rfl,hj,fun t ht=>⟨fun h=>HQ.out.1 t h,fun h=>by
    rcases zk t i with h2|h2
    ·exact h2
    ·rw [HQ.out.2 t h2 ht]at h;exact absurd h (by simp)⟩,HS1⟩
theorem mS:∀{l:List aB} {p:Option aB},xj p l=true->(l.map zn).Pairwise (·<·)/\∀q,p=some q->∀x∈l,zn q<zn x
 | [],_,_=>⟨List.Pairwise.nil,fun _ _ _ h=>absurd h (by simp)⟩
 |s::l,p,h=>by
  unfold xj at h;simp only [zM]at h;obtain⟨h1,h2⟩:=mS h.2;refine⟨?_,fun q hq x hx=> ?_⟩
  ·rw [yH,List.pairwise_cons];refine⟨fun y hy=> ?_,h1⟩;obtain⟨x,hx,rfl⟩:=List.mem_map.1 hy;exact h2 s rfl x hx
  ·subst hq
   have h3:zn q<zn s:=by
    have h4:=h.1.2;simp only [Vw,decide_eq_true_eq]at h4;exact h4
   rcases yx.1 hx with rfl|hx
   ·exact h3
   ·exact List.lt_trans h3 (h2 s rfl x hx)
theorem dJ {ls:List aB} (h:xQ ls=true):(ls.map zn).Pairwise (·<·):=by
 unfold xQ at h;simp only [zM]at h;exact(mS h.2).1
theorem aZ {ls:List aB} (h:(ls.map zn).Pairwise (·<·)) {i j:Nat} {x y:aB} (hij:i<j) (hx:ls[i]? =some x) (hy:ls[j]? =some y):zn x<zn y:=by
 have q1:=zN hx;have q2:=zN hy;have g:=List.pairwise_iff_getElem.1 h i j (by simpa using q1) (by simpa using q2) hij;have e1:ls[i]=x:=by rw [zB q1]at hx;exact yG hx
 have e2:ls[j]=y:=by rw [zB q2]at hy;exact yG hy
 simpa [e1,e2]using g
theorem o8 (a b:aB):(decide (zn a<zn b)=true/\decide (zn b<zn a)=false/\(a.toList==b.toList)=false)\/(decide (zn a<zn b)=false/\decide (zn b<zn a)=false/\(a.toList==b.toList)=true)\/(decide (zn a<zn b)=false/\decide (zn b<zn a)=true/\(a.toList==b.toList)=false):=by
 have hne:zn a≠zn b->(a.toList==b.toList)=false:=fun h=>by
  rw [Lib.toList_data,Lib.toList_data];exact beq_eq_false_iff_ne.2 h
 rcases Classical.em (zn a<zn b)with h|h
 ·refine .inl ⟨decide_eq_true h,decide_eq_false fun h2=>ZO _ (List.lt_trans h h2),hne fun e=> ?_⟩;rw [e]at h;exact ZO _ h
 ·rcases Classical.em (zn a=zn b)with e|e
  ·refine .inr (.inl ⟨decide_eq_false h,decide_eq_false ?_,?_⟩)
   ·rw [e];exact ZO _
   ·rw [QT e];simp
  ·refine .inr (.inr ⟨decide_eq_false h,decide_eq_true ?_,hne e⟩);rcases List.le_total (zn a) (zn b)with h3|h3
   ·exact absurd (List.le_antisymm h3 h) e
   ·rcases List.le_iff_lt_or_eq.1 h3 with h4|h4
    ·exact h4
    ·exact absurd h4.symm e
section
variable {L:List Asn} {D:Nat} {s:aB} {ls:List aB} {at_:aE} {w:O}
theorem AA {H G i:Nat} {x:aB} {ta tb:TypeId} (HS:Sp w (BlkA H ta #[.pointer (some ⟨D,0,none⟩)]::BlkA G tb #[.string s]::L)) (hd:aX L D ls at_) (hx:(tFi ls)[i]? =some x):
 Calls prog 101 #[.int .i64 (i:Int),.pointer (some ⟨H,0,none⟩),.pointer (some ⟨G,0,none⟩)] w fun e w' =>e= .returned (.bool (decide (zn s<zn x)))/\Sp w' (BlkA H ta #[.pointer (some ⟨D,0,none⟩)]::BlkA G tb #[.string s]::L):=by
 have q0:=HS.cl M0 0;have q1:=HS.cl M1 0;obtain⟨_,_,_,A2,n2,c2,_,d1,_,_,hf⟩:=YQ (hd _ HS.tail.tail);have hi:i<n2:=by have:=zN hx;have:=hf.length;omega
 have hcap:=hf.cap;obtain⟨b,off,y,rfl,Hy,hb,he⟩:=hf.at_ hi
 obtain rfl:y=x:=yG (Hy.out.symm.trans hx);have hc0:w.cell? ⟨b,off+i,none⟩=some (.string y):=he.str.1;have Hd:=zA HS;have hl1:=Vw y s;have htri:=o8 y s;clear HS hf he hx Hy hb hd;rcases htri with⟨h1,h2,h3⟩|⟨h1,h2,h3⟩|⟨h1,h2,h3⟩
 ·rw [h2];rw [h1]at hl1;go_enter func101,ntmps101;go_wp2_with fail
  go_quiet (fail)
  go_wp2;go_ret
  exact⟨rfl,Hd.out.drewN _⟩
 ·rw [h2];rw [h1]at hl1;go_enter func101,ntmps101;go_wp2_with fail
  go_quiet (fail)
  go_wp2;go_ret
  exact⟨rfl,Hd.out.drewN _⟩
 ·rw [h2];rw [h1]at hl1;go_enter func101,ntmps101;go_wp2_with fail
  go_quiet (fail)
  go_wp2;go_ret
  exact⟨rfl,Hd.out.drewN _⟩
theorem uB {H G i g n c:Nat} {x:aB} {bk:List aB} {ta tb:TypeId} (HS:Sp w (BlkA H ta #[.slice (some ⟨g,0,none⟩) n c]::BlkA G tb #[.string s]::SA (some ⟨g,0,none⟩) n c bk::L)) (hx:bk[i]? =some x):
 Calls prog 187 #[.int .i64 (i:Int),.pointer (some ⟨H,0,none⟩),.pointer (some ⟨G,0,none⟩)] w fun e w' =>e= .returned (.bool (!decide (zn x<zn s)))/\Sp w' (BlkA H ta #[.slice (some ⟨g,0,none⟩) n c]::BlkA G tb #[.string s]::SA (some ⟨g,0,none⟩) n c bk::L):=by
 have q0:=HS.cl M0 0;have q1:=HS.cl M1 0;have q2:=HS.rowCell M2 (bU hx);have hin:i<n:=by have:=zN hx;have:=(HS.rowOf M2).1;simp [sC]at this;omega
 have Hd:=zA HS;have hl1:=Vw x s;clear HS hx;cases hb:decide (zn x<zn s)with
 |_=>
  rw [hb]at hl1;go_enter func187,ntmps187;go_wp2_with fail
  go_quiet (fail)
  go_wp2;go_ret
  exact⟨rfl,Hd.out.drewN _⟩
theorem uA {g n c:Nat} {bk:List aB} (HS:Sp w (SA (some ⟨g,0,none⟩) n c bk::L)) (hl:bk.length=n) (hn:n<=1000000000) (hp:(bk.map zn).Pairwise (·<·)):
 Calls prog 103 #[.slice (some ⟨g,0,none⟩) n c,.string s] w fun e w' =>∃k:Nat,e= .returned (.int .i64 (k:Int))/\Z0 bk s k/\Sp w' (SA (some ⟨g,0,none⟩) n c bk::L):=by
 obtain⟨H,hH⟩:=eX (w.heap.size);have HS1:=(HS.blkH 129 #[.slice (some ⟨g,0,none⟩) n c] hH).blkH 9 #[.string s] (H:=H+1) (by simp [hH]);obtain⟨w2,hw2⟩:=eX ((w.alloc (.cells #[.slice (some ⟨g,0,none⟩) n c] 129)).alloc (.cells #[.string s] 9));rw [hw2]at HS1;have HS2:=HS1.p1;have hmf:=@mF prog
 have HSr:=zA (i7 (w:=w2) (L:=BlkA H 129 #[.slice (some ⟨g,0,none⟩) n c]::BlkA (H+1) 9 #[.string s]::SA (some ⟨g,0,none⟩) n c bk::L) 187 #[.pointer (some ⟨H,0,none⟩),.pointer (some ⟨H+1,0,none⟩)] n (fun i=> !decide (zn (bk.getD i ⟨#[]⟩)<zn s))
  (enters_of func187 (by kernel_rfl) rfl) hn HS2
  (fun W i h hi=>by
   have hx:bk[i]? =some (bk.getD i ⟨#[]⟩):=(by rw [zm,zB (by omega)];rfl);exact uB h hx)
  (fun a b hab hb h=>by
   have hxa:bk[a]? =some (bk.getD a ⟨#[]⟩):=(by rw [zm,zB (by omega)];rfl);have hxb:bk[b]? =some (bk.getD b ⟨#[]⟩):=(by rw [zm,zB (by omega)];rfl);simp only [Bool.not_eq_true',decide_eq_false_iff_not]at h⊢;intro h2;rcases zk a b with h3|h3
   ·exact h (List.lt_trans (aZ hp h3 hxa hxb) h2)
   ·obtain rfl:a=b:=by omega
    exact h h2))
 have Hl:=zA hl;have q0:=HS2.cl M0 0;clear HS HS1 HS2 hl hp;go_enter func103,ntmps103;go_upto_region 1 with fail;clear hH;go_wp2_with fail;refine HSr.out.mono ?_;rintro e w3 ⟨k,rfl,hk,hb,HS3⟩;have Hb:=zA hb;clear hb HSr;go_wp2;go_ret
 refine⟨k,rfl,⟨by rw [Hl.out];exact hk,fun i x hx=> ?_⟩,HS3.tail.tail⟩;have hi:i<n:=by have:=zN hx;have:=Hl.out;omega
 have h:=Hb.out i hi;rw [h,zm,hx];simp
theorem O6 {a b c:aB} (h:zn a<zn b) (h2:¬zn c<zn b):zn a<zn c:=by
 rcases o8 c b with⟨h3, -, -⟩|⟨-, -,h3⟩|⟨-,h3, -⟩
 ·exact absurd (of_decide_eq_true h3) h2
 ·have e:zn c=zn b:=by
   rw [Lib.toList_data,Lib.toList_data]at h3;exact eq_of_beq h3
  rw [e];exact h
 ·exact List.lt_trans h (of_decide_eq_true h3)
theorem OX {a b:aB} (h:zn a<zn b):¬zn b<zn a:=fun h2=>ZO _ (List.lt_trans h h2)
theorem QL {k:Nat} (h:16*k<ls.length):∃y,ls[16*k]? =some y/\(tFi ls)[k]? =some y/\(tFi ls).getD k ⟨#[]⟩=y:=by
 obtain⟨y,hy⟩:∃y,ls[16*k]? =some y:=⟨_,zB h⟩;have h2:=pV hy;exact⟨y,hy,h2,by rw [zm,h2];rfl⟩
theorem tW (hp:(ls.map zn).Pairwise (·<·)) (h:0<nB ls.length->zn s<zn ((tFi ls).getD 0 ⟨#[]⟩)):Z0 ls s 0:=by
 refine⟨zJ _,fun q x hx=>⟨fun h=>by omega,fun h2=> ?_⟩⟩;have hq:=zN hx;obtain⟨y,h3, -,h4⟩:=QL (ls:=ls) (k:=0) (by omega);have h5:=h (by unfold nB;omega);rw [h4]at h5;rcases zi q with rfl|h6
 ·cases h3.symm.trans hx;exact absurd h2 (OX h5)
 ·exact absurd (List.lt_trans h5 (aZ hp h6 h3 hx)) (OX h2)
theorem C5 {i j:Nat} (hp:(ls.map zn).Pairwise (·<·)) (hi:16*i<ls.length) (h:∀k,k<nB ls.length->(k<i+1↔decide (zn s<zn ((tFi ls).getD k ⟨#[]⟩))=false)) (hj:Z0 (bkT ls i) s j):Z0 ls s (16*i+j):=by
 obtain⟨y,h3, -,h4⟩:=QL hi;have h5:=of_decide_eq_false ((h i (by unfold nB;omega)).1 (by omega));rw [h4]at h5;have h6:=hj.1;rw [XR]at h6;refine⟨by omega,fun q x hx=> ?_⟩;have hq:=zN hx;rcases zk q (16*i)with h7|h7
 ·exact⟨fun _=>O6 (aZ hp h7 hx h3) h5,fun _=>by omega⟩
 ·obtain⟨r,rfl⟩:=Nat.exists_eq_add_of_le h7;rcases zk r 16 with h8|h8
  ·have h9:=hj.2 r x (by rw [Ur h8];exact hx);rw [<-h9];omega
  ·refine⟨fun h=>by omega,fun h9=> ?_⟩;obtain⟨z,g3, -,g4⟩:=QL (ls:=ls) (k:=i+1) (by omega)
   have g5:zn s<zn z:=by
    rw [<-g4];cases g6:decide (zn s<zn ((tFi ls).getD (i+1) ⟨#[]⟩))with
    |true=>exact of_decide_eq_true g6
    |false=>exact absurd ((h (i+1) (by unfold nB;omega)).2 g6) (by omega)
   rcases zk (16*(i+1)) (16*i+r)with g7|g7
   ·exact absurd (List.lt_trans g5 (aZ hp g7 g3 hx)) (OX h9)
   ·have e:16*i+r=16*(i+1):=(by omega);rw [e]at hx;cases g3.symm.trans hx;exact absurd h9 (OX g5)
theorem AW (h:Sp w L) (hd:aX L D ls at_) (ht:xQ ls=true) (hat:at_.length=ls.length) (hu:∀x∈at_,x<18446744073709551616):
 Calls prog 49 #[.pointer (some ⟨D,0,none⟩),.string s] w fun e w' =>∃k:Nat,e= .returned (.int .i64 (k:Int))/\Z0 ls s k/\Sp w' L:=by
 have hp:=dJ ht;obtain⟨H,hH⟩:=eX (w.heap.size);have HS1:=(h.blkH 44 #[.pointer (some ⟨D,0,none⟩)] hH).blkH 9 #[.string s] (H:=H+1) (by simp [hH]);obtain⟨w2,hw2⟩:=eX ((w.alloc (.cells #[.pointer (some ⟨D,0,none⟩)] 44)).alloc (.cells #[.string s] 9));rw [hw2]at HS1;have HS2:=HS1.p1;obtain⟨M,hM⟩:=eX (BlkA H 44 #[.pointer (some ⟨D,0,none⟩)]::BlkA (H+1) 9 #[.string s]::L)
 have hd1:aX M D ls at_:=by subst hM;exact fun w' h=>hd _ h.tail.tail
 have hMt:∀w',Sp w' M->Sp w' L/\w'.cell? ⟨H,0,none⟩=some (.pointer (some ⟨D,0,none⟩))/\w'.cell? ⟨H+1,0,none⟩=some (.string s):=by subst hM;exact fun w' h=>⟨h.tail.tail,h.cell M0 0,h.cell M1 0⟩
 obtain⟨n,hn⟩:=eX (ls.length);obtain⟨_,_,_,A2,n2,c2, -,d1,d2, -,hf⟩:=YQ (hd _ HS2.tail.tail);rw [hn]at d2;have hn1:n<=1048576:=by unfold xQ at ht;simp only [zM,decide_eq_true_eq]at ht;rw [<-hn];exact ht.1
 have hn2:n2=nB n:=by rw [<-hf.length];unfold tFi;simp [hn]
 have Hlen:=zA (WZ d2)
 have HSr:=zA (i7 (w:=w2) (L:=M) 101 #[.pointer (some ⟨H,0,none⟩),.pointer (some ⟨H+1,0,none⟩)] n2 (fun i=>decide (zn s<zn ((tFi ls).getD i ⟨#[]⟩)))
  (enters_of func101 (by kernel_rfl) rfl) (by unfold nB at hn2;omega) (by subst hM;exact HS2)
  (fun W i h hi=>by
   obtain⟨y, -,h2,h3⟩:=QL (ls:=ls) (k:=i) (by rw [hn];unfold nB at hn2;omega);show Calls _ _ _ _ fun e w' =>e= .returned (.bool (decide (zn s<zn ((tFi ls).getD i ⟨#[]⟩))))/\_;rw [h3];subst hM;exact AA h hd h2)
  (fun a b hab hb h=>by
   obtain⟨x,h1, -,h3⟩:=QL (ls:=ls) (k:=a) (by rw [hn];unfold nB at hn2;omega);obtain⟨y,h4, -,h6⟩:=QL (ls:=ls) (k:=b) (by rw [hn];unfold nB at hn2;omega);rw [h3,decide_eq_true_eq]at h;rw [h6,decide_eq_true_eq];rcases zk a b with h7|h7
   ·exact List.lt_trans h (aZ hp (by omega) h1 h4)
   ·obtain rfl:a=b:=by omega
    cases h1.symm.trans h4;exact h))
 have hmf:=@mF prog;have q0:=HS2.cl M0 0;have HSm:Hid (Sp w2 M):=by subst hM;exact HS2
 have Hp:=zA hp;have Hd1:=zA hd1;have HMt:=zA hMt;have Ht:=zA ht;have Hat:=zA hat;have Hu:=zA hu;have Hn:=zA hn;have Hn2:=zA hn2;clear hn2 h HS1 HS2 hd hd1 hMt hp ht hat hu hf hM;go_enter func49,ntmps49;go_upto_region 1 with fail;clear hH
 by_cases h0:n=0
 ·have h0i:(n:Int)=0:=(by omega)
  have HSt:Hid (Z0 ls s 0):=by
   show Z0 ls s 0;have:ls= []:=zS (by rw [Hn.out];exact h0);subst this;exact⟨zC _,fun i x hx=>by simp at hx⟩
  clear hn hw2;go_wp2_with (go_at_call 19;refine Hlen.out.mono ?_;rintro e w1 ⟨rfl,rfl⟩);go_ret
  exact⟨0,rfl,HSt.out,(HMt.out _ HSm.out).1⟩
 ·have h0i:¬(n:Int)=0:=(by omega);clear h0 hn hw2;go_upto_region 3 with(go_at_call 19;refine Hlen.out.mono ?_;rintro e w1 ⟨rfl,rfl⟩);go_wp2_with fail;refine HSr.out.mono ?_;rintro e w3 ⟨k1,rfl,hk1,hb,HS3⟩;have Hb:=zA hb;have q0:w3.cell? ⟨H,0,none⟩=some (.pointer (some ⟨D,0,none⟩)):=(HMt.out _ HS3).2.1;clear hb HSr;rcases zi k1 with rfl|hk
  ·have HSt:Hid (Z0 ls s 0):=tW Hp.out fun h=>by
    rw [Hn.out,<-Hn2.out]at h;cases g6:decide (zn s<zn ((tFi ls).getD 0 ⟨#[]⟩))with
    |true=>exact of_decide_eq_true g6
    |false=>exact absurd ((Hb.out 0 h).2 g6) (by omega)
   clear hk1 hn1;go_wp2;go_ret
   exact⟨0,rfl,HSt.out,(HMt.out _ HS3).1⟩
  ·obtain⟨i,hi⟩:∃i,k1=i+1:=⟨k1 - 1,by omega⟩;have hi16:16*i<n:=(by have hn2:=Hn2.out;unfold nB at hn2;omega);have a1:(k1:Int) - 1=(i:Int):=(by omega);have a2:IntKind.i64.wrap (i:Int)=(i:Int):=(by rw [zT];omega);have a3:¬(i:Int)<0:=(by omega);obtain⟨z,hz⟩:=eX (16*i);have a4:(i:Int)*16=(z:Int):=(by omega);have a5:IntKind.i64.wrap (z:Int)=(z:Int):=(by rw [zT];omega);have Hz:=zA hz;have Hi:=zA hi
   have Hi16:=zA hi16;have hzb:z<1048576:=(by omega);have HB:=zA (Up (k:=i) HS3 Hd1.out Ht.out Hat.out Hu.out (by rw [Hn.out];exact hi16));clear hz hi hk hk1 hn1 hi16;go_upto_region 7 with(go_at_call 102;refine HB.out.mono ?_;rintro e w4 ⟨g,g2,m,rfl,hm,HS4⟩;have Hm:=zA hm;clear hm);have q1:w4.cell? ⟨H+1,0,none⟩=some (.string s):=(HMt.out _ HS4.tail.tail).2.2
   have hm16:m<=16:=(by have:=Hm.out;omega);have HSS:=zA (uA (s:=s) HS4 (by rw [XR];exact Hm.out.symm) (by omega) (Hp.out.sublist (((List.take_sublist _ _).trans (List.drop_sublist _ _)).map _)));clear HB q0;go_wp2_with fail;refine HSS.out.mono ?_;rintro e w5 ⟨j,rfl,hst,HS5⟩;have hj:j<=16:=(by have:=hst.1;rw [XR]at this;omega);obtain⟨r,hr⟩:=eX (z+j);have a6:(z:Int)+(j:Int)=(r:Int):=(by omega)
   have a7:IntKind.i64.wrap (r:Int)=(r:Int):=(by rw [zT];omega)
   have Hst:Hid (Z0 ls s r):=by
    have h:=C5 Hp.out (i:=i) (by rw [Hn.out];exact Hi16.out) (fun k hk=>by
     rw [Hn.out,<-Hn2.out]at hk;have:=Hb.out k hk
     rwa [Hi.out]at this) hst
    rw [Hz.out,hr]at h;exact h
   clear hst hr hj HSS;go_wp2;go_ret
   exact⟨r,rfl,Hst.out,(HMt.out _ HS5.tail.tail).1⟩
theorem GX {o:Nat} {x:aB} (h:Sp w L) (hd:aX L D ls at_) (ht:xQ ls=true) (hat:at_.length=ls.length) (hu:∀x∈at_,x<18446744073709551616) (ho:ls[o]? =some x):
 Calls prog 50 #[.pointer (some ⟨D,0,none⟩),.int .i64 (o:Int)] w fun e w' =>e= .returned (.string x)/\Sp w' L:=by
 have hol:=zN ho;obtain⟨n,hn⟩:=eX (ls.length);obtain⟨_,_,_,_,_,_,_,_,d2,_,_⟩:=YQ (hd _ h);obtain⟨k,hk⟩:=eX (o / 16);obtain⟨j,hj⟩:=eX (o%16);have Hlen:=zA (WZ d2);have Hb:=zA (Up (k:=k) h hd ht hat hu (by have:=hol;rw [<-hk];omega));rw [hn]at Hlen Hb;have hn1:n<=1048576:=by unfold xQ at ht;simp only [zM,decide_eq_true_eq]at ht;rw [<-hn];exact ht.1
 have hon0:o<n:=by rw [<-hn];exact hol
 obtain⟨hon,ho0,hkd,hkt,hjd,hjt,hkw,hjw,hj0,hjm,hj16,hjo⟩:=pP hk hj hon0 hn1
 have Hx:Hid ((bkT ls k)[j]? =some x):=by
  show _=_;rw [Ur hj16,hjo];exact ho
 clear h hd ht hat hu ho hol hn d2 hk hj;go_enter func50,ntmps50
 go_wp2_with (first
  |(go_at_call 19;refine Hlen.out.mono ?_;rintro e w1 ⟨rfl,rfl⟩)
  |(go_at_call 102;refine Hb.out.mono ?_;rintro e w5 ⟨g,g2,m,rfl,hm,HS5⟩;have hc:=HS5.rowCell M0 (bU Hx.out);have hjm2:(j:Int)<m:=(by omega);clear hm)
  |fail)
 go_ret
 exact⟨rfl,HS5.tail.tail⟩
theorem JV (h:Sp w L) (hd:aX L D ls at_) (ht:xQ ls=true) (hat:at_.length=ls.length) (hu:∀x∈at_,x<18446744073709551616):
 Calls prog 12 #[.pointer (some ⟨D,0,none⟩),.string s] w fun e w' =>∃(k:Nat) (b:Bool),e= .returned (.tuple #[.int .i64 (k:Int),.bool b])/\(b=true->ls[k]? =some s)/\(b=false->k=0/\s ∉ ls)/\Sp w' L:=by
 have HL:=zA (AW (s:=s) h hd ht hat hu);obtain⟨n,hn⟩:=eX (ls.length)
 have HD:=zA (fun(W:O) (hW:Sp W L)=>by
  obtain⟨_,_,_,_,_,_,_,_,d2,_,_⟩:=YQ (hd _ hW);rw [hn]at d2;exact WZ d2)
 have HT:=zA (fun(W:O) (hW:Sp W L) (o:Nat) (x:aB) (ho:ls[o]? =some x)=>GX hW hd ht hat hu ho);have Hp:=zA (dJ ht);have Hn:=zA hn;clear h hd ht hat hu hn;go_enter func12,ntmps12;go_wp2_with fail;refine HL.out.mono ?_;rintro e w1 ⟨k,rfl,hst,HS1⟩;have Hst:=zA hst;have HD1:=zA (HD.out w1 HS1);clear hst HL
 by_cases hk:k<n
 ·have hk1:¬n<=k:=(by omega);have hk2:¬(n:Int)<=(k:Int):=(by omega);obtain⟨x,hx⟩:∃x,ls[k]? =some x:=⟨_,zB (by rw [Hn.out];exact hk)⟩;have HT1:=zA (HT.out w1 HS1 k x hx);have Hx:=zA hx;clear hx hk
  by_cases hxs:x=s
  ·have b1:(x.toList==s.toList)=true:=(by rw [hxs];simp);have b2:(x.toList !=s.toList)=false:=(by rw [hxs];simp);have Hxs:=zA hxs;clear hxs
   go_wp2_with (first
    |(go_at_call 19;refine HD1.out.mono ?_;rintro e w2 ⟨rfl,rfl⟩)
    |(go_at_call 50;refine HT1.out.mono ?_;rintro e w3 ⟨rfl,HS3⟩)
    |fail)
   go_ret2;exact⟨k,true,rfl,fun _=>by rw [<-Hxs.out];exact Hx.out,fun h=>(by cases h),HS3⟩
  ·have b1:(x.toList==s.toList)=false:=by
    rw [Lib.toList_data,Lib.toList_data];exact beq_eq_false_iff_ne.2 fun h=>hxs (QT h)
   have b2:(x.toList !=s.toList)=true:=(by simp [bne,b1]);have Hxs:=zA hxs;clear hxs
   go_wp2_with (first
    |(go_at_call 19;refine HD1.out.mono ?_;rintro e w2 ⟨rfl,rfl⟩)
    |(go_at_call 50;refine HT1.out.mono ?_;rintro e w3 ⟨rfl,HS3⟩)
    |fail)
   go_ret2;exact⟨0,false,rfl,fun h=>(by cases h),fun _=>⟨rfl,fun hm=>Hxs.out (yG (Hx.out.symm.trans (Hst.out.get Hp.out hm)))⟩,HS3⟩
 ·have hk1:n<=k:=(by omega);have hk2:(n:Int)<=(k:Int):=(by omega);clear hk;go_wp2_with (go_at_call 19;refine HD1.out.mono ?_;rintro e w2 ⟨rfl,rfl⟩);go_ret2;exact⟨0,false,rfl,fun h=>(by cases h),fun _=>⟨rfl,fun hm=>by have:=zN (Hst.out.get Hp.out hm);rw [Hn.out]at this;omega⟩,HS1⟩
end
def fsG:List Field:= [⟨⟨#[116]⟩,1, [1,10],0,0,false,false⟩,⟨⟨#[107]⟩,2, [],0,0,false,false⟩]
def O2:List Entry:= [⟨⟨#[116]⟩,⟨#[66,32,97]⟩, []⟩,⟨⟨#[107]⟩,⟨#[120]⟩, []⟩]
def itG:List xw:= [(⟨5⟩,O2)]
theorem Yh {α:Type} [Rep α] {W:O} {F:Nat->Prop} {g k:Nat} {t:TypeId} {cs:aG} {es:aF} {x:α} (h:Blk W g t cs) (hr:rep W F es x) (hc:∀j u,es[j]? =some u->cs[k*Rep.size α+j]? =some u):xp W F g 0 k x:=
 ⟨es,hr,fun j u hu=>by rw [zx,h.cell];exact hc j u hu⟩
theorem Xe {a b c:aF} {j:Nat} {u:V} (h:b[j]? =some u):((a++b++c).toArray)[a.length+j]? =some u:=by
 have hj:=zN h;rw [yF,zO,zR (by omega),z9 (by omega)];rw [<-h];congr 1;omega
theorem EF {W:O} {F:Nat->Prop} {g n:Nat} {t:TypeId} {xs:aD} (h:Blk W g t (xs.map (Value.int .i64)).toArray) (hn:xs.length=n) (hx:∀x∈xs,In64 x) (hF:F g) (hm:n<=9223372036854775807):zL W F (some ⟨g,0,none⟩) n n xs:=
 zL.of_elems hn (zC _) hm hF (fun k x hk=>Yh h (es:= [.int .i64 x]) ⟨rfl,hx x (zD hk)⟩ (fun j u hu=>by
  have hj:j=0:=(by have:=zN hu;simp at this;omega);subst hj;rw [show Rep.size Int=1 from rfl,yF,yr,yt,zH,hk]
  simpa using hu))
theorem ES (w:O):Calls prog 91 #[] w fun e w' =>∃A,e= .returned (.agg #[.slice A 2 2])/\zL w' (·<w'.heap.size) A 2 2 fsG/\Below w.heap.size w w' :=by
 go_enter func91,ntmps91;go_wp2;obtain⟨W0,hW0⟩:=eX ((w.alloc (.cells #[.slice (some ⟨w.heap.size+1+1,0,none⟩) 2 2] 24)).alloc (.cells #[.int .i64 1,.int .i64 10] 3));have hs0:W0.heap.size=w.heap.size+2:=by rw [<-hW0];simp
 have hb0:Below w.heap.size w W0:=by rw [<-hW0];exact((zE _ _).alloc (zC _) _).alloc (by simp) _
 have k0:Blk W0 w.heap.size 24 #[.slice (some ⟨w.heap.size+1+1,0,none⟩) 2 2]:=by rw [<-hW0];exact(Blk.new w _ _).alloc _
 have k1:Blk W0 (w.heap.size+1) 3 #[.int .i64 1,.int .i64 10]:=by
  rw [<-hW0];have:=Blk.new (w.alloc (.cells #[.slice (some ⟨w.heap.size+1+1,0,none⟩) 2 2] 24)) 3 #[.int .i64 1,.int .i64 10]
  simpa using this
 rw [hW0];clear hW0;have k2:=Blk.new W0 61 #[.string ⟨#[116]⟩,.int .i64 1,.slice (some ⟨w.heap.size+1,0,none⟩) 2 2,.int .i64 0,.int .i64 0,.bool false,.bool false,.string ⟨#[107]⟩,.int .i64 2,.slice none 0 0,.int .i64 0,.int .i64 0,.bool false,.bool false]
 have hb1:=hb0.alloc hb0.size (.cells #[.string ⟨#[116]⟩,.int .i64 1,.slice (some ⟨w.heap.size+1,0,none⟩) 2 2,.int .i64 0,.int .i64 0,.bool false,.bool false,.string ⟨#[107]⟩,.int .i64 2,.slice none 0 0,.int .i64 0,.int .i64 0,.bool false,.bool false] 61)
 have c0:=(k0.alloc (.cells #[.string ⟨#[116]⟩,.int .i64 1,.slice (some ⟨w.heap.size+1,0,none⟩) 2 2,.int .i64 0,.int .i64 0,.bool false,.bool false,.string ⟨#[107]⟩,.int .i64 2,.slice none 0 0,.int .i64 0,.int .i64 0,.bool false,.bool false] 61))
 have c1:=(k1.alloc (.cells #[.string ⟨#[116]⟩,.int .i64 1,.slice (some ⟨w.heap.size+1,0,none⟩) 2 2,.int .i64 0,.int .i64 0,.bool false,.bool false,.string ⟨#[107]⟩,.int .i64 2,.slice none 0 0,.int .i64 0,.int .i64 0,.bool false,.bool false] 61))
 obtain⟨W,hW⟩:=eX (W0.alloc (.cells #[.string ⟨#[116]⟩,.int .i64 1,.slice (some ⟨w.heap.size+1,0,none⟩) 2 2,.int .i64 0,.int .i64 0,.bool false,.bool false,.string ⟨#[107]⟩,.int .i64 2,.slice none 0 0,.int .i64 0,.int .i64 0,.bool false,.bool false] 61));have hsz:W.heap.size=w.heap.size+3:=by rw [<-hW];simp [hs0]
 rw [hs0]at k2;rw [hW]at k2 hb1 c0 c1⊢;clear hW;have hcell:=c0.cell 0;have hz:w.heap.size<W.heap.size:=by omega
 simp only [yF,zf]at hcell;refine bodyPost_ret (v:= .agg #[.slice (some ⟨w.heap.size+1+1,0,none⟩) 2 2]) (by simp [results,Tryz.results91,go_sem,hcell,hz]) rfl ⟨_,rfl,?_,hb1⟩;refine zL.of_elems rfl (zC _) (by omega) (by omega) (fun k x hk=> ?_);have hk2:k=0\/k=1:=by have:=zN hk;simp [fsG]at this;omega
 rcases hk2 with rfl|rfl
 ·simp [fsG]at hk;subst hk;exact Yh k2 (Field.of_cells (x:=⟨⟨#[116]⟩,1, [1,10],0,0,false,false⟩) (EF (xs:= [1,10]) c1 rfl (by intro x hx;simp at hx;unfold In64;omega) (by omega) (by decide)) (by unfold In64;decide) (by unfold In64;decide) (by unfold In64;decide) (by decide)) (fun j u hu=>Xe (a:= []) hu)
 ·simp [fsG]at hk;subst hk;exact Yh k2 (Field.of_cells (x:=⟨⟨#[107]⟩,2, [],0,0,false,false⟩) zL.nil (by unfold In64;decide) (by unfold In64;decide) (by unfold In64;decide) (by decide)) (fun j u hu=>Xe (a:= [.string ⟨#[116]⟩,.int .i64 1,.slice (some ⟨w.heap.size+1,0,none⟩) 2 2,.int .i64 0,.int .i64 0,.bool false,.bool false]) (c:= []) hu)
theorem JI {w W:O} (hW:(w.alloc (.cells #[.string ⟨#[116]⟩,.string ⟨#[66,32,97]⟩,.slice none 0 0,.string ⟨#[107]⟩,.string ⟨#[120]⟩,.slice none 0 0] 86)).alloc (.cells #[.int .u64 5,.slice (some ⟨w.heap.size,0,none⟩) 2 2] 40)=W):
 zL W (·<W.heap.size) (some ⟨w.heap.size+1,0,none⟩) 1 1 itG/\Below w.heap.size w W:=by
 have hsz:W.heap.size=w.heap.size+2:=by rw [<-hW];simp
 have hb:Below w.heap.size w W:=by rw [<-hW];exact((zE _ _).alloc (zC _) _).alloc (by simp) _
 have k0:Blk W w.heap.size 86 #[.string ⟨#[116]⟩,.string ⟨#[66,32,97]⟩,.slice none 0 0,.string ⟨#[107]⟩,.string ⟨#[120]⟩,.slice none 0 0]:=by rw [<-hW];exact(Blk.new w _ _).alloc _
 have k1:Blk W (w.heap.size+1) 40 #[.int .u64 5,.slice (some ⟨w.heap.size,0,none⟩) 2 2]:=by
  rw [<-hW];have:=Blk.new (w.alloc (.cells #[.string ⟨#[116]⟩,.string ⟨#[66,32,97]⟩,.slice none 0 0,.string ⟨#[107]⟩,.string ⟨#[120]⟩,.slice none 0 0] 86)) 40 #[.int .u64 5,.slice (some ⟨w.heap.size,0,none⟩) 2 2]
  simpa using this
 clear hW;refine⟨zL.of_elems rfl (zC _) (by omega) (by omega) (fun k x hk=> ?_),hb⟩;have hk2:k=0:=by have:=zN hk;simp [itG]at this;omega
 subst hk2;simp [itG]at hk;subst hk
 have he:zL W (·<W.heap.size) (some ⟨w.heap.size,0,none⟩) 2 2 O2:=by
  refine zL.of_elems rfl (zC _) (by omega) (by omega) (fun k x hk=> ?_);have hk2:k=0\/k=1:=(by have:=zN hk;simp [O2]at this;omega);rcases hk2 with rfl|rfl
  ·simp [O2]at hk;subst hk;exact Yh k0 (Entry.of_cells (x:=⟨⟨#[116]⟩,⟨#[66,32,97]⟩, []⟩) zL.nil (by decide) (by decide)) (fun j u hu=>Xe (a:= []) hu)
  ·simp [O2]at hk;subst hk;exact Yh k0 (Entry.of_cells (x:=⟨⟨#[107]⟩,⟨#[120]⟩, []⟩) zL.nil (by decide) (by decide)) (fun j u hu=>Xe (a:= [.string ⟨#[116]⟩,.string ⟨#[66,32,97]⟩,.slice none 0 0]) (c:= []) hu)
 exact Yh k1 (es:= [.int .u64 5,.slice (some ⟨w.heap.size,0,none⟩) 2 2]) ⟨[.int .u64 5], [.slice (some ⟨w.heap.size,0,none⟩) 2 2],rfl,⟨rfl,by decide⟩,⟨_,_,_,rfl,he⟩⟩ (fun j u hu=>Xe (a:= []) (c:= []) hu)
open Go.RowKit Go.ChangeShapes Go.WideShapes Go.Deep
def Qs (P:Program) (t:TypeId) (α:Type) [Rep α] (Q:α->Prop):Prop:=
 ∀{H:Type} {enc:TypeId×V->H} {w:O} {base:Nat} {spare:Nat->Bool} {held:Bool} {fuel:Nat} {cs:aF} {x:DataW H×List MemPlace},
  DataW.trod enc P w base spare held fuel t cs=some x->Rows.uptoBulk x.1<=1048576->∃v:α,rep w (·<w.heap.size) cs v/\Q v
variable {P:Program}
theorem QR {t:TypeId} (ht:P.underlying t=some (.int .i64)):Qs P t Int (fun _=>True):=by
 intro _ _ _ _ _ _ _ _ _ h _;obtain⟨n,rfl,_,hw⟩:=DataW.trod_int ht h;have:=bounds_i64 hw;exact⟨n,⟨rfl,by unfold In64;omega⟩,trivial⟩
theorem jM {t:TypeId} (ht:P.underlying t=some .bool):Qs P t Bool (fun _=>True):=by
 intro _ _ _ _ _ _ _ _ _ h _;obtain⟨b,rfl,_⟩:=DataW.trod_bool ht h;exact⟨b,rfl,trivial⟩
theorem KG {H:Type} (bytes:aC):Rows.uptoBulk (DataW.lit (H:=H) (.string bytes))=bytes.length+1:=by simp [Rows.uptoBulk]
theorem KH {H:Type} (d:DataW H):1<=Rows.uptoBulk d:=by
 cases d with
 |lit l=>cases l<;>simp [Rows.uptoBulk]
 |nil=>simp [Rows.uptoBulk]
 |ptr d=>simp [Rows.uptoBulk]
 |slice elems spare=>simp [Rows.uptoBulk]
 |agg parts=>simp [Rows.uptoBulk]
 |iface t d=>simp [Rows.uptoBulk]
 |map entries=>simp [Rows.uptoBulk]
 |held h=>simp [Rows.uptoBulk]
theorem Uo {H:Type} {d:DataW H}:∀{l:List (DataW H)},d∈l->Rows.uptoBulk d<=Rows.uptoBulkAll l
 |x::r,h=>by
  simp only [Rows.uptoBulkAll];rcases yx.1 h with rfl|e
  ·omega
  ·have:=Uo e;omega
theorem oC {H:Type}:∀(l:List (DataW H)),l.length<=Rows.uptoBulkAll l
 | []=>by simp [Rows.uptoBulkAll]
 |x::r=>by have:=KH x;have:=oC r;simp only [Rows.uptoBulkAll,z6];omega
theorem U8 {t:TypeId} (ht:P.underlying t=some .string):Qs P t aB (fun s=>s.size<=1048576):=by
 intro _ _ _ _ _ _ _ _ x h hw;obtain⟨s,rfl,hx,hs⟩:=DataW.trod_string ht h;refine⟨s,⟨rfl,hs⟩,?_⟩;rw [hx,KG]at hw;have:s.data.toList.length=s.size:=by simp
 omega
theorem DS {t:TypeId} (ht:P.underlying t=some (.int .u64)):Qs P t U64 (fun _=>True):=by
 intro _ _ _ _ _ _ _ _ _ h _;obtain⟨n,rfl,_,hw⟩:=DataW.trod_int ht h;have hb:0<=n/\n<=18446744073709551615:=by simpa [Lit.wf,IntKind.min,IntKind.max,IntKind.signed,IntKind.bits]using hw
 exact⟨⟨n.toNat⟩,⟨by show [Value.int .u64 n]= [Value.int .u64 ((n.toNat:Nat):Int)];rw [Int.toNat_of_nonneg hb.1],by show n.toNat<_;omega⟩,trivial⟩
theorem X7 {α:Type} [Rep α] {Q:α->Prop} {t e:TypeId} (ht:P.underlying t=some (.slice e)) (hC:P.cellsOf e=Rep.size α) (ho:Qs P e α Q):
 Qs P t (List α) (fun xs=>xs.length<=1048576/\∀x∈xs,Q x):=by
 intro H enc w base spare held fuel cs x h hw;rcases open_slice ht h with⟨rfl,_⟩|⟨a,len,cap,m,n,D,Pl,rfl,hb,hl,hm,hmm,rfl,hi⟩
 ·exact⟨[],⟨none,0,0,rfl,zL.nil⟩,by simp,by simp⟩
 ·have hlm:len<=m:=by rw [hmm];split<;>omega
  have hwb:Rows.uptoBulkAll ((List.range len).map D)<=1048576:=(by simp only [Rows.uptoBulk]at hw;omega)
  have hel:∀i,i<len->∃v:α,∃cs',w.cells? base (a.add (i*P.cellsOf e)) (P.cellsOf e)=some cs' /\rep w (·<w.heap.size) cs' v/\Q v:=by
   intro i hil;obtain⟨cs',hc,ht'⟩:=hi i (by omega);have hmem:=zY (Uo (List.mem_map.2 ⟨i,List.mem_range.2 hil,rfl⟩:D i∈(List.range len).map D)) hwb;obtain⟨v,hv,hq⟩:=ho ht' hmem;exact⟨v,cs',hc,hv,hq⟩
  have hfun:∀i:Fin len,∃v:α,∃cs',w.cells? base (a.add (i.1*P.cellsOf e)) (P.cellsOf e)=some cs' /\rep w (·<w.heap.size) cs' v/\Q v:=fun i=>hel i.1 i.2;refine⟨List.ofFn fun i=>Classical.choose (hfun i),⟨some a,len,cap,rfl,by simp,hl,hm,?_⟩,?_,?_⟩
  ·intro k x hx;have hk:k<len:=(by have:=zN hx;simpa using this);rw [zB (by simpa using hk),List.getElem_ofFn]at hx;cases hx;obtain⟨cs',hc,hv,_⟩:=Classical.choose_spec (hfun ⟨k,hk⟩);obtain⟨_,hcl,hat⟩:=World.cells?_some hc;rw [hC]at hcl hat;have hpos:0<Rep.size α:=Rep.pos;have h0:=hat 0 hpos;obtain⟨u,hu⟩:∃u,cs'[0]? =some u:=⟨_,zB (by omega)⟩;rw [hu]at h0;obtain⟨_,cs0,hc0,_⟩:=hel 0 (by omega)
   obtain⟨_,hcl0,hat0⟩:=World.cells?_some hc0;rw [hC]at hcl0 hat0;have h00:=hat0 0 hpos;obtain⟨u0,hu0⟩:∃u,cs0[0]? =some u:=⟨_,zB (by omega)⟩;rw [hu0]at h00;obtain⟨b,off,spot⟩:=a
   have hspot:spot=none:=by
    have hs1:=World.cell?_spot h00
    simpa [Addr.add]using hs1
   subst hspot
   have hadd:∀i j:Nat,((⟨b,off,none⟩:Addr).add i).add j=⟨b,off+i+j,none⟩:=by
    intro i j;unfold Addr.add;split<;>split<;>simp_all
   have hblk:b<w.heap.size:=by
    have:=ye h0;rw [hadd]at this;exact this
   refine⟨b,off,rfl,hblk,cs',hv,fun j u hu=> ?_⟩;have hj:j<Rep.size α:=(by have:=zN hu;omega);have:=hat j hj;rw [hadd,hu]at this;exact this
  ·have:=oC ((List.range len).map D);simp at this⊢;omega
  ·intro x hx;obtain⟨k,hk⟩:=z8 hx;have hkl:k<len:=(by have:=zN hk;simpa using this);rw [zB (by simpa using hkl),List.getElem_ofFn]at hk;cases hk;exact(Classical.choose_spec (hfun ⟨k,hkl⟩)).choose_spec.2.2
theorem X8 {H:Type} {enc:TypeId×V->H} {w:O} {base:Nat} {spare:Nat->Bool} {held:Bool} {t:TypeId} {fs:Array _root_.Go.Field} {fuel:Nat} {cs:aF} {x:DataW H×List MemPlace} (ht:P.underlying t=some (.struct fs)) (h:DataW.trod enc P w base spare held fuel t cs=some x) (hw:Rows.uptoBulk x.1<=1048576):
 cs.length=P.cellsOf t/\∀(i:Nat) (f:_root_.Go.Field),fs[i]? =some f->∃n y,DataW.trod enc P w base spare held n f.type ((cs.drop f.offset).take (P.cellsOf f.type))=some y/\Rows.uptoBulk y.1<=1048576:=by
 obtain⟨xs,n,_,rfl,hl,hlen,hf⟩:=DataW.trod_struct ht h;refine⟨hl,fun i f hi=> ?_⟩;have hil:i<xs.length:=by rw [hlen];exact(Array.getElem?_eq_some_iff.1 hi).1
 have h1:=hf i f hi;rw [zB hil]at h1;refine⟨n,_,h1,?_⟩;have hm:(xs[i]).1∈xs.map (·.1):=List.mem_map.2 ⟨xs[i],List.getElem_mem hil,rfl⟩;have h2:=Uo hm;simp only [Rows.uptoBulk]at hw;omega
theorem uJ:Qs prog 61 Field (fun _=>True):=by
 intro H enc w base spare held fuel cs x h hw;obtain⟨hl,hp⟩:=X8 underlying61 h hw;rw [show Tryz.prog.cellsOf 61=7 by kernel_rfl]at hl
 match cs,hl with
 | [c0,c1,c2,c3,c4,c5,c6],_=>
   obtain⟨_,_,h0,w0⟩:=hp 0 _ rfl;obtain⟨_,_,h1,w1⟩:=hp 1 _ rfl;obtain⟨_,_,h2,w2⟩:=hp 2 _ rfl;obtain⟨_,_,h3,w3⟩:=hp 3 _ rfl;obtain⟨_,_,h4,w4⟩:=hp 4 _ rfl;obtain⟨_,_,h5,w5⟩:=hp 5 _ rfl;obtain⟨_,_,h6,w6⟩:=hp 6 _ rfl;obtain⟨v0,r0,_⟩:=U8 underlying9 h0 w0;obtain⟨v1,r1,_⟩:=QR underlying3 h1 w1;obtain⟨v2,r2,_⟩:=X7 underlying55 (show Tryz.prog.cellsOf 3=1 by kernel_rfl) (QR underlying3) h2 w2
   obtain⟨v3,r3,_⟩:=QR underlying3 h3 w3;obtain⟨v4,r4,_⟩:=QR underlying3 h4 w4;obtain⟨v5,r5,_⟩:=jM underlying4 h5 w5;obtain⟨v6,r6,_⟩:=jM underlying4 h6 w6;exact⟨⟨v0,v1,v2,v3,v4,v5,v6⟩,⟨c0,c1,c2,c3,c4,c5,c6,rfl,r0,r1,r2,r3,r4,r5,r6⟩,trivial⟩
theorem uK:Qs prog 86 Entry (fun e=>e.text.size<=1048576/\e.numbers.length<=1048576):=by
 intro H enc w base spare held fuel cs x h hw;obtain⟨hl,hp⟩:=X8 underlying86 h hw;rw [show Tryz.prog.cellsOf 86=3 by kernel_rfl]at hl
 match cs,hl with
 | [c0,c1,c2],_=>
   obtain⟨_,_,h0,w0⟩:=hp 0 _ rfl;obtain⟨_,_,h1,w1⟩:=hp 1 _ rfl;obtain⟨_,_,h2,w2⟩:=hp 2 _ rfl;obtain⟨v0,r0,_⟩:=U8 underlying9 h0 w0;obtain⟨v1,r1,q1⟩:=U8 underlying9 h1 w1;obtain⟨v2,r2,q2,_⟩:=X7 underlying57 (show Tryz.prog.cellsOf 2=1 by kernel_rfl) (QR underlying2) h2 w2;exact⟨⟨v0,v1,v2⟩,⟨c0,c1,c2,rfl,r0,r1,r2⟩,q1,q2⟩
theorem wT:Qs prog 40 xw (fun x=>∀e∈x.2,e.text.size<=1048576/\e.numbers.length<=1048576):=by
 intro H enc w base spare held fuel cs x h hw;obtain⟨hl,hp⟩:=X8 underlying40 h hw;rw [show Tryz.prog.cellsOf 40=2 by kernel_rfl]at hl
 match cs,hl with
 | [c0,c1],_=>
   obtain⟨_,_,h0,w0⟩:=hp 0 _ rfl;obtain⟨_,_,h1,w1⟩:=hp 1 _ rfl;obtain⟨v0,r0,_⟩:=DS underlying35 h0 w0;obtain⟨_,hp1⟩:=X8 underlying38 h1 w1;obtain⟨_,_,h2,w2⟩:=hp1 0 _ rfl;obtain⟨v1,r1,_,q1⟩:=X7 underlying36 (show Tryz.prog.cellsOf 86=3 by kernel_rfl) uK h2 w2;exact⟨(v0,v1),⟨[c0], [c1],rfl,r0,r1⟩,q1⟩
section
variable {H:Type} {enc:TypeId×V->H} {w:O} {base:Nat} {spare:Nat->Bool} {held:Bool} {r:Reach} {b0:Nat} {v:V} {d:DataW H} {p:List MemPlace}
theorem uL (hv:Value.okWide prog w r b0 24 v) (h:DataW.Trod enc prog w base spare held 24 v d p) (hw:Rows.uptoBulk d<=1048576):
 ∃A n c fs,v= .agg #[.slice A n c]/\zL (α:=Field) w (·<w.heap.size) A n c fs:=by
 obtain⟨cs,rfl,hsz⟩:=okWide_struct underlying24 hv;obtain⟨l⟩:=cs
 match l,hsz.trans (show Tryz.prog.cellsOf 24=1 by kernel_rfl)with
 | [c0],_=>
   obtain⟨fuel,hf⟩:=h;obtain⟨_,hp⟩:=X8 underlying24 hf hw;obtain⟨_,_,h0,w0⟩:=hp 0 _ rfl;obtain⟨fs,⟨A,n,c,hc,hr⟩,_⟩:=X7 underlying22 (show Tryz.prog.cellsOf 61=7 by kernel_rfl) uJ h0 w0;have hc' :c0= .slice A n c:=(by simpa [Value.cells,show Tryz.prog.cellsOf 22=1 by kernel_rfl]using hc);exact⟨A,n,c,fs,by rw [hc'],hr⟩
theorem wU (hv:Value.okWide prog w r b0 25 v) (h:DataW.Trod enc prog w base spare held 25 v d p) (hw:Rows.uptoBulk d<=1048576):
 ∃A n c items,v= .slice A n c/\zL (α:=xw) w (·<w.heap.size) A n c items/\∀x∈items,∀e∈x.2,e.text.size<=1048576/\e.numbers.length<=1048576:=by
 obtain⟨a,l,c1,rfl⟩:=okWide_slice underlying25 hv;obtain⟨fuel,hf⟩:=h;obtain⟨items,⟨A,n,c,hc,hr⟩,_,hq⟩:=X7 underlying25 (show Tryz.prog.cellsOf 40=2 by kernel_rfl) wT hf hw;have hc' :Value.slice a l c1= .slice A n c:=by simpa [Value.cells]using hc
 exact⟨A,n,c,items,hc',hr,hq⟩
end
end Go.Proofs.YtjbhbfaeielbiaaGreatDoor

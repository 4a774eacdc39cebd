import Derived.Test.YtjbhbfaeielbiaaGreatDoorPart42
set_option maxRecDepth 100000
set_option maxHeartbeats 8000000
set_option linter.unusedVariables false
set_option linter.unusedSimpArgs false
namespace Go.Proofs.YtjbhbfaeielbiaaGreatDoor
open Go.Proofs.Tryz
open Rep (rep)
open Go.RowKit
theorem NO (A:aA) (n c H:Nat) (w:O) (a:w.heap.size=H):
 Calls prog 70 #[.slice A n c] w fun e w' =>e= .returned (.func (.func 125) #[] #[.pointer (some ⟨H,0,none⟩)])/\w' =w.alloc (.cells #[.slice A n c] 128):=by
 have b:=@mF prog;subst a;go_enter func70,ntmps70;go_wp2;go_ret
 exact⟨rfl,rfl⟩
theorem zL.tail1 {α:Type} [Rep α] {w:O} {F:Nat->Prop} {b off n c:Nat} {x:α} {xs:List α} {A' :aA} (h:zL w F (some ⟨b,off,none⟩) (n+1) c (x::xs)) (i:Rep.size α=1) (hA:n=0\/A' =some ⟨b,off+1,none⟩):zL w F A' n (c - 1) xs:=by
 have g:=h.length;have o:=h.cap;simp only [z6]at g;refine⟨by omega,by omega,by omega,fun k y a=> ?_⟩;have p:=zN a;rcases hA with m|rfl
 ·omega
 ·obtain⟨f,cs,d,e⟩:=h.elem (k:=k+1) (x:=y) (by simpa using a);refine⟨b,off+1,rfl,f,cs,d,fun j u l=> ?_⟩;have:=e j u l;rw [i]at this⊢;rw [<-this]
  congr 2
  omega
theorem XB {C n c B:Nat} {A:aA} {t:TypeId} {x:aC} {xs:List aC} {w W0:O} {L:List Asn} (l:zL W0 (·<B) A (n+1) c (x::xs)) (d:Sp w (BlkA C t #[.slice A (n+1) c]::L)) (hB:OldA B W0∈L):
 Calls prog 125 #[.pointer (some ⟨C,0,none⟩)] w fun e w' =>∃a j f A',e= .returned (.slice a j f)/\zL W0 (·<B) a j f x/\zL W0 (·<B) A' n (c - 1) xs/\Sp w' (BlkA C t #[.slice A' n (c - 1)]::L):=by
 obtain⟨b,off,y,rfl,H,z,q⟩:=l.at_ (k:=0) (by omega)
 cases H.o;obtain⟨a,j,f,p,F⟩:=q.list;have p:w.cell? ⟨b,off,none⟩=some (.slice a j f):=((d.tail.below hB).cell z).trans p;have i:=l.cap;have I:=d.cl M0 0;have J:=(d.blkOf M0).frozen 0;obtain⟨m,r⟩:=eX (n+1)
 obtain⟨A',g,G⟩:∃A' :aA,(n=0\/A' =some ⟨b,off+1,none⟩)/\∀W:O,(Instr.slice 128 (.slice (some ⟨b,off,none⟩) m c) (some (.int .i64 1)) none none).run prog W= .ok (.slice A' n (c - 1)) W:=by
  refine⟨if c=1 then some ⟨b,off,none⟩else some ⟨b,off+1,none⟩,?_,fun W=> ?_⟩
  ·by_cases h:c=1
   ·exact .inl (by omega)
   ·exact .inr (if_neg h)
  ·have s:((1:Int)<=(c:Int)):=(by omega);have u:((1:Int)<=(m:Int)):=(by omega);have v:((m:Int)<=(c:Int)):=(by omega);simp [Instr.slice,Instr.sliceBounds,go_sem,s,u,v];omega
 have E:=l.tail1 rfl g;have o:=d.set 0 (.slice A' n (c - 1));rw [r]at I;have D:¬(m:Int)=0:=by omega
 clear l g q i r d;go_enter func125,ntmps125;go_wp2;go_ret
 exact⟨a,j,f,A',rfl,F,E,o⟩
attribute [local go_sem ↓] zU zV
abbrev DicA (D:Nat) (ls:List aB) (at_:aE):Asn:=DatA (.pointer (some ⟨D,0,none⟩)) (Ptr.mk (some (tBl ls at_,tFi ls,(ls.length:Int))))
theorem YQ {w:O} {F:Nat->Prop} {D:Nat} {bs:List aC} {j:List aB} {n:Int} (h:rep w F [.pointer (some ⟨D,0,none⟩)] (Ptr.mk (some (bs,j,n)))):
 ∃c f e d g c2,w.cell? ⟨D,0,none⟩=some (.slice c f e)/\w.cell? ⟨D,1,none⟩=some (.slice d g c2)/\w.cell? ⟨D,2,none⟩=some (.int .i64 n)/\zL w F c f e bs/\zL w F d g c2 j:=by
 obtain⟨_,cs,⟨_,_,rfl,⟨c,f,e,rfl,m⟩,_,_,rfl,⟨d,g,c2,rfl,o⟩,rfl,_⟩,i⟩:=Ptr.get h;have l:=i 0 _ rfl;have a :=i 1 _ rfl;have b :=i 2 _ rfl;simp only [Nat.zero_mul,yt,zx]at l a b;exact⟨c,f,e,d,g,c2,l,a,b,m,o⟩
abbrev aX (L:List Asn) (D:Nat) (ls:List aB) (at_:aE):Prop:=∀w:O,Sp w L->rep w (·<w.heap.size) [.pointer (some ⟨D,0,none⟩)] (Ptr.mk (some (tBl ls at_,tFi ls,(ls.length:Int))))
section
variable {w:O} {L:List Asn} {D k:Nat} {ls:List aB} {at_:aE}
theorem Up (h:Sp w L) (M:aX L D ls at_) (ht:xQ ls=true) (A:at_.length=ls.length) (R:∀x∈at_,x<18446744073709551616) (hk:16*k<ls.length):
 Calls prog 102 #[.pointer (some ⟨D,0,none⟩),.int .i64 (k:Int)] w fun e w' =>∃g G m,e= .returned (.tuple #[.slice (some ⟨g,0,none⟩) m m,.slice (some ⟨G,0,none⟩) m m])/\m=min 16 (ls.length - 16*k)/\
  Sp w' (SA (some ⟨g,0,none⟩) m m (bkT ls k)::UA (some ⟨G,0,none⟩) m m (bkT at_ k)::L):=by
 obtain⟨n,r⟩:=eX (ls.length);have o:=ht;unfold xQ at o;simp only [zM,decide_eq_true_eq]at o;obtain⟨hg,hr⟩:=o;obtain⟨A1,U,c1,_,_,_,d0,_,d2,B,_⟩:=YQ (M _ h);obtain⟨p',d⟩:=mT hr k;have hlen:U=nB n:=by rw [<-B.length];unfold tBl;simp [r]
 have N:k<U:=by rw [hlen];unfold nB;omega
 obtain⟨b,off,x,rfl,X,K,he⟩:=B.at_ N
 have T:x=ZZ (bkT ls k) (bkT at_ k):=by have h:=X.o;rw [fM hk]at h;exact(yG h).symm
 subst T;obtain⟨A3,n3,c3,e3,z⟩:=he.list;have i:=z.rb fun b B=>B
 have F:n3<=140737488355328:=by
  have:=z.cap;rw [<-z.length]
  have hl:∀(l:List aB) (p:Option aB) (a:aB),xj p l=true->(XZ a l).length<=5000*l.length:=by
   intro l
   induction l with
   |nil=>intro p a _;simp [XZ]
   |cons s l ih=>
    intro p a j;rw [VO];have Q:=YM j s (by simp);have:=ih (some s) s (by unfold xj at j;simp only [zM]at j;exact j.2);have Y:=ya (n:=shN a.data.toList s.data.toList) (by have:=(fN a s).1;omega);have h2:=ya (n:=(s.extract (shN a.data.toList s.data.toList) s.size).size) (by rw [yQ];omega);simp only [zG,z6]
    have z:(s.extract (shN a.data.toList s.data.toList) s.size).data.toList.length<=s.size:=by
     have:(s.extract (shN a.data.toList s.data.toList) s.size).data.toList.length=(s.extract (shN a.data.toList s.data.toList) s.size).size:=(by simp);rw [this,yQ];omega
    omega
  have hf:∀(l:aE),(∀x∈l,x<18446744073709551616)->(l.flatMap zP).length<=10*l.length:=by
   intro l
   induction l with
   |nil=>intro _;simp
   |cons x l ih=>
    intro j;have Y:=ya (n:=x) (by have:=j x (by simp);omega);have:=ih fun y hy=>j y (by simp [hy]);simp only [zp,zG,z6];omega
  have f:(bkT ls k).length<=16:=(by rw [XR];omega);have Z:(bkT at_ k).length<=16:=(by rw [XR];omega);have h2:=hf (bkT at_ k) fun x S=>R x (fE S);cases hb4:bkT ls k with
  |nil=>simp [ZZ]
  |cons a l=>
   rw [hb4]at d f;have Q:=YM d a (by simp);have Y:=hl l (some a) a (by unfold xj at d;simp only [zM]at d;exact d.2);have h5:=ya (n:=a.size) (by omega);have h6:a.data.toList.length=a.size:=(by simp);rw [Xw];simp only [zG,z6]at f⊢;omega
 obtain⟨m,C⟩:=eX (min 16 (n - 16*k));have u:=zA (fun(W:O) (hW:W.cell? ⟨D,2,none⟩=some (.int .i64 (n:Int)))=>lV (k:=k) hW (by omega) (by omega));rw [C]at u;rw [r]at d2⊢;rw [C]
 have v:∀w',Sp w' L->w'.cell? ⟨D,2,none⟩=some (.int .i64 (n:Int)):=fun w' Q=>by
  obtain⟨_,_,_,_,_,_,_,_,q,_,_⟩:=YQ (M _ Q);rw [r]at q;exact q
 have H:=zA (VG (c:=c3) h i F);have D2:=zA v;have Hl:Hid ((bkT ls k).length=m):=by show _=_;rw [XR,r];exact C
 have Ha:Hid ((bkT at_ k).length=m):=by show _=_;rw [XR,A,r];exact C
 have P:0<m:=by omega
 have E:m<=16:=by omega
 have Hr:=zA d;have Hu:=zA (fun(x:Nat) (S:x∈bkT at_ k)=>R x (fE S));have ha:(k:Int)<U:=by omega
 have hc:(0:Int)<=k:=by omega
 clear h M ht A R hk r hr B X he z i F d v C K;go_enter func102,ntmps102
 go_wp2_with (first
  |(go_at_call 73;refine H.o.mono ?_;rintro e w1 ⟨p,rfl,t⟩;have J:=D2.o _ t.tail)
  |(go_at_call 186;refine(u.o _ J).mono ?_;rintro e w4 ⟨rfl,rfl⟩)
  |(go_at_call 185;refine(lA (pre:= []) (post:= []) P E Hl.o Ha.o Hr.o Hu.o (by simpa [rsAt]using t)).mono ?_;rintro e w5 ⟨g,G,rfl,I⟩)
  |fail)
 go_ret2;exact⟨g,G,m,rfl,rfl,I.d2⟩
theorem pP {o k j n:Nat} (d:o / 16=k) (c:o%16=j) (f:o<n) (e:n<=1048576):
 (o:Int)<n/\(0:Int)<=o/\(o:Int) / 16=(k:Int)/\(o:Int).tdiv 16=(k:Int)/\(o:Int)%16=(j:Int)/\(o:Int).tmod 16=(j:Int)/\wrap64 (k:Int)=k/\wrap64 (j:Int)=j/\(0:Int)<=j/\j<min 16 (n - 16*k)/\j<16/\16*k+j=o:=by
 have a:(o:Int).tdiv 16=(o:Int) / 16:=Int.tdiv_eq_ediv_of_nonneg (by omega);have b:(o:Int).tmod 16=(o:Int)%16:=Int.tmod_eq_emod_of_nonneg (by omega);rw [a,b];unfold wrap64;refine⟨?_,?_,?_,?_,?_,?_,?_,?_,?_,?_,?_,?_⟩<;>omega
theorem pH (h:Sp w L) (a:DicA D ls at_∈L):w.cell? ⟨D,2,none⟩=some (.int .i64 (ls.length:Int)):=by
 obtain⟨_,_,_,_,_,_,_,_,q,_,_⟩:=YQ (h.dat a);exact q
theorem L3 {o x:Nat} (h:Sp w (DicA D ls at_::L)) (l:xQ ls=true) (a:at_.length=ls.length) (A:∀x∈at_,x<18446744073709551616) (t:at_[o]? =some x):
 Calls prog 148 #[.pointer (some ⟨D,0,none⟩),.int .i64 (o:Int)] w fun e w' =>e= .returned (.int .u64 (x:Int))/\Sp w' (DicA D ls at_::L):=by
 have c:=zN t;obtain⟨n,p⟩:=eX (ls.length);have v:=pH h M0;obtain⟨k,r⟩:=eX (o / 16);obtain⟨j,y⟩:=eX (o%16);have b:=zA (WZ v);have u:=zA (Up (k:=k) h (fun _ h=>h.dat M0) l a A (by rw [<-a];have:=c;rw [<-r];omega));rw [p]at b u;have s:n<=1048576:=by unfold xQ at l;simp only [zM,decide_eq_true_eq]at l;rw [<-p];exact l.1
 have i:o<n:=by rw [<-p,<-a];exact c
 obtain⟨P,N,I,J,E,G,K,H,C,F,f,q⟩:=pP r y i s
 have B:Hid ((bkT at_ k)[j]? =some x):=by
  show _=_;rw [Ur f,q];exact t
 clear h l a A t c p v r y;go_enter func148,ntmps148
 go_wp2_with (first
  |(go_at_call 19;refine b.o.mono ?_;rintro e S ⟨rfl,rfl⟩)
  |(go_at_call 102;refine u.o.mono ?_;rintro e T ⟨g,Q,m,rfl,M,d⟩;have R:=d.rowCell M1 (WB B.o);have z:(j:Int)<m:=(by omega);clear M)
  |fail)
 go_ret
 exact⟨rfl,d.tail.tail⟩
end
def itP (ps:List PostD) (o:Nat):List PostD:=if o=0\/ps.length<o then []else blkP ps ((o - 1) / 8*8)
def itAt (ps:List PostD) (o:Nat):Int:=if o=0 then -1 else if ps.length<o then 0 else((o - 1)%8:Nat)
def itN (ps:List PostD) (o:Nat):Int:=if o=0 then 0 else if ps.length<o then 1073741824 else((o - 1) / 8+1:Nat)
abbrev bQ (L:List Asn) (D:Nat) (ps:List PostD):Prop:=∃(B:Nat) (w0:O),OldA B w0∈L/\B<=w0.heap.size/\rep w0 (·<B) [.pointer (some ⟨D,0,none⟩)] (Ptr.mk (some (pBl ps,(ps.length:Int))))
abbrev ItB (I D:Nat) (vp:V) (at_ a:Int):Asn:=BlkA I 114 #[vp,.int .i64 at_,.pointer (some ⟨D,0,none⟩),.int .i64 a]
theorem UG {I m c:Nat} {A:aA} {z:Int} {w:O} (d:w.cell? ⟨I,0,none⟩=some (.slice A m c)) (f:w.cell? ⟨I,1,none⟩=some (.int .i64 z)):
 Calls prog 51 #[.pointer (some ⟨I,0,none⟩)] w fun e w' =>e= .returned (.bool (decide (0<=z) && decide (z<m)))/\xG w w' :=by
 rcases Int.lt_or_le z 0 with b|b
 ·have a:decide (0<=z)=false:=decide_eq_false (by omega);rw [a,Bool.false_and];clear b;go_enter func51,ntmps51;go_wp2_with fail
  go_quiet (fail)
  go_wp2;go_ret
  exact⟨rfl,⟨_,rfl⟩⟩
 ·have a:decide (0<=z)=true:=decide_eq_true b;rw [a,Bool.true_and];cases hz2:decide (z<(m:Int))
  ·clear b;go_enter func51,ntmps51;go_wp2_with fail
   go_quiet (fail)
   go_wp2;go_ret
   exact⟨rfl,⟨_,rfl⟩⟩
  ·clear b;go_enter func51,ntmps51;go_wp2_with fail
   go_quiet (fail)
   go_wp2;go_ret
   exact⟨rfl,⟨_,rfl⟩⟩
theorem nK {D:Nat} {L:List Asn} {w:O} (b:Sp w L):
 Calls prog 14 #[.pointer (some ⟨D,0,none⟩)] w fun e w' =>∃I,e= .returned (.pointer (some ⟨I,0,none⟩))/\Sp w' (ItB I D (.slice none 0 0) (-1) 0::L):=by
 obtain⟨H,c⟩:=eX (w.heap.size);have a:=zA (b.blkH 114 #[.slice none 0 0,.int .i64 (-1),.pointer (some ⟨D,0,none⟩),.int .i64 0] c);go_enter func14,ntmps14;go_wp2;go_ret
 exact⟨H,rfl,a.o⟩
theorem jO {w:O} {F:Nat->Prop} {D:Nat} {bs:List OH} {n:Int} (h:rep w F [.pointer (some ⟨D,0,none⟩)] (Ptr.mk (some (bs,n)))):
 ∃b d c,F D/\w.cell? ⟨D,0,none⟩=some (.slice b d c)/\w.cell? ⟨D,1,none⟩=some (.int .i64 n)/\zL w F b d c bs:=by
 obtain⟨hF,cs,⟨_,_,rfl,⟨b,d,c,rfl,g⟩,rfl,_⟩,f⟩:=Ptr.get h;have e:=f 0 _ rfl;have a :=f 1 _ rfl;simp only [Nat.zero_mul,yt,zx]at e a;exact⟨b,d,c,hF,e,a,g⟩
theorem JC {I D:Nat} {vp:V} {z l:Int} {ps:List PostD} {L:List Asn} {w:O} (b:Sp w (ItB I D vp z l::L)) (t:bQ L D ps) (p:(nP ps.length:Int)<=l):
 Calls prog 52 #[.pointer (some ⟨I,0,none⟩)] w fun e w' =>e= .returned (.bool false)/\Sp w' (ItB I D (.slice none 0 0) 0 1073741824::L):=by
 obtain⟨B,w0,n,hB,f⟩:=t;have c:=b.below (.tail _ n);obtain⟨q,k,s,j,i,_,m⟩:=jO f;have i:w.cell? ⟨D,0,none⟩=some (.slice q k s):=(c.cell j).trans i;have d:k=nP ps.length:=by rw [<-m.length];simp [pBl]
 have u:decide ((k:Int)<=l)=true:=decide_eq_true (by rw [d];exact p);have v:=b.cl M0 2;have x:=b.cl M0 3;have r:=zA b;clear b m p d c f n;go_enter func52,ntmps52;go_upto_region 1 with fail
 go_quiet (fail)
 have a:=r.o.drewN nq;obtain⟨H,g⟩:=eX (w.drewN nq);rw [g]at a⊢;have E:=a.cl M0 0;have F:=a.cl M0 1;have G:=a.cl M0 3;have y:=(a.blkOf M0).frozen 0;have A:=(a.blkOf M0).frozen 1;have C:=(a.blkOf M0).frozen 3;have h:=zA (((a.set 0 (.slice none 0 0)).set 1 (.int .i64 0)).set 3 (.int .i64 1073741824));clear a i v x g;go_wp2;go_ret
 exact⟨rfl,h.o⟩
theorem E9 {B:Nat} {w w' :O} {b c d e f:Addr} {v3 v4 v5 g i:V} (h:Below B w w') (j:b.block<B) (a:c.block<B/\d.block<B/\e.block<B/\f.block<B):w.cell? b=some v3/\w.cell? c=some v4/\w.cell? d=some v5/\w.cell? e=some g/\w.cell? f=some i->w'.cell? b=some v3/\w'.cell? c=some v4/\w'.cell? d=some v5/\w'.cell? e=some g/\w'.cell? f=some i:=
 fun⟨k,l,m,n,p⟩=>⟨(h.cell j).trans k,(h.cell a.1).trans l,(h.cell a.2.1).trans m,(h.cell a.2.2.1).trans n,(h.cell a.2.2.2).trans p⟩
theorem NN {w:O} {F:Nat->Prop} {b off k:Nat} {x:OH} (h:xp w F b off k x):∃A n c,w.cell? ⟨b,off+k*4,none⟩=some (.slice A n c)/\w.cell? ⟨b,off+k*4+1,none⟩=some (.int .i64 x.2.1)/\w.cell? ⟨b,off+k*4+2,none⟩=some (.int .i64 x.2.2.1)/\w.cell? ⟨b,off+k*4+3,none⟩=some (.int .i64 x.2.2.2)/\zL w F A n c x.1:=by
 obtain⟨cs,h,a⟩:=h;obtain⟨_,_,rfl,⟨A,n,c,rfl,d⟩,_,_,rfl,⟨rfl,_⟩,_,_,rfl,⟨rfl,_⟩,⟨rfl,_⟩⟩:=h;exact⟨A,n,c,a 0 _ rfl,a 1 _ rfl,a 2 _ rfl,a 3 _ rfl,d⟩
theorem EE {I D k m:Nat} {vp:V} {z:Int} {ps:List PostD} {L:List Asn} {w:O} (u:Sp w (ItB I D vp z (k:Int)::L)) (hd:bQ L D ps) (hr:xk ps=true) (hk:k*8<ps.length) (P:(blkP ps (k*8)).length=m):
 Calls prog 52 #[.pointer (some ⟨I,0,none⟩)] w fun e w' =>∃A' c',e= .returned (.bool true)/\Sp w' (ItB I D (.slice A' m c') 0 ((k+1:Nat):Int)::DatA (.slice A' m c') (blkP ps (k*8))::L):=by
 obtain⟨B,w0,r,hB,F⟩:=hd;have A:=u.below (.tail _ r);obtain⟨A1,Q,c1,T,d0,_,N⟩:=jO F;have C:Q=nP ps.length:=by rw [<-N.length];simp [pBl]
 have X:k<Q:=by rw [C];unfold nP;omega
 have hi:decide ((Q:Int)<=(k:Int))=false:=decide_eq_false (by omega)
 have hh:k<=1000000:=by
  obtain⟨_,_,h3⟩:=QN hr;omega
 obtain⟨b,off,x,rfl,Hx,t,he⟩:=N.at_ X
 have ha:x=blkE ps k:=by have h:=Hx.o;rw [p9 hk]at h;exact(yG h).symm
 subst ha;obtain⟨A2,n2,c2,S,H,J,K,d⟩:=NN he;have i:=d.cap;have hf:=N.cap;obtain⟨y,n,s⟩:=VD hr (k*8);have g:=QS hr (k*8);have Y:m<=8:=by rw [<-P];unfold blkP;rw [zr];omega
 have E:n2<=100000000000000:=by
  obtain⟨U,hc,_⟩:=Qb _ _ y g.1 g.2 n s;have h1:=kY U g (by omega) (by omega);have h2:=d.length;simp only [blkE]at h2;omega
 simp only [blkE,Xc]at S H J K;have hE:=Xc ps (k*8);rw [P]at K;obtain⟨la,p⟩:=eX (ZD ps (k*8));obtain⟨lb,q⟩:=eX (ZD ps (k*8+8))
 have hP:∀W:O,Below B w0 W->Calls prog 104 #[.agg #[.slice A2 n2 c2,.int .i64 la,.int .i64 lb,.int .i64 (m:Int)]] W fun e w' =>∃A' c' css,e= .returned (.tuple #[.slice A' m c',.bool true])/\Sp w' [RowA 116 2 (.slice A' m c') m css.flatten,ElsA css (blkP ps (k*8)),OldA W.heap.size W]:=fun W M=>by
  have h:=jI (c:=c2) ((d.keep (fun _ Z=>M.cell Z) (fun _ Z=>zX Z (zY hB M.size))).rb fun b t=>t) i.1 i.2 E P Y s g n;rw [hE,p,q]at h;exact h
 rw [p]at H;rw [q]at J;have HP:=zA hP;have G:=zA (fun(W:O) (M:Below B w0 W)=>E9 M T ⟨t,t,t,t⟩ (And.intro d0 (And.intro S (And.intro H (And.intro J K)))));obtain⟨e0,e1,e2,e3,e4⟩:=G.o w A;have q2:=u.cl M0 2;have q3:=u.cl M0 3;have Hd:=zA u;have l:=zA r;clear u N d he hP s g hE p q P hk C n E Hx d0 S H J K A F r hB;go_enter func52,ntmps52
 go_upto_region 1 with fail
 go_quiet (fail)
 have j:=Hd.o.drewN (nq+1);go_upto_region 5 with fail
 go_region_held3 (fun W=>W.cell? ⟨I,2,none⟩=some (.pointer (some ⟨D,0,none⟩))/\W.cell? ⟨I,3,none⟩=some (.int .i64 (k:Int))/\W.cell? ⟨D,0,none⟩=some (.slice (some ⟨b,off,none⟩) Q c1)/\W.cell? ⟨b,off+k*4,none⟩=some (.slice A2 n2 c2)/\W.cell? ⟨b,off+k*4+1,none⟩=some (.int .i64 la)/\W.cell? ⟨b,off+k*4+2,none⟩=some (.int .i64 lb)/\W.cell? ⟨b,off+k*4+3,none⟩=some (.int .i64 (m:Int))) (first|exact⟨a.cell M2 2,a.cell M2 3,G.o _ (a.below (.tail _ (.tail _ (.tail _ l.o))))⟩|exact⟨f.cell M0 2,f.cell M0 3,G.o _ (f.below (.tail _ (.tail _ l.o)))⟩|exact⟨by with_reducible assumption,by with_reducible assumption,by with_reducible assumption,by with_reducible assumption,by with_reducible assumption,by with_reducible assumption,by with_reducible assumption⟩|trivial)
  (first
   |(go_at_call 104;refine(HP.o _ (j.below (.tail _ l.o))).mono ?_;rintro e w5 ⟨A',c',css,rfl,v⟩;have a:=j.call [_,_] v;have f:=(a.els (α:=PostD)).p1.set 0 (.slice A' m c');have g0:=a.cl M2 0;have g1:=a.cl M2 1;have g3:=a.cl M2 3;have f0:=(a.blkOf M2).frozen 0;have f1:=(a.blkOf M2).frozen 1;have f3:=(a.blkOf M2).frozen 3)
   |fail)
 have R:=zA ((f.set 1 (.int .i64 0)).set 3 (.int .i64 ((k+1:Nat):Int)));clear a f v j G e0 e1 e2 e3 e4 q2 q3;have hg:IntKind.i64.wrap ((k:Int)+1)=((k+1:Nat):Int):=by rw [zT];omega
 go_wp2;go_ret
 exact⟨A',c',rfl,R.o⟩
theorem pZ {f:FuncId} {args:aG} {w:O} {n:Nat} {v:V} (h:Calls prog f args (w.drewN n) fun e w' =>e= .returned v/\xG (w.drewN n) w'):Calls prog f args (w.drewN n) fun e a =>e= .returned v/\∃m,a =w.drewN m:=
 h.mono fun _ _ ⟨b,m,c⟩=>⟨b,n+m,by rw [c,World.drewN_drewN]⟩
def ItA (I D:Nat) (vp:V) (ps:List PostD) (o:Nat):List Asn:= [ItB I D vp (itAt ps o) (itN ps o),DatA vp (itP ps o)]
theorem Ud {ps:List PostD} {o:Nat} (h:1<=o) (a:o<=ps.length):itP ps o=blkP ps ((o - 1) / 8*8):=by unfold itP;rw [if_neg (by omega)]
theorem UC {ps:List PostD} {o:Nat} (h:1<=o) (a:o<=ps.length):itAt ps o=(((o - 1)%8:Nat):Int):=by unfold itAt;rw [if_neg (by omega),if_neg (by omega)]
theorem fS {ps:List PostD} {o:Nat} (h:1<=o) (a:o<=ps.length):itN ps o=(((o - 1) / 8+1:Nat):Int):=by unfold itN;rw [if_neg (by omega),if_neg (by omega)]
theorem eL (ps:List PostD) (x:Nat):(blkP ps x).length=min 8 (ps.length - x):=by unfold blkP;rw [zr,ze]
theorem ME {ps:List PostD} {x j:Nat} (h:j<8):(blkP ps x)[j]? =ps[x+j]? :=by unfold blkP;rw [yy,if_pos h,List.getElem?_drop]
section
variable {I D o:Nat} {vp:V} {ps:List PostD} {L:List Asn} {w:O}
theorem lD (f:Sp w (ItA I D vp ps o++L)) (hd:bQ L D ps) (K:xk ps=true) (j:o<=ps.length):
 Calls prog 20 #[.pointer (some ⟨I,0,none⟩)] w fun e w' =>∃d,e= .returned (.bool (decide (o<ps.length)))/\Sp w' (ItA I D d ps (o+1)++L):=by
 obtain⟨n,x⟩:=eX (ps.length)
 have y:n<=1000000:=by
  obtain⟨_,_,G⟩:=QN K;omega
 unfold ItA at f;simp only [yI,zZ]at f;obtain⟨A,m,c,hv,H⟩:=f.dat M1;cases hv;have J:=H.length;have N:=f.cl M0 0;obtain⟨z,i⟩:=eX (itAt ps o);obtain⟨M,a⟩:=eX (itN ps o);rw [i,a]at f;have P:=f.cl M0 1
 by_cases q:1<=o/\o<n/\o%8≠0
 ·obtain⟨g,F,G⟩:=q;rw [UC g j]at i;rw [Ud g j,eL,x]at J;rw [fS g j]at a;have b1:decide (0<=z)=true:=decide_eq_true (by omega);have b2:decide (z<(m:Int))=true:=decide_eq_true (by omega);have U:decide (z+1<(m:Int))=true:=decide_eq_true (by omega);have b4:IntKind.i64.wrap (z+1)=z+1:=(by rw [zT];omega);have l:=zA (fun nq=>pZ (UG (I:=I) (A:=A) (c:=c) (w:=w.drewN nq) N P))
  rw [b1,b2,Bool.true_and]at l;have r:itAt ps (o+1)=z+1:=(by rw [UC (by omega) (by omega),<-i];omega);have s:itN ps (o+1)=M:=(by rw [fS (by omega) (by omega),<-a];omega)
  have E:itP ps (o+1)=itP ps o:=by
   rw [Ud (by omega) (by omega),Ud g j]
   congr 1
   omega
  have X:decide (o<n)=true:=decide_eq_true F;have T:=zA f;rw [x,X];unfold ItA;rw [r,s,E];clear f H J i a hd K g F G r s E b1 b2 x j y X;go_enter func20,ntmps20;go_upto_region 3 with fail
  go_quiet ((go_at_call 51;exact l.o _))
  have b:=T.o.drewN nq;obtain⟨w3,C⟩:=eX (w.drewN nq);rw [C]at b⊢;have g1:=b.cl M0 1;have f1:=(b.blkOf M0).frozen 1;have R:=zA (b.set 1 (.int .i64 (z+1)));clear b C N P l;go_wp2;go_ret
  exact⟨_,rfl,R.o⟩
 ·obtain⟨bh,p⟩:=eX ((decide (0<=z) && decide (z<(m:Int))));have u:=H.cap
  have U:bh=true->IntKind.i64.wrap (z+1)=z+1/\decide (z+1<(m:Int))=false:=fun h=>by
   rw [<-p,zM,decide_eq_true_eq,decide_eq_true_eq]at h;refine⟨by rw [zT];omega,?_⟩
   apply decide_eq_false
   have g:1<=o:=by
    rcases zi o with t|t
    ·rw [t]at i;unfold itAt at i;simp at i;omega
    ·exact t
   rw [UC g j]at i;rw [Ud g j,eL,x]at J;omega
  have l:=zA (fun nq=>pZ (UG (I:=I) (A:=A) (c:=c) (w:=w.drewN nq) N P));rw [p]at l
  have HL:=zA (fun(W:O) (Z:Sp W (ItB I D (.slice A m c) z M::DatA (.slice A m c) (itP ps o)::L))=>show Calls prog 52 #[.pointer (some ⟨I,0,none⟩)] W fun e w' =>∃d,e= .returned (.bool (decide (o<ps.length)))/\Sp w' (ItA I D d ps (o+1)++L)from by
   have v:bQ (DatA (.slice A m c) (itP ps o)::L) D ps:=by
    obtain⟨B,w0,g,F,G⟩:=hd;exact⟨B,w0,.tail _ g,F,G⟩
   by_cases ha:o<n
   ·have h8:o%8=0:=by
     rcases zi o with t|t
     ·omega
     ·exact Decidable.byContradiction fun h=>q ⟨t,ha,h⟩
    have hk:M=((o / 8:Nat):Int):=by
     rw [<-a];unfold itN
     split
     ·omega
     ·rw [if_neg (by omega)];omega
    rw [hk]at Z;refine(EE (k:=o / 8) Z v K (by omega) rfl).mono ?_;rintro e w' ⟨A',c',rfl,Y⟩;refine⟨.slice A' (blkP ps (o / 8*8)).length c',by rw [decide_eq_true (show o<ps.length by omega)],?_⟩;unfold ItA;rw [UC (by omega) (by omega),fS (by omega) (by omega),Ud (by omega) (by omega)];have r:((o+1 - 1)%8:Nat)=0:=(by omega);have s:o+1 - 1=o:=(by omega);rw [r,s];exact Y.d2
   ·obtain rfl:o=n:=by omega
    have hk:(nP ps.length:Int)<=M:=by
     rw [<-a];unfold itN nP
     split
     ·omega
     ·rw [if_neg (by omega)];omega
    refine(JC Z v hk).mono ?_;rintro e w' ⟨rfl,Y⟩;refine⟨.slice none 0 0,by rw [decide_eq_false (show ¬o<ps.length by omega)],?_⟩;have r:itAt ps (o+1)=0:=(by unfold itAt;rw [if_neg (by omega),if_pos (by omega)]);have s:itN ps (o+1)=1073741824:=(by unfold itN;rw [if_neg (by omega),if_pos (by omega)]);have E:itP ps (o+1)= []:=(by unfold itP;rw [if_pos (by omega)]);unfold ItA;rw [r,s,E]
    exact(((Y.d1.elsNil (α:=PostD)).nil 116 2).els (α:=PostD) (css:= [])).p1)
  have T:=zA f;clear f H J i a hd K x j y q p;cases bh
  all_goals
   (try obtain⟨b4,X⟩:=U rfl)
   clear U u;go_enter func20,ntmps20;go_upto_region 3 with fail
   go_quiet ((go_at_call 51;exact l.o _))
   have Q:=zA (HL.o _ (T.o.drewN nq));clear HL l N P;go_wp2_with fail;refine Q.o.mono ?_;rintro e w4 ⟨d,rfl,S⟩;go_wp2;go_ret
   exact⟨d,rfl,S⟩
theorem o9 {p:PostD} (a:Sp w (ItA I D vp ps o++L)) (l:1<=o) (n:ps[o - 1]? =some p):∃(A:aA) (m c b off j:Nat) (d:aA) (f e:Nat),A=some ⟨b,off,none⟩/\j<m/\w.cell? ⟨I,0,none⟩=some (.slice A m c)/\w.cell? ⟨I,1,none⟩=some (.int .i64 (j:Int))/\w.cell? ⟨b,off+j*2,none⟩=some (.int .i64 p.doc)/\w.cell? ⟨b,off+j*2+1,none⟩=some (.slice d f e)/\zL w (·<w.heap.size) d f e p.pos:=by
 have B:=zN n;unfold ItA at a;simp only [yI,zZ]at a;rw [UC l (by omega),Ud l (by omega)]at a;obtain⟨A,m,c,y,q⟩:=a.dat M1;cases y;have v:=q.length;rw [eL]at v;have k:(o - 1)%8<m:=by omega
 obtain⟨b,off,x,rfl,t,z,u⟩:=q.at_ k
 have i:x=p:=by
  have h:=t.o;rw [ME (Nat.mod_lt _ (by omega)),show(o - 1) / 8*8+(o - 1)%8=o - 1 by omega,n]at h;exact(yG h).symm
 subst i;obtain⟨d,f,e,r,s,g, -⟩:=PostD.at_ u
 exact⟨_,m,c,b,off,(o - 1)%8,d,f,e,rfl,k,a.cell M0 0,a.cell M0 1,r,s,g⟩
theorem pF {p:PostD} (d:Sp w (ItA I D vp ps o++L)) (h:1<=o) (i:ps[o - 1]? =some p):
 Calls prog 16 #[.pointer (some ⟨I,0,none⟩)] w fun e w' =>e= .returned (.int .i64 p.doc)/\xG w w' :=by
 obtain⟨A,m,c,b,off,j,q,u,s,rfl,k,l,n,v, -, -⟩:=o9 d h i;have a:=zA (UG l n);have f:decide (0<=(j:Int))=true:=decide_eq_true (by omega);have g:decide ((j:Int)<(m:Int))=true:=decide_eq_true (by omega);rw [f,g,Bool.true_and]at a;have r:(j:Int)<(m:Int):=by omega
 clear d i h f g k;go_enter func16,ntmps16;go_upto_region 2 with(go_at_call 51;refine a.o.mono ?_;rintro e x ⟨rfl,t,rfl⟩)
 go_quiet (fail)
 go_wp2;go_ret
 exact⟨rfl,⟨_,World.drewN_drewN ..⟩⟩
theorem K4 {p:PostD} (s:Sp w (ItA I D vp ps o++L)) (x:1<=o) (y:ps[o - 1]? =some p) (H:p.pos.length<=1048576):
 Calls prog 17 #[.pointer (some ⟨I,0,none⟩)] w fun e w' =>∃A' n' c',e= .returned (.slice A' n' c')/\p.pos.length=n' /\Sp w' (RowA 3 1 (.slice A' n' c') n' (ints p.pos)::OldA w.heap.size w:: []):=by
 obtain⟨A,m,c,b,off,j,q,k,v,rfl,F,l,n, -,z,d⟩:=o9 s x y;have r:=zA (UG l n);have t:decide (0<=(j:Int))=true:=decide_eq_true (by omega);have u:decide ((j:Int)<(m:Int))=true:=decide_eq_true (by omega);rw [t,u,Bool.true_and]at r;have G:(j:Int)<(m:Int):=by omega
 have g:=d.length;have B:=zA (fun(W:O) (E:Below w.heap.size w W)=>l4 q k v (ints p.pos) W (by omega) (d.on E).reads_ints (Y3 _));have h:=zA g;clear s y x t u F d g;go_enter func17,ntmps17;go_upto_region 3 with(go_at_call 51;refine r.o.mono ?_;rintro e K ⟨rfl,J,rfl⟩)
 go_region_held3 (fun W=>W.cell? ⟨I,0,none⟩=some (.slice (some ⟨b,off,none⟩) m c)/\W.cell? ⟨I,1,none⟩=some (.int .i64 (j:Int))/\W.cell? ⟨b,off+j*2+1,none⟩=some (.slice q k v)) (first|exact⟨by with_reducible assumption,by with_reducible assumption,by with_reducible assumption⟩|exact C|trivial)
  (first
   |(go_at_call 53;refine(B.o _ (zd (zE _ _) _)).mono ?_;rintro e M ⟨A',c',rfl,i,f⟩;have a:=(zd (zE w.heap.size w) _).trans f;have C:=And.intro ((a.cell (ye l)).trans l) (And.intro ((a.cell (ye n)).trans n) ((a.cell (ye z)).trans z)))
   |fail)
 go_wp2;go_ret
 exact⟨A',k,c',rfl,h.o,((Sp.start w).grow (zd (zE _ _) _)).row i f⟩
end
section
variable {α:Type} {xs ys:List α} {n k:Nat} {x y:α}
theorem aV.next (h:aV xs ys k) (a:xs[k]? =some x) (b:ys[k]? =some x):aV xs ys (k+1):=by
 unfold aV at*;rw [zI,zI,h,a,b]
theorem PJ (a:xs[k]? =some x) (b:ys[k]? =some y) (h:x≠y):xs≠ys:=by
 rintro rfl;exact h (yG (a.symm.trans b))
end
theorem xG.bel {w w' :O} (h:xG w w'):Below w.heap.size w w' :=by
 obtain⟨j,rfl⟩:=h;exact zd (zE _ _) j
theorem PT {A A' :aA} {n m c c' :Nat} {xs ys:aC} {w:O} (M:n<=1000000000) (u:RB w A n xs) (v:RB w A' m ys):
 Calls prog 22 #[.slice A n c,.slice A' m c'] w fun e w' =>e= .returned (.bool (decide (xs=ys)))/\xG w w' :=by
 have z:=zA u.len;have B:=zA v.len;have C:=zA u;have D:=zA v;clear u v
 by_cases p:n=m
 ·subst p;go_enter func22,ntmps22;go_wp2
  go_loopg [5] n (fun gk i wr=>∃k:Nat,i= .int .i64 k/\k<=n/\gk=n - k/\Hid (aV xs ys k)/\Hid (xG w wr))
  case atStart=>exact⟨0,rfl,zJ _,rfl,(show _=_ from rfl),⟨0,rfl⟩⟩
  case round=>
   obtain⟨k,rfl,L,rfl,r,f⟩:=hrel
   by_cases o:k<n
   ·obtain⟨J,N,x,rfl, -,H,g⟩:=(C.o.on f.o.bel).at_ o
    obtain⟨K,P,y,rfl, -,I,j⟩:=(D.o.on f.o.bel).at_ o
    have F:(k:Int)<(n:Int):=(by omega);have G:IntKind.i64.wrap ((k:Int)+1)=((k+1:Nat):Int):=by rw [zT];omega
    by_cases a:x=y
    ·have d:((x.toNat:Int) !=(y.toNat:Int))=false:=(by rw [a];simp);have t:=zA (r.o.next g.o (by rw [a];exact j.o));clear r a;go_upto_region 6 with fail
     go_quiet (fail)
     have b:=zA (f.o.more nq);obtain⟨Q,q⟩:=eX (wr.drewN nq);rw [q]at b⊢;clear q H I d;go_wp2
     go_roundg (n - (k+1))
     ·exact⟨k+1,by go_num,by omega,rfl,t,b⟩
     ·omega
    ·have d:((x.toNat:Int) !=(y.toNat:Int))=true:=by
      rw [bne_iff_ne];intro h;exact a (UInt8.toNat_inj.1 (by omega))
     have s:=zA (PJ g.o j.o a);clear r a;go_upto_region 6 with fail
     go_quiet (fail)
     have b:=zA (f.o.more nq);go_wp2;go_ret
     exact⟨yl (decide_eq_false s.o).symm,b.o⟩
   ·obtain rfl:k=n:=by omega
    have E:=zA (r.o.all z.o B.o);go_wp2;go_ret
    exact⟨yl (decide_eq_true E.o).symm,f.o⟩
 ·have d:((n:Int) !=m)=true:=(by simp;omega);have l:Hid (xs≠ys):=fun h=>p (by rw [<-z.o,<-B.o,h]);go_enter func22,ntmps22;go_wp2;go_ret
  exact⟨yl (decide_eq_false l.o).symm,0,rfl⟩
theorem RM {A A' :aA} {n m c c' :Nat} {xs ys:aD} {w:O} (s:zL w (·<w.heap.size) A n c xs) (v:zL w (·<w.heap.size) A' m c' ys):
 Calls prog 105 #[.slice A n c,.slice A' m c'] w fun e w' =>e= .returned (.bool (decide (xs=ys)))/\xG w w' :=by
 have E:=s.cap;have z:=zA s.length;have B:=zA v.length;have F:=zA s;have G:=zA v;clear s v
 by_cases p:n=m
 ·subst p;go_enter func105,ntmps105;go_wp2
  go_loopg [5] n (fun gk i wr=>∃k:Nat,i= .int .i64 k/\k<=n/\gk=n - k/\Hid (aV xs ys k)/\Hid (xG w wr))
  case atStart=>exact⟨0,rfl,zJ _,rfl,(show _=_ from rfl),⟨0,rfl⟩⟩
  case round=>
   obtain⟨k,rfl,P,rfl,r,f⟩:=hrel
   by_cases o:k<n
   ·obtain⟨M,Q,x,rfl,g, -,C⟩:=(F.o.on f.o.bel).at_ o
    obtain⟨N,R,y,rfl,j, -,D⟩:=(G.o.on f.o.bel).at_ o
    have K:=C.int.1;have L:=D.int.1;have I:(k:Int)<(n:Int):=(by omega);have J:IntKind.i64.wrap ((k:Int)+1)=((k+1:Nat):Int):=(by rw [zT];omega);clear C D
    by_cases a:x=y
    ·have d:(x !=y)=false:=(by rw [a];simp);have u:=zA (r.o.next g.o (by rw [a];exact j.o));clear r a;go_upto_region 6 with fail
     go_quiet (fail)
     have b:=zA (f.o.more nq);obtain⟨S,q⟩:=eX (wr.drewN nq);rw [q]at b⊢;clear q K L d;go_wp2
     go_roundg (n - (k+1))
     ·exact⟨k+1,by go_num,by omega,rfl,u,b⟩
     ·omega
    ·have d:(x !=y)=true:=(by simpa using a);have t:=zA (PJ g.o j.o a);clear r a;go_upto_region 6 with fail
     go_quiet (fail)
     have b:=zA (f.o.more nq);go_wp2;go_ret
     exact⟨yl (decide_eq_false t.o).symm,b.o⟩
   ·obtain rfl:k=n:=by omega
    have H:=zA (r.o.all z.o B.o);go_wp2;go_ret
    exact⟨yl (decide_eq_true H.o).symm,f.o⟩
 ·have d:((n:Int) !=m)=true:=(by simp;omega);have l:Hid (xs≠ys):=fun h=>p (by rw [<-z.o,<-B.o,h]);go_enter func105,ntmps105;go_wp2;go_ret
  exact⟨yl (decide_eq_false l.o).symm,0,rfl⟩
theorem PZ {a b:aB} {e:Bool} (h:(a.toList==b.toList)=e):e=true↔a=b:=by
 rw [<-h,beq_iff_eq,ByteArray.toList_eq,ByteArray.toList_eq];exact⟨fun e=>ByteArray.ext (Array.toList_inj.1 e),fun h=>by rw [h]⟩
theorem R4 {a b:U64} (h:a.val=b.val):a=b:=by
 cases a;cases b;cases h;rfl
theorem RN {A A' :aA} {n m c c' :Nat} {xs ys:List Entry} {w:O} (t:zL w (·<w.heap.size) A n c xs) (E:zL w (·<w.heap.size) A' m c' ys):
 Calls prog 58 #[.slice A n c,.slice A' m c'] w fun e w' =>e= .returned (.bool (decide (xs=ys)))/\xG w w' :=by
 have P:=t.cap;have H:=zA t.length;have I:=zA E.length;have S:=zA t;have T:=zA E;clear t E
 by_cases o:n=m
 ·subst o;go_enter func58,ntmps58;go_wp2
  go_loopg [5] n (fun gk i wr=>∃k:Nat,i= .int .i64 k/\k<=n/\gk=n - k/\Hid (aV xs ys k)/\Hid (xG w wr))
  case atStart=>exact⟨0,rfl,zJ _,rfl,(show _=_ from rfl),⟨0,rfl⟩⟩
  case round=>
   obtain⟨k,rfl,hk,rfl,r,d⟩:=hrel
   by_cases l:k<n
   ·obtain⟨b1,o1,x,rfl,f, -,J⟩:=(S.o.on d.o.bel).at_ l
    obtain⟨b2,o2,y,rfl,g, -,K⟩:=(T.o.on d.o.bel).at_ l
    obtain⟨A2,n2,c2,x0,x1,x2,Q,_,_⟩:=Entry.at_ J
    obtain⟨A3,n3,U,y0,y1,y2,R,_,_⟩:=Entry.at_ K
    obtain⟨C,t1⟩:=eX ((x.field.toList==y.field.toList));obtain⟨D,t2⟩:=eX ((x.text.toList==y.text.toList));obtain⟨s,F⟩:=eX (decide (x.numbers=y.numbers))
    have G:=zA (fun nq=>pZ (v:= .bool s) (by
     have h:=RM (c:=c2) (c' :=U) (Q.on (zd (zE _ _) nq)) (R.on (zd (zE _ _) nq));rw [F]at h;exact h))
    have X:(k:Int)<(n:Int):=(by omega);have Y:IntKind.i64.wrap ((k:Int)+1)=((k+1:Nat):Int):=(by rw [zT];omega)
    have u:=zA (show(C=true/\D=true/\s=true)↔x=y from by
     rw [PZ t1,PZ t2,<-F,decide_eq_true_eq]
     constructor
     ·rintro⟨L,M,N⟩;cases x;cases y;simp at L M N;simp [L,M,N]
     ·rintro rfl;exact⟨rfl,rfl,rfl⟩)
    clear J K Q R F
    by_cases a:x=y
    ·obtain⟨rfl,rfl,rfl⟩:=u.o.2 a;have B:=zA (r.o.next f.o (by rw [a];exact g.o));clear r a;go_upto_region 6 with fail
     go_quiet ((go_at_call 105;exact G.o _))
     have b:=zA (d.o.more nq);obtain⟨we,q⟩:=eX (wr.drewN nq);rw [q]at b⊢;clear q x0 x1 x2 y0 y1 y2;go_wp2
     go_roundg (n - (k+1))
     ·exact⟨k+1,by go_num,by omega,rfl,B,b⟩
     ·omega
    ·have z:=zA (PJ f.o g.o a);have p:¬(C=true/\D=true/\s=true):=fun h=>a (u.o.1 h);clear r a u;cases C<;>cases D<;>cases s
     all_goals first
      |exact absurd ⟨rfl,rfl,rfl⟩ p
      |(clear p
        go_upto_region 6 with fail
        go_quiet (first|(go_at_call 105;exact G.o _)|fail)
        have b:=zA (d.o.more nq);go_wp2;go_ret
        exact⟨yl (decide_eq_false z.o).symm,b.o⟩)
   ·obtain rfl:k=n:=by omega
    have W:=zA (r.o.all H.o I.o);go_wp2;go_ret
    exact⟨yl (decide_eq_true W.o).symm,d.o⟩
 ·have Z:((n:Int) !=m)=true:=(by simp;omega);have j:Hid (xs≠ys):=fun h=>o (by rw [<-H.o,<-I.o,h]);go_enter func58,ntmps58;go_wp2;go_ret
  exact⟨yl (decide_eq_false j.o).symm,0,rfl⟩
theorem PU {A A' :aA} {n m c c' :Nat} {xs ys:List Entry} {w:O} (h:zL w (·<w.heap.size) A n c xs) (i:zL w (·<w.heap.size) A' m c' ys):
 Calls prog 27 #[.agg #[.slice A n c],.agg #[.slice A' m c']] w fun e w' =>e= .returned (.bool (decide (xs=ys)))/\Below w.heap.size w w' :=by
 obtain⟨H,d⟩:=eX (w.heap.size);have a:=((Sp.start w).blkH 38 #[.slice A n c] d).blkH 38 #[.slice A' m c'] (H:=H+1) (by simp [d]);obtain⟨q,f⟩:=eX ((w.alloc (.cells #[.slice A n c] 38)).alloc (.cells #[.slice A' m c'] 38));rw [f]at a;have b:=a.below M2;have j:=zA (RN (c:=c) (c' :=c') (h.on b) (i.on b));have o:=a.cl M1 0;have p:=a.cl M0 0;have g:=zA b;clear a h i b
 go_enter func27,ntmps27;go_upto_region 1 with fail;clear d;go_wp2_with (go_at_call 58;refine j.o.mono ?_;rintro e r ⟨rfl,l⟩);go_ret
 exact⟨rfl,g.o.trans (l.bel.mono g.o.size)⟩
theorem RO {A A' :aA} {n m c c' :Nat} {xs ys:List xw} {w:O} (K:zL w (·<w.heap.size) A n c xs) (T:zL w (·<w.heap.size) A' m c' ys):
 Calls prog 24 #[.slice A n c,.slice A' m c'] w fun e w' =>e= .returned (.bool (decide (xs=ys)))/\Below w.heap.size w w' :=by
 have ha:=K.cap;have Lx:=zA K.length;have Ly:=zA T.length;have Hx:=zA K;have Hy:=zA T;clear K T
 by_cases C:n=m
 ·subst C;go_enter func24,ntmps24;go_wp2
  go_loopg [5] n (fun gk i wr=>∃k:Nat,i= .int .i64 k/\k<=n/\gk=n - k/\Hid (aV xs ys k)/\Hid (Below w.heap.size w wr))
  case atStart=>exact⟨0,rfl,zJ _,rfl,(show _=_ from rfl),zE _ _⟩
  case round=>
   obtain⟨k,rfl,hk,rfl,t,g⟩:=hrel
   by_cases B:k<n
   ·obtain⟨I,L,x,rfl,l, -,ex⟩:=(Hx.o.on g.o).at_ B
    obtain⟨J,M,y,rfl,o, -,ey⟩:=(Hy.o.on g.o).at_ B
    obtain⟨A2,n2,c2,x0,r,px,E⟩:=xw.at_ ex
    obtain⟨A3,n3,P,p,s,py,G⟩:=xw.at_ ey
    obtain⟨u,Q⟩:=eX (x.1.val);obtain⟨v,S⟩:=eX (y.1.val);rw [Q]at x0;rw [S]at p;have f:Below wr.heap.size wr wr.drew:=(zE _ _).drew;have H:=zA (PU (c:=c2) (c' :=P) (px.on f) (py.on f));have hb:(k:Int)<(n:Int):=(by omega);have hc:IntKind.i64.wrap ((k:Int)+1)=((k+1:Nat):Int):=(by rw [zT];omega);have Hu:=zA Q;have Hv:=zA S;have d:=zA f;clear ex ey px py f Q S E G
    by_cases D:u=v
    ·subst D;have R:((u:Int) !=(u:Int))=false:=by simp
     by_cases q:x.2=y.2
     ·rw [decide_eq_true q]at H;have F:x=y:=Prod.ext (R4 (Hu.o.trans Hv.o.symm)) q;have N:=zA (t.o.next l.o (by rw [F];exact o.o));clear t F q;go_upto_region 6 with fail
      go_region_held3 (fun W=>W.cell? ⟨I,L+k*2,none⟩=some (.int .u64 (u:Int))/\W.cell? ⟨I,L+k*2+1,none⟩=some (.slice A2 n2 c2)/\W.cell? ⟨J,M+k*2,none⟩=some (.int .u64 (u:Int))/\W.cell? ⟨J,M+k*2+1,none⟩=some (.slice A3 n3 P)) (first|(with_reducible exact⟨by assumption,by assumption,by assumption,by assumption⟩)|trivial|fail) (first
       |(go_at_call 27;refine H.o.mono ?_;rintro e w3 ⟨rfl,a⟩;have U:=(a.cell (ye x0)).trans x0;have X:=(a.cell (ye r)).trans r;have Y:=(a.cell (ye p)).trans p;have Z:=(a.cell (ye s)).trans s)
       |fail)
      have b:=zA (g.o.trans ((d.o.trans (a.mono d.o.size)).mono g.o.size));clear x0 r p s a U X Y Z;go_wp2
      go_roundg (n - (k+1))
      ·exact⟨k+1,by go_num,by omega,rfl,N,b⟩
      ·omega
     ·rw [decide_eq_false q]at H;have j:=zA (PJ l.o o.o fun h=>q (by rw [h]));clear t q;go_upto_region 6 with fail
      go_region_held3 (fun W=>W.cell? ⟨I,L+k*2,none⟩=some (.int .u64 (u:Int))/\W.cell? ⟨I,L+k*2+1,none⟩=some (.slice A2 n2 c2)/\W.cell? ⟨J,M+k*2,none⟩=some (.int .u64 (u:Int))/\W.cell? ⟨J,M+k*2+1,none⟩=some (.slice A3 n3 P)) (first|(with_reducible exact⟨by assumption,by assumption,by assumption,by assumption⟩)|trivial|fail) (first
       |(go_at_call 27;refine H.o.mono ?_;rintro e w3 ⟨rfl,a⟩;have U:=(a.cell (ye x0)).trans x0;have X:=(a.cell (ye r)).trans r;have Y:=(a.cell (ye p)).trans p;have Z:=(a.cell (ye s)).trans s)
       |fail)
      have b:=zA (g.o.trans ((d.o.trans (a.mono d.o.size)).mono g.o.size));clear x0 r p s a U X Y Z;go_wp2;go_ret
      exact⟨yl (decide_eq_false j.o).symm,b.o⟩
    ·have R:((u:Int) !=(v:Int))=true:=(by simp;omega);have j:=zA (PJ l.o o.o fun h=>D (by rw [<-Hu.o,<-Hv.o,h]));clear t;go_upto_region 6 with fail
     go_quiet (fail)
     have b:=zA (zd g.o nq);go_wp2;go_ret
     exact⟨yl (decide_eq_false j.o).symm,b.o⟩
   ·obtain rfl:k=n:=by omega
    have he:=zA (t.o.all Lx.o Ly.o);go_wp2;go_ret
    exact⟨yl (decide_eq_true he.o).symm,g.o⟩
 ·have hf:((n:Int) !=m)=true:=(by simp;omega);have z:Hid (xs≠ys):=fun h=>C (by rw [<-Lx.o,<-Ly.o,h]);go_enter func24,ntmps24;go_wp2;go_ret
  exact⟨yl (decide_eq_false z.o).symm,zE _ _⟩
theorem i7 {L:List Asn} {w:O} (g:Nat) (z:aG) (n:Nat) (p:Nat->Bool) (N:∀args w,(callFunc g args).run prog w= .ok (.enter g args) w) (U:n<=1000000000) (y:Sp w L)
 (A:∀(W:O) (i:Nat),Sp W L->i<n->Calls prog g (#[.int .i64 (i:Int)]++z) W fun e w' =>e= .returned (.bool (p i))/\Sp w' L) (C:∀a b,a<=b->b<n->p a=true->p b=true):
 Calls prog 100 #[.int .i64 (n:Int),.func (.func g) #[] z] w fun e w' =>∃k:Nat,e= .returned (.int .i64 (k:Int))/\k<=n/\(∀i,i<n->(i<k↔p i=false))/\Sp w' L:=by
 have F:=zA A;have x:=zA C;clear A C;go_enter func100,ntmps100;go_wp2
 go_loopg [5,6] n (fun gk v5 K wr=>∃(i j:Nat),v5= .int .i64 i/\K= .int .i64 j/\i<=j/\j<=n/\gk=j - i/\Sp wr L/\Hid ((∀t,t<i->p t=false)/\∀t,j<=t->t<n->p t=true))
 case atStart=>exact⟨0,n,rfl,rfl,zJ _,zC _,rfl,y,⟨fun t h=>by omega,fun t u f=>by omega⟩⟩
 case round=>
  obtain⟨i,j,rfl,rfl,H,B,rfl,o,l⟩:=hrel;clear y
  by_cases J:i<j
  ·obtain⟨s,X⟩:=eX (i+j);obtain⟨h,T⟩:=eX (s / 2);have u:IntKind.i64.wrap (s:Int)=(s:Int):=(by rw [zT];omega);have f:((i:Int)+(j:Int))=(s:Int):=(by omega);have P:IntKind.u64.wrap (s:Int)=(s:Int):=(by rw [zW];omega);have Q:(s:Int) / 2^1=(h:Int):=(by omega);have G:(s:Int) / 2=(h:Int):=(by omega);have R:IntKind.i64.wrap (h:Int)=(h:Int):=(by rw [zT];omega)
   have S:IntKind.u64.wrap (h:Int)=(h:Int):=(by rw [zW];omega);have q:h<n:=(by omega);have I:h<j:=(by omega);have v:i<=h:=(by omega);have m:=F.o wr h o q;cases hp:p h
   ·rw [hp]at m;have r:=zA m
    have c:Hid ((∀t,t<h+1->p t=false)/\∀t,j<=t->t<n->p t=true):=⟨fun t E=>by
     cases hpt:p t
     ·rfl
     ·rw [x.o t h (by omega) q hpt]at hp;exact absurd hp (by simp),l.o.2⟩
    clear m hp l;go_wp2_with (go_at_fn g;refine r.o.mono ?_;rintro e M ⟨rfl,d⟩)
    go_roundg (j - (h+1))
    ·exact⟨h+1,j,by go_num,rfl,by omega,B,rfl,d,c⟩
    ·omega
   ·rw [hp]at m;have r:=zA m;have c:Hid ((∀t,t<i->p t=false)/\∀t,h<=t->t<n->p t=true):=⟨l.o.1,fun t u f=>x.o h t u f hp⟩;clear m hp l;go_wp2_with (go_at_fn g;refine r.o.mono ?_;rintro e M ⟨rfl,d⟩)
    go_roundg (h - i)
    ·exact⟨i,h,rfl,rfl,v,by omega,rfl,d,c⟩
    ·omega
  ·obtain rfl:i=j:=by omega
   go_wp2;go_ret
   exact⟨i,rfl,B,fun t E=>⟨fun h=>l.o.1 t h,fun h=>by
    rcases zk t i with f|f
    ·exact f
    ·rw [l.o.2 t f E]at h;exact absurd h (by simp)⟩,o⟩
theorem mS:∀{l:List aB} {p:Option aB},xj p l=true->(l.map zn).Pairwise (·<·)/\∀q,p=some q->∀x∈l,zn q<zn x
 | [],_,_=>⟨List.Pairwise.nil,fun _ _ _ h=>absurd h (by simp)⟩
 |s::l,p,h=>by
  unfold xj at h;simp only [zM]at h;obtain⟨e,b⟩:=mS h.2;refine⟨?_,fun q f x a=> ?_⟩
  ·rw [yH,List.pairwise_cons];refine⟨fun y g=> ?_,e⟩;obtain⟨x,a,rfl⟩:=List.mem_map.1 g;exact b s rfl x a
  ·subst f
   have c:zn q<zn s:=by
    have d:=h.1.2;simp only [Vw,decide_eq_true_eq]at d;exact d
   rcases yx.1 a with rfl|a
   ·exact c
   ·exact List.lt_trans c (b s rfl x a)
theorem dJ {ls:List aB} (h:xQ ls=true):(ls.map zn).Pairwise (·<·):=by
 unfold xQ at h;simp only [zM]at h;exact(mS h.2).1
theorem aZ {ls:List aB} (h:(ls.map zn).Pairwise (·<·)) {i j:Nat} {x y:aB} (a:i<j) (b:ls[i]? =some x) (c:ls[j]? =some y):zn x<zn y:=by
 have d:=zN b;have e:=zN c;have g:=List.pairwise_iff_getElem.1 h i j (by simpa using d) (by simpa using e) a;have f:ls[i]=x:=by rw [zB d]at b;exact yG b
 have k:ls[j]=y:=by rw [zB e]at c;exact yG c
 simpa [f,k]using g
theorem o8 (a b:aB):(decide (zn a<zn b)=true/\decide (zn b<zn a)=false/\(a.toList==b.toList)=false)\/(decide (zn a<zn b)=false/\decide (zn b<zn a)=false/\(a.toList==b.toList)=true)\/(decide (zn a<zn b)=false/\decide (zn b<zn a)=true/\(a.toList==b.toList)=false):=by
 have c:zn a≠zn b->(a.toList==b.toList)=false:=fun h=>by
  rw [Lib.toList_data,Lib.toList_data];exact beq_eq_false_iff_ne.2 h
 rcases Classical.em (zn a<zn b)with h|h
 ·refine .inl ⟨decide_eq_true h,decide_eq_false fun g=>ZO _ (List.lt_trans h g),c fun e=> ?_⟩;rw [e]at h;exact ZO _ h
 ·rcases Classical.em (zn a=zn b)with e|e
  ·refine .inr (.inl ⟨decide_eq_false h,decide_eq_false ?_,?_⟩)
   ·rw [e];exact ZO _
   ·rw [QT e];simp
  ·refine .inr (.inr ⟨decide_eq_false h,decide_eq_true ?_,c e⟩);rcases List.le_total (zn a) (zn b)with d|d
   ·exact absurd (List.le_antisymm d h) e
   ·rcases List.le_iff_lt_or_eq.1 d with f|f
    ·exact f
    ·exact absurd f.symm e
section
variable {L:List Asn} {D:Nat} {s:aB} {ls:List aB} {at_:aE} {w:O}
theorem AA {H G i:Nat} {x:aB} {q r:TypeId} (c:Sp w (BlkA H q #[.pointer (some ⟨D,0,none⟩)]::BlkA G r #[.string s]::L)) (o:aX L D ls at_) (k:(tFi ls)[i]? =some x):
 Calls prog 101 #[.int .i64 (i:Int),.pointer (some ⟨H,0,none⟩),.pointer (some ⟨G,0,none⟩)] w fun e w' =>e= .returned (.bool (decide (zn s<zn x)))/\Sp w' (BlkA H q #[.pointer (some ⟨D,0,none⟩)]::BlkA G r #[.string s]::L):=by
 have C:=c.cl M0 0;have E:=c.cl M1 0;obtain⟨_,_,_,A,z,c2,_,B,_,_,h⟩:=YQ (o _ c.tail.tail);have v:i<z:=by have:=zN k;have:=h.length;omega
 have n:=h.cap;obtain⟨b,off,y,rfl,l,t,p⟩:=h.at_ v
 obtain rfl:y=x:=yG (l.o.symm.trans k);have u:w.cell? ⟨b,off+i,none⟩=some (.string y):=p.str.1;have j:=zA c;have a:=Vw y s;have g:=o8 y s;clear c h p k l t o;rcases g with⟨d,f,m⟩|⟨d,f,m⟩|⟨d,f,m⟩
 ·rw [f];rw [d]at a;go_enter func101,ntmps101;go_wp2_with fail
  go_quiet (fail)
  go_wp2;go_ret
  exact⟨rfl,j.o.drewN _⟩
 ·rw [f];rw [d]at a;go_enter func101,ntmps101;go_wp2_with fail
  go_quiet (fail)
  go_wp2;go_ret
  exact⟨rfl,j.o.drewN _⟩
 ·rw [f];rw [d]at a;go_enter func101,ntmps101;go_wp2_with fail
  go_quiet (fail)
  go_wp2;go_ret
  exact⟨rfl,j.o.drewN _⟩
theorem uB {H G i g n c:Nat} {x:aB} {b:List aB} {h j:TypeId} (a:Sp w (BlkA H h #[.slice (some ⟨g,0,none⟩) n c]::BlkA G j #[.string s]::SA (some ⟨g,0,none⟩) n c b::L)) (f:b[i]? =some x):
 Calls prog 187 #[.int .i64 (i:Int),.pointer (some ⟨H,0,none⟩),.pointer (some ⟨G,0,none⟩)] w fun e w' =>e= .returned (.bool (!decide (zn x<zn s)))/\Sp w' (BlkA H h #[.slice (some ⟨g,0,none⟩) n c]::BlkA G j #[.string s]::SA (some ⟨g,0,none⟩) n c b::L):=by
 have m:=a.cl M0 0;have o:=a.cl M1 0;have p:=a.rowCell M2 (bU f);have l:i<n:=by have:=zN f;have:=(a.rowOf M2).1;simp [sC]at this;omega
 have k:=zA a;have d:=Vw x s;clear a f;cases hb:decide (zn x<zn s)with
 |_=>
  rw [hb]at d;go_enter func187,ntmps187;go_wp2_with fail
  go_quiet (fail)
  go_wp2;go_ret
  exact⟨rfl,k.o.drewN _⟩
theorem uA {g n c:Nat} {d:List aB} (v:Sp w (SA (some ⟨g,0,none⟩) n c d::L)) (C:d.length=n) (K:n<=1000000000) (E:(d.map zn).Pairwise (·<·)):
 Calls prog 103 #[.slice (some ⟨g,0,none⟩) n c,.string s] w fun e w' =>∃k:Nat,e= .returned (.int .i64 (k:Int))/\Z0 d s k/\Sp w' (SA (some ⟨g,0,none⟩) n c d::L):=by
 obtain⟨H,p⟩:=eX (w.heap.size);have f:=(v.blkH 129 #[.slice (some ⟨g,0,none⟩) n c] p).blkH 9 #[.string s] (H:=H+1) (by simp [p]);obtain⟨M,r⟩:=eX ((w.alloc (.cells #[.slice (some ⟨g,0,none⟩) n c] 129)).alloc (.cells #[.string s] 9));rw [r]at f;have j:=f.p1;have J:=@mF prog
 have l:=zA (i7 (w:=M) (L:=BlkA H 129 #[.slice (some ⟨g,0,none⟩) n c]::BlkA (H+1) 9 #[.string s]::SA (some ⟨g,0,none⟩) n c d::L) 187 #[.pointer (some ⟨H,0,none⟩),.pointer (some ⟨H+1,0,none⟩)] n (fun i=> !decide (zn (d.getD i ⟨#[]⟩)<zn s))
  (enters_of func187 (by kernel_rfl) rfl) K j
  (fun W i h B=>by
   have m:d[i]? =some (d.getD i ⟨#[]⟩):=(by rw [zm,zB (by omega)];rfl);exact uB h m)
  (fun a b G q h=>by
   have t:d[a]? =some (d.getD a ⟨#[]⟩):=(by rw [zm,zB (by omega)];rfl);have u:d[b]? =some (d.getD b ⟨#[]⟩):=(by rw [zm,zB (by omega)];rfl);simp only [Bool.not_eq_true',decide_eq_false_iff_not]at h⊢;intro z;rcases zk a b with A|A
   ·exact h (List.lt_trans (aZ E A t u) z)
   ·obtain rfl:a=b:=by omega
    exact h z))
 have y:=zA C;have N:=j.cl M0 0;clear v f j C E;go_enter func103,ntmps103;go_upto_region 1 with fail;clear p;go_wp2_with fail;refine l.o.mono ?_;rintro e P ⟨k,rfl,I,q,o⟩;have F:=zA q;clear q l;go_wp2;go_ret
 refine⟨k,rfl,⟨by rw [y.o];exact I,fun i x m=> ?_⟩,o.tail.tail⟩;have B:i<n:=by have:=zN m;have:=y.o;omega
 have h:=F.o i B;rw [h,zm,m];simp
theorem O6 {a b c:aB} (h:zn a<zn b) (f:¬zn c<zn b):zn a<zn c:=by
 rcases o8 c b with⟨d, -, -⟩|⟨-, -,d⟩|⟨-,d, -⟩
 ·exact absurd (of_decide_eq_true d) f
 ·have e:zn c=zn b:=by
   rw [Lib.toList_data,Lib.toList_data]at d;exact eq_of_beq d
  rw [e];exact h
 ·exact List.lt_trans h (of_decide_eq_true d)
theorem OX {a b:aB} (h:zn a<zn b):¬zn b<zn a:=fun c=>ZO _ (List.lt_trans h c)
theorem QL {k:Nat} (h:16*k<ls.length):∃y,ls[16*k]? =some y/\(tFi ls)[k]? =some y/\(tFi ls).getD k ⟨#[]⟩=y:=by
 obtain⟨y,b⟩:∃y,ls[16*k]? =some y:=⟨_,zB h⟩;have a:=pV b;exact⟨y,b,a,by rw [zm,a];rfl⟩
theorem tW (g:(ls.map zn).Pairwise (·<·)) (h:0<nB ls.length->zn s<zn ((tFi ls).getD 0 ⟨#[]⟩)):Z0 ls s 0:=by
 refine⟨zJ _,fun q x b=>⟨fun h=>by omega,fun c=> ?_⟩⟩;have i:=zN b;obtain⟨y,d, -,e⟩:=QL (ls:=ls) (k:=0) (by omega);have a:=h (by unfold nB;omega);rw [e]at a;rcases zi q with rfl|f
 ·cases d.symm.trans b;exact absurd c (OX a)
 ·exact absurd (List.lt_trans a (aZ g f d b)) (OX c)
theorem C5 {i j:Nat} (o:(ls.map zn).Pairwise (·<·)) (A:16*i<ls.length) (h:∀k,k<nB ls.length->(k<i+1↔decide (zn s<zn ((tFi ls).getD k ⟨#[]⟩))=false)) (n:Z0 (bkT ls i) s j):Z0 ls s (16*i+j):=by
 obtain⟨y,t, -,u⟩:=QL A;have l:=of_decide_eq_false ((h i (by unfold nB;omega)).1 (by omega));rw [u]at l;have v:=n.1;rw [XR]at v;refine⟨by omega,fun q x a=> ?_⟩;have B:=zN a;rcases zk q (16*i)with c|c
 ·exact⟨fun _=>O6 (aZ o c a t) l,fun _=>by omega⟩
 ·obtain⟨r,rfl⟩:=Nat.exists_eq_add_of_le c;rcases zk r 16 with m|m
  ·have b:=n.2 r x (by rw [Ur m];exact a);rw [<-b];omega
  ·refine⟨fun h=>by omega,fun b=> ?_⟩;obtain⟨z,d, -,p⟩:=QL (ls:=ls) (k:=i+1) (by omega)
   have f:zn s<zn z:=by
    rw [<-p];cases g6:decide (zn s<zn ((tFi ls).getD (i+1) ⟨#[]⟩))with
    |true=>exact of_decide_eq_true g6
    |false=>exact absurd ((h (i+1) (by unfold nB;omega)).2 g6) (by omega)
   rcases zk (16*(i+1)) (16*i+r)with g|g
   ·exact absurd (List.lt_trans f (aZ o g d a)) (OX b)
   ·have e:16*i+r=16*(i+1):=(by omega);rw [e]at a;cases d.symm.trans a;exact absurd b (OX f)
theorem AW (h:Sp w L) (T:aX L D ls at_) (E:xQ ls=true) (P:at_.length=ls.length) (hu:∀x∈at_,x<18446744073709551616):
 Calls prog 49 #[.pointer (some ⟨D,0,none⟩),.string s] w fun e w' =>∃k:Nat,e= .returned (.int .i64 (k:Int))/\Z0 ls s k/\Sp w' L:=by
 have hp:=dJ E;obtain⟨H,hH⟩:=eX (w.heap.size);have q:=(h.blkH 44 #[.pointer (some ⟨D,0,none⟩)] hH).blkH 9 #[.string s] (H:=H+1) (by simp [hH]);obtain⟨w2,B⟩:=eX ((w.alloc (.cells #[.pointer (some ⟨D,0,none⟩)] 44)).alloc (.cells #[.string s] 9));rw [B]at q;have f:=q.p1;obtain⟨M,C⟩:=eX (BlkA H 44 #[.pointer (some ⟨D,0,none⟩)]::BlkA (H+1) 9 #[.string s]::L)
 have Q:aX M D ls at_:=by subst C;exact fun w' h=>T _ h.tail.tail
 have N:∀w',Sp w' M->Sp w' L/\w'.cell? ⟨H,0,none⟩=some (.pointer (some ⟨D,0,none⟩))/\w'.cell? ⟨H+1,0,none⟩=some (.string s):=by subst C;exact fun w' h=>⟨h.tail.tail,h.cell M0 0,h.cell M1 0⟩
 obtain⟨n,o⟩:=eX (ls.length);obtain⟨_,_,_,A2,n2,c2, -,d1,d2, -,hf⟩:=YQ (T _ f.tail.tail);rw [o]at d2;have S:n<=1048576:=by unfold xQ at E;simp only [zM,decide_eq_true_eq]at E;rw [<-o];exact E.1
 have c:n2=nB n:=by rw [<-hf.length];unfold tFi;simp [o]
 have p:=zA (WZ d2)
 have I:=zA (i7 (w:=w2) (L:=M) 101 #[.pointer (some ⟨H,0,none⟩),.pointer (some ⟨H+1,0,none⟩)] n2 (fun i=>decide (zn s<zn ((tFi ls).getD i ⟨#[]⟩)))
  (enters_of func101 (by kernel_rfl) rfl) (by unfold nB at c;omega) (by subst C;exact f)
  (fun W i h hi=>by
   obtain⟨y, -,h2,h3⟩:=QL (ls:=ls) (k:=i) (by rw [o];unfold nB at c;omega);show Calls _ _ _ _ fun e w' =>e= .returned (.bool (decide (zn s<zn ((tFi ls).getD i ⟨#[]⟩))))/\_;rw [h3];subst C;exact AA h T h2)
  (fun a b hl hb h=>by
   obtain⟨x,h1, -,h3⟩:=QL (ls:=ls) (k:=a) (by rw [o];unfold nB at c;omega);obtain⟨y,h4, -,h6⟩:=QL (ls:=ls) (k:=b) (by rw [o];unfold nB at c;omega);rw [h3,decide_eq_true_eq]at h;rw [h6,decide_eq_true_eq];rcases zk a b with h7|h7
   ·exact List.lt_trans h (aZ hp (by omega) h1 h4)
   ·obtain rfl:a=b:=by omega
    cases h1.symm.trans h4;exact h))
 have ho:=@mF prog;have q0:=f.cl M0 0;have Z:Hid (Sp w2 M):=by subst C;exact f
 have Hp:=zA hp;have hc:=zA Q;have d:=zA N;have Ht:=zA E;have ha:=zA P;have Hu:=zA hu;have K:=zA o;have v:=zA c;clear c h q f T Q N hp E P hu hf C;go_enter func49,ntmps49;go_upto_region 1 with fail;clear hH
 by_cases h0:n=0
 ·have hg:(n:Int)=0:=(by omega)
  have u:Hid (Z0 ls s 0):=by
   show Z0 ls s 0;have:ls= []:=zS (by rw [K.o];exact h0);subst this;exact⟨zC _,fun i x hx=>by simp at hx⟩
  clear o B;go_wp2_with (go_at_call 19;refine p.o.mono ?_;rintro e w1 ⟨rfl,rfl⟩);go_ret
  exact⟨0,rfl,u.o,(d.o _ Z.o).1⟩
 ·have hg:¬(n:Int)=0:=(by omega);clear h0 o B;go_upto_region 3 with(go_at_call 19;refine p.o.mono ?_;rintro e w1 ⟨rfl,rfl⟩);go_wp2_with fail;refine I.o.mono ?_;rintro e w3 ⟨X,rfl,R,hb,t⟩;have Hb:=zA hb;have q0:w3.cell? ⟨H,0,none⟩=some (.pointer (some ⟨D,0,none⟩)):=(d.o _ t).2.1;clear hb I;rcases zi X with rfl|U
  ·have u:Hid (Z0 ls s 0):=tW Hp.o fun h=>by
    rw [K.o,<-v.o]at h;cases g6:decide (zn s<zn ((tFi ls).getD 0 ⟨#[]⟩))with
    |true=>exact of_decide_eq_true g6
    |false=>exact absurd ((Hb.o 0 h).2 g6) (by omega)
   clear R S;go_wp2;go_ret
   exact⟨0,rfl,u.o,(d.o _ t).1⟩
  ·obtain⟨i,hi⟩:∃i,X=i+1:=⟨X - 1,by omega⟩;have l:16*i<n:=(by have c:=v.o;unfold nB at c;omega);have a1:(X:Int) - 1=(i:Int):=(by omega);have a2:IntKind.i64.wrap (i:Int)=(i:Int):=(by rw [zT];omega);have a3:¬(i:Int)<0:=(by omega);obtain⟨z,hz⟩:=eX (16*i);have a4:(i:Int)*16=(z:Int):=(by omega);have a5:IntKind.i64.wrap (z:Int)=(z:Int):=(by rw [zT];omega);have Hz:=zA hz;have Hi:=zA hi
   have J:=zA l;have hs:z<1048576:=(by omega);have HB:=zA (Up (k:=i) t hc.o Ht.o ha.o Hu.o (by rw [K.o];exact l));clear hz hi U R S l;go_upto_region 7 with(go_at_call 102;refine HB.o.mono ?_;rintro e w4 ⟨g,g2,m,rfl,hm,F⟩;have Hm:=zA hm;clear hm);have q1:w4.cell? ⟨H+1,0,none⟩=some (.string s):=(d.o _ F.tail.tail).2.2
   have hh:m<=16:=(by have:=Hm.o;omega);have G:=zA (uA (s:=s) F (by rw [XR];exact Hm.o.symm) (by omega) (Hp.o.sublist (((List.take_sublist _ _).trans (List.drop_sublist _ _)).map _)));clear HB q0;go_wp2_with fail;refine G.o.mono ?_;rintro e w5 ⟨j,rfl,A,Y⟩;have hj:j<=16:=(by have:=A.1;rw [XR]at this;omega);obtain⟨r,hr⟩:=eX (z+j);have a6:(z:Int)+(j:Int)=(r:Int):=(by omega)
   have a7:IntKind.i64.wrap (r:Int)=(r:Int):=(by rw [zT];omega)
   have he:Hid (Z0 ls s r):=by
    have h:=C5 Hp.o (i:=i) (by rw [K.o];exact J.o) (fun k U=>by
     rw [K.o,<-v.o]at U;have:=Hb.o k U
     rwa [Hi.o]at this) A
    rw [Hz.o,hr]at h;exact h
   clear A hr hj G;go_wp2;go_ret
   exact⟨r,rfl,he.o,(d.o _ Y.tail.tail).1⟩
theorem GX {o:Nat} {x:aB} (h:Sp w L) (q:aX L D ls at_) (l:xQ ls=true) (d:at_.length=ls.length) (C:∀x∈at_,x<18446744073709551616) (v:ls[o]? =some x):
 Calls prog 50 #[.pointer (some ⟨D,0,none⟩),.int .i64 (o:Int)] w fun e w' =>e= .returned (.string x)/\Sp w' L:=by
 have b:=zN v;obtain⟨n,p⟩:=eX (ls.length);obtain⟨_,_,_,_,_,_,_,_,z,_,_⟩:=YQ (q _ h);obtain⟨k,t⟩:=eX (o / 16);obtain⟨j,A⟩:=eX (o%16);have a:=zA (WZ z);have y:=zA (Up (k:=k) h q l d C (by have:=b;rw [<-t];omega));rw [p]at a y;have u:n<=1048576:=by unfold xQ at l;simp only [zM,decide_eq_true_eq]at l;rw [<-p];exact l.1
 have i:o<n:=by rw [<-p];exact b
 obtain⟨R,Q,K,M,G,I,N,J,F,H,f,r⟩:=pP t A i u
 have E:Hid ((bkT ls k)[j]? =some x):=by
  show _=_;rw [Ur f,r];exact v
 clear h q l d C v b p z t A;go_enter func50,ntmps50
 go_wp2_with (first
  |(go_at_call 19;refine a.o.mono ?_;rintro e U ⟨rfl,rfl⟩)
  |(go_at_call 102;refine y.o.mono ?_;rintro e W ⟨g,S,m,rfl,P,c⟩;have T:=c.rowCell M0 (bU E.o);have B:(j:Int)<m:=(by omega);clear P)
  |fail)
 go_ret
 exact⟨rfl,c.tail.tail⟩
theorem JV (h:Sp w L) (p:aX L D ls at_) (q:xQ ls=true) (i:at_.length=ls.length) (A:∀x∈at_,x<18446744073709551616):
 Calls prog 12 #[.pointer (some ⟨D,0,none⟩),.string s] w fun e w' =>∃(k:Nat) (b:Bool),e= .returned (.tuple #[.int .i64 (k:Int),.bool b])/\(b=true->ls[k]? =some s)/\(b=false->k=0/\s ∉ ls)/\Sp w' L:=by
 have C:=zA (AW (s:=s) h p q i A);obtain⟨n,z⟩:=eX (ls.length)
 have M:=zA (fun(W:O) (r:Sp W L)=>by
  obtain⟨_,_,_,_,_,_,_,_,I,_,_⟩:=YQ (p _ r);rw [z]at I;exact WZ I)
 have N:=zA (fun(W:O) (r:Sp W L) (o:Nat) (x:aB) (Q:ls[o]? =some x)=>GX r p q i A Q);have F:=zA (dJ q);have E:=zA z;clear h p q i A z;go_enter func12,ntmps12;go_wp2_with fail;refine C.o.mono ?_;rintro e J ⟨k,rfl,m,d⟩;have l:=zA m;have c:=zA (M.o J d);clear m C
 by_cases t:k<n
 ·have u:¬n<=k:=(by omega);have v:¬(n:Int)<=(k:Int):=(by omega);obtain⟨x,B⟩:∃x,ls[k]? =some x:=⟨_,zB (by rw [E.o];exact t)⟩;have j:=zA (N.o J d k x B);have G:=zA B;clear B t
  by_cases a:x=s
  ·have H:(x.toList==s.toList)=true:=(by rw [a];simp);have P:(x.toList !=s.toList)=false:=(by rw [a];simp);have g:=zA a;clear a
   go_wp2_with (first
    |(go_at_call 19;refine c.o.mono ?_;rintro e K ⟨rfl,rfl⟩)
    |(go_at_call 50;refine j.o.mono ?_;rintro e R ⟨rfl,f⟩)
    |fail)
   go_ret2;exact⟨k,true,rfl,fun _=>by rw [<-g.o];exact G.o,fun h=>(by cases h),f⟩
  ·have H:(x.toList==s.toList)=false:=by
    rw [Lib.toList_data,Lib.toList_data];exact beq_eq_false_iff_ne.2 fun h=>a (QT h)
   have P:(x.toList !=s.toList)=true:=(by simp [bne,H]);have g:=zA a;clear a
   go_wp2_with (first
    |(go_at_call 19;refine c.o.mono ?_;rintro e K ⟨rfl,rfl⟩)
    |(go_at_call 50;refine j.o.mono ?_;rintro e R ⟨rfl,f⟩)
    |fail)
   go_ret2;exact⟨0,false,rfl,fun h=>(by cases h),fun _=>⟨rfl,fun y=>g.o (yG (G.o.symm.trans (l.o.get F.o y)))⟩,f⟩
 ·have u:n<=k:=(by omega);have v:(n:Int)<=(k:Int):=(by omega);clear t;go_wp2_with (go_at_call 19;refine c.o.mono ?_;rintro e K ⟨rfl,rfl⟩);go_ret2;exact⟨0,false,rfl,fun h=>(by cases h),fun _=>⟨rfl,fun y=>by have:=zN (l.o.get F.o y);rw [E.o]at this;omega⟩,d⟩
end
end Go.Proofs.YtjbhbfaeielbiaaGreatDoor

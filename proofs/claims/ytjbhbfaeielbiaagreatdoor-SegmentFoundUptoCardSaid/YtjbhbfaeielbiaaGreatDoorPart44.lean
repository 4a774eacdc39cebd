import Derived.Test.YtjbhbfaeielbiaaGreatDoorPart43
import Derived.Deep.Fields
import Derived.OpenShut
set_option maxRecDepth 100000
set_option maxHeartbeats 8000000
set_option linter.unusedVariables false
set_option linter.unusedSimpArgs false
namespace Go.Proofs.YtjbhbfaeielbiaaGreatDoor
open Go.Proofs.Tryz
open Rep (rep)
open Go.RowKit
theorem NO (A:aA) (n c H:Nat) (w:O) (a:w.heap.size=H):
 Calls prog 70 #[.slice A n c] w fun e w' =>e= .returned (.func (.func 125) #[] #[.pointer (some ⟨H,0,none⟩)])/\w' =w.alloc (.cells #[.slice A n c] 128):=by
 have b:=@mF prog;subst a;go_enter func70,ntmps70;go_wp2;go_ret
 exact⟨rfl,rfl⟩
theorem zL.tail1 {α:Type} [Rep α] {w:O} {F:Nat->Prop} {b off n c:Nat} {x:α} {xs:List α} {A' :aA} (h:zL w F (some ⟨b,off,none⟩) (n+1) c (x::xs)) (i:Rep.size α=1) (hA:n=0\/A' =some ⟨b,off+1,none⟩):zL w F A' n (c - 1) xs:=by
 have g:=h.length;have o:=h.cap;simp only [z6]at g;refine⟨by omega,by omega,by omega,fun k y a=> ?_⟩;have p:=zN a;rcases hA with m|rfl
 ·omega
 ·obtain⟨f,cs,d,e⟩:=h.elem (k:=k+1) (x:=y) (by simpa using a);refine⟨b,off+1,rfl,f,cs,d,fun j u l=> ?_⟩;have:=e j u l;rw [i]at this⊢;rw [<-this]
  congr 2
  omega
theorem XB {C n c B:Nat} {A:aA} {t:TypeId} {x:aC} {xs:List aC} {w W0:O} {L:List Asn} (l:zL W0 (·<B) A (n+1) c (x::xs)) (d:Sp w (BlkA C t #[.slice A (n+1) c]::L)) (hB:OldA B W0∈L):
 Calls prog 125 #[.pointer (some ⟨C,0,none⟩)] w fun e w' =>∃a j f A',e= .returned (.slice a j f)/\zL W0 (·<B) a j f x/\zL W0 (·<B) A' n (c - 1) xs/\Sp w' (BlkA C t #[.slice A' n (c - 1)]::L):=by
 obtain⟨b,off,y,rfl,H,z,q⟩:=l.at_ (k:=0) (by omega)
 cases H.o;obtain⟨a,j,f,p,F⟩:=q.list;have p:w.cell? ⟨b,off,none⟩=some (.slice a j f):=((d.tail.below hB).cell z).trans p;have i:=l.cap;have I:=d.cl M0 0;have J:=(d.blkOf M0).frozen 0;obtain⟨m,r⟩:=eX (n+1)
 obtain⟨A',g,G⟩:∃A' :aA,(n=0\/A' =some ⟨b,off+1,none⟩)/\∀W:O,(Instr.slice 128 (.slice (some ⟨b,off,none⟩) m c) (some (.int .i64 1)) none none).run prog W= .ok (.slice A' n (c - 1)) W:=by
  refine⟨if c=1 then some ⟨b,off,none⟩else some ⟨b,off+1,none⟩,?_,fun W=> ?_⟩
  ·by_cases h:c=1
   ·exact .inl (by omega)
   ·exact .inr (if_neg h)
  ·have s:((1:Int)<=(c:Int)):=(by omega);have u:((1:Int)<=(m:Int)):=(by omega);have v:((m:Int)<=(c:Int)):=(by omega);simp [Instr.slice,Instr.sliceBounds,go_sem,s,u,v];omega
 have E:=l.tail1 rfl g;have o:=d.set 0 (.slice A' n (c - 1));rw [r]at I;have D:¬(m:Int)=0:=by omega
 clear l g q i r d;go_enter func125,ntmps125;go_wp2;go_ret
 exact⟨a,j,f,A',rfl,F,E,o⟩
attribute [local go_sem ↓] zU zV
abbrev DicA (D:Nat) (ls:List aB) (at_:aE):Asn:=DatA (.pointer (some ⟨D,0,none⟩)) (Ptr.mk (some (tBl ls at_,tFi ls,(ls.length:Int))))
theorem YQ {w:O} {F:Nat->Prop} {D:Nat} {bs:List aC} {j:List aB} {n:Int} (h:rep w F [.pointer (some ⟨D,0,none⟩)] (Ptr.mk (some (bs,j,n)))):
 ∃c f e d g c2,w.cell? ⟨D,0,none⟩=some (.slice c f e)/\w.cell? ⟨D,1,none⟩=some (.slice d g c2)/\w.cell? ⟨D,2,none⟩=some (.int .i64 n)/\zL w F c f e bs/\zL w F d g c2 j:=by
 obtain⟨_,cs,⟨_,_,rfl,⟨c,f,e,rfl,m⟩,_,_,rfl,⟨d,g,c2,rfl,o⟩,rfl,_⟩,i⟩:=Ptr.get h;have l:=i 0 _ rfl;have a :=i 1 _ rfl;have b :=i 2 _ rfl;simp only [Nat.zero_mul,yt,zx]at l a b;exact⟨c,f,e,d,g,c2,l,a,b,m,o⟩
abbrev aX (L:List Asn) (D:Nat) (ls:List aB) (at_:aE):Prop:=∀w:O,Sp w L->rep w (·<w.heap.size) [.pointer (some ⟨D,0,none⟩)] (Ptr.mk (some (tBl ls at_,tFi ls,(ls.length:Int))))
section
variable {w:O} {L:List Asn} {D k:Nat} {ls:List aB} {at_:aE}
theorem Up (h:Sp w L) (M:aX L D ls at_) (ht:xQ ls=true) (A:at_.length=ls.length) (R:∀x∈at_,x<18446744073709551616) (hk:16*k<ls.length):
 Calls prog 102 #[.pointer (some ⟨D,0,none⟩),.int .i64 (k:Int)] w fun e w' =>∃g G m,e= .returned (.tuple #[.slice (some ⟨g,0,none⟩) m m,.slice (some ⟨G,0,none⟩) m m])/\m=min 16 (ls.length - 16*k)/\
  Sp w' (SA (some ⟨g,0,none⟩) m m (bkT ls k)::UA (some ⟨G,0,none⟩) m m (bkT at_ k)::L):=by
 obtain⟨n,r⟩:=eX (ls.length);have o:=ht;unfold xQ at o;simp only [zM,decide_eq_true_eq]at o;obtain⟨hg,hr⟩:=o;obtain⟨A1,U,c1,_,_,_,d0,_,d2,B,_⟩:=YQ (M _ h);obtain⟨p',d⟩:=mT hr k;have hlen:U=nB n:=by rw [<-B.length];unfold tBl;simp [r]
 have N:k<U:=by rw [hlen];unfold nB;omega
 obtain⟨b,off,x,rfl,X,K,he⟩:=B.at_ N
 have T:x=ZZ (bkT ls k) (bkT at_ k):=by have h:=X.o;rw [fM hk]at h;exact(yG h).symm
 subst T;obtain⟨A3,n3,c3,e3,z⟩:=he.list;have i:=z.rb fun b B=>B
 have F:n3<=140737488355328:=by
  have:=z.cap;rw [<-z.length]
  have hl:∀(l:List aB) (p:Option aB) (a:aB),xj p l=true->(XZ a l).length<=5000*l.length:=by
   intro l
   induction l with
   |nil=>intro p a _;simp [XZ]
   |cons s l ih=>
    intro p a j;rw [VO];have Q:=YM j s (by simp);have:=ih (some s) s (by unfold xj at j;simp only [zM]at j;exact j.2);have Y:=ya (n:=shN a.data.toList s.data.toList) (by have:=(fN a s).1;omega);have h2:=ya (n:=(s.extract (shN a.data.toList s.data.toList) s.size).size) (by rw [yQ];omega);simp only [zG,z6]
    have z:(s.extract (shN a.data.toList s.data.toList) s.size).data.toList.length<=s.size:=by
     have:(s.extract (shN a.data.toList s.data.toList) s.size).data.toList.length=(s.extract (shN a.data.toList s.data.toList) s.size).size:=(by simp);rw [this,yQ];omega
    omega
  have hf:∀(l:aE),(∀x∈l,x<18446744073709551616)->(l.flatMap zP).length<=10*l.length:=by
   intro l
   induction l with
   |nil=>intro _;simp
   |cons x l ih=>
    intro j;have Y:=ya (n:=x) (by have:=j x (by simp);omega);have:=ih fun y hy=>j y (by simp [hy]);simp only [zp,zG,z6];omega
  have f:(bkT ls k).length<=16:=(by rw [XR];omega);have Z:(bkT at_ k).length<=16:=(by rw [XR];omega);have h2:=hf (bkT at_ k) fun x S=>R x (fE S);cases hb4:bkT ls k with
  |nil=>simp [ZZ]
  |cons a l=>
   rw [hb4]at d f;have Q:=YM d a (by simp);have Y:=hl l (some a) a (by unfold xj at d;simp only [zM]at d;exact d.2);have h5:=ya (n:=a.size) (by omega);have h6:a.data.toList.length=a.size:=(by simp);rw [Xw];simp only [zG,z6]at f⊢;omega
 obtain⟨m,C⟩:=eX (min 16 (n - 16*k));have u:=zA (fun(W:O) (hW:W.cell? ⟨D,2,none⟩=some (.int .i64 (n:Int)))=>lV (k:=k) hW (by omega) (by omega));rw [C]at u;rw [r]at d2⊢;rw [C]
 have v:∀w',Sp w' L->w'.cell? ⟨D,2,none⟩=some (.int .i64 (n:Int)):=fun w' Q=>by
  obtain⟨_,_,_,_,_,_,_,_,q,_,_⟩:=YQ (M _ Q);rw [r]at q;exact q
 have H:=zA (VG (c:=c3) h i F);have D2:=zA v;have Hl:Hid ((bkT ls k).length=m):=by show _=_;rw [XR,r];exact C
 have Ha:Hid ((bkT at_ k).length=m):=by show _=_;rw [XR,A,r];exact C
 have P:0<m:=by omega
 have E:m<=16:=by omega
 have Hr:=zA d;have Hu:=zA (fun(x:Nat) (S:x∈bkT at_ k)=>R x (fE S));have ha:(k:Int)<U:=by omega
 have hc:(0:Int)<=k:=by omega
 clear h M ht A R hk r hr B X he z i F d v C K;go_enter func102,ntmps102
 go_wp2_with (first
  |(go_at_call 73;refine H.o.mono ?_;rintro e w1 ⟨p,rfl,t⟩;have J:=D2.o _ t.tail)
  |(go_at_call 186;refine(u.o _ J).mono ?_;rintro e w4 ⟨rfl,rfl⟩)
  |(go_at_call 185;refine(lA (pre:= []) (post:= []) P E Hl.o Ha.o Hr.o Hu.o (by simpa [rsAt]using t)).mono ?_;rintro e w5 ⟨g,G,rfl,I⟩)
  |fail)
 go_ret2;exact⟨g,G,m,rfl,rfl,I.d2⟩
theorem pP {o k j n:Nat} (d:o / 16=k) (c:o%16=j) (f:o<n) (e:n<=1048576):
 (o:Int)<n/\(0:Int)<=o/\(o:Int) / 16=(k:Int)/\(o:Int).tdiv 16=(k:Int)/\(o:Int)%16=(j:Int)/\(o:Int).tmod 16=(j:Int)/\wrap64 (k:Int)=k/\wrap64 (j:Int)=j/\(0:Int)<=j/\j<min 16 (n - 16*k)/\j<16/\16*k+j=o:=by
 have a:(o:Int).tdiv 16=(o:Int) / 16:=Int.tdiv_eq_ediv_of_nonneg (by omega);have b:(o:Int).tmod 16=(o:Int)%16:=Int.tmod_eq_emod_of_nonneg (by omega);rw [a,b];unfold wrap64;refine⟨?_,?_,?_,?_,?_,?_,?_,?_,?_,?_,?_,?_⟩<;>omega
theorem pH (h:Sp w L) (a:DicA D ls at_∈L):w.cell? ⟨D,2,none⟩=some (.int .i64 (ls.length:Int)):=by
 obtain⟨_,_,_,_,_,_,_,_,q,_,_⟩:=YQ (h.dat a);exact q
theorem L3 {o x:Nat} (h:Sp w (DicA D ls at_::L)) (l:xQ ls=true) (a:at_.length=ls.length) (A:∀x∈at_,x<18446744073709551616) (t:at_[o]? =some x):
 Calls prog 148 #[.pointer (some ⟨D,0,none⟩),.int .i64 (o:Int)] w fun e w' =>e= .returned (.int .u64 (x:Int))/\Sp w' (DicA D ls at_::L):=by
 have c:=zN t;obtain⟨n,p⟩:=eX (ls.length);have v:=pH h M0;obtain⟨k,r⟩:=eX (o / 16);obtain⟨j,y⟩:=eX (o%16);have b:=zA (WZ v);have u:=zA (Up (k:=k) h (fun _ h=>h.dat M0) l a A (by rw [<-a];have:=c;rw [<-r];omega));rw [p]at b u;have s:n<=1048576:=by unfold xQ at l;simp only [zM,decide_eq_true_eq]at l;rw [<-p];exact l.1
 have i:o<n:=by rw [<-p,<-a];exact c
 obtain⟨P,N,I,J,E,G,K,H,C,F,f,q⟩:=pP r y i s
 have B:Hid ((bkT at_ k)[j]? =some x):=by
  show _=_;rw [Ur f,q];exact t
 clear h l a A t c p v r y;go_enter func148,ntmps148
 go_wp2_with (first
  |(go_at_call 19;refine b.o.mono ?_;rintro e S ⟨rfl,rfl⟩)
  |(go_at_call 102;refine u.o.mono ?_;rintro e T ⟨g,Q,m,rfl,M,d⟩;have R:=d.rowCell M1 (WB B.o);have z:(j:Int)<m:=(by omega);clear M)
  |fail)
 go_ret
 exact⟨rfl,d.tail.tail⟩
end
theorem i7 {L:List Asn} {w:O} (g:Nat) (z:aG) (n:Nat) (p:Nat->Bool) (N:∀args w,(callFunc g args).run prog w= .ok (.enter g args) w) (U:n<=1000000000) (y:Sp w L)
 (A:∀(W:O) (i:Nat),Sp W L->i<n->Calls prog g (#[.int .i64 (i:Int)]++z) W fun e w' =>e= .returned (.bool (p i))/\Sp w' L) (C:∀a b,a<=b->b<n->p a=true->p b=true):
 Calls prog 100 #[.int .i64 (n:Int),.func (.func g) #[] z] w fun e w' =>∃k:Nat,e= .returned (.int .i64 (k:Int))/\k<=n/\(∀i,i<n->(i<k↔p i=false))/\Sp w' L:=by
 have F:=zA A;have x:=zA C;clear A C;go_enter func100,ntmps100;go_wp2
 go_loopg [5,6] n (fun gk v5 K wr=>∃(i j:Nat),v5= .int .i64 i/\K= .int .i64 j/\i<=j/\j<=n/\gk=j - i/\Sp wr L/\Hid ((∀t,t<i->p t=false)/\∀t,j<=t->t<n->p t=true))
 case atStart=>exact⟨0,n,rfl,rfl,zJ _,zC _,rfl,y,⟨fun t h=>by omega,fun t u f=>by omega⟩⟩
 case round=>
  obtain⟨i,j,rfl,rfl,H,B,rfl,o,l⟩:=hrel;clear y
  by_cases J:i<j
  ·obtain⟨s,X⟩:=eX (i+j);obtain⟨h,T⟩:=eX (s / 2);have u:IntKind.i64.wrap (s:Int)=(s:Int):=(by rw [zT];omega);have f:((i:Int)+(j:Int))=(s:Int):=(by omega);have P:IntKind.u64.wrap (s:Int)=(s:Int):=(by rw [zW];omega);have Q:(s:Int) / 2^1=(h:Int):=(by omega);have G:(s:Int) / 2=(h:Int):=(by omega);have R:IntKind.i64.wrap (h:Int)=(h:Int):=(by rw [zT];omega)
   have S:IntKind.u64.wrap (h:Int)=(h:Int):=(by rw [zW];omega);have q:h<n:=(by omega);have I:h<j:=(by omega);have v:i<=h:=(by omega);have m:=F.o wr h o q;cases hp:p h
   ·rw [hp]at m;have r:=zA m
    have c:Hid ((∀t,t<h+1->p t=false)/\∀t,j<=t->t<n->p t=true):=⟨fun t E=>by
     cases hpt:p t
     ·rfl
     ·rw [x.o t h (by omega) q hpt]at hp;exact absurd hp (by simp),l.o.2⟩
    clear m hp l;go_wp2_with (go_at_fn g;refine r.o.mono ?_;rintro e M ⟨rfl,d⟩)
    go_roundg (j - (h+1))
    ·exact⟨h+1,j,by go_num,rfl,by omega,B,rfl,d,c⟩
    ·omega
   ·rw [hp]at m;have r:=zA m;have c:Hid ((∀t,t<i->p t=false)/\∀t,h<=t->t<n->p t=true):=⟨l.o.1,fun t u f=>x.o h t u f hp⟩;clear m hp l;go_wp2_with (go_at_fn g;refine r.o.mono ?_;rintro e M ⟨rfl,d⟩)
    go_roundg (h - i)
    ·exact⟨i,h,rfl,rfl,v,by omega,rfl,d,c⟩
    ·omega
  ·obtain rfl:i=j:=by omega
   go_wp2;go_ret
   exact⟨i,rfl,B,fun t E=>⟨fun h=>l.o.1 t h,fun h=>by
    rcases zk t i with f|f
    ·exact f
    ·rw [l.o.2 t f E]at h;exact absurd h (by simp)⟩,o⟩
theorem mS:∀{l:List aB} {p:Option aB},xj p l=true->(l.map zn).Pairwise (·<·)/\∀q,p=some q->∀x∈l,zn q<zn x
 | [],_,_=>⟨List.Pairwise.nil,fun _ _ _ h=>absurd h (by simp)⟩
 |s::l,p,h=>by
  unfold xj at h;simp only [zM]at h;obtain⟨e,b⟩:=mS h.2;refine⟨?_,fun q f x a=> ?_⟩
  ·rw [yH,List.pairwise_cons];refine⟨fun y g=> ?_,e⟩;obtain⟨x,a,rfl⟩:=List.mem_map.1 g;exact b s rfl x a
  ·subst f
   have c:zn q<zn s:=by
    have d:=h.1.2;simp only [Vw,decide_eq_true_eq]at d;exact d
   rcases yx.1 a with rfl|a
   ·exact c
   ·exact List.lt_trans c (b s rfl x a)
theorem dJ {ls:List aB} (h:xQ ls=true):(ls.map zn).Pairwise (·<·):=by
 unfold xQ at h;simp only [zM]at h;exact(mS h.2).1
theorem aZ {ls:List aB} (h:(ls.map zn).Pairwise (·<·)) {i j:Nat} {x y:aB} (a:i<j) (b:ls[i]? =some x) (c:ls[j]? =some y):zn x<zn y:=by
 have d:=zN b;have e:=zN c;have g:=List.pairwise_iff_getElem.1 h i j (by simpa using d) (by simpa using e) a;have f:ls[i]=x:=by rw [zB d]at b;exact yG b
 have k:ls[j]=y:=by rw [zB e]at c;exact yG c
 simpa [f,k]using g
theorem o8 (a b:aB):(decide (zn a<zn b)=true/\decide (zn b<zn a)=false/\(a.toList==b.toList)=false)\/(decide (zn a<zn b)=false/\decide (zn b<zn a)=false/\(a.toList==b.toList)=true)\/(decide (zn a<zn b)=false/\decide (zn b<zn a)=true/\(a.toList==b.toList)=false):=by
 have c:zn a≠zn b->(a.toList==b.toList)=false:=fun h=>by
  rw [Lib.toList_data,Lib.toList_data];exact beq_eq_false_iff_ne.2 h
 rcases Classical.em (zn a<zn b)with h|h
 ·refine .inl ⟨decide_eq_true h,decide_eq_false fun g=>ZO _ (List.lt_trans h g),c fun e=> ?_⟩;rw [e]at h;exact ZO _ h
 ·rcases Classical.em (zn a=zn b)with e|e
  ·refine .inr (.inl ⟨decide_eq_false h,decide_eq_false ?_,?_⟩)
   ·rw [e];exact ZO _
   ·rw [QT e];simp
  ·refine .inr (.inr ⟨decide_eq_false h,decide_eq_true ?_,c e⟩);rcases List.le_total (zn a) (zn b)with d|d
   ·exact absurd (List.le_antisymm d h) e
   ·rcases List.le_iff_lt_or_eq.1 d with f|f
    ·exact f
    ·exact absurd f.symm e
section
variable {L:List Asn} {D:Nat} {s:aB} {ls:List aB} {at_:aE} {w:O}
theorem AA {H G i:Nat} {x:aB} {q r:TypeId} (c:Sp w (BlkA H q #[.pointer (some ⟨D,0,none⟩)]::BlkA G r #[.string s]::L)) (o:aX L D ls at_) (k:(tFi ls)[i]? =some x):
 Calls prog 101 #[.int .i64 (i:Int),.pointer (some ⟨H,0,none⟩),.pointer (some ⟨G,0,none⟩)] w fun e w' =>e= .returned (.bool (decide (zn s<zn x)))/\Sp w' (BlkA H q #[.pointer (some ⟨D,0,none⟩)]::BlkA G r #[.string s]::L):=by
 have C:=c.cl M0 0;have E:=c.cl M1 0;obtain⟨_,_,_,A,z,c2,_,B,_,_,h⟩:=YQ (o _ c.tail.tail);have v:i<z:=by have:=zN k;have:=h.length;omega
 have n:=h.cap;obtain⟨b,off,y,rfl,l,t,p⟩:=h.at_ v
 obtain rfl:y=x:=yG (l.o.symm.trans k);have u:w.cell? ⟨b,off+i,none⟩=some (.string y):=p.str.1;have j:=zA c;have a:=Vw y s;have g:=o8 y s;clear c h p k l t o;rcases g with⟨d,f,m⟩|⟨d,f,m⟩|⟨d,f,m⟩
 ·rw [f];rw [d]at a;go_enter func101,ntmps101;go_wp2_with fail
  go_quiet (fail)
  go_wp2;go_ret
  exact⟨rfl,j.o.drewN _⟩
 ·rw [f];rw [d]at a;go_enter func101,ntmps101;go_wp2_with fail
  go_quiet (fail)
  go_wp2;go_ret
  exact⟨rfl,j.o.drewN _⟩
 ·rw [f];rw [d]at a;go_enter func101,ntmps101;go_wp2_with fail
  go_quiet (fail)
  go_wp2;go_ret
  exact⟨rfl,j.o.drewN _⟩
theorem uB {H G i g n c:Nat} {x:aB} {b:List aB} {h j:TypeId} (a:Sp w (BlkA H h #[.slice (some ⟨g,0,none⟩) n c]::BlkA G j #[.string s]::SA (some ⟨g,0,none⟩) n c b::L)) (f:b[i]? =some x):
 Calls prog 187 #[.int .i64 (i:Int),.pointer (some ⟨H,0,none⟩),.pointer (some ⟨G,0,none⟩)] w fun e w' =>e= .returned (.bool (!decide (zn x<zn s)))/\Sp w' (BlkA H h #[.slice (some ⟨g,0,none⟩) n c]::BlkA G j #[.string s]::SA (some ⟨g,0,none⟩) n c b::L):=by
 have m:=a.cl M0 0;have o:=a.cl M1 0;have p:=a.rowCell M2 (bU f);have l:i<n:=by have:=zN f;have:=(a.rowOf M2).1;simp [sC]at this;omega
 have k:=zA a;have d:=Vw x s;clear a f;cases hb:decide (zn x<zn s)with
 |_=>
  rw [hb]at d;go_enter func187,ntmps187;go_wp2_with fail
  go_quiet (fail)
  go_wp2;go_ret
  exact⟨rfl,k.o.drewN _⟩
theorem uA {g n c:Nat} {d:List aB} (v:Sp w (SA (some ⟨g,0,none⟩) n c d::L)) (C:d.length=n) (K:n<=1000000000) (E:(d.map zn).Pairwise (·<·)):
 Calls prog 103 #[.slice (some ⟨g,0,none⟩) n c,.string s] w fun e w' =>∃k:Nat,e= .returned (.int .i64 (k:Int))/\Z0 d s k/\Sp w' (SA (some ⟨g,0,none⟩) n c d::L):=by
 obtain⟨H,p⟩:=eX (w.heap.size);have f:=(v.blkH 129 #[.slice (some ⟨g,0,none⟩) n c] p).blkH 9 #[.string s] (H:=H+1) (by simp [p]);obtain⟨M,r⟩:=eX ((w.alloc (.cells #[.slice (some ⟨g,0,none⟩) n c] 129)).alloc (.cells #[.string s] 9));rw [r]at f;have j:=f.p1;have J:=@mF prog
 have l:=zA (i7 (w:=M) (L:=BlkA H 129 #[.slice (some ⟨g,0,none⟩) n c]::BlkA (H+1) 9 #[.string s]::SA (some ⟨g,0,none⟩) n c d::L) 187 #[.pointer (some ⟨H,0,none⟩),.pointer (some ⟨H+1,0,none⟩)] n (fun i=> !decide (zn (d.getD i ⟨#[]⟩)<zn s))
  (enters_of func187 (by kernel_rfl) rfl) K j
  (fun W i h B=>by
   have m:d[i]? =some (d.getD i ⟨#[]⟩):=(by rw [zm,zB (by omega)];rfl);exact uB h m)
  (fun a b G q h=>by
   have t:d[a]? =some (d.getD a ⟨#[]⟩):=(by rw [zm,zB (by omega)];rfl);have u:d[b]? =some (d.getD b ⟨#[]⟩):=(by rw [zm,zB (by omega)];rfl);simp only [Bool.not_eq_true',decide_eq_false_iff_not]at h⊢;intro z;rcases zk a b with A|A
   ·exact h (List.lt_trans (aZ E A t u) z)
   ·obtain rfl:a=b:=by omega
    exact h z))
 have y:=zA C;have N:=j.cl M0 0;clear v f j C E;go_enter func103,ntmps103;go_upto_region 1 with fail;clear p;go_wp2_with fail;refine l.o.mono ?_;rintro e P ⟨k,rfl,I,q,o⟩;have F:=zA q;clear q l;go_wp2;go_ret
 refine⟨k,rfl,⟨by rw [y.o];exact I,fun i x m=> ?_⟩,o.tail.tail⟩;have B:i<n:=by have:=zN m;have:=y.o;omega
 have h:=F.o i B;rw [h,zm,m];simp
theorem O6 {a b c:aB} (h:zn a<zn b) (f:¬zn c<zn b):zn a<zn c:=by
 rcases o8 c b with⟨d, -, -⟩|⟨-, -,d⟩|⟨-,d, -⟩
 ·exact absurd (of_decide_eq_true d) f
 ·have e:zn c=zn b:=by
   rw [Lib.toList_data,Lib.toList_data]at d;exact eq_of_beq d
  rw [e];exact h
 ·exact List.lt_trans h (of_decide_eq_true d)
theorem OX {a b:aB} (h:zn a<zn b):¬zn b<zn a:=fun c=>ZO _ (List.lt_trans h c)
theorem QL {k:Nat} (h:16*k<ls.length):∃y,ls[16*k]? =some y/\(tFi ls)[k]? =some y/\(tFi ls).getD k ⟨#[]⟩=y:=by
 obtain⟨y,b⟩:∃y,ls[16*k]? =some y:=⟨_,zB h⟩;have a:=pV b;exact⟨y,b,a,by rw [zm,a];rfl⟩
theorem tW (g:(ls.map zn).Pairwise (·<·)) (h:0<nB ls.length->zn s<zn ((tFi ls).getD 0 ⟨#[]⟩)):Z0 ls s 0:=by
 refine⟨zJ _,fun q x b=>⟨fun h=>by omega,fun c=> ?_⟩⟩;have i:=zN b;obtain⟨y,d, -,e⟩:=QL (ls:=ls) (k:=0) (by omega);have a:=h (by unfold nB;omega);rw [e]at a;rcases zi q with rfl|f
 ·cases d.symm.trans b;exact absurd c (OX a)
 ·exact absurd (List.lt_trans a (aZ g f d b)) (OX c)
theorem C5 {i j:Nat} (o:(ls.map zn).Pairwise (·<·)) (A:16*i<ls.length) (h:∀k,k<nB ls.length->(k<i+1↔decide (zn s<zn ((tFi ls).getD k ⟨#[]⟩))=false)) (n:Z0 (bkT ls i) s j):Z0 ls s (16*i+j):=by
 obtain⟨y,t, -,u⟩:=QL A;have l:=of_decide_eq_false ((h i (by unfold nB;omega)).1 (by omega));rw [u]at l;have v:=n.1;rw [XR]at v;refine⟨by omega,fun q x a=> ?_⟩;have B:=zN a;rcases zk q (16*i)with c|c
 ·exact⟨fun _=>O6 (aZ o c a t) l,fun _=>by omega⟩
 ·obtain⟨r,rfl⟩:=Nat.exists_eq_add_of_le c;rcases zk r 16 with m|m
  ·have b:=n.2 r x (by rw [Ur m];exact a);rw [<-b];omega
  ·refine⟨fun h=>by omega,fun b=> ?_⟩;obtain⟨z,d, -,p⟩:=QL (ls:=ls) (k:=i+1) (by omega)
   have f:zn s<zn z:=by
    rw [<-p];cases g6:decide (zn s<zn ((tFi ls).getD (i+1) ⟨#[]⟩))with
    |true=>exact of_decide_eq_true g6
    |false=>exact absurd ((h (i+1) (by unfold nB;omega)).2 g6) (by omega)
   rcases zk (16*(i+1)) (16*i+r)with g|g
   ·exact absurd (List.lt_trans f (aZ o g d a)) (OX b)
   ·have e:16*i+r=16*(i+1):=(by omega);rw [e]at a;cases d.symm.trans a;exact absurd b (OX f)
theorem AW (h:Sp w L) (T:aX L D ls at_) (E:xQ ls=true) (P:at_.length=ls.length) (hu:∀x∈at_,x<18446744073709551616):
 Calls prog 49 #[.pointer (some ⟨D,0,none⟩),.string s] w fun e w' =>∃k:Nat,e= .returned (.int .i64 (k:Int))/\Z0 ls s k/\Sp w' L:=by
 have hp:=dJ E;obtain⟨H,hH⟩:=eX (w.heap.size);have q:=(h.blkH 44 #[.pointer (some ⟨D,0,none⟩)] hH).blkH 9 #[.string s] (H:=H+1) (by simp [hH]);obtain⟨w2,B⟩:=eX ((w.alloc (.cells #[.pointer (some ⟨D,0,none⟩)] 44)).alloc (.cells #[.string s] 9));rw [B]at q;have f:=q.p1;obtain⟨M,C⟩:=eX (BlkA H 44 #[.pointer (some ⟨D,0,none⟩)]::BlkA (H+1) 9 #[.string s]::L)
 have Q:aX M D ls at_:=by subst C;exact fun w' h=>T _ h.tail.tail
 have N:∀w',Sp w' M->Sp w' L/\w'.cell? ⟨H,0,none⟩=some (.pointer (some ⟨D,0,none⟩))/\w'.cell? ⟨H+1,0,none⟩=some (.string s):=by subst C;exact fun w' h=>⟨h.tail.tail,h.cell M0 0,h.cell M1 0⟩
 obtain⟨n,o⟩:=eX (ls.length);obtain⟨_,_,_,A2,n2,c2, -,d1,d2, -,hf⟩:=YQ (T _ f.tail.tail);rw [o]at d2;have S:n<=1048576:=by unfold xQ at E;simp only [zM,decide_eq_true_eq]at E;rw [<-o];exact E.1
 have c:n2=nB n:=by rw [<-hf.length];unfold tFi;simp [o]
 have p:=zA (WZ d2)
 have I:=zA (i7 (w:=w2) (L:=M) 101 #[.pointer (some ⟨H,0,none⟩),.pointer (some ⟨H+1,0,none⟩)] n2 (fun i=>decide (zn s<zn ((tFi ls).getD i ⟨#[]⟩)))
  (enters_of func101 (by kernel_rfl) rfl) (by unfold nB at c;omega) (by subst C;exact f)
  (fun W i h hi=>by
   obtain⟨y, -,h2,h3⟩:=QL (ls:=ls) (k:=i) (by rw [o];unfold nB at c;omega);show Calls _ _ _ _ fun e w' =>e= .returned (.bool (decide (zn s<zn ((tFi ls).getD i ⟨#[]⟩))))/\_;rw [h3];subst C;exact AA h T h2)
  (fun a b hl hb h=>by
   obtain⟨x,h1, -,h3⟩:=QL (ls:=ls) (k:=a) (by rw [o];unfold nB at c;omega);obtain⟨y,h4, -,h6⟩:=QL (ls:=ls) (k:=b) (by rw [o];unfold nB at c;omega);rw [h3,decide_eq_true_eq]at h;rw [h6,decide_eq_true_eq];rcases zk a b with h7|h7
   ·exact List.lt_trans h (aZ hp (by omega) h1 h4)
   ·obtain rfl:a=b:=by omega
    cases h1.symm.trans h4;exact h))
 have ho:=@mF prog;have q0:=f.cl M0 0;have Z:Hid (Sp w2 M):=by subst C;exact f
 have Hp:=zA hp;have hc:=zA Q;have d:=zA N;have Ht:=zA E;have ha:=zA P;have Hu:=zA hu;have K:=zA o;have v:=zA c;clear c h q f T Q N hp E P hu hf C;go_enter func49,ntmps49;go_upto_region 1 with fail;clear hH
 by_cases h0:n=0
 ·have hg:(n:Int)=0:=(by omega)
  have u:Hid (Z0 ls s 0):=by
   show Z0 ls s 0;have:ls= []:=zS (by rw [K.o];exact h0);subst this;exact⟨zC _,fun i x hx=>by simp at hx⟩
  clear o B;go_wp2_with (go_at_call 19;refine p.o.mono ?_;rintro e w1 ⟨rfl,rfl⟩);go_ret
  exact⟨0,rfl,u.o,(d.o _ Z.o).1⟩
 ·have hg:¬(n:Int)=0:=(by omega);clear h0 o B;go_upto_region 3 with(go_at_call 19;refine p.o.mono ?_;rintro e w1 ⟨rfl,rfl⟩);go_wp2_with fail;refine I.o.mono ?_;rintro e w3 ⟨X,rfl,R,hb,t⟩;have Hb:=zA hb;have q0:w3.cell? ⟨H,0,none⟩=some (.pointer (some ⟨D,0,none⟩)):=(d.o _ t).2.1;clear hb I;rcases zi X with rfl|U
  ·have u:Hid (Z0 ls s 0):=tW Hp.o fun h=>by
    rw [K.o,<-v.o]at h;cases g6:decide (zn s<zn ((tFi ls).getD 0 ⟨#[]⟩))with
    |true=>exact of_decide_eq_true g6
    |false=>exact absurd ((Hb.o 0 h).2 g6) (by omega)
   clear R S;go_wp2;go_ret
   exact⟨0,rfl,u.o,(d.o _ t).1⟩
  ·obtain⟨i,hi⟩:∃i,X=i+1:=⟨X - 1,by omega⟩;have l:16*i<n:=(by have c:=v.o;unfold nB at c;omega);have a1:(X:Int) - 1=(i:Int):=(by omega);have a2:IntKind.i64.wrap (i:Int)=(i:Int):=(by rw [zT];omega);have a3:¬(i:Int)<0:=(by omega);obtain⟨z,hz⟩:=eX (16*i);have a4:(i:Int)*16=(z:Int):=(by omega);have a5:IntKind.i64.wrap (z:Int)=(z:Int):=(by rw [zT];omega);have Hz:=zA hz;have Hi:=zA hi
   have J:=zA l;have hs:z<1048576:=(by omega);have HB:=zA (Up (k:=i) t hc.o Ht.o ha.o Hu.o (by rw [K.o];exact l));clear hz hi U R S l;go_upto_region 7 with(go_at_call 102;refine HB.o.mono ?_;rintro e w4 ⟨g,g2,m,rfl,hm,F⟩;have Hm:=zA hm;clear hm);have q1:w4.cell? ⟨H+1,0,none⟩=some (.string s):=(d.o _ F.tail.tail).2.2
   have hh:m<=16:=(by have:=Hm.o;omega);have G:=zA (uA (s:=s) F (by rw [XR];exact Hm.o.symm) (by omega) (Hp.o.sublist (((List.take_sublist _ _).trans (List.drop_sublist _ _)).map _)));clear HB q0;go_wp2_with fail;refine G.o.mono ?_;rintro e w5 ⟨j,rfl,A,Y⟩;have hj:j<=16:=(by have:=A.1;rw [XR]at this;omega);obtain⟨r,hr⟩:=eX (z+j);have a6:(z:Int)+(j:Int)=(r:Int):=(by omega)
   have a7:IntKind.i64.wrap (r:Int)=(r:Int):=(by rw [zT];omega)
   have he:Hid (Z0 ls s r):=by
    have h:=C5 Hp.o (i:=i) (by rw [K.o];exact J.o) (fun k U=>by
     rw [K.o,<-v.o]at U;have:=Hb.o k U
     rwa [Hi.o]at this) A
    rw [Hz.o,hr]at h;exact h
   clear A hr hj G;go_wp2;go_ret
   exact⟨r,rfl,he.o,(d.o _ Y.tail.tail).1⟩
theorem GX {o:Nat} {x:aB} (h:Sp w L) (q:aX L D ls at_) (l:xQ ls=true) (d:at_.length=ls.length) (C:∀x∈at_,x<18446744073709551616) (v:ls[o]? =some x):
 Calls prog 50 #[.pointer (some ⟨D,0,none⟩),.int .i64 (o:Int)] w fun e w' =>e= .returned (.string x)/\Sp w' L:=by
 have b:=zN v;obtain⟨n,p⟩:=eX (ls.length);obtain⟨_,_,_,_,_,_,_,_,z,_,_⟩:=YQ (q _ h);obtain⟨k,t⟩:=eX (o / 16);obtain⟨j,A⟩:=eX (o%16);have a:=zA (WZ z);have y:=zA (Up (k:=k) h q l d C (by have:=b;rw [<-t];omega));rw [p]at a y;have u:n<=1048576:=by unfold xQ at l;simp only [zM,decide_eq_true_eq]at l;rw [<-p];exact l.1
 have i:o<n:=by rw [<-p];exact b
 obtain⟨R,Q,K,M,G,I,N,J,F,H,f,r⟩:=pP t A i u
 have E:Hid ((bkT ls k)[j]? =some x):=by
  show _=_;rw [Ur f,r];exact v
 clear h q l d C v b p z t A;go_enter func50,ntmps50
 go_wp2_with (first
  |(go_at_call 19;refine a.o.mono ?_;rintro e U ⟨rfl,rfl⟩)
  |(go_at_call 102;refine y.o.mono ?_;rintro e W ⟨g,S,m,rfl,P,c⟩;have T:=c.rowCell M0 (bU E.o);have B:(j:Int)<m:=(by omega);clear P)
  |fail)
 go_ret
 exact⟨rfl,c.tail.tail⟩
theorem JV (h:Sp w L) (p:aX L D ls at_) (q:xQ ls=true) (i:at_.length=ls.length) (A:∀x∈at_,x<18446744073709551616):
 Calls prog 12 #[.pointer (some ⟨D,0,none⟩),.string s] w fun e w' =>∃(k:Nat) (b:Bool),e= .returned (.tuple #[.int .i64 (k:Int),.bool b])/\(b=true->ls[k]? =some s)/\(b=false->k=0/\s ∉ ls)/\Sp w' L:=by
 have C:=zA (AW (s:=s) h p q i A);obtain⟨n,z⟩:=eX (ls.length)
 have M:=zA (fun(W:O) (r:Sp W L)=>by
  obtain⟨_,_,_,_,_,_,_,_,I,_,_⟩:=YQ (p _ r);rw [z]at I;exact WZ I)
 have N:=zA (fun(W:O) (r:Sp W L) (o:Nat) (x:aB) (Q:ls[o]? =some x)=>GX r p q i A Q);have F:=zA (dJ q);have E:=zA z;clear h p q i A z;go_enter func12,ntmps12;go_wp2_with fail;refine C.o.mono ?_;rintro e J ⟨k,rfl,m,d⟩;have l:=zA m;have c:=zA (M.o J d);clear m C
 by_cases t:k<n
 ·have u:¬n<=k:=(by omega);have v:¬(n:Int)<=(k:Int):=(by omega);obtain⟨x,B⟩:∃x,ls[k]? =some x:=⟨_,zB (by rw [E.o];exact t)⟩;have j:=zA (N.o J d k x B);have G:=zA B;clear B t
  by_cases a:x=s
  ·have H:(x.toList==s.toList)=true:=(by rw [a];simp);have P:(x.toList !=s.toList)=false:=(by rw [a];simp);have g:=zA a;clear a
   go_wp2_with (first
    |(go_at_call 19;refine c.o.mono ?_;rintro e K ⟨rfl,rfl⟩)
    |(go_at_call 50;refine j.o.mono ?_;rintro e R ⟨rfl,f⟩)
    |fail)
   go_ret2;exact⟨k,true,rfl,fun _=>by rw [<-g.o];exact G.o,fun h=>(by cases h),f⟩
  ·have H:(x.toList==s.toList)=false:=by
    rw [Lib.toList_data,Lib.toList_data];exact beq_eq_false_iff_ne.2 fun h=>a (QT h)
   have P:(x.toList !=s.toList)=true:=(by simp [bne,H]);have g:=zA a;clear a
   go_wp2_with (first
    |(go_at_call 19;refine c.o.mono ?_;rintro e K ⟨rfl,rfl⟩)
    |(go_at_call 50;refine j.o.mono ?_;rintro e R ⟨rfl,f⟩)
    |fail)
   go_ret2;exact⟨0,false,rfl,fun h=>(by cases h),fun _=>⟨rfl,fun y=>g.o (yG (G.o.symm.trans (l.o.get F.o y)))⟩,f⟩
 ·have u:n<=k:=(by omega);have v:(n:Int)<=(k:Int):=(by omega);clear t;go_wp2_with (go_at_call 19;refine c.o.mono ?_;rintro e K ⟨rfl,rfl⟩);go_ret2;exact⟨0,false,rfl,fun h=>(by cases h),fun _=>⟨rfl,fun y=>by have:=zN (l.o.get F.o y);rw [E.o]at this;omega⟩,d⟩
end
theorem LT {B:aA} {m c:Nat} {items:List xw} {w:O} (o:zL w (·<w.heap.size) B m c items):
 Calls prog 7 #[.slice B m c] w fun e w' =>∃b,e= .returned (.bool b)/\xG w w' :=by
 have D:=zA o;have s:=o.cap;clear o;go_enter func7,ntmps7;go_wp2
 go_loopg [3,4] m (fun gk v3 v4 wr=>∃(z:Int) (i:Nat),v3= .int .i64 z/\v4= .int .i64 i/\i<=m/\gk=m - i/\xG w wr)
 case atStart=>exact⟨0,0,rfl,rfl,zJ _,rfl,xG.refl w⟩
 case round=>
  obtain⟨z,i,rfl,rfl,J,rfl,f⟩:=hrel
  by_cases a:i<m/\i<40
  ·obtain⟨a,G⟩:=a;have r :(i:Int)<40:=(by omega);obtain⟨b,off,x,rfl, -,U,u⟩:=D.o.at_ a
   obtain⟨L,h,R, -,M,g, -⟩:=xw.at_ u
   have l:=zA g;have n:=g.cap;clear u g;obtain⟨q,rfl⟩:=f;go_wp2
   go_loopg [3,5] h (fun gk v3 v5 wr=>∃(z:Int) (k:Nat),v3= .int .i64 z/\v5= .int .i64 k/\k<=h/\gk=h - k/\xG w wr)
   case atStart=>exact⟨z,0,rfl,rfl,zJ _,rfl,⟨_,rfl⟩⟩
   case round=>
    obtain⟨y,k,rfl,rfl,W,rfl,Y,rfl⟩:=hrel
    by_cases p:k<h
    ·obtain⟨P,C,t,rfl, -,H,j⟩:=l.o.at_ p
     obtain⟨K,X,Q, -,T1,N, -⟩:=Entry.at_ j
     have A :(k:Int)<h:=(by omega);have v :(i:Int)<m:=(by omega);clear j;go_upto_region 8 with fail
     go_quiet (fail)
     go_wp2
     go_roundg (h - (k+1))
     ·exact⟨_,k+1,rfl,by go_num,by omega,rfl,⟨_,rfl⟩⟩
     ·omega
    ·obtain rfl:k=h:=by omega
     go_wp2
     go_roundg (m - (i+1))
     ·exact⟨y,i+1,rfl,by go_num,by omega,rfl,⟨_,rfl⟩⟩
     ·omega
  ·have I:i=m\/(i<m/\¬i<40):=(by omega);clear a;rcases I with rfl|⟨S,T⟩
   ·by_cases F:i<=30
    ·have d :(i:Int)<=30:=(by omega);go_wp2;go_ret
     first|exact⟨_,rfl,f⟩|exact⟨.inl rfl,f⟩
    ·have d :¬(i:Int)<=30:=(by omega);go_wp2;go_ret
     first|exact⟨_,rfl,f⟩|exact⟨.inl rfl,f⟩
   ·have E :¬(i:Int)<40:=(by omega);have d :¬(m:Int)<=30:=(by omega);go_wp2;go_ret
    first|exact⟨_,rfl,f⟩|exact⟨.inl rfl,f⟩
def fsG:List Field:= [⟨⟨#[116]⟩,1, [1,10],0,0,false,false⟩,⟨⟨#[107]⟩,2, [],0,0,false,false⟩]
def O2:List Entry:= [⟨⟨#[116]⟩,⟨#[66,32,97]⟩, []⟩,⟨⟨#[107]⟩,⟨#[120]⟩, []⟩]
def itG:List xw:= [(⟨5⟩,O2)]
theorem Yh {α:Type} [Rep α] {W:O} {F:Nat->Prop} {g k:Nat} {t:TypeId} {cs:aG} {es:aF} {x:α} (h:Blk W g t cs) (b:rep W F es x) (a:∀j u,es[j]? =some u->cs[k*Rep.size α+j]? =some u):xp W F g 0 k x:=
 ⟨es,b,fun j u c=>by rw [zx,h.cell];exact a j u c⟩
theorem Xe {a b c:aF} {j:Nat} {u:V} (h:b[j]? =some u):((a++b++c).toArray)[a.length+j]? =some u:=by
 have d:=zN h;rw [yF,zO,zR (by omega),z9 (by omega)];rw [<-h];congr 1;omega
theorem EF {W:O} {F:Nat->Prop} {g n:Nat} {t:TypeId} {xs:aD} (h:Blk W g t (xs.map (Value.int .i64)).toArray) (e:xs.length=n) (f:∀x∈xs,In64 x) (hF:F g) (d:n<=9223372036854775807):zL W F (some ⟨g,0,none⟩) n n xs:=
 zL.of_elems e (zC _) d hF (fun k x a=>Yh h (es:= [.int .i64 x]) ⟨rfl,f x (zD a)⟩ (fun j u b=>by
  have c:j=0:=(by have:=zN b;simp at this;omega);subst c;rw [show Rep.size Int=1 from rfl,yF,yr,yt,zH,a]
  simpa using b))
theorem ES (w:O):Calls prog 91 #[] w fun e w' =>∃A,e= .returned (.agg #[.slice A 2 2])/\zL w' (·<w'.heap.size) A 2 2 fsG/\Below w.heap.size w w' :=by
 go_enter func91,ntmps91;go_wp2;obtain⟨W0,b⟩:=eX ((w.alloc (.cells #[.slice (some ⟨w.heap.size+1+1,0,none⟩) 2 2] 24)).alloc (.cells #[.int .i64 1,.int .i64 10] 3));have i:W0.heap.size=w.heap.size+2:=by rw [<-b];simp
 have f:Below w.heap.size w W0:=by rw [<-b];exact((zE _ _).alloc (zC _) _).alloc (by simp) _
 have y:Blk W0 w.heap.size 24 #[.slice (some ⟨w.heap.size+1+1,0,none⟩) 2 2]:=by rw [<-b];exact(Blk.new w _ _).alloc _
 have z:Blk W0 (w.heap.size+1) 3 #[.int .i64 1,.int .i64 10]:=by
  rw [<-b];have:=Blk.new (w.alloc (.cells #[.slice (some ⟨w.heap.size+1+1,0,none⟩) 2 2] 24)) 3 #[.int .i64 1,.int .i64 10]
  simpa using this
 rw [b];clear b;have l:=Blk.new W0 61 #[.string ⟨#[116]⟩,.int .i64 1,.slice (some ⟨w.heap.size+1,0,none⟩) 2 2,.int .i64 0,.int .i64 0,.bool false,.bool false,.string ⟨#[107]⟩,.int .i64 2,.slice none 0 0,.int .i64 0,.int .i64 0,.bool false,.bool false]
 have g:=f.alloc f.size (.cells #[.string ⟨#[116]⟩,.int .i64 1,.slice (some ⟨w.heap.size+1,0,none⟩) 2 2,.int .i64 0,.int .i64 0,.bool false,.bool false,.string ⟨#[107]⟩,.int .i64 2,.slice none 0 0,.int .i64 0,.int .i64 0,.bool false,.bool false] 61)
 have p:=(y.alloc (.cells #[.string ⟨#[116]⟩,.int .i64 1,.slice (some ⟨w.heap.size+1,0,none⟩) 2 2,.int .i64 0,.int .i64 0,.bool false,.bool false,.string ⟨#[107]⟩,.int .i64 2,.slice none 0 0,.int .i64 0,.int .i64 0,.bool false,.bool false] 61))
 have q:=(z.alloc (.cells #[.string ⟨#[116]⟩,.int .i64 1,.slice (some ⟨w.heap.size+1,0,none⟩) 2 2,.int .i64 0,.int .i64 0,.bool false,.bool false,.string ⟨#[107]⟩,.int .i64 2,.slice none 0 0,.int .i64 0,.int .i64 0,.bool false,.bool false] 61))
 obtain⟨W,m⟩:=eX (W0.alloc (.cells #[.string ⟨#[116]⟩,.int .i64 1,.slice (some ⟨w.heap.size+1,0,none⟩) 2 2,.int .i64 0,.int .i64 0,.bool false,.bool false,.string ⟨#[107]⟩,.int .i64 2,.slice none 0 0,.int .i64 0,.int .i64 0,.bool false,.bool false] 61));have r:W.heap.size=w.heap.size+3:=by rw [<-m];simp [i]
 rw [i]at l;rw [m]at l g p q⊢;clear m;have d:=p.cell 0;have t:w.heap.size<W.heap.size:=by omega
 simp only [yF,zf]at d;refine bodyPost_ret (v:= .agg #[.slice (some ⟨w.heap.size+1+1,0,none⟩) 2 2]) (by simp [results,Tryz.results91,go_sem,d,t]) rfl ⟨_,rfl,?_,g⟩;refine zL.of_elems rfl (zC _) (by omega) (by omega) (fun k x h=> ?_);have n:k=0\/k=1:=by have:=zN h;simp [fsG]at this;omega
 rcases n with rfl|rfl
 ·simp [fsG]at h;subst h;exact Yh l (Field.of_cells (x:=⟨⟨#[116]⟩,1, [1,10],0,0,false,false⟩) (EF (xs:= [1,10]) q rfl (by intro x s;simp at s;unfold In64;omega) (by omega) (by decide)) (by unfold In64;decide) (by unfold In64;decide) (by unfold In64;decide) (by decide)) (fun j u o=>Xe (a:= []) o)
 ·simp [fsG]at h;subst h;exact Yh l (Field.of_cells (x:=⟨⟨#[107]⟩,2, [],0,0,false,false⟩) zL.nil (by unfold In64;decide) (by unfold In64;decide) (by unfold In64;decide) (by decide)) (fun j u o=>Xe (a:= [.string ⟨#[116]⟩,.int .i64 1,.slice (some ⟨w.heap.size+1,0,none⟩) 2 2,.int .i64 0,.int .i64 0,.bool false,.bool false]) (c:= []) o)
theorem JI {w W:O} (e:(w.alloc (.cells #[.string ⟨#[116]⟩,.string ⟨#[66,32,97]⟩,.slice none 0 0,.string ⟨#[107]⟩,.string ⟨#[120]⟩,.slice none 0 0] 86)).alloc (.cells #[.int .u64 5,.slice (some ⟨w.heap.size,0,none⟩) 2 2] 40)=W):
 zL W (·<W.heap.size) (some ⟨w.heap.size+1,0,none⟩) 1 1 itG/\Below w.heap.size w W:=by
 have l:W.heap.size=w.heap.size+2:=by rw [<-e];simp
 have h:Below w.heap.size w W:=by rw [<-e];exact((zE _ _).alloc (zC _) _).alloc (by simp) _
 have g:Blk W w.heap.size 86 #[.string ⟨#[116]⟩,.string ⟨#[66,32,97]⟩,.slice none 0 0,.string ⟨#[107]⟩,.string ⟨#[120]⟩,.slice none 0 0]:=by rw [<-e];exact(Blk.new w _ _).alloc _
 have m:Blk W (w.heap.size+1) 40 #[.int .u64 5,.slice (some ⟨w.heap.size,0,none⟩) 2 2]:=by
  rw [<-e];have:=Blk.new (w.alloc (.cells #[.string ⟨#[116]⟩,.string ⟨#[66,32,97]⟩,.slice none 0 0,.string ⟨#[107]⟩,.string ⟨#[120]⟩,.slice none 0 0] 86)) 40 #[.int .u64 5,.slice (some ⟨w.heap.size,0,none⟩) 2 2]
  simpa using this
 clear e;refine⟨zL.of_elems rfl (zC _) (by omega) (by omega) (fun k x b=> ?_),h⟩;have d:k=0:=by have:=zN b;simp [itG]at this;omega
 subst d;simp [itG]at b;subst b
 have i:zL W (·<W.heap.size) (some ⟨w.heap.size,0,none⟩) 2 2 O2:=by
  refine zL.of_elems rfl (zC _) (by omega) (by omega) (fun k x b=> ?_);have d:k=0\/k=1:=(by have:=zN b;simp [O2]at this;omega);rcases d with rfl|rfl
  ·simp [O2]at b;subst b;exact Yh g (Entry.of_cells (x:=⟨⟨#[116]⟩,⟨#[66,32,97]⟩, []⟩) zL.nil (by decide) (by decide)) (fun j u f=>Xe (a:= []) f)
  ·simp [O2]at b;subst b;exact Yh g (Entry.of_cells (x:=⟨⟨#[107]⟩,⟨#[120]⟩, []⟩) zL.nil (by decide) (by decide)) (fun j u f=>Xe (a:= [.string ⟨#[116]⟩,.string ⟨#[66,32,97]⟩,.slice none 0 0]) (c:= []) f)
 exact Yh m (es:= [.int .u64 5,.slice (some ⟨w.heap.size,0,none⟩) 2 2]) ⟨[.int .u64 5], [.slice (some ⟨w.heap.size,0,none⟩) 2 2],rfl,⟨rfl,by decide⟩,⟨_,_,_,rfl,i⟩⟩ (fun j u f=>Xe (a:= []) (c:= []) f)
open Go.RowKit Go.ChangeShapes Go.WideShapes Go.Deep
def Qs (P:Program) (t:TypeId) (α:Type) [Rep α] (Q:α->Prop):Prop:=
 ∀{H:Type} {enc:TypeId×V->H} {w:O} {base:Nat} {spare:Nat->Bool} {held:Bool} {fuel:Nat} {cs:aF} {x:DataW H×List MemPlace},
  DataW.trod enc P w base spare held fuel t cs=some x->Rows.uptoBulk x.1<=1048576->∃v:α,rep w (·<w.heap.size) cs v/\Q v
variable {P:Program}
theorem QR {t:TypeId} (a:P.underlying t=some (.int .i64)):Qs P t Int (fun _=>True):=by
 intro _ _ _ _ _ _ _ _ _ h _;obtain⟨n,rfl,_,b⟩:=DataW.trod_int a h;have:=bounds_i64 b;exact⟨n,⟨rfl,by unfold In64;omega⟩,trivial⟩
theorem jM {t:TypeId} (a:P.underlying t=some .bool):Qs P t Bool (fun _=>True):=by
 intro _ _ _ _ _ _ _ _ _ h _;obtain⟨b,rfl,_⟩:=DataW.trod_bool a h;exact⟨b,rfl,trivial⟩
theorem KG {H:Type} (bytes:aC):Rows.uptoBulk (DataW.lit (H:=H) (.string bytes))=bytes.length+1:=by simp [Rows.uptoBulk]
theorem KH {H:Type} (d:DataW H):1<=Rows.uptoBulk d:=by
 cases d with
 |lit l=>cases l<;>simp [Rows.uptoBulk]
 |nil=>simp [Rows.uptoBulk]
 |ptr d=>simp [Rows.uptoBulk]
 |slice elems spare=>simp [Rows.uptoBulk]
 |agg parts=>simp [Rows.uptoBulk]
 |iface t d=>simp [Rows.uptoBulk]
 |map entries=>simp [Rows.uptoBulk]
 |held h=>simp [Rows.uptoBulk]
theorem Uo {H:Type} {d:DataW H}:∀{l:List (DataW H)},d∈l->Rows.uptoBulk d<=Rows.uptoBulkAll l
 |x::r,h=>by
  simp only [Rows.uptoBulkAll];rcases yx.1 h with rfl|e
  ·omega
  ·have:=Uo e;omega
theorem oC {H:Type}:∀(l:List (DataW H)),l.length<=Rows.uptoBulkAll l
 | []=>by simp [Rows.uptoBulkAll]
 |x::r=>by have:=KH x;have:=oC r;simp only [Rows.uptoBulkAll,z6];omega
theorem U8 {t:TypeId} (b:P.underlying t=some .string):Qs P t aB (fun s=>s.size<=1048576):=by
 intro _ _ _ _ _ _ _ _ x h c;obtain⟨s,rfl,e,a⟩:=DataW.trod_string b h;refine⟨s,⟨rfl,a⟩,?_⟩;rw [e,KG]at c;have:s.data.toList.length=s.size:=by simp
 omega
theorem DS {t:TypeId} (b:P.underlying t=some (.int .u64)):Qs P t U64 (fun _=>True):=by
 intro _ _ _ _ _ _ _ _ _ h _;obtain⟨n,rfl,_,c⟩:=DataW.trod_int b h;have a:0<=n/\n<=18446744073709551615:=by simpa [Lit.wf,IntKind.min,IntKind.max,IntKind.signed,IntKind.bits]using c
 exact⟨⟨n.toNat⟩,⟨by show [Value.int .u64 n]= [Value.int .u64 ((n.toNat:Nat):Int)];rw [Int.toNat_of_nonneg a.1],by show n.toNat<_;omega⟩,trivial⟩
theorem X7 {α:Type} [Rep α] {Q:α->Prop} {t e:TypeId} (ht:P.underlying t=some (.slice e)) (hC:P.cellsOf e=Rep.size α) (ho:Qs P e α Q):
 Qs P t (List α) (fun xs=>xs.length<=1048576/\∀x∈xs,Q x):=by
 intro H enc w base spare held fuel cs x h hw;rcases open_slice ht h with⟨rfl,_⟩|⟨a,f,cap,m,n,D,Pl,rfl,hb,hl,hm,T,rfl,hi⟩
 ·exact⟨[],⟨none,0,0,rfl,zL.nil⟩,by simp,by simp⟩
 ·have ha:f<=m:=by rw [T];split<;>omega
  have Z:Rows.uptoBulkAll ((List.range f).map D)<=1048576:=(by simp only [Rows.uptoBulk]at hw;omega)
  have E:∀i,i<f->∃v:α,∃c,w.cells? base (a.add (i*P.cellsOf e)) (P.cellsOf e)=some c /\rep w (·<w.heap.size) c v/\Q v:=by
   intro i S;obtain⟨c,M,W⟩:=hi i (by omega);have G:=zY (Uo (List.mem_map.2 ⟨i,List.mem_range.2 S,rfl⟩:D i∈(List.range f).map D)) Z;obtain⟨v,Y,hq⟩:=ho W G;exact⟨v,c,M,Y,hq⟩
  have g:∀i:Fin f,∃v:α,∃c,w.cells? base (a.add (i.1*P.cellsOf e)) (P.cellsOf e)=some c /\rep w (·<w.heap.size) c v/\Q v:=fun i=>E i.1 i.2;refine⟨List.ofFn fun i=>Classical.choose (g i),⟨some a,f,cap,rfl,by simp,hl,hm,?_⟩,?_,?_⟩
  ·intro k x I;have z:k<f:=(by have:=zN I;simpa using this);rw [zB (by simpa using z),List.getElem_ofFn]at I;cases I;obtain⟨c,M,Y,_⟩:=Classical.choose_spec (g ⟨k,z⟩);obtain⟨_,R,s⟩:=World.cells?_some M;rw [hC]at R s;have q:0<Rep.size α:=Rep.pos;have h0:=s 0 q;obtain⟨u,K⟩:∃u,c[0]? =some u:=⟨_,zB (by omega)⟩;rw [K]at h0;obtain⟨_,L,N,_⟩:=E 0 (by omega)
   obtain⟨_,C,o⟩:=World.cells?_some N;rw [hC]at C o;have A:=o 0 q;obtain⟨u0,X⟩:∃u,L[0]? =some u:=⟨_,zB (by omega)⟩;rw [X]at A;obtain⟨b,off,J⟩:=a
   have y:J=none:=by
    have U:=World.cell?_spot A
    simpa [Addr.add]using U
   subst y
   have l:∀i j:Nat,((⟨b,off,none⟩:Addr).add i).add j=⟨b,off+i+j,none⟩:=by
    intro i j;unfold Addr.add;split<;>split<;>simp_all
   have B:b<w.heap.size:=by
    have:=ye h0;rw [l]at this;exact this
   refine⟨b,off,rfl,B,c,Y,fun j u K=> ?_⟩;have hj:j<Rep.size α:=(by have:=zN K;omega);have:=s j hj;rw [l,K]at this;exact this
  ·have:=oC ((List.range f).map D);simp at this⊢;omega
  ·intro x I;obtain⟨k,z⟩:=z8 I;have F:k<f:=(by have:=zN z;simpa using this);rw [zB (by simpa using F),List.getElem_ofFn]at z;cases z;exact(Classical.choose_spec (g ⟨k,F⟩)).choose_spec.2.2
theorem X8 {H:Type} {enc:TypeId×V->H} {w:O} {base:Nat} {spare:Nat->Bool} {held:Bool} {t:TypeId} {b:Array _root_.Go.Field} {fuel:Nat} {cs:aF} {x:DataW H×List MemPlace} (l:P.underlying t=some (.struct b)) (h:DataW.trod enc P w base spare held fuel t cs=some x) (m:Rows.uptoBulk x.1<=1048576):
 cs.length=P.cellsOf t/\∀(i:Nat) (f:_root_.Go.Field),b[i]? =some f->∃n y,DataW.trod enc P w base spare held n f.type ((cs.drop f.offset).take (P.cellsOf f.type))=some y/\Rows.uptoBulk y.1<=1048576:=by
 obtain⟨xs,n,_,rfl,j,hlen,g⟩:=DataW.trod_struct l h;refine⟨j,fun i f e=> ?_⟩;have a:i<xs.length:=by rw [hlen];exact(Array.getElem?_eq_some_iff.1 e).1
 have c:=g i f e;rw [zB a]at c;refine⟨n,_,c,?_⟩;have k:(xs[i]).1∈xs.map (·.1):=List.mem_map.2 ⟨xs[i],List.getElem_mem a,rfl⟩;have o:=Uo k;simp only [Rows.uptoBulk]at m;omega
theorem uJ:Qs prog 61 Field (fun _=>True):=by
 intro H enc w base spare held fuel cs x h l;obtain⟨b,a⟩:=X8 underlying61 h l;rw [show Tryz.prog.cellsOf 61=7 by kernel_rfl]at b
 match cs,b with
 | [c0,c1,c2,c3,c4,c5,c6],_=>
   obtain⟨_,_,c,w0⟩:=a 0 _ rfl;obtain⟨_,_,e,B⟩:=a 1 _ rfl;obtain⟨_,_,f,C⟩:=a 2 _ rfl;obtain⟨_,_,g,D⟩:=a 3 _ rfl;obtain⟨_,_,i,E⟩:=a 4 _ rfl;obtain⟨_,_,j,F⟩:=a 5 _ rfl;obtain⟨_,_,k,G⟩:=a 6 _ rfl;obtain⟨y,m,_⟩:=U8 underlying9 c w0;obtain⟨z,n,_⟩:=QR underlying3 e B;obtain⟨v2,o,_⟩:=X7 underlying55 (show Tryz.prog.cellsOf 3=1 by kernel_rfl) (QR underlying3) f C
   obtain⟨v3,q,_⟩:=QR underlying3 g D;obtain⟨v4,s,_⟩:=QR underlying3 i E;obtain⟨v5,t,_⟩:=jM underlying4 j F;obtain⟨A,u,_⟩:=jM underlying4 k G;exact⟨⟨y,z,v2,v3,v4,v5,A⟩,⟨c0,c1,c2,c3,c4,c5,c6,rfl,m,n,o,q,s,t,u⟩,trivial⟩
theorem uK:Qs prog 86 Entry (fun e=>e.text.size<=1048576/\e.numbers.length<=1048576):=by
 intro H enc w base spare held fuel cs x h i;obtain⟨b,a⟩:=X8 underlying86 h i;rw [show Tryz.prog.cellsOf 86=3 by kernel_rfl]at b
 match cs,b with
 | [c0,c1,c2],_=>
   obtain⟨_,_,c,w0⟩:=a 0 _ rfl;obtain⟨_,_,f,s⟩:=a 1 _ rfl;obtain⟨_,_,g,t⟩:=a 2 _ rfl;obtain⟨o,l,_⟩:=U8 underlying9 c w0;obtain⟨q,m,j⟩:=U8 underlying9 f s;obtain⟨v2,n,k,_⟩:=X7 underlying57 (show Tryz.prog.cellsOf 2=1 by kernel_rfl) (QR underlying2) g t;exact⟨⟨o,q,v2⟩,⟨c0,c1,c2,rfl,l,m,n⟩,j,k⟩
theorem wT:Qs prog 40 xw (fun x=>∀e∈x.2,e.text.size<=1048576/\e.numbers.length<=1048576):=by
 intro H enc w base spare held fuel cs x h j;obtain⟨b,c⟩:=X8 underlying40 h j;rw [show Tryz.prog.cellsOf 40=2 by kernel_rfl]at b
 match cs,b with
 | [c0,c1],_=>
   obtain⟨_,_,f,w0⟩:=c 0 _ rfl;obtain⟨_,_,g,q⟩:=c 1 _ rfl;obtain⟨n,l,_⟩:=DS underlying35 f w0;obtain⟨_,a⟩:=X8 underlying38 g q;obtain⟨_,_,i,s⟩:=a 0 _ rfl;obtain⟨o,m,_,k⟩:=X7 underlying36 (show Tryz.prog.cellsOf 86=3 by kernel_rfl) uK i s;exact⟨(n,o),⟨[c0], [c1],rfl,l,m⟩,k⟩
section
variable {H:Type} {enc:TypeId×V->H} {w:O} {base:Nat} {spare:Nat->Bool} {held:Bool} {r:Reach} {b0:Nat} {v:V} {d:DataW H} {p:List MemPlace}
theorem uL (m:Value.okWide prog w r b0 24 v) (h:DataW.Trod enc prog w base spare held 24 v d p) (o:Rows.uptoBulk d<=1048576):
 ∃A n c a,v= .agg #[.slice A n c]/\zL (α:=Field) w (·<w.heap.size) A n c a:=by
 obtain⟨cs,rfl,e⟩:=okWide_struct underlying24 m;obtain⟨l⟩:=cs
 match l,e.trans (show Tryz.prog.cellsOf 24=1 by kernel_rfl)with
 | [c0],_=>
   obtain⟨fuel,i⟩:=h;obtain⟨_,j⟩:=X8 underlying24 i o;obtain⟨_,_,f,w0⟩:=j 0 _ rfl;obtain⟨a,⟨A,n,c,g,k⟩,_⟩:=X7 underlying22 (show Tryz.prog.cellsOf 61=7 by kernel_rfl) uJ f w0;have b :c0= .slice A n c:=(by simpa [Value.cells,show Tryz.prog.cellsOf 22=1 by kernel_rfl]using g);exact⟨A,n,c,a,by rw [b],k⟩
theorem wU (m:Value.okWide prog w r b0 25 v) (h:DataW.Trod enc prog w base spare held 25 v d p) (o:Rows.uptoBulk d<=1048576):
 ∃A n c items,v= .slice A n c/\zL (α:=xw) w (·<w.heap.size) A n c items/\∀x∈items,∀e∈x.2,e.text.size<=1048576/\e.numbers.length<=1048576:=by
 obtain⟨a,l,f,rfl⟩:=okWide_slice underlying25 m;obtain⟨fuel,i⟩:=h;obtain⟨items,⟨A,n,c,g,k⟩,_,j⟩:=X7 underlying25 (show Tryz.prog.cellsOf 40=2 by kernel_rfl) wT i o;have b :Value.slice a l f= .slice A n c:=by simpa [Value.cells]using g
 exact⟨A,n,c,items,b,k,j⟩
end
end Go.Proofs.YtjbhbfaeielbiaaGreatDoor

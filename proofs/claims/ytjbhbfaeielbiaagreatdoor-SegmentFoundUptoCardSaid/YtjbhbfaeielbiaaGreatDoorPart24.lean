import Derived.Test.YtjbhbfaeielbiaaGreatDoorPart15
import Derived.Test.YtjbhbfaeielbiaaGreatDoorPart08
import Derived.Test.YtjbhbfaeielbiaaGreatDoorSrt
set_option maxRecDepth 100000
set_option maxHeartbeats 8000000
set_option linter.unusedVariables false
set_option linter.unusedSimpArgs false
namespace Go.Proofs.YtjbhbfaeielbiaaGreatDoor
open Tryz
open Go.RowKit
def aV {α:Type} (xs a:List α) (k:Nat):Prop:=xs.take k=a.take k
theorem aV.step {α:Type} {xs a:List α} {k:Nat} {x:α} (h:aV xs a k) (b:Hid (xs[k]? =some x)) (c:Hid (a[k]? =some x)):aV xs a (k+1):=by
 unfold aV at*;rw [zI,zI,h,b.o,c.o]
theorem aV.all {α:Type} {xs a:List α} {n:Nat} (h:aV xs a n) (b:xs.length=n) (c:a.length=n):xs=a:=by
 unfold aV at h
 rwa [zF (by omega),zF (by omega)]at h
theorem bY (A A' :aA) (n m c E :Nat) (xs f:aC) (w:O) (L:n<=9223372036854775807) (o:RB w A n xs) (p:RB w A' m f):
 Calls prog 145 #[.slice A n c,.slice A' m E] w fun e w' =>e= .returned (.bool (decide (xs=f)))/\xG w w' :=by
 have r:=o.len;have s:=p.len
 by_cases q:n=m
 ·subst q;have C:=zA r;have D:=zA s;clear r s;go_enter func145,ntmps145;go_wp2
  go_loopw [13] (fun i wr=>∃k:Nat,k<=n/\i= .int .i64 k/\aV xs f k/\xG w wr) (fun i _=>n - (intOf i).toNat)
  case atStart=>exact⟨0,zJ _,rfl,rfl,0,rfl⟩
  case round=>
   obtain⟨k,K,rfl,l,v⟩:=hrel
   by_cases g:k<n
   ·obtain⟨j,rfl⟩:=v;obtain⟨I,M,x,rfl,_,F,t⟩:=o.at_ g
    obtain⟨J,N,y,rfl,_,G,u⟩:=p.at_ g
    clear o p
    by_cases d:x=y
    ·subst d;have B:=zA (l.step t u);clear l;go_wp2
     go_quiet (fail)
     go_wp2
     go_roundw
     case rel=>exact⟨k+1,by omega,by go_num,B.o,⟨_,rfl⟩⟩
     case measure=>simp [intOf];omega
    ·have H:((x.toNat:Int) !=(y.toNat:Int))=true:=by
      simp only [bne_iff_ne,ne_eq];intro h;exact d (UInt8.toNat_inj.1 (by omega))
     have a:decide (xs=f)=false:=by
      simp only [decide_eq_false_iff_not];rintro rfl;have:=t.o.symm.trans u.o;cases this;exact d rfl
     have b:=zA a;clear a l d;go_wp2
     go_quiet (fail)
     go_wp2;go_ret
     exact⟨yl b.o.symm,xG.more ⟨j,rfl⟩ _⟩
   ·obtain rfl:k=n:=by omega
    have a:decide (xs=f)=true:=(by simp [l.all C.o D.o]);have b:=zA a;obtain⟨j,rfl⟩:=v;clear a l;go_wp2;go_ret
    exact⟨yl b.o.symm,j,rfl⟩
 ·have a:decide (xs=f)=false:=by
   simp only [decide_eq_false_iff_not];rintro rfl;omega
  have b:=zA a;have z :((n:Int) !=(m:Int))=true:=(by simp only [bne_iff_ne,ne_eq];omega);clear a r s o p;go_enter func145,ntmps145;go_wp2;go_ret
  exact⟨yl b.o.symm,0,rfl⟩
open Rep (rep)
theorem qL (x:Int) (w:O):Calls prog 353 #[.int .i64 x] w fun e w' =>e= .returned (.bool false)/\w' =w:=by
 have a:(x !=x)=false:=by simp
 go_enter func353,ntmps353;go_wp2;go_ret
 exact⟨rfl,rfl⟩
theorem qQ (x y:Int) (w:O):Calls prog 328 #[.int .i64 x,.int .i64 y] w fun e w' =>e= .returned (.int .i64 (Lib.compareInt x y))/\w' =w:=by
 have c:=qL x;have d:=qL y;unfold Lib.compareInt
 by_cases a:x<y
 ·rw [if_pos a];go_enter func328,ntmps328;go_wp2_with (first|(go_at_call 353;refine(c _).mono ?_;rintro e w' ⟨rfl,rfl⟩)|(go_at_call 353;refine(d _).mono ?_;rintro e w' ⟨rfl,rfl⟩))
  go_ret
  exact⟨rfl,rfl⟩
 ·rw [if_neg a]
  by_cases b:x>y
  ·rw [if_pos b];go_enter func328,ntmps328;go_wp2_with (first|(go_at_call 353;refine(c _).mono ?_;rintro e w' ⟨rfl,rfl⟩)|(go_at_call 353;refine(d _).mono ?_;rintro e w' ⟨rfl,rfl⟩))
   go_ret
   exact⟨rfl,rfl⟩
  ·rw [if_neg b];go_enter func328,ntmps328;go_wp2_with (first|(go_at_call 353;refine(c _).mono ?_;rintro e w' ⟨rfl,rfl⟩)|(go_at_call 353;refine(d _).mono ?_;rintro e w' ⟨rfl,rfl⟩))
   go_ret
   exact⟨rfl,rfl⟩
theorem O4 (x:Int) (w:O):Calls prog 357 #[.int .i64 x] w fun e w' =>e= .returned (.bool false)/\w' =w:=by
 have a:(x !=x)=false:=by simp
 go_enter func357,ntmps357;go_wp2;go_ret
 exact⟨rfl,rfl⟩
theorem PB (x y:Int) (w:O):Calls prog 330 #[.int .i64 x,.int .i64 y] w fun e w' =>e= .returned (.int .i64 (Lib.compareInt x y))/\w' =w:=by
 have c:=O4 x;have d:=O4 y;unfold Lib.compareInt
 by_cases a:x<y
 ·rw [if_pos a];go_enter func330,ntmps330;go_wp2_with (first|(go_at_call 357;refine(c _).mono ?_;rintro e w' ⟨rfl,rfl⟩)|(go_at_call 357;refine(d _).mono ?_;rintro e w' ⟨rfl,rfl⟩))
  go_ret
  exact⟨rfl,rfl⟩
 ·rw [if_neg a]
  by_cases b:x>y
  ·rw [if_pos b];go_enter func330,ntmps330;go_wp2_with (first|(go_at_call 357;refine(c _).mono ?_;rintro e w' ⟨rfl,rfl⟩)|(go_at_call 357;refine(d _).mono ?_;rintro e w' ⟨rfl,rfl⟩))
   go_ret
   exact⟨rfl,rfl⟩
  ·rw [if_neg b];go_enter func330,ntmps330;go_wp2_with (first|(go_at_call 357;refine(c _).mono ?_;rintro e w' ⟨rfl,rfl⟩)|(go_at_call 357;refine(d _).mono ?_;rintro e w' ⟨rfl,rfl⟩))
   go_ret
   exact⟨rfl,rfl⟩
theorem Wk {r a :Int} (h:r=a):Ending.returned (.int .i64 r)= .returned (.int .i64 a):=by rw [h]
theorem J8 {F:Nat->Prop} (A A' :aA) (n m c I :Nat) (xs a:aD) (w:O) (C:zL w F A n c xs) (D:zL w F A' m I a):
 Calls prog 329 #[.slice A n c,.slice A' m I] w fun e w' =>e= .returned (.int .i64 (cmpL xs a))/\w' =w:=by
 have L:=zA C.length;have E:=zA D.length;have J:=zA C;have K:=zA D;have U:n<=9223372036854775807:=by have:=C.cap;omega
 have T:m<=9223372036854775807:=by have:=D.cap;omega
 clear C D;go_enter func329,ntmps329;go_wp2
 go_loopg [5,6,7,8,11] n (fun gk _ _ _ _ P wr=>∃k:Nat,P= .int .i64 k/\k<=n/\k<=m/\gk=n - k/\wr=w/\Hid (cmpL xs a=cmpL (xs.drop k) (a.drop k)))
 case atStart=>exact⟨0,rfl,zJ _,zJ _,rfl,rfl,rfl⟩
 case round=>
  obtain⟨k,rfl,S,M,rfl,rfl,d⟩:=hrel
  by_cases H:k<n
  ·obtain⟨Q,X,x,rfl,o,_,p⟩:=J.o.at_ H
   have p:=p.int.1;have j:=zA (za (zN o.o))
   by_cases g:k<m
   ·obtain⟨R,Y,y,rfl,u,_,q⟩:=K.o.at_ g
    have q:=q.int.1;have t:=zA (za (zN u.o));have G:decide ((m:Int)<=k)=false:=(by simp;omega);have f:=zA (fun W=>qQ x y W);have v:=zA (List.getElem?_eq_some_iff.1 o.o).2;have z:=zA (List.getElem?_eq_some_iff.1 u.o).2
    by_cases h:Lib.compareInt x y=0
    ·have b:Hid (cmpL xs a=cmpL (xs.drop (k+1)) (a.drop (k+1))):=by
      show _=_;rw [d.o,j.o,t.o,v.o,z.o,XV,orI,if_pos h]
     rw [h]at f;clear d j t o u v z h;go_wp2_with (go_at_call 328;refine(f.o _).mono ?_;rintro e w' ⟨rfl,rfl⟩)
     go_roundg (n - (k+1))
     ·exact⟨k+1,by go_num,by omega,by omega,rfl,rfl,b⟩
     ·omega
    ·have b:Hid (cmpL xs a=Lib.compareInt x y):=by
      show _=_;rw [d.o,j.o,t.o,v.o,z.o,XV,orI,if_neg h]
     obtain⟨r,s⟩:=eX (Lib.compareInt x y);rw [s]at f b h;have N:(r !=0)=true:=(by simp [h]);clear d j t o u v z h s;go_wp2_with (go_at_call 328;refine(f.o _).mono ?_;rintro e w' ⟨rfl,rfl⟩);go_ret
     exact⟨Wk b.o.symm,rfl⟩
   ·have G:decide ((m:Int)<=k)=true:=(by simp;omega)
    have b:Hid (cmpL xs a=1):=by
     show _=_;rw [d.o,j.o,show a.drop k= []from zQ (by rw [E.o];omega)];rfl
    clear d j o;go_wp2;go_ret
    exact⟨Wk b.o.symm,rfl⟩
  ·obtain rfl:k=n:=by omega
   have B:xs.drop k= []:=zQ (by rw [L.o];omega)
   by_cases g:k<m
   ·have b:Hid (cmpL xs a= -1):=by
     show _=_;rw [d.o,B,za (l:=a) (i:=k) (by rw [E.o];exact g)];rfl
    clear d B;go_wp2;go_ret
    exact⟨Wk b.o.symm,rfl⟩
   ·have b:Hid (cmpL xs a=0):=by
     show _=_;rw [d.o,B,show a.drop k= []from zQ (by rw [E.o];omega)];rfl
    clear d B;go_wp2;go_ret
    exact⟨Wk b.o.symm,rfl⟩
def orZ:aD->Int
 | []=>0
 |x::l=>orI x (orZ l)
theorem WL (x:Int) (l:aD):orZ (x::l)=orI x (orZ l):=rfl
theorem NB (b n c:Nat) (xs:aD) (w:O) (m:xs.length=n) (u:n<=1000) (o:∀k x,xs[k]? =some x->w.cell? ⟨b,k,none⟩=some (.int .i64 x)):
 Calls prog 327 #[.slice (some ⟨b,0,none⟩) n c] w fun e w' =>e= .returned (.int .i64 (orZ xs))/\w' =w:=by
 have l:=zA m;have p:=zA o;clear m o;go_enter func327,ntmps327;go_wp2
 go_loopg [5,8] n (fun gk _ s wr=>∃k:Nat,s= .int .i64 k/\k<=n/\gk=n - k/\wr=w/\Hid (orZ xs=orZ (xs.drop k)))
 case atStart=>exact⟨0,rfl,zJ _,rfl,rfl,rfl⟩
 case round=>
  obtain⟨k,rfl,t,rfl,rfl,d⟩:=hrel
  by_cases j:k<n
  ·have i:k<xs.length:=(by rw [l.o];exact j);obtain⟨x,a⟩:=eX (xs[k]);have q:=p.o k x (by rw [zB i,a]);have f:=za i;rw [a]at f
   by_cases h:x=0
   ·have g:Hid (orZ xs=orZ (xs.drop (k+1))):=(by show _=_;rw [d.o,f,WL,orI,if_pos h]);subst h;clear d f i a;go_wp2
    go_roundg (n - (k+1))
    ·exact⟨k+1,by go_num,by omega,rfl,rfl,g⟩
    ·omega
   ·have g:Hid (orZ xs=x):=(by show _=_;rw [d.o,f,WL,orI,if_neg h]);have r:(x !=0)=true:=(by simp [h]);clear d f i a h;go_wp2;go_ret
    exact⟨Wk g.o.symm,rfl⟩
  ·obtain rfl:k=n:=by omega
   have g:Hid (orZ xs=0):=(by show _=_;rw [d.o,zQ (by rw [l.o];omega)];rfl);clear d;go_wp2;go_ret
   exact⟨Wk g.o.symm,rfl⟩
theorem Pt.at_ {w:O} {F:Nat->Prop} {cs:aF} {p:Pt} (h:rep w F cs p):∃A n c,cs= [.int .i64 p.1,.slice A n c]/\In64 p.1/\zL w F A n c p.2:=by
 obtain⟨d,c2,rfl,⟨rfl,a⟩,A,n,c,rfl,b⟩:=h;exact⟨A,n,c,rfl,a,b⟩
theorem Pt.x_get {d:Nat} {p:Pt} {x:Int} (h:p.2[d]? =some x):p.x d=x:=by unfold Pt.x;rw [h];rfl
theorem MZ {H:Nat} (w:O) (t:TypeId) (xs:aD) (b:w.heap.size=H):∀k x,xs[k]? =some x->(w.alloc (.cells (xs.map (Value.int .i64)).toArray t)).cell? ⟨H,k,none⟩=some (.int .i64 x):=by
 intro k x a;subst b;rw [(Blk.new w t _).cell k];simp [a]
theorem NY (W:O) (a b c:Obj):(((W.alloc a).alloc b).alloc c).drew=Sort.grow (W.drewN 1) #[a,b,c]:=by
 unfold Sort.grow World.alloc;simp only [World.drew,World.drewN];rw [World.mk.injEq];exact⟨Array.ext' (by simp),rfl,rfl,rfl,rfl⟩
theorem PE (a b c:Int):orZ [a,b,c]=orI a (orI b c):=by
 rw [WL,WL,WL];have:orI c (orZ [])=c:=by unfold orI;split<;>simp_all [orZ]
 rw [this]
theorem wS (q d:Nat) (Z cy:aF) (i j:Pt) (W:O) (R:W.cell? ⟨q,0,none⟩=some (.int .i64 (d:Int))) (hx:rep W (·<W.heap.size) Z i) (hy:rep W (·<W.heap.size) cy j) (N:d<i.2.length) (P:d<j.2.length):
 Calls prog 326 #[.agg Z.toArray,.agg cy.toArray,.pointer (some ⟨q,0,none⟩)] W fun e w' =>e= .returned (.int .i64 (W7 d i j))/\∃k os,w' =Sort.grow (W.drewN k) os:=by
 obtain⟨A,n,c,rfl, -,I⟩:=Pt.at_ hx
 obtain⟨A',n',G,rfl, -,h⟩:=Pt.at_ hy
 have hn:=I.length;have Q :=h.length;obtain⟨b,o,x,rfl,S,B,ex⟩:=I.at_ (k:=d) (by omega)
 obtain⟨r,t,y,rfl,T,C,ey⟩:=h.at_ (k:=d) (by omega)
 have hc:d<n:=by omega
 have ha :d<n' :=by omega
 have F:q<W.heap.size:=World.block_lt_of_cell? W _ R;have D:=ex.int.1;have E:=ey.int.1
 have J:Hid (W7 d i j=orZ [Lib.compareInt x y,cmpL i.2 j.2,Lib.compareInt i.1 j.1]):=by
  show _=_;rw [PE];unfold W7;rw [Pt.x_get S.o,Pt.x_get T.o]
 obtain⟨v,l⟩:=eX (i.1);obtain⟨z,m⟩:=eX (j.1);rw [l,m]at J⊢;obtain⟨r1,K⟩:=eX (Lib.compareInt x y);obtain⟨r2,L⟩:=eX (cmpL i.2 j.2);obtain⟨r3,M⟩:=eX (Lib.compareInt v z);have U:=zA (fun w=>qQ x y w);have Y:=zA (fun w=>PB v z w);have X:=zA (fun(w:O) (B:Below W.heap.size W w)=>J8 _ _ n n' c G i.2 j.2 w (I.below B) (h.below B));rw [K,L,M]at J;rw [K]at U
 rw [L]at X;rw [M]at Y;obtain⟨H,s⟩:=eX (W.heap.size);clear hx hy ex ey I h hn Q K L M S T l m N P;go_enter func326,ntmps326;go_wp2;obtain⟨g,a⟩:=eX ((W.alloc (.cells #[.int .i64 v,.slice (some ⟨b,o,none⟩) n c] 232)).alloc (.cells #[.int .i64 z,.slice (some ⟨r,t,none⟩) n' G] 232))
 have f:Below W.heap.size W g:=by rw [<-a];exact((zE _ _).alloc (zC _) _).alloc (by simp) _
 have k1:g.heap.size=H+2:=by rw [<-a];simp [s]
 have f1:g.cell? ⟨H,0,none⟩=some (.int .i64 v):=by rw [<-a];simp [go_sem,s]
 have f2:g.cell? ⟨H,1,none⟩=some (.slice (some ⟨b,o,none⟩) n c):=by rw [<-a];simp [go_sem,s]
 have f3:g.cell? ⟨H+1,0,none⟩=some (.int .i64 z):=by rw [<-a];simp [go_sem,s]
 have f4:g.cell? ⟨H+1,1,none⟩=some (.slice (some ⟨r,t,none⟩) n' G):=by rw [<-a];simp [go_sem,s]
 have f5:g.cell? ⟨q,0,none⟩=some (.int .i64 d):=(f.cell (p:=⟨q,0,none⟩) F).trans R;have f6:g.cell? ⟨b,o+d,none⟩=some (.int .i64 x):=(f.cell (p:=⟨b,o+d,none⟩) B).trans D;have f7:g.cell? ⟨r,t +d,none⟩=some (.int .i64 y):=(f.cell (p:=⟨r,t +d,none⟩) C).trans E;have HW:=zA a;have u:=zA f;have H4:=zA (fun w=>NB (H+2) 3 3 [r1,r2,r3] w rfl (by omega));rw [a]
 clear f R D E F B C a s
 go_region_held3 (fun w' =>w'.cell? ⟨H,0,none⟩=some (.int .i64 v)/\w'.cell? ⟨H,1,none⟩=some (.slice (some ⟨b,o,none⟩) n c)/\w'.cell? ⟨H+1,0,none⟩=some (.int .i64 z)/\w'.cell? ⟨H+1,1,none⟩=some (.slice (some ⟨r,t,none⟩) n' G)/\w'.cell? ⟨q,0,none⟩=some (.int .i64 d)/\w'.cell? ⟨b,o+d,none⟩=some (.int .i64 x)/\w'.cell? ⟨r,t +d,none⟩=some (.int .i64 y))
  (go_keep)
  (first
   |(go_at_call 328;refine(U.o _).mono ?_;rintro e w' ⟨rfl,rfl⟩)
   |(go_at_call 329;refine(X.o _ (u.o.trans ((zE _ _).drew.mono u.o.size))).mono ?_;rintro e w' ⟨rfl,rfl⟩)
   |(go_at_call 330;refine(Y.o _).mono ?_;rintro e w' ⟨rfl,rfl⟩)
   |(go_at_call 327;refine(H4.o _ (MZ g.drew _ [r1,r2,r3] k1)).mono ?_;rintro e w' ⟨rfl,rfl⟩)
   |fail)
 go_wp2;go_ret
 rw [J.o,<-HW.o];exact⟨rfl,1,_,NY _ _ _ _⟩
theorem lF (d:Nat) (w:O):Calls prog 275 #[.int .i64 (d:Int)] w fun e w' =>e= .returned (.func (.func 326) #[] #[.pointer (some ⟨w.heap.size,0,none⟩)])/\w' =w.alloc (.cells #[.int .i64 (d:Int)] 3):=by
 have a:=@mF prog;go_enter func275,ntmps275;go_wp2;go_ret
 exact⟨rfl,rfl⟩
section
variable {w:O} {L:List Asn} {e:TypeId} {N c g size:Nat}
theorem Sp.holdsV {pre a post:aF} (h:Sp w L) (d:RowA e size (.slice (some ⟨g,0,none⟩) N c) N (pre++a++post)∈L):Sort.Holds id w g pre.length a.toArray:=by
 intro j b;simp only [yP]at b
 have f:(pre++a++post)[pre.length+j]? =some (id a.toArray[j]!):=by
  rw [zO,zR (by omega),Nat.add_sub_cancel_left,z9 b,zB b,getElem!_pos _ j (by simpa using b)];rfl
 exact⟨(h.rowOf d).cells rfl _ _ f,h.rowFree d _⟩
theorem Sp.putV {pre b a post:aF} (h:Sp w (RowA e size (.slice (some ⟨g,0,none⟩) N c) N (pre++b++post)::L)) (q:a.length=b.length) (k:Nat) (m:Array Obj):
 Sp (Sort.grow (Sort.putRow id (Sort.ahead w k) g pre.length a.toArray) m) (RowA e size (.slice (some ⟨g,0,none⟩) N c) N (pre++a ++post)::L):=by
 refine h.upd fun S d=>⟨S,⟨d.1,?_⟩,Tch.putR w ((d.1 g).2 rfl) k pre.length _ m,fun _ v=> .inl v⟩;obtain⟨n,u⟩:=d.2;refine⟨by simpa [q]using n,?_⟩;rcases u with⟨l,_⟩|⟨A,cap,cur,l,_,o,r,x,s,y⟩
 ·cases l
 ·cases l;refine .inr ⟨g,c,Sort.putCells id pre.length a.toArray cur,rfl,trivial,?_,r,x,by simpa [Sort.putCells]using s,?_⟩
  ·rw [fI w k _ _ m g (Array.getElem?_eq_some_iff.1 o).1,if_pos rfl,o];rfl
  ·have B:N*size<=cur.size:=zY (yj _ r) s
   have z:∀i,(pre++b++post)[i]? =if i<N*size then cur[i]? else none:=by
    intro i;rw [<-y,yy,Array.getElem?_toList]
   simp only [zG]at n
   apply yX
   intro i;have t:=z i;rw [yy,Array.getElem?_toList];unfold Sort.putCells;rw [Array.getElem?_mapIdx]
   by_cases p:i<N*size
   ·rw [if_pos p]at t⊢;rw [<-t]
    by_cases f:i<pre.length
    ·rw [zO,z9 f,zO,z9 f,zB f,yk,if_neg (by omega)]
    ·by_cases C:i<pre.length+b.length
     ·rw [zO,zR (by omega),z9 (by omega),zO,zR (by omega),z9 (by omega),zB (by omega),yk,if_pos ⟨by omega,by simp;omega⟩,zB (by omega),getElem!_pos _ _ (by simp;omega)];rfl
     ·rw [zR (by simp;omega),zR (by simp;omega)];simp only [zG,q];have j:i - (pre.length+b.length)<post.length:=(by omega);rw [zB j,yk,if_neg (by simp;omega)]
   ·rw [if_neg p,zh (by simp;omega)]
end
theorem VZ {α:Type} {enc:α->aF} {k:Nat} (b:∀x,(enc x).length=k) (l:List α):(l.flatMap enc).length=l.length*k:=by
 rw [List.flatMap_def,Zh (l.map enc) (by simpa using fun a _=>b a),zK]
theorem jV {α:Type} [Inhabited α] {enc:α->aF} {k:Nat} (d:∀x,(enc x).length=k) (l:List α):Sort.flatK enc k l.toArray=(l.flatMap enc).toArray:=by
 refine Sort.ext_get! (by simp [VZ d]) fun t n=> ?_;have b :t<l.length*k:=by simpa using n
 rw [Sort.get_flatK _ _ _ _ (by simpa using b)]
 have m:0<k:=by rcases zi k with h|h;·subst h;simp at b
                ·exact h
 have j:t / k<l.length:=(Nat.div_lt_iff_lt_mul m).2 b;have i:=Nat.mod_lt t m;have f:=xX (size:=k) (l.map enc) (t / k) (t%k) (enc l[t / k]) (by simpa using fun a _=>d a) (by simp [j]) i;rw [Nat.mul_comm,Nat.div_add_mod]at f;rw [<-List.flatMap_def]at f;rw [getElem!_pos l.toArray (t / k) (by simpa using j)];simp only [List.getElem_toArray]
 have hlen:t<(l.flatMap enc).length:=by rw [VZ d];exact b
 rw [zB hlen,zB (by rw [d];exact i)]at f;rw [getElem!_pos (l.flatMap enc).toArray t (by simpa using hlen),getElem!_pos (enc l[t / k]) _ (by rw [d];exact i)]
 simpa using(yG f).symm
theorem KU {α:Type} {c:α->α->Int} (h:Cmp c):Sort.SWO (ltOf c) where
 irrefl x:=by have:=h.refl x;simp [ltOf,this]
 trans x y z:=by simp only [ltOf,decide_eq_true_eq];exact h.trans x y z
 ntrans x y z:=by
  simp only [ltOf,decide_eq_false_iff_not];intro b d a
  by_cases e:c x y=0
  ·have:=h.like x y z e;omega
  ·have:=h.swap x y;have:=h.trans y x z (by omega) a;omega
def encA (CA:List aF) (i:Nat):aF:=(CA[i]?.or CA[0]?).getD []
def ptA (PA:List Pt) (i:Nat):Pt:=(PA[i]?.or PA[0]?).getD (0, [])
theorem fC {CA:List aF} {PA:List Pt} (f:CA.length=PA.length) (a:0<CA.length) (i:Nat):∃k:Nat,CA[k]? =some (encA CA i)/\PA[k]? =some (ptA PA i):=by
 rcases zk i CA.length with h|h
 ·exact⟨i,by simp [encA,h],by have:i<PA.length:=by omega
                              simp [ptA,this]⟩
 ·have b:PA.length<=i:=(by omega);have d:0<PA.length:=(by omega);exact⟨0,by simp [encA,zh h,a],by simp [ptA,zh b,d]⟩
def OD (B:Nat) (w0:O) (CA:List aF) (PA:List Pt):Asn where
 P S w:=(OldA B w0).P S w/\(ElsA CA PA).P S w
 lt h:=h.2.2
 keep h ht hn:=⟨(OldA B w0).keep h.1 ht hn,(ElsA CA PA).keep h.2 ht hn⟩
section
variable {w w0:O} {B0:Nat} {L:List Asn} {CA:List aF} {PA:List Pt}
theorem Sp.elsLen (h:Sp w L) (b:OD B0 w0 CA PA∈L):CA.length=PA.length:=by obtain⟨S,_,a⟩:=h.get b;exact a.1.1
theorem Sp.encRep (h:Sp w L) (f:OD B0 w0 CA PA∈L) (b:0<CA.length) (i:Nat):rep w (·<w.heap.size) (encA CA i) (ptA PA i):=by
 obtain⟨S,_,a,d⟩:=h.get f;obtain⟨k,j,l⟩:=fC a.1 b i;exact Rep.more (a.2 k _ _ j l) d
theorem mG {N c g n cap d b q:Nat} {pre post:aF} {r:aE} (A:0<CA.length) (K:d<b) (W:∀p∈PA,p.2.length=b)
 (h:Sp w (RowA 232 2 (.slice (some ⟨g,0,none⟩) N c) N (pre++r.flatMap (encA CA)++post)::BlkA q 3 #[.int .i64 (d:Int)]::OD B0 w0 CA PA::L)) (F:r.length=n) (Y:n<1000000000):
 Calls prog 274 #[.slice (some ⟨g,pre.length,none⟩) n cap,.func (.func 326) #[] #[.pointer (some ⟨q,0,none⟩)]] w fun e w' =>
  e= .returned (.tuple #[])/\∃t :aE,t.length=n/\t.map (ptA PA)=Zu d (r.map (ptA PA))/\Sp w' (RowA 232 2 (.slice (some ⟨g,0,none⟩) N c) N (pre++t.flatMap (encA CA)++post)::OD B0 w0 CA PA::L):=by
 have C:∀x,(encA CA x).length=2:=fun i=>Rep.len (h.encRep M2 A i);have T:∀x,∀v∈encA CA x,v.oneCell' =true:=fun i v hv=>Rep.one (h.encRep M2 A i) hv
 have D:∀i,(ptA PA i).2.length=b:=fun i=>by
  obtain⟨k,_,k2⟩:=fC (h.elsLen M2) A i;exact W _ (zD k2)
 have E:∀f:Array Nat,f.size=n->(f.toList.flatMap (encA CA)).length=(r.flatMap (encA CA)).length:=by
  intro f l;rw [VZ C,VZ C,F,Array.length_toList,l]
 have J:∀(m:Nat) (u:Array Obj) (f:Array Nat),f.size=n->Sp (sortWorldK (encA CA) 2 w g pre.length m f u) (RowA 232 2 (.slice (some ⟨g,0,none⟩) N c) N (pre++f.toList.flatMap (encA CA)++post)::BlkA q 3 #[.int .i64 (d:Int)]::OD B0 w0 CA PA::L):=by
  intro m u f l;have z:=h.putV (E f l) m u;rw [<-jV C]at z;exact z
 have B:CmpLays prog 326 #[.pointer (some ⟨q,0,none⟩)] (encA CA) 2 (fun x y=>W7 d (ptA PA x) (ptA PA y)) g pre.length r.toArray.size w:=by
  intro m u f l x y;have z:=J m u f (by simpa [F]using l);exact wS q d _ _ _ _ _ (z.cell M1 0) (z.encRep M2 A x) (z.encRep M2 A y) (by rw [D];exact K) (by rw [D];exact K)
 have U:Sort.HoldsK (encA CA) 2 w g pre.length r.toArray:=by
  unfold Sort.HoldsK;rw [jV C];exact h.holdsV M0
 have:=AnyQ.slices_SortFunc Tryz.laysPts 2 (fun w=>by kernel_rfl) (fun w=>by kernel_rfl) (encA CA) C T (fun x y=>W7 d (ptA PA x) (ptA PA y)) (KU ((b9 d).pull (ptA PA))) 326 #[.pointer (some ⟨q,0,none⟩)] g pre.length cap r.toArray w
  (enters_of func326 (by kernel_rfl) rfl) B U (h.rowLt M0) (by simp;omega)
 rw [show r.toArray.size=n by simpa using F]at this;refine this.mono ?_;rintro e w' ⟨rfl,a,k,u,P,Z,rfl⟩;have o:a.size=n:=by have:=P.1;simpa [F]using this
 have s:a.toList.Perm r:=by
  have G:=P.2.2;rw [<-o,Array.extract_size]at G;have Q:(r.toArray.extract 0 a.size)=r.toArray:=(by rw [o,<-F];simp);rw [Q]at G
  simpa using G
 refine⟨rfl,a.toList,by simpa using o,Ve (s.map _) ?_,(J k u a o).d1⟩;rw [List.pairwise_map,List.pairwise_iff_getElem];intro i j X M H;have I:=Z i j (zJ _) H (by simpa [o]using M);have R:a[i]! =a.toList[i]:=by rw [getElem!_pos a i (by simpa using X)];simp
 have S:a[j]! =a.toList[j]:=by rw [getElem!_pos a j (by simpa using M)];simp
 rw [R,S]at I;simp only [ltOf,decide_eq_false_iff_not]at I;unfold lePt;have:=(b9 d).swap (ptA PA a.toList[i]) (ptA PA a.toList[j]);simp only [decide_eq_true_eq];omega
end
attribute [local go_sem ↓] zU zV
section
variable {w w0:O} {B0:Nat} {L:List Asn} {CA:List aF} {PA:List Pt}
abbrev PtsA (CA:List aF) (g N c:Nat) (pre:aF) (a:aE) (post:aF):Asn:=RowA 232 2 (.slice (some ⟨g,0,none⟩) N c) N (pre++a.flatMap (encA CA)++post)
theorem Sp.ptAt {g N c o k d:Nat} {pre post:aF} {l:aE} (h:Sp w L) (r:PtsA CA g N c pre l post∈L) (p:OD B0 w0 CA PA∈L) (m:0<CA.length) (B:pre.length=o) (q:l[k]? =some d):
 ∃A n c,w.cell? ⟨g,o+k*2,none⟩=some (.int .i64 (ptA PA d).1)/\w.cell? ⟨g,o+k*2+1,none⟩=some (.slice A n c)/\In64 (ptA PA d).1/\zL w (·<w.heap.size) A n c (ptA PA d).2:=by
 have y:=h.encRep p m d;obtain⟨A,n,s,e,t,u⟩:=Pt.at_ y
 have f:∀i,(encA CA i).length=2:=fun i=>Rep.len (h.encRep p m i)
 have b:∀j,j<2->(pre++l.flatMap (encA CA)++post)[o+k*2+j]? =(encA CA d)[j]? :=by
  intro j v;have x:=zN q;have z:k*2+j<(l.flatMap (encA CA)).length:=(by rw [VZ f];omega);rw [zO,zR (by omega),z9 (by omega),show o+k*2+j - pre.length=k*2+j by omega,List.flatMap_def];exact xX (size:=2) _ k j _ (by simpa using fun a _=>f a) (by rw [zH,q];rfl) v
 refine⟨A,n,s,?_,?_,t,u⟩
 ·exact h.rowCell r (by have:=b 0 (by omega);rw [e]at this;simpa using this)
 ·exact h.rowCell r (by have:=b 1 (by omega);rw [e]at this;simpa using this)
theorem Vp (b:CA.length=PA.length) (a:0<CA.length) (i:Nat):ptA PA i∈PA:=by
 obtain⟨k,_,c⟩:=fC b a i;exact zD c
theorem vM {a d:Nat} {m:aE} {l:List Pt} (u:ZG a PA) (k:m.map (ptA PA)=l) (y:CA.length=PA.length) (r:0<CA.length) (z:0<m.length) (v:d<a):
 -9223372036854775808<=lowP d (x0 d l) l/\lowP d (x0 d l) l<=Yy d (x0 d l) l/\Yy d (x0 d l) l<=9223372036854775807:=by
 have c:l≠ []:=by subst k;intro e;rw [List.map_eq_nil_iff]at e;subst e;simp at z
 have j:∀p∈l, -9223372036854775808<=p.x d/\p.x d<=9223372036854775807:=by
  intro p f;subst k;obtain⟨i,_,rfl⟩:=List.mem_map.1 f;obtain⟨s,_,_,t⟩:=u _ (Vp y r i);have b :d<(ptA PA i).2.length:=(by rw [s];exact v);have:=t _ (List.getElem_mem b)
  rwa [<-Pt.x_get (zB b)]at this
 obtain⟨p,f,e⟩:=fJ (d:=d) c;have A :=j p f;obtain⟨B,C,n⟩:=cN d l (x0 d l);obtain⟨D,c2,o⟩:=UF d l (x0 d l);refine⟨?_,by omega,?_⟩
 ·rcases n with h|⟨q,g,h⟩
  ·omega
  ·have:=j q g;omega
 ·rcases o with h|⟨q,g,h⟩
  ·omega
  ·have:=j q g;omega
theorem vL {N c g n cap a o:Nat} {pre post:aF} {r:aE} (Q:0<CA.length) (hP:ZG a PA)
 (h:Sp w (PtsA CA g N c pre r post::OD B0 w0 CA PA::L)) (hn:r.length=n) (q:0<n) (hh:n<1000000000) (hf:0<a) (hg:a<=4) (ho:pre.length=o):
 Calls prog 276 #[.int .i64 (a:Int),.slice (some ⟨g,o,none⟩) n cap] w fun e w' =>
  e= .returned (.int .i64 ((xF (r.map (ptA PA)) a).1:Int))/\Sp w' (PtsA CA g N c pre r post::OD B0 w0 CA PA::L):=by
 obtain⟨l,hl⟩:=eX (r.map (ptA PA));have Hl:=zA hl;have Hn:=zA hn;have HP:=zA hP;have Ho:=zA ho;rw [hl];clear hl hn hP ho;go_enter func276,ntmps276;go_wp2
 go_loopg [5,6,7,8,9,11,12,14] a (fun gk vb vf _ _ _ _ _ vi wr=>∃d:Nat,vi= .int .i64 d/\d<=a/\gk=a - d/\vb= .int .i64 ((xF l d).1:Int)/\vf= .int .u64 (xF l d).2/\Sp wr (PtsA CA g N c pre r post::OD B0 w0 CA PA::L))
 case atStart=>exact⟨0,rfl,zJ _,rfl,rfl,rfl,h⟩
 case round=>
  obtain⟨d,rfl,hd,rfl,rfl,rfl,G⟩:=hrel;clear h
  by_cases v:d<a
  ·obtain⟨i0,z⟩:∃i0,r[0]? =some i0:=⟨_,zB (by rw [Hn.o];exact q)⟩;obtain⟨A0,n0,c0, -,f1, -,f2⟩:=G.ptAt M0 M1 Q Ho.o z;have U:ptA PA i0∈PA:=Vp (G.elsLen M1) Q i0;have he:d<n0:=(by rw [<-f2.length,(HP.o _ U).1];exact v);obtain⟨b0,q0,b,rfl,P, -,f3⟩:=f2.at_ he
   have f3:=f3.int.1
   have Z:x0 d l=b:=by
    unfold x0;rw [<-Hl.o,zH,z];exact Pt.x_get P.o
   rw [show o+0*2+1=o+1 by omega]at f1;have Hx:=zA Z;obtain⟨bs,u⟩:=eX ((xF l d).1);obtain⟨fr,y⟩:=eX ((xF l d).2);rw [u,y];have ha:=zA u;have s:=zA y;clear f2 U Z z P u y;go_wp2
   go_quiet (fail)
   go_wp2
   go_loopg [8,9,11,33] n (fun gk vl vh _ vi wq=>∃k:Nat,vi= .int .i64 k/\k<=n/\gk=n - k/\vl= .int .i64 (lowP d b (l.take k))/\vh= .int .i64 (Yy d b (l.take k))/\Sp wq (PtsA CA g N c pre r post::OD B0 w0 CA PA::L))
   case atStart=>exact⟨0,rfl,zJ _,rfl,by simp [lowP],by simp [Yy],G.drewN _⟩
   case round=>
    obtain⟨k,rfl,hk,rfl,rfl,rfl,j⟩:=hrel;clear G f1 f3
    by_cases hc:k<n
    ·obtain⟨E,A⟩:∃E,r[k]? =some E:=⟨_,zB (by rw [Hn.o];exact hc)⟩;obtain⟨A1,n1,c1,g0,g1, -,g2⟩:=j.ptAt M0 M1 Q Ho.o A;have X:ptA PA E∈PA:=Vp (j.elsLen M1) Q E;have q:d<n1:=(by rw [<-g2.length,(HP.o _ X).1];exact v);obtain⟨b1,q1,x,rfl,t,S,g3⟩:=g2.at_ q
     have g3:=g3.int.1;obtain⟨dc,T⟩:=eX ((ptA PA E).1);rw [T]at g0;obtain⟨F,i⟩:=eX (lowP d b (l.take k));obtain⟨D,f⟩:=eX (Yy d b (l.take k));rw [i,f];have B:l[k]? =some (ptA PA E):=(by rw [<-Hl.o,zH,A];rfl)
     have K:Hid (lowP d b (l.take (k+1))=min F x):=by
      show _=_;rw [zI,B];unfold lowP at*;rw [xE,i];simp [Pt.x_get t.o]
     have J:Hid (Yy d b (l.take (k+1))=max D x):=by
      show _=_;rw [zI,B];unfold Yy at*;rw [xE,f];simp [Pt.x_get t.o]
     clear g2 X A t T i f B;have I:=j.al (.cells #[.int .i64 dc,.slice (some ⟨b1,q1,none⟩) n1 c1] 232);obtain⟨H,hH⟩:=eX (wr.heap.size);go_wp2;obtain⟨W3,p⟩:=eX (wr.alloc (.cells #[.int .i64 dc,.slice (some ⟨b1,q1,none⟩) n1 c1] 232));have k1:W3.cell? ⟨H,1,none⟩=some (.slice (some ⟨b1,q1,none⟩) n1 c1):=(by rw [<-p,<-hH];exact(Blk.new wr _ _).cell 1)
     have k2:W3.cell? ⟨b1,q1+d,none⟩=some (.int .i64 x):=(by rw [<-p];exact(yA _ _ _ S).trans g3);rw [p]at I⊢;clear g0 g1 g3 S p hH j
     go_quiet (fail)
     go_wp2
     go_roundg (n - (k+1))
     ·exact⟨k+1,by go_num,by omega,rfl,by rw [K.o],by rw [J.o],I.drewN _⟩
     ·omega
    ·obtain rfl:k=n:=by omega
     have Y:l.take k=l:=zF (by rw [<-Hl.o,zK,Hn.o];exact zC _);rw [Y];obtain⟨F,i⟩:=eX (lowP d b l);obtain⟨D,f⟩:=eX (Yy d b l);have C:V8 d l=D - F:=(by unfold V8;rw [Hx.o,i,f]);have m:=vM HP.o Hl.o (j.elsLen M1) Q (by rw [Hn.o];exact q) v;rw [Hx.o,i,f]at m
     have hw:IntKind.u64.wrap (IntKind.u64.wrap D - IntKind.u64.wrap F)=D - F:=by
      rw [zW,zW,zW];omega
     rw [i,f];obtain⟨W,R⟩:=eX (D - F);rw [R]at hw C;have M:=zA C;clear Y i f C R m
     by_cases hb:fr<W
     ·go_wp2
      go_roundg (a - (d+1))
      case measure=>omega
      case rel=>
       have e:xF l (d+1)=(d,W):=(by rw [V7,M.o,s.o,if_pos hb]);exact⟨d+1,by go_num,by omega,rfl,by rw [e],by rw [e],j⟩
     ·go_wp2
      go_roundg (a - (d+1))
      case measure=>omega
      case rel=>
       have e:xF l (d+1)=xF l d:=(by rw [V7,M.o,s.o,if_neg (by omega)]);exact⟨d+1,by go_num,by omega,rfl,by rw [e,ha.o],by rw [e,s.o],j⟩
  ·obtain rfl:d=a:=by omega
   go_wp2;go_ret
   exact⟨rfl,G⟩
end
end Go.Proofs.YtjbhbfaeielbiaaGreatDoor

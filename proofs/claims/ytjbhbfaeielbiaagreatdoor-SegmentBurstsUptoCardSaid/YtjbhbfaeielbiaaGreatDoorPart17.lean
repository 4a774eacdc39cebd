import Derived.Test.YtjbhbfaeielbiaaGreatDoorPart06
import Derived.Test.YtjbhbfaeielbiaaGreatDoorPart12
import Derived.Test.YtjbhbfaeielbiaaGreatDoorSrt
set_option maxRecDepth 100000
set_option maxHeartbeats 8000000
set_option linter.unusedVariables false
set_option linter.unusedSimpArgs false
namespace Go.Proofs.YtjbhbfaeielbiaaGreatDoor
open Tryz
open Rep (rep)
open Go.RowKit
theorem qL (x:Int) (w:O):Calls prog 353 #[.int .i64 x] w fun e w' =>e= .returned (.bool false)/\w' =w:=by
 have hx:(x !=x)=false:=by simp
 go_enter func353,ntmps353;go_wp2;go_ret
 exact⟨rfl,rfl⟩
theorem qQ (x y:Int) (w:O):Calls prog 328 #[.int .i64 x,.int .i64 y] w fun e w' =>e= .returned (.int .i64 (Lib.compareInt x y))/\w' =w:=by
 have h1:=qL x;have h2:=qL y;unfold Lib.compareInt
 by_cases hxy:x<y
 ·rw [if_pos hxy];go_enter func328,ntmps328;go_wp2_with (first|(go_at_call 353;refine(h1 _).mono ?_;rintro e w' ⟨rfl,rfl⟩)|(go_at_call 353;refine(h2 _).mono ?_;rintro e w' ⟨rfl,rfl⟩))
  go_ret
  exact⟨rfl,rfl⟩
 ·rw [if_neg hxy]
  by_cases hyx:x>y
  ·rw [if_pos hyx];go_enter func328,ntmps328;go_wp2_with (first|(go_at_call 353;refine(h1 _).mono ?_;rintro e w' ⟨rfl,rfl⟩)|(go_at_call 353;refine(h2 _).mono ?_;rintro e w' ⟨rfl,rfl⟩))
   go_ret
   exact⟨rfl,rfl⟩
  ·rw [if_neg hyx];go_enter func328,ntmps328;go_wp2_with (first|(go_at_call 353;refine(h1 _).mono ?_;rintro e w' ⟨rfl,rfl⟩)|(go_at_call 353;refine(h2 _).mono ?_;rintro e w' ⟨rfl,rfl⟩))
   go_ret
   exact⟨rfl,rfl⟩
theorem O4 (x:Int) (w:O):Calls prog 357 #[.int .i64 x] w fun e w' =>e= .returned (.bool false)/\w' =w:=by
 have hx:(x !=x)=false:=by simp
 go_enter func357,ntmps357;go_wp2;go_ret
 exact⟨rfl,rfl⟩
theorem PB (x y:Int) (w:O):Calls prog 330 #[.int .i64 x,.int .i64 y] w fun e w' =>e= .returned (.int .i64 (Lib.compareInt x y))/\w' =w:=by
 have h1:=O4 x;have h2:=O4 y;unfold Lib.compareInt
 by_cases hxy:x<y
 ·rw [if_pos hxy];go_enter func330,ntmps330;go_wp2_with (first|(go_at_call 357;refine(h1 _).mono ?_;rintro e w' ⟨rfl,rfl⟩)|(go_at_call 357;refine(h2 _).mono ?_;rintro e w' ⟨rfl,rfl⟩))
  go_ret
  exact⟨rfl,rfl⟩
 ·rw [if_neg hxy]
  by_cases hyx:x>y
  ·rw [if_pos hyx];go_enter func330,ntmps330;go_wp2_with (first|(go_at_call 357;refine(h1 _).mono ?_;rintro e w' ⟨rfl,rfl⟩)|(go_at_call 357;refine(h2 _).mono ?_;rintro e w' ⟨rfl,rfl⟩))
   go_ret
   exact⟨rfl,rfl⟩
  ·rw [if_neg hyx];go_enter func330,ntmps330;go_wp2_with (first|(go_at_call 357;refine(h1 _).mono ?_;rintro e w' ⟨rfl,rfl⟩)|(go_at_call 357;refine(h2 _).mono ?_;rintro e w' ⟨rfl,rfl⟩))
   go_ret
   exact⟨rfl,rfl⟩
theorem Wk {r r' :Int} (h:r=r'):Ending.returned (.int .i64 r)= .returned (.int .i64 r'):=by rw [h]
theorem J8 {F:Nat->Prop} (A A' :aA) (n m c c' :Nat) (xs ys:aD) (w:O) (hx:zL w F A n c xs) (hy:zL w F A' m c' ys):
 Calls prog 329 #[.slice A n c,.slice A' m c'] w fun e w' =>e= .returned (.int .i64 (cmpL xs ys))/\w' =w:=by
 have Lx:=zA hx.length;have Ly:=zA hy.length;have Hx:=zA hx;have Hy:=zA hy;have hn:n<=9223372036854775807:=by have:=hx.cap;omega
 have hm:m<=9223372036854775807:=by have:=hy.cap;omega
 clear hx hy;go_enter func329,ntmps329;go_wp2
 go_loopg [5,6,7,8,11] n (fun gk _ _ _ _ vi wr=>∃k:Nat,vi= .int .i64 k/\k<=n/\k<=m/\gk=n - k/\wr=w/\Hid (cmpL xs ys=cmpL (xs.drop k) (ys.drop k)))
 case atStart=>exact⟨0,rfl,zJ _,zJ _,rfl,rfl,rfl⟩
 case round=>
  obtain⟨k,rfl,hk,hkm,rfl,rfl,HC⟩:=hrel
  by_cases hlt:k<n
  ·obtain⟨b1,o1,x,rfl,Ex,_,hcx⟩:=Hx.out.at_ hlt
   have hcx:=hcx.int.1;have Dx:=zA (za (zN Ex.out))
   by_cases hlm:k<m
   ·obtain⟨b2,o2,y,rfl,Ey,_,hcy⟩:=Hy.out.at_ hlm
    have hcy:=hcy.int.1;have Dy:=zA (za (zN Ey.out));have hge:decide ((m:Int)<=k)=false:=(by simp;omega);have Hcc:=zA (fun W=>qQ x y W);have HX:=zA (List.getElem?_eq_some_iff.1 Ex.out).2;have HY:=zA (List.getElem?_eq_some_iff.1 Ey.out).2
    by_cases hr:Lib.compareInt x y=0
    ·have H2:Hid (cmpL xs ys=cmpL (xs.drop (k+1)) (ys.drop (k+1))):=by
      show _=_;rw [HC.out,Dx.out,Dy.out,HX.out,HY.out,XV,orI,if_pos hr]
     rw [hr]at Hcc;clear HC Dx Dy Ex Ey HX HY hr;go_wp2_with (go_at_call 328;refine(Hcc.out _).mono ?_;rintro e w' ⟨rfl,rfl⟩)
     go_roundg (n - (k+1))
     ·exact⟨k+1,by go_num,by omega,by omega,rfl,rfl,H2⟩
     ·omega
    ·have H2:Hid (cmpL xs ys=Lib.compareInt x y):=by
      show _=_;rw [HC.out,Dx.out,Dy.out,HX.out,HY.out,XV,orI,if_neg hr]
     obtain⟨r,hr0⟩:=eX (Lib.compareInt x y);rw [hr0]at Hcc H2 hr;have hrb:(r !=0)=true:=(by simp [hr]);clear HC Dx Dy Ex Ey HX HY hr hr0;go_wp2_with (go_at_call 328;refine(Hcc.out _).mono ?_;rintro e w' ⟨rfl,rfl⟩);go_ret
     exact⟨Wk H2.out.symm,rfl⟩
   ·have hge:decide ((m:Int)<=k)=true:=(by simp;omega)
    have H2:Hid (cmpL xs ys=1):=by
     show _=_;rw [HC.out,Dx.out,show ys.drop k= []from zQ (by rw [Ly.out];omega)];rfl
    clear HC Dx Ex;go_wp2;go_ret
    exact⟨Wk H2.out.symm,rfl⟩
  ·obtain rfl:k=n:=by omega
   have hd:xs.drop k= []:=zQ (by rw [Lx.out];omega)
   by_cases hlm:k<m
   ·have H2:Hid (cmpL xs ys= -1):=by
     show _=_;rw [HC.out,hd,za (l:=ys) (i:=k) (by rw [Ly.out];exact hlm)];rfl
    clear HC hd;go_wp2;go_ret
    exact⟨Wk H2.out.symm,rfl⟩
   ·have H2:Hid (cmpL xs ys=0):=by
     show _=_;rw [HC.out,hd,show ys.drop k= []from zQ (by rw [Ly.out];omega)];rfl
    clear HC hd;go_wp2;go_ret
    exact⟨Wk H2.out.symm,rfl⟩
def orZ:aD->Int
 | []=>0
 |x::l=>orI x (orZ l)
theorem WL (x:Int) (l:aD):orZ (x::l)=orI x (orZ l):=rfl
theorem NB (b n c:Nat) (xs:aD) (w:O) (hn:xs.length=n) (hm:n<=1000) (hx:∀k x,xs[k]? =some x->w.cell? ⟨b,k,none⟩=some (.int .i64 x)):
 Calls prog 327 #[.slice (some ⟨b,0,none⟩) n c] w fun e w' =>e= .returned (.int .i64 (orZ xs))/\w' =w:=by
 have Lx:=zA hn;have Hx:=zA hx;clear hn hx;go_enter func327,ntmps327;go_wp2
 go_loopg [5,8] n (fun gk _ vi wr=>∃k:Nat,vi= .int .i64 k/\k<=n/\gk=n - k/\wr=w/\Hid (orZ xs=orZ (xs.drop k)))
 case atStart=>exact⟨0,rfl,zJ _,rfl,rfl,rfl⟩
 case round=>
  obtain⟨k,rfl,hk,rfl,rfl,HC⟩:=hrel
  by_cases hlt:k<n
  ·have hl:k<xs.length:=(by rw [Lx.out];exact hlt);obtain⟨x,hxk⟩:=eX (xs[k]);have hcx:=Hx.out k x (by rw [zB hl,hxk]);have Dx:=za hl;rw [hxk]at Dx
   by_cases hr:x=0
   ·have H2:Hid (orZ xs=orZ (xs.drop (k+1))):=(by show _=_;rw [HC.out,Dx,WL,orI,if_pos hr]);subst hr;clear HC Dx hl hxk;go_wp2
    go_roundg (n - (k+1))
    ·exact⟨k+1,by go_num,by omega,rfl,rfl,H2⟩
    ·omega
   ·have H2:Hid (orZ xs=x):=(by show _=_;rw [HC.out,Dx,WL,orI,if_neg hr]);have hrb:(x !=0)=true:=(by simp [hr]);clear HC Dx hl hxk hr;go_wp2;go_ret
    exact⟨Wk H2.out.symm,rfl⟩
  ·obtain rfl:k=n:=by omega
   have H2:Hid (orZ xs=0):=(by show _=_;rw [HC.out,zQ (by rw [Lx.out];omega)];rfl);clear HC;go_wp2;go_ret
   exact⟨Wk H2.out.symm,rfl⟩
theorem Pt.at_ {w:O} {F:Nat->Prop} {cs:aF} {p:Pt} (h:rep w F cs p):∃A n c,cs= [.int .i64 p.1,.slice A n c]/\In64 p.1/\zL w F A n c p.2:=by
 obtain⟨c1,c2,rfl,⟨rfl,h1⟩,A,n,c,rfl,h2⟩:=h;exact⟨A,n,c,rfl,h1,h2⟩
theorem Pt.x_get {d:Nat} {p:Pt} {x:Int} (h:p.2[d]? =some x):p.x d=x:=by unfold Pt.x;rw [h];rfl
theorem MZ {H:Nat} (w:O) (t:TypeId) (xs:aD) (hw:w.heap.size=H):∀k x,xs[k]? =some x->(w.alloc (.cells (xs.map (Value.int .i64)).toArray t)).cell? ⟨H,k,none⟩=some (.int .i64 x):=by
 intro k x hk;subst hw;rw [(Blk.new w t _).cell k];simp [hk]
theorem NY (W:O) (a b c:Obj):(((W.alloc a).alloc b).alloc c).drew=Sort.grow (W.drewN 1) #[a,b,c]:=by
 unfold Sort.grow World.alloc;simp only [World.drew,World.drewN];rw [World.mk.injEq];exact⟨Array.ext' (by simp),rfl,rfl,rfl,rfl⟩
theorem PE (a b c:Int):orZ [a,b,c]=orI a (orI b c):=by
 rw [WL,WL,WL];have:orI c (orZ [])=c:=by unfold orI;split<;>simp_all [orZ]
 rw [this]
theorem wS (q d:Nat) (cx cy:aF) (px py:Pt) (W:O) (hq:W.cell? ⟨q,0,none⟩=some (.int .i64 (d:Int))) (hx:rep W (·<W.heap.size) cx px) (hy:rep W (·<W.heap.size) cy py) (hdx:d<px.2.length) (hdy:d<py.2.length):
 Calls prog 326 #[.agg cx.toArray,.agg cy.toArray,.pointer (some ⟨q,0,none⟩)] W fun e w' =>e= .returned (.int .i64 (W7 d px py))/\∃k os,w' =Sort.grow (W.drewN k) os:=by
 obtain⟨A,n,c,rfl, -,h1⟩:=Pt.at_ hx
 obtain⟨A',n',c',rfl, -,h1'⟩:=Pt.at_ hy
 have hn:=h1.length;have hn' :=h1'.length;obtain⟨b,o,x,rfl,Ex,hb,ex⟩:=h1.at_ (k:=d) (by omega)
 obtain⟨b',o',y,rfl,Ey,hb',ey⟩:=h1'.at_ (k:=d) (by omega)
 have hdn:d<n:=by omega
 have hdn' :d<n' :=by omega
 have hqb:q<W.heap.size:=World.block_lt_of_cell? W _ hq;have hcx:=ex.int.1;have hcy:=ey.int.1
 have Hc:Hid (W7 d px py=orZ [Lib.compareInt x y,cmpL px.2 py.2,Lib.compareInt px.1 py.1]):=by
  show _=_;rw [PE];unfold W7;rw [Pt.x_get Ex.out,Pt.x_get Ey.out]
 obtain⟨dx,hdx'⟩:=eX (px.1);obtain⟨dy,hdy'⟩:=eX (py.1);rw [hdx',hdy']at Hc⊢;obtain⟨r1,e1⟩:=eX (Lib.compareInt x y);obtain⟨r2,e2⟩:=eX (cmpL px.2 py.2);obtain⟨r3,e3⟩:=eX (Lib.compareInt dx dy);have H1:=zA (fun w=>qQ x y w);have H3:=zA (fun w=>PB dx dy w);have H2:=zA (fun(w:O) (hb:Below W.heap.size W w)=>J8 _ _ n n' c c' px.2 py.2 w (h1.below hb) (h1'.below hb));rw [e1,e2,e3]at Hc;rw [e1]at H1
 rw [e2]at H2;rw [e3]at H3;obtain⟨H,hH⟩:=eX (W.heap.size);clear hx hy ex ey h1 h1' hn hn' e1 e2 e3 Ex Ey hdx' hdy' hdx hdy;go_enter func326,ntmps326;go_wp2;obtain⟨W1,hW1⟩:=eX ((W.alloc (.cells #[.int .i64 dx,.slice (some ⟨b,o,none⟩) n c] 232)).alloc (.cells #[.int .i64 dy,.slice (some ⟨b',o',none⟩) n' c'] 232))
 have hb1:Below W.heap.size W W1:=by rw [<-hW1];exact((zE _ _).alloc (zC _) _).alloc (by simp) _
 have k1:W1.heap.size=H+2:=by rw [<-hW1];simp [hH]
 have f1:W1.cell? ⟨H,0,none⟩=some (.int .i64 dx):=by rw [<-hW1];simp [go_sem,hH]
 have f2:W1.cell? ⟨H,1,none⟩=some (.slice (some ⟨b,o,none⟩) n c):=by rw [<-hW1];simp [go_sem,hH]
 have f3:W1.cell? ⟨H+1,0,none⟩=some (.int .i64 dy):=by rw [<-hW1];simp [go_sem,hH]
 have f4:W1.cell? ⟨H+1,1,none⟩=some (.slice (some ⟨b',o',none⟩) n' c'):=by rw [<-hW1];simp [go_sem,hH]
 have f5:W1.cell? ⟨q,0,none⟩=some (.int .i64 d):=(hb1.cell (p:=⟨q,0,none⟩) hqb).trans hq;have f6:W1.cell? ⟨b,o+d,none⟩=some (.int .i64 x):=(hb1.cell (p:=⟨b,o+d,none⟩) hb).trans hcx;have f7:W1.cell? ⟨b',o' +d,none⟩=some (.int .i64 y):=(hb1.cell (p:=⟨b',o' +d,none⟩) hb').trans hcy;have HW:=zA hW1;have Hb1:=zA hb1;have H4:=zA (fun w=>NB (H+2) 3 3 [r1,r2,r3] w rfl (by omega));rw [hW1]
 clear hb1 hq hcx hcy hqb hb hb' hW1 hH
 go_region_held3 (fun w' =>w'.cell? ⟨H,0,none⟩=some (.int .i64 dx)/\w'.cell? ⟨H,1,none⟩=some (.slice (some ⟨b,o,none⟩) n c)/\w'.cell? ⟨H+1,0,none⟩=some (.int .i64 dy)/\w'.cell? ⟨H+1,1,none⟩=some (.slice (some ⟨b',o',none⟩) n' c')/\w'.cell? ⟨q,0,none⟩=some (.int .i64 d)/\w'.cell? ⟨b,o+d,none⟩=some (.int .i64 x)/\w'.cell? ⟨b',o' +d,none⟩=some (.int .i64 y))
  (go_keep)
  (first
   |(go_at_call 328;refine(H1.out _).mono ?_;rintro e w' ⟨rfl,rfl⟩)
   |(go_at_call 329;refine(H2.out _ (Hb1.out.trans ((zE _ _).drew.mono Hb1.out.size))).mono ?_;rintro e w' ⟨rfl,rfl⟩)
   |(go_at_call 330;refine(H3.out _).mono ?_;rintro e w' ⟨rfl,rfl⟩)
   |(go_at_call 327;refine(H4.out _ (MZ W1.drew _ [r1,r2,r3] k1)).mono ?_;rintro e w' ⟨rfl,rfl⟩)
   |fail)
 go_wp2;go_ret
 rw [Hc.out,<-HW.out];exact⟨rfl,1,_,NY _ _ _ _⟩
theorem lF (d:Nat) (w:O):Calls prog 275 #[.int .i64 (d:Int)] w fun e w' =>e= .returned (.func (.func 326) #[] #[.pointer (some ⟨w.heap.size,0,none⟩)])/\w' =w.alloc (.cells #[.int .i64 (d:Int)] 3):=by
 have hmf:=@mF prog;go_enter func275,ntmps275;go_wp2;go_ret
 exact⟨rfl,rfl⟩
section
variable {w:O} {L:List Asn} {e:TypeId} {N c g size:Nat}
theorem Sp.holdsV {pre mid post:aF} (h:Sp w L) (hm:RowA e size (.slice (some ⟨g,0,none⟩) N c) N (pre++mid++post)∈L):Sort.Holds id w g pre.length mid.toArray:=by
 intro j hj;simp only [yP]at hj
 have e1:(pre++mid++post)[pre.length+j]? =some (id mid.toArray[j]!):=by
  rw [zO,zR (by omega),Nat.add_sub_cancel_left,z9 hj,zB hj,getElem!_pos _ j (by simpa using hj)];rfl
 exact⟨(h.rowOf hm).cells rfl _ _ e1,h.rowFree hm _⟩
theorem Sp.putV {pre mid mid' post:aF} (h:Sp w (RowA e size (.slice (some ⟨g,0,none⟩) N c) N (pre++mid++post)::L)) (hl:mid'.length=mid.length) (k:Nat) (os:Array Obj):
 Sp (Sort.grow (Sort.putRow id (Sort.ahead w k) g pre.length mid'.toArray) os) (RowA e size (.slice (some ⟨g,0,none⟩) N c) N (pre++mid' ++post)::L):=by
 refine h.upd fun S hS=>⟨S,⟨hS.1,?_⟩,Tch.putR w ((hS.1 g).2 rfl) k pre.length _ os,fun _ hb=> .inl hb⟩;obtain⟨h1,h2⟩:=hS.2;refine⟨by simpa [hl]using h1,?_⟩;rcases h2 with⟨hv,_⟩|⟨g',cap,cur,hv,_,hg,k1,k2,k3,k4⟩
 ·cases hv
 ·cases hv;refine .inr ⟨g,c,Sort.putCells id pre.length mid'.toArray cur,rfl,trivial,?_,k1,k2,by simpa [Sort.putCells]using k3,?_⟩
  ·rw [fI w k _ _ os g (Array.getElem?_eq_some_iff.1 hg).1,if_pos rfl,hg];rfl
  ·have hN:N*size<=cur.size:=zY (yj _ k1) k3
   have k5:∀i,(pre++mid++post)[i]? =if i<N*size then cur[i]? else none:=by
    intro i;rw [<-k4,yy,Array.getElem?_toList]
   simp only [zG]at h1
   apply yX
   intro i;have k6:=k5 i;rw [yy,Array.getElem?_toList];unfold Sort.putCells;rw [Array.getElem?_mapIdx]
   by_cases hi:i<N*size
   ·rw [if_pos hi]at k6⊢;rw [<-k6]
    by_cases hp:i<pre.length
    ·rw [zO,z9 hp,zO,z9 hp,zB hp,yk,if_neg (by omega)]
    ·by_cases hm:i<pre.length+mid.length
     ·rw [zO,zR (by omega),z9 (by omega),zO,zR (by omega),z9 (by omega),zB (by omega),yk,if_pos ⟨by omega,by simp;omega⟩,zB (by omega),getElem!_pos _ _ (by simp;omega)];rfl
     ·rw [zR (by simp;omega),zR (by simp;omega)];simp only [zG,hl];have hp2:i - (pre.length+mid.length)<post.length:=(by omega);rw [zB hp2,yk,if_neg (by simp;omega)]
   ·rw [if_neg hi,zh (by simp;omega)]
end
theorem VZ {α:Type} {enc:α->aF} {k:Nat} (hk:∀x,(enc x).length=k) (l:List α):(l.flatMap enc).length=l.length*k:=by
 rw [List.flatMap_def,Zh (l.map enc) (by simpa using fun a _=>hk a),zK]
theorem jV {α:Type} [Inhabited α] {enc:α->aF} {k:Nat} (hk:∀x,(enc x).length=k) (l:List α):Sort.flatK enc k l.toArray=(l.flatMap enc).toArray:=by
 refine Sort.ext_get! (by simp [VZ hk]) fun t ht=> ?_;have ht' :t<l.length*k:=by simpa using ht
 rw [Sort.get_flatK _ _ _ _ (by simpa using ht')]
 have k0:0<k:=by rcases zi k with h|h;·subst h;simp at ht'
                 ·exact h
 have hq:t / k<l.length:=(Nat.div_lt_iff_lt_mul k0).2 ht';have hr:=Nat.mod_lt t k0;have e1:=xX (size:=k) (l.map enc) (t / k) (t%k) (enc l[t / k]) (by simpa using fun a _=>hk a) (by simp [hq]) hr;rw [Nat.mul_comm,Nat.div_add_mod]at e1;rw [<-List.flatMap_def]at e1;rw [getElem!_pos l.toArray (t / k) (by simpa using hq)];simp only [List.getElem_toArray]
 have hlen:t<(l.flatMap enc).length:=by rw [VZ hk];exact ht'
 rw [zB hlen,zB (by rw [hk];exact hr)]at e1;rw [getElem!_pos (l.flatMap enc).toArray t (by simpa using hlen),getElem!_pos (enc l[t / k]) _ (by rw [hk];exact hr)]
 simpa using(yG e1).symm
theorem KU {α:Type} {c:α->α->Int} (h:Cmp c):Sort.SWO (ltOf c) where
 irrefl x:=by have:=h.refl x;simp [ltOf,this]
 trans x y z:=by simp only [ltOf,decide_eq_true_eq];exact h.trans x y z
 ntrans x y z:=by
  simp only [ltOf,decide_eq_false_iff_not];intro h1 h2 h3
  by_cases e:c x y=0
  ·have:=h.like x y z e;omega
  ·have:=h.swap x y;have:=h.trans y x z (by omega) h3;omega
def encA (CA:List aF) (i:Nat):aF:=(CA[i]?.or CA[0]?).getD []
def ptA (PA:List Pt) (i:Nat):Pt:=(PA[i]?.or PA[0]?).getD (0, [])
theorem fC {CA:List aF} {PA:List Pt} (hl:CA.length=PA.length) (h0:0<CA.length) (i:Nat):∃k:Nat,CA[k]? =some (encA CA i)/\PA[k]? =some (ptA PA i):=by
 rcases zk i CA.length with h|h
 ·exact⟨i,by simp [encA,h],by have:i<PA.length:=by omega
                              simp [ptA,this]⟩
 ·have h2:PA.length<=i:=(by omega);have h3:0<PA.length:=(by omega);exact⟨0,by simp [encA,zh h,h0],by simp [ptA,zh h2,h3]⟩
def OD (B:Nat) (w0:O) (CA:List aF) (PA:List Pt):Asn where
 P S w:=(OldA B w0).P S w/\(ElsA CA PA).P S w
 lt h:=h.2.2
 keep h ht hn:=⟨(OldA B w0).keep h.1 ht hn,(ElsA CA PA).keep h.2 ht hn⟩
section
variable {w w0:O} {B0:Nat} {L:List Asn} {CA:List aF} {PA:List Pt}
theorem Sp.elsLen (h:Sp w L) (hm:OD B0 w0 CA PA∈L):CA.length=PA.length:=by obtain⟨S,_,h1⟩:=h.get hm;exact h1.1.1
theorem Sp.encRep (h:Sp w L) (hm:OD B0 w0 CA PA∈L) (h0:0<CA.length) (i:Nat):rep w (·<w.heap.size) (encA CA i) (ptA PA i):=by
 obtain⟨S,_,h1,h2⟩:=h.get hm;obtain⟨k,k1,k2⟩:=fC h1.1 h0 i;exact Rep.more (h1.2 k _ _ k1 k2) h2
theorem mG {N c g n cap d dims q:Nat} {pre post:aF} {is:aE} (h0:0<CA.length) (hd:d<dims) (hP:∀p∈PA,p.2.length=dims)
 (h:Sp w (RowA 232 2 (.slice (some ⟨g,0,none⟩) N c) N (pre++is.flatMap (encA CA)++post)::BlkA q 3 #[.int .i64 (d:Int)]::OD B0 w0 CA PA::L)) (hn:is.length=n) (hn2:n<1000000000):
 Calls prog 274 #[.slice (some ⟨g,pre.length,none⟩) n cap,.func (.func 326) #[] #[.pointer (some ⟨q,0,none⟩)]] w fun e w' =>
  e= .returned (.tuple #[])/\∃is' :aE,is'.length=n/\is'.map (ptA PA)=Zu d (is.map (ptA PA))/\Sp w' (RowA 232 2 (.slice (some ⟨g,0,none⟩) N c) N (pre++is'.flatMap (encA CA)++post)::OD B0 w0 CA PA::L):=by
 have hk:∀x,(encA CA x).length=2:=fun i=>Rep.len (h.encRep M2 h0 i);have h1:∀x,∀v∈encA CA x,v.oneCell' =true:=fun i v hv=>Rep.one (h.encRep M2 h0 i) hv
 have hlP:∀i,(ptA PA i).2.length=dims:=fun i=>by
  obtain⟨k,_,k2⟩:=fC (h.elsLen M2) h0 i;exact hP _ (zD k2)
 have hmid:∀dk:Array Nat,dk.size=n->(dk.toList.flatMap (encA CA)).length=(is.flatMap (encA CA)).length:=by
  intro dk hdk;rw [VZ hk,VZ hk,hn,Array.length_toList,hdk]
 have hW:∀(m:Nat) (os:Array Obj) (dk:Array Nat),dk.size=n->Sp (sortWorldK (encA CA) 2 w g pre.length m dk os) (RowA 232 2 (.slice (some ⟨g,0,none⟩) N c) N (pre++dk.toList.flatMap (encA CA)++post)::BlkA q 3 #[.int .i64 (d:Int)]::OD B0 w0 CA PA::L):=by
  intro m os dk hdk;have h2:=h.putV (hmid dk hdk) m os;rw [<-jV hk]at h2;exact h2
 have hcmp:CmpLays prog 326 #[.pointer (some ⟨q,0,none⟩)] (encA CA) 2 (fun x y=>W7 d (ptA PA x) (ptA PA y)) g pre.length is.toArray.size w:=by
  intro m os dk hdk x y;have h2:=hW m os dk (by simpa [hn]using hdk);exact wS q d _ _ _ _ _ (h2.cell M1 0) (h2.encRep M2 h0 x) (h2.encRep M2 h0 y) (by rw [hlP];exact hd) (by rw [hlP];exact hd)
 have hH:Sort.HoldsK (encA CA) 2 w g pre.length is.toArray:=by
  unfold Sort.HoldsK;rw [jV hk];exact h.holdsV M0
 have:=AnyQ.slices_SortFunc Tryz.laysPts 2 (fun w=>by kernel_rfl) (fun w=>by kernel_rfl) (encA CA) hk h1 (fun x y=>W7 d (ptA PA x) (ptA PA y)) (KU ((b9 d).pull (ptA PA))) 326 #[.pointer (some ⟨q,0,none⟩)] g pre.length cap is.toArray w
  (enters_of func326 (by kernel_rfl) rfl) hcmp hH (h.rowLt M0) (by simp;omega)
 rw [show is.toArray.size=n by simpa using hn]at this;refine this.mono ?_;rintro e w' ⟨rfl,d',k,os,hp,hs,rfl⟩;have hsz:d'.size=n:=by have:=hp.1;simpa [hn]using this
 have hperm:d'.toList.Perm is:=by
  have h3:=hp.2.2;rw [<-hsz,Array.extract_size]at h3;have e2:(is.toArray.extract 0 d'.size)=is.toArray:=(by rw [hsz,<-hn];simp);rw [e2]at h3
  simpa using h3
 refine⟨rfl,d'.toList,by simpa using hsz,Ve (hperm.map _) ?_,(hW k os d' hsz).d1⟩;rw [List.pairwise_map,List.pairwise_iff_getElem];intro i j hi hj hij;have h4:=hs i j (zJ _) hij (by simpa [hsz]using hj);have ei:d'[i]! =d'.toList[i]:=by rw [getElem!_pos d' i (by simpa using hi)];simp
 have ej:d'[j]! =d'.toList[j]:=by rw [getElem!_pos d' j (by simpa using hj)];simp
 rw [ei,ej]at h4;simp only [ltOf,decide_eq_false_iff_not]at h4;unfold lePt;have:=(b9 d).swap (ptA PA d'.toList[i]) (ptA PA d'.toList[j]);simp only [decide_eq_true_eq];omega
end
attribute [local go_sem ↓] zU zV
section
variable {w w0:O} {B0:Nat} {L:List Asn} {CA:List aF} {PA:List Pt}
abbrev PtsA (CA:List aF) (g N c:Nat) (pre:aF) (is:aE) (post:aF):Asn:=RowA 232 2 (.slice (some ⟨g,0,none⟩) N c) N (pre++is.flatMap (encA CA)++post)
theorem Sp.ptAt {g N c o k ix:Nat} {pre post:aF} {is:aE} (h:Sp w L) (hm:PtsA CA g N c pre is post∈L) (he:OD B0 w0 CA PA∈L) (h0:0<CA.length) (ho:pre.length=o) (hk:is[k]? =some ix):
 ∃A n c,w.cell? ⟨g,o+k*2,none⟩=some (.int .i64 (ptA PA ix).1)/\w.cell? ⟨g,o+k*2+1,none⟩=some (.slice A n c)/\In64 (ptA PA ix).1/\zL w (·<w.heap.size) A n c (ptA PA ix).2:=by
 have hr:=h.encRep he h0 ix;obtain⟨A,n,c',hcs,h1,h2⟩:=Pt.at_ hr
 have hk2:∀i,(encA CA i).length=2:=fun i=>Rep.len (h.encRep he h0 i)
 have hget:∀j,j<2->(pre++is.flatMap (encA CA)++post)[o+k*2+j]? =(encA CA ix)[j]? :=by
  intro j hj;have hkl:=zN hk;have hl:k*2+j<(is.flatMap (encA CA)).length:=(by rw [VZ hk2];omega);rw [zO,zR (by omega),z9 (by omega),show o+k*2+j - pre.length=k*2+j by omega,List.flatMap_def];exact xX (size:=2) _ k j _ (by simpa using fun a _=>hk2 a) (by rw [zH,hk];rfl) hj
 refine⟨A,n,c',?_,?_,h1,h2⟩
 ·exact h.rowCell hm (by have:=hget 0 (by omega);rw [hcs]at this;simpa using this)
 ·exact h.rowCell hm (by have:=hget 1 (by omega);rw [hcs]at this;simpa using this)
theorem Vp (hl:CA.length=PA.length) (h0:0<CA.length) (i:Nat):ptA PA i∈PA:=by
 obtain⟨k,_,k2⟩:=fC hl h0 i;exact zD k2
theorem vM {dims d:Nat} {is:aE} {l:List Pt} (hP:ZG dims PA) (hl:is.map (ptA PA)=l) (he:CA.length=PA.length) (h0:0<CA.length) (hn:0<is.length) (hd:d<dims):
 -9223372036854775808<=lowP d (x0 d l) l/\lowP d (x0 d l) l<=Yy d (x0 d l) l/\Yy d (x0 d l) l<=9223372036854775807:=by
 have hne:l≠ []:=by subst hl;intro e;rw [List.map_eq_nil_iff]at e;subst e;simp at hn
 have hx:∀p∈l, -9223372036854775808<=p.x d/\p.x d<=9223372036854775807:=by
  intro p hp;subst hl;obtain⟨i,_,rfl⟩:=List.mem_map.1 hp;obtain⟨h1,_,_,h2⟩:=hP _ (Vp he h0 i);have hd' :d<(ptA PA i).2.length:=(by rw [h1];exact hd);have:=h2 _ (List.getElem_mem hd')
  rwa [<-Pt.x_get (zB hd')]at this
 obtain⟨p,hp,e⟩:=fJ (d:=d) hne;have hp' :=hx p hp;obtain⟨a1,a2,a3⟩:=cN d l (x0 d l);obtain⟨c1,c2,c3⟩:=UF d l (x0 d l);refine⟨?_,by omega,?_⟩
 ·rcases a3 with h|⟨q,hq,h⟩
  ·omega
  ·have:=hx q hq;omega
 ·rcases c3 with h|⟨q,hq,h⟩
  ·omega
  ·have:=hx q hq;omega
theorem vL {N c g n cap dims o:Nat} {pre post:aF} {is:aE} (h0:0<CA.length) (hP:ZG dims PA)
 (h:Sp w (PtsA CA g N c pre is post::OD B0 w0 CA PA::L)) (hn:is.length=n) (hn1:0<n) (hn2:n<1000000000) (hd0:0<dims) (hd4:dims<=4) (ho:pre.length=o):
 Calls prog 276 #[.int .i64 (dims:Int),.slice (some ⟨g,o,none⟩) n cap] w fun e w' =>
  e= .returned (.int .i64 ((xF (is.map (ptA PA)) dims).1:Int))/\Sp w' (PtsA CA g N c pre is post::OD B0 w0 CA PA::L):=by
 obtain⟨l,hl⟩:=eX (is.map (ptA PA));have Hl:=zA hl;have Hn:=zA hn;have HP:=zA hP;have Ho:=zA ho;rw [hl];clear hl hn hP ho;go_enter func276,ntmps276;go_wp2
 go_loopg [5,6,7,8,9,11,12,14] dims (fun gk vb vf _ _ _ _ _ vi wr=>∃d:Nat,vi= .int .i64 d/\d<=dims/\gk=dims - d/\vb= .int .i64 ((xF l d).1:Int)/\vf= .int .u64 (xF l d).2/\Sp wr (PtsA CA g N c pre is post::OD B0 w0 CA PA::L))
 case atStart=>exact⟨0,rfl,zJ _,rfl,rfl,rfl,h⟩
 case round=>
  obtain⟨d,rfl,hd,rfl,rfl,rfl,HS⟩:=hrel;clear h
  by_cases hdd:d<dims
  ·obtain⟨i0,hi0⟩:∃i0,is[0]? =some i0:=⟨_,zB (by rw [Hn.out];exact hn1)⟩;obtain⟨A0,n0,c0, -,f1, -,f2⟩:=HS.ptAt M0 M1 h0 Ho.out hi0;have hm0:ptA PA i0∈PA:=Vp (HS.elsLen M1) h0 i0;have hn0:d<n0:=(by rw [<-f2.length,(HP.out _ hm0).1];exact hdd);obtain⟨b0,q0,x0v,rfl,Hx0, -,f3⟩:=f2.at_ hn0
   have f3:=f3.int.1
   have hx0:x0 d l=x0v:=by
    unfold x0;rw [<-Hl.out,zH,hi0];exact Pt.x_get Hx0.out
   rw [show o+0*2+1=o+1 by omega]at f1;have Hx:=zA hx0;obtain⟨bs,hbs⟩:=eX ((xF l d).1);obtain⟨fr,hfr⟩:=eX ((xF l d).2);rw [hbs,hfr];have Hbs:=zA hbs;have Hfr:=zA hfr;clear f2 hm0 hx0 hi0 Hx0 hbs hfr;go_wp2
   go_quiet (fail)
   go_wp2
   go_loopg [8,9,11,33] n (fun gk vl vh _ vi wq=>∃k:Nat,vi= .int .i64 k/\k<=n/\gk=n - k/\vl= .int .i64 (lowP d x0v (l.take k))/\vh= .int .i64 (Yy d x0v (l.take k))/\Sp wq (PtsA CA g N c pre is post::OD B0 w0 CA PA::L))
   case atStart=>exact⟨0,rfl,zJ _,rfl,by simp [lowP],by simp [Yy],HS.drewN _⟩
   case round=>
    obtain⟨k,rfl,hk,rfl,rfl,rfl,HS2⟩:=hrel;clear HS f1 f3
    by_cases hkn:k<n
    ·obtain⟨ix,hix⟩:∃ix,is[k]? =some ix:=⟨_,zB (by rw [Hn.out];exact hkn)⟩;obtain⟨A1,n1,c1,g0,g1, -,g2⟩:=HS2.ptAt M0 M1 h0 Ho.out hix;have hm1:ptA PA ix∈PA:=Vp (HS2.elsLen M1) h0 ix;have hn1:d<n1:=(by rw [<-g2.length,(HP.out _ hm1).1];exact hdd);obtain⟨b1,q1,x,rfl,Hx1,hb1,g3⟩:=g2.at_ hn1
     have g3:=g3.int.1;obtain⟨dc,hdc⟩:=eX ((ptA PA ix).1);rw [hdc]at g0;obtain⟨lo,hlo⟩:=eX (lowP d x0v (l.take k));obtain⟨hi,hhi⟩:=eX (Yy d x0v (l.take k));rw [hlo,hhi];have hlk:l[k]? =some (ptA PA ix):=(by rw [<-Hl.out,zH,hix];rfl)
     have Hlo2:Hid (lowP d x0v (l.take (k+1))=min lo x):=by
      show _=_;rw [zI,hlk];unfold lowP at*;rw [xE,hlo];simp [Pt.x_get Hx1.out]
     have Hhi2:Hid (Yy d x0v (l.take (k+1))=max hi x):=by
      show _=_;rw [zI,hlk];unfold Yy at*;rw [xE,hhi];simp [Pt.x_get Hx1.out]
     clear g2 hm1 hix Hx1 hdc hlo hhi hlk;have HS3:=HS2.al (.cells #[.int .i64 dc,.slice (some ⟨b1,q1,none⟩) n1 c1] 232);obtain⟨H,hH⟩:=eX (wr.heap.size);go_wp2;obtain⟨W3,hW3⟩:=eX (wr.alloc (.cells #[.int .i64 dc,.slice (some ⟨b1,q1,none⟩) n1 c1] 232));have k1:W3.cell? ⟨H,1,none⟩=some (.slice (some ⟨b1,q1,none⟩) n1 c1):=(by rw [<-hW3,<-hH];exact(Blk.new wr _ _).cell 1)
     have k2:W3.cell? ⟨b1,q1+d,none⟩=some (.int .i64 x):=(by rw [<-hW3];exact(yA _ _ _ hb1).trans g3);rw [hW3]at HS3⊢;clear g0 g1 g3 hb1 hW3 hH HS2
     go_quiet (fail)
     go_wp2
     go_roundg (n - (k+1))
     ·exact⟨k+1,by go_num,by omega,rfl,by rw [Hlo2.out],by rw [Hhi2.out],HS3.drewN _⟩
     ·omega
    ·obtain rfl:k=n:=by omega
     have htk:l.take k=l:=zF (by rw [<-Hl.out,zK,Hn.out];exact zC _);rw [htk];obtain⟨lo,hlo⟩:=eX (lowP d x0v l);obtain⟨hi,hhi⟩:=eX (Yy d x0v l);have hwd:V8 d l=hi - lo:=(by unfold V8;rw [Hx.out,hlo,hhi]);have hrange:=vM HP.out Hl.out (HS2.elsLen M1) h0 (by rw [Hn.out];exact hn1) hdd;rw [Hx.out,hlo,hhi]at hrange
     have hw:IntKind.u64.wrap (IntKind.u64.wrap hi - IntKind.u64.wrap lo)=hi - lo:=by
      rw [zW,zW,zW];omega
     rw [hlo,hhi];obtain⟨W,hWe⟩:=eX (hi - lo);rw [hWe]at hw hwd;have Hwd:=zA hwd;clear htk hlo hhi hwd hWe hrange
     by_cases hfw:fr<W
     ·go_wp2
      go_roundg (dims - (d+1))
      case measure=>omega
      case rel=>
       have e:xF l (d+1)=(d,W):=(by rw [V7,Hwd.out,Hfr.out,if_pos hfw]);exact⟨d+1,by go_num,by omega,rfl,by rw [e],by rw [e],HS2⟩
     ·go_wp2
      go_roundg (dims - (d+1))
      case measure=>omega
      case rel=>
       have e:xF l (d+1)=xF l d:=(by rw [V7,Hwd.out,Hfr.out,if_neg (by omega)]);exact⟨d+1,by go_num,by omega,rfl,by rw [e,Hbs.out],by rw [e,Hfr.out],HS2⟩
  ·obtain rfl:d=dims:=by omega
   go_wp2;go_ret
   exact⟨rfl,HS⟩
end
end Go.Proofs.YtjbhbfaeielbiaaGreatDoor

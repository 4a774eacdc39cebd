import Derived.Test.YtjbhbfaeielbiaaGreatDoorPart01
set_option maxRecDepth 100000
set_option maxHeartbeats 8000000
set_option linter.unusedVariables false
set_option linter.unusedSimpArgs false
namespace Go.Proofs.YtjbhbfaeielbiaaGreatDoor
def zP (n:Nat):aC:=if h:n>127 then(n%128+128).toUInt8::zP (n / 128)else [n.toUInt8]
 termination_by n
 decreasing_by omega
theorem YT {n:Nat} (h:n<=127):zP n= [n.toUInt8]:=by rw [zP,dif_neg (by omega)]
theorem Wd {n:Nat} (h:127<n):zP n=(n%128+128).toUInt8::zP (n / 128):=by rw [zP,dif_pos h]
theorem Yb (n:Nat):0<(zP n).length:=by
 rw [zP];split<;>simp
theorem CQ (k:Nat):∀n,n<128^(k+1)->(zP n).length<=k+1:=by
 induction k with
 |zero=>intro n h;rw [YT (by omega)];simp
 |succ k ih=>
  intro n h
  by_cases a:n<=127
  ·rw [YT a];simp
  ·rw [Wd (by omega),z6];have:=ih (n / 128) (by rw [Nat.div_lt_iff_lt_mul (by omega)];rw [Nat.pow_succ]at h;exact h);omega
theorem ya {n:Nat} (h:n<2^64):(zP n).length<=10:=CQ 9 n (by omega)
def YD:aC->Nat->Nat->Option (Nat×Nat)
 | [],_,_=>none
 |c::b,i,n=>
  if i=10 then none
  else if i=9/\c.toNat%128>1 then none
  else if c.toNat<128 then(if c.toNat=0/\i>0 then none else some (n+c.toNat%128*128^i,i+1))
  else YD b (i+1) (n+c.toNat%128*128^i)
def numL (b:aC):Option (Nat×Nat):=YD b 0 0
theorem Yt {n:Nat} (h:n<256):n.toUInt8.toNat=n:=by
 rw [Nat.toUInt8,UInt8.toNat_ofNat'];omega
theorem wX:∀(n:Nat) (i m:Nat) (rest:aC),i<=9->n<2^(64 - 7*i)->(i=0\/0<n)->YD (zP n++rest) i m=some (m+n*128^i,i+(zP n).length):=by
 intro n
 induction n using Nat.strongRecOn with
 |_ n ih=>
  intro i m rest j e f;have a:i=9->n<2:=by intro h;subst h;simpa using e
  by_cases h:n<=127
  ·rw [YT h];simp only [yI,zZ,YD];rw [if_neg (by omega),Yt (by omega),if_neg (by omega),if_pos (by omega),if_neg (by omega),zy (by omega)];rfl
  ·have g:i≠9:=fun h=>by have:=a h;omega
   rw [Wd (by omega)];simp only [yI,YD];rw [if_neg (by omega),Yt (by omega),if_neg (by omega),if_neg (by omega)]
   have b:n / 128<2^(64 - 7*(i+1)):=by
    rw [Nat.div_lt_iff_lt_mul (by omega)]
    have:(2:Nat)^(64 - 7*(i+1))*128=2^(64 - 7*i):=by
     rw [show(128:Nat)=2^7 from rfl,<-Nat.pow_add]
     congr 1;omega
    omega
   rw [ih (n / 128) (by omega) (i+1) _ rest (by omega) b (.inr (by omega)),z6];have d:(n%128+128)%128=n%128:=(by omega);rw [d,Nat.pow_succ]
   have:n%128*128^i+n / 128*(128^i*128)=n*128^i:=by
    have c:n / 128*(128^i*128)=(n / 128*128)*128^i:=(by rw [Nat.mul_assoc,Nat.mul_comm 128]);rw [c,<-xK]
    congr 1;omega
   simp only [Option.some.injEq,Prod.mk.injEq]
   constructor<;>omega
theorem Ua {n:Nat} (h:n<2^64) (rest:aC):numL (zP n++rest)=some (n,(zP n).length):=by
 have:=wX n 0 0 rest (by omega) (by simpa using h) (.inl rfl)
 simpa [numL]using this
def yc (n:Int):Nat:=if 0<=n then(2*n).toNat else(2*(-(n+1))+1).toNat
def back (u:Nat):Int:=if u%2=0 then(u / 2:Nat)else -((u / 2:Nat):Int) - 1
theorem vF (n:Int):back (yc n)=n:=by
 unfold back yc
 split<;>split<;>omega
theorem QH {n:Int} (h: -9223372036854775808<=n/\n<=9223372036854775807):yc n<2^64:=by
 unfold yc
 split<;>omega
structure RS where
 b:aC
 at_:Nat
 e:Nat
structure RS.Ok (r:RS):Prop where
 le:r.at_<=r.b.length
 e:r.e=0\/r.e=20
def RS.rest (r:RS):aC:=r.b.drop r.at_
def RS.left (r:RS):Nat:=r.b.length - r.at_
def RS.take {α:Type} (r:RS) (z:α) (f:aC->Option (α×Nat)):α×RS:=
 if r.e≠0 then(z,r)else match f r.rest with
  |none=>(z,{r with e:=20})
  |some (x,n)=>(x,{r with at_:=r.at_+n})
def Xl (a:Nat) (b:aC):Option (Nat×Nat):=match numL b with
 |none=>none
 |some (u,n)=>if u<=a then some (u,n)else none
def XF (a:Nat) (b:aC):Option (aC×Nat):=match numL b with
 |none=>none
 |some (u,n)=>if u<=a/\u<=b.length - n then some ((b.drop n).take u,n+u)else none
def Y5 (n:Nat) (b:aC):Option (aC×Nat):=if n<=b.length then some (b.take n,n)else none
def RS.uint (r:RS):Nat×RS:=r.take 0 numL
def RS.int (r:RS):Int×RS:=(back r.uint.1,r.uint.2)
def RS.size (r:RS) (a:Nat):Nat×RS:=r.take 0 (Xl a)
def RS.text (r:RS) (a:Nat):aC×RS:=r.take [] (XF a)
def RS.bytes (r:RS) (n:Nat):aC×RS:=r.take [] (Y5 n)
def RS.fin (r:RS):RS:=if r.e=0/\0<r.left then {r with e:=20} else r
def Qr {α:Type} (f:aC->Option (α×Nat)):Prop:=∀b x n,f b=some (x,n)->n<=b.length
theorem Vu:∀(b:aC) (i n x k:Nat),YD b i n=some (x,k)->i<=k/\k<=i+b.length
 | [],_,_,_,_,h=>by simp [YD]at h
 |c::b,i,n,x,k,h=>by
  unfold YD at h
  split at h
  ·cases h
  split at h
  ·cases h
  split at h
  ·split at h
   ·cases h
   ·simp only [Option.some.injEq,Prod.mk.injEq]at h;simp;omega
  ·have:=Vu b (i+1) _ x k h;simp;omega
theorem Yw:Qr numL:=fun b x n h=>by have:=(Vu b 0 0 x n h).2;omega
theorem r7 (a:Nat):Qr (Xl a):=by
 intro b x n h;unfold Xl at h
 split at h
 ·cases h
 ·rename_i u k c
  split at h
  ·cases h;exact Yw _ _ _ c
  ·cases h
theorem rX (a:Nat):Qr (XF a):=by
 intro b x n h;unfold XF at h
 split at h
 ·cases h
 ·rename_i u k c;have:=Yw _ _ _ c
  split at h
  ·cases h;omega
  ·cases h
theorem VL (n:Nat):Qr (Y5 n):=by
 intro b x k h;unfold Y5 at h
 split at h
 ·cases h;assumption
 ·cases h
theorem RS.take_ok {α:Type} {r:RS} (h:r.Ok) (z:α) {f:aC->Option (α×Nat)} (c:Qr f):(r.take z f).2.Ok:=by
 unfold RS.take
 split
 ·exact h
 ·split
  ·exact⟨h.le,.inr rfl⟩
  ·rename_i x n d;have a:=c _ _ _ d;have g:=h.le;refine⟨?_,h.e⟩;simp only [RS.rest,ze]at a;show r.at_+n<=r.b.length
   omega
theorem RS.take_bad {α:Type} {r:RS} (h:r.e≠0) (z:α) (f:aC->Option (α×Nat)):r.take z f=(z,r):=by
 unfold RS.take;rw [if_pos h]
theorem RS.take_none {α:Type} {r:RS} (h:r.e=0) {z:α} {f:aC->Option (α×Nat)} (a:f r.rest=none):r.take z f=(z,{r with e:=20}):=by
 unfold RS.take;rw [if_neg (by simp [h]),a]
theorem RS.take_some {α:Type} {r:RS} (h:r.e=0) {z x:α} {n:Nat} {f:aC->Option (α×Nat)} (a:f r.rest=some (x,n)):r.take z f=(x,{r with at_:=r.at_+n}):=by
 unfold RS.take;rw [if_neg (by simp [h]),a]
def rsAt (pre post:aC):RS:=⟨pre++post,pre.length,0⟩
theorem DH (pre post:aC):(rsAt pre post).rest=post:=by simp [rsAt,RS.rest]
theorem Wj {α:Type} (pre a post:aC) (z x:α) {f:aC->Option (α×Nat)} (b:f (a++post)=some (x,a.length)):(rsAt pre (a++post)).take z f=(x,rsAt (pre++a) post):=by
 rw [RS.take_some rfl (x:=x) (n:=a.length) (by rw [DH];exact b)];simp [rsAt]
theorem kW {n:Nat} (h:n<2^64) (pre post:aC):(rsAt pre (zP n++post)).uint=(n,rsAt (pre++zP n) post):=
 Wj pre (zP n) post 0 n (Ua h post)
theorem Vm {n:Int} (h: -9223372036854775808<=n/\n<=9223372036854775807) (pre post:aC):(rsAt pre (zP (yc n)++post)).int=(n,rsAt (pre++zP (yc n)) post):=by
 unfold RS.int;rw [kW (QH h),vF]
theorem yn {n a:Nat} (h:n<2^64) (b:n<=a) (pre post:aC):(rsAt pre (zP n++post)).size a=(n,rsAt (pre++zP n) post):=
 Wj pre (zP n) post 0 n (by unfold Xl;rw [Ua h post];simp [b])
theorem QM {s:aC} {a:Nat} (h:s.length<2^64) (b:s.length<=a) (pre post:aC):(rsAt pre (zP s.length++s++post)).text a=(s,rsAt (pre++(zP s.length++s)) post):=by
 refine Wj pre (zP s.length++s) post [] s ?_;unfold XF;rw [zO,Ua h];simp [b]
theorem X4 (s pre post:aC):(rsAt pre (s++post)).bytes s.length=(s,rsAt (pre++s) post):=
 Wj pre s post [] s (by simp [Y5])
open Rep (rep)
open Go.RowKit
section
variable {P:Program} {w w' :O} {L:List Asn} {e:TypeId} {size n:Nat} {v:V} {xs:aF}
theorem Sp.app {m a :Nat} {A' :aA} {g:aF} (h:Sp w (RowA e size v n xs::L)) (i:zt w' (fun _=>True) e size (.slice A' m a) m g) (j:w.grownBy w' v.ownBlock)
 (d:(Value.slice A' m a).ownBlock=v.ownBlock\/(Value.slice A' m a).ownBlock=some w.heap.size):Sp w' (RowA e size (.slice A' m a) m g::L):=
 h.upd fun S f=>⟨fun b=>(Value.slice A' m a).ownBlock=some b,⟨fun _=>Iff.rfl,i⟩,Tch.grown j (fun b c=>(f.1 b).2 c),fun b c=>by
  rcases d with e|e
  ·exact .inl ((f.1 b).2 (by rw [<-e];exact c))
  ·rw [e]at c;cases c;exact .inr (zC _)⟩
theorem yR {d:Array Oper} {rest:List Oper} {o:Oper} {a:Act} {Q:Exit->Act->O->Prop} {t:TypeId} {bytes:Nat} (E:Elt P t e size bytes) (s x:Operand) (i:o.guard=none)
 (r:o.op= .call {callee:= .builtin .append,args:= #[s,x],argTypes:= #[t,t]})
 (j:Sp w (RowA e size v n xs::L)) (z:a.eval s=v)
 {B:Nat} {A:aA} {m c:Nat} {news:aF} (C:a.eval x= .slice A m c) (y:xA w B size A m news) (k:∀u∈news,u.oneCell' =true)
 (q:(n+m)*bytes<=140737488355328) (g:n+m<=9223372036854775807)
 (h:∀A' b w',n+m<=b ->b <=9223372036854775807->Sp w' (RowA e size (.slice A' (n+m) b) (n+m) (xs++news)::L)->wpList P d Q rest (a.put o.dst (.slice A' (n+m) b)) w'):wpList P d Q (o::rest) a w:=
 xm E s x i r z (j.rowOf (.head _)) C y k q g trivial fun A' b w' f l p _=>h A' b w' f.cap.2.1 f.cap.2.2 (j.app f l p)
theorem Ye (w:O) (cs:aG) (t:TypeId) (b:cs.size=size) {H:Nat} (a:w.heap.size=H):xA (w.alloc (.cells cs t)) (H+1) size (some ⟨H,0,none⟩) 1 cs.toList:=by
 subst a;exact kZ w cs t 1 size (by omega)
theorem yC {b:Array Oper} {rest:List Oper} {o:Oper} {a:Act} {Q:Exit->Act->O->Prop} {t g:TypeId} {bytes:Nat} (E:Elt P t e size bytes) (s x:Operand) (f:o.guard=none)
 (p:o.op= .call {callee:= .builtin .append,args:= #[s,x],argTypes:= #[t,t]})
 (i:Sp w (RowA e size v n xs::L)) (q:a.eval s=v) {cs:aG} {H:Nat} (r:a.eval x= .slice (some ⟨H,0,none⟩) 1 1) (k:w.heap.size=H) (l:cs.size=size) (j:∀u∈cs.toList,u.oneCell' =true)
 (m:(n+1)*bytes<=140737488355328) (d:n+1<=9223372036854775807)
 (h:∀A' c w',n+1<=c ->c <=9223372036854775807->Sp w' (RowA e size (.slice A' (n+1) c) (n+1) (xs++cs.toList)::L)->wpList P b Q rest (a.put o.dst (.slice A' (n+1) c)) w'):wpList P b Q (o::rest) a (w.alloc (.cells cs g)):=
 yR E s x f p (i.al _) q r (Ye w cs g l k) j m d h
theorem YA {F:Fence} {k:Nat} {d:Array Oper} {rest:List Oper} {o:Oper} {a:Act} {Q:Exit->Act->O->Prop} {t:TypeId} {bytes:Nat} (E:Elt P t e size bytes) (s x:Operand) (i:o.guard=none)
 (y:o.op= .call {callee:= .builtin .append,args:= #[s,x],argTypes:= #[t,t]})
 (j:Sp w (RowA e size v n xs::L)) (C:a.eval s=v)
 {B:Nat} {A:aA} {m c:Nat} {news:aF} (D:a.eval x= .slice A m c) (z:xA w B size A m news) (l:∀u∈news,u.oneCell' =true)
 (r:(n+m)*bytes<=140737488355328) (g:n+m<=9223372036854775807)
 (h:∀A' b w',n+m<=b ->b <=9223372036854775807->Sp w' (RowA e size (.slice A' (n+m) b) (n+m) (xs++news)::L)->wpListIn F k P d Q rest (a.put o.dst (.slice A' (n+m) b)) w'):wpListIn F k P d Q (o::rest) a w:=
 rT E s x i y C (j.rowOf (.head _)) D z l r g trivial fun A' b w' f p q _=>h A' b w' f.cap.2.1 f.cap.2.2 (j.app f p q)
theorem XT {i:Array Oper} {o:Oper} {a:Act} {K:Act->O->Prop} {Q:Exit->Act->O->Prop} {k :Prop} {t:TypeId} {bytes:Nat} (E:Elt P t e size bytes) (s x:Operand) (g:o.guard=none)
 (y:o.op= .call {callee:= .builtin .append,args:= #[s,x],argTypes:= #[t,t]})
 (j:Sp w (RowA e size v n xs::L)) (C:a.eval s=v)
 {B:Nat} {A:aA} {m c:Nat} {news:aF} (D:a.eval x= .slice A m c) (z:xA w B size A m news) (l:∀u∈news,u.oneCell' =true)
 (r:(n+m)*bytes<=140737488355328) (f:n+m<=9223372036854775807)
 (h:∀A' b w',n+m<=b ->b <=9223372036854775807->Sp w' (RowA e size (.slice A' (n+m) b) (n+m) (xs++news)::L)->K (a.put o.dst (.slice A' (n+m) b)) w'):
 if Region.wanted o (yielded i a.tmps)=true then Oper.wp P o a w K Q else k :=
 H7 E s x g y C (j.rowOf (.head _)) D z l r f trivial fun A' b w' d p q _=>h A' b w' d.cap.2.1 d.cap.2.2 (j.app d p q)
theorem rR {l:Array Oper} {rest:List Oper} {o:Oper} {a:Act} {Q:Exit->Act->O->Prop} {t:TypeId} {bytes:Nat} (E:Elt P t e size bytes) (s x:Operand) (y:o.guard=none)
 (S:o.op= .call {callee:= .builtin .append,args:= #[s,x],argTypes:= #[t,t]})
 (H:Sp w L) {G:Nat} {F:aA} (T:a.eval s= .slice F n n) (J:0<n) (b:xA w G size F n xs)
 {B:Nat} {A:aA} {m c:Nat} {news:aF} (X:a.eval x= .slice A m c) (C:0<m) (q:xA w B size A m news)
 (R:(n+m)*bytes<=140737488355328) (K:n+m<=9223372036854775807)
 (h:∀A' p w',n+m<=p ->p <=9223372036854775807->Sp w' (RowA e size (.slice A' (n+m) p) (n+m) (xs++news)::L)->wpList P l Q rest (a.put o.dst (.slice A' (n+m) p)) w'):wpList P l Q (o::rest) a w:=
 wpList_plain y fun _ M=>by
  obtain⟨W,U,i,z,N,Y,f,u,D⟩:=E;subst f u;obtain⟨r,rfl,_,bD⟩:=b.2 J;obtain⟨I,rfl,_,d⟩:=q.2 C;have k:=run_append_grow (P:=P) w t o.type e i z W N Y r n n xs b.1 bD I m c news q.1 d (by omega) (by omega) (growslice_fits (by omega) R);have j:=grownCap_ge w (n+m) n e
  have g:grownCap w (n+m) n e<=maxLen:=grownCap_le_maxLen w (n+m) n e (by unfold maxLen;omega);unfold Oper.wp execOp;simp only [S,resolve,invoke,builtin,Sem.run_bind,Sem.run_pure,Result.andThen_ok,List.map_toArray,yH,List.map_nil,T,X,k];have hlen:(xs++news).length=(n+m)*i.size:=(by rw [zG,b.1,q.1,xK])
  refine M _ _ (h _ _ _ j (by unfold maxLen at g;omega) (H.row (v:= .slice (some ⟨w.heap.size,0,none⟩) (n+m) (grownCap w (n+m) n e)) ⟨hlen,.inr ⟨w.heap.size,_,_,rfl,zC _,heap_alloc_new w.drew _,j,g,?_,?_⟩⟩ ((zE _ _).drew.alloc (zC _) _)))
  ·simp only [Array.size_append,yP,size_zeroCells,D,b.1,q.1,<-xK];exact yj _ (by omega)
  ·simp only [Array.toList_append,zO];rw [<-zO,<-hlen];exact List.take_left
theorem Sp.made {m:Nat} {b:aF} {H:Nat} (c:Sp w L) (d:w.heap.size=H) (g:w'.ownsRow w.heap.size e size (.slice (some ⟨w.heap.size,0,none⟩) m m) m b) (a:w.grownBy w' none):Sp w' (RowA e size (.slice (some ⟨H,0,none⟩) m m) m b::L):=by
 subst d;exact c.row (Yd g) ⟨a.os,a.tape,a.output,a.size,fun k f=>a.block k f (by simp)⟩
theorem Zk {f:Array Oper} {rest:List Oper} {o:Oper} {a:Act} {Q:Exit->Act->O->Prop} {t:TypeId} {bytes:Nat} (E:Elt P t e size bytes) (l c:Operand) (j:o.guard=none) (k:o.op=Op.makeSlice t l c)
 (s:Sp w L) {m H:Nat} (x:w.heap.size=H) (B:a.eval l= .int .i64 (m:Int)) (y:a.eval c= .int .i64 (m:Int)) (I:bytes*m<=140737488355328) (u:m<=9223372036854775807)
 {r:V} (d:(P.info? e).bind (fun i=>i.zero)=some r) (h:∀w',Sp w' (RowA e size (.slice (some ⟨H,0,none⟩) m m) m (madeCells r.cells (m*size)).toList::L)->wpList P f Q rest (a.put o.dst (.slice (some ⟨H,0,none⟩) m m)) w'):wpList P f Q (o::rest) a w:=by
 obtain⟨F,D,i,z,p,q,b,g,G⟩:=E;subst x;refine wpList_make_full w j l c t k w.heap.size e i z size F p q b .i64 .i64 _ _ m B y rfl rfl (by rw [g];omega) (by unfold maxLen;omega) (zC _) fun w' C A=> ?_;rw [p,Option.bind_some,q]at d;cases d;exact h w' (s.made rfl C A)
theorem rB {F:Fence} {x:Nat} {j:Array Oper} {rest:List Oper} {o:Oper} {a:Act} {Q:Exit->Act->O->Prop} {t:TypeId} {bytes:Nat} (E:Elt P t e size bytes) (l c:Operand) (r:o.guard=none) (b:o.op=Op.makeSlice t l c)
 (A:Sp w L) {m H:Nat} (C:w.heap.size=H) (G:a.eval l= .int .i64 (m:Int)) (D:a.eval c= .int .i64 (m:Int)) (S:bytes*m<=140737488355328) (B:m<=9223372036854775807)
 {y:V} (g:(P.info? e).bind (fun i=>i.zero)=some y) (h:∀w',Sp w' (RowA e size (.slice (some ⟨H,0,none⟩) m m) m (madeCells y.cells (m*size)).toList::L)->wpListIn F x P j Q rest (a.put o.dst (.slice (some ⟨H,0,none⟩) m m)) w'):wpListIn F x P j Q (o::rest) a w:=by
 obtain⟨J,I,i,z,s,u,d,p,M⟩:=E;subst C;refine wpListIn_plain r fun K k => ?_;obtain⟨w',f,N,R⟩:=run_make_full (P:=P) w w.heap.size t e i z size J s u d .i64 .i64 m (by rw [p];omega) (by unfold maxLen;omega) (zC _);unfold Oper.wpIn;refine⟨?_,?_⟩
 ·simp [Oper.about,b]
 ·rw [Oper.semAt_plain F _ _ (by rw [b];intro c q;cases q)];simp [execOp,b,G,D,f,Result.andThen];rw [s,Option.bind_some,u]at g;cases g;exact k _ _ (h w' (A.made rfl N R))
theorem Sp.rowCell {g c j:Nat} {u:V} (h:Sp w L) (b:RowA e size (.slice (some ⟨g,0,none⟩) n c) n xs∈L) (a:xs[j]? =some u):w.cell? ⟨g,j,none⟩=some u:=(h.rowOf b).cells rfl j u a
theorem Sp.rowFree {g c:Nat} (h:Sp w L) (a:RowA e size (.slice (some ⟨g,0,none⟩) n c) n xs∈L) (j:Nat):w.frozen? ⟨g,j,none⟩=false:=by
 rcases(h.rowOf a).2 with⟨hv,_⟩|⟨g',cap,cur,hv,_,hg,_⟩
 ·cases hv
 ·cases hv;simp [World.frozen?,hg]
theorem Sp.rowLt {g c:Nat} (h:Sp w L) (a:RowA e size (.slice (some ⟨g,0,none⟩) n c) n xs∈L):g<w.heap.size:=((h.rowOf a).lt g rfl).2
theorem Sp.rowSet {g c:Nat} (h:Sp w (RowA e size (.slice (some ⟨g,0,none⟩) n c) n xs::L)) (j:Nat) (u:V):Sp (w.setCell ⟨g,j,none⟩ u) (RowA e size (.slice (some ⟨g,0,none⟩) n c) n (xs.set j u)::L):=by
 refine h.upd fun S d=>⟨S,⟨d.1,?_⟩,Tch.setCell (S:=S) (p:=⟨g,j,none⟩) w ((d.1 g).2 rfl) u,fun _ r=> .inl r⟩;obtain⟨q,a⟩:=d.2;refine⟨by rw [List.length_set];exact q,?_⟩;rcases a with⟨l,_⟩|⟨z,cap,cur,l,_,s,m,t,o,x⟩
 ·cases l
 ·cases l;refine .inr ⟨g,c,cur.setIfInBounds j u,rfl,trivial,?_,m,t,by simpa using o,?_⟩
  ·simp [World.setCell,Array.getElem?_modify,s]
  ·have y:n*size<=cur.size:=zY (yj _ m) o;rw [Array.toList_setIfInBounds,<-x]
   apply yX
   intro i;rw [yy,xO,xO,yy]
   by_cases k:j=i
   ·subst k
    by_cases f:j<n*size
    ·have a:j<cur.toList.length:=(by simpa using zX f y);have b:j<(cur.toList.take (n*size)).length:=(by rw [zr];omega);rw [if_pos f,if_pos rfl,if_pos rfl,if_pos a,if_pos b]
    ·have b:¬j<(cur.toList.take (n*size)).length:=(by rw [zr];omega);rw [if_neg f,if_pos rfl,if_neg b]
   ·rw [if_neg k,if_neg k]
end
section
variable {w:O} {L:List Asn}
theorem Sp.neRB {e t:TypeId} {size n c g B:Nat} {xs:aF} {cs:aG} (h:Sp w (RowA e size (.slice (some ⟨g,0,none⟩) n c) n xs::BlkA B t cs::L)):g≠B:=by
 obtain⟨S,_,a,T,b,d,_⟩:=h;intro e;exact(b B ((d.1 B).2 rfl)).2 ((a.1 B).2 (by rw [<-e];rfl))
theorem Sp.neRR {e i :TypeId} {size a n c n' f g b :Nat} {xs d :aF} (h:Sp w (RowA e size (.slice (some ⟨g,0,none⟩) n c) n xs::RowA i a (.slice (some ⟨b,0,none⟩) n' f) n' d ::L)):g≠b :=by
 obtain⟨S,_,j,T,k,l,_⟩:=h;intro e;exact(k b ((l.1 b).2 rfl)).2 ((j.1 b).2 (by rw [<-e];rfl))
end
structure I32 where
 val:Int
instance:Rep I32 where
 size:=1
 pos:=by decide
 rep _ _ cs x:=cs= [.int .i32 x.val]
 len:=by rintro _ _ _ _ rfl;rfl
 keep:=fun h _ _=>h
 one:=by rintro _ _ _ _ _ rfl hu;simp at hu;subst hu;rfl
instance:Rep UInt8 where
 size:=1
 pos:=by decide
 rep _ _ cs x:=cs= [.int .u8 (x.toNat:Int)]
 len:=by rintro _ _ _ _ rfl;rfl
 keep:=fun h _ _=>h
 one:=by rintro _ _ _ _ _ rfl hu;simp at hu;subst hu;rfl
theorem xp.u8 {w:O} {F:Nat->Prop} {b off k:Nat} {x:UInt8} (h:xp w F b off k x):w.cell? ⟨b,off+k,none⟩=some (.int .u8 (x.toNat:Int)):=by
 obtain⟨cs,rfl,a⟩:=h;have:=a 0 _ rfl
 simpa only [show Rep.size UInt8=1 from rfl,yr,yt]using this
def Z3 (s:aB):aC:=s.data.toList
theorem iM (s:aB):(Z3 s).length=s.size:=by cases s;rfl
theorem vB {a b:aB} (h:Z3 a=Z3 b):a=b:=by
 cases a;cases b;simp only [Z3]at h
 congr
 exact Array.toList_inj.1 h
def ZE:aC->aC->Nat
 |a::l,b::m=>if a=b then ZE l m+1 else 0
 |_,_=>0
theorem iZ:∀(a b:aC),ZE a b<=a.length/\ZE a b<=b.length
 | [],b=>by cases b<;>simp [ZE]
 |x::l, []=>by simp [ZE]
 |x::l,y::m=>by
  unfold ZE
  split
  ·have:=iZ l m;simp;omega
  ·simp
theorem Vg:∀(a b:aC),a.take (ZE a b)=b.take (ZE a b)
 | [],b=>by cases b<;>simp [ZE]
 |x::l, []=>by simp [ZE]
 |x::l,y::m=>by
  unfold ZE
  split
  ·rename_i h;subst h;rw [xL,xL,Vg l m]
  ·simp
def aM (s:aC):aC:=zP s.length++s
def XZ:aB->List aB->aC
 |_, []=> []
 |a,b::l=>zP (ZE (Z3 a) (Z3 b))++(aM ((Z3 b).drop (ZE (Z3 a) (Z3 b)))++XZ b l)
def ZZ (l:List aB) (at_:aE):aC:=match l with
 | []=> []
 |a::l=>aM (Z3 a)++(XZ a l++at_.flatMap zP)
def YI:Nat->List aB->aE->List aC
 |0,_,_=> []
 |f+1,l,at_=>if l= []then []else ZZ (l.take 16) (at_.take 16)::YI f (l.drop 16) (at_.drop 16)
def ZM (l:List aB) (at_:aE):aC:=zP l.length++(YI (l.length+1) l at_).flatten
structure DictP where
 blocks:List aC
 first:List aB
 n:Nat
end Go.Proofs.YtjbhbfaeielbiaaGreatDoor

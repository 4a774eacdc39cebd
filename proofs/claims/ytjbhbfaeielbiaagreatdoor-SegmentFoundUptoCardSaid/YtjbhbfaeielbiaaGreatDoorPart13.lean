import Derived.RangeFuncNested
import Derived.Test.YtjbhbfaeielbiaaGreatDoorPart03
import Derived.Test.YtjbhbfaeielbiaaGreatDoorPart05
import Derived.Test.YtjbhbfaeielbiaaGreatDoorPart07
import Derived.Deep.RegionHeld3
set_option maxRecDepth 100000
set_option maxHeartbeats 8000000
set_option linter.unusedVariables false
set_option linter.unusedSimpArgs false
namespace Go.Proofs.YtjbhbfaeielbiaaGreatDoor
open Rep (rep)
open Go.RowKit
theorem Wy {α:Type} [Rep α] {F:Fence} {N:Nat} {P:Program} {w:O} {D:Nat->Prop} {m:Array Oper} {rest:List Oper} {o:Oper} {a:Act} {Q:Exit->Act->O->Prop} (E:o.guard=none) (s x:Operand) (t:TypeId)
 (T:o.op= .call {callee:= .builtin .append,args:= #[s,x],argTypes:= #[t,t]})
 (base:Nat) (e:TypeId) (i:TypeInfo) (z:V) (bytes:Nat) (X:P.underlying t=some (.slice e)) (R:P.info? e=some i) (Z:i.zero=some z)
 (g:i.size=Rep.size α) (A:i.bytes=bytes) (M:z.cells.size=Rep.size α)
 (v:V) (xs:List α) (W:a.eval s=v) (d:Own D w base e v xs)
 (B:Nat) (cs:aG) (y:α) (Y:a.eval x= .slice (some ⟨B,0,none⟩) 1 1) (l:Blk w B e cs) (L:rep w (Fr D w v) cs.toList y)
 (q:xs.length+1<=9223372036854775807) (c:(xs.length+1)*bytes<=140737488355328) (b:base<=w.heap.size)
 (h:∀v' w',Own D w' base e v' (xs++ [y])->w.grownBy w' v.ownBlock->Below base w w' ->wpListIn F N P m Q rest (a.put o.dst v') w'):wpListIn F N P m Q (o::rest) a w:=by
 have f:=d;obtain⟨css,S,U,I⟩:=d;have J:cs.size=1*Rep.size α:=by have:=Rep.len L;simpa using this
 refine wpListIn_append_own_at w E s x t T base e i z (Rep.size α) bytes X R Z g A M Rep.pos v xs.length css.flatten W I ⟨B,0,none⟩ 1 1 cs.toList Y (by simpa using J) (fun j u K=> ?_) (fun u K=>Rep.one L K) q c b ?_
 ·rw [Yl,l.cell j];simpa using K
 intro v' w' H C _ r
 exact h v' w' (Vr S U L H C r) C ((zE _ _).grown C b (fun k n=>by
  rcases f.from_ with p|⟨k',p,G⟩
  ·rw [p]at n;cases n
  ·rw [p]at n;cases n;exact G))
abbrev Flat:Nat->Prop:=fun _=>False
theorem ZA {α:Type} [Rep α] {base:Nat} {e:TypeId} {W d :O} {a:Option Nat} {v:V} {xs:List α} (h:Own Flat W base e v xs) (j:W.grownBy d a) (o:v.ownBlock=none\/v.ownBlock≠a):Own Flat d base e v xs:=by
 obtain⟨css,l,c,m⟩:=h;exact⟨css,l,fun k cs x f g=>Rep.keep (c k cs x f g) (fun p n=>n.1.elim) (fun b i=>i.1.elim),m.kept j o⟩
theorem YC {α:Type} [Rep α] {D:Nat->Prop} {w:O} {v:V} {cs:aF} {y:α} (h:rep w Flat cs y):rep w (Fr D w v) cs y:=Rep.more h (fun _ a=>a.elim)
theorem xy {α:Type} [Rep α] {D:Nat->Prop} {base:Nat} {e t:TypeId} {W:O} {B:Nat} {v u:V} {xs:List α} (h:Own D W base e v xs) (b:Boxed W B t u) (a:t≠e):v.ownBlock=none\/v.ownBlock≠some B:=by
 obtain⟨_,_,_,c⟩:=h;exact .inr (fun e=>b.not_row a c e.symm)
theorem XM {α:Type} [Rep α] {D:Nat->Prop} {base:Nat} {e:TypeId} {W:O} {v:V} {xs:List α} (h:Own D W base e v xs) {a:Option Nat} (i:∀r,a=some r->∃o:Obj,W.heap[r]? =some o/\o.isCells=false):v.ownBlock=none\/v.ownBlock≠a:=by
 cases hob:v.ownBlock with
 |none=>exact .inl rfl
 |some g=>
  refine .inr (fun e=> ?_);obtain⟨_,_,_,c⟩:=h;obtain⟨o,d,f⟩:=i _ e.symm;rcases c.2 with⟨rfl,_⟩|⟨j,cap,cur,rfl,_,b,_⟩
  ·cases hob
  ·cases hob;rw [b]at d;cases d;cases f
theorem VM {α β:Type} [Rep α] (i B:Nat) (t e:TypeId) (base:Nat) (f:β->List α):OwnFrom i (fun(s:β) W=>∃v,Boxed W B t v/\Own Flat W base e v (f s)):=by
 rintro s X Y j ⟨v,a,b⟩ c g;refine⟨v,a.kept c (fun e=> ?_),ZA b c (XM b (fun r e=>(g r e).2))⟩;obtain⟨_,o,d,h⟩:=g _ e.symm;rw [show X.heap[_]? =_ from a]at d;cases d;cases h
theorem xT (W:O) (p:Addr) (v:V):W.grownBy (W.setCell p v) (some p.block):=
 ⟨rfl,rfl,rfl,by simp [World.setCell],fun k _ a=>Below.heap_setCell _ _ _ k (fun e=>a (by rw [e]))⟩
theorem rE {α:Type} [Rep α] {W s c:O} {base B:Nat} {t e:TypeId} {v v' :V} {xs u:List α} (w:Boxed W B t v) (x:Own Flat W base e v xs) (i:t≠e) (a:W.grownBy s none) (d:s.grownBy c v.ownBlock) (f :Own Flat c base e v' u):
 Boxed c B t v/\Boxed (c.setCell ⟨B,0,none⟩ v') B t v' /\Own Flat (c.setCell ⟨B,0,none⟩ v') base e v' u/\KeepsOthers W (c.setCell ⟨B,0,none⟩ v'):=by
 have q:=w.kept a (by simp);have r:=ZA x a (by cases v.ownBlock<;>simp)
 have n:=xy r q i
 have k:=q.kept d (by rcases n with h|h;·rw [h];simp
                      ·exact fun e=>h e.symm)
 refine⟨k,k.set _,ZA f (xT _ _ _) (xy f k i),?_⟩;refine((KeepsOthers.of_grownBy a (fun j o b m=>by cases b)).trans (KeepsOthers.of_grownBy d (fun j o b m=> ?_))).trans (KeepsOthers.setCell _ _ _);obtain⟨_,_,_,y⟩:=r;rcases y.2 with⟨p,_⟩|⟨g,cap,cur,p,_,l,_⟩
 ·rw [p]at b;cases b
 ·rw [p]at b;cases b;rw [l]at m;cases m;rfl
theorem rO {α:Type} [Rep α] {D:Nat->Prop} {W d:O} {o:Obj} {k base:Nat} {e:TypeId} {v:V} {xs:List α} (h:W.heap[k]? =some (.deferred (some []))) (f:(W.alloc o).grownBy d v.ownBlock) (j:Own D (W.alloc o) base e v xs):d.heap[k]? =some (.deferred (some [])):=by
 have i:=(Array.getElem?_eq_some_iff.1 h).1;have a:(W.alloc o).heap[k]? =some (.deferred (some [])):=(Below.heap_alloc W o k i).trans h;refine(f.block k (by simp;omega) (fun e=> ?_)).trans a;obtain⟨_,_,_,l⟩:=j;rcases l.2 with⟨c,_⟩|⟨g,cap,cur,c,_,b,_⟩
 ·rw [c]at e;cases e
 ·rw [c]at e;cases e;rw [b]at a;cases a
theorem wQ {α β:Type} [Rep α] [Rep β] {D i :Nat->Prop} {j l:Nat} {d f:TypeId} {W:O} {v u:V} {xs:List α} {o:List β} (h:Own D W j d v xs) (k:Own i W l f u o) (c:d≠f):v.ownBlock=none\/v.ownBlock≠u.ownBlock:=by
 cases hob:v.ownBlock with
 |none=>exact .inl rfl
 |some g=>
  refine .inr (fun e=> ?_);obtain⟨_,_,_,m⟩:=h;obtain⟨_,_,_,n⟩:=k;rcases m.2 with⟨rfl,_⟩|⟨p,_,_,rfl,_,b,_⟩
  ·cases hob
  ·cases hob;rcases n.2 with⟨rfl,_⟩|⟨q,_,_,rfl,_,a,_⟩
   ·cases e
   ·cases e;rw [b]at a;cases a;exact c rfl
theorem rS {α:Type} [Rep α] {P:Program} {w:O} {k:Array Oper} {rest:List Oper} {o:Oper} {a:Act} {Q:Exit->Act->O->Prop} (p:o.guard=none) (s x:Operand) (t:TypeId)
 (C:o.op= .call {callee:= .builtin .append,args:= #[s,x],argTypes:= #[t,t]})
 (base:Nat) (e:TypeId) (i:TypeInfo) (z:V) (bytes:Nat) (E:P.underlying t=some (.slice e)) (A:P.info? e=some i) (H:i.zero=some z)
 (f:i.size=Rep.size α) (n:i.bytes=bytes) (q:z.cells.size=Rep.size α)
 (v:V) (xs:List α) (D:a.eval s=v) (j:Own Flat w base e v xs)
 (B:Nat) (cs:aG) (y:α) (F:a.eval x= .slice (some ⟨B,0,none⟩) 1 1) (g:Blk w B e cs) (G:rep w Flat cs.toList y)
 (m:xs.length+1<=9223372036854775807) (b:(xs.length+1)*bytes<=140737488355328) (c:base<=w.heap.size)
 (h:∀A' l w',Own Flat w' base e (.slice A' (xs.length+1) l) (xs++ [y])->w.grownBy w' v.ownBlock->Below base w w' ->wpList P k Q rest (a.put o.dst (.slice A' (xs.length+1) l)) w'):wpList P k Q (o::rest) a w:=by
 refine tE p s x t C base e i z bytes E A H f n q v xs D j B cs y F g (YC G) m b c ?_;intro v' w' d u r;obtain⟨A',l,rfl⟩:=d.form;rw [show(xs++ [y]).length=xs.length+1 by simp]at d ⊢;exact h A' l w' d u r
theorem Own.drew {α:Type} [Rep α] {D:Nat->Prop} {w:O} {base:Nat} {e:TypeId} {v:V} {xs:List α} (h:Own D w base e v xs):Own D w.drew base e v xs:=h.on ((zE _ w).drew)
theorem VP {α:Type} [Rep α] {P:Program} {w:O} {I:Array Oper} {o:Oper} {a:Act} {K:Act->O->Prop} {Q:Exit->Act->O->Prop} {E:Prop} (q:o.guard=none) (s x:Operand) (t:TypeId)
 (M:o.op= .call {callee:= .builtin .append,args:= #[s,x],argTypes:= #[t,t]})
 (base:Nat) (e:TypeId) (i:TypeInfo) (z:V) (bytes:Nat) (S:P.underlying t=some (.slice e)) (J:P.info? e=some i) (W:i.zero=some z)
 (g:i.size=Rep.size α) (n:i.bytes=bytes) (H:z.cells.size=Rep.size α)
 (v:V) (xs:List α) (R:a.eval s=v) (d:Own Flat w base e v xs)
 (B:Nat) (cs:aG) (y:α) (U:a.eval x= .slice (some ⟨B,0,none⟩) 1 1) (j:Blk w B e cs) (F:rep w Flat cs.toList y)
 (l:xs.length+1<=9223372036854775807) (c:(xs.length+1)*bytes<=140737488355328) (b:base<=w.heap.size)
 (h:∀A' k w',Own Flat w' base e (.slice A' (xs.length+1) k) (xs++ [y])->w.grownBy w' v.ownBlock->Below base w w' ->K (a.put o.dst (.slice A' (xs.length+1) k)) w'):
 if Region.wanted o (yielded I a.tmps)=true then Oper.wp P o a w K Q else E:=by
 have f:=d;obtain⟨css,L,N,C⟩:=d;have G:rep w (Fr Flat w v) cs.toList y:=YC F;have D:cs.size=1*Rep.size α:=by have:=Rep.len F;simpa using this
 refine Qw w q s x t M base e i z (Rep.size α) bytes S J W g n H Rep.pos v xs.length css.flatten R C w.heap.size (some ⟨B,0,none⟩) 1 1 cs.toList U (dO j 1 _ D) (fun u T=>Rep.one F T) l c b ?_;intro v' w' r p m;have A:=Vr L N G r p m;obtain⟨A',k,rfl⟩:=A.form;rw [show(xs++ [y]).length=xs.length+1 by simp]at A⊢
 exact h A' k w' A p (Uu (v' :=v) (zE _ _) b f.from_ p)
theorem vY {α:Type} [Rep α] {P:Program} {w:O} {L:Array Oper} {o:Oper} {a:Act} {K:Act->O->Prop} {Q:Exit->Act->O->Prop} {E:Prop} (A:o.guard=none) (s x:Operand) (t:TypeId)
 (R:o.op= .call {callee:= .builtin .append,args:= #[s,x],argTypes:= #[t,t]})
 (base:Nat) (e:TypeId) (i:TypeInfo) (z:V) (bytes:Nat) (U:P.underlying t=some (.slice e)) (M:P.info? e=some i) (Y:i.zero=some z)
 (l:i.size=Rep.size α) (q:i.bytes=bytes) (J:z.cells.size=Rep.size α)
 (v:V) (xs:List α) (T:a.eval s=v) (d:Own Flat w base e v xs)
 (B:Nat) (cs:aG) (y:α) (X:a.eval x= .slice (some ⟨B,0,none⟩) 1 1) (n:Blk w B e cs) (H:rep w Flat cs.toList y)
 (p:xs.length+1<=9223372036854775807) (c:(xs.length+1)*bytes<=140737488355328) (b:base<=w.heap.size)
 (h:∀A' m w',Own Flat w' base e (.slice A' (xs.length+1) m) (xs++ [y])->w.grownBy w' v.ownBlock->Below base w w' ->(∀g,(Value.slice A' (xs.length+1) m).ownBlock=some g->v.ownBlock=some g\/g=w.heap.size)->K (a.put o.dst (.slice A' (xs.length+1) m)) w'):
 if Region.wanted o (yielded L a.tmps)=true then Oper.wp P o a w K Q else E:=by
 have k:=d;obtain⟨css,N,S,F⟩:=d;have I:rep w (Fr Flat w v) cs.toList y:=YC H;have G:cs.size=1*Rep.size α:=by have:=Rep.len H;simpa using this
 refine Qw w A s x t R base e i z (Rep.size α) bytes U M Y l q J Rep.pos v xs.length css.flatten T F w.heap.size (some ⟨B,0,none⟩) 1 1 cs.toList X (dO n 1 _ G) (fun u W=>Rep.one H W) p c b ?_;intro v' w' C r f;have D:=Vr N S I C r f;obtain⟨A',m,rfl⟩:=D.form;rw [show(xs++ [y]).length=xs.length+1 by simp]at D⊢
 rw [show(xs++ [y]).length=xs.length+1 by simp]at f
 exact h A' m w' D r (Uu (v' :=v) (zE _ _) b k.from_ r) (fun g j =>by
  rcases f with e|e
  ·exact .inl (e▸j)
  ·right;rw [e]at j;exact(yG j).symm)
structure Token where
 text:aB
 pos:Int
 from_:Int
 to_:Int
 deriving DecidableEq
instance:Rep Token where
 size:=4
 pos:=by decide
 rep _ _ cs x:=cs= [.string x.text,.int .i64 x.pos,.int .i64 x.from_,.int .i64 x.to_]/\x.text.size<=9223372036854775807/\In64 x.pos/\In64 x.from_/\In64 x.to_
 len:=by rintro _ _ _ _ ⟨rfl,_⟩;rfl
 keep:=fun h _ _=>h
 one:=by
  rintro _ _ _ _ u ⟨rfl,_⟩ hu;simp only [yx,xZ,or_false]at hu;rcases hu with rfl|rfl|rfl|rfl<;>rfl
def Token.cells (x:Token):aF:= [.string x.text,.int .i64 x.pos,.int .i64 x.from_,.int .i64 x.to_]
def Token.ok (x:Token):Prop:=x.text.size<=9223372036854775807/\In64 x.pos/\In64 x.from_/\In64 x.to_
theorem Token.rep_of {w:O} {F:Nat->Prop} {x:Token} (h:x.ok):rep w F x.cells x:=⟨rfl,h⟩
theorem Token.at_ {w:O} {F:Nat->Prop} {b off k:Nat} {x:Token} (h:xp w F b off k x):w.cell? ⟨b,off+k*4,none⟩=some (.string x.text)/\w.cell? ⟨b,off+k*4+1,none⟩=some (.int .i64 x.pos)/\w.cell? ⟨b,off+k*4+2,none⟩=some (.int .i64 x.from_)/\w.cell? ⟨b,off+k*4+3,none⟩=some (.int .i64 x.to_)/\x.ok:=by
 obtain⟨cs,⟨rfl,c⟩,a⟩:=h;exact⟨a 0 _ rfl,a 1 _ rfl,a 2 _ rfl,a 3 _ rfl,c⟩
def yT (bs:aE) (e:TypeId) (W a :O):Prop:=
 W.heap.size<=a.heap.size/\∀k o,W.heap[k]? =some o->k ∉ bs->(∀c b,o≠ .cells c e b)->a.heap[k]? =some o
section
variable {bs:aE} {e:TypeId} {A B C:O}
theorem yT.refl (bs:aE) (e:TypeId) (W:O):yT bs e W W:=⟨zC _,fun _ _ h _ _=>h⟩
theorem yT.trans (h:yT bs e A B) (k:yT bs e B C):yT bs e A C:=⟨zY h.1 k.1,fun i o c a b=>k.2 i o (h.2 i o c a b) a b⟩
theorem yT.on (bs:aE) (e:TypeId) (h:Below A.heap.size A B):yT bs e A B:=⟨h.size,fun k o a _ _=>(h.block k (Array.getElem?_eq_some_iff.1 a).1).trans a⟩
theorem yT.grown {a:Option Nat} (h:A.grownBy B a) (l:∀r o,a=some r->A.heap[r]? =some o->r∈bs\/∃c b,o= .cells c e b):yT bs e A B:=
 ⟨h.size,fun k o f i j=>(h.block k (Array.getElem?_eq_some_iff.1 f).1 (fun g =>by
  rcases l k o g.symm f with d|⟨c,b,d⟩
  ·exact i d
  ·exact j c b d)).trans f⟩
theorem yT.set (p:Addr) (a:p.block∈bs) (u:V) (W:O):yT bs e W (W.setCell p u):=yT.grown (xT W p u) (fun r o b _=>by cases b;exact .inl a)
theorem yT.box {b:Nat} {t:TypeId} {v:V} (h:yT bs e A B) (d:Boxed A b t v) (f:b ∉ bs) (g:t≠e):Boxed B b t v:=h.2 b _ d f (fun c i a =>g (by cases a;rfl))
theorem yT.others (h:yT bs e A B) (i:∀b∈bs,∃c t,A.heap[b]? =some (.cells c t (0,0))):KeepsOthers A B:=
 ⟨h.1,fun k o a d=>h.2 k o a (fun j=>by obtain⟨c,t,g⟩:=i k j;rw [g]at a;cases a;cases d) (fun c l f =>by subst f;cases d)⟩
end
theorem Qe {α:Type} [Rep α] {D:Nat->Prop} {W:O} {base:Nat} {e:TypeId} {v:V} {xs:List α} (h:Own D W base e v xs) {bs:aE}:∀r o,v.ownBlock=some r->W.heap[r]? =some o->r∈bs\/∃c f,o= .cells c e f:=by
 intro r o d b;obtain⟨_,_,_,i⟩:=h;rcases i.2 with⟨rfl,_⟩|⟨g,cap,cur,rfl,_,a,_⟩
 ·cases d
 ·cases d;rw [a]at b;cases b;exact .inr ⟨_,_,rfl⟩
theorem Vf {α:Type} {P:List α->Prop} (h0:P []) (h1:∀l x,P l->P (l++ [x])) (l:List α):P l:=by
 have:∀l:List α,P l.reverse:=by
  intro l
  induction l with
  |nil=>exact h0
  |cons a l ih=>rw [List.reverse_cons];exact h1 _ _ ih
 have:=this l.reverse
 rwa [List.reverse_reverse]at this
def QF (s:aB) (toks:List Token) (a:Option Nat) (x:Nat):List Token:=
 match a with
 |none=>toks
 |some f=>toks++ [⟨s.extract f x,toks.length,f,x⟩]
def Z6 (s:aB) (p b:Int->Bool) (a:List Token×Option Nat) (x:Nat):List Token×Option Nat:=
 if p (rn s x)=false then(QF s a.1 a.2 x,none)
 else if a.2=none/\b (rn s x)=true then(a.1,some x)else a
def Z7 (s:aB) (p b:Int->Bool) (pre:aE):List Token×Option Nat:=pre.foldl (Z6 s p b) ([],none)
def Xm (s:aB) (p b:Int->Bool):List Token:=QF s (Z7 s p b (ats s)).1 (Z7 s p b (ats s)).2 s.size
def frI:Option Nat->Int
 |none=> -1
 |some f=>f
theorem X2 (s:aB) (p b:Int->Bool) (pre:aE) (x:Nat):Z7 s p b (pre++ [x])=Z6 s p b (Z7 s p b pre) x:=by simp [Z7]
theorem jY (s:aB) (toks:List Token) (a:Option Nat) (x:Nat):(QF s toks a x).length<=toks.length+1:=by cases a<;>simp [QF]
theorem U3 (s:aB) (p b:Int->Bool) (pre:aE):(Z7 s p b pre).1.length<=pre.length:=by
 induction pre using Vf with
 |h0=>simp [Z7]
 |h1 pre x ih=>
  rw [X2,zG,List.length_singleton];unfold Z6
  split
  ·have:=jY s (Z7 s p b pre).1 (Z7 s p b pre).2 x;show(QF _ _ _ _).length<=_;omega
  ·split
   ·show(Z7 s p b pre).1.length<=_;omega
   ·omega
theorem Wi (s:aB) (p b:Int->Bool) (pre:aE):∀f,(Z7 s p b pre).2=some f->f∈pre:=by
 induction pre using Vf with
 |h0=>intro f h;simp [Z7]at h
 |h1 pre x ih=>
  intro f h;rw [X2]at h;unfold Z6 at h
  split at h
  ·cases h
  ·split at h
   ·cases h;simp
   ·simp [ih f h]
theorem iO (s:aB):∀f i,(atsF s f i).Pairwise (·<·)
 |0,_=>by simp [atsF]
 |f+1,i=>by
  rw [atsF]
  by_cases a:i<s.size
  ·rw [if_pos a,List.pairwise_cons];refine⟨fun x b=> ?_,iO s f _⟩;have:=UQ s f _ x b;have:=UV a;omega
  ·rw [if_neg a];exact List.Pairwise.nil
theorem kC (s:aB):(ats s).Pairwise (·<·):=iO s _ _
theorem V5 {s:aB} {x:Nat} (h:x∈ats s):x<s.size:=(UQ s _ _ x h).2
theorem kD {s:aB} {pre:aE} {x:Nat} (h:pre++ [x]<+:ats s):∀f∈pre,f<x:=by
 intro f b;have a:=(kC s).sublist h.sublist;rw [List.pairwise_append]at a;exact a.2.2 f b x (by simp)
open Go.Proofs.Tryz
attribute [local go_sem ↓] zU zV
theorem Q5:(Tryz.prog.info? 48).map (fun i=>(i.zero,i.size,i.bytes))=some (some (.agg #[.string {data:= #[]},.int .i64 0,.int .i64 0,.int .i64 0]),4,40):=by kernel_rfl
theorem Ui {α:Type} [Rep α] {D:Nat->Prop} {W a:O} {base k l:Nat} {e g i:TypeId} {v u1 u2:V} {xs:List α} (o:Obj) (h:Own D W base e v xs) {m:Nat} {j:TypeId} {u3:V} (r:Boxed W k g u1) (s:Boxed W l i u2) (w:Boxed W m j u3) (n:g≠e) (p:i≠e) (q:j≠e)
 (c:(W.alloc o).drew.grownBy a v.ownBlock) (b:Below base (W.alloc o).drew a):Boxed a l i u2/\Boxed a k g u1/\Boxed a m j u3/\(W.alloc o).grownBy a v.ownBlock/\Below base (W.alloc o) a:=by
 have d :(W.alloc o).grownBy a v.ownBlock:=⟨c.os,c.tape,c.output,c.size,c.block⟩
 have f:∀{B:Nat} {t:TypeId} {u:V},Boxed W B t u->t≠e->Boxed a B t u:=fun b x=>(b.alloc o).kept d (by
  rcases xy (h.alloc o) (b.alloc o) x with h|h
  ·rw [h];simp
  ·exact fun e=>h e.symm)
 exact⟨f s p,f r n,f w q,d,b.os,b.tape,b.output,b.size,b.block⟩
theorem nU (x:Int) (a c d:Nat) (W:O) (b:Boxed W a 3 (.int .i64 (-1))):
 Calls prog 249 #[.int .i64 x,.pointer (some ⟨a,0,none⟩),.pointer (some ⟨c,0,none⟩),.pointer (some ⟨d,0,none⟩)] W fun e f =>e= .returned (.tuple #[])/\f =W.setCell ⟨a,0,none⟩ (.int .i64 (-1)):=by
 have cf:=b.cell;have g:=b.frozen;clear b;go_enter func249,ntmps249;go_wp2
 go_end0
 exact⟨rfl,rfl⟩
theorem nT (s:aB) (x f:Nat) (hk:f<=x) (hx:x<=s.size) (hs:s.size<=9223372036854775807) (toks:List Token) (base H E Bt:Nat) (v:V) (W:O) (F:base<=W.heap.size) (U:base<=H) (X:base<=E) (i:H≠E)
 (hf:Boxed W H 3 (.int .i64 (f:Int))) (ho:Boxed W E 41 v) (ht:Boxed W Bt 9 (.string s)) (G:Own Flat W base 48 v toks) (hlen:toks.length<=1000000000000):
 Calls prog 249 #[.int .i64 x,.pointer (some ⟨H,0,none⟩),.pointer (some ⟨E,0,none⟩),.pointer (some ⟨Bt,0,none⟩)] W fun e W' =>e= .returned (.tuple #[])/\∃v',Boxed W' H 3 (.int .i64 (-1))/\Boxed W' E 41 v' /\Own Flat W' base 48 v' (toks++ [⟨s.extract f x,toks.length,f,x⟩])/\Below base W W' /\yT [H,E] 48 W W' :=by
 obtain⟨i0,Y,ha,hb,hc⟩:=info_parts Q5;obtain⟨A,c,rfl⟩:=G.form;obtain⟨L,hL⟩:=eX (toks.length);rw [hL]at hlen ho G;have T:=zA hL;rw [hL];clear hL;have cf:=hf.cell;have ff:=hf.frozen;have co:=ho.cell;have fo:=ho.frozen;have t:=ht.cell;have hj:¬(f:Int)<0:=by omega
 have g0:(0:Int)<=(f:Int):=by omega
 have g1:(f:Int)<=(x:Int):=by omega
 have g2:(x:Int)<=(s.size:Int):=by omega
 have g3:(0:Int)<=(x:Int):=by omega
 have Hf:=zA hf;have Ho:=zA ho;have Ht:=zA ht
 have Z:Bt≠E:=by
  rintro rfl;rw [t]at co;cases co
 have b:=zA G;clear hf ho ht G
 have P:Hid (Token.ok ⟨s.extract f x,L,f,x⟩):=by
  refine⟨?_,?_,?_,?_⟩
  ·simp only [yQ];omega
  all_goals (unfold In64;simp only;omega)
 go_enter func249,ntmps249;go_wp2;refine wp_region_held_drew (S:=(fun w' =>w'.cell? ⟨H,0,none⟩=some (.int .i64 (f:Int))/\w'.cell? ⟨Bt,0,none⟩=some (.string s))) (by kernel_rfl) ⟨cf,t⟩ (fun hHeld=> ?_);refine hF 1 ?_;refine hF 2 ?_;refine hF 3 ?_;refine hF 4 ?_;refine hF 7 ?_;refine hF 8 ?_;refine wpAnyH_ready (rs:= [0,5]) (by kernel_rfl) (by simp) ?_
 refine AllReadyH.cons (o:=_) rfl (fun K a=> ?_) (AllReadyH.cons (o:=_) rfl (fun K a=> ?_) (AllReadyH.nil))
 ·go_simp;refine a.o _ _ ⟨cf,t⟩ (fun hHeld=> ?_);clear a K
  try simp only [Act.put,sa,s0,s1]
  refine wpAnyH_ready (rs:= [5]) (by kernel_rfl) (by simp) ?_;refine AllReadyH.cons (o:=_) rfl (fun K a=> ?_) (AllReadyH.nil);go_simp;refine a.o _ _ ⟨cf,t⟩ (fun hHeld=> ?_);clear a K
  try simp only [Act.put,sa,s0,s1]
  refine hF 6 ?_;refine hF 9 ?_;refine wpAnyH_ready (rs:= [10]) (by kernel_rfl) (by simp) ?_;refine AllReadyH.cons (o:=_) rfl (fun K a=> ?_) (AllReadyH.nil);go_simp;refine a.o _ _ ⟨(yA _ _ _ (ye cf)).trans cf,(yA _ _ _ (ye t)).trans t⟩ (fun hHeld=> ?_);clear a K
  try simp only [Act.put,sa,s0,s1]
  refine wpAnyH_ready (rs:= [11]) (by kernel_rfl) (by simp) ?_;refine AllReadyH.cons (o:=_) rfl (fun K a=> ?_) (AllReadyH.nil)
  refine VP rfl (.tmp 7) (.tmp 17) _ rfl base 48 i0 _ 40 underlying41 Y ha hb hc rfl (.slice A L c) toks rfl (by first|exact b.o.alloc _|exact(b.o.alloc _).drew) W.heap.size #[.string (s.extract f x),.int .i64 (L:Int),.int .i64 (f:Int),.int .i64 (x:Int)] ⟨s.extract f x,L,f,x⟩ rfl (by first|exact Blk.new _ _ _|exact(Blk.new _ _ _).drew) (Token.rep_of P.o) (by rw [T.o];omega) (by rw [T.o];omega) (by simp;omega) ?_
  rw [T.o];intro I Q w3 C z w;obtain⟨g,h,r,B,y⟩:=Ui _ b.o Hf.o Ho.o Ht.o (by decide) (by decide) (by decide) z w;have he:=g.cell;have hh:=g.frozen;have R:=h.cell;have u:=r.cell;have l:=zA g;have j:=zA h;have m:=zA C;have N:=zA B;have M:=zA y;clear g h r C z w B y;refine a.o _ _ ⟨R,u⟩ (fun hHeld=> ?_)
  clear a K
  try simp only [Act.put,sa,s0,s1]
  refine wpAnyH_ready (rs:= [12]) (by kernel_rfl) (by simp) ?_;refine AllReadyH.cons (o:=_) rfl (fun K a=> ?_) (AllReadyH.nil);go_simp;refine a.o _ _ ⟨(Boxed.other j.o i _).cell,(World.cell?_setCell_other _ _ _ _ (by intro e;cases e;exact Z rfl)).trans u⟩ (fun hHeld=> ?_);clear a K
  try simp only [Act.put,sa,s0,s1]
  refine wpAnyH_done (by kernel_rfl) ?_ _;have q:=l.o.set (.slice I (L+1) Q);have d:=Boxed.other j.o i (.slice I (L+1) Q);have D:=ZA m.o (xT w3 ⟨E,0,none⟩ (.slice I (L+1) Q)) (xy m.o l.o (by decide));have hd:=d.cell;have hg:=d.frozen;have J:=zA q;have k:=zA d;have n:=zA D;clear q d D cf ff co fo t;go_wp2
  go_end0
  refine⟨rfl,_,k.o.set _,Boxed.other J.o (Ne.symm i) _,ZA n.o (xT _ _ _) (xy n.o k.o (by decide)),?_,?_⟩
  ·exact((((zE base W).alloc F _).trans M.o).setCell (p:=⟨E,0,none⟩) X _).setCell (p:=⟨H,0,none⟩) U _
  ·exact(((yT.on _ _ ((zE _ W).alloc (zC _) _)).trans (yT.grown N.o (Qe (b.o.alloc _)))).trans (yT.set ⟨E,0,none⟩ (by simp) _ _)).trans (yT.set ⟨H,0,none⟩ (by simp) _ _)
 ·go_simp;refine a.o _ _ ⟨cf,t⟩ (fun hHeld=> ?_);clear a K
  try simp only [Act.put,sa,s0,s1]
  refine hF 6 ?_;refine hF 9 ?_;refine wpAnyH_ready (rs:= [0,10]) (by kernel_rfl) (by simp) ?_;refine AllReadyH.cons (o:=_) rfl (fun K a=> ?_) (AllReadyH.cons (o:=_) rfl (fun K a=> ?_) (AllReadyH.nil))
  ·go_simp;refine a.o _ _ ⟨cf,t⟩ (fun hHeld=> ?_);clear a K
   try simp only [Act.put,sa,s0,s1]
   refine wpAnyH_ready (rs:= [10]) (by kernel_rfl) (by simp) ?_;refine AllReadyH.cons (o:=_) rfl (fun K a=> ?_) (AllReadyH.nil);go_simp;refine a.o _ _ ⟨(yA _ _ _ (ye cf)).trans cf,(yA _ _ _ (ye t)).trans t⟩ (fun hHeld=> ?_);clear a K
   try simp only [Act.put,sa,s0,s1]
   refine wpAnyH_ready (rs:= [11]) (by kernel_rfl) (by simp) ?_;refine AllReadyH.cons (o:=_) rfl (fun K a=> ?_) (AllReadyH.nil)
   refine VP rfl (.tmp 7) (.tmp 17) _ rfl base 48 i0 _ 40 underlying41 Y ha hb hc rfl (.slice A L c) toks rfl (by first|exact b.o.alloc _|exact(b.o.alloc _).drew) W.heap.size #[.string (s.extract f x),.int .i64 (L:Int),.int .i64 (f:Int),.int .i64 (x:Int)] ⟨s.extract f x,L,f,x⟩ rfl (by first|exact Blk.new _ _ _|exact(Blk.new _ _ _).drew) (Token.rep_of P.o) (by rw [T.o];omega) (by rw [T.o];omega) (by simp;omega) ?_
   rw [T.o];intro I Q w3 C z w;obtain⟨g,h,r,B,y⟩:=Ui _ b.o Hf.o Ho.o Ht.o (by decide) (by decide) (by decide) z w;have he:=g.cell;have hh:=g.frozen;have R:=h.cell;have u:=r.cell;have l:=zA g;have j:=zA h;have m:=zA C;have N:=zA B;have M:=zA y;clear g h r C z w B y;refine a.o _ _ ⟨R,u⟩ (fun hHeld=> ?_)
   clear a K
   try simp only [Act.put,sa,s0,s1]
   refine wpAnyH_ready (rs:= [12]) (by kernel_rfl) (by simp) ?_;refine AllReadyH.cons (o:=_) rfl (fun K a=> ?_) (AllReadyH.nil);go_simp;refine a.o _ _ ⟨(Boxed.other j.o i _).cell,(World.cell?_setCell_other _ _ _ _ (by intro e;cases e;exact Z rfl)).trans u⟩ (fun hHeld=> ?_);clear a K
   try simp only [Act.put,sa,s0,s1]
   refine wpAnyH_done (by kernel_rfl) ?_ _;have q:=l.o.set (.slice I (L+1) Q);have d:=Boxed.other j.o i (.slice I (L+1) Q);have D:=ZA m.o (xT w3 ⟨E,0,none⟩ (.slice I (L+1) Q)) (xy m.o l.o (by decide));have hd:=d.cell;have hg:=d.frozen;have J:=zA q;have k:=zA d;have n:=zA D;clear q d D cf ff co fo t;go_wp2
   go_end0
   refine⟨rfl,_,k.o.set _,Boxed.other J.o (Ne.symm i) _,ZA n.o (xT _ _ _) (xy n.o k.o (by decide)),?_,?_⟩
   ·exact((((zE base W).alloc F _).trans M.o).setCell (p:=⟨E,0,none⟩) X _).setCell (p:=⟨H,0,none⟩) U _
   ·exact(((yT.on _ _ ((zE _ W).alloc (zC _) _)).trans (yT.grown N.o (Qe (b.o.alloc _)))).trans (yT.set ⟨E,0,none⟩ (by simp) _ _)).trans (yT.set ⟨H,0,none⟩ (by simp) _ _)
  ·go_simp;refine a.o _ _ ⟨(yA _ _ _ (ye cf)).trans cf,(yA _ _ _ (ye t)).trans t⟩ (fun hHeld=> ?_);clear a K
   try simp only [Act.put,sa,s0,s1]
   refine wpAnyH_ready (rs:= [0]) (by kernel_rfl) (by simp) ?_;refine AllReadyH.cons (o:=_) rfl (fun K a=> ?_) (AllReadyH.nil);have hi:=(yA W (.cells #[.string (s.extract f x),.int .i64 (L:Int),.int .i64 (f:Int),.int .i64 (x:Int)] 48) _ (ye co)).trans co;go_simp;refine a.o _ _ ⟨(yA _ _ _ (ye cf)).trans cf,(yA _ _ _ (ye t)).trans t⟩ (fun hHeld=> ?_);clear a K
   try simp only [Act.put,sa,s0,s1]
   refine wpAnyH_ready (rs:= [11]) (by kernel_rfl) (by simp) ?_;refine AllReadyH.cons (o:=_) rfl (fun K a=> ?_) (AllReadyH.nil)
   refine VP rfl (.tmp 7) (.tmp 17) _ rfl base 48 i0 _ 40 underlying41 Y ha hb hc rfl (.slice A L c) toks rfl (by first|exact b.o.alloc _|exact(b.o.alloc _).drew) W.heap.size #[.string (s.extract f x),.int .i64 (L:Int),.int .i64 (f:Int),.int .i64 (x:Int)] ⟨s.extract f x,L,f,x⟩ rfl (by first|exact Blk.new _ _ _|exact(Blk.new _ _ _).drew) (Token.rep_of P.o) (by rw [T.o];omega) (by rw [T.o];omega) (by simp;omega) ?_
   rw [T.o];intro I Q w3 C z w;obtain⟨g,h,r,B,y⟩:=Ui _ b.o Hf.o Ho.o Ht.o (by decide) (by decide) (by decide) z w;have he:=g.cell;have hh:=g.frozen;have R:=h.cell;have u:=r.cell;have l:=zA g;have j:=zA h;have m:=zA C;have N:=zA B;have M:=zA y;clear g h r C z w B y;refine a.o _ _ ⟨R,u⟩ (fun hHeld=> ?_)
   clear a K
   try simp only [Act.put,sa,s0,s1]
   refine wpAnyH_ready (rs:= [12]) (by kernel_rfl) (by simp) ?_;refine AllReadyH.cons (o:=_) rfl (fun K a=> ?_) (AllReadyH.nil);go_simp;refine a.o _ _ ⟨(Boxed.other j.o i _).cell,(World.cell?_setCell_other _ _ _ _ (by intro e;cases e;exact Z rfl)).trans u⟩ (fun hHeld=> ?_);clear a K
   try simp only [Act.put,sa,s0,s1]
   refine wpAnyH_done (by kernel_rfl) ?_ _;have q:=l.o.set (.slice I (L+1) Q);have d:=Boxed.other j.o i (.slice I (L+1) Q);have D:=ZA m.o (xT w3 ⟨E,0,none⟩ (.slice I (L+1) Q)) (xy m.o l.o (by decide));have hd:=d.cell;have hg:=d.frozen;have J:=zA q;have k:=zA d;have n:=zA D;clear q d D cf ff co fo t;go_wp2
   go_end0
   refine⟨rfl,_,k.o.set _,Boxed.other J.o (Ne.symm i) _,ZA n.o (xT _ _ _) (xy n.o k.o (by decide)),?_,?_⟩
   ·exact((((zE base W).alloc F _).trans M.o).setCell (p:=⟨E,0,none⟩) X _).setCell (p:=⟨H,0,none⟩) U _
   ·exact(((yT.on _ _ ((zE _ W).alloc (zC _) _)).trans (yT.grown N.o (Qe (b.o.alloc _)))).trans (yT.set ⟨E,0,none⟩ (by simp) _ _)).trans (yT.set ⟨H,0,none⟩ (by simp) _ _)
def dQ (t:Token) (p:aE) (n:Nat) (a i:Nat):Token:=⟨t.text.extract (p[i]?.getD 0) (p[i+n]?.getD 0),a,t.from_+(p[i]?.getD 0),t.from_+(p[i+n]?.getD 0)⟩
def ZX (t:Token) (p:aE) (n:Nat) (a:List Token):Nat->List Token
 |0=>a
 |i+1=>ZX t p n a i++ [dQ t p n (ZX t p n a i).length i]
def cG (p:aE):Nat:=min 2 (p.length - 1)
def Zg (a:List Token) (t:Token):List Token:=ZX t (yg t.text) (cG (yg t.text)) a ((yg t.text).length - cG (yg t.text))
def WU (toks:List Token):List Token:=toks.foldl Zg []
theorem Vq (t:Token) (p:aE) (n:Nat) (a:List Token) (i:Nat):(ZX t p n a i).length=a.length+i:=by
 induction i with
 |zero=>rfl
 |succ i ih=>simp [ZX,ih];omega
theorem Yf (s:aB):1<=(yg s).length/\(yg s).length<=s.size+1:=by
 have:=Qn s;simp [yg];omega
theorem sY (a:List Token) (t:Token):(Zg a t).length<=a.length+t.text.size+1:=by
 unfold Zg;rw [Vq];have:=Yf t.text;omega
theorem AH (m:Nat) (toks:List Token) (h:∀t∈toks,t.text.size<=m):(WU toks).length<=toks.length*(m+1):=by
 unfold WU
 have:∀(l:List Token) (b:List Token),(∀t∈l,t.text.size<=m)->(l.foldl Zg b).length<=b.length+l.length*(m+1):=by
  intro l
  induction l with
  |nil=>intro b _;simp
  |cons a l ih=>
   intro b c;have e:=ih (Zg b a) (fun t d=>c t (by simp [d]));have f:=sY b a;have g:=c a (by simp);simp only [List.foldl_cons,z6,xK];omega
 have:=this toks [] h
 simpa using this
def Ux (s:aB) (t:Token):Prop:=∃f x:Nat,f<=x/\x<=s.size/\t.text=s.extract f x/\t.from_=f/\t.to_=x
theorem Ux.size {s:aB} {t:Token} (h:Ux s t):t.text.size<=s.size/\0<=t.from_/\t.from_+t.text.size<=s.size:=by
 obtain⟨f,x,c,d,a,b,e⟩:=h;rw [a,b,yQ];omega
theorem iH {s:aB} {toks:List Token} {b:Option Nat} {x:Nat} (h:∀t∈toks,Ux s t) (c:∀f,b=some f->f<=x) (d:x<=s.size):∀t∈QF s toks b x,Ux s t:=by
 cases b with
 |none=>exact h
 |some f=>
  intro t a;simp only [QF,List.mem_append,List.mem_singleton]at a;rcases a with a|rfl
  ·exact h t a
  ·exact⟨f,x,c f rfl,d,rfl,rfl,rfl⟩
theorem wG (s:aB) (p b:Int->Bool) (pre:aE) (hpre:pre<+:ats s):∀t∈(Z7 s p b pre).1,Ux s t:=by
 induction pre using Vf with
 |h0=>simp [Z7]
 |h1 pre x ih=>
  have h1:=ih ((List.prefix_append pre [x]).trans hpre);have c:x<s.size:=V5 (hpre.subset (by simp));rw [X2];unfold Z6
  split
  ·exact iH h1 (fun f a=>Nat.le_of_lt (kD hpre f (Wi s p b pre f a))) (by omega)
  ·split
   ·exact h1
   ·exact h1
theorem jB (s:aB) (p b:Int->Bool):∀t∈Xm s p b,Ux s t:=
 iH (wG s p b _ (List.prefix_refl _)) (fun f a=>Nat.le_of_lt (V5 (Wi s p b _ f a))) (zC _)
theorem DE (s:aB) (p b:Int->Bool):(Xm s p b).length<=s.size+1:=by
 have a:=jY s (Z7 s p b (ats s)).1 (Z7 s p b (ats s)).2 s.size;have c:=U3 s p b (ats s);have d:=Qn s;unfold Xm;omega
end Go.Proofs.YtjbhbfaeielbiaaGreatDoor

import Derived.Test.YtjbhbfaeielbiaaGreatDoorPart03
import Derived.Deep.OwnRows
import Derived.RangeFuncNested
import Derived.RangeFuncBound
import Derived.Sort.Grow
import Derived.Sort.EncStr
import Derived.Shelf.RegionOpen
import Derived.LoopNIn
import Derived.LoopIn
set_option maxRecDepth 100000
set_option maxHeartbeats 8000000
set_option linter.unusedVariables false
set_option linter.unusedSimpArgs false
namespace Go.Proofs.YtjbhbfaeielbiaaGreatDoor
open Rep (rep)
open Go.RowKit
structure U64 where
 val:Nat
 deriving DecidableEq
instance:Rep U64 where
 size:=1
 pos:=by decide
 rep _ _ cs x:=cs= [.int .u64 (x.val:Int)]/\x.val<18446744073709551616
 len:=by rintro _ _ _ _ ⟨rfl,_⟩;rfl
 keep:=fun h _ _=>h
 one:=by rintro _ _ _ _ _ ⟨rfl,_⟩ hu;simp at hu;subst hu;rfl
structure Ptr (α:Type) where
 val:Option α
def N3 {α:Type} [Rep α] (w:O) (F:Nat->Prop) (cs:aF):Option α->Prop
 |none=>cs= [.pointer none]
 |some x=>∃b,cs= [.pointer (some ⟨b,0,none⟩)]/\F b/\xp w F b 0 0 x
instance {α:Type} [Rep α]:Rep (Ptr α) where
 size:=1
 pos:=by decide
 rep w F cs p:=N3 w F cs p.val
 len:=by
  rintro _ _ _ ⟨_|x⟩ h
  ·cases h;rfl
  ·obtain⟨_,rfl,_⟩:=h;rfl
 keep:=by
  rintro _ _ _ _ _ ⟨_|x⟩ h hc hF
  ·exact h
  ·obtain⟨b,rfl,h1,h2⟩:=h;exact⟨b,rfl,hF b h1,h2.keep hc hF h1⟩
 one:=by
  rintro _ _ _ ⟨_|x⟩ u h hu
  ·cases h;simp at hu;subst hu;rfl
  ·obtain⟨_,rfl,_⟩:=h;simp at hu;subst hu;rfl
theorem Ptr.get {α:Type} [Rep α] {w:O} {F:Nat->Prop} {b:Nat} {x:α} (h:rep w F [.pointer (some ⟨b,0,none⟩)] (Ptr.mk (some x))):F b/\xp w F b 0 0 x:=by
 obtain⟨f,e,a,d⟩:=h;cases e;exact⟨a,d⟩
def RepA {α:Type} [Rep α] (cs:aF) (x:α):Asn where
 P S w:=rep w S cs x/\∀b,S b->b<w.heap.size
 lt h:=h.2
 keep h ht hn:=⟨Rep.keep h.1 (fun p a=>ht.cell (h.2 _ a) (hn _ a)) (fun _ h=>h),fun b d=>zX (h.2 b d) ht.size⟩
abbrev DatA {α:Type} [Rep α] (v:V) (x:α):Asn:=RepA [v] x
def ElsA {α:Type} [Rep α] (css:List aF) (xs:List α):Asn where
 P S w:=(css.length=xs.length/\∀(k:Nat) (cs:aF) (x:α),css[k]? =some cs->xs[k]? =some x->rep w S cs x)/\∀b,S b->b<w.heap.size
 lt h:=h.2
 keep h ht hn:=⟨⟨h.1.1,fun k cs x d f=>Rep.keep (h.1.2 k cs x d f) (fun p a=>ht.cell (h.2 _ a) (hn _ a)) (fun _ h=>h)⟩,fun b i=>zX (h.2 b i) ht.size⟩
section
variable {α β γ δ:Type} [Rep α] [Rep β] [Rep γ] [Rep δ] {w w' :O} {L:List Asn} {e t:TypeId} {n c g:Nat} {v:V} {A:aA}
theorem Sp.dat {cs:aF} {x:α} (h:Sp w L) (d:RepA cs x∈L):rep w (·<w.heap.size) cs x:=by
 obtain⟨S,a,b⟩:=h.get d;exact Rep.more a b
theorem Sp.ls {xs:List α} (h:Sp w L) (a:DatA (.slice A n c) xs∈L):zL w (·<w.heap.size) A n c xs:=by
 obtain⟨A',n',b,e,h⟩:=h.dat a;cases e;exact h
theorem Sp.mk0 {cs:aF} {x:α} (h:Sp w L) (f:rep w (fun _=>False) cs x):Sp w (RepA cs x::L):=
 h.new (S:=fun _=>False) (zE _ _) ⟨f,fun _ h=>h.elim⟩ (fun _ h=>h.elim)
theorem Sp.mk1 {cs:aF} {x:α} {ds:aF} {y:β} (h:Sp w (RepA ds y::L)) (f:∀S,rep w S ds y->rep w S cs x):Sp w (RepA cs x::L):=
 h.turn fun S a=>⟨f S a.1,a.2⟩
theorem Sp.mk2 {cs:aF} {x:α} {ds es:aF} {y:β} {z:γ} (h:Sp w (RepA ds y::RepA es z::L)) (f:∀S,rep w S ds y->rep w S es z->rep w S cs x):Sp w (RepA cs x::L):=
 h.join fun S T a d _=>⟨f _ (Rep.more a.1 fun _=> .inl) (Rep.more d.1 fun _=> .inr),fun b i=>i.elim (a.2 b) (d.2 b)⟩
theorem Sp.elsNil (h:Sp w L):Sp w (ElsA [] ([]:List α)::L):=
 h.new (S:=fun _=>False) (zE _ _) ⟨⟨rfl,fun k cs x h=>by simp at h⟩,fun _ h=>h.elim⟩ (fun _ h=>h.elim)
theorem Sp.elsPush {css:List aF} {xs:List α} {cs:aF} {x:α} (h:Sp w (RepA cs x::ElsA css xs::L)):Sp w (ElsA (css++ [cs]) (xs++ [x])::L):=
 h.join fun S T i f _=>by
  refine⟨⟨by simp [f.1.1],fun k c y a d=> ?_⟩,fun b l=>l.elim (i.2 b) (f.2 b)⟩;rcases zk k css.length with j|j
  ·rw [z9 j]at a;rw [z9 (by have:=f.1.1;omega)]at d;exact Rep.more (f.1.2 k c y a d) fun _=> .inr
  ·have e:=f.1.1;have m:=zN a;simp at m;obtain rfl:k=css.length:=by omega
   rw [zR (zC _)]at a;rw [e,zR (zC _)]at d;simp at a d;subst a d;exact Rep.more i.1 fun _=> .inl
theorem Sp.els {css:List aF} {xs:List α} (h:Sp w (RowA e (Rep.size α) (.slice A n c) n css.flatten::ElsA css xs::L)):Sp w (DatA (.slice A n c) xs::L):=
 h.join fun S T i a _=>by
  have f:=i.2
  have hlen:∀c∈css,c.length=Rep.size α:=by
   intro c m;obtain⟨k,d⟩:=z8 m;have o:k<xs.length:=(by have:=zN d;have:=a.1.1;omega);exact Rep.len (a.1.2 k c xs[k] d (zB o))
  have z:n=css.length:=by
   have s:=Zh css hlen;have p:=f.1;rw [s]at p;exact(Nat.eq_of_mul_eq_mul_right Rep.pos p).symm
  refine⟨⟨A,n,c,rfl,by rw [z];exact a.1.1.symm,f.cap.2.1,f.cap.2.2,fun k x r=> ?_⟩,fun b l=>l.elim (fun l=>(f.lt b ((i.1 b).1 l)).2) (a.2 b)⟩;have d:k<css.length:=(by have:=zN r;have:=a.1.1;omega);obtain⟨b,rfl,_,_,m⟩:=f.at_ (by omega)
  refine⟨b,0,rfl,.inl ((i.1 b).2 rfl),css[k],Rep.more (a.1.2 k _ x (zB d) r) fun _=> .inr,fun j u q=> ?_⟩
  have y:j<Rep.size α:=by
   have:=hlen css[k] (List.getElem_mem _);have:=zN q;omega
  rw [zx];exact m _ u (by rw [xX css k j _ hlen (zB d) y];exact q)
theorem Sp.flat {xs:List α} {f:α->aF} (h:Sp w (RowA e (Rep.size α) (.slice A n c) n (xs.flatMap f)::L)) (i:∀x∈xs,rep w (fun _=>False) (f x) x):Sp w (DatA (.slice A n c) xs::L):=by
 have a:Sp w (ElsA (xs.map f) xs::RowA e (Rep.size α) (.slice A n c) n (xs.flatMap f)::L):=
  h.new (S:=fun _=>False) (zE _ _) ⟨⟨by simp,fun k cs x b a=>by
   rw [zH,a]at b;cases b;exact i x (zD a)⟩,fun _ h=>h.elim⟩ (fun _ h=>h.elim)
 have d:=a.p1;rw [List.flatMap_def]at d;exact d.els
theorem Sp.ptr {cs:aG} {x:α} (h:Sp w (BlkA g t cs::RepA cs.toList x::L)):Sp w (DatA (.pointer (some ⟨g,0,none⟩)) (Ptr.mk (some x))::L):=
 h.join fun S T a f _=>⟨⟨g,rfl,.inl ((a.1 g).2 rfl),cs.toList,Rep.more f.1 fun _=> .inr,fun j u i=>by
  rw [Nat.zero_mul,yt,zx,a.2.cell j,<-Array.getElem?_toList];exact i⟩,fun b d=>d.elim (fun d=>by rw [(a.1 b).1 d];exact a.2.lt) (f.2 b)⟩
end
theorem MI (l:aC):bC l=l.flatMap fun b=> [.int .u8 (b.toNat:Int)]:=by unfold bC;induction l with|nil=>rfl|cons a l ih=>simp [ih]
theorem LQ (l:aD):ints l=l.flatMap fun n=> [.int .i64 n]:=by unfold ints;induction l with|nil=>rfl|cons a l ih=>simp [ih]
theorem KR (l:List aB):sC l=l.flatMap fun s=> [.string s]:=by unfold sC;induction l with|nil=>rfl|cons a l ih=>simp [ih]
section
variable {w:O} {L:List Asn} {n c:Nat} {A:aA} {e:TypeId}
theorem Sp.bytes {l:aC} (h:Sp w (RowA e 1 (.slice A n c) n (bC l)::L)):Sp w (DatA (.slice A n c) l::L):=by
 rw [MI]at h;exact h.flat fun _ _=>rfl
theorem Sp.ints {l:aD} (h:Sp w (RowA e 1 (.slice A n c) n (ints l)::L)) (a:∀x∈l,In64 x):Sp w (DatA (.slice A n c) l::L):=by
 rw [LQ]at h;exact h.flat fun x b=>⟨rfl,a x b⟩
theorem Sp.strs {l:List aB} (h:Sp w (RowA e 1 (.slice A n c) n (sC l)::L)) (a:∀x∈l,x.size<=9223372036854775807):Sp w (DatA (.slice A n c) l::L):=by
 rw [KR]at h;exact h.flat fun x b=>⟨rfl,a x b⟩
theorem zL.rb {F:Nat->Prop} {l:aC} (h:zL w F A n c l) (hF:∀b,F b->b<w.heap.size):RB w A n l:=
 ⟨by rw [dF,h.length,yr],fun d=>by
  obtain⟨b,off,x,rfl,_,f,_⟩:=h.at_ d
  refine⟨b,off,rfl,hF b f,fun j u a=> ?_⟩;unfold bC at a;rw [zH]at a;rcases hx:l[j]? with _|y
  ·rw [hx]at a;cases a
  ·rw [hx]at a;cases a;exact(h.elem hx).2.u8⟩
end
theorem M0 {α:Type _} {a:α} {l:List α}:a∈a::l:= .head _
theorem M1 {α:Type _} {a b:α} {l:List α}:a∈b::a::l:= .tail _ M0
theorem M2 {α:Type _} {a b c:α} {l:List α}:a∈b::c::a::l:= .tail _ M1
theorem M3 {α:Type _} {a b c d:α} {l:List α}:a∈b::c::d::a::l:= .tail _ M2
theorem M4 {α:Type _} {a b c d e:α} {l:List α}:a∈b::c::d::e::a::l:= .tail _ M3
theorem M5 {α:Type _} {a b c d e f:α} {l:List α}:a∈b::c::d::e::f::a::l:= .tail _ M4
theorem M6 {α:Type _} {a b c d e f g:α} {l:List α}:a∈b::c::d::e::f::g::a::l:= .tail _ M5
theorem M7 {α:Type _} {a b c d e f g h:α} {l:List α}:a∈b::c::d::e::f::g::h::a::l:= .tail _ M6
theorem M8 {α:Type _} {a b c d e f g h i:α} {l:List α}:a∈b::c::d::e::f::g::h::i::a::l:= .tail _ M7
theorem SpU.fam {w:O}:∀{L:List Asn} {U:Nat->Prop},SpU w U L->∃f:Nat->Nat->Prop,(∀(i:Nat) (A:Asn),L[i]? =some A->A.P (f i) w)/\(∀i b,f i b->U b)/\∀i j b,i≠j->f i b->¬f j b
 | [],_,_=>⟨fun _ _=>False,fun i A h=>by simp at h,fun _ _ h=>h.elim,fun _ _ _ _ h=>h.elim⟩
 |A::L,U,⟨S,h1,h2,h3⟩=>by
  obtain⟨f,d,a,k⟩:=SpU.fam h3;refine⟨fun i=>match i with|0=>S|i+1=>f i,?_,?_,?_⟩
  ·rintro(_|i) B h
   ·simp at h;subst h;exact h2
   ·exact d i B (by simpa using h)
  ·rintro(_|i) b h
   ·exact h1 b h
   ·exact(a i b h).1
  ·rintro(_|i) (_|j) b c h
   ·exact absurd rfl c
   ·exact fun g=>(a j b g).2 h
   ·exact fun g=>(a i b h).2 g
   ·exact k i j b (by omega) h
theorem SpU.pick {w:O} {L:List Asn} {f:Nat->Nat->Prop} (d:∀(i:Nat) (A:Asn),L[i]? =some A->A.P (f i) w) (g:∀i j b,i≠j->f i b->¬f j b):
 ∀(a:aE) (U:Nat->Prop),a.Nodup->(∀i,i∈a->∀b,f i b->U b)->SpU w U (a.filterMap (L[·]?))
 | [],_,_,_=>trivial
 |i::a,U,hn,hU=>by
  rw [List.nodup_cons]at hn;rw [yo];rcases hi:L[i]? with _|A
  ·exact SpU.pick d g a U hn.2 fun j c=>hU j (.tail _ c)
  ·exact⟨f i,hU i (.head _),d i A hi,SpU.pick d g a _ hn.2 fun j c b h=>⟨hU j (.tail _ c) b h,g j i b (fun e=>hn.1 (e▸c)) h⟩⟩
theorem Sp.sel {w:O} {L:List Asn} (h:Sp w L) (a:aE) (b:a.Nodup:=by decide):Sp w (a.filterMap (L[·]?)):=by
 obtain⟨f,c,_,d⟩:=SpU.fam h;exact SpU.pick c d a _ b fun _ _ _ _=>trivial
theorem DL {α:Type _} (T:List α):∀(M:List α),(List.range' M.length T.length).filterMap ((M++T)[·]?)=T:=by
 induction T with
 |nil=>intro M;rfl
 |cons t T ih=>
  intro M;rw [z6,List.range'_succ,yo];have e:(M++t::T)[M.length]? =some t:=(by simp);rw [e];have:=ih (M++ [t]);simp only [zG,z6,yO,zO,yI,zZ]at this;simp [this]
theorem Sp.selT {w:O} {T:List Asn} (M:List Asn) (h:Sp w (M++T)) (c:aE) (m:c.Nodup:=by decide) (f:∀i,i∈c->i<M.length:=by simp):Sp w (c.filterMap (M[·]?)++T):=by
 have d:=h.sel (c++List.range' M.length T.length) (List.nodup_append.2 ⟨m,List.nodup_range',fun a g b k e=>by
  have:=f a g;have:=(List.mem_range'_1.1 k).1;omega⟩)
 rw [List.filterMap_append,DL]at d
 have e:c.filterMap ((M++T)[·]?)=c.filterMap (M[·]?):=by
  have:∀(c:aE),(∀i,i∈c->i<M.length)->c.filterMap ((M++T)[·]?)=c.filterMap (M[·]?):=by
   intro c
   induction c with
   |nil=>intro _;rfl
   |cons i c ih=>
    intro h;rw [yo,yo,z9 (h i (.head _)),ih fun j l=>h j (.tail _ l)]
  exact this c f
 rw [e]at d;exact d
section
variable {w:O} {A B C D E F G H:Asn} {L:List Asn}
theorem Sp.p5 (h:Sp w (A::B::C::D::E::F::L)):Sp w (F::A::B::C::D::E::L):=Sp.selT [A,B,C,D,E,F] h [5,0,1,2,3,4]
theorem Sp.p6 (h:Sp w (A::B::C::D::E::F::G::L)):Sp w (G::A::B::C::D::E::F::L):=Sp.selT [A,B,C,D,E,F,G] h [6,0,1,2,3,4,5]
theorem Sp.p7 (h:Sp w (A::B::C::D::E::F::G::H::L)):Sp w (H::A::B::C::D::E::F::G::L):=Sp.selT [A,B,C,D,E,F,G,H] h [7,0,1,2,3,4,5,6]
end
instance {α β:Type} [Rep α] [Rep β]:Rep (α×β) where
 size:=Rep.size α+Rep.size β
 pos:=by have:=Rep.pos (α:=α);omega
 rep w F cs x:=∃c1 c2,cs=c1++c2/\rep w F c1 x.1/\rep w F c2 x.2
 len:=by rintro _ _ _ _ ⟨c1,c2,rfl,h1,h2⟩;rw [zG,Rep.len h1,Rep.len h2]
 keep:=by rintro _ _ _ _ _ _ ⟨c1,c2,rfl,h1,h2⟩ hc hF;exact⟨c1,c2,rfl,Rep.keep h1 hc hF,Rep.keep h2 hc hF⟩
 one:=by
  rintro _ _ _ _ u ⟨c1,c2,rfl,h1,h2⟩ hu;rcases List.mem_append.1 hu with h|h
  ·exact Rep.one h1 h
  ·exact Rep.one h2 h
section
variable {w:O} {L:List Asn} {α:Type} [Rep α]
theorem Sp.elsJoin {css css' :List aF} {xs a :List α} (h:Sp w (ElsA css xs::ElsA css' a ::L)):Sp w (ElsA (css++css') (xs++a)::L):=
 h.join fun S T f g _=>by
  refine⟨⟨by rw [zG,zG,f.1.1,g.1.1],fun k cs x c d=> ?_⟩,fun b j=>j.elim (f.2 b) (g.2 b)⟩;have e:=f.1.1;rcases zk k css.length with i|i
  ·rw [z9 i]at c;rw [z9 (by omega)]at d;exact Rep.more (f.1.2 k cs x c d) fun _=> .inl
  ·rw [zR i]at c;rw [zR (by omega),<-e]at d;exact Rep.more (g.1.2 _ cs x c d) fun _=> .inr
theorem Sp.elsOne {css:List aF} {xs:List α} (h:Sp w L) (g:ElsA css xs∈L):∀u∈css.flatten,u.oneCell' =true:=by
 obtain⟨S,b,_⟩:=h.get g;intro u a;obtain⟨cs,d,a⟩:=List.mem_flatten.1 a;obtain⟨k,c⟩:=z8 d;have f:k<xs.length:=by rw [<-b.1];exact zN c
 exact Rep.one (b.2 k cs xs[k] c (zB f)) a
end
structure AnyV where
instance:Rep AnyV where
 size:=1
 pos:=by decide
 rep _ _ cs _:=∃v,cs= [v]/\v.oneCell' =true
 len:=by rintro _ _ _ _ ⟨_,rfl,_⟩;rfl
 keep:=fun h _ _=>h
 one:=by rintro _ _ _ _ _ ⟨v,rfl,h⟩ hu;simp at hu;subst hu;exact h
section
variable {P:Program} {w w' :O} {L:List Asn} {e:TypeId} {size n:Nat}
theorem Sp.mkd {z:V} {H:Nat} (h:Sp w L) (a:w.heap.size=H) (b:n<=9223372036854775807):Sp (w.alloc (.cells (madeCells #[z] n) e)) (RowA e 1 (.slice (some ⟨H,0,none⟩) n n) n (madeCells #[z] n).toList::L):=by
 subst a;exact h.lit (madeCells #[z] n) e 1 n (by simp [madeCells]) (by unfold maxLen;omega)
theorem yz {f:Array Oper} {o:Oper} {a:Act} {K:Act->O->Prop} {Q:Exit->Act->O->Prop} {i :Prop} {t g:TypeId} {bytes:Nat} {v:V} {xs:aF} (E:Elt P t e size bytes) (s x:Operand) (d:o.guard=none)
 (q:o.op= .call {callee:= .builtin .append,args:= #[s,x],argTypes:= #[t,t]})
 (j:Sp w (RowA e size v n xs::L)) (r:a.eval s=v) {cs:aG} {H:Nat} (y:a.eval x= .slice (some ⟨H,0,none⟩) 1 1) (l:w.heap.size=H) (m:cs.size=size) (k:∀u∈cs.toList,u.oneCell' =true)
 (p:(n+1)*bytes<=140737488355328) (c:n+1<=9223372036854775807)
 (h:∀A' b w',n+1<=b ->b <=9223372036854775807->Sp w' (RowA e size (.slice A' (n+1) b) (n+1) (xs++cs.toList)::L)->K (a.put o.dst (.slice A' (n+1) b)) w'):
 if Region.wanted o (yielded f a.tmps)=true then Oper.wp P o a (w.alloc (.cells cs g)) K Q else i :=
 XT E s x d q (j.al _) r y (Ye w cs g m l) k p c h
theorem Sp.ne {g a :Nat} {t i :TypeId} {cs b :aG} (h:Sp w (BlkA g t cs::BlkA a i b ::L)):g≠a :=by
 obtain⟨S,_,c,T,d,f,_⟩:=h;intro e;exact(d a ((f.1 a).2 rfl)).2 ((c.1 a).2 e.symm)
end
theorem SpU.perm {w:O} {M M' :List Asn} (p:M.Perm M'):∀{U:Nat->Prop},SpU w U M->SpU w U M' :=by
 induction p with
 |nil=>exact fun h=>h
 |cons a _ ih=>exact fun h=>SpU.cons (fun _=>ih) h
 |swap a b l=>exact fun h=>SpU.swap h
 |trans _ _ h1 h2=>exact fun h=>h2 (h1 h)
def zz (M:List Asn):Asn where
 P S w:=SpU w S M/\∀b,S b->b<w.heap.size
 lt h:=h.2
 keep h ht hn:=⟨SpU.tch ht h.1 fun b a _=>hn b a,fun b a=>zX (h.2 b a) ht.size⟩
section
variable {w:O} {L M M' M1 M2:List Asn} {X:Asn}
theorem Sp.starNil (h:Sp w L):Sp w (zz []::L):=h.new (S:=fun _=>False) (zE _ _) ⟨trivial,fun _ h=>h.elim⟩ (fun _ h=>h.elim)
theorem Sp.starPerm (h:Sp w (zz M::L)) (p:M.Perm M'):Sp w (zz M' ::L):=h.turn fun _ a=>⟨SpU.perm p a.1,a.2⟩
theorem Sp.starIn (h:Sp w (X::zz M::L)):Sp w (zz (X::M)::L):=
 h.join fun S T c d e=>⟨⟨S,fun _=> .inl,c,d.1.mono fun b _ a=>⟨.inr a,fun f=>e b f a⟩⟩,fun b a=>a.elim (X.lt c b) (d.2 b)⟩
theorem Sp.starOut (h:Sp w (zz (X::M)::L)):Sp w (X::zz M::L):=
 h.split fun U ⟨⟨S,c,d,e⟩,f⟩=>⟨S,fun b=>U b/\¬S b,d,⟨e,fun b a=>f b a.1⟩,fun _ a=>a.2,fun b a=>a.elim (c b) And.left⟩
theorem Sp.starPush (h:Sp w (X::zz M::L)):Sp w (zz (M++ [X])::L):=h.starIn.starPerm (List.perm_append_comm (l₁:= [X]))
theorem Sp.starTake (h:Sp w (zz (M1++X::M2)::L)):Sp w (X::zz (M1++M2)::L):=(h.starPerm List.perm_middle).starOut
theorem Sp.starPut (h:Sp w (X::zz (M1++M2)::L)):Sp w (zz (M1++X::M2)::L):=h.starIn.starPerm List.perm_middle.symm
end
def Z1 {α β:Type} [Rep α] [Rep β] (cs:aF) (x:α) (ds:aF) (y:β):Asn where
 P S w:=(RepA cs x).P S w/\(RepA ds y).P S w
 lt h:=h.1.2
 keep h ht hn:=⟨(RepA cs x).keep h.1 ht hn,(RepA ds y).keep h.2 ht hn⟩
section
variable {α β:Type} [Rep α] [Rep β] {w:O} {L:List Asn}
theorem Sp.focus {A:aA} {n c k:Nat} {ls:List (List β)} {l:List β} (h:Sp w (DatA (.slice A n c) ls::L)) (j:ls[k]? =some l):
 ∃b off A' n' a,A=some ⟨b,off,none⟩/\w.cell? ⟨b,off+k,none⟩=some (.slice A' n' a)/\l.length=n' /\n' <=a /\a <=9223372036854775807/\Sp w (Z1 [.slice A n c] ls [.slice A' n' a] l::L):=by
 obtain⟨S,p,q,r⟩:=h;obtain⟨⟨u,y,v,e,f⟩,i⟩:=q;cases e;have t:=zN j;have g:k<n:=by rw [<-f.length];exact t
 obtain⟨b,off,x,rfl,m,_,s⟩:=f.at_ g
 have e:=m.o.symm.trans j;cases e;obtain⟨A',n',a,o,d⟩:=s.list;exact⟨b,off,A',n',a,rfl,o,d.length,d.cap.1,d.cap.2,S,p,⟨⟨⟨_,_,_,rfl,f⟩,i⟩,⟨⟨_,_,_,rfl,d⟩,i⟩⟩,r⟩
theorem Sp.unfocus {cs ds:aF} {x:α} {y:β} (h:Sp w (Z1 cs x ds y::L)):Sp w (RepA cs x::L):=h.turn fun _ a=>a.1
theorem Sp.dat2 {cs ds:aF} {x:α} {y:β} (h:Sp w L) (b:Z1 cs x ds y∈L):rep w (·<w.heap.size) ds y:=by
 obtain⟨S,a⟩:=h.get b;exact Rep.more a.2.1 a.2.2
theorem Sp.ls2 {cs:aF} {x:α} {A:aA} {n c:Nat} {l:List β} (h:Sp w L) (a:Z1 cs x [.slice A n c] l∈L):zL w (·<w.heap.size) A n c l:=by
 obtain⟨_,_,_,e,h⟩:=h.dat2 a;cases e;exact h
end
open Go
section
variable {P:Program} {ops:Array Oper} {Q:Exit->Act->O->Prop} {md:Region.Mode} {C:List (Nat×(O->Prop))}
def ZT (C:List (Nat×(O->Prop))) (l:Array Bool) (w:O):Prop:=∀p∈C,l.getD p.1 true=false->p.2 w
def Z4 (P:Program) (md:Region.Mode) (ops:Array Oper) (Q:Exit->Act->O->Prop) (C:List (Nat×(O->Prop))):Nat->Array Bool->Act->O->Prop
 |0,l,a,w=>Region.ready md ops l= []/\Q .normal a w
 |n+1,l,a,w=>(Region.ready md ops l= []->Q .normal a w)/\∀i∈Region.ready md ops l,wpOp P ops Q i (fun b w' =>ZT C (l.setIfInBounds i true) w' /\Z4 P md ops Q C n (l.setIfInBounds i true) b w') a w
theorem iP:∀(n:Nat) (l:Array Bool) (a:Act) (w:O),Z4 P md ops Q C n l a w->wpAny P md ops Q n l a w
 |0,_,_,_,h=>h
 |n+1,_,_,_,h=>⟨h.1,fun i d=>wpOp_mono (fun b w' c =>iP n _ b w' c.2) (h.2 i d)⟩
theorem Ue {i:Nat} {l:Array Bool} {w:O} (a:∀p∈C,p.1≠i):ZT C (l.setIfInBounds i true) w↔ZT C l w:=
 forall_congr' fun p=>forall_congr' fun b=>by rw [getD_set_ne true (Ne.symm (a p b))]
theorem V6 {i:Nat} {x:Oper} {v:V} {T:O->Prop} {G:Array Bool->Prop} (U:ops[i]? =some x) (s:∀(j:Nat) (o:Oper) cs b,ops[j]? =some o->o.op≠ .select cs b)
 (hQ:∀c a w,Q (.panic c) (a.put x.dst v) w->Q (.panic c) a w) (R:∀p∈C,p.1≠i)
 (hG:∀l j,G l->i∈Region.ready md ops l->j∈Region.ready md ops l->j≠i->G (l.setIfInBounds j true))
 (Z:∀l w,G l->ZT C l w->T w):
 ∀(n:Nat) (l:Array Bool) (a:Act) (w:O),
  (∀j y,ops[j]? =some y->j≠i->l.getD j true=false->(∀e∈y.after,Region.binds md e=true->e.on≠i)->x.apart ops y=true)->
  i∈Region.ready md ops l->G l->YieldsIf P ops T x v a->ZT C l w->
  Z4 P md ops Q C n (l.setIfInBounds i true) (a.put x.dst v) w->Z4 P md ops Q C (n+1) l a w:=by
 intro n
 induction n with
 |zero=>
  intro l a w _ r K L z H;refine⟨fun h=>(by rw [h]at r;cases r),fun j D=> ?_⟩
  by_cases d:j=i
  ·subst d;exact L.wpOp U (Z l w K z) ⟨(Ue R).2 z,H⟩
  ·have:=ready_mono D d;rw [H.1]at this;cases this
 |succ n ih=>
  intro l a w g r K L z H;refine⟨fun h=>(by rw [h]at r;cases r),fun j D=> ?_⟩
  by_cases d:j=i
  ·subst d;exact L.wpOp U (Z l w K z) ⟨(Ue R).2 z,H⟩
  ·have t:=H.2 j (ready_mono D d);obtain⟨q,y,u,B⟩:=mem_ready.1 D
   have F:∀e∈y.after,Region.binds md e=true->e.on≠i:=fun e he hb S=>by
    have t:=B e he hb;have Y:=(mem_ready.1 r).1;rw [S]at t;rcases zk i l.size with M |M
    ·simp [M]at Y t;rw [Y]at t;cases t
    ·simp [x9 M]at t
   have h2:=wpOp_putIf u (g j y u d q F) (fun cs b=>s i x cs b U) (fun cs b=>s j y cs b u) hQ L t
   have m :∀k J,ops[k]? =some J->k≠i->(l.setIfInBounds j true).getD k true=false->
    (∀e∈J.after,Region.binds md e=true->e.on≠i)->x.apart ops J=true:=fun k J hk W I X=>by
    refine g k J hk W ?_ X
    by_cases E:j=k
    ·subst E;exact q
    ·rw [getD_set_ne true E]at I;exact I
   refine wpOp_mono (fun a' w' N=> ?_) h2;have f:(l.setIfInBounds j true).setIfInBounds i true=(l.setIfInBounds i true).setIfInBounds j true:=Array.setIfInBounds_comm _ _ d;have A :ZT C (l.setIfInBounds j true) w' :=(Ue R).1 (by rw [f];exact N.2.1)
   exact⟨A,ih (l.setIfInBounds j true) a' w' m (ready_mono r (Ne.symm d)) (hG l j K r D d) N.1 A (by rw [f];exact N.2.2)⟩
theorem xz {i:Nat} {l:Array Bool} {w:O} (h:ZT C l w):ZT C (l.setIfInBounds i true) w:=fun p d a=>h p d (by
 by_cases c:i=p.1
 ·rw [c]at a;rcases zk p.1 l.size with b |b
  ·simp [Array.getD,b]at a
  ·rwa [Array.setIfInBounds_eq_of_size_le b]at a
 ·rwa [getD_set_ne true c]at a)
def U9 (md:Region.Mode) (ops:Array Oper) (C:List (Nat×(O->Prop))) (l:Array Bool) (i:Nat):Bool:=
 Region.noSelect ops && Region.free md ops l i && (Region.ready md ops l).contains i && C.all fun p=>p.1 !=i
theorem gV {l:Array Bool} {i:Nat} (h:U9 md ops C l i=true):Region.noSelect ops=true/\Region.free md ops l i=true/\i∈Region.ready md ops l/\∀p∈C,p.1≠i:=by
 unfold U9 at h;simp only [zM,List.all_eq_true,bne_iff_ne]at h;exact⟨h.1.1.1,h.1.1.2,by simpa using h.1.2,h.2⟩
theorem tG {i:Nat} {b:Oper} {v:V} {n:Nat} {l:Array Bool} {a:Act} {w:O} (e:ops[i]? =some b) (m:U9 md ops C l i=true)
 (hQ:∀c a w,Q (.panic c) (a.put b.dst v) w->Q (.panic c) a w) (o:Region.wanted b (yielded ops a.tmps)=true) (p:∀w,(execOp a.eval b).run P w= .ok (.value v) w) (d:ZT C l w)
 (h:ZT C (l.setIfInBounds i true) w->Z4 P md ops Q C n (l.setIfInBounds i true) (a.put b.dst v) w):Z4 P md ops Q C (n+1) l a w:=
 have⟨f,g,j,k⟩:=gV m
 V6 (T:=fun _=>True) (G:=fun _=>True) e (Region.noSelect_spec f) hQ k (fun _ _ _ _ _ _=>trivial) (fun _ _ _ _=>trivial) n l a w (Region.free_spec e g) j trivial (.inl ⟨o,fun w _=>p w⟩) d (h (xz d))
def fR (md:Region.Mode) (ops:Array Oper) (l:Array Bool) (i c:Nat):Bool:=(c !=i) && !l.getD c true && ((ops[c]?).map fun o=>o.after.any fun e=>Region.binds md e && e.on==i).getD false
theorem tF {i c:Nat} {g:Oper} {v:V} {T:O->Prop} {n:Nat} {l:Array Bool} {a:Act} {w:O} (t:ops[i]? =some g) (I:U9 md ops C l i=true)
 (m:fR md ops l i c=true) (J:(c,T)∈C)
 (hQ:∀c a w,Q (.panic c) (a.put g.dst v) w->Q (.panic c) a w) (L:Region.wanted g (yielded ops a.tmps)=true) (M:∀w,T w->(execOp a.eval g).run P w= .ok (.value v) w) (s:ZT C l w)
 (h:ZT C (l.setIfInBounds i true) w->Z4 P md ops Q C n (l.setIfInBounds i true) (a.put g.dst v) w):Z4 P md ops Q C (n+1) l a w:=by
 have⟨d,x,y,z⟩:=gV I;unfold fR at m;simp only [zM,bne_iff_ne,Bool.not_eq_true']at m;obtain⟨⟨D,p⟩,b⟩:=m;refine V6 (T:=T) (G:=fun l=>l.getD c true=false) t (Region.noSelect_spec d) hQ z (fun l j o K F H=> ?_) (fun l w o A=>A _ J o) n l a w (Region.free_spec t x) y p (.inl ⟨L,M⟩) s (h (xz s));rw [getD_set_ne true]
 ·exact o
 ·rintro rfl;obtain⟨u,N,q,f⟩:=mem_ready.1 F;rw [q]at b;simp only [yk,yq,Array.any_eq_true',zM,beq_iff_eq]at b;obtain⟨e,E,B,rfl⟩:=b;have d:=f e E B;have r:=(mem_ready.1 K).1;rcases zk e.on l.size with k |k
  ·simp [k]at r d;rw [r]at d;cases d
  ·simp [x9 k]at d
theorem vK {i n:Nat} {o:Oper} {l:Array Bool} {a:Act} {w:O} (f:Region.ready md ops l= [i]) (m:ops[i]? =some o)
 (h:∀b :Act->O->Prop,Shut (∀a w,ZT C (l.setIfInBounds i true) w->(ZT C (l.setIfInBounds i true) w->Z4 P md ops Q C n (l.setIfInBounds i true) a w)->b a w)->if Region.wanted o (yielded ops a.tmps)=true then Oper.wp P o a w b Q else b (a.put o.dst undef) w):
 Z4 P md ops Q C (n+1) l a w:=
 ⟨fun c=>(by rw [f]at c;cases c),fun j e=>by
  rw [f]at e;obtain rfl:=List.mem_singleton.1 e;exact wpOp_step m (fun b g=>h b (fun a w d k=>g a w ⟨d,k d⟩))⟩
theorem xW {n:Nat} {l:Array Bool} {a:Act} {w:O} (b:Region.ready md ops l= []) (h:Q .normal a w):Z4 P md ops Q C n l a w:=
 match n with
 |0=>⟨b,h⟩
 |_+1=>⟨fun _=>h,by rw [b];simp⟩
theorem xV {d:Nat} {a:Act} {w:O} (C:List (Nat×(O->Prop))) (c:P.follows .mixedOrders=true) (b:ZT C (Array.replicate ops.size false) w.drew)
 (h:ZT C (Array.replicate ops.size false) w.drew->Z4 P .any ops Q C ops.size (Array.replicate ops.size false) a w.drew):(Code.region d ops true).wp P Q a w:=
 wp_region_any c (iP _ _ _ _ (h b))
theorem yY {l:Array Bool} {w:O}:ZT [] l w:=fun _ h=>by cases h
theorem zg {c:Nat} {T:O->Prop} {l:Array Bool} {w:O} (h:T w) (d:ZT C l w):ZT ((c,T)::C) l w:=fun p a b=>by
 rcases yx.1 a with rfl|a
 ·exact h
 ·exact d p a b
theorem yN {l:Array Bool} {w:O} (h:(C.all fun p=>l.getD p.1 true)=true):ZT C l w:=fun p b a=>by
 rw [List.all_eq_true]at h;rw [h p b]at a;cases a
end
theorem YP {C:List (Nat×(O->Prop))} {c:Nat} {T:O->Prop} {l:Array Bool} {w:O} (h:l.getD c true=true) (d:ZT C l w):ZT ((c,T)::C) l w:=fun p b a=>by
 rcases yx.1 b with rfl|b
 ·rw [h]at a;cases a
 ·exact d p b a
section
variable {P:Program} {ops:Array Oper} {Q:Exit->Act->O->Prop} {md:Region.Mode} {C:List (Nat×(O->Prop))}
theorem gO (i:Nat) {n:Nat} {o:Oper} {l b :Array Bool} {a:Act} {w:O}
 (h:∀c :Act->O->Prop,Shut (∀a w,ZT C b w->(ZT C b w->Z4 P md ops Q C n b a w)->c a w)->if Region.wanted o (yielded ops a.tmps)=true then Oper.wp P o a w c Q else c (a.put o.dst undef) w) (f:Region.ready md ops l= [i]:=by kernel_rfl) (e:ops[i]? =some o:=by exact gi rfl) (d:l.setIfInBounds i true=b :=by (try simp only [sa,s0,s1]);rfl):Z4 P md ops Q C (n+1) l a w:=by
 subst d;exact vK f e h
theorem gR {d:Nat} {a:Act} {w:O} (C:List (Nat×(O->Prop))) (b:ZT C (Array.replicate ops.size false) w.drew) (h:ZT C (Array.replicate ops.size false) w.drew->Z4 P .any ops Q C ops.size (Array.replicate ops.size false) a w.drew) (c:P.follows .mixedOrders=true:=by kernel_rfl):(Code.region d ops true).wp P Q a w:=xV C c b h
theorem hA {l:Array Bool} {w:O} (h:(C.all fun p=>l.getD p.1 true)=true:=by kernel_rfl):ZT C l w:=yN h
theorem hB {c:Nat} {T:O->Prop} {l:Array Bool} {w:O} (h:T w):ZT [(c,T)] l w:=zg h yY
theorem gF (i:Nat) {b:Oper} {v:V} {n:Nat} {l d :Array Bool} {a e :Act} {w:O} (h:ZT C d w->Z4 P md ops Q C n d e w) (j:ops[i]? =some b:=by exact gi rfl) (k:U9 md ops C l i=true:=by kernel_rfl) (o:Region.wanted b (yielded ops a.tmps)=true:=by rfl) (p:∀w,(execOp a.eval b).run P w= .ok (.value v) w:=by intro w;go_simp;try (with_reducible rfl)) (m:l.setIfInBounds i true=d :=by (try simp only [sa,s0,s1]);rfl) (g:a.put b.dst v=e :=by (try simp only [Act.put,sa,s0,s1]);rfl) (hQ:∀c a w,Q (.panic c) (a.put b.dst v) w->Q (.panic c) a w:=by exact fun _ _ _ h=>h):ZT C l w->Z4 P md ops Q C (n+1) l a w:=by
 subst m g;exact fun f=>tG j k hQ o p f h
theorem gL (i c:Nat) {b:Oper} {v:V} {T:O->Prop} {n:Nat} {l d :Array Bool} {a e :Act} {w:O} (q:(c,T)∈C) (h:ZT C d w->Z4 P md ops Q C n d e w) (m:ops[i]? =some b:=by exact gi rfl) (o:U9 md ops C l i=true:=by kernel_rfl) (k:fR md ops l i c=true:=by kernel_rfl) (r:Region.wanted b (yielded ops a.tmps)=true:=by rfl) (s:∀w,T w->(execOp a.eval b).run P w= .ok (.value v) w:=by intro w g;(try dsimp only at g);(try go_split_ands);go_simp;try (with_reducible rfl)) (p:l.setIfInBounds i true=d :=by (try simp only [sa,s0,s1]);rfl) (j:a.put b.dst v=e :=by (try simp only [Act.put,sa,s0,s1]);rfl) (hQ:∀c a w,Q (.panic c) (a.put b.dst v) w->Q (.panic c) a w:=by exact fun _ _ _ h=>h):ZT C l w->Z4 P md ops Q C (n+1) l a w:=by
 subst p j;exact fun f=>tF m o k q hQ r s f h
end
theorem OG {w:O} {L:List Asn} {G:Nat} {t:TypeId} {b c d e f g:V} (h:Sp w L) (a:BlkA G t #[b,c,d,e,f,g]∈L):w.cell? ⟨G,0,none⟩=some b/\w.cell? ⟨G,1,none⟩=some c/\w.cell? ⟨G,2,none⟩=some d/\w.cell? ⟨G,3,none⟩=some e/\w.cell? ⟨G,4,none⟩=some f/\w.cell? ⟨G,5,none⟩=some g:=
 ⟨h.cell a 0,h.cell a 1,h.cell a 2,h.cell a 3,h.cell a 4,h.cell a 5⟩
structure PostD where
 doc:Int
 pos:aD
instance:Rep PostD where
 size:=2
 pos:=by decide
 rep w F cs x:=∃v0 v1,cs= [v0,v1]/\rep w F [v0] x.doc/\rep w F [v1] x.pos
 len:=by rintro _ _ _ _ ⟨_,_,rfl,_⟩;rfl
 keep:=by
  rintro _ _ _ _ _ _ ⟨v0,v1,rfl,h0,h1⟩ hc hF;exact⟨v0,v1,rfl,Rep.keep h0 hc hF,Rep.keep h1 hc hF⟩
 one:=by
  rintro _ _ _ _ u ⟨v0,v1,rfl,h0,h1⟩ hu;simp only [yx,xZ,or_false]at hu;rcases hu with rfl|rfl
  ·exact Rep.one h0 (by simp)
  ·exact Rep.one h1 (by simp)
theorem PostD.cells_of {w:O} {F:Nat->Prop} {cs:aF} {x:PostD} (h:rep w F cs x):∃a c b,cs= [.int .i64 x.doc,.slice a c b]/\zL w F a c b x.pos/\In64 x.doc:=by
 obtain⟨i,j,rfl,⟨d,f⟩,⟨a,c,b,e,g⟩⟩:=h;cases d;cases e;exact⟨a,c,b,rfl,g,f⟩
theorem PostD.of_cells {w:O} {F:Nat->Prop} {x:PostD} {a:aA} {c b:Nat} (d:zL w F a c b x.pos) (e:In64 x.doc):rep w F [.int .i64 x.doc,.slice a c b] x:=
 ⟨_,_,rfl,⟨rfl,e⟩,⟨_,_,_,rfl,d⟩⟩
theorem PostD.at_ {w:O} {F:Nat->Prop} {b off k:Nat} {x:PostD} (h:xp w F b off k x):∃a d c,w.cell? ⟨b,off+k*2,none⟩=some (.int .i64 x.doc)/\w.cell? ⟨b,off+k*2+1,none⟩=some (.slice a d c)/\zL w F a d c x.pos/\In64 x.doc:=by
 obtain⟨cs,h,e⟩:=h;obtain⟨a,d,c,rfl,g,f⟩:=PostD.cells_of h;exact⟨a,d,c,e 0 _ rfl,e 1 _ rfl,g,f⟩
def OK (a:aD) (k:Nat):Bool:=(List.range k).all fun j=>decide (a.getD j 0<=a.getD (j+1) 0)
theorem FX (a:aD) (k:Nat):OK a (k+1)=(OK a k && decide (a.getD k 0<=a.getD (k+1) 0)):=by
 simp [OK,List.range_succ,List.all_append]
def Q6 (a:aD):Bool:=OK a (a.length - 1)
def Yv (last:Int) (all:Nat) (p:PostD):Bool:=decide (last<p.doc) && decide (p.doc<16384) && decide (0<p.pos.length) && decide (all+p.pos.length<=1048576) && Q6 p.pos && decide (0<=p.pos.getD 0 0) && decide (p.pos.getD (p.pos.length - 1) 0<=1048576)
def xa:Int->Nat->List PostD->Bool
 |_,_, []=>true
 |last,all,p::l=>Yv last all p && xa p.doc (all+p.pos.length) l
def xk (l:List PostD):Bool:=xa (-1) 0 l
theorem sI {last:Int} {all k:Nat} {l:List PostD} {p:PostD} (h:l[k]? =some p):xa last all (l.drop k)=(Yv last all p && xa p.doc (all+p.pos.length) (l.drop (k+1))):=by
 obtain⟨a,rfl⟩:=List.getElem?_eq_some_iff.1 h;rw [za a];rfl
def Asn.Cl (B:Nat) (A:Asn):Prop:=∀{S w},A.P S w->∀b,S b->b<B\/∃o,w.heap[b]? =some o/\o.isCells=true
def Cls (B:Nat):List Asn->Prop
 | []=>True
 |A::L=>A.Cl B/\Cls B L
theorem RowA.cl (B:Nat) (e:TypeId) (size:Nat) (v:V) (n:Nat) (xs:aF):(RowA e size v n xs).Cl B:=by
 intro S w h b c;have a:=(h.1 b).1 c;rcases h.2.2 with⟨rfl,_⟩|⟨g,cap,cur,rfl,_,d,_⟩
 ·simp [Value.ownBlock]at a
 ·simp [Value.ownBlock]at a;subst a;exact .inr ⟨_,d,rfl⟩
theorem BlkA.cl (B g:Nat) (t:TypeId) (cs:aG):(BlkA g t cs).Cl B:=by
 intro S w h b a;obtain rfl:=(h.1 b).1 a;exact .inr ⟨_,h.2,rfl⟩
theorem OldA.cl {B a:Nat} {w0:O} (h:a<=B):(OldA a w0).Cl B:=by
 intro S w c b d;exact .inl (zX ((c.1 b).1 d) h)
theorem SpU.from {B:Nat} {W e :O} {a:Option Nat} (f:W.grownBy e a) (g:∀r,a=some r->B<=r/\∃o:Obj,W.heap[r]? =some o/\o.isCells=false):∀{L:List Asn} {U:Nat->Prop},Cls B L->SpU W U L->SpU e U L
 | [],_,_,_=>trivial
 |A::L,U,hc,⟨S,h1,h2,h3⟩=>by
  refine⟨S,h1,A.keep (S' :=fun b=>a=some b) h2 (Tch.grown f fun b d=>d) (fun b d i=> ?_),SpU.from f g hc.2 h3⟩;obtain⟨j,o,k,l⟩:=g b i;rcases hc.1 h2 b d with c|⟨m,c,h⟩
  ·exact absurd c (Nat.not_lt.2 j)
  ·rw [k]at c;cases c;rw [l]at h;cases h
theorem Sp.from {B:Nat} {W b :O} {a:Option Nat} {L:List Asn} (h:Sp W L) (d:W.grownBy b a) (e:∀r,a=some r->B<=r/\∃o:Obj,W.heap[r]? =some o/\o.isCells=false) (c:Cls B L):Sp b L:=SpU.from d e c h
def KpA (B:Nat) (W0:O):Asn where
 P S w:=(∀b,S b↔(B<=b/\∃o,W0.heap[b]? =some o/\o.isCells=false))/\W0.heap.size<=w.heap.size/\∀b,S b->w.heap[b]? =W0.heap[b]?
 lt h b a:=by
  obtain⟨_,o,c,_⟩:=(h.1 b).1 a;exact zX (Array.getElem?_eq_some_iff.1 c).1 h.2.1
 keep h ht hn:=⟨h.1,zY h.2.1 ht.size,fun b a=>by
  obtain⟨_,o,c,_⟩:=(h.1 b).1 a;exact(ht.block b (zX (Array.getElem?_eq_some_iff.1 c).1 h.2.1) (hn b a)).trans (h.2.2 b a)⟩
theorem SpU.avoid {B:Nat} {W:O}:∀{L:List Asn} {U:Nat->Prop},Cls B L->SpU W U L->SpU W (fun b=>U b/\¬(B<=b/\∃o,W.heap[b]? =some o/\o.isCells=false)) L
 | [],_,_,_=>trivial
 |A::L,U,hc,⟨S,h1,h2,h3⟩=>by
  refine⟨S,fun b c=>⟨h1 b c,fun⟨e,o,f,g⟩=> ?_⟩,h2,(SpU.avoid hc.2 h3).mono fun b _ u=>⟨⟨u.1.1,u.2⟩,u.1.2⟩⟩;rcases hc.1 h2 b c with a|⟨h,a,d⟩
  ·exact absurd a (Nat.not_lt.2 e)
  ·rw [f]at a;cases a;rw [g]at d;cases d
theorem Sp.kp {B:Nat} {W:O} {L:List Asn} (h:Sp W L) (a:Cls B L):Sp W (KpA B W::L):=
 ⟨_,fun _ _=>trivial,⟨fun _=>Iff.rfl,zC _,fun _ _=>rfl⟩,SpU.avoid a h⟩
theorem Sp.kf {B:Nat} {W a :O} {L:List Asn} (h:Sp a L) (g:KpA B W∈L):KeepsFrom B W a :=by
 obtain⟨S,c,d,e⟩:=h.get g;exact⟨d,fun k o hB b f=>(e k ((c k).2 ⟨hB,o,b,f⟩)).trans b⟩
theorem Sp.blkH {w:O} {L:List Asn} (h:Sp w L) (t:TypeId) (cs:aG) {H:Nat} (a:w.heap.size=H):Sp (w.alloc (.cells cs t)) (BlkA H t cs::L):=by
 subst a;exact h.blk t cs
theorem Boxed.same {W a :O} {B:Nat} {t b :TypeId} {v v' :V} (h:Boxed W B t v) (k:Boxed a B t v) (u:Boxed W B b v'):Boxed a B b v' :=by
 have e:=(show W.heap[B]? =_ from h).symm.trans u;exact(show a.heap[B]? =_ from k).trans e
section
variable {α:Type} [Inhabited α] {w:O} {L:List Asn} {e:TypeId} {n c g:Nat} {enc:α->V} {xs:List α}
theorem Sp.holds (h:Sp w L) (b:RowA e 1 (.slice (some ⟨g,0,none⟩) n c) n (xs.map enc)∈L):Sort.Holds enc w g 0 xs.toArray:=by
 intro j a;rw [zx];simp only [yP]at a
 have d:(xs.map enc)[j]? =some (enc xs.toArray[j]!):=by
  rw [zH,zB a,getElem!_pos _ j (by simpa using a)];rfl
 exact⟨(h.rowOf b).cells rfl j _ d,by
  rcases(h.rowOf b).2 with⟨hv,_⟩|⟨g',cap,cur,hv,_,hg,_⟩
  ·cases hv
  ·cases hv;simp [World.frozen?,hg]⟩
theorem fI (w:O) (k off:Nat) (d:Array α) (f:Array Obj) (b:Nat) (a:b<w.heap.size):(Sort.grow (Sort.putRow enc (Sort.ahead w k) g off d) f).heap[b]? =if g=b then(w.heap[b]?).map (Sort.onCells (Sort.putCells enc off d))else w.heap[b]? :=by
 unfold Sort.grow;rw [Array.getElem?_append_left (by simpa using a)];unfold Sort.putRow Sort.mapBlock Sort.ahead;simp only [Array.getElem?_modify]
theorem Tch.putR {S:Nat->Prop} (w:O) (f:S g) (k off:Nat) (d:Array α) (a:Array Obj):Tch S w (Sort.grow (Sort.putRow enc (Sort.ahead w k) g off d) a):=
 ⟨rfl,rfl,rfl,by simp [Sort.grow],fun b h i=>by rw [fI w k off d a b h,if_neg (fun e:g=b=>i (by rw [<-e];exact f))]⟩
theorem Sp.putR (h:Sp w (RowA e 1 (.slice (some ⟨g,0,none⟩) n c) n (xs.map enc)::L)) (a:List α) (p:a.length=n) (k:Nat) (f:Array Obj):
 Sp (Sort.grow (Sort.putRow enc (Sort.ahead w k) g 0 a.toArray) f) (RowA e 1 (.slice (some ⟨g,0,none⟩) n c) n (a.map enc)::L):=by
 refine h.upd fun S b=>⟨S,⟨b.1,?_⟩,Tch.putR w ((b.1 g).2 rfl) k 0 _ f,fun _ m=> .inl m⟩;obtain⟨u,l⟩:=b.2;refine⟨by simp [p],?_⟩;rcases l with⟨d,_⟩|⟨t,cap,cur,d,_,j,q,r,s,x⟩
 ·cases d
 ·cases d;refine .inr ⟨g,c,Sort.putCells enc 0 a.toArray cur,rfl,trivial,?_,q,r,by simpa [Sort.putCells]using s,?_⟩
  ·rw [fI w k 0 _ f g (Array.getElem?_eq_some_iff.1 j).1,if_pos rfl,j];rfl
  ·apply yX
   intro i;rw [yy,zH]
   by_cases v:i<n
   ·have o:i<cur.size:=(by omega);rw [if_pos (by omega),Array.getElem?_toList];unfold Sort.putCells;rw [Array.getElem?_mapIdx,Array.getElem?_eq_getElem o,zB (by omega)];simp only [yk,yP,zx,Nat.sub_zero,zJ,true_and];rw [if_pos (by omega),getElem!_pos _ i (by simp;omega)];rfl
   ·rw [if_neg (by omega),zh (by omega)];rfl
theorem Sp.cutRow {A:aA} {a r:aF} (h:Sp w (RowA e 1 (.slice A n c) n (a++r)::L)):Sp w (RowA e 1 (.slice A a.length c) a.length a::L):=by
 refine h.turn fun S i=>⟨fun b=>by rw [i.1 b];cases A<;>simp [Value.ownBlock],?_⟩
 obtain⟨k,l⟩:=i.2;simp only [zG]at k;refine⟨by omega,?_⟩;rcases l with⟨f,s⟩|⟨j,cap,cur,f,_,m,t,o,p,q⟩
 ·cases f;exact .inl ⟨by rw [show a.length=0 by omega],by omega⟩
 ·cases f;refine .inr ⟨j,c,cur,rfl,trivial,m,by omega,o,p,?_⟩;have d:=congrArg (List.take a.length) q;rw [List.take_take,List.take_left' rfl]at d;rw [Nat.min_eq_left (by omega)]at d;rw [yr];exact d
end
theorem gG {P:Program} {w:O} {L:List Asn} {e:TypeId} {size:Nat} {f:Array Oper} {rest:List Oper} {o:Oper} {a:Act} {Q:Exit->Act->O->Prop} {t:TypeId} {bytes:Nat} (E:Elt P t e size bytes) (l c:Operand) (p:o.guard=none) (q:o.op=Op.makeSlice t l c)
 (r:Sp w L) {m:Nat} (y:a.eval l= .int .i64 0) (u:a.eval c= .int .i64 (m:Int)) (G:bytes*m<=140737488355328) (s:m<=9223372036854775807)
 (h:∀w' A',Sp w' (RowA e size (.slice A' 0 m) 0 []::L)->wpList P f Q rest (a.put o.dst (.slice A' 0 m)) w'):wpList P f Q (o::rest) a w:=by
 obtain⟨C,B,i,z,v,D,b,j,F⟩:=E;exact wpList_make_own w p l c t q w.heap.size e i z size C v D b .i64 .i64 _ m y u rfl (by rw [j];omega) (by unfold maxLen;omega) (zC _) fun w' A d=>h w' _ (r.row (Yd A) ⟨d.os,d.tape,d.output,d.size,fun k x=>d.block k x (by simp)⟩)
def xP (l:aD):aD:=l.mergeSort fun x y=>decide (x<=y)
theorem U0 (l:aD):(xP l).length=l.length:=List.length_mergeSort l
theorem lH {l:aD} {x:Int}:x∈xP l↔x∈l:=List.mem_mergeSort
theorem wB (l:aD):xP (xP l)=xP l:=
 List.mergeSort_of_pairwise (List.pairwise_mergeSort (by intro a b c d f;simp at*;omega) (by intro a b;simp;omega) l)
open Go.RowKit Go.Shelf
def ObjA (b:Nat) (o:Obj):Asn where
 P S w:=(∀k,S k↔k=b)/\w.heap[b]? =some o
 lt h k hk:=by rw [(h.1 k).1 hk];exact(Array.getElem?_eq_some_iff.1 h.2).1
 keep h ht hn:=⟨h.1,(ht.block _ (Array.getElem?_eq_some_iff.1 h.2).1 (hn _ ((h.1 _).2 rfl))).trans h.2⟩
section
variable {w:O} {L:List Asn} {b:Nat} {o o' :Obj}
theorem Sp.perm {M:List Asn} (h:Sp w L) (p:L.Perm M):Sp w M:=SpU.perm p h
theorem Sp.obj (h:Sp w L) (a:ObjA b o∈L):w.heap[b]? =some o:=(h.get a).choose_spec.2
theorem Sp.putO (h:Sp w (ObjA b o::L)) (o' :Obj):Sp (w.putObj b o') (ObjA b o' ::L):=
 h.upd fun S a=>by
  have d:=(Array.getElem?_eq_some_iff.1 a.2).1;exact⟨S,⟨a.1,World.putObj_heap_same d⟩,⟨rfl,rfl,rfl,by simp,fun k _ f=>World.putObj_heap_other fun e=>f (by rw [e];exact(a.1 b).2 rfl)⟩,fun _ c=> .inl c⟩
theorem Sp.objNew (h:Sp w L) (o:Obj):Sp (w.alloc o) (ObjA w.heap.size o::L):=
 h.new (S:=fun k=>k=w.heap.size) ((zE _ _).alloc (zC _) _) ⟨fun _=>Iff.rfl,World.alloc_heap_new w o⟩ (fun k a=>by omega)
end
def ExA {ι:Type} (f:ι->Asn):Asn where
 P S w:=∃i,(f i).P S w
 lt h:=by obtain⟨i,h⟩:=h;exact(f i).lt h
 keep h ht hn:=by obtain⟨i,h⟩:=h;exact⟨i,(f i).keep h ht hn⟩
theorem Sp.exIn {ι:Type} {f:ι->Asn} {w:O} {L:List Asn} (i:ι) (h:Sp w (f i::L)):Sp w (ExA f::L):=h.turn fun _ a=>⟨i,a⟩
theorem Sp.exOut {ι:Type} {f:ι->Asn} {w:O} {L:List Asn} (h:Sp w (ExA f::L)):∃i,Sp w (f i::L):=by
 obtain⟨S,a,⟨i,c⟩,d⟩:=h;exact⟨i,S,a,c,d⟩
theorem Sp.star3 {A B C:Asn} {w:O} {L:List Asn} (h:Sp w (A::B::C::L)):Sp w (zz [A,B,C]::L):=by
 have a:Sp w (zz []::A::B::C::L):=h.starNil;exact((a.p3.starIn).p2.starIn).p1.starIn
theorem Sp.unstar3 {A B C:Asn} {w:O} {L:List Asn} (h:Sp w (zz [A,B,C]::L)):Sp w (A::B::C::L):=
 ((h.starOut.p1.starOut).p2.p2.starOut).d1.p2.p2
theorem V0 {α:Type _}:∀(l:List α) (k:Nat) (h:k<l.length),(l[k]::l.eraseIdx k).Perm l
 |x::l,0,_=>List.Perm.refl _
 |x::l,k+1,h=>by
  have:=V0 l k (by simpa using h);simp only [List.getElem_cons_succ,List.eraseIdx_cons_succ];exact(List.Perm.swap _ _ _).trans (List.Perm.cons _ this)
theorem Sp.starAt {M:List Asn} {w:O} {L:List Asn} {X:Asn} {k:Nat} (h:Sp w (zz M::L)) (a:M[k]? =some X):Sp w (X::zz (M.eraseIdx k)::L):=by
 obtain⟨c,rfl⟩:=List.getElem?_eq_some_iff.1 a;exact(h.starPerm (V0 M k c).symm).starOut
theorem Sp.starBack {M:List Asn} {w:O} {L:List Asn} {X:Asn} {k:Nat} (h:Sp w (X::zz (M.eraseIdx k)::L)) (a:M[k]? =some X):Sp w (zz M::L):=by
 obtain⟨c,rfl⟩:=List.getElem?_eq_some_iff.1 a;exact h.starIn.starPerm (V0 M k c)
theorem Vy {F:Fence} {n:Nat} {P:Program} {d:Func} {a:aG} {R:Ending->O->Prop} {rest:List Deferred} {L:List Asn} (f:∀w',Sp w' L->LeavesInM F n P d a R rest .returning w'):
 ∀(c:aE) {w:O},Sp w (zz (c.map fun D=>ObjA D (.deferred (some [])))::L)->LeavesInM F n P d a R (c.map (fun D=>{target:= .collected D,args:= #[]})++rest) .returning w
 | [],w,h=>f w h.tail
 |D::c,w,h=>by
  have e:=Sp.starOut (X:=ObjA D (.deferred (some []))) (M:=c.map fun D=>ObjA D (.deferred (some []))) h;refine⟨by simp,.inl ⟨D,_,rfl,run_takeDeferred (e.obj (.head _)),?_⟩⟩;exact Vy f c (e.putO (.deferred none)).tail
variable {F:Fence} {n:Nat} {P:Program}
theorem Wz {g:Operand} {ps:Array Tmp} {assign body:Code} {Q:Exit->Act->O->Prop} {a:Act} {w:O} {L L' :List Asn}
 (J:F.round=none) (h1:1<=n) {gf:Nat} {lb:aG} (hg:a.eval g= .func (.func gf) #[] lb) (B:F.fn gf) (eg:∀args w,(callFunc gf args).run P w= .ok (.enter gf args) w)
 (HS:Sp w L) (R:aG->List Asn->List Asn->Prop)
 (j:∀(l:Nat) (vals:aG) (X Y:List Asn),R vals X Y->vals.size=ps.size/\∃a₁:Act,
  (∀(W:O) (K:Act->O->Prop),K a₁ W->assign.wpIn (F.inRound l) (n - 1 - 1) P (Exit.then K (fun _ _ _=>False)) {tmps:=(ps.zip vals).foldl (fun t (p,v)=>t.setIfInBounds p v) a.tmps,defers:= []} W)/\
  ∀(T:List Asn) (W:O),Sp W (X++T)->body.wpIn (F.inRound l) (n - 1 - 1) P (fun e _ m =>e= .normal/\Sp m (Y++T)) a₁ W)
 (s:∀(l:Nat) (T0:List Asn),(∀(vals:aG) (X Y T:List Asn) (W:O),R vals X Y->Sp W (X++(T++T0))->YieldAt F (n - 1 - 1) P l vals W fun e m =>e= .returned (.bool true)/\Sp m (Y++(T++T0)))->
  ∀W,Sp W (L++T0)->CallsIn F (n - 1) P gf (#[.func (.yield l) #[] #[]]++lb) W fun e m =>(∃v,e= .returned v)/\Sp m (L' ++T0))
 (k:∀(D:Nat) (W:O),Sp W (L' ++ [ObjA D (.deferred (some []))])->Q .normal {a with defers:={target:= .collected D,args:= #[]}::a.defers} W):
 (Code.rangeFunc g ps assign body).wpIn F n P Q a w:=by
 refine wpIn_rangeFunc fun fn C=> ?_;rw [J];obtain⟨c,d⟩:∃c:LoopState->Loop,c=fun st=>{state:=st,pending:=none,fn,tmps:=a.tmps,params:=ps,assign,body,defers:=w.heap.size}:=⟨_,rfl⟩;obtain⟨T0,f⟩:=eX ( [ObjA (w.heap.size+1) (.loop (c .ready)),ObjA w.heap.size (.deferred (some []))]);obtain⟨y,q⟩:=eX ((w.alloc (.deferred (some []))).alloc (.loop (c .ready)))
 have z:Sp y (L++T0):=by
  have h:=(HS.objNew (.deferred (some []))).objNew (.loop (c .ready));rw [World.size_alloc]at h;rw [<-f,<-q];exact h.perm (List.perm_append_comm (l₁:= [_,_]))
 refine⟨w.heap.size+1, [{target:= .collected w.heap.size,args:= #[]}],y,{target:= .fn (.func gf) lb,args:= #[.func (.yield (w.heap.size+1)) #[] #[]]},y,gf,
  #[.func (.yield (w.heap.size+1)) #[] #[]]++lb,y,?_,?_,?_,?_,fun _=>h1,?_⟩
 ·rw [<-q,d];exact run_enterLoop_outer _ _ _ _ _
 ·simp only [resolve,hg];simp [go_sem]
 ·intro f' r;simp [Target.leads]at r;subst r;exact B
 ·simp [invoke,go_sem,eg]
 ·refine(s (w.heap.size+1) T0 ?_ _ z).mono ?_
  ·intro vals X Y T W H N;obtain⟨M,a₁,i,hb⟩:=j (w.heap.size+1) vals X Y H;have U:W.heap[w.heap.size+1]? =some (.loop (c .ready)):=N.obj (List.mem_append_right _ (List.mem_append_right _ (by rw [<-f];exact .head _)));have Z:=run_yield (P:=P) (args:=vals) U (by rw [d];exact M);rw [d]at Z;refine⟨fn,_,assign,body,Z,roundIn_of_wpIn C (i W _ ?_)⟩
   refine⟨_,run_beginRound U (by rw [d]),?_⟩
   have I:(X++(T++T0)).Perm (ObjA (w.heap.size+1) (.loop (c .ready))::(X++(T++ [ObjA w.heap.size (.deferred (some []))]))):=by
    rw [<-f,<-zO,<-zO];exact List.perm_middle
   have u:=(N.perm I).putO (.loop (c .busy))
   have hq:(ObjA (w.heap.size+1) (.loop (c .busy))::(X++(T++ [ObjA w.heap.size (.deferred (some []))]))).Perm (X++(T++ [ObjA (w.heap.size+1) (.loop (c .busy)),ObjA w.heap.size (.deferred (some []))])):=by
    rw [<-zO,<-zO];exact List.perm_middle.symm
   have e1:(W.putObj (w.heap.size+1) (.loop {(c .ready)with state:= .busy}))=W.putObj (w.heap.size+1) (.loop (c .busy)):=(by rw [d]);rw [e1];refine wpIn_mono (hb _ _ (u.perm hq)) ?_;rintro e a3 A ⟨rfl,x⟩;have G:A.heap[w.heap.size+1]? =some (.loop (c .busy)):=x.obj (List.mem_append_right _ (List.mem_append_right _ (.head _)));refine⟨_,_,run_endRound (P:=P) none G,rfl,?_⟩
   have hr:(Y++(T++ [ObjA (w.heap.size+1) (.loop (c .busy)),ObjA w.heap.size (.deferred (some []))])).Perm (ObjA (w.heap.size+1) (.loop (c .busy))::(Y++(T++ [ObjA w.heap.size (.deferred (some []))]))):=by
    rw [<-zO,<-zO];exact List.perm_middle
   have H4:=(x.perm hr).putO (.loop (c .ready));have e2:(A.putObj (w.heap.size+1) (.loop {(c .busy)with state:=if (none:Option Code).isNone then .ready else .done,pending:=none}))=A.putObj (w.heap.size+1) (.loop (c .ready)):=(by rw [d];rfl);rw [e2];refine H4.perm ?_;rw [<-f,<-zO,<-zO];exact List.perm_middle.symm
  ·rintro e W2 ⟨⟨v,rfl⟩,u⟩;have E:W2.heap[w.heap.size+1]? =some (.loop (c .ready)):=u.obj (List.mem_append_right _ (by rw [<-f];exact .head _));have S:=run_endLoop (P:=P) E (by rw [d];simp)
   have I:(L' ++T0).Perm (ObjA (w.heap.size+1) (.loop (c .ready))::(L' ++ [ObjA w.heap.size (.deferred (some []))])):=by
    rw [<-f];exact List.perm_middle
   have x:=((u.perm I).putO (.loop {(c .ready)with state:= .exhausted})).tail;exact⟨none,_,by rw [d]at S⊢;exact S,k _ _ x⟩
end Go.Proofs.YtjbhbfaeielbiaaGreatDoor

import Derived.Deep.RegionHeld
import Derived.RangeFuncCalls
import Derived.Deep.DrawnRows
import Derived.Deep.AppendLies
import Derived.Test.YtjbhbfaeielbiaaGreatDoorProg
import Derived.WalkSpells
import Derived.WalkLawsBesides
import Derived.Lib.Hide
import Derived.Maps.OwnIn
import Derived.Deep.AppendSrc
set_option maxRecDepth 100000
set_option maxHeartbeats 8000000
set_option linter.unusedVariables false
set_option linter.unusedSimpArgs false
namespace Go.Proofs.YtjbhbfaeielbiaaGreatDoor
open Go Go.RowKit
theorem _root_.Go.RowKit.Hid.o {p:Prop} (h:RowKit.Hid p):p:=h.out
theorem _root_.Go.Shut.o {p:Prop} (h:Shut p):p:=h.out
abbrev x7:=@List.flatMap_nil
abbrev x9:=@Array.getElem?_eq_none
abbrev xB:=@List.set_append_right
abbrev xE:=@List.foldl_append
abbrev xH:=@Array.replicate_zero
abbrev xI:=@Array.replicate_succ
abbrev xK:=@Nat.add_mul
abbrev xL:=@List.take_succ_cons
abbrev xM:=@List.append_toArray
abbrev xO:=@List.getElem?_set
abbrev xU:=@Nat.two_pow_pos
abbrev xZ:=@List.not_mem_nil
abbrev xe:=@List.mem_or_eq_of_mem_set
abbrev xf:=@List.push_toArray
abbrev xg:=@List.length_range
abbrev yA:=@World.cell?_alloc_lt
abbrev yB:=@Nat.pow_le_pow_right
abbrev yD:=@List.map_map
abbrev yE:=@BitVec.ofInt_natCast
abbrev yF:=@List.getElem?_toArray
abbrev yG:=@Option.some.inj
abbrev yH:=@List.map_cons
abbrev yI:=@List.cons_append
abbrev yJ:=@BitVec.toNat_ofNat
abbrev yM:=@List.flatten_cons
abbrev yO:=@List.length_nil
abbrev yP:=@List.size_toArray
abbrev yQ:=@ByteArray.size_extract
abbrev yS:=@List.flatMap_append
abbrev yU:=@CallsIn.inRound
abbrev yV:=@Array.getElem?_setIfInBounds
abbrev yX:=@List.ext_getElem?
abbrev yf:=@List.flatten_append
abbrev yh:=@Nat.sub_self
abbrev yj:=@Nat.mul_le_mul_right
abbrev yk:=@Option.map_some
abbrev yo:=@List.filterMap_cons
abbrev yq:=@Option.getD_some
abbrev yr:=@Nat.mul_one
abbrev yt:=@Nat.add_zero
abbrev yu:=@List.mem_of_mem_take
abbrev yw:=@List.set_cons_zero
abbrev yx:=@List.mem_cons
abbrev yy:=@List.getElem?_take
abbrev z6:=@List.length_cons
abbrev z7:=@Array.getElem?_setIfInBounds_ne
abbrev z8:=@List.getElem?_of_mem
abbrev z9:=@List.getElem?_append_left
abbrev zA:=@Lib.hid
abbrev zB:=@List.getElem?_eq_getElem
abbrev zC:=@Nat.le_refl
abbrev zD:=@List.mem_of_getElem?
abbrev zE:=@Below.refl
abbrev zF:=@List.take_of_length_le
abbrev zG:=@List.length_append
abbrev zH:=@List.getElem?_map
abbrev zI:=@List.take_add_one
abbrev zJ:=@Nat.zero_le
abbrev zK:=@List.length_map
abbrev zM:=@Bool.and_eq_true
abbrev zO:=@List.append_assoc
abbrev zQ:=@List.drop_eq_nil_of_le
abbrev zR:=@List.getElem?_append_right
abbrev zS:=@List.eq_nil_of_length_eq_zero
abbrev zT:=@IntKind.wrap_i64
abbrev zU:=@Go.wp_at_zero
abbrev zV:=@Go.wp_at_succ
abbrev zW:=@IntKind.wrap_u64
abbrev zX:=@Nat.lt_of_lt_of_le
abbrev zY:=@Nat.le_trans
abbrev zZ:=@List.nil_append
abbrev za:=@List.drop_eq_getElem_cons
abbrev zd:=@Go.below_drewN
abbrev ze:=@List.length_drop
abbrev zf:=@List.getElem?_cons_zero
abbrev zh:=@List.getElem?_eq_none
abbrev zi:=@Nat.eq_zero_or_pos
abbrev zj:=@List.getElem?_cons_succ
abbrev zk:=@Nat.lt_or_ge
abbrev zm:=@List.getD_eq_getElem?_getD
abbrev zo:=@List.append_nil
abbrev zp:=@List.flatMap_cons
abbrev zq:=@List.getElem?_range
abbrev zr:=@List.length_take
abbrev zu:=@List.take_append_drop
abbrev zw:=@List.map_append
abbrev zx:=@Nat.zero_add
abbrev zy:=@Nat.mod_eq_of_lt
abbrev O:=World
abbrev V:=Value
abbrev aA:=Option Addr
abbrev aB:=ByteArray
abbrev aC:=List UInt8
abbrev aD:=List Int
abbrev aE:=List Nat
abbrev aF:=List V
abbrev aG:=Array V
theorem eX {α:Sort _} (a:α):∃b,a=b:=⟨a,rfl⟩
theorem gi {α:Type} {l:List α} {i:Nat} {x:α} (h:l[i]? =some x):l.toArray[i]? =some x:=by simpa using h
theorem sa {α:Type} (l:List α) (i:Nat) (a:α):l.toArray.setIfInBounds i a=(l.set i a).toArray:=List.setIfInBounds_toArray l i a
theorem s0 {α:Type} (x:α) (l:List α) (a:α):(x::l).set 0 a=a::l:=yw
theorem s1 {α:Type} (x:α) (l:List α) (i:Nat) (a:α):(x::l).set (i+1) a=x::l.set i a:=List.set_cons_succ
section
variable {P:Program} {ops:Array Oper} {Q:Exit->Act->World->Prop} {S:World->Prop} {md:Region.Mode}
theorem hF (i:Nat) {oi:Oper} {v:Value} {n:Nat} {l l' :Array Bool} {a a' :Act} {w:World} (h:wpAnyH P md ops Q S n l' a' w) (hi:ops[i]? =some oi:=by exact gi rfl) (hs:Region.noSelect ops=true:=by kernel_rfl) (hf:Region.free md ops l i=true:=by kernel_rfl) (hr:(Region.ready md ops l).contains i=true:=by kernel_rfl) (hw:Region.wanted oi (yielded ops a.tmps)=true:=by rfl) (hy:∀w,S w->(execOp a.eval oi).run P w= .ok (.value v) w:=by intro w hT;(try dsimp only at hT);(try go_split_ands);go_simp;try (with_reducible rfl)) (hl:l.setIfInBounds i true=l' :=by (try simp only [sa,s0,s1]);rfl) (ha:a.put oi.dst v=a' :=by (try simp only [Act.put,sa,s0,s1]);rfl) (hQ:∀c a w,Q (.panic c) (a.put oi.dst v) w->Q (.panic c) a w:=by exact fun _ _ _ h=>h) (hS:S w:=by assumption):wpAnyH P md ops Q S (n+1) l a w:=by
 subst hl ha;exact wpAnyH_take hi hs hf hr hQ (.inl ⟨hw,hy⟩) hS h
end
theorem mF {P:Program} (fn:Fn) (first cap:Array Value) (w:World):(Instr.makeFunc fn first cap).run P w= .ok (.func fn first cap) w:=rfl
theorem eN {P:Program} {t e:TypeId} (h:P.underlying t=some (.slice e)) (w:World) (a:Option Addr) (n c n' c' :Nat):(binOp .eql t (.slice a n c) (.slice none n' c')).run P w= .ok (.bool a.isNone) w:=Lib.run_eql_slice_nil w _ _ a n c n' c' h
section
variable {F:Fence} {k:Nat} {P:Program} {ops:Array Oper} {Q:Exit->Act->World->Prop} {md:Region.Mode}
theorem iF (i:Nat) (v:Value) {oi:Oper} {n:Nat} {l:Array Bool} {a:Act} {w:World} (h:wpAnyIn F k P md ops Q n (l.setIfInBounds i true) (a.put oi.dst v) w) (hi:ops[i]? =some oi:=by rfl) (hro:F.round=none:=by rfl) (hs:Region.noSelect ops=true:=by kernel_rfl) (hf:Region.free md ops l i=true:=by kernel_rfl) (hr:(Region.ready md ops l).contains i=true:=by kernel_rfl) (hw:Region.wanted oi (yielded ops a.tmps)=true:=by rfl) (hy:∀w,(execOp a.eval oi).run P w= .ok (.value v) w:=by intro w;go_simp) (hQ:∀c a w,Q (.panic c) (a.put oi.dst v) w->Q (.panic c) a w:=by exact fun _ _ _ h=>h) (hz:∀w,oi.about P w a.eval=none:=by exact fun _=>rfl):wpAnyIn F k P md ops Q (n+1) l a w:=
 wpAnyIn_take hro hi hs hf hr hQ ⟨.inl ⟨hw,hy⟩,hz⟩ h
end
open Go.RowKit
theorem tB (a:Addr) (n:Nat):(a.add n).block=a.block:=by unfold Addr.add;split<;>rfl
def xA (w:O) (B size:Nat) (A:aA) (n:Nat) (xs:aF):Prop:=
 xs.length=n*size/\(0<n->∃a,A=some a/\a.block<B/\∀j u,xs[j]? =some u->w.cell? (a.add j)=some u)
section
variable {w w' :O} {B B' size n:Nat} {A:aA} {xs:aF}
theorem xA.at_ {k:Nat} (h:xA w B 1 A n xs) (f:k<n):∃a u,A=some a/\a.block<B/\xs[k]? =some u/\w.cell? (a.add k)=some u:=by
 obtain⟨a,e,c,d⟩:=h.2 (by omega);have b:k<xs.length:=by have:=h.1;omega
 exact⟨a,xs[k],e,c,zB b,d k _ (zB b)⟩
theorem xA.keep (h:xA w B size A n xs) (d:∀p:Addr,p.block<B->w'.cell? p=w.cell? p):xA w' B size A n xs:=
 ⟨h.1,fun f=>by
  obtain⟨b,e,a,c⟩:=h.2 f;exact⟨b,e,a,fun j u i=>(d _ (by rw [tB];exact a)).trans (c j u i)⟩⟩
theorem xA.alloc (h:xA w B size A n xs) (hB:B<=w.heap.size) (o:Obj):xA (w.alloc o) B size A n xs:=h.keep fun p a=>yA w o p (by omega)
theorem xA.of_own {base:Nat} {e:TypeId} {c:Nat} (h:w.ownsRow base e size (.slice A n c) n xs):xA w w.heap.size size A n xs:=by
 refine⟨h.1,fun b=> ?_⟩;obtain⟨g,cap,d,_,a⟩:=h.form b;have hA:A=some ⟨g,0,none⟩:=by injection d
 subst hA;exact⟨_,rfl,a,h.cells (g:=g) rfl⟩
end
def Blk (w:O) (g:Nat) (t:TypeId) (cs:aG):Prop:=w.heap[g]? =some (.cells cs t (0,0))
section
variable {w w' :O} {g:Nat} {t:TypeId} {cs:aG}
theorem Blk.lt (h:Blk w g t cs):g<w.heap.size:=by
 rcases zk g w.heap.size with b|a
 ·exact b
 ·unfold Blk at h;rw [x9 a]at h;cases h
theorem Blk.cell (h:Blk w g t cs) (i:Nat):w.cell? ⟨g,i,none⟩=cs[i]? :=cell_of_row w g i cs t (0,0) h
theorem Blk.frozen (h:Blk w g t cs) (i:Nat):w.frozen? ⟨g,i,none⟩=false:=by
 unfold Blk at h;simp [World.frozen?,h]
theorem Blk.new (w:O) (t:TypeId) (cs:aG):Blk (w.alloc (.cells cs t)) w.heap.size t cs:=heap_alloc_new w _
theorem Blk.drew (h:Blk w g t cs):Blk w.drew g t cs:=h
theorem Blk.alloc (h:Blk w g t cs) (o:Obj):Blk (w.alloc o) g t cs:=(Below.heap_alloc w o g h.lt).trans h
theorem Blk.set_ (h:Blk w g t cs) (i:Nat) (u:V):Blk (w.setCell ⟨g,i,none⟩ u) g t (cs.setIfInBounds i u):=by
 unfold Blk at h⊢;simp [World.setCell,Array.getElem?_modify,h]
theorem Blk.below {B:Nat} (h:Blk w g t cs) (a:Below B w w') (b:g<B):Blk w' g t cs:=(a.block g b).trans h
theorem Blk.grown {a:Option Nat} (h:Blk w g t cs) (b:w.grownBy w' a) (c:some g≠a):Blk w' g t cs:=(b.block g h.lt c).trans h
theorem Blk.ne_ {d :Nat} {e :TypeId} {b :aG} (h:Blk w g t cs) (a :Blk w d e b) (c:t≠e):g≠d :=by
 rintro rfl;unfold Blk at h a;rw [h]at a
 injection a with a
 injection a with _ ht
 exact c ht
end
section
variable {P:Program} (w:O)
theorem Vl (base:Nat) (t ty e:TypeId) (i:TypeInfo) (size:Nat) (f:P.underlying t=some (.slice e)) (d:P.info? e=some i)
 (v:V) (n:Nat) (xs:aF) (a:w.ownsRow base e size v n xs) (c:Nat):(Builtin.append_ #[t,t] ty #[v,.slice none 0 c]).run P w= .ok v w:=by
 rcases a.2 with⟨rfl,rfl⟩|⟨g,cap,cur,rfl,_,_,b,_⟩
 ·simp [Builtin.append_,run_underlying f,sizeOf,typeInfo,d,Builtin.lenOf,Builtin.firstCells]
 ·simp [Builtin.append_,run_underlying f,sizeOf,typeInfo,d,Builtin.lenOf,Builtin.firstCells,b,storeCells]
theorem rC (base:Nat) (t ty e:TypeId) (i:TypeInfo) (z:V) (size bytes:Nat) (E:P.underlying t=some (.slice e)) (D:P.info? e=some i) (N:i.zero=some z)
 (l:i.size=size) (s:i.bytes=bytes) (C:z.cells.size=size) (y:0<size)
 (v:V) (n:Nat) (xs:aF) (a:w.ownsRow base e size v n xs)
 (B:Nat) (A:aA) (m c:Nat) (news:aF) (o:xA w B size A m news) (H:∀u∈news,u.oneCell' =true)
 (r:n+m<=maxLen) (b:(n+m)*bytes<=140737488355328) (k:base<=w.heap.size):
 ∃v' w',(Builtin.append_ #[t,t] ty #[v,.slice A m c]).run P w= .ok v' w' /\w'.ownsRow base e size v' (n+m) (xs++news)/\w.grownBy w' v.ownBlock/\
  (v'.ownBlock=v.ownBlock\/v'.ownBlock=some w.heap.size):=by
 rcases A with _|q
 ·have M:m=0:=by
   rcases zi m with f|f
   ·exact f
   ·obtain⟨q,h,_⟩:=o.2 f;cases h
  subst M;have x:news= []:=zS (by simpa using o.1);subst x;exact⟨v,w,Vl w base t ty e i size E D v n xs a c,by simpa using a,World.grownBy.refl w _,.inl rfl⟩
 ·have d:∀j u,news[j]? =some u->w.cell? (q.add j)=some u:=by
   intro j u F;rcases zi m with f|f
   ·subst f;have x:news= []:=zS (by simpa using o.1);subst x;simp at F
   ·obtain⟨G,h,_,L⟩:=o.2 f
    injection h with h
    subst h;exact L j u F
  obtain⟨v',w',p,I,J,_,K⟩:=run_append_own_at (P:=P) w base t ty e i z size bytes E D N l s C y v n xs a q m c news o.1 d H r b k;exact⟨v',w',p,I,J,K⟩
theorem Wx {o:Oper} {a:Act} {K:Act->O->Prop} {Q:Exit->Act->O->Prop} (s x:Operand) (t:TypeId)
 (G:o.op= .call {callee:= .builtin .append,args:= #[s,x],argTypes:= #[t,t]})
 (base:Nat) (e:TypeId) (i:TypeInfo) (z:V) (size bytes:Nat) (J:P.underlying t=some (.slice e)) (F:P.info? e=some i) (M:i.zero=some z)
 (f:i.size=size) (p:i.bytes=bytes) (r:z.cells.size=size) (q:0<size)
 (v:V) (n:Nat) (xs:aF) (I:a.eval s=v) (j:w.ownsRow base e size v n xs)
 (B:Nat) (A:aA) (m c:Nat) (news:aF) (L:a.eval x= .slice A m c) (H:xA w B size A m news) (y:∀u∈news,u.oneCell' =true)
 (l:n+m<=maxLen) (b:(n+m)*bytes<=140737488355328) (d:base<=w.heap.size)
 (h:∀v' w',w'.ownsRow base e size v' (n+m) (xs++news)->w.grownBy w' v.ownBlock->(v'.ownBlock=v.ownBlock\/v'.ownBlock=some w.heap.size)->K (a.put o.dst v') w'):o.wp P a w K Q:=by
 obtain⟨v',w',k,C,D,E⟩:=rC (P:=P) w base t o.type e i z size bytes J F M f p r q v n xs j B A m c news H y l b d;unfold Oper.wp execOp;simp only [G,resolve,invoke,builtin,Sem.run_bind,Sem.run_pure,Result.andThen_ok,List.map_toArray,yH,List.map_nil,I,L,k];exact h v' w' C D E
theorem Xj {k:Array Oper} {rest:List Oper} {o:Oper} {a:Act} {Q:Exit->Act->O->Prop} (q:o.guard=none) (s x:Operand) (t:TypeId)
 (I:o.op= .call {callee:= .builtin .append,args:= #[s,x],argTypes:= #[t,t]})
 (base:Nat) (e:TypeId) (i:TypeInfo) (z:V) (size bytes:Nat) (L:P.underlying t=some (.slice e)) (H:P.info? e=some i) (N:i.zero=some z)
 (f:i.size=size) (p:i.bytes=bytes) (y:z.cells.size=size) (r:0<size)
 (v:V) (n:Nat) (xs:aF) (K:a.eval s=v) (j:w.ownsRow base e size v n xs)
 (B:Nat) (A:aA) (m c:Nat) (news:aF) (M:a.eval x= .slice A m c) (J:xA w B size A m news) (C:∀u∈news,u.oneCell' =true)
 (l:n+m<=maxLen) (b:(n+m)*bytes<=140737488355328) (d:base<=w.heap.size)
 (h:∀v' w',w'.ownsRow base e size v' (n+m) (xs++news)->w.grownBy w' v.ownBlock->(v'.ownBlock=v.ownBlock\/v'.ownBlock=some w.heap.size)->wpList P k Q rest (a.put o.dst v') w'):wpList P k Q (o::rest) a w:=
 wpList_plain q fun _ G=>Wx w s x t I base e i z size bytes L H N f p y r v n xs K j B A m c news M J C l b d fun v' w' D E F=>G _ _ (h v' w' D E F)
theorem Qw {k:Array Oper} {o:Oper} {a:Act} {K:Act->O->Prop} {Q:Exit->Act->O->Prop} {E:Prop} (q:o.guard=none) (s x:Operand) (t:TypeId)
 (F:o.op= .call {callee:= .builtin .append,args:= #[s,x],argTypes:= #[t,t]})
 (base:Nat) (e:TypeId) (i:TypeInfo) (z:V) (size bytes:Nat) (I:P.underlying t=some (.slice e)) (D:P.info? e=some i) (M:i.zero=some z)
 (f:i.size=size) (p:i.bytes=bytes) (y:z.cells.size=size) (r:0<size)
 (v:V) (n:Nat) (xs:aF) (H:a.eval s=v) (j:w.ownsRow base e size v n xs)
 (B:Nat) (A:aA) (m c:Nat) (news:aF) (L:a.eval x= .slice A m c) (G:xA w B size A m news) (C:∀u∈news,u.oneCell' =true)
 (l:n+m<=maxLen) (b:(n+m)*bytes<=140737488355328) (d:base<=w.heap.size)
 (h:∀v' w',w'.ownsRow base e size v' (n+m) (xs++news)->w.grownBy w' v.ownBlock->(v'.ownBlock=v.ownBlock\/v'.ownBlock=some w.heap.size)->K (a.put o.dst v') w'):
 if Region.wanted o (yielded k a.tmps)=true then Oper.wp P o a w K Q else E:=by
 have J:Region.wanted o (yielded k a.tmps)=true:=by simp [Region.wanted,q]
 rw [if_pos J];exact Wx w s x t F base e i z size bytes I D M f p y r v n xs H j B A m c news L G C l b d h
end
theorem kZ (w:O) (cs:aG) (t:TypeId) (n size:Nat) (h:cs.size=n*size):
 xA (w.alloc (.cells cs t)) (w.heap.size+1) size (some ⟨w.heap.size,0,none⟩) n cs.toList:=by
 refine⟨by simpa using h,fun _=>⟨_,rfl,by simp,fun j u b=> ?_⟩⟩;have a:Blk (w.alloc (.cells cs t)) w.heap.size t cs:=Blk.new w t cs;have:=a.cell j;rw [show(⟨w.heap.size,0,none⟩:Addr).add j=⟨w.heap.size,j,none⟩ by unfold Addr.add;split<;>simp_all]
 rw [this]
 simpa using b
theorem Uu {base:Nat} {w c d:O} {v v' :V} (h:Below base w c) (f:base<=c.heap.size) (j:v.ownBlock=none\/∃k,v.ownBlock=some k/\base<=k) (i:c.grownBy d v.ownBlock):Below base w d:=
 h.grown i f (fun k a=>by
  rcases j with e|⟨l,e,b⟩
  ·rw [e]at a;cases a
  ·rw [e]at a;cases a;exact b)
theorem IX {w:O} {base:Nat} {e:TypeId} {size n:Nat} {v:V} {xs:aF} (h:w.ownsRow base e size v n xs):v.ownBlock=none\/∃k,v.ownBlock=some k/\base<=k:=by
 rcases hv:v.ownBlock with _|k
 ·exact .inl rfl
 ·exact .inr ⟨k,rfl,(h.lt k hv).1⟩
theorem K8 {w:O} {base:Nat} {e:TypeId} {size n m cap:Nat} {A:aA} {xs:aF} (h:w.ownsRow base e size (.slice A m cap) n xs):n<=cap/\cap<=9223372036854775807:=by
 rcases h.2 with⟨a,f⟩|⟨g,c,cur,a,_,_,d,b,_⟩
 ·injection a with _ _ hc
  omega
 ·injection a with _ _ hc
  unfold maxLen at b;omega
theorem U7 {w:O} {base:Nat} {e:TypeId} {size n:Nat} {v:V} {xs:aF} (h:w.ownsRow base e size v n xs):∃A cap,v= .slice A n cap:=by
 rcases h.2 with⟨rfl,rfl⟩|⟨g,c,cur,rfl,_⟩
 ·exact⟨_,_,rfl⟩
 ·exact⟨_,_,rfl⟩
theorem ye {w:O} {a:Addr} {v:V} (h:w.cell? a=some v):a.block<w.heap.size:=by
 rcases zk a.block w.heap.size with c|b
 ·exact c
 ·unfold World.cell? at h;rw [x9 b]at h;simp at h
theorem Yl (g j:Nat):(⟨g,0,none⟩:Addr).add j=⟨g,j,none⟩:=by unfold Addr.add;split<;>simp_all
theorem Qq (b off j:Nat):(⟨b,off,none⟩:Addr).add j=⟨b,off+j,none⟩:=by unfold Addr.add;split<;>simp_all
class Rep (α:Type) where
 size:Nat
 pos:0<size
 rep:O->(Nat->Prop)->aF->α->Prop
 len:∀{w F cs x},rep w F cs x->cs.length=size
 keep:∀{w w' :O} {F F' :Nat->Prop} {cs x},rep w F cs x->(∀p:Addr,F p.block->w'.cell? p=w.cell? p)->(∀b,F b->F' b)->rep w' F' cs x
 one:∀{w F cs x u},rep w F cs x->u∈cs->u.oneCell' =true
open Rep (rep)
theorem Rep.below {α:Type} [Rep α] {w w' :O} {cs:aF} {x:α} {B:Nat} (h:rep w (·<B) cs x) (a:Below B w w'):rep w' (·<B) cs x:=
 Rep.keep h (fun _ b=>a.cell b) (fun _ h=>h)
theorem Rep.more {α:Type} [Rep α] {w:O} {cs:aF} {x:α} {F F' :Nat->Prop} (h:rep w F cs x) (hF:∀b,F b->F' b):rep w F' cs x:=
 Rep.keep h (fun _ _=>rfl) hF
theorem Rep.on {α:Type} [Rep α] {w w' :O} {cs:aF} {x:α} (h:rep w (·<w.heap.size) cs x) (a:Below w.heap.size w w'):rep w' (·<w'.heap.size) cs x:=
 Rep.keep h (fun _ d=>a.cell d) (fun b h=>zX h a.size)
def In64 (n:Int):Prop:= -9223372036854775808<=n/\n<=9223372036854775807
instance:Rep Int where
 size:=1
 pos:=by decide
 rep _ _ cs n:=cs= [.int .i64 n]/\In64 n
 len:=by rintro _ _ _ _ ⟨rfl,_⟩;rfl
 keep:=fun h _ _=>h
 one:=by rintro _ _ _ _ _ ⟨rfl,_⟩ hu;simp at hu;subst hu;rfl
instance:Rep Bool where
 size:=1
 pos:=by decide
 rep _ _ cs b:=cs= [.bool b]
 len:=by rintro _ _ _ _ rfl;rfl
 keep:=fun h _ _=>h
 one:=by rintro _ _ _ _ _ rfl hu;simp at hu;subst hu;rfl
instance:Rep ByteArray where
 size:=1
 pos:=by decide
 rep _ _ cs s:=cs= [.string s]/\s.size<=9223372036854775807
 len:=by rintro _ _ _ _ ⟨rfl,_⟩;rfl
 keep:=fun h _ _=>h
 one:=by rintro _ _ _ _ _ ⟨rfl,_⟩ hu;simp at hu;subst hu;rfl
def xp {α:Type} [Rep α] (w:O) (F:Nat->Prop) (b off:Nat) (k:Nat) (x:α):Prop:=
 ∃cs,rep w F cs x/\∀j u,cs[j]? =some u->w.cell? ⟨b,off+k*Rep.size α+j,none⟩=some u
def zL {α:Type} [Rep α] (w:O) (F:Nat->Prop) (A:aA) (n c:Nat) (xs:List α):Prop:=
 xs.length=n/\n<=c/\c<=9223372036854775807/\∀k x,xs[k]? =some x->∃b off,A=some ⟨b,off,none⟩/\F b/\xp w F b off k x
theorem xp.keep {α:Type} [Rep α] {w w' :O} {F F' :Nat->Prop} {b off:Nat} {k:Nat} {x:α} (h:xp w F b off k x) (a:∀p:Addr,F p.block->w'.cell? p=w.cell? p) (hF:∀b,F b->F' b) (g:F b):xp w' F' b off k x:=by
 obtain⟨cs,d,f⟩:=h;exact⟨cs,Rep.keep d a hF,fun j u i=>(a _ g).trans (f j u i)⟩
theorem zL.keep {α:Type} [Rep α] {w w' :O} {F F' :Nat->Prop} {A:aA} {n c:Nat} {xs:List α} (h:zL w F A n c xs) (j:∀p:Addr,F p.block->w'.cell? p=w.cell? p) (hF:∀b,F b->F' b):zL w' F' A n c xs:=by
 obtain⟨d,f,g,i⟩:=h;refine⟨d,f,g,fun k x m=> ?_⟩;obtain⟨b,off,e,a,l⟩:=i k x m;exact⟨b,off,e,hF _ a,l.keep j hF a⟩
instance {α:Type} [Rep α]:Rep (List α) where
 size:=1
 pos:=by decide
 rep w F cs xs:=∃A n c,cs= [.slice A n c]/\zL w F A n c xs
 len:=by rintro _ _ _ _ ⟨A,n,c,rfl,_⟩;rfl
 keep:=by rintro _ _ _ _ _ _ ⟨A,n,c,rfl,h⟩ hc hF;exact⟨A,n,c,rfl,h.keep hc hF⟩
 one:=by rintro _ _ _ _ _ ⟨A,n,c,rfl,_⟩ hu;simp at hu;subst hu;rfl
theorem zN {α:Type} {xs:List α} {k:Nat} {x:α} (h:xs[k]? =some x):k<xs.length:=by
 rcases zk k xs.length with a|a
 ·exact a
 ·rw [zh a]at h;cases h
section
variable {α:Type} [Rep α] {w w' :O} {F F' :Nat->Prop} {A:aA} {n c:Nat} {xs:List α}
theorem zL.length (h:zL w F A n c xs):xs.length=n:=h.1
theorem zL.cap (h:zL w F A n c xs):n<=c/\c<=9223372036854775807:=⟨h.2.1,h.2.2.1⟩
theorem zL.nil:zL w F none 0 0 ([]:List α):=⟨rfl,zC _,by omega,fun k x h=>by simp at h⟩
theorem zL.below {B:Nat} (h:zL w (·<B) A n c xs) (a:Below B w w'):zL w' (·<B) A n c xs:=h.keep (fun _ b=>a.cell b) (fun _ h=>h)
theorem zL.on (h:zL w (·<w.heap.size) A n c xs) (a:Below w.heap.size w w'):zL w' (·<w'.heap.size) A n c xs:=h.keep (fun _ d=>a.cell d) (fun b h=>zX h a.size)
theorem zL.more (h:zL w F A n c xs) (hF:∀b,F b->F' b):zL w F' A n c xs:=h.keep (fun _ _=>rfl) hF
theorem zL.at_ {k:Nat} (h:zL w F A n c xs) (g:k<n):∃b off x,A=some ⟨b,off,none⟩/\Hid (xs[k]? =some x)/\F b/\xp w F b off k x:=by
 have a:k<xs.length:=by have:=h.1;omega
 obtain⟨b,off,e,d,f⟩:=h.2.2.2 k xs[k] (zB a);exact⟨b,off,xs[k],e,zB a,d,f⟩
theorem zL.elem {b off:Nat} {k:Nat} {x:α} (h:zL w F (some ⟨b,off,none⟩) n c xs) (g:xs[k]? =some x):F b/\xp w F b off k x:=by
 obtain⟨i,a,e,d,f⟩:=h.2.2.2 k x g;cases e;exact⟨d,f⟩
theorem zL.of_elems {b off:Nat} (f:xs.length=n) (d:n<=c) (g:c<=9223372036854775807) (a:F b) (h:∀k x,xs[k]? =some x->xp w F b off k x):zL w F (some ⟨b,off,none⟩) n c xs:=
 ⟨f,d,g,fun k x i=>⟨b,off,rfl,a,h k x i⟩⟩
end
theorem xp.int {w:O} {F:Nat->Prop} {b off k:Nat} {x:Int} (h:xp w F b off k x):w.cell? ⟨b,off+k,none⟩=some (.int .i64 x)/\In64 x:=by
 obtain⟨cs,⟨rfl,a⟩,d⟩:=h;have:=d 0 _ rfl;simp only [show Rep.size Int=1 from rfl,yr,yt]at this;exact⟨this,a⟩
theorem xp.str {w:O} {F:Nat->Prop} {b off k:Nat} {x:aB} (h:xp w F b off k x):w.cell? ⟨b,off+k,none⟩=some (.string x)/\x.size<=9223372036854775807:=by
 obtain⟨cs,⟨rfl,a⟩,d⟩:=h;have:=d 0 _ rfl;simp only [show Rep.size aB=1 from rfl,yr,yt]at this;exact⟨this,a⟩
theorem xp.list {α:Type} [Rep α] {w:O} {F:Nat->Prop} {b off k:Nat} {x:List α} (h:xp w F b off k x):∃A n c,w.cell? ⟨b,off+k,none⟩=some (.slice A n c)/\zL w F A n c x:=by
 obtain⟨cs,⟨A,n,c,rfl,a⟩,d⟩:=h;have:=d 0 _ rfl;simp only [show Rep.size (List α)=1 from rfl,yr,yt]at this;exact⟨A,n,c,this,a⟩
theorem xX {size:Nat}:∀(css:List aF) (k j:Nat) (cs:aF),(∀c∈css,c.length=size)->css[k]? =some cs->j<size->css.flatten[k*size+j]? =cs[j]?
 | [],_,_,_,_,h,_=>by simp at h
 |c::css,0,j,cs,hl,h,hj=>by
  simp at h;subst h;have:=hl c (by simp);rw [yM,Nat.zero_mul,zx,z9 (by omega)]
 |c::css,k+1,j,cs,hl,h,hj=>by
  have b:=hl c (by simp);rw [yM,zR (by rw [b,xK];omega)];rw [show(k+1)*size+j - c.length=k*size+j by rw [b,xK];omega];exact xX css k j cs (fun d a =>hl d (by simp [a])) (by simpa using h) hj
theorem Zh {size:Nat}:∀css:List aF,(∀c∈css,c.length=size)->css.flatten.length=css.length*size
 | [],_=>by simp
 |c::css,hl=>by
  rw [yM,zG,hl c (by simp),Zh css (fun b a =>hl b (by simp [a])),z6,xK];omega
def Fr (D:Nat->Prop) (w:O) (v:V) (b:Nat):Prop:=D b/\b<w.heap.size/\some b≠v.ownBlock
def Own {α:Type} [Rep α] (D:Nat->Prop) (w:O) (base:Nat) (e:TypeId) (v:V) (xs:List α):Prop:=
 ∃css:List aF,css.length=xs.length/\(∀(k:Nat) (cs:aF) (x:α),css[k]? =some cs->xs[k]? =some x->rep w (Fr D w v) cs x)/\w.ownsRow base e (Rep.size α) v xs.length css.flatten
section
variable {α:Type} [Rep α] {D:Nat->Prop} {w w' :O} {base:Nat} {e:TypeId} {v v' :V} {xs:List α}
theorem Own.nil (D:Nat->Prop) (w:O) (base:Nat) (e:TypeId):Own D w base e (.slice none 0 0) ([]:List α):=⟨[],rfl,fun k cs x h=>by simp at h,World.ownsRow_nil _ _ _ _⟩
theorem Own.lens {css:List aF} (g:css.length=xs.length) (f:∀(k:Nat) (cs:aF) (x:α),css[k]? =some cs->xs[k]? =some x->rep w (Fr D w v) cs x):∀c∈css,c.length=Rep.size α:=by
 intro c d;obtain⟨k,b⟩:=z8 d;have a:k<xs.length:=by have:=zN b;omega
 exact Rep.len (f k c xs[k] b (zB a))
theorem Own.form (h:Own D w base e v xs):∃A cap,v= .slice A xs.length cap:=by
 obtain⟨css,_,_,a⟩:=h;exact U7 a
theorem Own.from_ (h:Own D w base e v xs):v.ownBlock=none\/∃k,v.ownBlock=some k/\base<=k:=by
 obtain⟨css,_,_,a⟩:=h;exact IX a
theorem Own.block_lt (h:Own D w base e v xs) {k:Nat} (a:v.ownBlock=some k):k<w.heap.size:=by
 obtain⟨css,_,_,b⟩:=h;exact(b.lt k a).2
theorem Own.on (h:Own D w base e v xs) (f:Below w.heap.size w w'):Own D w' base e v xs:=by
 obtain⟨css,o,s,j⟩:=h;refine⟨css,o,fun k cs x l m=>Rep.keep (s k cs x l m) (fun p r=>f.cell r.2.1) (fun b a =>⟨a.1,zX a.2.1 f.size,a.2.2⟩),?_⟩;refine⟨j.1,?_⟩;rcases j.2 with q|⟨g,cap,cur,rfl,i,d,rest⟩
 ·exact .inl q
 ·refine .inr ⟨g,cap,cur,rfl,i,?_,rest⟩;rw [f.block g (Array.getElem?_eq_some_iff.1 d).1];exact d
theorem Own.mono {a :Nat} (h:Own D w base e v xs) (f:a <=base):Own D w a e v xs:=by
 obtain⟨css,i,k,d⟩:=h;refine⟨css,i,k,d.1,?_⟩;rcases d.2 with j|⟨g,cap,cur,rfl,b,rest⟩
 ·exact .inl j
 ·exact .inr ⟨g,cap,cur,rfl,zY f b,rest⟩
theorem Own.alloc (h:Own D w base e v xs) (o:Obj):Own D (w.alloc o) base e v xs:=h.on ((zE _ _).alloc (zC _) o)
theorem Own.reads {A:aA} {n c:Nat} (h:Own D w base e (.slice A n c) xs):zL w (fun b=>(D b\/base<=b)/\b<w.heap.size) A n c xs:=by
 obtain⟨css,t,q,l⟩:=h;have hlen:=Own.lens t q;have a:=K8 l
 have i:xs.length=n:=by
  rcases l.2 with⟨d,o⟩|⟨g,cap,cur,d,_⟩
  ·injection d with _ i _;omega
  ·injection d with _ i _;exact i.symm
 refine⟨i,by omega,a.2,fun k x o=> ?_⟩;have y:=zN o;obtain⟨g,cap,d,f,m⟩:=l.form (by omega)
 injection d with hA _ _
 subst hA;refine⟨g,0,rfl,⟨.inr f,m⟩,css[k]'(by omega),Rep.more (q k _ x (zB (by omega)) o) (fun b f=>⟨.inl f.1,f.2.1⟩),fun j u r=> ?_⟩
 have s:j<Rep.size α:=by
  have:=hlen (css[k]'(by omega)) (List.getElem_mem _);have:=zN r;omega
 have p:=l.cells (g:=g) rfl (k*Rep.size α+j) u (by rw [xX css k j _ hlen (zB (by omega)) s];exact r);rw [zx];rw [Yl]at p;exact p
end
theorem Vr {α:Type} [Rep α] {D:Nat->Prop} {w w' :O} {base:Nat} {e:TypeId} {v v' :V} {xs:List α} {y:α} {css:List aF} {cs:aF}
 (r:css.length=xs.length) (s:∀(k:Nat) (cs:aF) (x:α),css[k]? =some cs->xs[k]? =some x->rep w (Fr D w v) cs x)
 (u:rep w (Fr D w v) cs y) (j :w'.ownsRow base e (Rep.size α) v' (xs.length+1) (css.flatten++cs))
 (l:w.grownBy w' v.ownBlock) (a:v'.ownBlock=v.ownBlock\/v'.ownBlock=some w.heap.size):Own D w' base e v' (xs++ [y]):=by
 have o:∀(cs:aF) (x:α),rep w (Fr D w v) cs x->rep w' (Fr D w' v') cs x:=by
  intro cs x t;refine Rep.keep t (fun p m=>World.cell?_of_block (l.block p.block m.2.1 m.2.2)) (fun b h=>⟨h.1,zX h.2.1 l.size,?_⟩);rcases a with a|a
  ·rw [a];exact h.2.2
  ·rw [a];have:=h.2.1;simp;omega
 refine⟨css++ [cs],by simp [r],fun k g x d f=>o g x ?_,by simpa using j⟩;rcases zk k css.length with i|i
 ·rw [z9 i]at d;rw [z9 (by omega)]at f;exact s k g x d f
 ·rw [zR i]at d;rw [zR (by omega)]at f;have q:k - css.length=0:=(by have:=zN d;simp at this;omega);rw [q]at d;rw [show k - xs.length=0 by omega]at f;simp at d f;subst d f;exact u
def ints (xs:aD):aF:=xs.map (Value.int .i64)
theorem Xd (xs:aD):(ints xs).length=xs.length:=by simp [ints]
theorem dZ {xs:aD} {k:Nat} (h:k<xs.length):(ints xs)[k]? =some (.int .i64 xs[k]):=by simp [ints,h]
theorem Y3 (xs:aD):∀u∈ints xs,u.oneCell' =true:=by
 intro u a;obtain⟨_,_,rfl⟩:=List.mem_map.1 a;rfl
theorem zL.reads_ints {w:O} {B:Nat} {A:aA} {n c:Nat} {xs:aD} (h:zL w (·<B) A n c xs):xA w B 1 A n (ints xs):=by
 refine⟨by rw [Xd,h.length];omega,fun f=> ?_⟩;obtain⟨b,off,x,hA,_,g,_⟩:=h.at_ f
 refine⟨_,hA,g,fun j u a=> ?_⟩;have d:j<xs.length:=by have:=zN a;rwa [Xd]at this
 rw [dZ d]at a;cases a;subst hA;obtain⟨_,i⟩:=h.elem (zB d);rw [Qq];exact i.int.1
theorem zL.in64 {w:O} {F:Nat->Prop} {A:aA} {n c:Nat} {xs:aD} (h:zL w F A n c xs):∀x∈xs,In64 x:=by
 intro x f;obtain⟨k,d⟩:=z8 f;obtain⟨b,off,_,_,a⟩:=h.2.2.2 k x d;exact a.int.2
section
variable {P:Program} {w:O}
theorem dO {B:Nat} {e:TypeId} {cs:aG} (h:Blk w B e cs) (m size:Nat) (a:cs.size=m*size):xA w w.heap.size size (some ⟨B,0,none⟩) m cs.toList:=by
 refine⟨by simpa using a,fun _=>⟨_,rfl,h.lt,fun j u b=> ?_⟩⟩;rw [Yl,h.cell j]
 simpa using b
theorem tE {α:Type} [Rep α] {D:Nat->Prop} {l:Array Oper} {rest:List Oper} {o:Oper} {a:Act} {Q:Exit->Act->O->Prop} (C:o.guard=none) (s x:Operand) (t:TypeId)
 (M:o.op= .call {callee:= .builtin .append,args:= #[s,x],argTypes:= #[t,t]})
 (base:Nat) (e:TypeId) (i:TypeInfo) (z:V) (bytes:Nat) (S:P.underlying t=some (.slice e)) (K:P.info? e=some i) (W:i.zero=some z)
 (g:i.size=Rep.size α) (r:i.bytes=bytes) (J:z.cells.size=Rep.size α)
 (v:V) (xs:List α) (R:a.eval s=v) (d:Own D w base e v xs)
 (B:Nat) (cs:aG) (y:α) (U:a.eval x= .slice (some ⟨B,0,none⟩) 1 1) (j:Blk w B e cs) (I:rep w (Fr D w v) cs.toList y)
 (p:xs.length+1<=9223372036854775807) (c:(xs.length+1)*bytes<=140737488355328) (b:base<=w.heap.size)
 (h:∀v' w',Own D w' base e v' (xs++ [y])->w.grownBy w' v.ownBlock->Below base w w' ->wpList P l Q rest (a.put o.dst v') w'):wpList P l Q (o::rest) a w:=by
 have f:=d;obtain⟨css,L,N,G⟩:=d;have H:cs.size=1*Rep.size α:=by have:=Rep.len I;simpa using this
 refine Xj w C s x t M base e i z (Rep.size α) bytes S K W g r J Rep.pos v xs.length css.flatten R G w.heap.size (some ⟨B,0,none⟩) 1 1 cs.toList U (dO j 1 _ H) (fun u T=>Rep.one I T) p c b ?_;intro v' w' F A q
 exact h v' w' (Vr L N I F A q) A ((zE _ _).grown A b (fun k m=>by
  rcases f.from_ with n|⟨X,n,E⟩
  ·rw [n]at m;cases m
  ·rw [n]at m;cases m;exact E))
end
open Tryz
abbrev Frm (base:Nat):Nat->Prop:=fun b=>base<=b
structure Tch (S:Nat->Prop) (w w' :O):Prop where
 os:w'.os=w.os
 tape:w'.tape=w.tape
 output:w'.output=w.output
 size:w.heap.size<=w'.heap.size
 block:∀k,k<w.heap.size->¬S k->w'.heap[k]? =w.heap[k]?
section
variable {S S' :Nat->Prop} {w w1 w2:O}
theorem Tch.refl (S:Nat->Prop) (w:O):Tch S w w:=⟨rfl,rfl,rfl,zC _,fun _ _ _=>rfl⟩
theorem Tch.trans (h:Tch S w w1) (k:Tch S' w1 w2) (d:∀b,b<w.heap.size->S' b->S b):Tch S w w2:=
 ⟨k.os.trans h.os,k.tape.trans h.tape,k.output.trans h.output,zY h.size k.size,fun i a c=>(k.block i (zX a h.size) (fun f=>c (d i a f))).trans (h.block i a c)⟩
theorem Tch.of_below {B:Nat} (h:Below B w w1) (a:∀b,b<w.heap.size->B<=b->S b):Tch S w w1:=⟨h.os,h.tape,h.output,h.size,fun k d f=>h.block k (Nat.lt_of_not_le fun c=>f (a k d c))⟩
theorem Tch.new (h:Below w.heap.size w w1):Tch S w w1:=Tch.of_below h (fun b a c=>by omega)
theorem Tch.below {B:Nat} (h:Tch S w w1) (hB:B<=w.heap.size) (a:∀b,S b->B<=b):Below B w w1:=⟨h.os,h.tape,h.output,h.size,fun k d=>h.block k (by omega) (fun c=>by have:=a k c;omega)⟩
theorem Tch.grown {a:Option Nat} (h:w.grownBy w1 a) (c:∀b,a=some b->S b):Tch S w w1:=⟨h.os,h.tape,h.output,h.size,fun k d f=>h.block k d (fun e=>f (c k e.symm))⟩
theorem Tch.alloc (w:O) (o:Obj):Tch S w (w.alloc o):=Tch.new ((zE _ _).alloc (zC _) o)
theorem Tch.setCell (w:O) {p:Addr} (b:S p.block) (u:V):Tch S w (w.setCell p u):=⟨rfl,rfl,rfl,by simp [World.setCell],fun k _ a=>Below.heap_setCell _ _ _ k (fun e=>a (by rw [e];exact b))⟩
theorem Tch.put (w:O) (p i:Nat) (u:V):Tch (fun b=>b=p) w (w.setCell ⟨p,i,none⟩ u):=Tch.setCell (S:=fun b=>b=p) (p:=⟨p,i,none⟩) w rfl u
theorem Tch.cell (h:Tch S w w1) {p:Addr} (b:p.block<w.heap.size) (a:¬S p.block):w1.cell? p=w.cell? p:=World.cell?_of_block (h.block _ b a)
theorem Blk.tch {g:Nat} {t:TypeId} {cs:aG} (h:Blk w g t cs) (a:Tch S w w1) (b:¬S g):Blk w1 g t cs:=(a.block g h.lt b).trans h
end
def zt (w:O) (S:Nat->Prop) (e:TypeId) (size:Nat) (v:V) (n:Nat) (xs:aF):Prop:=
 xs.length=n*size/\((v= .slice none 0 0/\n=0)\/
  ∃g cap cur,v= .slice (some ⟨g,0,none⟩) n cap/\S g/\w.heap[g]? =some (.cells cur e (0,0))/\n<=cap/\cap<=maxLen/\cap*size<=cur.size/\cur.toList.take (n*size)=xs)
section
variable {w w' :O} {S S' :Nat->Prop} {e:TypeId} {size n:Nat} {v:V} {xs:aF}
theorem ZJ (w:O) (S:Nat->Prop) (e:TypeId) (size:Nat):zt w S e size (.slice none 0 0) 0 []:=⟨by simp,.inl ⟨rfl,rfl⟩⟩
theorem Yd {base:Nat} (h:w.ownsRow base e size v n xs):zt w (Frm base) e size v n xs:=by
 refine⟨h.1,h.2.imp id ?_⟩;rintro⟨g,cap,cur,a,b,c,d,f,j,i⟩;exact⟨g,cap,cur,a,b,c,d,f,by omega,i⟩
theorem Zn (w:O) (cs:aG) (e:TypeId) (size n:Nat) (a:cs.size=n*size) (c:n<=maxLen) (b:S w.heap.size):zt (w.alloc (.cells cs e)) S e size (.slice (some ⟨w.heap.size,0,none⟩) n n) n cs.toList:=
 ⟨by simpa using a,.inr ⟨w.heap.size,n,cs,rfl,b,heap_alloc_new w _,zC _,c,by omega,by rw [<-a];exact zF (by simp)⟩⟩
theorem zt.lt (h:zt w S e size v n xs):∀k,v.ownBlock=some k->S k/\k<w.heap.size:=by
 intro k a;rcases h.2 with⟨rfl,_⟩|⟨g,cap,cur,rfl,b,c,_⟩
 ·simp [Value.ownBlock]at a
 ·simp [Value.ownBlock]at a;subst a;exact⟨b,(Array.getElem?_eq_some_iff.1 c).1⟩
theorem zt.form (h:zt w S e size v n xs):∃A c,v= .slice A n c:=by
 rcases h.2 with⟨rfl,rfl⟩|⟨g,c,cur,rfl,_⟩
 ·exact⟨_,_,rfl⟩
 ·exact⟨_,_,rfl⟩
theorem zt.tch (h:zt w S e size v n xs) (d:Tch S' w w') (f:∀g,v.ownBlock=some g->¬S' g):zt w' S e size v n xs:=by
 refine⟨h.1,?_⟩;rcases h.2 with c|⟨g,cap,cur,rfl,b,a,rest⟩
 ·exact .inl c
 ·refine .inr ⟨g,cap,cur,rfl,b,?_,rest⟩;rw [d.block g (Array.getElem?_eq_some_iff.1 a).1 (f g rfl)];exact a
theorem zt.on (h:zt w S e size v n xs) (a:Below w.heap.size w w'):zt w' S e size v n xs:=h.tch (S' :=fun _=>False) (Tch.new a) (fun _ _=>id)
theorem zt.mono (h:zt w S e size v n xs) (d:∀g,g<w.heap.size->S g->S' g):zt w S' e size v n xs:=by
 refine⟨h.1,h.2.imp id ?_⟩;rintro⟨g,cap,cur,b,c,a,rest⟩;exact⟨g,cap,cur,b,d g (Array.getElem?_eq_some_iff.1 a).1 c,a,rest⟩
theorem zt.alloc (h:zt w S e size v n xs) (o:Obj):zt (w.alloc o) S e size v n xs:=h.on ((zE _ _).alloc (zC _) o)
theorem zt.drewN (h:zt w S e size v n xs) (k:Nat):zt (w.drewN k) S e size v n xs:=h
theorem zt.cap {A:aA} {m c:Nat} (h:zt w S e size (.slice A m c) n xs):m=n/\n<=c/\c<=9223372036854775807:=by
 rcases h.2 with⟨a,f⟩|⟨g,cap,cur,a,_,_,d,b,_⟩
 ·injection a with _ hm hc
  omega
 ·injection a with _ hm hc
  unfold maxLen at b;omega
theorem zt.clip {A:aA} {c:Nat} (h:zt w S e size (.slice A n c) n xs):zt w S e size (.slice A n n) n xs:=by
 refine⟨h.1,?_⟩;rcases h.2 with⟨a,k⟩|⟨g,cap,cur,a,b,d,f,l,i,j⟩
 ·injection a with hA _ _
  subst hA k;exact .inl ⟨rfl,rfl⟩
 ·injection a with hA _ _
  subst hA;exact .inr ⟨g,n,cur,rfl,b,d,zC _,by omega,zY (yj _ f) i,j⟩
theorem zt.cells (h:zt w S e size v n xs) {g:Nat} (c:v.ownBlock=some g):∀j u,xs[j]? =some u->w.cell? ⟨g,j,none⟩=some u:=by
 intro j u b;rcases h.2 with⟨rfl,_⟩|⟨f,cap,cur,rfl,_,d,_,_,_,a⟩
 ·simp [Value.ownBlock]at c
 ·simp [Value.ownBlock]at c;subst c;rw [cell_of_row w f j cur e (0,0) d];rw [<-a,yy]at b
  split at b
  ·simpa using b
  ·cases b
theorem zt.at_ {A:aA} {c:Nat} (h:zt w S e size (.slice A n c) n xs) (i:0<n):∃g,A=some ⟨g,0,none⟩/\S g/\g<w.heap.size/\∀j u,xs[j]? =some u->w.cell? ⟨g,j,none⟩=some u:=by
 rcases h.2 with⟨_,d⟩|⟨g,cap,cur,f,a,b,_⟩
 ·omega
 ·have hA:A=some ⟨g,0,none⟩:=(by injection f);subst hA;exact⟨g,rfl,a,(Array.getElem?_eq_some_iff.1 b).1,h.cells rfl⟩
theorem zt.reads {A:aA} {c:Nat} (h:zt w S e size (.slice A n c) n xs):xA w w.heap.size size A n xs:=
 ⟨h.1,fun d=>by
  obtain⟨g,rfl,_,a,b⟩:=h.at_ d
  exact⟨_,rfl,a,fun j u f=>by rw [Yl];exact b j u f⟩⟩
theorem zt.ne_ {g:Nat} {t:TypeId} {cs:aG} (h:zt w S e size v n xs) (d:Blk w g t cs) (a:e≠t):v.ownBlock≠some g:=by
 rcases h.2 with⟨rfl,_⟩|⟨b,cap,cur,rfl,_,f,_⟩
 ·simp [Value.ownBlock]
 ·intro c;have:b =g:=(by simpa [Value.ownBlock]using c);subst this;exact Blk.ne_ (t:=e) f d a rfl
end
structure Elt (P:Program) (t e:TypeId) (size bytes:Nat):Prop where
 ht:P.underlying t=some (.slice e)
 pos:0<size
 info:∃i z,P.info? e=some i/\i.zero=some z/\i.size=size/\i.bytes=bytes/\z.cells.size=size
theorem xt {P:Program} {t e:TypeId} {size bytes:Nat} (f:P.underlying t=some (.slice e)) (c:0<size) (h:(P.info? e).map (fun i=>(i.size,i.bytes,i.zero.map fun z=>z.cells.size))=some (size,bytes,some size)):Elt P t e size bytes:=by
 obtain⟨i,b,a⟩:=Option.map_eq_some_iff.1 h;simp only [Prod.mk.injEq]at a;obtain⟨z,g,d⟩:=Option.map_eq_some_iff.1 a.2.2;exact⟨f,c,i,z,b,g,a.1,a.2.1,d⟩
section
variable {P:Program} {w:O}
theorem WG {t e:TypeId} {size bytes:Nat} (E:Elt P t e size bytes) (ty:TypeId) {S:Nat->Prop} {v:V} {n:Nat} {xs:aF} (b:zt w S e size v n xs)
 {B:Nat} {A:aA} {m c:Nat} {news:aF} (r:xA w B size A m news) (X:∀u∈news,u.oneCell' =true)
 (y:n+m<=maxLen) (l:(n+m)*bytes<=140737488355328) (Y:S w.heap.size):
 ∃A' K w',(Builtin.append_ #[t,t] ty #[v,.slice A m c]).run P w= .ok (.slice A' (n+m) K) w' /\zt w' S e size (.slice A' (n+m) K) (n+m) (xs++news)/\w.grownBy w' v.ownBlock/\
  ((Value.slice A' (n+m) K).ownBlock=v.ownBlock\/(Value.slice A' (n+m) K).ownBlock=some w.heap.size):=by
 obtain⟨I,ha,i,z,G,W,x,M,U⟩:=E;subst x;subst M;have L:n+m<=9223372036854775807:=by simp only [maxLen]at y;omega
 have s:=r.1;have hlen:(xs++news).length=(n+m)*i.size:=by rw [zG,b.1,s,xK]
 have grown:∀(d:Nat),d<n+m->∀(J:Option Nat),
  zt (w.drew.alloc (.cells (xs.toArray++news.toArray++Builtin.zeroCells z.cells (grownCap w (n+m) d e - (n+m))) e)) S e i.size
   (.slice (some ⟨w.heap.size,0,none⟩) (n+m) (grownCap w (n+m) d e)) (n+m) (xs++news)/\
  w.grownBy (w.drew.alloc (.cells (xs.toArray++news.toArray++Builtin.zeroCells z.cells (grownCap w (n+m) d e - (n+m))) e)) J:=by
  intro d ho J;have Q:=grownCap_ge w (n+m) d e;have q:grownCap w (n+m) d e<=maxLen:=grownCap_le_maxLen w (n+m) d e y;refine⟨⟨hlen,.inr ⟨w.heap.size,_,_,rfl,Y,heap_alloc_new w.drew _,Q,q,?_,?_⟩⟩,⟨rfl,rfl,rfl,by simp,fun k R _=>Below.heap_alloc w.drew _ k R⟩⟩
  ·simp only [Array.size_append,yP,size_zeroCells,U,b.1,s,<-xK];exact yj _ (by omega)
  ·simp only [Array.toList_append,zO];rw [<-zO,<-hlen];exact List.take_left
 by_cases hm:m=0
 ·subst hm;have hn:news= []:=zS (by simpa using s);subst hn;rcases b.2 with⟨rfl,rfl⟩|⟨g,cap,cur,rfl,C,N,H,q,D,p⟩
  ·have T:xs= []:=zS (by simpa using b.1);subst T;refine⟨none,0,w,?_,ZJ _ _ _ _,World.grownBy.refl w _,.inl rfl⟩;cases A<;>simp [Builtin.append_,run_underlying I,sizeOf,typeInfo,G,Builtin.lenOf,Builtin.firstCells,loadCells,loadCellsFrom]
  ·refine⟨some ⟨g,0,none⟩,cap,w,?_,by simpa using b,World.grownBy.refl w _,.inl rfl⟩;cases A<;>simp [Builtin.append_,run_underlying I,sizeOf,typeInfo,G,Builtin.lenOf,Builtin.firstCells,loadCells,loadCellsFrom,H,storeCells]
 ·obtain⟨a,rfl,_,f⟩:=r.2 (by omega);rcases b.2 with⟨rfl,rfl⟩|⟨g,cap,cur,rfl,C,N,H,q,D,p⟩
  ·have T:xs= []:=zS (by simpa using b.1);subst T;have r:=run_append_nil (P:=P) w t ty e i z I G W a m c news s f (by omega) (by omega) (by have Z:=l;simp only [zx]at Z;omega);have o:=grown 0 (by omega) (Value.ownBlock (.slice none 0 0));simp only [zx,zZ,Array.empty_append]at o⊢;exact⟨_,_,_,r,o.1,o.2,.inr rfl⟩
  ·by_cases h:n+m<=cap
   ·have F:n*i.size+news.length<=cur.size:=(by rw [s,<-xK];exact zY (yj _ h) D);have r:=run_append_room (P:=P) w t ty e i I G g n cap cur N a m c news s f X h F;refine⟨_,_,_,r,⟨hlen,.inr ⟨g,cap,_,rfl,C,setRow_heap w g cur _ e _ N,h,q,?_,?_⟩⟩,⟨rfl,rfl,rfl,by simp,fun k _ R=>setRow_other w g k _ (fun e=>R (by simp [Value.ownBlock,e]))⟩,.inl rfl⟩
    ·simp only [yP,zG,zr,ze,Array.length_toList];omega
    ·rw [p,<-hlen];exact List.take_left
   ·have bD:∀j u,xs[j]? =some u->w.cell? ((⟨g,0,none⟩:Addr).add j)=some u:=fun j u hu=>by rw [Yl];exact b.cells (g:=g) rfl j u hu
    have r:=run_append_grow (P:=P) w t ty e i z I G W ⟨g,0,none⟩ n cap xs b.1 bD a m c news s f (by omega) (by omega) (growslice_fits (by omega) l);have o:=grown cap (by omega) (Value.ownBlock (.slice (some ⟨g,0,none⟩) n cap));exact⟨_,_,_,r,o.1,o.2,.inr rfl⟩
theorem eR {S:Nat->Prop} {w w' :O} {e:TypeId} {size n:Nat} {v:V} {xs:aF} (h:zt w S e size v n xs) (c:w.grownBy w' v.ownBlock):Tch S w w' :=Tch.grown c (fun b a=>(h.lt b a).1)
theorem pT {o:Oper} {a:Act} {K:Act->O->Prop} {Q:Exit->Act->O->Prop} {t e:TypeId} {size bytes:Nat} (E:Elt P t e size bytes) (s x:Operand)
 (r:o.op= .call {callee:= .builtin .append,args:= #[s,x],argTypes:= #[t,t]})
 {S:Nat->Prop} {v:V} {n:Nat} {xs:aF} (z:a.eval s=v) (b:zt w S e size v n xs)
 {B:Nat} {A:aA} {m c:Nat} {news:aF} (C:a.eval x= .slice A m c) (y:xA w B size A m news) (i:∀u∈news,u.oneCell' =true)
 (q:(n+m)*bytes<=140737488355328) (l:n+m<=9223372036854775807) (p:S w.heap.size)
 (h:∀A' d w',zt w' S e size (.slice A' (n+m) d) (n+m) (xs++news)->w.grownBy w' v.ownBlock->((Value.slice A' (n+m) d).ownBlock=v.ownBlock\/(Value.slice A' (n+m) d).ownBlock=some w.heap.size)->Tch S w w' ->K (a.put o.dst (.slice A' (n+m) d)) w'):o.wp P a w K Q:=by
 obtain⟨A',d,w',f,j,g,k⟩:=WG (P:=P) E o.type b y i (by unfold maxLen;omega) q p (c:=c);unfold Oper.wp execOp;simp only [r,resolve,invoke,builtin,Sem.run_bind,Sem.run_pure,Result.andThen_ok,List.map_toArray,yH,List.map_nil,z,C,f];exact h A' d w' j g k (eR b g)
theorem xm {f:Array Oper} {rest:List Oper} {o:Oper} {a:Act} {Q:Exit->Act->O->Prop} {t e:TypeId} {size bytes:Nat} (E:Elt P t e size bytes) (s x:Operand) (i:o.guard=none)
 (C:o.op= .call {callee:= .builtin .append,args:= #[s,x],argTypes:= #[t,t]})
 {S:Nat->Prop} {v:V} {n:Nat} {xs:aF} (F:a.eval s=v) (d:zt w S e size v n xs)
 {B:Nat} {A:aA} {m c:Nat} {news:aF} (G:a.eval x= .slice A m c) (D:xA w B size A m news) (j:∀u∈news,u.oneCell' =true)
 (z:(n+m)*bytes<=140737488355328) (g:n+m<=9223372036854775807) (y:S w.heap.size)
 (h:∀A' b w',zt w' S e size (.slice A' (n+m) b) (n+m) (xs++news)->w.grownBy w' v.ownBlock->((Value.slice A' (n+m) b).ownBlock=v.ownBlock\/(Value.slice A' (n+m) b).ownBlock=some w.heap.size)->Tch S w w' ->wpList P f Q rest (a.put o.dst (.slice A' (n+m) b)) w'):wpList P f Q (o::rest) a w:=
 wpList_plain i fun _ r=>pT E s x C F d G D j z g y fun A' b w' k l p q=>r _ _ (h A' b w' k l p q)
theorem H7 {d:Array Oper} {o:Oper} {a:Act} {K:Act->O->Prop} {Q:Exit->Act->O->Prop} {j :Prop} {t e:TypeId} {size bytes:Nat} (E:Elt P t e size bytes) (s x:Operand) (i:o.guard=none)
 (q:o.op= .call {callee:= .builtin .append,args:= #[s,x],argTypes:= #[t,t]})
 {S:Nat->Prop} {v:V} {n:Nat} {xs:aF} (y:a.eval s=v) (b:zt w S e size v n xs)
 {B:Nat} {A:aA} {m c:Nat} {news:aF} (C:a.eval x= .slice A m c) (r:xA w B size A m news) (k:∀u∈news,u.oneCell' =true)
 (p:(n+m)*bytes<=140737488355328) (g:n+m<=9223372036854775807) (l:S w.heap.size)
 (h:∀A' f w',zt w' S e size (.slice A' (n+m) f) (n+m) (xs++news)->w.grownBy w' v.ownBlock->((Value.slice A' (n+m) f).ownBlock=v.ownBlock\/(Value.slice A' (n+m) f).ownBlock=some w.heap.size)->Tch S w w' ->K (a.put o.dst (.slice A' (n+m) f)) w'):
 if Region.wanted o (yielded d a.tmps)=true then Oper.wp P o a w K Q else j :=by
 have z:Region.wanted o (yielded d a.tmps)=true:=by simp [Region.wanted,i]
 rw [if_pos z];exact pT E s x q y b C r k p g l h
theorem rT {F:Fence} {p:Nat} {f:Array Oper} {rest:List Oper} {o:Oper} {a:Act} {Q:Exit->Act->O->Prop} {t e:TypeId} {size bytes:Nat} (E:Elt P t e size bytes) (s x:Operand) (i:o.guard=none)
 (j:o.op= .call {callee:= .builtin .append,args:= #[s,x],argTypes:= #[t,t]})
 {S:Nat->Prop} {v:V} {n:Nat} {xs:aF} (H:a.eval s=v) (b:zt w S e size v n xs)
 {B:Nat} {A:aA} {m c:Nat} {news:aF} (I:a.eval x= .slice A m c) (k:xA w B size A m news) (q:∀u∈news,u.oneCell' =true)
 (G:(n+m)*bytes<=140737488355328) (z:n+m<=9223372036854775807) (D:S w.heap.size)
 (h:∀A' d w',zt w' S e size (.slice A' (n+m) d) (n+m) (xs++news)->w.grownBy w' v.ownBlock->((Value.slice A' (n+m) d).ownBlock=v.ownBlock\/(Value.slice A' (n+m) d).ownBlock=some w.heap.size)->Tch S w w' ->wpListIn F p P f Q rest (a.put o.dst (.slice A' (n+m) d)) w'):wpListIn F p P f Q (o::rest) a w:=by
 refine wpListIn_plain i fun K C=> ?_;obtain⟨A',d,w',k,r,l,y⟩:=WG (P:=P) E o.type b k q (by unfold maxLen;omega) G D (c:=c);unfold Oper.wpIn;refine⟨by simp [Oper.about,j,resolve,Target.leads,Sem.run_pure],?_⟩;rw [Oper.semAt_plain F _ _ (by rw [j];intro c g;cases g)];simp [execOp,j,resolve,invoke,builtin,H,I,k,Result.andThen];exact C _ _ (h A' d w' r l y (eR b l))
end
section
variable {P:Program} {w:O}
theorem Ww {t r e:TypeId} (E:Elt P t e 1 1) (o:P.underlying r=some .string) (ty:TypeId) {S:Nat->Prop} {v:V} {n:Nat} {xs:aF} (b:zt w S e 1 v n xs) (s:aB)
 (C:n+s.size<=140737488355328) (U:S w.heap.size):
 ∃A' B w',(Builtin.append_ #[t,r] ty #[v,.string s]).run P w= .ok (.slice A' (n+s.size) B) w' /\zt w' S e 1 (.slice A' (n+s.size) B) (n+s.size) (xs++byteCells s)/\w.grownBy w' v.ownBlock/\
  ((Value.slice A' (n+s.size) B).ownBlock=v.ownBlock\/(Value.slice A' (n+s.size) B).ownBlock=some w.heap.size):=by
 obtain⟨F,Y,i,z,D,R,a,x,K⟩:=E;have Q:(byteCells s).length=s.size:=byteCells_length s;have T:∀u∈byteCells s,u.oneCell' =true:=fun u J=>by obtain⟨_,_,rfl⟩:=List.mem_map.1 J;rfl
 have hlen:(xs++byteCells s).length=(n+s.size)*1:=by rw [zG,b.1,Q];omega
 have d:Src P i.size r (.string s) s.size (byteCells s) w:=by rw [a];exact Src.ofString w o s
 have grown:∀(c:Nat),c<n+s.size->∀(A:Option Nat),
  zt (w.drew.alloc (.cells ((xs++byteCells s).toArray++Builtin.zeroCells z.cells (grownCap w (n+s.size) c e - (n+s.size))) e)) S e 1
   (.slice (some ⟨w.heap.size,0,none⟩) (n+s.size) (grownCap w (n+s.size) c e)) (n+s.size) (xs++byteCells s)/\
  w.grownBy (w.drew.alloc (.cells ((xs++byteCells s).toArray++Builtin.zeroCells z.cells (grownCap w (n+s.size) c e - (n+s.size))) e)) A:=by
  intro c ho A;have I:=grownCap_ge w (n+s.size) c e;have m:grownCap w (n+s.size) c e<=maxLen:=grownCap_le_maxLen w (n+s.size) c e (by unfold maxLen;omega);refine⟨⟨hlen,.inr ⟨w.heap.size,_,_,rfl,U,heap_alloc_new w.drew _,I,m,?_,?_⟩⟩,⟨rfl,rfl,rfl,by simp,fun k o _=>Below.heap_alloc w.drew _ k o⟩⟩
  ·simp only [Array.size_append,yP,size_zeroCells,K,hlen];omega
  ·simp only [Array.toList_append];rw [<-hlen];exact List.take_left
 rcases b.2 with⟨rfl,rfl⟩|⟨g,cap,cur,rfl,H,N,X,m,W,q⟩
 ·have Z:xs= []:=zS (by simpa using b.1);subst Z
  by_cases G:s.size=0
  ·have L:byteCells s= []:=zS (by omega);refine⟨none,0,w,?_,by rw [G,L];exact ZJ _ _ _ _,World.grownBy.refl w _,.inl rfl⟩;have M:=d.cells;rw [L,G]at M;simp [Builtin.append_,run_underlying F,run_underlying o,sizeOf,typeInfo,D,Builtin.lenOf,G,M]
  ·have p:=run_append_grow_src (P:=P) w t r ty e i z F D R none 0 0 [] (run_firstCells_none w.drew _ 0 0 0) (.string s) s.size (byteCells s) d (by omega) (by omega) (by rw [zx,nextslicecap_zero (by omega),x];omega);have f:=grown 0 (by omega) (Value.ownBlock (.slice none 0 0));simp only [zx,zZ]at f p⊢;exact⟨_,_,_,p,f.1,f.2,.inr rfl⟩
 ·by_cases h:n+s.size<=cap
  ·have l:n*i.size+(byteCells s).length<=cur.size:=(by rw [Q,a];omega);have y:=run_storeCells_at P g (n*i.size) e (byteCells s) 0 cur w N (by simpa using l) T;simp only [yt]at y
   have p:(Builtin.append_ #[t,r] ty #[.slice (some ⟨g,0,none⟩) n cap,.string s]).run P w= .ok (.slice (some ⟨g,0,none⟩) (n+s.size) cap) (w.setRow g (cur.toList.take (n*i.size)++byteCells s++cur.toList.drop (n*i.size+(byteCells s).length)).toArray):=by
    simp [Builtin.append_,run_underlying F,run_underlying o,sizeOf,typeInfo,D,Builtin.lenOf,h,d.cells,Addr.add_lit,y]
   rw [a]at p;refine⟨_,_,_,p,⟨hlen,.inr ⟨g,cap,_,rfl,H,setRow_heap w g cur _ e _ N,h,m,?_,?_⟩⟩,⟨rfl,rfl,rfl,by simp,fun k _ o=>setRow_other w g k _ (fun e=>o (by simp [Value.ownBlock,e]))⟩,.inl rfl⟩
   ·rw [a]at l;simp only [yP,zG,zr,ze,Array.length_toList];omega
   ·rw [q,<-hlen];exact List.take_left
  ·have bD:∀j u,xs[j]? =some u->w.cell? ((⟨g,0,none⟩:Addr).add j)=some u:=fun j u J=>by rw [Yl];exact b.cells (g:=g) rfl j u J
   have p:=run_append_grow_src (P:=P) w t r ty e i z F D R (some ⟨g,0,none⟩) n cap xs (run_firstCells_some w.drew i.size n ⟨g,0,none⟩ n cap xs (by rw [a];exact b.1) (by simpa using bD)) (.string s) s.size (byteCells s) d (by omega) (by omega) (by rw [x];exact growslice_fits (by omega) (by omega));have f:=grown cap (by omega) (Value.ownBlock (.slice (some ⟨g,0,none⟩) n cap))
   exact⟨_,_,_,p,f.1,f.2,.inr rfl⟩
theorem qV {g:Array Oper} {rest:List Oper} {o:Oper} {a:Act} {Q:Exit->Act->O->Prop} {t k e:TypeId} (E:Elt P t e 1 1) (r:P.underlying k=some .string) (s x:Operand) (i:o.guard=none)
 (y:o.op= .call {callee:= .builtin .append,args:= #[s,x],argTypes:= #[t,k]})
 {S:Nat->Prop} {v:V} {n:Nat} {xs:aF} (z:a.eval s=v) (c:zt w S e 1 v n xs) {b:aB} (A:a.eval x= .string b)
 (u:n+b.size<=140737488355328) (q:S w.heap.size)
 (h:∀A' d w',zt w' S e 1 (.slice A' (n+b.size) d) (n+b.size) (xs++byteCells b)->w.grownBy w' v.ownBlock->((Value.slice A' (n+b.size) d).ownBlock=v.ownBlock\/(Value.slice A' (n+b.size) d).ownBlock=some w.heap.size)->Tch S w w' ->wpList P g Q rest (a.put o.dst (.slice A' (n+b.size) d)) w'):wpList P g Q (o::rest) a w:=
 wpList_plain i fun _ p=>by
  obtain⟨A',d,w',f,l,j,m⟩:=Ww (P:=P) E r o.type c b u q;unfold Oper.wp execOp;simp only [y,resolve,invoke,builtin,Sem.run_bind,Sem.run_pure,Result.andThen_ok,List.map_toArray,yH,List.map_nil,z,A,f];exact p _ _ (h A' d w' l j m (eR c j))
end
def bC (l:aC):aF:=l.map fun b=> .int .u8 (b.toNat:Int)
def uC (l:aE):aF:=l.map fun(n:Nat)=>Value.int .u64 (n:Int)
def sC (l:List aB):aF:=l.map .string
theorem dF (l:aC):(bC l).length=l.length:=by simp [bC]
theorem MM (l:aE):(uC l).length=l.length:=by simp [uC]
theorem MV (l:List aB):(sC l).length=l.length:=by simp [sC]
theorem V4 {l:aC} {k:Nat} {x:UInt8} (h:l[k]? =some x):(bC l)[k]? =some (.int .u8 (x.toNat:Int)):=by simp [bC,h]
theorem WB {l:aE} {k x:Nat} (h:l[k]? =some x):(uC l)[k]? =some (.int .u64 (x:Int)):=by simp [uC,h]
theorem bU {l:List aB} {k:Nat} {x:aB} (h:l[k]? =some x):(sC l)[k]? =some (.string x):=by simp [sC,h]
theorem xd (l:aC):∀u∈bC l,u.oneCell' =true:=by intro u a;obtain⟨_,_,rfl⟩:=List.mem_map.1 a;rfl
theorem pX (l:List aB):∀u∈sC l,u.oneCell' =true:=by intro u a;obtain⟨_,_,rfl⟩:=List.mem_map.1 a;rfl
theorem y9 (a b:aC):bC (a++b)=bC a++bC b:=by simp [bC]
theorem CR (a b:aE):uC (a++b)=uC a++uC b:=by simp [uC]
theorem uO (a b:aD):ints (a++b)=ints a++ints b:=by simp [ints]
theorem QO (w:O) (u:V) (t:TypeId):xA (w.alloc (.cells #[u] t)) (w.heap.size+1) 1 (some ⟨w.heap.size,0,none⟩) 1 [u]:=by
 have:=kZ w #[u] t 1 1 (by simp)
 simpa using this
def RC (w:O) (size:Nat) (A:aA) (n:Nat) (cs:aF):Prop:=
 cs.length=n*size/\(0<n->∃b off,A=some ⟨b,off,none⟩/\b<w.heap.size/\∀j u,cs[j]? =some u->w.cell? ⟨b,off+j,none⟩=some u)
theorem RC.reads {w:O} {size n:Nat} {A:aA} {cs:aF} (h:RC w size A n cs):xA w w.heap.size size A n cs:=
 ⟨h.1,fun d=>by
  obtain⟨b,off,rfl,a,c⟩:=h.2 d;exact⟨_,rfl,a,fun j u f=>by rw [Qq];exact c j u f⟩⟩
theorem RC.tch {S:Nat->Prop} {w w' :O} {size n:Nat} {A:aA} {cs:aF} (h:RC w size A n cs) (c:Tch S w w') (g:∀b off,A=some ⟨b,off,none⟩->¬S b):RC w' size A n cs:=
 ⟨h.1,fun d=>by
  obtain⟨b,off,rfl,a,f⟩:=h.2 d;exact⟨b,off,rfl,zX a c.size,fun j u i=>(c.cell (p:=⟨b,off+j,none⟩) a (g b off rfl)).trans (f j u i)⟩⟩
theorem RC.on {w w' :O} {size n:Nat} {A:aA} {cs:aF} (h:RC w size A n cs) (a:Below w.heap.size w w'):RC w' size A n cs:=h.tch (S:=fun _=>False) (Tch.new a) (fun _ _ _=>id)
theorem RC.sub_at {w:O} {size n b off:Nat} {cs:aF} (h:RC w size (some ⟨b,off,none⟩) n cs) {i k:Nat} (g:i+k<=n):RC w size (some ⟨b,off+i*size,none⟩) k ((cs.drop (i*size)).take (k*size)):=by
 have l:(i+k)*size<=n*size:=yj _ g;rw [xK]at l;refine⟨by rw [zr,ze,h.1];omega,fun o=> ?_⟩;obtain⟨m,d,e,c,f⟩:=h.2 (by omega);cases e;refine⟨b,off+i*size,rfl,c,fun j u a=> ?_⟩;rw [yy]at a
 split at a
 ·rw [List.getElem?_drop]at a;rw [Nat.add_assoc];exact f _ u a
 ·cases a
theorem zt.rc {w:O} {S:Nat->Prop} {e:TypeId} {size n c:Nat} {A:aA} {xs:aF} (h:zt w S e size (.slice A n c) n xs):RC w size A n xs:=
 ⟨h.1,fun d=>by
  obtain⟨g,rfl,_,a,b⟩:=h.at_ d
  exact⟨g,0,rfl,a,fun j u f=>by rw [zx];exact b j u f⟩⟩
def RB (w:O) (A:aA) (n:Nat) (l:aC):Prop:=RC w 1 A n (bC l)
theorem RB.on {w w' :O} {A:aA} {n:Nat} {l:aC} (h:RB w A n l) (a:Below w.heap.size w w'):RB w' A n l:=RC.on h a
theorem RB.reads {w:O} {A:aA} {n:Nat} {l:aC} (h:RB w A n l):xA w w.heap.size 1 A n (bC l):=RC.reads h
theorem RB.len {w:O} {A:aA} {n:Nat} {l:aC} (h:RB w A n l):l.length=n:=by have:=h.1;rw [dF]at this;omega
theorem RB.nil (w:O) (A:aA):RB w A 0 []:=⟨rfl,fun h=>absurd h (by omega)⟩
theorem RB.at_ {w:O} {A:aA} {n k:Nat} {l:aC} (h:RB w A n l) (f:k<n):∃b off x,A=some ⟨b,off,none⟩/\b<w.heap.size/\w.cell? ⟨b,off+k,none⟩=some (.int .u8 (x.toNat:Int))/\Hid (l[k]? =some x):=by
 have g:=h.len;obtain⟨b,off,rfl,c,d⟩:=h.2 (by omega);have a :k<l.length:=by omega
 exact⟨b,off,l[k],rfl,c,d k _ (V4 (zB a)),zB a⟩
theorem RB.tail {w:O} {A:aA} {n c k:Nat} {l:aC} (h:RB w A n l) (i:n<=c) (m:k<=n):RB w (if c=k then A else A.map (·.add k)) (n - k) (l.drop k):=by
 refine⟨by rw [dF,ze,h.len];omega,fun g=> ?_⟩;obtain⟨b,off,rfl,f,a⟩:=h.2 (by omega);rw [if_neg (by omega)];refine⟨b,off+k,by simp [Qq],f,fun j u d=> ?_⟩;have:(bC (l.drop k))[j]? =(bC l)[k+j]? :=by simp [bC]
 rw [this]at d;rw [Nat.add_assoc];exact a _ u d
def BR (w:O) (S:Nat->Prop) (v:V) (l:aC):Prop:=zt w S 5 1 v l.length (bC l)
theorem BR.nil (w:O) (S:Nat->Prop):BR w S (.slice none 0 0) []:=ZJ _ _ _ _
theorem BR.rb {w:O} {S:Nat->Prop} {n c:Nat} {A:aA} {l:aC} (h:BR w S (.slice A n c) l):RB w A n l:=by
 have a:=(zt.cap h).1;subst a;exact zt.rc h
theorem yW:Elt prog 65 5 1 1:=xt underlying65 (by decide) (by kernel_rfl)
structure Asn where
 P:(Nat->Prop)->O->Prop
 lt:∀{S w},P S w->∀b,S b->b<w.heap.size
 keep:∀{S S' w w'},P S w->Tch S' w w' ->(∀b,S b->¬S' b)->P S w'
def SpU (w:O):(Nat->Prop)->List Asn->Prop
 |_, []=>True
 |U,A::L=>∃S,(∀b,S b->U b)/\A.P S w/\SpU w (fun b=>U b/\¬S b) L
def Sp (w:O) (L:List Asn):Prop:=SpU w (fun _=>True) L
section
variable {w w' :O} {A B C D A' :Asn} {L:List Asn}
theorem SpU.mono:∀{L:List Asn} {U c :Nat->Prop},SpU w U L->(∀b,b<w.heap.size->U b->c b)->SpU w c L
 | [],_,_,_,_=>trivial
 |A::_,_,_,⟨S,h1,h2,h3⟩,h=>⟨S,fun b a=>h b (A.lt h2 b a) (h1 b a),h2,h3.mono fun b a u=>⟨h b a u.1,u.2⟩⟩
theorem SpU.tch {S' :Nat->Prop} (c:Tch S' w w'):∀{L:List Asn} {U:Nat->Prop},SpU w U L->(∀b,U b->b<w.heap.size->¬S' b)->SpU w' U L
 | [],_,_,_=>trivial
 |A::_,_,⟨S,h1,h2,h3⟩,h=>⟨S,h1,A.keep h2 c fun b a=>h b (h1 b a) (A.lt h2 b a),SpU.tch c h3 fun b a d=>h b a.1 d⟩
theorem SpU.cons {U:Nat->Prop} {M:List Asn} (f:∀U,SpU w U L->SpU w U M):SpU w U (A::L)->SpU w U (A::M)
 |⟨S,h1,h2,h3⟩=>⟨S,h1,h2,f _ h3⟩
theorem SpU.swap {U:Nat->Prop}:SpU w U (A::B::L)->SpU w U (B::A::L)
 |⟨S,h1,h2,T,k1,k2,k3⟩=>⟨T,fun b a=>(k1 b a).1,k2,S,fun b a=>⟨h1 b a,fun c=>(k1 b c).2 a⟩,h2,k3.mono fun _ _ u=>⟨⟨u.1.1,u.2⟩,u.1.2⟩⟩
theorem SpU.tail {U:Nat->Prop}:SpU w U (A::L)->SpU w U L
 |⟨_,_,_,h3⟩=>h3.mono fun _ _ u=>u.1
theorem Sp.p1 (h:Sp w (A::B::L)):Sp w (B::A::L):=SpU.swap h
theorem Sp.p2 (h:Sp w (A::B::C::L)):Sp w (C::A::B::L):=SpU.swap (SpU.cons (fun _=>SpU.swap) h)
theorem Sp.p3 (h:Sp w (A::B::C::D::L)):Sp w (D::A::B::C::L):=SpU.swap (SpU.cons (fun _ k=>SpU.swap (SpU.cons (fun _=>SpU.swap) k)) h)
theorem Sp.p4 {E:Asn} (h:Sp w (A::B::C::D::E::L)):Sp w (E::A::B::C::D::L):=SpU.swap (SpU.cons (fun _ k=>SpU.swap (SpU.cons (fun _ k=>SpU.swap (SpU.cons (fun _=>SpU.swap) k)) k)) h)
theorem Sp.tail (h:Sp w (A::L)):Sp w L:=SpU.tail h
theorem Sp.d1 (h:Sp w (A::B::L)):Sp w (A::L):=h.p1.tail
theorem Sp.d2 (h:Sp w (A::B::C::L)):Sp w (A::B::L):=h.p2.tail
theorem Sp.d3 (h:Sp w (A::B::C::D::L)):Sp w (A::B::C::L):=h.p3.tail
theorem SpU.get {U:Nat->Prop}:∀{L:List Asn} {U},SpU w U L->A∈L->∃S,A.P S w
 |_::_,_,⟨S,_,h2,h3⟩,a=>by
  rcases yx.1 a with rfl|a
  ·exact⟨S,h2⟩
  ·exact SpU.get (U:=fun _=>True) h3 a
theorem Sp.get (h:Sp w L) (a:A∈L):∃S,A.P S w:=SpU.get (U:=fun _=>True) h a
theorem Sp.grow (h:Sp w L) (a:Below w.heap.size w w'):Sp w' L:=SpU.tch (S' :=fun _=>False) (Tch.new a) h fun _ _ _=>id
theorem Sp.new (h:Sp w L) (a:Below w.heap.size w w') {S:Nat->Prop} (hA:A.P S w') (c:∀b,S b->w.heap.size<=b):Sp w' (A::L):=
 ⟨S,fun _ _=>trivial,hA,SpU.tch (S' :=fun _=>False) (Tch.new a) (SpU.mono h fun b a _=>⟨trivial,fun d=>by have:=c b d;omega⟩) fun _ _ _=>id⟩
theorem Sp.upd (h:Sp w (A::L)) (f:∀S,A.P S w->∃S',A'.P S' w' /\Tch S w w' /\∀b,S' b->S b\/w.heap.size<=b):Sp w' (A' ::L):=by
 obtain⟨S,_,c,d⟩:=h;obtain⟨S',i,j,k⟩:=f S c;refine⟨S',fun _ _=>trivial,i,?_⟩;have l:SpU w (fun b=>(True/\¬S' b)/\¬S b) L:=d.mono fun b a u=>⟨⟨trivial,fun m=>(k b m).elim u.2 (fun h=>by omega)⟩,u.2⟩;exact(SpU.tch j l fun b a _=>a.2).mono fun b _ u=>u.1
theorem Sp.turn (h:Sp w (A::L)) (f:∀S,A.P S w->A'.P S w):Sp w (A' ::L):=
 h.upd fun S a=>⟨S,f S a,Tch.refl _ _,fun _ b=> .inl b⟩
theorem Sp.join (h:Sp w (A::B::L)) (f:∀S T,A.P S w->B.P T w->(∀b,S b->¬T b)->C.P (fun b=>S b\/T b) w):Sp w (C::L):=by
 obtain⟨S,_,c,T,i,j,k⟩:=h;exact⟨_,fun _ _=>trivial,f S T c j (fun b a d=>(i b d).2 a),k.mono fun b _ u=>⟨trivial,fun a=>a.elim u.1.2 u.2⟩⟩
theorem Sp.split (h:Sp w (C::L)) (f:∀U,C.P U w->∃S T,A.P S w/\B.P T w/\(∀b,T b->¬S b)/\∀b,S b\/T b->U b):Sp w (A::B::L):=by
 obtain⟨U,_,c,d⟩:=h;obtain⟨S,T,hA,hB,j,a⟩:=f U c;exact⟨S,fun _ _=>trivial,hA,T,fun b i=>⟨trivial,j b i⟩,hB,d.mono fun b _ u=>⟨⟨trivial,fun k=>u.2 (a b (.inl k))⟩,fun l=>u.2 (a b (.inr l))⟩⟩
end
def OldA (B:Nat) (w0:O):Asn where
 P S w:=(∀b,S b↔b<B)/\B<=w0.heap.size/\Below B w0 w
 lt h b hb:=by have:=(h.1 b).1 hb;have:=h.2.2.size;omega
 keep h ht hn:=⟨h.1,h.2.1,ht.os.trans h.2.2.os,ht.tape.trans h.2.2.tape,ht.output.trans h.2.2.output,zY h.2.2.size ht.size,fun k a=>(ht.block k (by have:=h.2.2.size;omega) (hn k ((h.1 k).2 a))).trans (h.2.2.block k a)⟩
def RowA (e:TypeId) (size:Nat) (v:V) (n:Nat) (xs:aF):Asn where
 P S w:=(∀b,S b↔v.ownBlock=some b)/\zt w (fun _=>True) e size v n xs
 lt h b hb:=(h.2.lt b ((h.1 b).1 hb)).2
 keep h ht hn:=⟨h.1,h.2.tch ht (fun g a=>hn g ((h.1 g).2 a))⟩
def BlkA (g:Nat) (t:TypeId) (cs:aG):Asn where
 P S w:=(∀b,S b↔b=g)/\Blk w g t cs
 lt h b hb:=by rw [(h.1 b).1 hb];exact h.2.lt
 keep h ht hn:=⟨h.1,h.2.tch ht (hn g ((h.1 g).2 rfl))⟩
section
variable {w w' :O} {L:List Asn} {e t:TypeId} {size n g:Nat} {v:V} {xs:aF} {cs:aG}
theorem Sp.start (w:O):Sp w [OldA w.heap.size w]:=⟨fun b=>b<w.heap.size,fun _ _=>trivial,⟨fun _=>Iff.rfl,zC _,zE _ _⟩,trivial⟩
theorem Sp.below {B:Nat} {w0:O} (h:Sp w L) (a:OldA B w0∈L):Below B w0 w:=(h.get a).choose_spec.2.2
theorem SpU.call (h:Sp w L):∀(Xs:List Asn) {U:Nat->Prop},SpU w' U (Xs++ [OldA w.heap.size w])->SpU w' U (Xs++L)
 | [],U,⟨S,h1,h2,_⟩=>SpU.tch (S' :=fun _=>False) (Tch.new h2.2.2) (SpU.mono h fun b a _=>h1 b ((h2.1 b).2 a)) fun _ _ _=>id
 |_::Xs,_,⟨S,h1,h2,h3⟩=>⟨S,h1,h2,SpU.call h Xs h3⟩
theorem Sp.call (h:Sp w L) (Xs:List Asn) (k:Sp w' (Xs++ [OldA w.heap.size w])):Sp w' (Xs++L):=SpU.call h Xs k
theorem Sp.c1 {X:Asn} (h:Sp w L) (k:Sp w' [X,OldA w.heap.size w]):Sp w' (X::L):=SpU.call h [X] k
theorem Sp.c2 {X Y:Asn} (h:Sp w L) (k:Sp w' [X,Y,OldA w.heap.size w]):Sp w' (X::Y::L):=SpU.call h [X,Y] k
theorem Sp.al (h:Sp w L) (o:Obj):Sp (w.alloc o) L:=h.grow ((zE _ _).alloc (zC _) o)
theorem Sp.drew (h:Sp w L):Sp w.drew L:=h.grow (zE _ _).drew
theorem Sp.drewN (h:Sp w L) (k:Nat):Sp (w.drewN k) L:=h.grow (zd (zE _ _) k)
theorem Sp.blk (h:Sp w L) (t:TypeId) (cs:aG):Sp (w.alloc (.cells cs t)) (BlkA w.heap.size t cs::L):=
 h.new (S:=fun b=>b=w.heap.size) ((zE _ _).alloc (zC _) _) ⟨fun _=>Iff.rfl,Blk.new w t cs⟩ (fun b a=>by omega)
theorem Sp.row (h:Sp w L) (c:zt w' (Frm w.heap.size) e size v n xs) (a:Below w.heap.size w w'):Sp w' (RowA e size v n xs::L):=
 h.new (S:=fun b=>v.ownBlock=some b) a ⟨fun _=>Iff.rfl,c.mono fun _ _ _=>trivial⟩ (fun b a=>(c.lt b a).1)
theorem Sp.lit (h:Sp w L) (cs:aG) (e:TypeId) (size n:Nat) (b:cs.size=n*size) (a:n<=maxLen):Sp (w.alloc (.cells cs e)) (RowA e size (.slice (some ⟨w.heap.size,0,none⟩) n n) n cs.toList::L):=
 h.row (Zn w cs e size n b a (zC _)) ((zE _ _).alloc (zC _) _)
theorem Sp.nil (h:Sp w L) (e:TypeId) (size:Nat):Sp w (RowA e size (.slice none 0 0) 0 []::L):=
 h.row (ZJ w _ e size) (zE _ _)
theorem Sp.set (h:Sp w (BlkA g t cs::L)) (i:Nat) (u:V):Sp (w.setCell ⟨g,i,none⟩ u) (BlkA g t (cs.setIfInBounds i u)::L):=
 h.upd fun S a=>⟨S,⟨a.1,a.2.set_ i u⟩,Tch.setCell (S:=S) (p:=⟨g,i,none⟩) w ((a.1 g).2 rfl) u,fun _ b=> .inl b⟩
theorem Sp.blkOf (h:Sp w L) (a:BlkA g t cs∈L):Blk w g t cs:=(h.get a).choose_spec.2
theorem Sp.cell (h:Sp w L) (a:BlkA g t cs∈L) (i:Nat):w.cell? ⟨g,i,none⟩=cs[i]? :=(h.blkOf a).cell i
theorem Sp.cl (h:Sp w L) (a:BlkA g t cs∈L) (i:Nat) {v:V} (e:cs[i]? =some v:=by exact gi rfl):w.cell? ⟨g,i,none⟩=some v:=(h.cell a i).trans e
theorem Sp.rowOf (h:Sp w L) (a:RowA e size v n xs∈L):zt w (fun _=>True) e size v n xs:=(h.get a).choose_spec.2
theorem Sp.rc {A:aA} {c:Nat} (h:Sp w L) (a:RowA e size (.slice A n c) n xs∈L):RC w size A n xs:=(h.rowOf a).rc
theorem Sp.clip {A:aA} {c:Nat} (h:Sp w (RowA e size (.slice A n c) n xs::L)):Sp w (RowA e size (.slice A n n) n xs::L):=
 h.turn fun S a=>⟨fun b=>by rw [a.1 b];cases A<;>simp [Value.ownBlock],a.2.clip⟩
end
end Go.Proofs.YtjbhbfaeielbiaaGreatDoor

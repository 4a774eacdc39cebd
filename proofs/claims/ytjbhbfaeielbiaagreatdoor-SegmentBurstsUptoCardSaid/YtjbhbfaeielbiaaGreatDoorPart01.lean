import Derived.Deep.RegionHeld
import Derived.RangeFuncCalls
import Derived.Deep.DrawnRows
import Derived.Deep.AppendLies
import Derived.Test.YtjbhbfaeielbiaaGreatDoorProg
import Derived.WalkSpells
import Derived.WalkLawsBesides
import Derived.Lib.Hide
import Derived.Maps.OwnIn
import Derived.Deep.AppendSrc
import Derived.Lib.VarintBits
import Derived.BigQuiet
set_option maxRecDepth 100000
set_option maxHeartbeats 8000000
set_option linter.unusedVariables false
set_option linter.unusedSimpArgs false
namespace Go.Proofs.YtjbhbfaeielbiaaGreatDoor
open Go Go.RowKit
abbrev x7:=@List.flatMap_nil
abbrev x9:=@Array.getElem?_eq_none
abbrev xB:=@List.set_append_right
abbrev xE:=@List.foldl_append
abbrev xH:=@Array.replicate_zero
abbrev xI:=@Array.replicate_succ
abbrev xK:=@Nat.add_mul
abbrev xL:=@List.take_succ_cons
abbrev xM:=@List.append_toArray
abbrev xO:=@List.getElem?_set
abbrev xU:=@Nat.two_pow_pos
abbrev xZ:=@List.not_mem_nil
abbrev xe:=@List.mem_or_eq_of_mem_set
abbrev xf:=@List.push_toArray
abbrev xg:=@List.length_range
abbrev yA:=@World.cell?_alloc_lt
abbrev yB:=@Nat.pow_le_pow_right
abbrev yD:=@List.map_map
abbrev yE:=@BitVec.ofInt_natCast
abbrev yF:=@List.getElem?_toArray
abbrev yG:=@Option.some.inj
abbrev yH:=@List.map_cons
abbrev yI:=@List.cons_append
abbrev yJ:=@BitVec.toNat_ofNat
abbrev yM:=@List.flatten_cons
abbrev yO:=@List.length_nil
abbrev yP:=@List.size_toArray
abbrev yQ:=@ByteArray.size_extract
abbrev yS:=@List.flatMap_append
abbrev yU:=@CallsIn.inRound
abbrev yV:=@Array.getElem?_setIfInBounds
abbrev yX:=@List.ext_getElem?
abbrev yf:=@List.flatten_append
abbrev yh:=@Nat.sub_self
abbrev yj:=@Nat.mul_le_mul_right
abbrev yk:=@Option.map_some
abbrev yo:=@List.filterMap_cons
abbrev yq:=@Option.getD_some
abbrev yr:=@Nat.mul_one
abbrev yt:=@Nat.add_zero
abbrev yu:=@List.mem_of_mem_take
abbrev yw:=@List.set_cons_zero
abbrev yx:=@List.mem_cons
abbrev yy:=@List.getElem?_take
abbrev z6:=@List.length_cons
abbrev z7:=@Array.getElem?_setIfInBounds_ne
abbrev z8:=@List.getElem?_of_mem
abbrev z9:=@List.getElem?_append_left
abbrev zA:=@Lib.hid
abbrev zB:=@List.getElem?_eq_getElem
abbrev zC:=@Nat.le_refl
abbrev zD:=@List.mem_of_getElem?
abbrev zE:=@Below.refl
abbrev zF:=@List.take_of_length_le
abbrev zG:=@List.length_append
abbrev zH:=@List.getElem?_map
abbrev zI:=@List.take_add_one
abbrev zJ:=@Nat.zero_le
abbrev zK:=@List.length_map
abbrev zM:=@Bool.and_eq_true
abbrev zO:=@List.append_assoc
abbrev zQ:=@List.drop_eq_nil_of_le
abbrev zR:=@List.getElem?_append_right
abbrev zS:=@List.eq_nil_of_length_eq_zero
abbrev zT:=@IntKind.wrap_i64
abbrev zU:=@Go.wp_at_zero
abbrev zV:=@Go.wp_at_succ
abbrev zW:=@IntKind.wrap_u64
abbrev zX:=@Nat.lt_of_lt_of_le
abbrev zY:=@Nat.le_trans
abbrev zZ:=@List.nil_append
abbrev za:=@List.drop_eq_getElem_cons
abbrev zd:=@Go.below_drewN
abbrev ze:=@List.length_drop
abbrev zf:=@List.getElem?_cons_zero
abbrev zh:=@List.getElem?_eq_none
abbrev zi:=@Nat.eq_zero_or_pos
abbrev zj:=@List.getElem?_cons_succ
abbrev zk:=@Nat.lt_or_ge
abbrev zm:=@List.getD_eq_getElem?_getD
abbrev zo:=@List.append_nil
abbrev zp:=@List.flatMap_cons
abbrev zq:=@List.getElem?_range
abbrev zr:=@List.length_take
abbrev zu:=@List.take_append_drop
abbrev zw:=@List.map_append
abbrev zx:=@Nat.zero_add
abbrev zy:=@Nat.mod_eq_of_lt
abbrev O:=World
abbrev V:=Value
abbrev aA:=Option Addr
abbrev aB:=ByteArray
abbrev aC:=List UInt8
abbrev aD:=List Int
abbrev aE:=List Nat
abbrev aF:=List V
abbrev aG:=Array V
theorem eX {α:Sort _} (a:α):∃b,a=b:=⟨a,rfl⟩
theorem gi {α:Type} {l:List α} {i:Nat} {x:α} (h:l[i]? =some x):l.toArray[i]? =some x:=by simpa using h
theorem sa {α:Type} (l:List α) (i:Nat) (a:α):l.toArray.setIfInBounds i a=(l.set i a).toArray:=List.setIfInBounds_toArray l i a
theorem s0 {α:Type} (x:α) (l:List α) (a:α):(x::l).set 0 a=a::l:=yw
theorem s1 {α:Type} (x:α) (l:List α) (i:Nat) (a:α):(x::l).set (i+1) a=x::l.set i a:=List.set_cons_succ
section
variable {P:Program} {ops:Array Oper} {Q:Exit->Act->World->Prop} {S:World->Prop} {md:Region.Mode}
theorem hF (i:Nat) {oi:Oper} {v:Value} {n:Nat} {l l' :Array Bool} {a a' :Act} {w:World} (h:wpAnyH P md ops Q S n l' a' w) (hi:ops[i]? =some oi:=by exact gi rfl) (hs:Region.noSelect ops=true:=by kernel_rfl) (hf:Region.free md ops l i=true:=by kernel_rfl) (hr:(Region.ready md ops l).contains i=true:=by kernel_rfl) (hw:Region.wanted oi (yielded ops a.tmps)=true:=by rfl) (hy:∀w,S w->(execOp a.eval oi).run P w= .ok (.value v) w:=by intro w hT;(try dsimp only at hT);(try go_split_ands);go_simp;try (with_reducible rfl)) (hl:l.setIfInBounds i true=l' :=by (try simp only [sa,s0,s1]);rfl) (ha:a.put oi.dst v=a' :=by (try simp only [Act.put,sa,s0,s1]);rfl) (hQ:∀c a w,Q (.panic c) (a.put oi.dst v) w->Q (.panic c) a w:=by exact fun _ _ _ h=>h) (hS:S w:=by assumption):wpAnyH P md ops Q S (n+1) l a w:=by
 subst hl ha;exact wpAnyH_take hi hs hf hr hQ (.inl ⟨hw,hy⟩) hS h
end
theorem mF {P:Program} (fn:Fn) (first cap:Array Value) (w:World):(Instr.makeFunc fn first cap).run P w= .ok (.func fn first cap) w:=rfl
theorem eN {P:Program} {t e:TypeId} (h:P.underlying t=some (.slice e)) (w:World) (a:Option Addr) (n c n' c' :Nat):(binOp .eql t (.slice a n c) (.slice none n' c')).run P w= .ok (.bool a.isNone) w:=Lib.run_eql_slice_nil w _ _ a n c n' c' h
section
variable {F:Fence} {k:Nat} {P:Program} {ops:Array Oper} {Q:Exit->Act->World->Prop} {md:Region.Mode}
theorem iF (i:Nat) (v:Value) {oi:Oper} {n:Nat} {l:Array Bool} {a:Act} {w:World} (h:wpAnyIn F k P md ops Q n (l.setIfInBounds i true) (a.put oi.dst v) w) (hi:ops[i]? =some oi:=by rfl) (hro:F.round=none:=by rfl) (hs:Region.noSelect ops=true:=by kernel_rfl) (hf:Region.free md ops l i=true:=by kernel_rfl) (hr:(Region.ready md ops l).contains i=true:=by kernel_rfl) (hw:Region.wanted oi (yielded ops a.tmps)=true:=by rfl) (hy:∀w,(execOp a.eval oi).run P w= .ok (.value v) w:=by intro w;go_simp) (hQ:∀c a w,Q (.panic c) (a.put oi.dst v) w->Q (.panic c) a w:=by exact fun _ _ _ h=>h) (hz:∀w,oi.about P w a.eval=none:=by exact fun _=>rfl):wpAnyIn F k P md ops Q (n+1) l a w:=
 wpAnyIn_take hro hi hs hf hr hQ ⟨.inl ⟨hw,hy⟩,hz⟩ h
end
open Go.RowKit
theorem tB (a:Addr) (n:Nat):(a.add n).block=a.block:=by unfold Addr.add;split<;>rfl
def xA (w:O) (B size:Nat) (A:aA) (n:Nat) (xs:aF):Prop:=
 xs.length=n*size/\(0<n->∃ad,A=some ad/\ad.block<B/\∀j u,xs[j]? =some u->w.cell? (ad.add j)=some u)
section
variable {w w' :O} {B B' size n:Nat} {A:aA} {xs:aF}
theorem xA.at_ {k:Nat} (h:xA w B 1 A n xs) (hk:k<n):∃ad u,A=some ad/\ad.block<B/\xs[k]? =some u/\w.cell? (ad.add k)=some u:=by
 obtain⟨ad,e,hb,hc⟩:=h.2 (by omega);have hl:k<xs.length:=by have:=h.1;omega
 exact⟨ad,xs[k],e,hb,zB hl,hc k _ (zB hl)⟩
theorem xA.keep (h:xA w B size A n xs) (hk:∀p:Addr,p.block<B->w'.cell? p=w.cell? p):xA w' B size A n xs:=
 ⟨h.1,fun hn=>by
  obtain⟨ad,e,hb,hc⟩:=h.2 hn;exact⟨ad,e,hb,fun j u hu=>(hk _ (by rw [tB];exact hb)).trans (hc j u hu)⟩⟩
theorem xA.alloc (h:xA w B size A n xs) (hB:B<=w.heap.size) (o:Obj):xA (w.alloc o) B size A n xs:=h.keep fun p hp=>yA w o p (by omega)
theorem xA.of_own {base:Nat} {e:TypeId} {c:Nat} (h:w.ownsRow base e size (.slice A n c) n xs):xA w w.heap.size size A n xs:=by
 refine⟨h.1,fun hn=> ?_⟩;obtain⟨g,cap,hv,_,hlt⟩:=h.form hn;have hA:A=some ⟨g,0,none⟩:=by injection hv
 subst hA;exact⟨_,rfl,hlt,h.cells (g:=g) rfl⟩
end
def Blk (w:O) (g:Nat) (t:TypeId) (cs:aG):Prop:=w.heap[g]? =some (.cells cs t (0,0))
section
variable {w w' :O} {g:Nat} {t:TypeId} {cs:aG}
theorem Blk.lt (h:Blk w g t cs):g<w.heap.size:=by
 rcases zk g w.heap.size with hlt|hge
 ·exact hlt
 ·unfold Blk at h;rw [x9 hge]at h;cases h
theorem Blk.cell (h:Blk w g t cs) (i:Nat):w.cell? ⟨g,i,none⟩=cs[i]? :=cell_of_row w g i cs t (0,0) h
theorem Blk.frozen (h:Blk w g t cs) (i:Nat):w.frozen? ⟨g,i,none⟩=false:=by
 unfold Blk at h;simp [World.frozen?,h]
theorem Blk.new (w:O) (t:TypeId) (cs:aG):Blk (w.alloc (.cells cs t)) w.heap.size t cs:=heap_alloc_new w _
theorem Blk.drew (h:Blk w g t cs):Blk w.drew g t cs:=h
theorem Blk.alloc (h:Blk w g t cs) (o:Obj):Blk (w.alloc o) g t cs:=(Below.heap_alloc w o g h.lt).trans h
theorem Blk.set_ (h:Blk w g t cs) (i:Nat) (u:V):Blk (w.setCell ⟨g,i,none⟩ u) g t (cs.setIfInBounds i u):=by
 unfold Blk at h⊢;simp [World.setCell,Array.getElem?_modify,h]
theorem Blk.below {B:Nat} (h:Blk w g t cs) (hb:Below B w w') (hg:g<B):Blk w' g t cs:=(hb.block g hg).trans h
theorem Blk.grown {row:Option Nat} (h:Blk w g t cs) (hb:w.grownBy w' row) (hg:some g≠row):Blk w' g t cs:=(hb.block g h.lt hg).trans h
theorem Blk.ne_ {g' :Nat} {t' :TypeId} {cs' :aG} (h:Blk w g t cs) (h' :Blk w g' t' cs') (hne:t≠t'):g≠g' :=by
 rintro rfl;unfold Blk at h h';rw [h]at h'
 injection h' with h'
 injection h' with _ ht
 exact hne ht
end
section
variable {P:Program} (w:O)
theorem Vl (base:Nat) (t ty e:TypeId) (i:TypeInfo) (size:Nat) (ht:P.underlying t=some (.slice e)) (hi:P.info? e=some i)
 (v:V) (n:Nat) (xs:aF) (hown:w.ownsRow base e size v n xs) (c:Nat):(Builtin.append_ #[t,t] ty #[v,.slice none 0 c]).run P w= .ok v w:=by
 rcases hown.2 with⟨rfl,rfl⟩|⟨g,cap,cur,rfl,_,_,hnc,_⟩
 ·simp [Builtin.append_,run_underlying ht,sizeOf,typeInfo,hi,Builtin.lenOf,Builtin.firstCells]
 ·simp [Builtin.append_,run_underlying ht,sizeOf,typeInfo,hi,Builtin.lenOf,Builtin.firstCells,hnc,storeCells]
theorem rC (base:Nat) (t ty e:TypeId) (i:TypeInfo) (z:V) (size bytes:Nat) (ht:P.underlying t=some (.slice e)) (hi:P.info? e=some i) (hz:i.zero=some z)
 (hsize:i.size=size) (hby:i.bytes=bytes) (hzs:z.cells.size=size) (hsz:0<size)
 (v:V) (n:Nat) (xs:aF) (hown:w.ownsRow base e size v n xs)
 (B:Nat) (A:aA) (m c:Nat) (news:aF) (hr:xA w B size A m news) (h1:∀u∈news,u.oneCell' =true)
 (h63:n+m<=maxLen) (hbytes:(n+m)*bytes<=140737488355328) (hbase:base<=w.heap.size):
 ∃v' w',(Builtin.append_ #[t,t] ty #[v,.slice A m c]).run P w= .ok v' w' /\w'.ownsRow base e size v' (n+m) (xs++news)/\w.grownBy w' v.ownBlock/\
  (v'.ownBlock=v.ownBlock\/v'.ownBlock=some w.heap.size):=by
 rcases A with _|ad
 ·have hm:m=0:=by
   rcases zi m with h0|h0
   ·exact h0
   ·obtain⟨ad,h,_⟩:=hr.2 h0;cases h
  subst hm;have hn:news= []:=zS (by simpa using hr.1);subst hn;exact⟨v,w,Vl w base t ty e i size ht hi v n xs hown c,by simpa using hown,World.grownBy.refl w _,.inl rfl⟩
 ·have hcells:∀j u,news[j]? =some u->w.cell? (ad.add j)=some u:=by
   intro j u hu;rcases zi m with h0|h0
   ·subst h0;have hn:news= []:=zS (by simpa using hr.1);subst hn;simp at hu
   ·obtain⟨ad',h,_,hc⟩:=hr.2 h0
    injection h with h
    subst h;exact hc j u hu
  obtain⟨v',w',hrun,h2,h3,_,h5⟩:=run_append_own_at (P:=P) w base t ty e i z size bytes ht hi hz hsize hby hzs hsz v n xs hown ad m c news hr.1 hcells h1 h63 hbytes hbase;exact⟨v',w',hrun,h2,h3,h5⟩
theorem Wx {o:Oper} {a:Act} {K:Act->O->Prop} {Q:Exit->Act->O->Prop} (s x:Operand) (t:TypeId)
 (ho:o.op= .call {callee:= .builtin .append,args:= #[s,x],argTypes:= #[t,t]})
 (base:Nat) (e:TypeId) (i:TypeInfo) (z:V) (size bytes:Nat) (ht:P.underlying t=some (.slice e)) (hi:P.info? e=some i) (hz:i.zero=some z)
 (hsize:i.size=size) (hby:i.bytes=bytes) (hzs:z.cells.size=size) (hsz:0<size)
 (v:V) (n:Nat) (xs:aF) (hs:a.eval s=v) (hown:w.ownsRow base e size v n xs)
 (B:Nat) (A:aA) (m c:Nat) (news:aF) (hx:a.eval x= .slice A m c) (hr:xA w B size A m news) (h1:∀u∈news,u.oneCell' =true)
 (h63:n+m<=maxLen) (hbytes:(n+m)*bytes<=140737488355328) (hbase:base<=w.heap.size)
 (h:∀v' w',w'.ownsRow base e size v' (n+m) (xs++news)->w.grownBy w' v.ownBlock->(v'.ownBlock=v.ownBlock\/v'.ownBlock=some w.heap.size)->K (a.put o.dst v') w'):o.wp P a w K Q:=by
 obtain⟨v',w',hrun,h2,h3,h4⟩:=rC (P:=P) w base t o.type e i z size bytes ht hi hz hsize hby hzs hsz v n xs hown B A m c news hr h1 h63 hbytes hbase;unfold Oper.wp execOp;simp only [ho,resolve,invoke,builtin,Sem.run_bind,Sem.run_pure,Result.andThen_ok,List.map_toArray,yH,List.map_nil,hs,hx,hrun];exact h v' w' h2 h3 h4
theorem Xj {ops:Array Oper} {rest:List Oper} {o:Oper} {a:Act} {Q:Exit->Act->O->Prop} (hgd:o.guard=none) (s x:Operand) (t:TypeId)
 (ho:o.op= .call {callee:= .builtin .append,args:= #[s,x],argTypes:= #[t,t]})
 (base:Nat) (e:TypeId) (i:TypeInfo) (z:V) (size bytes:Nat) (ht:P.underlying t=some (.slice e)) (hi:P.info? e=some i) (hz:i.zero=some z)
 (hsize:i.size=size) (hby:i.bytes=bytes) (hzs:z.cells.size=size) (hsz:0<size)
 (v:V) (n:Nat) (xs:aF) (hs:a.eval s=v) (hown:w.ownsRow base e size v n xs)
 (B:Nat) (A:aA) (m c:Nat) (news:aF) (hx:a.eval x= .slice A m c) (hr:xA w B size A m news) (h1:∀u∈news,u.oneCell' =true)
 (h63:n+m<=maxLen) (hbytes:(n+m)*bytes<=140737488355328) (hbase:base<=w.heap.size)
 (h:∀v' w',w'.ownsRow base e size v' (n+m) (xs++news)->w.grownBy w' v.ownBlock->(v'.ownBlock=v.ownBlock\/v'.ownBlock=some w.heap.size)->wpList P ops Q rest (a.put o.dst v') w'):wpList P ops Q (o::rest) a w:=
 wpList_plain hgd fun _ hK=>Wx w s x t ho base e i z size bytes ht hi hz hsize hby hzs hsz v n xs hs hown B A m c news hx hr h1 h63 hbytes hbase fun v' w' h2 h3 h4=>hK _ _ (h v' w' h2 h3 h4)
theorem Qw {ops:Array Oper} {o:Oper} {a:Act} {K:Act->O->Prop} {Q:Exit->Act->O->Prop} {E:Prop} (hgd:o.guard=none) (s x:Operand) (t:TypeId)
 (ho:o.op= .call {callee:= .builtin .append,args:= #[s,x],argTypes:= #[t,t]})
 (base:Nat) (e:TypeId) (i:TypeInfo) (z:V) (size bytes:Nat) (ht:P.underlying t=some (.slice e)) (hi:P.info? e=some i) (hz:i.zero=some z)
 (hsize:i.size=size) (hby:i.bytes=bytes) (hzs:z.cells.size=size) (hsz:0<size)
 (v:V) (n:Nat) (xs:aF) (hs:a.eval s=v) (hown:w.ownsRow base e size v n xs)
 (B:Nat) (A:aA) (m c:Nat) (news:aF) (hx:a.eval x= .slice A m c) (hr:xA w B size A m news) (h1:∀u∈news,u.oneCell' =true)
 (h63:n+m<=maxLen) (hbytes:(n+m)*bytes<=140737488355328) (hbase:base<=w.heap.size)
 (h:∀v' w',w'.ownsRow base e size v' (n+m) (xs++news)->w.grownBy w' v.ownBlock->(v'.ownBlock=v.ownBlock\/v'.ownBlock=some w.heap.size)->K (a.put o.dst v') w'):
 if Region.wanted o (yielded ops a.tmps)=true then Oper.wp P o a w K Q else E:=by
 have hw:Region.wanted o (yielded ops a.tmps)=true:=by simp [Region.wanted,hgd]
 rw [if_pos hw];exact Wx w s x t ho base e i z size bytes ht hi hz hsize hby hzs hsz v n xs hs hown B A m c news hx hr h1 h63 hbytes hbase h
end
theorem kZ (w:O) (cs:aG) (t:TypeId) (n size:Nat) (h:cs.size=n*size):
 xA (w.alloc (.cells cs t)) (w.heap.size+1) size (some ⟨w.heap.size,0,none⟩) n cs.toList:=by
 refine⟨by simpa using h,fun _=>⟨_,rfl,by simp,fun j u hu=> ?_⟩⟩;have hb:Blk (w.alloc (.cells cs t)) w.heap.size t cs:=Blk.new w t cs;have:=hb.cell j;rw [show(⟨w.heap.size,0,none⟩:Addr).add j=⟨w.heap.size,j,none⟩ by unfold Addr.add;split<;>simp_all]
 rw [this]
 simpa using hu
theorem Uu {base:Nat} {w w1 w2:O} {v v' :V} (h:Below base w w1) (hb:base<=w1.heap.size) (hv:v.ownBlock=none\/∃k,v.ownBlock=some k/\base<=k) (hg:w1.grownBy w2 v.ownBlock):Below base w w2:=
 h.grown hg hb (fun k hk=>by
  rcases hv with e|⟨k',e,hk'⟩
  ·rw [e]at hk;cases hk
  ·rw [e]at hk;cases hk;exact hk')
theorem IX {w:O} {base:Nat} {e:TypeId} {size n:Nat} {v:V} {xs:aF} (h:w.ownsRow base e size v n xs):v.ownBlock=none\/∃k,v.ownBlock=some k/\base<=k:=by
 rcases hv:v.ownBlock with _|k
 ·exact .inl rfl
 ·exact .inr ⟨k,rfl,(h.lt k hv).1⟩
theorem K8 {w:O} {base:Nat} {e:TypeId} {size n m cap:Nat} {A:aA} {xs:aF} (h:w.ownsRow base e size (.slice A m cap) n xs):n<=cap/\cap<=9223372036854775807:=by
 rcases h.2 with⟨hv,hn⟩|⟨g,c,cur,hv,_,_,h1,h2,_⟩
 ·injection hv with _ _ hc
  omega
 ·injection hv with _ _ hc
  unfold maxLen at h2;omega
theorem U7 {w:O} {base:Nat} {e:TypeId} {size n:Nat} {v:V} {xs:aF} (h:w.ownsRow base e size v n xs):∃A cap,v= .slice A n cap:=by
 rcases h.2 with⟨rfl,rfl⟩|⟨g,c,cur,rfl,_⟩
 ·exact⟨_,_,rfl⟩
 ·exact⟨_,_,rfl⟩
theorem ye {w:O} {a:Addr} {v:V} (h:w.cell? a=some v):a.block<w.heap.size:=by
 rcases zk a.block w.heap.size with hlt|hge
 ·exact hlt
 ·unfold World.cell? at h;rw [x9 hge]at h;simp at h
theorem Yl (g j:Nat):(⟨g,0,none⟩:Addr).add j=⟨g,j,none⟩:=by unfold Addr.add;split<;>simp_all
theorem Qq (b off j:Nat):(⟨b,off,none⟩:Addr).add j=⟨b,off+j,none⟩:=by unfold Addr.add;split<;>simp_all
class Rep (α:Type) where
 size:Nat
 pos:0<size
 rep:O->(Nat->Prop)->aF->α->Prop
 len:∀{w F cs x},rep w F cs x->cs.length=size
 keep:∀{w w' :O} {F F' :Nat->Prop} {cs x},rep w F cs x->(∀p:Addr,F p.block->w'.cell? p=w.cell? p)->(∀b,F b->F' b)->rep w' F' cs x
 one:∀{w F cs x u},rep w F cs x->u∈cs->u.oneCell' =true
open Rep (rep)
theorem Rep.below {α:Type} [Rep α] {w w' :O} {cs:aF} {x:α} {B:Nat} (h:rep w (·<B) cs x) (hb:Below B w w'):rep w' (·<B) cs x:=
 Rep.keep h (fun _ hp=>hb.cell hp) (fun _ h=>h)
theorem Rep.more {α:Type} [Rep α] {w:O} {cs:aF} {x:α} {F F' :Nat->Prop} (h:rep w F cs x) (hF:∀b,F b->F' b):rep w F' cs x:=
 Rep.keep h (fun _ _=>rfl) hF
theorem Rep.on {α:Type} [Rep α] {w w' :O} {cs:aF} {x:α} (h:rep w (·<w.heap.size) cs x) (hb:Below w.heap.size w w'):rep w' (·<w'.heap.size) cs x:=
 Rep.keep h (fun _ hp=>hb.cell hp) (fun b h=>zX h hb.size)
def In64 (n:Int):Prop:= -9223372036854775808<=n/\n<=9223372036854775807
instance:Rep Int where
 size:=1
 pos:=by decide
 rep _ _ cs n:=cs= [.int .i64 n]/\In64 n
 len:=by rintro _ _ _ _ ⟨rfl,_⟩;rfl
 keep:=fun h _ _=>h
 one:=by rintro _ _ _ _ _ ⟨rfl,_⟩ hu;simp at hu;subst hu;rfl
instance:Rep Bool where
 size:=1
 pos:=by decide
 rep _ _ cs b:=cs= [.bool b]
 len:=by rintro _ _ _ _ rfl;rfl
 keep:=fun h _ _=>h
 one:=by rintro _ _ _ _ _ rfl hu;simp at hu;subst hu;rfl
instance:Rep ByteArray where
 size:=1
 pos:=by decide
 rep _ _ cs s:=cs= [.string s]/\s.size<=9223372036854775807
 len:=by rintro _ _ _ _ ⟨rfl,_⟩;rfl
 keep:=fun h _ _=>h
 one:=by rintro _ _ _ _ _ ⟨rfl,_⟩ hu;simp at hu;subst hu;rfl
def xp {α:Type} [Rep α] (w:O) (F:Nat->Prop) (b off:Nat) (k:Nat) (x:α):Prop:=
 ∃cs,rep w F cs x/\∀j u,cs[j]? =some u->w.cell? ⟨b,off+k*Rep.size α+j,none⟩=some u
def zL {α:Type} [Rep α] (w:O) (F:Nat->Prop) (A:aA) (n c:Nat) (xs:List α):Prop:=
 xs.length=n/\n<=c/\c<=9223372036854775807/\∀k x,xs[k]? =some x->∃b off,A=some ⟨b,off,none⟩/\F b/\xp w F b off k x
theorem xp.keep {α:Type} [Rep α] {w w' :O} {F F' :Nat->Prop} {b off:Nat} {k:Nat} {x:α} (h:xp w F b off k x) (hc:∀p:Addr,F p.block->w'.cell? p=w.cell? p) (hF:∀b,F b->F' b) (hb:F b):xp w' F' b off k x:=by
 obtain⟨cs,h1,h2⟩:=h;exact⟨cs,Rep.keep h1 hc hF,fun j u hu=>(hc _ hb).trans (h2 j u hu)⟩
theorem zL.keep {α:Type} [Rep α] {w w' :O} {F F' :Nat->Prop} {A:aA} {n c:Nat} {xs:List α} (h:zL w F A n c xs) (hc:∀p:Addr,F p.block->w'.cell? p=w.cell? p) (hF:∀b,F b->F' b):zL w' F' A n c xs:=by
 obtain⟨h1,h2,h3,h4⟩:=h;refine⟨h1,h2,h3,fun k x hx=> ?_⟩;obtain⟨b,off,e,hb,he⟩:=h4 k x hx;exact⟨b,off,e,hF _ hb,he.keep hc hF hb⟩
instance {α:Type} [Rep α]:Rep (List α) where
 size:=1
 pos:=by decide
 rep w F cs xs:=∃A n c,cs= [.slice A n c]/\zL w F A n c xs
 len:=by rintro _ _ _ _ ⟨A,n,c,rfl,_⟩;rfl
 keep:=by rintro _ _ _ _ _ _ ⟨A,n,c,rfl,h⟩ hc hF;exact⟨A,n,c,rfl,h.keep hc hF⟩
 one:=by rintro _ _ _ _ _ ⟨A,n,c,rfl,_⟩ hu;simp at hu;subst hu;rfl
theorem zN {α:Type} {xs:List α} {k:Nat} {x:α} (h:xs[k]? =some x):k<xs.length:=by
 rcases zk k xs.length with hl|hl
 ·exact hl
 ·rw [zh hl]at h;cases h
section
variable {α:Type} [Rep α] {w w' :O} {F F' :Nat->Prop} {A:aA} {n c:Nat} {xs:List α}
theorem zL.length (h:zL w F A n c xs):xs.length=n:=h.1
theorem zL.cap (h:zL w F A n c xs):n<=c/\c<=9223372036854775807:=⟨h.2.1,h.2.2.1⟩
theorem zL.nil:zL w F none 0 0 ([]:List α):=⟨rfl,zC _,by omega,fun k x h=>by simp at h⟩
theorem zL.below {B:Nat} (h:zL w (·<B) A n c xs) (hb:Below B w w'):zL w' (·<B) A n c xs:=h.keep (fun _ hp=>hb.cell hp) (fun _ h=>h)
theorem zL.on (h:zL w (·<w.heap.size) A n c xs) (hb:Below w.heap.size w w'):zL w' (·<w'.heap.size) A n c xs:=h.keep (fun _ hp=>hb.cell hp) (fun b h=>zX h hb.size)
theorem zL.more (h:zL w F A n c xs) (hF:∀b,F b->F' b):zL w F' A n c xs:=h.keep (fun _ _=>rfl) hF
theorem zL.at_ {k:Nat} (h:zL w F A n c xs) (hk:k<n):∃b off x,A=some ⟨b,off,none⟩/\Hid (xs[k]? =some x)/\F b/\xp w F b off k x:=by
 have hl:k<xs.length:=by have:=h.1;omega
 obtain⟨b,off,e,hb,he⟩:=h.2.2.2 k xs[k] (zB hl);exact⟨b,off,xs[k],e,zB hl,hb,he⟩
theorem zL.elem {b off:Nat} {k:Nat} {x:α} (h:zL w F (some ⟨b,off,none⟩) n c xs) (hx:xs[k]? =some x):F b/\xp w F b off k x:=by
 obtain⟨b',off',e,hb,he⟩:=h.2.2.2 k x hx;cases e;exact⟨hb,he⟩
theorem zL.of_elems {b off:Nat} (hl:xs.length=n) (hc:n<=c) (hm:c<=9223372036854775807) (hb:F b) (h:∀k x,xs[k]? =some x->xp w F b off k x):zL w F (some ⟨b,off,none⟩) n c xs:=
 ⟨hl,hc,hm,fun k x hx=>⟨b,off,rfl,hb,h k x hx⟩⟩
end
theorem xp.int {w:O} {F:Nat->Prop} {b off k:Nat} {x:Int} (h:xp w F b off k x):w.cell? ⟨b,off+k,none⟩=some (.int .i64 x)/\In64 x:=by
 obtain⟨cs,⟨rfl,h1⟩,hc⟩:=h;have:=hc 0 _ rfl;simp only [show Rep.size Int=1 from rfl,yr,yt]at this;exact⟨this,h1⟩
theorem xp.str {w:O} {F:Nat->Prop} {b off k:Nat} {x:aB} (h:xp w F b off k x):w.cell? ⟨b,off+k,none⟩=some (.string x)/\x.size<=9223372036854775807:=by
 obtain⟨cs,⟨rfl,h1⟩,hc⟩:=h;have:=hc 0 _ rfl;simp only [show Rep.size aB=1 from rfl,yr,yt]at this;exact⟨this,h1⟩
theorem xp.list {α:Type} [Rep α] {w:O} {F:Nat->Prop} {b off k:Nat} {x:List α} (h:xp w F b off k x):∃A n c,w.cell? ⟨b,off+k,none⟩=some (.slice A n c)/\zL w F A n c x:=by
 obtain⟨cs,⟨A,n,c,rfl,h1⟩,hc⟩:=h;have:=hc 0 _ rfl;simp only [show Rep.size (List α)=1 from rfl,yr,yt]at this;exact⟨A,n,c,this,h1⟩
theorem xX {size:Nat}:∀(css:List aF) (k j:Nat) (cs:aF),(∀c∈css,c.length=size)->css[k]? =some cs->j<size->css.flatten[k*size+j]? =cs[j]?
 | [],_,_,_,_,h,_=>by simp at h
 |c::css,0,j,cs,hl,h,hj=>by
  simp at h;subst h;have:=hl c (by simp);rw [yM,Nat.zero_mul,zx,z9 (by omega)]
 |c::css,k+1,j,cs,hl,h,hj=>by
  have h1:=hl c (by simp);rw [yM,zR (by rw [h1,xK];omega)];rw [show(k+1)*size+j - c.length=k*size+j by rw [h1,xK];omega];exact xX css k j cs (fun c' hc' =>hl c' (by simp [hc'])) (by simpa using h) hj
theorem Zh {size:Nat}:∀css:List aF,(∀c∈css,c.length=size)->css.flatten.length=css.length*size
 | [],_=>by simp
 |c::css,hl=>by
  rw [yM,zG,hl c (by simp),Zh css (fun c' hc' =>hl c' (by simp [hc'])),z6,xK];omega
def Fr (D:Nat->Prop) (w:O) (v:V) (b:Nat):Prop:=D b/\b<w.heap.size/\some b≠v.ownBlock
def Own {α:Type} [Rep α] (D:Nat->Prop) (w:O) (base:Nat) (e:TypeId) (v:V) (xs:List α):Prop:=
 ∃css:List aF,css.length=xs.length/\(∀(k:Nat) (cs:aF) (x:α),css[k]? =some cs->xs[k]? =some x->rep w (Fr D w v) cs x)/\w.ownsRow base e (Rep.size α) v xs.length css.flatten
section
variable {α:Type} [Rep α] {D:Nat->Prop} {w w' :O} {base:Nat} {e:TypeId} {v v' :V} {xs:List α}
theorem Own.nil (D:Nat->Prop) (w:O) (base:Nat) (e:TypeId):Own D w base e (.slice none 0 0) ([]:List α):=⟨[],rfl,fun k cs x h=>by simp at h,World.ownsRow_nil _ _ _ _⟩
theorem Own.lens {css:List aF} (hl:css.length=xs.length) (hr:∀(k:Nat) (cs:aF) (x:α),css[k]? =some cs->xs[k]? =some x->rep w (Fr D w v) cs x):∀c∈css,c.length=Rep.size α:=by
 intro c hc;obtain⟨k,hk⟩:=z8 hc;have hk2:k<xs.length:=by have:=zN hk;omega
 exact Rep.len (hr k c xs[k] hk (zB hk2))
theorem Own.form (h:Own D w base e v xs):∃A cap,v= .slice A xs.length cap:=by
 obtain⟨css,_,_,ho⟩:=h;exact U7 ho
theorem Own.from_ (h:Own D w base e v xs):v.ownBlock=none\/∃k,v.ownBlock=some k/\base<=k:=by
 obtain⟨css,_,_,ho⟩:=h;exact IX ho
theorem Own.block_lt (h:Own D w base e v xs) {k:Nat} (hk:v.ownBlock=some k):k<w.heap.size:=by
 obtain⟨css,_,_,ho⟩:=h;exact(ho.lt k hk).2
theorem Own.on (h:Own D w base e v xs) (hb:Below w.heap.size w w'):Own D w' base e v xs:=by
 obtain⟨css,hl,hr,ho⟩:=h;refine⟨css,hl,fun k cs x h1 h2=>Rep.keep (hr k cs x h1 h2) (fun p hp=>hb.cell hp.2.1) (fun b hb' =>⟨hb'.1,zX hb'.2.1 hb.size,hb'.2.2⟩),?_⟩;refine⟨ho.1,?_⟩;rcases ho.2 with hn|⟨g,cap,cur,rfl,hbg,hgg,rest⟩
 ·exact .inl hn
 ·refine .inr ⟨g,cap,cur,rfl,hbg,?_,rest⟩;rw [hb.block g (Array.getElem?_eq_some_iff.1 hgg).1];exact hgg
theorem Own.mono {base' :Nat} (h:Own D w base e v xs) (hb:base' <=base):Own D w base' e v xs:=by
 obtain⟨css,hl,hr,ho⟩:=h;refine⟨css,hl,hr,ho.1,?_⟩;rcases ho.2 with hn|⟨g,cap,cur,rfl,hbg,rest⟩
 ·exact .inl hn
 ·exact .inr ⟨g,cap,cur,rfl,zY hb hbg,rest⟩
theorem Own.alloc (h:Own D w base e v xs) (o:Obj):Own D (w.alloc o) base e v xs:=h.on ((zE _ _).alloc (zC _) o)
theorem Own.reads {A:aA} {n c:Nat} (h:Own D w base e (.slice A n c) xs):zL w (fun b=>(D b\/base<=b)/\b<w.heap.size) A n c xs:=by
 obtain⟨css,hl,hr,ho⟩:=h;have hlen:=Own.lens hl hr;have hcap:=K8 ho
 have hn:xs.length=n:=by
  rcases ho.2 with⟨hv,hx⟩|⟨g,cap,cur,hv,_⟩
  ·injection hv with _ hn _;omega
  ·injection hv with _ hn _;exact hn.symm
 refine⟨hn,by omega,hcap.2,fun k x hx=> ?_⟩;have hk:=zN hx;obtain⟨g,cap,hv,hb,hlt⟩:=ho.form (by omega)
 injection hv with hA _ _
 subst hA;refine⟨g,0,rfl,⟨.inr hb,hlt⟩,css[k]'(by omega),Rep.more (hr k _ x (zB (by omega)) hx) (fun b hb=>⟨.inl hb.1,hb.2.1⟩),fun j u hu=> ?_⟩
 have hj:j<Rep.size α:=by
  have:=hlen (css[k]'(by omega)) (List.getElem_mem _);have:=zN hu;omega
 have hc:=ho.cells (g:=g) rfl (k*Rep.size α+j) u (by rw [xX css k j _ hlen (zB (by omega)) hj];exact hu);rw [zx];rw [Yl]at hc;exact hc
end
theorem Vr {α:Type} [Rep α] {D:Nat->Prop} {w w' :O} {base:Nat} {e:TypeId} {v v' :V} {xs:List α} {y:α} {css:List aF} {cs:aF}
 (hl:css.length=xs.length) (hr:∀(k:Nat) (cs:aF) (x:α),css[k]? =some cs->xs[k]? =some x->rep w (Fr D w v) cs x)
 (hy:rep w (Fr D w v) cs y) (ho' :w'.ownsRow base e (Rep.size α) v' (xs.length+1) (css.flatten++cs))
 (hg:w.grownBy w' v.ownBlock) (hat:v'.ownBlock=v.ownBlock\/v'.ownBlock=some w.heap.size):Own D w' base e v' (xs++ [y]):=by
 have go:∀(cs:aF) (x:α),rep w (Fr D w v) cs x->rep w' (Fr D w' v') cs x:=by
  intro cs x hx;refine Rep.keep hx (fun p hp=>World.cell?_of_block (hg.block p.block hp.2.1 hp.2.2)) (fun b hb=>⟨hb.1,zX hb.2.1 hg.size,?_⟩);rcases hat with hat|hat
  ·rw [hat];exact hb.2.2
  ·rw [hat];have:=hb.2.1;simp;omega
 refine⟨css++ [cs],by simp [hl],fun k cs' x h1 h2=>go cs' x ?_,by simpa using ho'⟩;rcases zk k css.length with hk|hk
 ·rw [z9 hk]at h1;rw [z9 (by omega)]at h2;exact hr k cs' x h1 h2
 ·rw [zR hk]at h1;rw [zR (by omega)]at h2;have h3:k - css.length=0:=(by have:=zN h1;simp at this;omega);rw [h3]at h1;rw [show k - xs.length=0 by omega]at h2;simp at h1 h2;subst h1 h2;exact hy
def ints (xs:aD):aF:=xs.map (Value.int .i64)
theorem Xd (xs:aD):(ints xs).length=xs.length:=by simp [ints]
theorem dZ {xs:aD} {k:Nat} (h:k<xs.length):(ints xs)[k]? =some (.int .i64 xs[k]):=by simp [ints,h]
theorem Y3 (xs:aD):∀u∈ints xs,u.oneCell' =true:=by
 intro u hu;obtain⟨_,_,rfl⟩:=List.mem_map.1 hu;rfl
theorem zL.reads_ints {w:O} {B:Nat} {A:aA} {n c:Nat} {xs:aD} (h:zL w (·<B) A n c xs):xA w B 1 A n (ints xs):=by
 refine⟨by rw [Xd,h.length];omega,fun h0=> ?_⟩;obtain⟨b,off,x,hA,_,hb,_⟩:=h.at_ h0
 refine⟨_,hA,hb,fun j u hu=> ?_⟩;have hj:j<xs.length:=by have:=zN hu;rwa [Xd]at this
 rw [dZ hj]at hu;cases hu;subst hA;obtain⟨_,he⟩:=h.elem (zB hj);rw [Qq];exact he.int.1
theorem zL.in64 {w:O} {F:Nat->Prop} {A:aA} {n c:Nat} {xs:aD} (h:zL w F A n c xs):∀x∈xs,In64 x:=by
 intro x hx;obtain⟨k,hk⟩:=z8 hx;obtain⟨b,off,_,_,he⟩:=h.2.2.2 k x hk;exact he.int.2
section
variable {P:Program} {w:O}
theorem dO {B:Nat} {e:TypeId} {cs:aG} (h:Blk w B e cs) (m size:Nat) (hs:cs.size=m*size):xA w w.heap.size size (some ⟨B,0,none⟩) m cs.toList:=by
 refine⟨by simpa using hs,fun _=>⟨_,rfl,h.lt,fun j u hu=> ?_⟩⟩;rw [Yl,h.cell j]
 simpa using hu
theorem tE {α:Type} [Rep α] {D:Nat->Prop} {ops:Array Oper} {rest:List Oper} {o:Oper} {a:Act} {Q:Exit->Act->O->Prop} (hgd:o.guard=none) (s x:Operand) (t:TypeId)
 (ho:o.op= .call {callee:= .builtin .append,args:= #[s,x],argTypes:= #[t,t]})
 (base:Nat) (e:TypeId) (i:TypeInfo) (z:V) (bytes:Nat) (ht:P.underlying t=some (.slice e)) (hi:P.info? e=some i) (hz:i.zero=some z)
 (hsize:i.size=Rep.size α) (hby:i.bytes=bytes) (hzs:z.cells.size=Rep.size α)
 (v:V) (xs:List α) (hs:a.eval s=v) (hown:Own D w base e v xs)
 (B:Nat) (cs:aG) (y:α) (hx:a.eval x= .slice (some ⟨B,0,none⟩) 1 1) (hblk:Blk w B e cs) (hy:rep w (Fr D w v) cs.toList y)
 (h63:xs.length+1<=9223372036854775807) (hbytes:(xs.length+1)*bytes<=140737488355328) (hbase:base<=w.heap.size)
 (h:∀v' w',Own D w' base e v' (xs++ [y])->w.grownBy w' v.ownBlock->Below base w w' ->wpList P ops Q rest (a.put o.dst v') w'):wpList P ops Q (o::rest) a w:=by
 have hown0:=hown;obtain⟨css,hl,hr,hr2⟩:=hown;have hsz:cs.size=1*Rep.size α:=by have:=Rep.len hy;simpa using this
 refine Xj w hgd s x t ho base e i z (Rep.size α) bytes ht hi hz hsize hby hzs Rep.pos v xs.length css.flatten hs hr2 w.heap.size (some ⟨B,0,none⟩) 1 1 cs.toList hx (dO hblk 1 _ hsz) (fun u hu=>Rep.one hy hu) h63 hbytes hbase ?_;intro v' w' ho' hg hat
 exact h v' w' (Vr hl hr hy ho' hg hat) hg ((zE _ _).grown hg hbase (fun k hk=>by
  rcases hown0.from_ with e1|⟨k',e1,hk'⟩
  ·rw [e1]at hk;cases hk
  ·rw [e1]at hk;cases hk;exact hk'))
end
open Tryz
abbrev Frm (base:Nat):Nat->Prop:=fun b=>base<=b
structure Tch (S:Nat->Prop) (w w' :O):Prop where
 os:w'.os=w.os
 tape:w'.tape=w.tape
 output:w'.output=w.output
 size:w.heap.size<=w'.heap.size
 block:∀k,k<w.heap.size->¬S k->w'.heap[k]? =w.heap[k]?
section
variable {S S' :Nat->Prop} {w w1 w2:O}
theorem Tch.refl (S:Nat->Prop) (w:O):Tch S w w:=⟨rfl,rfl,rfl,zC _,fun _ _ _=>rfl⟩
theorem Tch.trans (h:Tch S w w1) (k:Tch S' w1 w2) (hS:∀b,b<w.heap.size->S' b->S b):Tch S w w2:=
 ⟨k.os.trans h.os,k.tape.trans h.tape,k.output.trans h.output,zY h.size k.size,fun i hi hn=>(k.block i (zX hi h.size) (fun hs=>hn (hS i hi hs))).trans (h.block i hi hn)⟩
theorem Tch.of_below {B:Nat} (h:Below B w w1) (hS:∀b,b<w.heap.size->B<=b->S b):Tch S w w1:=⟨h.os,h.tape,h.output,h.size,fun k hk hn=>h.block k (Nat.lt_of_not_le fun hb=>hn (hS k hk hb))⟩
theorem Tch.new (h:Below w.heap.size w w1):Tch S w w1:=Tch.of_below h (fun b h1 h2=>by omega)
theorem Tch.below {B:Nat} (h:Tch S w w1) (hB:B<=w.heap.size) (hS:∀b,S b->B<=b):Below B w w1:=⟨h.os,h.tape,h.output,h.size,fun k hk=>h.block k (by omega) (fun hs=>by have:=hS k hs;omega)⟩
theorem Tch.grown {row:Option Nat} (h:w.grownBy w1 row) (hS:∀b,row=some b->S b):Tch S w w1:=⟨h.os,h.tape,h.output,h.size,fun k hk hn=>h.block k hk (fun e=>hn (hS k e.symm))⟩
theorem Tch.alloc (w:O) (o:Obj):Tch S w (w.alloc o):=Tch.new ((zE _ _).alloc (zC _) o)
theorem Tch.setCell (w:O) {p:Addr} (hp:S p.block) (u:V):Tch S w (w.setCell p u):=⟨rfl,rfl,rfl,by simp [World.setCell],fun k _ hn=>Below.heap_setCell _ _ _ k (fun e=>hn (by rw [e];exact hp))⟩
theorem Tch.put (w:O) (p i:Nat) (u:V):Tch (fun b=>b=p) w (w.setCell ⟨p,i,none⟩ u):=Tch.setCell (S:=fun b=>b=p) (p:=⟨p,i,none⟩) w rfl u
theorem Tch.cell (h:Tch S w w1) {p:Addr} (hp:p.block<w.heap.size) (hn:¬S p.block):w1.cell? p=w.cell? p:=World.cell?_of_block (h.block _ hp hn)
theorem Blk.tch {g:Nat} {t:TypeId} {cs:aG} (h:Blk w g t cs) (hb:Tch S w w1) (hn:¬S g):Blk w1 g t cs:=(hb.block g h.lt hn).trans h
end
def zt (w:O) (S:Nat->Prop) (e:TypeId) (size:Nat) (v:V) (n:Nat) (xs:aF):Prop:=
 xs.length=n*size/\((v= .slice none 0 0/\n=0)\/
  ∃g cap cur,v= .slice (some ⟨g,0,none⟩) n cap/\S g/\w.heap[g]? =some (.cells cur e (0,0))/\n<=cap/\cap<=maxLen/\cap*size<=cur.size/\cur.toList.take (n*size)=xs)
section
variable {w w' :O} {S S' :Nat->Prop} {e:TypeId} {size n:Nat} {v:V} {xs:aF}
theorem ZJ (w:O) (S:Nat->Prop) (e:TypeId) (size:Nat):zt w S e size (.slice none 0 0) 0 []:=⟨by simp,.inl ⟨rfl,rfl⟩⟩
theorem Yd {base:Nat} (h:w.ownsRow base e size v n xs):zt w (Frm base) e size v n xs:=by
 refine⟨h.1,h.2.imp id ?_⟩;rintro⟨g,cap,cur,h1,h2,h3,h4,h5,h6,h7⟩;exact⟨g,cap,cur,h1,h2,h3,h4,h5,by omega,h7⟩
theorem Zn (w:O) (cs:aG) (e:TypeId) (size n:Nat) (hs:cs.size=n*size) (hm:n<=maxLen) (hS:S w.heap.size):zt (w.alloc (.cells cs e)) S e size (.slice (some ⟨w.heap.size,0,none⟩) n n) n cs.toList:=
 ⟨by simpa using hs,.inr ⟨w.heap.size,n,cs,rfl,hS,heap_alloc_new w _,zC _,hm,by omega,by rw [<-hs];exact zF (by simp)⟩⟩
theorem zt.lt (h:zt w S e size v n xs):∀k,v.ownBlock=some k->S k/\k<w.heap.size:=by
 intro k hk;rcases h.2 with⟨rfl,_⟩|⟨g,cap,cur,rfl,hb,hg,_⟩
 ·simp [Value.ownBlock]at hk
 ·simp [Value.ownBlock]at hk;subst hk;exact⟨hb,(Array.getElem?_eq_some_iff.1 hg).1⟩
theorem zt.form (h:zt w S e size v n xs):∃A c,v= .slice A n c:=by
 rcases h.2 with⟨rfl,rfl⟩|⟨g,c,cur,rfl,_⟩
 ·exact⟨_,_,rfl⟩
 ·exact⟨_,_,rfl⟩
theorem zt.tch (h:zt w S e size v n xs) (hb:Tch S' w w') (hn:∀g,v.ownBlock=some g->¬S' g):zt w' S e size v n xs:=by
 refine⟨h.1,?_⟩;rcases h.2 with h2|⟨g,cap,cur,rfl,hb',hgg,rest⟩
 ·exact .inl h2
 ·refine .inr ⟨g,cap,cur,rfl,hb',?_,rest⟩;rw [hb.block g (Array.getElem?_eq_some_iff.1 hgg).1 (hn g rfl)];exact hgg
theorem zt.on (h:zt w S e size v n xs) (hb:Below w.heap.size w w'):zt w' S e size v n xs:=h.tch (S' :=fun _=>False) (Tch.new hb) (fun _ _=>id)
theorem zt.mono (h:zt w S e size v n xs) (hS:∀g,g<w.heap.size->S g->S' g):zt w S' e size v n xs:=by
 refine⟨h.1,h.2.imp id ?_⟩;rintro⟨g,cap,cur,h1,h2,h3,rest⟩;exact⟨g,cap,cur,h1,hS g (Array.getElem?_eq_some_iff.1 h3).1 h2,h3,rest⟩
theorem zt.alloc (h:zt w S e size v n xs) (o:Obj):zt (w.alloc o) S e size v n xs:=h.on ((zE _ _).alloc (zC _) o)
theorem zt.drewN (h:zt w S e size v n xs) (k:Nat):zt (w.drewN k) S e size v n xs:=h
theorem zt.cap {A:aA} {m c:Nat} (h:zt w S e size (.slice A m c) n xs):m=n/\n<=c/\c<=9223372036854775807:=by
 rcases h.2 with⟨hv,hn⟩|⟨g,cap,cur,hv,_,_,h1,h2,_⟩
 ·injection hv with _ hm hc
  omega
 ·injection hv with _ hm hc
  unfold maxLen at h2;omega
theorem zt.clip {A:aA} {c:Nat} (h:zt w S e size (.slice A n c) n xs):zt w S e size (.slice A n n) n xs:=by
 refine⟨h.1,?_⟩;rcases h.2 with⟨hv,hn⟩|⟨g,cap,cur,hv,h1,h2,h3,h4,h5,h6⟩
 ·injection hv with hA _ _
  subst hA hn;exact .inl ⟨rfl,rfl⟩
 ·injection hv with hA _ _
  subst hA;exact .inr ⟨g,n,cur,rfl,h1,h2,zC _,by omega,zY (yj _ h3) h5,h6⟩
theorem zt.cells (h:zt w S e size v n xs) {g:Nat} (hg:v.ownBlock=some g):∀j u,xs[j]? =some u->w.cell? ⟨g,j,none⟩=some u:=by
 intro j u hu;rcases h.2 with⟨rfl,_⟩|⟨g',cap,cur,rfl,_,hgg,_,_,_,htake⟩
 ·simp [Value.ownBlock]at hg
 ·simp [Value.ownBlock]at hg;subst hg;rw [cell_of_row w g' j cur e (0,0) hgg];rw [<-htake,yy]at hu
  split at hu
  ·simpa using hu
  ·cases hu
theorem zt.at_ {A:aA} {c:Nat} (h:zt w S e size (.slice A n c) n xs) (hn:0<n):∃g,A=some ⟨g,0,none⟩/\S g/\g<w.heap.size/\∀j u,xs[j]? =some u->w.cell? ⟨g,j,none⟩=some u:=by
 rcases h.2 with⟨_,hn'⟩|⟨g,cap,cur,hv,hb,hg,_⟩
 ·omega
 ·have hA:A=some ⟨g,0,none⟩:=(by injection hv);subst hA;exact⟨g,rfl,hb,(Array.getElem?_eq_some_iff.1 hg).1,h.cells rfl⟩
theorem zt.reads {A:aA} {c:Nat} (h:zt w S e size (.slice A n c) n xs):xA w w.heap.size size A n xs:=
 ⟨h.1,fun hn=>by
  obtain⟨g,rfl,_,hlt,hc⟩:=h.at_ hn
  exact⟨_,rfl,hlt,fun j u hu=>by rw [Yl];exact hc j u hu⟩⟩
theorem zt.ne_ {g:Nat} {t:TypeId} {cs:aG} (h:zt w S e size v n xs) (hg:Blk w g t cs) (hne:e≠t):v.ownBlock≠some g:=by
 rcases h.2 with⟨rfl,_⟩|⟨g',cap,cur,rfl,_,hh,_⟩
 ·simp [Value.ownBlock]
 ·intro he;have:g' =g:=(by simpa [Value.ownBlock]using he);subst this;exact Blk.ne_ (t:=e) hh hg hne rfl
end
structure Elt (P:Program) (t e:TypeId) (size bytes:Nat):Prop where
 ht:P.underlying t=some (.slice e)
 pos:0<size
 info:∃i z,P.info? e=some i/\i.zero=some z/\i.size=size/\i.bytes=bytes/\z.cells.size=size
theorem xt {P:Program} {t e:TypeId} {size bytes:Nat} (ht:P.underlying t=some (.slice e)) (hp:0<size) (h:(P.info? e).map (fun i=>(i.size,i.bytes,i.zero.map fun z=>z.cells.size))=some (size,bytes,some size)):Elt P t e size bytes:=by
 obtain⟨i,hi,hzz⟩:=Option.map_eq_some_iff.1 h;simp only [Prod.mk.injEq]at hzz;obtain⟨z,hz,hs⟩:=Option.map_eq_some_iff.1 hzz.2.2;exact⟨ht,hp,i,z,hi,hz,hzz.1,hzz.2.1,hs⟩
section
variable {P:Program} {w:O}
theorem WG {t e:TypeId} {size bytes:Nat} (E:Elt P t e size bytes) (ty:TypeId) {S:Nat->Prop} {v:V} {n:Nat} {xs:aF} (hown:zt w S e size v n xs)
 {B:Nat} {A:aA} {m c:Nat} {news:aF} (hr:xA w B size A m news) (h1:∀u∈news,u.oneCell' =true)
 (h63:n+m<=maxLen) (hbytes:(n+m)*bytes<=140737488355328) (hS:S w.heap.size):
 ∃A' c' w',(Builtin.append_ #[t,t] ty #[v,.slice A m c]).run P w= .ok (.slice A' (n+m) c') w' /\zt w' S e size (.slice A' (n+m) c') (n+m) (xs++news)/\w.grownBy w' v.ownBlock/\
  ((Value.slice A' (n+m) c').ownBlock=v.ownBlock\/(Value.slice A' (n+m) c').ownBlock=some w.heap.size):=by
 obtain⟨ht,hsz,i,z,hi,hz,hsize,hby,hzs⟩:=E;subst hsize;subst hby;have hsmall:n+m<=9223372036854775807:=by simp only [maxLen]at h63;omega
 have hl:=hr.1;have hlen:(xs++news).length=(n+m)*i.size:=by rw [zG,hown.1,hl,xK]
 have grown:∀(old:Nat),old<n+m->∀(row:Option Nat),
  zt (w.drew.alloc (.cells (xs.toArray++news.toArray++Builtin.zeroCells z.cells (grownCap w (n+m) old e - (n+m))) e)) S e i.size
   (.slice (some ⟨w.heap.size,0,none⟩) (n+m) (grownCap w (n+m) old e)) (n+m) (xs++news)/\
  w.grownBy (w.drew.alloc (.cells (xs.toArray++news.toArray++Builtin.zeroCells z.cells (grownCap w (n+m) old e - (n+m))) e)) row:=by
  intro old ho row;have hge:=grownCap_ge w (n+m) old e;have hcm:grownCap w (n+m) old e<=maxLen:=grownCap_le_maxLen w (n+m) old e h63;refine⟨⟨hlen,.inr ⟨w.heap.size,_,_,rfl,hS,heap_alloc_new w.drew _,hge,hcm,?_,?_⟩⟩,⟨rfl,rfl,rfl,by simp,fun k hk _=>Below.heap_alloc w.drew _ k hk⟩⟩
  ·simp only [Array.size_append,yP,size_zeroCells,hzs,hown.1,hl,<-xK];exact yj _ (by omega)
  ·simp only [Array.toList_append,zO];rw [<-zO,<-hlen];exact List.take_left
 by_cases hm:m=0
 ·subst hm;have hn:news= []:=zS (by simpa using hl);subst hn;rcases hown.2 with⟨rfl,rfl⟩|⟨g,cap,cur,rfl,hbg,hg,hnc,hcm,hcs,htake⟩
  ·have hx:xs= []:=zS (by simpa using hown.1);subst hx;refine⟨none,0,w,?_,ZJ _ _ _ _,World.grownBy.refl w _,.inl rfl⟩;cases A<;>simp [Builtin.append_,run_underlying ht,sizeOf,typeInfo,hi,Builtin.lenOf,Builtin.firstCells,loadCells,loadCellsFrom]
  ·refine⟨some ⟨g,0,none⟩,cap,w,?_,by simpa using hown,World.grownBy.refl w _,.inl rfl⟩;cases A<;>simp [Builtin.append_,run_underlying ht,sizeOf,typeInfo,hi,Builtin.lenOf,Builtin.firstCells,loadCells,loadCellsFrom,hnc,storeCells]
 ·obtain⟨a,rfl,_,hnews⟩:=hr.2 (by omega);rcases hown.2 with⟨rfl,rfl⟩|⟨g,cap,cur,rfl,hbg,hg,hnc,hcm,hcs,htake⟩
  ·have hx:xs= []:=zS (by simpa using hown.1);subst hx;have hr:=run_append_nil (P:=P) w t ty e i z ht hi hz a m c news hl hnews (by omega) (by omega) (by have hb:=hbytes;simp only [zx]at hb;omega);have hgr:=grown 0 (by omega) (Value.ownBlock (.slice none 0 0));simp only [zx,zZ,Array.empty_append]at hgr⊢;exact⟨_,_,_,hr,hgr.1,hgr.2,.inr rfl⟩
  ·by_cases hroom:n+m<=cap
   ·have hfit:n*i.size+news.length<=cur.size:=(by rw [hl,<-xK];exact zY (yj _ hroom) hcs);have hr:=run_append_room (P:=P) w t ty e i ht hi g n cap cur hg a m c news hl hnews h1 hroom hfit;refine⟨_,_,_,hr,⟨hlen,.inr ⟨g,cap,_,rfl,hbg,setRow_heap w g cur _ e _ hg,hroom,hcm,?_,?_⟩⟩,⟨rfl,rfl,rfl,by simp,fun k _ hk=>setRow_other w g k _ (fun e=>hk (by simp [Value.ownBlock,e]))⟩,.inl rfl⟩
    ·simp only [yP,zG,zr,ze,Array.length_toList];omega
    ·rw [htake,<-hlen];exact List.take_left
   ·have bD:∀j u,xs[j]? =some u->w.cell? ((⟨g,0,none⟩:Addr).add j)=some u:=fun j u hu=>by rw [Yl];exact hown.cells (g:=g) rfl j u hu
    have hr:=run_append_grow (P:=P) w t ty e i z ht hi hz ⟨g,0,none⟩ n cap xs hown.1 bD a m c news hl hnews (by omega) (by omega) (growslice_fits (by omega) hbytes);have hgr:=grown cap (by omega) (Value.ownBlock (.slice (some ⟨g,0,none⟩) n cap));exact⟨_,_,_,hr,hgr.1,hgr.2,.inr rfl⟩
theorem eR {S:Nat->Prop} {w w' :O} {e:TypeId} {size n:Nat} {v:V} {xs:aF} (h:zt w S e size v n xs) (hg:w.grownBy w' v.ownBlock):Tch S w w' :=Tch.grown hg (fun b hb=>(h.lt b hb).1)
theorem pT {o:Oper} {a:Act} {K:Act->O->Prop} {Q:Exit->Act->O->Prop} {t e:TypeId} {size bytes:Nat} (E:Elt P t e size bytes) (s x:Operand)
 (ho:o.op= .call {callee:= .builtin .append,args:= #[s,x],argTypes:= #[t,t]})
 {S:Nat->Prop} {v:V} {n:Nat} {xs:aF} (hs:a.eval s=v) (hown:zt w S e size v n xs)
 {B:Nat} {A:aA} {m c:Nat} {news:aF} (hx:a.eval x= .slice A m c) (hr:xA w B size A m news) (h1:∀u∈news,u.oneCell' =true)
 (hn:(n+m)*bytes<=140737488355328) (h63:n+m<=9223372036854775807) (hS:S w.heap.size)
 (h:∀A' c' w',zt w' S e size (.slice A' (n+m) c') (n+m) (xs++news)->w.grownBy w' v.ownBlock->((Value.slice A' (n+m) c').ownBlock=v.ownBlock\/(Value.slice A' (n+m) c').ownBlock=some w.heap.size)->Tch S w w' ->K (a.put o.dst (.slice A' (n+m) c')) w'):o.wp P a w K Q:=by
 obtain⟨A',c',w',hrun,h2,h3,h4⟩:=WG (P:=P) E o.type hown hr h1 (by unfold maxLen;omega) hn hS (c:=c);unfold Oper.wp execOp;simp only [ho,resolve,invoke,builtin,Sem.run_bind,Sem.run_pure,Result.andThen_ok,List.map_toArray,yH,List.map_nil,hs,hx,hrun];exact h A' c' w' h2 h3 h4 (eR hown h3)
theorem xm {ops:Array Oper} {rest:List Oper} {o:Oper} {a:Act} {Q:Exit->Act->O->Prop} {t e:TypeId} {size bytes:Nat} (E:Elt P t e size bytes) (s x:Operand) (hgd:o.guard=none)
 (ho:o.op= .call {callee:= .builtin .append,args:= #[s,x],argTypes:= #[t,t]})
 {S:Nat->Prop} {v:V} {n:Nat} {xs:aF} (hs:a.eval s=v) (hown:zt w S e size v n xs)
 {B:Nat} {A:aA} {m c:Nat} {news:aF} (hx:a.eval x= .slice A m c) (hr:xA w B size A m news) (h1:∀u∈news,u.oneCell' =true)
 (hn:(n+m)*bytes<=140737488355328) (h63:n+m<=9223372036854775807) (hS:S w.heap.size)
 (h:∀A' c' w',zt w' S e size (.slice A' (n+m) c') (n+m) (xs++news)->w.grownBy w' v.ownBlock->((Value.slice A' (n+m) c').ownBlock=v.ownBlock\/(Value.slice A' (n+m) c').ownBlock=some w.heap.size)->Tch S w w' ->wpList P ops Q rest (a.put o.dst (.slice A' (n+m) c')) w'):wpList P ops Q (o::rest) a w:=
 wpList_plain hgd fun _ hK=>pT E s x ho hs hown hx hr h1 hn h63 hS fun A' c' w' h2 h3 h4 h5=>hK _ _ (h A' c' w' h2 h3 h4 h5)
theorem H7 {ops:Array Oper} {o:Oper} {a:Act} {K:Act->O->Prop} {Q:Exit->Act->O->Prop} {E' :Prop} {t e:TypeId} {size bytes:Nat} (E:Elt P t e size bytes) (s x:Operand) (hgd:o.guard=none)
 (ho:o.op= .call {callee:= .builtin .append,args:= #[s,x],argTypes:= #[t,t]})
 {S:Nat->Prop} {v:V} {n:Nat} {xs:aF} (hs:a.eval s=v) (hown:zt w S e size v n xs)
 {B:Nat} {A:aA} {m c:Nat} {news:aF} (hx:a.eval x= .slice A m c) (hr:xA w B size A m news) (h1:∀u∈news,u.oneCell' =true)
 (hn:(n+m)*bytes<=140737488355328) (h63:n+m<=9223372036854775807) (hS:S w.heap.size)
 (h:∀A' c' w',zt w' S e size (.slice A' (n+m) c') (n+m) (xs++news)->w.grownBy w' v.ownBlock->((Value.slice A' (n+m) c').ownBlock=v.ownBlock\/(Value.slice A' (n+m) c').ownBlock=some w.heap.size)->Tch S w w' ->K (a.put o.dst (.slice A' (n+m) c')) w'):
 if Region.wanted o (yielded ops a.tmps)=true then Oper.wp P o a w K Q else E' :=by
 have hw:Region.wanted o (yielded ops a.tmps)=true:=by simp [Region.wanted,hgd]
 rw [if_pos hw];exact pT E s x ho hs hown hx hr h1 hn h63 hS h
theorem rT {F:Fence} {nF:Nat} {ops:Array Oper} {rest:List Oper} {o:Oper} {a:Act} {Q:Exit->Act->O->Prop} {t e:TypeId} {size bytes:Nat} (E:Elt P t e size bytes) (s x:Operand) (hgd:o.guard=none)
 (ho:o.op= .call {callee:= .builtin .append,args:= #[s,x],argTypes:= #[t,t]})
 {S:Nat->Prop} {v:V} {n:Nat} {xs:aF} (hs:a.eval s=v) (hown:zt w S e size v n xs)
 {B:Nat} {A:aA} {m c:Nat} {news:aF} (hx:a.eval x= .slice A m c) (hr:xA w B size A m news) (h1:∀u∈news,u.oneCell' =true)
 (hn:(n+m)*bytes<=140737488355328) (h63:n+m<=9223372036854775807) (hS:S w.heap.size)
 (h:∀A' c' w',zt w' S e size (.slice A' (n+m) c') (n+m) (xs++news)->w.grownBy w' v.ownBlock->((Value.slice A' (n+m) c').ownBlock=v.ownBlock\/(Value.slice A' (n+m) c').ownBlock=some w.heap.size)->Tch S w w' ->wpListIn F nF P ops Q rest (a.put o.dst (.slice A' (n+m) c')) w'):wpListIn F nF P ops Q (o::rest) a w:=by
 refine wpListIn_plain hgd fun K hK=> ?_;obtain⟨A',c',w',hr,h2,h3,h4⟩:=WG (P:=P) E o.type hown hr h1 (by unfold maxLen;omega) hn hS (c:=c);unfold Oper.wpIn;refine⟨by simp [Oper.about,ho,resolve,Target.leads,Sem.run_pure],?_⟩;rw [Oper.semAt_plain F _ _ (by rw [ho];intro c hc';cases hc')];simp [execOp,ho,resolve,invoke,builtin,hs,hx,hr,Result.andThen];exact hK _ _ (h A' c' w' h2 h3 h4 (eR hown h3))
end
section
variable {P:Program} {w:O}
theorem Ww {t tx e:TypeId} (E:Elt P t e 1 1) (hk:P.underlying tx=some .string) (ty:TypeId) {S:Nat->Prop} {v:V} {n:Nat} {xs:aF} (hown:zt w S e 1 v n xs) (s:aB)
 (hbytes:n+s.size<=140737488355328) (hS:S w.heap.size):
 ∃A' c' w',(Builtin.append_ #[t,tx] ty #[v,.string s]).run P w= .ok (.slice A' (n+s.size) c') w' /\zt w' S e 1 (.slice A' (n+s.size) c') (n+s.size) (xs++byteCells s)/\w.grownBy w' v.ownBlock/\
  ((Value.slice A' (n+s.size) c').ownBlock=v.ownBlock\/(Value.slice A' (n+s.size) c').ownBlock=some w.heap.size):=by
 obtain⟨ht,hsz,i,z,hi,hz,hsize,hby,hzs⟩:=E;have hl:(byteCells s).length=s.size:=byteCells_length s;have h1:∀u∈byteCells s,u.oneCell' =true:=fun u hu=>by obtain⟨_,_,rfl⟩:=List.mem_map.1 hu;rfl
 have hlen:(xs++byteCells s).length=(n+s.size)*1:=by rw [zG,hown.1,hl];omega
 have hsrc:Src P i.size tx (.string s) s.size (byteCells s) w:=by rw [hsize];exact Src.ofString w hk s
 have grown:∀(old:Nat),old<n+s.size->∀(row:Option Nat),
  zt (w.drew.alloc (.cells ((xs++byteCells s).toArray++Builtin.zeroCells z.cells (grownCap w (n+s.size) old e - (n+s.size))) e)) S e 1
   (.slice (some ⟨w.heap.size,0,none⟩) (n+s.size) (grownCap w (n+s.size) old e)) (n+s.size) (xs++byteCells s)/\
  w.grownBy (w.drew.alloc (.cells ((xs++byteCells s).toArray++Builtin.zeroCells z.cells (grownCap w (n+s.size) old e - (n+s.size))) e)) row:=by
  intro old ho row;have hge:=grownCap_ge w (n+s.size) old e;have hcm:grownCap w (n+s.size) old e<=maxLen:=grownCap_le_maxLen w (n+s.size) old e (by unfold maxLen;omega);refine⟨⟨hlen,.inr ⟨w.heap.size,_,_,rfl,hS,heap_alloc_new w.drew _,hge,hcm,?_,?_⟩⟩,⟨rfl,rfl,rfl,by simp,fun k hk _=>Below.heap_alloc w.drew _ k hk⟩⟩
  ·simp only [Array.size_append,yP,size_zeroCells,hzs,hlen];omega
  ·simp only [Array.toList_append];rw [<-hlen];exact List.take_left
 rcases hown.2 with⟨rfl,rfl⟩|⟨g,cap,cur,rfl,hbg,hg,hnc,hcm,hcs,htake⟩
 ·have hx:xs= []:=zS (by simpa using hown.1);subst hx
  by_cases h0:s.size=0
  ·have hb:byteCells s= []:=zS (by omega);refine⟨none,0,w,?_,by rw [h0,hb];exact ZJ _ _ _ _,World.grownBy.refl w _,.inl rfl⟩;have hc:=hsrc.cells;rw [hb,h0]at hc;simp [Builtin.append_,run_underlying ht,run_underlying hk,sizeOf,typeInfo,hi,Builtin.lenOf,h0,hc]
  ·have hr:=run_append_grow_src (P:=P) w t tx ty e i z ht hi hz none 0 0 [] (run_firstCells_none w.drew _ 0 0 0) (.string s) s.size (byteCells s) hsrc (by omega) (by omega) (by rw [zx,nextslicecap_zero (by omega),hby];omega);have hgr:=grown 0 (by omega) (Value.ownBlock (.slice none 0 0));simp only [zx,zZ]at hgr hr⊢;exact⟨_,_,_,hr,hgr.1,hgr.2,.inr rfl⟩
 ·by_cases hroom:n+s.size<=cap
  ·have hfit:n*i.size+(byteCells s).length<=cur.size:=(by rw [hl,hsize];omega);have hst:=run_storeCells_at P g (n*i.size) e (byteCells s) 0 cur w hg (by simpa using hfit) h1;simp only [yt]at hst
   have hr:(Builtin.append_ #[t,tx] ty #[.slice (some ⟨g,0,none⟩) n cap,.string s]).run P w= .ok (.slice (some ⟨g,0,none⟩) (n+s.size) cap) (w.setRow g (cur.toList.take (n*i.size)++byteCells s++cur.toList.drop (n*i.size+(byteCells s).length)).toArray):=by
    simp [Builtin.append_,run_underlying ht,run_underlying hk,sizeOf,typeInfo,hi,Builtin.lenOf,hroom,hsrc.cells,Addr.add_lit,hst]
   rw [hsize]at hr;refine⟨_,_,_,hr,⟨hlen,.inr ⟨g,cap,_,rfl,hbg,setRow_heap w g cur _ e _ hg,hroom,hcm,?_,?_⟩⟩,⟨rfl,rfl,rfl,by simp,fun k _ hk=>setRow_other w g k _ (fun e=>hk (by simp [Value.ownBlock,e]))⟩,.inl rfl⟩
   ·rw [hsize]at hfit;simp only [yP,zG,zr,ze,Array.length_toList];omega
   ·rw [htake,<-hlen];exact List.take_left
  ·have bD:∀j u,xs[j]? =some u->w.cell? ((⟨g,0,none⟩:Addr).add j)=some u:=fun j u hu=>by rw [Yl];exact hown.cells (g:=g) rfl j u hu
   have hr:=run_append_grow_src (P:=P) w t tx ty e i z ht hi hz (some ⟨g,0,none⟩) n cap xs (run_firstCells_some w.drew i.size n ⟨g,0,none⟩ n cap xs (by rw [hsize];exact hown.1) (by simpa using bD)) (.string s) s.size (byteCells s) hsrc (by omega) (by omega) (by rw [hby];exact growslice_fits (by omega) (by omega));have hgr:=grown cap (by omega) (Value.ownBlock (.slice (some ⟨g,0,none⟩) n cap))
   exact⟨_,_,_,hr,hgr.1,hgr.2,.inr rfl⟩
theorem qV {ops:Array Oper} {rest:List Oper} {o:Oper} {a:Act} {Q:Exit->Act->O->Prop} {t tx e:TypeId} (E:Elt P t e 1 1) (hk:P.underlying tx=some .string) (s x:Operand) (hgd:o.guard=none)
 (ho:o.op= .call {callee:= .builtin .append,args:= #[s,x],argTypes:= #[t,tx]})
 {S:Nat->Prop} {v:V} {n:Nat} {xs:aF} (hs:a.eval s=v) (hown:zt w S e 1 v n xs) {str:aB} (hx:a.eval x= .string str)
 (hn:n+str.size<=140737488355328) (hS:S w.heap.size)
 (h:∀A' c' w',zt w' S e 1 (.slice A' (n+str.size) c') (n+str.size) (xs++byteCells str)->w.grownBy w' v.ownBlock->((Value.slice A' (n+str.size) c').ownBlock=v.ownBlock\/(Value.slice A' (n+str.size) c').ownBlock=some w.heap.size)->Tch S w w' ->wpList P ops Q rest (a.put o.dst (.slice A' (n+str.size) c')) w'):wpList P ops Q (o::rest) a w:=
 wpList_plain hgd fun _ hK=>by
  obtain⟨A',c',w',hrun,h2,h3,h4⟩:=Ww (P:=P) E hk o.type hown str hn hS;unfold Oper.wp execOp;simp only [ho,resolve,invoke,builtin,Sem.run_bind,Sem.run_pure,Result.andThen_ok,List.map_toArray,yH,List.map_nil,hs,hx,hrun];exact hK _ _ (h A' c' w' h2 h3 h4 (eR hown h3))
end
def bC (l:aC):aF:=l.map fun b=> .int .u8 (b.toNat:Int)
def uC (l:aE):aF:=l.map fun(n:Nat)=>Value.int .u64 (n:Int)
def sC (l:List aB):aF:=l.map .string
theorem dF (l:aC):(bC l).length=l.length:=by simp [bC]
theorem MM (l:aE):(uC l).length=l.length:=by simp [uC]
theorem MV (l:List aB):(sC l).length=l.length:=by simp [sC]
theorem V4 {l:aC} {k:Nat} {x:UInt8} (h:l[k]? =some x):(bC l)[k]? =some (.int .u8 (x.toNat:Int)):=by simp [bC,h]
theorem WB {l:aE} {k x:Nat} (h:l[k]? =some x):(uC l)[k]? =some (.int .u64 (x:Int)):=by simp [uC,h]
theorem bU {l:List aB} {k:Nat} {x:aB} (h:l[k]? =some x):(sC l)[k]? =some (.string x):=by simp [sC,h]
theorem xd (l:aC):∀u∈bC l,u.oneCell' =true:=by intro u hu;obtain⟨_,_,rfl⟩:=List.mem_map.1 hu;rfl
theorem pX (l:List aB):∀u∈sC l,u.oneCell' =true:=by intro u hu;obtain⟨_,_,rfl⟩:=List.mem_map.1 hu;rfl
theorem y9 (a b:aC):bC (a++b)=bC a++bC b:=by simp [bC]
theorem CR (a b:aE):uC (a++b)=uC a++uC b:=by simp [uC]
theorem uO (a b:aD):ints (a++b)=ints a++ints b:=by simp [ints]
theorem QO (w:O) (u:V) (t:TypeId):xA (w.alloc (.cells #[u] t)) (w.heap.size+1) 1 (some ⟨w.heap.size,0,none⟩) 1 [u]:=by
 have:=kZ w #[u] t 1 1 (by simp)
 simpa using this
def RC (w:O) (size:Nat) (A:aA) (n:Nat) (cs:aF):Prop:=
 cs.length=n*size/\(0<n->∃b off,A=some ⟨b,off,none⟩/\b<w.heap.size/\∀j u,cs[j]? =some u->w.cell? ⟨b,off+j,none⟩=some u)
theorem RC.reads {w:O} {size n:Nat} {A:aA} {cs:aF} (h:RC w size A n cs):xA w w.heap.size size A n cs:=
 ⟨h.1,fun hn=>by
  obtain⟨b,off,rfl,hb,hc⟩:=h.2 hn;exact⟨_,rfl,hb,fun j u hu=>by rw [Qq];exact hc j u hu⟩⟩
theorem RC.tch {S:Nat->Prop} {w w' :O} {size n:Nat} {A:aA} {cs:aF} (h:RC w size A n cs) (hb:Tch S w w') (hn:∀b off,A=some ⟨b,off,none⟩->¬S b):RC w' size A n cs:=
 ⟨h.1,fun h0=>by
  obtain⟨b,off,rfl,hlt,hc⟩:=h.2 h0;exact⟨b,off,rfl,zX hlt hb.size,fun j u hu=>(hb.cell (p:=⟨b,off+j,none⟩) hlt (hn b off rfl)).trans (hc j u hu)⟩⟩
theorem RC.on {w w' :O} {size n:Nat} {A:aA} {cs:aF} (h:RC w size A n cs) (hb:Below w.heap.size w w'):RC w' size A n cs:=h.tch (S:=fun _=>False) (Tch.new hb) (fun _ _ _=>id)
theorem RC.sub_at {w:O} {size n b off:Nat} {cs:aF} (h:RC w size (some ⟨b,off,none⟩) n cs) {i k:Nat} (hk:i+k<=n):RC w size (some ⟨b,off+i*size,none⟩) k ((cs.drop (i*size)).take (k*size)):=by
 have hl:(i+k)*size<=n*size:=yj _ hk;rw [xK]at hl;refine⟨by rw [zr,ze,h.1];omega,fun h0=> ?_⟩;obtain⟨b',off',e,hlt,hc⟩:=h.2 (by omega);cases e;refine⟨b,off+i*size,rfl,hlt,fun j u hu=> ?_⟩;rw [yy]at hu
 split at hu
 ·rw [List.getElem?_drop]at hu;rw [Nat.add_assoc];exact hc _ u hu
 ·cases hu
theorem zt.rc {w:O} {S:Nat->Prop} {e:TypeId} {size n c:Nat} {A:aA} {xs:aF} (h:zt w S e size (.slice A n c) n xs):RC w size A n xs:=
 ⟨h.1,fun hn=>by
  obtain⟨g,rfl,_,hlt,hc⟩:=h.at_ hn
  exact⟨g,0,rfl,hlt,fun j u hu=>by rw [zx];exact hc j u hu⟩⟩
def RB (w:O) (A:aA) (n:Nat) (l:aC):Prop:=RC w 1 A n (bC l)
theorem RB.on {w w' :O} {A:aA} {n:Nat} {l:aC} (h:RB w A n l) (hb:Below w.heap.size w w'):RB w' A n l:=RC.on h hb
theorem RB.reads {w:O} {A:aA} {n:Nat} {l:aC} (h:RB w A n l):xA w w.heap.size 1 A n (bC l):=RC.reads h
theorem RB.len {w:O} {A:aA} {n:Nat} {l:aC} (h:RB w A n l):l.length=n:=by have:=h.1;rw [dF]at this;omega
theorem RB.nil (w:O) (A:aA):RB w A 0 []:=⟨rfl,fun h=>absurd h (by omega)⟩
theorem RB.at_ {w:O} {A:aA} {n k:Nat} {l:aC} (h:RB w A n l) (hk:k<n):∃b off x,A=some ⟨b,off,none⟩/\b<w.heap.size/\w.cell? ⟨b,off+k,none⟩=some (.int .u8 (x.toNat:Int))/\Hid (l[k]? =some x):=by
 have hl:=h.len;obtain⟨b,off,rfl,hb,hc⟩:=h.2 (by omega);have hk' :k<l.length:=by omega
 exact⟨b,off,l[k],rfl,hb,hc k _ (V4 (zB hk')),zB hk'⟩
theorem RB.tail {w:O} {A:aA} {n c k:Nat} {l:aC} (h:RB w A n l) (hc:n<=c) (hk:k<=n):RB w (if c=k then A else A.map (·.add k)) (n - k) (l.drop k):=by
 refine⟨by rw [dF,ze,h.len];omega,fun h0=> ?_⟩;obtain⟨b,off,rfl,hb,hcell⟩:=h.2 (by omega);rw [if_neg (by omega)];refine⟨b,off+k,by simp [Qq],hb,fun j u hu=> ?_⟩;have:(bC (l.drop k))[j]? =(bC l)[k+j]? :=by simp [bC]
 rw [this]at hu;rw [Nat.add_assoc];exact hcell _ u hu
def BR (w:O) (S:Nat->Prop) (v:V) (l:aC):Prop:=zt w S 5 1 v l.length (bC l)
theorem BR.nil (w:O) (S:Nat->Prop):BR w S (.slice none 0 0) []:=ZJ _ _ _ _
theorem BR.rb {w:O} {S:Nat->Prop} {n c:Nat} {A:aA} {l:aC} (h:BR w S (.slice A n c) l):RB w A n l:=by
 have hn:=(zt.cap h).1;subst hn;exact zt.rc h
theorem yW:Elt prog 65 5 1 1:=xt underlying65 (by decide) (by kernel_rfl)
structure Asn where
 P:(Nat->Prop)->O->Prop
 lt:∀{S w},P S w->∀b,S b->b<w.heap.size
 keep:∀{S S' w w'},P S w->Tch S' w w' ->(∀b,S b->¬S' b)->P S w'
def SpU (w:O):(Nat->Prop)->List Asn->Prop
 |_, []=>True
 |U,A::L=>∃S,(∀b,S b->U b)/\A.P S w/\SpU w (fun b=>U b/\¬S b) L
def Sp (w:O) (L:List Asn):Prop:=SpU w (fun _=>True) L
section
variable {w w' :O} {A B C D A' :Asn} {L:List Asn}
theorem SpU.mono:∀{L:List Asn} {U U' :Nat->Prop},SpU w U L->(∀b,b<w.heap.size->U b->U' b)->SpU w U' L
 | [],_,_,_,_=>trivial
 |A::_,_,_,⟨S,h1,h2,h3⟩,h=>⟨S,fun b hb=>h b (A.lt h2 b hb) (h1 b hb),h2,h3.mono fun b hb u=>⟨h b hb u.1,u.2⟩⟩
theorem SpU.tch {S' :Nat->Prop} (ht:Tch S' w w'):∀{L:List Asn} {U:Nat->Prop},SpU w U L->(∀b,U b->b<w.heap.size->¬S' b)->SpU w' U L
 | [],_,_,_=>trivial
 |A::_,_,⟨S,h1,h2,h3⟩,h=>⟨S,h1,A.keep h2 ht fun b hb=>h b (h1 b hb) (A.lt h2 b hb),SpU.tch ht h3 fun b hb hl=>h b hb.1 hl⟩
theorem SpU.cons {U:Nat->Prop} {M:List Asn} (f:∀U,SpU w U L->SpU w U M):SpU w U (A::L)->SpU w U (A::M)
 |⟨S,h1,h2,h3⟩=>⟨S,h1,h2,f _ h3⟩
theorem SpU.swap {U:Nat->Prop}:SpU w U (A::B::L)->SpU w U (B::A::L)
 |⟨S,h1,h2,T,k1,k2,k3⟩=>⟨T,fun b hb=>(k1 b hb).1,k2,S,fun b hb=>⟨h1 b hb,fun ht=>(k1 b ht).2 hb⟩,h2,k3.mono fun _ _ u=>⟨⟨u.1.1,u.2⟩,u.1.2⟩⟩
theorem SpU.tail {U:Nat->Prop}:SpU w U (A::L)->SpU w U L
 |⟨_,_,_,h3⟩=>h3.mono fun _ _ u=>u.1
theorem Sp.p1 (h:Sp w (A::B::L)):Sp w (B::A::L):=SpU.swap h
theorem Sp.p2 (h:Sp w (A::B::C::L)):Sp w (C::A::B::L):=SpU.swap (SpU.cons (fun _=>SpU.swap) h)
theorem Sp.p3 (h:Sp w (A::B::C::D::L)):Sp w (D::A::B::C::L):=SpU.swap (SpU.cons (fun _ k=>SpU.swap (SpU.cons (fun _=>SpU.swap) k)) h)
theorem Sp.p4 {E:Asn} (h:Sp w (A::B::C::D::E::L)):Sp w (E::A::B::C::D::L):=SpU.swap (SpU.cons (fun _ k=>SpU.swap (SpU.cons (fun _ k=>SpU.swap (SpU.cons (fun _=>SpU.swap) k)) k)) h)
theorem Sp.tail (h:Sp w (A::L)):Sp w L:=SpU.tail h
theorem Sp.d1 (h:Sp w (A::B::L)):Sp w (A::L):=h.p1.tail
theorem Sp.d2 (h:Sp w (A::B::C::L)):Sp w (A::B::L):=h.p2.tail
theorem Sp.d3 (h:Sp w (A::B::C::D::L)):Sp w (A::B::C::L):=h.p3.tail
theorem SpU.get {U:Nat->Prop}:∀{L:List Asn} {U},SpU w U L->A∈L->∃S,A.P S w
 |_::_,_,⟨S,_,h2,h3⟩,hm=>by
  rcases yx.1 hm with rfl|hm
  ·exact⟨S,h2⟩
  ·exact SpU.get (U:=fun _=>True) h3 hm
theorem Sp.get (h:Sp w L) (hm:A∈L):∃S,A.P S w:=SpU.get (U:=fun _=>True) h hm
theorem Sp.grow (h:Sp w L) (hb:Below w.heap.size w w'):Sp w' L:=SpU.tch (S' :=fun _=>False) (Tch.new hb) h fun _ _ _=>id
theorem Sp.new (h:Sp w L) (hb:Below w.heap.size w w') {S:Nat->Prop} (hA:A.P S w') (hS:∀b,S b->w.heap.size<=b):Sp w' (A::L):=
 ⟨S,fun _ _=>trivial,hA,SpU.tch (S' :=fun _=>False) (Tch.new hb) (SpU.mono h fun b hb _=>⟨trivial,fun hs=>by have:=hS b hs;omega⟩) fun _ _ _=>id⟩
theorem Sp.upd (h:Sp w (A::L)) (f:∀S,A.P S w->∃S',A'.P S' w' /\Tch S w w' /\∀b,S' b->S b\/w.heap.size<=b):Sp w' (A' ::L):=by
 obtain⟨S,_,h2,h3⟩:=h;obtain⟨S',h4,h5,h6⟩:=f S h2;refine⟨S',fun _ _=>trivial,h4,?_⟩;have h7:SpU w (fun b=>(True/\¬S' b)/\¬S b) L:=h3.mono fun b hb u=>⟨⟨trivial,fun hs=>(h6 b hs).elim u.2 (fun h=>by omega)⟩,u.2⟩;exact(SpU.tch h5 h7 fun b hb _=>hb.2).mono fun b _ u=>u.1
theorem Sp.turn (h:Sp w (A::L)) (f:∀S,A.P S w->A'.P S w):Sp w (A' ::L):=
 h.upd fun S hS=>⟨S,f S hS,Tch.refl _ _,fun _ hb=> .inl hb⟩
theorem Sp.join (h:Sp w (A::B::L)) (f:∀S T,A.P S w->B.P T w->(∀b,S b->¬T b)->C.P (fun b=>S b\/T b) w):Sp w (C::L):=by
 obtain⟨S,_,h2,T,k1,k2,k3⟩:=h;exact⟨_,fun _ _=>trivial,f S T h2 k2 (fun b hs ht=>(k1 b ht).2 hs),k3.mono fun b _ u=>⟨trivial,fun hs=>hs.elim u.1.2 u.2⟩⟩
theorem Sp.split (h:Sp w (C::L)) (f:∀U,C.P U w->∃S T,A.P S w/\B.P T w/\(∀b,T b->¬S b)/\∀b,S b\/T b->U b):Sp w (A::B::L):=by
 obtain⟨U,_,h2,h3⟩:=h;obtain⟨S,T,hA,hB,hd,hu⟩:=f U h2;exact⟨S,fun _ _=>trivial,hA,T,fun b hb=>⟨trivial,hd b hb⟩,hB,h3.mono fun b _ u=>⟨⟨trivial,fun hs=>u.2 (hu b (.inl hs))⟩,fun ht=>u.2 (hu b (.inr ht))⟩⟩
end
def OldA (B:Nat) (w0:O):Asn where
 P S w:=(∀b,S b↔b<B)/\B<=w0.heap.size/\Below B w0 w
 lt h b hb:=by have:=(h.1 b).1 hb;have:=h.2.2.size;omega
 keep h ht hn:=⟨h.1,h.2.1,ht.os.trans h.2.2.os,ht.tape.trans h.2.2.tape,ht.output.trans h.2.2.output,zY h.2.2.size ht.size,fun k hk=>(ht.block k (by have:=h.2.2.size;omega) (hn k ((h.1 k).2 hk))).trans (h.2.2.block k hk)⟩
def RowA (e:TypeId) (size:Nat) (v:V) (n:Nat) (xs:aF):Asn where
 P S w:=(∀b,S b↔v.ownBlock=some b)/\zt w (fun _=>True) e size v n xs
 lt h b hb:=(h.2.lt b ((h.1 b).1 hb)).2
 keep h ht hn:=⟨h.1,h.2.tch ht (fun g hg=>hn g ((h.1 g).2 hg))⟩
def BlkA (g:Nat) (t:TypeId) (cs:aG):Asn where
 P S w:=(∀b,S b↔b=g)/\Blk w g t cs
 lt h b hb:=by rw [(h.1 b).1 hb];exact h.2.lt
 keep h ht hn:=⟨h.1,h.2.tch ht (hn g ((h.1 g).2 rfl))⟩
section
variable {w w' :O} {L:List Asn} {e t:TypeId} {size n g:Nat} {v:V} {xs:aF} {cs:aG}
theorem Sp.start (w:O):Sp w [OldA w.heap.size w]:=⟨fun b=>b<w.heap.size,fun _ _=>trivial,⟨fun _=>Iff.rfl,zC _,zE _ _⟩,trivial⟩
theorem Sp.below {B:Nat} {w0:O} (h:Sp w L) (hm:OldA B w0∈L):Below B w0 w:=(h.get hm).choose_spec.2.2
theorem SpU.call (h:Sp w L):∀(Xs:List Asn) {U:Nat->Prop},SpU w' U (Xs++ [OldA w.heap.size w])->SpU w' U (Xs++L)
 | [],U,⟨S,h1,h2,_⟩=>SpU.tch (S' :=fun _=>False) (Tch.new h2.2.2) (SpU.mono h fun b hb _=>h1 b ((h2.1 b).2 hb)) fun _ _ _=>id
 |_::Xs,_,⟨S,h1,h2,h3⟩=>⟨S,h1,h2,SpU.call h Xs h3⟩
theorem Sp.call (h:Sp w L) (Xs:List Asn) (k:Sp w' (Xs++ [OldA w.heap.size w])):Sp w' (Xs++L):=SpU.call h Xs k
theorem Sp.c1 {X:Asn} (h:Sp w L) (k:Sp w' [X,OldA w.heap.size w]):Sp w' (X::L):=SpU.call h [X] k
theorem Sp.c2 {X Y:Asn} (h:Sp w L) (k:Sp w' [X,Y,OldA w.heap.size w]):Sp w' (X::Y::L):=SpU.call h [X,Y] k
theorem Sp.al (h:Sp w L) (o:Obj):Sp (w.alloc o) L:=h.grow ((zE _ _).alloc (zC _) o)
theorem Sp.drew (h:Sp w L):Sp w.drew L:=h.grow (zE _ _).drew
theorem Sp.drewN (h:Sp w L) (k:Nat):Sp (w.drewN k) L:=h.grow (zd (zE _ _) k)
theorem Sp.blk (h:Sp w L) (t:TypeId) (cs:aG):Sp (w.alloc (.cells cs t)) (BlkA w.heap.size t cs::L):=
 h.new (S:=fun b=>b=w.heap.size) ((zE _ _).alloc (zC _) _) ⟨fun _=>Iff.rfl,Blk.new w t cs⟩ (fun b hb=>by omega)
theorem Sp.row (h:Sp w L) (hr:zt w' (Frm w.heap.size) e size v n xs) (hb:Below w.heap.size w w'):Sp w' (RowA e size v n xs::L):=
 h.new (S:=fun b=>v.ownBlock=some b) hb ⟨fun _=>Iff.rfl,hr.mono fun _ _ _=>trivial⟩ (fun b hb=>(hr.lt b hb).1)
theorem Sp.lit (h:Sp w L) (cs:aG) (e:TypeId) (size n:Nat) (hs:cs.size=n*size) (hm:n<=maxLen):Sp (w.alloc (.cells cs e)) (RowA e size (.slice (some ⟨w.heap.size,0,none⟩) n n) n cs.toList::L):=
 h.row (Zn w cs e size n hs hm (zC _)) ((zE _ _).alloc (zC _) _)
theorem Sp.nil (h:Sp w L) (e:TypeId) (size:Nat):Sp w (RowA e size (.slice none 0 0) 0 []::L):=
 h.row (ZJ w _ e size) (zE _ _)
theorem Sp.set (h:Sp w (BlkA g t cs::L)) (i:Nat) (u:V):Sp (w.setCell ⟨g,i,none⟩ u) (BlkA g t (cs.setIfInBounds i u)::L):=
 h.upd fun S hS=>⟨S,⟨hS.1,hS.2.set_ i u⟩,Tch.setCell (S:=S) (p:=⟨g,i,none⟩) w ((hS.1 g).2 rfl) u,fun _ hb=> .inl hb⟩
theorem Sp.blkOf (h:Sp w L) (hm:BlkA g t cs∈L):Blk w g t cs:=(h.get hm).choose_spec.2
theorem Sp.cell (h:Sp w L) (hm:BlkA g t cs∈L) (i:Nat):w.cell? ⟨g,i,none⟩=cs[i]? :=(h.blkOf hm).cell i
theorem Sp.cl (h:Sp w L) (hm:BlkA g t cs∈L) (i:Nat) {v:V} (e:cs[i]? =some v:=by exact gi rfl):w.cell? ⟨g,i,none⟩=some v:=(h.cell hm i).trans e
theorem Sp.rowOf (h:Sp w L) (hm:RowA e size v n xs∈L):zt w (fun _=>True) e size v n xs:=(h.get hm).choose_spec.2
theorem Sp.rc {A:aA} {c:Nat} (h:Sp w L) (hm:RowA e size (.slice A n c) n xs∈L):RC w size A n xs:=(h.rowOf hm).rc
theorem Sp.clip {A:aA} {c:Nat} (h:Sp w (RowA e size (.slice A n c) n xs::L)):Sp w (RowA e size (.slice A n n) n xs::L):=
 h.turn fun S hS=>⟨fun b=>by rw [hS.1 b];cases A<;>simp [Value.ownBlock],hS.2.clip⟩
end
def zP (n:Nat):aC:=if h:n>127 then(n%128+128).toUInt8::zP (n / 128)else [n.toUInt8]
 termination_by n
 decreasing_by omega
theorem YT {n:Nat} (h:n<=127):zP n= [n.toUInt8]:=by rw [zP,dif_neg (by omega)]
theorem Wd {n:Nat} (h:127<n):zP n=(n%128+128).toUInt8::zP (n / 128):=by rw [zP,dif_pos h]
theorem Yb (n:Nat):0<(zP n).length:=by
 rw [zP];split<;>simp
theorem CQ (k:Nat):∀n,n<128^(k+1)->(zP n).length<=k+1:=by
 induction k with
 |zero=>intro n h;rw [YT (by omega)];simp
 |succ k ih=>
  intro n h
  by_cases hn:n<=127
  ·rw [YT hn];simp
  ·rw [Wd (by omega),z6];have:=ih (n / 128) (by rw [Nat.div_lt_iff_lt_mul (by omega)];rw [Nat.pow_succ]at h;exact h);omega
theorem ya {n:Nat} (h:n<2^64):(zP n).length<=10:=CQ 9 n (by omega)
def YD:aC->Nat->Nat->Option (Nat×Nat)
 | [],_,_=>none
 |c::b,i,n=>
  if i=10 then none
  else if i=9/\c.toNat%128>1 then none
  else if c.toNat<128 then(if c.toNat=0/\i>0 then none else some (n+c.toNat%128*128^i,i+1))
  else YD b (i+1) (n+c.toNat%128*128^i)
def numL (b:aC):Option (Nat×Nat):=YD b 0 0
theorem Yt {n:Nat} (h:n<256):n.toUInt8.toNat=n:=by
 rw [Nat.toUInt8,UInt8.toNat_ofNat'];omega
theorem wX:∀(n:Nat) (i m:Nat) (rest:aC),i<=9->n<2^(64 - 7*i)->(i=0\/0<n)->YD (zP n++rest) i m=some (m+n*128^i,i+(zP n).length):=by
 intro n
 induction n using Nat.strongRecOn with
 |_ n ih=>
  intro i m rest hi hn h0;have hbig:i=9->n<2:=by intro h;subst h;simpa using hn
  by_cases h:n<=127
  ·rw [YT h];simp only [yI,zZ,YD];rw [if_neg (by omega),Yt (by omega),if_neg (by omega),if_pos (by omega),if_neg (by omega),zy (by omega)];rfl
  ·have h9:i≠9:=fun h=>by have:=hbig h;omega
   rw [Wd (by omega)];simp only [yI,YD];rw [if_neg (by omega),Yt (by omega),if_neg (by omega),if_neg (by omega)]
   have hlt:n / 128<2^(64 - 7*(i+1)):=by
    rw [Nat.div_lt_iff_lt_mul (by omega)]
    have:(2:Nat)^(64 - 7*(i+1))*128=2^(64 - 7*i):=by
     rw [show(128:Nat)=2^7 from rfl,<-Nat.pow_add]
     congr 1;omega
    omega
   rw [ih (n / 128) (by omega) (i+1) _ rest (by omega) hlt (.inr (by omega)),z6];have he:(n%128+128)%128=n%128:=(by omega);rw [he,Nat.pow_succ]
   have:n%128*128^i+n / 128*(128^i*128)=n*128^i:=by
    have h2:n / 128*(128^i*128)=(n / 128*128)*128^i:=(by rw [Nat.mul_assoc,Nat.mul_comm 128]);rw [h2,<-xK]
    congr 1;omega
   simp only [Option.some.injEq,Prod.mk.injEq]
   constructor<;>omega
theorem Ua {n:Nat} (h:n<2^64) (rest:aC):numL (zP n++rest)=some (n,(zP n).length):=by
 have:=wX n 0 0 rest (by omega) (by simpa using h) (.inl rfl)
 simpa [numL]using this
def yc (n:Int):Nat:=if 0<=n then(2*n).toNat else(2*(-(n+1))+1).toNat
def back (u:Nat):Int:=if u%2=0 then(u / 2:Nat)else -((u / 2:Nat):Int) - 1
theorem vF (n:Int):back (yc n)=n:=by
 unfold back yc
 split<;>split<;>omega
theorem QH {n:Int} (h: -9223372036854775808<=n/\n<=9223372036854775807):yc n<2^64:=by
 unfold yc
 split<;>omega
structure RS where
 b:aC
 at_:Nat
 e:Nat
structure RS.Ok (r:RS):Prop where
 le:r.at_<=r.b.length
 e:r.e=0\/r.e=20
def RS.rest (r:RS):aC:=r.b.drop r.at_
def RS.left (r:RS):Nat:=r.b.length - r.at_
def RS.take {α:Type} (r:RS) (z:α) (f:aC->Option (α×Nat)):α×RS:=
 if r.e≠0 then(z,r)else match f r.rest with
  |none=>(z,{r with e:=20})
  |some (x,n)=>(x,{r with at_:=r.at_+n})
def Xl (most:Nat) (b:aC):Option (Nat×Nat):=match numL b with
 |none=>none
 |some (u,n)=>if u<=most then some (u,n)else none
def XF (most:Nat) (b:aC):Option (aC×Nat):=match numL b with
 |none=>none
 |some (u,n)=>if u<=most/\u<=b.length - n then some ((b.drop n).take u,n+u)else none
def Y5 (n:Nat) (b:aC):Option (aC×Nat):=if n<=b.length then some (b.take n,n)else none
def RS.uint (r:RS):Nat×RS:=r.take 0 numL
def RS.int (r:RS):Int×RS:=(back r.uint.1,r.uint.2)
def RS.size (r:RS) (most:Nat):Nat×RS:=r.take 0 (Xl most)
def RS.text (r:RS) (most:Nat):aC×RS:=r.take [] (XF most)
def RS.bytes (r:RS) (n:Nat):aC×RS:=r.take [] (Y5 n)
def RS.fin (r:RS):RS:=if r.e=0/\0<r.left then {r with e:=20} else r
def Qr {α:Type} (f:aC->Option (α×Nat)):Prop:=∀b x n,f b=some (x,n)->n<=b.length
theorem Vu:∀(b:aC) (i n x k:Nat),YD b i n=some (x,k)->i<=k/\k<=i+b.length
 | [],_,_,_,_,h=>by simp [YD]at h
 |c::b,i,n,x,k,h=>by
  unfold YD at h
  split at h
  ·cases h
  split at h
  ·cases h
  split at h
  ·split at h
   ·cases h
   ·simp only [Option.some.injEq,Prod.mk.injEq]at h;simp;omega
  ·have:=Vu b (i+1) _ x k h;simp;omega
theorem Yw:Qr numL:=fun b x n h=>by have:=(Vu b 0 0 x n h).2;omega
theorem r7 (most:Nat):Qr (Xl most):=by
 intro b x n h;unfold Xl at h
 split at h
 ·cases h
 ·rename_i u k hk
  split at h
  ·cases h;exact Yw _ _ _ hk
  ·cases h
theorem rX (most:Nat):Qr (XF most):=by
 intro b x n h;unfold XF at h
 split at h
 ·cases h
 ·rename_i u k hk;have:=Yw _ _ _ hk
  split at h
  ·cases h;omega
  ·cases h
theorem VL (n:Nat):Qr (Y5 n):=by
 intro b x k h;unfold Y5 at h
 split at h
 ·cases h;assumption
 ·cases h
theorem RS.take_ok {α:Type} {r:RS} (h:r.Ok) (z:α) {f:aC->Option (α×Nat)} (hf:Qr f):(r.take z f).2.Ok:=by
 unfold RS.take
 split
 ·exact h
 ·split
  ·exact⟨h.le,.inr rfl⟩
  ·rename_i x n hx;have h1:=hf _ _ _ hx;have h2:=h.le;refine⟨?_,h.e⟩;simp only [RS.rest,ze]at h1;show r.at_+n<=r.b.length
   omega
theorem RS.take_bad {α:Type} {r:RS} (h:r.e≠0) (z:α) (f:aC->Option (α×Nat)):r.take z f=(z,r):=by
 unfold RS.take;rw [if_pos h]
theorem RS.take_none {α:Type} {r:RS} (h:r.e=0) {z:α} {f:aC->Option (α×Nat)} (hf:f r.rest=none):r.take z f=(z,{r with e:=20}):=by
 unfold RS.take;rw [if_neg (by simp [h]),hf]
theorem RS.take_some {α:Type} {r:RS} (h:r.e=0) {z x:α} {n:Nat} {f:aC->Option (α×Nat)} (hf:f r.rest=some (x,n)):r.take z f=(x,{r with at_:=r.at_+n}):=by
 unfold RS.take;rw [if_neg (by simp [h]),hf]
def rsAt (pre post:aC):RS:=⟨pre++post,pre.length,0⟩
theorem DH (pre post:aC):(rsAt pre post).rest=post:=by simp [rsAt,RS.rest]
theorem Wj {α:Type} (pre mid post:aC) (z x:α) {f:aC->Option (α×Nat)} (hf:f (mid++post)=some (x,mid.length)):(rsAt pre (mid++post)).take z f=(x,rsAt (pre++mid) post):=by
 rw [RS.take_some rfl (x:=x) (n:=mid.length) (by rw [DH];exact hf)];simp [rsAt]
theorem kW {n:Nat} (h:n<2^64) (pre post:aC):(rsAt pre (zP n++post)).uint=(n,rsAt (pre++zP n) post):=
 Wj pre (zP n) post 0 n (Ua h post)
theorem Vm {n:Int} (h: -9223372036854775808<=n/\n<=9223372036854775807) (pre post:aC):(rsAt pre (zP (yc n)++post)).int=(n,rsAt (pre++zP (yc n)) post):=by
 unfold RS.int;rw [kW (QH h),vF]
theorem yn {n most:Nat} (h:n<2^64) (hm:n<=most) (pre post:aC):(rsAt pre (zP n++post)).size most=(n,rsAt (pre++zP n) post):=
 Wj pre (zP n) post 0 n (by unfold Xl;rw [Ua h post];simp [hm])
theorem QM {s:aC} {most:Nat} (h:s.length<2^64) (hm:s.length<=most) (pre post:aC):(rsAt pre (zP s.length++s++post)).text most=(s,rsAt (pre++(zP s.length++s)) post):=by
 refine Wj pre (zP s.length++s) post [] s ?_;unfold XF;rw [zO,Ua h];simp [hm]
theorem X4 (s pre post:aC):(rsAt pre (s++post)).bytes s.length=(s,rsAt (pre++s) post):=
 Wj pre s post [] s (by simp [Y5])
theorem Xi (A:aA) (n c:Nat) (cs:aF) (w:O) (hn:n*1<=140737488355328) (hx:xA w w.heap.size 1 A n cs) (h1:∀u∈cs,u.oneCell' =true):
 Calls prog 56 #[.slice A n c] w fun e w' =>∃A' c',e= .returned (.slice A' n c')/\zt w' (Frm w.heap.size) 5 1 (.slice A' n c') n cs/\Below w.heap.size w w' :=by
 have q22:=eN underlying65;have hn2:n<=140737488355328:=by omega
 cases A with
 |none=>
  have hn0:n=0:=by
   rcases zi n with h|h
   ·exact h
   ·obtain⟨_,hA,_⟩:=hx.2 h;cases hA
  subst hn0;have hcs:cs= []:=zS (by simpa using hx.1);subst hcs;clear hx h1;go_enter func56,ntmps56;go_wp2;go_ret
  exact⟨none,0,rfl,ZJ _ _ _ _,zE _ _⟩
 |some ad=>
  have HO:=zA (Zn (S:=Frm w.heap.size) w #[] 5 1 0 rfl (by decide) (zC _));have Hx:=zA (hx.alloc (zC _) (.cells #[] 5));have H1:=zA h1;clear hx h1;go_enter func56,ntmps56
  go_wp2_with (at_builtin;refine xm (S:=Frm w.heap.size) yW (.tmp 5) (.tmp 6) rfl rfl (v:= .slice (some ⟨w.heap.size,0,none⟩) 0 0) rfl HO.out rfl Hx.out H1.out (by omega) (by omega) (by simp [Frm]) ?_;intro A' c' w1 ho1 hg1 _ hb1;simp only [zx,zZ]at ho1;have Ho1:=zA ho1;have Hb1:=zA (((zE w.heap.size w).alloc (zC _) (.cells #[] 5)).trans (hb1.below (by simp) (fun _ h=>h)));clear ho1 hg1 hb1)
  go_ret
  exact⟨A',c',rfl,Ho1.out,Hb1.out⟩
theorem Zs:Elt prog 57 2 1 8:=xt underlying57 (by decide) (by kernel_rfl)
theorem XW (A:aA) (n c:Nat) (cs:aF) (w:O) (hn:n*8<=140737488355328) (hx:xA w w.heap.size 1 A n cs) (h1:∀u∈cs,u.oneCell' =true):
 Calls prog 96 #[.slice A n c] w fun e w' =>∃A' c',e= .returned (.slice A' n c')/\zt w' (Frm w.heap.size) 2 1 (.slice A' n c') n cs/\Below w.heap.size w w' :=by
 have q22:=eN underlying57;have hn2:n<=140737488355328:=by omega
 cases A with
 |none=>
  have hn0:n=0:=by
   rcases zi n with h|h
   ·exact h
   ·obtain⟨_,hA,_⟩:=hx.2 h;cases hA
  subst hn0;have hcs:cs= []:=zS (by simpa using hx.1);subst hcs;clear hx h1;go_enter func96,ntmps96;go_wp2;go_ret
  exact⟨none,0,rfl,ZJ _ _ _ _,zE _ _⟩
 |some ad=>
  have HO:=zA (Zn (S:=Frm w.heap.size) w #[] 2 1 0 rfl (by decide) (zC _));have Hx:=zA (hx.alloc (zC _) (.cells #[] 2));have H1:=zA h1;clear hx h1;go_enter func96,ntmps96
  go_wp2_with (at_builtin;refine xm (S:=Frm w.heap.size) Zs (.tmp 5) (.tmp 6) rfl rfl (v:= .slice (some ⟨w.heap.size,0,none⟩) 0 0) rfl HO.out rfl Hx.out H1.out (by omega) (by omega) (by simp [Frm]) ?_;intro A' c' w1 ho1 hg1 _ hb1;simp only [zx,zZ]at ho1;have Ho1:=zA ho1;have Hb1:=zA (((zE w.heap.size w).alloc (zC _) (.cells #[] 2)).trans (hb1.below (by simp) (fun _ h=>h)));clear ho1 hg1 hb1)
  go_ret
  exact⟨A',c',rfl,Ho1.out,Hb1.out⟩
theorem Xr:Elt prog 55 3 1 8:=xt underlying55 (by decide) (by kernel_rfl)
theorem l4 (A:aA) (n c:Nat) (cs:aF) (w:O) (hn:n*8<=140737488355328) (hx:xA w w.heap.size 1 A n cs) (h1:∀u∈cs,u.oneCell' =true):
 Calls prog 53 #[.slice A n c] w fun e w' =>∃A' c',e= .returned (.slice A' n c')/\zt w' (Frm w.heap.size) 3 1 (.slice A' n c') n cs/\Below w.heap.size w w' :=by
 have q22:=eN underlying55;have hn2:n<=140737488355328:=by omega
 cases A with
 |none=>
  have hn0:n=0:=by
   rcases zi n with h|h
   ·exact h
   ·obtain⟨_,hA,_⟩:=hx.2 h;cases hA
  subst hn0;have hcs:cs= []:=zS (by simpa using hx.1);subst hcs;clear hx h1;go_enter func53,ntmps53;go_wp2;go_ret
  exact⟨none,0,rfl,ZJ _ _ _ _,zE _ _⟩
 |some ad=>
  have HO:=zA (Zn (S:=Frm w.heap.size) w #[] 3 1 0 rfl (by decide) (zC _));have Hx:=zA (hx.alloc (zC _) (.cells #[] 3));have H1:=zA h1;clear hx h1;go_enter func53,ntmps53
  go_wp2_with (at_builtin;refine xm (S:=Frm w.heap.size) Xr (.tmp 5) (.tmp 6) rfl rfl (v:= .slice (some ⟨w.heap.size,0,none⟩) 0 0) rfl HO.out rfl Hx.out H1.out (by omega) (by omega) (by simp [Frm]) ?_;intro A' c' w1 ho1 hg1 _ hb1;simp only [zx,zZ]at ho1;have Ho1:=zA ho1;have Hb1:=zA (((zE w.heap.size w).alloc (zC _) (.cells #[] 3)).trans (hb1.below (by simp) (fun _ h=>h)));clear ho1 hg1 hb1)
  go_ret
  exact⟨A',c',rfl,Ho1.out,Hb1.out⟩
theorem Ql:Elt prog 129 9 1 16:=xt underlying129 (by decide) (by kernel_rfl)
theorem FP (A:aA) (n c:Nat) (cs:aF) (w:O) (hn:n*16<=140737488355328) (hx:xA w w.heap.size 1 A n cs) (h1:∀u∈cs,u.oneCell' =true):
 Calls prog 271 #[.slice A n c] w fun e w' =>∃A' c',e= .returned (.slice A' n c')/\zt w' (Frm w.heap.size) 9 1 (.slice A' n c') n cs/\Below w.heap.size w w' :=by
 have q22:=eN underlying129;have hn2:n<=140737488355328:=by omega
 cases A with
 |none=>
  have hn0:n=0:=by
   rcases zi n with h|h
   ·exact h
   ·obtain⟨_,hA,_⟩:=hx.2 h;cases hA
  subst hn0;have hcs:cs= []:=zS (by simpa using hx.1);subst hcs;clear hx h1;go_enter func271,ntmps271;go_wp2;go_ret
  exact⟨none,0,rfl,ZJ _ _ _ _,zE _ _⟩
 |some ad=>
  have HO:=zA (Zn (S:=Frm w.heap.size) w #[] 9 1 0 rfl (by decide) (zC _));have Hx:=zA (hx.alloc (zC _) (.cells #[] 9));have H1:=zA h1;clear hx h1;go_enter func271,ntmps271
  go_wp2_with (at_builtin;refine xm (S:=Frm w.heap.size) Ql (.tmp 5) (.tmp 6) rfl rfl (v:= .slice (some ⟨w.heap.size,0,none⟩) 0 0) rfl HO.out rfl Hx.out H1.out (by omega) (by omega) (by simp [Frm]) ?_;intro A' c' w1 ho1 hg1 _ hb1;simp only [zx,zZ]at ho1;have Ho1:=zA ho1;have Hb1:=zA (((zE w.heap.size w).alloc (zC _) (.cells #[] 9)).trans (hb1.below (by simp) (fun _ h=>h)));clear ho1 hg1 hb1)
  go_ret
  exact⟨A',c',rfl,Ho1.out,Hb1.out⟩
theorem nV:Elt prog 32 59 3 48:=xt underlying32 (by decide) (by kernel_rfl)
theorem BD (A:aA) (n c:Nat) (cs:aF) (w:O) (hn:n*48<=140737488355328) (hx:xA w w.heap.size 3 A n cs) (h1:∀u∈cs,u.oneCell' =true):
 Calls prog 64 #[.slice A n c] w fun e w' =>∃A' c',e= .returned (.slice A' n c')/\zt w' (Frm w.heap.size) 59 3 (.slice A' n c') n cs/\Below w.heap.size w w' :=by
 have q22:=eN underlying32;have hn2:n<=140737488355328:=by omega
 cases A with
 |none=>
  have hn0:n=0:=by
   rcases zi n with h|h
   ·exact h
   ·obtain⟨_,hA,_⟩:=hx.2 h;cases hA
  subst hn0;have hcs:cs= []:=zS (by simpa using hx.1);subst hcs;clear hx h1;go_enter func64,ntmps64;go_wp2;go_ret
  exact⟨none,0,rfl,ZJ _ _ _ _,zE _ _⟩
 |some ad=>
  have HO:=zA (Zn (S:=Frm w.heap.size) w #[] 59 3 0 rfl (by decide) (zC _));have Hx:=zA (hx.alloc (zC _) (.cells #[] 59));have H1:=zA h1;clear hx h1;go_enter func64,ntmps64
  go_wp2_with (at_builtin;refine xm (S:=Frm w.heap.size) nV (.tmp 5) (.tmp 6) rfl rfl (v:= .slice (some ⟨w.heap.size,0,none⟩) 0 0) rfl HO.out rfl Hx.out H1.out (by omega) (by omega) (by simp [Frm]) ?_;intro A' c' w1 ho1 hg1 _ hb1;simp only [zx,zZ]at ho1;have Ho1:=zA ho1;have Hb1:=zA (((zE w.heap.size w).alloc (zC _) (.cells #[] 59)).trans (hb1.below (by simp) (fun _ h=>h)));clear ho1 hg1 hb1)
  go_ret
  exact⟨A',c',rfl,Ho1.out,Hb1.out⟩
theorem AQ:Elt prog 22 61 7 72:=xt underlying22 (by decide) (by kernel_rfl)
theorem sZ (A:aA) (n c:Nat) (cs:aF) (w:O) (hn:n*72<=140737488355328) (hx:xA w w.heap.size 7 A n cs) (h1:∀u∈cs,u.oneCell' =true):
 Calls prog 142 #[.slice A n c] w fun e w' =>∃A' c',e= .returned (.slice A' n c')/\zt w' (Frm w.heap.size) 61 7 (.slice A' n c') n cs/\Below w.heap.size w w' :=by
 have q22:=eN underlying22;have hn2:n<=140737488355328:=by omega
 cases A with
 |none=>
  have hn0:n=0:=by
   rcases zi n with h|h
   ·exact h
   ·obtain⟨_,hA,_⟩:=hx.2 h;cases hA
  subst hn0;have hcs:cs= []:=zS (by simpa using hx.1);subst hcs;clear hx h1;go_enter func142,ntmps142;go_wp2;go_ret
  exact⟨none,0,rfl,ZJ _ _ _ _,zE _ _⟩
 |some ad=>
  have HO:=zA (Zn (S:=Frm w.heap.size) w #[] 61 7 0 rfl (by decide) (zC _));have Hx:=zA (hx.alloc (zC _) (.cells #[] 61));have H1:=zA h1;clear hx h1;go_enter func142,ntmps142
  go_wp2_with (at_builtin;refine xm (S:=Frm w.heap.size) AQ (.tmp 5) (.tmp 6) rfl rfl (v:= .slice (some ⟨w.heap.size,0,none⟩) 0 0) rfl HO.out rfl Hx.out H1.out (by omega) (by omega) (by simp [Frm]) ?_;intro A' c' w1 ho1 hg1 _ hb1;simp only [zx,zZ]at ho1;have Ho1:=zA ho1;have Hb1:=zA (((zE w.heap.size w).alloc (zC _) (.cells #[] 61)).trans (hb1.below (by simp) (fun _ h=>h)));clear ho1 hg1 hb1)
  go_ret
  exact⟨A',c',rfl,Ho1.out,Hb1.out⟩
theorem Ws:Elt prog 148 232 2 32:=xt underlying148 (by decide) (by kernel_rfl)
theorem uZ (A:aA) (n c:Nat) (cs:aF) (w:O) (hn:n*32<=140737488355328) (hx:xA w w.heap.size 2 A n cs) (h1:∀u∈cs,u.oneCell' =true):
 Calls prog 224 #[.slice A n c] w fun e w' =>∃A' c',e= .returned (.slice A' n c')/\zt w' (Frm w.heap.size) 232 2 (.slice A' n c') n cs/\Below w.heap.size w w' :=by
 have q22:=eN underlying148;have hn2:n<=140737488355328:=by omega
 cases A with
 |none=>
  have hn0:n=0:=by
   rcases zi n with h|h
   ·exact h
   ·obtain⟨_,hA,_⟩:=hx.2 h;cases hA
  subst hn0;have hcs:cs= []:=zS (by simpa using hx.1);subst hcs;clear hx h1;go_enter func224,ntmps224;go_wp2;go_ret
  exact⟨none,0,rfl,ZJ _ _ _ _,zE _ _⟩
 |some ad=>
  have HO:=zA (Zn (S:=Frm w.heap.size) w #[] 232 2 0 rfl (by decide) (zC _));have Hx:=zA (hx.alloc (zC _) (.cells #[] 232));have H1:=zA h1;clear hx h1;go_enter func224,ntmps224
  go_wp2_with (at_builtin;refine xm (S:=Frm w.heap.size) Ws (.tmp 5) (.tmp 6) rfl rfl (v:= .slice (some ⟨w.heap.size,0,none⟩) 0 0) rfl HO.out rfl Hx.out H1.out (by omega) (by omega) (by simp [Frm]) ?_;intro A' c' w1 ho1 hg1 _ hb1;simp only [zx,zZ]at ho1;have Ho1:=zA ho1;have Hb1:=zA (((zE w.heap.size w).alloc (zC _) (.cells #[] 232)).trans (hb1.below (by simp) (fun _ h=>h)));clear ho1 hg1 hb1)
  go_ret
  exact⟨A',c',rfl,Ho1.out,Hb1.out⟩
theorem Zt (A:aA) (n c:Nat) (w:O) (hn:n<=c) (hc:c<=9223372036854775807):
 Calls prog 55 #[.slice A n c] w fun e w' =>e= .returned (.slice A n n)/\w=w' :=by
 go_enter func55,ntmps55;go_wp2;go_ret
 exact⟨rfl,rfl⟩
theorem UO (A:aA) (n c:Nat) (w:O) (hn:n<=c) (hc:c<=9223372036854775807):
 Calls prog 54 #[.slice A n c] w fun e w' =>e= .returned (.slice A n n)/\w=w' :=by
 go_enter func54,ntmps54;go_wp2;go_ret
 exact⟨rfl,rfl⟩
theorem eK (A:aA) (n c:Nat) (w:O) (hn:n<=c) (hc:c<=9223372036854775807):
 Calls prog 109 #[.slice A n c] w fun e w' =>e= .returned (.slice A n n)/\w=w' :=by
 go_enter func109,ntmps109;go_wp2;go_ret
 exact⟨rfl,rfl⟩
theorem KA (A:aA) (n c:Nat) (w:O) (hn:n<=c) (hc:c<=9223372036854775807):
 Calls prog 67 #[.slice A n c] w fun e w' =>e= .returned (.slice A n n)/\w=w' :=by
 go_enter func67,ntmps67;go_wp2;go_ret
 exact⟨rfl,rfl⟩
theorem KD (A:aA) (n c:Nat) (w:O) (hn:n<=c) (hc:c<=9223372036854775807):
 Calls prog 68 #[.slice A n c] w fun e w' =>e= .returned (.slice A n n)/\w=w' :=by
 go_enter func68,ntmps68;go_wp2;go_ret
 exact⟨rfl,rfl⟩
theorem KC (A:aA) (n c:Nat) (w:O) (hn:n<=c) (hc:c<=9223372036854775807):
 Calls prog 69 #[.slice A n c] w fun e w' =>e= .returned (.slice A n n)/\w=w' :=by
 go_enter func69,ntmps69;go_wp2;go_ret
 exact⟨rfl,rfl⟩
theorem KB (A:aA) (n c:Nat) (w:O) (hn:n<=c) (hc:c<=9223372036854775807):
 Calls prog 120 #[.slice A n c] w fun e w' =>e= .returned (.slice A n n)/\w=w' :=by
 go_enter func120,ntmps120;go_wp2;go_ret
 exact⟨rfl,rfl⟩
theorem BG (A:aA) (n c:Nat) (w:O) (hn:n<=c) (hc:c<=9223372036854775807):
 Calls prog 121 #[.slice A n c] w fun e w' =>e= .returned (.slice A n n)/\w=w' :=by
 go_enter func121,ntmps121;go_wp2;go_ret
 exact⟨rfl,rfl⟩
theorem FQ (A:aA) (n c:Nat) (w:O) (hn:n<=c) (hc:c<=9223372036854775807):
 Calls prog 122 #[.slice A n c] w fun e w' =>e= .returned (.slice A n n)/\w=w' :=by
 go_enter func122,ntmps122;go_wp2;go_ret
 exact⟨rfl,rfl⟩
theorem FR (A:aA) (n c:Nat) (w:O) (hn:n<=c) (hc:c<=9223372036854775807):
 Calls prog 123 #[.slice A n c] w fun e w' =>e= .returned (.slice A n n)/\w=w' :=by
 go_enter func123,ntmps123;go_wp2;go_ret
 exact⟨rfl,rfl⟩
theorem BH (A:aA) (n c:Nat) (w:O) (hn:n<=c) (hc:c<=9223372036854775807):
 Calls prog 124 #[.slice A n c] w fun e w' =>e= .returned (.slice A n n)/\w=w' :=by
 go_enter func124,ntmps124;go_wp2;go_ret
 exact⟨rfl,rfl⟩
theorem BI (A:aA) (n c:Nat) (w:O) (hn:n<=c) (hc:c<=9223372036854775807):
 Calls prog 130 #[.slice A n c] w fun e w' =>e= .returned (.slice A n n)/\w=w' :=by
 go_enter func130,ntmps130;go_wp2;go_ret
 exact⟨rfl,rfl⟩
theorem u5 (A:aA) (n c:Nat) (w:O) (hn:n<=c) (hc:c<=9223372036854775807):
 Calls prog 141 #[.slice A n c] w fun e w' =>e= .returned (.slice A n n)/\w=w' :=by
 go_enter func141,ntmps141;go_wp2;go_ret
 exact⟨rfl,rfl⟩
def Rd (w:O) (S:Nat->Prop) (p:Nat) (r:RS):Prop:=
 S p/\r.Ok/\r.b.length<=140737488355328/\∃A c,Blk w p 239 #[.slice A r.b.length c,.int .i64 (r.at_:Int),.int .i64 (r.e:Int)]/\BR w S (.slice A r.b.length c) r.b
theorem Rd.tch {w w' :O} {S S' :Nat->Prop} {p:Nat} {r:RS} (h:Rd w S p r) (hb:Tch S' w w') (hn:∀b,S b->¬S' b):Rd w' S p r:=by
 obtain⟨h1,h2,h5,A,c,h3,h4⟩:=h;exact⟨h1,h2,h5,A,c,h3.tch hb (hn p h1),zt.tch h4 hb (fun g hg=>hn g (h4.lt g hg).1)⟩
theorem Rd.on {w w' :O} {S:Nat->Prop} {p:Nat} {r:RS} (h:Rd w S p r) (hb:Below w.heap.size w w'):Rd w' S p r:=h.tch (S' :=fun _=>False) (Tch.new hb) (fun _ _=>id)
theorem Rd.mono {w:O} {S S' :Nat->Prop} {p:Nat} {r:RS} (h:Rd w S p r) (hS:∀b,b<w.heap.size->S b->S' b):Rd w S' p r:=by
 obtain⟨h1,h2,h5,A,c,h3,h4⟩:=h;exact⟨hS p h3.lt h1,h2,h5,A,c,h3,h4.mono hS⟩
theorem Rd.cells {w:O} {S:Nat->Prop} {p:Nat} {r:RS} (h:Rd w S p r):∃A c,w.cell? ⟨p,0,none⟩=some (.slice A r.b.length c)/\w.cell? ⟨p,1,none⟩=some (.int .i64 (r.at_:Int))/\w.cell? ⟨p,2,none⟩=some (.int .i64 (r.e:Int))/\BR w S (.slice A r.b.length c) r.b/\p<w.heap.size:=by
 obtain⟨_,_,_,A,c,h3,h4⟩:=h;exact⟨A,c,h3.cell 0,h3.cell 1,h3.cell 2,h4,h3.lt⟩
theorem Rd.put_at {w:O} {S:Nat->Prop} {p:Nat} {r:RS} (h:Rd w S p r) {k:Nat} (hk:k<=r.b.length):Rd (w.setCell ⟨p,1,none⟩ (.int .i64 (k:Int))) S p {r with at_:=k}:=by
 obtain⟨h1,h2,h5,A,c,h3,h4⟩:=h;exact⟨h1,⟨hk,h2.e⟩,h5,A,c,h3.set_ 1 _,zt.tch h4 (Tch.put w p _ _) (fun g hg e=>by subst e;exact h4.ne_ h3 (by decide) hg)⟩
theorem Rd.put_e {w:O} {S:Nat->Prop} {p:Nat} {r:RS} (h:Rd w S p r):Rd (w.setCell ⟨p,2,none⟩ (.int .i64 20)) S p {r with e:=20}:=by
 obtain⟨h1,h2,h5,A,c,h3,h4⟩:=h;exact⟨h1,⟨h2.le,.inr rfl⟩,h5,A,c,h3.set_ 2 _,zt.tch h4 (Tch.put w p _ _) (fun g hg e=>by subst e;exact h4.ne_ h3 (by decide) hg)⟩
theorem Rd.frozen {w:O} {S:Nat->Prop} {p:Nat} {r:RS} (h:Rd w S p r) (i:Nat):w.frozen? ⟨p,i,none⟩=false:=by
 obtain⟨_,_,_,A,c,h3,_⟩:=h;exact h3.frozen i
theorem VF (A:aA) (n c:Nat) (l:aC) (w:O) (hn:n<=140737488355328) (hl:RB w A n l):
 Calls prog 73 #[.slice A n c] w fun e w' =>∃p,e= .returned (.pointer (some ⟨p,0,none⟩))/\Rd w' (Frm w.heap.size) p ⟨l,0,0⟩/\Below w.heap.size w w' :=by
 have hlen:=hl.len;have Hcl:=zA (Xi A n c (bC l) w (by omega) hl.reads (xd l));clear hl;subst hlen;go_enter func73,ntmps73;go_wp2_with fail;refine Hcl.out.mono ?_;rintro e w1 ⟨A1,c1,rfl,ho,hb⟩;have Ho:=zA ho;have Hb:=zA hb;clear ho hb;go_wp2;go_ret
 exact⟨w1.heap.size,rfl,⟨Hb.out.size,⟨zJ _,.inl rfl⟩,hn,A1,c1,Blk.new _ _ _,Ho.out.alloc _⟩,Hb.out.alloc Hb.out.size _⟩
theorem dX (p:Nat) (r:RS) (S:Nat->Prop) (w:O) (h:Rd w S p r):
 Calls prog 77 #[.pointer (some ⟨p,0,none⟩)] w fun e w' =>e= .returned (.int .i64 (r.left:Int))/\∃k,w' =w.drewN k:=by
 obtain⟨A,c,h0,h1,h2,_⟩:=h.cells;have hle:=h.2.1.le;have h5:=h.2.2.1;have e:((r.left:Nat):Int)=(r.b.length:Int) - r.at_:=by unfold RS.left;omega
 rw [e];clear e h2 h;go_enter func77,ntmps77;go_wp2
 go_quiet (fail)
 go_wp2;go_ret
 exact⟨rfl,_,rfl⟩
theorem Zr (p:Nat) (r:RS) (S:Nat->Prop) (w:O) (h:Rd w S p r):
 Calls prog 79 #[.pointer (some ⟨p,0,none⟩)] w fun e w' =>e= .returned (.int .i64 (r.e:Int))/\w=w' :=by
 obtain⟨A,c,h0,h1,h2,_⟩:=h.cells;clear h0 h1 h;go_enter func79,ntmps79;go_wp2;go_ret
 exact⟨rfl,rfl⟩
def Z3 (s:aB):aC:=s.data.toList
theorem iM (s:aB):(Z3 s).length=s.size:=by cases s;rfl
theorem vB {a b:aB} (h:Z3 a=Z3 b):a=b:=by
 cases a;cases b;simp only [Z3]at h
 congr
 exact Array.toList_inj.1 h
def ZE:aC->aC->Nat
 |a::l,b::m=>if a=b then ZE l m+1 else 0
 |_,_=>0
theorem iZ:∀(a b:aC),ZE a b<=a.length/\ZE a b<=b.length
 | [],b=>by cases b<;>simp [ZE]
 |x::l, []=>by simp [ZE]
 |x::l,y::m=>by
  unfold ZE
  split
  ·have:=iZ l m;simp;omega
  ·simp
theorem Vg:∀(a b:aC),a.take (ZE a b)=b.take (ZE a b)
 | [],b=>by cases b<;>simp [ZE]
 |x::l, []=>by simp [ZE]
 |x::l,y::m=>by
  unfold ZE
  split
  ·rename_i h;subst h;rw [xL,xL,Vg l m]
  ·simp
def aM (s:aC):aC:=zP s.length++s
def XZ:aB->List aB->aC
 |_, []=> []
 |a,b::l=>zP (ZE (Z3 a) (Z3 b))++(aM ((Z3 b).drop (ZE (Z3 a) (Z3 b)))++XZ b l)
def ZZ (l:List aB) (at_:aE):aC:=match l with
 | []=> []
 |a::l=>aM (Z3 a)++(XZ a l++at_.flatMap zP)
def YI:Nat->List aB->aE->List aC
 |0,_,_=> []
 |f+1,l,at_=>if l= []then []else ZZ (l.take 16) (at_.take 16)::YI f (l.drop 16) (at_.drop 16)
def ZM (l:List aB) (at_:aE):aC:=zP l.length++(YI (l.length+1) l at_).flatten
structure DictP where
 blocks:List aC
 first:List aB
 n:Nat
end Go.Proofs.YtjbhbfaeielbiaaGreatDoor

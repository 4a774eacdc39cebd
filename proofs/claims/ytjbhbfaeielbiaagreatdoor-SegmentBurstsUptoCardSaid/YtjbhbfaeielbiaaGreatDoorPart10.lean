import Derived.Test.YtjbhbfaeielbiaaGreatDoorPart01
import Derived.Deep.OwnRows
import Derived.RangeFuncNested
import Derived.RangeFuncBound
import Derived.Sort.Grow
import Derived.Sort.EncStr
set_option maxRecDepth 100000
set_option maxHeartbeats 8000000
set_option linter.unusedVariables false
set_option linter.unusedSimpArgs false

namespace Go.Proofs.YtjbhbfaeielbiaaGreatDoor
open Rep (rep)
open Go.RowKit
section
variable {P:Program} {w w' :O} {L:List Asn} {e:TypeId} {size n:Nat} {v:V} {xs:aF}
theorem Sp.app {m c' :Nat} {A' :aA} {ys:aF} (h:Sp w (RowA e size v n xs::L)) (h2:zt w' (fun _=>True) e size (.slice A' m c') m ys) (hg:w.grownBy w' v.ownBlock)
 (hat:(Value.slice A' m c').ownBlock=v.ownBlock\/(Value.slice A' m c').ownBlock=some w.heap.size):Sp w' (RowA e size (.slice A' m c') m ys::L):=
 h.upd fun S hS=>⟨fun b=>(Value.slice A' m c').ownBlock=some b,⟨fun _=>Iff.rfl,h2⟩,Tch.grown hg (fun b hb=>(hS.1 b).2 hb),fun b hb=>by
  rcases hat with e|e
  ·exact .inl ((hS.1 b).2 (by rw [<-e];exact hb))
  ·rw [e]at hb;cases hb;exact .inr (zC _)⟩
theorem yR {ops:Array Oper} {rest:List Oper} {o:Oper} {a:Act} {Q:Exit->Act->O->Prop} {t:TypeId} {bytes:Nat} (E:Elt P t e size bytes) (s x:Operand) (hgd:o.guard=none)
 (ho:o.op= .call {callee:= .builtin .append,args:= #[s,x],argTypes:= #[t,t]})
 (HS:Sp w (RowA e size v n xs::L)) (hs:a.eval s=v)
 {B:Nat} {A:aA} {m c:Nat} {news:aF} (hx:a.eval x= .slice A m c) (hr:xA w B size A m news) (h1:∀u∈news,u.oneCell' =true)
 (hn:(n+m)*bytes<=140737488355328) (h63:n+m<=9223372036854775807)
 (h:∀A' c' w',n+m<=c' ->c' <=9223372036854775807->Sp w' (RowA e size (.slice A' (n+m) c') (n+m) (xs++news)::L)->wpList P ops Q rest (a.put o.dst (.slice A' (n+m) c')) w'):wpList P ops Q (o::rest) a w:=
 xm E s x hgd ho hs (HS.rowOf (.head _)) hx hr h1 hn h63 trivial fun A' c' w' h2 h3 h4 _=>h A' c' w' h2.cap.2.1 h2.cap.2.2 (HS.app h2 h3 h4)
theorem Ye (w:O) (cs:aG) (t:TypeId) (hs:cs.size=size) {H:Nat} (hH:w.heap.size=H):xA (w.alloc (.cells cs t)) (H+1) size (some ⟨H,0,none⟩) 1 cs.toList:=by
 subst hH;exact kZ w cs t 1 size (by omega)
theorem yC {ops:Array Oper} {rest:List Oper} {o:Oper} {a:Act} {Q:Exit->Act->O->Prop} {t te:TypeId} {bytes:Nat} (E:Elt P t e size bytes) (s x:Operand) (hgd:o.guard=none)
 (ho:o.op= .call {callee:= .builtin .append,args:= #[s,x],argTypes:= #[t,t]})
 (HS:Sp w (RowA e size v n xs::L)) (hs:a.eval s=v) {cs:aG} {H:Nat} (hx:a.eval x= .slice (some ⟨H,0,none⟩) 1 1) (hH:w.heap.size=H) (hc:cs.size=size) (h1:∀u∈cs.toList,u.oneCell' =true)
 (hn:(n+1)*bytes<=140737488355328) (h63:n+1<=9223372036854775807)
 (h:∀A' c' w',n+1<=c' ->c' <=9223372036854775807->Sp w' (RowA e size (.slice A' (n+1) c') (n+1) (xs++cs.toList)::L)->wpList P ops Q rest (a.put o.dst (.slice A' (n+1) c')) w'):wpList P ops Q (o::rest) a (w.alloc (.cells cs te)):=
 yR E s x hgd ho (HS.al _) hs hx (Ye w cs te hc hH) h1 hn h63 h
theorem YA {F:Fence} {nF:Nat} {ops:Array Oper} {rest:List Oper} {o:Oper} {a:Act} {Q:Exit->Act->O->Prop} {t:TypeId} {bytes:Nat} (E:Elt P t e size bytes) (s x:Operand) (hgd:o.guard=none)
 (ho:o.op= .call {callee:= .builtin .append,args:= #[s,x],argTypes:= #[t,t]})
 (HS:Sp w (RowA e size v n xs::L)) (hs:a.eval s=v)
 {B:Nat} {A:aA} {m c:Nat} {news:aF} (hx:a.eval x= .slice A m c) (hr:xA w B size A m news) (h1:∀u∈news,u.oneCell' =true)
 (hn:(n+m)*bytes<=140737488355328) (h63:n+m<=9223372036854775807)
 (h:∀A' c' w',n+m<=c' ->c' <=9223372036854775807->Sp w' (RowA e size (.slice A' (n+m) c') (n+m) (xs++news)::L)->wpListIn F nF P ops Q rest (a.put o.dst (.slice A' (n+m) c')) w'):wpListIn F nF P ops Q (o::rest) a w:=
 rT E s x hgd ho hs (HS.rowOf (.head _)) hx hr h1 hn h63 trivial fun A' c' w' h2 h3 h4 _=>h A' c' w' h2.cap.2.1 h2.cap.2.2 (HS.app h2 h3 h4)
theorem XT {ops:Array Oper} {o:Oper} {a:Act} {K:Act->O->Prop} {Q:Exit->Act->O->Prop} {E' :Prop} {t:TypeId} {bytes:Nat} (E:Elt P t e size bytes) (s x:Operand) (hgd:o.guard=none)
 (ho:o.op= .call {callee:= .builtin .append,args:= #[s,x],argTypes:= #[t,t]})
 (HS:Sp w (RowA e size v n xs::L)) (hs:a.eval s=v)
 {B:Nat} {A:aA} {m c:Nat} {news:aF} (hx:a.eval x= .slice A m c) (hr:xA w B size A m news) (h1:∀u∈news,u.oneCell' =true)
 (hn:(n+m)*bytes<=140737488355328) (h63:n+m<=9223372036854775807)
 (h:∀A' c' w',n+m<=c' ->c' <=9223372036854775807->Sp w' (RowA e size (.slice A' (n+m) c') (n+m) (xs++news)::L)->K (a.put o.dst (.slice A' (n+m) c')) w'):
 if Region.wanted o (yielded ops a.tmps)=true then Oper.wp P o a w K Q else E' :=
 H7 E s x hgd ho hs (HS.rowOf (.head _)) hx hr h1 hn h63 trivial fun A' c' w' h2 h3 h4 _=>h A' c' w' h2.cap.2.1 h2.cap.2.2 (HS.app h2 h3 h4)
theorem rR {ops:Array Oper} {rest:List Oper} {o:Oper} {a:Act} {Q:Exit->Act->O->Prop} {t:TypeId} {bytes:Nat} (E:Elt P t e size bytes) (s x:Operand) (hgd:o.guard=none)
 (ho:o.op= .call {callee:= .builtin .append,args:= #[s,x],argTypes:= #[t,t]})
 (HS:Sp w L) {B0:Nat} {A0:aA} (hs:a.eval s= .slice A0 n n) (h0:0<n) (hr0:xA w B0 size A0 n xs)
 {B:Nat} {A:aA} {m c:Nat} {news:aF} (hx:a.eval x= .slice A m c) (hm0:0<m) (hr:xA w B size A m news)
 (hn:(n+m)*bytes<=140737488355328) (h63:n+m<=9223372036854775807)
 (h:∀A' c' w',n+m<=c' ->c' <=9223372036854775807->Sp w' (RowA e size (.slice A' (n+m) c') (n+m) (xs++news)::L)->wpList P ops Q rest (a.put o.dst (.slice A' (n+m) c')) w'):wpList P ops Q (o::rest) a w:=
 wpList_plain hgd fun _ hK=>by
  obtain⟨ht,hsz,i,z,hi,hz,hsize,hby,hzs⟩:=E;subst hsize hby;obtain⟨ad0,rfl,_,bD⟩:=hr0.2 h0;obtain⟨ad,rfl,_,hnews⟩:=hr.2 hm0;have hrun:=run_append_grow (P:=P) w t o.type e i z ht hi hz ad0 n n xs hr0.1 bD ad m c news hr.1 hnews (by omega) (by omega) (growslice_fits (by omega) hn);have hge:=grownCap_ge w (n+m) n e
  have hcm:grownCap w (n+m) n e<=maxLen:=grownCap_le_maxLen w (n+m) n e (by unfold maxLen;omega);unfold Oper.wp execOp;simp only [ho,resolve,invoke,builtin,Sem.run_bind,Sem.run_pure,Result.andThen_ok,List.map_toArray,yH,List.map_nil,hs,hx,hrun];have hlen:(xs++news).length=(n+m)*i.size:=(by rw [zG,hr0.1,hr.1,xK])
  refine hK _ _ (h _ _ _ hge (by unfold maxLen at hcm;omega) (HS.row (v:= .slice (some ⟨w.heap.size,0,none⟩) (n+m) (grownCap w (n+m) n e)) ⟨hlen,.inr ⟨w.heap.size,_,_,rfl,zC _,heap_alloc_new w.drew _,hge,hcm,?_,?_⟩⟩ ((zE _ _).drew.alloc (zC _) _)))
  ·simp only [Array.size_append,yP,size_zeroCells,hzs,hr0.1,hr.1,<-xK];exact yj _ (by omega)
  ·simp only [Array.toList_append,zO];rw [<-zO,<-hlen];exact List.take_left
theorem Sp.made {m:Nat} {ys:aF} {H:Nat} (HS:Sp w L) (hH:w.heap.size=H) (ho:w'.ownsRow w.heap.size e size (.slice (some ⟨w.heap.size,0,none⟩) m m) m ys) (hg:w.grownBy w' none):Sp w' (RowA e size (.slice (some ⟨H,0,none⟩) m m) m ys::L):=by
 subst hH;exact HS.row (Yd ho) ⟨hg.os,hg.tape,hg.output,hg.size,fun k hk=>hg.block k hk (by simp)⟩
theorem Zk {ops:Array Oper} {rest:List Oper} {o:Oper} {a:Act} {Q:Exit->Act->O->Prop} {t:TypeId} {bytes:Nat} (E:Elt P t e size bytes) (l c:Operand) (hgd:o.guard=none) (hop:o.op=Op.makeSlice t l c)
 (HS:Sp w L) {m H:Nat} (hH:w.heap.size=H) (hl:a.eval l= .int .i64 (m:Int)) (hc:a.eval c= .int .i64 (m:Int)) (hn:bytes*m<=140737488355328) (h63:m<=9223372036854775807)
 {zv:V} (hzv:(P.info? e).bind (fun i=>i.zero)=some zv) (h:∀w',Sp w' (RowA e size (.slice (some ⟨H,0,none⟩) m m) m (madeCells zv.cells (m*size)).toList::L)->wpList P ops Q rest (a.put o.dst (.slice (some ⟨H,0,none⟩) m m)) w'):wpList P ops Q (o::rest) a w:=by
 obtain⟨ht,hsz,i,z,hi,hz,hsize,hby,hzs⟩:=E;subst hH;refine wpList_make_full w hgd l c t hop w.heap.size e i z size ht hi hz hsize .i64 .i64 _ _ m hl hc rfl rfl (by rw [hby];omega) (by unfold maxLen;omega) (zC _) fun w' ho hg=> ?_;rw [hi,Option.bind_some,hz]at hzv;cases hzv;exact h w' (HS.made rfl ho hg)
theorem rB {F:Fence} {nF:Nat} {ops:Array Oper} {rest:List Oper} {o:Oper} {a:Act} {Q:Exit->Act->O->Prop} {t:TypeId} {bytes:Nat} (E:Elt P t e size bytes) (l c:Operand) (hgd:o.guard=none) (hop:o.op=Op.makeSlice t l c)
 (HS:Sp w L) {m H:Nat} (hH:w.heap.size=H) (hl:a.eval l= .int .i64 (m:Int)) (hc:a.eval c= .int .i64 (m:Int)) (hn:bytes*m<=140737488355328) (h63:m<=9223372036854775807)
 {zv:V} (hzv:(P.info? e).bind (fun i=>i.zero)=some zv) (h:∀w',Sp w' (RowA e size (.slice (some ⟨H,0,none⟩) m m) m (madeCells zv.cells (m*size)).toList::L)->wpListIn F nF P ops Q rest (a.put o.dst (.slice (some ⟨H,0,none⟩) m m)) w'):wpListIn F nF P ops Q (o::rest) a w:=by
 obtain⟨ht,hsz,i,z,hi,hz,hsize,hby,hzs⟩:=E;subst hH;refine wpListIn_plain hgd fun K hK' => ?_;obtain⟨w',hrun,r1,r2⟩:=run_make_full (P:=P) w w.heap.size t e i z size ht hi hz hsize .i64 .i64 m (by rw [hby];omega) (by unfold maxLen;omega) (zC _);unfold Oper.wpIn;refine⟨?_,?_⟩
 ·simp [Oper.about,hop]
 ·rw [Oper.semAt_plain F _ _ (by rw [hop];intro c hc';cases hc')];simp [execOp,hop,hl,hc,hrun,Result.andThen];rw [hi,Option.bind_some,hz]at hzv;cases hzv;exact hK' _ _ (h w' (HS.made rfl r1 r2))
theorem Sp.rowCell {g c j:Nat} {u:V} (h:Sp w L) (hm:RowA e size (.slice (some ⟨g,0,none⟩) n c) n xs∈L) (hj:xs[j]? =some u):w.cell? ⟨g,j,none⟩=some u:=(h.rowOf hm).cells rfl j u hj
theorem Sp.rowFree {g c:Nat} (h:Sp w L) (hm:RowA e size (.slice (some ⟨g,0,none⟩) n c) n xs∈L) (j:Nat):w.frozen? ⟨g,j,none⟩=false:=by
 rcases(h.rowOf hm).2 with⟨hv,_⟩|⟨g',cap,cur,hv,_,hg,_⟩
 ·cases hv
 ·cases hv;simp [World.frozen?,hg]
theorem Sp.rowLt {g c:Nat} (h:Sp w L) (hm:RowA e size (.slice (some ⟨g,0,none⟩) n c) n xs∈L):g<w.heap.size:=((h.rowOf hm).lt g rfl).2
theorem Sp.rowSet {g c:Nat} (h:Sp w (RowA e size (.slice (some ⟨g,0,none⟩) n c) n xs::L)) (j:Nat) (u:V):Sp (w.setCell ⟨g,j,none⟩ u) (RowA e size (.slice (some ⟨g,0,none⟩) n c) n (xs.set j u)::L):=by
 refine h.upd fun S hS=>⟨S,⟨hS.1,?_⟩,Tch.setCell (S:=S) (p:=⟨g,j,none⟩) w ((hS.1 g).2 rfl) u,fun _ hb=> .inl hb⟩;obtain⟨h1,h2⟩:=hS.2;refine⟨by rw [List.length_set];exact h1,?_⟩;rcases h2 with⟨hv,_⟩|⟨g',cap,cur,hv,_,hg,k1,k2,k3,k4⟩
 ·cases hv
 ·cases hv;refine .inr ⟨g,c,cur.setIfInBounds j u,rfl,trivial,?_,k1,k2,by simpa using k3,?_⟩
  ·simp [World.setCell,Array.getElem?_modify,hg]
  ·have k5:n*size<=cur.size:=zY (yj _ k1) k3;rw [Array.toList_setIfInBounds,<-k4]
   apply yX
   intro i;rw [yy,xO,xO,yy]
   by_cases hj:j=i
   ·subst hj
    by_cases hi:j<n*size
    ·have h2:j<cur.toList.length:=(by simpa using zX hi k5);have h3:j<(cur.toList.take (n*size)).length:=(by rw [zr];omega);rw [if_pos hi,if_pos rfl,if_pos rfl,if_pos h2,if_pos h3]
    ·have h3:¬j<(cur.toList.take (n*size)).length:=(by rw [zr];omega);rw [if_neg hi,if_pos rfl,if_neg h3]
   ·rw [if_neg hj,if_neg hj]
end
section
variable {w:O} {L:List Asn}
theorem Sp.neRB {e t:TypeId} {size n c g B:Nat} {xs:aF} {cs:aG} (h:Sp w (RowA e size (.slice (some ⟨g,0,none⟩) n c) n xs::BlkA B t cs::L)):g≠B:=by
 obtain⟨S,_,h2,T,k1,k2,_⟩:=h;intro e;exact(k1 B ((k2.1 B).2 rfl)).2 ((h2.1 B).2 (by rw [<-e];rfl))
theorem Sp.neRR {e e' :TypeId} {size size' n c n' c' g g' :Nat} {xs xs' :aF} (h:Sp w (RowA e size (.slice (some ⟨g,0,none⟩) n c) n xs::RowA e' size' (.slice (some ⟨g',0,none⟩) n' c') n' xs' ::L)):g≠g' :=by
 obtain⟨S,_,h2,T,k1,k2,_⟩:=h;intro e;exact(k1 g' ((k2.1 g').2 rfl)).2 ((h2.1 g').2 (by rw [<-e];rfl))
end
structure I32 where
 val:Int
instance:Rep I32 where
 size:=1
 pos:=by decide
 rep _ _ cs x:=cs= [.int .i32 x.val]
 len:=by rintro _ _ _ _ rfl;rfl
 keep:=fun h _ _=>h
 one:=by rintro _ _ _ _ _ rfl hu;simp at hu;subst hu;rfl
instance:Rep UInt8 where
 size:=1
 pos:=by decide
 rep _ _ cs x:=cs= [.int .u8 (x.toNat:Int)]
 len:=by rintro _ _ _ _ rfl;rfl
 keep:=fun h _ _=>h
 one:=by rintro _ _ _ _ _ rfl hu;simp at hu;subst hu;rfl
theorem xp.u8 {w:O} {F:Nat->Prop} {b off k:Nat} {x:UInt8} (h:xp w F b off k x):w.cell? ⟨b,off+k,none⟩=some (.int .u8 (x.toNat:Int)):=by
 obtain⟨cs,rfl,hc⟩:=h;have:=hc 0 _ rfl
 simpa only [show Rep.size UInt8=1 from rfl,yr,yt]using this
structure U64 where
 val:Nat
 deriving DecidableEq
instance:Rep U64 where
 size:=1
 pos:=by decide
 rep _ _ cs x:=cs= [.int .u64 (x.val:Int)]/\x.val<18446744073709551616
 len:=by rintro _ _ _ _ ⟨rfl,_⟩;rfl
 keep:=fun h _ _=>h
 one:=by rintro _ _ _ _ _ ⟨rfl,_⟩ hu;simp at hu;subst hu;rfl
structure Ptr (α:Type) where
 val:Option α
def N3 {α:Type} [Rep α] (w:O) (F:Nat->Prop) (cs:aF):Option α->Prop
 |none=>cs= [.pointer none]
 |some x=>∃b,cs= [.pointer (some ⟨b,0,none⟩)]/\F b/\xp w F b 0 0 x
instance {α:Type} [Rep α]:Rep (Ptr α) where
 size:=1
 pos:=by decide
 rep w F cs p:=N3 w F cs p.val
 len:=by
  rintro _ _ _ ⟨_|x⟩ h
  ·cases h;rfl
  ·obtain⟨_,rfl,_⟩:=h;rfl
 keep:=by
  rintro _ _ _ _ _ ⟨_|x⟩ h hc hF
  ·exact h
  ·obtain⟨b,rfl,h1,h2⟩:=h;exact⟨b,rfl,hF b h1,h2.keep hc hF h1⟩
 one:=by
  rintro _ _ _ ⟨_|x⟩ u h hu
  ·cases h;simp at hu;subst hu;rfl
  ·obtain⟨_,rfl,_⟩:=h;simp at hu;subst hu;rfl
theorem Ptr.get {α:Type} [Rep α] {w:O} {F:Nat->Prop} {b:Nat} {x:α} (h:rep w F [.pointer (some ⟨b,0,none⟩)] (Ptr.mk (some x))):F b/\xp w F b 0 0 x:=by
 obtain⟨b',e,h1,h2⟩:=h;cases e;exact⟨h1,h2⟩
def RepA {α:Type} [Rep α] (cs:aF) (x:α):Asn where
 P S w:=rep w S cs x/\∀b,S b->b<w.heap.size
 lt h:=h.2
 keep h ht hn:=⟨Rep.keep h.1 (fun p hp=>ht.cell (h.2 _ hp) (hn _ hp)) (fun _ h=>h),fun b hb=>zX (h.2 b hb) ht.size⟩
abbrev DatA {α:Type} [Rep α] (v:V) (x:α):Asn:=RepA [v] x
def ElsA {α:Type} [Rep α] (css:List aF) (xs:List α):Asn where
 P S w:=(css.length=xs.length/\∀(k:Nat) (cs:aF) (x:α),css[k]? =some cs->xs[k]? =some x->rep w S cs x)/\∀b,S b->b<w.heap.size
 lt h:=h.2
 keep h ht hn:=⟨⟨h.1.1,fun k cs x h1 h2=>Rep.keep (h.1.2 k cs x h1 h2) (fun p hp=>ht.cell (h.2 _ hp) (hn _ hp)) (fun _ h=>h)⟩,fun b hb=>zX (h.2 b hb) ht.size⟩
section
variable {α β γ δ:Type} [Rep α] [Rep β] [Rep γ] [Rep δ] {w w' :O} {L:List Asn} {e t:TypeId} {n c g:Nat} {v:V} {A:aA}
theorem Sp.dat {cs:aF} {x:α} (h:Sp w L) (hm:RepA cs x∈L):rep w (·<w.heap.size) cs x:=by
 obtain⟨S,h1,h2⟩:=h.get hm;exact Rep.more h1 h2
theorem Sp.ls {xs:List α} (h:Sp w L) (hm:DatA (.slice A n c) xs∈L):zL w (·<w.heap.size) A n c xs:=by
 obtain⟨A',n',c',e,h⟩:=h.dat hm;cases e;exact h
theorem Sp.mk0 {cs:aF} {x:α} (h:Sp w L) (f:rep w (fun _=>False) cs x):Sp w (RepA cs x::L):=
 h.new (S:=fun _=>False) (zE _ _) ⟨f,fun _ h=>h.elim⟩ (fun _ h=>h.elim)
theorem Sp.mk1 {cs:aF} {x:α} {ds:aF} {y:β} (h:Sp w (RepA ds y::L)) (f:∀S,rep w S ds y->rep w S cs x):Sp w (RepA cs x::L):=
 h.turn fun S hS=>⟨f S hS.1,hS.2⟩
theorem Sp.mk2 {cs:aF} {x:α} {ds es:aF} {y:β} {z:γ} (h:Sp w (RepA ds y::RepA es z::L)) (f:∀S,rep w S ds y->rep w S es z->rep w S cs x):Sp w (RepA cs x::L):=
 h.join fun S T hS hT _=>⟨f _ (Rep.more hS.1 fun _=> .inl) (Rep.more hT.1 fun _=> .inr),fun b hb=>hb.elim (hS.2 b) (hT.2 b)⟩
theorem Sp.elsNil (h:Sp w L):Sp w (ElsA [] ([]:List α)::L):=
 h.new (S:=fun _=>False) (zE _ _) ⟨⟨rfl,fun k cs x h=>by simp at h⟩,fun _ h=>h.elim⟩ (fun _ h=>h.elim)
theorem Sp.elsPush {css:List aF} {xs:List α} {cs:aF} {x:α} (h:Sp w (RepA cs x::ElsA css xs::L)):Sp w (ElsA (css++ [cs]) (xs++ [x])::L):=
 h.join fun S T hS hT _=>by
  refine⟨⟨by simp [hT.1.1],fun k c y h1 h2=> ?_⟩,fun b hb=>hb.elim (hS.2 b) (hT.2 b)⟩;rcases zk k css.length with hk|hk
  ·rw [z9 hk]at h1;rw [z9 (by have:=hT.1.1;omega)]at h2;exact Rep.more (hT.1.2 k c y h1 h2) fun _=> .inr
  ·have e:=hT.1.1;have hl:=zN h1;simp at hl;obtain rfl:k=css.length:=by omega
   rw [zR (zC _)]at h1;rw [e,zR (zC _)]at h2;simp at h1 h2;subst h1 h2;exact Rep.more hS.1 fun _=> .inl
theorem Sp.els {css:List aF} {xs:List α} (h:Sp w (RowA e (Rep.size α) (.slice A n c) n css.flatten::ElsA css xs::L)):Sp w (DatA (.slice A n c) xs::L):=
 h.join fun S T hS hT _=>by
  have hr:=hS.2
  have hlen:∀c∈css,c.length=Rep.size α:=by
   intro c hc;obtain⟨k,hk⟩:=z8 hc;have hk2:k<xs.length:=(by have:=zN hk;have:=hT.1.1;omega);exact Rep.len (hT.1.2 k c xs[k] hk (zB hk2))
  have hn:n=css.length:=by
   have h1:=Zh css hlen;have h2:=hr.1;rw [h1]at h2;exact(Nat.eq_of_mul_eq_mul_right Rep.pos h2).symm
  refine⟨⟨A,n,c,rfl,by rw [hn];exact hT.1.1.symm,hr.cap.2.1,hr.cap.2.2,fun k x hx=> ?_⟩,fun b hb=>hb.elim (fun hb=>(hr.lt b ((hS.1 b).1 hb)).2) (hT.2 b)⟩;have hk:k<css.length:=(by have:=zN hx;have:=hT.1.1;omega);obtain⟨b,rfl,_,_,hc⟩:=hr.at_ (by omega)
  refine⟨b,0,rfl,.inl ((hS.1 b).2 rfl),css[k],Rep.more (hT.1.2 k _ x (zB hk) hx) fun _=> .inr,fun j u hu=> ?_⟩
  have hj:j<Rep.size α:=by
   have:=hlen css[k] (List.getElem_mem _);have:=zN hu;omega
  rw [zx];exact hc _ u (by rw [xX css k j _ hlen (zB hk) hj];exact hu)
theorem Sp.flat {xs:List α} {f:α->aF} (h:Sp w (RowA e (Rep.size α) (.slice A n c) n (xs.flatMap f)::L)) (hf:∀x∈xs,rep w (fun _=>False) (f x) x):Sp w (DatA (.slice A n c) xs::L):=by
 have h2:Sp w (ElsA (xs.map f) xs::RowA e (Rep.size α) (.slice A n c) n (xs.flatMap f)::L):=
  h.new (S:=fun _=>False) (zE _ _) ⟨⟨by simp,fun k cs x h1 h2=>by
   rw [zH,h2]at h1;cases h1;exact hf x (zD h2)⟩,fun _ h=>h.elim⟩ (fun _ h=>h.elim)
 have h3:=h2.p1;rw [List.flatMap_def]at h3;exact h3.els
theorem Sp.ptr {cs:aG} {x:α} (h:Sp w (BlkA g t cs::RepA cs.toList x::L)):Sp w (DatA (.pointer (some ⟨g,0,none⟩)) (Ptr.mk (some x))::L):=
 h.join fun S T hS hT _=>⟨⟨g,rfl,.inl ((hS.1 g).2 rfl),cs.toList,Rep.more hT.1 fun _=> .inr,fun j u hu=>by
  rw [Nat.zero_mul,yt,zx,hS.2.cell j,<-Array.getElem?_toList];exact hu⟩,fun b hb=>hb.elim (fun hb=>by rw [(hS.1 b).1 hb];exact hS.2.lt) (hT.2 b)⟩
end
theorem MI (l:aC):bC l=l.flatMap fun b=> [.int .u8 (b.toNat:Int)]:=by unfold bC;induction l with|nil=>rfl|cons a l ih=>simp [ih]
theorem LQ (l:aD):ints l=l.flatMap fun n=> [.int .i64 n]:=by unfold ints;induction l with|nil=>rfl|cons a l ih=>simp [ih]
theorem KR (l:List aB):sC l=l.flatMap fun s=> [.string s]:=by unfold sC;induction l with|nil=>rfl|cons a l ih=>simp [ih]
section
variable {w:O} {L:List Asn} {n c:Nat} {A:aA} {e:TypeId}
theorem Sp.bytes {l:aC} (h:Sp w (RowA e 1 (.slice A n c) n (bC l)::L)):Sp w (DatA (.slice A n c) l::L):=by
 rw [MI]at h;exact h.flat fun _ _=>rfl
theorem Sp.ints {l:aD} (h:Sp w (RowA e 1 (.slice A n c) n (ints l)::L)) (hl:∀x∈l,In64 x):Sp w (DatA (.slice A n c) l::L):=by
 rw [LQ]at h;exact h.flat fun x hx=>⟨rfl,hl x hx⟩
theorem Sp.strs {l:List aB} (h:Sp w (RowA e 1 (.slice A n c) n (sC l)::L)) (hl:∀x∈l,x.size<=9223372036854775807):Sp w (DatA (.slice A n c) l::L):=by
 rw [KR]at h;exact h.flat fun x hx=>⟨rfl,hl x hx⟩
theorem zL.rb {F:Nat->Prop} {l:aC} (h:zL w F A n c l) (hF:∀b,F b->b<w.heap.size):RB w A n l:=
 ⟨by rw [dF,h.length,yr],fun h0=>by
  obtain⟨b,off,x,rfl,_,hb,_⟩:=h.at_ h0
  refine⟨b,off,rfl,hF b hb,fun j u hu=> ?_⟩;unfold bC at hu;rw [zH]at hu;rcases hx:l[j]? with _|y
  ·rw [hx]at hu;cases hu
  ·rw [hx]at hu;cases hu;exact(h.elem hx).2.u8⟩
end
theorem M0 {α:Type _} {a:α} {l:List α}:a∈a::l:= .head _
theorem M1 {α:Type _} {a b:α} {l:List α}:a∈b::a::l:= .tail _ M0
theorem M2 {α:Type _} {a b c:α} {l:List α}:a∈b::c::a::l:= .tail _ M1
theorem M3 {α:Type _} {a b c d:α} {l:List α}:a∈b::c::d::a::l:= .tail _ M2
theorem M4 {α:Type _} {a b c d e:α} {l:List α}:a∈b::c::d::e::a::l:= .tail _ M3
theorem M5 {α:Type _} {a b c d e f:α} {l:List α}:a∈b::c::d::e::f::a::l:= .tail _ M4
theorem M6 {α:Type _} {a b c d e f g:α} {l:List α}:a∈b::c::d::e::f::g::a::l:= .tail _ M5
theorem M7 {α:Type _} {a b c d e f g h:α} {l:List α}:a∈b::c::d::e::f::g::h::a::l:= .tail _ M6
theorem M8 {α:Type _} {a b c d e f g h i:α} {l:List α}:a∈b::c::d::e::f::g::h::i::a::l:= .tail _ M7
theorem SpU.fam {w:O}:∀{L:List Asn} {U:Nat->Prop},SpU w U L->∃f:Nat->Nat->Prop,(∀(i:Nat) (A:Asn),L[i]? =some A->A.P (f i) w)/\(∀i b,f i b->U b)/\∀i j b,i≠j->f i b->¬f j b
 | [],_,_=>⟨fun _ _=>False,fun i A h=>by simp at h,fun _ _ h=>h.elim,fun _ _ _ _ h=>h.elim⟩
 |A::L,U,⟨S,h1,h2,h3⟩=>by
  obtain⟨f,k1,k2,k3⟩:=SpU.fam h3;refine⟨fun i=>match i with|0=>S|i+1=>f i,?_,?_,?_⟩
  ·rintro(_|i) B h
   ·simp at h;subst h;exact h2
   ·exact k1 i B (by simpa using h)
  ·rintro(_|i) b h
   ·exact h1 b h
   ·exact(k2 i b h).1
  ·rintro(_|i) (_|j) b hn h
   ·exact absurd rfl hn
   ·exact fun g=>(k2 j b g).2 h
   ·exact fun g=>(k2 i b h).2 g
   ·exact k3 i j b (by omega) h
theorem SpU.pick {w:O} {L:List Asn} {f:Nat->Nat->Prop} (k1:∀(i:Nat) (A:Asn),L[i]? =some A->A.P (f i) w) (k3:∀i j b,i≠j->f i b->¬f j b):
 ∀(is:aE) (U:Nat->Prop),is.Nodup->(∀i,i∈is->∀b,f i b->U b)->SpU w U (is.filterMap (L[·]?))
 | [],_,_,_=>trivial
 |i::is,U,hn,hU=>by
  rw [List.nodup_cons]at hn;rw [yo];rcases hi:L[i]? with _|A
  ·exact SpU.pick k1 k3 is U hn.2 fun j hj=>hU j (.tail _ hj)
  ·exact⟨f i,hU i (.head _),k1 i A hi,SpU.pick k1 k3 is _ hn.2 fun j hj b hb=>⟨hU j (.tail _ hj) b hb,k3 j i b (fun e=>hn.1 (e▸hj)) hb⟩⟩
theorem Sp.sel {w:O} {L:List Asn} (h:Sp w L) (is:aE) (hn:is.Nodup:=by decide):Sp w (is.filterMap (L[·]?)):=by
 obtain⟨f,k1,_,k3⟩:=SpU.fam h;exact SpU.pick k1 k3 is _ hn fun _ _ _ _=>trivial
theorem DL {α:Type _} (T:List α):∀(M:List α),(List.range' M.length T.length).filterMap ((M++T)[·]?)=T:=by
 induction T with
 |nil=>intro M;rfl
 |cons t T ih=>
  intro M;rw [z6,List.range'_succ,yo];have e:(M++t::T)[M.length]? =some t:=(by simp);rw [e];have:=ih (M++ [t]);simp only [zG,z6,yO,zO,yI,zZ]at this;simp [this]
theorem Sp.selT {w:O} {T:List Asn} (M:List Asn) (h:Sp w (M++T)) (is:aE) (hn:is.Nodup:=by decide) (hl:∀i,i∈is->i<M.length:=by simp):Sp w (is.filterMap (M[·]?)++T):=by
 have h1:=h.sel (is++List.range' M.length T.length) (List.nodup_append.2 ⟨hn,List.nodup_range',fun a ha b hb e=>by
  have:=hl a ha;have:=(List.mem_range'_1.1 hb).1;omega⟩)
 rw [List.filterMap_append,DL]at h1
 have e:is.filterMap ((M++T)[·]?)=is.filterMap (M[·]?):=by
  have:∀(is:aE),(∀i,i∈is->i<M.length)->is.filterMap ((M++T)[·]?)=is.filterMap (M[·]?):=by
   intro is
   induction is with
   |nil=>intro _;rfl
   |cons i is ih=>
    intro h;rw [yo,yo,z9 (h i (.head _)),ih fun j hj=>h j (.tail _ hj)]
  exact this is hl
 rw [e]at h1;exact h1
section
variable {w:O} {A B C D E F G H:Asn} {L:List Asn}
theorem Sp.p5 (h:Sp w (A::B::C::D::E::F::L)):Sp w (F::A::B::C::D::E::L):=Sp.selT [A,B,C,D,E,F] h [5,0,1,2,3,4]
theorem Sp.p6 (h:Sp w (A::B::C::D::E::F::G::L)):Sp w (G::A::B::C::D::E::F::L):=Sp.selT [A,B,C,D,E,F,G] h [6,0,1,2,3,4,5]
theorem Sp.p7 (h:Sp w (A::B::C::D::E::F::G::H::L)):Sp w (H::A::B::C::D::E::F::G::L):=Sp.selT [A,B,C,D,E,F,G,H] h [7,0,1,2,3,4,5,6]
end
instance {α β:Type} [Rep α] [Rep β]:Rep (α×β) where
 size:=Rep.size α+Rep.size β
 pos:=by have:=Rep.pos (α:=α);omega
 rep w F cs x:=∃c1 c2,cs=c1++c2/\rep w F c1 x.1/\rep w F c2 x.2
 len:=by rintro _ _ _ _ ⟨c1,c2,rfl,h1,h2⟩;rw [zG,Rep.len h1,Rep.len h2]
 keep:=by rintro _ _ _ _ _ _ ⟨c1,c2,rfl,h1,h2⟩ hc hF;exact⟨c1,c2,rfl,Rep.keep h1 hc hF,Rep.keep h2 hc hF⟩
 one:=by
  rintro _ _ _ _ u ⟨c1,c2,rfl,h1,h2⟩ hu;rcases List.mem_append.1 hu with h|h
  ·exact Rep.one h1 h
  ·exact Rep.one h2 h
section
variable {w:O} {L:List Asn} {α:Type} [Rep α]
theorem Sp.elsJoin {css css' :List aF} {xs xs' :List α} (h:Sp w (ElsA css xs::ElsA css' xs' ::L)):Sp w (ElsA (css++css') (xs++xs')::L):=
 h.join fun S T hS hT _=>by
  refine⟨⟨by rw [zG,zG,hS.1.1,hT.1.1],fun k cs x h1 h2=> ?_⟩,fun b hb=>hb.elim (hS.2 b) (hT.2 b)⟩;have e:=hS.1.1;rcases zk k css.length with hk|hk
  ·rw [z9 hk]at h1;rw [z9 (by omega)]at h2;exact Rep.more (hS.1.2 k cs x h1 h2) fun _=> .inl
  ·rw [zR hk]at h1;rw [zR (by omega),<-e]at h2;exact Rep.more (hT.1.2 _ cs x h1 h2) fun _=> .inr
theorem Sp.elsOne {css:List aF} {xs:List α} (h:Sp w L) (hm:ElsA css xs∈L):∀u∈css.flatten,u.oneCell' =true:=by
 obtain⟨S,h1,_⟩:=h.get hm;intro u hu;obtain⟨cs,hc,hu⟩:=List.mem_flatten.1 hu;obtain⟨k,hk⟩:=z8 hc;have hl:k<xs.length:=by rw [<-h1.1];exact zN hk
 exact Rep.one (h1.2 k cs xs[k] hk (zB hl)) hu
end
structure AnyV where
instance:Rep AnyV where
 size:=1
 pos:=by decide
 rep _ _ cs _:=∃v,cs= [v]/\v.oneCell' =true
 len:=by rintro _ _ _ _ ⟨_,rfl,_⟩;rfl
 keep:=fun h _ _=>h
 one:=by rintro _ _ _ _ _ ⟨v,rfl,h⟩ hu;simp at hu;subst hu;exact h
section
variable {P:Program} {w w' :O} {L:List Asn} {e:TypeId} {size n:Nat}
theorem Sp.mkd {z:V} {H:Nat} (h:Sp w L) (hH:w.heap.size=H) (hn:n<=9223372036854775807):Sp (w.alloc (.cells (madeCells #[z] n) e)) (RowA e 1 (.slice (some ⟨H,0,none⟩) n n) n (madeCells #[z] n).toList::L):=by
 subst hH;exact h.lit (madeCells #[z] n) e 1 n (by simp [madeCells]) (by unfold maxLen;omega)
theorem yz {ops:Array Oper} {o:Oper} {a:Act} {K:Act->O->Prop} {Q:Exit->Act->O->Prop} {E' :Prop} {t te:TypeId} {bytes:Nat} {v:V} {xs:aF} (E:Elt P t e size bytes) (s x:Operand) (hgd:o.guard=none)
 (ho:o.op= .call {callee:= .builtin .append,args:= #[s,x],argTypes:= #[t,t]})
 (HS:Sp w (RowA e size v n xs::L)) (hs:a.eval s=v) {cs:aG} {H:Nat} (hx:a.eval x= .slice (some ⟨H,0,none⟩) 1 1) (hH:w.heap.size=H) (hc:cs.size=size) (h1:∀u∈cs.toList,u.oneCell' =true)
 (hn:(n+1)*bytes<=140737488355328) (h63:n+1<=9223372036854775807)
 (h:∀A' c' w',n+1<=c' ->c' <=9223372036854775807->Sp w' (RowA e size (.slice A' (n+1) c') (n+1) (xs++cs.toList)::L)->K (a.put o.dst (.slice A' (n+1) c')) w'):
 if Region.wanted o (yielded ops a.tmps)=true then Oper.wp P o a (w.alloc (.cells cs te)) K Q else E' :=
 XT E s x hgd ho (HS.al _) hs hx (Ye w cs te hc hH) h1 hn h63 h
theorem Sp.ne {g g' :Nat} {t t' :TypeId} {cs cs' :aG} (h:Sp w (BlkA g t cs::BlkA g' t' cs' ::L)):g≠g' :=by
 obtain⟨S,_,h2,T,k1,k2,_⟩:=h;intro e;exact(k1 g' ((k2.1 g').2 rfl)).2 ((h2.1 g').2 e.symm)
end
theorem SpU.perm {w:O} {M M' :List Asn} (p:M.Perm M'):∀{U:Nat->Prop},SpU w U M->SpU w U M' :=by
 induction p with
 |nil=>exact fun h=>h
 |cons a _ ih=>exact fun h=>SpU.cons (fun _=>ih) h
 |swap a b l=>exact fun h=>SpU.swap h
 |trans _ _ h1 h2=>exact fun h=>h2 (h1 h)
def zz (M:List Asn):Asn where
 P S w:=SpU w S M/\∀b,S b->b<w.heap.size
 lt h:=h.2
 keep h ht hn:=⟨SpU.tch ht h.1 fun b hb _=>hn b hb,fun b hb=>zX (h.2 b hb) ht.size⟩
section
variable {w:O} {L M M' M1 M2:List Asn} {X:Asn}
theorem Sp.starNil (h:Sp w L):Sp w (zz []::L):=h.new (S:=fun _=>False) (zE _ _) ⟨trivial,fun _ h=>h.elim⟩ (fun _ h=>h.elim)
theorem Sp.starPerm (h:Sp w (zz M::L)) (p:M.Perm M'):Sp w (zz M' ::L):=h.turn fun _ hS=>⟨SpU.perm p hS.1,hS.2⟩
theorem Sp.starIn (h:Sp w (X::zz M::L)):Sp w (zz (X::M)::L):=
 h.join fun S T hS hT hd=>⟨⟨S,fun _=> .inl,hS,hT.1.mono fun b _ hb=>⟨.inr hb,fun hs=>hd b hs hb⟩⟩,fun b hb=>hb.elim (X.lt hS b) (hT.2 b)⟩
theorem Sp.starOut (h:Sp w (zz (X::M)::L)):Sp w (X::zz M::L):=
 h.split fun U ⟨⟨S,h1,h2,h3⟩,h4⟩=>⟨S,fun b=>U b/\¬S b,h2,⟨h3,fun b hb=>h4 b hb.1⟩,fun _ hb=>hb.2,fun b hb=>hb.elim (h1 b) And.left⟩
theorem Sp.starPush (h:Sp w (X::zz M::L)):Sp w (zz (M++ [X])::L):=h.starIn.starPerm (List.perm_append_comm (l₁:= [X]))
theorem Sp.starTake (h:Sp w (zz (M1++X::M2)::L)):Sp w (X::zz (M1++M2)::L):=(h.starPerm List.perm_middle).starOut
theorem Sp.starPut (h:Sp w (X::zz (M1++M2)::L)):Sp w (zz (M1++X::M2)::L):=h.starIn.starPerm List.perm_middle.symm
end
def Z1 {α β:Type} [Rep α] [Rep β] (cs:aF) (x:α) (ds:aF) (y:β):Asn where
 P S w:=(RepA cs x).P S w/\(RepA ds y).P S w
 lt h:=h.1.2
 keep h ht hn:=⟨(RepA cs x).keep h.1 ht hn,(RepA ds y).keep h.2 ht hn⟩
section
variable {α β:Type} [Rep α] [Rep β] {w:O} {L:List Asn}
theorem Sp.focus {A:aA} {n c k:Nat} {ls:List (List β)} {l:List β} (h:Sp w (DatA (.slice A n c) ls::L)) (hk:ls[k]? =some l):
 ∃b off A' n' c',A=some ⟨b,off,none⟩/\w.cell? ⟨b,off+k,none⟩=some (.slice A' n' c')/\l.length=n' /\n' <=c' /\c' <=9223372036854775807/\Sp w (Z1 [.slice A n c] ls [.slice A' n' c'] l::L):=by
 obtain⟨S,h1,h2,h3⟩:=h;obtain⟨⟨A0,n0,c0,e,h4⟩,h5⟩:=h2;cases e;have hl:=zN hk;have hkn:k<n:=by rw [<-h4.length];exact hl
 obtain⟨b,off,x,rfl,Hx,_,he⟩:=h4.at_ hkn
 have e:=Hx.out.symm.trans hk;cases e;obtain⟨A',n',c',e0,h6⟩:=he.list;exact⟨b,off,A',n',c',rfl,e0,h6.length,h6.cap.1,h6.cap.2,S,h1,⟨⟨⟨_,_,_,rfl,h4⟩,h5⟩,⟨⟨_,_,_,rfl,h6⟩,h5⟩⟩,h3⟩
theorem Sp.unfocus {cs ds:aF} {x:α} {y:β} (h:Sp w (Z1 cs x ds y::L)):Sp w (RepA cs x::L):=h.turn fun _ hS=>hS.1
theorem Sp.dat2 {cs ds:aF} {x:α} {y:β} (h:Sp w L) (hm:Z1 cs x ds y∈L):rep w (·<w.heap.size) ds y:=by
 obtain⟨S,h1⟩:=h.get hm;exact Rep.more h1.2.1 h1.2.2
theorem Sp.ls2 {cs:aF} {x:α} {A:aA} {n c:Nat} {l:List β} (h:Sp w L) (hm:Z1 cs x [.slice A n c] l∈L):zL w (·<w.heap.size) A n c l:=by
 obtain⟨_,_,_,e,h⟩:=h.dat2 hm;cases e;exact h
end
open Go
section
variable {P:Program} {ops:Array Oper} {Q:Exit->Act->O->Prop} {md:Region.Mode} {C:List (Nat×(O->Prop))}
def ZT (C:List (Nat×(O->Prop))) (l:Array Bool) (w:O):Prop:=∀p∈C,l.getD p.1 true=false->p.2 w
def Z4 (P:Program) (md:Region.Mode) (ops:Array Oper) (Q:Exit->Act->O->Prop) (C:List (Nat×(O->Prop))):Nat->Array Bool->Act->O->Prop
 |0,l,a,w=>Region.ready md ops l= []/\Q .normal a w
 |n+1,l,a,w=>(Region.ready md ops l= []->Q .normal a w)/\∀i∈Region.ready md ops l,wpOp P ops Q i (fun a' w' =>ZT C (l.setIfInBounds i true) w' /\Z4 P md ops Q C n (l.setIfInBounds i true) a' w') a w
theorem iP:∀(n:Nat) (l:Array Bool) (a:Act) (w:O),Z4 P md ops Q C n l a w->wpAny P md ops Q n l a w
 |0,_,_,_,h=>h
 |n+1,_,_,_,h=>⟨h.1,fun i hi=>wpOp_mono (fun a' w' h' =>iP n _ a' w' h'.2) (h.2 i hi)⟩
theorem Ue {i:Nat} {l:Array Bool} {w:O} (hC:∀p∈C,p.1≠i):ZT C (l.setIfInBounds i true) w↔ZT C l w:=
 forall_congr' fun p=>forall_congr' fun hp=>by rw [getD_set_ne true (Ne.symm (hC p hp))]
theorem V6 {i:Nat} {oi:Oper} {v:V} {T:O->Prop} {G:Array Bool->Prop} (hi:ops[i]? =some oi) (hsel:∀(j:Nat) (o:Oper) cs b,ops[j]? =some o->o.op≠ .select cs b)
 (hQ:∀c a w,Q (.panic c) (a.put oi.dst v) w->Q (.panic c) a w) (hC:∀p∈C,p.1≠i)
 (hG:∀l j,G l->i∈Region.ready md ops l->j∈Region.ready md ops l->j≠i->G (l.setIfInBounds j true))
 (hT:∀l w,G l->ZT C l w->T w):
 ∀(n:Nat) (l:Array Bool) (a:Act) (w:O),
  (∀j oj,ops[j]? =some oj->j≠i->l.getD j true=false->(∀e∈oj.after,Region.binds md e=true->e.on≠i)->oi.apart ops oj=true)->
  i∈Region.ready md ops l->G l->YieldsIf P ops T oi v a->ZT C l w->
  Z4 P md ops Q C n (l.setIfInBounds i true) (a.put oi.dst v) w->Z4 P md ops Q C (n+1) l a w:=by
 intro n
 induction n with
 |zero=>
  intro l a w _ hr hg hy hS H;refine⟨fun h=>(by rw [h]at hr;cases hr),fun j hj=> ?_⟩
  by_cases hji:j=i
  ·subst hji;exact hy.wpOp hi (hT l w hg hS) ⟨(Ue hC).2 hS,H⟩
  ·have:=ready_mono hj hji;rw [H.1]at this;cases this
 |succ n ih=>
  intro l a w hfree hr hg hy hS H;refine⟨fun h=>(by rw [h]at hr;cases hr),fun j hj=> ?_⟩
  by_cases hji:j=i
  ·subst hji;exact hy.wpOp hi (hT l w hg hS) ⟨(Ue hC).2 hS,H⟩
  ·have h1:=H.2 j (ready_mono hj hji);obtain⟨hjun,oj,hoj,hall⟩:=mem_ready.1 hj
   have hnot:∀e∈oj.after,Region.binds md e=true->e.on≠i:=fun e he hb heq=>by
    have h1:=hall e he hb;have h0:=(mem_ready.1 hr).1;rw [heq]at h1;rcases zk i l.size with h' |h'
    ·simp [h']at h0 h1;rw [h0]at h1;cases h1
    ·simp [x9 h']at h1
   have h2:=wpOp_putIf hoj (hfree j oj hoj hji hjun hnot) (fun cs b=>hsel i oi cs b hi) (fun cs b=>hsel j oj cs b hoj) hQ hy h1
   have hfree' :∀k ok,ops[k]? =some ok->k≠i->(l.setIfInBounds j true).getD k true=false->
    (∀e∈ok.after,Region.binds md e=true->e.on≠i)->oi.apart ops ok=true:=fun k ok hk hki hun hno=>by
    refine hfree k ok hk hki ?_ hno
    by_cases hjk:j=k
    ·subst hjk;exact hjun
    ·rw [getD_set_ne true hjk]at hun;exact hun
   refine wpOp_mono (fun a' w' h3=> ?_) h2;have hcomm:(l.setIfInBounds j true).setIfInBounds i true=(l.setIfInBounds i true).setIfInBounds j true:=Array.setIfInBounds_comm _ _ hji;have hS' :ZT C (l.setIfInBounds j true) w' :=(Ue hC).1 (by rw [hcomm];exact h3.2.1)
   exact⟨hS',ih (l.setIfInBounds j true) a' w' hfree' (ready_mono hr (Ne.symm hji)) (hG l j hg hr hj hji) h3.1 hS' (by rw [hcomm];exact h3.2.2)⟩
theorem xz {i:Nat} {l:Array Bool} {w:O} (h:ZT C l w):ZT C (l.setIfInBounds i true) w:=fun p hp hl=>h p hp (by
 by_cases hi:i=p.1
 ·rw [hi]at hl;rcases zk p.1 l.size with h' |h'
  ·simp [Array.getD,h']at hl
  ·rwa [Array.setIfInBounds_eq_of_size_le h']at hl
 ·rwa [getD_set_ne true hi]at hl)
def U9 (md:Region.Mode) (ops:Array Oper) (C:List (Nat×(O->Prop))) (l:Array Bool) (i:Nat):Bool:=
 Region.noSelect ops && Region.free md ops l i && (Region.ready md ops l).contains i && C.all fun p=>p.1 !=i
theorem gV {l:Array Bool} {i:Nat} (h:U9 md ops C l i=true):Region.noSelect ops=true/\Region.free md ops l i=true/\i∈Region.ready md ops l/\∀p∈C,p.1≠i:=by
 unfold U9 at h;simp only [zM,List.all_eq_true,bne_iff_ne]at h;exact⟨h.1.1.1,h.1.1.2,by simpa using h.1.2,h.2⟩
theorem tG {i:Nat} {oi:Oper} {v:V} {n:Nat} {l:Array Bool} {a:Act} {w:O} (hi:ops[i]? =some oi) (hk:U9 md ops C l i=true)
 (hQ:∀c a w,Q (.panic c) (a.put oi.dst v) w->Q (.panic c) a w) (hw:Region.wanted oi (yielded ops a.tmps)=true) (hy:∀w,(execOp a.eval oi).run P w= .ok (.value v) w) (hS:ZT C l w)
 (h:ZT C (l.setIfInBounds i true) w->Z4 P md ops Q C n (l.setIfInBounds i true) (a.put oi.dst v) w):Z4 P md ops Q C (n+1) l a w:=
 have⟨h1,h2,h3,h4⟩:=gV hk
 V6 (T:=fun _=>True) (G:=fun _=>True) hi (Region.noSelect_spec h1) hQ h4 (fun _ _ _ _ _ _=>trivial) (fun _ _ _ _=>trivial) n l a w (Region.free_spec hi h2) h3 trivial (.inl ⟨hw,fun w _=>hy w⟩) hS (h (xz hS))
def fR (md:Region.Mode) (ops:Array Oper) (l:Array Bool) (i c:Nat):Bool:=(c !=i) && !l.getD c true && ((ops[c]?).map fun o=>o.after.any fun e=>Region.binds md e && e.on==i).getD false
theorem tF {i c:Nat} {oi:Oper} {v:V} {T:O->Prop} {n:Nat} {l:Array Bool} {a:Act} {w:O} (hi:ops[i]? =some oi) (hk:U9 md ops C l i=true)
 (hc:fR md ops l i c=true) (hm:(c,T)∈C)
 (hQ:∀c a w,Q (.panic c) (a.put oi.dst v) w->Q (.panic c) a w) (hw:Region.wanted oi (yielded ops a.tmps)=true) (hy:∀w,T w->(execOp a.eval oi).run P w= .ok (.value v) w) (hS:ZT C l w)
 (h:ZT C (l.setIfInBounds i true) w->Z4 P md ops Q C n (l.setIfInBounds i true) (a.put oi.dst v) w):Z4 P md ops Q C (n+1) l a w:=by
 have⟨h1,h2,h3,h4⟩:=gV hk;unfold fR at hc;simp only [zM,bne_iff_ne,Bool.not_eq_true']at hc;obtain⟨⟨hci,hlc⟩,hcw⟩:=hc;refine V6 (T:=T) (G:=fun l=>l.getD c true=false) hi (Region.noSelect_spec h1) hQ h4 (fun l j hg hr hj hji=> ?_) (fun l w hg hH=>hH _ hm hg) n l a w (Region.free_spec hi h2) h3 hlc (.inl ⟨hw,hy⟩) hS (h (xz hS));rw [getD_set_ne true]
 ·exact hg
 ·rintro rfl;obtain⟨hjun,oj,hoj,hall⟩:=mem_ready.1 hj;rw [hoj]at hcw;simp only [yk,yq,Array.any_eq_true',zM,beq_iff_eq]at hcw;obtain⟨e,he,hb,rfl⟩:=hcw;have h1:=hall e he hb;have h0:=(mem_ready.1 hr).1;rcases zk e.on l.size with h' |h'
  ·simp [h']at h0 h1;rw [h0]at h1;cases h1
  ·simp [x9 h']at h1
theorem vK {i n:Nat} {o:Oper} {l:Array Bool} {a:Act} {w:O} (hr:Region.ready md ops l= [i]) (ho:ops[i]? =some o)
 (h:∀K' :Act->O->Prop,Shut (∀a w,ZT C (l.setIfInBounds i true) w->(ZT C (l.setIfInBounds i true) w->Z4 P md ops Q C n (l.setIfInBounds i true) a w)->K' a w)->if Region.wanted o (yielded ops a.tmps)=true then Oper.wp P o a w K' Q else K' (a.put o.dst undef) w):
 Z4 P md ops Q C (n+1) l a w:=
 ⟨fun h0=>(by rw [hr]at h0;cases h0),fun j hj=>by
  rw [hr]at hj;obtain rfl:=List.mem_singleton.1 hj;exact wpOp_step ho (fun K' hK=>h K' (fun a w hS hW=>hK a w ⟨hS,hW hS⟩))⟩
theorem xW {n:Nat} {l:Array Bool} {a:Act} {w:O} (hr:Region.ready md ops l= []) (h:Q .normal a w):Z4 P md ops Q C n l a w:=
 match n with
 |0=>⟨hr,h⟩
 |_+1=>⟨fun _=>h,by rw [hr];simp⟩
theorem xV {id:Nat} {a:Act} {w:O} (C:List (Nat×(O->Prop))) (hm:P.follows .mixedOrders=true) (hS:ZT C (Array.replicate ops.size false) w.drew)
 (h:ZT C (Array.replicate ops.size false) w.drew->Z4 P .any ops Q C ops.size (Array.replicate ops.size false) a w.drew):(Code.region id ops true).wp P Q a w:=
 wp_region_any hm (iP _ _ _ _ (h hS))
theorem yY {l:Array Bool} {w:O}:ZT [] l w:=fun _ h=>by cases h
theorem zg {c:Nat} {T:O->Prop} {l:Array Bool} {w:O} (h:T w) (hs:ZT C l w):ZT ((c,T)::C) l w:=fun p hp hl=>by
 rcases yx.1 hp with rfl|hp
 ·exact h
 ·exact hs p hp hl
theorem yN {l:Array Bool} {w:O} (h:(C.all fun p=>l.getD p.1 true)=true):ZT C l w:=fun p hp hl=>by
 rw [List.all_eq_true]at h;rw [h p hp]at hl;cases hl
end
theorem YP {C:List (Nat×(O->Prop))} {c:Nat} {T:O->Prop} {l:Array Bool} {w:O} (h:l.getD c true=true) (hs:ZT C l w):ZT ((c,T)::C) l w:=fun p hp hl=>by
 rcases yx.1 hp with rfl|hp
 ·rw [h]at hl;cases hl
 ·exact hs p hp hl
section
variable {P:Program} {ops:Array Oper} {Q:Exit->Act->O->Prop} {md:Region.Mode} {C:List (Nat×(O->Prop))}
theorem gO (i:Nat) {n:Nat} {o:Oper} {l l' :Array Bool} {a:Act} {w:O}
 (h:∀K' :Act->O->Prop,Shut (∀a w,ZT C l' w->(ZT C l' w->Z4 P md ops Q C n l' a w)->K' a w)->if Region.wanted o (yielded ops a.tmps)=true then Oper.wp P o a w K' Q else K' (a.put o.dst undef) w) (hr:Region.ready md ops l= [i]:=by kernel_rfl) (ho:ops[i]? =some o:=by exact gi rfl) (hl:l.setIfInBounds i true=l' :=by (try simp only [sa,s0,s1]);rfl):Z4 P md ops Q C (n+1) l a w:=by
 subst hl;exact vK hr ho h
theorem gR {id:Nat} {a:Act} {w:O} (C:List (Nat×(O->Prop))) (hS:ZT C (Array.replicate ops.size false) w.drew) (h:ZT C (Array.replicate ops.size false) w.drew->Z4 P .any ops Q C ops.size (Array.replicate ops.size false) a w.drew) (hm:P.follows .mixedOrders=true:=by kernel_rfl):(Code.region id ops true).wp P Q a w:=xV C hm hS h
theorem hA {l:Array Bool} {w:O} (h:(C.all fun p=>l.getD p.1 true)=true:=by kernel_rfl):ZT C l w:=yN h
theorem hB {c:Nat} {T:O->Prop} {l:Array Bool} {w:O} (h:T w):ZT [(c,T)] l w:=zg h yY
theorem gF (i:Nat) {oi:Oper} {v:V} {n:Nat} {l l' :Array Bool} {a a' :Act} {w:O} (h:ZT C l' w->Z4 P md ops Q C n l' a' w) (hi:ops[i]? =some oi:=by exact gi rfl) (hk:U9 md ops C l i=true:=by kernel_rfl) (hw:Region.wanted oi (yielded ops a.tmps)=true:=by rfl) (hy:∀w,(execOp a.eval oi).run P w= .ok (.value v) w:=by intro w;go_simp;try (with_reducible rfl)) (hl:l.setIfInBounds i true=l' :=by (try simp only [sa,s0,s1]);rfl) (ha:a.put oi.dst v=a' :=by (try simp only [Act.put,sa,s0,s1]);rfl) (hQ:∀c a w,Q (.panic c) (a.put oi.dst v) w->Q (.panic c) a w:=by exact fun _ _ _ h=>h):ZT C l w->Z4 P md ops Q C (n+1) l a w:=by
 subst hl ha;exact fun hS=>tG hi hk hQ hw hy hS h
theorem gL (i c:Nat) {oi:Oper} {v:V} {T:O->Prop} {n:Nat} {l l' :Array Bool} {a a' :Act} {w:O} (hm:(c,T)∈C) (h:ZT C l' w->Z4 P md ops Q C n l' a' w) (hi:ops[i]? =some oi:=by exact gi rfl) (hk:U9 md ops C l i=true:=by kernel_rfl) (hc:fR md ops l i c=true:=by kernel_rfl) (hw:Region.wanted oi (yielded ops a.tmps)=true:=by rfl) (hy:∀w,T w->(execOp a.eval oi).run P w= .ok (.value v) w:=by intro w hT;(try dsimp only at hT);(try go_split_ands);go_simp;try (with_reducible rfl)) (hl:l.setIfInBounds i true=l' :=by (try simp only [sa,s0,s1]);rfl) (ha:a.put oi.dst v=a' :=by (try simp only [Act.put,sa,s0,s1]);rfl) (hQ:∀c a w,Q (.panic c) (a.put oi.dst v) w->Q (.panic c) a w:=by exact fun _ _ _ h=>h):ZT C l w->Z4 P md ops Q C (n+1) l a w:=by
 subst hl ha;exact fun hS=>tF hi hk hc hm hQ hw hy hS h
end
theorem OG {w:O} {L:List Asn} {G:Nat} {t:TypeId} {a0 a1 a2 a3 a4 a5:V} (h:Sp w L) (hm:BlkA G t #[a0,a1,a2,a3,a4,a5]∈L):w.cell? ⟨G,0,none⟩=some a0/\w.cell? ⟨G,1,none⟩=some a1/\w.cell? ⟨G,2,none⟩=some a2/\w.cell? ⟨G,3,none⟩=some a3/\w.cell? ⟨G,4,none⟩=some a4/\w.cell? ⟨G,5,none⟩=some a5:=
 ⟨h.cell hm 0,h.cell hm 1,h.cell hm 2,h.cell hm 3,h.cell hm 4,h.cell hm 5⟩
structure PostD where
 doc:Int
 pos:aD
instance:Rep PostD where
 size:=2
 pos:=by decide
 rep w F cs x:=∃v0 v1,cs= [v0,v1]/\rep w F [v0] x.doc/\rep w F [v1] x.pos
 len:=by rintro _ _ _ _ ⟨_,_,rfl,_⟩;rfl
 keep:=by
  rintro _ _ _ _ _ _ ⟨v0,v1,rfl,h0,h1⟩ hc hF;exact⟨v0,v1,rfl,Rep.keep h0 hc hF,Rep.keep h1 hc hF⟩
 one:=by
  rintro _ _ _ _ u ⟨v0,v1,rfl,h0,h1⟩ hu;simp only [yx,xZ,or_false]at hu;rcases hu with rfl|rfl
  ·exact Rep.one h0 (by simp)
  ·exact Rep.one h1 (by simp)
theorem PostD.cells_of {w:O} {F:Nat->Prop} {cs:aF} {x:PostD} (h:rep w F cs x):∃A1 n1 c1,cs= [.int .i64 x.doc,.slice A1 n1 c1]/\zL w F A1 n1 c1 x.pos/\In64 x.doc:=by
 obtain⟨v0,v1,rfl,⟨e0,p0⟩,⟨A1,n1,c1,e1,p1⟩⟩:=h;cases e0;cases e1;exact⟨A1,n1,c1,rfl,p1,p0⟩
theorem PostD.of_cells {w:O} {F:Nat->Prop} {x:PostD} {A1:aA} {n1 c1:Nat} (h0:zL w F A1 n1 c1 x.pos) (h1:In64 x.doc):rep w F [.int .i64 x.doc,.slice A1 n1 c1] x:=
 ⟨_,_,rfl,⟨rfl,h1⟩,⟨_,_,_,rfl,h0⟩⟩
theorem PostD.at_ {w:O} {F:Nat->Prop} {b off k:Nat} {x:PostD} (h:xp w F b off k x):∃A1 n1 c1,w.cell? ⟨b,off+k*2,none⟩=some (.int .i64 x.doc)/\w.cell? ⟨b,off+k*2+1,none⟩=some (.slice A1 n1 c1)/\zL w F A1 n1 c1 x.pos/\In64 x.doc:=by
 obtain⟨cs,h,hc⟩:=h;obtain⟨A1,n1,c1,rfl,p1,p0⟩:=PostD.cells_of h;exact⟨A1,n1,c1,hc 0 _ rfl,hc 1 _ rfl,p1,p0⟩
def OK (zs:aD) (k:Nat):Bool:=(List.range k).all fun j=>decide (zs.getD j 0<=zs.getD (j+1) 0)
theorem FX (zs:aD) (k:Nat):OK zs (k+1)=(OK zs k && decide (zs.getD k 0<=zs.getD (k+1) 0)):=by
 simp [OK,List.range_succ,List.all_append]
def Q6 (zs:aD):Bool:=OK zs (zs.length - 1)
def Yv (last:Int) (all:Nat) (p:PostD):Bool:=decide (last<p.doc) && decide (p.doc<16384) && decide (0<p.pos.length) && decide (all+p.pos.length<=1048576) && Q6 p.pos && decide (0<=p.pos.getD 0 0) && decide (p.pos.getD (p.pos.length - 1) 0<=1048576)
def xa:Int->Nat->List PostD->Bool
 |_,_, []=>true
 |last,all,p::l=>Yv last all p && xa p.doc (all+p.pos.length) l
def xk (l:List PostD):Bool:=xa (-1) 0 l
theorem sI {last:Int} {all k:Nat} {l:List PostD} {p:PostD} (h:l[k]? =some p):xa last all (l.drop k)=(Yv last all p && xa p.doc (all+p.pos.length) (l.drop (k+1))):=by
 obtain⟨hk,rfl⟩:=List.getElem?_eq_some_iff.1 h;rw [za hk];rfl
def Asn.Cl (B:Nat) (A:Asn):Prop:=∀{S w},A.P S w->∀b,S b->b<B\/∃o,w.heap[b]? =some o/\o.isCells=true
def Cls (B:Nat):List Asn->Prop
 | []=>True
 |A::L=>A.Cl B/\Cls B L
theorem RowA.cl (B:Nat) (e:TypeId) (size:Nat) (v:V) (n:Nat) (xs:aF):(RowA e size v n xs).Cl B:=by
 intro S w h b hb;have hv:=(h.1 b).1 hb;rcases h.2.2 with⟨rfl,_⟩|⟨g,cap,cur,rfl,_,hg,_⟩
 ·simp [Value.ownBlock]at hv
 ·simp [Value.ownBlock]at hv;subst hv;exact .inr ⟨_,hg,rfl⟩
theorem BlkA.cl (B g:Nat) (t:TypeId) (cs:aG):(BlkA g t cs).Cl B:=by
 intro S w h b hb;obtain rfl:=(h.1 b).1 hb;exact .inr ⟨_,h.2,rfl⟩
theorem OldA.cl {B B0:Nat} {w0:O} (h:B0<=B):(OldA B0 w0).Cl B:=by
 intro S w h2 b hb;exact .inl (zX ((h2.1 b).1 hb) h)
theorem SpU.from {B:Nat} {W W' :O} {row:Option Nat} (hg:W.grownBy W' row) (hr:∀r,row=some r->B<=r/\∃o:Obj,W.heap[r]? =some o/\o.isCells=false):∀{L:List Asn} {U:Nat->Prop},Cls B L->SpU W U L->SpU W' U L
 | [],_,_,_=>trivial
 |A::L,U,hc,⟨S,h1,h2,h3⟩=>by
  refine⟨S,h1,A.keep (S' :=fun b=>row=some b) h2 (Tch.grown hg fun b hb=>hb) (fun b hb he=> ?_),SpU.from hg hr hc.2 h3⟩;obtain⟨k1,o,k2,k3⟩:=hr b he;rcases hc.1 h2 b hb with k4|⟨o',k4,k5⟩
  ·exact absurd k4 (Nat.not_lt.2 k1)
  ·rw [k2]at k4;cases k4;rw [k3]at k5;cases k5
theorem Sp.from {B:Nat} {W W' :O} {row:Option Nat} {L:List Asn} (h:Sp W L) (hg:W.grownBy W' row) (hr:∀r,row=some r->B<=r/\∃o:Obj,W.heap[r]? =some o/\o.isCells=false) (hc:Cls B L):Sp W' L:=SpU.from hg hr hc h
def KpA (B:Nat) (W0:O):Asn where
 P S w:=(∀b,S b↔(B<=b/\∃o,W0.heap[b]? =some o/\o.isCells=false))/\W0.heap.size<=w.heap.size/\∀b,S b->w.heap[b]? =W0.heap[b]?
 lt h b hb:=by
  obtain⟨_,o,ho,_⟩:=(h.1 b).1 hb;exact zX (Array.getElem?_eq_some_iff.1 ho).1 h.2.1
 keep h ht hn:=⟨h.1,zY h.2.1 ht.size,fun b hb=>by
  obtain⟨_,o,ho,_⟩:=(h.1 b).1 hb;exact(ht.block b (zX (Array.getElem?_eq_some_iff.1 ho).1 h.2.1) (hn b hb)).trans (h.2.2 b hb)⟩
theorem SpU.avoid {B:Nat} {W:O}:∀{L:List Asn} {U:Nat->Prop},Cls B L->SpU W U L->SpU W (fun b=>U b/\¬(B<=b/\∃o,W.heap[b]? =some o/\o.isCells=false)) L
 | [],_,_,_=>trivial
 |A::L,U,hc,⟨S,h1,h2,h3⟩=>by
  refine⟨S,fun b hb=>⟨h1 b hb,fun⟨k1,o,k2,k3⟩=> ?_⟩,h2,(SpU.avoid hc.2 h3).mono fun b _ u=>⟨⟨u.1.1,u.2⟩,u.1.2⟩⟩;rcases hc.1 h2 b hb with k4|⟨o',k4,k5⟩
  ·exact absurd k4 (Nat.not_lt.2 k1)
  ·rw [k2]at k4;cases k4;rw [k3]at k5;cases k5
theorem Sp.kp {B:Nat} {W:O} {L:List Asn} (h:Sp W L) (hc:Cls B L):Sp W (KpA B W::L):=
 ⟨_,fun _ _=>trivial,⟨fun _=>Iff.rfl,zC _,fun _ _=>rfl⟩,SpU.avoid hc h⟩
theorem Sp.kf {B:Nat} {W W' :O} {L:List Asn} (h:Sp W' L) (hm:KpA B W∈L):KeepsFrom B W W' :=by
 obtain⟨S,h1,h2,h3⟩:=h.get hm;exact⟨h2,fun k o hB hk hc=>(h3 k ((h1 k).2 ⟨hB,o,hk,hc⟩)).trans hk⟩
theorem Sp.blkH {w:O} {L:List Asn} (h:Sp w L) (t:TypeId) (cs:aG) {H:Nat} (hH:w.heap.size=H):Sp (w.alloc (.cells cs t)) (BlkA H t cs::L):=by
 subst hH;exact h.blk t cs
theorem Boxed.same {W W' :O} {B:Nat} {t t' :TypeId} {v v' :V} (h:Boxed W B t v) (k:Boxed W' B t v) (u:Boxed W B t' v'):Boxed W' B t' v' :=by
 have e:=(show W.heap[B]? =_ from h).symm.trans u;exact(show W'.heap[B]? =_ from k).trans e
section
variable {α:Type} [Inhabited α] {w:O} {L:List Asn} {e:TypeId} {n c g:Nat} {enc:α->V} {xs:List α}
theorem Sp.holds (h:Sp w L) (hm:RowA e 1 (.slice (some ⟨g,0,none⟩) n c) n (xs.map enc)∈L):Sort.Holds enc w g 0 xs.toArray:=by
 intro j hj;rw [zx];simp only [yP]at hj
 have e1:(xs.map enc)[j]? =some (enc xs.toArray[j]!):=by
  rw [zH,zB hj,getElem!_pos _ j (by simpa using hj)];rfl
 exact⟨(h.rowOf hm).cells rfl j _ e1,by
  rcases(h.rowOf hm).2 with⟨hv,_⟩|⟨g',cap,cur,hv,_,hg,_⟩
  ·cases hv
  ·cases hv;simp [World.frozen?,hg]⟩
theorem fI (w:O) (k off:Nat) (d:Array α) (os:Array Obj) (b:Nat) (hb:b<w.heap.size):(Sort.grow (Sort.putRow enc (Sort.ahead w k) g off d) os).heap[b]? =if g=b then(w.heap[b]?).map (Sort.onCells (Sort.putCells enc off d))else w.heap[b]? :=by
 unfold Sort.grow;rw [Array.getElem?_append_left (by simpa using hb)];unfold Sort.putRow Sort.mapBlock Sort.ahead;simp only [Array.getElem?_modify]
theorem Tch.putR {S:Nat->Prop} (w:O) (hS:S g) (k off:Nat) (d:Array α) (os:Array Obj):Tch S w (Sort.grow (Sort.putRow enc (Sort.ahead w k) g off d) os):=
 ⟨rfl,rfl,rfl,by simp [Sort.grow],fun b hb hn=>by rw [fI w k off d os b hb,if_neg (fun e:g=b=>hn (by rw [<-e];exact hS))]⟩
theorem Sp.putR (h:Sp w (RowA e 1 (.slice (some ⟨g,0,none⟩) n c) n (xs.map enc)::L)) (ys:List α) (hy:ys.length=n) (k:Nat) (os:Array Obj):
 Sp (Sort.grow (Sort.putRow enc (Sort.ahead w k) g 0 ys.toArray) os) (RowA e 1 (.slice (some ⟨g,0,none⟩) n c) n (ys.map enc)::L):=by
 refine h.upd fun S hS=>⟨S,⟨hS.1,?_⟩,Tch.putR w ((hS.1 g).2 rfl) k 0 _ os,fun _ hb=> .inl hb⟩;obtain⟨h1,h2⟩:=hS.2;refine⟨by simp [hy],?_⟩;rcases h2 with⟨hv,_⟩|⟨g',cap,cur,hv,_,hg,k1,k2,k3,k4⟩
 ·cases hv
 ·cases hv;refine .inr ⟨g,c,Sort.putCells enc 0 ys.toArray cur,rfl,trivial,?_,k1,k2,by simpa [Sort.putCells]using k3,?_⟩
  ·rw [fI w k 0 _ os g (Array.getElem?_eq_some_iff.1 hg).1,if_pos rfl,hg];rfl
  ·apply yX
   intro i;rw [yy,zH]
   by_cases hi:i<n
   ·have hc:i<cur.size:=(by omega);rw [if_pos (by omega),Array.getElem?_toList];unfold Sort.putCells;rw [Array.getElem?_mapIdx,Array.getElem?_eq_getElem hc,zB (by omega)];simp only [yk,yP,zx,Nat.sub_zero,zJ,true_and];rw [if_pos (by omega),getElem!_pos _ i (by simp;omega)];rfl
   ·rw [if_neg (by omega),zh (by omega)];rfl
theorem Sp.cutRow {A:aA} {us vs:aF} (h:Sp w (RowA e 1 (.slice A n c) n (us++vs)::L)):Sp w (RowA e 1 (.slice A us.length c) us.length us::L):=by
 refine h.turn fun S hS=>⟨fun b=>by rw [hS.1 b];cases A<;>simp [Value.ownBlock],?_⟩
 obtain⟨h1,h2⟩:=hS.2;simp only [zG]at h1;refine⟨by omega,?_⟩;rcases h2 with⟨hv,h0⟩|⟨g',cap,cur,hv,_,hg,k1,k2,k3,k4⟩
 ·cases hv;exact .inl ⟨by rw [show us.length=0 by omega],by omega⟩
 ·cases hv;refine .inr ⟨g',c,cur,rfl,trivial,hg,by omega,k2,k3,?_⟩;have h3:=congrArg (List.take us.length) k4;rw [List.take_take,List.take_left' rfl]at h3;rw [Nat.min_eq_left (by omega)]at h3;rw [yr];exact h3
end
theorem gG {P:Program} {w:O} {L:List Asn} {e:TypeId} {size:Nat} {ops:Array Oper} {rest:List Oper} {o:Oper} {a:Act} {Q:Exit->Act->O->Prop} {t:TypeId} {bytes:Nat} (E:Elt P t e size bytes) (l c:Operand) (hgd:o.guard=none) (hop:o.op=Op.makeSlice t l c)
 (HS:Sp w L) {m:Nat} (hl:a.eval l= .int .i64 0) (hc:a.eval c= .int .i64 (m:Int)) (hn:bytes*m<=140737488355328) (h63:m<=9223372036854775807)
 (h:∀w' A',Sp w' (RowA e size (.slice A' 0 m) 0 []::L)->wpList P ops Q rest (a.put o.dst (.slice A' 0 m)) w'):wpList P ops Q (o::rest) a w:=by
 obtain⟨ht,hsz,i,z,hi,hz,hsize,hby,hzs⟩:=E;exact wpList_make_own w hgd l c t hop w.heap.size e i z size ht hi hz hsize .i64 .i64 _ m hl hc rfl (by rw [hby];omega) (by unfold maxLen;omega) (zC _) fun w' ho hg=>h w' _ (HS.row (Yd ho) ⟨hg.os,hg.tape,hg.output,hg.size,fun k hk=>hg.block k hk (by simp)⟩)
def xP (l:aD):aD:=l.mergeSort fun x y=>decide (x<=y)
theorem U0 (l:aD):(xP l).length=l.length:=List.length_mergeSort l
theorem lH {l:aD} {x:Int}:x∈xP l↔x∈l:=List.mem_mergeSort
theorem wB (l:aD):xP (xP l)=xP l:=
 List.mergeSort_of_pairwise (List.pairwise_mergeSort (by intro a b c h1 h2;simp at*;omega) (by intro a b;simp;omega) l)
end Go.Proofs.YtjbhbfaeielbiaaGreatDoor

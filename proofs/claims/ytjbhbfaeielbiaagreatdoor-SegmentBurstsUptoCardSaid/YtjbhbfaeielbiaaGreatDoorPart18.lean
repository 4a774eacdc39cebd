import Derived.Shelf.RegionOpen
import Derived.LoopNIn
import Derived.LoopIn
import Derived.Test.YtjbhbfaeielbiaaGreatDoorPart04
import Derived.Test.YtjbhbfaeielbiaaGreatDoorPart10
import Derived.Deep.RegionHeld3
import Derived.Shelf.AbstractIn
import Derived.Laws.EntriesVeiled
import Derived.Test.YtjbhbfaeielbiaaGreatDoorPart08
set_option maxRecDepth 100000
set_option maxHeartbeats 8000000
set_option linter.unusedVariables false
set_option linter.unusedSimpArgs false
namespace Go.Proofs.YtjbhbfaeielbiaaGreatDoor
open Tryz
open Rep (rep)
open Go.RowKit Go.Shelf
attribute [local go_sem] Oper.semAt_some
def Tabs (w:O):Prop:=Lib.Utf8Tabs 3 4 w
theorem Tabs.on {w w' :O} (h:Tabs w) (hb:Below w.heap.size w w'):Tabs w' :=Utf8Tabs_below h hb
theorem dR (s:aB) (i:Nat) (hi:i<s.size) (hs:s.size<=9223372036854775807) (w:O) (hT:Tabs w):
 Calls prog 292 #[.string s,.int .i64 i] w fun e w' =>e= .returned (.tuple #[.int .i32 (rn s i),.int .i64 (wd s i)])/\Below w.heap.size w w' :=by
 have hd:=rP s i hi;have h1:(i:Int)<(s.size:Int):=by omega
 have h2:¬(s.size:Int)<=(i:Int):=by omega
 have Hd:=zA hd;clear hd;go_enter func292,ntmps292;go_wp2_with (go_at_call 344;refine(Tryz.utf8_DecodeRuneInString _ _ hT).mono ?_;rw [Hd.out];rintro e w' ⟨rfl,hb⟩);go_ret2;exact⟨rfl,hb⟩
theorem U2 (s:aB) (w:O):
 Calls prog 250 #[.string s] w fun e w' =>e= .returned (.func (.func 294) #[] #[.pointer (some ⟨w.heap.size,0,none⟩)])/\w' =w.alloc (.cells #[.string s] 9):=by
 have hmf:=@mF prog;go_enter func250,ntmps250;go_wp2;go_ret
 exact⟨rfl,rfl⟩
def YS (n0 Bs:Nat) (W W' :O):Prop:=Below n0 W W' /\∀v,Boxed W Bs 9 v->Boxed W' Bs 9 v
theorem YS.trans {n0 Bs:Nat} {A B C:O} (h:YS n0 Bs A B) (k:YS n0 Bs B C):YS n0 Bs A C:=⟨h.1.trans k.1,fun v hv=>k.2 v (h.2 v hv)⟩
theorem YS.putObj {n0 Bs:Nat} {w:O} (hn:n0<=w.heap.size) (W:O) (l:Nat) (o o' :Obj) (hl:w.heap.size<=l) (h:W.heap[l]? =some o) (hc:o.isCells=false) (hw:o.isWalk=false):YS n0 Bs W (W.putObj l o'):=by
 refine⟨?_,fun v hv=>hv.kept (grownBy_putObj' W l o') (fun e=>by cases e;rw [show W.heap[Bs]? =_ from hv]at h;cases h;cases hc)⟩;exact(zE _ W).grown (grownBy_putObj' W l o') (by have:=(Array.getElem?_eq_some_iff.1 h).1;omega) (fun k e=>by cases e;omega)
theorem Below.grownBy' {w w' :O} (h:Below w.heap.size w w'):w.grownBy w' none:=⟨h.os,h.tape,h.output,h.size,fun k hk _=>h.block k hk⟩
theorem Boxed.on {W W' :O} {B:Nat} {t:TypeId} {v:V} (h:Boxed W B t v) (hb:Below W.heap.size W W'):Boxed W' B t v:=h.kept (Below.grownBy' hb) (by simp)
def Wh (s:aB) (x:Nat):aG:= #[.int .i64 x,.int .i32 (rn s x)]
theorem DF (n0 Bs:Nat) (s:aB) (hs:s.size<=9223372036854775800) (w0:O) (hT:Tabs w0) (hn0:w0.heap.size=n0) (d:Nat) (hd1:1<=d)
 (l:Nat) (J Jx:aE->O->Prop) (W:O) (hW:Below n0 w0 W) (hJ:AbidesFrom W.heap.size J)
 (hY:∀pre x W1,J pre W1->pre++ [x]<+:ats s->YieldAt Fence.wide (d - 1) prog l (Wh s x) W1 fun e W' =>
  (e= .returned (.bool true)/\J (pre++ [x]) W' /\YS n0 Bs W1 W')\/(e= .returned (.bool false)/\Jx (pre++ [x]) W'))
 (hBs:Boxed W Bs 9 (.string s)) (h0:J [] W):
 CallsIn Fence.wide d prog 294 #[.func (.yield l) #[] #[],.pointer (some ⟨Bs,0,none⟩)] W fun e W' =>(∃v,e= .returned v)/\
  ((∃ys,ys=ats s/\J ys W')\/(∃pre,pre<+:ats s/\Jx pre W')):=by
 have HT:=zA hT;have HY:=zA hY;have HJ:=zA hJ;have HW:=zA hW;have HBs:=zA hBs;have Hn0:=zA hn0;clear hT hY hJ hW hBs hn0;refine callsIn_of_wp func294 rfl trivial ?_ rfl;simp only [ntmps294,yP,z6,yO,Nat.reduceAdd,Nat.reduceSub,xI,xH,xf,xM,zZ,yI]
 gi_wp2
 gi_loopw [3] (fun i wr=>∃(pre:aE) (k:Nat),k<=s.size/\i= .int .i64 k/\ats s=pre++Yo s k/\J pre wr/\Below n0 w0 wr/\W.heap.size<=wr.heap.size/\Boxed wr Bs 9 (.string s)) (fun i _=>s.size - (intOf i).toNat)
 case atStart=>exact⟨[],0,zJ _,rfl,rfl,h0,HW.out,zC _,HBs.out⟩
 case round=>
  obtain⟨pre,k,hk,rfl,hat,hJk,hbw,hsz,hBs⟩:=hrel;have cS:=hBs.cell;have HJk:=zA hJk;have Hbw:=zA hbw;have HBs2:=zA hBs;have Hat:=zA hat;clear hJk hbw hBs hat
  by_cases hlt:k<s.size
  ·have hwf:=pU hlt;have hwp:=UV hlt;have hTr:Hid (Tabs wr):=HT.out.on (by rw [Hn0.out];exact Hbw.out)
   gi_wp2_with (refine⟨trivial,?_⟩;gi_at_call 292;refine(callsIn_wide.2 (dR s k hlt (by omega) _ hTr.out)).mono ?_;rintro e w2 ⟨rfl,hb2⟩;have hb3:Hid (Below wr.heap.size wr w2):=hb2;clear hb2;have hJ2:=HJ.out _ _ _ _ HJk.out (Below.grownBy' hb3.out) (fun _ e=>by cases e);have hpre:pre++ [k]<+:ats s:=(by rw [Hat.out,Qo hlt];exact⟨Yo s (k+wd s k),by simp⟩);obtain⟨fn,tmps,assign,body,hy,hR⟩:=HY.out _ _ w2 hJ2 hpre;simp only [Wh]at hy;have HR:=zA hR;clear hJ2 hR hpre)
   refine HR.out.mono ?_;rintro e W3 (⟨rfl,hJ3,hk3⟩|⟨rfl,hJx3⟩)
   ·have Hk3:=zA hk3;have HJ3:=zA hJ3;clear hk3 hJ3
    gi_wp2
    go_roundw
    case rel=>exact⟨pre++ [k],k+wd s k,by omega,by go_num,by rw [Hat.out,Qo hlt];simp,HJ3.out,(Hbw.out.trans (hb3.out.mono (Hn0.out▸Hbw.out.size))).trans Hk3.out.1,zY (zY hsz hb3.out.size) Hk3.out.1.size,Hk3.out.2 _ (Boxed.on HBs2.out hb3.out)⟩
    case measure=>simp [intOf];omega
   ·gi_wp2
    refine bodyPost_ret (results_none rfl _ _ _) rfl ?_;refine⟨⟨_,rfl⟩,.inr ⟨_,?_,hJx3⟩⟩;rw [Hat.out,Qo hlt];exact⟨Yo s (k+wd s k),by simp⟩
  ·obtain rfl:k=s.size:=by omega
   have hfin:Hid (ats s=pre):=by show _=_;rw [Hat.out,vG (zC _),zo]
   gi_wp2
   go_end0
   exact⟨⟨_,rfl⟩,.inl ⟨_,rfl,by rw [hfin.out];exact HJk.out⟩⟩
theorem WF (n0 Bs:Nat) (s:aB) (hs:s.size<=9223372036854775800) (w0:O) (hT:Tabs w0) (hn0:w0.heap.size=n0) (d:Nat) (hd1:1<=d) (W0:O) (hW0:Below n0 w0 W0) (hBs:Boxed W0 Bs 9 (.string s)):
 qT Fence.wide d prog 294 #[.pointer (some ⟨Bs,0,none⟩)] (Wh s) (YS n0 Bs) (fun ys=>ys=ats s) (fun pre=>pre<+:ats s) (fun pre x=>pre++ [x]<+:ats s) W0:=
 fun l J Jx W hW hJ _ hY h0=>DF n0 Bs s hs w0 hT hn0 d hd1 l J Jx W (hW0.trans (hW.mono (hn0▸hW0.size))) hJ hY (Boxed.on hBs hW) h0
open Go.RowKit
theorem Wy {α:Type} [Rep α] {F:Fence} {nF:Nat} {P:Program} {w:O} {D:Nat->Prop} {ops:Array Oper} {rest:List Oper} {o:Oper} {a:Act} {Q:Exit->Act->O->Prop} (hgd:o.guard=none) (s x:Operand) (t:TypeId)
 (ho:o.op= .call {callee:= .builtin .append,args:= #[s,x],argTypes:= #[t,t]})
 (base:Nat) (e:TypeId) (i:TypeInfo) (z:V) (bytes:Nat) (ht:P.underlying t=some (.slice e)) (hi:P.info? e=some i) (hz:i.zero=some z)
 (hsize:i.size=Rep.size α) (hby:i.bytes=bytes) (hzs:z.cells.size=Rep.size α)
 (v:V) (xs:List α) (hs:a.eval s=v) (hown:Own D w base e v xs)
 (B:Nat) (cs:aG) (y:α) (hx:a.eval x= .slice (some ⟨B,0,none⟩) 1 1) (hblk:Blk w B e cs) (hy:rep w (Fr D w v) cs.toList y)
 (h63:xs.length+1<=9223372036854775807) (hbytes:(xs.length+1)*bytes<=140737488355328) (hbase:base<=w.heap.size)
 (h:∀v' w',Own D w' base e v' (xs++ [y])->w.grownBy w' v.ownBlock->Below base w w' ->wpListIn F nF P ops Q rest (a.put o.dst v') w'):wpListIn F nF P ops Q (o::rest) a w:=by
 have hown0:=hown;obtain⟨css,hl,hr,hr2⟩:=hown;have hsz:cs.size=1*Rep.size α:=by have:=Rep.len hy;simpa using this
 refine wpListIn_append_own_at w hgd s x t ho base e i z (Rep.size α) bytes ht hi hz hsize hby hzs Rep.pos v xs.length css.flatten hs hr2 ⟨B,0,none⟩ 1 1 cs.toList hx (by simpa using hsz) (fun j u hu=> ?_) (fun u hu=>Rep.one hy hu) h63 hbytes hbase ?_
 ·rw [Yl,hblk.cell j];simpa using hu
 intro v' w' ho' hg _ hat
 exact h v' w' (Vr hl hr hy ho' hg hat) hg ((zE _ _).grown hg hbase (fun k hk=>by
  rcases hown0.from_ with e1|⟨k',e1,hk'⟩
  ·rw [e1]at hk;cases hk
  ·rw [e1]at hk;cases hk;exact hk'))
abbrev Flat:Nat->Prop:=fun _=>False
theorem ZA {α:Type} [Rep α] {base:Nat} {e:TypeId} {W W' :O} {row:Option Nat} {v:V} {xs:List α} (h:Own Flat W base e v xs) (hg:W.grownBy W' row) (hv:v.ownBlock=none\/v.ownBlock≠row):Own Flat W' base e v xs:=by
 obtain⟨css,hl,hre,ho⟩:=h;exact⟨css,hl,fun k cs x h1 h2=>Rep.keep (hre k cs x h1 h2) (fun p hp=>hp.1.elim) (fun b hb=>hb.1.elim),ho.kept hg hv⟩
theorem YC {α:Type} [Rep α] {D:Nat->Prop} {w:O} {v:V} {cs:aF} {y:α} (h:rep w Flat cs y):rep w (Fr D w v) cs y:=Rep.more h (fun _ hb=>hb.elim)
theorem xy {α:Type} [Rep α] {D:Nat->Prop} {base:Nat} {e t:TypeId} {W:O} {B:Nat} {v u:V} {xs:List α} (h:Own D W base e v xs) (hb:Boxed W B t u) (hte:t≠e):v.ownBlock=none\/v.ownBlock≠some B:=by
 obtain⟨_,_,_,ho⟩:=h;exact .inr (fun e=>hb.not_row hte ho e.symm)
theorem XM {α:Type} [Rep α] {D:Nat->Prop} {base:Nat} {e:TypeId} {W:O} {v:V} {xs:List α} (h:Own D W base e v xs) {row:Option Nat} (hr:∀r,row=some r->∃o:Obj,W.heap[r]? =some o/\o.isCells=false):v.ownBlock=none\/v.ownBlock≠row:=by
 cases hob:v.ownBlock with
 |none=>exact .inl rfl
 |some g=>
  refine .inr (fun e=> ?_);obtain⟨_,_,_,ho'⟩:=h;obtain⟨o,ho,hc⟩:=hr _ e.symm;rcases ho'.2 with⟨rfl,_⟩|⟨g',cap,cur,rfl,_,hgb,_⟩
  ·cases hob
  ·cases hob;rw [hgb]at ho;cases ho;cases hc
theorem VM {α β:Type} [Rep α] (n0 B:Nat) (t e:TypeId) (base:Nat) (f:β->List α):OwnFrom n0 (fun(s:β) W=>∃v,Boxed W B t v/\Own Flat W base e v (f s)):=by
 rintro s X Y row ⟨v,h1,h2⟩ hg hr;refine⟨v,h1.kept hg (fun e=> ?_),ZA h2 hg (XM h2 (fun r e=>(hr r e).2))⟩;obtain⟨_,o,ho,hc⟩:=hr _ e.symm;rw [show X.heap[_]? =_ from h1]at ho;cases ho;cases hc
theorem xT (W:O) (p:Addr) (v:V):W.grownBy (W.setCell p v) (some p.block):=
 ⟨rfl,rfl,rfl,by simp [World.setCell],fun k _ hk=>Below.heap_setCell _ _ _ k (fun e=>hk (by rw [e]))⟩
theorem rE {α:Type} [Rep α] {W w1 w2:O} {base B:Nat} {t e:TypeId} {v v' :V} {xs ys:List α} (hb:Boxed W B t v) (ho:Own Flat W base e v xs) (hte:t≠e) (hg1:W.grownBy w1 none) (hg2:w1.grownBy w2 v.ownBlock) (ho' :Own Flat w2 base e v' ys):
 Boxed w2 B t v/\Boxed (w2.setCell ⟨B,0,none⟩ v') B t v' /\Own Flat (w2.setCell ⟨B,0,none⟩ v') base e v' ys/\KeepsOthers W (w2.setCell ⟨B,0,none⟩ v'):=by
 have b1:=hb.kept hg1 (by simp);have o1:=ZA ho hg1 (by cases v.ownBlock<;>simp)
 have hne:=xy o1 b1 hte
 have b2:=b1.kept hg2 (by rcases hne with h|h;·rw [h];simp
                          ·exact fun e=>h e.symm)
 refine⟨b2,b2.set _,ZA ho' (xT _ _ _) (xy ho' b2 hte),?_⟩;refine((KeepsOthers.of_grownBy hg1 (fun j o ej hj=>by cases ej)).trans (KeepsOthers.of_grownBy hg2 (fun j o ej hj=> ?_))).trans (KeepsOthers.setCell _ _ _);obtain⟨_,_,_,hr⟩:=o1;rcases hr.2 with⟨hv,_⟩|⟨g,cap,cur,hv,_,hgb,_⟩
 ·rw [hv]at ej;cases ej
 ·rw [hv]at ej;cases ej;rw [hgb]at hj;cases hj;rfl
theorem rO {α:Type} [Rep α] {D:Nat->Prop} {W w1:O} {o:Obj} {k base:Nat} {e:TypeId} {v:V} {xs:List α} (h:W.heap[k]? =some (.deferred (some []))) (hg:(W.alloc o).grownBy w1 v.ownBlock) (ho:Own D (W.alloc o) base e v xs):w1.heap[k]? =some (.deferred (some [])):=by
 have hk:=(Array.getElem?_eq_some_iff.1 h).1;have h1:(W.alloc o).heap[k]? =some (.deferred (some [])):=(Below.heap_alloc W o k hk).trans h;refine(hg.block k (by simp;omega) (fun e=> ?_)).trans h1;obtain⟨_,_,_,hr⟩:=ho;rcases hr.2 with⟨hv,_⟩|⟨g,cap,cur,hv,_,hgb,_⟩
 ·rw [hv]at e;cases e
 ·rw [hv]at e;cases e;rw [hgb]at h1;cases h1
theorem wQ {α β:Type} [Rep α] [Rep β] {D D' :Nat->Prop} {b1 b2:Nat} {e1 e2:TypeId} {W:O} {v u:V} {xs:List α} {ys:List β} (h:Own D W b1 e1 v xs) (k:Own D' W b2 e2 u ys) (hte:e1≠e2):v.ownBlock=none\/v.ownBlock≠u.ownBlock:=by
 cases hob:v.ownBlock with
 |none=>exact .inl rfl
 |some g=>
  refine .inr (fun e=> ?_);obtain⟨_,_,_,hr⟩:=h;obtain⟨_,_,_,kr⟩:=k;rcases hr.2 with⟨rfl,_⟩|⟨g1,_,_,rfl,_,hgb,_⟩
  ·cases hob
  ·cases hob;rcases kr.2 with⟨rfl,_⟩|⟨g2,_,_,rfl,_,kgb,_⟩
   ·cases e
   ·cases e;rw [hgb]at kgb;cases kgb;exact hte rfl
theorem rS {α:Type} [Rep α] {P:Program} {w:O} {ops:Array Oper} {rest:List Oper} {o:Oper} {a:Act} {Q:Exit->Act->O->Prop} (hgd:o.guard=none) (s x:Operand) (t:TypeId)
 (ho:o.op= .call {callee:= .builtin .append,args:= #[s,x],argTypes:= #[t,t]})
 (base:Nat) (e:TypeId) (i:TypeInfo) (z:V) (bytes:Nat) (ht:P.underlying t=some (.slice e)) (hi:P.info? e=some i) (hz:i.zero=some z)
 (hsize:i.size=Rep.size α) (hby:i.bytes=bytes) (hzs:z.cells.size=Rep.size α)
 (v:V) (xs:List α) (hs:a.eval s=v) (hown:Own Flat w base e v xs)
 (B:Nat) (cs:aG) (y:α) (hx:a.eval x= .slice (some ⟨B,0,none⟩) 1 1) (hblk:Blk w B e cs) (hy:rep w Flat cs.toList y)
 (h63:xs.length+1<=9223372036854775807) (hbytes:(xs.length+1)*bytes<=140737488355328) (hbase:base<=w.heap.size)
 (h:∀A' c' w',Own Flat w' base e (.slice A' (xs.length+1) c') (xs++ [y])->w.grownBy w' v.ownBlock->Below base w w' ->wpList P ops Q rest (a.put o.dst (.slice A' (xs.length+1) c')) w'):wpList P ops Q (o::rest) a w:=by
 refine tE hgd s x t ho base e i z bytes ht hi hz hsize hby hzs v xs hs hown B cs y hx hblk (YC hy) h63 hbytes hbase ?_;intro v' w' ho' hg hb;obtain⟨A',c',rfl⟩:=ho'.form;rw [show(xs++ [y]).length=xs.length+1 by simp]at ho' ⊢;exact h A' c' w' ho' hg hb
theorem Own.drew {α:Type} [Rep α] {D:Nat->Prop} {w:O} {base:Nat} {e:TypeId} {v:V} {xs:List α} (h:Own D w base e v xs):Own D w.drew base e v xs:=h.on ((zE _ w).drew)
theorem VP {α:Type} [Rep α] {P:Program} {w:O} {ops:Array Oper} {o:Oper} {a:Act} {K:Act->O->Prop} {Q:Exit->Act->O->Prop} {E:Prop} (hgd:o.guard=none) (s x:Operand) (t:TypeId)
 (ho:o.op= .call {callee:= .builtin .append,args:= #[s,x],argTypes:= #[t,t]})
 (base:Nat) (e:TypeId) (i:TypeInfo) (z:V) (bytes:Nat) (ht:P.underlying t=some (.slice e)) (hi:P.info? e=some i) (hz:i.zero=some z)
 (hsize:i.size=Rep.size α) (hby:i.bytes=bytes) (hzs:z.cells.size=Rep.size α)
 (v:V) (xs:List α) (hs:a.eval s=v) (hown:Own Flat w base e v xs)
 (B:Nat) (cs:aG) (y:α) (hx:a.eval x= .slice (some ⟨B,0,none⟩) 1 1) (hblk:Blk w B e cs) (hy:rep w Flat cs.toList y)
 (h63:xs.length+1<=9223372036854775807) (hbytes:(xs.length+1)*bytes<=140737488355328) (hbase:base<=w.heap.size)
 (h:∀A' c' w',Own Flat w' base e (.slice A' (xs.length+1) c') (xs++ [y])->w.grownBy w' v.ownBlock->Below base w w' ->K (a.put o.dst (.slice A' (xs.length+1) c')) w'):
 if Region.wanted o (yielded ops a.tmps)=true then Oper.wp P o a w K Q else E:=by
 have hown0:=hown;obtain⟨css,hl,hr,hr2⟩:=hown;have hyF:rep w (Fr Flat w v) cs.toList y:=YC hy;have hsz:cs.size=1*Rep.size α:=by have:=Rep.len hy;simpa using this
 refine Qw w hgd s x t ho base e i z (Rep.size α) bytes ht hi hz hsize hby hzs Rep.pos v xs.length css.flatten hs hr2 w.heap.size (some ⟨B,0,none⟩) 1 1 cs.toList hx (dO hblk 1 _ hsz) (fun u hu=>Rep.one hy hu) h63 hbytes hbase ?_;intro v' w' ho' hg hat;have hp:=Vr hl hr hyF ho' hg hat;obtain⟨A',c',rfl⟩:=hp.form;rw [show(xs++ [y]).length=xs.length+1 by simp]at hp⊢
 exact h A' c' w' hp hg (Uu (v' :=v) (zE _ _) hbase hown0.from_ hg)
theorem vY {α:Type} [Rep α] {P:Program} {w:O} {ops:Array Oper} {o:Oper} {a:Act} {K:Act->O->Prop} {Q:Exit->Act->O->Prop} {E:Prop} (hgd:o.guard=none) (s x:Operand) (t:TypeId)
 (ho:o.op= .call {callee:= .builtin .append,args:= #[s,x],argTypes:= #[t,t]})
 (base:Nat) (e:TypeId) (i:TypeInfo) (z:V) (bytes:Nat) (ht:P.underlying t=some (.slice e)) (hi:P.info? e=some i) (hz:i.zero=some z)
 (hsize:i.size=Rep.size α) (hby:i.bytes=bytes) (hzs:z.cells.size=Rep.size α)
 (v:V) (xs:List α) (hs:a.eval s=v) (hown:Own Flat w base e v xs)
 (B:Nat) (cs:aG) (y:α) (hx:a.eval x= .slice (some ⟨B,0,none⟩) 1 1) (hblk:Blk w B e cs) (hy:rep w Flat cs.toList y)
 (h63:xs.length+1<=9223372036854775807) (hbytes:(xs.length+1)*bytes<=140737488355328) (hbase:base<=w.heap.size)
 (h:∀A' c' w',Own Flat w' base e (.slice A' (xs.length+1) c') (xs++ [y])->w.grownBy w' v.ownBlock->Below base w w' ->(∀g,(Value.slice A' (xs.length+1) c').ownBlock=some g->v.ownBlock=some g\/g=w.heap.size)->K (a.put o.dst (.slice A' (xs.length+1) c')) w'):
 if Region.wanted o (yielded ops a.tmps)=true then Oper.wp P o a w K Q else E:=by
 have hown0:=hown;obtain⟨css,hl,hr,hr2⟩:=hown;have hyF:rep w (Fr Flat w v) cs.toList y:=YC hy;have hsz:cs.size=1*Rep.size α:=by have:=Rep.len hy;simpa using this
 refine Qw w hgd s x t ho base e i z (Rep.size α) bytes ht hi hz hsize hby hzs Rep.pos v xs.length css.flatten hs hr2 w.heap.size (some ⟨B,0,none⟩) 1 1 cs.toList hx (dO hblk 1 _ hsz) (fun u hu=>Rep.one hy hu) h63 hbytes hbase ?_;intro v' w' ho' hg hat;have hp:=Vr hl hr hyF ho' hg hat;obtain⟨A',c',rfl⟩:=hp.form;rw [show(xs++ [y]).length=xs.length+1 by simp]at hp⊢
 rw [show(xs++ [y]).length=xs.length+1 by simp]at hat
 exact h A' c' w' hp hg (Uu (v' :=v) (zE _ _) hbase hown0.from_ hg) (fun g hg' =>by
  rcases hat with e|e
  ·exact .inl (e▸hg')
  ·right;rw [e]at hg';exact(yG hg').symm)
structure Token where
 text:aB
 pos:Int
 from_:Int
 to_:Int
 deriving DecidableEq
instance:Rep Token where
 size:=4
 pos:=by decide
 rep _ _ cs x:=cs= [.string x.text,.int .i64 x.pos,.int .i64 x.from_,.int .i64 x.to_]/\x.text.size<=9223372036854775807/\In64 x.pos/\In64 x.from_/\In64 x.to_
 len:=by rintro _ _ _ _ ⟨rfl,_⟩;rfl
 keep:=fun h _ _=>h
 one:=by
  rintro _ _ _ _ u ⟨rfl,_⟩ hu;simp only [yx,xZ,or_false]at hu;rcases hu with rfl|rfl|rfl|rfl<;>rfl
def Token.cells (x:Token):aF:= [.string x.text,.int .i64 x.pos,.int .i64 x.from_,.int .i64 x.to_]
def Token.ok (x:Token):Prop:=x.text.size<=9223372036854775807/\In64 x.pos/\In64 x.from_/\In64 x.to_
theorem Token.rep_of {w:O} {F:Nat->Prop} {x:Token} (h:x.ok):rep w F x.cells x:=⟨rfl,h⟩
theorem Token.at_ {w:O} {F:Nat->Prop} {b off k:Nat} {x:Token} (h:xp w F b off k x):w.cell? ⟨b,off+k*4,none⟩=some (.string x.text)/\w.cell? ⟨b,off+k*4+1,none⟩=some (.int .i64 x.pos)/\w.cell? ⟨b,off+k*4+2,none⟩=some (.int .i64 x.from_)/\w.cell? ⟨b,off+k*4+3,none⟩=some (.int .i64 x.to_)/\x.ok:=by
 obtain⟨cs,⟨rfl,ho⟩,hc⟩:=h;exact⟨hc 0 _ rfl,hc 1 _ rfl,hc 2 _ rfl,hc 3 _ rfl,ho⟩
def yT (bs:aE) (e:TypeId) (W W' :O):Prop:=
 W.heap.size<=W'.heap.size/\∀k o,W.heap[k]? =some o->k ∉ bs->(∀c fz,o≠ .cells c e fz)->W'.heap[k]? =some o
section
variable {bs:aE} {e:TypeId} {A B C:O}
theorem yT.refl (bs:aE) (e:TypeId) (W:O):yT bs e W W:=⟨zC _,fun _ _ h _ _=>h⟩
theorem yT.trans (h:yT bs e A B) (k:yT bs e B C):yT bs e A C:=⟨zY h.1 k.1,fun i o hi hn ho=>k.2 i o (h.2 i o hi hn ho) hn ho⟩
theorem yT.on (bs:aE) (e:TypeId) (h:Below A.heap.size A B):yT bs e A B:=⟨h.size,fun k o hk _ _=>(h.block k (Array.getElem?_eq_some_iff.1 hk).1).trans hk⟩
theorem yT.grown {row:Option Nat} (h:A.grownBy B row) (hr:∀r o,row=some r->A.heap[r]? =some o->r∈bs\/∃c fz,o= .cells c e fz):yT bs e A B:=
 ⟨h.size,fun k o hk hn ho=>(h.block k (Array.getElem?_eq_some_iff.1 hk).1 (fun e' =>by
  rcases hr k o e'.symm hk with h1|⟨c,fz,h1⟩
  ·exact hn h1
  ·exact ho c fz h1)).trans hk⟩
theorem yT.set (p:Addr) (hp:p.block∈bs) (u:V) (W:O):yT bs e W (W.setCell p u):=yT.grown (xT W p u) (fun r o hr _=>by cases hr;exact .inl hp)
theorem yT.box {b:Nat} {t:TypeId} {v:V} (h:yT bs e A B) (hb:Boxed A b t v) (hn:b ∉ bs) (ht:t≠e):Boxed B b t v:=h.2 b _ hb hn (fun c fz e' =>ht (by cases e';rfl))
theorem yT.others (h:yT bs e A B) (hb:∀b∈bs,∃c t,A.heap[b]? =some (.cells c t (0,0))):KeepsOthers A B:=
 ⟨h.1,fun k o hk hc=>h.2 k o hk (fun hm=>by obtain⟨c,t,h1⟩:=hb k hm;rw [h1]at hk;cases hk;cases hc) (fun c fz e' =>by subst e';cases hc)⟩
end
theorem Qe {α:Type} [Rep α] {D:Nat->Prop} {W:O} {base:Nat} {e:TypeId} {v:V} {xs:List α} (h:Own D W base e v xs) {bs:aE}:∀r o,v.ownBlock=some r->W.heap[r]? =some o->r∈bs\/∃c fz,o= .cells c e fz:=by
 intro r o hr ho;obtain⟨_,_,_,hh⟩:=h;rcases hh.2 with⟨rfl,_⟩|⟨g,cap,cur,rfl,_,hgb,_⟩
 ·cases hr
 ·cases hr;rw [hgb]at ho;cases ho;exact .inr ⟨_,_,rfl⟩
theorem Vf {α:Type} {P:List α->Prop} (h0:P []) (h1:∀l x,P l->P (l++ [x])) (l:List α):P l:=by
 have:∀l:List α,P l.reverse:=by
  intro l
  induction l with
  |nil=>exact h0
  |cons a l ih=>rw [List.reverse_cons];exact h1 _ _ ih
 have:=this l.reverse
 rwa [List.reverse_reverse]at this
def QF (s:aB) (toks:List Token) (fr:Option Nat) (x:Nat):List Token:=
 match fr with
 |none=>toks
 |some f=>toks++ [⟨s.extract f x,toks.length,f,x⟩]
def Z6 (s:aB) (p b:Int->Bool) (st:List Token×Option Nat) (x:Nat):List Token×Option Nat:=
 if p (rn s x)=false then(QF s st.1 st.2 x,none)
 else if st.2=none/\b (rn s x)=true then(st.1,some x)else st
def Z7 (s:aB) (p b:Int->Bool) (pre:aE):List Token×Option Nat:=pre.foldl (Z6 s p b) ([],none)
def Xm (s:aB) (p b:Int->Bool):List Token:=QF s (Z7 s p b (ats s)).1 (Z7 s p b (ats s)).2 s.size
def frI:Option Nat->Int
 |none=> -1
 |some f=>f
theorem X2 (s:aB) (p b:Int->Bool) (pre:aE) (x:Nat):Z7 s p b (pre++ [x])=Z6 s p b (Z7 s p b pre) x:=by simp [Z7]
theorem jY (s:aB) (toks:List Token) (fr:Option Nat) (x:Nat):(QF s toks fr x).length<=toks.length+1:=by cases fr<;>simp [QF]
theorem U3 (s:aB) (p b:Int->Bool) (pre:aE):(Z7 s p b pre).1.length<=pre.length:=by
 induction pre using Vf with
 |h0=>simp [Z7]
 |h1 pre x ih=>
  rw [X2,zG,List.length_singleton];unfold Z6
  split
  ·have:=jY s (Z7 s p b pre).1 (Z7 s p b pre).2 x;show(QF _ _ _ _).length<=_;omega
  ·split
   ·show(Z7 s p b pre).1.length<=_;omega
   ·omega
theorem Wi (s:aB) (p b:Int->Bool) (pre:aE):∀f,(Z7 s p b pre).2=some f->f∈pre:=by
 induction pre using Vf with
 |h0=>intro f h;simp [Z7]at h
 |h1 pre x ih=>
  intro f h;rw [X2]at h;unfold Z6 at h
  split at h
  ·cases h
  ·split at h
   ·cases h;simp
   ·simp [ih f h]
theorem iO (s:aB):∀f i,(atsF s f i).Pairwise (·<·)
 |0,_=>by simp [atsF]
 |f+1,i=>by
  rw [atsF]
  by_cases hi:i<s.size
  ·rw [if_pos hi,List.pairwise_cons];refine⟨fun x hx=> ?_,iO s f _⟩;have:=UQ s f _ x hx;have:=UV hi;omega
  ·rw [if_neg hi];exact List.Pairwise.nil
theorem kC (s:aB):(ats s).Pairwise (·<·):=iO s _ _
theorem V5 {s:aB} {x:Nat} (h:x∈ats s):x<s.size:=(UQ s _ _ x h).2
theorem kD {s:aB} {pre:aE} {x:Nat} (h:pre++ [x]<+:ats s):∀f∈pre,f<x:=by
 intro f hf;have h1:=(kC s).sublist h.sublist;rw [List.pairwise_append]at h1;exact h1.2.2 f hf x (by simp)
attribute [local go_sem ↓] zU zV
theorem Q5:(Tryz.prog.info? 48).map (fun i=>(i.zero,i.size,i.bytes))=some (some (.agg #[.string {data:= #[]},.int .i64 0,.int .i64 0,.int .i64 0]),4,40):=by kernel_rfl
theorem Ui {α:Type} [Rep α] {D:Nat->Prop} {W w3:O} {base Bf Bo:Nat} {e t1 t2:TypeId} {v u1 u2:V} {xs:List α} (o:Obj) (h:Own D W base e v xs) {Bt:Nat} {t3:TypeId} {u3:V} (h1:Boxed W Bf t1 u1) (h2:Boxed W Bo t2 u2) (h3:Boxed W Bt t3 u3) (d1:t1≠e) (d2:t2≠e) (d3:t3≠e)
 (hg:(W.alloc o).drew.grownBy w3 v.ownBlock) (hb:Below base (W.alloc o).drew w3):Boxed w3 Bo t2 u2/\Boxed w3 Bf t1 u1/\Boxed w3 Bt t3 u3/\(W.alloc o).grownBy w3 v.ownBlock/\Below base (W.alloc o) w3:=by
 have hg' :(W.alloc o).grownBy w3 v.ownBlock:=⟨hg.os,hg.tape,hg.output,hg.size,hg.block⟩
 have go:∀{B:Nat} {t:TypeId} {u:V},Boxed W B t u->t≠e->Boxed w3 B t u:=fun hb hd=>(hb.alloc o).kept hg' (by
  rcases xy (h.alloc o) (hb.alloc o) hd with h|h
  ·rw [h];simp
  ·exact fun e=>h e.symm)
 exact⟨go h2 d2,go h1 d1,go h3 d3,hg',hb.os,hb.tape,hb.output,hb.size,hb.block⟩
theorem nU (x:Int) (Bf Bo Bt:Nat) (W:O) (hf:Boxed W Bf 3 (.int .i64 (-1))):
 Calls prog 249 #[.int .i64 x,.pointer (some ⟨Bf,0,none⟩),.pointer (some ⟨Bo,0,none⟩),.pointer (some ⟨Bt,0,none⟩)] W fun e W' =>e= .returned (.tuple #[])/\W' =W.setCell ⟨Bf,0,none⟩ (.int .i64 (-1)):=by
 have cf:=hf.cell;have ff:=hf.frozen;clear hf;go_enter func249,ntmps249;go_wp2
 go_end0
 exact⟨rfl,rfl⟩
theorem nT (s:aB) (x f:Nat) (hfx:f<=x) (hx:x<=s.size) (hs:s.size<=9223372036854775807) (toks:List Token) (base Bf Bo Bt:Nat) (v:V) (W:O) (hbase:base<=W.heap.size) (hbf:base<=Bf) (hbo:base<=Bo) (hne:Bf≠Bo)
 (hf:Boxed W Bf 3 (.int .i64 (f:Int))) (ho:Boxed W Bo 41 v) (ht:Boxed W Bt 9 (.string s)) (hown:Own Flat W base 48 v toks) (hlen:toks.length<=1000000000000):
 Calls prog 249 #[.int .i64 x,.pointer (some ⟨Bf,0,none⟩),.pointer (some ⟨Bo,0,none⟩),.pointer (some ⟨Bt,0,none⟩)] W fun e W' =>e= .returned (.tuple #[])/\∃v',Boxed W' Bf 3 (.int .i64 (-1))/\Boxed W' Bo 41 v' /\Own Flat W' base 48 v' (toks++ [⟨s.extract f x,toks.length,f,x⟩])/\Below base W W' /\yT [Bf,Bo] 48 W W' :=by
 obtain⟨i0,hi0,hz0,hz1,hz2⟩:=info_parts Q5;obtain⟨A,c,rfl⟩:=hown.form;obtain⟨L,hL⟩:=eX (toks.length);rw [hL]at hlen ho hown;have HL:=zA hL;rw [hL];clear hL;have cf:=hf.cell;have ff:=hf.frozen;have co:=ho.cell;have fo:=ho.frozen;have ct:=ht.cell;have hf0:¬(f:Int)<0:=by omega
 have g0:(0:Int)<=(f:Int):=by omega
 have g1:(f:Int)<=(x:Int):=by omega
 have g2:(x:Int)<=(s.size:Int):=by omega
 have g3:(0:Int)<=(x:Int):=by omega
 have Hf:=zA hf;have Ho:=zA ho;have Ht:=zA ht
 have htn:Bt≠Bo:=by
  rintro rfl;rw [ct]at co;cases co
 have Hown:=zA hown;clear hf ho ht hown
 have Htok:Hid (Token.ok ⟨s.extract f x,L,f,x⟩):=by
  refine⟨?_,?_,?_,?_⟩
  ·simp only [yQ];omega
  all_goals (unfold In64;simp only;omega)
 go_enter func249,ntmps249;go_wp2;refine wp_region_held_drew (S:=(fun w' =>w'.cell? ⟨Bf,0,none⟩=some (.int .i64 (f:Int))/\w'.cell? ⟨Bt,0,none⟩=some (.string s))) (by kernel_rfl) ⟨cf,ct⟩ (fun hHeld=> ?_);refine hF 1 ?_;refine hF 2 ?_;refine hF 3 ?_;refine hF 4 ?_;refine hF 7 ?_;refine hF 8 ?_;refine wpAnyH_ready (rs:= [0,5]) (by kernel_rfl) (by simp) ?_
 refine AllReadyH.cons (o:=_) rfl (fun K hK=> ?_) (AllReadyH.cons (o:=_) rfl (fun K hK=> ?_) (AllReadyH.nil))
 ·go_simp;refine hK.out _ _ ⟨cf,ct⟩ (fun hHeld=> ?_);clear hK K
  try simp only [Act.put,sa,s0,s1]
  refine wpAnyH_ready (rs:= [5]) (by kernel_rfl) (by simp) ?_;refine AllReadyH.cons (o:=_) rfl (fun K hK=> ?_) (AllReadyH.nil);go_simp;refine hK.out _ _ ⟨cf,ct⟩ (fun hHeld=> ?_);clear hK K
  try simp only [Act.put,sa,s0,s1]
  refine hF 6 ?_;refine hF 9 ?_;refine wpAnyH_ready (rs:= [10]) (by kernel_rfl) (by simp) ?_;refine AllReadyH.cons (o:=_) rfl (fun K hK=> ?_) (AllReadyH.nil);go_simp;refine hK.out _ _ ⟨(yA _ _ _ (ye cf)).trans cf,(yA _ _ _ (ye ct)).trans ct⟩ (fun hHeld=> ?_);clear hK K
  try simp only [Act.put,sa,s0,s1]
  refine wpAnyH_ready (rs:= [11]) (by kernel_rfl) (by simp) ?_;refine AllReadyH.cons (o:=_) rfl (fun K hK=> ?_) (AllReadyH.nil)
  refine VP rfl (.tmp 7) (.tmp 17) _ rfl base 48 i0 _ 40 underlying41 hi0 hz0 hz1 hz2 rfl (.slice A L c) toks rfl (by first|exact Hown.out.alloc _|exact(Hown.out.alloc _).drew) W.heap.size #[.string (s.extract f x),.int .i64 (L:Int),.int .i64 (f:Int),.int .i64 (x:Int)] ⟨s.extract f x,L,f,x⟩ rfl (by first|exact Blk.new _ _ _|exact(Blk.new _ _ _).drew) (Token.rep_of Htok.out) (by rw [HL.out];omega) (by rw [HL.out];omega) (by simp;omega) ?_
  rw [HL.out];intro A3 c3 w3 ho3 hg3 hb3;obtain⟨bo3,bf3,bt3,hg4,hb4⟩:=Ui _ Hown.out Hf.out Ho.out Ht.out (by decide) (by decide) (by decide) hg3 hb3;have co3:=bo3.cell;have fo3:=bo3.frozen;have cf3:=bf3.cell;have ct3:=bt3.cell;have Bo3:=zA bo3;have Bf3:=zA bf3;have Ho3:=zA ho3;have Hg3:=zA hg4;have Hb3:=zA hb4;clear bo3 bf3 bt3 ho3 hg3 hb3 hg4 hb4;refine hK.out _ _ ⟨cf3,ct3⟩ (fun hHeld=> ?_)
  clear hK K
  try simp only [Act.put,sa,s0,s1]
  refine wpAnyH_ready (rs:= [12]) (by kernel_rfl) (by simp) ?_;refine AllReadyH.cons (o:=_) rfl (fun K hK=> ?_) (AllReadyH.nil);go_simp;refine hK.out _ _ ⟨(Boxed.other Bf3.out hne _).cell,(World.cell?_setCell_other _ _ _ _ (by intro e;cases e;exact htn rfl)).trans ct3⟩ (fun hHeld=> ?_);clear hK K
  try simp only [Act.put,sa,s0,s1]
  refine wpAnyH_done (by kernel_rfl) ?_ _;have bo4:=Bo3.out.set (.slice A3 (L+1) c3);have bf4:=Boxed.other Bf3.out hne (.slice A3 (L+1) c3);have ho4:=ZA Ho3.out (xT w3 ⟨Bo,0,none⟩ (.slice A3 (L+1) c3)) (xy Ho3.out Bo3.out (by decide));have cf4:=bf4.cell;have ff4:=bf4.frozen;have Bo4:=zA bo4;have Bf4:=zA bf4;have Ho4:=zA ho4;clear bo4 bf4 ho4 cf ff co fo ct;go_wp2
  go_end0
  refine⟨rfl,_,Bf4.out.set _,Boxed.other Bo4.out (Ne.symm hne) _,ZA Ho4.out (xT _ _ _) (xy Ho4.out Bf4.out (by decide)),?_,?_⟩
  ·exact((((zE base W).alloc hbase _).trans Hb3.out).setCell (p:=⟨Bo,0,none⟩) hbo _).setCell (p:=⟨Bf,0,none⟩) hbf _
  ·exact(((yT.on _ _ ((zE _ W).alloc (zC _) _)).trans (yT.grown Hg3.out (Qe (Hown.out.alloc _)))).trans (yT.set ⟨Bo,0,none⟩ (by simp) _ _)).trans (yT.set ⟨Bf,0,none⟩ (by simp) _ _)
 ·go_simp;refine hK.out _ _ ⟨cf,ct⟩ (fun hHeld=> ?_);clear hK K
  try simp only [Act.put,sa,s0,s1]
  refine hF 6 ?_;refine hF 9 ?_;refine wpAnyH_ready (rs:= [0,10]) (by kernel_rfl) (by simp) ?_;refine AllReadyH.cons (o:=_) rfl (fun K hK=> ?_) (AllReadyH.cons (o:=_) rfl (fun K hK=> ?_) (AllReadyH.nil))
  ·go_simp;refine hK.out _ _ ⟨cf,ct⟩ (fun hHeld=> ?_);clear hK K
   try simp only [Act.put,sa,s0,s1]
   refine wpAnyH_ready (rs:= [10]) (by kernel_rfl) (by simp) ?_;refine AllReadyH.cons (o:=_) rfl (fun K hK=> ?_) (AllReadyH.nil);go_simp;refine hK.out _ _ ⟨(yA _ _ _ (ye cf)).trans cf,(yA _ _ _ (ye ct)).trans ct⟩ (fun hHeld=> ?_);clear hK K
   try simp only [Act.put,sa,s0,s1]
   refine wpAnyH_ready (rs:= [11]) (by kernel_rfl) (by simp) ?_;refine AllReadyH.cons (o:=_) rfl (fun K hK=> ?_) (AllReadyH.nil)
   refine VP rfl (.tmp 7) (.tmp 17) _ rfl base 48 i0 _ 40 underlying41 hi0 hz0 hz1 hz2 rfl (.slice A L c) toks rfl (by first|exact Hown.out.alloc _|exact(Hown.out.alloc _).drew) W.heap.size #[.string (s.extract f x),.int .i64 (L:Int),.int .i64 (f:Int),.int .i64 (x:Int)] ⟨s.extract f x,L,f,x⟩ rfl (by first|exact Blk.new _ _ _|exact(Blk.new _ _ _).drew) (Token.rep_of Htok.out) (by rw [HL.out];omega) (by rw [HL.out];omega) (by simp;omega) ?_
   rw [HL.out];intro A3 c3 w3 ho3 hg3 hb3;obtain⟨bo3,bf3,bt3,hg4,hb4⟩:=Ui _ Hown.out Hf.out Ho.out Ht.out (by decide) (by decide) (by decide) hg3 hb3;have co3:=bo3.cell;have fo3:=bo3.frozen;have cf3:=bf3.cell;have ct3:=bt3.cell;have Bo3:=zA bo3;have Bf3:=zA bf3;have Ho3:=zA ho3;have Hg3:=zA hg4;have Hb3:=zA hb4;clear bo3 bf3 bt3 ho3 hg3 hb3 hg4 hb4;refine hK.out _ _ ⟨cf3,ct3⟩ (fun hHeld=> ?_)
   clear hK K
   try simp only [Act.put,sa,s0,s1]
   refine wpAnyH_ready (rs:= [12]) (by kernel_rfl) (by simp) ?_;refine AllReadyH.cons (o:=_) rfl (fun K hK=> ?_) (AllReadyH.nil);go_simp;refine hK.out _ _ ⟨(Boxed.other Bf3.out hne _).cell,(World.cell?_setCell_other _ _ _ _ (by intro e;cases e;exact htn rfl)).trans ct3⟩ (fun hHeld=> ?_);clear hK K
   try simp only [Act.put,sa,s0,s1]
   refine wpAnyH_done (by kernel_rfl) ?_ _;have bo4:=Bo3.out.set (.slice A3 (L+1) c3);have bf4:=Boxed.other Bf3.out hne (.slice A3 (L+1) c3);have ho4:=ZA Ho3.out (xT w3 ⟨Bo,0,none⟩ (.slice A3 (L+1) c3)) (xy Ho3.out Bo3.out (by decide));have cf4:=bf4.cell;have ff4:=bf4.frozen;have Bo4:=zA bo4;have Bf4:=zA bf4;have Ho4:=zA ho4;clear bo4 bf4 ho4 cf ff co fo ct;go_wp2
   go_end0
   refine⟨rfl,_,Bf4.out.set _,Boxed.other Bo4.out (Ne.symm hne) _,ZA Ho4.out (xT _ _ _) (xy Ho4.out Bf4.out (by decide)),?_,?_⟩
   ·exact((((zE base W).alloc hbase _).trans Hb3.out).setCell (p:=⟨Bo,0,none⟩) hbo _).setCell (p:=⟨Bf,0,none⟩) hbf _
   ·exact(((yT.on _ _ ((zE _ W).alloc (zC _) _)).trans (yT.grown Hg3.out (Qe (Hown.out.alloc _)))).trans (yT.set ⟨Bo,0,none⟩ (by simp) _ _)).trans (yT.set ⟨Bf,0,none⟩ (by simp) _ _)
  ·go_simp;refine hK.out _ _ ⟨(yA _ _ _ (ye cf)).trans cf,(yA _ _ _ (ye ct)).trans ct⟩ (fun hHeld=> ?_);clear hK K
   try simp only [Act.put,sa,s0,s1]
   refine wpAnyH_ready (rs:= [0]) (by kernel_rfl) (by simp) ?_;refine AllReadyH.cons (o:=_) rfl (fun K hK=> ?_) (AllReadyH.nil);have coA:=(yA W (.cells #[.string (s.extract f x),.int .i64 (L:Int),.int .i64 (f:Int),.int .i64 (x:Int)] 48) _ (ye co)).trans co;go_simp;refine hK.out _ _ ⟨(yA _ _ _ (ye cf)).trans cf,(yA _ _ _ (ye ct)).trans ct⟩ (fun hHeld=> ?_);clear hK K
   try simp only [Act.put,sa,s0,s1]
   refine wpAnyH_ready (rs:= [11]) (by kernel_rfl) (by simp) ?_;refine AllReadyH.cons (o:=_) rfl (fun K hK=> ?_) (AllReadyH.nil)
   refine VP rfl (.tmp 7) (.tmp 17) _ rfl base 48 i0 _ 40 underlying41 hi0 hz0 hz1 hz2 rfl (.slice A L c) toks rfl (by first|exact Hown.out.alloc _|exact(Hown.out.alloc _).drew) W.heap.size #[.string (s.extract f x),.int .i64 (L:Int),.int .i64 (f:Int),.int .i64 (x:Int)] ⟨s.extract f x,L,f,x⟩ rfl (by first|exact Blk.new _ _ _|exact(Blk.new _ _ _).drew) (Token.rep_of Htok.out) (by rw [HL.out];omega) (by rw [HL.out];omega) (by simp;omega) ?_
   rw [HL.out];intro A3 c3 w3 ho3 hg3 hb3;obtain⟨bo3,bf3,bt3,hg4,hb4⟩:=Ui _ Hown.out Hf.out Ho.out Ht.out (by decide) (by decide) (by decide) hg3 hb3;have co3:=bo3.cell;have fo3:=bo3.frozen;have cf3:=bf3.cell;have ct3:=bt3.cell;have Bo3:=zA bo3;have Bf3:=zA bf3;have Ho3:=zA ho3;have Hg3:=zA hg4;have Hb3:=zA hb4;clear bo3 bf3 bt3 ho3 hg3 hb3 hg4 hb4;refine hK.out _ _ ⟨cf3,ct3⟩ (fun hHeld=> ?_)
   clear hK K
   try simp only [Act.put,sa,s0,s1]
   refine wpAnyH_ready (rs:= [12]) (by kernel_rfl) (by simp) ?_;refine AllReadyH.cons (o:=_) rfl (fun K hK=> ?_) (AllReadyH.nil);go_simp;refine hK.out _ _ ⟨(Boxed.other Bf3.out hne _).cell,(World.cell?_setCell_other _ _ _ _ (by intro e;cases e;exact htn rfl)).trans ct3⟩ (fun hHeld=> ?_);clear hK K
   try simp only [Act.put,sa,s0,s1]
   refine wpAnyH_done (by kernel_rfl) ?_ _;have bo4:=Bo3.out.set (.slice A3 (L+1) c3);have bf4:=Boxed.other Bf3.out hne (.slice A3 (L+1) c3);have ho4:=ZA Ho3.out (xT w3 ⟨Bo,0,none⟩ (.slice A3 (L+1) c3)) (xy Ho3.out Bo3.out (by decide));have cf4:=bf4.cell;have ff4:=bf4.frozen;have Bo4:=zA bo4;have Bf4:=zA bf4;have Ho4:=zA ho4;clear bo4 bf4 ho4 cf ff co fo ct;go_wp2
   go_end0
   refine⟨rfl,_,Bf4.out.set _,Boxed.other Bo4.out (Ne.symm hne) _,ZA Ho4.out (xT _ _ _) (xy Ho4.out Bf4.out (by decide)),?_,?_⟩
   ·exact((((zE base W).alloc hbase _).trans Hb3.out).setCell (p:=⟨Bo,0,none⟩) hbo _).setCell (p:=⟨Bf,0,none⟩) hbf _
   ·exact(((yT.on _ _ ((zE _ W).alloc (zC _) _)).trans (yT.grown Hg3.out (Qe (Hown.out.alloc _)))).trans (yT.set ⟨Bo,0,none⟩ (by simp) _ _)).trans (yT.set ⟨Bf,0,none⟩ (by simp) _ _)
def OS (k:FuncId) (lb:aG) (p:Int->Bool) (w:O):Prop:=
 (∀(args:aG) (W:O),(callFunc k args).run prog W= .ok (.enter k args) W)/\
 ∀(W:O) (r:Int),Below w.heap.size w W->0<=r->r<=0x10FFFF->Calls prog k (#[.int .i32 r]++lb) W fun e W' =>e= .returned (.bool (p r))/\Below W.heap.size W W'
def RunI (s:aB) (k1 k2:FuncId) (lb1 lb2:aG) (p b:Int->Bool) (w:O) (pre:aE) (W:O):Prop:=
 (∃v,Boxed W (w.heap.size+1+1+1) 41 v/\Own Flat W w.heap.size 48 v (Z7 s p b pre).1)/\Boxed W (w.heap.size+1+1+1+1) 3 (.int .i64 (frI (Z7 s p b pre).2))/\Boxed W (w.heap.size) 9 (.string s)/\Boxed W (w.heap.size+1) 305 (.func (.func k1) #[] lb1)/\Boxed W (w.heap.size+1+1) 305 (.func (.func k2) #[] lb2)/\Boxed W (w.heap.size+1+1+1+1+1) 366 (.func (.func 249) #[] #[.pointer (some ⟨w.heap.size+1+1+1+1,0,none⟩),.pointer (some ⟨w.heap.size+1+1+1,0,none⟩),.pointer (some ⟨w.heap.size,0,none⟩)])/\Below w.heap.size w W/\w.heap.size+7<=W.heap.size
theorem RunI.from_ (s:aB) (k1 k2:FuncId) (lb1 lb2:aG) (p b:Int->Bool) (w:O) (n0:Nat) (hn:w.heap.size<=n0):OwnFrom n0 (RunI s k1 k2 lb1 lb2 p b w):=
 OwnFrom.and (VM _ _ _ _ _ _) (OwnFrom.and (Own.from (boxed_own _ _ _) _) (OwnFrom.and (Own.from (boxed_own _ _ _) _) (OwnFrom.and (Own.from (boxed_own _ _ _) _) (OwnFrom.and (Own.from (boxed_own _ _ _) _) (OwnFrom.and (Own.from (boxed_own _ _ _) _) (OwnFrom.and (ownFrom_below (zC _) hn) (fun _ _ _ _ hs hg _=>zY hs hg.size)))))))
theorem RunI.on {s:aB} {k1 k2:FuncId} {lb1 lb2:aG} {p b:Int->Bool} {w:O} {pre:aE} {W W' :O} (h:RunI s k1 k2 lb1 lb2 p b w pre W) (hb:Below W.heap.size W W'):RunI s k1 k2 lb1 lb2 p b w pre W' :=
 RunI.from_ s k1 k2 lb1 lb2 p b w _ (zC _) pre W W' none h (Below.grownBy' hb) (fun _ e=>by cases e)
theorem RunI.parts {s:aB} {k1 k2:FuncId} {lb1 lb2:aG} {p b:Int->Bool} {w:O} {pre:aE} {W:O} {toks:List Token} {fr:Option Nat} (h:RunI s k1 k2 lb1 lb2 p b w pre W) (hst:Z7 s p b pre=(toks,fr)):
 ∃A c,Boxed W (w.heap.size+1+1+1) 41 (.slice A toks.length c)/\Own Flat W w.heap.size 48 (.slice A toks.length c) toks/\Boxed W (w.heap.size+1+1+1+1) 3 (.int .i64 (frI fr))/\Boxed W (w.heap.size) 9 (.string s)/\Boxed W (w.heap.size+1) 305 (.func (.func k1) #[] lb1)/\Boxed W (w.heap.size+1+1) 305 (.func (.func k2) #[] lb2)/\Boxed W (w.heap.size+1+1+1+1+1) 366 (.func (.func 249) #[] #[.pointer (some ⟨w.heap.size+1+1+1+1,0,none⟩),.pointer (some ⟨w.heap.size+1+1+1,0,none⟩),.pointer (some ⟨w.heap.size,0,none⟩)])/\Below w.heap.size w W/\w.heap.size+7<=W.heap.size:=by
 obtain⟨⟨v,h1,h2⟩,h3,h4,h5,h6,h7,h8,h9⟩:=h;rw [hst]at h2 h3;obtain⟨A,c,rfl⟩:=h2.form;exact⟨A,c,h1,h2,h3,h4,h5,h6,h7,h8,h9⟩
theorem RunI.finish {s:aB} {k1 k2:FuncId} {lb1 lb2:aG} {p b:Int->Bool} {w:O} {pre:aE} {x:Nat} {W w3 W' :O} {toks:List Token} {fr:Option Nat} (n:Nat) (hI:RunI s k1 k2 lb1 lb2 p b w pre W) (hb3:Below W.heap.size W w3) (hk:yT [w.heap.size+1+1+1+1,w.heap.size+1+1+1] 48 w3 W') (hb:Below w.heap.size w3 W')
 (hst:Z7 s p b (pre++ [x])=(toks,fr)) (ho:∃v,Boxed W' (w.heap.size+1+1+1) 41 v/\Own Flat W' w.heap.size 48 v toks) (hf:Boxed W' (w.heap.size+1+1+1+1) 3 (.int .i64 (frI fr))):
 KeepsFrom n W W' /\YS w.heap.size (w.heap.size+1+1+1+1+1+1) W W' /\RunI s k1 k2 lb1 lb2 p b w (pre++ [x]) W' :=by
 have hI3:=hI.on hb3;have hI4:=hI3;obtain⟨⟨v,h1,h2⟩,h3,h4,h5,h6,h7,h8,h9⟩:=hI3;have hB:Below w.heap.size W W' :=(hb3.mono (by have:=hI.2.2.2.2.2.2.2;omega)).trans hb;refine⟨((Below.grownBy' hb3|>fun hg=>KeepsOthers.of_grownBy hg (fun _ _ e _=>by cases e)).trans (hk.others (fun r hr=> ?_))).from _,⟨hB,fun u hu=>hk.box (Boxed.on hu hb3) (by simp;omega) (by decide)⟩,?_⟩
 ·simp only [yx,xZ,or_false]at hr;rcases hr with rfl|rfl
  ·exact⟨_,_,h3⟩
  ·exact⟨_,_,h1⟩
 ·rw [RunI,hst];exact⟨ho,hf,hk.box h4 (by first|(simp;done)|(simp;omega)) (by decide),hk.box h5 (by first|(simp;done)|(simp;omega)) (by decide),hk.box h6 (by first|(simp;done)|(simp;omega)) (by decide),hk.box h7 (by first|(simp;done)|(simp;omega)) (by decide),h8.trans hb,zY h9 hk.1⟩
theorem dM (s:aB) (hs:s.size<=1000000000) (k1 k2:FuncId) (lb1 lb2:aG) (p b:Int->Bool) (w:O) (hT:Tabs w) (h1:OS k1 lb1 p w) (h2:OS k2 lb2 b w):
 Calls prog 181 #[.string s,.func (.func k1) #[] lb1,.func (.func k2) #[] lb2] w fun e w' =>∃v,e= .returned v/\Own Flat w' w.heap.size 48 v (Xm s p b)/\Below w.heap.size w w' :=by
 have hal:=Qn s;have hmf:=@mF prog;obtain⟨e1,hp⟩:=h1;obtain⟨e2,hb⟩:=h2;have Hp:=zA hp;have Hb:=zA hb;have HT:=zA hT;clear hp hb hT;refine(callsIn_wide (n:=6)).1 ?_;refine callsIn_of_wp_marks func181 rfl trivial ?_ rfl;simp only [ntmps181,yP,z6,yO,Nat.reduceAdd,Nat.reduceSub,xI,xH,xf,xM,zZ,yI]
 gi_wp2_with (refine⟨trivial,?_⟩;gi_at_call 250;refine(callsIn_wide.2 (U2 s _)).mono ?_;rintro e w2 ⟨rfl,rfl⟩)
 have bT:=((((((Boxed.new (w) 9 (.string s)).alloc (.cells #[.func (.func k1) #[] lb1] 305)).alloc (.cells #[.func (.func k2) #[] lb2] 305)).alloc (.cells #[.slice none 0 0] 41)).alloc (.cells #[.int .i64 (-1)] 3)).alloc (.cells #[.func (.func 249) #[] #[.pointer (some ⟨w.heap.size+1+1+1+1,0,none⟩),.pointer (some ⟨w.heap.size+1+1+1,0,none⟩),.pointer (some ⟨w.heap.size,0,none⟩)]] 366)).alloc (.cells #[.string s] 9)
 have bM:=(((((Boxed.new ((w).alloc (.cells #[.string s] 9)) 305 (.func (.func k1) #[] lb1)).alloc (.cells #[.func (.func k2) #[] lb2] 305)).alloc (.cells #[.slice none 0 0] 41)).alloc (.cells #[.int .i64 (-1)] 3)).alloc (.cells #[.func (.func 249) #[] #[.pointer (some ⟨w.heap.size+1+1+1+1,0,none⟩),.pointer (some ⟨w.heap.size+1+1+1,0,none⟩),.pointer (some ⟨w.heap.size,0,none⟩)]] 366)).alloc (.cells #[.string s] 9)
 have bB:=((((Boxed.new (((w).alloc (.cells #[.string s] 9)).alloc (.cells #[.func (.func k1) #[] lb1] 305)) 305 (.func (.func k2) #[] lb2)).alloc (.cells #[.slice none 0 0] 41)).alloc (.cells #[.int .i64 (-1)] 3)).alloc (.cells #[.func (.func 249) #[] #[.pointer (some ⟨w.heap.size+1+1+1+1,0,none⟩),.pointer (some ⟨w.heap.size+1+1+1,0,none⟩),.pointer (some ⟨w.heap.size,0,none⟩)]] 366)).alloc (.cells #[.string s] 9)
 have bO:=(((Boxed.new ((((w).alloc (.cells #[.string s] 9)).alloc (.cells #[.func (.func k1) #[] lb1] 305)).alloc (.cells #[.func (.func k2) #[] lb2] 305)) 41 (.slice none 0 0)).alloc (.cells #[.int .i64 (-1)] 3)).alloc (.cells #[.func (.func 249) #[] #[.pointer (some ⟨w.heap.size+1+1+1+1,0,none⟩),.pointer (some ⟨w.heap.size+1+1+1,0,none⟩),.pointer (some ⟨w.heap.size,0,none⟩)]] 366)).alloc (.cells #[.string s] 9)
 have bF:=((Boxed.new (((((w).alloc (.cells #[.string s] 9)).alloc (.cells #[.func (.func k1) #[] lb1] 305)).alloc (.cells #[.func (.func k2) #[] lb2] 305)).alloc (.cells #[.slice none 0 0] 41)) 3 (.int .i64 (-1))).alloc (.cells #[.func (.func 249) #[] #[.pointer (some ⟨w.heap.size+1+1+1+1,0,none⟩),.pointer (some ⟨w.heap.size+1+1+1,0,none⟩),.pointer (some ⟨w.heap.size,0,none⟩)]] 366)).alloc (.cells #[.string s] 9)
 have bE:=(Boxed.new ((((((w).alloc (.cells #[.string s] 9)).alloc (.cells #[.func (.func k1) #[] lb1] 305)).alloc (.cells #[.func (.func k2) #[] lb2] 305)).alloc (.cells #[.slice none 0 0] 41)).alloc (.cells #[.int .i64 (-1)] 3)) 366 (.func (.func 249) #[] #[.pointer (some ⟨w.heap.size+1+1+1+1,0,none⟩),.pointer (some ⟨w.heap.size+1+1+1,0,none⟩),.pointer (some ⟨w.heap.size,0,none⟩)])).alloc (.cells #[.string s] 9)
 have bR:=Boxed.new (((((((w).alloc (.cells #[.string s] 9)).alloc (.cells #[.func (.func k1) #[] lb1] 305)).alloc (.cells #[.func (.func k2) #[] lb2] 305)).alloc (.cells #[.slice none 0 0] 41)).alloc (.cells #[.int .i64 (-1)] 3)).alloc (.cells #[.func (.func 249) #[] #[.pointer (some ⟨w.heap.size+1+1+1+1,0,none⟩),.pointer (some ⟨w.heap.size+1+1+1,0,none⟩),.pointer (some ⟨w.heap.size,0,none⟩)]] 366)) 9 (.string s)
 simp only [World.size_alloc]at bT bM bB bO bF bE bR
 have hB0:Below w.heap.size w ((((((((w).alloc (.cells #[.string s] 9)).alloc (.cells #[.func (.func k1) #[] lb1] 305)).alloc (.cells #[.func (.func k2) #[] lb2] 305)).alloc (.cells #[.slice none 0 0] 41)).alloc (.cells #[.int .i64 (-1)] 3)).alloc (.cells #[.func (.func 249) #[] #[.pointer (some ⟨w.heap.size+1+1+1+1,0,none⟩),.pointer (some ⟨w.heap.size+1+1+1,0,none⟩),.pointer (some ⟨w.heap.size,0,none⟩)]] 366)).alloc (.cells #[.string s] 9)):=(((((((zE _ w).alloc (zC _) _).alloc (by simp<;>omega) _).alloc (by simp<;>omega) _).alloc (by simp<;>omega) _).alloc (by simp<;>omega) _).alloc (by simp<;>omega) _).alloc (by simp<;>omega) _
 have hsz:((((((((w).alloc (.cells #[.string s] 9)).alloc (.cells #[.func (.func k1) #[] lb1] 305)).alloc (.cells #[.func (.func k2) #[] lb2] 305)).alloc (.cells #[.slice none 0 0] 41)).alloc (.cells #[.int .i64 (-1)] 3)).alloc (.cells #[.func (.func 249) #[] #[.pointer (some ⟨w.heap.size+1+1+1+1,0,none⟩),.pointer (some ⟨w.heap.size+1+1+1,0,none⟩),.pointer (some ⟨w.heap.size,0,none⟩)]] 366)).alloc (.cells #[.string s] 9)).heap.size=w.heap.size+7:=by simp
 obtain⟨W0,hW0⟩:=eX ((((((((w).alloc (.cells #[.string s] 9)).alloc (.cells #[.func (.func k1) #[] lb1] 305)).alloc (.cells #[.func (.func k2) #[] lb2] 305)).alloc (.cells #[.slice none 0 0] 41)).alloc (.cells #[.int .i64 (-1)] 3)).alloc (.cells #[.func (.func 249) #[] #[.pointer (some ⟨w.heap.size+1+1+1+1,0,none⟩),.pointer (some ⟨w.heap.size+1+1+1,0,none⟩),.pointer (some ⟨w.heap.size,0,none⟩)]] 366)).alloc (.cells #[.string s] 9))
 rw [hW0]at bT bM bB bO bF bE bR hB0 hsz⊢;clear hW0;have hI0:RunI s k1 k2 lb1 lb2 p b w [] W0:=⟨⟨_,bO,Own.nil _ _ _ _⟩,bF,bT,bM,bB,bE,hB0,by omega⟩
 refine YX (n:=6) (F:=Fence.wide) rfl (by omega) (gf:=294) (lb:= #[.pointer (some ⟨w.heap.size+1+1+1+1+1+1,0,none⟩)]) rfl trivial (enters_of func294 (by kernel_rfl) rfl)
  (WF w.heap.size (w.heap.size+1+1+1+1+1+1) s (by omega) w HT.out rfl (6 - 1) (by omega) W0 hB0 bR) YS.trans (YS.putObj hB0.size) (zE _ _) (fun _=>rfl)
  (RunI s k1 k2 lb1 lb2 p b w)
  (fun _ _ _=>False)
  (RunI.from_ s k1 k2 lb1 lb2 p b w _ hB0.size)
  (fun _ _ _ _ _ hs _ _=>hs)
  hI0
  (fun x a' _=>a' ={tmps:= #[.string s,.func (.func k1) #[] lb1,.func (.func k2) #[] lb2,.pointer (some ⟨w.heap.size,0,none⟩),.pointer (some ⟨w.heap.size+1,0,none⟩),.pointer (some ⟨w.heap.size+1+1,0,none⟩),.slice none 0 0,.pointer (some ⟨w.heap.size+1+1+1,0,none⟩),.pointer (some ⟨w.heap.size+1+1+1+1,0,none⟩),.pointer (some ⟨w.heap.size+1+1+1+1+1,0,none⟩),.int .i64 x,.int .i32 (rn s x),(.func (.func 249) #[] #[.pointer (some ⟨w.heap.size+1+1+1+1,0,none⟩),.pointer (some ⟨w.heap.size+1+1+1,0,none⟩),.pointer (some ⟨w.heap.size,0,none⟩)]),.string s,.func (.func 294) #[] #[.pointer (some ⟨w.heap.size+1+1+1+1+1+1,0,none⟩)],.int .i64 x,.int .i32 (rn s x),undef,undef,undef,undef,undef,undef,undef,undef,undef,undef,undef,undef,undef,undef,undef,undef,undef,undef,undef,undef,undef,undef],defers:= []})
  (fun x a' _ X Y row hs hg hr=>hs)
  ?assign ?body ?done ?stop
 case assign=>
  rintro l pre x W K hI hK;simp only [Wh]at hK⊢
  gi_wp2
  exact hK _ _ ((KeepsOthers.refl _).from _) ⟨zE _ W,fun _ h=>h⟩ hI rfl
 case body=>
  rintro l pre x a' W hl ⟨r,hr⟩ hI rfl hok;have hx:x<s.size:=V5 (hok.subset (by simp))
  have hpl:pre.length<=s.size:=by
   have h1:=hok.length_le;simp at h1;omega
  have hrn:=qJ s x;have hsn:=X2 s p b pre x;have hlen:=U3 s p b pre;have hmem:=Wi s p b pre;have hbef:=kD hok;have hB:=hI.2.2.2.2.2.2.1;have cM:=hI.2.2.2.1.cell;have HI:=zA hI;have HB:=zA hB;have hS:w.heap.size+7<=W.heap.size:=hI.2.2.2.2.2.2.2;obtain⟨toks,fr,hst⟩:∃toks fr,Z7 s p b pre=(toks,fr):=⟨_,_,rfl⟩;rw [hst]at hsn hlen hmem;have hmem' :∀f,fr=some f->f<x:=fun f h=>hbef f (hmem f h)
  have Hst:=zA hst;have Hsn:=zA hsn;have Hmem:=zA hmem';simp only at hlen;clear hI hB hok hr hst hsn hmem hmem' hbef bT bM bB bO bF bE bR hI0;have hn1:1<=6 - 1 - 1:=(by omega);rcases hpv:p (rn s x:Int)with _|_
  ·have Hpv:=zA hpv;have hfin:Z6 s p b (toks,fr) x=(QF s toks fr x,none):=(by simp [Z6,hpv]);have Hfin:=zA hfin;clear hpv hfin;cases fr with
   |none=>
    gi_wp2_with fail
    refine⟨trivial,?_⟩;refine(yU l (callsIn_wide.2 (Hp.out W (rn s x:Int) HB.out (by omega) (by omega)))).mono ?_;rw [Hpv.out];rintro e w3 ⟨rfl,hb3⟩;have hI3:=HI.out.on hb3;obtain⟨A3,c3,bO,oO,bF,bT,bM,bB,bE,hB3,hS3⟩:=hI3.parts Hst.out;rw [show frI none= -1 from rfl]at bF;have cF:=bF.cell;have fF:=bF.frozen;have cE:=bE.cell;have cB:=bB.cell;have Hb3:=zA hb3;have HI3:=zA hI3;have BO3:=zA bO
    have BF3:=zA bF;have BT3:=zA bT;have BM3:=zA bM;have BB3:=zA bB;have BE3:=zA bE;have OO3:=zA oO;have HB3:=zA hB3;clear hb3 hI3 bO oO bF bT bM bB bE hB3
    gi_wp2_with fail
    refine⟨trivial,?_⟩;refine(yU l (callsIn_wide.2 (nU (x:Int) _ _ _ _ BF3.out))).mono ?_;rintro e w4 ⟨rfl,rfl⟩
    gi_wp2
    exact RunI.finish _ HI.out Hb3.out (yT.set ⟨w.heap.size+1+1+1+1,0,none⟩ (by simp) _ _) ((zE _ w3).setCell (p:=⟨w.heap.size+1+1+1+1,0,none⟩) (by simp;omega) _) (Hsn.out.trans Hfin.out) ⟨_,Boxed.other BO3.out (by omega) _,ZA OO3.out (xT _ _ _) (xy OO3.out BF3.out (by decide))⟩ (BF3.out.set _)
   |some f=>
    have hfx:=Hmem.out f rfl
    gi_wp2_with fail
    refine⟨trivial,?_⟩;refine(yU l (callsIn_wide.2 (Hp.out W (rn s x:Int) HB.out (by omega) (by omega)))).mono ?_;rw [Hpv.out];rintro e w3 ⟨rfl,hb3⟩;have hI3:=HI.out.on hb3;obtain⟨A3,c3,bO,oO,bF,bT,bM,bB,bE,hB3,hS3⟩:=hI3.parts Hst.out;rw [show frI (some f)=(f:Int)from rfl]at bF;have cF:=bF.cell;have fF:=bF.frozen;have cE:=bE.cell;have cB:=bB.cell;have Hb3:=zA hb3;have HI3:=zA hI3
    have BO3:=zA bO;have BF3:=zA bF;have BT3:=zA bT;have BM3:=zA bM;have BB3:=zA bB;have BE3:=zA bE;have OO3:=zA oO;have HB3:=zA hB3;clear hb3 hI3 bO oO bF bT bM bB bE hB3
    gi_wp2_with fail
    refine⟨trivial,?_⟩;refine(yU l (callsIn_wide.2 (nT s x f (by omega) (by omega) (by omega) toks w.heap.size _ _ _ _ w3 (by omega) (by omega) (by omega) (by omega) BF3.out BO3.out BT3.out OO3.out (by omega)))).mono ?_;rintro e w4 ⟨rfl,v4,f4,o4,ow4,b4,kb4⟩
    gi_wp2
    exact RunI.finish _ HI.out Hb3.out kb4 b4 (Hsn.out.trans Hfin.out) ⟨_,o4,ow4⟩ f4
  ·have Hpv:=zA hpv;cases fr with
   |none=>
    rcases hbv:b (rn s x:Int)with _|_
    ·have Hbv:=zA hbv;have hfin:Z6 s p b (toks,none) x=(toks,none):=(by simp [Z6,hpv,hbv]);have Hfin:=zA hfin;clear hpv hbv hfin
     gi_wp2_with fail
     refine⟨trivial,?_⟩;refine(yU l (callsIn_wide.2 (Hp.out W (rn s x:Int) HB.out (by omega) (by omega)))).mono ?_;rw [Hpv.out];rintro e w3 ⟨rfl,hb3⟩;have hI3:=HI.out.on hb3;obtain⟨A3,c3,bO,oO,bF,bT,bM,bB,bE,hB3,hS3⟩:=hI3.parts Hst.out;rw [show frI none= -1 from rfl]at bF;have cF:=bF.cell;have fF:=bF.frozen;have cE:=bE.cell;have cB:=bB.cell;have Hb3:=zA hb3;have HI3:=zA hI3;have BO3:=zA bO
     have BF3:=zA bF;have BT3:=zA bT;have BM3:=zA bM;have BB3:=zA bB;have BE3:=zA bE;have OO3:=zA oO;have HB3:=zA hB3;clear hb3 hI3 bO oO bF bT bM bB bE hB3
     gi_wp2_with fail
     refine⟨trivial,?_⟩;refine(yU l (callsIn_wide.2 (Hb.out w3 (rn s x:Int) HB3.out (by omega) (by omega)))).mono ?_;rw [Hbv.out];rintro e w4 ⟨rfl,hb3⟩;have hI3:=HI3.out.on hb3;obtain⟨A4,c4,bO,oO,bF,bT,bM,bB,bE,hB3,hS4⟩:=hI3.parts Hst.out;rw [show frI none= -1 from rfl]at bF;have cF:=bF.cell;have fF:=bF.frozen;have cE:=bE.cell;have cB:=bB.cell;have Hb4:=zA hb3;have HI4:=zA hI3;have BO4:=zA bO
     have BF4:=zA bF;have BT4:=zA bT;have BM4:=zA bM;have BB4:=zA bB;have BE4:=zA bE;have OO4:=zA oO;have HB4:=zA hB3;clear hb3 hI3 bO oO bF bT bM bB bE hB3
     gi_wp2
     exact RunI.finish _ HI.out (Hb3.out.trans (Hb4.out.mono Hb3.out.size)) (yT.refl _ _ _) (zE _ _) (Hsn.out.trans Hfin.out) ⟨_,BO4.out,OO4.out⟩ BF4.out
    ·have Hbv:=zA hbv;have hfin:Z6 s p b (toks,none) x=(toks,some x):=(by simp [Z6,hpv,hbv]);have Hfin:=zA hfin;clear hpv hbv hfin
     gi_wp2_with fail
     refine⟨trivial,?_⟩;refine(yU l (callsIn_wide.2 (Hp.out W (rn s x:Int) HB.out (by omega) (by omega)))).mono ?_;rw [Hpv.out];rintro e w3 ⟨rfl,hb3⟩;have hI3:=HI.out.on hb3;obtain⟨A3,c3,bO,oO,bF,bT,bM,bB,bE,hB3,hS3⟩:=hI3.parts Hst.out;rw [show frI none= -1 from rfl]at bF;have cF:=bF.cell;have fF:=bF.frozen;have cE:=bE.cell;have cB:=bB.cell;have Hb3:=zA hb3;have HI3:=zA hI3;have BO3:=zA bO
     have BF3:=zA bF;have BT3:=zA bT;have BM3:=zA bM;have BB3:=zA bB;have BE3:=zA bE;have OO3:=zA oO;have HB3:=zA hB3;clear hb3 hI3 bO oO bF bT bM bB bE hB3
     gi_wp2_with fail
     refine⟨trivial,?_⟩;refine(yU l (callsIn_wide.2 (Hb.out w3 (rn s x:Int) HB3.out (by omega) (by omega)))).mono ?_;rw [Hbv.out];rintro e w4 ⟨rfl,hb3⟩;have hI3:=HI3.out.on hb3;obtain⟨A4,c4,bO,oO,bF,bT,bM,bB,bE,hB3,hS4⟩:=hI3.parts Hst.out;rw [show frI none= -1 from rfl]at bF;have cF:=bF.cell;have fF:=bF.frozen;have cE:=bE.cell;have cB:=bB.cell;have Hb4:=zA hb3;have HI4:=zA hI3;have BO4:=zA bO
     have BF4:=zA bF;have BT4:=zA bT;have BM4:=zA bM;have BB4:=zA bB;have BE4:=zA bE;have OO4:=zA oO;have HB4:=zA hB3;clear hb3 hI3 bO oO bF bT bM bB bE hB3
     gi_wp2
     exact RunI.finish _ HI.out (Hb3.out.trans (Hb4.out.mono Hb3.out.size)) (yT.set ⟨w.heap.size+1+1+1+1,0,none⟩ (by simp) _ _) ((zE _ w4).setCell (p:=⟨w.heap.size+1+1+1+1,0,none⟩) (by simp;omega) _) (Hsn.out.trans Hfin.out) ⟨_,Boxed.other BO4.out (by omega) _,ZA OO4.out (xT _ _ _) (xy OO4.out BF4.out (by decide))⟩ (BF4.out.set _)
   |some f=>
    have hfx:=Hmem.out f rfl;have hf0:decide ((f:Int)<0)=false:=(by simp);have hfin:Z6 s p b (toks,some f) x=(toks,some f):=(by simp [Z6,hpv]);have Hfin:=zA hfin;clear hpv hfin
    gi_wp2_with fail
    refine⟨trivial,?_⟩;refine(yU l (callsIn_wide.2 (Hp.out W (rn s x:Int) HB.out (by omega) (by omega)))).mono ?_;rw [Hpv.out];rintro e w3 ⟨rfl,hb3⟩;have hI3:=HI.out.on hb3;obtain⟨A3,c3,bO,oO,bF,bT,bM,bB,bE,hB3,hS3⟩:=hI3.parts Hst.out;rw [show frI (some f)=(f:Int)from rfl]at bF;have cF:=bF.cell;have fF:=bF.frozen;have cE:=bE.cell;have cB:=bB.cell;have Hb3:=zA hb3;have HI3:=zA hI3
    have BO3:=zA bO;have BF3:=zA bF;have BT3:=zA bT;have BM3:=zA bM;have BB3:=zA bB;have BE3:=zA bE;have OO3:=zA oO;have HB3:=zA hB3;clear hb3 hI3 bO oO bF bT bM bB bE hB3
    gi_wp2
    refine⟨fun _ h=>(by cases h),?_⟩
    gi_wp2
    exact RunI.finish _ HI.out Hb3.out (yT.refl _ _ _) (zE _ _) (Hsn.out.trans Hfin.out) ⟨_,BO3.out,OO3.out⟩ BF3.out
 case done=>
  rintro D ys W hD rfl hI hK;have hlen:=U3 s p b (ats s);have hmem:=Wi s p b (ats s);obtain⟨toks,fr,hst⟩:∃toks fr,Z7 s p b (ats s)=(toks,fr):=⟨_,_,rfl⟩;have hfin:Xm s p b=QF s toks fr s.size:=(by unfold Xm;rw [hst]);rw [hst]at hlen hmem;obtain⟨A3,c3,bO,oO,bF,bT,bM,bB,bE,hB3,hS3⟩:=hI.parts hst;have cE:=bE.cell;have cT:=bT.cell;have HI:=zA hI;have BO:=zA bO;have BF:=zA bF;have BT:=zA bT
  have BE:=zA bE;have OO:=zA oO;have HB3:=zA hB3;have HK:=zA hK;have Hfin:=zA hfin;have Hmem:Hid (∀f,fr=some f->f<s.size):=fun f h=>V5 (hmem f h);simp only at hlen;clear hI bO bF bM bB bE oO hB3 hK hst hfin hmem bR hI0 hB0;cases fr with
  |none=>
   gi_wp2_with fail
   refine⟨trivial,?_⟩;refine(callsIn_wide.2 (nU (s.size:Int) _ _ _ _ BF.out)).mono ?_;rintro e w4 ⟨rfl,rfl⟩;have cO:=(Boxed.other BO.out (show w.heap.size+1+1+1≠w.heap.size+1+1+1+1 by omega) (.int .i64 (-1))).cell;have oO:=ZA OO.out (xT W ⟨w.heap.size+1+1+1+1,0,none⟩ (.int .i64 (-1))) (xy OO.out BF.out (by decide))
   have hk4:=(yT.set (e:=48) (bs:= [w.heap.size+1+1+1+1]) ⟨w.heap.size+1+1+1+1,0,none⟩ (by simp) (.int .i64 (-1)) W).2 D _ HK.out (by
    intro hm;simp only [yx,xZ,or_false]at hm;subst hm;have:=HK.out;rw [show W.heap[_]? =_ from BF.out]at this;cases this) (fun c fz e=>by cases e)
   have hb4:Below w.heap.size w (W.setCell ⟨w.heap.size+1+1+1+1,0,none⟩ (.int .i64 (-1))):=HB3.out.setCell (p:=⟨w.heap.size+1+1+1+1,0,none⟩) (by simp;omega) _;have OO4:=zA oO;have HK4:=zA hk4;have Hb4:=zA hb4;clear oO hk4 hb4
   gi_wp2
   refine⟨by simp,.inl ⟨_,_,rfl,run_takeDeferred HK4.out,?_⟩⟩;refine⟨_,results_tmp rfl _ _ _,_,rfl,?_,Hb4.out.trans (belowK_b (w:=w) (zC _) _ D _ _ (by omega) HK4.out rfl rfl)⟩;rw [Hfin.out];exact ZA OO4.out (grownBy_putObj' _ D (.deferred none)) (XM OO4.out (fun r e=>by cases e;exact⟨_,HK4.out,rfl⟩))
  |some f=>
   have hfx:=Hmem.out f rfl
   gi_wp2_with fail
   refine⟨trivial,?_⟩;refine(callsIn_wide.2 (nT s s.size f (by omega) (by omega) (by omega) toks w.heap.size _ _ _ _ W (by omega) (by omega) (by omega) (by omega) BF.out BO.out BT.out OO.out (by omega))).mono ?_;rintro e w4 ⟨rfl,v4,f4,o4,ow4,b4,kb4⟩;obtain⟨A4,c4,rfl⟩:=ow4.form;rw [show(toks++ [(⟨s.extract f s.size,toks.length,f,s.size⟩:Token)]).length=toks.length+1 by simp]at ow4 o4
   have cO:=o4.cell
   have hk4:=kb4.2 D _ HK.out (by
    intro hm;simp only [yx,xZ,or_false]at hm;have:=HK.out;rcases hm with rfl|rfl
    ·rw [show W.heap[_]? =_ from BF.out]at this;cases this
    ·rw [show W.heap[_]? =_ from BO.out]at this;cases this) (fun c fz e=>by cases e)
   have OO4:=zA ow4;have HK4:=zA hk4;have Hb4:=zA (HB3.out.trans b4);clear f4 o4 ow4 b4 kb4 hk4
   gi_wp2
   refine⟨by simp,.inl ⟨_,_,rfl,run_takeDeferred HK4.out,?_⟩⟩;refine⟨_,results_tmp rfl _ _ _,_,rfl,?_,Hb4.out.trans (belowK_b (w:=w) (zC _) _ D _ _ (by omega) HK4.out rfl rfl)⟩;rw [Hfin.out];exact ZA OO4.out (grownBy_putObj' _ D (.deferred none)) (XM OO4.out (fun r e=>by cases e;exact⟨_,HK4.out,rfl⟩))
 case stop=>
  rintro D c pre W _ _ h _;exact h.elim
def VA (r:Int):Bool:=Wo r||bZ r
def Yq (r:Int):Bool:=VA r||aQ r
def Y0 (r:Int):Bool:= !Uq r
theorem X1 {w w' :O} (h:w=w'):Below w.heap.size w w' :=by subst h;exact zE _ _
theorem Qh (r:Int) (w:O):Calls prog 244 #[.int .i32 r] w fun e w' =>e= .returned (.bool (VA r))/\w=w' :=by
 unfold VA;rcases hl:Wo r with _|_
 ·have Hl:=zA hl;clear hl;go_enter func244,ntmps244
  go_wp2_with (first
   |(go_at_call 245;go_must (refine(jP r _).mono ?_);rw [Hl.out];rintro e w' ⟨rfl,rfl⟩)
   |(go_at_call 246;go_must (refine(FK r _).mono ?_);rintro e w' ⟨rfl,rfl⟩))
  go_ret
  exact⟨rfl,rfl⟩
 ·have Hl:=zA hl;clear hl;go_enter func244,ntmps244;go_wp2_with (go_at_call 245;go_must (refine(jP r _).mono ?_);rw [Hl.out];rintro e w' ⟨rfl,rfl⟩);go_ret
  exact⟨rfl,rfl⟩
theorem sS (r:Int) (B:Nat) (w:O) (hb:Boxed w B 305 (.func (.func 244) #[] #[])):Calls prog 247 #[.int .i32 r,.pointer (some ⟨B,0,none⟩)] w fun e w' =>e= .returned (.bool (Yq r))/\w=w' :=by
 have cb:=hb.cell;clear hb;unfold Yq;rcases hl:VA r with _|_
 ·have Hl:=zA hl;clear hl;go_enter func247,ntmps247
  go_wp2_with (first
   |(go_at_call 244;go_must (refine(Qh r _).mono ?_);rw [Hl.out];rintro e w' ⟨rfl,rfl⟩)
   |(go_at_call 248;go_must (refine(dU r _).mono ?_);rintro e w' ⟨rfl,rfl⟩))
  go_ret
  exact⟨rfl,rfl⟩
 ·have Hl:=zA hl;clear hl;go_enter func247,ntmps247;go_wp2_with (go_at_call 244;go_must (refine(Qh r _).mono ?_);rw [Hl.out];rintro e w' ⟨rfl,rfl⟩);go_ret
  exact⟨rfl,rfl⟩
theorem tR (r:Int) (w:O):Calls prog 179 #[.int .i32 r] w fun e w' =>e= .returned (.bool (Y0 r))/\w=w' :=by
 unfold Y0;rcases hl:Uq r with _|_
 all_goals
  have Hl:=zA hl;clear hl;go_enter func179,ntmps179;go_wp2_with (go_at_call 180;go_must (refine(GA r _).mono ?_);rw [Hl.out];rintro e w' ⟨rfl,rfl⟩);go_ret
  exact⟨rfl,rfl⟩
theorem tQ (r:Int) (w:O):Calls prog 182 #[.int .i32 r] w fun e w' =>e= .returned (.bool true)/\w=w' :=by
 go_enter func182,ntmps182;go_wp2;go_ret
 exact⟨rfl,rfl⟩
theorem tP (r:Int) (w:O):Calls prog 183 #[.int .i32 r] w fun e w' =>e= .returned (.bool true)/\w=w' :=by
 go_enter func183,ntmps183;go_wp2;go_ret
 exact⟨rfl,rfl⟩
theorem kE (w:O):OS 179 #[] Y0 w:=
 ⟨Go.Proofs.enters_of func179 (by kernel_rfl) rfl,fun W r _ _ _=>(tR r W).mono fun _ _ ⟨h,k⟩=>⟨h,X1 k⟩⟩
theorem GM (w:O):OS 182 #[] (fun _=>true) w:=
 ⟨Go.Proofs.enters_of func182 (by kernel_rfl) rfl,fun W r _ _ _=>(tQ r W).mono fun _ _ ⟨h,k⟩=>⟨h,X1 k⟩⟩
theorem GK (w:O):OS 183 #[] (fun _=>true) w:=
 ⟨Go.Proofs.enters_of func183 (by kernel_rfl) rfl,fun W r _ _ _=>(tP r W).mono fun _ _ ⟨h,k⟩=>⟨h,X1 k⟩⟩
theorem GI (w:O):OS 244 #[] VA w:=
 ⟨Go.Proofs.enters_of func244 (by kernel_rfl) rfl,fun W r _ _ _=>(Qh r W).mono fun _ _ ⟨h,k⟩=>⟨h,X1 k⟩⟩
theorem GJ (w:O) (B:Nat) (hb:Boxed w B 305 (.func (.func 244) #[] #[])):OS 247 #[.pointer (some ⟨B,0,none⟩)] Yq w:=
 ⟨Go.Proofs.enters_of func247 (by kernel_rfl) rfl,fun W r h _ _=>(sS r B W (Boxed.on hb h)).mono fun _ _ ⟨h,k⟩=>⟨h,X1 k⟩⟩
def Xb (s:aB):List Token:=Xm s Yq VA
theorem gZ (s:aB) (hs:s.size<=1000000000) (w:O) (hT:Tabs w):
 Calls prog 178 #[.string s] w fun e w' =>∃v,e= .returned v/\Own Flat w' w.heap.size 48 v (Xb s)/\Below w.heap.size w w' :=by
 have hmf:=@mF prog;have HT:=zA hT;clear hT;go_enter func178,ntmps178;go_wp2_with fail;have b0:=Boxed.new w 305 (.func (.func 244) #[] #[]);have hb0:Below w.heap.size w (w.alloc (.cells #[.func (.func 244) #[] #[]] 305)):=(zE _ _).alloc (zC _) _;refine(dM s hs _ _ _ _ Yq VA _ (HT.out.on hb0) (GJ _ _ b0) (GI _)).mono ?_;rintro e w1 ⟨v,rfl,ho,hb1⟩;have Ho:=zA (ho.mono (zY (zC _) hb0.size))
 have Hb:=zA (hb0.trans (hb1.mono hb0.size));clear ho hb1 hb0 b0;go_wp2;go_ret
 exact⟨_,rfl,Ho.out,Hb.out⟩
def dQ (t:Token) (p:aE) (n:Nat) (len i:Nat):Token:=⟨t.text.extract (p[i]?.getD 0) (p[i+n]?.getD 0),len,t.from_+(p[i]?.getD 0),t.from_+(p[i+n]?.getD 0)⟩
def ZX (t:Token) (p:aE) (n:Nat) (out:List Token):Nat->List Token
 |0=>out
 |i+1=>ZX t p n out i++ [dQ t p n (ZX t p n out i).length i]
def cG (p:aE):Nat:=min 2 (p.length - 1)
def Zg (out:List Token) (t:Token):List Token:=ZX t (yg t.text) (cG (yg t.text)) out ((yg t.text).length - cG (yg t.text))
def WU (toks:List Token):List Token:=toks.foldl Zg []
theorem Vq (t:Token) (p:aE) (n:Nat) (out:List Token) (i:Nat):(ZX t p n out i).length=out.length+i:=by
 induction i with
 |zero=>rfl
 |succ i ih=>simp [ZX,ih];omega
theorem Yf (s:aB):1<=(yg s).length/\(yg s).length<=s.size+1:=by
 have:=Qn s;simp [yg];omega
theorem sY (out:List Token) (t:Token):(Zg out t).length<=out.length+t.text.size+1:=by
 unfold Zg;rw [Vq];have:=Yf t.text;omega
theorem AH (m:Nat) (toks:List Token) (h:∀t∈toks,t.text.size<=m):(WU toks).length<=toks.length*(m+1):=by
 unfold WU
 have:∀(l:List Token) (out:List Token),(∀t∈l,t.text.size<=m)->(l.foldl Zg out).length<=out.length+l.length*(m+1):=by
  intro l
  induction l with
  |nil=>intro out _;simp
  |cons a l ih=>
   intro out hl;have h1:=ih (Zg out a) (fun t ht=>hl t (by simp [ht]));have h2:=sY out a;have h3:=hl a (by simp);simp only [List.foldl_cons,z6,xK];omega
 have:=this toks [] h
 simpa using this
def Ux (s:aB) (t:Token):Prop:=∃f x:Nat,f<=x/\x<=s.size/\t.text=s.extract f x/\t.from_=f/\t.to_=x
theorem Ux.size {s:aB} {t:Token} (h:Ux s t):t.text.size<=s.size/\0<=t.from_/\t.from_+t.text.size<=s.size:=by
 obtain⟨f,x,h1,h2,h3,h4,h5⟩:=h;rw [h3,h4,yQ];omega
theorem iH {s:aB} {toks:List Token} {fr:Option Nat} {x:Nat} (h:∀t∈toks,Ux s t) (hf:∀f,fr=some f->f<=x) (hx:x<=s.size):∀t∈QF s toks fr x,Ux s t:=by
 cases fr with
 |none=>exact h
 |some f=>
  intro t ht;simp only [QF,List.mem_append,List.mem_singleton]at ht;rcases ht with ht|rfl
  ·exact h t ht
  ·exact⟨f,x,hf f rfl,hx,rfl,rfl,rfl⟩
theorem wG (s:aB) (p b:Int->Bool) (pre:aE) (hpre:pre<+:ats s):∀t∈(Z7 s p b pre).1,Ux s t:=by
 induction pre using Vf with
 |h0=>simp [Z7]
 |h1 pre x ih=>
  have h1:=ih ((List.prefix_append pre [x]).trans hpre);have hx:x<s.size:=V5 (hpre.subset (by simp));rw [X2];unfold Z6
  split
  ·exact iH h1 (fun f hf=>Nat.le_of_lt (kD hpre f (Wi s p b pre f hf))) (by omega)
  ·split
   ·exact h1
   ·exact h1
theorem jB (s:aB) (p b:Int->Bool):∀t∈Xm s p b,Ux s t:=
 iH (wG s p b _ (List.prefix_refl _)) (fun f hf=>Nat.le_of_lt (V5 (Wi s p b _ f hf))) (zC _)
theorem DE (s:aB) (p b:Int->Bool):(Xm s p b).length<=s.size+1:=by
 have h1:=jY s (Z7 s p b (ats s)).1 (Z7 s p b (ats s)).2 s.size;have h2:=U3 s p b (ats s);have h3:=Qn s;unfold Xm;omega
def natI (l:aE):aD:=l.map (fun(x:Nat)=>(x:Int))
theorem D0 (l:aE) (x:Nat):natI (l++ [x])=natI l++ [(x:Int)]:=by simp [natI]
theorem JK:(Tryz.prog.info? 3).map (fun i=>(i.zero,i.size,i.bytes))=some (some (.int .i64 0),1,8):=by kernel_rfl
theorem Qd (s:aB) (hs:s.size<=17592186044000) (w:O) (hT:Tabs w):
 Calls prog 184 #[.string s] w fun e w' =>∃v,e= .returned v/\Own Flat w' w.heap.size 3 v (natI (yg s))/\Below w.heap.size w w' :=by
 obtain⟨i0,hi0,hz0,hz1,hz2⟩:=info_parts JK;have hal:=Qn s;refine(callsIn_wide (n:=6)).1 ?_;refine callsIn_of_wp_marks func184 rfl trivial ?_ rfl;simp only [ntmps184,yP,z6,yO,Nat.reduceAdd,Nat.reduceSub,xI,xH,xf,xM,zZ,yI]
 gi_wp2_with (refine⟨trivial,?_⟩;gi_at_call 250;refine(callsIn_wide.2 (U2 s _)).mono ?_;rintro e w2 ⟨rfl,rfl⟩)
 have bO:=(Boxed.new w 55 (.slice none 0 0)).alloc (.cells #[.string s] 9);have bS:=Boxed.new (w.alloc (.cells #[.slice none 0 0] 55)) 9 (.string s);simp only [World.size_alloc]at bO bS;have hB0:Below w.heap.size w ((w.alloc (.cells #[.slice none 0 0] 55)).alloc (.cells #[.string s] 9)):=((zE _ w).alloc (zC _) _).alloc (by simp) _
 have hsz:((w.alloc (.cells #[.slice none 0 0] 55)).alloc (.cells #[.string s] 9)).heap.size=w.heap.size+2:=by simp
 obtain⟨W0,hW0⟩:=eX ((w.alloc (.cells #[.slice none 0 0] 55)).alloc (.cells #[.string s] 9));rw [hW0]at bO bS hB0 hsz⊢;clear hW0
 refine YX (n:=6) (F:=Fence.wide) rfl (by omega) (gf:=294) (lb:= #[.pointer (some ⟨w.heap.size+1,0,none⟩)]) rfl trivial (enters_of func294 (by kernel_rfl) rfl)
  (WF w.heap.size (w.heap.size+1) s (by omega) w hT rfl (6 - 1) (by omega) W0 hB0 bS) YS.trans (YS.putObj hB0.size) (zE _ _) (fun _=>rfl)
  (fun pre W=>(∃v,Boxed W w.heap.size 55 v/\Own Flat W w.heap.size 3 v (natI pre))/\Below w.heap.size w W/\W0.heap.size<=W.heap.size)
  (fun _ _ _=>False)
  (OwnFrom.and (VM _ _ _ _ _ _) (OwnFrom.and (ownFrom_below (zC _) (by omega)) (fun _ _ _ _ hs hg _=>zY hs hg.size)))
  (fun _ _ _ _ _ hs _ _=>hs)
  ⟨⟨_,bO,Own.nil _ _ _ _⟩,hB0,zC _⟩
  (fun x a' _=>a' ={tmps:= #[.string s,undef,.slice none 0 0,.pointer (some ⟨w.heap.size,0,none⟩),.int .i64 x,.string s,.func (.func 294) #[] #[.pointer (some ⟨w.heap.size+1,0,none⟩)],.int .i64 x,.int .i32 (rn s x),undef,undef,undef,undef,undef,undef,undef,undef,undef],defers:= []})
  (fun x a' _ X Y row hs hg hr=>hs)
  ?assign ?body ?done ?stop
 case assign=>
  rintro l pre x W K hI hK;simp only [Wh]at hK⊢
  gi_wp2
  exact hK _ _ ((KeepsOthers.refl _).from _) ⟨zE _ W,fun _ h=>h⟩ hI rfl
 case body=>
  rintro l pre x a' W hl ⟨r,hr⟩ ⟨⟨v,bv,ov⟩,hB,hS⟩ rfl hok;obtain⟨L,hL⟩:=eX ((natI pre).length)
  have hLm:L<s.size:=by
   have h1:=hok.length_le;have h2:(natI pre).length=pre.length:=(by simp [natI]);simp at h1;omega
  have hx:x<s.size:=by
   have h1:x∈ats s:=hok.subset (by simp);exact(UQ s _ _ x h1).2
  obtain⟨AV,cV,rfl⟩:=ov.form;rw [hL]at bv ov;have cv:=bv.cell;have HL:=zA hL;have Hov:=zA ov;have Hbv:=zA bv;have HB:=zA hB;clear ov bv hB hT bS bO hr hL hok
  gi_wp2_with (gi_at_builtin
               go_must (refine Wy rfl (.tmp 9) (.tmp 11) _ rfl w.heap.size 3 i0 _ 8 underlying55 hi0 hz0 hz1 hz2 rfl (.slice AV L cV) (natI pre) rfl (Hov.out.alloc _) W.heap.size #[.int .i64 x] (x:Int) rfl (Blk.new _ _ _) (YC ⟨rfl,by unfold In64;have:=HL.out;omega⟩) (by rw [HL.out];omega) (by rw [HL.out];omega) (by have:=HB.out.size;simp;omega) ?_)
               intro v5 w5 hown5 hg5 hb5;obtain⟨A5,c5,rfl⟩:=hown5.form;rw [show(natI pre++ [(x:Int)]).length=(natI pre).length+1 by simp]at hown5;obtain⟨b6,b7,o7,k7⟩:=rE Hbv.out Hov.out (by decide) (World.grownBy_alloc W _ none) hg5 hown5;have c6:=b6.cell;have f6:=b6.frozen;have B7:=zA b7;have O7:=zA o7;have K7:=zA k7;have Hb5:=zA hb5;have Hg5:=zA hg5
               clear b6 b7 o7 k7 hown5 hb5 hg5)
  have hB1:Below w.heap.size W (w5.setCell ⟨w.heap.size,0,none⟩ (.slice A5 ((natI pre).length+1) c5)):=(((zE _ W).alloc HB.out.size _).trans Hb5.out).setCell (p:=⟨w.heap.size,0,none⟩) (zC _) _;refine⟨K7.out.from _,⟨hB1,fun u hu=> ?_⟩,⟨_,B7.out,?_⟩,HB.out.trans hB1,zY hS hB1.size⟩
  ·refine((hu.alloc _).kept Hg5.out ?_).kept (xT _ _ _) (by simp);obtain⟨_,_,_,hr⟩:=Hov.out.alloc (.cells #[.int .i64 (x:Int)] 3);exact(hu.alloc _).not_row (by decide) hr
  ·rw [D0];exact O7.out
 case done=>
  rintro D ys W hD rfl ⟨⟨v,bv,ov⟩,hB,hS⟩ hK;obtain⟨L,hL⟩:=eX ((natI (ats s)).length);have hLm:L<=s.size:=(by rw [<-hL];simpa [natI]using hal);obtain⟨AV,cV,rfl⟩:=ov.form;rw [hL]at bv ov;have cv:=bv.cell;have HL:=zA hL;have Hov:=zA ov;have HB:=zA hB;have HK:=zA hK;clear ov bv hB hT bS bO hL hK
  gi_wp2_with (gi_at_builtin
               go_must (refine Wy rfl (.tmp 13) (.tmp 16) _ rfl w.heap.size 3 i0 _ 8 underlying55 hi0 hz0 hz1 hz2 rfl (.slice AV L cV) (natI (ats s)) rfl (Hov.out.alloc _) W.heap.size #[.int .i64 s.size] (s.size:Int) rfl (Blk.new _ _ _) (YC ⟨rfl,by unfold In64;omega⟩) (by rw [HL.out];omega) (by rw [HL.out];omega) (by have:=HB.out.size;simp;omega) ?_)
               intro v5 w5 hown5 hg5 hb5;obtain⟨A5,c5,rfl⟩:=hown5.form;rw [show(natI (ats s)++ [(s.size:Int)]).length=(natI (ats s)).length+1 by simp]at hown5;have Hown5:=zA hown5;have Hb5:=zA hb5;have Hg5:=zA hg5;clear hown5 hb5 hg5)
  have hB5:Below w.heap.size w w5:=HB.out.trans (((zE _ W).alloc HB.out.size _).trans Hb5.out);have hK5:=rO HK.out Hg5.out (Hov.out.alloc _);refine⟨by simp,.inl ⟨_,_,rfl,run_takeDeferred hK5,?_⟩⟩;refine⟨_,results_tmp rfl _ _ _,_,rfl,?_,hB5.trans (belowK_b (w:=w) (zC _) w5 D _ _ (by omega) hK5 rfl rfl)⟩
  have:=ZA Hown5.out (grownBy_putObj' w5 D (.deferred none)) (XM Hown5.out (fun r e=>by cases e;exact⟨_,hK5,rfl⟩))
  simpa [yg,natI]using this
 case stop=>
  rintro D c pre W _ _ h _;exact h.elim
theorem rM (s:aB):(yg s).Pairwise (·<·):=by
 unfold yg;rw [List.pairwise_append];exact⟨kC s,by simp,fun a ha b hb=>by simp at hb;subst hb;exact V5 ha⟩
theorem QQ {s:aB} {x:Nat} (h:x∈yg s):x<=s.size:=by
 unfold yg at h;rcases List.mem_append.1 h with h|h
 ·exact Nat.le_of_lt (V5 h)
 ·simp at h;omega
theorem Xn {s:aB} {i j a b:Nat} (ha:(yg s)[i]? =some a) (hb:(yg s)[j]? =some b) (h:i<=j):a<=b:=by
 have h1:=zN ha;have h2:=zN hb;rcases zk i j with hl|hl
 ·have:=List.pairwise_iff_getElem.1 (rM s) i j h1 h2 hl;rw [zB h1]at ha;rw [zB h2]at hb;cases ha;cases hb;omega
 ·obtain rfl:i=j:=by omega
  rw [ha]at hb;cases hb;exact zC _
theorem YV {w:O} {base:Nat} {A:aA} {n c i x:Nat} {p:aE} (h:Own Flat w base 3 (.slice A n c) (natI p)) (hx:p[i]? =some x):∃b,A=some ⟨b,0,none⟩/\w.cell? ⟨b,i,none⟩=some (.int .i64 (x:Int)):=by
 obtain⟨css,hl,hr,ho⟩:=h;have hk:=zN hx;have hn:(natI p).length=p.length:=by simp [natI]
 obtain⟨g,cap,hv,hb,hlt⟩:=ho.form (by rw [hn];omega)
 injection hv with hA _ _
 subst hA;have hr2:=Own.reads ⟨css,hl,hr,ho⟩;obtain⟨_,he⟩:=hr2.elem (k:=i) (x:=(x:Int)) (by simp [natI,hx]);have:=he.int.1;simp only [zx]at this;exact⟨g,rfl,this⟩
def xJ (number:Int) (s:aB):List Token:=
 if number=1 then Xb s else if number=2 then Xm s Y0 Y0 else if number=3 then Xm s (fun _=>true) (fun _=>true)else WU (Xb s)
theorem Q4 (number:Int) (hn:number=1\/number=2\/number=3) (s:aB) (hs:s.size<=1000000000) (w:O) (hT:Tabs w):
 Calls prog 98 #[.int .i64 number,.string s] w fun e w' =>∃v,e= .returned v/\Own Flat w' w.heap.size 48 v (xJ number s)/\Below w.heap.size w w' :=by
 have HT:=zA hT;clear hT;rcases hn with rfl|rfl|rfl
 ·rw [show xJ 1 s=Xb s by simp [xJ]];go_enter func98,ntmps98;go_wp2_with (go_at_call 178;go_must (refine(gZ s hs _ HT.out).mono ?_);rintro e w1 ⟨v,rfl,ho,hb⟩;have Ho:=zA ho;have Hb:=zA hb;clear ho hb);go_ret
  exact⟨_,rfl,Ho.out,Hb.out⟩
 ·rw [show xJ 2 s=Xm s Y0 Y0 by simp [xJ]];go_enter func98,ntmps98;go_wp2_with (go_at_call 181;go_must (refine(dM s hs _ _ _ _ Y0 Y0 _ HT.out (kE _) (kE _)).mono ?_);rintro e w1 ⟨v,rfl,ho,hb⟩;have Ho:=zA ho;have Hb:=zA hb;clear ho hb);go_ret
  exact⟨_,rfl,Ho.out,Hb.out⟩
 ·rw [show xJ 3 s=Xm s (fun _=>true) (fun _=>true) by simp [xJ]];go_enter func98,ntmps98;go_wp2_with (go_at_call 181;go_must (refine(dM s hs _ _ _ _ (fun _=>true) (fun _=>true) _ HT.out (GM _) (GK _)).mono ?_);rintro e w1 ⟨v,rfl,ho,hb⟩;have Ho:=zA ho;have Hb:=zA hb;clear ho hb);go_ret
  exact⟨_,rfl,Ho.out,Hb.out⟩
def QD (s:aB) (x:Nat):aC:=if Qg (rn s x)=rn s x then(s.extract x (x+wd s x)).data.toList else Lib.encodeRune (Qg (rn s x))
def bK (s:aB):aC:=(ats s).flatMap (QD s)
def VI (s:aB):aB:=⟨(bK s).toArray⟩
theorem AM (s:aB) (x:Nat):(QD s x).length<=4:=by
 unfold QD
 split
 ·have:=qI s x;rw [Lib.extract_data,zr];omega
 ·have h4:=Lib.runeCells_le (Qg (rn s x));rw [Lib.runeCells_length]at h4;exact h4.2
theorem eC (s:aB) (l:aE):(l.flatMap (QD s)).length<=4*l.length:=by
 induction l with
 |nil=>simp
 |cons a l ih=>
  have:=AM s a;rw [zp,zG,z6];omega
abbrev OU (B b:Nat) (l:aC) (W:O):Prop:=Lib.IsBuilder 365 5 B b (Lib.byteCells l) W
theorem OU.grown {B b:Nat} {l:aC} {W W' :O} {row:Option Nat} (h:OU B b l W) (hg:W.grownBy W' row) (hr:∀r,row=some r->∃o:Obj,W.heap[r]? =some o/\o.isCells=false):OU B b l W' :=by
 have go:∀p,Lib.BuilderAt 365 5 B b p (Lib.byteCells l) W->Lib.BuilderAt 365 5 B b p (Lib.byteCells l) W' :=by
  rintro p ⟨hB,v,hb,ho,hne⟩;refine⟨hB,v,(hg.block b (Array.getElem?_eq_some_iff.1 hb).1 (fun e=> ?_)).trans hb,ho.kept hg ?_,hne⟩
  ·obtain⟨o,h1,h2⟩:=hr _ e.symm;rw [hb]at h1;cases h1;cases h2
  ·cases hob:v.ownBlock with
   |none=>exact .inl rfl
   |some g=>
    refine .inr (fun e=> ?_);obtain⟨o,h1,h2⟩:=hr _ e.symm;rcases ho.2 with⟨rfl,_⟩|⟨g',cap,cur,rfl,_,hgb,_⟩
    ·cases hob
    ·cases hob;rw [hgb]at h1;cases h1;cases h2
 exact h.imp (go _) (go _)
theorem OU.on {B b:Nat} {l:aC} {W W' :O} (h:OU B b l W) (hb:Below W.heap.size W W'):OU B b l W' :=h.grown (Below.grownBy' hb) (fun _ e=>by cases e)
theorem OU.from_ {β:Type} (n0 B b:Nat) (f:β->aC):OwnFrom n0 (fun(x:β) W=>OU B b (f x) W):=fun _ _ _ _ hs hg hr=>hs.grown hg (fun r e=>(hr r e).2)
theorem OU.cells {B b:Nat} {l:aC} {W:O} (h:OU B b l W):∃cs,W.heap[b]? =some (.cells cs 365 (0,0)):=by
 rcases h with⟨_,v,hb,_⟩|⟨_,v,hb,_⟩<;>exact⟨_,hb⟩
theorem OU.le {B b:Nat} {l:aC} {W:O} (h:OU B b l W):B<=b/\b<W.heap.size:=by
 rcases h with⟨h1,v,hb,_⟩|⟨h1,v,hb,_⟩<;>exact⟨h1,(Array.getElem?_eq_some_iff.1 hb).1⟩
theorem WQ {b:Nat} {W W' :O} {cs:aG} {t:TypeId} (hk:Lib.OthersKept 5 (some b) W W') (hs:W.heap.size<=W'.heap.size) (hb:W.heap[b]? =some (.cells cs t (0,0))):KeepsOthers W W' :=
 ⟨hs,fun k o ho hc=>hk k o ho (fun e=>by cases e;rw [hb]at ho;cases ho;cases hc) (fun c fz e=>by subst e;cases hc)⟩
theorem UB {b B:Nat} {t:TypeId} {v:V} {W W' :O} (hk:Lib.OthersKept 5 (some b) W W') (h:Boxed W B t v) (hne:B≠b) (ht:t≠5):Boxed W' B t v:=
 hk B _ h (fun e=>hne (by cases e;rfl)) (fun c fz e=>ht (by cases e;rfl))
theorem VJ (s:aB) (a b:Nat):Lib.strCells (s.extract a b)=Lib.byteCells (s.extract a b).data.toList:=Lib.strCells_eq _
theorem JT (s:aB) (hs:s.size<=17592186044000) (w:O) (hT:Tabs w):
 Calls prog 289 #[.string s] w fun e w' =>e= .returned (.string (VI s))/\Below w.heap.size w w' :=by
 have hal:=Qn s;refine(callsIn_wide (n:=6)).1 ?_;refine callsIn_of_wp_marks func289 rfl trivial ?_ rfl;simp only [ntmps289,yP,z6,yO,Nat.reduceAdd,Nat.reduceSub,xI,xH,xf,xM,zZ,yI]
 gi_wp2_with (refine⟨trivial,?_⟩;gi_at_call 250;refine(callsIn_wide.2 (U2 s _)).mono ?_;rintro e w2 ⟨rfl,rfl⟩)
 have bA:=((Boxed.new w 9 (.string s)).alloc (.cells #[.pointer none,.slice none 0 0] 365)).alloc (.cells #[.string s] 9);have bS:=Boxed.new ((w.alloc (.cells #[.string s] 9)).alloc (.cells #[.pointer none,.slice none 0 0] 365)) 9 (.string s)
 have bB:OU (w.alloc (.cells #[.string s] 9)).heap.size (w.alloc (.cells #[.string s] 9)).heap.size [] (((w.alloc (.cells #[.string s] 9)).alloc (.cells #[.pointer none,.slice none 0 0] 365)).alloc (.cells #[.string s] 9)):=
  OU.on (Lib.fresh_isBuilder 365 5 (w.alloc (.cells #[.string s] 9))) ((zE _ _).alloc (zC _) _)
 simp only [World.size_alloc]at bA bS bB;have hB0:Below w.heap.size w (((w.alloc (.cells #[.string s] 9)).alloc (.cells #[.pointer none,.slice none 0 0] 365)).alloc (.cells #[.string s] 9)):=(((zE _ w).alloc (zC _) _).alloc (by simp) _).alloc (by simp;omega) _
 have hsz:(((w.alloc (.cells #[.string s] 9)).alloc (.cells #[.pointer none,.slice none 0 0] 365)).alloc (.cells #[.string s] 9)).heap.size=w.heap.size+3:=by simp
 obtain⟨W0,hW0⟩:=eX (((w.alloc (.cells #[.string s] 9)).alloc (.cells #[.pointer none,.slice none 0 0] 365)).alloc (.cells #[.string s] 9));rw [hW0]at bA bS bB hB0 hsz⊢;clear hW0
 refine YX (n:=6) (F:=Fence.wide) rfl (by omega) (gf:=294) (lb:= #[.pointer (some ⟨w.heap.size+1+1,0,none⟩)]) rfl trivial (enters_of func294 (by kernel_rfl) rfl)
  (WF w.heap.size (w.heap.size+1+1) s (by omega) w hT rfl (6 - 1) (by omega) W0 hB0 bS) YS.trans (YS.putObj hB0.size) (zE _ _) (fun _=>rfl)
  (fun pre W=>OU (w.heap.size+1) (w.heap.size+1) (pre.flatMap (QD s)) W/\Boxed W w.heap.size 9 (.string s)/\Below w.heap.size w W/\W0.heap.size<=W.heap.size)
  (fun _ _ _=>False)
  (OwnFrom.and (OU.from_ _ _ _ _) (OwnFrom.and (Own.from (boxed_own _ _ _) _) (OwnFrom.and (ownFrom_below (zC _) (by omega)) (fun _ _ _ _ hs hg _=>zY hs hg.size))))
  (fun _ _ _ _ _ hs _ _=>hs)
  ⟨bB,bA,hB0,zC _⟩
  (fun x a' _=>a' ={tmps:= #[.string s,.pointer (some ⟨w.heap.size,0,none⟩),.string {data:= #[]},.pointer (some ⟨w.heap.size+1,0,none⟩),.int .i64 x,.int .i32 (rn s x),undef,undef,undef,.string s,.func (.func 294) #[] #[.pointer (some ⟨w.heap.size+1+1,0,none⟩)],.int .i64 x,.int .i32 (rn s x),undef,undef,undef,undef,undef,undef,undef,undef,undef,undef,undef,undef,undef,undef,undef,undef,undef,undef,undef,undef,undef],defers:= []})
  (fun x a' _ X Y row hs hg hr=>hs)
  ?assign ?body ?done ?stop
 case assign=>
  rintro l pre x W K hI hK;simp only [Wh]at hK⊢
  gi_wp2
  exact hK _ _ ((KeepsOthers.refl _).from _) ⟨zE _ W,fun _ h=>h⟩ hI rfl
 case body=>
  rintro l pre x a' W hl ⟨r,hr⟩ ⟨bld,bA,hB,hS⟩ rfl hok
  have hx:x<s.size:=by
   have h1:x∈ats s:=hok.subset (by simp);exact(UQ s _ _ x h1).2
  have hpl:(Lib.byteCells (pre.flatMap (QD s))).length<=4*s.size:=by
   have h1:=hok.length_le;simp at h1;have:=eC s pre;rw [Lib.byteCells_length];omega
  have hwf:=pU hx;have hwp:=UV hx;have hrn:=qJ s x;have hTW:Tabs W:=hT.on hB;have hsb:=hB.size;have hlt:=bld.le.2;obtain⟨cs,hcs⟩:=bld.cells;have HT:=zA hTW;have Hbld:=zA bld;have HbA:=zA bA;have HB:=zA hB;have Hcs:=zA hcs;have hBb:w.heap.size+1<=W.heap.size:=(by omega);have cA:=bA.cell;obtain⟨ru,hru⟩:∃ru:Nat,rn s x=ru:=⟨_,rfl⟩;obtain⟨q,hq⟩:=eX (Qg (ru:Int))
  have hqr:=sR (ru:Int) (by omega) (by omega);rw [hq]at hqr;rw [hru]at hrn⊢;have Hru:=zA hru;have Hq:=zA hq;clear hTW hT bld bA hB hcs bS bB hB0 hok hr hru hq;have Hes:Hid ((s.extract x (x+wd s x)).size=wd s x):=by show _=_;rw [yQ];omega
  by_cases heq:q=(ru:Int)
  ·subst heq;have Hfin:Hid (QD s x=(s.extract x (x+wd s x)).data.toList):=by show _=_;unfold QD;rw [Hru.out,Hq.out,if_pos rfl]
   gi_wp2_with (first
    |(refine⟨trivial,?_⟩;gi_at_call 342;go_must (refine(yU l (callsIn_wide.2 (lI (ru:Int) (by omega) (by omega) _))).mono ?_);rw [Hq.out];rintro e w3 ⟨rfl,rfl⟩)
    |(refine⟨trivial,?_⟩
      gi_at_call 292
      go_must (refine(yU l (callsIn_wide.2 (dR s x hx (by omega) _ HT.out))).mono ?_)
      rintro e w3 ⟨rfl,hb3⟩;have hbld3:=Hbld.out.on hb3;have hbA3:=Boxed.on HbA.out hb3;have cA3:=hbA3.cell;have Hb3:=zA hb3;have Hbld3:=zA hbld3;have HbA3:=zA hbA3;have hs3:=hb3.size;clear hb3 hbld3 hbA3)
    |(refine⟨trivial,?_⟩
      gi_at_call 233
      go_must (refine(yU l (callsIn_wide.2 (Qu (w.heap.size+1) (w.heap.size+1) _ _ w3 Hbld3.out (by have:=Hes.out;have:=qI s x;omega) (by omega)))).mono ?_)
      rintro e w4 ⟨rfl,h4,b4,k4⟩))
   have hk:KeepsOthers W w4:=(KeepsOthers.of_grownBy (Below.grownBy' Hb3.out) (fun _ _ e _=>by cases e)).trans (by obtain⟨cs3,hcs3⟩:=Hbld3.out.cells;exact WQ k4 b4.size hcs3);have hbb:Below w.heap.size W w4:=(Hb3.out.mono (by omega)).trans (b4.mono (by omega))
   refine⟨hk.from _,⟨hbb,fun u hu=>UB k4 (Boxed.on hu Hb3.out) (by omega) (by decide)⟩,?_,UB k4 HbA3.out (by omega) (by decide),HB.out.trans hbb,zY hS hbb.size⟩;rw [yS,List.flatMap_singleton,Hfin.out];rw [VJ]at h4;show Lib.IsBuilder _ _ _ _ _ _;rw [Lib.byteCells_append];exact .inr h4
  ·have Hfin:Hid (QD s x=Lib.encodeRune q):=(by show _=_;unfold QD;rw [Hru.out,Hq.out,if_neg heq]);have hne:(q !=(ru:Int))=true:=(by simpa using heq);have hrl:=Lib.runeCells_le q;clear heq
   gi_wp2_with (first
    |(refine⟨trivial,?_⟩;gi_at_call 342;go_must (refine(yU l (callsIn_wide.2 (lI (ru:Int) (by omega) (by omega) _))).mono ?_);rw [Hq.out];rintro e w3 ⟨rfl,rfl⟩)
    |(refine⟨trivial,?_⟩
      gi_at_call 343
      go_must (refine(yU l (callsIn_wide.2 (rG (w.heap.size+1) (w.heap.size+1) _ q (by omega) (by omega) _ Hbld.out (by omega) (by omega)))).mono ?_)
      rintro e w4 ⟨rfl,h4,b4,k4⟩))
   have hk:KeepsOthers W w4:=WQ k4 b4.size Hcs.out;have hbb:Below w.heap.size W w4:=b4.mono (by omega);refine⟨hk.from _,⟨hbb,fun u hu=>UB k4 hu (by omega) (by decide)⟩,?_,UB k4 HbA.out (by omega) (by decide),HB.out.trans hbb,zY hS hbb.size⟩;rw [yS,List.flatMap_singleton,Hfin.out];show Lib.IsBuilder _ _ _ _ _ _;rw [Lib.byteCells_append,Lib.byteCells_encodeRune];exact .inr h4
 case done=>
  rintro D ys W hD rfl ⟨bld,bA,hB,hS⟩ hK;have hlt:=bld.le;have Hbld:=zA bld;have HB:=zA hB;have HK:=zA hK;clear bld bA hB hK hT bS bB hB0
  gi_wp2_with (refine⟨trivial,?_⟩
               gi_at_call 235
               go_must (refine(callsIn_wide.2 (Tryz.Builder_String_any_k (w.heap.size+1) (w.heap.size+1) (bK s) _ (Lib.IsBuilderF.of Hbld.out) (by omega))).mono ?_)
               rintro e w4 ⟨rfl,_,b4,k4⟩)
  have hK4:w4.heap[D]? =some (.deferred (some [])):=by
   obtain⟨cs,hcs⟩:=Hbld.out.cells;exact(WQ k4 b4.size hcs).same D _ HK.out rfl
  refine⟨by simp,.inl ⟨_,_,rfl,run_takeDeferred hK4,?_⟩⟩;exact⟨_,results_tmp rfl _ _ _,rfl,(HB.out.trans (b4.mono (by omega))).trans (belowK_b (w:=w) (zC _) w4 D _ _ (by omega) hK4 rfl rfl)⟩
 case stop=>
  rintro D c pre W _ _ h _;exact h.elim
end Go.Proofs.YtjbhbfaeielbiaaGreatDoor

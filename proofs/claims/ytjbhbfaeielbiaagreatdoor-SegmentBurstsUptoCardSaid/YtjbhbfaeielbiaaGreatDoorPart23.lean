import Derived.Shelf.RegionOpen
import Derived.LoopNIn
import Derived.LoopIn
import Derived.Test.YtjbhbfaeielbiaaGreatDoorPart10
set_option maxRecDepth 100000
set_option maxHeartbeats 8000000
set_option linter.unusedVariables false
set_option linter.unusedSimpArgs false
namespace Go.Proofs.YtjbhbfaeielbiaaGreatDoor
open Go.RowKit Go.Maps Go.ChangeShapes Go.WideShapes Go.MapKept
open Go.WideElems (Fit rd rg pl rd_key rd_mk rg_of)
open Go.ChangeMaps (setBlock)
def R0 (_:V):Option (DataW Unit×List MemPlace):=some (.nil, [])
def MapA (P:Program) (k:TypeId) (b:Nat) (l:List (V×V)):Asn where
 P S w:=(∀x,S x↔x=b)/\∃es clock,w.heap[b]? =some (.map es clock)/\Fit P k R0 es clock/\es.toList.map (fun e=>(e.key,e.val))=l
 lt h x hx:=by
  obtain⟨h1,es,clock,hb,_⟩:=h;rw [(h1 x).1 hx];exact(Array.getElem?_eq_some_iff.1 hb).1
 keep h ht hn:=by
  obtain⟨h1,es,clock,hb,h2⟩:=h;exact⟨h1,es,clock,(ht.block _ (Array.getElem?_eq_some_iff.1 hb).1 (hn _ ((h1 _).2 rfl))).trans hb,h2⟩
section
variable {P:Program} {k t e:TypeId} {b:Nat} {l:List (V×V)} {w:O} {L:List Asn}
theorem Sp.mapOf (h:Sp w L) (hm:MapA P k b l∈L):∃es clock,w.heap[b]? =some (.map es clock)/\Fit P k R0 es clock/\es.toList.map (fun e=>(e.key,e.val))=l:=(h.get hm).choose_spec.2
theorem Sp.mapNew (h:Sp w L) {H:Nat} (hH:w.heap.size=H):Sp (w.alloc (.map #[] 0)) (MapA P k H []::L):=by
 subst hH;exact h.new (S:=fun x=>x=w.heap.size) ((zE _ _).alloc (zC _) _) ⟨fun _=>Iff.rfl,#[],0,(MapKept.heap_alloc w _).1,⟨by simp,stamped_empty 0,by simp⟩,rfl⟩ (fun x hx=>by omega)
theorem qF {es:Array MapEntry} {clock:Nat} (F:Fit P k R0 es clock) {x:MapEntry} (hx:x∈es.toList):∃lx,Go.keyOf P k x.key=some lx:=by
 obtain⟨y,hy⟩:=F.reads x hx;exact⟨_,rd_key hy⟩
theorem Sp.mapDistinct (h:Sp w L) (hm:MapA P k b l∈L):(l.map (·.1)).Nodup:=by
 obtain⟨es,clock,_,F,rfl⟩:=h.mapOf hm;rw [yD];exact F.stamped.2.2
theorem Sp.mapLook (K:Keyed P k) (ht:P.underlying t=some (.map k e)) {z:V} (hz:(zeroValue e).run P w= .ok z w) (h:Sp w L) (hm:MapA P k b l∈L) {key:V} {kl:Lit} (hkey:Go.keyOf P k key=some kl):
 ((Instr.lookup t (.map (some b)) key false).run P w= .ok z w/\∀p∈l,p.1≠key)\/∃(j:Nat) (v:V),(Instr.lookup t (.map (some b)) key false).run P w= .ok v w/\l[j]? =some (key,v):=by
 obtain⟨es,clock,hb,F,rfl⟩:=h.mapOf hm;rcases K.find w hkey es.toList (fun x hx=>qF F hx)with⟨h1,h2⟩|⟨j,e0,h1,h2,h3⟩
 ·refine .inl ⟨by simp [Instr.lookup,run_underlying ht,MapKept.run_getObj_map hb,K.check w _ hkey,h1,hz,Result.andThen],fun p hp=> ?_⟩;obtain⟨x,hx,rfl⟩:=List.mem_map.1 hp;exact h2 x hx
 ·exact .inr ⟨j,e0.val,by simp [Instr.lookup,run_underlying ht,MapKept.run_getObj_map hb,K.check w _ hkey,h1,Result.andThen],by rw [zH,h2,<-h3];rfl⟩
theorem r9 {S:Nat->Prop} (w:O) {b:Nat} {o:Obj} (hb:b<w.heap.size) (hS:S b):Tch S w (setBlock w b o):=
 ⟨rfl,rfl,rfl,by simp [setBlock],fun x _ hn=>by
  simp only [setBlock];rw [yV]
  split
  ·rename_i h;subst h;exact absurd hS hn
  ·rfl⟩
theorem Sp.mapPut (K:Keyed P k) (ht:P.underlying t=some (.map k e)) (h:Sp w (MapA P k b l::L)) (hroom:l.length<maxLen) {key:V} (val:V) {kl:Lit} (hkey:Go.keyOf P k key=some kl):
 ∃w' l',(Instr.mapUpdate t (.map (some b)) key val).run P w= .ok () w' /\(((∀p∈l,p.1≠key)/\l' =l++ [(key,val)])\/∃(j:Nat) (v:V),l[j]? =some (key,v)/\l' =l.set j (key,val))/\Sp w' (MapA P k b l' ::L):=by
 obtain⟨es,clock,hb,F,rfl⟩:=h.mapOf (.head _);have hbl:=(Array.getElem?_eq_some_iff.1 hb).1
 have hnew:∀es' clock',Fit P k R0 es' clock' ->Sp (setBlock w b (.map es' clock')) (MapA P k b (es'.toList.map (fun e=>(e.key,e.val)))::L):=fun es' clock' F' =>
  h.upd fun S hS=>⟨S,⟨hS.1,es',clock',by simp [setBlock,hbl],F',rfl⟩,r9 w hbl ((hS.1 b).2 rfl),fun _ hx=> .inl hx⟩
 rcases K.find w hkey es.toList (fun x hx=>qF F hx)with⟨h1,h2⟩|⟨j,e0,h1,h2,h3⟩
 ·refine⟨setBlock w b (.map (es.push ⟨key,val,clock⟩) (clock+1)),_,?_,.inl ⟨fun p hp=> ?_,rfl⟩,?_⟩
  ·simp [Instr.mapUpdate,run_underlying ht,MapKept.run_getObj_map hb,K.check w false hkey,h1,MapKept.run_setObj_map _ hb,Result.andThen,setBlock]
  ·obtain⟨x,hx,rfl⟩:=List.mem_map.1 hp;exact h2 x hx
  ·have:=hnew (es.push ⟨key,val,clock⟩) (clock+1) ⟨by simp at hroom⊢;omega,stamped_push F.stamped h2,fun x hx=>by
    simp only [Array.toList_push,List.mem_append,List.mem_singleton]at hx;rcases hx with hx|rfl
    ·exact F.reads x hx
    ·exact⟨_,rd_mk hkey rfl⟩⟩
   simpa using this
 ·have hj:es[j]? =some e0:=(by simpa using h2);have hlist:(es.modify j (fun e' =>{e' with key:=key,val:=val})).toList=es.toList.set j {e0 with key:=key,val:=val}:=(by rw [Array.toList_modify,ChangeMaps.modify_eq_set _ _ _ _ h2]);refine⟨setBlock w b (.map (es.modify j (fun e' =>{e' with key:=key,val:=val})) clock),_,?_,.inr ⟨j,e0.val,by rw [zH,h2,<-h3];rfl,rfl⟩,?_⟩
  ·simp [Instr.mapUpdate,run_underlying ht,MapKept.run_getObj_map hb,K.check w false hkey,h1,hj,h3,K.stays w hkey,MapKept.run_setObj_map _ hb,Result.andThen,setBlock]
  ·have:=hnew (es.modify j (fun e' =>{e' with key:=key,val:=val})) clock ⟨by simpa using F.size,stamped_modify F.stamped _ _ (fun _ _=>rfl) (fun e' _ he' =>by rw [hj]at he';cases he';exact h3.symm),fun x hx=>by
    rw [hlist]at hx;rcases xe hx with hx|rfl
    ·exact F.reads x hx
    ·exact⟨_,rd_mk hkey rfl⟩⟩
   rw [hlist,List.map_set]at this;exact this
end
open Rep (rep)
open Go.RowKit Go.Shelf
def ObjA (b:Nat) (o:Obj):Asn where
 P S w:=(∀k,S k↔k=b)/\w.heap[b]? =some o
 lt h k hk:=by rw [(h.1 k).1 hk];exact(Array.getElem?_eq_some_iff.1 h.2).1
 keep h ht hn:=⟨h.1,(ht.block _ (Array.getElem?_eq_some_iff.1 h.2).1 (hn _ ((h.1 _).2 rfl))).trans h.2⟩
section
variable {w:O} {L:List Asn} {b:Nat} {o o' :Obj}
theorem Sp.perm {M:List Asn} (h:Sp w L) (p:L.Perm M):Sp w M:=SpU.perm p h
theorem Sp.obj (h:Sp w L) (hm:ObjA b o∈L):w.heap[b]? =some o:=(h.get hm).choose_spec.2
theorem Sp.putO (h:Sp w (ObjA b o::L)) (o' :Obj):Sp (w.putObj b o') (ObjA b o' ::L):=
 h.upd fun S hS=>by
  have hl:=(Array.getElem?_eq_some_iff.1 hS.2).1;exact⟨S,⟨hS.1,World.putObj_heap_same hl⟩,⟨rfl,rfl,rfl,by simp,fun k _ hn=>World.putObj_heap_other fun e=>hn (by rw [e];exact(hS.1 b).2 rfl)⟩,fun _ hb=> .inl hb⟩
theorem Sp.objNew (h:Sp w L) (o:Obj):Sp (w.alloc o) (ObjA w.heap.size o::L):=
 h.new (S:=fun k=>k=w.heap.size) ((zE _ _).alloc (zC _) _) ⟨fun _=>Iff.rfl,World.alloc_heap_new w o⟩ (fun k hk=>by omega)
end
def ExA {ι:Type} (f:ι->Asn):Asn where
 P S w:=∃i,(f i).P S w
 lt h:=by obtain⟨i,h⟩:=h;exact(f i).lt h
 keep h ht hn:=by obtain⟨i,h⟩:=h;exact⟨i,(f i).keep h ht hn⟩
theorem Sp.exIn {ι:Type} {f:ι->Asn} {w:O} {L:List Asn} (i:ι) (h:Sp w (f i::L)):Sp w (ExA f::L):=h.turn fun _ hS=>⟨i,hS⟩
theorem Sp.exOut {ι:Type} {f:ι->Asn} {w:O} {L:List Asn} (h:Sp w (ExA f::L)):∃i,Sp w (f i::L):=by
 obtain⟨S,h1,⟨i,h2⟩,h3⟩:=h;exact⟨i,S,h1,h2,h3⟩
theorem Sp.star3 {A B C:Asn} {w:O} {L:List Asn} (h:Sp w (A::B::C::L)):Sp w (zz [A,B,C]::L):=by
 have h1:Sp w (zz []::A::B::C::L):=h.starNil;exact((h1.p3.starIn).p2.starIn).p1.starIn
theorem Sp.unstar3 {A B C:Asn} {w:O} {L:List Asn} (h:Sp w (zz [A,B,C]::L)):Sp w (A::B::C::L):=
 ((h.starOut.p1.starOut).p2.p2.starOut).d1.p2.p2
theorem V0 {α:Type _}:∀(l:List α) (k:Nat) (h:k<l.length),(l[k]::l.eraseIdx k).Perm l
 |x::l,0,_=>List.Perm.refl _
 |x::l,k+1,h=>by
  have:=V0 l k (by simpa using h);simp only [List.getElem_cons_succ,List.eraseIdx_cons_succ];exact(List.Perm.swap _ _ _).trans (List.Perm.cons _ this)
theorem Sp.starAt {M:List Asn} {w:O} {L:List Asn} {X:Asn} {k:Nat} (h:Sp w (zz M::L)) (hk:M[k]? =some X):Sp w (X::zz (M.eraseIdx k)::L):=by
 obtain⟨hl,rfl⟩:=List.getElem?_eq_some_iff.1 hk;exact(h.starPerm (V0 M k hl).symm).starOut
theorem Sp.starBack {M:List Asn} {w:O} {L:List Asn} {X:Asn} {k:Nat} (h:Sp w (X::zz (M.eraseIdx k)::L)) (hk:M[k]? =some X):Sp w (zz M::L):=by
 obtain⟨hl,rfl⟩:=List.getElem?_eq_some_iff.1 hk;exact h.starIn.starPerm (V0 M k hl)
theorem Vy {F:Fence} {n:Nat} {P:Program} {fn:Func} {tmps:aG} {R:Ending->O->Prop} {rest:List Deferred} {L:List Asn} (hr:∀w',Sp w' L->LeavesInM F n P fn tmps R rest .returning w'):
 ∀(Ds:aE) {w:O},Sp w (zz (Ds.map fun D=>ObjA D (.deferred (some [])))::L)->LeavesInM F n P fn tmps R (Ds.map (fun D=>{target:= .collected D,args:= #[]})++rest) .returning w
 | [],w,h=>hr w h.tail
 |D::Ds,w,h=>by
  have h1:=Sp.starOut (X:=ObjA D (.deferred (some []))) (M:=Ds.map fun D=>ObjA D (.deferred (some []))) h;refine⟨by simp,.inl ⟨D,_,rfl,run_takeDeferred (h1.obj (.head _)),?_⟩⟩;exact Vy hr Ds (h1.putO (.deferred none)).tail
variable {F:Fence} {n:Nat} {P:Program}
theorem Wz {g:Operand} {ps:Array Tmp} {assign body:Code} {Q:Exit->Act->O->Prop} {a:Act} {w:O} {L L' :List Asn}
 (hro:F.round=none) (h1:1<=n) {gf:Nat} {lb:aG} (hg:a.eval g= .func (.func gf) #[] lb) (hFg:F.fn gf) (eg:∀args w,(callFunc gf args).run P w= .ok (.enter gf args) w)
 (HS:Sp w L) (Ok:aG->List Asn->List Asn->Prop)
 (hround:∀(l:Nat) (vals:aG) (X Y:List Asn),Ok vals X Y->vals.size=ps.size/\∃a₁:Act,
  (∀(W:O) (K:Act->O->Prop),K a₁ W->assign.wpIn (F.inRound l) (n - 1 - 1) P (Exit.then K (fun _ _ _=>False)) {tmps:=(ps.zip vals).foldl (fun t (p,v)=>t.setIfInBounds p v) a.tmps,defers:= []} W)/\
  ∀(T:List Asn) (W:O),Sp W (X++T)->body.wpIn (F.inRound l) (n - 1 - 1) P (fun e _ W' =>e= .normal/\Sp W' (Y++T)) a₁ W)
 (hseq:∀(l:Nat) (T0:List Asn),(∀(vals:aG) (X Y T:List Asn) (W:O),Ok vals X Y->Sp W (X++(T++T0))->YieldAt F (n - 1 - 1) P l vals W fun e W' =>e= .returned (.bool true)/\Sp W' (Y++(T++T0)))->
  ∀W,Sp W (L++T0)->CallsIn F (n - 1) P gf (#[.func (.yield l) #[] #[]]++lb) W fun e W' =>(∃v,e= .returned v)/\Sp W' (L' ++T0))
 (hdone:∀(D:Nat) (W:O),Sp W (L' ++ [ObjA D (.deferred (some []))])->Q .normal {a with defers:={target:= .collected D,args:= #[]}::a.defers} W):
 (Code.rangeFunc g ps assign body).wpIn F n P Q a w:=by
 refine wpIn_rangeFunc fun fn hfn=> ?_;rw [hro];obtain⟨rec,hrec⟩:∃rec:LoopState->Loop,rec=fun st=>{state:=st,pending:=none,fn,tmps:=a.tmps,params:=ps,assign,body,defers:=w.heap.size}:=⟨_,rfl⟩;obtain⟨T0,hT0⟩:=eX ( [ObjA (w.heap.size+1) (.loop (rec .ready)),ObjA w.heap.size (.deferred (some []))]);obtain⟨W1,hW1⟩:=eX ((w.alloc (.deferred (some []))).alloc (.loop (rec .ready)))
 have HS1:Sp W1 (L++T0):=by
  have h:=(HS.objNew (.deferred (some []))).objNew (.loop (rec .ready));rw [World.size_alloc]at h;rw [<-hT0,<-hW1];exact h.perm (List.perm_append_comm (l₁:= [_,_]))
 refine⟨w.heap.size+1, [{target:= .collected w.heap.size,args:= #[]}],W1,{target:= .fn (.func gf) lb,args:= #[.func (.yield (w.heap.size+1)) #[] #[]]},W1,gf,
  #[.func (.yield (w.heap.size+1)) #[] #[]]++lb,W1,?_,?_,?_,?_,fun _=>h1,?_⟩
 ·rw [<-hW1,hrec];exact run_enterLoop_outer _ _ _ _ _
 ·simp only [resolve,hg];simp [go_sem]
 ·intro f' hf';simp [Target.leads]at hf';subst hf';exact hFg
 ·simp [invoke,go_sem,eg]
 ·refine(hseq (w.heap.size+1) T0 ?_ _ HS1).mono ?_
  ·intro vals X Y T W hok HW;obtain⟨hsz,a₁,hassign,hb⟩:=hround (w.heap.size+1) vals X Y hok;have hl:W.heap[w.heap.size+1]? =some (.loop (rec .ready)):=HW.obj (List.mem_append_right _ (List.mem_append_right _ (by rw [<-hT0];exact .head _)));have hy:=run_yield (P:=P) (args:=vals) hl (by rw [hrec];exact hsz);rw [hrec]at hy;refine⟨fn,_,assign,body,hy,roundIn_of_wpIn hfn (hassign W _ ?_)⟩
   refine⟨_,run_beginRound hl (by rw [hrec]),?_⟩
   have hp:(X++(T++T0)).Perm (ObjA (w.heap.size+1) (.loop (rec .ready))::(X++(T++ [ObjA w.heap.size (.deferred (some []))]))):=by
    rw [<-hT0,<-zO,<-zO];exact List.perm_middle
   have H2:=(HW.perm hp).putO (.loop (rec .busy))
   have hq:(ObjA (w.heap.size+1) (.loop (rec .busy))::(X++(T++ [ObjA w.heap.size (.deferred (some []))]))).Perm (X++(T++ [ObjA (w.heap.size+1) (.loop (rec .busy)),ObjA w.heap.size (.deferred (some []))])):=by
    rw [<-zO,<-zO];exact List.perm_middle.symm
   have e1:(W.putObj (w.heap.size+1) (.loop {(rec .ready)with state:= .busy}))=W.putObj (w.heap.size+1) (.loop (rec .busy)):=(by rw [hrec]);rw [e1];refine wpIn_mono (hb _ _ (H2.perm hq)) ?_;rintro e a3 W3 ⟨rfl,H3⟩;have hl3:W3.heap[w.heap.size+1]? =some (.loop (rec .busy)):=H3.obj (List.mem_append_right _ (List.mem_append_right _ (.head _)));refine⟨_,_,run_endRound (P:=P) none hl3,rfl,?_⟩
   have hr:(Y++(T++ [ObjA (w.heap.size+1) (.loop (rec .busy)),ObjA w.heap.size (.deferred (some []))])).Perm (ObjA (w.heap.size+1) (.loop (rec .busy))::(Y++(T++ [ObjA w.heap.size (.deferred (some []))]))):=by
    rw [<-zO,<-zO];exact List.perm_middle
   have H4:=(H3.perm hr).putO (.loop (rec .ready));have e2:(W3.putObj (w.heap.size+1) (.loop {(rec .busy)with state:=if (none:Option Code).isNone then .ready else .done,pending:=none}))=W3.putObj (w.heap.size+1) (.loop (rec .ready)):=(by rw [hrec];rfl);rw [e2];refine H4.perm ?_;rw [<-hT0,<-zO,<-zO];exact List.perm_middle.symm
  ·rintro e W2 ⟨⟨v,rfl⟩,H2⟩;have hl2:W2.heap[w.heap.size+1]? =some (.loop (rec .ready)):=H2.obj (List.mem_append_right _ (by rw [<-hT0];exact .head _));have he:=run_endLoop (P:=P) hl2 (by rw [hrec];simp)
   have hp:(L' ++T0).Perm (ObjA (w.heap.size+1) (.loop (rec .ready))::(L' ++ [ObjA w.heap.size (.deferred (some []))])):=by
    rw [<-hT0];exact List.perm_middle
   have H3:=((H2.perm hp).putO (.loop {(rec .ready)with state:= .exhausted})).tail;exact⟨none,_,by rw [hrec]at he⊢;exact he,hdone _ _ H3⟩
end Go.Proofs.YtjbhbfaeielbiaaGreatDoor

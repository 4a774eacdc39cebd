import Derived.Test.YtjbhbfaeielbiaaGreatDoorPart34
set_option maxRecDepth 100000
set_option maxHeartbeats 8000000
set_option linter.unusedVariables false
set_option linter.unusedSimpArgs false
namespace Go.Proofs.YtjbhbfaeielbiaaGreatDoor
open Rep (rep)
theorem J1 {s:aB} {sc:Nat} (h:Qz s sc=true) (hs:sc<=9):s.size<=64:=by
 unfold Qz at h;simp only [zM]at h;have h:=h.1;unfold DecP.ok ZY at h;simp only [zM,Bool.or_eq_true,Bool.not_eq_true']at h;obtain⟨⟨h1, -⟩,h3⟩:=h;unfold OC at h1;simp only [zM,decide_eq_true_eq]at h1;obtain⟨⟨-,h1⟩, -⟩:=h1
 have e1:s.size<=(Lib.trimPrefix s.data.toList [45]).length+1:=by
  unfold Lib.trimPrefix
  split
  ·rw [ze];simp;omega
  ·simp
 obtain⟨l,hl⟩:=eX (Lib.trimPrefix s.data.toList [45]);rw [hl]at h1 h3 e1;unfold Lib.cut at h1 h3
 split at h1
 ·rename_i hi;rw [if_pos hi]at h3;simp only [Bool.true_eq_false,false_or]at h3;unfold OC at h3;simp only [zM,decide_eq_true_eq]at h3;obtain⟨⟨-,h3⟩, -⟩:=h3;have a1:((⟨(l.take (Lib.index l [46]).toNat).toArray⟩:aB).size)=min (Lib.index l [46]).toNat l.length:=(by simp [ByteArray.size])
  have a2:((⟨(l.drop ((Lib.index l [46]).toNat+([46]:aC).length)).toArray⟩:aB).size)=l.length - ((Lib.index l [46]).toNat+1):=(by simp [ByteArray.size]);rw [a1]at h1;rw [a2]at h3;omega
 ·have a1:((⟨l.toArray⟩:aB).size)=l.length:=(by simp [ByteArray.size]);simp only at h1;rw [a1]at h1;omega
theorem WW {fs:List Field} {i:Nat} {f:Field} (h:xC fs=true) (hf:fs[i]? =some f):f.name.size<=24/\(1<=f.kind/\f.kind<=5)/\(f.kind=5->1<=f.dims/\f.dims<=4)/\(f.kind=4->0<=f.scale/\f.scale<=9):=by
 unfold xC at h;simp only [zM,List.all_eq_true,List.mem_range]at h;have h1:=h.2 i (zN hf);unfold YH at h1;rw [hf]at h1;simp only [zM]at h1;have h2:=h1.2;unfold Xq xD aP at h2;simp only [zM,decide_eq_true_eq]at h2;obtain⟨⟨⟨⟨h3, -⟩, -⟩, -⟩,h4⟩:=h2;refine⟨h3.2.2,?_⟩
 split at h4
 ·rename_i e;exact⟨⟨by omega,by omega⟩,fun e2=>by omega,fun e2=>by omega⟩
 split at h4
 ·rename_i e;exact⟨⟨by omega,by omega⟩,fun e2=>by omega,fun e2=>by omega⟩
 split at h4
 ·rename_i e;simp only [decide_eq_true_eq]at h4;exact⟨⟨by omega,by omega⟩,fun e2=>by omega,fun _=>h4⟩
 split at h4
 ·rename_i e;simp only [decide_eq_true_eq]at h4;exact⟨⟨by omega,by omega⟩,fun _=>h4,fun e2=>by omega⟩
 ·cases h4
theorem NH {fs:List Field} {i:Nat} {f:Field} {e:Entry} {s t:Int} (hsb:xC fs=true) (hf:fs[i]? =some f) (hnm:f.name=e.field) (hnum:∀z∈e.numbers,In64 z) (h:WX f e s t=true):Qt f (bJ i f e)/\XP e=true:=by
 obtain⟨k1,k2,k3,k4⟩:=WW hsb hf;unfold WX Vz at h;simp only [zM]at h;obtain⟨⟨h1, -⟩,h2⟩:=h;have hL:InL e.numbers:=fun x hx=>by have:=hnum x hx;unfold In64 at this;exact⟨by omega,by omega⟩
 have hd:InL [decN e.text f.scale.toNat]:=fun x hx=>by
  rw [List.mem_singleton.1 hx];have:=pI e.text f.scale.toNat;unfold In64 at this;exact⟨by omega,by omega⟩
 have hnil:InL ([]:aD):=fun x hx=>by cases hx
 have hempty:e.text.toList.isEmpty=true->e.text.size<=4096:=fun h=>by
  have h2:e.text.toList= []:=(by simpa using h);have h3:=congrArg List.length h2;rw [ByteArray.toList_eq]at h3;show e.text.data.size<=4096;rw [<-Array.length_toList,h3];simp
 unfold Qt bJ XP xr ZU;unfold Ys at h2;simp only [zM,decide_eq_true_eq];rw [hnm]at k1;obtain⟨kd,hkd⟩:=eX (f.kind);rw [hkd]at h1 h2 k2 k3 k4⊢;rcases(show kd=1\/kd=2\/kd=3\/kd=4\/kd=5 by omega)with rfl|rfl|rfl|rfl|rfl
 ·simp at h1 h2
  have h3:e.text.size<=4096:=by
   rcases zk 4096 e.text.size with h|h
   ·rw [jD (by omega)]at h2;simp at h2
   ·exact h
  simp [hnil,k1,h3,h1]
 ·simp at h1 h2;simp [hnil,k1,h1,h2];omega
 ·simp only [if_true]at h1;simp at h1;have:=hempty (by simpa using h1.1);simp [hL,h1,k1,this]
 ·simp at h1 h2;have:=J1 h2 (by have:=k4 rfl;omega);simp [hd,h1,k1];omega
 ·simp at h1;have:=hempty (by simpa using h1.1);have:=k3 rfl;simp [hL,k1];omega
def Uz (c:yZ):Prop:=c.2.1.size<=4096/\c.2.2.length<=4
theorem BQ {i:Nat} {f:Field} {e:Entry} (h:XP e=true):Uz (bJ i f e):=by
 unfold XP at h;simp only [zM,decide_eq_true_eq]at h;unfold Uz bJ xr ZU
 constructor
 ·show ByteArray.size (if _ then _ else _)<=_
  split
  ·exact h.1.2
  ·exact zJ _
 ·show List.length (if _ then _ else _)<=_
  split
  ·exact zJ _
  split
  ·simp
  ·exact h.2
theorem j6 {fs:List Field} (hsb:xC fs=true):∀(es:List Entry) (seen tks:aD) (cs:List yZ),(∀e∈es,∀z∈e.numbers,In64 z)->ZV fs es seen tks=some cs->cs.length=es.length/\(∀c∈cs,Uz c/\∃(i:Nat) (f:Field),fs[i]? =some f/\c.1=(i:Int)/\Qt f c)/\∀e∈es,XP e=true
 | [],_,_,cs,_,h=>by
   unfold ZV at h;cases h;simp
 |e::es,seen,tks,cs,hn,h=>by
  unfold ZV at h;rcases hi:Zx fs e.field with _|i
  ·rw [hi]at h;cases h
  ·rw [hi]at h;obtain⟨f,hf,hnm⟩:=eD hi;simp only [hf]at h
   split at h
   ·rename_i hok;rcases hc:ZV fs es (seen.set i (seen.getD i 0+1)) (tks.set i (Yr f e (tks.getD i 0)))with _|cs'
    ·rw [hc]at h;cases h
    ·rw [hc]at h;cases h;obtain⟨h1,h2,h3⟩:=j6 hsb es _ _ cs' (fun e he=>hn e (by simp [he])) hc;obtain⟨k1,k2⟩:=NH hsb hf hnm (hn e (by simp)) hok;refine⟨by simp [h1],fun c hc' => ?_,fun e' he=> ?_⟩
     ·rcases yx.1 hc' with rfl|hc'
      ·exact⟨BQ k2,i,f,hf,rfl,k1⟩
      ·exact h2 c hc'
     ·rcases yx.1 he with rfl|he
      ·exact k2
      ·exact h3 e' he
   ·cases h
theorem Wu {fs:List Field} {es:List Entry} {cs:List yZ} (hn:∀e∈es,∀z∈e.numbers,In64 z) (h:Yk fs es=some cs):xC fs=true/\cs.length<=64/\(∀c∈cs,Uz c/\∃(i:Nat) (f:Field),fs[i]? =some f/\c.1=(i:Int)/\Qt f c)/\Y9 es=true:=by
 unfold Yk at h
 split at h
 ·rename_i hb;simp only [zM,decide_eq_true_eq]at hb;obtain⟨h1,h2,h3⟩:=j6 hb.1 es _ _ cs hn h;refine⟨hb.1,by omega,h2,?_⟩;unfold Y9;simp only [zM,decide_eq_true_eq,List.all_eq_true];exact⟨hb.2,h3⟩
 ·cases h
def Xv (i:Nat) (cs:List yZ):List yZ:=cs.filter fun c=>decide (c.1=(i:Int))
theorem j8 {fs:List Field} {i:Nat} {f:Field} {cs:List yZ} (hf:fs[i]? =some f) (h:∀c∈cs,Uz c/\∃(i:Nat) (f:Field),fs[i]? =some f/\c.1=(i:Int)/\Qt f c):∀c∈Xv i cs,Qt f c:=fun c hc=>by
 obtain⟨h1,h2⟩:=List.mem_filter.1 hc;simp only [decide_eq_true_eq]at h2;obtain⟨-,j,g,hg,hj,hok⟩:=h c h1;have:j=i:=by omega
 subst this;rw [hf]at hg;cases hg;exact hok
theorem iL (i:Nat) (cs:List yZ):(Xv i cs).length<=cs.length:=List.length_filter_le _ _
open Tryz
open Go.RowKit
section
variable {w:O} {L:List Asn}
theorem Sp.unstar:∀{M:List Asn} {L:List Asn},Sp w (zz M::L)->Sp w (M++L)
 | [],_,h=>h.tail
 |_::_,_,h=>Sp.perm (Sp.unstar h.starOut.p1) List.perm_middle
theorem Sp.star:∀{M:List Asn} {L:List Asn},Sp w (M++L)->Sp w (zz M::L)
 | [],_,h=>h.starNil
 |_::M,_,h=>(Sp.star (M:=M) (Sp.perm h List.perm_middle.symm)).p1.starIn
end
structure FA where
 G:Nat
 T:Nat
 A2:aA
 A3:aA
 A4:aA
 A5:aA
 c2:Nat
 c3:Nat
 c4:Nat
 c5:Nat
 s3:List aF
 s4:List aF
 s5:List aF
def gsOf (A:aA) (n c i:Nat) (a:FA) (x:FS):aG:= #[.slice none 0 0,.slice none 0 0,.slice a.A2 x.lens.length a.c2,.slice a.A3 x.tx.length a.c3,.slice a.A4 x.nums.length a.c4,.slice a.A5 x.pts.length a.c5,.slice A n c,.int .i64 (i:Int),.map (some a.T)]
def fldL (A:aA) (n c i:Nat) (a:FA) (x:FS):List Asn:=
 [BlkA a.G 152 (gsOf A n c i a x),YR a.T x.td,IA a.A2 x.lens.length a.c2 x.lens,RowA 129 1 (.slice a.A3 x.tx.length a.c3) x.tx.length a.s3.flatten,ElsA a.s3 x.tx,
  RowA 57 1 (.slice a.A4 x.nums.length a.c4) x.nums.length a.s4.flatten,ElsA a.s4 x.nums,RowA 232 2 (.slice a.A5 x.pts.length a.c5) x.pts.length a.s5.flatten,ElsA a.s5 x.pts]
def FldA (A:aA) (n c i G:Nat) (x:FS):Asn:=ExA fun a:{a:FA // a.G=G}=>zz (fldL A n c i a.1 x)
section
variable {w:O} {L:List Asn} {A:aA} {n c i G:Nat} {x:FS}
theorem Sp.fldOut (h:Sp w (FldA A n c i G x::L)):∃a:FA,a.G=G/\Sp w (fldL A n c i a x++L):=by
 obtain⟨a,h⟩:=h.exOut;exact⟨a.1,a.2,h.unstar⟩
theorem Sp.fldIn {a:FA} (ha:a.G=G) (h:Sp w (fldL A n c i a x++L)):Sp w (FldA A n c i G x::L):=
 Sp.exIn (f:=fun a:{a:FA // a.G=G}=>zz (fldL A n c i a.1 x)) ⟨a,ha⟩ h.star
end
theorem LO (kd:Int) (args:aG) (w:O):(callFunc (YO kd) args).run prog w= .ok (.enter (YO kd) args) w:=by
 unfold YO
 split
 ·exact enters_of func110 (by kernel_rfl) rfl args w
 split
 ·exact enters_of func111 (by kernel_rfl) rfl args w
 split
 ·exact enters_of func113 (by kernel_rfl) rfl args w
 ·exact enters_of func112 (by kernel_rfl) rfl args w
theorem vD {A B:aA} {n c i k m cm:Nat} {fs:List Field} {f:Field} {a:FA} {x:FS} {ocs:aF} {ox cs:List yZ} {w:O} {L:List Asn}
 (hV:Tabs w) (hs:zL w (·<w.heap.size) A n c fs) (hsb:xC fs=true) (hf:fs[i]? =some f) (hx:FSok f k x) (hk:k<16384) (hc:∀c∈cs,Qt f c) (hn:cs.length<=64)
 (hz:∀c∈cs,c.2.1.size<=1000000000/\c.2.2.length<=1000000000) (HS:Sp w (fldL A n c i a x++(Z1 ocs ox [.slice B m cm] cs::L))):
 Calls prog (YO f.kind) #[.pointer (some ⟨a.G,0,none⟩),.int .i64 (k:Int),.slice B m cm] w fun e w' =>e= .returned (.tuple #[])/\∃a' :FA,a'.G=a.G/\Sp w' (fldL A n c i a' (Zc fs i f.kind k cs x)++(Z1 ocs ox [.slice B m cm] cs::L)):=by
 have hl:=HS.ls2 (show Z1 ocs ox [.slice B m cm] cs∈fldL A n c i a x++(Z1 ocs ox [.slice B m cm] cs::L) by simp);have hm:m<=64:=by rw [<-hl.length];exact hn
 obtain⟨-,hkd, -, -⟩:=WW hsb hf;have b2:=hx.ln;have b3:=hx.xn;have b4:=hx.nn;have b5:=hx.pn;rcases(show f.kind=1\/f.kind=2\/f.kind=5\/(f.kind=3\/f.kind=4) by omega)with h1|h2|h5|h34
 ·have e1:YO f.kind=110:=(by unfold YO;rw [if_pos h1]);have e2:Zc fs i f.kind k cs x={x with td:=Y6 x.td k (tokP fs i cs),lens:=x.lens++ [((tokP fs i cs).length:Int)]}:=(by unfold Zc;rw [if_pos h1]);rw [e1,e2];refine(B6 hV hs hl hsb hf h1 hm (iT fs i cs) (by omega) hx.sz (by omega) (by omega) (Sp.selT [_,_,_,_,_,_,_,_,_] HS [1,0,2,3,4,5,6,7,8]) rfl rfl rfl rfl).mono ?_
  rintro e w' ⟨rfl,A2',c2',h⟩;refine⟨rfl,{a with A2:=A2',c2:=c2' },rfl,?_⟩;have h' :=Sp.selT [_,_,_,_,_,_,_,_,_] h [1,0,2,3,4,5,6,7,8];unfold fldL gsOf;simp only [zG,z6,yO,zx];exact h'
 ·have e1:YO f.kind=111:=(by unfold YO;rw [if_neg (by omega),if_pos h2]);have e2:Zc fs i f.kind k cs x={x with td:=Y7 x.td k (setT (YK cs)),tx:=x.tx++ [setT (YK cs)]}:=(by unfold Zc;rw [if_neg (by omega),if_pos h2]);rw [e1,e2];refine(KJ hm (fun c hc' =>(hz c hc').1) (by omega) hx.sz (by omega) (by omega) (Sp.selT [_,_,_,_,_,_,_,_,_,_] HS [1,0,3,4,9,2,5,6,7,8]) rfl rfl).mono ?_
  rintro e w' ⟨rfl,A3',c3',s3',h⟩;refine⟨rfl,{a with A3:=A3',c3:=c3',s3:=s3' },rfl,?_⟩;have h' :=Sp.selT [_,_,_,_,_,_,_,_,_,_] h [1,0,5,2,3,6,7,8,9,4];unfold fldL gsOf;simp only [zG,z6,yO,zx];exact h'
 ·have e1:YO f.kind=113:=(by unfold YO;rw [if_neg (by omega),if_neg (by omega),if_pos h5]);have e2:Zc fs i f.kind k cs x={x with pts:=x.pts++ptsC k cs}:=(by unfold Zc;rw [if_neg (by omega),if_neg (by omega),if_pos h5]);rw [e1,e2];refine(oF hm (fun c hc' =>(hz c hc').2) (by omega) (by omega) (Sp.selT [_,_,_,_,_,_,_,_,_,_] HS [0,7,8,9,1,2,3,4,5,6]) rfl).mono ?_;rintro e w' ⟨rfl,A5',c5',s5',h⟩
  refine⟨rfl,{a with A5:=A5',c5:=c5',s5:=s5' },rfl,?_⟩;have h' :=Sp.selT [_,_,_,_,_,_,_,_,_,_] h [0,4,5,6,7,8,9,1,2,3];have hlm:(ptsC k cs).length=m:=(by unfold ptsC;rw [zK];exact hl.length);unfold fldL gsOf;simp only [zG,hlm];exact h'
 ·have e1:YO f.kind=112:=(by unfold YO;rw [if_neg (by omega),if_neg (by omega),if_neg (by omega)]);have e2:Zc fs i f.kind k cs x={x with nums:=x.nums++ [xP (YG cs)],pts:=x.pts++ptsC k cs}:=(by unfold Zc;rw [if_neg (by omega),if_neg (by omega),if_neg (by omega)]);rw [e1,e2]
  refine(GF hm (fun c hc' =>⟨by rw [(hc c hc').2.1 h34];exact zC _,(hz c hc').2⟩) (by omega) (by omega) (by omega) (Sp.selT [_,_,_,_,_,_,_,_,_,_] HS [0,5,6,7,8,9,1,2,3,4]) rfl rfl).mono ?_;rintro e w' ⟨rfl,A4',c4',s4',A5',c5',s5',h⟩;refine⟨rfl,{a with A4:=A4',c4:=c4',s4:=s4',A5:=A5',c5:=c5',s5:=s5' },rfl,?_⟩;have h' :=Sp.selT [_,_,_,_,_,_,_,_,_,_] h [0,6,7,8,9,1,2,3,4,5]
  have hlm:(ptsC k cs).length=m:=(by unfold ptsC;rw [zK];exact hl.length);unfold fldL gsOf;simp only [zG,z6,yO,zx,hlm];exact h'
open Go.RowKit Go.Maps
attribute [local go_sem ↓] zU zV
def QC (fs:List Field) (i:Nat):Int:=((fs[i]?).map (·.kind)).getD 0
def stF (fs:List Field) (css:Nat->List yZ) (i:Nat):Nat->FS
 |0=>fs0
 |k+1=>Zc fs i (QC fs i) k (Xv i (css k)) (stF fs css i k)
def yv (fs:List Field) (items:List xw) (k:Nat):List yZ:=((items[k]?).bind fun x=>Yk fs x.2).getD []
abbrev N8:=List aB×List (List PostD)×aD×List (List aB)×List aD×List Pt
def VH (x:FS):N8:=(Zl x.td,Y2 x.td,x.lens,x.tx,x.nums,x.pts)
def Zz (fs:List Field) (items:List xw):List N8:=(List.range fs.length).map fun i=>VH (stF fs (yv fs items) i items.length)
def Uy (fs:List Field) (items:List xw):Prop:=YN fs items=0/\∀x∈items,∃cs,Yk fs x.2=some cs
def qU (fs:List Field) (items:List xw) (w:O) (r:Ending) (w' :O):Prop:=
 (∃er,er≠0/\¬Uy fs items/\r= .returned (.tuple #[.pointer none,.int .i64 er])/\Below w.heap.size w w')\/
 ∃(Mb:Nat) (A0 A1 A2:aA),r= .returned (.tuple #[.pointer (some ⟨Mb,0,none⟩),.int .i64 0])/\Uy fs items/\
  Sp w' [BlkA Mb 141 #[.slice A0 items.length items.length,.slice A1 items.length items.length,.slice A2 fs.length fs.length],DatA (.slice A0 items.length items.length) (items.map (·.1)),DatA (.slice A1 items.length items.length) (items.map (·.2)),DatA (.slice A2 fs.length fs.length) (Zz fs items),OldA w.heap.size w]
def OE (G:Nat):V:= .pointer (some ⟨G,0,none⟩)
def Zb (A:aA) (n c:Nat) (Gs:aE) (X:Nat->FS):List Asn:=(List.range Gs.length).map fun i=>FldA A n c i (Gs.getD i 0) (X i)
theorem AP (A:aA) (n c:Nat) (Gs:aE) (G:Nat) (X:Nat->FS):Zb A n c (Gs++ [G]) X=Zb A n c Gs X++ [FldA A n c Gs.length G (X Gs.length)]:=by
 unfold Zb;rw [zG,z6,yO,List.range_succ,zw]
 congr 1
 ·refine List.map_congr_left fun i hi=> ?_;rw [List.mem_range]at hi;rw [zm,zm,z9 hi]
 ·simp
theorem eB {A:aA} {n c:Nat} {Gs:aE} {X:Nat->FS} {i G:Nat} (h:Gs[i]? =some G):(Zb A n c Gs X)[i]? =some (FldA A n c i G (X i)):=by
 have hi:=zN h;unfold Zb;rw [zH,zq hi,yk,zm,h];rfl
theorem E7 {A:aA} {n c:Nat} {Gs:aE} {X Y:Nat->FS} {i G:Nat} (h:Gs[i]? =some G) (hXY:∀j,j≠i->X j=Y j):(Zb A n c Gs X).set i (FldA A n c i G (Y i))=Zb A n c Gs Y:=by
 have hi:=zN h
 apply yX
 intro j;rw [xO]
 split
 ·rename_i e;subst e;rw [if_pos (by unfold Zb;simpa using hi),eB h]
 ·rename_i e;unfold Zb;rw [zH,zH];rcases hr:(List.range Gs.length)[j]? with _|q
  ·rfl
  ·have hq:q=j:=by
    rw [List.getElem?_eq_some_iff]at hr;obtain⟨_,hr⟩:=hr;rw [List.getElem_range]at hr;exact hr.symm
   subst hq;simp only [yk];rw [hXY q (Ne.symm e)]
theorem dA {fs:List Field} {items:List xw} {f:Field} {i:Nat} (hsb:xC fs=true) (hf:fs[i]? =some f) (hn:∀x∈items,∀e∈x.2,∀z∈e.numbers,In64 z):∀k,k<=16384->FSok f k (stF fs (yv fs items) i k)
 |0,_=>FSok.zero f
 |k+1,hk=>by
  have h:=dA hsb hf hn k (by omega);have hkd:QC fs i=f.kind:=(by unfold QC;rw [hf];rfl);show FSok f (k+1) (Zc fs i (QC fs i) k (Xv i (yv fs items k)) (stF fs (yv fs items) i k));rw [hkd]
  have hcs:(∀c∈yv fs items k,Uz c/\∃(i:Nat) (f:Field),fs[i]? =some f/\c.1=(i:Int)/\Qt f c)/\(yv fs items k).length<=64:=by
   unfold yv;rcases hx:items[k]? with _|x
   ·simp
   ·simp only [Option.bind_some];rcases hc:Yk fs x.2 with _|cs
    ·simp
    ·have:=Wu (hn x (zD hx)) hc;exact⟨this.2.2.1,this.2.1⟩
  exact h.step (by omega) (WW hsb hf).2.1 (j8 hf hcs.1) (zY (iL _ _) hcs.2)
theorem zL.in_nums {F:Nat->Prop} {w:O} {A:aA} {n c:Nat} {es:List Entry} (h:zL w F A n c es):∀e∈es,∀z∈e.numbers,In64 z:=fun e he=>by
 obtain⟨k,hk⟩:=z8 he;obtain⟨b,off, -, -,hee⟩:=h.2.2.2 k e hk;obtain⟨A2,n2,c2, -, -, -,hn, -⟩:=Entry.at_ hee
 exact hn.in64
theorem dY {w:O} {F:Nat->Prop} {A:aA} {n c:Nat} {items:List xw} (h:zL w F A n c items):∀x∈items,∀e∈x.2,∀z∈e.numbers,In64 z:=fun x hx=>by
 obtain⟨k,hk⟩:=z8 hx;obtain⟨b,off, -, -,hee⟩:=h.2.2.2 k x hk;obtain⟨Ax,nx,cx, -, -,hx, -⟩:=xw.at_ hee
 exact hx.in_nums
theorem Sp.readOne {w:O} {L:List Asn} {v:V} {xs ys:List yZ} {css:List aF} (h:Sp w (XH v xs css ys::L)):∀u∈css.flatten,u.oneCell' =true:=
 Sp.elsOne (h.turn (A' :=ElsA css ys) fun S hS=>hS.2) M0
theorem JJ {α:Type} {i j:Nat} (a b:α) (h:j≠i):(if j<i then a else b)=if j<i+1 then a else b:=by
 by_cases h' :j<i
 ·rw [if_pos h',if_pos (by omega)]
 ·rw [if_neg h',if_neg (by omega)]
theorem oJ:∀items:List xw,uC (items.map (·.1.val))=(items.map (·.1)).flatMap fun u:U64=> [Value.int .u64 (u.val:Int)]
 | []=>rfl
 |x::l=>by
  have h:=oJ l;simp only [uC,yH,zp]at h⊢;rw [h];rfl
theorem lM {w:O} {F:Nat->Prop} {A:aA} {n c:Nat} {items:List xw} (h:zL w F A n c items):∀u∈items.map (·.1),u.val<18446744073709551616:=fun u hu=>by
 obtain⟨x,hx,rfl⟩:=List.mem_map.1 hu;obtain⟨k,hk⟩:=z8 hx;obtain⟨b,off, -, -,hee⟩:=h.2.2.2 k x hk;obtain⟨Ax,nx,cx, -, -, -,hs⟩:=xw.at_ hee
 exact hs
theorem LW:Elt prog 142 143 1 8:=xt (by kernel_rfl) (by decide) (by kernel_rfl)
theorem LZ:Elt prog 138 38 1 24:=xt (by kernel_rfl) (by decide) (by kernel_rfl)
theorem LX:Elt prog 139 150 6 144:=xt (by kernel_rfl) (by decide) (by kernel_rfl)
theorem GQ:(Tryz.prog.info? 143).bind (fun i=>i.zero)=some (.pointer none):=by kernel_rfl
theorem D7 (n:Nat):(madeCells (Value.pointer none).cells (n*1)).toList=List.replicate n (Value.pointer none):=by
 simp [madeCells,Value.cells,Nat.mod_one,List.map_const']
theorem Sp.fldNew {w:O} {L:List Asn} {A:aA} {n c i G T:Nat} (h:Sp w (BlkA G 152 #[.slice none 0 0,.slice none 0 0,.slice none 0 0,.slice none 0 0,.slice none 0 0,.slice none 0 0,.slice A n c,.int .i64 (i:Int),.map (some T)]::MapA prog 9 T []::L)):Sp w (FldA A n c i G fs0::L):=by
 have h1:=Sp.termsIn (rs:= []) (td:= []) rfl h.p1.starNil.p1;have h2:=((((((h1.elsNil (α:=Pt)).nil 232 2).elsNil (α:=aD)).nil 57 1).elsNil (α:=List aB)).nil 129 1).nil 2 1;exact Sp.fldIn (a:=⟨G,T,none,none,none,none,0,0,0,0, [], [], []⟩) rfl (Sp.selT [_,_,_,_,_,_,_,_,_] h2 [8,7,0,1,2,3,4,5,6])
theorem K3 {Gs:aE} {n k G:Nat} (hl:Gs.length=k) (hk:k<n):(Gs.map OE++List.replicate (n - k) (Value.pointer none)).set k (OE G)=(Gs++ [G]).map OE++List.replicate (n - (k+1)) (.pointer none):=by
 rw [xB _ _ (by rw [zK,hl];exact zC _),zK,hl,yh,show n - k=(n - (k+1))+1 by omega,List.replicate_succ,yw,zw,zO];rfl
theorem CD {A B:aA} {n c m cm:Nat} {fs:List Field} {items:List xw} {w:O} (hV:Vs w) (hs:zL w (·<w.heap.size) A n c fs) (hi:zL w (·<w.heap.size) B m cm items)
 (hz:∀x∈items,∀e∈x.2,e.text.size<=100000000/\e.numbers.length<=1000000000):
 Calls prog 32 #[.agg #[.slice A n c],.slice B m cm] w (qU fs items w):=by
 obtain⟨H,hH⟩:=eX (w.heap.size);have HS0:=(Sp.start w).blkH 24 #[.slice A n c] hH;have hlen:=hs.length;have hilen:=hi.length;have hcap:=hs.cap;have hicap:=hi.cap;have hbw:=HS0.below M1;obtain⟨w2,hw2⟩:=eX (w.alloc (.cells #[.slice A n c] 24));rw [hw2]at HS0 hbw;have HR:=zA (BW (hV.tabs.on hbw) (hs.on hbw) (hi.on hbw));have HV:=zA hV;have Hs:=zA hs;have HI:=zA hi;have Hz:=zA hz;have Hlen:=zA hlen
 have Hilen:=zA hilen;obtain⟨er,her⟩:=eX (YN fs items);rw [her]at HR;have Her:=zA her;clear hV hs hi hz hlen hilen hbw her;go_enter func32,ntmps32;go_upto_region 1 with fail;have q0:=HS0.cl M0 0;clear hw2 hH;go_wp2_with fail;refine HR.out.mono ?_;rintro r w3 ⟨rfl,hb3⟩;have HS1:=HS0.grow hb3;clear HS0 HR q0 hb3
 by_cases her0:er=0
 ·subst her0
  have hsb:xC fs=true:=by
   have h:=Her.out;unfold YN at h
   split at h
   ·assumption
   ·cases h
  have hn:1<=n/\n<=16:=by
   have h:=hsb;unfold xC at h;simp only [zM,decide_eq_true_eq,Hlen.out]at h;exact h.1
  have hm:m<=16384:=by
   have h:=Her.out;unfold YN at h;rw [if_pos hsb,Hilen.out]at h
   split at h
   ·cases h
   ·omega
  have Hsb:=zA hsb;clear hsb;have q1:=HS1.cl M0 0;obtain⟨Mb,hMb⟩:=eX (w3.heap.size);have HS2:=HS1.blkH 141 #[.slice none 0 0,.slice none 0 0,.slice none 0 0] hMb;obtain⟨w4,hw4⟩:=eX (w3.alloc (.cells #[.slice none 0 0,.slice none 0 0,.slice none 0 0] 141));rw [hw4]at HS2;have q2:=HS2.cl M1 0;obtain⟨R,hR⟩:=eX (w4.heap.size)
  go_wp2_with (at_make;refine Zk LW (.tmp 28) (.tmp 28) rfl rfl HS2 hR rfl rfl (by omega) (by omega) GQ ?_;intro w5 HS5;rw [D7]at HS5)
  have HS6:Sp w5 [RowA 143 1 (.slice (some ⟨R,0,none⟩) n n) n (([]:aE).map OE++List.replicate (n - 0) (.pointer none)),zz (Zb A n c [] fun _=>fs0),BlkA Mb 141 #[.slice none 0 0,.slice none 0 0,.slice none 0 0],BlkA H 24 #[.slice A n c],OldA w.heap.size w]:=HS5.starNil.p1;clear HS1 HS2 HS5 q1 q2 hMb hw4 hR
  go_loopg [32] n (fun gk v32 wr=>∃(k:Nat) (Gs:aE),v32= .int .i64 k/\k<=n/\gk=n - k/\Hid (Gs.length=k)/\Sp wr [RowA 143 1 (.slice (some ⟨R,0,none⟩) n n) n (Gs.map OE++List.replicate (n - k) (.pointer none)),zz (Zb A n c Gs fun _=>fs0),BlkA Mb 141 #[.slice none 0 0,.slice none 0 0,.slice none 0 0],BlkA H 24 #[.slice A n c],OldA w.heap.size w])
  case atStart=>exact⟨0, [],by go_num,zJ _,rfl,rfl,HS6⟩
  case round=>
   obtain⟨k,Gs,rfl,hk,rfl,hGs,HS⟩:=hrel;clear HS6
   by_cases hkn:k<n
   ·have q1:=HS.cl M3 0;obtain⟨T,hT⟩:=eX (wr.heap.size);have hmk:=fun w=>run_makeMap (P:=prog) 144 w;have HSa:=(HS.mapNew (P:=prog) (k:=9) hT).blkH 152 #[.slice none 0 0,.slice none 0 0,.slice none 0 0,.slice none 0 0,.slice none 0 0,.slice none 0 0,.slice A n c,.int .i64 (k:Int),.map (some T)] (H:=T+1) (by simp [hT])
    obtain⟨w4,hw4⟩:=eX ((wr.alloc (.map #[] 0)).alloc (.cells #[.slice none 0 0,.slice none 0 0,.slice none 0 0,.slice none 0 0,.slice none 0 0,.slice none 0 0,.slice A n c,.int .i64 (k:Int),.map (some T)] 152));rw [hw4]at HSa;have q2:w4.cell? ⟨R,k,none⟩=some (.pointer none):=HSa.rowCell M2 (by rw [zR (by rw [zK,hGs.out];exact zC _),zK,hGs.out,yh,List.getElem?_replicate_of_lt (by omega)])
    have q3:=HSa.rowFree M2 k;have HSb:=(Sp.selT [_,_,_] HSa [2,0,1]).rowSet k (OE (T+1));rw [K3 hGs.out hkn]at HSb;have HSc:=Sp.fldNew (Sp.selT [_,_,_] HSb [1,2,0]);have HSd:=(Sp.selT [_,_,_] HSc [0,2,1]).starPush;have e1:=AP A n c Gs (T+1) fun _=>fs0;rw [hGs.out]at e1;rw [<-e1]at HSd;have hGs2:Hid ((Gs++ [T+1]).length=k+1):=(by show _=_;rw [zG,hGs.out];rfl);clear HS HSa HSb HSc e1;go_wp2
    go_roundg (n - (k+1))
    ·exact⟨k+1,Gs++ [T+1],by go_num,by omega,rfl,hGs2,HSd.p1⟩
    ·omega
   ·obtain⟨n,rfl,rfl⟩:∃n',k=n' /\n=n' :=⟨n,by omega,rfl⟩;rw [yh,List.replicate_zero,zo]at HS
    have HS7:Sp wr [RowA 143 1 (.slice (some ⟨R,0,none⟩) n n) n (Gs.map OE),zz (Zb A n c Gs fun i=>stF fs (yv fs items) i 0),BlkA Mb 141 #[.slice none 0 0,.slice none 0 0,.slice none 0 0],UA none 0 0 ((items.take 0).map (·.1.val)),RowA 38 1 (.slice none 0 0) 0 ([]:List aF).flatten,ElsA [] ((items.take 0).map (·.2)),BlkA H 24 #[.slice A n c],OldA w.heap.size w]:=by
     have h:=((HS.elsNil (α:=List Entry)).nil 38 1).nil 35 1;exact Sp.selT [_,_,_,_,_,_,_,_] h [3,4,5,0,1,2,6,7]
    clear HS;go_wp2
    go_loopg [46] m (fun gk v46 wr=>∃(k:Nat) (A0 A1:aA) (c0 c1:Nat) (cds:List aF),v46= .int .i64 k/\k<=m/\gk=m - k/\Hid (∀j x,j<k->items[j]? =some x->∃cs,Yk fs x.2=some cs)/\Sp wr [RowA 143 1 (.slice (some ⟨R,0,none⟩) n n) n (Gs.map OE),zz (Zb A n c Gs fun i=>stF fs (yv fs items) i k),BlkA Mb 141 #[.slice A0 k c0,.slice A1 k c1,.slice none 0 0],UA A0 k c0 ((items.take k).map (·.1.val)),RowA 38 1 (.slice A1 k c1) k cds.flatten,ElsA cds ((items.take k).map (·.2)),BlkA H 24 #[.slice A n c],OldA w.heap.size w])
    case atStart=>exact⟨0,none,none,0,0, [],by go_num,zJ _,rfl,fun j x hj=>by omega,HS7⟩
    case round=>
     obtain⟨k,A0,A1,c0,c1,cds,rfl,hk,rfl,hdk,HS⟩:=hrel;clear HS7
     by_cases hkm:k<m
     ·obtain⟨b,off,x,rfl,hxe,hb,hee⟩:=HI.out.at_ hkm
      obtain⟨Ax,nx,cx,E0,E1,hx,hsq⟩:=xw.at_ hee
      have E0:wr.cell? _=_:=((HS.below M7).cell hb).trans E0;have E1:wr.cell? _=_:=((HS.below M7).cell hb).trans E1;obtain⟨sq,hsqv⟩:=eX (x.1.val);rw [hsqv]at E0 hsq;obtain⟨Ib,hIb⟩:=eX (wr.heap.size);have HSe:=HS.blkH 40 #[.int .u64 (sq:Int),.slice Ax nx cx] hIb;obtain⟨w4,hw4⟩:=eX (wr.alloc (.cells #[.int .u64 (sq:Int),.slice Ax nx cx] 40));rw [hw4]at HSe;have Hbw:=HSe.below M8
      have Hdn:=zA (hx.in_nums);have HC:=zA (FY A Ax n c nx cx fs x.2 w4 (HV.out.on Hbw) (Hs.out.on Hbw) (hx.on Hbw) (Hz.out x (zD hxe.out)));have Hx:=zA hx;have q0:=HSe.cl M7 0;have q1:=HSe.cl M0 1;have Hsq:=zA hsqv;clear HS hee hx Hbw hsqv;go_upto_region 14 with fail;clear hw4 hIb E0 E1;unfold oH at HC;rcases hcp:Yk fs x.2 with _|cs
      ·rw [hcp]at HC;go_wp2_with fail;refine HC.out.mono ?_;rintro r w5 ⟨er,rfl,her0,hb5⟩;have hbb:=zA ((HSe.grow hb5).below M8);have Her0:=zA her0;have her1:(er !=0)=true:=(by simpa using her0);clear HSe HC hb5 her0;go_wp2;go_ret2;exact .inl ⟨er,Her0.out,fun g=>(by obtain⟨cs,hcs⟩:=g.2 x (zD hxe.out);rw [hcp]at hcs;cases hcs),rfl,hbb.out⟩
      ·rw [hcp]at HC;have Hcp:=zA hcp;clear hcp;go_wp2_with fail;refine HC.out.mono ?_;rintro r w5 ⟨Ac,nc,cc,rfl,HS5⟩;have HS6:=HSe.c1 HS5;clear HSe HC HS5 q0 q1;go_upto_region 17 with fail;have HSd:=(Sp.selT [_,_,_,_,_,_,_,_,_,_] HS6 [5,0,1,2,3,4,6,7,8,9]).drew;clear HS6
       refine gR [(8,fun w=>w.cell? ⟨Mb,0,none⟩=some (.slice A0 k c0)),(7,fun w=>w.cell? ⟨Ib,0,none⟩=some (.int .u64 (sq:Int)))] (zg (HSd.cell M5 0) (hB (HSd.cell M2 0))) ?_;refine gF 0 ?_;refine gF 1 ?_;refine gF 2 ?_;refine gF 3 ?_;refine gL 4 8 M0 ?_;refine gF 5 ?_;refine gL 6 7 M1 ?_;intro hC;refine gO 7 fun K hK=> ?_;go_simp
       refine hK.out _ _ (zg ((ON (HSd.cell M5 0) _).trans rfl) (hB ((ON (HSd.cell M2 0) _).trans rfl))) ?_;clear hK K hC;intro hC;refine gO 8 fun K hK=> ?_;refine yz cQ (.tmp 65) (.tmp 68) rfl rfl HSd rfl (cs:= #[.int .u64 (sq:Int)]) rfl rfl rfl (by intro u hu;simp at hu;subst hu;rfl) (by omega) (by omega) ?_;intro A8 c8 w8 hc8 hm8 HS8;refine hK.out _ _ hA ?_;clear hK K hC;refine gF 9 ?_
       refine gF 10 ?_;intro hC;have y0:=HS8.cl M5 0;have y1:=(HS8.blkOf M5).frozen 0;refine gO 11 fun K hK=> ?_;go_simp;refine hK.out _ _ hA ?_;clear hK K hC;intro hC;refine xW (by kernel_rfl) ?_;have e1:uC ((items.take k).map (·.1.val))++(#[Value.int .u64 (sq:Int)]:aG).toList=uC ((items.take (k+1)).map (·.1.val)):=(by rw [zI,hxe.out];simp [uC,<-Hsq.out]);rw [e1]at HS8
       have HS9:=(Sp.selT [_,_,_,_,_,_] HS8 [5,1,2,3,4,0]).set 0 (.slice A8 (k+1) c8);obtain⟨w9,hw9⟩:=eX (w8.setCell ⟨Mb,0,none⟩ (.slice A8 (k+1) c8));rw [hw9]at HS9⊢;clear HSd HS8 y0 y1 e1 hC hw9;obtain⟨-, -,hck,hdok⟩:=Wu Hdn.out Hcp.out;have hnx:nx<=64:=(by rw [<-Hx.out.length];unfold Y9 at hdok;simp only [zM,decide_eq_true_eq]at hdok;exact hdok.1);clear hck hdok
       have HB:=zA (vE (w:=w9.drew) (Hx.out.on ((HS9.drew).below (.tail _ M8))) hnx (fun e he=>(Hz.out x (zD hxe.out) e he).2));have HSd:=HS9.drew;clear HS9;go_upto_region 18 with fail;refine gR [(9,fun w=>w.cell? ⟨Mb,1,none⟩=some (.slice A1 k c1)),(7,fun w=>w.cell? ⟨Ib,1,none⟩=some (.slice Ax nx cx))] (zg (HSd.cell M0 1) (hB (HSd.cell M2 1))) ?_;refine gF 0 ?_;refine gF 1 ?_;refine gF 2 ?_
       refine gF 3 ?_;refine gL 4 9 M0 ?_;refine gF 5 ?_;refine gL 6 7 M1 ?_;intro hC;refine gO 7 fun K hK=> ?_;go_simp;refine HB.out.mono ?_;rintro r w10 ⟨A9,rfl,HS10⟩;have HS11:=HSd.c1 HS10;refine hK.out _ _ (zg (HS11.cell M1 1) (hB (HS11.cell M3 1))) ?_;clear hK K hC;intro hC;clear HSd HS10 HB;have HS12:=Sp.selT [_,_,_,_,_,_,_,_] HS11 [7,0,1,2,3,4,5,6];clear HS11
       refine gO 8 fun K hK=> ?_;go_simp;refine hK.out _ _ (zg ((ON (HS12.cell M2 1) _).trans rfl) (hB ((ON (HS12.cell M4 1) _).trans rfl))) ?_;clear hK K hC;intro hC;refine gO 9 fun K hK=> ?_;refine yz LZ (.tmp 76) (.tmp 80) rfl rfl HS12 rfl (cs:= #[.slice A9 nx nx]) rfl rfl rfl (by intro u hu;simp at hu;subst hu;rfl) (by omega) (by omega) ?_;intro Ad cd w11 hcd hmd HS13
       refine hK.out _ _ hA ?_;clear hK K hC;refine gF 10 ?_;refine gF 11 ?_;intro hC;have y0:=HS13.cl M2 1;have y1:=(HS13.blkOf M2).frozen 1;refine gO 12 fun K hK=> ?_;go_simp;refine hK.out _ _ hA ?_;clear hK K hC;intro hC;refine xW (by kernel_rfl) ?_;have e1:cds.flatten++(#[Value.slice A9 nx nx]:aG).toList=(cds++ [[Value.slice A9 nx nx]]).flatten:=(by simp)
       have e2:(items.take (k+1)).map (·.2)=(items.take k).map (·.2)++ [x.2]:=(by rw [zI,hxe.out];simp);rw [e1]at HS13;have HS14:=(Sp.selT [_,_,_] HS13 [2,0,1]).set 1 (.slice Ad (k+1) cd);obtain⟨w12,hw12⟩:=eX (w11.setCell ⟨Mb,1,none⟩ (.slice Ad (k+1) cd));rw [hw12]at HS14⊢;have HS15:=(Sp.selT [_,_,_,_,_,_,_,_,_] HS14 [2,8,0,1,3,4,5,6,7]).elsPush;rw [<-e2]at HS15
       clear HS12 HS13 HS14 y0 y1 e1 e2 hC hw12;go_wp2
       obtain⟨LL,hLL⟩:=eX ( [ElsA (cds++ [[Value.slice A9 nx nx]]) ((items.take (k+1)).map (·.2)),BlkA Mb 141 #[.slice A8 (k+1) c8,.slice Ad (k+1) cd,.slice none 0 0],RowA 38 1 (.slice Ad (k+1) cd) (k+1) (cds++ [[Value.slice A9 nx nx]]).flatten,BlkA Ib 40 #[.int .u64 (sq:Int),.slice Ax nx cx],UA A8 (k+1) c8 ((items.take (k+1)).map (·.1.val)),BlkA H 24 #[.slice A n c]])
       have HS16:Sp w12 (zz (Zb A n c Gs fun j=>if j<0 then stF fs (yv fs items) j (k+1)else stF fs (yv fs items) j k)::DatA (.slice Ac nc cc) cs::RowA 143 1 (.slice (some ⟨R,0,none⟩) n n) n (Gs.map OE)::OldA w.heap.size w::LL):=by
        rw [<-hLL];simp only [Nat.not_lt_zero,if_false];exact Sp.selT [_,_,_,_,_,_,_,_,_,_] HS15 [6,3,5,9,0,1,2,4,7,8]
       have HLL:=zA hLL;clear HS15 hLL
       go_loopg [86] n (fun gi v86 wr=>∃i:Nat,v86= .int .i64 i/\i<=n/\gi=n - i/\Sp wr (zz (Zb A n c Gs fun j=>if j<i then stF fs (yv fs items) j (k+1)else stF fs (yv fs items) j k)::DatA (.slice Ac nc cc) cs::RowA 143 1 (.slice (some ⟨R,0,none⟩) n n) n (Gs.map OE)::OldA w.heap.size w::LL))
       case atStart=>exact⟨0,by go_num,zJ _,rfl,HS16⟩
       case round=>
        obtain⟨i,rfl,hin,rfl,HS⟩:=hrel;clear HS16
        by_cases hi:i<n
        ·obtain⟨f,hf⟩:∃f,fs[i]? =some f:=⟨_,zB (by rw [Hlen.out];exact hi)⟩;obtain⟨G,hG⟩:∃G,Gs[i]? =some G:=⟨_,zB (by rw [hGs.out];exact hi)⟩;have t0:wr.cell? ⟨R,i,none⟩=some (.pointer (some ⟨G,0,none⟩)):=HS.rowCell M2 (by rw [zH,hG];rfl);obtain⟨I,hI⟩:=eX (wr.heap.size)
         have HSi:=(HS.starAt (eB (A:=A) (n:=n) (c:=c) (X:=fun j=>if j<i then stF fs (yv fs items) j (k+1)else stF fs (yv fs items) j k) hG)).blkH 3 #[.int .i64 (i:Int)] hI;simp only [Nat.lt_irrefl,if_false]at HSi;obtain⟨fa,hfa,HSj⟩:=Sp.fldOut HSi.p1;obtain⟨w13,hw13⟩:=eX (wr.alloc (.cells #[.int .i64 (i:Int)] 3));rw [hw13]at HSj;clear HS HSi;subst hfa;have hkd:=(WW Hsb.out hf).2.1
         have hob:=HSj.below (show OldA w.heap.size w∈_ from by simp [fldL]);have HK:=zA (CB (w:=w13) (Hs.out.on hob) hf hkd (HSj.cell (show BlkA fa.G _ _∈_ from M0) 6) (HSj.cell (show BlkA fa.G _ _∈_ from M0) 7) (HSj.blkOf (show BlkA fa.G 152 _∈_ from M0)).lt);obtain⟨-,hcs64,hcok, -⟩:=Wu Hdn.out Hcp.out;have Hcok:=zA hcok;have Hf:=zA hf;have HG:=zA hG;have hmf:=@mF prog
         have hkf:=LO f.kind;clear hob hcok hf hG;go_upto_region 22 with fail;clear hw13 hI t0
         go_wp2_with (first
          |(go_at_call 62;go_loud (refine HK.out.mono ?_;rintro r w14 ⟨rfl,hb14⟩;have HSk:=Sp.selT [_,_,_,_,_,_,_,_,_,_,_,_,_,_] (HSj.grow hb14) [11,0,1,2,3,4,5,6,7,8,9,10,12,13];have hcl:=(HSk.ls M0).length;obtain⟨css0,hcl0,hrc,HSr⟩:=HSk.readOut;have hnc:nc<=64:=(by rw [<-hcl];exact hcs64);have HCl:=zA (BD Ac nc cc css0.flatten w14 (by omega) hrc.reads HSr.readOne);clear HSj HSk hb14))
          |(go_at_call 64;go_loud (refine HCl.out.mono ?_;rintro r w15 ⟨Aq,cq,rfl,hrow,hb15⟩;have HSs:=Sp.selT [_,_,_,_,_,_,_,_,_,_,_,_] (HSr.row hrow hb15) [0,1,11,2,3,4,5,6,7,8,9,10];have hcq:=(HSs.rowOf M0).cap;have HDe:=zA (uU HSs hcl hnc hcq.2.1 hcq.2.2);clear hrow hb15 HSr HSs hrc HCl))
          |(go_at_call 63;go_loud (refine HDe.out.mono ?_;rintro r w16 ⟨n',css',rfl,hn',HSt⟩;clear HDe))
          |fail)
         have HSb:Sp w16 (fldL A n c i fa (stF fs (yv fs items) i k)++(Z1 [.slice Ac nc cc] cs [.slice Aq n' cq] (Xv i cs)::BlkA I 3 #[.int .i64 (i:Int)]::zz ((Zb A n c Gs fun j=>if j<i then stF fs (yv fs items) j (k+1)else stF fs (yv fs items) j k).eraseIdx i)::RowA 143 1 (.slice (some ⟨R,0,none⟩) n n) n (Gs.map OE)::OldA w.heap.size w::LL)):=Sp.selT [_,_,_,_,_,_,_,_,_,_,_] HSt.bothIn [2,3,4,5,6,7,8,9,10,0,1]
         have hob:=HSb.below (show OldA w.heap.size w∈_ from by simp [fldL]);refine(vD (HV.out.tabs.on hob) (Hs.out.on hob) Hsb.out Hf.out (dA Hsb.out Hf.out (dY HI.out) k (by omega)) (by omega) (j8 Hf.out Hcok.out) (zY (iL _ _) hcs64) (fun c hc=>by have h:=(Hcok.out c (List.mem_filter.1 hc).1).1;exact⟨zY h.1 (by decide),zY h.2 (by decide)⟩) HSb).mono ?_;rintro r w17 ⟨rfl,a',ha',HSu⟩
         have hst:Zc fs i f.kind k (Xv i cs) (stF fs (yv fs items) i k)=stF fs (yv fs items) i (k+1):=by
          have h1:QC fs i=f.kind:=(by unfold QC;rw [Hf.out];rfl);have h2:yv fs items k=cs:=(by unfold yv;rw [hxe.out];simp [Hcp.out]);show _=Zc fs i (QC fs i) k (Xv i (yv fs items k)) _;rw [h1,h2]
         rw [hst]at HSu;have HSv:=Sp.fldIn ha' HSu;have HSw:=(Sp.selT [_,_,_,_] HSv [1,0,3]).readBack;have HSx:=Sp.starSet (Sp.selT [_,_,_] HSw [1,2,0]) (by unfold Zb;rw [zK,xg,hGs.out];exact hi)
         have hse:=E7 (A:=A) (n:=n) (c:=c) (X:=fun j=>if j<i then stF fs (yv fs items) j (k+1)else stF fs (yv fs items) j k) (Y:=fun j=>if j<i+1 then stF fs (yv fs items) j (k+1)else stF fs (yv fs items) j k) HG.out (fun j hj=>JJ _ _ hj);simp only [Nat.lt_succ_self,if_true]at hse;rw [hse]at HSx;clear HSt HSb hob HSu hst HSv HSw hse hmf hkf;go_wp2
         go_roundg (n - (i+1))
         ·exact⟨i+1,by go_num,by omega,rfl,HSx⟩
         ·omega
        ·obtain rfl:i=n:=by omega
         have hX:(Zb A i c Gs fun j=>if j<i then stF fs (yv fs items) j (k+1)else stF fs (yv fs items) j k)=Zb A i c Gs fun j=>stF fs (yv fs items) j (k+1):=by
          unfold Zb;refine List.map_congr_left fun j hj=> ?_;rw [List.mem_range,hGs.out]at hj;simp only [if_pos hj]
         rw [hX,<-HLL.out]at HS;have HSy:=Sp.selT [_,_,_,_,_,_,_,_,_,_] HS [2,0,5,8,6,4,9,3]
         have hdk2:Hid (∀j x,j<k+1->items[j]? =some x->∃cs,Yk fs x.2=some cs):=fun j y hj hy=>by
          by_cases h:j<k
          ·exact hdk.out j y h hy
          ·obtain rfl:j=k:=by omega
           rw [hxe.out]at hy;cases hy;exact⟨cs,Hcp.out⟩
         clear HS hX;go_wp2
         go_roundg (m - (k+1))
         ·exact⟨k+1,A8,Ad,c8,cd,_,by go_num,by omega,rfl,hdk2,HSy⟩
         ·omega
     ·obtain rfl:k=m:=by omega
      rw [zF (by rw [Hilen.out];exact zC _)]at HS
      have HS8:Sp wr [zz ((Zb A n c Gs fun j=>stF fs (yv fs items) j k).drop 0),RowA 143 1 (.slice (some ⟨R,0,none⟩) n n) n (Gs.map OE),BlkA Mb 141 #[.slice A0 k c0,.slice A1 k c1,.slice none 0 0],RowA 150 6 (.slice none 0 0) 0 ([]:List aF).flatten,ElsA ([]:List aF) ((Zz fs items).take 0),UA A0 k c0 (items.map (·.1.val)),RowA 38 1 (.slice A1 k c1) k cds.flatten,ElsA cds (items.map (·.2)),BlkA H 24 #[.slice A n c],OldA w.heap.size w]:=by
       have h:=(HS.elsNil (α:=N8)).nil 150 6;exact Sp.selT [_,_,_,_,_,_,_,_,_,_] h [3,2,4,0,1,5,6,7,8,9]
      clear HS;go_wp2
      go_loopg [103] n (fun gi v103 wr=>∃(i:Nat) (A2:aA) (c2:Nat) (cis:List aF),v103= .int .i64 i/\i<=n/\gi=n - i/\Sp wr [zz ((Zb A n c Gs fun j=>stF fs (yv fs items) j k).drop i),RowA 143 1 (.slice (some ⟨R,0,none⟩) n n) n (Gs.map OE),BlkA Mb 141 #[.slice A0 k c0,.slice A1 k c1,.slice A2 i c2],RowA 150 6 (.slice A2 i c2) i cis.flatten,ElsA cis ((Zz fs items).take i),UA A0 k c0 (items.map (·.1.val)),RowA 38 1 (.slice A1 k c1) k cds.flatten,ElsA cds (items.map (·.2)),BlkA H 24 #[.slice A n c],OldA w.heap.size w])
      case atStart=>exact⟨0,none,0, [],by go_num,zJ _,rfl,HS8⟩
      case round=>
       obtain⟨i,A2,c2,cis,rfl,hin,rfl,HS⟩:=hrel;clear HS8
       by_cases hi:i<n
       ·obtain⟨f,hf⟩:∃f,fs[i]? =some f:=⟨_,zB (by rw [Hlen.out];exact hi)⟩;obtain⟨G,hG⟩:∃G,Gs[i]? =some G:=⟨_,zB (by rw [hGs.out];exact hi)⟩;have t0:wr.cell? ⟨R,i,none⟩=some (.pointer (some ⟨G,0,none⟩)):=HS.rowCell M1 (by rw [zH,hG];rfl)
        have hdr:(Zb A n c Gs fun j=>stF fs (yv fs items) j k).drop i=FldA A n c i G (stF fs (yv fs items) i k)::(Zb A n c Gs fun j=>stF fs (yv fs items) j k).drop (i+1):=by
         obtain⟨hl,he⟩:=List.getElem?_eq_some_iff.1 (eB (A:=A) (n:=n) (c:=c) (X:=fun j=>stF fs (yv fs items) j k) hG);rw [za hl,he]
        rw [hdr]at HS;have ok:=dA Hsb.out hf (dY HI.out) k (by omega)
        have hti:(Zz fs items).take (i+1)=(Zz fs items).take i++ [VH (stF fs (yv fs items) i k)]:=by
         rw [zI];unfold Zz;rw [zH,zq (by rw [Hlen.out];exact hi),Hilen.out];rfl
        obtain⟨x,hx⟩:=eX (stF fs (yv fs items) i k);rw [hx]at HS ok hti;obtain⟨fa,hfa,HSj⟩:=Sp.fldOut HS.starOut;subst hfa;have b2:=ok.ln;have h1:=Sp.ints (Sp.selT [_,_,_,_,_,_,_,_,_] HSj [2,3,4,5,6,7,8,0,1]) (fun v hv=>ok.li v hv);have h2:=Sp.els (α:=List aB) (Sp.selT [_,_,_] h1 [1,2,0]);have h3:=Sp.els (α:=aD) (Sp.selT [_,_,_,_] h2 [2,3,1,0])
        have h4:=Sp.els (α:=Pt) (Sp.selT [_,_,_,_,_] h3 [3,4,2,1,0]);have h5:=(Sp.selT [_,_,_,_,_,_] h4 [5,4,2,1,3,0]).drew;have HD:=zA (CC (N:=262144*k) ok.sz (by omega) ok.it h5 rfl rfl rfl rfl rfl rfl rfl);have Hti:=zA hti;clear HS HSj h1 h2 h3 h4 hdr hti ok hf hx hG b2;go_upto_region 28 with fail;refine gR [(8,fun w=>w.cell? ⟨Mb,2,none⟩=some (.slice A2 i c2))] (hB (h5.cell M8 2)) ?_
        refine gF 0 ?_;refine gF 1 ?_;refine gF 2 ?_;refine gF 3 ?_;refine gL 4 8 M0 ?_;refine gF 5 ?_;intro hC;refine gO 6 fun K hK=> ?_;go_simp;refine HD.out.mono ?_;rintro r w5 ⟨v0,v1,rfl,HSk⟩;refine hK.out _ _ (hB (HSk.cell M8 2)) ?_;clear hK K hC;intro hC;clear h5 HD t0;have HSm:=Sp.selT [_,_,_,_,_,_,_,_,_,_] HSk [9,0,1,2,3,4,5,6,7,8]
        have hone:∀u∈ [v0,v1,Value.slice fa.A2 x.lens.length x.lens.length,.slice fa.A3 x.tx.length x.tx.length,.slice fa.A4 x.nums.length x.nums.length,.slice fa.A5 x.pts.length x.pts.length],u.oneCell' =true:=by
         intro u hu;simp only [yx,xZ,or_false]at hu;rcases hu with rfl|rfl|rfl|rfl|rfl|rfl
         ·exact Rep.one (HSk.dat M0) (by simp)
         ·exact Rep.one (HSk.dat M1) (by simp)
         all_goals rfl
        clear HSk;refine gO 7 fun K hK=> ?_;go_simp;refine hK.out _ _ (hB ((ON (HSm.cell (.tail _ M8) 2) _).trans rfl)) ?_;clear hK K hC;intro hC;refine gO 8 fun K hK=> ?_
        refine yz LX (.tmp 111) (.tmp 114) rfl rfl HSm rfl (cs:= #[v0,v1,.slice fa.A2 x.lens.length x.lens.length,.slice fa.A3 x.tx.length x.tx.length,.slice fa.A4 x.nums.length x.nums.length,.slice fa.A5 x.pts.length x.pts.length]) rfl rfl rfl hone (by omega) (by omega) ?_;intro A8 c8 w8 hc8 hm8 HSn;refine hK.out _ _ hA ?_;clear hK K hC;refine gF 9 ?_;refine gF 10 ?_;intro hC
        have y0:=HSn.cl (.tail _ M8) 2;have y1:=(HSn.blkOf (t:=141) (.tail _ M8)).frozen 2;refine gO 11 fun K hK=> ?_;go_simp;refine hK.out _ _ hA ?_;clear hK K hC;intro hC;refine xW (by kernel_rfl) ?_;have HSo:=(Sp.selT [_,_,_,_,_,_,_,_,_,_] HSn [9,0,1,2,3,4,5,6,7,8]).set 2 (.slice A8 (i+1) c8);obtain⟨w9,hw9⟩:=eX (w8.setCell ⟨Mb,2,none⟩ (.slice A8 (i+1) c8));rw [hw9]at HSo⊢
        have g1:=(Sp.selT [_,_,_,_,_,_,_,_] HSo [6,7,0,1,2,3,4,5]).mk2 (x:=(x.nums,x.pts)) (fun S a b=>⟨_,_,rfl,a,b⟩);have g2:=(Sp.selT [_,_,_,_,_,_,_] g1 [6,0,1,2,3,4,5]).mk2 (x:=(x.tx,x.nums,x.pts)) (fun S a b=>⟨_,_,rfl,a,b⟩);have g3:=(Sp.selT [_,_,_,_,_,_] g2 [5,0,1,2,3,4]).mk2 (x:=(x.lens,x.tx,x.nums,x.pts)) (fun S a b=>⟨_,_,rfl,a,b⟩)
        have g4:=(Sp.selT [_,_,_,_,_] g3 [4,0,1,2,3]).mk2 (x:=(Y2 x.td,x.lens,x.tx,x.nums,x.pts)) (fun S a b=>⟨_,_,rfl,a,b⟩);have g5:=(Sp.selT [_,_,_,_] g4 [3,0,1,2]).mk2 (x:=VH x) (fun S a b=>⟨_,_,rfl,a,b⟩);have g6:=(Sp.selT [_,_,_,_,_,_] g5 [0,5,1,2,3,4]).elsPush;rw [<-Hti.out]at g6
        have e1:cis.flatten++(#[v0,v1,Value.slice fa.A2 x.lens.length x.lens.length,.slice fa.A3 x.tx.length x.tx.length,.slice fa.A4 x.nums.length x.nums.length,.slice fa.A5 x.pts.length x.pts.length]:aG).toList=(cis++ [[v0]++([v1]++([Value.slice fa.A2 x.lens.length x.lens.length]++([Value.slice fa.A3 x.tx.length x.tx.length]++([Value.slice fa.A4 x.nums.length x.nums.length]++ [Value.slice fa.A5 x.pts.length x.pts.length]))))]).flatten:=(by simp)
        rw [e1]at g6;have g7:=Sp.selT [_,_,_,_,_,_,_,_,_,_] g6 [3,4,1,2,0,5,6,7,8,9];clear HSm HSn HSo g1 g2 g3 g4 g5 g6 e1 y0 y1 hC hw9 hone;go_wp2
        go_roundg (n - (i+1))
        ·exact⟨i+1,A8,c8,_,by go_num,by omega,rfl,g7⟩
        ·omega
       ·obtain rfl:i=n:=by omega
        rw [zF (by unfold Zz;rw [zK,xg,Hlen.out];exact zC _)]at HS;have HSd:=(Sp.selT [_,_,_] HS [2]).drew;have b0:=(HSd.rowOf M3).cap;have b1:=(HSd.rowOf M4).cap;have b2:=(HSd.rowOf M1).cap;clear HS;go_upto_region 30 with fail
        refine xV [(7,fun w=>w.cell? ⟨Mb,0,none⟩=some (.slice A0 k c0)),(12,fun w=>w.cell? ⟨Mb,1,none⟩=some (.slice A1 k c1)),(17,fun w=>w.cell? ⟨Mb,2,none⟩=some (.slice A2 i c2))] (by kernel_rfl) (zg (HSd.cell M0 0) (zg (HSd.cell M0 1) (hB (HSd.cell M0 2)))) (fun hC=> ?_);obtain⟨wd,hwd⟩:=eX (wr.drew);rw [hwd]at hC HSd⊢;clear hwd;revert hC;refine gF 0 ?_;refine gF 1 ?_;refine gF 2 ?_
        refine gF 3 ?_;refine gF 4 ?_;refine gF 5 ?_;refine gL 6 7 M0 ?_;refine gF 8 ?_;refine gF 9 ?_;refine gF 10 ?_;refine gL 11 12 M1 ?_;refine gF 13 ?_;refine gF 14 ?_;refine gF 15 ?_;refine gL 16 17 M2 ?_;intro hC;refine gO 7 fun K hK=> ?_;go_simp;refine(KA A0 k c0 _ b0.2.1 b0.2.2).mono ?_;rintro e w' ⟨rfl,rfl⟩;refine hK.out _ _ (xz hC) ?_;clear hK K hC;intro hC
        refine gO 12 fun K hK=> ?_;go_simp;refine(KD A1 k c1 _ b1.2.1 b1.2.2).mono ?_;rintro e w' ⟨rfl,rfl⟩;refine hK.out _ _ (xz hC) ?_;clear hK K hC;intro hC;refine gO 17 fun K hK=> ?_;go_simp;refine(KC A2 i c2 _ b2.2.1 b2.2.2).mono ?_;rintro e w' ⟨rfl,rfl⟩;refine hK.out _ _ (xz hC) ?_;clear hK K hC;intro hC;have y0:=HSd.cl M0 0;have k0:=(HSd.blkOf M0).frozen 0;revert hC;refine gF 18 ?_
        refine gF 19 ?_;intro hC;refine gO 20 fun K hK=> ?_;go_simp;refine hK.out _ _ hA ?_;clear hK K hC;intro hC;have HS1:=HSd.set 0 (.slice A0 k k);obtain⟨x1,hx1⟩:=eX (wd.setCell ⟨Mb,0,none⟩ (.slice A0 k k));rw [hx1]at HS1 hC⊢;clear hx1 HSd;have y1:=HS1.cl M0 1;have k1:=(HS1.blkOf M0).frozen 1;revert hC;refine gF 21 ?_;refine gF 22 ?_;intro hC;refine gO 23 fun K hK=> ?_;go_simp
        refine hK.out _ _ hA ?_;clear hK K hC;intro hC;have HS2:=HS1.set 1 (.slice A1 k k);obtain⟨x2,hx2⟩:=eX (x1.setCell ⟨Mb,1,none⟩ (.slice A1 k k));rw [hx2]at HS2 hC⊢;clear hx2 HS1;have y2:=HS2.cl M0 2;have k2:=(HS2.blkOf M0).frozen 2;revert hC;refine gF 24 ?_;refine gF 25 ?_;intro hC;refine gO 26 fun K hK=> ?_;go_simp;refine hK.out _ _ hA ?_;clear hK K hC;intro hC
        have HS3:=HS2.set 2 (.slice A2 i i);obtain⟨x3,hx3⟩:=eX (x2.setCell ⟨Mb,2,none⟩ (.slice A2 i i));rw [hx3]at HS3 hC⊢;clear hx3 HS2 y0 y1 y2 k0 k1 k2;refine xW (by kernel_rfl) ?_;have a1:=(Sp.selT [_,_,_,_,_,_] HS3 [3,0,1,2,4,5]).clip;have e1:=oJ items;rw [e1]at a1;have a2:=a1.flat (α:=U64) (fun u hu=>⟨rfl,lM HI.out u hu⟩)
        have a3:=((Sp.selT [_,_,_,_,_,_] a2 [4,5,0,1,2,3]).clip).els (α:=List Entry);have a4:=((Sp.selT [_,_,_,_,_] a3 [3,4,0,1,2]).clip).els (α:=N8);have a5:=Sp.selT [_,_,_,_,_,_] a4 [3,2,1,0,5];clear HS3 a1 a2 a3 a4 e1 hC b0 b1 b2;go_wp2;go_ret2;refine .inr ⟨Mb,A0,A1,A2,?_,⟨Her.out,fun x hx=> ?_⟩,?_⟩
        ·rfl
        ·obtain⟨j,hj⟩:=z8 hx;exact hdk.out j x (by rw [<-Hilen.out];exact zN hj) hj
        ·rw [Hilen.out,Hlen.out];exact a5
 ·go_wp2;go_ret2;exact .inl ⟨er,her0,fun g=>her0 (Her.out.symm.trans g.1),rfl,HS1.below M1⟩
theorem tU {docs:N7} (hn:docs.length<=16384) (hok:∀d∈docs,Y9 d=true/\QB d):(ZB docs).length<=6000000000:=by
 have h1:(docs.flatMap docB).length<=300000*docs.length:=Wr fun d hd=>nX (hok d hd).1 (hok d hd).2
 have h2:((yL docs).flatMap ZF).length<=20*(yL docs).length:=Wr fun g hg=>by
  have a1:=XN (f:=grpB) hg;rw [XO]at a1;have a2:=XD hg;rw [ZK]at a2;have b1:=ya (n:=g.length) (by omega);have b2:=ya (n:=(grpB g).length) (by omega);unfold ZF;rw [zG];omega
 have h3:=Qi docs;have h4:=ya (n:=docs.length) (by omega);have h5:=ya (n:=(yL docs).length) (by omega);unfold ZB;rw [XO];simp only [zG];omega
def seqI (u:U64):Int:=IntKind.i64.wrap (u.val:Int)
theorem oQ (u:U64): -9223372036854775808<=seqI u/\seqI u<=9223372036854775807:=by
 unfold seqI;rw [zT];omega
def QU (us:List U64):aC:=zP us.length++putL (us.map seqI)
def YU (f:Field) (x:N8):List aC:=Ze f x.1 x.2.1 x.2.2.1 x.2.2.2.1 x.2.2.2.2.1 x.2.2.2.2.2
def XG (fs:List Field) (invs:List N8) (k:Nat):List aC:=((fs.zip invs).take k).flatMap fun p=>YU p.1 p.2
def xl (fs:List Field) (us:List U64) (docs:N7) (invs:List N8):List aC:=QU us::ZB docs::XG fs invs fs.length
theorem DB (f:Field) (x:N8):(YU f x).length<=3:=by
 unfold YU Ze
 split
 ·simp
 split
 ·simp
 split
 ·simp
 ·simp
theorem JX:Elt prog 179 36 1 24:=xt (by kernel_rfl) (by decide) (by kernel_rfl)
theorem Sp.refs {α:Type} [Rep α] {w w0:O} {L:List Asn} {A:aA} {k c B:Nat} {e:TypeId} {vs:aF} {xs:List (List α)} (h:Sp w L) (hm:RowA e 1 (.slice A k c) k vs∈L) (ho:OldA B w0∈L) (hl:xs.length=k)
 (hv:∀(j:Nat) (x:List α),xs[j]? =some x->∃A n c,vs[j]? =some (.slice A n c)/\zL w0 (·<B) A n c x):zL w (·<w.heap.size) A k c xs:=by
 have hb:=h.below ho
 have hB:B<=w.heap.size:=by
  obtain⟨S,h1,h2,h3⟩:=h.get ho;exact zY h2 h3.size
 have hr:=h.rowOf hm;refine⟨hl,hr.cap.2.1,hr.cap.2.2,fun j x hx=> ?_⟩;obtain⟨Ax,nx,cx,hv1,hv2⟩:=hv j x hx;have hj:=zN hx;obtain⟨b,rfl, -, -⟩:=hr.at_ (by omega)
 refine⟨b,0,rfl,(hr.lt b rfl).2, [.slice Ax nx cx],⟨Ax,nx,cx,rfl,(hv2.keep (fun p hp=>hb.cell hp) fun q hq=>zX hq hB)⟩,fun i u hu=> ?_⟩;rcases i with _|i
 ·cases hu;have:=h.rowCell hm hv1;rw [zx,show Rep.size (List α)=1 from rfl,yr,yt];exact this
 ·simp at hu
theorem Sp.unels {α:Type} [Rep α] {w:O} {L:List Asn} {A:aA} {n c:Nat} {xs:List α} (h:Sp w (DatA (.slice A n c) xs::L)):∃css:List aF,css.length=n/\RC w (Rep.size α) A n css.flatten/\Sp w (ElsA css xs::L):=by
 obtain⟨S,h1,⟨⟨A',n',c',e,hr⟩,hS⟩,h3⟩:=h;cases e;obtain⟨css,hl,hc,hrc⟩:=hr.css hS;exact⟨css,by rw [hl,hr.length],hrc,S,h1,⟨⟨hl,hc⟩,hS⟩,h3⟩
theorem zL.rbs {w:O} {A:aA} {n c:Nat} {ls:List aC} (h:zL w (·<w.heap.size) A n c ls):OY w A n ls:=
 ⟨h.length,fun k l hl=>by
  obtain⟨b,off,rfl,hb,he⟩:=h.2.2.2 k l hl;obtain⟨A',n',c',hc,hr⟩:=he.list;have e:=hr.length;subst e;exact⟨b,off,A',c',rfl,hb,hc,hr.rb fun _ h=>h,zY hr.cap.1 hr.cap.2⟩⟩
theorem jU {B:Nat}:∀{ls:List aC},(∀s∈ls,s.length<=B)->ls.flatten.length<=B*ls.length
 | [],_=>by simp
 |s::ls,h=>by
  have h1:=h s (by simp);have h2:=jU (B:=B) (ls:=ls) fun t ht=>h t (by simp [ht]);rw [yM,zG,z6,Nat.mul_add];omega
theorem N8.at_ {w:O} {F:Nat->Prop} {b off k:Nat} {x:N8} (h:xp w F b off k x):∃(A0 A1 A2 A3 A4 A5:aA) (n0 c0 n1 c1 n2 c2 n3 c3 n4 c4 n5 c5:Nat),
 (w.cell? ⟨b,off+k*6,none⟩=some (.slice A0 n0 c0)/\w.cell? ⟨b,off+k*6+1,none⟩=some (.slice A1 n1 c1)/\w.cell? ⟨b,off+k*6+2,none⟩=some (.slice A2 n2 c2)/\w.cell? ⟨b,off+k*6+3,none⟩=some (.slice A3 n3 c3)/\w.cell? ⟨b,off+k*6+4,none⟩=some (.slice A4 n4 c4)/\w.cell? ⟨b,off+k*6+5,none⟩=some (.slice A5 n5 c5))/\
 zL w F A0 n0 c0 x.1/\zL w F A1 n1 c1 x.2.1/\zL w F A2 n2 c2 x.2.2.1/\zL w F A3 n3 c3 x.2.2.2.1/\zL w F A4 n4 c4 x.2.2.2.2.1/\zL w F A5 n5 c5 x.2.2.2.2.2:=by
 obtain⟨cs,⟨_,_,rfl,⟨A0,n0,c0,rfl,h0⟩,_,_,rfl,⟨A1,n1,c1,rfl,h1⟩,_,_,rfl,⟨A2,n2,c2,rfl,h2⟩,_,_,rfl,⟨A3,n3,c3,rfl,h3⟩,_,_,rfl,⟨A4,n4,c4,rfl,h4⟩,⟨A5,n5,c5,rfl,h5⟩⟩,hc⟩:=h;exact⟨A0,A1,A2,A3,A4,A5,n0,c0,n1,c1,n2,c2,n3,c3,n4,c4,n5,c5,⟨hc 0 _ rfl,hc 1 _ rfl,hc 2 _ rfl,hc 3 _ rfl,hc 4 _ rfl,hc 5 _ rfl⟩,h0,h1,h2,h3,h4,h5⟩
theorem tD {A A0 A1 A2:aA} {n c m c0 c1 c2 Mb:Nat} {fs:List Field} {us:List U64} {docs:N7} {invs:List N8} {w:O}
 (hs:zL w (·<w.heap.size) A n c fs) (hM0:w.cell? ⟨Mb,0,none⟩=some (.slice A0 m c0)) (hM1:w.cell? ⟨Mb,1,none⟩=some (.slice A1 m c1)) (hM2:w.cell? ⟨Mb,2,none⟩=some (.slice A2 n c2)) (hMb:Mb<w.heap.size)
 (hu:zL w (·<w.heap.size) A0 m c0 us) (hd:zL w (·<w.heap.size) A1 m c1 docs) (hv:zL w (·<w.heap.size) A2 n c2 invs) (hm:m<=16384) (hn:n<=16) (hok:∀d∈docs,Y9 d=true/\QB d)
 (hi:∀(k:Nat) (f:Field) (x:N8),fs[k]? =some f->invs[k]? =some x->InvOk f x.1 x.2.1 x.2.2.1 x.2.2.2.1 x.2.2.2.2.1 x.2.2.2.2.2) (hk:∀f∈fs,(1<=f.kind/\f.kind<=5)/\(f.kind=5->1<=f.dims/\f.dims<=4)):
 Calls prog 34 #[.agg #[.slice A n c],.pointer (some ⟨Mb,0,none⟩)] w (fH (xR 1 (xl fs us docs invs)=true/\∀(k:Nat) (f:Field) (x:N8),fs[k]? =some f->invs[k]? =some x->WA f x.1 x.2.1) w fun v w' =>∃A' q,v= .slice A' q q/\xR 1 (xl fs us docs invs)=true/\(∀(k:Nat) (f:Field) (x:N8),fs[k]? =some f->invs[k]? =some x->WA f x.1 x.2.1)/\Sp w' [BA A' q q (ZQ 1 (xl fs us docs invs)),OldA w.heap.size w]):=by
 obtain⟨H,hH⟩:=eX (w.heap.size);have HS0:=(Sp.start w).blkH 24 #[.slice A n c] hH;have hcap:=hu.cap;have hcap1:=hd.cap;have hcap2:=hv.cap;have Hs:=zA hs;have Hu:=zA hu;have Hd:=zA hd;have Hv:=zA hv;have Hok:=zA hok;have Hi:=zA hi;have Hk:=zA hk;have HM2:=zA hM2;have HMb:=zA hMb;clear hs hu hd hv hok hi hk;obtain⟨w2,hw2⟩:=eX (w.alloc (.cells #[.slice A n c] 24));rw [hw2]at HS0
 go_enter func34,ntmps34;go_upto_region 3 with fail;clear hw2 hH;have HS1:Sp w2 [IA none 0 0 ((us.take 0).map seqI),RowA 36 1 (.slice none 0 0) 0 [],BlkA H 24 #[.slice A n c],OldA w.heap.size w]:=(HS0.nil 36 1).nil 2 1;have q0:w2.cell? ⟨Mb,0,none⟩=some (.slice A0 m c0):=((HS0.below M1).cell hMb).trans hM0;clear HS0;go_wp2
 go_loopg [5,6,17] m (fun gk v5 v6 v17 wr=>∃(k:Nat) (A5 A6:aA) (c5 c6:Nat) (vs:aF),v5= .slice A5 k c5/\v6= .slice A6 k c6/\v17= .int .i64 k/\k<=m/\gk=m - k/\Hid (vs.length=k/\∀(j:Nat) (x:List Entry),(docs.take k)[j]? =some x->∃A n c,vs[j]? =some (.slice A n c)/\zL w (·<w.heap.size) A n c x)/\Sp wr [IA A5 k c5 ((us.take k).map seqI),RowA 36 1 (.slice A6 k c6) k vs,BlkA H 24 #[.slice A n c],OldA w.heap.size w])
 case atStart=>exact⟨0,none,none,0,0, [],rfl,rfl,by go_num,zJ _,rfl,⟨rfl,fun j x hx=>by simp at hx⟩,HS1⟩
 case round=>
  obtain⟨k,A5,A6,c5,c6,vs,rfl,rfl,rfl,hk,rfl,hvs,HS⟩:=hrel;clear HS1 q0
  by_cases hkm:k<m
  ·obtain⟨b,off,u,rfl,hue,hb,hee⟩:=Hu.out.at_ hkm
   obtain⟨b2,off2,d,rfl,hde,hb2,hee2⟩:=Hd.out.at_ hkm
   obtain⟨cu,⟨rfl,hu64⟩,hcu⟩:=hee;have E0:wr.cell? ⟨b,off+k,none⟩=some (.int .u64 (u.val:Int)):=((HS.below M3).cell hb).trans (by have h:=hcu 0 _ rfl;simpa [show Rep.size U64=1 from rfl]using h);obtain⟨Ad,nd,cd,E1w,hdd⟩:=hee2.list;have E1:wr.cell? _=_:=((HS.below M3).cell hb2).trans E1w;have q1:wr.cell? ⟨Mb,1,none⟩=some (.slice (some ⟨b2,off2,none⟩) m c1):=((HS.below M3).cell hMb).trans hM1
   obtain⟨z,hz⟩:=eX (IntKind.i64.wrap (u.val:Int));have hzs:Hid (seqI u=z):=hz;have Hdd:=zA hdd;clear hee2 hcu hdd
   go_wp2_with (first
    |(at_builtin;refine yC Zs (.tmp 22) (.tmp 25) rfl rfl HS rfl (cs:= #[.int .i64 z]) rfl rfl rfl (by intro u hu;simp at hu;subst hu;rfl) (by omega) (by omega) ?_;intro A8 c8 w8 hc8 hm8 HS8;have q2:w8.cell? ⟨Mb,1,none⟩=some (.slice (some ⟨b2,off2,none⟩) m c1):=((HS8.below M3).cell hMb).trans hM1;have E2:w8.cell? ⟨b2,off2+k,none⟩=some (.slice Ad nd cd):=((HS8.below M3).cell hb2).trans E1w)
    |(at_builtin;refine yC JX (.tmp 27) (.tmp 36) rfl rfl HS8.p1 rfl (cs:= #[.slice Ad nd cd]) rfl rfl rfl (by intro u hu;simp at hu;subst hu;rfl) (by omega) (by omega) ?_;intro A9 c9 w9 hc9 hm9 HS9)
    |fail)
   have e1:ints ((us.take k).map seqI)++(#[Value.int .i64 z]:aG).toList=ints ((us.take (k+1)).map seqI):=(by rw [zI,hue.out,<-hzs.out];simp [Go.Proofs.YtjbhbfaeielbiaaGreatDoor.ints]);have HS10:=HS9.p1;rw [e1]at HS10
   have hvs2:Hid ((vs++ [Value.slice Ad nd cd]).length=k+1/\∀(j:Nat) (x:List Entry),(docs.take (k+1))[j]? =some x->∃A n c,(vs++ [Value.slice Ad nd cd])[j]? =some (.slice A n c)/\zL w (·<w.heap.size) A n c x):=by
    refine⟨by rw [zG,hvs.out.1];rfl,fun j x hx=> ?_⟩;rw [zI,hde.out]at hx;have hl:(docs.take k).length=k:=(by rw [zr,Hd.out.length];omega);rcases zk j k with hj|hj
    ·rw [z9 (by omega)]at hx;rw [z9 (by rw [hvs.out.1];exact hj)];exact hvs.out.2 j x hx
    ·rw [zR (by omega),hl]at hx;rw [zR (by rw [hvs.out.1];exact hj),hvs.out.1];have h0:=zN hx;simp at h0;obtain rfl:j=k:=by omega
     rw [yh]at hx⊢;cases hx;exact⟨Ad,nd,cd,rfl,Hdd.out⟩
   clear HS HS8 HS9 e1;go_wp2
   go_roundg (m - (k+1))
   ·exact⟨k+1,A8,A9,c8,c9,_,rfl,rfl,by go_num,by omega,rfl,hvs2,HS10.p1.p1⟩
   ·omega
  ·obtain rfl:k=m:=by omega
   have hul:=Hu.out.length;have hdl:=Hd.out.length;rw [zF (by omega)]at HS
   have hvs2:Hid (∀(j:Nat) (x:List Entry),docs[j]? =some x->∃A n c,vs[j]? =some (.slice A n c)/\zL w (·<w.heap.size) A n c x):=by
    have h:=hvs.out.2;rw [zF (by omega)]at h;exact h
   have HP1:=zA (ZR (c:=0) HS (RB.none_ _) (by omega) (x:=k) (by omega));have hwr:IntKind.u64.wrap (k:Int)=(k:Int):=(by rw [zW];omega);clear HS hul;go_wp2_with fail;refine HP1.out.mono ?_;rintro e w3 ⟨A3,m3,rfl,hm3,HS3⟩;have hc5:=(HS3.rowOf M1).cap;have HP2:=zA (Qc A5 k c5 (us.map seqI) w3 (by omega) hc5.2.1 hc5.2.2 (HS3.rc M1) (fun z hz=>by obtain⟨u,_,rfl⟩:=List.mem_map.1 hz;exact oQ u))
   clear HP1 hc5;go_wp2_with fail;refine HP2.out.mono ?_;rintro e w4 ⟨A4,m4,rfl,hm4,HS4⟩;have HS5:=(HS3.c1 HS4).p1;have Hr:=zA (HS5.rb M1).1.reads;clear HP2 HS3 HS4;go_wp2_with (at_builtin;refine yR yW (.tmp 42) (.tmp 44) rfl rfl HS5 rfl rfl Hr.out (xd _) (by omega) (by omega) ?_;intro A6b c6b w6 hc6 hm6 HS6);rw [<-y9]at HS6;have hl6:=(HS6.rb M0).1.len
   have HP3:=zA (gN A6 k c6 docs w6 (Sp.refs HS6 M3 (.tail _ M4) hdl hvs2.out) hm Hok.out);clear HS5;go_wp2_with fail;refine HP3.out.mono ?_;rintro e w7 ⟨A7,m7,c7,rfl,HS7⟩;have HS8:=HS6.c1 HS7;have hl7:=(HS8.rb M0).1.len;clear HP3 HS7 HS6;have hb6:=zA (show(QU us).length<=6000000000 by unfold QU;rw [zZ]at hl6;rw [Hu.out.length,hl6];omega);rw [zZ]at HS8
   have h1:=((HS8.p1.bytes.elsNil (α:=aC)).p1.elsPush).p1.bytes.elsPush;have h2:=(Sp.selT [_,_,_,_] h1 [0]).lit #[.slice A6b (m3+m4) c6b,.slice A7 m7 c7] 65 1 2 rfl (by decide);obtain⟨B9,hB9⟩:=eX (w7.heap.size);obtain⟨w8,hw8⟩:=eX (w7.alloc (.cells #[.slice A6b (m3+m4) c6b,.slice A7 m7 c7] 65));rw [hw8,hB9]at h2
   have HS9:Sp w8 [RowA 65 1 (.slice (some ⟨B9,0,none⟩) 2 2) 2 [[Value.slice A6b (m3+m4) c6b], [.slice A7 m7 c7]].flatten,ElsA [[Value.slice A6b (m3+m4) c6b], [.slice A7 m7 c7]] (QU us::ZB docs::XG fs invs 0),BlkA H 24 #[.slice A n c],OldA w.heap.size w]:=by
    have e:QU us=zP k++putL (us.map seqI):=(by unfold QU;rw [Hu.out.length]);have e2:XG fs invs 0= []:=(by unfold XG;simp);rw [e,e2];exact h2
   have q2:w8.cell? ⟨Mb,2,none⟩=some (.slice A2 n c2):=((HS9.below M3).cell hMb).trans hM2;clear HS8 h1 h2 hl6 hl7;go_wp2;clear hw8 hB9;have hfl:=Hs.out.length;have hvl:=Hv.out.length;have Hfl:=zA hfl
   go_loopg [9,54] n (fun gi v9 v54 wr=>∃(i q9:Nat) (A9:aA) (c9:Nat) (css:List aF),v9= .slice A9 q9 c9/\v54= .int .i64 i/\i<=n/\gi=n - i/\q9<=2+3*i/\Hid ((∀(j:Nat) (f:Field) (x:N8),j<i->fs[j]? =some f->invs[j]? =some x->WA f x.1 x.2.1)/\∀s∈XG fs invs i,s.length<=6000000000)/\Sp wr [RowA 65 1 (.slice A9 q9 c9) q9 css.flatten,ElsA css (QU us::ZB docs::XG fs invs i),BlkA H 24 #[.slice A n c],OldA w.heap.size w])
   case atStart=>exact⟨0,2,_,2,_,rfl,by go_num,zJ _,rfl,by omega,⟨fun j f x hj=>by omega,fun s hs=>by simp [XG]at hs⟩,HS9⟩
   case round=>
    obtain⟨i,q9,A9,c9,css,rfl,rfl,hin,rfl,hq9,hsec,HS⟩:=hrel;clear HS9 q2
    by_cases hi:i<n
    ·obtain⟨bI,oI,x,rfl,hxe,hbI,hee⟩:=Hv.out.at_ hi
     obtain⟨A0,A1,A2,A3,A4,A5,n0,c0,n1,c1,n2,c2,n3,c3,n4,c4,n5,c5,⟨E0,E1,E2,E3,E4,E5⟩,r0,r1,r2,r3,r4,r5⟩:=N8.at_ hee
     obtain⟨bf,of,f,rfl,hfe,hbf,hff⟩:=Hs.out.at_ hi
     obtain⟨Af,nf,cf,F0,F1,F2,F3,F4,F5,F6,rch, -, -, -, -⟩:=Field.at_ hff
     have hbw:=HS.below M3;have E0:wr.cell? _=_:=(hbw.cell hbI).trans E0;have E1:wr.cell? _=_:=(hbw.cell hbI).trans E1;have E2:wr.cell? _=_:=(hbw.cell hbI).trans E2;have E3:wr.cell? _=_:=(hbw.cell hbI).trans E3;have E4:wr.cell? _=_:=(hbw.cell hbI).trans E4;have E5:wr.cell? _=_:=(hbw.cell hbI).trans E5;obtain⟨Tb,hTb⟩:=eX (wr.heap.size)
     have HSe:=HS.blkH 150 #[.slice A0 n0 c0,.slice A1 n1 c1,.slice A2 n2 c2,.slice A3 n3 c3,.slice A4 n4 c4,.slice A5 n5 c5] hTb;obtain⟨w4,hw4⟩:=eX (wr.alloc (.cells #[.slice A0 n0 c0,.slice A1 n1 c1,.slice A2 n2 c2,.slice A3 n3 c3,.slice A4 n4 c4,.slice A5 n5 c5] 150));rw [hw4]at HSe;have HSd:=HSe.drew;have hbd:=HSd.below M4;obtain⟨hkk,hkd⟩:=Hk.out f (zD hfe.out)
     have HX:=zA (sE (w:=w4.drew) (Af:=Af) (nf:=nf) (cf:=cf) hkk hkd (Hi.out i f x hfe.out hxe.out) (r0.on hbd) (r1.on hbd) (r2.on hbd) (r3.on hbd) (r4.on hbd) (r5.on hbd));unfold fldV at HX
     have h7:w4.drew.cell? ⟨bf,of+i*7,none⟩=some (.string f.name)/\w4.drew.cell? ⟨bf,of+i*7+1,none⟩=some (.int .i64 f.kind)/\w4.drew.cell? ⟨bf,of+i*7+2,none⟩=some (.slice Af nf cf)/\w4.drew.cell? ⟨bf,of+i*7+3,none⟩=some (.int .i64 f.scale)/\w4.drew.cell? ⟨bf,of+i*7+4,none⟩=some (.int .i64 f.dims)/\w4.drew.cell? ⟨bf,of+i*7+5,none⟩=some (.bool f.many)/\w4.drew.cell? ⟨bf,of+i*7+6,none⟩=some (.bool f.stored):=
      ⟨(hbd.cell hbf).trans F0,(hbd.cell hbf).trans F1,(hbd.cell hbf).trans F2,(hbd.cell hbf).trans F3,(hbd.cell hbf).trans F4,(hbd.cell hbf).trans F5,(hbd.cell hbf).trans F6⟩
     clear HS HSe r0 r1 r2 r3 r4 r5 hee hff F0 F1 F2 F3 F4 F5 F6 rch hbw hbd hkk hkd;go_upto_region 13 with fail;clear hw4 hTb E0 E1 E2 E3 E4 E5
     refine gR [(9,fun w=>w.cell? ⟨H,0,none⟩=some (.slice (some ⟨bf,of,none⟩) n c)),(7,fun w=>w.cell? ⟨bf,of+i*7,none⟩=some (.string f.name)/\w.cell? ⟨bf,of+i*7+1,none⟩=some (.int .i64 f.kind)/\w.cell? ⟨bf,of+i*7+2,none⟩=some (.slice Af nf cf)/\w.cell? ⟨bf,of+i*7+3,none⟩=some (.int .i64 f.scale)/\w.cell? ⟨bf,of+i*7+4,none⟩=some (.int .i64 f.dims)/\w.cell? ⟨bf,of+i*7+5,none⟩=some (.bool f.many)/\w.cell? ⟨bf,of+i*7+6,none⟩=some (.bool f.stored)),(7,fun w=>w.cell? ⟨Tb,0,none⟩=some (.slice A0 n0 c0)/\w.cell? ⟨Tb,1,none⟩=some (.slice A1 n1 c1)/\w.cell? ⟨Tb,2,none⟩=some (.slice A2 n2 c2)/\w.cell? ⟨Tb,3,none⟩=some (.slice A3 n3 c3)/\w.cell? ⟨Tb,4,none⟩=some (.slice A4 n4 c4)/\w.cell? ⟨Tb,5,none⟩=some (.slice A5 n5 c5))] (zg (HSd.cell M3 0) (zg h7 (hB (OG HSd M0)))) ?_
     refine gF 0 ?_;refine gF 1 ?_;refine gL 2 9 M0 ?_;refine gF 3 ?_;refine gF 4 ?_;refine gL 5 7 M1 ?_;refine gL 6 7 M2 ?_;intro hC;refine gO 7 fun K hK=> ?_;go_simp;refine HX.out.mono ?_;rintro e w5 (⟨v,rfl,A',n',c',rfl,k1,k2,HS5⟩|⟨er,k0,kg,rfl,hb5⟩);rotate_left
     ·exact⟨rfl,.inr ⟨er,k0,fun g=>kg (g.2 i f x hfe.out hxe.out),rfl,(HSd.grow hb5).below M4⟩⟩
     have HS6:=HSd.c1 HS5;refine hK.out _ _ (zg (HS6.cell M4 0) (YP (by kernel_rfl) (YP (by kernel_rfl) yY))) ?_;clear hK K hC;intro hC;clear HSd HS5 HX h7;have hn' :=(HS6.ls M0).length;have hn3:=DB f x;unfold YU at hn3;rw [hn']at hn3;obtain⟨css2,hl2,hrc,HS7⟩:=HS6.unels;have hone:=HS7.elsOne M0;have HS8:=Sp.selT [_,_,_] HS7 [2,0,1];clear HS6 HS7;refine gO 8 fun K hK=> ?_
     refine XT eE (.tmp 59) (.tmp 66) rfl rfl HS8 rfl rfl hrc.reads hone (by omega) (by omega) ?_;intro A8 c8 w8 hc8 hm8 HS9;refine hK.out _ _ (zg (HS9.cell M4 0) (YP (by kernel_rfl) (YP (by kernel_rfl) yY))) ?_;clear hK K hC;intro hC;refine gO 9 fun K hK=> ?_;go_simp;refine hK.out _ _ hA ?_;clear hK K hC;intro hC;refine xW (by kernel_rfl) ?_;have g1:=(Sp.selT [_,_,_,_] HS9 [3,1,0]).elsJoin
     rw [<-yf]at g1
     have e1:XG fs invs (i+1)=XG fs invs i++YU f x:=by
      unfold XG;have hz:(fs.zip invs)[i]? =some (f,x):=(by rw [List.getElem?_zip_eq_some];exact⟨hfe.out,hxe.out⟩);rw [zI,hz,yS];simp
     have g2:Sp w8 [RowA 65 1 (.slice A8 (q9+n') c8) (q9+n') (css++css2).flatten,ElsA (css++css2) (QU us::ZB docs::XG fs invs (i+1)),BlkA H 24 #[.slice (some ⟨bf,of,none⟩) n c],OldA w.heap.size w]:=by
      rw [e1];exact g1.p1
     have hsec2:Hid ((∀(j:Nat) (f:Field) (x:N8),j<i+1->fs[j]? =some f->invs[j]? =some x->WA f x.1 x.2.1)/\∀s∈XG fs invs (i+1),s.length<=6000000000):=by
      refine⟨fun j g y hj hg hy=> ?_,fun s hs=> ?_⟩
      ·by_cases h:j<i
       ·exact hsec.out.1 j g y h hg hy
       ·obtain rfl:j=i:=by omega
        rw [hfe.out]at hg;rw [hxe.out]at hy;cases hg;cases hy;exact k1
      ·rw [e1]at hs;rcases List.mem_append.1 hs with hs|hs
       ·exact hsec.out.2 s hs
       ·exact k2 s hs
     clear HS8 HS9 g1 e1 hC hone hrc k1 k2 hsec hn';go_wp2
     go_roundg (n - (i+1))
     ·exact⟨i+1,q9+n',A8,c8,css++css2,rfl,by go_num,by omega,rfl,by omega,hsec2,g2⟩
     ·omega
    ·obtain rfl:i=n:=by omega
     have h1:=Sp.els (α:=aC) HS;have hall:QU us::ZB docs::XG fs invs i=xl fs us docs invs:=(by unfold xl;rw [Hfl.out]);rw [hall]at h1;have hlr:=h1.ls M0
     have hle:∀s∈xl fs us docs invs,s.length<=6000000000:=by
      rw [<-hall];intro s hs;simp only [yx]at hs;rcases hs with rfl|rfl|hs
      ·exact hb6.out
      ·exact tU (by omega) Hok.out
      ·exact hsec.out.2 s hs
     have hfb:=jU hle;rw [hlr.length]at hfb;have HQ:Hid (Calls prog 90 #[.int .u8 1,.slice A9 q9 c9] wr (Yp 1 (xl fs us docs invs) wr)):=IM 1 A9 q9 c9 _ wr (by omega) hlr.rbs (by omega);unfold Yp at HQ;obtain⟨fb,hfbq⟩:=eX (xR 1 (xl fs us docs invs));rw [hfbq]at HQ;have Hfit:=zA hfbq;clear HS hall hle hfb hfbq hlr;cases fb with
     |false=>
      go_wp2_with (first|(go_at_call 90;refine HQ.out.mono ?_;rintro e w5 ⟨rfl,hb5⟩;have hbb:=zA ((h1.grow hb5).below M2);clear hb5)|(go_at_call 89;refine(cY _ _ _).mono ?_;rintro e w6 h;obtain⟨rfl,rfl⟩:=h.bad (by decide)))
      exact⟨rfl,.inr ⟨3,by decide,fun g=>Bool.false_ne_true (Hfit.out.symm.trans g.1),rfl,hbb.out⟩⟩
     |true=>
      go_wp2_with (first|(go_at_call 90;refine HQ.out.mono ?_;rintro e w5 ⟨A5,m5,rfl,HS5⟩;have HS6:=h1.c1 HS5;clear HS5)|(go_at_call 89;refine(cY _ _ _).mono ?_;rintro e w6 h;obtain⟨rfl,rfl⟩:=h.ok))
      go_ret
      exact .inl ⟨_,rfl,A5,m5,rfl,Hfit.out,fun j f x hf hx=>hsec.out.1 j f x (by rw [<-Hfl.out];exact zN hf) hf hx,Sp.selT [_,_,_] HS6 [0]⟩
theorem lQ {size:Nat}:∀{css:List aF} {k j:Nat} {cs:aF} (v:V),(∀c∈css,c.length=size)->css[k]? =some cs->j<size->css.flatten.set (k*size+j) v=(css.set k (cs.set j v)).flatten
 | [],_,_,_,_,_,h,_=>by simp at h
 |c::css,0,j,cs,v,hl,h,hj=>by
  simp only [zf,Option.some.injEq]at h;subst h;rw [yM,yw,yM,Nat.zero_mul,zx,List.set_append_left _ _ (by rw [hl c (by simp)];exact hj)]
 |c::css,k+1,j,cs,v,hl,h,hj=>by
  simp only [zj]at h;have hc:=hl c (by simp);have ih:=lQ v (fun x hx=>hl x (by simp [hx])) h hj;rw [yM,List.set_cons_succ,yM,xB _ _ (by rw [hc,Nat.succ_mul];omega),hc,show(k+1)*size+j - size=k*size+j by rw [Nat.succ_mul];omega,ih]
theorem K1 {w:O} {g:Nat} {a0:V} {tmps:aG} (h0:tmps.getD 2 undef= .pointer (some ⟨g,0,none⟩)) (hb:Blk w g 24 #[a0]):(results Tryz.f80 tmps).run prog w= .ok (.agg #[a0]) w:=by
 have h1:=run_loadVar_row (P:=prog) w g 24 24 #[a0] (0,0) _ hb underlying24 rfl (by kernel_rfl);have h2:Tryz.f80.results= #[ResultVar.cell 2 24]:=rfl;have h3:tmps[2]?.getD undef= .pointer (some ⟨g,0,none⟩):=by simpa using h0
 simp [results,h2,h3,h1,asAddr,Result.andThen]
theorem uD {A:aA} {n c:Nat} {fs:List Field} {w:O} (hs:zL w (·<w.heap.size) A n c fs) (hn:n<=16) (hch:∀f∈fs,f.chain.length<=1000000000):
 Calls prog 80 #[.agg #[.slice A n c]] w fun r w' =>∃A',r= .returned (.agg #[.slice A' n n])/\Sp w' [DatA (.slice A' n n) fs,OldA w.heap.size w]:=by
 obtain⟨H,hH⟩:=eX (w.heap.size);have HS0:=((Sp.start w).blkH 24 #[.slice A n c] hH).blkH 24 #[.slice none 0 0] (H:=H+1) (by simp [hH]);have hlen:=zA hs.length;have hcap:=hs.cap;obtain⟨css,hcl,hcr,hrc⟩:=hs.css fun _ h=>h
 have hone:∀u∈css.flatten,u.oneCell' =true:=fun u hu=>by
  obtain⟨cs,hc,hu⟩:=List.mem_flatten.1 hu;obtain⟨k,hk⟩:=z8 hc;have hl:k<fs.length:=(by rw [<-hcl];exact zN hk);exact Rep.one (hcr k cs fs[k] hk (zB hl)) hu
 have Hch:=zA hch;have hbw:=HS0.below M2;obtain⟨w2,hw2⟩:=eX ((w.alloc (.cells #[.slice A n c] 24)).alloc (.cells #[.slice none 0 0] 24));rw [hw2]at HS0 hbw;have HC:=zA (sZ A n c css.flatten w2 (by omega) (hrc.on hbw).reads hone);have Hcl:=zA hcl;have Hcr:=zA hcr;clear hs hch hcl hcr hrc hone hbw;go_enter func80,ntmps80;go_upto_region 1 with fail;have q1:=HS0.cl M1 0;clear hw2 hH
 go_wp2_with (first
  |(go_at_call 142;refine HC.out.mono ?_;rintro r w3 ⟨A3,c3,rfl,hr3,hb3⟩;have HS1:=HS0.row hr3 hb3;have hc3:=(HS1.rowOf M0).cap;clear hr3 hb3 HS0 q1 HC)
  |(go_at_call 141;refine(u5 _ _ _ _ hc3.2.1 hc3.2.2).mono ?_;rintro r w4 ⟨rfl,rfl⟩;have HS2:=HS1.clip;clear HS1)
  |fail)
 have HS3:Sp w3 [RowA 61 7 (.slice A3 n n) n css.flatten,ElsA (css.take 0) (fs.take 0),BlkA (H+1) 24 #[.slice none 0 0],BlkA H 24 #[.slice A n c],OldA w.heap.size w]:=(HS2.elsNil (α:=Field)).p1;clear HS2
 go_loopg [11] n (fun gk v11 wr=>∃(k:Nat) (cs:List aF),v11= .int .i64 k/\k<=n/\gk=n - k/\Hid (cs.length=n/\(∀c∈cs,c.length=7)/\∀j,k<=j->cs[j]? =css[j]?)/\Sp wr [RowA 61 7 (.slice A3 n n) n cs.flatten,ElsA (cs.take k) (fs.take k),BlkA (H+1) 24 #[.slice none 0 0],BlkA H 24 #[.slice A n c],OldA w.heap.size w])
 case atStart=>
  refine⟨0,css,by go_num,zJ _,rfl,⟨by rw [Hcl.out];exact hlen.out,fun c hc=> ?_,fun j _=>rfl⟩,HS3⟩;obtain⟨k,hk⟩:=z8 hc;have hl:k<fs.length:=(by rw [<-Hcl.out];exact zN hk);exact Rep.len (Hcr.out k c fs[k] hk (zB hl))
 case round=>
  obtain⟨k,cs,rfl,hk,rfl,hcs,HS⟩:=hrel;clear HS3
  by_cases hkn:k<n
  ·obtain⟨f,hf⟩:∃f,fs[k]? =some f:=⟨_,zB (by rw [hlen.out];exact hkn)⟩;obtain⟨cz,hcz⟩:∃cz,cs[k]? =some cz:=⟨_,zB (by rw [hcs.out.1];exact hkn)⟩;obtain⟨Ac,nc,cc,rfl,r0,i1,i2,i3,s0⟩:=Field.cells_of (Hcr.out k cz f (by rw [<-hcs.out.2.2 k (zC _)];exact hcz) hf);obtain⟨R,rfl, -, -⟩:=(HS.rowOf M0).at_ (by omega)
   have t2:wr.cell? ⟨R,k*7+2,none⟩=some (.slice Ac nc cc):=HS.rowCell M0 ((xX cs k 2 _ hcs.out.2.1 hcz (by omega)).trans rfl);have hnc:nc<=1000000000:=(by rw [<-r0.length];exact Hch.out f (zD hf));have HC:=zA (l4 Ac nc cc (ints f.chain) wr (by omega) (r0.on (HS.below M4)).reads_ints (Y3 _));have Hin:=zA r0.in64;have Hf:=zA hf;have Hcz:=zA hcz
   have Hfi:=zA (And.intro i1 (And.intro i2 (And.intro i3 s0)));clear r0 hf hcz i1 i2 i3 s0
   go_wp2_with (first
    |(go_at_call 53;refine HC.out.mono ?_;rintro r w5 ⟨A5,c5,rfl,hr5,hb5⟩;have HS5:=HS.row hr5 hb5;have hc5:=(HS5.rowOf M0).cap;have u2:w5.cell? ⟨R,k*7+2,none⟩=some (.slice Ac nc cc):=HS5.rowCell M1 ((xX cs k 2 _ hcs.out.2.1 Hcz.out (by omega)).trans rfl);have u3:=HS5.rowFree M1 (k*7+2);clear hr5 hb5 HS HC t2)
    |(go_at_call 54;refine(UO _ _ _ _ hc5.2.1 hc5.2.2).mono ?_;rintro r w6 ⟨rfl,rfl⟩)
    |fail)
   have h1:=HS5.p1.rowSet (k*7+2) (.slice A5 nc nc);rw [lQ (.slice A5 nc nc) hcs.out.2.1 Hcz.out (by decide)]at h1
   have h2:=(h1.p1.clip.ints Hin.out).mk1 (cs:= [.string f.name,.int .i64 f.kind,.slice A5 nc nc,.int .i64 f.scale,.int .i64 f.dims,.bool f.many,.bool f.stored]) (x:=f) (fun S h=>by
    obtain⟨A',n',c',e,h⟩:=h;cases e;exact Field.of_cells h Hfi.out.1 Hfi.out.2.1 Hfi.out.2.2.1 Hfi.out.2.2.2)
   have h3:=(Sp.selT [_,_,_] h2 [0,2,1]).elsPush;have et2:fs.take (k+1)=fs.take k++ [f]:=(by rw [zI,Hf.out];rfl);obtain⟨cn,hcn⟩:=eX (cs.set k [.string f.name,.int .i64 f.kind,.slice A5 nc nc,.int .i64 f.scale,.int .i64 f.dims,.bool f.many,.bool f.stored])
   have et1:cn.take (k+1)=cs.take k++ [[.string f.name,.int .i64 f.kind,.slice A5 nc nc,.int .i64 f.scale,.int .i64 f.dims,.bool f.many,.bool f.stored]]:=by
    rw [<-hcn,zI,List.take_set_of_le (zC _),List.getElem?_set_self (by rw [hcs.out.1];exact hkn)];rfl
   rw [<-et1,<-et2]at h3;have h4:Sp (w5.setCell ⟨R,k*7+2,none⟩ (.slice A5 nc nc)) [RowA 61 7 (.slice (some ⟨R,0,none⟩) n n) n cn.flatten,ElsA (cn.take (k+1)) (fs.take (k+1)),BlkA (H+1) 24 #[.slice none 0 0],BlkA H 24 #[.slice A n c],OldA w.heap.size w]:=(by rw [<-hcn]at h3⊢;exact h3.p1)
   have hcs2:Hid (cn.length=n/\(∀c∈cn,c.length=7)/\∀j,k+1<=j->cn[j]? =css[j]?):=by
    rw [<-hcn];refine⟨by rw [List.length_set];exact hcs.out.1,fun c hc=> ?_,fun j hj=> ?_⟩
    ·rcases xe hc with h|rfl
     ·exact hcs.out.2.1 c h
     ·rfl
    ·rw [List.getElem?_set_ne (by omega)];exact hcs.out.2.2 j (by omega)
   clear HS5 h1 h2 h3 et1 et2 hcn u2 u3;go_wp2
   go_roundg (n - (k+1))
   ·exact⟨k+1,cn,by go_num,by omega,rfl,hcs2,h4⟩
   ·omega
  ·obtain rfl:k=n:=by omega
   rw [zF (by rw [hcs.out.1];exact zC _),zF (by rw [hlen.out];exact zC _)]at HS;have d0:=HS.cl M2 0;have d1:=(HS.blkOf M2).frozen 0;have h1:=Sp.els (α:=Field) HS;have h2:=h1.p1.set 0 (.slice A3 k k);clear h1 HS;go_wp2;refine bodyPost_ret (K1 (g:=H+1) (by rfl) (h2.blkOf M0)) rfl ⟨_,rfl,Sp.selT [_,_,_,_] h2 [1,3]⟩
end Go.Proofs.YtjbhbfaeielbiaaGreatDoor

import Derived.Test.YtjbhbfaeielbiaaGreatDoorPart37
import Derived.Test.YtjbhbfaeielbiaaGreatDoorPart35
set_option maxRecDepth 100000
set_option maxHeartbeats 8000000
set_option linter.unusedVariables false
set_option linter.unusedSimpArgs false
namespace Go.Proofs.YtjbhbfaeielbiaaGreatDoor
open Rep (rep)
open Go.RowKit
theorem WI {fs:List Field} {items:List xw} (h:YN fs items=0):xC fs=true/\items.length<=16384:=by
 unfold YN at h
 split at h
 ·rename_i hs;refine⟨hs,?_⟩
  split at h
  ·omega
  ·omega
 ·omega
theorem sF {fs:List Field} (h:xC fs=true):fs.length<=16/\∀f∈fs,((1<=f.kind/\f.kind<=5)/\(f.kind=5->1<=f.dims/\f.dims<=4)):=by
 refine⟨?_,fun f hf=> ?_⟩
 ·unfold xC at h;simp only [zM,decide_eq_true_eq]at h;exact h.1.2
 ·obtain⟨i,hi⟩:=z8 hf;have:=WW h hi;exact⟨this.2.1,this.2.2.1⟩
theorem sG {fs:List Field} (h:xC fs=true):∀f∈fs,f.chain.length<=1000000000:=by
 intro f hf;obtain⟨i,hi⟩:=z8 hf;unfold xC at h;simp only [zM,List.all_eq_true,List.mem_range]at h;have h1:=h.2 i (zN hi);unfold YH at h1;rw [hi]at h1;simp only [zM]at h1;have h2:=h1.2;unfold Xq xD at h2;simp only [zM,Bool.or_eq_true,decide_eq_true_eq]at h2;obtain⟨⟨⟨⟨-,h3⟩, -⟩, -⟩,h4⟩:=h2;rcases h3 with h3|h3
 ·rw [if_pos h3]at h4;rcases hc:f.chain with _|⟨a,t⟩
  ·simp
  ·rw [hc]at h4;unfold ZI at h4;simp only [zM,decide_eq_true_eq]at h4;simp only [z6];omega
 ·omega
theorem nW {fs:List Field} {items:List xw} (hd:Uy fs items) (hn:∀x∈items,∀e∈x.2,∀z∈e.numbers,In64 z):∀d∈items.map (·.2),Y9 d=true/\QB d:=by
 intro d h;obtain⟨x,hx,rfl⟩:=List.mem_map.1 h;obtain⟨cs,hcs⟩:=hd.2 x hx;exact⟨(Wu (hn x hx) hcs).2.2.2,hn x hx⟩
theorem mE {fs:List Field} {css:Nat->List yZ} {i:Nat} (h:QC fs i=1):∀k,(stF fs css i k).lens.length=k
 |0=>rfl
 |k+1=>by
  show(Zc fs i (QC fs i) k (Xv i (css k)) (stF fs css i k)).lens.length=k+1;unfold Zc;rw [if_pos h];simp [mE h k]
theorem AE (fs:List Field) (items:List xw):(Zz fs items).length=fs.length:=by simp [Zz]
theorem eZ {fs:List Field} {items:List xw} (hd:Uy fs items) (hn:∀x∈items,∀e∈x.2,∀z∈e.numbers,In64 z) {j:Nat} {f:Field} {x:N8} (hf:fs[j]? =some f) (hx:(Zz fs items)[j]? =some x):
 InvOk f x.1 x.2.1 x.2.2.1 x.2.2.2.1 x.2.2.2.2.1 x.2.2.2.2.2/\(f.kind=1->x.2.2.1.length=items.length):=by
 obtain⟨h1,h2⟩:=WI hd.1;have hj:=zN hf
 have e:x=VH (stF fs (yv fs items) j items.length):=by
  unfold Zz at hx;rw [zH,zq hj]at hx;exact(yG hx).symm
 subst e;refine⟨(dA h1 hf hn items.length h2).inv h2,fun hk=> ?_⟩;exact mE (by unfold QC;rw [hf];exact hk) _
def invG:List N8:= [([⟨#[97]⟩,⟨#[98]⟩], [[⟨0, [1]⟩], [⟨0, [0]⟩]], [2], [], [], []),([⟨#[120]⟩], [[⟨0, [0]⟩]], [], [[⟨#[120]⟩]], [], [])]
theorem IB:X0 [[98], [97]]= [[97], [98]]:=by
 unfold X0;simp [List.mergeSort,List.MergeSort.Internal.splitInTwo,List.merge]
 decide
theorem NI:Uy fsG itG:=by
 refine⟨by decide+kernel,fun x hx=> ?_⟩;simp only [itG,List.mem_singleton]at hx;subst hx;exact⟨[(0,⟨#[66,32,97]⟩, []),(1,⟨#[120]⟩, [])],by decide+kernel⟩
theorem PF:(stF fsG (yv fsG itG) 0 1).td= [(⟨#[98]⟩, [(0, [0])]),(⟨#[97]⟩, [(0, [1])])]:=by decide+kernel
theorem PG:(stF fsG (yv fsG itG) 1 1).td= [(⟨#[120]⟩, [(0, [0])])]:=by decide+kernel
theorem MO:Zl [(⟨#[98]⟩, [(0, [0])]),(⟨#[97]⟩, [(0, [1])])]= [⟨#[97]⟩,⟨#[98]⟩]:=by
 show(X0 [[98], [97]]).map WC=_;rw [IB];rfl
theorem MN:Zl [(⟨#[120]⟩, [(0, [0])])]= [⟨#[120]⟩]:=by
 show(X0 [[120]]).map WC=_;unfold X0;rw [List.mergeSort_singleton];rfl
theorem lB (p:Int):Zo [(0, [p])]= [⟨0, [p]⟩]:=by simp [Zo,xP,Xa]
theorem PD:VH (stF fsG (yv fsG itG) 0 1)=([⟨#[97]⟩,⟨#[98]⟩], [[⟨0, [1]⟩], [⟨0, [0]⟩]], [2], [], [], []):=by
 have e1:(stF fsG (yv fsG itG) 0 1).lens= [2]:=by decide+kernel
 have e2:(stF fsG (yv fsG itG) 0 1).tx= []:=by decide+kernel
 have e3:(stF fsG (yv fsG itG) 0 1).nums= []:=by decide+kernel
 have e4:(stF fsG (yv fsG itG) 0 1).pts= []:=by rfl
 unfold VH Y2;rw [PF,e1,e2,e3,e4,MO];have h0:Xa [((⟨#[98]⟩:aB), [((0:Int), [(0:Int)])]),(⟨#[97]⟩, [(0, [1])])] ⟨#[97]⟩=some [(0, [1])]:=by decide
 have h1:Xa [((⟨#[98]⟩:aB), [((0:Int), [(0:Int)])]),(⟨#[97]⟩, [(0, [1])])] ⟨#[98]⟩=some [(0, [0])]:=by decide
 simp only [yH,List.map_nil,h0,h1,yq,lB]
theorem O9:VH (stF fsG (yv fsG itG) 1 1)=([⟨#[120]⟩], [[⟨0, [0]⟩]], [], [[⟨#[120]⟩]], [], []):=by
 have e1:(stF fsG (yv fsG itG) 1 1).lens= []:=by decide+kernel
 have e2:(stF fsG (yv fsG itG) 1 1).tx= [[⟨#[120]⟩]]:=by decide+kernel
 have e3:(stF fsG (yv fsG itG) 1 1).nums= []:=by decide+kernel
 have e4:(stF fsG (yv fsG itG) 1 1).pts= []:=by rfl
 unfold VH Y2;rw [PG,e1,e2,e3,e4,MN];have h0:Xa [((⟨#[120]⟩:aB), [((0:Int), [(0:Int)])])] ⟨#[120]⟩=some [(0, [0])]:=by decide
 simp only [yH,List.map_nil,h0,yq,lB]
theorem fT:Zz fsG itG=invG:=by
 show [VH (stF fsG (yv fsG itG) 0 1),VH (stF fsG (yv fsG itG) 1 1)]=_;rw [PD,O9];rfl
theorem MU:xR 1 (xl fsG (itG.map (·.1)) (itG.map (·.2)) invG)=true:=by decide+kernel
theorem NU (k:Nat) (f:Field) (x:N8) (hf:fsG[k]? =some f) (hx:invG[k]? =some x):WA f x.1 x.2.1:=by
 have hk:k=0\/k=1:=by
  have:=(List.getElem?_eq_some_iff.1 hf).1;simp [fsG]at this;omega
 rcases hk with rfl|rfl
 ·cases hf;cases hx;exact fun _=>⟨by decide+kernel,by decide+kernel,by decide+kernel⟩
 ·cases hf;cases hx;exact fun _=>⟨by decide+kernel,by decide+kernel,by decide+kernel⟩
end Go.Proofs.YtjbhbfaeielbiaaGreatDoor

import Derived.Test.YtjbhbfaeielbiaaGreatDoorPart47
import Derived.Test.YtjbhbfaeielbiaaGreatDoorPart44
set_option maxRecDepth 100000
set_option maxHeartbeats 8000000
set_option linter.unusedVariables false
set_option linter.unusedSimpArgs false
namespace Go.Proofs.YtjbhbfaeielbiaaGreatDoor
open Rep (rep)
open Go.RowKit
theorem WI {a:List Field} {items:List xw} (h:YN a items=0):xC a=true/\items.length<=16384:=by
 unfold YN at h
 split at h
 ·rename_i b;refine⟨b,?_⟩
  split at h
  ·omega
  ·omega
 ·omega
theorem sF {a:List Field} (h:xC a=true):a.length<=16/\∀f∈a,((1<=f.kind/\f.kind<=5)/\(f.kind=5->1<=f.dims/\f.dims<=4)):=by
 refine⟨?_,fun f b=> ?_⟩
 ·unfold xC at h;simp only [zM,decide_eq_true_eq]at h;exact h.1.2
 ·obtain⟨i,c⟩:=z8 b;have:=WW h c;exact⟨this.2.1,this.2.2.1⟩
theorem sG {g:List Field} (h:xC g=true):∀f∈g,f.chain.length<=1000000000:=by
 intro f k;obtain⟨i,j⟩:=z8 k;unfold xC at h;simp only [zM,List.all_eq_true,List.mem_range]at h;have b:=h.2 i (zN j);unfold YH at b;rw [j]at b;simp only [zM]at b;have e:=b.2;unfold Xq xD at e;simp only [zM,Bool.or_eq_true,decide_eq_true_eq]at e;obtain⟨⟨⟨⟨-,c⟩, -⟩, -⟩,d⟩:=e;rcases c with c|c
 ·rw [if_pos c]at d;rcases hc:f.chain with _|⟨a,t⟩
  ·simp
  ·rw [hc]at d;unfold ZI at d;simp only [zM,decide_eq_true_eq]at d;simp only [z6];omega
 ·omega
theorem nW {f:List Field} {items:List xw} (g:Uy f items) (c:∀x∈items,∀e∈x.2,∀z∈e.numbers,In64 z):∀d∈items.map (·.2),Y9 d=true/\QB d:=by
 intro d h;obtain⟨x,b,rfl⟩:=List.mem_map.1 h;obtain⟨cs,a⟩:=g.2 x b;exact⟨(Wu (c x b) a).2.2.2,c x b⟩
theorem mE {a:List Field} {css:Nat->List yZ} {i:Nat} (h:QC a i=1):∀k,(stF a css i k).lens.length=k
 |0=>rfl
 |k+1=>by
  show(Zc a i (QC a i) k (Xv i (css k)) (stF a css i k)).lens.length=k+1;unfold Zc;rw [if_pos h];simp [mE h k]
theorem AE (a:List Field) (items:List xw):(Zz a items).length=a.length:=by simp [Zz]
theorem eZ {a:List Field} {items:List xw} (h:Uy a items) (l:∀x∈items,∀e∈x.2,∀z∈e.numbers,In64 z) {j:Nat} {f:Field} {x:N8} (b:a[j]? =some f) (c:(Zz a items)[j]? =some x):
 InvOk f x.1 x.2.1 x.2.2.1 x.2.2.2.1 x.2.2.2.2.1 x.2.2.2.2.2/\(f.kind=1->x.2.2.1.length=items.length):=by
 obtain⟨g,d⟩:=WI h.1;have i:=zN b
 have e:x=VH (stF a (yv a items) j items.length):=by
  unfold Zz at c;rw [zH,zq i]at c;exact(yG c).symm
 subst e;refine⟨(dA g b l items.length d).inv d,fun k=> ?_⟩;exact mE (by unfold QC;rw [b];exact k) _
def invG:List N8:= [([⟨#[97]⟩,⟨#[98]⟩], [[⟨0, [1]⟩], [⟨0, [0]⟩]], [2], [], [], []),([⟨#[120]⟩], [[⟨0, [0]⟩]], [], [[⟨#[120]⟩]], [], [])]
theorem IB:X0 [[98], [97]]= [[97], [98]]:=by
 unfold X0;simp [List.mergeSort,List.MergeSort.Internal.splitInTwo,List.merge]
 decide
theorem NI:Uy fsG itG:=by
 refine⟨by decide+kernel,fun x a=> ?_⟩;simp only [itG,List.mem_singleton]at a;subst a;exact⟨[(0,⟨#[66,32,97]⟩, []),(1,⟨#[120]⟩, [])],by decide+kernel⟩
theorem PF:(stF fsG (yv fsG itG) 0 1).td= [(⟨#[98]⟩, [(0, [0])]),(⟨#[97]⟩, [(0, [1])])]:=by decide+kernel
theorem PG:(stF fsG (yv fsG itG) 1 1).td= [(⟨#[120]⟩, [(0, [0])])]:=by decide+kernel
theorem MO:Zl [(⟨#[98]⟩, [(0, [0])]),(⟨#[97]⟩, [(0, [1])])]= [⟨#[97]⟩,⟨#[98]⟩]:=by
 show(X0 [[98], [97]]).map WC=_;rw [IB];rfl
theorem MN:Zl [(⟨#[120]⟩, [(0, [0])])]= [⟨#[120]⟩]:=by
 show(X0 [[120]]).map WC=_;unfold X0;rw [List.mergeSort_singleton];rfl
theorem lB (p:Int):Zo [(0, [p])]= [⟨0, [p]⟩]:=by simp [Zo,xP,Xa]
theorem PD:VH (stF fsG (yv fsG itG) 0 1)=([⟨#[97]⟩,⟨#[98]⟩], [[⟨0, [1]⟩], [⟨0, [0]⟩]], [2], [], [], []):=by
 have a:(stF fsG (yv fsG itG) 0 1).lens= [2]:=by decide+kernel
 have b:(stF fsG (yv fsG itG) 0 1).tx= []:=by decide+kernel
 have c:(stF fsG (yv fsG itG) 0 1).nums= []:=by decide+kernel
 have d:(stF fsG (yv fsG itG) 0 1).pts= []:=by rfl
 unfold VH Y2;rw [PF,a,b,c,d,MO];have e:Xa [((⟨#[98]⟩:aB), [((0:Int), [(0:Int)])]),(⟨#[97]⟩, [(0, [1])])] ⟨#[97]⟩=some [(0, [1])]:=by decide
 have f:Xa [((⟨#[98]⟩:aB), [((0:Int), [(0:Int)])]),(⟨#[97]⟩, [(0, [1])])] ⟨#[98]⟩=some [(0, [0])]:=by decide
 simp only [yH,List.map_nil,e,f,yq,lB]
theorem O9:VH (stF fsG (yv fsG itG) 1 1)=([⟨#[120]⟩], [[⟨0, [0]⟩]], [], [[⟨#[120]⟩]], [], []):=by
 have a:(stF fsG (yv fsG itG) 1 1).lens= []:=by decide+kernel
 have b:(stF fsG (yv fsG itG) 1 1).tx= [[⟨#[120]⟩]]:=by decide+kernel
 have c:(stF fsG (yv fsG itG) 1 1).nums= []:=by decide+kernel
 have d:(stF fsG (yv fsG itG) 1 1).pts= []:=by rfl
 unfold VH Y2;rw [PG,a,b,c,d,MN];have e:Xa [((⟨#[120]⟩:aB), [((0:Int), [(0:Int)])])] ⟨#[120]⟩=some [(0, [0])]:=by decide
 simp only [yH,List.map_nil,e,yq,lB]
theorem fT:Zz fsG itG=invG:=by
 show [VH (stF fsG (yv fsG itG) 0 1),VH (stF fsG (yv fsG itG) 1 1)]=_;rw [PD,O9];rfl
theorem MU:xR 1 (xl fsG (itG.map (·.1)) (itG.map (·.2)) invG)=true:=by decide+kernel
theorem NU (k:Nat) (f:Field) (x:N8) (a:fsG[k]? =some f) (b:invG[k]? =some x):WA f x.1 x.2.1:=by
 have c:k=0\/k=1:=by
  have:=(List.getElem?_eq_some_iff.1 a).1;simp [fsG]at this;omega
 rcases c with rfl|rfl
 ·cases a;cases b;exact fun _=>⟨by decide+kernel,by decide+kernel,by decide+kernel⟩
 ·cases a;cases b;exact fun _=>⟨by decide+kernel,by decide+kernel,by decide+kernel⟩
end Go.Proofs.YtjbhbfaeielbiaaGreatDoor

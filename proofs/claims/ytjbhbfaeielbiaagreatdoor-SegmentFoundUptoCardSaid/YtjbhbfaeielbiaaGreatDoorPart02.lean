import Derived.Test.YtjbhbfaeielbiaaGreatDoorPart01
set_option maxRecDepth 100000
set_option maxHeartbeats 8000000
set_option linter.unusedVariables false
set_option linter.unusedSimpArgs false
namespace Go.Proofs.YtjbhbfaeielbiaaGreatDoor
open Rep (rep)
open Go.RowKit
def gA:List aC:= [[97], [97,110], [97,110,100], [97,114,101], [97,115], [97,116], [98,101], [98,117,116], [98,121], [102,111,114], [105,102], [105,110], [105,110,116,111], [105,115], [105,116], [110,111], [110,111,116], [111,102], [111,110], [111,114], [115,117,99,104], [116,104,97,116], [116,104,101], [116,104,101,105,114], [116,104,101,110], [116,104,101,114,101], [116,104,101,115,101], [116,104,101,121], [116,104,105,115], [116,111], [119,97,115], [119,105,108,108], [119,105,116,104]]
def aN (s:aB):Bool:=gA.contains s.data.toList
theorem mD {a b:aB} (h:a.data.toList=b.data.toList):a=b:=by
 cases a;cases b;simp only [ByteArray.mk.injEq];exact Array.ext' h
theorem vW (s:aB) (h:aN s=true):s=⟨#[97]⟩\/s=⟨#[97,110]⟩\/s=⟨#[97,110,100]⟩\/s=⟨#[97,114,101]⟩\/s=⟨#[97,115]⟩\/s=⟨#[97,116]⟩\/s=⟨#[98,101]⟩\/s=⟨#[98,117,116]⟩\/s=⟨#[98,121]⟩\/s=⟨#[102,111,114]⟩\/s=⟨#[105,102]⟩\/s=⟨#[105,110]⟩\/s=⟨#[105,110,116,111]⟩\/s=⟨#[105,115]⟩\/s=⟨#[105,116]⟩\/s=⟨#[110,111]⟩\/s=⟨#[110,111,116]⟩\/s=⟨#[111,102]⟩\/s=⟨#[111,110]⟩\/s=⟨#[111,114]⟩\/s=⟨#[115,117,99,104]⟩\/s=⟨#[116,104,97,116]⟩\/s=⟨#[116,104,101]⟩\/s=⟨#[116,104,101,105,114]⟩\/s=⟨#[116,104,101,110]⟩\/s=⟨#[116,104,101,114,101]⟩\/s=⟨#[116,104,101,115,101]⟩\/s=⟨#[116,104,101,121]⟩\/s=⟨#[116,104,105,115]⟩\/s=⟨#[116,111]⟩\/s=⟨#[119,97,115]⟩\/s=⟨#[119,105,108,108]⟩\/s=⟨#[119,105,116,104]⟩:=by
 unfold aN gA at h;simp only [List.contains_cons,List.contains_nil,Bool.or_eq_true,beq_iff_eq,Bool.false_eq_true,or_false]at h;rcases h with h|h|h|h|h|h|h|h|h|h|h|h|h|h|h|h|h|h|h|h|h|h|h|h|h|h|h|h|h|h|h|h|h
 all_goals(repeat first|exact .inl (mD h)|exact mD h|apply Or.inr)
end Go.Proofs.YtjbhbfaeielbiaaGreatDoor

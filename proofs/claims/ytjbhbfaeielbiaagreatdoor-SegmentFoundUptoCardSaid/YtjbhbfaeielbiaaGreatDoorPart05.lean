import Derived.Test.YtjbhbfaeielbiaaGreatDoorPart01
import Derived.Shelf.Unicode.DecodeSlow
import Derived.Lib.TrimUEq
import Derived.Lib.RuneBytes
import Derived.Test.YtjbhbfaeielbiaaGreatDoorCards
import Derived.JoinedOf
set_option maxRecDepth 100000
set_option maxHeartbeats 8000000
set_option linter.unusedVariables false
set_option linter.unusedSimpArgs false
namespace Go.Proofs.YtjbhbfaeielbiaaGreatDoor
open Rep (rep)
open Go.RowKit
def ZL (r a b:Int):Bool:=decide (a<=r) && decide (r<=b)
theorem tI {r a b:Int}:(ZL r a b=true)=(a<=r/\r<=b):=by simp [ZL]
theorem rU {r a b:Int}:(ZL r a b=false)=¬(a<=r/\r<=b):=by rw [<-tI];simp
def ZP (r:Int):aD->Bool
 |a::b::l=>ZL r a b||ZP r l
 |_=>false
def o5:aD:= [0x41,0x5A,0x61,0x7A,0xAA,0xAA,0xB5,0xB5,0xBA,0xBA,0xC0,0xD6,0xD8,0xF6,0xF8,0x2AF,0x370,0x373,0x376,0x377,0x37B,0x37D,0x37F,0x37F,0x386,0x386,0x388,0x38A,0x38C,0x38C,0x38E,0x3A1,0x3A3,0x3F5,0x3F7,0x481,0x48A,0x52F,0x5D0,0x5EA,0x620,0x64A,0x904,0x939,0x3041,0x3096,0x30A1,0x30FA,0x4E00,0x9FFF,0xAC00,0xD7A3]
def qG:aD:= [0x30,0x39,0x660,0x669,0x966,0x96F,0xFF10,0xFF19]
def qM:aD:= [0x300,0x36F,0x483,0x489,0x591,0x5BD,0x64B,0x65F,0x93C,0x93C,0x20D0,0x20F0,0xFE20,0xFE2F]
def Wo (r:Int):Bool:=ZP r o5
def bZ (r:Int):Bool:=ZP r qG
def aQ (r:Int):Bool:=ZP r qM
def Uq (r:Int):Bool:=ZP r [9,13,32,32,0x85,0x85,0xA0,0xA0,0x2000,0x200A,0x2028,0x2028,0x2029,0x2029,0x3000,0x3000]
theorem uN (r:Int):(Wo r=true)=((0x41<=r/\r<=0x5A)\/(0x61<=r/\r<=0x7A)\/(0xAA<=r/\r<=0xAA)\/(0xB5<=r/\r<=0xB5)\/(0xBA<=r/\r<=0xBA)\/(0xC0<=r/\r<=0xD6)\/(0xD8<=r/\r<=0xF6)\/(0xF8<=r/\r<=0x2AF)\/(0x370<=r/\r<=0x373)\/(0x376<=r/\r<=0x377)\/(0x37B<=r/\r<=0x37D)\/(0x37F<=r/\r<=0x37F)\/(0x386<=r/\r<=0x386)\/(0x388<=r/\r<=0x38A)\/(0x38C<=r/\r<=0x38C)\/(0x38E<=r/\r<=0x3A1)\/(0x3A3<=r/\r<=0x3F5)\/(0x3F7<=r/\r<=0x481)\/(0x48A<=r/\r<=0x52F)\/(0x5D0<=r/\r<=0x5EA)\/(0x620<=r/\r<=0x64A)\/(0x904<=r/\r<=0x939)\/(0x3041<=r/\r<=0x3096)\/(0x30A1<=r/\r<=0x30FA)\/(0x4E00<=r/\r<=0x9FFF)\/(0xAC00<=r/\r<=0xD7A3)):=by
 simp [Wo,o5,ZP,ZL]
theorem AX (r:Int):(bZ r=true)=((0x30<=r/\r<=0x39)\/(0x660<=r/\r<=0x669)\/(0x966<=r/\r<=0x96F)\/(0xFF10<=r/\r<=0xFF19)):=by
 simp [bZ,qG,ZP,ZL]
theorem D6 (r:Int):(aQ r=true)=((0x300<=r/\r<=0x36F)\/(0x483<=r/\r<=0x489)\/(0x591<=r/\r<=0x5BD)\/(0x64B<=r/\r<=0x65F)\/(0x93C<=r/\r<=0x93C)\/(0x20D0<=r/\r<=0x20F0)\/(0xFE20<=r/\r<=0xFE2F)):=by
 simp [aQ,qM,ZP,ZL]
theorem BX (r:Int):(Uq r=true)=((9<=r/\r<=13)\/(32<=r/\r<=32)\/(0x85<=r/\r<=0x85)\/(0xA0<=r/\r<=0xA0)\/(0x2000<=r/\r<=0x200A)\/(0x2028<=r/\r<=0x2028)\/(0x2029<=r/\r<=0x2029)\/(0x3000<=r/\r<=0x3000)):=by
 simp [Uq,ZP,ZL]
def Qg (r:Int):Int:=
 if ZP r [0x41,0x5A,0xC0,0xD6,0xD8,0xDE,0x391,0x3A1,0x3A3,0x3AB,0x410,0x42F]then r+0x20
 else if ZP r [0x100,0x12F,0x132,0x137,0x14A,0x177,0x460,0x481,0x48A,0x4BF,0x4D0,0x52F]then r - r%2+1
 else if ZP r [0x139,0x148,0x179,0x17E,0x4C1,0x4CE]then r+r%2
 else if ZP r [0x388,0x38A]then r+0x25
 else if ZP r [0x38E,0x38F]then r+0x3F
 else if ZP r [0x400,0x40F]then r+0x50
 else if r=0x178 then 0xFF
 else if r=0x4C0 then 0x4CF
 else if r=0x386 then 0x3AC
 else if r=0x38C then 0x3CC
 else r
theorem kI (r a b:Int):(ZP r [a,b]=true)=(a<=r/\r<=b):=by simp [ZP,ZL]
theorem kH (r a b c d e f:Int):(ZP r [a,b,c,d,e,f]=true)=((a<=r/\r<=b)\/(c<=r/\r<=d)\/(e<=r/\r<=f)):=by simp [ZP,ZL]
theorem kG (r a b c d e f g h i j k l:Int):(ZP r [a,b,c,d,e,f,g,h,i,j,k,l]=true)=((a<=r/\r<=b)\/(c<=r/\r<=d)\/(e<=r/\r<=f)\/(g<=r/\r<=h)\/(i<=r/\r<=j)\/(k<=r/\r<=l)):=by simp [ZP,ZL]
theorem sR (r:Int) (a:0<=r) (b:r<=0x10FFFF):0<=Qg r/\Qg r<=0x10FFFF:=by
 unfold Qg;simp only [kI,kH,kG]
 split
 ·omega
 split
 ·omega
 split
 ·omega
 split
 ·omega
 split
 ·omega
 split
 ·omega
 repeat (split;·omega)
 omega
def rn (s:aB) (i:Nat):Nat:=(Utf8.decode s i).1
def wd (s:aB) (i:Nat):Nat:=(Utf8.decode s i).2
theorem rP (s:aB) (a:Nat) (h:a<s.size):Lib.decodeGo (s.extract a s.size)=Utf8.decode s a:=by
 have c:(s.extract a s.size).data.toList=s.data.toList.drop a:=by
  rw [Lib.extract_data,zF (by rw [ze,<-Lib.size_eq];omega)]
 have b:(s.extract a s.size).size≠0:=by rw [Lib.size_eq,c,ze,<-Lib.size_eq];omega
 unfold Lib.decodeGo;rw [if_neg b,<-Lib.decodeL_drop s a,<-c];rfl
theorem UV {s:aB} {i:Nat} (h:i<s.size):1<=wd s i:=by
 unfold wd
 by_cases a:(s[i]'h).toNat<128
 ·rw [decode_ascii s i h a];exact zC _
 ·exact(decode_high s i h (by omega)).2
theorem pU {s:aB} {i:Nat} (h:i<s.size):i+wd s i<=s.size:=by
 unfold wd Utf8.decode;simp only []
 repeat' split
 all_goals simp_all
 all_goals omega
theorem qI (s:aB) (i:Nat):wd s i<=4:=by
 unfold wd Utf8.decode;simp only []
 repeat' split
 all_goals simp
theorem qJ (s:aB) (i:Nat):rn s i<=0x10FFFF:=by
 have a:∀k,(s.get! (i+k)).toNat<256:=fun k=>(s.get! (i+k)).toNat_lt;have b:=a 0;have c:=a 1;have d:=a 2;have e:=a 3;unfold rn Utf8.decode;simp only []
 repeat' split
 all_goals simp_all [Utf8.runeError,Utf8.valid]
 all_goals omega
def atsF (s:aB):Nat->Nat->aE
 |0,_=> []
 |f+1,i=>if i<s.size then i::atsF s f (i+wd s i)else []
theorem l8 (s:aB):∀f g i,s.size<=i+f->s.size<=i+g->atsF s f i=atsF s g i
 |0,0,_,_,_=>rfl
 |0,g+1,i,h,_=>by rw [atsF,atsF,if_neg (by omega)]
 |f+1,0,i,_,h=>by rw [atsF,atsF,if_neg (by omega)]
 |f+1,g+1,i,h,h' =>by
  rw [atsF,atsF]
  by_cases a:i<s.size
  ·have:=UV a;rw [if_pos a,if_pos a,l8 s f g (i+wd s i) (by omega) (by omega)]
  ·rw [if_neg a,if_neg a]
def Yo (s:aB) (i:Nat):aE:=atsF s (s.size - i) i
def ats (s:aB):aE:=Yo s 0
theorem Qo {s:aB} {i:Nat} (h:i<s.size):Yo s i=i::Yo s (i+wd s i):=by
 unfold Yo;rw [show s.size - i=(s.size - i - 1)+1 by omega,atsF,if_pos h];have:=UV h;rw [l8 s _ (s.size - (i+wd s i)) (i+wd s i) (by omega) (by omega)]
theorem vG {s:aB} {i:Nat} (h:s.size<=i):Yo s i= []:=by
 unfold Yo;rw [show s.size - i=0 by omega];rfl
def yg (s:aB):aE:=ats s++ [s.size]
theorem UQ (s:aB):∀f i,∀x∈atsF s f i,i<=x/\x<s.size
 |0,_,_,h=>by simp [atsF]at h
 |f+1,i,x,h=>by
  rw [atsF]at h
  by_cases a:i<s.size
  ·rw [if_pos a]at h;rcases yx.1 h with rfl|h
   ·omega
   ·have:=UQ s f _ x h;omega
  ·rw [if_neg a]at h;simp at h
theorem oG (s:aB):∀f i,(atsF s f i).length<=s.size - i
 |0,_=>by simp [atsF]
 |f+1,i=>by
  rw [atsF]
  by_cases a:i<s.size
  ·rw [if_pos a,z6];have:=oG s f (i+wd s i);have:=UV a;omega
  ·rw [if_neg a];simp
theorem Qn (s:aB):(ats s).length<=s.size:=by have:=oG s (s.size - 0) 0;simpa [ats,Yo]using this
theorem qE (s:aB) (i:Nat) (h:i<s.size):s[i]'h=s.get! i:=by
 have:s.get! i=s.data[i]! :=rfl;rw [this,getElem!_pos s.data i h];rfl
open Go.Proofs.Tryz
open Go
theorem KK (P:Program) (h:P.funcs.any Func.goes=false) (f:FuncId):P.goes f=false:=by
 have a:∀g:FuncId,(P.funcs[g]?).any Func.goes=false:=fun g=>by
  cases hg:P.funcs[g]? with
  |none=>rfl
  |some fn=>
   have c:fn∈P.funcs:=Array.mem_of_getElem? hg;have:=Array.any_eq_false.1 h;simp only [Option.any_some];obtain⟨i,b,rfl⟩:=Array.getElem_of_mem c;exact Bool.eq_false_iff.2 (this i b)
 unfold Program.goes;rw [h];simp only [a,Bool.and_false,Bool.or_false];simp
theorem N4 {P:Program} {c:OpenClaim} (a:c.start= .entering) (h:P.funcs.any Func.goes=false):false=c.goesBy P:=by
 unfold OpenClaim.goesBy Program.goesAt Program.goesFrom;rw [a];cases P.funcNamed c.func with
 |none=>rfl
 |some f=>simp [KK P h f]
theorem N5:Tryz.pinned.checked.prog.funcs.any Func.goes=false:=by kernel_rfl
end Go.Proofs.YtjbhbfaeielbiaaGreatDoor

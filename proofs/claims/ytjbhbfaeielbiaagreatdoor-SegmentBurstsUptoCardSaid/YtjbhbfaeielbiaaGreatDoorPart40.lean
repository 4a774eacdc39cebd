import Derived.Test.YtjbhbfaeielbiaaGreatDoorCards
import Derived.Test.YtjbhbfaeielbiaaGreatDoorRows
import Derived.Test.YtjbhbfaeielbiaaGreatDoorPart18
import Derived.Lib.LaidU8T
import Derived.PinnedBridge
import Derived.Test.YtjbhbfaeielbiaaGreatDoorTie
import Derived.ProofKit
import Derived.OpenShut
import Derived.Lay
import Derived.LaidOnce
import Derived.SevenTiedAt
import Derived.Deep.DeepHandedRow
import Derived.Shelf.Vars
set_option maxRecDepth 100000
set_option maxHeartbeats 8000000
set_option linter.unusedVariables false
set_option linter.unusedSimpArgs false
namespace Go.Proofs.YtjbhbfaeielbiaaGreatDoor
open Go.Proofs.Tryz
open Go
theorem KK (P:Program) (h:P.funcs.any Func.goes=false) (f:FuncId):P.goes f=false:=by
 have h1:∀g:FuncId,(P.funcs[g]?).any Func.goes=false:=fun g=>by
  cases hg:P.funcs[g]? with
  |none=>rfl
  |some fn=>
   have hm:fn∈P.funcs:=Array.mem_of_getElem? hg;have:=Array.any_eq_false.1 h;simp only [Option.any_some];obtain⟨i,hi,rfl⟩:=Array.getElem_of_mem hm;exact Bool.eq_false_iff.2 (this i hi)
 unfold Program.goes;rw [h];simp only [h1,Bool.and_false,Bool.or_false];simp
theorem N4 {P:Program} {c:OpenClaim} (hs:c.start= .entering) (h:P.funcs.any Func.goes=false):false=c.goesBy P:=by
 unfold OpenClaim.goesBy Program.goesAt Program.goesFrom;rw [hs];cases P.funcNamed c.func with
 |none=>rfl
 |some f=>simp [KK P h f]
theorem N5:Tryz.pinned.checked.prog.funcs.any Func.goes=false:=by kernel_rfl
open Go.RowKit
def oL:Go.Shelf.Ren:=⟨fun n=>n,fun|5=>5|119=>479|138=>481|139=>482|n=>n,fun|3=>3|4=>4|n=>n⟩
theorem CW:U8Types prog oL:=⟨by kernel_rfl,by kernel_rfl,by kernel_rfl,by kernel_rfl⟩
theorem CY:U8Extra prog oL:=⟨by kernel_rfl,by kernel_rfl,by kernel_rfl,by kernel_rfl,by kernel_rfl,by kernel_rfl,by kernel_rfl⟩
theorem GP:(Rows.laid_unicode_utf8_acceptRanges:DataW Unit)=Lib.acceptData:=by kernel_rfl
theorem rH {w:O} (h1:Lib.VarReads prog w "unicode/utf8.first" Rows.laid_unicode_utf8_first) (h2:Lib.VarReads prog w "unicode/utf8.acceptRanges" Rows.laid_unicode_utf8_acceptRanges):Tabs w:=
 utf8Tabs_of_readsT CW CY (Pinned.utf8First_eq▸h1) (GP▸h2)
end Go.Proofs.YtjbhbfaeielbiaaGreatDoor
namespace Go.Proofs.YtjbhbfaeielbiaaGreatDoor.segmentBursts
open Go.Proofs.Tryz
open Rep (rep)
open Go.ChangeShapes Go.WideShapes Go.ChangeAt Go.RowKit Go.Deep
theorem nM {w:O} {n nm:String} {d:DataW Unit} {g:Nat} {ty:TypeId} (h:Lib.VarReads prog w n (.iface nm d)) (hg:Tryz.prog.globalNamed n=some g) (ht:(Tryz.prog.globals[g]?).map (·.type)=some ty) (hu:(Tryz.prog.underlying ty).map (fun u=>match u with| .interface _=>true|_=>false)=some true):
 ∃t p,w.cell? ⟨g,0,none⟩=some (.iface t p)/\g<w.heap.size:=by
 obtain⟨g',ty',cs,fuel,p,e1,e2,e3,e4⟩:=h;rw [hg]at e1;cases e1;rw [ht]at e2;cases e2;have hc:=World.var?_cell hg e3 0;rw [<-Array.getElem?_toList]at hc;cases hu2:Tryz.prog.underlying ty with
 |none=>rw [hu2]at hu;cases hu
 |some u=>
  rw [hu2]at hu;cases u<;>simp at hu
  cases fuel with
  |zero=>cases e4
  |succ fuel=>
   unfold DataW.trod at e4;rw [hu2]at e4;generalize cs.toList=l at e4 hc;rcases l with _|⟨v,_|⟨v2,l⟩⟩
   ·simp at e4
   ·cases v<;>simp at e4
    simp only [zf]at hc;exact⟨_,_,hc,ye hc⟩
   ·simp at e4
theorem PH:ownKnob Tryz.prog.godebug=none:=by kernel_rfl
theorem o6:laidOutB prog=true:=by kernel_rfl
def laid:List (String×DataW Unit):=Rows.segmentBurstsUptoRow.laid
theorem tH {H:Type} {enc:TypeId×V->H} {C:Checked} {os:Os} {f:FuncId} {fn:Func} {s:OpenSpec} {conds:List PathCond} {apart:Bool} {laid:List (String×DataW Unit)} (modest:Bool) (w0:O) (args:aG) (hos:w0.os=os)
 (hsh:(w0.forCall (fun _ _=>0) ⟨#[],args, []⟩).Shaped C.prog)
 (hok:Input.okWideB C.prog (w0.forCall (fun _ _=>0) ⟨#[],args, []⟩) f ⟨#[],args, []⟩=true)
 (hrow:s.preRow enc C.prog fn conds apart laid (w0.forCall (fun _ _=>0) ⟨#[],args, []⟩).memory args):
 ∃(w:O) (tape:Tape) (i:Input),w.os=os/\(w.forCall tape i).Shaped C.prog/\i.vars= []/\Input.okWide C.prog (w.forCall tape i) .any w.heap.size f i/\
  s.preRow enc C.prog fn conds apart laid (w.forCall tape i).memory i.args/\({modest:=modest}:Assume).holds C.prog (lone (Frame.enter C.prog f i.args .normal) [] (w.forCall tape i)):=
 ⟨w0,fun _ _=>0,⟨#[],args, []⟩,hos,hsh,(Input.okWide_of_okWideB (base:=0) hok).1,(Input.okWide_of_okWideB hok).2,hrow,by
  simp only [Assume.holds];exact⟨by simp,by simp,fun _=>Modest.zero,by simp,by simp⟩⟩
theorem reads (os:Os) {H:Type} (enc:TypeId×V->H):∃yg,DataW.whole enc prog ((World.laidAll prog os laid).forCall (fun _ _=>0) ⟨#[],#[.agg #[.slice none 0 0],.slice none 0 0,.int .i64 0,.int .u32 0], []⟩).memory Tryz.f5.params.toList Rows.segmentBurstsSpec.vars false #[Value.agg #[.slice none 0 0],.slice none 0 0,.int .i64 0,.int .u32 0].toList 8=some ([.agg [.nil],.nil,.lit (.int .i64 0),.lit (.int .u32 0)], [],yg):=
 ⟨[],by kernel_rfl⟩
end Go.Proofs.YtjbhbfaeielbiaaGreatDoor.segmentBursts

import Derived.Test.YtjbhbfaeielbiaaGreatDoorPart03
import Derived.Test.YtjbhbfaeielbiaaGreatDoorPart07
import Derived.Test.YtjbhbfaeielbiaaGreatDoorPart06
set_option maxRecDepth 100000
set_option maxHeartbeats 8000000
set_option linter.unusedVariables false
set_option linter.unusedSimpArgs false
namespace Go.Proofs.YtjbhbfaeielbiaaGreatDoor
open Tryz
open Rep (rep)
open Go.RowKit
theorem qD (r a b:Int) (w:O):Calls prog 293 #[.int .i32 r,.int .i32 a,.int .i32 b] w fun e w' =>e= .returned (.bool (ZL r a b))/\w=w' :=by
 by_cases h:a<=r
 ·by_cases h2:r<=b
  ·rw [show ZL r a b=true by simp [ZL,h,h2]];go_enter func293,ntmps293;go_wp2;go_ret
   exact⟨rfl,rfl⟩
  ·rw [show ZL r a b=false by simp [ZL,h2]];go_enter func293,ntmps293;go_wp2;go_ret
   exact⟨rfl,rfl⟩
 ·rw [show ZL r a b=false by simp [ZL,h]];go_enter func293,ntmps293;go_wp2;go_ret
  exact⟨rfl,rfl⟩
theorem UE {r a b:Int} {w:O} {R:Ending->O->Prop} (h1:a<=r->r<=b->R (.returned (.bool true)) w) (h2:r<a\/b<r->R (.returned (.bool false)) w):Calls prog 293 #[.int .i32 r,.int .i32 a,.int .i32 b] w R:=by
 by_cases h:a<=r/\r<=b
 ·refine(qD r a b w).mono ?_;rintro e w' ⟨rfl,rfl⟩;rw [show ZL r a b=true by simp [ZL,h]];exact h1 h.1 h.2
 ·refine(qD r a b w).mono ?_;rintro e w' ⟨rfl,rfl⟩;rw [show ZL r a b=false by rw [rU];exact h];exact h2 (by omega)
theorem dU (r:Int) (w:O):Calls prog 248 #[.int .i32 r] w fun e w' =>e= .returned (.bool (aQ r))/\w=w' :=by
 have hx:=D6 r;obtain⟨q,hq⟩:=eX (aQ r);rw [hq]at hx⊢;have Hx:=zA hx;clear hx hq
 all_goals
  go_enter func248,ntmps248;go_wp2_with (go_at_call 293;refine UE (fun _ _=> ?_) (fun _=> ?_))
  all_goals
   go_ret
   refine⟨yl ?_,rfl⟩;have hx:=Hx.out;clear Hx;cases q<;>simp at hx⊢<;>(try simp only [beq_iff_eq,beq_eq_false_iff_ne,bne_iff_ne,bne_eq_false_iff_eq,ne_eq,Bool.not_eq_true,Bool.not_eq_false]at*)<;>omega
theorem FK (r:Int) (w:O):Calls prog 246 #[.int .i32 r] w fun e w' =>e= .returned (.bool (bZ r))/\w=w' :=by
 have hx:=AX r;obtain⟨q,hq⟩:=eX (bZ r);rw [hq]at hx⊢;have Hx:=zA hx;clear hx hq
 all_goals
  go_enter func246,ntmps246;go_wp2_with (go_at_call 293;refine UE (fun _ _=> ?_) (fun _=> ?_))
  all_goals
   go_ret
   refine⟨yl ?_,rfl⟩;have hx:=Hx.out;clear Hx;cases q<;>simp at hx⊢<;>(try simp only [beq_iff_eq,beq_eq_false_iff_ne,bne_iff_ne,bne_eq_false_iff_eq,ne_eq,Bool.not_eq_true,Bool.not_eq_false]at*)<;>omega
theorem jP (r:Int) (w:O):Calls prog 245 #[.int .i32 r] w fun e w' =>e= .returned (.bool (Wo r))/\w=w' :=by
 have hx:=uN r;obtain⟨q,hq⟩:=eX (Wo r);rw [hq]at hx⊢;have Hx:=zA hx;clear hx hq
 all_goals
  go_enter func245,ntmps245;go_wp2_with (go_at_call 293;refine UE (fun _ _=> ?_) (fun _=> ?_))
  all_goals
   go_ret
   refine⟨yl ?_,rfl⟩;have hx:=Hx.out;clear Hx;cases q<;>simp at hx⊢<;>(try simp only [beq_iff_eq,beq_eq_false_iff_ne,bne_iff_ne,bne_eq_false_iff_eq,ne_eq,Bool.not_eq_true,Bool.not_eq_false]at*)<;>omega
theorem GA (r:Int) (w:O):Calls prog 180 #[.int .i32 r] w fun e w' =>e= .returned (.bool (Uq r))/\w=w' :=by
 have hx:=BX r;obtain⟨q,hq⟩:=eX (Uq r);rw [hq]at hx⊢;have Hx:=zA hx;clear hx hq;have hc:(r<9)\/(9<=r/\r<=13)\/(14<=r/\r<32)\/(32<=r/\r<=32)\/(33<=r/\r<133)\/(133<=r/\r<=133)\/(134<=r/\r<160)\/(160<=r/\r<=160)\/(161<=r/\r<8192)\/(8192<=r/\r<=8202)\/(8203<=r/\r<8232)\/(8232<=r/\r<=8232)\/(8233<=r/\r<=8233)\/(8234<=r/\r<12288)\/(12288<=r/\r<=12288)\/12289<=r:=by omega
 have fin:∀b:Bool,(b=true↔q=true)->b=q:=fun b h=>Bool.eq_iff_iff.2 h;have Fin:=zA fin;clear fin;rcases hc with h|h|h|h|h|h|h|h|h|h|h|h|h|h|h|h
 all_goals
  go_enter func180,ntmps180;go_wp2
  all_goals
   go_ret
   refine⟨yl (Fin.out _ ?_),rfl⟩;rw [Hx.out];clear Hx Fin
   (try simp only [beq_iff_eq,beq_eq_false_iff_ne,bne_iff_ne,ne_eq,Bool.not_eq_true,Bool.not_eq_false]at*)
   simp;omega
theorem uQ (r:Int) (h0:0<=r) (h1:r<=0x10FFFF):bits .and .i32 r 1=r%2:=by
 obtain⟨n,rfl⟩:=Int.eq_ofNat_of_zero_le h0;have h2:n &&& 1=n%2:=Nat.and_one_is_mod n;have e1:(BitVec.ofInt 32 (n:Int)).toNat=n:=by rw [yE,yJ];exact zy (by omega)
 have e2:(BitVec.ofInt 32 1).toNat=1:=by decide
 show IntKind.i32.wrap ((BitVec.ofInt 32 (n:Int) &&& BitVec.ofInt 32 1).toNat:Int)=_;rw [BitVec.toNat_and,e1,e2,h2,IntKind.wrap_i32];omega
theorem EW (r odd:Int) (h0:0<=r) (h1:r<=0x10FFFF) (w:O):Calls prog 369 #[.int .i32 r,.int .i32 odd] w fun e w' =>e= .returned (.int .i32 (if r%2=odd then r+1 else r))/\w=w' :=by
 have hb:=uQ r h0 h1
 by_cases h:r%2=odd
 ·rw [if_pos h];have h' :(r%2==odd)=true:=(by simp [h]);clear h;go_enter func369,ntmps369;go_wp2;go_ret
  exact⟨rfl,rfl⟩
 ·rw [if_neg h];have h' :(r%2==odd)=false:=(by simp [h]);clear h;go_enter func369,ntmps369;go_wp2;go_ret
  exact⟨rfl,rfl⟩
theorem lI (r:Int) (h0:0<=r) (h1:r<=0x10FFFF) (w:O):Calls prog 342 #[.int .i32 r] w fun e w' =>e= .returned (.int .i32 (Qg r))/\w=w' :=by
 go_enter func342,ntmps342
 go_wp2_with (first
  |(go_at_call 293;refine UE (fun _ _=> ?_) (fun _=> ?_))
  |(go_at_call 369;refine(EW _ _ h0 h1 _).mono ?_;rintro e w' ⟨rfl,rfl⟩))
 all_goals
  go_ret
  refine⟨eU ?_,rfl⟩
  (try simp only [beq_iff_eq,beq_eq_false_iff_ne,bne_iff_ne,bne_eq_false_iff_eq,ne_eq,Bool.not_eq_true,Bool.not_eq_false]at*)
  unfold Qg;simp only [kI,kH,kG]
  first
  |omega
  |((repeat (first|rw [if_pos (by omega)]|rw [if_neg (by omega)]));first|done|omega|(split<;>omega))
theorem KV {a b:aB} (h:a=b):(a.toList==b.toList)=true:=by subst h;simp
theorem MP {a b:aB} (h:a≠b):(a.toList==b.toList)=false:=by
 rw [beq_eq_false_iff_ne];intro e;rw [ByteArray.toList_eq,ByteArray.toList_eq]at e;exact h (ByteArray.ext (Array.toList_inj.1 e))
def Zx (fs:List Field) (nm:aB):Option Nat:=fs.findIdx? (fun f=>decide (f.name=nm))
theorem eD {fs:List Field} {nm:aB} {k:Nat} (h:Zx fs nm=some k):∃f,fs[k]? =some f/\f.name=nm:=by
 unfold Zx at h;rw [List.findIdx?_eq_some_iff_getElem]at h;obtain⟨hk,h1,_⟩:=h;exact⟨_,zB hk,by simpa using h1⟩
theorem JM {α:Type} {xs:List α} {p:α->Bool} {j:Nat} {x:α} (hx:xs[j]? =some x) (hp:p x=true) (hno:∀i y,i<j->xs[i]? =some y->p y=false):xs.findIdx? p=some j:=by
 have hk:=zN hx;rw [List.findIdx?_eq_some_iff_getElem];rw [zB hk]at hx;cases hx;exact⟨hk,hp,fun i hi=>by simpa using hno i _ hi (zB (by omega))⟩
theorem JN {α:Type} {xs:List α} {p:α->Bool} (hno:∀i y,i<xs.length->xs[i]? =some y->p y=false):xs.findIdx? p=none:=by
 rw [List.findIdx?_eq_none_iff];intro f hf;obtain⟨j,hj⟩:=z8 hf
 simpa using hno j f (zN hj) hj
theorem JO {α:Type} {xs:List α} {p:α->Bool} {j:Nat} {x:α} (hx:xs[j]? =some x) (hp:p x=false) (hno:∀i y,i<j->xs[i]? =some y->p y=false):∀i y,i<j+1->xs[i]? =some y->p y=false:=by
 intro i y hi hy;rcases zk i j with h|h
 ·exact hno i y h hy
 ·obtain rfl:i=j:=by omega
  cases hx.symm.trans hy;exact hp
theorem qY (A:aA) (n c:Nat) (fs:List Field) (k:FuncId) (cv:V) (p:Field->Bool) (w:O) (hs:zL w (·<w.heap.size) A n c fs)
 (hent:∀(args:aG) (W:O),(callFunc k args).run prog W= .ok (.enter k args) W)
 (hp:∀W cs x,Below w.heap.size w W->rep W (·<W.heap.size) cs x->Calls prog k #[.agg cs.toArray,cv] W fun e W' =>e= .returned (.bool (p x))/\Below W.heap.size W W'):
 Calls prog 93 #[.slice A n c,.func (.func k) #[] #[cv]] w fun e w' =>e= .returned (.int .i64 (match fs.findIdx? p with|some k=>k|none=> -1))/\Below w.heap.size w w' :=by
 have hcap:=hs.cap;have hlen:=zA hs.length;have Hp:=zA hp;clear hp;obtain⟨r,hr⟩:∃r:Int,(match fs.findIdx? p with|some k=>(k:Int)|none=> -1)=r:=⟨_,rfl⟩;rw [hr];have Hr:=zA hr;clear hr;go_enter func93,ntmps93;go_wp2
 go_loopw [8] (fun i wr=>∃k:Nat,k<=n/\i= .int .i64 k/\(∀j f,j<k->fs[j]? =some f->p f=false)/\Below w.heap.size w wr) (fun i _=>n - (intOf i).toNat)
 case atStart=>exact⟨0,zJ _,rfl,fun j f h=>by omega,zE _ _⟩
 case round=>
  obtain⟨j,hj,rfl,hno,hb⟩:=hrel;have Hno:=zA hno;clear hno
  by_cases hlt:j<n
  ·obtain⟨bb,off,f,rfl,Hf,hbk,he⟩:=(hs.on hb).at_ hlt
   obtain⟨A2,n2,c2,g0,g1,g2,g3,g4,g5,g6,q1,q2,q3,q4,q5⟩:=Field.at_ he
   have Hcs:Hid (rep wr (·<wr.heap.size) [.string f.name,.int .i64 f.kind,.slice A2 n2 c2,.int .i64 f.scale,.int .i64 f.dims,.bool f.many,.bool f.stored] f):=Field.of_cells q1 q2 q3 q4 q5;clear hs he q1 q2 q3 q4 q5;have ha:=Hp.out wr _ f hb Hcs.out;have Ha:=zA ha;clear ha;go_wp2_with fail;refine Ha.out.mono ?_;rintro e w1 ⟨rfl,hb1⟩;have hb2:=hb.trans (hb1.mono hb.size)
   by_cases hpf:p f=true
   ·have Hfin:Hid (r=j):=by
     show _=_;rw [<-Hr.out,JM Hf.out hpf Hno.out]
    clear hb;go_wp2;go_ret
    exact⟨eU Hfin.out.symm,hb2⟩
   ·have hpf' :p f=false:=(by simpa using hpf);have Hn:Hid (∀j' f,j' <j+1->fs[j']? =some f->p f=false):=JO Hf.out hpf' Hno.out;clear hb hpf;go_wp2
    go_roundw
    case rel=>exact⟨j+1,by omega,by go_num,Hn.out,hb2⟩
    case measure=>simp [intOf];omega
  ·obtain rfl:j=n:=by omega
   have Hfin:Hid (r= -1):=by
    show _=_;rw [<-Hr.out,JN (fun j' f hj' =>Hno.out j' f (by have:=hlen.out;omega))]
   clear hs;go_wp2;go_ret
   exact⟨eU Hfin.out.symm,hb⟩
theorem FF (cs:aF) (f:Field) (pb:Nat) (nm:aB) (F:Nat->Prop) (w:O) (hf:rep w F cs f) (hn:w.cell? ⟨pb,0,none⟩=some (.string nm)):
 Calls prog 94 #[.agg cs.toArray,.pointer (some ⟨pb,0,none⟩)] w fun e w' =>e= .returned (.bool (decide (f.name=nm)))/\Below w.heap.size w w' :=by
 obtain⟨A2,n2,c2,rfl,_⟩:=Field.cells_of hf;have hn' :∀o,(w.alloc o).cell? ⟨pb,0,none⟩=some (.string nm):=fun o=>((zE _ _).alloc (zC _) o).cell (p:=⟨pb,0,none⟩) (ye hn)|>.trans hn
 clear hf hn;obtain⟨g,hg⟩:=eX (f.name);rw [hg]
 by_cases hq:g=nm
 ·have hb1:(g.toList==nm.toList)=true:=KV hq;rw [decide_eq_true hq];clear hg hq;go_enter func94,ntmps94;go_wp2;go_ret
  exact⟨rfl,(zE _ _).alloc (zC _) _⟩
 ·have hb1:(g.toList==nm.toList)=false:=MP hq;rw [decide_eq_false hq];clear hg hq;go_enter func94,ntmps94;go_wp2;go_ret
  exact⟨rfl,(zE _ _).alloc (zC _) _⟩
theorem lR (A:aA) (n c:Nat) (fs:List Field) (nm:aB) (w:O) (hs:zL w (·<w.heap.size) A n c fs) (r:Int) (q:Bool)
 (H:Hid ((Zx fs nm=none/\r=0/\q=false)\/∃k:Nat,Zx fs nm=some k/\r=k/\q=true)):
 Calls prog 39 #[.agg #[.slice A n c],.string nm] w fun e w' =>e= .returned (.tuple #[.int .i64 r,.bool q])/\Below w.heap.size w w' :=by
 have hmf:=@mF prog;have hlen:=hs.length;have hcap:=hs.cap;have hb0:Below w.heap.size w ((w.alloc (.cells #[.slice A n c] 24)).alloc (.cells #[.string nm] 9)):=(((zE _ _).alloc (zC _) _).alloc (by simp) _);have hs1:=hs.on hb0
 have hcell:((w.alloc (.cells #[.slice A n c] 24)).alloc (.cells #[.string nm] 9)).cell? ⟨w.heap.size+1,0,none⟩=some (.string nm):=by
  simp
 have H1:=zA hs1;have H2:=zA hcell;have H0:=zA hb0;clear hs1 hcell hs hb0;go_enter func39,ntmps39;go_wp2_with fail;have hb2:=fun w1 (h:Below ((w.alloc (.cells #[.slice A n c] 24)).alloc (.cells #[.string nm] 9)).heap.size ((w.alloc (.cells #[.slice A n c] 24)).alloc (.cells #[.string nm] 9)) w1)=>H0.out.trans (h.mono H0.out.size);have Hb2:=zA hb2;clear hb2
 refine(qY A n c fs 94 _ (fun f=>decide (f.name=nm)) _ H1.out (Go.Proofs.enters_of func94 (by kernel_rfl) rfl) ?_).mono ?_
 ·intro W cs x hb hx;exact FF cs x _ nm _ W hx ((hb.cell (p:=⟨w.heap.size+1,0,none⟩) (by simp)).trans H2.out)
 ·rintro e w1 ⟨rfl,hb1⟩;have hb3:=Hb2.out w1 hb1;rcases H.out with⟨hfn,rfl,rfl⟩|⟨k,hfn,rfl,rfl⟩
  ·have hfn' :fs.findIdx? (fun f=>decide (f.name=nm))=none:=hfn;rw [hfn'];clear hfn hfn' hb1 H;go_wp2;go_ret2;exact⟨rfl,hb3⟩
  ·have hfn' :fs.findIdx? (fun f=>decide (f.name=nm))=some k:=hfn;have hk:k<n:=(by obtain⟨f,hf,_⟩:=eD hfn;have:=zN hf;omega);rw [hfn'];clear hfn hfn' hb1 hlen H;rcases zi k with rfl|hk0
   ·go_wp2;go_ret2;exact⟨rfl,hb3⟩
   ·have hk1:(0:Int)<k:=(by omega);have hk2:(0:Int)<=k:=(by omega);go_wp2;go_ret2;exact⟨rfl,hb3⟩
theorem FD (A:aA) (n c:Nat) (fs:List Field) (nm:aB) (w:O) (hs:zL w (·<w.heap.size) A n c fs) (h:Zx fs nm=none):
 Calls prog 39 #[.agg #[.slice A n c],.string nm] w fun e w' =>e= .returned (.tuple #[.int .i64 0,.bool false])/\Below w.heap.size w w' :=
 lR A n c fs nm w hs 0 false (.inl ⟨h,rfl,rfl⟩)
theorem Ug (A:aA) (n c:Nat) (fs:List Field) (nm:aB) (w:O) (hs:zL w (·<w.heap.size) A n c fs) (k:Nat) (h:Zx fs nm=some k):
 Calls prog 39 #[.agg #[.slice A n c],.string nm] w fun e w' =>e= .returned (.tuple #[.int .i64 k,.bool true])/\Below w.heap.size w w' :=
 lR A n c fs nm w hs k true (.inr ⟨k,h,rfl,rfl⟩)
end Go.Proofs.YtjbhbfaeielbiaaGreatDoor

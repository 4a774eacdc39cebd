import Derived.Test.YtjbhbfaeielbiaaGreatDoorPart05
import Derived.Test.YtjbhbfaeielbiaaGreatDoorPart07
import Derived.Test.YtjbhbfaeielbiaaGreatDoorPart08
set_option maxRecDepth 100000
set_option maxHeartbeats 8000000
set_option linter.unusedVariables false
set_option linter.unusedSimpArgs false
namespace Go.Proofs.YtjbhbfaeielbiaaGreatDoor
open Go.Proofs.Tryz
open Rep (rep)
open Go.RowKit
theorem qD (r a b:Int) (w:O):Calls prog 293 #[.int .i32 r,.int .i32 a,.int .i32 b] w fun e w' =>e= .returned (.bool (ZL r a b))/\w=w' :=by
 by_cases h:a<=r
 ·by_cases c:r<=b
  ·rw [show ZL r a b=true by simp [ZL,h,c]];go_enter func293,ntmps293;go_wp2;go_ret
   exact⟨rfl,rfl⟩
  ·rw [show ZL r a b=false by simp [ZL,c]];go_enter func293,ntmps293;go_wp2;go_ret
   exact⟨rfl,rfl⟩
 ·rw [show ZL r a b=false by simp [ZL,h]];go_enter func293,ntmps293;go_wp2;go_ret
  exact⟨rfl,rfl⟩
theorem UE {r a b:Int} {w:O} {R:Ending->O->Prop} (c:a<=r->r<=b->R (.returned (.bool true)) w) (d:r<a\/b<r->R (.returned (.bool false)) w):Calls prog 293 #[.int .i32 r,.int .i32 a,.int .i32 b] w R:=by
 by_cases h:a<=r/\r<=b
 ·refine(qD r a b w).mono ?_;rintro e w' ⟨rfl,rfl⟩;rw [show ZL r a b=true by simp [ZL,h]];exact c h.1 h.2
 ·refine(qD r a b w).mono ?_;rintro e w' ⟨rfl,rfl⟩;rw [show ZL r a b=false by rw [rU];exact h];exact d (by omega)
theorem dU (r:Int) (w:O):Calls prog 248 #[.int .i32 r] w fun e w' =>e= .returned (.bool (aQ r))/\w=w' :=by
 have a:=D6 r;obtain⟨q,c⟩:=eX (aQ r);rw [c]at a⊢;have b:=zA a;clear a c
 all_goals
  go_enter func248,ntmps248;go_wp2_with (go_at_call 293;refine UE (fun _ _=> ?_) (fun _=> ?_))
  all_goals
   go_ret
   refine⟨yl ?_,rfl⟩;have a:=b.o;clear b;cases q<;>simp at a⊢<;>(try simp only [beq_iff_eq,beq_eq_false_iff_ne,bne_iff_ne,bne_eq_false_iff_eq,ne_eq,Bool.not_eq_true,Bool.not_eq_false]at*)<;>omega
theorem FK (r:Int) (w:O):Calls prog 246 #[.int .i32 r] w fun e w' =>e= .returned (.bool (bZ r))/\w=w' :=by
 have a:=AX r;obtain⟨q,c⟩:=eX (bZ r);rw [c]at a⊢;have b:=zA a;clear a c
 all_goals
  go_enter func246,ntmps246;go_wp2_with (go_at_call 293;refine UE (fun _ _=> ?_) (fun _=> ?_))
  all_goals
   go_ret
   refine⟨yl ?_,rfl⟩;have a:=b.o;clear b;cases q<;>simp at a⊢<;>(try simp only [beq_iff_eq,beq_eq_false_iff_ne,bne_iff_ne,bne_eq_false_iff_eq,ne_eq,Bool.not_eq_true,Bool.not_eq_false]at*)<;>omega
theorem jP (r:Int) (w:O):Calls prog 245 #[.int .i32 r] w fun e w' =>e= .returned (.bool (Wo r))/\w=w' :=by
 have a:=uN r;obtain⟨q,c⟩:=eX (Wo r);rw [c]at a⊢;have b:=zA a;clear a c
 all_goals
  go_enter func245,ntmps245;go_wp2_with (go_at_call 293;refine UE (fun _ _=> ?_) (fun _=> ?_))
  all_goals
   go_ret
   refine⟨yl ?_,rfl⟩;have a:=b.o;clear b;cases q<;>simp at a⊢<;>(try simp only [beq_iff_eq,beq_eq_false_iff_ne,bne_iff_ne,bne_eq_false_iff_eq,ne_eq,Bool.not_eq_true,Bool.not_eq_false]at*)<;>omega
theorem GA (r:Int) (w:O):Calls prog 180 #[.int .i32 r] w fun e w' =>e= .returned (.bool (Uq r))/\w=w' :=by
 have d:=BX r;obtain⟨q,g⟩:=eX (Uq r);rw [g]at d⊢;have f:=zA d;clear d g;have i:(r<9)\/(9<=r/\r<=13)\/(14<=r/\r<32)\/(32<=r/\r<=32)\/(33<=r/\r<133)\/(133<=r/\r<=133)\/(134<=r/\r<160)\/(160<=r/\r<=160)\/(161<=r/\r<8192)\/(8192<=r/\r<=8202)\/(8203<=r/\r<8232)\/(8232<=r/\r<=8232)\/(8233<=r/\r<=8233)\/(8234<=r/\r<12288)\/(12288<=r/\r<=12288)\/12289<=r:=by omega
 have c:∀b:Bool,(b=true↔q=true)->b=q:=fun b h=>Bool.eq_iff_iff.2 h;have a:=zA c;clear c;rcases i with h|h|h|h|h|h|h|h|h|h|h|h|h|h|h|h
 all_goals
  go_enter func180,ntmps180;go_wp2
  all_goals
   go_ret
   refine⟨yl (a.o _ ?_),rfl⟩;rw [f.o];clear f a
   (try simp only [beq_iff_eq,beq_eq_false_iff_ne,bne_iff_ne,ne_eq,Bool.not_eq_true,Bool.not_eq_false]at*)
   simp;omega
theorem uQ (r:Int) (c:0<=r) (e:r<=0x10FFFF):bits .and .i32 r 1=r%2:=by
 obtain⟨n,rfl⟩:=Int.eq_ofNat_of_zero_le c;have d:n &&& 1=n%2:=Nat.and_one_is_mod n;have a:(BitVec.ofInt 32 (n:Int)).toNat=n:=by rw [yE,yJ];exact zy (by omega)
 have b:(BitVec.ofInt 32 1).toNat=1:=by decide
 show IntKind.i32.wrap ((BitVec.ofInt 32 (n:Int) &&& BitVec.ofInt 32 1).toNat:Int)=_;rw [BitVec.toNat_and,a,b,d,IntKind.wrap_i32];omega
theorem EW (r a:Int) (c:0<=r) (d:r<=0x10FFFF) (w:O):Calls prog 369 #[.int .i32 r,.int .i32 a] w fun e w' =>e= .returned (.int .i32 (if r%2=a then r+1 else r))/\w=w' :=by
 have f:=uQ r c d
 by_cases h:r%2=a
 ·rw [if_pos h];have b :(r%2==a)=true:=(by simp [h]);clear h;go_enter func369,ntmps369;go_wp2;go_ret
  exact⟨rfl,rfl⟩
 ·rw [if_neg h];have b :(r%2==a)=false:=(by simp [h]);clear h;go_enter func369,ntmps369;go_wp2;go_ret
  exact⟨rfl,rfl⟩
theorem lI (r:Int) (a:0<=r) (b:r<=0x10FFFF) (w:O):Calls prog 342 #[.int .i32 r] w fun e w' =>e= .returned (.int .i32 (Qg r))/\w=w' :=by
 go_enter func342,ntmps342
 go_wp2_with (first
  |(go_at_call 293;refine UE (fun _ _=> ?_) (fun _=> ?_))
  |(go_at_call 369;refine(EW _ _ a b _).mono ?_;rintro e w' ⟨rfl,rfl⟩))
 all_goals
  go_ret
  refine⟨eU ?_,rfl⟩
  (try simp only [beq_iff_eq,beq_eq_false_iff_ne,bne_iff_ne,bne_eq_false_iff_eq,ne_eq,Bool.not_eq_true,Bool.not_eq_false]at*)
  unfold Qg;simp only [kI,kH,kG]
  first
  |omega
  |((repeat (first|rw [if_pos (by omega)]|rw [if_neg (by omega)]));first|done|omega|(split<;>omega))
theorem KV {a b:aB} (h:a=b):(a.toList==b.toList)=true:=by subst h;simp
theorem MP {a b:aB} (h:a≠b):(a.toList==b.toList)=false:=by
 rw [beq_eq_false_iff_ne];intro e;rw [ByteArray.toList_eq,ByteArray.toList_eq]at e;exact h (ByteArray.ext (Array.toList_inj.1 e))
def Zx (a:List Field) (b:aB):Option Nat:=a.findIdx? (fun f=>decide (f.name=b))
theorem eD {a:List Field} {b:aB} {k:Nat} (h:Zx a b=some k):∃f,a[k]? =some f/\f.name=b:=by
 unfold Zx at h;rw [List.findIdx?_eq_some_iff_getElem]at h;obtain⟨d,c,_⟩:=h;exact⟨_,zB d,by simpa using c⟩
theorem JM {α:Type} {xs:List α} {p:α->Bool} {j:Nat} {x:α} (b:xs[j]? =some x) (e:p x=true) (a:∀i y,i<j->xs[i]? =some y->p y=false):xs.findIdx? p=some j:=by
 have c:=zN b;rw [List.findIdx?_eq_some_iff_getElem];rw [zB c]at b;cases b;exact⟨c,e,fun i d=>by simpa using a i _ d (zB (by omega))⟩
theorem JN {α:Type} {xs:List α} {p:α->Bool} (a:∀i y,i<xs.length->xs[i]? =some y->p y=false):xs.findIdx? p=none:=by
 rw [List.findIdx?_eq_none_iff];intro f c;obtain⟨j,b⟩:=z8 c
 simpa using a j f (zN b) b
theorem JO {α:Type} {xs:List α} {p:α->Bool} {j:Nat} {x:α} (d:xs[j]? =some x) (c:p x=false) (a:∀i y,i<j->xs[i]? =some y->p y=false):∀i y,i<j+1->xs[i]? =some y->p y=false:=by
 intro i y e b;rcases zk i j with h|h
 ·exact a i y h b
 ·obtain rfl:i=j:=by omega
  cases d.symm.trans b;exact c
theorem qY (A:aA) (n c:Nat) (l:List Field) (k:FuncId) (D:V) (p:Field->Bool) (w:O) (s:zL w (·<w.heap.size) A n c l)
 (H:∀(args:aG) (W:O),(callFunc k args).run prog W= .ok (.enter k args) W)
 (I:∀W cs x,Below w.heap.size w W->rep W (·<W.heap.size) cs x->Calls prog k #[.agg cs.toArray,D] W fun e T =>e= .returned (.bool (p x))/\Below W.heap.size W T):
 Calls prog 93 #[.slice A n c,.func (.func k) #[] #[D]] w fun e w' =>e= .returned (.int .i64 (match l.findIdx? p with|some k=>k|none=> -1))/\Below w.heap.size w w' :=by
 have F:=s.cap;have hlen:=zA s.length;have S:=zA I;clear I;obtain⟨r,z⟩:∃r:Int,(match l.findIdx? p with|some k=>(k:Int)|none=> -1)=r:=⟨_,rfl⟩;rw [z];have C:=zA z;clear z;go_enter func93,ntmps93;go_wp2
 go_loopw [8] (fun i wr=>∃k:Nat,k<=n/\i= .int .i64 k/\(∀j f,j<k->l[j]? =some f->p f=false)/\Below w.heap.size w wr) (fun i _=>n - (intOf i).toNat)
 case atStart=>exact⟨0,zJ _,rfl,fun j f h=>by omega,zE _ _⟩
 case round=>
  obtain⟨j,hj,rfl,o,d⟩:=hrel;have b:=zA o;clear o
  by_cases y:j<n
  ·obtain⟨Z,off,f,rfl,B,U,G⟩:=(s.on d).at_ y
   obtain⟨P,Y,c2,g0,g1,g2,g3,g4,g5,g6,J,K,L,M,N⟩:=Field.at_ G
   have u:Hid (rep wr (·<wr.heap.size) [.string f.name,.int .i64 f.kind,.slice P Y c2,.int .i64 f.scale,.int .i64 f.dims,.bool f.many,.bool f.stored] f):=Field.of_cells J K L M N;clear s G J K L M N;have E:=S.o wr _ f d u.o;have Q:=zA E;clear E;go_wp2_with fail;refine Q.o.mono ?_;rintro e w1 ⟨rfl,v⟩;have m:=d.trans (v.mono d.size)
   by_cases g:p f=true
   ·have a:Hid (r=j):=by
     show _=_;rw [<-C.o,JM B.o g b.o]
    clear d;go_wp2;go_ret
    exact⟨eU a.o.symm,m⟩
   ·have q :p f=false:=(by simpa using g);have R:Hid (∀t f,t <j+1->l[t]? =some f->p f=false):=JO B.o q b.o;clear d g;go_wp2
    go_roundw
    case rel=>exact⟨j+1,by omega,by go_num,R.o,m⟩
    case measure=>simp [intOf];omega
  ·obtain rfl:j=n:=by omega
   have a:Hid (r= -1):=by
    show _=_;rw [<-C.o,JN (fun t f X =>b.o t f (by have:=hlen.o;omega))]
   clear s;go_wp2;go_ret
   exact⟨eU a.o.symm,d⟩
theorem FF (cs:aF) (f:Field) (c:Nat) (b:aB) (F:Nat->Prop) (w:O) (j:rep w F cs f) (i:w.cell? ⟨c,0,none⟩=some (.string b)):
 Calls prog 94 #[.agg cs.toArray,.pointer (some ⟨c,0,none⟩)] w fun e w' =>e= .returned (.bool (decide (f.name=b)))/\Below w.heap.size w w' :=by
 obtain⟨l,m,c2,rfl,_⟩:=Field.cells_of j;have k :∀o,(w.alloc o).cell? ⟨c,0,none⟩=some (.string b):=fun o=>((zE _ _).alloc (zC _) o).cell (p:=⟨c,0,none⟩) (ye i)|>.trans i
 clear j i;obtain⟨g,h⟩:=eX (f.name);rw [h]
 by_cases a:g=b
 ·have d:(g.toList==b.toList)=true:=KV a;rw [decide_eq_true a];clear h a;go_enter func94,ntmps94;go_wp2;go_ret
  exact⟨rfl,(zE _ _).alloc (zC _) _⟩
 ·have d:(g.toList==b.toList)=false:=MP a;rw [decide_eq_false a];clear h a;go_enter func94,ntmps94;go_wp2;go_ret
  exact⟨rfl,(zE _ _).alloc (zC _) _⟩
theorem lR (A:aA) (n c:Nat) (m:List Field) (d:aB) (w:O) (t:zL w (·<w.heap.size) A n c m) (r:Int) (q:Bool)
 (H:Hid ((Zx m d=none/\r=0/\q=false)\/∃k:Nat,Zx m d=some k/\r=k/\q=true)):
 Calls prog 39 #[.agg #[.slice A n c],.string d] w fun e w' =>e= .returned (.tuple #[.int .i64 r,.bool q])/\Below w.heap.size w w' :=by
 have J:=@mF prog;have hlen:=t.length;have z:=t.cap;have i:Below w.heap.size w ((w.alloc (.cells #[.slice A n c] 24)).alloc (.cells #[.string d] 9)):=(((zE _ _).alloc (zC _) _).alloc (by simp) _);have s:=t.on i
 have g:((w.alloc (.cells #[.slice A n c] 24)).alloc (.cells #[.string d] 9)).cell? ⟨w.heap.size+1,0,none⟩=some (.string d):=by
  simp
 have B:=zA s;have C:=zA g;have y:=zA i;clear s g t i;go_enter func39,ntmps39;go_wp2_with fail;have o:=fun v (h:Below ((w.alloc (.cells #[.slice A n c] 24)).alloc (.cells #[.string d] 9)).heap.size ((w.alloc (.cells #[.slice A n c] 24)).alloc (.cells #[.string d] 9)) v)=>y.o.trans (h.mono y.o.size);have u:=zA o;clear o
 refine(qY A n c m 94 _ (fun f=>decide (f.name=d)) _ B.o (Go.Proofs.enters_of func94 (by kernel_rfl) rfl) ?_).mono ?_
 ·intro W cs x D K;exact FF cs x _ d _ W K ((D.cell (p:=⟨w.heap.size+1,0,none⟩) (by simp)).trans C.o)
 ·rintro e v ⟨rfl,j⟩;have l:=u.o v j;rcases H.o with⟨b,rfl,rfl⟩|⟨k,b,rfl,rfl⟩
  ·have a :m.findIdx? (fun f=>decide (f.name=d))=none:=b;rw [a];clear b a j H;go_wp2;go_ret2;exact⟨rfl,l⟩
  ·have a :m.findIdx? (fun f=>decide (f.name=d))=some k:=b;have L:k<n:=(by obtain⟨f,E,_⟩:=eD b;have:=zN E;omega);rw [a];clear b a j hlen H;rcases zi k with rfl|F
   ·go_wp2;go_ret2;exact⟨rfl,l⟩
   ·have G:(0:Int)<k:=(by omega);have I:(0:Int)<=k:=(by omega);go_wp2;go_ret2;exact⟨rfl,l⟩
theorem FD (A:aA) (n c:Nat) (a:List Field) (b:aB) (w:O) (d:zL w (·<w.heap.size) A n c a) (h:Zx a b=none):
 Calls prog 39 #[.agg #[.slice A n c],.string b] w fun e w' =>e= .returned (.tuple #[.int .i64 0,.bool false])/\Below w.heap.size w w' :=
 lR A n c a b w d 0 false (.inl ⟨h,rfl,rfl⟩)
theorem Ug (A:aA) (n c:Nat) (a:List Field) (b:aB) (w:O) (d:zL w (·<w.heap.size) A n c a) (k:Nat) (h:Zx a b=some k):
 Calls prog 39 #[.agg #[.slice A n c],.string b] w fun e w' =>e= .returned (.tuple #[.int .i64 k,.bool true])/\Below w.heap.size w w' :=
 lR A n c a b w d k true (.inr ⟨k,h,rfl,rfl⟩)
end Go.Proofs.YtjbhbfaeielbiaaGreatDoor

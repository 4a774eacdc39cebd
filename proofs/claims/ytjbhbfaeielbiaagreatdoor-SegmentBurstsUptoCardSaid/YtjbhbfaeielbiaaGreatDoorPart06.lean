import Derived.Test.YtjbhbfaeielbiaaGreatDoorPart01
import Derived.Lib.Small
import Derived.Sort.Statements
set_option maxRecDepth 100000
set_option maxHeartbeats 8000000
set_option linter.unusedVariables false
set_option linter.unusedSimpArgs false
namespace Go.Proofs.YtjbhbfaeielbiaaGreatDoor
open Rep (rep)
open Go.RowKit
structure Entry where
 field:aB
 text:aB
 numbers:aD
 deriving DecidableEq
instance:Rep Entry where
 size:=3
 pos:=by decide
 rep w F cs x:=∃v0 v1 v2,cs= [v0,v1,v2]/\rep w F [v0] x.field/\rep w F [v1] x.text/\rep w F [v2] x.numbers
 len:=by rintro _ _ _ _ ⟨_,_,_,rfl,_⟩;rfl
 keep:=by
  rintro _ _ _ _ _ _ ⟨v0,v1,v2,rfl,h0,h1,h2⟩ hc hF;exact⟨v0,v1,v2,rfl,Rep.keep h0 hc hF,Rep.keep h1 hc hF,Rep.keep h2 hc hF⟩
 one:=by
  rintro _ _ _ _ u ⟨v0,v1,v2,rfl,h0,h1,h2⟩ hu;simp only [yx,xZ,or_false]at hu;rcases hu with rfl|rfl|rfl
  ·exact Rep.one h0 (by simp)
  ·exact Rep.one h1 (by simp)
  ·exact Rep.one h2 (by simp)
theorem Entry.cells_of {w:O} {F:Nat->Prop} {cs:aF} {x:Entry} (h:rep w F cs x):∃A2 n2 c2,cs= [.string x.field,.string x.text,.slice A2 n2 c2]/\zL w F A2 n2 c2 x.numbers/\x.field.size<=9223372036854775807/\x.text.size<=9223372036854775807:=by
 obtain⟨v0,v1,v2,rfl,⟨e0,p0⟩,⟨e1,p1⟩,⟨A2,n2,c2,e2,p2⟩⟩:=h;cases e0;cases e1;cases e2;exact⟨A2,n2,c2,rfl,p2,p0,p1⟩
theorem Entry.of_cells {w:O} {F:Nat->Prop} {x:Entry} {A2:aA} {n2 c2:Nat} (h0:zL w F A2 n2 c2 x.numbers) (h1:x.field.size<=9223372036854775807) (h2:x.text.size<=9223372036854775807):rep w F [.string x.field,.string x.text,.slice A2 n2 c2] x:=
 ⟨_,_,_,rfl,⟨rfl,h1⟩,⟨rfl,h2⟩,⟨_,_,_,rfl,h0⟩⟩
theorem Entry.at_ {w:O} {F:Nat->Prop} {b off k:Nat} {x:Entry} (h:xp w F b off k x):∃A2 n2 c2,w.cell? ⟨b,off+k*3,none⟩=some (.string x.field)/\w.cell? ⟨b,off+k*3+1,none⟩=some (.string x.text)/\w.cell? ⟨b,off+k*3+2,none⟩=some (.slice A2 n2 c2)/\zL w F A2 n2 c2 x.numbers/\x.field.size<=9223372036854775807/\x.text.size<=9223372036854775807:=by
 obtain⟨cs,h,hc⟩:=h;obtain⟨A2,n2,c2,rfl,p2,p0,p1⟩:=Entry.cells_of h;exact⟨A2,n2,c2,hc 0 _ rfl,hc 1 _ rfl,hc 2 _ rfl,p2,p0,p1⟩
structure Field where
 name:aB
 kind:Int
 chain:aD
 scale:Int
 dims:Int
 many:Bool
 stored:Bool
 deriving DecidableEq
instance:Rep Field where
 size:=7
 pos:=by decide
 rep w F cs x:=∃v0 v1 v2 v3 v4 v5 v6,cs= [v0,v1,v2,v3,v4,v5,v6]/\rep w F [v0] x.name/\rep w F [v1] x.kind/\rep w F [v2] x.chain/\rep w F [v3] x.scale/\rep w F [v4] x.dims/\rep w F [v5] x.many/\rep w F [v6] x.stored
 len:=by rintro _ _ _ _ ⟨_,_,_,_,_,_,_,rfl,_⟩;rfl
 keep:=by
  rintro _ _ _ _ _ _ ⟨v0,v1,v2,v3,v4,v5,v6,rfl,h0,h1,h2,h3,h4,h5,h6⟩ hc hF;exact⟨v0,v1,v2,v3,v4,v5,v6,rfl,Rep.keep h0 hc hF,Rep.keep h1 hc hF,Rep.keep h2 hc hF,Rep.keep h3 hc hF,Rep.keep h4 hc hF,Rep.keep h5 hc hF,Rep.keep h6 hc hF⟩
 one:=by
  rintro _ _ _ _ u ⟨v0,v1,v2,v3,v4,v5,v6,rfl,h0,h1,h2,h3,h4,h5,h6⟩ hu;simp only [yx,xZ,or_false]at hu;rcases hu with rfl|rfl|rfl|rfl|rfl|rfl|rfl
  ·exact Rep.one h0 (by simp)
  ·exact Rep.one h1 (by simp)
  ·exact Rep.one h2 (by simp)
  ·exact Rep.one h3 (by simp)
  ·exact Rep.one h4 (by simp)
  ·exact Rep.one h5 (by simp)
  ·exact Rep.one h6 (by simp)
theorem Field.cells_of {w:O} {F:Nat->Prop} {cs:aF} {x:Field} (h:rep w F cs x):∃A2 n2 c2,cs= [.string x.name,.int .i64 x.kind,.slice A2 n2 c2,.int .i64 x.scale,.int .i64 x.dims,.bool x.many,.bool x.stored]/\zL w F A2 n2 c2 x.chain/\In64 x.kind/\In64 x.scale/\In64 x.dims/\x.name.size<=9223372036854775807:=by
 obtain⟨v0,v1,v2,v3,v4,v5,v6,rfl,⟨e0,p0⟩,⟨e1,p1⟩,⟨A2,n2,c2,e2,p2⟩,⟨e3,p3⟩,⟨e4,p4⟩,e5,e6⟩:=h;cases e0;cases e1;cases e2;cases e3;cases e4;cases e5;cases e6;exact⟨A2,n2,c2,rfl,p2,p1,p3,p4,p0⟩
theorem Field.of_cells {w:O} {F:Nat->Prop} {x:Field} {A2:aA} {n2 c2:Nat} (h0:zL w F A2 n2 c2 x.chain) (h1:In64 x.kind) (h2:In64 x.scale) (h3:In64 x.dims) (h4:x.name.size<=9223372036854775807):rep w F [.string x.name,.int .i64 x.kind,.slice A2 n2 c2,.int .i64 x.scale,.int .i64 x.dims,.bool x.many,.bool x.stored] x:=
 ⟨_,_,_,_,_,_,_,rfl,⟨rfl,h4⟩,⟨rfl,h1⟩,⟨_,_,_,rfl,h0⟩,⟨rfl,h2⟩,⟨rfl,h3⟩,rfl,rfl⟩
theorem Field.at_ {w:O} {F:Nat->Prop} {b off k:Nat} {x:Field} (h:xp w F b off k x):∃A2 n2 c2,w.cell? ⟨b,off+k*7,none⟩=some (.string x.name)/\w.cell? ⟨b,off+k*7+1,none⟩=some (.int .i64 x.kind)/\w.cell? ⟨b,off+k*7+2,none⟩=some (.slice A2 n2 c2)/\w.cell? ⟨b,off+k*7+3,none⟩=some (.int .i64 x.scale)/\w.cell? ⟨b,off+k*7+4,none⟩=some (.int .i64 x.dims)/\w.cell? ⟨b,off+k*7+5,none⟩=some (.bool x.many)/\w.cell? ⟨b,off+k*7+6,none⟩=some (.bool x.stored)/\zL w F A2 n2 c2 x.chain/\In64 x.kind/\In64 x.scale/\In64 x.dims/\x.name.size<=9223372036854775807:=by
 obtain⟨cs,h,hc⟩:=h;obtain⟨A2,n2,c2,rfl,p2,p1,p3,p4,p0⟩:=Field.cells_of h;exact⟨A2,n2,c2,hc 0 _ rfl,hc 1 _ rfl,hc 2 _ rfl,hc 3 _ rfl,hc 4 _ rfl,hc 5 _ rfl,hc 6 _ rfl,p2,p1,p3,p4,p0⟩
def Xh (e:Entry):aC:=aM (Z3 e.field)++(aM (Z3 e.text)++(zP e.numbers.length++e.numbers.flatMap fun n=>zP (yc n)))
def docB (d:List Entry):aC:=zP d.length++d.flatMap Xh
abbrev N7:=List (List Entry)
def grpB (g:N7):aC:=g.flatMap docB
def YF (gs:List N7) (d:List Entry):List N7:=
 match gs.getLast? with
 |none=> [[d]]
 |some g=>if 256<=(grpB g).length then gs++ [[d]]else gs.dropLast++ [g++ [d]]
def yL (docs:N7):List N7:=docs.foldl YF []
def ZF (g:N7):aC:=zP g.length++zP (grpB g).length
def ZB (docs:N7):aC:=zP docs.length++(zP (yL docs).length++((yL docs).flatMap ZF++(yL docs).flatMap grpB))
def XP (e:Entry):Bool:=decide (e.field.size<=24) && decide (e.text.size<=4096) && decide (e.numbers.length<=4)
def Y9 (d:List Entry):Bool:=decide (d.length<=64) && d.all XP
theorem iA (docs:N7) (d:List Entry):yL (docs++ [d])=YF (yL docs) d:=by simp [yL]
theorem sX {gs:List N7} (d:List Entry):(YF gs d).flatten=gs.flatten++ [d]:=by
 unfold YF;rcases h:gs.getLast? with _|g
 ·rw [List.getLast?_eq_none_iff]at h;subst h;rfl
 ·simp only
  split
  ·simp
  ·obtain⟨l,rfl⟩:=List.getLast?_eq_some_iff.1 h;simp
theorem AG {gs:List N7} {d:List Entry} (h:∀g∈gs,g≠ []):∀g∈YF gs d,g≠ []:=by
 unfold YF;rcases hl:gs.getLast? with _|g
 ·simp
 ·simp only
  split
  ·intro x hx;rcases List.mem_append.1 hx with hx|hx
   ·exact h x hx
   ·simp at hx;subst hx;simp
  ·intro x hx;rcases List.mem_append.1 hx with hx|hx
   ·exact h x (List.dropLast_subset _ hx)
   ·simp at hx;subst hx;simp
theorem jT:∀(docs:N7) (gs:List N7),(docs.foldl YF gs).flatten=gs.flatten++docs
 | [],gs=>by simp
 |d::l,gs=>by rw [List.foldl_cons,jT l,sX];simp
theorem nO:∀(docs:N7) (gs:List N7),(∀g∈gs,g≠ [])->∀g∈docs.foldl YF gs,g≠ []
 | [],_,h=>h
 |d::l,gs,h=>nO l _ (AG h)
theorem ZK (docs:N7):(yL docs).flatten=docs:=by
 have:=jT docs []
 simpa [yL]using this
theorem lN (docs:N7):∀g∈yL docs,g≠ []:=nO docs [] (by simp)
theorem Qi (docs:N7):(yL docs).length<=docs.length:=by
 have h:=lN docs;have e:=congrArg List.length (ZK docs);rw [List.length_flatten]at e;rw [<-e];generalize yL docs=gs at h;clear e
 induction gs with
 |nil=>simp
 |cons g l ih=>
  have h1:=List.length_pos_iff.2 (h g (by simp));have:=ih fun x hx=>h x (by simp [hx]);simp;omega
theorem XO (docs:N7):(yL docs).flatMap grpB=docs.flatMap docB:=by
 conv=>rhs;rw [<-ZK docs]
 generalize yL docs=gs
 induction gs with
 |nil=>rfl
 |cons g l ih=>simp [grpB,ih]
structure Cmp {α:Type} (c:α->α->Int):Prop where
 swap:∀x y,c y x= - c x y
 trans:∀x y z,c x y<0->c y z<0->c x z<0
 like:∀x y z,c x y=0->c x z=c y z
theorem Cmp.refl {α:Type} {c:α->α->Int} (h:Cmp c) (x:α):c x x=0:=by have:=h.swap x x;omega
theorem Cmp.like2 {α:Type} {c:α->α->Int} (h:Cmp c) {x y:α} (z:α) (e:c x y=0):c z x=c z y:=by
 have:=h.like x y z e;have:=h.swap x z;have:=h.swap y z;omega
theorem Cmp.pull {α β:Type} {c:α->α->Int} (h:Cmp c) (f:β->α):Cmp fun x y=>c (f x) (f y):=⟨fun _ _=>h.swap _ _,fun _ _ _=>h.trans _ _ _,fun _ _ _=>h.like _ _ _⟩
def orI (a b:Int):Int:=if a=0 then b else a
theorem Cmp.lex {α:Type} {c d:α->α->Int} (h:Cmp c) (k:Cmp d):Cmp fun x y=>orI (c x y) (d x y) where
 swap x y:=by have:=h.swap x y;have:=k.swap x y;unfold orI;split<;>split<;>omega
 trans x y z:=by
  intro h1 h2;unfold orI at*
  by_cases e1:c x y=0
  ·rw [if_pos e1]at h1
   by_cases e2:c y z=0
   ·rw [if_pos e2]at h2;rw [if_pos (by rw [h.like x y z e1];exact e2)];exact k.trans x y z h1 h2
   ·rw [if_neg e2]at h2;have e3:=h.like x y z e1;rw [if_neg (by omega)];omega
  ·rw [if_neg e1]at h1
   by_cases e2:c y z=0
   ·have e3:=h.like2 x e2;rw [if_neg (by omega)];omega
   ·rw [if_neg e2]at h2;have:=h.trans x y z h1 h2;rw [if_neg (by omega)];exact this
 like x y z:=by
  intro e;unfold orI at*
  by_cases e1:c x y=0
  ·rw [if_pos e1]at e;rw [h.like x y z e1,k.like x y z e]
  ·rw [if_neg e1]at e;omega
theorem Xu:Cmp Lib.compareInt where
 swap x y:=by unfold Lib.compareInt;repeat' split<;>omega
 trans x y z:=by unfold Lib.compareInt;repeat' split<;>omega
 like x y z:=by unfold Lib.compareInt;repeat' split<;>omega
theorem n9 {x y:Int} (h:Lib.compareInt x y=0):x=y:=by unfold Lib.compareInt at h;repeat' split at h<;>omega
def cmpL:aD->aD->Int
 | [], []=>0
 | [],_::_=> -1
 |_::_, []=>1
 |x::a,y::b=>orI (Lib.compareInt x y) (cmpL a b)
theorem XV (x y:Int) (a b:aD):cmpL (x::a) (y::b)=orI (Lib.compareInt x y) (cmpL a b):=rfl
theorem J9:Cmp cmpL where
 swap:=by
  intro x
  induction x with
  |nil=>intro y;cases y<;>rfl
  |cons x a ih=>
   intro y;cases y with
   |nil=>rfl
   |cons y b=>have:=ih b;have:=Xu.swap x y;simp only [XV];unfold orI;split<;>split<;>omega
 trans:=by
  intro x
  induction x with
  |nil=>intro y z h1 h2;cases y<;>cases z<;>simp [cmpL]at*
  |cons x a ih=>
   intro y z h1 h2;cases y with
   |nil=>simp [cmpL]at h1
   |cons y b=>
    cases z with
    |nil=>simp [cmpL]at h2
    |cons z c=>
     simp only [XV]at*;unfold orI at*
     by_cases e1:Lib.compareInt x y=0
     ·rw [if_pos e1]at h1
      by_cases e2:Lib.compareInt y z=0
      ·rw [if_pos e2]at h2;rw [if_pos (by rw [Xu.like x y z e1];exact e2)];exact ih b c h1 h2
      ·rw [if_neg e2]at h2;have e3:=Xu.like x y z e1;rw [if_neg (by omega)];omega
     ·rw [if_neg e1]at h1
      by_cases e2:Lib.compareInt y z=0
      ·have e3:=Xu.like2 x e2;rw [if_neg (by omega)];omega
      ·rw [if_neg e2]at h2;have:=Xu.trans x y z h1 h2;rw [if_neg (by omega)];exact this
 like:=by
  intro x
  induction x with
  |nil=>intro y z h;cases y<;>simp [cmpL]at*
  |cons x a ih=>
   intro y z h;cases y with
   |nil=>simp [cmpL]at h
   |cons y b=>
    cases z with
    |nil=>rfl
    |cons z c=>
     simp only [XV]at*;unfold orI at*
     by_cases e1:Lib.compareInt x y=0
     ·rw [if_pos e1]at h;rw [Xu.like x y z e1,ih b c h]
     ·rw [if_neg e1]at h;omega
theorem qP:∀{a b:aD},cmpL a b=0->a=b
 | [], [],_=>rfl
 | [],_::_,h=>by simp [cmpL]at h
 |_::_, [],h=>by simp [cmpL]at h
 |x::a,y::b,h=>by
  rw [XV]at h;unfold orI at h
  by_cases e1:Lib.compareInt x y=0
  ·rw [if_pos e1]at h;rw [n9 e1,qP h]
  ·rw [if_neg e1]at h;omega
abbrev Pt:=Int×aD
def Pt.x (d:Nat) (p:Pt):Int:=p.2[d]?.getD 0
def W7 (d:Nat) (a b:Pt):Int:=orI (Lib.compareInt (a.x d) (b.x d)) (orI (cmpL a.2 b.2) (Lib.compareInt a.1 b.1))
theorem b9 (d:Nat):Cmp (W7 d):=(Xu.pull (Pt.x d)).lex ((J9.pull Prod.snd).lex (Xu.pull Prod.fst))
theorem NJ {d:Nat} {a b:Pt} (h:W7 d a b=0):a=b:=by
 unfold W7 at h
 by_cases e1:Lib.compareInt (a.x d) (b.x d)=0
 ·unfold orI at h;rw [if_pos e1]at h
  by_cases e2:cmpL a.2 b.2=0
  ·rw [if_pos e2]at h;exact Prod.ext (n9 h) (qP e2)
  ·rw [if_neg e2]at h;omega
 ·unfold orI at h;rw [if_neg e1]at h;omega
def lePt (d:Nat) (a b:Pt):Bool:=decide (W7 d a b<=0)
theorem AC (d:Nat) (a b c:Pt) (h1:lePt d a b=true) (h2:lePt d b c=true):lePt d a c=true:=by
 unfold lePt at*;simp only [decide_eq_true_eq]at*;have C:=b9 d
 by_cases e1:W7 d a b=0
 ·rw [C.like a b c e1];exact h2
 ·by_cases e2:W7 d b c=0
  ·have:=C.like2 a e2;omega
  ·have:=C.trans a b c (by omega) (by omega);omega
theorem AD (d:Nat) (a b:Pt):(lePt d a b||lePt d b a)=true:=by
 unfold lePt;have:=(b9 d).swap a b;simp only [Bool.or_eq_true,decide_eq_true_eq];omega
theorem EG (d:Nat) (a b:Pt) (h1:lePt d a b=true) (h2:lePt d b a=true):a=b:=by
 unfold lePt at*;simp only [decide_eq_true_eq]at*;have:=(b9 d).swap a b;exact NJ (d:=d) (by omega)
def Zu (d:Nat) (l:List Pt):List Pt:=l.mergeSort (lePt d)
theorem Yc (d:Nat) (l:List Pt):(Zu d l).Perm l:=List.mergeSort_perm l _
theorem UZ (d:Nat) (l:List Pt):(Zu d l).length=l.length:=List.length_mergeSort l
theorem mI (d:Nat) (l:List Pt):(Zu d l).Pairwise (fun a b=>lePt d a b=true):=List.pairwise_mergeSort (AC d) (AD d) l
theorem Ve {d:Nat} {l l' :List Pt} (hp:l'.Perm l) (hs:l'.Pairwise fun a b=>lePt d a b=true):l' =Zu d l:=
 (hp.trans (Yc d l).symm).eq_of_pairwise (fun a b _ _=>EG d a b) hs (mI d l)
theorem gP {d:Nat} {l l' :List Pt} (hp:l'.Perm l):Zu d l' =Zu d l:=Ve ((Yc d l').trans hp) (mI d l')
def lowP (d:Nat) (x:Int) (l:List Pt):Int:=l.foldl (fun m p=>min m (p.x d)) x
def Yy (d:Nat) (x:Int) (l:List Pt):Int:=l.foldl (fun m p=>max m (p.x d)) x
theorem cN (d:Nat):∀(l:List Pt) (x:Int),lowP d x l<=x/\(∀p∈l,lowP d x l<=p.x d)/\(lowP d x l=x\/∃p∈l,lowP d x l=p.x d)
 | [],x=>⟨Int.le_refl _,fun _ h=>by simp at h,.inl rfl⟩
 |p::l,x=>by
  have ih:=cN d l (min x (p.x d));rw [show lowP d x (p::l)=lowP d (min x (p.x d)) l from rfl];refine⟨by omega,fun q hq=> ?_,?_⟩
  ·rcases yx.1 hq with rfl|hq
   ·omega
   ·exact ih.2.1 q hq
  ·rcases ih.2.2 with h|⟨q,hq,h⟩
   ·by_cases hx:x<=p.x d
    ·exact .inl (by omega)
    ·exact .inr ⟨p,.head _,by omega⟩
   ·exact .inr ⟨q,.tail _ hq,h⟩
theorem UF (d:Nat):∀(l:List Pt) (x:Int),x<=Yy d x l/\(∀p∈l,p.x d<=Yy d x l)/\(Yy d x l=x\/∃p∈l,Yy d x l=p.x d)
 | [],x=>⟨Int.le_refl _,fun _ h=>by simp at h,.inl rfl⟩
 |p::l,x=>by
  have ih:=UF d l (max x (p.x d));rw [show Yy d x (p::l)=Yy d (max x (p.x d)) l from rfl];refine⟨by omega,fun q hq=> ?_,?_⟩
  ·rcases yx.1 hq with rfl|hq
   ·omega
   ·exact ih.2.1 q hq
  ·rcases ih.2.2 with h|⟨q,hq,h⟩
   ·by_cases hx:p.x d<=x
    ·exact .inl (by omega)
    ·exact .inr ⟨p,.head _,by omega⟩
   ·exact .inr ⟨q,.tail _ hq,h⟩
def x0 (d:Nat) (l:List Pt):Int:=(l[0]?.map (Pt.x d)).getD 0
theorem fJ {d:Nat} {l:List Pt} (h:l≠ []):∃p∈l,x0 d l=p.x d:=by
 cases l with
 |nil=>exact absurd rfl h
 |cons p l=>exact⟨p,.head _,rfl⟩
def V8 (d:Nat) (l:List Pt):Int:=Yy d (x0 d l) l - lowP d (x0 d l) l
theorem tJ {d:Nat} {l l' :List Pt} (hp:l'.Perm l):V8 d l' =V8 d l:=by
 by_cases hn:l= []
 ·subst hn;rw [List.perm_nil.1 hp]
 have hn' :l' ≠ []:=fun e=>hn (List.nil_perm.1 (e▸hp));obtain⟨p,hpm,e⟩:=fJ (d:=d) hn;obtain⟨q,hqm,e'⟩:=fJ (d:=d) hn';obtain⟨a1,a2,a3⟩:=cN d l (x0 d l);obtain⟨b1,b2,b3⟩:=cN d l' (x0 d l');obtain⟨c1,c2,c3⟩:=UF d l (x0 d l);obtain⟨d1,d2,d3⟩:=UF d l' (x0 d l');have A:∃r∈l,lowP d (x0 d l) l=r.x d:=a3.elim (fun h=>⟨p,hpm,h.trans e⟩) id
 have B:∃r∈l',lowP d (x0 d l') l' =r.x d:=b3.elim (fun h=>⟨q,hqm,h.trans e'⟩) id;have C:∃r∈l,Yy d (x0 d l) l=r.x d:=c3.elim (fun h=>⟨p,hpm,h.trans e⟩) id;have D:∃r∈l',Yy d (x0 d l') l' =r.x d:=d3.elim (fun h=>⟨q,hqm,h.trans e'⟩) id;obtain⟨r1,m1,e1⟩:=A;obtain⟨r2,m2,e2⟩:=B;obtain⟨r3,m3,e3⟩:=C;obtain⟨r4,m4,e4⟩:=D;have k1:=b2 r1 (hp.mem_iff.2 m1);have k2:=a2 r2 (hp.mem_iff.1 m2)
 have k3:=d2 r3 (hp.mem_iff.2 m3);have k4:=c2 r4 (hp.mem_iff.1 m4);unfold V8;omega
def xF (l:List Pt):Nat->Nat×Int
 |0=>(0,0)
 |d+1=>if V8 d l>(xF l d).2 then(d,V8 d l)else xF l d
theorem V7 (l:List Pt) (d:Nat):xF l (d+1)=if V8 d l>(xF l d).2 then(d,V8 d l)else xF l d:=rfl
theorem VB {l l' :List Pt} (hp:l'.Perm l):∀d,xF l' d=xF l d
 |0=>rfl
 |d+1=>by unfold xF;rw [VB hp d,tJ hp]
theorem VN (l:List Pt):∀d,0<d->(xF l d).1<d
 |0,h=>absurd h (Nat.lt_irrefl _)
 |d+1,_=>by
  unfold xF
  split
  ·exact Nat.lt_succ_self d
  ·cases d with
   |zero=>exact Nat.lt_succ_self 0
   |succ d=>have:=VN l (d+1) (by omega);omega
def OA (p:Pt):aC:=zP p.1.toNat++p.2.flatMap fun v=>zP (yc v)
def xS:Nat->Nat->List Pt->aC
 |0,_,_=> []
 |f+1,dims,l=>
  if l.length<=8 then 0::(zP l.length++(Zu 0 l).flatMap OA)
  else
   let d:=(xF l dims).1
   let s:=Zu d l
   let n:=(l.length+1) / 2
   let left:=xS f dims (s.take n)
   (1::(zP d++zP (yc ((s[n]?.map (Pt.x d)).getD 0))))++(zP left.length++(left++xS f dims (s.drop n)))
def allP:Nat->Nat->List Pt->List Pt
 |0,_,_=> []
 |f+1,dims,l=>
  if l.length<=8 then Zu 0 l
  else
   let s:=Zu (xF l dims).1 l
   let n:=(l.length+1) / 2
   allP f dims (s.take n)++allP f dims (s.drop n)
theorem uR {f dims:Nat} {l l' :List Pt} (hp:l'.Perm l):xS f dims l' =xS f dims l:=by
 cases f with
 |zero=>rfl
 |succ f=>
  have e:Zu (xF l dims).1 l' =Zu (xF l dims).1 l:=gP hp;unfold xS;rw [hp.length_eq,gP hp,VB hp];simp only [e]
theorem Uw:∀(f dims:Nat) (l:List Pt),l.length<=f->0<f->(allP f dims l).Perm l
 |0,_,_,_,h0=>absurd h0 (Nat.lt_irrefl _)
 |f+1,dims,l,h,_=>by
  unfold allP
  by_cases h8:l.length<=8
  ·rw [if_pos h8];exact Yc 0 l
  ·rw [if_neg h8];have hs:=UZ (xF l dims).1 l;have h1:=Uw f dims ((Zu (xF l dims).1 l).take ((l.length+1) / 2)) (by rw [zr];omega) (by omega);have h2:=Uw f dims ((Zu (xF l dims).1 l).drop ((l.length+1) / 2)) (by rw [ze];omega) (by omega);exact((h1.append h2).trans (.of_eq (zu _ _))).trans (Yc _ l)
def bkdB (dims:Nat) (l:List Pt):aC:=zP dims++zP l.length++(if l.length=0 then [0,0]else xS l.length dims l)
theorem BZ {dims:Nat} {l l' :List Pt} (hp:l'.Perm l):bkdB dims l' =bkdB dims l:=by
 unfold bkdB;rw [hp.length_eq,uR hp]
def ZG (dims:Nat) (l:List Pt):Prop:=∀p∈l,p.2.length=dims/\0<=p.1/\p.1<16384/\∀v∈p.2, -9223372036854775808<=v/\v<=9223372036854775807
theorem ZG.perm {dims:Nat} {l l' :List Pt} (h:ZG dims l) (hp:l'.Perm l):ZG dims l' :=fun p hm=>h p (hp.mem_iff.1 hm)
end Go.Proofs.YtjbhbfaeielbiaaGreatDoor

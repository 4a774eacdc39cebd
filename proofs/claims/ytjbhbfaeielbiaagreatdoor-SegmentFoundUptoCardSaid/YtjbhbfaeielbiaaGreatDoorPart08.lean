import Derived.Test.YtjbhbfaeielbiaaGreatDoorPart03
import Derived.Lib.Small
import Derived.Sort.Statements
set_option maxRecDepth 100000
set_option maxHeartbeats 8000000
set_option linter.unusedVariables false
set_option linter.unusedSimpArgs false
namespace Go.Proofs.YtjbhbfaeielbiaaGreatDoor
open Rep (rep)
open Go.RowKit
structure Entry where
 field:aB
 text:aB
 numbers:aD
 deriving DecidableEq
instance:Rep Entry where
 size:=3
 pos:=by decide
 rep w F cs x:=∃v0 v1 v2,cs= [v0,v1,v2]/\rep w F [v0] x.field/\rep w F [v1] x.text/\rep w F [v2] x.numbers
 len:=by rintro _ _ _ _ ⟨_,_,_,rfl,_⟩;rfl
 keep:=by
  rintro _ _ _ _ _ _ ⟨v0,v1,v2,rfl,h0,h1,h2⟩ hc hF;exact⟨v0,v1,v2,rfl,Rep.keep h0 hc hF,Rep.keep h1 hc hF,Rep.keep h2 hc hF⟩
 one:=by
  rintro _ _ _ _ u ⟨v0,v1,v2,rfl,h0,h1,h2⟩ hu;simp only [yx,xZ,or_false]at hu;rcases hu with rfl|rfl|rfl
  ·exact Rep.one h0 (by simp)
  ·exact Rep.one h1 (by simp)
  ·exact Rep.one h2 (by simp)
theorem Entry.cells_of {w:O} {F:Nat->Prop} {cs:aF} {x:Entry} (h:rep w F cs x):∃a b c2,cs= [.string x.field,.string x.text,.slice a b c2]/\zL w F a b c2 x.numbers/\x.field.size<=9223372036854775807/\x.text.size<=9223372036854775807:=by
 obtain⟨j,k,v2,rfl,⟨c,f⟩,⟨d,g⟩,⟨a,b,c2,e,i⟩⟩:=h;cases c;cases d;cases e;exact⟨a,b,c2,rfl,i,f,g⟩
theorem Entry.of_cells {w:O} {F:Nat->Prop} {x:Entry} {a:aA} {b c2:Nat} (c:zL w F a b c2 x.numbers) (d:x.field.size<=9223372036854775807) (e:x.text.size<=9223372036854775807):rep w F [.string x.field,.string x.text,.slice a b c2] x:=
 ⟨_,_,_,rfl,⟨rfl,d⟩,⟨rfl,e⟩,⟨_,_,_,rfl,c⟩⟩
theorem Entry.at_ {w:O} {F:Nat->Prop} {b off k:Nat} {x:Entry} (h:xp w F b off k x):∃a c c2,w.cell? ⟨b,off+k*3,none⟩=some (.string x.field)/\w.cell? ⟨b,off+k*3+1,none⟩=some (.string x.text)/\w.cell? ⟨b,off+k*3+2,none⟩=some (.slice a c c2)/\zL w F a c c2 x.numbers/\x.field.size<=9223372036854775807/\x.text.size<=9223372036854775807:=by
 obtain⟨cs,h,d⟩:=h;obtain⟨a,c,c2,rfl,g,e,f⟩:=Entry.cells_of h;exact⟨a,c,c2,d 0 _ rfl,d 1 _ rfl,d 2 _ rfl,g,e,f⟩
structure Field where
 name:aB
 kind:Int
 chain:aD
 scale:Int
 dims:Int
 many:Bool
 stored:Bool
 deriving DecidableEq
instance:Rep Field where
 size:=7
 pos:=by decide
 rep w F cs x:=∃v0 v1 v2 v3 v4 v5 v6,cs= [v0,v1,v2,v3,v4,v5,v6]/\rep w F [v0] x.name/\rep w F [v1] x.kind/\rep w F [v2] x.chain/\rep w F [v3] x.scale/\rep w F [v4] x.dims/\rep w F [v5] x.many/\rep w F [v6] x.stored
 len:=by rintro _ _ _ _ ⟨_,_,_,_,_,_,_,rfl,_⟩;rfl
 keep:=by
  rintro _ _ _ _ _ _ ⟨v0,v1,v2,v3,v4,v5,v6,rfl,h0,h1,h2,h3,h4,h5,h6⟩ hc hF;exact⟨v0,v1,v2,v3,v4,v5,v6,rfl,Rep.keep h0 hc hF,Rep.keep h1 hc hF,Rep.keep h2 hc hF,Rep.keep h3 hc hF,Rep.keep h4 hc hF,Rep.keep h5 hc hF,Rep.keep h6 hc hF⟩
 one:=by
  rintro _ _ _ _ u ⟨v0,v1,v2,v3,v4,v5,v6,rfl,h0,h1,h2,h3,h4,h5,h6⟩ hu;simp only [yx,xZ,or_false]at hu;rcases hu with rfl|rfl|rfl|rfl|rfl|rfl|rfl
  ·exact Rep.one h0 (by simp)
  ·exact Rep.one h1 (by simp)
  ·exact Rep.one h2 (by simp)
  ·exact Rep.one h3 (by simp)
  ·exact Rep.one h4 (by simp)
  ·exact Rep.one h5 (by simp)
  ·exact Rep.one h6 (by simp)
theorem Field.cells_of {w:O} {F:Nat->Prop} {cs:aF} {x:Field} (h:rep w F cs x):∃a b c2,cs= [.string x.name,.int .i64 x.kind,.slice a b c2,.int .i64 x.scale,.int .i64 x.dims,.bool x.many,.bool x.stored]/\zL w F a b c2 x.chain/\In64 x.kind/\In64 x.scale/\In64 x.dims/\x.name.size<=9223372036854775807:=by
 obtain⟨p,q,v2,v3,v4,v5,r,rfl,⟨c,k⟩,⟨d,l⟩,⟨a,b,c2,e,m⟩,⟨f,n⟩,⟨g,o⟩,i,j⟩:=h;cases c;cases d;cases e;cases f;cases g;cases i;cases j;exact⟨a,b,c2,rfl,m,l,n,o,k⟩
theorem Field.of_cells {w:O} {F:Nat->Prop} {x:Field} {a:aA} {b c2:Nat} (c:zL w F a b c2 x.chain) (d:In64 x.kind) (e:In64 x.scale) (f:In64 x.dims) (g:x.name.size<=9223372036854775807):rep w F [.string x.name,.int .i64 x.kind,.slice a b c2,.int .i64 x.scale,.int .i64 x.dims,.bool x.many,.bool x.stored] x:=
 ⟨_,_,_,_,_,_,_,rfl,⟨rfl,g⟩,⟨rfl,d⟩,⟨_,_,_,rfl,c⟩,⟨rfl,e⟩,⟨rfl,f⟩,rfl,rfl⟩
theorem Field.at_ {w:O} {F:Nat->Prop} {b off k:Nat} {x:Field} (h:xp w F b off k x):∃c d c2,w.cell? ⟨b,off+k*7,none⟩=some (.string x.name)/\w.cell? ⟨b,off+k*7+1,none⟩=some (.int .i64 x.kind)/\w.cell? ⟨b,off+k*7+2,none⟩=some (.slice c d c2)/\w.cell? ⟨b,off+k*7+3,none⟩=some (.int .i64 x.scale)/\w.cell? ⟨b,off+k*7+4,none⟩=some (.int .i64 x.dims)/\w.cell? ⟨b,off+k*7+5,none⟩=some (.bool x.many)/\w.cell? ⟨b,off+k*7+6,none⟩=some (.bool x.stored)/\zL w F c d c2 x.chain/\In64 x.kind/\In64 x.scale/\In64 x.dims/\x.name.size<=9223372036854775807:=by
 obtain⟨cs,h,a⟩:=h;obtain⟨c,d,c2,rfl,g,f,i,j,e⟩:=Field.cells_of h;exact⟨c,d,c2,a 0 _ rfl,a 1 _ rfl,a 2 _ rfl,a 3 _ rfl,a 4 _ rfl,a 5 _ rfl,a 6 _ rfl,g,f,i,j,e⟩
def Xh (e:Entry):aC:=aM (Z3 e.field)++(aM (Z3 e.text)++(zP e.numbers.length++e.numbers.flatMap fun n=>zP (yc n)))
def docB (d:List Entry):aC:=zP d.length++d.flatMap Xh
abbrev N7:=List (List Entry)
def grpB (g:N7):aC:=g.flatMap docB
def YF (gs:List N7) (d:List Entry):List N7:=
 match gs.getLast? with
 |none=> [[d]]
 |some g=>if 256<=(grpB g).length then gs++ [[d]]else gs.dropLast++ [g++ [d]]
def yL (docs:N7):List N7:=docs.foldl YF []
def ZF (g:N7):aC:=zP g.length++zP (grpB g).length
def ZB (docs:N7):aC:=zP docs.length++(zP (yL docs).length++((yL docs).flatMap ZF++(yL docs).flatMap grpB))
def XP (e:Entry):Bool:=decide (e.field.size<=24) && decide (e.text.size<=4096) && decide (e.numbers.length<=4)
def Y9 (d:List Entry):Bool:=decide (d.length<=64) && d.all XP
theorem iA (docs:N7) (d:List Entry):yL (docs++ [d])=YF (yL docs) d:=by simp [yL]
theorem sX {gs:List N7} (d:List Entry):(YF gs d).flatten=gs.flatten++ [d]:=by
 unfold YF;rcases h:gs.getLast? with _|g
 ·rw [List.getLast?_eq_none_iff]at h;subst h;rfl
 ·simp only
  split
  ·simp
  ·obtain⟨l,rfl⟩:=List.getLast?_eq_some_iff.1 h;simp
theorem AG {gs:List N7} {d:List Entry} (h:∀g∈gs,g≠ []):∀g∈YF gs d,g≠ []:=by
 unfold YF;rcases hl:gs.getLast? with _|g
 ·simp
 ·simp only
  split
  ·intro x a;rcases List.mem_append.1 a with a|a
   ·exact h x a
   ·simp at a;subst a;simp
  ·intro x a;rcases List.mem_append.1 a with a|a
   ·exact h x (List.dropLast_subset _ a)
   ·simp at a;subst a;simp
theorem jT:∀(docs:N7) (gs:List N7),(docs.foldl YF gs).flatten=gs.flatten++docs
 | [],gs=>by simp
 |d::l,gs=>by rw [List.foldl_cons,jT l,sX];simp
theorem nO:∀(docs:N7) (gs:List N7),(∀g∈gs,g≠ [])->∀g∈docs.foldl YF gs,g≠ []
 | [],_,h=>h
 |d::l,gs,h=>nO l _ (AG h)
theorem ZK (docs:N7):(yL docs).flatten=docs:=by
 have:=jT docs []
 simpa [yL]using this
theorem lN (docs:N7):∀g∈yL docs,g≠ []:=nO docs [] (by simp)
theorem Qi (docs:N7):(yL docs).length<=docs.length:=by
 have h:=lN docs;have e:=congrArg List.length (ZK docs);rw [List.length_flatten]at e;rw [<-e];generalize yL docs=gs at h;clear e
 induction gs with
 |nil=>simp
 |cons g l ih=>
  have b:=List.length_pos_iff.2 (h g (by simp));have:=ih fun x a=>h x (by simp [a]);simp;omega
theorem XO (docs:N7):(yL docs).flatMap grpB=docs.flatMap docB:=by
 conv=>rhs;rw [<-ZK docs]
 generalize yL docs=gs
 induction gs with
 |nil=>rfl
 |cons g l ih=>simp [grpB,ih]
structure Cmp {α:Type} (c:α->α->Int):Prop where
 swap:∀x y,c y x= - c x y
 trans:∀x y z,c x y<0->c y z<0->c x z<0
 like:∀x y z,c x y=0->c x z=c y z
theorem Cmp.refl {α:Type} {c:α->α->Int} (h:Cmp c) (x:α):c x x=0:=by have:=h.swap x x;omega
theorem Cmp.like2 {α:Type} {c:α->α->Int} (h:Cmp c) {x y:α} (z:α) (e:c x y=0):c z x=c z y:=by
 have:=h.like x y z e;have:=h.swap x z;have:=h.swap y z;omega
theorem Cmp.pull {α β:Type} {c:α->α->Int} (h:Cmp c) (f:β->α):Cmp fun x y=>c (f x) (f y):=⟨fun _ _=>h.swap _ _,fun _ _ _=>h.trans _ _ _,fun _ _ _=>h.like _ _ _⟩
def orI (a b:Int):Int:=if a=0 then b else a
theorem Cmp.lex {α:Type} {c d:α->α->Int} (h:Cmp c) (k:Cmp d):Cmp fun x y=>orI (c x y) (d x y) where
 swap x y:=by have:=h.swap x y;have:=k.swap x y;unfold orI;split<;>split<;>omega
 trans x y z:=by
  intro g f;unfold orI at*
  by_cases a:c x y=0
  ·rw [if_pos a]at g
   by_cases b:c y z=0
   ·rw [if_pos b]at f;rw [if_pos (by rw [h.like x y z a];exact b)];exact k.trans x y z g f
   ·rw [if_neg b]at f;have i:=h.like x y z a;rw [if_neg (by omega)];omega
  ·rw [if_neg a]at g
   by_cases b:c y z=0
   ·have i:=h.like2 x b;rw [if_neg (by omega)];omega
   ·rw [if_neg b]at f;have:=h.trans x y z g f;rw [if_neg (by omega)];exact this
 like x y z:=by
  intro e;unfold orI at*
  by_cases a:c x y=0
  ·rw [if_pos a]at e;rw [h.like x y z a,k.like x y z e]
  ·rw [if_neg a]at e;omega
theorem Xu:Cmp Lib.compareInt where
 swap x y:=by unfold Lib.compareInt;repeat' split<;>omega
 trans x y z:=by unfold Lib.compareInt;repeat' split<;>omega
 like x y z:=by unfold Lib.compareInt;repeat' split<;>omega
theorem n9 {x y:Int} (h:Lib.compareInt x y=0):x=y:=by unfold Lib.compareInt at h;repeat' split at h<;>omega
def cmpL:aD->aD->Int
 | [], []=>0
 | [],_::_=> -1
 |_::_, []=>1
 |x::a,y::b=>orI (Lib.compareInt x y) (cmpL a b)
theorem XV (x y:Int) (a b:aD):cmpL (x::a) (y::b)=orI (Lib.compareInt x y) (cmpL a b):=rfl
theorem J9:Cmp cmpL where
 swap:=by
  intro x
  induction x with
  |nil=>intro y;cases y<;>rfl
  |cons x a ih=>
   intro y;cases y with
   |nil=>rfl
   |cons y b=>have:=ih b;have:=Xu.swap x y;simp only [XV];unfold orI;split<;>split<;>omega
 trans:=by
  intro x
  induction x with
  |nil=>intro y z g e;cases y<;>cases z<;>simp [cmpL]at*
  |cons x a ih=>
   intro y z g e;cases y with
   |nil=>simp [cmpL]at g
   |cons y b=>
    cases z with
    |nil=>simp [cmpL]at e
    |cons z c=>
     simp only [XV]at*;unfold orI at*
     by_cases d:Lib.compareInt x y=0
     ·rw [if_pos d]at g
      by_cases f:Lib.compareInt y z=0
      ·rw [if_pos f]at e;rw [if_pos (by rw [Xu.like x y z d];exact f)];exact ih b c g e
      ·rw [if_neg f]at e;have i:=Xu.like x y z d;rw [if_neg (by omega)];omega
     ·rw [if_neg d]at g
      by_cases f:Lib.compareInt y z=0
      ·have i:=Xu.like2 x f;rw [if_neg (by omega)];omega
      ·rw [if_neg f]at e;have:=Xu.trans x y z g e;rw [if_neg (by omega)];exact this
 like:=by
  intro x
  induction x with
  |nil=>intro y z h;cases y<;>simp [cmpL]at*
  |cons x a ih=>
   intro y z h;cases y with
   |nil=>simp [cmpL]at h
   |cons y b=>
    cases z with
    |nil=>rfl
    |cons z c=>
     simp only [XV]at*;unfold orI at*
     by_cases d:Lib.compareInt x y=0
     ·rw [if_pos d]at h;rw [Xu.like x y z d,ih b c h]
     ·rw [if_neg d]at h;omega
theorem qP:∀{a b:aD},cmpL a b=0->a=b
 | [], [],_=>rfl
 | [],_::_,h=>by simp [cmpL]at h
 |_::_, [],h=>by simp [cmpL]at h
 |x::a,y::b,h=>by
  rw [XV]at h;unfold orI at h
  by_cases c:Lib.compareInt x y=0
  ·rw [if_pos c]at h;rw [n9 c,qP h]
  ·rw [if_neg c]at h;omega
abbrev Pt:=Int×aD
def Pt.x (d:Nat) (p:Pt):Int:=p.2[d]?.getD 0
def W7 (d:Nat) (a b:Pt):Int:=orI (Lib.compareInt (a.x d) (b.x d)) (orI (cmpL a.2 b.2) (Lib.compareInt a.1 b.1))
theorem b9 (d:Nat):Cmp (W7 d):=(Xu.pull (Pt.x d)).lex ((J9.pull Prod.snd).lex (Xu.pull Prod.fst))
theorem NJ {d:Nat} {a b:Pt} (h:W7 d a b=0):a=b:=by
 unfold W7 at h
 by_cases e:Lib.compareInt (a.x d) (b.x d)=0
 ·unfold orI at h;rw [if_pos e]at h
  by_cases c:cmpL a.2 b.2=0
  ·rw [if_pos c]at h;exact Prod.ext (n9 h) (qP c)
  ·rw [if_neg c]at h;omega
 ·unfold orI at h;rw [if_neg e]at h;omega
def lePt (d:Nat) (a b:Pt):Bool:=decide (W7 d a b<=0)
theorem AC (d:Nat) (a b c:Pt) (h:lePt d a b=true) (g:lePt d b c=true):lePt d a c=true:=by
 unfold lePt at*;simp only [decide_eq_true_eq]at*;have C:=b9 d
 by_cases e:W7 d a b=0
 ·rw [C.like a b c e];exact g
 ·by_cases f:W7 d b c=0
  ·have:=C.like2 a f;omega
  ·have:=C.trans a b c (by omega) (by omega);omega
theorem AD (d:Nat) (a b:Pt):(lePt d a b||lePt d b a)=true:=by
 unfold lePt;have:=(b9 d).swap a b;simp only [Bool.or_eq_true,decide_eq_true_eq];omega
theorem EG (d:Nat) (a b:Pt) (c:lePt d a b=true) (e:lePt d b a=true):a=b:=by
 unfold lePt at*;simp only [decide_eq_true_eq]at*;have:=(b9 d).swap a b;exact NJ (d:=d) (by omega)
def Zu (d:Nat) (l:List Pt):List Pt:=l.mergeSort (lePt d)
theorem Yc (d:Nat) (l:List Pt):(Zu d l).Perm l:=List.mergeSort_perm l _
theorem UZ (d:Nat) (l:List Pt):(Zu d l).length=l.length:=List.length_mergeSort l
theorem mI (d:Nat) (l:List Pt):(Zu d l).Pairwise (fun a b=>lePt d a b=true):=List.pairwise_mergeSort (AC d) (AD d) l
theorem Ve {d:Nat} {l c :List Pt} (e:c.Perm l) (f:c.Pairwise fun a b=>lePt d a b=true):c =Zu d l:=
 (e.trans (Yc d l).symm).eq_of_pairwise (fun a b _ _=>EG d a b) f (mI d l)
theorem gP {d:Nat} {l a :List Pt} (b:a.Perm l):Zu d a =Zu d l:=Ve ((Yc d a).trans b) (mI d a)
def lowP (d:Nat) (x:Int) (l:List Pt):Int:=l.foldl (fun m p=>min m (p.x d)) x
def Yy (d:Nat) (x:Int) (l:List Pt):Int:=l.foldl (fun m p=>max m (p.x d)) x
theorem cN (d:Nat):∀(l:List Pt) (x:Int),lowP d x l<=x/\(∀p∈l,lowP d x l<=p.x d)/\(lowP d x l=x\/∃p∈l,lowP d x l=p.x d)
 | [],x=>⟨Int.le_refl _,fun _ h=>by simp at h,.inl rfl⟩
 |p::l,x=>by
  have b:=cN d l (min x (p.x d));rw [show lowP d x (p::l)=lowP d (min x (p.x d)) l from rfl];refine⟨by omega,fun q a=> ?_,?_⟩
  ·rcases yx.1 a with rfl|a
   ·omega
   ·exact b.2.1 q a
  ·rcases b.2.2 with h|⟨q,a,h⟩
   ·by_cases c:x<=p.x d
    ·exact .inl (by omega)
    ·exact .inr ⟨p,.head _,by omega⟩
   ·exact .inr ⟨q,.tail _ a,h⟩
theorem UF (d:Nat):∀(l:List Pt) (x:Int),x<=Yy d x l/\(∀p∈l,p.x d<=Yy d x l)/\(Yy d x l=x\/∃p∈l,Yy d x l=p.x d)
 | [],x=>⟨Int.le_refl _,fun _ h=>by simp at h,.inl rfl⟩
 |p::l,x=>by
  have b:=UF d l (max x (p.x d));rw [show Yy d x (p::l)=Yy d (max x (p.x d)) l from rfl];refine⟨by omega,fun q a=> ?_,?_⟩
  ·rcases yx.1 a with rfl|a
   ·omega
   ·exact b.2.1 q a
  ·rcases b.2.2 with h|⟨q,a,h⟩
   ·by_cases c:p.x d<=x
    ·exact .inl (by omega)
    ·exact .inr ⟨p,.head _,by omega⟩
   ·exact .inr ⟨q,.tail _ a,h⟩
def x0 (d:Nat) (l:List Pt):Int:=(l[0]?.map (Pt.x d)).getD 0
theorem fJ {d:Nat} {l:List Pt} (h:l≠ []):∃p∈l,x0 d l=p.x d:=by
 cases l with
 |nil=>exact absurd rfl h
 |cons p l=>exact⟨p,.head _,rfl⟩
def V8 (d:Nat) (l:List Pt):Int:=Yy d (x0 d l) l - lowP d (x0 d l) l
theorem tJ {d:Nat} {l a :List Pt} (b:a.Perm l):V8 d a =V8 d l:=by
 by_cases g:l= []
 ·subst g;rw [List.perm_nil.1 b]
 have i :a ≠ []:=fun e=>g (List.nil_perm.1 (e▸b));obtain⟨p,c,e⟩:=fJ (d:=d) g;obtain⟨q,f,j⟩:=fJ (d:=d) i;obtain⟨I,k,m⟩:=cN d l (x0 d l);obtain⟨J,n,o⟩:=cN d a (x0 d a);obtain⟨K,c2,s⟩:=UF d l (x0 d l);obtain⟨L,t,u⟩:=UF d a (x0 d a);have A:∃r∈l,lowP d (x0 d l) l=r.x d:=m.elim (fun h=>⟨p,c,h.trans e⟩) id
 have B:∃r∈a,lowP d (x0 d a) a =r.x d:=o.elim (fun h=>⟨q,f,h.trans j⟩) id;have C:∃r∈l,Yy d (x0 d l) l=r.x d:=s.elim (fun h=>⟨p,c,h.trans e⟩) id;have D:∃r∈a,Yy d (x0 d a) a =r.x d:=u.elim (fun h=>⟨q,f,h.trans j⟩) id;obtain⟨E,v,M⟩:=A;obtain⟨F,w,N⟩:=B;obtain⟨G,y,P⟩:=C;obtain⟨H,z,Q⟩:=D;have R:=n E (b.mem_iff.2 v);have S:=k F (b.mem_iff.1 w)
 have T:=t G (b.mem_iff.2 y);have U:=c2 H (b.mem_iff.1 z);unfold V8;omega
def xF (l:List Pt):Nat->Nat×Int
 |0=>(0,0)
 |d+1=>if V8 d l>(xF l d).2 then(d,V8 d l)else xF l d
theorem V7 (l:List Pt) (d:Nat):xF l (d+1)=if V8 d l>(xF l d).2 then(d,V8 d l)else xF l d:=rfl
theorem VB {l b :List Pt} (a:b.Perm l):∀d,xF b d=xF l d
 |0=>rfl
 |d+1=>by unfold xF;rw [VB a d,tJ a]
theorem VN (l:List Pt):∀d,0<d->(xF l d).1<d
 |0,h=>absurd h (Nat.lt_irrefl _)
 |d+1,_=>by
  unfold xF
  split
  ·exact Nat.lt_succ_self d
  ·cases d with
   |zero=>exact Nat.lt_succ_self 0
   |succ d=>have:=VN l (d+1) (by omega);omega
def OA (p:Pt):aC:=zP p.1.toNat++p.2.flatMap fun v=>zP (yc v)
def xS:Nat->Nat->List Pt->aC
 |0,_,_=> []
 |f+1,dims,l=>
  if l.length<=8 then 0::(zP l.length++(Zu 0 l).flatMap OA)
  else
   let d:=(xF l dims).1
   let s:=Zu d l
   let n:=(l.length+1) / 2
   let left:=xS f dims (s.take n)
   (1::(zP d++zP (yc ((s[n]?.map (Pt.x d)).getD 0))))++(zP left.length++(left++xS f dims (s.drop n)))
def allP:Nat->Nat->List Pt->List Pt
 |0,_,_=> []
 |f+1,dims,l=>
  if l.length<=8 then Zu 0 l
  else
   let s:=Zu (xF l dims).1 l
   let n:=(l.length+1) / 2
   allP f dims (s.take n)++allP f dims (s.drop n)
theorem uR {f a:Nat} {l c :List Pt} (b:c.Perm l):xS f a c =xS f a l:=by
 cases f with
 |zero=>rfl
 |succ f=>
  have e:Zu (xF l a).1 c =Zu (xF l a).1 l:=gP b;unfold xS;rw [b.length_eq,gP b,VB b];simp only [e]
theorem Uw:∀(f a:Nat) (l:List Pt),l.length<=f->0<f->(allP f a l).Perm l
 |0,_,_,_,h0=>absurd h0 (Nat.lt_irrefl _)
 |f+1,a,l,h,_=>by
  unfold allP
  by_cases b:l.length<=8
  ·rw [if_pos b];exact Yc 0 l
  ·rw [if_neg b];have e:=UZ (xF l a).1 l;have c:=Uw f a ((Zu (xF l a).1 l).take ((l.length+1) / 2)) (by rw [zr];omega) (by omega);have d:=Uw f a ((Zu (xF l a).1 l).drop ((l.length+1) / 2)) (by rw [ze];omega) (by omega);exact((c.append d).trans (.of_eq (zu _ _))).trans (Yc _ l)
def bkdB (a:Nat) (l:List Pt):aC:=zP a++zP l.length++(if l.length=0 then [0,0]else xS l.length a l)
theorem BZ {a:Nat} {l c :List Pt} (b:c.Perm l):bkdB a c =bkdB a l:=by
 unfold bkdB;rw [b.length_eq,uR b]
def ZG (a:Nat) (l:List Pt):Prop:=∀p∈l,p.2.length=a/\0<=p.1/\p.1<16384/\∀v∈p.2, -9223372036854775808<=v/\v<=9223372036854775807
theorem ZG.perm {a:Nat} {l b :List Pt} (h:ZG a l) (d:b.Perm l):ZG a b :=fun p c=>h p (d.mem_iff.1 c)
end Go.Proofs.YtjbhbfaeielbiaaGreatDoor

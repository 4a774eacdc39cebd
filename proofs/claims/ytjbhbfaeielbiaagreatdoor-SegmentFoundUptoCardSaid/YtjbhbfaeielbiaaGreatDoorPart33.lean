import Derived.Test.YtjbhbfaeielbiaaGreatDoorPart27
import Derived.Test.YtjbhbfaeielbiaaGreatDoorPart28
import Derived.Test.YtjbhbfaeielbiaaGreatDoorPart26
set_option maxRecDepth 100000
set_option maxHeartbeats 8000000
set_option linter.unusedVariables false
set_option linter.unusedSimpArgs false
namespace Go.Proofs.YtjbhbfaeielbiaaGreatDoor
open Go.Proofs.Tryz
open Rep (rep)
open Go.RowKit
theorem qC:∀(t:aD) (o:Option (List Token)),(∀l,o=some l->l.length<=4096)->∀l,t.foldl lk o=some l->l.length<=4096
 | [],_,h,l,hl=>h l hl
 |n::t,o,h,l,hl=>qC t (lk o n) (fun b a =>by
   unfold lk at a;rcases o with _|o
   ·cases a
   ·simp only [Option.bind_some]at a
    split at a
    ·cases a;assumption
    ·cases a) l hl
theorem dN (xs:aD) (s:aB):(runT xs s).length<=4096:=by
 unfold runT
 split
 ·simp
 ·split
  ·rename_i a t h;rcases hl:lks t (xJ a s)with _|l
   ·simp
   ·exact qC t (some _) (fun c b =>by cases b;exact h.2.2) l hl
  ·simp
def Ys (f:Field) (e:Entry) (a:Int):Bool:=
 if f.kind=1 then X3 f.chain e.text && decide (a+(runT f.chain e.text).length<=4096)else if f.kind=2 then decide (e.text.size<=256)else if f.kind=4 then Qz e.text f.scale.toNat else true
def Yr (f:Field) (e:Entry) (a:Int):Int:=if f.kind=1 then a+(runT f.chain e.text).length else a
def xr (f:Field) (e:Entry):aB:=if f.kind=1\/f.kind=2 then e.text else⟨#[]⟩
def ZU (f:Field) (e:Entry):aD:=if f.kind=1\/f.kind=2 then []else if f.kind=4 then [decN e.text f.scale.toNat]else e.numbers
abbrev TokA (c m b:Nat) (a:aD):Asn:=NA (some ⟨c,0,none⟩) m b a
theorem CN {P Y m mc i:Nat} {iv:Int} {o:Int} {p:aD} {L:List Asn} (f:Field) (e:Entry) (A2 A:aA) (n2 c2 n c:Nat) (w:O) (hV:Vs w)
 (z:zL w (·<w.heap.size) A2 n2 c2 f.chain) (g:zL w (·<w.heap.size) A n c e.numbers) (hp:e.text.size<=100000000) (hn:n<=1000000000) (hf:f.kind=4->0<=f.scale/\f.scale<=9)
 (G:p[i]? =some o) (hu:0<=o/\o<=1000000)
 (HS:Sp w (BlkA P 59 #[.int .i64 iv,.string ⟨#[]⟩,.slice none 0 0]::TokA Y m mc p::L)):
 Calls prog 46 #[.agg #[.string f.name,.int .i64 f.kind,.slice A2 n2 c2,.int .i64 f.scale,.int .i64 f.dims,.bool f.many,.bool f.stored],.agg #[.string e.field,.string e.text,.slice A n c],.pointer (some ⟨P,0,none⟩),.pointer (some ⟨Y,i,none⟩)] w fun r w' =>
  r= .returned (.bool (Ys f e o))/\∃An nn cn,Sp w' (DatA (.slice An nn cn) (ZU f e)::BlkA P 59 #[.int .i64 iv,.string (xr f e),.slice An nn cn]::TokA Y m mc (p.set i (Yr f e o))::L):=by
 obtain⟨kd,d⟩:=eX (f.kind);obtain⟨H,hH⟩:=eX (w.heap.size);have t:=((HS.al (.cells #[.string f.name,.int .i64 f.kind,.slice A2 n2 c2,.int .i64 f.scale,.int .i64 f.dims,.bool f.many,.bool f.stored] 61)).blkH 86 #[.string e.field,.string e.text,.slice A n c] (H:=H+1) (by simp [hH]))
 have s:Below w.heap.size w ((w.alloc (.cells #[.string f.name,.int .i64 f.kind,.slice A2 n2 c2,.int .i64 f.scale,.int .i64 f.dims,.bool f.many,.bool f.stored] 61)).alloc (.cells #[.string e.field,.string e.text,.slice A n c] 86)):=((zE _ _).alloc (zC _) _).alloc (by simp) _;have hs:=z.cap;rw [d]at s t⊢;have Hk:=zA G;have E:=zA d;have ht:¬P=H+1:=fun h=>t.ne h.symm
 have ho:¬Y=H+1:=(Sp.p1 (t.d1)).neRB;have hm:¬Y=P:=(t.tail.p1).neRB
 by_cases R:kd=1
 ·subst R;obtain⟨T,hT⟩:=eX (runT f.chain e.text);have hl:T.length<=4096:=(by rw [<-hT];exact dN _ _);obtain⟨N,hN⟩:=eX (T.length);rw [hN]at hl
  have K:Hid (∀W,Below w.heap.size w W->Calls prog 47 #[.slice A2 n2 c2,.string e.text] W fun r w' =>∃A' c' F,r= .returned (.tuple #[.slice A' N c',.int .i64 F])/\(F=0↔X3 f.chain e.text=true)/\Below W.heap.size W w'):=fun W hW=>
   (mQ A2 n2 c2 f.chain e.text W (hV.tabs.on hW) (z.on hW)).mono fun r w' ⟨v,F,R,h2,h3,S⟩=>by
    rw [hT]at h3;obtain⟨A',c',rfl⟩:=h3.form;rw [hN]at R;exact⟨A',c',F,R,h2,S⟩
  have X:∀(w' :O),Sp w' (BlkA P 59 #[.int .i64 iv,.string e.text,.slice none 0 0]::TokA Y m mc (p.set i (o+N))::L)->∃An nn cn,Sp w' (DatA (.slice An nn cn) (ZU f e)::BlkA P 59 #[.int .i64 iv,.string (xr f e),.slice An nn cn]::TokA Y m mc (p.set i (Yr f e o))::L):=fun w' h=>⟨none,0,0,by
   have e1:ZU f e= []:=(by simp [ZU,E.o]);have I:xr f e=e.text:=(by simp [xr,E.o]);have e3:Yr f e o=o+N:=(by simp [Yr,E.o,hT,hN]);rw [e1,I,e3];exact Sp.ints (l:= []) (h.nil 2 1) (by simp)⟩
  have M:=zA X;have C:Ys f e o=(X3 f.chain e.text && decide (o+N<=4096)):=(by simp [Ys,E.o,hT,hN]);obtain⟨ro,hg⟩:=eX (X3 f.chain e.text);rw [hg]at C K;clear z g hV hf X hT hN hg HS G d;cases ro
  all_goals
   have hd:=zA C;clear C;go_enter func46,ntmps46;go_wp2_with fail
   with_reducible refine(K.o _ s).mono ?_
   rintro r w2 ⟨A',c',F,rfl,u,U⟩;have a:=t.grow U;have q1:w2.cell? ⟨Y,i,none⟩=some (.int .i64 o):=a.rowCell M2 (Z9 Hk.o);have q2:=a.rowFree M2 i;have q3:=a.cl M0 1;have q4:=(a.blkOf M1).frozen 1;have q5:=a.cl M1 1;have Z:=(a.p2.rowSet i (.int .i64 (o+N))).p2.set 1 (.string e.text);rw [<-WR]at Z;have q:=Z.d2;clear t K U a s Z
  ·have h0:¬F=0:=(by simpa using u);clear u;go_wp2;go_ret
   exact⟨yl (by rw [hd.o];rfl),M.o _ q⟩
  ·have h0:F=0:=(by simpa using u);subst h0;clear u;go_wp2;go_ret
   exact⟨yl (by rw [hd.o];rfl),M.o _ q⟩
 ·by_cases h2:kd=2
  ·subst h2;have e1:ZU f e= []:=(by simp [ZU,d]);have I:xr f e=e.text:=(by simp [xr,d]);have e3:Yr f e o=o:=(by simp [Yr,d])
   have e4:p.set i o=p:=by
    apply yX
    intro j;rw [xO]
    by_cases hj:i=j
    ·subst hj;rw [if_pos rfl,if_pos (zN G),G]
    ·rw [if_neg hj]
   have Q:Ys f e o=decide (e.text.size<=256):=(by simp [Ys,d]);rw [e1,I,e3,e4,Q];have q3:=t.cell M0 1;have q4:=(t.blkOf M1).frozen 1;have q5:=t.cell M1 1;have q:=(t.p1.set 1 (.string e.text)).d1;clear z g hV hf HS G d t e1 I e3 e4 Q;go_enter func46,ntmps46;go_wp2;go_ret
   exact⟨yl (decide_eq_decide.2 (by omega)),none,0,0,Sp.ints (l:= []) (q.nil 2 1) (by simp)⟩
  ·have e1:xr f e=⟨#[]⟩:=(by simp [xr,d,R,h2]);have e3:Yr f e o=o:=(by simp [Yr,d,R])
   have e4:p.set i o=p:=by
    apply yX
    intro j;rw [xO]
    by_cases hj:i=j
    ·subst hj;rw [if_pos rfl,if_pos (zN G),G]
    ·rw [if_neg hj]
   rw [e1,e3,e4];clear e1 e3 e4 hm ho G
   by_cases S:kd=4
   ·obtain⟨h5,h6⟩:=hf (d.trans S);obtain⟨D,hh⟩:∃D:Nat,f.scale=(D:Int):=⟨f.scale.toNat,by omega⟩;have ha:f.scale.toNat=D:=(by omega);have I:ZU f e= [decN e.text D]:=(by simp [ZU,d,S,ha]);have Q:Ys f e o=Qz e.text D:=(by simp [Ys,d,S,ha]);rw [hh]at s t h6⊢;rw [I,Q]
    have K:Hid (∀W,Below w.heap.size w W->Calls prog 95 #[.string e.text,.int .i64 (D:Int)] W fun r w' =>∃F,r= .returned (.tuple #[.int .i64 (decN e.text D),.int .i64 F])/\(F=0↔Qz e.text D=true)/\Below W.heap.size W w'):=fun W hW=>uV e.text D W (hV.on hW) hp (by omega);have J:=zA (pI e.text D);obtain⟨v,hv⟩:=eX (decN e.text D);obtain⟨ok,C⟩:=eX (Qz e.text D);rw [hv]at K J⊢
    rw [C]at K⊢;clear z g hV hf HS d I Q hv C ha hh;subst S;go_enter func46,ntmps46;go_wp2_with fail
    with_reducible refine(K.o _ s).mono ?_
    rintro r w2 ⟨F,rfl,u,U⟩;obtain⟨B,hB⟩:=eX (w2.heap.size);have a:=(t.grow U).lit #[.int .i64 v] 2 1 1 rfl (by unfold maxLen;omega);rw [hB]at a;have q0:¬B=P:=(a.d1).neRB;have q4:=(a.blkOf M2).frozen 2;have q5:=a.cell M2 2;have q:=((((Sp.ints (l:= [v]) a (by simpa using J.o)).p2).set 2 (.slice (some ⟨B,0,none⟩) 1 1)).d2).p1;have hi:=zA u;clear t K U a s u
    go_wp2;go_ret
    exact⟨yl (by rw [Bool.eq_iff_iff];simpa using hi.o),some ⟨B,0,none⟩,1,1,q⟩
   ·have I:ZU f e=e.numbers:=(by simp [ZU,d,R,h2,S]);have Q:Ys f e o=true:=(by simp [Ys,d,R,h2,S]);rw [I,Q];have hc:=XW A n c (ints e.numbers) _ (by omega) (g.on s).reads_ints (Y3 _);have Hc:=zA hc
    have J:Hid (∀x∈e.numbers,In64 x):=fun x hx=>by
     obtain⟨k,G⟩:=z8 hx;obtain⟨b,off,y,rfl,Hx,_,he⟩:=g.at_ (k:=k) (by rw [<-g.length];exact zN G)
     cases Hx.o.symm.trans G;exact he.int.2
    clear z g hV hf HS d I Q hc E Hk;go_enter func46,ntmps46;go_wp2_with fail;refine Hc.o.mono ?_;rintro r w2 ⟨A',c',rfl,hr,U⟩;have a:=t.row hr U;have q4:=(a.blkOf M2).frozen 2;have q5:=a.cell M2 2;have q:=((((Sp.ints a J.o).p2).set 2 (.slice A' n c')).d2).p1;clear t Hc U a s hr;go_wp2;go_ret
    exact⟨rfl,A',n,c',q⟩
abbrev yZ:=Int×aB×aD
def bJ (i:Nat) (f:Field) (e:Entry):yZ:=((i:Int),xr f e,ZU f e)
def WX (f:Field) (e:Entry) (seen a:Int):Bool:=Vz f e.text e.numbers.length && (f.many||seen==0) && Ys f e a
def ZV (a:List Field):List Entry->aD->aD->Option (List yZ)
 | [],_,_=>some []
 |e::es,seen,tks=>match Zx a e.field with
  |none=>none
  |some i=>match a[i]? with
   |none=>none
   |some f=>if WX f e (seen.getD i 0) (tks.getD i 0)then(ZV a es (seen.set i (seen.getD i 0+1)) (tks.set i (Yr f e (tks.getD i 0)))).map (bJ i f e::·)else none
def Yk (a:List Field) (es:List Entry):Option (List yZ):=if xC a && decide (es.length<=64)then ZV a es (List.replicate a.length 0) (List.replicate a.length 0)else none
def fCs (f:Field) (A2:aA) (n2 c2:Nat):aG:= #[.string f.name,.int .i64 f.kind,.slice A2 n2 c2,.int .i64 f.scale,.int .i64 f.dims,.bool f.many,.bool f.stored]
def eCs (e:Entry) (A:aA) (n c:Nat):aG:= #[.string e.field,.string e.text,.slice A n c]
theorem BP (p:Nat) (b:Bool) (w:O) (h:w.cell? ⟨p,0,none⟩=some (.bool b)):
 Calls prog 40 #[.pointer (some ⟨p,0,none⟩)] w fun e w' =>e= .returned (.int .i64 (unlI b 81))/\w=w' :=by
 have a:=zA (Q3 b 81);go_enter func40,ntmps40;go_wp2_with (go_at_call 41;refine(a.o _).mono ?_;rintro e w' ⟨rfl,rfl⟩);go_ret
 exact⟨rfl,rfl⟩
section
variable {w:O} {L:List Asn} {f:Field} {e:Entry} {A2 A:aA} {n2 c2 n c F E:Nat}
theorem BN (a:Blk w F 61 (fCs f A2 n2 c2)) (b:Blk w E 86 (eCs e A n c)):
 Calls prog 42 #[.pointer (some ⟨F,0,none⟩),.pointer (some ⟨E,0,none⟩)] w fun r w' =>r= .returned (.int .i64 (unlI (Vz f e.text n) 82))/\Below w.heap.size w w' :=by
 have d:=zA (C7 f e.text A2 A n2 c2 n c);have g:=zA (Q3 (Vz f e.text n) 82);have j:=a.cell 0;have k:=a.cell 1;have l:=a.cell 2;have m:=a.cell 3;have o:=a.cell 4;have p:=a.cell 5;have q:=a.cell 6;have h:=b.cell 1;have i:=b.cell 2;clear a b;simp [fCs,eCs]at j k l m o p q h i;go_enter func42,ntmps42
 go_wp2_with (first
  |(go_at_call 43;refine(d.o _).mono ?_;rintro e w' ⟨rfl,s⟩)
  |(go_at_call 41;refine(g.o _).mono ?_;rintro e w' ⟨rfl,rfl⟩))
 go_ret
 exact⟨rfl,s⟩
theorem BM {G I gs m l i:Nat} {s:Int} {seen:aD} (d:Blk w F 61 (fCs f A2 n2 c2)) (p:w.cell? ⟨G,0,none⟩=some (.slice (some ⟨gs,0,none⟩) m l)) (q:w.cell? ⟨I,0,none⟩=some (.int .i64 (i:Int))) (t:i<m)
 (u:w.cell? ⟨gs,i,none⟩=some (.int .i64 s)):
 Calls prog 44 #[.pointer (some ⟨F,0,none⟩),.pointer (some ⟨G,0,none⟩),.pointer (some ⟨I,0,none⟩)] w fun r w' =>r= .returned (.int .i64 (unlI (f.many||s==0) 84))/\w=w' :=by
 have g:=zA (fun b=>Q3 b 84);have a:=d.cell 5;clear d;simp [fCs]at a;obtain⟨o,k⟩:=eX (f.many);rw [k]at a⊢;have h:(0:Int)<=(i:Int):=by omega
 have j:(i:Int)<(m:Int):=by omega
 cases o
 all_goals
  go_enter func44,ntmps44;go_wp2_with (go_at_call 41;refine(g.o _ _).mono ?_;rintro e w' ⟨rfl,rfl⟩);go_ret
  exact⟨by simp,rfl⟩
theorem BL {u k m p i G I:Nat} {iv j:Int} {h:aD} (x:Vs w) (hi:i<m)
 (l:zL w (·<w.heap.size) A2 n2 c2 f.chain) (g:zL w (·<w.heap.size) A n c e.numbers) (v:e.text.size<=100000000) (J:n<=1000000000) (y:f.kind=4->0<=f.scale/\f.scale<=9)
 (z:h[i]? =some j) (o:0<=j/\j<=1000000)
 (b:Sp w (BlkA u 59 #[.int .i64 iv,.string ⟨#[]⟩,.slice none 0 0]::TokA k m p h::BlkA F 61 (fCs f A2 n2 c2)::BlkA E 86 (eCs e A n c)::BlkA G 55 #[.slice (some ⟨k,0,none⟩) m p]::BlkA I 3 #[.int .i64 (i:Int)]::L)):
 Calls prog 45 #[.pointer (some ⟨F,0,none⟩),.pointer (some ⟨E,0,none⟩),.pointer (some ⟨u,0,none⟩),.pointer (some ⟨G,0,none⟩),.pointer (some ⟨I,0,none⟩)] w fun r w' =>
  r= .returned (.int .i64 (unlI (Ys f e j) 83))/\∃q t s,Sp w' (DatA (.slice q t s) (ZU f e)::BlkA u 59 #[.int .i64 iv,.string (xr f e),.slice q t s]::TokA k m p (h.set i (Yr f e j))::BlkA F 61 (fCs f A2 n2 c2)::BlkA E 86 (eCs e A n c)::BlkA G 55 #[.slice (some ⟨k,0,none⟩) m p]::BlkA I 3 #[.int .i64 (i:Int)]::L):=by
 have d:Below w.heap.size w w.drew:=(zE _ _).drew;have C:=zA (CN f e A2 A n2 c2 n c w.drew (x.on d) (l.on d) (g.on d) v J y z o b.drew);have B:=zA (Q3 (Ys f e j) 83);have P:=b.cl M2 0;have Q:=b.cl M2 1;have R:=b.cl M2 2;have S:=b.cl M2 3;have T:=b.cl M2 4;have U:=b.cl M2 5;have X:=b.cl M2 6;have K:=b.cl M3 0;have M:=b.cl M3 1;have N:=b.cl M3 2
 have Y:=b.cl M4 0;have i0:=b.cl M5 0;have D:(0:Int)<=(i:Int):=by omega
 have H:(i:Int)<(m:Int):=by omega
 clear x l g y z b d o;go_enter func45,ntmps45;go_wp2_with fail
 go_region_held3 (fun W=>W.cell? ⟨F,0,none⟩=some (.string f.name)/\W.cell? ⟨F,1,none⟩=some (.int .i64 f.kind)/\W.cell? ⟨F,2,none⟩=some (.slice A2 n2 c2)/\W.cell? ⟨F,3,none⟩=some (.int .i64 f.scale)/\W.cell? ⟨F,4,none⟩=some (.int .i64 f.dims)/\W.cell? ⟨F,5,none⟩=some (.bool f.many)/\W.cell? ⟨F,6,none⟩=some (.bool f.stored)/\W.cell? ⟨E,0,none⟩=some (.string e.field)/\W.cell? ⟨E,1,none⟩=some (.string e.text)/\W.cell? ⟨E,2,none⟩=some (.slice A n c)/\W.cell? ⟨G,0,none⟩=some (.slice (some ⟨k,0,none⟩) m p)/\W.cell? ⟨I,0,none⟩=some (.int .i64 (i:Int))) (first|with_reducible assumption|(with_reducible exact⟨by assumption,by assumption,by assumption,by assumption,by assumption,by assumption,by assumption,by assumption,by assumption,by assumption,by assumption,by assumption⟩)|go_keep|fail) (first
  |(go_at_call 46;refine C.o.mono ?_;rintro r w1 ⟨rfl,q,t,s,a⟩;have k0:=a.cl M3 0;have k1:=a.cl M3 1;have k2:=a.cl M3 2;have k3:=a.cl M3 3;have k4:=a.cl M3 4;have k5:=a.cl M3 5;have k6:=a.cl M3 6;have j0:=a.cl M4 0;have j1:=a.cl M4 1;have j2:=a.cl M4 2;have Z:=a.cl M5 0;have i1:=a.cl M6 0)
  |(go_at_call 41;refine(B.o _).mono ?_;rintro r w2 ⟨rfl,rfl⟩)
  |fail)
 go_wp2;go_ret
 exact⟨rfl,q,t,s,a⟩
end
attribute [local go_sem ↓] zU zV
def oH (o:Option (List yZ)) (w:O) (r:Ending) (w' :O):Prop:=
 match o with
 |some cs=>∃A' n' b,r= .returned (.tuple #[.slice A' n' b,.int .i64 0])/\Sp w' [DatA (.slice A' n' b) cs,OldA w.heap.size w]
 |none=>∃c,r= .returned (.tuple #[.slice none 0 0,.int .i64 c])/\c≠0/\Below w.heap.size w w'
theorem MC {c:List Field} {es:List Entry} {k:Nat} {e:Entry} {seen b:aD} (d:es[k]? =some e) (h:Zx c e.field=none):ZV c (es.drop k) seen b=none:=by
 obtain⟨f,rfl⟩:=List.getElem?_eq_some_iff.1 d;rw [za f];simp [ZV,h]
theorem NM {c:List Field} {es:List Entry} {k i:Nat} {e:Entry} {f:Field} {seen b:aD} (g:es[k]? =some e) (h:Zx c e.field=some i) (d:c[i]? =some f) (l:WX f e (seen.getD i 0) (b.getD i 0)=false):ZV c (es.drop k) seen b=none:=by
 obtain⟨j,rfl⟩:=List.getElem?_eq_some_iff.1 g;rw [za j];unfold ZV;rw [h];simp only [d,l];rfl
theorem NZ {c:List Field} {es:List Entry} {k i:Nat} {e:Entry} {f:Field} {seen b:aD} (g:es[k]? =some e) (h:Zx c e.field=some i) (d:c[i]? =some f) (l:WX f e (seen.getD i 0) (b.getD i 0)=true):
 ZV c (es.drop k) seen b=(ZV c (es.drop (k+1)) (seen.set i (seen.getD i 0+1)) (b.set i (Yr f e (b.getD i 0)))).map (bJ i f e::·):=by
 obtain⟨j,rfl⟩:=List.getElem?_eq_some_iff.1 g;rw [za j]
 conv=>lhs;unfold ZV
 rw [h];simp only [d,l];rfl
theorem DD {b:List Field} {i:Nat} {f:Field} (h:xC b=true) (c:b[i]? =some f):f.kind=4->0<=f.scale/\f.scale<=9:=by
 intro d;unfold xC at h;simp only [zM,List.all_eq_true]at h;have:=h.2 i (List.mem_range.2 (zN c));unfold YH at this;rw [c]at this;simp only [zM]at this;have:=this.2;unfold Xq xD at this;simp [d]at this;exact this.2
theorem FC (A:aA) (n c:Nat) (b:List Field) (d:aB):∃(g:Nat) (j:Bool),((Zx b d=none/\g=0/\j=false)\/(Zx b d=some g/\j=true))/\∀w,zL w (·<w.heap.size) A n c b->
 Calls prog 39 #[.agg #[.slice A n c],.string d] w fun e w' =>e= .returned (.tuple #[.int .i64 (g:Int),.bool j])/\Below w.heap.size w w' :=by
 rcases h:Zx b d with _|i
 ·exact⟨0,false,.inl ⟨rfl,rfl,rfl⟩,fun w f=>FD A n c b d w f h⟩
 ·exact⟨i,true,.inr ⟨rfl,rfl⟩,fun w f=>Ug A n c b d w f i h⟩
theorem GS {f:Field} {e:Entry} {b:Int} (h:Ys f e b=true) (d:0<=b/\b<=4096):0<=Yr f e b/\Yr f e b<=4096:=by
 unfold Yr;unfold Ys at h
 by_cases c:f.kind=1
 ·rw [if_pos c]at h⊢;simp only [zM,decide_eq_true_eq]at h;omega
 ·rw [if_neg c];exact d
theorem Sp.nlen {w:O} {L:List Asn} {A:aA} {m c:Nat} {l:aD} (h:Sp w L) (b:NA A m c l∈L):l.length=m:=by
 have:=(h.rowOf b).1
 simpa [Go.Proofs.YtjbhbfaeielbiaaGreatDoor.ints]using this
theorem Sp.via {w:O} {L M:List Asn} (h:Sp w L) (f:Sp w L->Sp w M):Sp w M:=f h
section
variable {w:O} {a:Addr} {v:V}
theorem NV (h:w.cell? a=some v):w.drew.cell? a=some v:=h
theorem ON (h:w.cell? a=some v) (o:Obj):(w.alloc o).cell? a=some v:=(World.cell?_alloc_some w a o (by rw [h];rfl)).trans h
theorem PC {p:Addr} {u:V} (h:w.cell? a=some v) (b:p.block≠a.block):(w.setCell p u).cell? a=some v:=(World.cell?_setCell_far w p a u b).trans h
end
theorem FY (A B:aA) (n c m cm:Nat) (fs:List Field) (es:List Entry) (w:O) (hV:Vs w) (hs:zL w (·<w.heap.size) A n c fs) (he:zL w (·<w.heap.size) B m cm es)
 (hw:∀e∈es,e.text.size<=100000000/\e.numbers.length<=1000000000):
 Calls prog 9 #[.agg #[.slice A n c],.agg #[.slice B m cm]] w fun r w' =>oH (Yk fs es) w r w' :=by
 have bs:=@mF prog;obtain⟨o,ho⟩:=eX (Yk fs es);rw [ho];have bn:=hs.cap;have bc:=he.cap;have hl:=hs.length;have aw:=he.length;obtain⟨H,hH⟩:=eX (w.heap.size);have HB:=((Sp.start w).blkH 24 #[.slice A n c] hH).blkH 38 #[.slice B m cm] (H:=H+1) (by simp [hH]);have I:Below w.heap.size w ((w.alloc (.cells #[.slice A n c] 24)).alloc (.cells #[.slice B m cm] 38)):=HB.below M2
 have p:=zA (XJ A n c fs _ (hV.tabs.on I) (hs.on I));obtain⟨sb,D⟩:=eX (xC fs);rw [D]at p;cases sb with
 |false=>
  obtain rfl:o=none:=by rw [<-ho];simp [Yk,D]
  clear hV hs he hw ho D;go_enter func9,ntmps9;go_wp2_with fail;refine p.o.mono ?_;rintro r w1 ⟨rfl,Z⟩;go_wp2;go_ret2;exact⟨80,rfl,by decide,I.trans (Z.mono I.size)⟩
 |true=>
  by_cases bp:64<m
  ·obtain rfl:o=none:=by rw [<-ho];simp [Yk,show ¬es.length<=64 by omega]
   have af:(64:Int)<(m:Int):=(by omega);clear hV hs he hw ho D;go_enter func9,ntmps9;go_wp2_with fail;refine p.o.mono ?_;rintro r w1 ⟨rfl,Z⟩;have t:=HB.grow Z;have q1:=t.cell M0 0;go_wp2;go_ret2;exact⟨84,rfl,by decide,I.trans (Z.mono I.size)⟩
  ·have ay:ZV fs es (List.replicate n 0) (List.replicate n 0)=o:=(by rw [<-ho];unfold Yk;rw [D,hl,if_pos (by simp;omega)]);have af:¬(64:Int)<(m:Int):=(by omega)
   have hn:1<=n/\n<=16:=by
    have:=D;unfold xC at this;simp only [zM,decide_eq_true_eq]at this;omega
   have bh:=run_make_row' (P:=prog) 55 3 (.int .i64 0) 8 underlying55 (by kernel_rfl) rfl .i64 .i64 n (by omega) (by omega);have Ho:=zA ay;have Hs:=zA hs;have He:=zA he;have bb:=zA hw;have HV:=zA hV;have ba:=zA D;have Hl:=zA hl;have a9:=zA aw;clear hV hs he hw ho D ay hl aw;go_enter func9,ntmps9;go_wp2_with fail;refine p.o.mono ?_;rintro r w1 ⟨rfl,Z⟩;have t:=HB.grow Z
   have q1:=t.cl M0 0;have q2:=t.cl M1 0;have al:=(t.blkOf M1).lt;obtain⟨K,s⟩:=eX (w1.heap.size);rw [s]at al;have n0:¬H=K:=(by omega);have n1:¬H=K+1:=(by omega);have n2:¬H=K+2:=(by omega);have n3:¬H=K+3:=(by omega);have n4:¬H=K+1+1:=(by omega);have n5:¬H=K+1+1+1:=(by omega)
   have P0:=fun a b:V=>((((t.blkH 55 #[a] (H:=K) (by simp [s])).blkH 55 #[b] (H:=K+1) (by simp [s])).mkd (H:=K+2) (n:=n) (z:= .int .i64 0) (e:=3) (by simp [s]) (by omega)).mkd (H:=K+3) (n:=n) (z:= .int .i64 0) (e:=3) (by simp [s]) (by omega)).drew
   have P1:=fun a b:V=>((((t.blkH 55 #[a] (H:=K) (by simp [s])).mkd (H:=K+1) (n:=n) (z:= .int .i64 0) (e:=3) (by simp [s]) (by omega)).blkH 55 #[b] (H:=K+2) (by simp [s])).mkd (H:=K+3) (n:=n) (z:= .int .i64 0) (e:=3) (by simp [s]) (by omega)).drew
   have P2:=fun a b:V=>((((t.blkH 55 #[a] (H:=K) (by simp [s])).mkd (H:=K+1) (n:=n) (z:= .int .i64 0) (e:=3) (by simp [s]) (by omega)).mkd (H:=K+2) (n:=n) (z:= .int .i64 0) (e:=3) (by simp [s]) (by omega)).blkH 55 #[b] (H:=K+3) (by simp [s])).drew
   have P3:=fun a b:V=>((((t.mkd (H:=K) (n:=n) (z:= .int .i64 0) (e:=3) (by simp [s]) (by omega)).blkH 55 #[a] (H:=K+1) (by simp [s])).blkH 55 #[b] (H:=K+2) (by simp [s])).mkd (H:=K+3) (n:=n) (z:= .int .i64 0) (e:=3) (by simp [s]) (by omega)).drew
   have P4:=fun a b:V=>((((t.mkd (H:=K) (n:=n) (z:= .int .i64 0) (e:=3) (by simp [s]) (by omega)).blkH 55 #[a] (H:=K+1) (by simp [s])).mkd (H:=K+2) (n:=n) (z:= .int .i64 0) (e:=3) (by simp [s]) (by omega)).blkH 55 #[b] (H:=K+3) (by simp [s])).drew
   have P5:=fun a b:V=>((((t.mkd (H:=K) (n:=n) (z:= .int .i64 0) (e:=3) (by simp [s]) (by omega)).mkd (H:=K+1) (n:=n) (z:= .int .i64 0) (e:=3) (by simp [s]) (by omega)).blkH 55 #[a] (H:=K+2) (by simp [s])).blkH 55 #[b] (H:=K+3) (by simp [s])).drew;clear HB I Z p;go_upto_region 7 with fail
   go_cut [8,9]from 28 to 35 (fun v8 v9 W=>∃L N gs G:Nat,v8= .pointer (some ⟨L,0,none⟩)/\v9= .pointer (some ⟨N,0,none⟩)/\Sp W (BlkA L 55 #[.slice (some ⟨gs,0,none⟩) n n]::BlkA N 55 #[.slice (some ⟨G,0,none⟩) n n]::RowA 3 1 (.slice (some ⟨gs,0,none⟩) n n) n (madeCells #[.int .i64 0] n).toList::RowA 3 1 (.slice (some ⟨G,0,none⟩) n n) n (madeCells #[.int .i64 0] n).toList:: [BlkA (H+1) 38 #[.slice B m cm],BlkA H 24 #[.slice A n c],OldA w.heap.size w]))
   case first=>
    go_region_held3 (fun W=>W.cell? ⟨H,0,none⟩=some (.slice A n c)) (first|with_reducible assumption|(repeat (first|with_reducible assumption|refine NV ?_|refine ON ?_ _|refine PC ?_ (by simp;omega)))|fail) (first|fail)
    all_goals go_wp2
    all_goals go_meet
    all_goals exact⟨_,_,_,_,rfl,rfl,by
     first
     |(with_reducible refine Sp.via (P0 _ _) fun h=> ?_;first|with_reducible exact h.p1.p2.p3|with_reducible exact h.p1.p1.p2.p3|with_reducible exact h.p1.p3.p3|with_reducible exact h.p1.p1.p3.p3)
     |(with_reducible refine Sp.via (P1 _ _) fun h=> ?_;first|with_reducible exact h.p2.p2.p3|with_reducible exact h.p2.p1.p2.p3|with_reducible exact h.p2.p3.p3|with_reducible exact h.p2.p1.p3.p3)
     |(with_reducible refine Sp.via (P2 _ _) fun h=> ?_;first|with_reducible exact h.p1.p2.p2.p3|with_reducible exact h.p2.p2.p2.p3|with_reducible exact h.p1.p2.p3.p3|with_reducible exact h.p2.p2.p3.p3)
     |(with_reducible refine Sp.via (P3 _ _) fun h=> ?_;first|with_reducible exact h.p3.p2.p3|with_reducible exact h.p3.p3.p3|with_reducible exact h.p3.p1.p2.p3|with_reducible exact h.p3.p1.p3.p3)
     |(with_reducible refine Sp.via (P4 _ _) fun h=> ?_;first|with_reducible exact h.p1.p3.p2.p3|with_reducible exact h.p1.p3.p3.p3|with_reducible exact h.p3.p2.p2.p3|with_reducible exact h.p3.p2.p3.p3)
     |(with_reducible refine Sp.via (P5 _ _) fun h=> ?_;first|with_reducible exact h.p2.p3.p2.p3|with_reducible exact h.p2.p3.p3.p3|with_reducible exact h.p3.p3.p2.p3|with_reducible exact h.p3.p3.p3.p3)⟩
   case rest=>
    obtain⟨L,N,gs,G,rfl,rfl,hp⟩:=hcut;clear P0 P1 P2 P3 P4 P5 q1 q2 n0 n1 n2 n3 n4 n5 s al t bh;have e1:=nE n;rw [yr]at e1;rw [show(madeCells #[Value.int .i64 0] n).toList=ints (List.replicate n 0)from e1]at hp;have q1:=hp.cl M4 0;go_wp2;clear q1 e1
    have y5:Sp wc [RowA 59 3 (.slice none 0 0) 0 ([]:List aF).flatten,ElsA [] ([]:List yZ),BlkA L 55 #[.slice (some ⟨gs,0,none⟩) n n],BlkA N 55 #[.slice (some ⟨G,0,none⟩) n n],TokA gs n n (List.replicate n 0),TokA G n n (List.replicate n 0),BlkA (H+1) 38 #[.slice B m cm],BlkA H 24 #[.slice A n c],OldA w.heap.size w]:=(hp.elsNil (α:=yZ)).nil 59 3
    go_loopg [7,39] m (fun gk v7 bl wr=>∃(k:Nat) (A7:aA) (c7:Nat) (css:List aF) (done:List yZ) (seen C:aD),v7= .slice A7 k c7/\bl= .int .i64 k/\k<=m/\gk=m - k/\done.length=k/\o=(ZV fs (es.drop k) seen C).map (done++·)/\(∀x∈seen,0<=x/\x<=k)/\(∀x∈C,0<=x/\x<=4096)/\
     Sp wr [RowA 59 3 (.slice A7 k c7) k css.flatten,ElsA css done,BlkA L 55 #[.slice (some ⟨gs,0,none⟩) n n],BlkA N 55 #[.slice (some ⟨G,0,none⟩) n n],TokA gs n n seen,TokA G n n C,BlkA (H+1) 38 #[.slice B m cm],BlkA H 24 #[.slice A n c],OldA w.heap.size w])
    case atStart=>exact⟨0,none,0, [], [],_,_,rfl,rfl,zJ _,rfl,rfl,by rw [<-Ho.o];simp,by simp,by simp,y5⟩
    case round=>
     obtain⟨k,A7,c7,css,done,seen,C,rfl,rfl,hk,rfl,hd,ho,hi,h8,HS⟩:=hrel;clear hp y5 Ho;have Hd:=zA hd;have Ho:=zA ho;have hc:=zA hi;have h6:=zA h8;clear hd ho hi h8
     by_cases bg:k<m
     ·obtain⟨b,off,e,rfl,a2,Z,ap⟩:=He.o.at_ bg
      obtain⟨An,nn,cn,E0,E1,E2,h7, -, -⟩:=Entry.at_ ap
      have E0:wr.cell? _=_:=((HS.below M8).cell Z).trans E0;have E1:wr.cell? _=_:=((HS.below M8).cell Z).trans E1;have E2:wr.cell? _=_:=((HS.below M8).cell Z).trans E2;obtain⟨i,kn,J,hF⟩:=FC A n c fs e.field
      obtain⟨f,hf⟩:∃f,fs[i]? =some f:=by
       rcases J with⟨_,rfl,_⟩|⟨h,_⟩
       ·exact⟨_,zB (by rw [Hl.o];omega)⟩
       ·obtain⟨f,hf,_⟩:=eD h;exact⟨f,hf⟩
      have hh:i<n:=(by rw [<-Hl.o];exact zN hf);obtain⟨Y,ag⟩:=eX (wr.heap.size);have T:=HS.blkH 86 (eCs e An nn cn) ag;obtain⟨w2,hm⟩:=eX (wr.alloc (.cells (eCs e An nn cn) 86));have q3:w2.cell? ⟨H,0,none⟩=some (.slice A n c):=(by rw [<-hm];exact T.cell M8 0);have q4:w2.cell? ⟨Y,0,none⟩=some (.string e.field):=(by rw [<-hm];exact T.cell M0 0);rw [hm]at T
      have bj:=zA (DD ba.o hf);have ht:=a2;have h5:Hid (zL w (·<w.heap.size) An nn cn e.numbers):=h7;have F:=zA J;have Hf:=zA hf;have HF:=zA (hF w2 (Hs.o.on (T.below (.tail _ M8))));clear HS h7 J hF a2 ap;have h9 :wr.alloc (.cells #[.string e.field,.string e.text,.slice An nn cn] 86)=w2:=hm;go_upto_region 11 with fail
      try rw [h9]
      clear hm h9 E0 E1 E2 ag;go_wp2_with fail;refine HF.o.mono ?_;rintro r w3 ⟨rfl,am⟩;obtain⟨d,hv⟩:=eX (w3.heap.size);have Q:=((T.grow am).blkH 3 #[.int .i64 (i:Int)] hv).blkH 4 #[.bool kn] (H:=d+1) (by simp [hv]);obtain⟨w4,ys⟩:=eX ((w3.alloc (.cells #[.int .i64 (i:Int)] 3)).alloc (.cells #[.bool kn] 4));rw [ys]at Q;have y2:w4.heap.size=d+2:=(by rw [<-ys];simp [hv])
      obtain⟨bf,of,f',hA,bd,an,aq⟩:=Hs.o.at_ hh
      cases bd.o.symm.trans Hf.o;subst hA;obtain⟨A2,n2,c2,F0,F1,F2,F3,F4,F5,F6,ao, -, -, -, -⟩:=Field.at_ aq
      have kF:∀(j:Nat) (v:V),w.cell? ⟨bf,j,none⟩=some v->w4.cell? ⟨bf,j,none⟩=some v:=fun j v h=>((Q.below (.tail _ (.tail _ (.tail _ M8)))).cell an).trans h;have F0:=kF _ _ F0;have F1:=kF _ _ F1;have F2:=kF _ _ F2;have F3:=kF _ _ F3;have F4:=kF _ _ F4;have F5:=kF _ _ F5;have F6:=kF _ _ F6;clear kF;have hr:=Q.blkH 61 (fCs f A2 n2 c2) y2
      obtain⟨w5,y0⟩:=eX (w4.alloc (.cells #[.string f.name,.int .i64 f.kind,.slice A2 n2 c2,.int .i64 f.scale,.int .i64 f.dims,.bool f.many,.bool f.stored] 61));rw [show w4.alloc (.cells (fCs f A2 n2 c2) 61)=w5 from y0]at hr;have y3:w5.heap.size=d+3:=(by rw [<-y0];simp [y2]);have xi:=hr.blkH 59 #[.int .i64 (i:Int),.string ⟨#[]⟩,.slice none 0 0] y3
      obtain⟨w6,hy⟩:=eX (w5.alloc (.cells #[.int .i64 (i:Int),.string ⟨#[]⟩,.slice none 0 0] 59));rw [hy]at xi;have a3:w6.heap.size=d+4:=(by rw [<-hy];simp [y3])
      have R:=xi.blkH 93 #[.func (.func 40) #[] #[.pointer (some ⟨d+1,0,none⟩)],.func (.func 42) #[] #[.pointer (some ⟨d+2,0,none⟩),.pointer (some ⟨Y,0,none⟩)],.func (.func 44) #[] #[.pointer (some ⟨d+2,0,none⟩),.pointer (some ⟨L,0,none⟩),.pointer (some ⟨d,0,none⟩)],.func (.func 45) #[] #[.pointer (some ⟨d+2,0,none⟩),.pointer (some ⟨Y,0,none⟩),.pointer (some ⟨d+3,0,none⟩),.pointer (some ⟨N,0,none⟩),.pointer (some ⟨d,0,none⟩)]] a3
      have q5:w4.cell? ⟨H,0,none⟩=some (.slice (some ⟨bf,of,none⟩) n c):=Q.cell (.tail _ (.tail _ M8)) 0;have q6:=Q.cl M1 0;have q7:=hr.cl M2 0;have a4:Hid (zL w (·<w.heap.size) A2 n2 c2 f.chain):=ao;have ad:=zA hy;clear aq ao am T q3 q4 HF an Q hr xi hy;go_upto_region 14 with fail;rw [ad.o];clear q5 q6 q7 F0 F1 F2 F3 F4 F5 F6 y0 y3 ad;go_wp2_with fail
      obtain⟨sv,x5⟩:∃sv,seen[i]? =some sv:=⟨_,zB (by rw [R.nlen (.tail _ (.tail _ M8))];exact hh)⟩;obtain⟨tv,x8⟩:∃tv,C[i]? =some tv:=⟨_,zB (by rw [R.nlen (.tail _ (.tail _ (.tail _ M8)))];exact hh)⟩;have bo:=hc.o sv (zD x5);have az:=h6.o tv (zD x8);have xs:=zA x5;have ab:=zA x8;have ax:e.numbers.length=nn:=h5.o.length;have x6:=bb.o e (zD ht.o)
      obtain⟨Fs,X⟩:∃Fs:aG,#[.func (.func 40) #[] #[.pointer (some ⟨d+1,0,none⟩)],.func (.func 42) #[] #[.pointer (some ⟨d+2,0,none⟩),.pointer (some ⟨Y,0,none⟩)],.func (.func 44) #[] #[.pointer (some ⟨d+2,0,none⟩),.pointer (some ⟨L,0,none⟩),.pointer (some ⟨d,0,none⟩)],.func (.func 45) #[] #[.pointer (some ⟨d+2,0,none⟩),.pointer (some ⟨Y,0,none⟩),.pointer (some ⟨d+3,0,none⟩),.pointer (some ⟨N,0,none⟩),.pointer (some ⟨d,0,none⟩)]]=Fs:=⟨_,rfl⟩
      rw [X]at R⊢;have ah:Fs[0]? =some (.func (.func 40) #[] #[.pointer (some ⟨d+1,0,none⟩)]):=(by rw [<-X];rfl);have ai:Fs[1]? =some (.func (.func 42) #[] #[.pointer (some ⟨d+2,0,none⟩),.pointer (some ⟨Y,0,none⟩)]):=(by rw [<-X];rfl)
      have aj:Fs[2]? =some (.func (.func 44) #[] #[.pointer (some ⟨d+2,0,none⟩),.pointer (some ⟨L,0,none⟩),.pointer (some ⟨d,0,none⟩)]):=(by rw [<-X];rfl);have ak:Fs[3]? =some (.func (.func 45) #[] #[.pointer (some ⟨d+2,0,none⟩),.pointer (some ⟨Y,0,none⟩),.pointer (some ⟨d+3,0,none⟩),.pointer (some ⟨N,0,none⟩),.pointer (some ⟨d,0,none⟩)]):=(by rw [<-X];rfl);have a5:=zA ah
      have a6:=zA ai;have a7:=zA aj;have a8:=zA ak;obtain⟨w7,a1⟩:=eX (w6.alloc (.cells Fs 93));rw [a1]at R⊢
      have y6:Sp w7 [BlkA (d+3) 59 #[.int .i64 (i:Int),.string ⟨#[]⟩,.slice none 0 0],TokA G n n C,BlkA (d+2) 61 (fCs f A2 n2 c2),BlkA Y 86 (eCs e An nn cn),BlkA N 55 #[.slice (some ⟨G,0,none⟩) n n],BlkA d 3 #[.int .i64 (i:Int)],BlkA (d+4) 93 Fs,BlkA (d+1) 4 #[.bool kn],RowA 59 3 (.slice A7 k c7) k css.flatten,ElsA css done,BlkA L 55 #[.slice (some ⟨gs,0,none⟩) n n],TokA gs n n seen,BlkA (H+1) 38 #[.slice (some ⟨b,off,none⟩) m cm],BlkA H 24 #[.slice (some ⟨bf,of,none⟩) n c],OldA w.heap.size w]:=Sp.selT [_,_,_,_,_,_,_,_,_,_,_,_,_,_,_] R [1,11,2,5,9,4,0,3,6,7,8,10,12,13,14]
      have bt:∀er,unlI false er=er:=fun _=>rfl;have bu:∀er,unlI true er=0:=fun _=>rfl;clear x5 x8 ah ai aj ak X a1 R hf Z ys y2 a3 hv
      go_loopg [63] 4 (fun gj bm wj=>∃j:Nat,bm= .int .i64 j/\j<=4/\gj=4 - j/\(1<=j->kn=true)/\(2<=j->Vz f e.text nn=true)/\(3<=j->(f.many||sv==0)=true)/\((j<=3/\Sp wj [BlkA (d+3) 59 #[.int .i64 (i:Int),.string ⟨#[]⟩,.slice none 0 0],TokA G n n C,BlkA (d+2) 61 (fCs f A2 n2 c2),BlkA Y 86 (eCs e An nn cn),BlkA N 55 #[.slice (some ⟨G,0,none⟩) n n],BlkA d 3 #[.int .i64 (i:Int)],BlkA (d+4) 93 Fs,BlkA (d+1) 4 #[.bool kn],RowA 59 3 (.slice A7 k c7) k css.flatten,ElsA css done,BlkA L 55 #[.slice (some ⟨gs,0,none⟩) n n],TokA gs n n seen,BlkA (H+1) 38 #[.slice (some ⟨b,off,none⟩) m cm],BlkA H 24 #[.slice (some ⟨bf,of,none⟩) n c],OldA w.heap.size w])\/(j=4/\Ys f e tv=true/\∃M nq U,Sp wj [DatA (.slice M nq U) (ZU f e),BlkA (d+3) 59 #[.int .i64 (i:Int),.string (xr f e),.slice M nq U],TokA G n n (C.set i (Yr f e tv)),BlkA (d+2) 61 (fCs f A2 n2 c2),BlkA Y 86 (eCs e An nn cn),BlkA N 55 #[.slice (some ⟨G,0,none⟩) n n],BlkA d 3 #[.int .i64 (i:Int)],BlkA (d+4) 93 Fs,BlkA (d+1) 4 #[.bool kn],RowA 59 3 (.slice A7 k c7) k css.flatten,ElsA css done,BlkA L 55 #[.slice (some ⟨gs,0,none⟩) n n],TokA gs n n seen,BlkA (H+1) 38 #[.slice (some ⟨b,off,none⟩) m cm],BlkA H 24 #[.slice (some ⟨bf,of,none⟩) n c],OldA w.heap.size w])))
      case atStart=>exact⟨0,rfl,by omega,rfl,by omega,by omega,by omega,.inl ⟨by omega,y6⟩⟩
      case round=>
       obtain⟨j,rfl,hj,rfl,ar,au,x4,bk⟩:=hrel;clear y6;have x2:seen.getD i 0=sv:=(by rw [zm,xs.o];rfl);have x3:C.getD i 0=tv:=(by rw [zm,ab.o];rfl)
       have ha:Hid (kn=true->WX f e sv tv=false->o=none):=fun h1 h2=>by
        have h3:Zx fs e.field=some i:=by
         rcases F.o with⟨_,_,h⟩|⟨h,_⟩
         ·rw [h]at h1;cases h1
         ·exact h
        rw [Ho.o,NM ht.o h3 Hf.o (by rw [x2,x3];exact h2)];rfl
       have y8:=zA x2;have aa:=zA x3;have E:=zA ar;have xb:=zA au;have y4:=zA x4;have xn:=zA ax;clear x2 x3 ar au x4 ax;rcases bk with⟨x4,g⟩|⟨rfl,a0,M,nq,U,g⟩
       ·have be:j=0\/j=1\/j=2\/j=3:=(by omega);have hg:=zA (g.below (.tail _ (.tail _ (.tail _ (.tail _ (.tail _ (.tail _ M8)))))));rcases be with rfl|rfl|rfl|rfl
        ·have r0:wr.cell? ⟨d+4,0,none⟩=some (.func (.func 40) #[] #[.pointer (some ⟨d+1,0,none⟩)]):=(g.cell M6 0).trans a5.o;have p:=zA (BP (d+1) kn wr (g.cell M7 0));cases kn with
         |false=>
          obtain rfl:o=none:=by
           rw [Ho.o,MC ht.o (by rcases F.o with⟨h,_,_⟩|⟨_,h⟩;exact h;cases h)];rfl
          go_wp2_with (go_at_call 40;refine p.o.mono ?_;rintro r w' ⟨rfl,rfl⟩);go_ret2;exact⟨81,rfl,by decide,hg.o⟩
         |true=>
          go_wp2_with (go_at_call 40;refine p.o.mono ?_;rintro r w' ⟨rfl,rfl⟩)
          go_roundg (4 - (0+1))
          ·exact⟨1,rfl,by omega,rfl,by simp,by omega,by omega,.inl ⟨by omega,g⟩⟩
          ·omega
        ·have r0:wr.cell? ⟨d+4,1,none⟩=some (.func (.func 42) #[] #[.pointer (some ⟨d+2,0,none⟩),.pointer (some ⟨Y,0,none⟩)]):=(g.cell M6 1).trans a6.o;have p:=BN (g.blkOf M2) (g.blkOf M3);obtain⟨q,hq⟩:=eX (Vz f e.text nn);rw [hq]at p;have p:=zA p;have Hq:=zA hq;clear hq;cases q with
         |false=>
          obtain rfl:o=none:=ha.o (E.o (by omega)) (by unfold WX;rw [xn.o,Hq.o];rfl);go_wp2_with (go_at_call 42;refine p.o.mono ?_;rintro r w' ⟨rfl,x1⟩);go_ret2;exact⟨82,rfl,by decide,(g.grow x1).below (.tail _ (.tail _ (.tail _ (.tail _ (.tail _ (.tail _ M8))))))⟩
         |true=>
          go_wp2_with (go_at_call 42;refine p.o.mono ?_;rintro r w' ⟨rfl,x1⟩)
          go_roundg (4 - (1+1))
          ·exact⟨2,rfl,by omega,rfl,fun _=>E.o (by omega),fun _=>Hq.o,by omega,.inl ⟨by omega,g.grow x1⟩⟩
          ·omega
        ·have r0:wr.cell? ⟨d+4,2,none⟩=some (.func (.func 44) #[] #[.pointer (some ⟨d+2,0,none⟩),.pointer (some ⟨L,0,none⟩),.pointer (some ⟨d,0,none⟩)]):=(g.cell M6 2).trans a7.o;have p:=BM (seen:=seen) (g.blkOf M2) (g.cell (.tail _ (.tail _ M8)) 0) (g.cell M5 0) hh (g.rowCell (.tail _ (.tail _ (.tail _ M8))) (Z9 xs.o));obtain⟨q,hq⟩:=eX ((f.many||sv==0));rw [hq]at p
         have p:=zA p;have Hq:=zA hq;clear hq;cases q with
         |false=>
          obtain rfl:o=none:=ha.o (E.o (by omega)) (by unfold WX;rw [Hq.o];simp);go_wp2_with (go_at_call 44;refine p.o.mono ?_;rintro r w' ⟨rfl,rfl⟩);go_ret2;exact⟨84,rfl,by decide,hg.o⟩
         |true=>
          go_wp2_with (go_at_call 44;refine p.o.mono ?_;rintro r w' ⟨rfl,rfl⟩)
          go_roundg (4 - (2+1))
          ·exact⟨3,rfl,by omega,rfl,fun _=>E.o (by omega),fun _=>xb.o (by omega),fun _=>Hq.o,.inl ⟨by omega,g⟩⟩
          ·omega
        ·have r0:wr.cell? ⟨d+4,3,none⟩=some (.func (.func 45) #[] #[.pointer (some ⟨d+2,0,none⟩),.pointer (some ⟨Y,0,none⟩),.pointer (some ⟨d+3,0,none⟩),.pointer (some ⟨N,0,none⟩),.pointer (some ⟨d,0,none⟩)]):=(g.cell M6 3).trans a8.o
         have p:=BL (HV.o.on hg.o) hh (a4.o.on hg.o) (h5.o.on hg.o) x6.1 (by rw [<-xn.o];exact x6.2) bj.o ab.o (by omega) g;obtain⟨q,hq⟩:=eX (Ys f e tv);rw [hq]at p;have p:=zA p;have Hq:=zA hq;clear hq g;cases q with
         |false=>
          obtain rfl:o=none:=ha.o (E.o (by omega)) (by unfold WX;rw [Hq.o];simp);go_wp2_with (go_at_call 45;refine p.o.mono ?_;rintro r w' ⟨rfl,M,nq,U,y⟩);go_ret2;exact⟨83,rfl,by decide,y.below (.tail _ (.tail _ (.tail _ (.tail _ (.tail _ (.tail _ (.tail _ M8)))))))⟩
         |true=>
          go_wp2_with (go_at_call 45;refine p.o.mono ?_;rintro r w' ⟨rfl,M,nq,U,y⟩)
          go_roundg (4 - (3+1))
          ·exact⟨4,rfl,by omega,rfl,fun _=>E.o (by omega),fun _=>xb.o (by omega),fun _=>y4.o (by omega),.inr ⟨rfl,Hq.o,M,nq,U,y⟩⟩
          ·omega
       ·have bi:WX f e sv tv=true:=by
         unfold WX;rw [xn.o,xb.o (by omega),y4.o (by omega),a0];rfl
        have s1:wr.cell? ⟨L,0,none⟩=some (.slice (some ⟨gs,0,none⟩) n n):=g.cell (.tail _ (.tail _ (.tail _ M8))) 0;have s2:=g.cl M6 0;have s3:wr.cell? ⟨gs,i,none⟩=some (.int .i64 sv):=g.rowCell (.tail _ (.tail _ (.tail _ (.tail _ M8)))) (Z9 xs.o);have s4:=g.rowFree (.tail _ (.tail _ (.tail _ (.tail _ M8)))) i
        have y:=(Sp.selT [_,_,_,_,_,_,_,_,_,_,_,_,_,_,_,_] g [12,9,0,10,1,11,5,2,13,14,15]).rowSet i (.int .i64 (sv+1));rw [<-WR]at y;obtain⟨w8,y1⟩:=eX (wr.setCell ⟨gs,i,none⟩ (.int .i64 (sv+1)));rw [y1]at y;clear g;go_upto_region 22 with fail
        try rw [y1]
        clear s1 s2 s3 s4 y1;have s5:=y.cl M4 0;have s6:=y.cl M4 1;have s7:=y.cl M4 2
        have y7:Sp w8 [RowA 59 3 (.slice A7 k c7) k css.flatten,DatA (.slice M nq U) (ZU f e),ElsA css done,BlkA L 55 #[.slice (some ⟨gs,0,none⟩) n n],BlkA N 55 #[.slice (some ⟨G,0,none⟩) n n],TokA gs n n (seen.set i (sv+1)),TokA G n n (C.set i (Yr f e tv)),BlkA (H+1) 38 #[.slice (some ⟨b,off,none⟩) m cm],BlkA H 24 #[.slice (some ⟨bf,of,none⟩) n c],OldA w.heap.size w]:=Sp.selT [_,_,_,_,_,_,_,_,_,_,_] y [1,2,3,5,6,0,7,8,9,10]
        clear y;go_wp2_with (at_builtin;refine yC nV (.tmp 79) (.tmp 81) rfl rfl y7 rfl (cs:= #[.int .i64 (i:Int),.string (xr f e),.slice M nq U]) rfl rfl rfl (by intro u hu;simp at hu;rcases hu with rfl|rfl|rfl<;>rfl) (by omega) (by omega) ?_;intro A8 c8 w9 bq br hz)
        clear s5 s6 s7 y7;have av:=E.o (by omega)
        have h3:Zx fs e.field=some i:=by
         rcases F.o with⟨_,_,h⟩|⟨h,_⟩
         ·rw [h]at av;cases av
         ·exact h
        have h0:=Sp.mk1 (cs:= [.int .i64 (i:Int),.string (xr f e),.slice M nq U]) (x:=bJ i f e) hz.p1 fun S hS=>⟨[.int .i64 (i:Int)], [.string (xr f e),.slice M nq U],rfl,⟨rfl,show In64 ((i:Nat):Int)from⟨by omega,by omega⟩⟩, [.string (xr f e)], [.slice M nq U],rfl,⟨rfl,by have:=x6.1;show(xr f e).size<=_;unfold xr;split;omega;exact zJ _⟩,hS⟩;have h4:=(h0.p2.p1).elsPush.p1
        have ae:css.flatten++(#[Value.int .i64 (i:Int),Value.string (xr f e),Value.slice M nq U]:aG).toList=(css++ [[Value.int .i64 (i:Int),Value.string (xr f e),Value.slice M nq U]]).flatten:=(by simp);rw [ae]at h4;clear hz h0 ae;go_wp2
        go_roundg (m - (k+1))
        case measure=>omega
        case rel=>
         refine⟨k+1,A8,c8,_,_,_,_,rfl,by go_num,by omega,rfl,by simp [Hd.o],?_,?_,?_,h4⟩
         ·rw [Ho.o,NZ ht.o h3 Hf.o (by rw [y8.o,aa.o];exact bi),y8.o,aa.o,Option.map_map]
          congr 1
          funext l
          simp
         ·intro x hx;rcases xe hx with h|h
          ·have:=hc.o x h;omega
          ·omega
         ·intro x hx;rcases xe hx with h|h
          ·exact h6.o x h
          ·rw [h];exact GS a0 az
     ·obtain rfl:k=m:=by omega
      obtain rfl:o=some done:=by rw [Ho.o,zQ (by rw [a9.o];omega)];simp [ZV]
      go_wp2;go_ret2;exact⟨A7,k,c7,rfl,(HS.els).selT [_,_,_,_,_,_,_,_] [0,7]⟩
def XC (l:List Token):Prop:=∀(i:Nat) (t:Token),l[i]? =some t->t.pos=i
theorem XC.nil:XC []:=fun i t h=>by simp at h
theorem XC.snoc {l:List Token} (h:XC l) (t:Token) (c:t.pos=l.length):XC (l++ [t]):=fun i u a=>by
 rcases zk i l.length with b|b
 ·rw [z9 b]at a;exact h i u a
 ·have:=zN a;simp at this;obtain rfl:i=l.length:=by omega
  simp at a;subst a;exact c
theorem jX {s:aB} {l:List Token} (h:XC l) (a:Option Nat) (x:Nat):XC (QF s l a x):=by
 cases a with
 |none=>exact h
 |some f=>exact h.snoc _ rfl
theorem DG (s:aB) (p b:Int->Bool) (pre:aE):XC (Z7 s p b pre).1:=by
 refine Vf (P:=fun pre=>XC (Z7 s p b pre).1) XC.nil (fun l x h=> ?_) pre;rw [X2];unfold Z6
 split
 ·exact jX h _ _
 ·split<;>exact h
theorem U1 (s:aB) (p b:Int->Bool):XC (Xm s p b):=jX (DG s p b _) _ _
theorem jJ (t:Token) (p:aE) (n:Nat):∀(i:Nat) {a:List Token},XC a->XC (ZX t p n a i)
 |0,_,h=>h
 |i+1,_,h=>(jJ t p n i h).snoc _ rfl
theorem lO:∀(toks:List Token) {a:List Token},XC a->XC (toks.foldl Zg a)
 | [],_,h=>h
 |t::l,_,h=>lO l (jJ t _ _ _ h)
theorem tO (n:Int) (s:aB):XC (xJ n s):=by
 unfold xJ
 split
 ·exact U1 _ _ _
 ·split
  ·exact U1 _ _ _
  ·split
   ·exact U1 _ _ _
   ·exact lO _ XC.nil
theorem WT (t:Token) (p:aE) (n:Nat):∀(j:Nat),∀u∈Zp t p n j,u.pos=t.pos
 |0,u,h=>by simp [Zp]at h
 |j+1,u,h=>by
  rcases List.mem_append.1 h with h|h
  ·exact WT t p n j u h
  ·simp at h;subst h;rfl
theorem I3 {n:Int} {t u:Token} (h:u∈OL n t):u.pos=t.pos:=by
 unfold OL at h
 split at h
 ·simp at h;subst h;rfl
 ·split at h
  ·unfold We at h;split at h
   ·simp at h
   ·simp at h;subst h;rfl
  ·split at h
   ·unfold Yg at h;split at h
    ·simp at h;subst h;rfl
    ·exact WT _ _ _ _ _ h
   ·split at h
    ·unfold Yg at h;split at h
     ·simp at h;subst h;rfl
     ·exact WT _ _ _ _ _ h
    ·split at h
     ·simp at h;subst h;unfold Q8;split<;>rfl
     ·split at h
      ·unfold Qf at h;split at h
       ·simp at h
       ·simp at h;subst h;rfl
      ·simp at h
theorem oZ {B:Int}:∀(t:aD) (o:Option (List Token)),(∀l,o=some l->∀u∈l,0<=u.pos/\u.pos<B)->∀l,t.foldl lk o=some l->∀u∈l,0<=u.pos/\u.pos<B
 | [],_,h,l,hl=>h l hl
 |n::t,o,h,l,hl=>oZ t (lk o n) (fun e a u b=>by
   unfold lk at a;rcases o with _|o
   ·cases a
   ·simp only [Option.bind_some]at a
    split at a
    ·cases a;obtain⟨v,c,d⟩:=List.mem_flatMap.1 b;rw [I3 d];exact h o rfl v c
    ·cases a) l hl
theorem mN (xs:aD) (s:aB):∀u∈runT xs s,0<=u.pos/\u.pos<4096:=by
 unfold runT
 split
 ·simp
 ·split
  ·rename_i a t h;rcases hl:lks t (xJ a s)with _|l
   ·simp
   ·refine oZ t (some _) (fun g b u d=> ?_) l hl;cases b;obtain⟨k,c⟩:=z8 d;have e:=tO a s k u c;have f:=zN c;omega
  ·simp
def aU (a:List Token):Int:=match a.getLast? with
 |none=>0
 |some t=>t.pos+101
def VQ (b:Int) (t:Token):Token:={t with pos:=t.pos+b}
def xx (b:aD) (d:Nat) (a:List Token) (c:yZ):List Token:=if c.1=d then a++(runT b c.2.1).map (VQ (aU a))else a
def tokP (b:List Field) (a:Nat) (cells:List yZ):List Token:=
 match b[a]? with
 |some f=>if f.kind=1 then cells.foldl (xx f.chain a) []else []
 |none=> []
theorem iS {d:aD} {e:Nat} {a:List Token} {B:Int} (c:yZ) (h:∀t∈a,0<=t.pos/\t.pos<B) (hB:0<=B):∀t∈xx d e a c,0<=t.pos/\t.pos<B+4197:=by
 have g:0<=aU a/\aU a<B+101:=by
  unfold aU;rcases hl:a.getLast? with _|t
  ·show(0:Int)<=0/\(0:Int)<_;omega
  ·have:=h t (List.mem_of_getLast? hl);show 0<=t.pos+101/\t.pos+101<_;omega
 unfold xx
 split
 ·intro t b;rcases List.mem_append.1 b with b|b
  ·have:=h t b;omega
  ·obtain⟨u,f,rfl⟩:=List.mem_map.1 b;have:=mN _ _ u f;show 0<=u.pos+_/\u.pos+_<_;omega
 ·intro t b;have:=h t b;omega
theorem gI (b:aD) (d:Nat) (a:List Token) (c:yZ):(xx b d a c).length<=a.length+4096:=by
 unfold xx
 split
 ·have:=dN b c.2.1;simp;omega
 ·omega
theorem yZ.at_ {w:O} {F:Nat->Prop} {b off k:Nat} {x:yZ} (h:xp w F b off k x):∃A n c,w.cell? ⟨b,off+k*3,none⟩=some (.int .i64 x.1)/\w.cell? ⟨b,off+k*3+1,none⟩=some (.string x.2.1)/\w.cell? ⟨b,off+k*3+2,none⟩=some (.slice A n c)/\zL w F A n c x.2.2/\x.2.1.size<=9223372036854775807:=by
 obtain⟨cs,⟨j,c2,rfl,⟨d,_⟩,l,m,rfl,⟨e,i⟩,A,n,c,f,g⟩,a⟩:=h;cases d;cases e;cases f;exact⟨A,n,c,a 0 _ rfl,a 1 _ rfl,a 2 _ rfl,g,i⟩
theorem Sp.ownFlat {α:Type} [Rep α] {w w' :O} {L:List Asn} {e:TypeId} {v:V} {xs:List α} (h:Sp w L) (f:Own Flat w' w.heap.size e v xs) (d:Below w.heap.size w w'):∃A c,v= .slice A xs.length c/\Sp w' (DatA v xs::L):=by
 obtain⟨A,c,rfl⟩:=f.form;obtain⟨css,i,j,l⟩:=f;have g:=h.row (Yd l) d
 have a:Sp w' (ElsA css xs::RowA e (Rep.size α) (.slice A xs.length c) xs.length css.flatten::L):=
  g.new (S:=fun _=>False) (zE _ _) ⟨⟨i,fun k cs x m n=>Rep.more (j k cs x m n) fun b d=>d.1.elim⟩,fun _ h=>h.elim⟩ (fun _ h=>h.elim)
 exact⟨A,c,rfl,a.p1.els⟩
theorem FH:Elt prog 41 48 4 40:=xt (by kernel_rfl) (by decide) (by kernel_rfl)
theorem KQ {a:List Token} {j:Nat} {t:Token} (h:a[j]? =some t):(a.flatMap Token.cells)[j*4+1]? =some (.int .i64 t.pos):=by
 rw [List.flatMap_def];exact(xX (a.map Token.cells) j 1 t.cells (by simp [Token.cells]) (by simp [h]) (by omega)).trans rfl
abbrev TkA (A:aA) (n c:Nat) (l:List Token):Asn:=RowA 48 4 (.slice A n c) n (l.flatMap Token.cells)
theorem tN (A B:aA) (n c m cm i:Nat) (fs:List Field) (cells:List yZ) (f:Field) (w:O) (hV:Tabs w) (hs:zL w (·<w.heap.size) A n c fs) (he:zL w (·<w.heap.size) B m cm cells)
 (xs:xC fs=true) (hf:fs[i]? =some f) (hk:f.kind=1) (hm:m<=64):
 Calls prog 10 #[.agg #[.slice A n c],.int .i64 (i:Int),.slice B m cm] w fun r w' =>∃A' n' c',r= .returned (.slice A' n' c')/\n' =(tokP fs i cells).length/\n' <=262144/\Sp w' [TkA A' n' c' (tokP fs i cells),OldA w.heap.size w]:=by
 obtain⟨o,ho⟩:=eX (tokP fs i cells);have xi:cells.foldl (xx f.chain i) []=o:=by rw [<-ho];unfold tokP;rw [hf];simp [hk]
 rw [ho];have ae:=hs.cap;have y0:=he.cap;have hl:=hs.length;have h9:=he.length;have y1:i<n:=by rw [<-hl];exact zN hf
 obtain⟨H,hH⟩:=eX (w.heap.size);have HB:=((Sp.start w).blkH 24 #[.slice A n c] hH);have hd:Below w.heap.size w (w.alloc (.cells #[.slice A n c] 24)):=HB.below M1;have HC:=XJ A n c fs _ (hV.on hd) (hs.on hd);rw [xs,show OV true=0 from rfl]at HC;have HC:=zA HC;obtain⟨L,Q,f',rfl,h6,hg,h4⟩:=hs.at_ y1
 cases h6.o.symm.trans hf;obtain⟨A2,n2,c2,F0,F1,F2,F3,F4,F5,F6,h3, -, -, -, -⟩:=Field.at_ h4
 have x8:Hid (zL w (·<w.heap.size) A2 n2 c2 f.chain):=h3;have F1:=zA F1;have F2:=zA F2;have He:=zA he;have ys:=zA h9;have HV:=zA hV;have Ho:=zA xi;have al:¬(i:Int)<0:=by omega
 have am:¬(n:Int)<=(i:Int):=by omega
 have an:(i:Int)<(n:Int):=by omega
 have au:decide ((i:Int)<0)=false:=by simp
 have av:decide ((n:Int)<=(i:Int))=false:=by simp;omega
 have aw:decide (n<=i)=false:=by simp;omega
 rw [hk]at F1;clear hs he xs hl h9 xi ho h4 F0 F3 F4 F5 F6 h3 h6 hV;go_enter func10,ntmps10;go_wp2_with fail;refine HC.o.mono ?_;rintro r w1 ⟨rfl,hb⟩;have J:=HB.grow hb;have q1:=J.cl M0 0;have q2:w1.cell? ⟨L,Q+i*7+1,none⟩=some (.int .i64 1):=((J.below M1).cell hg).trans F1.o;clear HB hd hb HC;go_wp2;clear q1 q2
 have hp:Sp w1 [TkA none 0 0 [],BlkA H 24 #[.slice (some ⟨L,Q,none⟩) n c],OldA w.heap.size w]:=J.nil 48 4
 go_loopg [7,41] m (fun gk v7 y8 wr=>∃(k:Nat) (T:aA) (z c7:Nat) (a:List Token),v7= .slice T z c7/\y8= .int .i64 k/\k<=m/\gk=m - k/\a.length=z/\z<=4096*k/\(∀t∈a,0<=t.pos/\t.pos<4197*k)/\(cells.drop k).foldl (xx f.chain i) a=o/\
  Sp wr [TkA T z c7 a,BlkA H 24 #[.slice (some ⟨L,Q,none⟩) n c],OldA w.heap.size w])
 case atStart=>exact⟨0,none,0,0, [],rfl,rfl,zJ _,rfl,rfl,zJ _,by simp,Ho.o,hp⟩
 case round=>
  obtain⟨k,T,z,c7,a,rfl,rfl,hk,rfl,xn,aq,S,x1,U⟩:=hrel;clear J hp;have g:=zA xn;have D:=zA S;have hw:=zA x1;clear xn S x1 Ho
  by_cases y3:k<m
  ·obtain⟨b,off,x,rfl,y6,hb,hi⟩:=He.o.at_ y3
   obtain⟨Ax,nx,cx,E0,E1,E2,R, -⟩:=yZ.at_ hi
   have E0:wr.cell? _=_:=((U.below M2).cell hb).trans E0;have E1:wr.cell? _=_:=((U.below M2).cell hb).trans E1;have E2:wr.cell? _=_:=((U.below M2).cell hb).trans E2;obtain⟨ci,hh⟩:=eX (x.1);obtain⟨tx,x2⟩:=eX (x.2.1);rw [hh]at E0;rw [x2]at E1
   have y:(cells.drop (k+1)).foldl (xx f.chain i) (xx f.chain i a x)=o:=by
    rw [<-hw.o];obtain⟨hl,rfl⟩:=List.getElem?_eq_some_iff.1 y6.o;rw [za hl];rfl
   have l:=zA y
   have h:Hid (∀t∈xx f.chain i a x,0<=t.pos/\t.pos<4197*((k+1:Nat):Int)):=fun t ht=>by
    have:=iS x D.o (by omega) t ht;omega
   have d:Hid ((xx f.chain i a x).length<=4096*(k+1)):=by
    have:=gI f.chain i a x;have:=g.o;show _<=_;omega
   obtain⟨Eb,ha⟩:=eX (wr.heap.size);have e:=U.blkH 59 #[.int .i64 ci,.string tx,.slice Ax nx cx] ha
   by_cases hc:ci=i
   ·subst hc;obtain⟨toks,I⟩:=eX (runT f.chain tx);obtain⟨P,N⟩:=eX (toks.length);have ag:P<=4096:=(by rw [<-N,<-I];exact dN _ _);obtain⟨bs,M⟩:=eX (aU a);have G:xx f.chain i a x=a++toks.map (VQ bs):=(by unfold xx;rw [if_pos hh,x2,I,M]);rw [G]at l h d;have E:=d.o;simp only [zG,zK,N]at E;rw [g.o]at E
    have ad:0<=bs/\bs<=1000000:=by
     rw [<-M];unfold aU;rcases hlq:a.getLast? with _|u
     ·exact⟨Int.le_refl _,by show(0:Int)<=_;omega⟩
     ·have:=D.o u (List.mem_of_getLast? hlq);exact⟨by show 0<=u.pos+101;omega,by show u.pos+101<=_;omega⟩
    have y4:Hid (∀t∈toks,0<=t.pos/\t.pos<4096):=(by rw [<-I];exact mN _ _);obtain⟨w2,x3⟩:=eX (wr.alloc (.cells #[.int .i64 (i:Int),.string tx,.slice Ax nx cx] 59));rw [x3]at e;have K:=e.drew;have HR:=mQ A2 n2 c2 f.chain tx w2.drew (HV.o.on (K.below M3)) (x8.o.on (K.below M3));rw [I]at HR;have HR:=zA HR;have hv:=zA M;have Y:=zA N;have q3:=e.cl M0 0
    have q4:=e.cl M0 1;have q5:=e.cl M2 0;have q6:w2.cell? ⟨L,Q+i*7+2,none⟩=some (.slice A2 n2 c2):=((e.below M3).cell hg).trans F2.o;clear U e hi R y G M N I;go_wp2
    go_region_held3 (fun W=>W.cell? ⟨Eb,1,none⟩=some (.string tx)/\W.cell? ⟨H,0,none⟩=some (.slice (some ⟨L,Q,none⟩) n c)/\W.cell? ⟨L,Q+i*7+2,none⟩=some (.slice A2 n2 c2)) (first|with_reducible assumption|(with_reducible exact⟨by assumption,by assumption,by assumption⟩)|go_keep|fail) (first
     |(go_at_call 47;refine HR.o.mono ?_;rintro r w3 ⟨v,er,rfl, -,F,h2⟩;obtain⟨A5,c5,rfl,p⟩:=Sp.ownFlat K F h2;rw [Y.o]at p⊢;have k1:=p.cl M1 1;have k2:=p.cl M3 0;have k3:w3.cell? ⟨L,Q+i*7+2,none⟩=some (.slice A2 n2 c2):=((p.below M4).cell hg).trans F2.o)
     |fail)
    clear q3 q4 q5 q6 k1 k2 k3 HR K x3 ha h2
    go_upto_if 64 with fail
    go_cut [12]from 65 to 72 (fun y7 W=>y7= .int .i64 bs/\W=w3)
    case first=>
     by_cases h0:z=0
     ·subst h0;obtain rfl:=zS g.o;have h1:bs=0:=hv.o.symm;go_wp2
      go_meet
      exact⟨by rw [h1],rfl⟩
     ·obtain⟨j7,h8⟩:=eX (z - 1);obtain⟨u,hu⟩:∃u,a[j7]? =some u:=⟨_,zB (by have:=g.o;omega)⟩;have ah:(z:Int) - 1=(j7:Int):=(by omega);have ao:(j7:Int)<(z:Int):=(by omega);have h1:(0:Int)<(z:Int):=(by omega)
      have y5:aU a=u.pos+101:=by
       unfold aU;rw [List.getLast?_eq_getElem?,g.o,h8,hu]
      have ay:=D.o u (zD hu);obtain⟨g7,rfl, -, -⟩:=(p.rowOf M2).at_ (by omega)
      have q7:w3.cell? ⟨g7,j7*4+1,none⟩=some (.int .i64 u.pos):=p.rowCell M2 (KQ hu);clear h8;go_wp2
      all_goals go_meet
      all_goals
       refine⟨?_,rfl⟩
       first
        |(exfalso;omega)
        |(rw [<-hv.o,y5];exact congrArg (Value.int .i64) (by omega))
    case rest=>
     obtain⟨rfl,rfl⟩:=hcut
     have hr:Sp wc [TkA T (z+0) c7 (a++(toks.take 0).map (VQ bs)),DatA (.slice A5 P c5) toks,BlkA H 24 #[.slice (some ⟨L,Q,none⟩) n c],OldA w.heap.size w]:=by
      have:=Sp.selT [_,_,_,_] p [2,0,3]
      simpa using this
     go_wp2
     go_loopg [7,75] P (fun gj v7 aa wr=>∃(j:Nat) (A8:aA) (n8 c8:Nat),v7= .slice A8 n8 c8/\n8=z+j/\aa= .int .i64 j/\j<=P/\gj=P - j/\Sp wr [TkA A8 n8 c8 (a++(toks.take j).map (VQ bs)),DatA (.slice A5 P c5) toks,BlkA H 24 #[.slice (some ⟨L,Q,none⟩) n c],OldA w.heap.size w])
     case atStart=>exact⟨0,T,z,c7,rfl,rfl,rfl,zJ _,rfl,hr⟩
     case round=>
      obtain⟨j,A8,n8,c8,rfl,xb,rfl,hj,rfl,C⟩:=hrel;have Z:=zA xb;have ar:n8<=300000:=(by omega);clear p hr xb
      by_cases y2:j<P
      ·obtain⟨bt,ot,q,rfl,x4,aj,h5⟩:=(C.ls M1).at_ y2
       obtain⟨T0,T1,T2,T3,ai⟩:=Token.at_ h5
       have ax:=y4.o q (zD x4.o);obtain⟨Tb,hz⟩:=eX (wr.heap.size);have s:=(C.blkH 48 #[.string q.text,.int .i64 (q.pos+bs),.int .i64 q.from_,.int .i64 q.to_] hz).p1;obtain⟨w4,hn⟩:=eX (wr.alloc (.cells #[.string q.text,.int .i64 (q.pos+bs),.int .i64 q.from_,.int .i64 q.to_] 48));rw [hn]at s;have hx:=zA hn;clear hn;go_upto_region 17 with fail;rw [hx.o]
       have z0:=s.cl M1 0;have z1:=s.cl M1 1;have z2:=s.cl M1 2;have z3:=s.cl M1 3;have ab:=zA F;clear T0 T1 T2 T3 h5 hx C hz F
       go_wp2_with (at_builtin;refine yC FH (.tmp 84) (.tmp 86) rfl rfl s rfl (cs:= #[.string q.text,.int .i64 (q.pos+bs),.int .i64 q.from_,.int .i64 q.to_]) rfl rfl rfl (by intro u hu;simp at hu;rcases hu with rfl|rfl|rfl|rfl<;>rfl) (by omega) (by omega) ?_;intro A9 c9 w5 ak ap X)
       have hy:(a++(toks.take j).map (VQ bs)).flatMap Token.cells++(#[Value.string q.text,Value.int .i64 (q.pos+bs),Value.int .i64 q.from_,Value.int .i64 q.to_]:aG).toList=(a++(toks.take (j+1)).map (VQ bs)).flatMap Token.cells:=by
        rw [zI,x4.o];simp [Token.cells,VQ]
       rw [hy]at X;have x6:=X.d1;clear z0 z1 z2 z3 s X hy;go_wp2
       go_roundg (P - (j+1))
       ·exact⟨j+1,A9,n8+1,c9,rfl,by have:=Z.o;omega,by go_num,by omega,rfl,x6⟩
       ·omega
      ·have af:j=P:=(by omega);rw [zF (by rw [Y.o];omega)]at C;go_wp2
       go_roundg (m - (k+1))
       case measure=>omega
       case rel=>
        exact⟨k+1,A8,n8,c8,_,rfl,by go_num,by omega,rfl,by have:=Z.o;simp [g.o,Y.o];omega,by have:=Z.o;omega,h.o,l.o,C.d1⟩
   ·have G:xx f.chain i a x=a:=(by unfold xx;rw [if_neg (by rw [hh];exact hc)]);rw [G]at l h d;have E:=d.o;rw [g.o]at E;have x5:=e.tail;clear U e hi R y d G ha;go_wp2
    go_roundg (m - (k+1))
    ·exact⟨k+1,T,z,c7,a,rfl,by go_num,by omega,rfl,g.o,E,h.o,l.o,x5⟩
    ·omega
  ·obtain rfl:k=m:=by omega
   have h7:a=o:=(by rw [<-hw.o,zQ (by rw [ys.o];omega)];rfl);subst h7;go_wp2;go_ret
   exact⟨T,z,c7,rfl,g.o.symm,by omega,U.d1⟩
theorem R7 (A B:aA) (n c m D i:Nat) (o:List Field) (f:Field) (w:O) (u:Tabs w) (j:zL w (·<w.heap.size) A n c o) (k:xC o=true) (s:o[i]? =some f) (J:f.kind≠1):
 Calls prog 10 #[.agg #[.slice A n c],.int .i64 (i:Int),.slice B m D] w fun r w' =>r= .returned (.slice none 0 0)/\Below w.heap.size w w' :=by
 have x:=j.cap;have y:=j.length;have t:i<n:=by rw [<-y];exact zN s
 obtain⟨H,E⟩:=eX (w.heap.size);have p:=((Sp.start w).blkH 24 #[.slice A n c] E);have b:Below w.heap.size w (w.alloc (.cells #[.slice A n c] 24)):=p.below M1;have d:=XJ A n c o _ (u.on b) (j.on b);rw [k,show OV true=0 from rfl]at d;have d:=zA d;obtain⟨C,P,R,rfl,g,q,e⟩:=j.at_ t
 cases g.o.symm.trans s;obtain⟨_,_,_,_,l,_⟩:=Field.at_ e
 obtain⟨N,h⟩:=eX (f.kind);rw [h]at l J;have l:=zA l;have F:¬(i:Int)<0:=by omega
 have G:¬(n:Int)<=(i:Int):=by omega
 have I:(i:Int)<(n:Int):=by omega
 have K:decide ((i:Int)<0)=false:=by simp
 have L:decide ((n:Int)<=(i:Int))=false:=by simp;omega
 have M:decide (n<=i)=false:=by simp;omega
 clear j k y s e g u h;go_enter func10,ntmps10;go_wp2_with fail;refine d.o.mono ?_;rintro r Q ⟨rfl,v⟩;have a:=p.grow v;have S:=a.cl M0 0;have T:Q.cell? ⟨C,P+i*7+1,none⟩=some (.int .i64 N):=((a.below M1).cell q).trans l.o;have z:=zA (a.below M1);clear p b v d a;go_wp2;go_ret
 exact⟨rfl,z.o⟩
theorem PW {a:List Field} {i:Nat} {f:Field} (cells:List yZ) (b:a[i]? =some f) (c:f.kind≠1):tokP a i cells= []:=by
 unfold tokP;rw [b];simp [c]
theorem RW {A B:aA} {n c m d i:Nat} {a:List Field} {cells:List yZ} {f:Field} {w:O} (j:Tabs w) (k:zL w (·<w.heap.size) A n c a) (o:zL w (·<w.heap.size) B m d cells)
 (b:xC a=true) (e:a[i]? =some f) (p:m<=64):
 Calls prog 10 #[.agg #[.slice A n c],.int .i64 (i:Int),.slice B m d] w fun r w' =>∃A' n' h,r= .returned (.slice A' n' h)/\n' =(tokP a i cells).length/\n' <=262144/\Sp w' [TkA A' n' h (tokP a i cells),OldA w.heap.size w]:=by
 by_cases g:f.kind=1
 ·exact tN A B n c m d i a cells f w j k o b e g p
 ·refine(R7 A B n c m d i a f w j k b e g).mono ?_;rintro r w' ⟨rfl,l⟩;rw [PW cells e g];exact⟨none,0,0,rfl,rfl,zJ _,((Sp.start w).grow l).nil 48 4⟩
end Go.Proofs.YtjbhbfaeielbiaaGreatDoor

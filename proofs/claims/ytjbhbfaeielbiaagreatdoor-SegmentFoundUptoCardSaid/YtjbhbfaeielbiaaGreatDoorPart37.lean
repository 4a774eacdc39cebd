import Derived.Test.YtjbhbfaeielbiaaGreatDoorPart35
set_option maxRecDepth 100000
set_option maxHeartbeats 8000000
set_option linter.unusedVariables false
set_option linter.unusedSimpArgs false
namespace Go.Proofs.YtjbhbfaeielbiaaGreatDoor
open Go.Proofs.Tryz
open Rep (rep)
open Go.RowKit
attribute [local go_sem ↓] zU zV
theorem vQ (B:Nat) (A:aA) (n c:Nat) (w:O) (a:w.cell? ⟨B,0,none⟩=some (.slice A n c)):
 Calls prog 207 #[.pointer (some ⟨B,0,none⟩)] w fun e w' =>e= .returned (.int .i64 (n:Int))/\w' =w:=by
 have H:=zA (V1 B A n c w a);go_enter func207,ntmps207;go_wp2_with (refine H.o.mono ?_;rintro e b ⟨rfl,rfl⟩);go_ret
 exact⟨rfl,rfl⟩
theorem wR (B:Nat) (rows:List aD) (n k:Nat) (E:aA) (M:Nat) (A:aA) (m:Nat) (w:O) (H:ColAt w B rows n E M A m) (y:RI w A m rows.flatten) (U:k<n) (W:m<=100000000) (Y:n<=16384) (a:aD) (c:rows[k]? =some a) (Z:a.length<=64):
 Calls prog 268 #[.pointer (some ⟨B,0,none⟩),.int .i64 (k:Int)] w fun e w' =>∃A' L,e= .returned (.slice A' a.length L)/\Sp w' [NA A' a.length L a,OldA w.heap.size w]:=by
 have F:=zA (j5 B rows n k E M A m w H U W Y a c);obtain⟨f,D⟩:=eX ((rows.take k).flatten.length);obtain⟨z,d⟩:=eX (a.length)
 have I:f+z<=m:=by
  have h:=Qk rows (k+1);rw [Xg c,zG,D,d,H.all]at h;exact h
 have s:Hid (0<z->∃b off,(if m=f then A else A.map (·.add f))=some ⟨b,off,none⟩/\∀j x,a[j]? =some x->b<w.heap.size/\w.cell? ⟨b,off+j,none⟩=some (.int .i64 x)):=by
  intro h0;obtain⟨b,off,rfl,G,g⟩:=y.2 (by omega);refine⟨b,off+f,by rw [if_neg (by omega),yk,Qq],fun j x P=>⟨G,?_⟩⟩;rw [Nat.add_assoc];refine g (f+j) _ ?_;unfold ints;rw [zH,<-D,nQ c (zN P),P];rfl
 have t:=zA d;rw [D,d]at F;rw [d]at Z⊢;obtain⟨A5,hA5⟩:=eX ((if m=f then A else A.map (·.add f)));obtain⟨c5,v⟩:=eX (m - f);rw [hA5,v]at F;rw [hA5]at s;have l:=(Sp.start w).nil 3 1;clear hA5 v D d y H I;go_enter func268,ntmps268;go_wp2_with fail;refine F.o.mono ?_;rintro e w1 ⟨rfl,q,rfl⟩;have o:=l.drewN q;go_wp2
 go_loopg [5,16] z (fun gk vo vi wr=>∃(j:Nat) (Ao:aA) (co:Nat),j<=z/\gk=z - j/\vi= .int .i64 j/\vo= .slice Ao j co/\Sp wr [NA Ao j co (a.take j),OldA w.heap.size w])
 case atStart=>exact⟨0,none,0,zJ _,rfl,rfl,rfl,o⟩
 case round=>
  obtain⟨j,Ao,co,hj,rfl,rfl,rfl,C⟩:=hrel;clear l o
  by_cases J:j<z
  ·obtain⟨b,off,rfl,g⟩:=s.o (by omega);obtain⟨x,K⟩:∃x,Hid (a[j]? =some x):=⟨_,zB (by rw [t.o];exact J)⟩;obtain⟨G,i⟩:=g j x K.o;have T:=((C.below M1).cell (p:=⟨b,off+j,none⟩) G).trans i;clear g i
   go_wp2_with (at_builtin;refine yC Xr (.tmp 20) (.tmp 22) rfl rfl C rfl (cs:= #[.int .i64 x]) rfl rfl rfl (by intro u N;simp at N;subst N;rfl) (by omega) (by omega) ?_;intro Q R w8 S X r);have e:ints (a.take j)++ #[Value.int .i64 x].toList=ints (a.take (j+1)):=(by rw [zI,K.o];simp [ints]);rw [e]at r
   go_roundg (z - (j+1))
   ·exact⟨j+1,Q,R,by omega,rfl,by go_num,rfl,r⟩
   ·omega
  ·obtain rfl:j=z:=by omega
   rw [zF (by rw [t.o];omega)]at C;go_wp2;go_ret
   exact⟨Ao,co,rfl,C⟩
theorem vP (B:Nat) (rows:List aD) (n k:Nat) (E:aA) (N:Nat) (A:aA) (m:Nat) (w:O) (R:ColAt w B rows n E N A m) (y:RI w A m rows.flatten) (hk:k<n) (hm:m<=100000000) (hn:n<=16384) (a:aD) (c:rows[k]? =some a) (X:a.length<=64)
 (J:aA) (I P:Nat) (ts:List aB) (hB:B<w.heap.size) (Q:w.cell? ⟨B,2,none⟩=some (.slice J I P)) (C:zL w (·<w.heap.size) J I P ts) (l:List aB) (H:l.length=a.length) (W:∀(j:Nat) (t:aB),l[j]? =some t->∃i:Nat,a[j]? =some (i:Int)/\ts[i]? =some t):
 Calls prog 208 #[.pointer (some ⟨B,0,none⟩),.int .i64 (k:Int)] w fun e w' =>∃A' M,e= .returned (.slice A' l.length M)/\Sp w' [TA A' l.length M l,OldA w.heap.size w]:=by
 have K:=zA (wR B rows n k E N A m w R y hk hm hn a c X);have r:=zA C;have Hx:=zA W;have H2:=zA Q;obtain⟨z,b⟩:=eX (l.length);rw [<-H,b]at K;rw [<-H,b]at X;rw [b];have s:=zA b;clear C W b y R c H Q;go_enter func208,ntmps208;go_wp2_with fail;refine K.o.mono ?_;rintro e w1 ⟨Y,c1,rfl,h⟩;have o:=h.nil 9 1;go_wp2
 go_loopg [5,12] z (fun gk vo vi wr=>∃(j:Nat) (Ao:aA) (co:Nat),j<=z/\gk=z - j/\vi= .int .i64 j/\vo= .slice Ao j co/\Sp wr [TA Ao j co (l.take j),NA Y z c1 a,OldA w.heap.size w])
 case atStart=>exact⟨0,none,0,zJ _,rfl,rfl,rfl,o⟩
 case round=>
  obtain⟨j,Ao,co,hj,rfl,rfl,rfl,g⟩:=hrel;clear h o
  by_cases G:j<z
  ·obtain⟨t,L⟩:∃t,Hid (l[j]? =some t):=⟨_,zB (by rw [s.o];exact G)⟩;obtain⟨i,v,f⟩:=Hx.o j t L.o;obtain⟨g1,rfl, -, -, -⟩:=(g.rowOf M1).at_ (by omega)
   have hd:wr.cell? ⟨g1,j,none⟩=some (.int .i64 (i:Int)):=g.rowCell M1 (by unfold ints;rw [zH,v];rfl);have d:=g.below M2;have x:=zN f;rw [r.o.length]at x;obtain⟨bt,ot,t',rfl,D,F,S⟩:=r.o.at_ x
   have e:=D.o.symm.trans f;cases e;have hf:=(d.cell (p:=⟨bt,ot+i,none⟩) F).trans S.str.1;have hb:=(d.cell (p:=⟨B,2,none⟩) hB).trans H2.o;have T:(i:Int)<I:=(by omega);clear S v f d
   go_wp2_with (at_builtin;refine yC Ql (.tmp 16) (.tmp 24) rfl rfl g rfl (cs:= #[.string t]) rfl rfl rfl (by intro u U;simp at U;subst U;rfl) (by omega) (by omega) ?_;intro Z c8 w8 ha hg q);have e:sC (l.take j)++ #[Value.string t].toList=sC (l.take (j+1)):=(by rw [zI,L.o];simp [sC]);rw [e]at q
   go_roundg (z - (j+1))
   ·exact⟨j+1,Z,c8,by omega,rfl,by go_num,rfl,q⟩
   ·omega
  ·obtain rfl:j=z:=by omega
   rw [zF (by rw [s.o];omega)]at g;go_wp2;go_ret
   exact⟨Ao,co,rfl,g.d1⟩
theorem KO (x:Int) (b c:Nat) (d:aA) (a f:Nat) (w:O) (k:0<=x/\x<a) (i:w.cell? ⟨b,0,none⟩=some (.pointer (some ⟨c,0,none⟩))) (j:w.cell? ⟨c,2,none⟩=some (.slice d a f)):
 Calls prog 206 #[.int .i64 x,.pointer (some ⟨b,0,none⟩)] w fun e w' =>e= .returned (.bool false)/\w' =w:=by
 have g:¬x<0:=by omega
 have h:¬(a:Int)<=x:=by omega
 go_enter func206,ntmps206;go_wp2;go_ret
 exact⟨rfl,rfl⟩
theorem JL (A:aA) (n c:Nat) (l:aD) (w:O) (q:RI w A n l) (k o:Nat) (r:aA) (i s:Nat) (a:∀x∈l,0<=x/\x<i) (t:w.cell? ⟨k,0,none⟩=some (.pointer (some ⟨o,0,none⟩))) (u:w.cell? ⟨o,2,none⟩=some (.slice r i s)) (F:n<=1000000000):
 Calls prog 266 #[.slice A n c,.func (.func 206) #[] #[.pointer (some ⟨k,0,none⟩)]] w fun e w' =>e= .returned (.int .i64 (-1))/\w' =w:=by
 have hlen:l.length=n:=by have h:=q.1;unfold ints at h;rw [zK]at h;omega
 have d:=zA hlen;have y:=zA q;have z:=zA a;have v:=zA (fun x (a:0<=x/\x<(i:Int))=>KO x k o r i s w a t u);clear q a hlen t u;go_enter func266,ntmps266;go_wp2
 go_loopg [8] n (fun gk C wr=>∃j:Nat,j<=n/\gk=n - j/\C= .int .i64 j/\wr=w)
 case atStart=>exact⟨0,zJ _,rfl,rfl,rfl⟩
 case round=>
  obtain⟨j,E,rfl,rfl,rfl⟩:=hrel
  by_cases p:j<n
  ·obtain⟨b,off,rfl,D,f⟩:=y.o.2 (by omega);obtain⟨x,a⟩:∃x,l[j]? =some x:=⟨_,zB (by rw [d.o];exact p)⟩;have B:wr.cell? ⟨b,off+j,none⟩=some (.int .i64 x):=f j _ (by unfold ints;rw [zH,a];rfl);have g:=z.o x (zD a);have m:=zA (v.o x g);clear f a g;go_wp2_with (refine m.o.mono ?_;rintro e G ⟨rfl,rfl⟩)
   go_roundg (n - (j+1))
   ·exact⟨j+1,by omega,rfl,by go_num,rfl⟩
   ·omega
  ·obtain rfl:j=n:=by omega
   go_wp2;go_ret
   exact⟨rfl,rfl⟩
theorem FN (A:aA) (n c:Nat) (l:aD) (w:O) (i:RI w A n l) (a b:Nat) (f:aA) (d g:Nat) (m:∀x∈l,0<=x/\x<d) (h:w.cell? ⟨a,0,none⟩=some (.pointer (some ⟨b,0,none⟩))) (k:w.cell? ⟨b,2,none⟩=some (.slice f d g)) (j:n<=1000000000):
 Calls prog 205 #[.slice A n c,.func (.func 206) #[] #[.pointer (some ⟨a,0,none⟩)]] w fun e w' =>e= .returned (.bool false)/\w' =w:=by
 have H:=zA (JL A n c l w i a b f d g m h k j);go_enter func205,ntmps205;go_wp2_with (refine H.o.mono ?_;rintro e o ⟨rfl,rfl⟩);go_ret
 exact⟨rfl,rfl⟩
end Go.Proofs.YtjbhbfaeielbiaaGreatDoor

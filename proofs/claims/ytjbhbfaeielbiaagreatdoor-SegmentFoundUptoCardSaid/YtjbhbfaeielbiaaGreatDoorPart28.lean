import Derived.Test.YtjbhbfaeielbiaaGreatDoorPart25
set_option maxRecDepth 100000
set_option maxHeartbeats 8000000
set_option linter.unusedVariables false
set_option linter.unusedSimpArgs false
namespace Go.Proofs.YtjbhbfaeielbiaaGreatDoor
open Go.Proofs.Tryz
open Go.RowKit Go.Shelf
def pdig (x:Nat):Bool:=decide (x<48)||decide (57<x)
def OC (s:aB) (a b:Int):Bool:=decide (a<=s.size) && decide ((s.size:Int)<=b) && decide (Lib.idxFunc pdig true s<0)
theorem uT (x:Nat) (w:O):Calls prog 229 #[.int .i32 (x:Int)] w fun e w' =>e= .returned (.bool (pdig x))/\Below w.heap.size w w' :=by
 have a:=zE w.heap.size w
 by_cases h:x<48
 ·have b:(x:Int)<48:=(by omega);go_enter func229,ntmps229;go_wp2;go_ret
  exact⟨yl (by simp [pdig,h]),a⟩
 ·have b:¬(x:Int)<48:=(by omega);go_enter func229,ntmps229;go_wp2;go_ret
  refine⟨yl ?_,a⟩;simp only [pdig,h,decide_false,Bool.false_or];exact decide_eq_decide.2 (by omega)
theorem jZ (s:aB) (a b:Int) (w:O) (i:s.size<=1000000000):
 Calls prog 173 #[.string s,.int .i64 a,.int .i64 b] w fun e w' =>e= .returned (.bool (OC s a b))/\Below w.heap.size w w' :=by
 have f:=zA (Tryz.strings_IndexFunc_grows 229 #[] (enters_of func229 (by kernel_rfl) rfl) pdig s w fun W x _ _=>uT x W);have d:=zE w.heap.size w
 by_cases g:a<=s.size
 ·by_cases h:(s.size:Int)<=b
  ·go_enter func173,ntmps173;go_wp2_with (go_at_call 228;refine f.o.mono ?_;rintro e w' ⟨rfl,c⟩);go_ret
   exact⟨yl (by simp [OC,g,h]),c⟩
  ·go_enter func173,ntmps173;go_wp2;go_ret
   exact⟨yl (by simp [OC];omega),d⟩
 ·go_enter func173,ntmps173;go_wp2;go_ret
  exact⟨yl (by simp [OC];omega),d⟩
structure DecP where
 neg:Bool
 wh:aB
 pt:aB
 point:Bool
def ZY (s:aB):DecP:=
 let size:=(⟨(Lib.trimPrefix s.data.toList [45]).toArray⟩:aB)
 ⟨Lib.hasPrefix s.data.toList [45],⟨(Lib.cut size.data.toList [46]).1.toArray⟩,⟨(Lib.cut size.data.toList [46]).2.1.toArray⟩,(Lib.cut size.data.toList [46]).2.2⟩
def DecP.ok (p:DecP) (a:Nat):Bool:=OC p.wh 1 19 && !(decide (1<p.wh.size) && decide ((p.wh.get! 0).toNat=48)) && (!p.point||OC p.pt 1 a)
def DecP.all (p:DecP) (a:Nat):aB:=
 let r:=p.wh++p.pt++⟨(Lib.repeatL [48] (a - p.pt.size)).toArray⟩
 if p.neg then⟨#[45]⟩++r else r
def decN (s:aB) (a:Nat):Int:=if (ZY s).ok a then(match Lib.parseIntB 64 ((ZY s).all a).data.toList with| .ok v=>v|_=>0)else 0
def Qz (s:aB) (a:Nat):Bool:=(ZY s).ok a && (match Lib.parseIntB 64 ((ZY s).all a).data.toList with| .ok _=>true|_=>false)
theorem IW {l:aC} {v:Int} (h:Lib.parseIntB 64 l= .ok v):In64 v:=by
 unfold Lib.parseIntB at h;cases l with
 |nil=>cases h
 |cons c r=>
  simp only at h
  split at h
  ·cases h
  ·cases h
  ·split at h
   ·cases h
   ·split at h
    ·cases h
    ·rename_i u _ a b;cases h;unfold In64
     split<;>simp_all<;>omega
theorem pI (s:aB) (a:Nat):In64 (decN s a):=by
 unfold decN
 split
 ·split
  ·rename_i h;exact IW h
  ·exact⟨by omega,by omega⟩
 ·exact⟨by omega,by omega⟩
structure Vs (w:O):Prop where
 tabs:Tabs w
 maxLen:∃m,w.cell? ⟨0,0,none⟩=some (.int .i64 m)/\0<w.heap.size
 esyn:∃t p,w.cell? ⟨1,0,none⟩=some (.iface t p)/\1<w.heap.size
 erng:∃t p,w.cell? ⟨2,0,none⟩=some (.iface t p)/\2<w.heap.size
theorem Vs.on {w w' :O} (h:Vs w) (b:Below w.heap.size w w'):Vs w' where
 tabs:=h.tabs.on b
 maxLen:=by obtain⟨m,c,a⟩:=h.maxLen;exact⟨m,(b.cell a).trans c,zX a b.size⟩
 esyn:=by obtain⟨t,p,c,a⟩:=h.esyn;exact⟨t,p,(b.cell a).trans c,zX a b.size⟩
 erng:=by obtain⟨t,p,c,a⟩:=h.erng;exact⟨t,p,(b.cell a).trans c,zX a b.size⟩
theorem DP (s:aB) (w:O) (c:Vs w) (f:s.size<=1000000000):
 Calls prog 175 #[.string s,.int .i64 10,.int .i64 64] w fun e w' =>(match Lib.parseIntB 64 s.data.toList with
  | .ok v=>e= .returned (.tuple #[.int .i64 v,.nilIface])
  |_=>∃v t p,e= .returned (.tuple #[.int .i64 v,.iface t p]))/\Below w.heap.size w w' :=by
 rcases h:Lib.parseIntB 64 s.data.toList with v| - | -
 ·refine(Tryz.strconv_ParseInt_10_at64_ok s (by omega) v h w).mono ?_;rintro e w' ⟨rfl,rfl|⟨t,rfl⟩⟩
  ·exact⟨rfl,zE _ _⟩
  ·exact⟨rfl,QX _ _ _⟩
 ·obtain⟨t,p,a,d⟩:=c.esyn
  refine(show Calls prog 175 #[.string s,.int .i64 10,.int .i64 64] w fun e w' =>∃N,e= .returned (.tuple #[.int .i64 (0),.iface 409 (.pointer (some ⟨N,0,none⟩))])/\w.heap.size<=N/\w'.heap[N]? =some (.cells #[.string ⟨#[80,97,114,115,101,73,110,116]⟩,.string s,.iface t p] 448 (0,0))/\Below w.heap.size w w' from Any.strconv_ParseInt_10_at64_syntax Tryz.laysC174 s (by omega) h (.iface t p) w a (.inr ⟨t,p,rfl⟩)).mono ?_
  rintro e w' ⟨N,rfl,_,_,b⟩;exact⟨⟨_,_,_,rfl⟩,b⟩
 ·obtain⟨t,p,a,d⟩:=c.erng;refine(Tryz.strconv_ParseInt_10_at64_range s (by omega) h (.iface t p) w a (.inr ⟨t,p,rfl⟩)).mono ?_;rintro e w' ⟨N,rfl,_,_,b⟩;exact⟨⟨_,_,_,rfl⟩,b⟩
theorem J2 (l a:aC):(Lib.cut l a).1.length<=l.length/\(Lib.cut l a).2.1.length<=l.length/\((Lib.cut l a).2.2=false->(Lib.cut l a).2.1= []):=by
 unfold Lib.cut
 split
 ·exact⟨by simp;omega,by simp,by simp⟩
 ·exact⟨zC _,by simp,by simp⟩
theorem nY {s:aB} {a b:Nat} (h:OC s a b=true):a<=s.size/\s.size<=b:=by
 simp only [OC,zM,decide_eq_true_eq]at h;omega
theorem uV (s:aB) (d:Nat) (w:O) (hV:Vs w) (hs:s.size<=100000000) (h4:d<=9):
 Calls prog 95 #[.string s,.int .i64 (d:Int)] w fun e w' =>∃M,e= .returned (.tuple #[.int .i64 (decN s d),.int .i64 M])/\(M=0↔Qz s d=true)/\Below w.heap.size w w' :=by
 have z:=Tryz.strings_CutPrefix s ⟨#[45]⟩ w;have D:(ZY s).neg=Lib.hasPrefix s.data.toList (⟨#[45]⟩:aB).data.toList:=rfl;obtain⟨q,G⟩:∃q:aB,⟨(Lib.trimPrefix s.data.toList (⟨#[45]⟩:aB).data.toList).toArray⟩=q:=⟨_,rfl⟩
 have hx:q.size<=s.size:=by
  rw [<-G,Lib.size_eq,Lib.size_eq];simp only [List.toList_toArray];unfold Lib.trimPrefix
  split<;>simp
 obtain⟨m,ha,hi⟩:=hV.maxLen;have K:=Tryz.strings_Cut q ⟨#[46]⟩ m w (by omega) ha;have C:=J2 q.data.toList (⟨#[46]⟩:aB).data.toList
 have hD:ZY s=⟨Lib.hasPrefix s.data.toList (⟨#[45]⟩:aB).data.toList,⟨(Lib.cut q.data.toList (⟨#[46]⟩:aB).data.toList).1.toArray⟩,⟨(Lib.cut q.data.toList (⟨#[46]⟩:aB).data.toList).2.1.toArray⟩,(Lib.cut q.data.toList (⟨#[46]⟩:aB).data.toList).2.2⟩:=by rw [<-G];rfl
 rw [G]at z;clear D G;obtain⟨ng,hd⟩:=eX (Lib.hasPrefix s.data.toList (⟨#[45]⟩:aB).data.toList);obtain⟨k,Q⟩:∃b:aB,⟨(Lib.cut q.data.toList (⟨#[46]⟩:aB).data.toList).1.toArray⟩=b:=⟨_,rfl⟩;obtain⟨y,E⟩:∃b:aB,⟨(Lib.cut q.data.toList (⟨#[46]⟩:aB).data.toList).2.1.toArray⟩=b:=⟨_,rfl⟩;obtain⟨po,P⟩:=eX ((Lib.cut q.data.toList (⟨#[46]⟩:aB).data.toList).2.2)
 have h7:k.size<=q.size:=by rw [<-Q,Lib.size_eq,Lib.size_eq];simpa using C.1
 have h3:y.size<=q.size:=by rw [<-E,Lib.size_eq,Lib.size_eq];simpa using C.2.1
 have D:po=false->y.size=0:=fun h=>by rw [<-E,Lib.size_eq];simpa using C.2.2 (P.trans h)
 rw [hd]at z hD;rw [Q,E,P]at K hD;have HP:=zA (z.mono fun _ w' h=>(⟨h.1,h.2.symm⟩:_/\w=w'));have HC:=zA K;have HV:=zA hV;have U:=zA hD;have X:Hid (∀W,Below w.heap.size w W->Calls prog 173 #[.string k,.int .i64 1,.int .i64 19] W fun e w' =>e= .returned (.bool (OC k 1 19))/\Below w.heap.size w w'):=fun W A=>(jZ k 1 19 W (by omega)).mono fun _ _ h=>⟨h.1,A.trans (h.2.mono A.size)⟩
 have HT:Hid (∀W,Below w.heap.size w W->Calls prog 173 #[.string y,.int .i64 1,.int .i64 (d:Int)] W fun e w' =>e= .returned (.bool (OC y 1 d))/\Below w.heap.size w w'):=fun W A=>(jZ y 1 d W (by omega)).mono fun _ _ h=>⟨h.1,A.trans (h.2.mono A.size)⟩;clear z K hD C hd Q E P hV ha hi;have ht:¬(d:Int)<0:=by omega
 have hu:¬(9:Int)<(d:Int):=by omega
 have J:Hid (∀(M:Int) (w' :O),(ZY s).ok d=false->M≠0->Below w.heap.size w w' ->∃Y,Ending.returned (.tuple #[.int .i64 0,.int .i64 M])= .returned (.tuple #[.int .i64 (decN s d),.int .i64 Y])/\(Y =0↔Qz s d=true)/\Below w.heap.size w w'):=fun M w' h h0 hb=>⟨M,by simp [decN,h],by simp [Qz,h];exact h0,hb⟩;obtain⟨d1,i⟩:=eX (OC k 1 19);obtain⟨d2,j⟩:=eX (OC y 1 d);rw [i]at X
 rw [j]at HT;cases d1 with
 |false=>
  have u:Hid ((ZY s).ok d=false):=(by show _=_;rw [U.o];simp [DecP.ok,i]);clear i j;go_enter func95,ntmps95
  go_wp2_with (first
   |(go_at_call 171;refine HP.o.mono ?_;rintro e w' ⟨rfl,rfl⟩)
   |(go_at_call 172;refine HC.o.mono ?_;rintro e w' ⟨rfl,n,rfl⟩;have l:=zA (zd (zE w.heap.size w) n))
   |(go_at_call 173;with_reducible refine(X.o _ l.o).mono ?_;rintro e w' ⟨rfl,g⟩))
  go_ret2;exact J.o _ _ u.o (by decide) g
 |true=>
  have h6:=(nY (a:=1) (b:=19) i).1;have h5:(0:Int)<(k.size:Int):=(by omega);obtain⟨c,S⟩:=eX ((k.get! 0).toNat);have h2:(k[0]'(by omega)).toNat=c:=by rw [qE k 0 (by omega)];exact S
  by_cases T:1<k.size/\c=48
  ·have u:Hid ((ZY s).ok d=false):=(by show _=_;rw [U.o];simp [DecP.ok,T.1,S,T.2]);have h8:(1:Int)<(k.size:Int):=(by omega);have hk:=T.2;subst hk;clear i j S T;go_enter func95,ntmps95
   go_wp2_with (first
    |(go_at_call 171;refine HP.o.mono ?_;rintro e w' ⟨rfl,rfl⟩)
    |(go_at_call 172;refine HC.o.mono ?_;rintro e w' ⟨rfl,n,rfl⟩;have l:=zA (zd (zE w.heap.size w) n))
    |(go_at_call 173;with_reducible refine(X.o _ l.o).mono ?_;rintro e w' ⟨rfl,g⟩))
   go_ret2;exact J.o _ _ u.o (by decide) g
  ·have f:(po=true/\d2=false)\/(po=false\/po=true/\d2=true):=by cases po<;>cases d2<;>simp
   have o:(k.size:Int)<=1\/((1:Int)<(k.size:Int)/\¬(c:Int)=48):=(by omega);have x:(decide (1<k.size) && decide ((k.get! 0).toNat=48))=false:=(by rw [S];simp only [Bool.and_eq_false_iff,decide_eq_false_iff_not];omega);rcases f with⟨rfl,rfl⟩|f
   ·have u:Hid ((ZY s).ok d=false):=(by show _=_;rw [U.o];simp [DecP.ok,j]);clear i j S T x;rcases o with o|⟨o,hl⟩
    all_goals
     go_enter func95,ntmps95
     go_wp2_with (first
      |(go_at_call 171;refine HP.o.mono ?_;rintro e w' ⟨rfl,rfl⟩)
      |(go_at_call 172;refine HC.o.mono ?_;rintro e w' ⟨rfl,n,rfl⟩;have l:=zA (zd (zE w.heap.size w) n))
      |(go_at_call 173;with_reducible refine(X.o _ l.o).mono ?_;rintro e w' ⟨rfl,g⟩)
      |(go_at_call 173;with_reducible refine(HT.o _ g).mono ?_;rintro e w' ⟨rfl,N⟩))
     go_ret2;exact J.o _ _ u.o (by decide) N
   ·have he:y.size<=d:=by
     rcases f with h|⟨_,h⟩
     ·have:=D h;omega
     ·exact(nY (a:=1) (b:=d) (j.trans h)).2
    have hf:Hid ((ZY s).ok d=true):=by
     show _=_;rw [U.o];simp only [DecP.ok,i,x,Bool.not_false,Bool.and_true,Bool.true_and];rcases f with rfl|⟨rfl,rfl⟩
     ·rfl
     ·simpa using j
    obtain⟨r,hr⟩:=eX (d - y.size);have hv:(d:Int) - (y.size:Int)=(r:Int):=(by omega);obtain⟨rp,F⟩:∃b:aB,⟨(Lib.repeatL (⟨#[48]⟩:aB).data.toList r).toArray⟩=b:=⟨_,rfl⟩;have hj:rp.size=r:=(by rw [<-F,Lib.size_eq,List.toList_toArray,Lib.repeatL_length];simp)
    have HR:Hid (∀W,Calls prog 174 #[.string ⟨#[48]⟩,.int .i64 (r:Int)] W fun e w' =>e= .returned (.string rp)/\Below W.heap.size W w'):=fun W=>by
     have:=Tryz.strings_Repeat ⟨#[48]⟩ r W (by omega) (by simp [ByteArray.size];omega);rw [F]at this;exact this
    obtain⟨R,Z⟩:=eX (k++y++rp);have hm:R.size<=250000000:=(by rw [<-Z];simp;omega);obtain⟨L,B⟩:=eX ((if ng then(⟨#[45]⟩:aB)++R else R));have I:(ZY s).all d=L:=(by rw [U.o,<-B,<-Z,<-F,<-hr];rfl)
    have hp:L.size<=250000001:=by
     rw [<-B]
     split
     ·rw [ByteArray.size_append];show 1+R.size<=_;omega
     ·omega
    have HA:Hid (∀W,Below w.heap.size w W->Calls prog 175 #[.string L,.int .i64 10,.int .i64 64] W fun e w' =>((∃v,e= .returned (.tuple #[.int .i64 v,.nilIface])/\decN s d=v/\Qz s d=true)\/∃v t p,e= .returned (.tuple #[.int .i64 v,.iface t p])/\decN s d=0/\Qz s d=false)/\Below w.heap.size w w'):=fun W A=>
     (DP L W (HV.o.on A) (by omega)).mono fun e w' h=>by
      refine⟨?_,A.trans (h.2.mono A.size)⟩;have H:=h.1;unfold decN Qz;rw [hf.o,I];rcases hq:Lib.parseIntB 64 L.data.toList with v| - | - <;>rw [hq]at H
      ·exact .inl ⟨v,H,by simp,by simp⟩
      ·obtain⟨v,t,p,H⟩:=H;exact .inr ⟨v,t,p,H,by simp,by simp⟩
      ·obtain⟨v,t,p,H⟩:=H;exact .inr ⟨v,t,p,H,by simp,by simp⟩
    have hw:¬9223372036854775807<k.size+y.size+rp.size:=(by omega);clear i j S T x hr F I hj D;have hy:=zA he;clear he;rcases o with o|⟨o,hl⟩<;>rcases f with rfl|⟨rfl,rfl⟩<;>cases ng
    all_goals
     first
      |obtain rfl:(⟨#[45]⟩:aB)++R=L:=B
      |obtain rfl:R=L:=B
     go_enter func95,ntmps95
     go_wp2_with (first
      |(go_at_call 171;refine HP.o.mono ?_;rintro e w' ⟨rfl,rfl⟩)
      |(go_at_call 172;refine HC.o.mono ?_;rintro e w' ⟨rfl,n,rfl⟩;have l:=zA (zd (zE w.heap.size w) n))
      |(go_at_call 173;with_reducible refine(X.o _ l.o).mono ?_;rintro e w' ⟨rfl,g⟩)
      |(go_at_call 173;with_reducible refine(HT.o _ g).mono ?_;rintro e w' ⟨rfl,g⟩)
      |(go_at_call 174;with_reducible refine(HR.o _).mono ?_;rintro e w' ⟨rfl,N⟩;have hg:=Below.trans g (N.mono g.size))
      |(go_at_call 175;with_reducible refine(HA.o _ hg).mono ?_;rintro e w' ⟨⟨v,rfl,hn,ho⟩|⟨v,t,p,rfl,hn,ho⟩,hh⟩))
     all_goals
      go_ret2;rw [hn,ho];exact⟨_,rfl,by simp,hh⟩
end Go.Proofs.YtjbhbfaeielbiaaGreatDoor

import Derived.Test.YtjbhbfaeielbiaaGreatDoorPart15
import Derived.Test.YtjbhbfaeielbiaaGreatDoorPart16
import Derived.Lib.AppendZerosOnto
import Derived.Lib.SlBytesConst
set_option maxRecDepth 100000
set_option maxHeartbeats 8000000
set_option linter.unusedVariables false
set_option linter.unusedSimpArgs false
namespace Go.Proofs.YtjbhbfaeielbiaaGreatDoor
open Tryz
open Go.RowKit
def Qy (b:aC):Option UInt8:=if b.take 3= [76,84,1]then b[3]? else none
theorem nJ (A:aA) (nb c:Nat) (b:aC) (w:O) (v:nb<=c) (r:c<=9223372036854775807) (f:RB w A nb b):
 Calls prog 126 #[.slice A nb c] w fun e w' =>(match Qy b with|some k=>e= .returned (.tuple #[.int .u8 (k.toNat:Int),.bool true])|none=>e= .returned (.tuple #[.int .u8 0,.bool false]))/\w=w' :=by
 have hlen:=f.len
 by_cases l:nb<4
 ·have a:Qy b=none:=(by unfold Qy;rw [zh (by omega)];simp);rw [a];have m :(nb:Int)<4:=(by omega);clear f hlen l a;go_enter func126,ntmps126;go_wp2;go_ret2;exact⟨rfl,rfl⟩
 ·have o:=(f.take (x:=3) (by omega)).text (c:=c);obtain⟨S,i⟩:∃S:aB,(⟨(b.take 3).toArray⟩:aB)=S:=⟨_,rfl⟩;rw [i]at o;obtain⟨g,off,u,rfl,y,n,j⟩:=f.at_ (k:=3) (by omega)
  have m :(4:Int)<=nb:=(by omega);have q:(3:Int)<=c:=by omega
  by_cases d:b.take 3= [76,84,1]
  ·have a:Qy b=some u:=(by unfold Qy;rw [if_pos d];exact j.o);have t:S=⟨#[76,84,1]⟩:=(by rw [<-i,d]);subst t;rw [a];clear f hlen l j d a i;go_enter func126,ntmps126;go_wp2;go_ret2;exact⟨rfl,rfl⟩
  ·have a:Qy b=none:=(by unfold Qy;rw [if_neg d]);rw [a]
   have p:S≠⟨#[76,84,1]⟩:=by
    intro h;rw [<-i]at h
    injection h with h
    exact d (by simpa using congrArg Array.toList h)
   have s:(S.toList== [76,84,1])=false:=by
    simp only [beq_eq_false_iff_ne,ne_eq,ByteArray.toList_eq];intro h;exact p (by cases S;congr 1;exact Array.toList_inj.1 h)
   clear f hlen l j a i p d;go_enter func126,ntmps126;go_wp2;go_ret2;exact⟨rfl,rfl⟩
theorem JP (n:Nat) (w:O) (s:n<=100000000000000):
 Calls prog 225 #[.slice none 0 0,.int .i64 (n:Int)] w fun e w' =>∃A c,e= .returned (.slice A 0 c)/\Sp w' [BA A 0 c [],OldA w.heap.size w]:=by
 by_cases m:n=0
 ·have g :(n:Int)<=0:=(by omega);clear m;go_enter func225,ntmps225;go_wp2;go_ret
  exact⟨none,0,rfl,(Sp.start w).nil _ _⟩
 ·obtain⟨i,z,o,p,r,l,f⟩:=yW.info
  have a:∀ty,(Builtin.append_ #[65,3] ty #[.slice none 0 0,.int .i64 (n:Int)]).run prog w= .ok (.slice (some ⟨w.heap.size,0,none⟩) (0+n) (grownCap w (0+n) 0 5)) (w.drew.alloc (.cells (([]:aF).toArray++Builtin.zeroCells z.cells n++Builtin.zeroCells z.cells (grownCap w (0+n) 0 5 - (0+n))) 5)):=fun ty=>
   Lib.run_append_grow_zeros w 65 3 ty 5 i z .i64 .i64 underlying65 underlying3 o p none 0 0 [] (run_firstCells_none w.drew _ 0 0 0) n (by omega) (by omega) (by omega) (by omega) (by rw [l];omega) (by rw [l,yr,nextslicecap_zero (by omega)];omega)
  have d:=grownCap_ge w (0+n) 0 5;have b:=grownCap_le_maxLen w (0+n) 0 5 (by unfold maxLen;omega);obtain⟨G,k⟩:=eX (grownCap w (0+n) 0 5);simp only [zx]at a d b k;rw [k]at a d b;unfold maxLen at b;obtain⟨C,h⟩:=eX (([]:aF).toArray++Builtin.zeroCells z.cells n++Builtin.zeroCells z.cells (G - n));have j:Hid (C.size=G):=(by show _=_;rw [<-h];simp [size_zeroCells,f];omega)
  rw [h]at a;have g :(0:Int)<n:=(by omega);have q :(0:Int)<=G:=(by omega);clear o p r l k h m f;go_enter func225,ntmps225;go_wp2_with (at_builtin;refine Lib.wpList_append_run _ rfl _ _ _ _ rfl _ _ rfl rfl _ _ (a _) ?_);go_ret
  exact⟨_,_,rfl,(Sp.start w).row (v:= .slice (some ⟨w.heap.size,0,none⟩) 0 G) (n:=0) (xs:= []) ⟨rfl,.inr ⟨w.heap.size,G,C,rfl,zC _,heap_alloc_new w.drew _,zJ _,by unfold maxLen;omega,by have:=j.o;omega,rfl⟩⟩ ((zE _ _).drew.alloc (zC _) _)⟩
theorem Yz {ls:List aC} {k:Nat}:(ls.take k).flatten.length<=ls.flatten.length:=by
 conv=>rhs;rw [<-zu k ls,yf,zG]
 omega
theorem j3 (A:aA) (n c:Nat) (ls:List aC) (w:O) (S:n<=100000000000000) (F:OY w A n ls) (J:ls.flatten.length<=100000000000000):
 Calls prog 169 #[.slice A n c] w fun e w' =>∃A' m y,e= .returned (.slice A' m y)/\Sp w' [BA A' m y ls.flatten,OldA w.heap.size w]:=by
 have a:=zA F.1;have I:=zA F;have E:=zA J;clear F J;go_enter func169,ntmps169;go_wp2
 go_loop [3,11] (fun s i=>∃k:Nat,k<=n/\i= .int .i64 k/\s= .int .i64 ((ls.take k).flatten.length:Nat)) (fun _ i=>n - (intOf i).toNat)
 case atStart=>exact⟨0,zJ _,rfl,rfl⟩
 case round=>
  obtain⟨k,R,rfl,rfl⟩:=hrel;obtain⟨m,t⟩:=eX ((ls.take k).flatten.length);have u:m<=100000000000000:=(by rw [<-t];exact zY Yz E.o);rw [t]
  by_cases G:k<n
  ·obtain⟨l,d⟩:∃l,ls[k]? =some l:=⟨_,zB (by have:=a.o;omega)⟩;obtain⟨b,off,A',y,rfl,M,g,_,_⟩:=I.o.2 k l d;have o:((ls.take (k+1)).flatten).length=m+l.length:=(by rw [QW d,zG,t]);have H:m+l.length<=100000000000000:=(by rw [<-o];exact zY Yz E.o);have C:=zA o;clear o t d;go_wp2
   go_round
   case rel=>exact⟨k+1,by omega,by go_num,by rw [C.o];go_num⟩
   case measure=>simp [intOf];omega
  ·obtain rfl:k=n:=by omega
   have L:=zA (JP m w u);clear t;go_wp2_with fail;refine L.o.mono ?_;rintro e T ⟨p,q,rfl,f⟩;have N:=(f.rb (.head _)).2;go_wp2
   go_loopw [6,27] (fun v i wr=>∃(j:Nat) (p:aA) (m q:Nat),j<=k/\i= .int .i64 j/\v= .slice p m q/\Sp wr [BA p m q (ls.take j).flatten,OldA w.heap.size w]) (fun _ i _=>k - (intOf i).toNat)
   case atStart=>exact⟨0,p,0,q,zJ _,rfl,rfl,f⟩
   case round=>
    obtain⟨j,p,m,q,Q,rfl,rfl,f⟩:=hrel
    by_cases G:j<k
    ·obtain⟨l,d⟩:∃l,ls[j]? =some l:=⟨_,zB (by have:=a.o;omega)⟩;obtain⟨b,off,A',y,rfl,M,g,x,_⟩:=(I.o.on (f.below (.tail _ (.head _)))).2 j l d;have hlen:=(f.rb (.head _)).1.len;have H:m+l.length<=100000000000000:=(by rw [<-hlen,<-zG,<-QW d];exact zY Yz E.o);have B:=zA (QW d);have D:=zA x;clear x hlen d
     go_wp2_with (at_builtin;refine yR yW (.tmp 31) (.tmp 32) rfl rfl f rfl rfl D.o.reads (xd l) (by omega) (by omega) ?_;intro K c2 U P u z)
     go_roundw
     case rel=>exact⟨j+1,K,m+l.length,c2,by omega,by go_num,rfl,by have h:=z;rw [<-y9]at h;rw [B.o];exact h⟩
     case measure=>simp [intOf];omega
    ·obtain rfl:j=k:=by omega
     have r:Hid (ls.take j=ls):=zF (by have:=a.o;omega);go_wp2;go_ret
     exact⟨p,m,q,rfl,by rw [<-r.o];exact f⟩
theorem sK (w:O) (cs:aG) (t:TypeId) (k:Nat×Nat) (n size:Nat) (a:cs.size=n*size):xA (w.alloc (.cells cs t k)) (w.heap.size+1) size (some ⟨w.heap.size,0,none⟩) n cs.toList:=
 ⟨by simpa using a,fun _=>⟨_,rfl,by simp,fun j u b=>by
  rw [Yl,cell_of_row _ _ j cs t k (heap_alloc_new w _)]
  simpa using b⟩⟩
theorem eW {w:O} {A:aA} {n:Nat} (c:Nat) {l:aC} (t:TypeId) (b:RB w A n l) (f:n<=9223372036854775807) {H:Nat} (e:w.heap.size=H):OY (w.alloc (.cells #[.slice A n c] t)) (some ⟨H,0,none⟩) 1 [l]:=by
 subst e;have hlen:=b.len;subst hlen;refine⟨rfl,fun k g a=> ?_⟩;have d:k=0:=by have:=zN a;simpa using this
 subst d;simp at a;subst a;exact⟨w.heap.size,0,A,c,rfl,by simp,(Blk.new w t _).cell 0,b.on ((zE _ _).alloc (zC _) _),f⟩
theorem eT (l:aC):sumL l<4294967296:=by unfold sumL;omega
def Yp (kind:UInt8) (ls:List aC) (w:O) (e:Ending) (w' :O):Prop:=
 if xR kind ls=true then ∃A' m,e= .returned (.tuple #[.slice A' m m,.int .i64 0])/\Sp w' [BA A' m m (ZQ kind ls),OldA w.heap.size w]
 else e= .returned (.tuple #[.slice none 0 0,.int .i64 3])/\Below w.heap.size w w'
theorem Yp.bad {kind:UInt8} {ls:List aC} {w w' :O} (h:xR kind ls=false) (a:Below w.heap.size w w'):Yp kind ls w (.returned (.tuple #[.slice none 0 0,.int .i64 3])) w' :=by
 unfold Yp;rw [if_neg (by simp [h])];exact⟨rfl,a⟩
theorem pD {kind:UInt8} {ls:List aC} (h:16777216<(WS kind ls).length+ls.flatten.length+4):xR kind ls=false:=by
 unfold xR xN;rw [zG];have:decide ((WS kind ls).length+ls.flatten.length+4<=16777216)=false:=by simp only [decide_eq_false_iff_not];omega
 rw [this,Bool.and_false]
def UH (kind:UInt8) (ls:List aC) (k:Nat):aC:= [76,84,1,kind]++(zP ls.length++(ls.take k).flatMap fun s=>zP s.length)
theorem AF {kind:UInt8} {ls:List aC} {k:Nat} {l:aC} (h:ls[k]? =some l):UH kind ls (k+1)=UH kind ls k++zP l.length:=by
 unfold UH;rw [zI,h];simp
theorem EQ (kind:UInt8) (ls:List aC):UH kind ls ls.length=WS kind ls:=by
 unfold UH WS;rw [List.take_length]
theorem IM (kind:UInt8) (A:aA) (n c:Nat) (ls:List aC) (w:O) (hn:n<=100000000000000) (hl:OY w A n ls) (hm:ls.flatten.length<=10000000000000):
 Calls prog 90 #[.int .u8 (kind.toNat:Int),.slice A n c] w fun e w' =>Yp kind ls w e w' :=by
 have d:=zA hl.1;have Hl:=zA hl;have Hm:=zA hm;clear hl hm
 by_cases a:1024<n
 ·have g:Hid (xR kind ls=false):=by
   show _=_;unfold xR;have:=d.o;simp;omega
  have f :(1024:Int)<n:=(by omega);clear a;go_enter func90,ntmps90;go_wp2;go_ret2;exact Yp.bad g.o (zE _ _)
 ·have hw :(n:Int)<=1024:=(by omega);obtain⟨N,hN⟩:∃N:Nat,N=3:=⟨_,rfl⟩;have E:=zA hN
  have hp:∀C:aG,(convert 65 65 (.slice (some ⟨w.heap.size,0,none⟩) 3 3)).run prog (w.alloc (.cells C 5))= .ok (.slice (some ⟨w.heap.size,0,none⟩) N N) (w.alloc (.cells C 5 (C.size,C.size+1))):=fun C=>by
   rw [hN];exact Lib.run_convert_bytes_const (P:=prog) w 65 5 C 3 3 underlying65 underlying5
  clear hN;clear a;go_enter func90,ntmps90
  go_wp2_with (at_builtin;refine rR yW (.tmp 14) (.tmp 16) rfl rfl (((Sp.start w).al _).al _) rfl (by have:=E.o;omega) ((sK w #[.int .u8 76,.int .u8 84,.int .u8 1] 5 (3,4) N 1 (by rw [E.o];rfl)).alloc (by simp) _) rfl (by omega) (Ye _ #[.int .u8 (kind.toNat:Int)] _ rfl (H:=w.heap.size+1) (by simp)) (by have:=E.o;omega) (by have:=E.o;omega) ?_;intro r c1 w1 hi hs j)
  obtain rfl:N=3:=E.o;have t:Sp w1 [BA r 4 c1 [76,84,1,kind],OldA w.heap.size w]:=j;clear j;refine(ZR t.tail (t.rb (.head _)).1 (by omega) (by omega)).mono ?_;rintro e w2 ⟨A2,m2,rfl,ht,j⟩
  have ha:Sp w2 [BA A2 m2 m2 (UH kind ls 0),OldA w.heap.size w]:=by
   have e:UH kind ls 0= [76,84,1,kind]++zP n:=(by unfold UH;rw [d.o];simp);rw [e];exact j
  clear j t;go_wp2
  go_loopw [6,7,24] (fun v s i wr=>∃(k:Nat) (r:aA) (m S:Nat),k<=n/\i= .int .i64 k/\v= .slice r m m/\s= .int .i64 (4+(S:Int))/\Hid ((ls.take k).flatten.length=S)/\S<=16777212/\m<=14+10*k/\Sp wr [BA r m m (UH kind ls k),OldA w.heap.size w]) (fun _ _ i _=>n - (intOf i).toNat)
  case atStart=>exact⟨0,A2,m2,0,zJ _,rfl,rfl,rfl,rfl,by omega,by omega,ha⟩
  case round=>
   obtain⟨k,r,m,S,hk,rfl,rfl,rfl,F,hS,hm,j⟩:=hrel
   by_cases hr:k<n
   ·obtain⟨l,hx⟩:∃l,ls[k]? =some l:=⟨_,zB (by have:=d.o;omega)⟩;obtain⟨b,off,A',c',rfl,hb,x,_,_⟩:=(Hl.o.on (j.below (.tail _ (.head _)))).2 k l hx;have K:=zA (AF (kind:=kind) hx);have Z:Hid ((ls.take (k+1)).flatten.length=S+l.length):=(by show _=_;rw [QW hx,zG,F.o]);have hL:S+l.length<=10000000000000:=(by rw [<-Z.o];exact zY Yz Hm.o);obtain⟨L,Q⟩:=eX (l.length)
    rw [Q]at hL x Z K;clear hx Q
    by_cases a:16777212<S+L
    ·have f :(16777216:Int)<4+(S:Int)+L:=(by omega);have g:Hid (xR kind ls=false):=pD (by have h1:=Yz (ls:=ls) (k:=k+1);have h2:=Z.o;omega);clear a;go_wp2_with (refine(ZR j.tail (j.rb (.head _)).1 (by omega) (by omega)).mono ?_;rintro e w3 ⟨Y,D,rfl,z,o⟩);go_ret2;exact Yp.bad g.o (o.below (.tail _ (.head _)))
    ·have f :4+(S:Int)+L<=16777216:=(by omega);go_wp2_with (refine(ZR j.tail (j.rb (.head _)).1 (by omega) (by omega)).mono ?_;rintro e w3 ⟨Y,D,rfl,z,o⟩)
     go_roundw
     case rel=>exact⟨k+1,Y,D,S+L,by omega,by go_num,rfl,by go_num,Z,by omega,by omega,by rw [K.o];exact o⟩
     case measure=>simp [intOf];omega
   ·obtain rfl:k=n:=by omega
    have p :Sp wr [BA r m m (WS kind ls),OldA w.heap.size w]:=(by rw [<-EQ,d.o];exact j);have q:Hid (ls.flatten.length=S):=(by show _=_;have:=F.o;rwa [zF (by have:=d.o;omega)]at this);have U:=(p.rb (.head _)).1.len
    by_cases a:16777212<m+S
    ·have f :(16777216:Int)<m+(4+(S:Int)):=(by omega);have g:Hid (xR kind ls=false):=pD (by have h2:=q.o;omega);clear a U;go_wp2;go_ret2;exact Yp.bad g.o (p.below (.tail _ (.head _)))
    ·have f :m+(4+(S:Int))<=16777216:=(by omega)
     have y:Hid (xR kind ls=true):=by
      show _=_;unfold xR xN;rw [zG];have h2:=q.o;have h3:=d.o;simp only [zM,decide_eq_true_eq];omega
     have he:=zA ((p.below (.tail _ (.head _))));have hf:=zA (Hl.o.on he.o);clear a U j;go_wp2_with fail;refine(j3 A k c ls wr hn hf.o (by have:=q.o;omega)).mono ?_;rintro e w3 ⟨Y,D,c3,rfl,o⟩;have u:Sp w3 [BA r m m (WS kind ls),BA Y D c3 ls.flatten,OldA w.heap.size w]:=(p.c1 o).p1;have B:=(u.rb (.tail _ (.head _))).1
     have z:D=S:=(by rw [<-B.len];exact q.o);subst z;have M:=zA B.reads;clear B o;go_wp2_with (at_builtin;refine yR yW (.tmp 45) (.tmp 47) rfl rfl u rfl rfl M.o (xd _) (by omega) (by omega) ?_;intro A5 c5 w5 hj hu G)
     have I:Sp w5 [BA A5 (m+D) c5 (xN kind ls),OldA w.heap.size w]:=by
      have h:=G.d1;rw [<-y9]at h;exact h
     have W:=(I.rb (.head _)).1;have hg:=zA W;clear W G u p M
     go_wp2_with (first
      |(go_at_call 128;refine(eS _ 1 1 [xN kind ls] _ (by omega) (eW _ _ hg.o (by omega) rfl)).mono ?_;rintro e w6 ⟨rfl,R⟩;have hc:=(I.al _).grow R;clear R)
      |(go_at_call 127;refine(eA _ _ (eT _)).mono ?_;rintro e w7 ⟨A7,rfl,X,T⟩;have J:Sp w7 [BA A7 4 4 (Za (sumL (xN kind ls))),BA A5 (m+D) c5 (xN kind ls),OldA w.heap.size w]:=hc.row X T;have hh:=zA (J.rb (.head _)).1.reads;clear X T)
      |(at_builtin;refine yR yW (.tmp 49) (.tmp 53) rfl rfl J.p1 rfl rfl hh.o (xd _) (by omega) (by omega) ?_;intro A9 c9 w9 ho hv hd)
      |(go_at_call 55;refine(Zt _ _ _ _ (by omega) (by omega)).mono ?_;rintro e w' ⟨rfl,rfl⟩))
     go_ret2;unfold Yp;rw [if_pos y.o];refine⟨A9,_,rfl,?_⟩;have h:=hd.d1.clip;rw [<-y9]at h;exact h
theorem lS (A:aA) (n c:Nat) (l:aC) (A' :aA) (n' a :Nat) (d :aC) (w:O) (h:RB w A n l) (b :RB w A' n' d):
 Calls prog 57 #[.slice A n c,.slice A' n' a] w fun e w' =>e= .returned (.bool (l==d))/\w=w' :=by
 have f:=RB.text (c:=c) h;have g:=RB.text (c:=a) b;clear h b;go_enter func57,ntmps57;go_wp2;go_ret
 exact⟨rfl,rfl⟩
theorem sU {kind:UInt8} {b:aC} (h:ZN kind b=true):Qy b=some kind:=by
 unfold ZN at h;simp only [zM,decide_eq_true_eq]at h;obtain⟨⟨c,a⟩,d⟩:=h;unfold Qy;rw [if_pos (by have:=congrArg (List.take 3) a;rw [List.take_take]at this;exact this)];have:=congrArg (fun l=>l[3]?) a;simp only [yy]at this;exact this
end Go.Proofs.YtjbhbfaeielbiaaGreatDoor

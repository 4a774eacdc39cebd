import Derived.Test.YtjbhbfaeielbiaaGreatDoorPart42
set_option maxRecDepth 100000
set_option maxHeartbeats 8000000
set_option linter.unusedVariables false
set_option linter.unusedSimpArgs false
namespace Go.Proofs.YtjbhbfaeielbiaaGreatDoor
open Go.Proofs.Tryz
open Rep (rep)
open Go.RowKit
attribute [local go_sem ↓] zU zV
section
variable {w:O} {L:List Asn} {g n c I:Nat} {iv:Int} {v:V} {xs ys:List yZ} {css:List aF}
theorem pJ (h:Sp w L) (f:XH v xs css ys∈L):∀c∈css,c.length=3:=by
 obtain⟨S,i,b⟩:=h.get f;intro c e;obtain⟨k,d⟩:=z8 e;have a:k<ys.length:=by have:=zN d;have:=b.1.1;omega
 exact Rep.len (b.1.2 k c ys[k] d (zB a))
theorem U4 {A:aA} (h:Sp w L) (i:RowA 59 3 (.slice (some ⟨g,0,none⟩) n c) n css.flatten∈L) (f:∀c∈css,c.length=3) {j:Nat} {a b d:V} (e:css[j]? =some [a,b,d]):
 w.cell? ⟨g,j*3,none⟩=some a/\w.cell? ⟨g,j*3+1,none⟩=some b/\w.cell? ⟨g,j*3+2,none⟩=some d:=
 ⟨by have:=h.rowCell i (j:=j*3+0) ((xX css j 0 _ f e (by omega)).trans rfl);simpa using this,h.rowCell i ((xX css j 1 _ f e (by omega)).trans rfl),h.rowCell i ((xX css j 2 _ f e (by omega)).trans rfl)⟩
theorem uP {A:aA} (z:Sp w (RowA 59 3 (.slice A n c) n css.flatten::XH v xs css ys::BlkA I 3 #[.int .i64 iv]::L)) (D:ys.length=n) (J:n<=64):
 Calls prog 114 #[.slice A n c,.func (.func 65) #[] #[.pointer (some ⟨I,0,none⟩)]] w fun e w' =>(∃r:Int,e= .returned (.int .i64 r)/\((r= -1/\∀x∈ys,x.1=iv)\/∃k:Nat,r=k/\k<n/\(∀(j:Nat) (x:yZ),j<k->ys[j]? =some x->x.1=iv)/\∃x,ys[k]? =some x/\x.1≠iv))/\Sp w' (RowA 59 3 (.slice A n c) n css.flatten::XH v xs css ys::BlkA I 3 #[.int .i64 iv]::L):=by
 have B:=zA D;have S:=enters_of func65 (by kernel_rfl) rfl;clear D;go_enter func114,ntmps114;go_wp2
 go_loopg [8] n (fun H N wr=>∃j:Nat,N= .int .i64 j/\j<=n/\H=n - j/\(∀(q:Nat) (x:yZ),q<j->ys[q]? =some x->x.1=iv)/\Sp wr (RowA 59 3 (.slice A n c) n css.flatten::XH v xs css ys::BlkA I 3 #[.int .i64 iv]::L))
 case atStart=>exact⟨0,rfl,zJ _,rfl,fun q x b=>by omega,z⟩
 case round=>
  obtain⟨j,rfl,T,rfl,m,a⟩:=hrel;have f:=zA m;clear z m
  by_cases l:j<n
  ·obtain⟨x,o⟩:∃x,ys[j]? =some x:=⟨_,zB (by rw [B.o];exact l)⟩;obtain⟨F,M,G,i⟩:=a.readCell M1 o;obtain⟨g,rfl, -, -⟩:=(a.rowOf M0).at_ (by omega)
   obtain⟨Q,R,c2⟩:=U4 (A:=none) a M0 (pJ a M1) i;have u:=zA (j9 x.1 iv I [] wr (a.cell M2 0) x.2.1 F M G);have C:=zA o;clear o i
   by_cases b:x.1=iv
   ·have t:(x.1 !=iv)=false:=(by simp [b]);have p:=zA b;clear b;go_wp2_with (go_at_call 65;refine u.o.mono ?_;rintro r P ⟨rfl,s⟩;have d:=a.grow s)
    go_roundg (n - (j+1))
    case measure=>omega
    case rel=>exact⟨j+1,by go_num,by omega,rfl,fun q y K E=>by
     rcases zk q j with h|h
     ·exact f.o q y h E
     ·obtain rfl:q=j:=by omega
      cases C.o.symm.trans E;exact p.o,d⟩
   ·have t:(x.1 !=iv)=true:=(by simp [b]);have p:=zA b;clear b;go_wp2_with (go_at_call 65;refine u.o.mono ?_;rintro r P ⟨rfl,s⟩;have d:=a.grow s);go_ret
    exact⟨⟨j,rfl,.inr ⟨j,rfl,l,f.o,x,C.o,p.o⟩⟩,d⟩
  ·obtain rfl:j=n:=by omega
   go_wp2;go_ret
   exact⟨⟨-1,rfl,.inl ⟨rfl,fun x o=>by
    obtain⟨q,b⟩:=z8 o;exact f.o q x (by have:=zN b;have:=B.o;omega) b⟩⟩,a⟩
def Xp (iv:Int) (css:List aF) (ys:List yZ):List (aF×yZ):=(css.zip ys).filter fun z=>decide (z.2.1=iv)
theorem EM {iv:Int} {css:List aF} {ys:List yZ} (h:css.length=ys.length):(Xp iv css ys).map (·.2)=ys.filter fun c=>decide (c.1=iv):=by
 unfold Xp;have e:ys=(css.zip ys).map (·.2):=by rw [List.map_snd_zip];omega
 conv=>rhs;rw [e,List.filter_map]
 rfl
theorem EN {iv:Int} {css:List aF} {ys:List yZ} {k:Nat} {cs:aF} {x:yZ} (a:((Xp iv css ys).map (·.1))[k]? =some cs) (b:((Xp iv css ys).map (·.2))[k]? =some x):∃j:Nat,css[j]? =some cs/\ys[j]? =some x:=by
 rw [zH]at a b;rcases hz:(Xp iv css ys)[k]? with _|z
 ·rw [hz]at a;cases a
 ·rw [hz]at a b;have e:=(List.mem_filter.1 (zD hz)).1;obtain⟨j,d⟩:=z8 e;rw [List.getElem?_zip_eq_some]at d;cases a;cases b;exact⟨j,d⟩
theorem VX {iv:Int} {css:List aF} {ys:List yZ} {j:Nat} {cs:aF} {x:yZ} (a:css[j]? =some cs) (b:ys[j]? =some x):Xp iv (css.take (j+1)) (ys.take (j+1))=Xp iv (css.take j) (ys.take j)++(if x.1=iv then [(cs,x)]else []):=by
 unfold Xp;rw [zI,zI,a,b,List.zip_append (by have:=zN a;have:=zN b;simp;omega),List.filter_append]
 congr 1
 by_cases h:x.1=iv<;>simp [h]
theorem EO {iv:Int} {css:List aF} {ys:List yZ} (h:css.length=ys.length) (a:∀x∈ys,x.1=iv):(Xp iv css ys).map (·.1)=css:=by
 unfold Xp;rw [List.filter_eq_self.2 fun z b=>by have:=a z.2 (List.of_mem_zip b).2;simpa using this,List.map_fst_zip];omega
theorem lP {css:List aF} {i:Nat} {a b d:V} (e f k :V) (q:∀c∈css,c.length=3) (h:css[i]? =some [a,b,d]):((css.flatten.set (i*3) e).set (i*3+1) f).set (i*3+2) k =(css.set i [e,f,k]).flatten:=by
 have p:=zN h
 have j:∀(X:aF),X.length=3->∀c∈css.set i X,c.length=3:=fun X r c s=>by
  rcases xe s with h|h
  ·exact q c h
  ·rw [h,r]
 have l:=WV (size:=3) css i 0 e _ q h (by omega);have m:=WV (size:=3) (css.set i [e,b,d]) i 1 f [e,b,d] (j _ rfl) (by rw [List.getElem?_set_self p]) (by omega);have o:=WV (size:=3) (css.set i [e,f,d]) i 2 k [e,f,d] (j _ rfl) (by rw [List.getElem?_set_self p]) (by omega);simp only [yt,yw,List.set_cons_succ,List.set_set]at l m o;rw [l,m,o]
theorem KY {α:Type} {F G:List α} {i:Nat} (x:α) (hF:F.length=i) (a:i<G.length):(F++G.drop i).set i x=(F++ [x])++G.drop (i+1):=by
 rw [xB _ _ (by omega),hF,yh,za a,yw,zO];rfl
def cC:V:= .agg #[.int .i64 0,.string ByteArray.empty,.slice none 0 0]
theorem CH (w:O):(zeroValue 59).run prog w= .ok cC w:=by kernel_rfl
theorem uU {A:aA} (HS:Sp w (RowA 59 3 (.slice A n c) n css.flatten::XH v xs css ys::BlkA I 3 #[.int .i64 iv]::L)) (hn:ys.length=n) (xi:n<=64) (hc:n<=c) (x1:c<=9223372036854775807):
 Calls prog 63 #[.slice A n c,.func (.func 65) #[] #[.pointer (some ⟨I,0,none⟩)]] w fun e w' =>∃n' css',e= .returned (.slice A n' c)/\n' <=n/\Sp w' (RowA 59 3 (.slice A n' c) n' css'.flatten::XH v xs css' (ys.filter fun c=>decide (c.1=iv))::BlkA I 3 #[.int .i64 iv]::L):=by
 have M:=zA hn;have hk:=HS.readLen M1;have hi:=pJ HS M1;have HI:=zA (uP HS hn xi);have eg:=enters_of func65 (by kernel_rfl) rfl;have o:=zA hk;have Y:=zA hi;clear HS hn hk hi;go_enter func63,ntmps63;go_wp2_with fail;refine HI.o.mono ?_;rintro r w1 ⟨⟨r1,rfl,hr⟩,C⟩;rcases hr with⟨rfl,G⟩|⟨k,rfl,xb,hp,x,U,h5⟩
 ·have X:=zA G;clear G HI;go_wp2;go_ret
  have hf:ys.filter (fun c=>decide (c.1=iv))=ys:=List.filter_eq_self.2 fun z R=>by simpa using X.o z R
  rw [hf];exact⟨n,css,rfl,zC _,C⟩
 ·obtain⟨g,rfl, -, -⟩:=(C.rowOf M0).at_ (by omega)
  have x5:((k:Int)== -1)=false:=(by simp)
  have Q:(Xp iv (css.take (k+1)) (ys.take (k+1))).map (·.1)=css.take k:=by
   obtain⟨cs,t⟩:∃cs,css[k]? =some cs:=⟨_,zB (by rw [o.o,M.o];exact xb)⟩;rw [VX t U,if_neg h5,zo];refine EO (by have:=o.o;simp;omega) fun z R=> ?_;obtain⟨q,u⟩:=z8 R;have hs:q<k:=(by have:=zN u;simp at this;omega);rw [List.getElem?_take_of_lt hs]at u;exact hp q z hs u
  have ht:Sp w1 (RowA 59 3 (.slice (some ⟨g,0,none⟩) n c) n ((Xp iv (css.take (k+1)) (ys.take (k+1))).map (·.1)++css.drop k).flatten::XH v xs css ys::BlkA I 3 #[.int .i64 iv]::L):=by
   rw [Q,zu];exact C
  have s:((Xp iv (css.take (k+1)) (ys.take (k+1))).map (·.1)).length=k:=(by rw [Q];have:=o.o;have:=M.o;simp;omega);have h6:=zA s;clear hp U h5 Q C HI s;go_wp2_with fail
  go_loopg [5,6] (n - (k+1)) (fun gj v5 v6 wr=>∃(i j:Nat) (F:List aF),v5= .int .i64 i/\v6= .int .i64 j/\i<j/\j<=n/\gj=n - j/\(Xp iv (css.take j) (ys.take j)).map (·.1)=F/\F.length=i/\Sp wr (RowA 59 3 (.slice (some ⟨g,0,none⟩) n c) n (F++css.drop i).flatten::XH v xs css ys::BlkA I 3 #[.int .i64 iv]::L))
  case atStart=>exact⟨k,k+1,_,rfl,by go_num,by omega,by omega,rfl,rfl,h6.o,ht⟩
  case round=>
   obtain⟨i,j,F,rfl,rfl,x4,hj,rfl,hF,he,f⟩:=hrel;have W:=zA hF;have l:=zA he
   have ho:∀z∈F++css.drop i,z.length=3:=fun z R=>by
    rcases List.mem_append.1 R with h|h
    ·rw [<-hF]at h;obtain⟨y,hy,rfl⟩:=List.mem_map.1 h;exact Y.o _ (yu (List.of_mem_zip (List.mem_filter.1 hy).1).1)
    ·exact Y.o z (List.mem_of_mem_drop h)
   have D:=zA ho;clear ht hF he ho
   by_cases h9:j<n
   ·obtain⟨x,U⟩:∃x,ys[j]? =some x:=⟨_,zB (by rw [M.o];exact h9)⟩;obtain⟨K,S,N,t⟩:=f.readCell M1 U;obtain⟨x2,h4⟩:∃x2,ys[i]? =some x2:=⟨_,zB (by rw [M.o];omega)⟩;obtain⟨Ay,ny,cy,H⟩:=f.readCell M1 h4
    have hm:(F++css.drop i)[j]? =some [.int .i64 x.1,.string x.2.1,.slice K S N]:=by
     rw [zR (by rw [l.o];omega),l.o,List.getElem?_drop,<-t]
     congr 1;omega
    have hl:(F++css.drop i)[i]? =some [.int .i64 x2.1,.string x2.2.1,.slice Ay ny cy]:=by
     rw [zR (by rw [l.o];omega),l.o,List.getElem?_drop,<-H]
     congr 1;omega
    obtain⟨c0,c1,c2⟩:=U4 (A:=none) f M0 D.o hm;obtain⟨Tb,hg⟩:=eX (wr.heap.size);have b:=f.blkH 59 #[.int .i64 x.1,.string x.2.1,.slice K S N] hg;have Hx:=zA U;have ha:=zA t;have hd:=zA hl;clear U t h4 H hm hl f;go_upto_region 8 with fail;obtain⟨w4,hw⟩:=eX (wr.alloc (.cells #[.int .i64 x.1,.string x.2.1,.slice K S N] 59));rw [hw]at b⊢;have z0:=b.cl M0 0
    have z1:=b.cl M0 1;have z2:=b.cl M0 2;have HB:=zA (j9 x.1 iv I [] w4 (b.cell M3 0) x.2.1 K S N);clear c0 c1 c2 hw hg
    by_cases u:x.1=iv
    ·have xn:(x.1 !=iv)=false:=(by simp [u]);have Hq:=zA u;clear u;have x3:(i:Int)<(n:Int):=(by omega)
     go_wp2_with (go_at_call 65;refine HB.o.mono ?_;rintro r w5 ⟨rfl,hb⟩;have a:=b.grow hb;have y0:=a.cl M0 0;have y1:=a.cl M0 1;have y2:=a.cl M0 2;have d:=U4 (A:=none) a M1 D.o hd.o;have d0:=d.1;have d1:=d.2.1;have d2:=d.2.2;have f0:=a.rowFree M1 (i*3);have f1:=a.rowFree M1 (i*3+1);have f2:=a.rowFree M1 (i*3+2))
     have p:=((a.tail.rowSet (i*3) (.int .i64 x.1)).rowSet (i*3+1) (.string x.2.1)).rowSet (i*3+2) (.slice K S N);have ef:=lP (.int .i64 x.1) (.string x.2.1) (.slice K S N) D.o hd.o;rw [KY _ l.o (by rw [o.o,M.o];omega)]at ef;rw [ef]at p;clear b a y0 y1 y2 z0 z1 z2 d d0 d1 d2 f0 f1 f2 ef
     go_roundg (n - (j+1))
     ·exact⟨i+1,j+1,F++ [[Value.int .i64 x.1,Value.string x.2.1,Value.slice K S N]],by go_num,by go_num,by omega,by omega,rfl,by rw [VX ha.o Hx.o,if_pos Hq.o,zw,W.o];rfl,by simp [l.o],p⟩
     ·omega
    ·have xn:(x.1 !=iv)=true:=(by simp [u]);have Hq:=zA u;clear u;go_wp2_with (go_at_call 65;refine HB.o.mono ?_;rintro r w5 ⟨rfl,hb⟩;have a:=b.grow hb)
     go_roundg (n - (j+1))
     ·exact⟨i,j+1,F,rfl,by go_num,by omega,by omega,rfl,by rw [VX ha.o Hx.o,if_neg Hq.o,zo];exact W.o,l.o,a.tail⟩
     ·omega
   ·obtain rfl:j=n:=by omega
    rw [zF (by rw [o.o,M.o];exact zC _),zF (by rw [M.o];exact zC _)]at W;obtain⟨Z,T⟩:=eX ((Builtin.zeroCells cC.cells (j - i)).toList);have h8:Z.length=(j - i)*3:=(by rw [<-T];simp [Builtin.zeroCells,Value.cells,cC])
    have hh:∀v∈Z,v.oneCell' =true:=by
     intro v hv;rw [<-T]at hv;simp only [Builtin.zeroCells,Array.toList_map,List.mem_map]at hv;obtain⟨q,_,rfl⟩:=hv;have h3:q%3=0\/q%3=1\/q%3=2:=(by omega);rcases h3 with h|h|h<;>simp [Value.cells,cC,h,Value.oneCell']
    have m:∀q,q<(j - i)*3->(wr.cell? ⟨g,i*3+q,none⟩).isSome=true:=by
     intro q u;have hlen:=(f.rowOf M0).1;have:i*3+q<(F++css.drop i).flatten.length:=(by rw [hlen];omega);rw [f.rowCell M0 (zB this)];rfl
    have E:=fun ty=>qW (P:=prog) wr 32 59 ty cC underlying32 CH g (i*3) (j - i) (c - i) (by omega) (by rw [T,h8];exact m) (fun q=>f.rowFree M0 _) (by rw [T];exact hh);rw [T]at E;obtain⟨ws,h0,J,b⟩:=f.setCells (k:=i*3) Z (i*3) (zC _);have s:F.flatten.length=i*3:=(by rw [Zh F fun z R=>D.o z (List.mem_append_left _ R),l.o])
    have hu:ws.take (i*3)=F.flatten:=(by rw [J,yf,List.take_left' s])
    have a:Sp (wr.setCells g (i*3) Z) (RowA 59 3 (.slice (some ⟨g,0,none⟩) j c) j (F.flatten++ws.drop (i*3))::XH v xs css ys::BlkA I 3 #[.int .i64 iv]::L):=by
     rw [<-hu,zu];exact b
    have p:=a.cutRowN (n' :=i) (by omega) s;have B:=EM (iv:=iv) o.o
    have h7:=Sp.readSub p.p1 (css' :=F) (ys' :=ys.filter fun c=>decide (c.1=iv)) (by rw [<-W.o,<-B,zK,zK]) fun k cs x h1 h2=>by
     rw [<-W.o]at h1;rw [<-B]at h2;exact EN h1 h2
    clear m hh T f b a p B hu h0 J;go_wp2;go_ret
    exact⟨i,F,rfl,by omega,h7.p1⟩
end
abbrev xw:=U64×List Entry
def Vi:Nat->List xw->Bool
 |_, []=>true
 |q,x::l=>decide (q<x.1.val) && Vi x.1.val l
def YN (a:List Field) (items:List xw):Int:=if xC a then if 16384<items.length then 3 else if Vi 0 items then 0 else 1 else 80
theorem xw.at_ {w:O} {F:Nat->Prop} {b off k:Nat} {x:xw} (h:xp w F b off k x):∃A n c,w.cell? ⟨b,off+k*2,none⟩=some (.int .u64 (x.1.val:Int))/\w.cell? ⟨b,off+k*2+1,none⟩=some (.slice A n c)/\zL w F A n c x.2/\x.1.val<18446744073709551616:=by
 obtain⟨cs,⟨f,c2,rfl,⟨rfl,e⟩,a⟩,d⟩:=h;obtain⟨A,n,c,rfl,a⟩:=a;exact⟨A,n,c,d 0 _ rfl,d 1 _ rfl,a,e⟩
theorem BW {A B:aA} {n c m S:Nat} {g:List Field} {items:List xw} {w:O} (U:Tabs w) (Z:zL w (·<w.heap.size) A n c g) (G:zL w (·<w.heap.size) B m S items):
 Calls prog 60 #[.agg #[.slice A n c],.slice B m S] w fun r w' =>r= .returned (.int .i64 (YN g items))/\Below w.heap.size w w' :=by
 obtain⟨H,T⟩:=eX (w.heap.size);have a:=(Sp.start w).blkH 24 #[.slice A n c] T;have hlen:=G.length;have W:=G.cap;have HI:=zA G;have i:=zA (XJ A n c g _ (U.on (a.below M1)) (Z.on (a.below M1)));obtain⟨sb,s⟩:=eX (xC g);rw [s]at i;have p:=zA s;have f:=zA hlen;clear U Z G s hlen;go_enter func60,ntmps60;go_upto_region 1 with fail
 obtain⟨w2,h⟩:=eX (w.alloc (.cells #[.slice A n c] 24));rw [h]at a i⊢;clear T;have N:=a.cl M0 0;cases sb with
 |false=>
  go_wp2_with fail;refine i.o.mono ?_;rintro r Q ⟨rfl,e⟩;have d:=zA ((a.grow e).below M1);have t:Hid (YN g items=80):=(by show _=_;simp [YN,p.o]);clear a i N h e;go_wp2;go_ret
  exact⟨by rw [t.o];rfl,d.o⟩
 |true=>
  by_cases Y:16384<m
  ·have M:(16384:Int)<(m:Int):=(by omega);go_wp2_with fail;refine i.o.mono ?_;rintro r Q ⟨rfl,e⟩;have d:=zA ((a.grow e).below M1);have t:Hid (YN g items=3):=(by show _=_;simp [YN,p.o,f.o,Y]);clear a i N h e;go_wp2;go_ret
   exact⟨by rw [t.o];rfl,d.o⟩
  ·have M:¬(16384:Int)<(m:Int):=(by omega);go_wp2_with fail;refine i.o.mono ?_;rintro r Q ⟨rfl,e⟩;have d:=(a.grow e).below M1;have u:Sp Q [OldA w.heap.size w]:=(a.grow e).tail;have t:Hid (YN g items=if Vi 0 items then 0 else 1):=(by show _=_;simp [YN,p.o,f.o,Y]);clear a i N h e d;go_wp2
   go_loopg [5,18] m (fun gk v5 P wr=>∃k q:Nat,v5= .int .u64 (q:Int)/\P= .int .i64 k/\k<=m/\gk=m - k/\Hid (Vi 0 items=Vi q (items.drop k))/\Sp wr [OldA w.heap.size w])
   case atStart=>exact⟨0,0,by go_num,by go_num,zJ _,rfl,rfl,u⟩
   case round=>
    obtain⟨k,q,rfl,rfl,hk,rfl,I,F⟩:=hrel;clear u
    by_cases K:k<m
    ·obtain⟨b,off,x,rfl,E,e,v⟩:=HI.o.at_ K
     obtain⟨Ax,nx,cx,J,R, -,hx⟩:=xw.at_ v
     have J:wr.cell? _=_:=((F.below M0).cell e).trans J;have R:wr.cell? _=_:=((F.below M0).cell e).trans R
     have X:items.drop k=x::items.drop (k+1):=by
      obtain⟨hl,he⟩:=List.getElem?_eq_some_iff.1 E.o;rw [za hl,he]
     have C:Vi 0 items=(decide (q<x.1.val) && Vi x.1.val (items.drop (k+1))):=(by rw [I.o,X];rfl);have l:=zA C;have j:=F.al (.cells #[.int .u64 (x.1.val:Int),.slice Ax nx cx] 40);obtain⟨y,hy⟩:=eX (x.1.val);rw [hy]at J l j;clear v I C X hx E
     by_cases z:q<y
     ·have L:¬(y:Int)<=(q:Int):=(by omega);go_wp2
      go_roundg (m - (k+1))
      ·exact⟨k+1,y,rfl,by go_num,by omega,rfl,(l.o.trans (by rw [decide_eq_true z];rfl):_=_),j⟩
      ·omega
     ·have L:(y:Int)<=(q:Int):=(by omega);have D:Vi 0 items=false:=l.o.trans (by rw [decide_eq_false z];rfl);have o:Hid (YN g items=1):=(by show _=_;rw [t.o,D];rfl);have d:=zA (j.below M0);clear D;go_wp2;go_ret
      exact⟨by rw [o.o];rfl,d.o⟩
    ·obtain rfl:k=m:=by omega
     have D:Vi 0 items=true:=I.o.trans (by rw [List.drop_of_length_le (by rw [f.o];exact zC _)];rfl);have o:Hid (YN g items=0):=(by show _=_;rw [t.o,D];rfl);have d:=zA (F.below M0);clear D I;go_wp2;go_ret
     exact⟨by rw [o.o];rfl,d.o⟩
theorem vJ:(Tryz.prog.info? 86).bind (fun i=>i.zero)=some (.agg #[.string ⟨#[]⟩,.string ⟨#[]⟩,.slice none 0 0]):=by kernel_rfl
def OW:aF:= [.string ⟨#[]⟩,.string ⟨#[]⟩,.slice none 0 0]
theorem EB (N:Nat):(madeCells (Value.agg #[.string ⟨#[]⟩,.string ⟨#[]⟩,.slice none 0 0]).cells (N*3)).toList=(List.replicate N OW).flatten:=by
 have a:(Value.agg #[.string ⟨#[]⟩,.string ⟨#[]⟩,.slice none 0 0]).cells= #[.string ⟨#[]⟩,.string ⟨#[]⟩,.slice none 0 0]:=by simp [Value.cells]
 rw [a]
 apply yX
 intro i
 by_cases b:i<N*3
 ·obtain⟨j,r,e,rfl⟩:∃j r,r<3/\i=j*3+r:=⟨i / 3,i%3,Nat.mod_lt _ (by decide),by omega⟩;have d:∀c∈List.replicate N OW,c.length=3:=fun c a=>by rw [(List.mem_replicate.1 a).2];rfl
  rw [xX _ j r OW d (List.getElem?_replicate_of_lt (by omega)) e];unfold madeCells;rw [Array.getElem?_toList,Array.getElem?_map,Array.getElem?_range,if_pos b,yk,show(j*3+r)%(#[.string ⟨#[]⟩,.string ⟨#[]⟩,.slice none 0 0]:aG).size=r from by show(j*3+r)%3=r;omega];rcases r with _|_|_|r<;>first|rfl|omega
 ·rw [zh (by simp [madeCells];omega),zh (by simp [OW];omega)]
theorem L7 {w:O} {g:Nat} {b:V} {a:aG} (c:a.getD 2 undef= .pointer (some ⟨g,0,none⟩)) (h:Blk w g 38 #[b]):(results Tryz.f61 a).run prog w= .ok (.agg #[b]) w:=by
 have d:=run_loadVar_row (P:=prog) w g 38 38 #[b] (0,0) _ h underlying38 rfl (by kernel_rfl);have e:Tryz.f61.results= #[ResultVar.cell 2 38]:=rfl;have f:a[2]?.getD undef= .pointer (some ⟨g,0,none⟩):=by simpa using c
 simp [results,e,f,d,asAddr,Result.andThen]
theorem vE {A:aA} {n c:Nat} {es:List Entry} {w:O} (he:zL w (·<w.heap.size) A n c es) (hn:n<=64) (j:∀e∈es,e.numbers.length<=1000000000):
 Calls prog 61 #[.agg #[.slice A n c]] w fun r w' =>∃A',r= .returned (.agg #[.slice A' n n])/\Sp w' [DatA (.slice A' n n) es,OldA w.heap.size w]:=by
 obtain⟨H,hH⟩:=eX (w.heap.size);have s:=((Sp.start w).blkH 38 #[.slice A n c] hH).blkH 38 #[.slice none 0 0] (H:=H+1) (by simp [hH]);have hlen:=zA he.length;have hh:=he.cap;have He:=zA he;have K:=zA j;clear he j;go_enter func61,ntmps61;go_upto_region 1 with fail;obtain⟨w2,Y⟩:=eX ((w.alloc (.cells #[.slice A n c] 38)).alloc (.cells #[.slice none 0 0] 38));rw [Y]at s⊢
 have q1:=s.cl M1 0;obtain⟨R,hR⟩:=eX (w2.heap.size);clear Y;go_wp2_with (at_make;refine Zk lT (.tmp 8) (.tmp 8) rfl rfl s hR rfl rfl (by omega) (by omega) vJ ?_;intro w3 t;rw [EB]at t;have q2:=t.cl M2 0)
 have G:Sp w3 [RowA 86 3 (.slice (some ⟨R,0,none⟩) n n) n (List.replicate n OW).flatten,ElsA [] ([]:List Entry),BlkA (H+1) 38 #[.slice none 0 0],BlkA H 38 #[.slice A n c],OldA w.heap.size w]:=(t.elsNil (α:=Entry)).p1;clear s t q1 q2 hH hR
 go_loopg [13] n (fun gk hg wr=>∃(k:Nat) (css:List aF),hg= .int .i64 k/\k<=n/\gk=n - k/\Hid (css.length=n/\∀c∈css,c.length=3)/\Sp wr [RowA 86 3 (.slice (some ⟨R,0,none⟩) n n) n css.flatten,ElsA (css.take k) (es.take k),BlkA (H+1) 38 #[.slice none 0 0],BlkA H 38 #[.slice A n c],OldA w.heap.size w])
 case atStart=>exact⟨0,_,by go_num,zJ _,rfl,⟨List.length_replicate ..,fun c hc=>by rw [(List.mem_replicate.1 hc).2];rfl⟩,G⟩
 case round=>
  obtain⟨k,css,rfl,hk,rfl,l,p⟩:=hrel;clear G
  by_cases y:k<n
  ·obtain⟨b,off,e,rfl,Z,hb,W⟩:=He.o.at_ y
   obtain⟨An,f,cn,E0,E1,E2,j,s0,s1⟩:=Entry.at_ W
   have E0:wr.cell? _=_:=((p.below M4).cell hb).trans E0;have E1:wr.cell? _=_:=((p.below M4).cell hb).trans E1;have E2:wr.cell? _=_:=((p.below M4).cell hb).trans E2;have hd:=K.o e (zD Z.o);rw [j.length]at hd;obtain⟨cz,C⟩:∃cz,css[k]? =some cz:=⟨_,zB (by rw [l.o.1];exact y)⟩
   obtain⟨u0,u1,u2,rfl⟩:∃a b d,cz= [a,b,d]:=by
    have h:=l.o.2 _ (zD C)
    match cz,h with
    | [a,b,d],_=>exact⟨a,b,d,rfl⟩
   have v:=zA C;have m:=zA l.o.2;obtain⟨F,N⟩:=eX (wr.heap.size);have u:=p.blkH 86 #[.string e.field,.string e.text,.slice An f cn] N;obtain⟨w4,E⟩:=eX (wr.alloc (.cells #[.string e.field,.string e.text,.slice An f cn] 86));have P:Below wr.heap.size wr w4:=(by rw [<-E];exact(zE _ _).alloc (zC _) _);have X:∀x∈e.numbers,In64 x:=j.in64;have ha:=zA X
   have Hs:=zA (And.intro s0 s1);have HC:=zA (XW An f cn (ints e.numbers) w4 (by omega) (((j.on (p.below M4)).on P)).reads_ints (Y3 _));rw [E]at u;clear p C W j X s0 s1 P;go_upto_region 5 with fail;have z2:=u.cl M0 2;clear E N E0 E1 E2
   go_wp2_with (first
    |(go_at_call 96;refine HC.o.mono ?_;rintro r w5 ⟨o,c8,rfl,D,Q⟩;have i:=u.row D Q;have x2:=i.cl M1 2;have x3:=(i.blkOf M1).frozen 2;have T:=D.cap;have d0:=i.rowCell M2 ((xX css k 0 _ m.o v.o (by omega)).trans rfl);have d1:=i.rowCell M2 ((xX css k 1 _ m.o v.o (by omega)).trans rfl);have d2:=i.rowCell M2 ((xX css k 2 _ m.o v.o (by omega)).trans rfl);rw [yt]at d0;have g0:=i.rowFree M2 (k*3);have g1:=i.rowFree M2 (k*3+1);have g2:=i.rowFree M2 (k*3+2);have ne:=(Sp.selT [_,_,_] i [2,1]).neRB;have hf:=Ne.symm ne;clear D Q u z2)
    |(go_at_call 109;refine(eK _ _ _ _ T.2.1 T.2.2).mono ?_;rintro r w6 ⟨rfl,rfl⟩;have q:=(i.p1).set 2 (.slice o f f);have y0:(w5.setCell ⟨F,2,none⟩ (.slice o f f)).cell? ⟨F,0,none⟩=some (.string e.field):=q.cell M0 0;have y1:(w5.setCell ⟨F,2,none⟩ (.slice o f f)).cell? ⟨F,1,none⟩=some (.string e.text):=q.cell M0 1;have y2:(w5.setCell ⟨F,2,none⟩ (.slice o f f)).cell? ⟨F,2,none⟩=some (.slice o f f):=q.cell M0 2)
    |fail)
   have B:=((((Sp.selT [_,_,_] q [2,0,1]).rowSet (k*3) (.string e.field)).rowSet (k*3+1) (.string e.text)).rowSet (k*3+2) (.slice o f f));have ef:=lP (.string e.field) (.string e.text) (.slice o f f) m.o v.o;rw [ef]at B;have I:=(Sp.selT [_,_,_] B [2,0]).clip.ints ha.o
   have J:=I.mk1 (cs:= [.string e.field,.string e.text,.slice o f f]) (x:=e) (fun S h=>⟨_,_,_,rfl,⟨rfl,Hs.o.1⟩,⟨rfl,Hs.o.2⟩,h⟩);have z:=(Sp.selT [_,_,_] J [0,2,1]).elsPush
   have L:(css.set k [.string e.field,.string e.text,.slice o f f]).take (k+1)=css.take k++ [[.string e.field,.string e.text,.slice o f f]]:=by
    have hi:k<(css.set k [Value.string e.field,.string e.text,.slice o f f]).length:=(by rw [List.length_set,l.o.1];exact y);rw [zI,List.take_set_of_le (zC _),List.getElem?_set_self (by rw [l.o.1];exact y)];rfl
   have M:es.take (k+1)=es.take k++ [e]:=(by rw [zI,Z.o];rfl);rw [<-L,<-M]at z
   have U:Hid ((css.set k [Value.string e.field,.string e.text,.slice o f f]).length=n/\∀c∈css.set k [Value.string e.field,.string e.text,.slice o f f],c.length=3):=by
    refine⟨by rw [List.length_set];exact l.o.1,fun c hc=> ?_⟩;rcases xe hc with h|rfl
    ·exact l.o.2 c h
    ·rfl
   clear i q B I J ef L M y0 y1 y2 x2 x3 d0 d1 d2 g0 g1 g2 ne hf;go_wp2
   go_roundg (n - (k+1))
   ·exact⟨k+1,_,by go_num,by omega,rfl,U,z.p1⟩
   ·omega
  ·obtain rfl:k=n:=by omega
   rw [zF (by rw [l.o.1];exact zC _),zF (by rw [hlen.o];exact zC _)]at p;have d0:=p.cl M2 0;have d1:=(p.blkOf M2).frozen 0;have h1:=Sp.els (α:=Entry) p;have h2:=h1.p1.set 0 (.slice (some ⟨R,0,none⟩) k k);clear h1 p;go_wp2;refine bodyPost_ret (L7 (g:=H+1) (by rfl) (h2.blkOf M0)) rfl ⟨_,rfl,Sp.selT [_,_,_,_] h2 [1,3]⟩
structure FS where
 td:xo
 lens:aD
 tx:List (List aB)
 nums:List aD
 pts:List Pt
def fs0:FS:=⟨[], [], [], [], []⟩
def Zc (c:List Field) (i:Nat) (b:Int) (a:Nat) (cs:List yZ) (x:FS):FS:=
 if b=1 then {x with td:=Y6 x.td a (tokP c i cs),lens:=x.lens++ [((tokP c i cs).length:Int)]}
 else if b=2 then {x with td:=Y7 x.td a (setT (YK cs)),tx:=x.tx++ [setT (YK cs)]}
 else if b=5 then {x with pts:=x.pts++ptsC a cs}
 else {x with nums:=x.nums++ [xP (YG cs)],pts:=x.pts++ptsC a cs}
def dimF (f:Field):Nat:=if f.kind=5 then f.dims.toNat else 1
def Qt (f:Field) (c:yZ):Prop:=(f.kind=2->c.2.1.size<=256)/\(f.kind=3\/f.kind=4->c.2.2.length=1)/\(f.kind=5->c.2.2.length=f.dims.toNat)/\InL c.2.2
theorem wF (xs:aD) (s:aB):∀u∈runT xs s,u.text.size<=1000000000:=by
 have d:∀(t:aD) (m:Nat) (o:Option (List Token)),(∀l,o=some l->QY m l)->∀l,t.foldl lk o=some l->QY (4^t.length*m) l:=by
  intro t
  induction t with
  |nil=>intro m o h l d;simpa using h l d
  |cons a t ih=>
   intro m o h l d
   have:=ih (4*m) (lk o a) (fun n b =>by
    unfold lk at b;rcases o with _|o
    ·cases b
    ·simp only [Option.bind_some]at b
     split at b
     ·cases b;exact gY (h o rfl)
     ·cases b) l d
   rw [z6,Nat.pow_succ,Nat.mul_assoc];exact this
 intro u c;cases xs with
 |nil=>cases c
 |cons a t=>
  by_cases e:ZI (a::t)=true
  ·by_cases f:s.size<=4096
   ·rw [oR e f rfl]at c
    split at c
    ·rcases ho:lks t (xJ a s)with _|l
     ·rw [ho]at c;cases c
     ·rw [ho]at c;have j:=d t s.size (some (xJ a s)) (fun l d=>by cases d;exact VC a s) l ho u c;have g:=l6 e;have i:4^t.length<=4^7:=yB (by decide) g;have k:4^t.length*s.size<=4^7*4096:=Nat.mul_le_mul i f;omega
    ·cases c
   ·rw [kV f]at c;cases c
  ·rw [mO (by simpa using e)]at c;cases c
theorem iT (e:List Field) (i:Nat) (cs:List yZ):∀u∈tokP e i cs,u.text.size<=1000000000:=by
 unfold tokP
 split
 ·split
  ·have:∀(cs:List yZ) (d:aD) (a:List Token),(∀u∈a,u.text.size<=1000000000)->∀u∈cs.foldl (xx d i) a,u.text.size<=1000000000:=by
    intro cs d
    induction cs with
    |nil=>intro a h;exact h
    |cons c cs ih=>
     intro a h;refine ih _ fun u b=> ?_;unfold xx at b
     split at b
     ·rcases List.mem_append.1 b with b|b
      ·exact h u b
      ·obtain⟨v,f,rfl⟩:=List.mem_map.1 b;exact wF _ _ v f
     ·exact h u b
   exact this cs _ [] (by simp)
  ·simp
 ·simp
theorem CS (f:List Field) (i:Nat) {cs:List yZ} (g:cs.length<=64):∀u∈tokP f i cs,In64 u.pos:=by
 have d:∀(cs:List yZ) (e:aD) (a:List Token) (B:Int),0<=B->(∀u∈a,0<=u.pos/\u.pos<B)->∀u∈cs.foldl (xx e i) a,0<=u.pos/\u.pos<B+4197*cs.length:=by
  intro cs e
  induction cs with
  |nil=>intro a B _ h u b;have:=h u b;simpa using this
  |cons c cs ih=>
   intro a B hB h u b;have:=ih _ (B+4197) (by omega) (iS c h hB) u b;simp only [z6];omega
 unfold tokP
 split
 ·split
  ·intro u b;have:=d cs _ [] 0 (by omega) (by simp) u b
   constructor<;>omega
  ·simp
 ·simp
theorem GV (e:List Field) (i:Nat) {cs:List yZ} (j:cs.length<=64):(tokP e i cs).length<=262144:=by
 have d:∀(cs:List yZ) (b:aD) (a:List Token),(cs.foldl (xx b i) a).length<=a.length+4096*cs.length:=by
  intro cs b
  induction cs with
  |nil=>intro a;simp
  |cons c cs ih=>
   intro a;have g:=ih (xx b i a c);have h:=gI b i a c;simp only [List.foldl_cons,z6];omega
 unfold tokP
 split
 ·split
  ·have:=d cs (by rename_i f _ _;exact f.chain) [];simp only [yO]at this;omega
  ·simp
 ·simp
def OI (k:Nat) (td:xo):Prop:=∀p∈td,(p.2.map (·.1)).Nodup/\∀q∈p.2,0<=q.1/\q.1<(k:Int)
theorem OI.mono {k:Nat} {td:xo} (h:OI k td):OI (k+1) td:=fun p a=>⟨(h p a).1,fun q b=>by have:=(h p a).2 q b;omega⟩
theorem OI.add {k:Nat} {td:xo} (h:OI k td) (t:aB) {d:Nat} (p:Int) (i:d<k):OI k (addT td t d p):=fun x g=>by
 have step:∀ds:Wc,(ds.map (·.1)).Nodup->(∀q∈ds,0<=q.1/\q.1<(k:Int))->((OJ ds d p).map (·.1)).Nodup/\∀q∈OJ ds d p,0<=q.1/\q.1<(k:Int):=fun ds e f=>
  ⟨UW e,fun q c=>by
   rcases Q2 c with h|rfl|⟨v,_,rfl⟩
   ·exact f q h
   ·show(0:Int)<=d/\(d:Int)<k;omega
   ·show(0:Int)<=d/\(d:Int)<k;omega⟩
 rcases Q2 g with b|rfl|⟨v,a,rfl⟩
 ·exact h x b
 ·exact step [] (by simp) (by simp)
 ·exact step v (h _ a).1 (h _ a).2
theorem OZ.add {td:xo} (h:OZ td) {t:aB} {d p:Int} (g:t.size<=1000000000) (c:In64 d) (e:In64 p):OZ (addT td t d p):=fun x k=>by
 have step:∀ds:Wc,(∀q∈ds,In64 q.1/\∀x∈q.2,In64 x)->∀q∈OJ ds d p,In64 q.1/\∀x∈q.2,In64 x:=fun ds f q j=>by
  rcases Q2 j with h|rfl|⟨v,b,rfl⟩
  ·exact f q h
  ·exact⟨c,fun y a=>by simp at a;subst a;exact e⟩
  ·refine⟨c,fun y a=> ?_⟩;simp at a;rcases a with a|rfl
   ·exact(f _ b).2 y a
   ·exact e
 rcases Q2 k with i|rfl|⟨v,b,rfl⟩
 ·exact h x i
 ·exact⟨g,step [] (by simp)⟩
 ·exact⟨g,step v (h _ b).2⟩
theorem lG:∀(k:Nat) (l:aD),l.Nodup->(∀x∈l,0<=x/\x<(k:Int))->l.length<=k
 |0,l,_,h=>by
  cases l with
  |nil=>simp
  |cons x l=>have:=h x (by simp);omega
 |k+1,l,hn,h=>by
  have a:=lG k (l.erase (k:Int)) (hn.erase _) fun x d=>by
   have b:=(hn.mem_erase_iff).1 d;have e:=h x b.2;have f:=b.1;omega
  by_cases c:(k:Int)∈l
  ·rw [List.length_erase_of_mem c]at a;omega
  ·rw [List.erase_of_not_mem c]at a;omega
theorem OI.len {k:Nat} {td:xo} (h:OI k td) {p:aB×Wc} (b:p∈td):p.2.length<=k:=by
 have a:=h p b
 have:=lG k _ a.1 fun x d=>by
  obtain⟨q,c,rfl⟩:=List.mem_map.1 d;exact a.2 q c
 simpa using this
theorem kJ {k d:Nat} (a:d<k) (c:k<=16384):∀(l:List Token) (N:Nat) (td:xo),(∀u∈l,u.text.size<=1000000000/\In64 u.pos)->Ya N td->OZ td->OI k td->Ya (N+l.length) (Y6 td d l)/\OZ (Y6 td d l)/\OI k (Y6 td d l)
 | [],N,td,_,h1,h2,h3=>⟨h1,h2,h3⟩
 |u::l,N,td,hl,h1,h2,h3=>by
  have b:=hl u (by simp);have:=kJ a c l (N+1) (addT td u.text d u.pos) (fun v e=>hl v (by simp [e])) (h1.add _ _ _) (h2.add b.1 ⟨by omega,by omega⟩ b.2) (h3.add _ _ a);rw [z6,show N+(l.length+1)=N+1+l.length by omega];exact this
theorem kK {k d:Nat} (a:d<k) (b:k<=16384):∀(l:List aB) (N:Nat) (td:xo),(∀s∈l,s.size<=1000000000)->Ya N td->OZ td->OI k td->Ya (N+l.length) (Y7 td d l)/\OZ (Y7 td d l)/\OI k (Y7 td d l)
 | [],N,td,_,h1,h2,h3=>⟨h1,h2,h3⟩
 |s::l,N,td,hl,h1,h2,h3=>by
  have:=kK a b l (N+1) (addT td s d 0) (fun v c=>hl v (by simp [c])) (h1.add _ _ _) (h2.add (hl s (by simp)) ⟨by omega,by omega⟩ ⟨by omega,by omega⟩) (h3.add _ _ a);rw [z6,show N+(l.length+1)=N+1+l.length by omega];exact this
structure FSok (f:Field) (k:Nat) (x:FS):Prop where
 sz:Ya (262144*k) x.td
 it:OZ x.td
 dc:OI k x.td
 ln:x.lens.length<=k
 li:InL x.lens
 xn:x.tx.length<=k
 xi:∀r∈x.tx,r.length<=64/\∀s∈r,s.size<=256
 nn:x.nums.length<=k
 ni:∀r∈x.nums,r.length<=64/\InL r
 pn:x.pts.length<=64*k
 pi:ZG (dimF f) x.pts
theorem FSok.zero (f:Field):FSok f 0 fs0 where
 sz:=by refine⟨?_,?_⟩<;>simp [fs0]
 it:=fun p b=>by cases b
 dc:=fun p b=>by cases b
 ln:=by simp [fs0]
 li:=fun x a=>by cases a
 xn:=by simp [fs0]
 xi:=fun x a=>by cases a
 nn:=by simp [fs0]
 ni:=fun x a=>by cases a
 pn:=by simp [fs0]
 pi:=fun x a=>by cases a
theorem InL.snoc {l:aD} (h:InL l) {x:Int} (b: -9223372036854775808<=x/\x<=9223372036854775807):InL (l++ [x]):=fun y a=>by
 rcases List.mem_append.1 a with a|a
 ·exact h y a
 ·rw [List.mem_singleton.1 a];exact b
theorem p8 {f:Field} {k:Nat} {cs:List yZ} (e:k<16384) (b:∀c∈cs,c.2.2.length=dimF f/\InL c.2.2):ZG (dimF f) (ptsC k cs):=fun p d=>by
 obtain⟨c,a,rfl⟩:=List.mem_map.1 d;have:=b c a;exact⟨this.1,by show(0:Int)<=k;omega,by show(k:Int)<16384;omega,this.2⟩
theorem FB {cs:List yZ} (b:∀c∈cs,InL c.2.2):InL (YG cs):=fun x d=>by
 obtain⟨c,a,rfl⟩:=List.mem_map.1 d;rw [zm];rcases h:c.2.2[0]? with _|y
 ·show _/\_;exact⟨by simp,by simp⟩
 ·exact b c a y (zD h)
theorem mJ {l:aD} (h:InL l):InL (xP l):=fun x a=>h x ((Q7 l).mem_iff.1 a)
theorem mK {α:Type} {P:α->Prop} {l:List α} {x:α} (h:∀y∈l,P y) (b:P x):∀y∈l++ [x],P y:=fun y a=>by
 rcases List.mem_append.1 a with a|a
 ·exact h y a
 ·rw [List.mem_singleton.1 a];exact b
theorem ZG.app {d:Nat} {a b:List Pt} (c:ZG d a) (e:ZG d b):ZG d (a++b):=fun p f=>(List.mem_append.1 f).elim (c p) (e p)
theorem FSok.step {d:List Field} {i k:Nat} {f:Field} {cs:List yZ} {x:FS} (h:FSok f k x) (y:k<16384) (B:1<=f.kind/\f.kind<=5) (j:∀c∈cs,Qt f c) (l:cs.length<=64):FSok f (k+1) (Zc d i f.kind k cs x):=by
 have m:∀c∈cs,InL c.2.2:=fun c a =>(j c a).2.2.2;have w:Ya (262144*(k+1)) x.td:=h.sz.mono (by omega);have n:x.lens.length<=k+1:=Nat.le_succ_of_le h.ln;have p:x.tx.length<=k+1:=Nat.le_succ_of_le h.xn;have o:x.nums.length<=k+1:=Nat.le_succ_of_le h.nn;have v:x.pts.length<=64*(k+1):=by have:=h.pn;omega
 unfold Zc
 split
 ·have b:=kJ (Nat.lt_succ_self k) (by omega) (tokP d i cs) _ x.td (fun u A=>⟨iT d i cs u A,CS d i l u A⟩) h.sz h.it h.dc.mono;have z:=GV d i l;exact⟨b.1.mono (by omega),b.2.1,b.2.2,by simp;exact h.ln,h.li.snoc ⟨by omega,by omega⟩,p,h.xi,o,h.ni,v,h.pi⟩
 split
 ·rename_i t
  have e:∀s∈setT (YK cs),s.size<=256:=fun s r=>by
   obtain⟨c,a,rfl⟩:=List.mem_map.1 (X9.1 r);exact(j c a).1 t
  have z:(setT (YK cs)).length<=64:=zY (Vh _) (by simpa [YK]using l);have b:=kK (Nat.lt_succ_self k) (by omega) (setT (YK cs)) _ x.td (fun s r=>zY (e s r) (by decide)) h.sz h.it h.dc.mono;exact⟨b.1.mono (by omega),b.2.1,b.2.2,n,h.li,by simp;exact h.xn,mK h.xi ⟨z,e⟩,o,h.ni,v,h.pi⟩
 split
 ·rename_i g;have q:ZG (dimF f) (ptsC k cs):=p8 y fun c a =>⟨by rw [(j c a).2.2.1 g];unfold dimF;rw [if_pos g],m c a⟩;exact⟨w,h.it,h.dc.mono,n,h.li,p,h.xi,o,h.ni,by simp [ptsC];have:=h.pn;omega,h.pi.app q⟩
 ·rename_i C t g;have q:ZG (dimF f) (ptsC k cs):=p8 y fun c a =>⟨by rw [(j c a).2.1 (by omega)];unfold dimF;rw [if_neg g],m c a⟩;exact⟨w,h.it,h.dc.mono,n,h.li,p,h.xi,by simp;exact h.nn,mK h.ni ⟨by rw [(Q7 _).length_eq];simpa [YG]using l,mJ (FB m)⟩,by simp [ptsC];have:=h.pn;omega,h.pi.app q⟩
theorem nG {κ ν:Type} [DecidableEq κ] {l:List (κ×ν)} {k:κ} {v:ν} (h:Xa l k=some v):(k,v)∈l:=by
 unfold Xa at h;rcases hf:l.find? fun p=>decide (p.1=k)with _|p
 ·rw [hf]at h;cases h
 ·rw [hf]at h;cases h;have a:=List.find?_some hf;have b:=List.mem_of_find?_eq_some hf;simp only [decide_eq_true_eq]at a;rw [<-a];exact b
theorem FSok.inv {f:Field} {k:Nat} {x:FS} (h:FSok f k x) (c:k<=16384):InvOk f (Zl x.td) (Y2 x.td) x.lens x.tx x.nums x.pts where
 tl:=by simp [Y2]
 tn:=by
  unfold Zl;rw [(iW _).length_eq,zK];have:=h.sz.1;omega
 ps:=fun ps a=>by
  unfold Y2 at a;obtain⟨t, -,rfl⟩:=List.mem_map.1 a;rcases hl:Xa x.td t with _|ds
  ·refine⟨by simp [Zo,xP],fun p b=> ?_⟩;simp [Zo,xP]at b
  ·have e:=nG hl;have g:=h.dc.len e;refine⟨?_,fun p b=> ?_⟩
   ·simp only [yq,Zo,zK];rw [(Q7 _).length_eq,zK];simp only at g;omega
   ·simp only [yq,Zo]at b;obtain⟨d, -,rfl⟩:=List.mem_map.1 b;show((Xa ds d).getD []).length<=_;rcases hq:Xa ds d with _|q
    ·simp
    ·have i:=(h.sz.2 _ e).2 _ (nG hq);simp only [yq];simp only at i;omega
 ln:=zY h.ln c
 li:=h.li
 xn:=zY h.xn c
 xi:=h.xi
 nn:=zY h.nn c
 ni:=h.ni
 pn:=by have:=h.pn;omega
 pi:=h.pi
theorem J1 {s:aB} {d:Nat} (h:Qz s d=true) (j:d<=9):s.size<=64:=by
 unfold Qz at h;simp only [zM]at h;have h:=h.1;unfold DecP.ok ZY at h;simp only [zM,Bool.or_eq_true,Bool.not_eq_true']at h;obtain⟨⟨a, -⟩,b⟩:=h;unfold OC at a;simp only [zM,decide_eq_true_eq]at a;obtain⟨⟨-,a⟩, -⟩:=a
 have f:s.size<=(Lib.trimPrefix s.data.toList [45]).length+1:=by
  unfold Lib.trimPrefix
  split
  ·rw [ze];simp;omega
  ·simp
 obtain⟨l,i⟩:=eX (Lib.trimPrefix s.data.toList [45]);rw [i]at a b f;unfold Lib.cut at a b
 split at a
 ·rename_i g;rw [if_pos g]at b;simp only [Bool.true_eq_false,false_or]at b;unfold OC at b;simp only [zM,decide_eq_true_eq]at b;obtain⟨⟨-,b⟩, -⟩:=b;have c:((⟨(l.take (Lib.index l [46]).toNat).toArray⟩:aB).size)=min (Lib.index l [46]).toNat l.length:=(by simp [ByteArray.size])
  have e:((⟨(l.drop ((Lib.index l [46]).toNat+([46]:aC).length)).toArray⟩:aB).size)=l.length - ((Lib.index l [46]).toNat+1):=(by simp [ByteArray.size]);rw [c]at a;rw [e]at b;omega
 ·have c:((⟨l.toArray⟩:aB).size)=l.length:=(by simp [ByteArray.size]);simp only at a;rw [c]at a;omega
theorem WW {g:List Field} {i:Nat} {f:Field} (h:xC g=true) (j:g[i]? =some f):f.name.size<=24/\(1<=f.kind/\f.kind<=5)/\(f.kind=5->1<=f.dims/\f.dims<=4)/\(f.kind=4->0<=f.scale/\f.scale<=9):=by
 unfold xC at h;simp only [zM,List.all_eq_true,List.mem_range]at h;have c:=h.2 i (zN j);unfold YH at c;rw [j]at c;simp only [zM]at c;have d:=c.2;unfold Xq xD aP at d;simp only [zM,decide_eq_true_eq]at d;obtain⟨⟨⟨⟨k, -⟩, -⟩, -⟩,a⟩:=d;refine⟨k.2.2,?_⟩
 split at a
 ·rename_i e;exact⟨⟨by omega,by omega⟩,fun b=>by omega,fun b=>by omega⟩
 split at a
 ·rename_i e;exact⟨⟨by omega,by omega⟩,fun b=>by omega,fun b=>by omega⟩
 split at a
 ·rename_i e;simp only [decide_eq_true_eq]at a;exact⟨⟨by omega,by omega⟩,fun b=>by omega,fun _=>a⟩
 split at a
 ·rename_i e;simp only [decide_eq_true_eq]at a;exact⟨⟨by omega,by omega⟩,fun _=>a,fun b=>by omega⟩
 ·cases a
theorem NH {q:List Field} {i:Nat} {f:Field} {e:Entry} {s t:Int} (p:xC q=true) (y:q[i]? =some f) (o:f.name=e.field) (j:∀z∈e.numbers,In64 z) (h:WX f e s t=true):Qt f (bJ i f e)/\XP e=true:=by
 obtain⟨g,A,u,v⟩:=WW p y;unfold WX Vz at h;simp only [zM]at h;obtain⟨⟨b, -⟩,c⟩:=h;have r:InL e.numbers:=fun x k=>by have:=j x k;unfold In64 at this;exact⟨by omega,by omega⟩
 have w:InL [decN e.text f.scale.toNat]:=fun x k=>by
  rw [List.mem_singleton.1 k];have:=pI e.text f.scale.toNat;unfold In64 at this;exact⟨by omega,by omega⟩
 have d:InL ([]:aD):=fun x k=>by cases k
 have a:e.text.toList.isEmpty=true->e.text.size<=4096:=fun h=>by
  have c:e.text.toList= []:=(by simpa using h);have m:=congrArg List.length c;rw [ByteArray.toList_eq]at m;show e.text.data.size<=4096;rw [<-Array.length_toList,m];simp
 unfold Qt bJ XP xr ZU;unfold Ys at c;simp only [zM,decide_eq_true_eq];rw [o]at g;obtain⟨l,n⟩:=eX (f.kind);rw [n]at b c A u v⊢;rcases(show l=1\/l=2\/l=3\/l=4\/l=5 by omega)with rfl|rfl|rfl|rfl|rfl
 ·simp at b c
  have m:e.text.size<=4096:=by
   rcases zk 4096 e.text.size with h|h
   ·rw [jD (by omega)]at c;simp at c
   ·exact h
  simp [d,g,m,b]
 ·simp at b c;simp [d,g,b,c];omega
 ·simp only [if_true]at b;simp at b;have:=a (by simpa using b.1);simp [r,b,g,this]
 ·simp at b c;have:=J1 c (by have:=v rfl;omega);simp [w,b,g];omega
 ·simp at b;have:=a (by simpa using b.1);have:=u rfl;simp [r,g];omega
def Uz (c:yZ):Prop:=c.2.1.size<=4096/\c.2.2.length<=4
theorem BQ {i:Nat} {f:Field} {e:Entry} (h:XP e=true):Uz (bJ i f e):=by
 unfold XP at h;simp only [zM,decide_eq_true_eq]at h;unfold Uz bJ xr ZU
 constructor
 ·show ByteArray.size (if _ then _ else _)<=_
  split
  ·exact h.1.2
  ·exact zJ _
 ·show List.length (if _ then _ else _)<=_
  split
  ·exact zJ _
  split
  ·simp
  ·exact h.2
theorem j6 {d:List Field} (j:xC d=true):∀(es:List Entry) (seen a:aD) (cs:List yZ),(∀e∈es,∀z∈e.numbers,In64 z)->ZV d es seen a=some cs->cs.length=es.length/\(∀c∈cs,Uz c/\∃(i:Nat) (f:Field),d[i]? =some f/\c.1=(i:Int)/\Qt f c)/\∀e∈es,XP e=true
 | [],_,_,cs,_,h=>by
   unfold ZV at h;cases h;simp
 |e::es,seen,a,cs,hn,h=>by
  unfold ZV at h;rcases hi:Zx d e.field with _|i
  ·rw [hi]at h;cases h
  ·rw [hi]at h;obtain⟨f,l,m⟩:=eD hi;simp only [l]at h
   split at h
   ·rename_i n;rcases hc:ZV d es (seen.set i (seen.getD i 0+1)) (a.set i (Yr f e (a.getD i 0)))with _|k
    ·rw [hc]at h;cases h
    ·rw [hc]at h;cases h;obtain⟨q,r,s⟩:=j6 j es _ _ k (fun e g=>hn e (by simp [g])) hc;obtain⟨t,o⟩:=NH j l m (hn e (by simp)) n;refine⟨by simp [q],fun c b => ?_,fun p g=> ?_⟩
     ·rcases yx.1 b with rfl|b
      ·exact⟨BQ o,i,f,l,rfl,t⟩
      ·exact r c b
     ·rcases yx.1 g with rfl|g
      ·exact o
      ·exact s p g
   ·cases h
theorem Wu {b:List Field} {es:List Entry} {cs:List yZ} (j:∀e∈es,∀z∈e.numbers,In64 z) (h:Yk b es=some cs):xC b=true/\cs.length<=64/\(∀c∈cs,Uz c/\∃(i:Nat) (f:Field),b[i]? =some f/\c.1=(i:Int)/\Qt f c)/\Y9 es=true:=by
 unfold Yk at h
 split at h
 ·rename_i a;simp only [zM,decide_eq_true_eq]at a;obtain⟨k,d,g⟩:=j6 a.1 es _ _ cs j h;refine⟨a.1,by omega,d,?_⟩;unfold Y9;simp only [zM,decide_eq_true_eq,List.all_eq_true];exact⟨a.2,g⟩
 ·cases h
def Xv (i:Nat) (cs:List yZ):List yZ:=cs.filter fun c=>decide (c.1=(i:Int))
theorem j8 {b:List Field} {i:Nat} {f:Field} {cs:List yZ} (m:b[i]? =some f) (h:∀c∈cs,Uz c/\∃(i:Nat) (f:Field),b[i]? =some f/\c.1=(i:Int)/\Qt f c):∀c∈Xv i cs,Qt f c:=fun c l=>by
 obtain⟨e,k⟩:=List.mem_filter.1 l;simp only [decide_eq_true_eq]at k;obtain⟨-,j,g,d,n,a⟩:=h c e;have:j=i:=by omega
 subst this;rw [m]at d;cases d;exact a
theorem iL (i:Nat) (cs:List yZ):(Xv i cs).length<=cs.length:=List.length_filter_le _ _
section
variable {w:O} {L:List Asn}
theorem Sp.unstar:∀{M:List Asn} {L:List Asn},Sp w (zz M::L)->Sp w (M++L)
 | [],_,h=>h.tail
 |_::_,_,h=>Sp.perm (Sp.unstar h.starOut.p1) List.perm_middle
theorem Sp.star:∀{M:List Asn} {L:List Asn},Sp w (M++L)->Sp w (zz M::L)
 | [],_,h=>h.starNil
 |_::M,_,h=>(Sp.star (M:=M) (Sp.perm h List.perm_middle.symm)).p1.starIn
end
structure FA where
 G:Nat
 T:Nat
 A2:aA
 A3:aA
 A4:aA
 A5:aA
 c2:Nat
 c3:Nat
 c4:Nat
 c5:Nat
 s3:List aF
 s4:List aF
 s5:List aF
def gsOf (A:aA) (n c i:Nat) (a:FA) (x:FS):aG:= #[.slice none 0 0,.slice none 0 0,.slice a.A2 x.lens.length a.c2,.slice a.A3 x.tx.length a.c3,.slice a.A4 x.nums.length a.c4,.slice a.A5 x.pts.length a.c5,.slice A n c,.int .i64 (i:Int),.map (some a.T)]
def fldL (A:aA) (n c i:Nat) (a:FA) (x:FS):List Asn:=
 [BlkA a.G 152 (gsOf A n c i a x),YR a.T x.td,IA a.A2 x.lens.length a.c2 x.lens,RowA 129 1 (.slice a.A3 x.tx.length a.c3) x.tx.length a.s3.flatten,ElsA a.s3 x.tx,
  RowA 57 1 (.slice a.A4 x.nums.length a.c4) x.nums.length a.s4.flatten,ElsA a.s4 x.nums,RowA 232 2 (.slice a.A5 x.pts.length a.c5) x.pts.length a.s5.flatten,ElsA a.s5 x.pts]
def FldA (A:aA) (n c i G:Nat) (x:FS):Asn:=ExA fun a:{a:FA // a.G=G}=>zz (fldL A n c i a.1 x)
section
variable {w:O} {L:List Asn} {A:aA} {n c i G:Nat} {x:FS}
theorem Sp.fldOut (h:Sp w (FldA A n c i G x::L)):∃a:FA,a.G=G/\Sp w (fldL A n c i a x++L):=by
 obtain⟨a,h⟩:=h.exOut;exact⟨a.1,a.2,h.unstar⟩
theorem Sp.fldIn {a:FA} (b:a.G=G) (h:Sp w (fldL A n c i a x++L)):Sp w (FldA A n c i G x::L):=
 Sp.exIn (f:=fun a:{a:FA // a.G=G}=>zz (fldL A n c i a.1 x)) ⟨a,b⟩ h.star
end
theorem LO (a:Int) (args:aG) (w:O):(callFunc (YO a) args).run prog w= .ok (.enter (YO a) args) w:=by
 unfold YO
 split
 ·exact enters_of func110 (by kernel_rfl) rfl args w
 split
 ·exact enters_of func111 (by kernel_rfl) rfl args w
 split
 ·exact enters_of func113 (by kernel_rfl) rfl args w
 ·exact enters_of func112 (by kernel_rfl) rfl args w
theorem vD {A B:aA} {n c i k m v:Nat} {d:List Field} {f:Field} {a:FA} {x:FS} {g:aF} {D cs:List yZ} {w:O} {L:List Asn}
 (S:Tabs w) (X:zL w (·<w.heap.size) A n c d) (y:xC d=true) (R:d[i]? =some f) (t:FSok f k x) (hk:k<16384) (T:∀c∈cs,Qt f c) (W:cs.length<=64)
 (M:∀c∈cs,c.2.1.size<=1000000000/\c.2.2.length<=1000000000) (u:Sp w (fldL A n c i a x++(Z1 g D [.slice B m v] cs::L))):
 Calls prog (YO f.kind) #[.pointer (some ⟨a.G,0,none⟩),.int .i64 (k:Int),.slice B m v] w fun e w' =>e= .returned (.tuple #[])/\∃Q :FA,Q.G=a.G/\Sp w' (fldL A n c i Q (Zc d i f.kind k cs x)++(Z1 g D [.slice B m v] cs::L)):=by
 have z:=u.ls2 (show Z1 g D [.slice B m v] cs∈fldL A n c i a x++(Z1 g D [.slice B m v] cs::L) by simp);have C:m<=64:=by rw [<-z.length];exact W
 obtain⟨-,U, -, -⟩:=WW y R;have Y:=t.ln;have Z:=t.xn;have b4:=t.nn;have b5:=t.pn;rcases(show f.kind=1\/f.kind=2\/f.kind=5\/(f.kind=3\/f.kind=4) by omega)with h1|h2|h5|h34
 ·have o:YO f.kind=110:=(by unfold YO;rw [if_pos h1]);have p:Zc d i f.kind k cs x={x with td:=Y6 x.td k (tokP d i cs),lens:=x.lens++ [((tokP d i cs).length:Int)]}:=(by unfold Zc;rw [if_pos h1]);rw [o,p];refine(B6 S X z y R h1 C (iT d i cs) (by omega) t.sz (by omega) (by omega) (Sp.selT [_,_,_,_,_,_,_,_,_] u [1,0,2,3,4,5,6,7,8]) rfl rfl rfl rfl).mono ?_
  rintro e w' ⟨rfl,E,I,h⟩;refine⟨rfl,{a with A2:=E,c2:=I },rfl,?_⟩;have q :=Sp.selT [_,_,_,_,_,_,_,_,_] h [1,0,2,3,4,5,6,7,8];unfold fldL gsOf;simp only [zG,z6,yO,zx];exact q
 ·have o:YO f.kind=111:=(by unfold YO;rw [if_neg (by omega),if_pos h2]);have p:Zc d i f.kind k cs x={x with td:=Y7 x.td k (setT (YK cs)),tx:=x.tx++ [setT (YK cs)]}:=(by unfold Zc;rw [if_neg (by omega),if_pos h2]);rw [o,p];refine(KJ C (fun c b =>(M c b).1) (by omega) t.sz (by omega) (by omega) (Sp.selT [_,_,_,_,_,_,_,_,_,_] u [1,0,3,4,9,2,5,6,7,8]) rfl rfl).mono ?_
  rintro e w' ⟨rfl,F,J,N,h⟩;refine⟨rfl,{a with A3:=F,c3:=J,s3:=N },rfl,?_⟩;have q :=Sp.selT [_,_,_,_,_,_,_,_,_,_] h [1,0,5,2,3,6,7,8,9,4];unfold fldL gsOf;simp only [zG,z6,yO,zx];exact q
 ·have o:YO f.kind=113:=(by unfold YO;rw [if_neg (by omega),if_neg (by omega),if_pos h5]);have p:Zc d i f.kind k cs x={x with pts:=x.pts++ptsC k cs}:=(by unfold Zc;rw [if_neg (by omega),if_neg (by omega),if_pos h5]);rw [o,p];refine(oF C (fun c b =>(M c b).2) (by omega) (by omega) (Sp.selT [_,_,_,_,_,_,_,_,_,_] u [0,7,8,9,1,2,3,4,5,6]) rfl).mono ?_;rintro e w' ⟨rfl,j,l,s,h⟩
  refine⟨rfl,{a with A5:=j,c5:=l,s5:=s },rfl,?_⟩;have q :=Sp.selT [_,_,_,_,_,_,_,_,_,_] h [0,4,5,6,7,8,9,1,2,3];have r:(ptsC k cs).length=m:=(by unfold ptsC;rw [zK];exact z.length);unfold fldL gsOf;simp only [zG,r];exact q
 ·have o:YO f.kind=112:=(by unfold YO;rw [if_neg (by omega),if_neg (by omega),if_neg (by omega)]);have p:Zc d i f.kind k cs x={x with nums:=x.nums++ [xP (YG cs)],pts:=x.pts++ptsC k cs}:=(by unfold Zc;rw [if_neg (by omega),if_neg (by omega),if_neg (by omega)]);rw [o,p]
  refine(GF C (fun c b =>⟨by rw [(T c b).2.1 h34];exact zC _,(M c b).2⟩) (by omega) (by omega) (by omega) (Sp.selT [_,_,_,_,_,_,_,_,_,_] u [0,5,6,7,8,9,1,2,3,4]) rfl rfl).mono ?_;rintro e w' ⟨rfl,H,K,P,j,l,s,h⟩;refine⟨rfl,{a with A4:=H,c4:=K,s4:=P,A5:=j,c5:=l,s5:=s },rfl,?_⟩;have q :=Sp.selT [_,_,_,_,_,_,_,_,_,_] h [0,6,7,8,9,1,2,3,4,5]
  have r:(ptsC k cs).length=m:=(by unfold ptsC;rw [zK];exact z.length);unfold fldL gsOf;simp only [zG,z6,yO,zx,r];exact q
end Go.Proofs.YtjbhbfaeielbiaaGreatDoor

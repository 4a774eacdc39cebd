import Derived.Test.YtjbhbfaeielbiaaGreatDoorPart43
set_option maxRecDepth 100000
set_option maxHeartbeats 8000000
set_option linter.unusedVariables false
set_option linter.unusedSimpArgs false
namespace Go.Proofs.YtjbhbfaeielbiaaGreatDoor
open Go.Proofs.Tryz
open Rep (rep)
open Go.RowKit Go.Maps
attribute [local go_sem ↓] zU zV
def QC (a:List Field) (i:Nat):Int:=((a[i]?).map (·.kind)).getD 0
def stF (a:List Field) (css:Nat->List yZ) (i:Nat):Nat->FS
 |0=>fs0
 |k+1=>Zc a i (QC a i) k (Xv i (css k)) (stF a css i k)
def yv (a:List Field) (items:List xw) (k:Nat):List yZ:=((items[k]?).bind fun x=>Yk a x.2).getD []
abbrev N8:=List aB×List (List PostD)×aD×List (List aB)×List aD×List Pt
def VH (x:FS):N8:=(Zl x.td,Y2 x.td,x.lens,x.tx,x.nums,x.pts)
def Zz (a:List Field) (items:List xw):List N8:=(List.range a.length).map fun i=>VH (stF a (yv a items) i items.length)
def Uy (a:List Field) (items:List xw):Prop:=YN a items=0/\∀x∈items,∃cs,Yk a x.2=some cs
def qU (a:List Field) (items:List xw) (w:O) (r:Ending) (w' :O):Prop:=
 (∃e,e≠0/\¬Uy a items/\r= .returned (.tuple #[.pointer none,.int .i64 e])/\Below w.heap.size w w')\/
 ∃(Mb:Nat) (b c d:aA),r= .returned (.tuple #[.pointer (some ⟨Mb,0,none⟩),.int .i64 0])/\Uy a items/\
  Sp w' [BlkA Mb 141 #[.slice b items.length items.length,.slice c items.length items.length,.slice d a.length a.length],DatA (.slice b items.length items.length) (items.map (·.1)),DatA (.slice c items.length items.length) (items.map (·.2)),DatA (.slice d a.length a.length) (Zz a items),OldA w.heap.size w]
def OE (G:Nat):V:= .pointer (some ⟨G,0,none⟩)
def Zb (A:aA) (n c:Nat) (a:aE) (X:Nat->FS):List Asn:=(List.range a.length).map fun i=>FldA A n c i (a.getD i 0) (X i)
theorem AP (A:aA) (n c:Nat) (a:aE) (G:Nat) (X:Nat->FS):Zb A n c (a++ [G]) X=Zb A n c a X++ [FldA A n c a.length G (X a.length)]:=by
 unfold Zb;rw [zG,z6,yO,List.range_succ,zw]
 congr 1
 ·refine List.map_congr_left fun i b=> ?_;rw [List.mem_range]at b;rw [zm,zm,z9 b]
 ·simp
theorem eB {A:aA} {n c:Nat} {a:aE} {X:Nat->FS} {i G:Nat} (h:a[i]? =some G):(Zb A n c a X)[i]? =some (FldA A n c i G (X i)):=by
 have b:=zN h;unfold Zb;rw [zH,zq b,yk,zm,h];rfl
theorem E7 {A:aA} {n c:Nat} {b:aE} {X Y:Nat->FS} {i G:Nat} (h:b[i]? =some G) (d:∀j,j≠i->X j=Y j):(Zb A n c b X).set i (FldA A n c i G (Y i))=Zb A n c b Y:=by
 have f:=zN h
 apply yX
 intro j;rw [xO]
 split
 ·rename_i e;subst e;rw [if_pos (by unfold Zb;simpa using f),eB h]
 ·rename_i e;unfold Zb;rw [zH,zH];rcases a:(List.range b.length)[j]? with _|q
  ·rfl
  ·have g:q=j:=by
    rw [List.getElem?_eq_some_iff]at a;obtain⟨_,a⟩:=a;rw [List.getElem_range]at a;exact a.symm
   subst g;simp only [yk];rw [d q (Ne.symm e)]
theorem dA {a:List Field} {items:List xw} {f:Field} {i:Nat} (d:xC a=true) (g:a[i]? =some f) (l:∀x∈items,∀e∈x.2,∀z∈e.numbers,In64 z):∀k,k<=16384->FSok f k (stF a (yv a items) i k)
 |0,_=>FSok.zero f
 |k+1,hk=>by
  have h:=dA d g l k (by omega);have j:QC a i=f.kind:=(by unfold QC;rw [g];rfl);show FSok f (k+1) (Zc a i (QC a i) k (Xv i (yv a items k)) (stF a (yv a items) i k));rw [j]
  have b:(∀c∈yv a items k,Uz c/\∃(i:Nat) (f:Field),a[i]? =some f/\c.1=(i:Int)/\Qt f c)/\(yv a items k).length<=64:=by
   unfold yv;rcases hx:items[k]? with _|x
   ·simp
   ·simp only [Option.bind_some];rcases hc:Yk a x.2 with _|cs
    ·simp
    ·have:=Wu (l x (zD hx)) hc;exact⟨this.2.2.1,this.2.1⟩
  exact h.step (by omega) (WW d g).2.1 (j8 g b.1) (zY (iL _ _) b.2)
theorem zL.in_nums {F:Nat->Prop} {w:O} {A:aA} {n c:Nat} {es:List Entry} (h:zL w F A n c es):∀e∈es,∀z∈e.numbers,In64 z:=fun e d=>by
 obtain⟨k,f⟩:=z8 d;obtain⟨b,off, -, -,a⟩:=h.2.2.2 k e f;obtain⟨i,j,c2, -, -, -,g, -⟩:=Entry.at_ a
 exact g.in64
theorem dY {w:O} {F:Nat->Prop} {A:aA} {n c:Nat} {items:List xw} (h:zL w F A n c items):∀x∈items,∀e∈x.2,∀z∈e.numbers,In64 z:=fun x d=>by
 obtain⟨k,f⟩:=z8 d;obtain⟨b,off, -, -,a⟩:=h.2.2.2 k x f;obtain⟨g,j,i, -, -,d, -⟩:=xw.at_ a
 exact d.in_nums
theorem Sp.readOne {w:O} {L:List Asn} {v:V} {xs a:List yZ} {css:List aF} (h:Sp w (XH v xs css a::L)):∀u∈css.flatten,u.oneCell' =true:=
 Sp.elsOne (h.turn (A' :=ElsA css a) fun S b=>b.2) M0
theorem JJ {α:Type} {i j:Nat} (a b:α) (h:j≠i):(if j<i then a else b)=if j<i+1 then a else b:=by
 by_cases h' :j<i
 ·rw [if_pos h',if_pos (by omega)]
 ·rw [if_neg h',if_neg (by omega)]
theorem oJ:∀items:List xw,uC (items.map (·.1.val))=(items.map (·.1)).flatMap fun u:U64=> [Value.int .u64 (u.val:Int)]
 | []=>rfl
 |x::l=>by
  have h:=oJ l;simp only [uC,yH,zp]at h⊢;rw [h];rfl
theorem lM {w:O} {F:Nat->Prop} {A:aA} {n c:Nat} {items:List xw} (h:zL w F A n c items):∀u∈items.map (·.1),u.val<18446744073709551616:=fun u f=>by
 obtain⟨x,g,rfl⟩:=List.mem_map.1 f;obtain⟨k,d⟩:=z8 g;obtain⟨b,off, -, -,a⟩:=h.2.2.2 k x d;obtain⟨i,l,j, -, -, -,e⟩:=xw.at_ a
 exact e
theorem LW:Elt prog 142 143 1 8:=xt (by kernel_rfl) (by decide) (by kernel_rfl)
theorem LZ:Elt prog 138 38 1 24:=xt (by kernel_rfl) (by decide) (by kernel_rfl)
theorem LX:Elt prog 139 150 6 144:=xt (by kernel_rfl) (by decide) (by kernel_rfl)
theorem GQ:(Tryz.prog.info? 143).bind (fun i=>i.zero)=some (.pointer none):=by kernel_rfl
theorem D7 (n:Nat):(madeCells (Value.pointer none).cells (n*1)).toList=List.replicate n (Value.pointer none):=by
 simp [madeCells,Value.cells,Nat.mod_one,List.map_const']
theorem Sp.fldNew {w:O} {L:List Asn} {A:aA} {n c i G T:Nat} (h:Sp w (BlkA G 152 #[.slice none 0 0,.slice none 0 0,.slice none 0 0,.slice none 0 0,.slice none 0 0,.slice none 0 0,.slice A n c,.int .i64 (i:Int),.map (some T)]::MapA prog 9 T []::L)):Sp w (FldA A n c i G fs0::L):=by
 have b:=Sp.termsIn (rs:= []) (td:= []) rfl h.p1.starNil.p1;have d:=((((((b.elsNil (α:=Pt)).nil 232 2).elsNil (α:=aD)).nil 57 1).elsNil (α:=List aB)).nil 129 1).nil 2 1;exact Sp.fldIn (a:=⟨G,T,none,none,none,none,0,0,0,0, [], [], []⟩) rfl (Sp.selT [_,_,_,_,_,_,_,_,_] d [8,7,0,1,2,3,4,5,6])
theorem K3 {a:aE} {n k G:Nat} (b:a.length=k) (c:k<n):(a.map OE++List.replicate (n - k) (Value.pointer none)).set k (OE G)=(a++ [G]).map OE++List.replicate (n - (k+1)) (.pointer none):=by
 rw [xB _ _ (by rw [zK,b];exact zC _),zK,b,yh,show n - k=(n - (k+1))+1 by omega,List.replicate_succ,yw,zw,zO];rfl
theorem CD {A B:aA} {n c m cm:Nat} {d:List Field} {items:List xw} {w:O} (hV:Vs w) (hs:zL w (·<w.heap.size) A n c d) (hi:zL w (·<w.heap.size) B m cm items)
 (hz:∀x∈items,∀e∈x.2,e.text.size<=100000000/\e.numbers.length<=1000000000):
 Calls prog 32 #[.agg #[.slice A n c],.slice B m cm] w (qU d items w):=by
 obtain⟨H,hH⟩:=eX (w.heap.size);have h0:=(Sp.start w).blkH 24 #[.slice A n c] hH;have hlen:=hs.length;have xs:=hi.length;have c3:=hs.cap;have ca:=hi.cap;have xi:=h0.below M1;obtain⟨w2,br⟩:=eX (w.alloc (.cells #[.slice A n c] 24));rw [br]at h0 xi;have HR:=zA (BW (hV.tabs.on xi) (hs.on xi) (hi.on xi));have HV:=zA hV;have Hs:=zA hs;have HI:=zA hi;have Hz:=zA hz;have M:=zA hlen
 have z:=zA xs;obtain⟨er,ar⟩:=eX (YN d items);rw [ar]at HR;have y4:=zA ar;clear hV hs hi hz hlen xs xi ar;go_enter func32,ntmps32;go_upto_region 1 with fail;have q0:=h0.cl M0 0;clear br hH;go_wp2_with fail;refine HR.o.mono ?_;rintro r w3 ⟨rfl,bg⟩;have E:=h0.grow bg;clear h0 HR q0 bg
 by_cases D:er=0
 ·subst D
  have y6:xC d=true:=by
   have h:=y4.o;unfold YN at h
   split at h
   ·assumption
   ·cases h
  have hn:1<=n/\n<=16:=by
   have h:=y6;unfold xC at h;simp only [zM,decide_eq_true_eq,M.o]at h;exact h.1
  have hm:m<=16384:=by
   have h:=y4.o;unfold YN at h;rw [if_pos y6,z.o]at h
   split at h
   ·cases h
   ·omega
  have y5:=zA y6;clear y6;have q1:=E.cl M0 0;obtain⟨Mb,bf⟩:=eX (w3.heap.size);have F:=E.blkH 141 #[.slice none 0 0,.slice none 0 0,.slice none 0 0] bf;obtain⟨w4,hg⟩:=eX (w3.alloc (.cells #[.slice none 0 0,.slice none 0 0,.slice none 0 0] 141));rw [hg]at F;have q2:=F.cl M1 0;obtain⟨R,hR⟩:=eX (w4.heap.size)
  go_wp2_with (at_make;refine Zk LW (.tmp 28) (.tmp 28) rfl rfl F hR rfl rfl (by omega) (by omega) GQ ?_;intro w5 ht;rw [D7]at ht)
  have h8:Sp w5 [RowA 143 1 (.slice (some ⟨R,0,none⟩) n n) n (([]:aE).map OE++List.replicate (n - 0) (.pointer none)),zz (Zb A n c [] fun _=>fs0),BlkA Mb 141 #[.slice none 0 0,.slice none 0 0,.slice none 0 0],BlkA H 24 #[.slice A n c],OldA w.heap.size w]:=ht.starNil.p1;clear E F ht q1 q2 bf hg hR
  go_loopg [32] n (fun gk cp wr=>∃(k:Nat) (s:aE),cp= .int .i64 k/\k<=n/\gk=n - k/\Hid (s.length=k)/\Sp wr [RowA 143 1 (.slice (some ⟨R,0,none⟩) n n) n (s.map OE++List.replicate (n - k) (.pointer none)),zz (Zb A n c s fun _=>fs0),BlkA Mb 141 #[.slice none 0 0,.slice none 0 0,.slice none 0 0],BlkA H 24 #[.slice A n c],OldA w.heap.size w])
  case atStart=>exact⟨0, [],by go_num,zJ _,rfl,rfl,h8⟩
  case round=>
   obtain⟨k,s,rfl,hk,rfl,U,q⟩:=hrel;clear h8
   by_cases ch:k<n
   ·have q1:=q.cl M3 0;obtain⟨T,hT⟩:=eX (wr.heap.size);have c9:=fun w=>run_makeMap (P:=prog) 144 w;have h9:=(q.mapNew (P:=prog) (k:=9) hT).blkH 152 #[.slice none 0 0,.slice none 0 0,.slice none 0 0,.slice none 0 0,.slice none 0 0,.slice none 0 0,.slice A n c,.int .i64 (k:Int),.map (some T)] (H:=T+1) (by simp [hT])
    obtain⟨w4,hg⟩:=eX ((wr.alloc (.map #[] 0)).alloc (.cells #[.slice none 0 0,.slice none 0 0,.slice none 0 0,.slice none 0 0,.slice none 0 0,.slice none 0 0,.slice A n c,.int .i64 (k:Int),.map (some T)] 152));rw [hg]at h9;have q2:w4.cell? ⟨R,k,none⟩=some (.pointer none):=h9.rowCell M2 (by rw [zR (by rw [zK,U.o];exact zC _),zK,U.o,yh,List.getElem?_replicate_of_lt (by omega)])
    have q3:=h9.rowFree M2 k;have hd:=(Sp.selT [_,_,_] h9 [2,0,1]).rowSet k (OE (T+1));rw [K3 U.o ch]at hd;have a0:=Sp.fldNew (Sp.selT [_,_,_] hd [1,2,0]);have o:=(Sp.selT [_,_,_] a0 [0,2,1]).starPush;have e1:=AP A n c s (T+1) fun _=>fs0;rw [U.o]at e1;rw [<-e1]at o;have bd:Hid ((s++ [T+1]).length=k+1):=(by show _=_;rw [zG,U.o];rfl);clear q h9 hd a0 e1;go_wp2
    go_roundg (n - (k+1))
    ·exact⟨k+1,s++ [T+1],by go_num,by omega,rfl,bd,o.p1⟩
    ·omega
   ·obtain⟨n,rfl,rfl⟩:∃n',k=n' /\n=n' :=⟨n,by omega,rfl⟩;rw [yh,List.replicate_zero,zo]at q
    have az:Sp wr [RowA 143 1 (.slice (some ⟨R,0,none⟩) n n) n (s.map OE),zz (Zb A n c s fun i=>stF d (yv d items) i 0),BlkA Mb 141 #[.slice none 0 0,.slice none 0 0,.slice none 0 0],UA none 0 0 ((items.take 0).map (·.1.val)),RowA 38 1 (.slice none 0 0) 0 ([]:List aF).flatten,ElsA [] ((items.take 0).map (·.2)),BlkA H 24 #[.slice A n c],OldA w.heap.size w]:=by
     have h:=((q.elsNil (α:=List Entry)).nil 38 1).nil 35 1;exact Sp.selT [_,_,_,_,_,_,_,_] h [3,4,5,0,1,2,6,7]
    clear q;go_wp2
    go_loopg [46] m (fun gk cr wr=>∃(k:Nat) (A0 A1:aA) (c0 c1:Nat) (C:List aF),cr= .int .i64 k/\k<=m/\gk=m - k/\Hid (∀j x,j<k->items[j]? =some x->∃cs,Yk d x.2=some cs)/\Sp wr [RowA 143 1 (.slice (some ⟨R,0,none⟩) n n) n (s.map OE),zz (Zb A n c s fun i=>stF d (yv d items) i k),BlkA Mb 141 #[.slice A0 k c0,.slice A1 k c1,.slice none 0 0],UA A0 k c0 ((items.take k).map (·.1.val)),RowA 38 1 (.slice A1 k c1) k C.flatten,ElsA C ((items.take k).map (·.2)),BlkA H 24 #[.slice A n c],OldA w.heap.size w])
    case atStart=>exact⟨0,none,none,0,0, [],by go_num,zJ _,rfl,fun j x hj=>by omega,az⟩
    case round=>
     obtain⟨k,A0,A1,c0,c1,C,rfl,hk,rfl,bl,q⟩:=hrel;clear az
     by_cases cg:k<m
     ·obtain⟨b,off,x,rfl,hh,hb,bo⟩:=HI.o.at_ cg
      obtain⟨Ax,nx,cx,E0,E1,hx,co⟩:=xw.at_ bo
      have E0:wr.cell? _=_:=((q.below M7).cell hb).trans E0;have E1:wr.cell? _=_:=((q.below M7).cell hb).trans E1;obtain⟨sq,x4⟩:=eX (x.1.val);rw [x4]at E0 co;obtain⟨Ib,be⟩:=eX (wr.heap.size);have ha:=q.blkH 40 #[.int .u64 (sq:Int),.slice Ax nx cx] be;obtain⟨w4,hg⟩:=eX (wr.alloc (.cells #[.int .u64 (sq:Int),.slice Ax nx cx] 40));rw [hg]at ha;have ys:=ha.below M8
      have ba:=zA (hx.in_nums);have HC:=zA (FY A Ax n c nx cx d x.2 w4 (HV.o.on ys) (Hs.o.on ys) (hx.on ys) (Hz.o x (zD hh.o)));have Hx:=zA hx;have q0:=ha.cl M7 0;have q1:=ha.cl M0 1;have b3:=zA x4;clear q bo hx ys x4;go_upto_region 14 with fail;clear hg be E0 E1;unfold oH at HC;rcases hcp:Yk d x.2 with _|cs
      ·rw [hcp]at HC;go_wp2_with fail;refine HC.o.mono ?_;rintro r w5 ⟨er,rfl,D,bh⟩;have b6:=zA ((ha.grow bh).below M8);have bb:=zA D;have c5:(er !=0)=true:=(by simpa using D);clear ha HC bh D;go_wp2;go_ret2;exact .inl ⟨er,bb.o,fun g=>(by obtain⟨cs,bk⟩:=g.2 x (zD hh.o);rw [hcp]at bk;cases bk),rfl,b6.o⟩
      ·rw [hcp]at HC;have y3:=zA hcp;clear hcp;go_wp2_with fail;refine HC.o.mono ?_;rintro r w5 ⟨Ac,nc,cc,rfl,ht⟩;have h8:=ha.c1 ht;clear ha HC ht q0 q1;go_upto_region 17 with fail;have o:=(Sp.selT [_,_,_,_,_,_,_,_,_,_] h8 [5,0,1,2,3,4,6,7,8,9]).drew;clear h8
       refine gR [(8,fun w=>w.cell? ⟨Mb,0,none⟩=some (.slice A0 k c0)),(7,fun w=>w.cell? ⟨Ib,0,none⟩=some (.int .u64 (sq:Int)))] (zg (o.cell M5 0) (hB (o.cell M2 0))) ?_;refine gF 0 ?_;refine gF 1 ?_;refine gF 2 ?_;refine gF 3 ?_;refine gL 4 8 M0 ?_;refine gF 5 ?_;refine gL 6 7 M1 ?_;intro l;refine gO 7 fun K p=> ?_;go_simp
       refine p.o _ _ (zg ((ON (o.cell M5 0) _).trans rfl) (hB ((ON (o.cell M2 0) _).trans rfl))) ?_;clear p K l;intro l;refine gO 8 fun K p=> ?_;refine yz cQ (.tmp 65) (.tmp 68) rfl rfl o rfl (cs:= #[.int .u64 (sq:Int)]) rfl rfl rfl (by intro u hu;simp at hu;subst hu;rfl) (by omega) (by omega) ?_;intro A8 c8 w8 b7 ci Z;refine p.o _ _ hA ?_;clear p K l;refine gF 9 ?_
       refine gF 10 ?_;intro l;have y0:=Z.cl M5 0;have y1:=(Z.blkOf M5).frozen 0;refine gO 11 fun K p=> ?_;go_simp;refine p.o _ _ hA ?_;clear p K l;intro l;refine xW (by kernel_rfl) ?_;have e1:uC ((items.take k).map (·.1.val))++(#[Value.int .u64 (sq:Int)]:aG).toList=uC ((items.take (k+1)).map (·.1.val)):=(by rw [zI,hh.o];simp [uC,<-b3.o]);rw [e1]at Z
       have x6:=(Sp.selT [_,_,_,_,_,_] Z [5,1,2,3,4,0]).set 0 (.slice A8 (k+1) c8);obtain⟨w9,x5⟩:=eX (w8.setCell ⟨Mb,0,none⟩ (.slice A8 (k+1) c8));rw [x5]at x6⊢;clear o Z y0 y1 e1 l x5;obtain⟨-, -,b8,hr⟩:=Wu ba.o y3.o;have cn:nx<=64:=(by rw [<-Hx.o.length];unfold Y9 at hr;simp only [zM,decide_eq_true_eq]at hr;exact hr.1);clear b8 hr
       have HB:=zA (vE (w:=w9.drew) (Hx.o.on ((x6.drew).below (.tail _ M8))) cn (fun e he=>(Hz.o x (zD hh.o) e he).2));have o:=x6.drew;clear x6;go_upto_region 18 with fail;refine gR [(9,fun w=>w.cell? ⟨Mb,1,none⟩=some (.slice A1 k c1)),(7,fun w=>w.cell? ⟨Ib,1,none⟩=some (.slice Ax nx cx))] (zg (o.cell M0 1) (hB (o.cell M2 1))) ?_;refine gF 0 ?_;refine gF 1 ?_;refine gF 2 ?_
       refine gF 3 ?_;refine gL 4 9 M0 ?_;refine gF 5 ?_;refine gL 6 7 M1 ?_;intro l;refine gO 7 fun K p=> ?_;go_simp;refine HB.o.mono ?_;rintro r db ⟨A9,rfl,y7⟩;have ho:=o.c1 y7;refine p.o _ _ (zg (ho.cell M1 1) (hB (ho.cell M3 1))) ?_;clear p K l;intro l;clear o y7 HB;have hp:=Sp.selT [_,_,_,_,_,_,_,_] ho [7,0,1,2,3,4,5,6];clear ho
       refine gO 8 fun K p=> ?_;go_simp;refine p.o _ _ (zg ((ON (hp.cell M2 1) _).trans rfl) (hB ((ON (hp.cell M4 1) _).trans rfl))) ?_;clear p K l;intro l;refine gO 9 fun K p=> ?_;refine yz LZ (.tmp 76) (.tmp 80) rfl rfl hp rfl (cs:= #[.slice A9 nx nx]) rfl rfl rfl (by intro u hu;simp at hu;subst hu;rfl) (by omega) (by omega) ?_;intro Ad cd cu c6 c7 W
       refine p.o _ _ hA ?_;clear p K l;refine gF 10 ?_;refine gF 11 ?_;intro l;have y0:=W.cl M2 1;have y1:=(W.blkOf M2).frozen 1;refine gO 12 fun K p=> ?_;go_simp;refine p.o _ _ hA ?_;clear p K l;intro l;refine xW (by kernel_rfl) ?_;have e1:C.flatten++(#[Value.slice A9 nx nx]:aG).toList=(C++ [[Value.slice A9 nx nx]]).flatten:=(by simp)
       have e2:(items.take (k+1)).map (·.2)=(items.take k).map (·.2)++ [x.2]:=(by rw [zI,hh.o];simp);rw [e1]at W;have h6:=(Sp.selT [_,_,_] W [2,0,1]).set 1 (.slice Ad (k+1) cd);obtain⟨cv,ah⟩:=eX (cu.setCell ⟨Mb,1,none⟩ (.slice Ad (k+1) cd));rw [ah]at h6⊢;have h7:=(Sp.selT [_,_,_,_,_,_,_,_,_] h6 [2,8,0,1,3,4,5,6,7]).elsPush;rw [<-e2]at h7
       clear hp W h6 y0 y1 e1 e2 l ah;go_wp2
       obtain⟨LL,aq⟩:=eX ( [ElsA (C++ [[Value.slice A9 nx nx]]) ((items.take (k+1)).map (·.2)),BlkA Mb 141 #[.slice A8 (k+1) c8,.slice Ad (k+1) cd,.slice none 0 0],RowA 38 1 (.slice Ad (k+1) cd) (k+1) (C++ [[Value.slice A9 nx nx]]).flatten,BlkA Ib 40 #[.int .u64 (sq:Int),.slice Ax nx cx],UA A8 (k+1) c8 ((items.take (k+1)).map (·.1.val)),BlkA H 24 #[.slice A n c]])
       have y8:Sp cv (zz (Zb A n c s fun j=>if j<0 then stF d (yv d items) j (k+1)else stF d (yv d items) j k)::DatA (.slice Ac nc cc) cs::RowA 143 1 (.slice (some ⟨R,0,none⟩) n n) n (s.map OE)::OldA w.heap.size w::LL):=by
        rw [<-aq];simp only [Nat.not_lt_zero,if_false];exact Sp.selT [_,_,_,_,_,_,_,_,_,_] h7 [6,3,5,9,0,1,2,4,7,8]
       have bx:=zA aq;clear h7 aq
       go_loopg [86] n (fun gi ct wr=>∃i:Nat,ct= .int .i64 i/\i<=n/\gi=n - i/\Sp wr (zz (Zb A n c s fun j=>if j<i then stF d (yv d items) j (k+1)else stF d (yv d items) j k)::DatA (.slice Ac nc cc) cs::RowA 143 1 (.slice (some ⟨R,0,none⟩) n n) n (s.map OE)::OldA w.heap.size w::LL))
       case atStart=>exact⟨0,by go_num,zJ _,rfl,y8⟩
       case round=>
        obtain⟨i,rfl,cb,rfl,q⟩:=hrel;clear y8
        by_cases hi:i<n
        ·obtain⟨f,hf⟩:∃f,d[i]? =some f:=⟨_,zB (by rw [M.o];exact hi)⟩;obtain⟨G,hG⟩:∃G,s[i]? =some G:=⟨_,zB (by rw [U.o];exact hi)⟩;have t0:wr.cell? ⟨R,i,none⟩=some (.pointer (some ⟨G,0,none⟩)):=q.rowCell M2 (by rw [zH,hG];rfl);obtain⟨I,hI⟩:=eX (wr.heap.size)
         have ak:=(q.starAt (eB (A:=A) (n:=n) (c:=c) (X:=fun j=>if j<i then stF d (yv d items) j (k+1)else stF d (yv d items) j k) hG)).blkH 3 #[.int .i64 (i:Int)] hI;simp only [Nat.lt_irrefl,if_false]at ak;obtain⟨L,au,J⟩:=Sp.fldOut ak.p1;obtain⟨cw,ai⟩:=eX (wr.alloc (.cells #[.int .i64 (i:Int)] 3));rw [ai]at J;clear q ak;subst au;have ce:=(WW y5.o hf).2.1
         have hw:=J.below (show OldA w.heap.size w∈_ from by simp [fldL]);have HK:=zA (CB (w:=cw) (Hs.o.on hw) hf ce (J.cell (show BlkA L.G _ _∈_ from M0) 6) (J.cell (show BlkA L.G _ _∈_ from M0) 7) (J.blkOf (show BlkA L.G 152 _∈_ from M0)).lt);obtain⟨-,xn,ae, -⟩:=Wu ba.o y3.o;have aa:=zA ae;have Hf:=zA hf;have HG:=zA hG;have cj:=@mF prog
         have cf:=LO f.kind;clear hw ae hf hG;go_upto_region 22 with fail;clear ai hI t0
         go_wp2_with (first
          |(go_at_call 62;go_loud (refine HK.o.mono ?_;rintro r cy ⟨rfl,ab⟩;have Q:=Sp.selT [_,_,_,_,_,_,_,_,_,_,_,_,_,_] (J.grow ab) [11,0,1,2,3,4,5,6,7,8,9,10,12,13];have bi:=(Q.ls M0).length;obtain⟨bc,c4,bp,an⟩:=Q.readOut;have ck:nc<=64:=(by rw [<-bi];exact xn);have ax:=zA (BD Ac nc cc bc.flatten cy (by omega) bp.reads an.readOne);clear J Q ab))
          |(go_at_call 64;go_loud (refine ax.o.mono ?_;rintro r dc ⟨Aq,cq,rfl,ag,ad⟩;have ao:=Sp.selT [_,_,_,_,_,_,_,_,_,_,_,_] (an.row ag ad) [0,1,11,2,3,4,5,6,7,8,9,10];have bj:=(ao.rowOf M0).cap;have ay:=zA (uU ao bi ck bj.2.1 bj.2.2);clear ag ad an ao bp ax))
          |(go_at_call 63;go_loud (refine ay.o.mono ?_;rintro r cz ⟨n',css',rfl,da,a6⟩;clear ay))
          |fail)
         have hd:Sp cz (fldL A n c i L (stF d (yv d items) i k)++(Z1 [.slice Ac nc cc] cs [.slice Aq n' cq] (Xv i cs)::BlkA I 3 #[.int .i64 (i:Int)]::zz ((Zb A n c s fun j=>if j<i then stF d (yv d items) j (k+1)else stF d (yv d items) j k).eraseIdx i)::RowA 143 1 (.slice (some ⟨R,0,none⟩) n n) n (s.map OE)::OldA w.heap.size w::LL)):=Sp.selT [_,_,_,_,_,_,_,_,_,_,_] a6.bothIn [2,3,4,5,6,7,8,9,10,0,1]
         have hw:=hd.below (show OldA w.heap.size w∈_ from by simp [fldL]);refine(vD (HV.o.tabs.on hw) (Hs.o.on hw) y5.o Hf.o (dA y5.o Hf.o (dY HI.o) k (by omega)) (by omega) (j8 Hf.o aa.o) (zY (iL _ _) xn) (fun c hc=>by have h:=(aa.o c (List.mem_filter.1 hc).1).1;exact⟨zY h.1 (by decide),zY h.2 (by decide)⟩) hd).mono ?_;rintro r dd ⟨rfl,a',b5,ap⟩
         have bq:Zc d i f.kind k (Xv i cs) (stF d (yv d items) i k)=stF d (yv d items) i (k+1):=by
          have h1:QC d i=f.kind:=(by unfold QC;rw [Hf.o];rfl);have h2:yv d items k=cs:=(by unfold yv;rw [hh.o];simp [y3.o]);show _=Zc d i (QC d i) k (Xv i (yv d items k)) _;rw [h1,h2]
         rw [bq]at ap;have a7:=Sp.fldIn b5 ap;have a8:=(Sp.selT [_,_,_,_] a7 [1,0,3]).readBack;have a9:=Sp.starSet (Sp.selT [_,_,_] a8 [1,2,0]) (by unfold Zb;rw [zK,xg,U.o];exact hi)
         have av:=E7 (A:=A) (n:=n) (c:=c) (X:=fun j=>if j<i then stF d (yv d items) j (k+1)else stF d (yv d items) j k) (Y:=fun j=>if j<i+1 then stF d (yv d items) j (k+1)else stF d (yv d items) j k) HG.o (fun j hj=>JJ _ _ hj);simp only [Nat.lt_succ_self,if_true]at av;rw [av]at a9;clear a6 hd hw ap bq a7 a8 av cj cf;go_wp2
         go_roundg (n - (i+1))
         ·exact⟨i+1,by go_num,by omega,rfl,a9⟩
         ·omega
        ·obtain rfl:i=n:=by omega
         have hX:(Zb A i c s fun j=>if j<i then stF d (yv d items) j (k+1)else stF d (yv d items) j k)=Zb A i c s fun j=>stF d (yv d items) j (k+1):=by
          unfold Zb;refine List.map_congr_left fun j hj=> ?_;rw [List.mem_range,U.o]at hj;simp only [if_pos hj]
         rw [hX,<-bx.o]at q;have bz:=Sp.selT [_,_,_,_,_,_,_,_,_,_] q [2,0,5,8,6,4,9,3]
         have bm:Hid (∀j x,j<k+1->items[j]? =some x->∃cs,Yk d x.2=some cs):=fun j y hj hy=>by
          by_cases h:j<k
          ·exact bl.o j y h hy
          ·obtain rfl:j=k:=by omega
           rw [hh.o]at hy;cases hy;exact⟨cs,y3.o⟩
         clear q hX;go_wp2
         go_roundg (m - (k+1))
         ·exact⟨k+1,A8,Ad,c8,cd,_,by go_num,by omega,rfl,bm,bz⟩
         ·omega
     ·obtain rfl:k=m:=by omega
      rw [zF (by rw [z.o];exact zC _)]at q
      have Z:Sp wr [zz ((Zb A n c s fun j=>stF d (yv d items) j k).drop 0),RowA 143 1 (.slice (some ⟨R,0,none⟩) n n) n (s.map OE),BlkA Mb 141 #[.slice A0 k c0,.slice A1 k c1,.slice none 0 0],RowA 150 6 (.slice none 0 0) 0 ([]:List aF).flatten,ElsA ([]:List aF) ((Zz d items).take 0),UA A0 k c0 (items.map (·.1.val)),RowA 38 1 (.slice A1 k c1) k C.flatten,ElsA C (items.map (·.2)),BlkA H 24 #[.slice A n c],OldA w.heap.size w]:=by
       have h:=(q.elsNil (α:=N8)).nil 150 6;exact Sp.selT [_,_,_,_,_,_,_,_,_,_] h [3,2,4,0,1,5,6,7,8,9]
      clear q;go_wp2
      go_loopg [103] n (fun gi bw wr=>∃(i:Nat) (A2:aA) (c2:Nat) (xb:List aF),bw= .int .i64 i/\i<=n/\gi=n - i/\Sp wr [zz ((Zb A n c s fun j=>stF d (yv d items) j k).drop i),RowA 143 1 (.slice (some ⟨R,0,none⟩) n n) n (s.map OE),BlkA Mb 141 #[.slice A0 k c0,.slice A1 k c1,.slice A2 i c2],RowA 150 6 (.slice A2 i c2) i xb.flatten,ElsA xb ((Zz d items).take i),UA A0 k c0 (items.map (·.1.val)),RowA 38 1 (.slice A1 k c1) k C.flatten,ElsA C (items.map (·.2)),BlkA H 24 #[.slice A n c],OldA w.heap.size w])
      case atStart=>exact⟨0,none,0, [],by go_num,zJ _,rfl,Z⟩
      case round=>
       obtain⟨i,A2,c2,xb,rfl,cb,rfl,q⟩:=hrel;clear Z
       by_cases hi:i<n
       ·obtain⟨f,hf⟩:∃f,d[i]? =some f:=⟨_,zB (by rw [M.o];exact hi)⟩;obtain⟨G,hG⟩:∃G,s[i]? =some G:=⟨_,zB (by rw [U.o];exact hi)⟩;have t0:wr.cell? ⟨R,i,none⟩=some (.pointer (some ⟨G,0,none⟩)):=q.rowCell M1 (by rw [zH,hG];rfl)
        have bn:(Zb A n c s fun j=>stF d (yv d items) j k).drop i=FldA A n c i G (stF d (yv d items) i k)::(Zb A n c s fun j=>stF d (yv d items) j k).drop (i+1):=by
         obtain⟨hl,he⟩:=List.getElem?_eq_some_iff.1 (eB (A:=A) (n:=n) (c:=c) (X:=fun j=>stF d (yv d items) j k) hG);rw [za hl,he]
        rw [bn]at q;have ok:=dA y5.o hf (dY HI.o) k (by omega)
        have aw:(Zz d items).take (i+1)=(Zz d items).take i++ [VH (stF d (yv d items) i k)]:=by
         rw [zI];unfold Zz;rw [zH,zq (by rw [M.o];exact hi),z.o];rfl
        obtain⟨x,hx⟩:=eX (stF d (yv d items) i k);rw [hx]at q ok aw;obtain⟨L,au,J⟩:=Sp.fldOut q.starOut;subst au;have b2:=ok.ln;have h1:=Sp.ints (Sp.selT [_,_,_,_,_,_,_,_,_] J [2,3,4,5,6,7,8,0,1]) (fun v hv=>ok.li v hv);have h2:=Sp.els (α:=List aB) (Sp.selT [_,_,_] h1 [1,2,0]);have h3:=Sp.els (α:=aD) (Sp.selT [_,_,_,_] h2 [2,3,1,0])
        have h4:=Sp.els (α:=Pt) (Sp.selT [_,_,_,_,_] h3 [3,4,2,1,0]);have h5:=(Sp.selT [_,_,_,_,_,_] h4 [5,4,2,1,3,0]).drew;have HD:=zA (CC (N:=262144*k) ok.sz (by omega) ok.it h5 rfl rfl rfl rfl rfl rfl rfl);have b4:=zA aw;clear q J h1 h2 h3 h4 bn aw ok hf hx hG b2;go_upto_region 28 with fail;refine gR [(8,fun w=>w.cell? ⟨Mb,2,none⟩=some (.slice A2 i c2))] (hB (h5.cell M8 2)) ?_
        refine gF 0 ?_;refine gF 1 ?_;refine gF 2 ?_;refine gF 3 ?_;refine gL 4 8 M0 ?_;refine gF 5 ?_;intro l;refine gO 6 fun K p=> ?_;go_simp;refine HD.o.mono ?_;rintro r w5 ⟨v0,v1,rfl,Q⟩;refine p.o _ _ (hB (Q.cell M8 2)) ?_;clear p K l;intro l;clear h5 HD t0;have al:=Sp.selT [_,_,_,_,_,_,_,_,_,_] Q [9,0,1,2,3,4,5,6,7,8]
        have af:∀u∈ [v0,v1,Value.slice L.A2 x.lens.length x.lens.length,.slice L.A3 x.tx.length x.tx.length,.slice L.A4 x.nums.length x.nums.length,.slice L.A5 x.pts.length x.pts.length],u.oneCell' =true:=by
         intro u hu;simp only [yx,xZ,or_false]at hu;rcases hu with rfl|rfl|rfl|rfl|rfl|rfl
         ·exact Rep.one (Q.dat M0) (by simp)
         ·exact Rep.one (Q.dat M1) (by simp)
         all_goals rfl
        clear Q;refine gO 7 fun K p=> ?_;go_simp;refine p.o _ _ (hB ((ON (al.cell (.tail _ M8) 2) _).trans rfl)) ?_;clear p K l;intro l;refine gO 8 fun K p=> ?_
        refine yz LX (.tmp 111) (.tmp 114) rfl rfl al rfl (cs:= #[v0,v1,.slice L.A2 x.lens.length x.lens.length,.slice L.A3 x.tx.length x.tx.length,.slice L.A4 x.nums.length x.nums.length,.slice L.A5 x.pts.length x.pts.length]) rfl rfl rfl af (by omega) (by omega) ?_;intro A8 c8 w8 b7 ci x8;refine p.o _ _ hA ?_;clear p K l;refine gF 9 ?_;refine gF 10 ?_;intro l
        have y0:=x8.cl (.tail _ M8) 2;have y1:=(x8.blkOf (t:=141) (.tail _ M8)).frozen 2;refine gO 11 fun K p=> ?_;go_simp;refine p.o _ _ hA ?_;clear p K l;intro l;refine xW (by kernel_rfl) ?_;have am:=(Sp.selT [_,_,_,_,_,_,_,_,_,_] x8 [9,0,1,2,3,4,5,6,7,8]).set 2 (.slice A8 (i+1) c8);obtain⟨w9,x5⟩:=eX (w8.setCell ⟨Mb,2,none⟩ (.slice A8 (i+1) c8));rw [x5]at am⊢
        have g1:=(Sp.selT [_,_,_,_,_,_,_,_] am [6,7,0,1,2,3,4,5]).mk2 (x:=(x.nums,x.pts)) (fun S a b=>⟨_,_,rfl,a,b⟩);have g2:=(Sp.selT [_,_,_,_,_,_,_] g1 [6,0,1,2,3,4,5]).mk2 (x:=(x.tx,x.nums,x.pts)) (fun S a b=>⟨_,_,rfl,a,b⟩);have g3:=(Sp.selT [_,_,_,_,_,_] g2 [5,0,1,2,3,4]).mk2 (x:=(x.lens,x.tx,x.nums,x.pts)) (fun S a b=>⟨_,_,rfl,a,b⟩)
        have g4:=(Sp.selT [_,_,_,_,_] g3 [4,0,1,2,3]).mk2 (x:=(Y2 x.td,x.lens,x.tx,x.nums,x.pts)) (fun S a b=>⟨_,_,rfl,a,b⟩);have g5:=(Sp.selT [_,_,_,_] g4 [3,0,1,2]).mk2 (x:=VH x) (fun S a b=>⟨_,_,rfl,a,b⟩);have g6:=(Sp.selT [_,_,_,_,_,_] g5 [0,5,1,2,3,4]).elsPush;rw [<-b4.o]at g6
        have e1:xb.flatten++(#[v0,v1,Value.slice L.A2 x.lens.length x.lens.length,.slice L.A3 x.tx.length x.tx.length,.slice L.A4 x.nums.length x.nums.length,.slice L.A5 x.pts.length x.pts.length]:aG).toList=(xb++ [[v0]++([v1]++([Value.slice L.A2 x.lens.length x.lens.length]++([Value.slice L.A3 x.tx.length x.tx.length]++([Value.slice L.A4 x.nums.length x.nums.length]++ [Value.slice L.A5 x.pts.length x.pts.length]))))]).flatten:=(by simp)
        rw [e1]at g6;have g7:=Sp.selT [_,_,_,_,_,_,_,_,_,_] g6 [3,4,1,2,0,5,6,7,8,9];clear al x8 am g1 g2 g3 g4 g5 g6 e1 y0 y1 l x5 af;go_wp2
        go_roundg (n - (i+1))
        ·exact⟨i+1,A8,c8,_,by go_num,by omega,rfl,g7⟩
        ·omega
       ·obtain rfl:i=n:=by omega
        rw [zF (by unfold Zz;rw [zK,xg,M.o];exact zC _)]at q;have o:=(Sp.selT [_,_,_] q [2]).drew;have b0:=(o.rowOf M3).cap;have b1:=(o.rowOf M4).cap;have b2:=(o.rowOf M1).cap;clear q;go_upto_region 30 with fail
        refine xV [(7,fun w=>w.cell? ⟨Mb,0,none⟩=some (.slice A0 k c0)),(12,fun w=>w.cell? ⟨Mb,1,none⟩=some (.slice A1 k c1)),(17,fun w=>w.cell? ⟨Mb,2,none⟩=some (.slice A2 i c2))] (by kernel_rfl) (zg (o.cell M0 0) (zg (o.cell M0 1) (hB (o.cell M0 2)))) (fun l=> ?_);obtain⟨wd,bs⟩:=eX (wr.drew);rw [bs]at l o⊢;clear bs;revert l;refine gF 0 ?_;refine gF 1 ?_;refine gF 2 ?_
        refine gF 3 ?_;refine gF 4 ?_;refine gF 5 ?_;refine gL 6 7 M0 ?_;refine gF 8 ?_;refine gF 9 ?_;refine gF 10 ?_;refine gL 11 12 M1 ?_;refine gF 13 ?_;refine gF 14 ?_;refine gF 15 ?_;refine gL 16 17 M2 ?_;intro l;refine gO 7 fun K p=> ?_;go_simp;refine(KA A0 k c0 _ b0.2.1 b0.2.2).mono ?_;rintro e w' ⟨rfl,rfl⟩;refine p.o _ _ (xz l) ?_;clear p K l;intro l
        refine gO 12 fun K p=> ?_;go_simp;refine(KD A1 k c1 _ b1.2.1 b1.2.2).mono ?_;rintro e w' ⟨rfl,rfl⟩;refine p.o _ _ (xz l) ?_;clear p K l;intro l;refine gO 17 fun K p=> ?_;go_simp;refine(KC A2 i c2 _ b2.2.1 b2.2.2).mono ?_;rintro e w' ⟨rfl,rfl⟩;refine p.o _ _ (xz l) ?_;clear p K l;intro l;have y0:=o.cl M0 0;have k0:=(o.blkOf M0).frozen 0;revert l;refine gF 18 ?_
        refine gF 19 ?_;intro l;refine gO 20 fun K p=> ?_;go_simp;refine p.o _ _ hA ?_;clear p K l;intro l;have E:=o.set 0 (.slice A0 k k);obtain⟨x1,bt⟩:=eX (wd.setCell ⟨Mb,0,none⟩ (.slice A0 k k));rw [bt]at E l⊢;clear bt o;have y1:=E.cl M0 1;have k1:=(E.blkOf M0).frozen 1;revert l;refine gF 21 ?_;refine gF 22 ?_;intro l;refine gO 23 fun K p=> ?_;go_simp
        refine p.o _ _ hA ?_;clear p K l;intro l;have F:=E.set 1 (.slice A1 k k);obtain⟨x2,bu⟩:=eX (x1.setCell ⟨Mb,1,none⟩ (.slice A1 k k));rw [bu]at F l⊢;clear bu E;have y2:=F.cl M0 2;have k2:=(F.blkOf M0).frozen 2;revert l;refine gF 24 ?_;refine gF 25 ?_;intro l;refine gO 26 fun K p=> ?_;go_simp;refine p.o _ _ hA ?_;clear p K l;intro l
        have aj:=F.set 2 (.slice A2 i i);obtain⟨x3,bv⟩:=eX (x2.setCell ⟨Mb,2,none⟩ (.slice A2 i i));rw [bv]at aj l⊢;clear bv F y0 y1 y2 k0 k1 k2;refine xW (by kernel_rfl) ?_;have a1:=(Sp.selT [_,_,_,_,_,_] aj [3,0,1,2,4,5]).clip;have e1:=oJ items;rw [e1]at a1;have a2:=a1.flat (α:=U64) (fun u hu=>⟨rfl,lM HI.o u hu⟩)
        have a3:=((Sp.selT [_,_,_,_,_,_] a2 [4,5,0,1,2,3]).clip).els (α:=List Entry);have a4:=((Sp.selT [_,_,_,_,_] a3 [3,4,0,1,2]).clip).els (α:=N8);have a5:=Sp.selT [_,_,_,_,_,_] a4 [3,2,1,0,5];clear aj a1 a2 a3 a4 e1 l b0 b1 b2;go_wp2;go_ret2;refine .inr ⟨Mb,A0,A1,A2,?_,⟨y4.o,fun x hx=> ?_⟩,?_⟩
        ·rfl
        ·obtain⟨j,hj⟩:=z8 hx;exact bl.o j x (by rw [<-z.o];exact zN hj) hj
        ·rw [z.o,M.o];exact a5
 ·go_wp2;go_ret2;exact .inl ⟨er,D,fun g=>D (y4.o.symm.trans g.1),rfl,E.below M1⟩
open Go.RowKit
theorem tU {docs:N7} (q:docs.length<=16384) (a:∀d∈docs,Y9 d=true/\QB d):(ZB docs).length<=6000000000:=by
 have k:(docs.flatMap docB).length<=300000*docs.length:=Wr fun d b=>nX (a d b).1 (a d b).2
 have l:((yL docs).flatMap ZF).length<=20*(yL docs).length:=Wr fun g c=>by
  have e:=XN (f:=grpB) c;rw [XO]at e;have h:=XD c;rw [ZK]at h;have i:=ya (n:=g.length) (by omega);have j:=ya (n:=(grpB g).length) (by omega);unfold ZF;rw [zG];omega
 have m:=Qi docs;have o:=ya (n:=docs.length) (by omega);have p:=ya (n:=(yL docs).length) (by omega);unfold ZB;rw [XO];simp only [zG];omega
def seqI (u:U64):Int:=IntKind.i64.wrap (u.val:Int)
theorem oQ (u:U64): -9223372036854775808<=seqI u/\seqI u<=9223372036854775807:=by
 unfold seqI;rw [zT];omega
def QU (a:List U64):aC:=zP a.length++putL (a.map seqI)
def YU (f:Field) (x:N8):List aC:=Ze f x.1 x.2.1 x.2.2.1 x.2.2.2.1 x.2.2.2.2.1 x.2.2.2.2.2
def XG (b:List Field) (a:List N8) (k:Nat):List aC:=((b.zip a).take k).flatMap fun p=>YU p.1 p.2
def xl (b:List Field) (c:List U64) (docs:N7) (a:List N8):List aC:=QU c::ZB docs::XG b a b.length
theorem DB (f:Field) (x:N8):(YU f x).length<=3:=by
 unfold YU Ze
 split
 ·simp
 split
 ·simp
 split
 ·simp
 ·simp
theorem JX:Elt prog 179 36 1 24:=xt (by kernel_rfl) (by decide) (by kernel_rfl)
theorem Sp.refs {α:Type} [Rep α] {w w0:O} {L:List Asn} {A:aA} {k c B:Nat} {e:TypeId} {v:aF} {xs:List (List α)} (h:Sp w L) (m:RowA e 1 (.slice A k c) k v∈L) (o:OldA B w0∈L) (D:xs.length=k)
 (G:∀(j:Nat) (x:List α),xs[j]? =some x->∃A n c,v[j]? =some (.slice A n c)/\zL w0 (·<B) A n c x):zL w (·<w.heap.size) A k c xs:=by
 have C:=h.below o
 have hB:B<=w.heap.size:=by
  obtain⟨S,H,y,z⟩:=h.get o;exact zY y z.size
 have a:=h.rowOf m;refine⟨D,a.cap.2.1,a.cap.2.2,fun j x s=> ?_⟩;obtain⟨g,t,l,d,f⟩:=G j x s;have I:=zN s;obtain⟨b,rfl, -, -⟩:=a.at_ (by omega)
 refine⟨b,0,rfl,(a.lt b rfl).2, [.slice g t l],⟨g,t,l,rfl,(f.keep (fun p E=>C.cell E) fun q F=>zX F hB)⟩,fun i u r=> ?_⟩;rcases i with _|i
 ·cases r;have:=h.rowCell m d;rw [zx,show Rep.size (List α)=1 from rfl,yr,yt];exact this
 ·simp at r
theorem Sp.unels {α:Type} [Rep α] {w:O} {L:List Asn} {A:aA} {n c:Nat} {xs:List α} (h:Sp w (DatA (.slice A n c) xs::L)):∃css:List aF,css.length=n/\RC w (Rep.size α) A n css.flatten/\Sp w (ElsA css xs::L):=by
 obtain⟨S,g,⟨⟨A',n',k,e,f⟩,b⟩,i⟩:=h;cases e;obtain⟨css,d,j,a⟩:=f.css b;exact⟨css,by rw [d,f.length],a,S,g,⟨⟨d,j⟩,b⟩,i⟩
theorem zL.rbs {w:O} {A:aA} {n c:Nat} {ls:List aC} (h:zL w (·<w.heap.size) A n c ls):OY w A n ls:=
 ⟨h.length,fun k l j=>by
  obtain⟨b,off,rfl,f,i⟩:=h.2.2.2 k l j;obtain⟨A',n',d,g,a⟩:=i.list;have e:=a.length;subst e;exact⟨b,off,A',d,rfl,f,g,a.rb fun _ h=>h,zY a.cap.1 a.cap.2⟩⟩
theorem jU {B:Nat}:∀{ls:List aC},(∀s∈ls,s.length<=B)->ls.flatten.length<=B*ls.length
 | [],_=>by simp
 |s::ls,h=>by
  have b:=h s (by simp);have c:=jU (B:=B) (ls:=ls) fun t a=>h t (by simp [a]);rw [yM,zG,z6,Nat.mul_add];omega
theorem N8.at_ {w:O} {F:Nat->Prop} {b off k:Nat} {x:N8} (h:xp w F b off k x):∃(c d e f g i:aA) (p j q l r c2 s m t n u o:Nat),
 (w.cell? ⟨b,off+k*6,none⟩=some (.slice c p j)/\w.cell? ⟨b,off+k*6+1,none⟩=some (.slice d q l)/\w.cell? ⟨b,off+k*6+2,none⟩=some (.slice e r c2)/\w.cell? ⟨b,off+k*6+3,none⟩=some (.slice f s m)/\w.cell? ⟨b,off+k*6+4,none⟩=some (.slice g t n)/\w.cell? ⟨b,off+k*6+5,none⟩=some (.slice i u o))/\
 zL w F c p j x.1/\zL w F d q l x.2.1/\zL w F e r c2 x.2.2.1/\zL w F f s m x.2.2.2.1/\zL w F g t n x.2.2.2.2.1/\zL w F i u o x.2.2.2.2.2:=by
 obtain⟨cs,⟨_,_,rfl,⟨c,p,j,rfl,v⟩,_,_,rfl,⟨d,q,l,rfl,y⟩,_,_,rfl,⟨e,r,c2,rfl,z⟩,_,_,rfl,⟨f,s,m,rfl,A⟩,_,_,rfl,⟨g,t,n,rfl,B⟩,⟨i,u,o,rfl,C⟩⟩,a⟩:=h;exact⟨c,d,e,f,g,i,p,j,q,l,r,c2,s,m,t,n,u,o,⟨a 0 _ rfl,a 1 _ rfl,a 2 _ rfl,a 3 _ rfl,a 4 _ rfl,a 5 _ rfl⟩,v,y,z,A,B,C⟩
theorem tD {A A0 A1 A2:aA} {n c m c0 c1 c2 Mb:Nat} {r:List Field} {B:List U64} {docs:N7} {a:List N8} {w:O}
 (F:zL w (·<w.heap.size) A n c r) (ak:w.cell? ⟨Mb,0,none⟩=some (.slice A0 m c0)) (x8:w.cell? ⟨Mb,1,none⟩=some (.slice A1 m c1)) (ys:w.cell? ⟨Mb,2,none⟩=some (.slice A2 n c2)) (S:Mb<w.heap.size)
 (hu:zL w (·<w.heap.size) A0 m c0 B) (hd:zL w (·<w.heap.size) A1 m c1 docs) (hv:zL w (·<w.heap.size) A2 n c2 a) (hm:m<=16384) (hn:n<=16) (ae:∀d∈docs,Y9 d=true/\QB d)
 (hi:∀(k:Nat) (f:Field) (x:N8),r[k]? =some f->a[k]? =some x->InvOk f x.1 x.2.1 x.2.2.1 x.2.2.2.1 x.2.2.2.2.1 x.2.2.2.2.2) (hk:∀f∈r,(1<=f.kind/\f.kind<=5)/\(f.kind=5->1<=f.dims/\f.dims<=4)):
 Calls prog 34 #[.agg #[.slice A n c],.pointer (some ⟨Mb,0,none⟩)] w (fH (xR 1 (xl r B docs a)=true/\∀(k:Nat) (f:Field) (x:N8),r[k]? =some f->a[k]? =some x->WA f x.1 x.2.1) w fun v w' =>∃A' q,v= .slice A' q q/\xR 1 (xl r B docs a)=true/\(∀(k:Nat) (f:Field) (x:N8),r[k]? =some f->a[k]? =some x->WA f x.1 x.2.1)/\Sp w' [BA A' q q (ZQ 1 (xl r B docs a)),OldA w.heap.size w]):=by
 obtain⟨H,hH⟩:=eX (w.heap.size);have hc:=(Sp.start w).blkH 24 #[.slice A n c] hH;have a3:=hu.cap;have ao:=hd.cap;have ap:=hv.cap;have Hs:=zA F;have Hu:=zA hu;have Hd:=zA hd;have Hv:=zA hv;have x5:=zA ae;have Hi:=zA hi;have Hk:=zA hk;have a5:=zA ys;have a6:=zA S;clear F hu hd hv ae hi hk;obtain⟨w2,ag⟩:=eX (w.alloc (.cells #[.slice A n c] 24));rw [ag]at hc
 go_enter func34,ntmps34;go_upto_region 3 with fail;clear ag hH;have x2:Sp w2 [IA none 0 0 ((B.take 0).map seqI),RowA 36 1 (.slice none 0 0) 0 [],BlkA H 24 #[.slice A n c],OldA w.heap.size w]:=(hc.nil 36 1).nil 2 1;have q0:w2.cell? ⟨Mb,0,none⟩=some (.slice A0 m c0):=((hc.below M1).cell S).trans ak;clear hc;go_wp2
 go_loopg [5,6,17] m (fun gk v5 v6 a1 wr=>∃(k:Nat) (A5 A6:aA) (c5 c6:Nat) (vs:aF),v5= .slice A5 k c5/\v6= .slice A6 k c6/\a1= .int .i64 k/\k<=m/\gk=m - k/\Hid (vs.length=k/\∀(j:Nat) (x:List Entry),(docs.take k)[j]? =some x->∃A n c,vs[j]? =some (.slice A n c)/\zL w (·<w.heap.size) A n c x)/\Sp wr [IA A5 k c5 ((B.take k).map seqI),RowA 36 1 (.slice A6 k c6) k vs,BlkA H 24 #[.slice A n c],OldA w.heap.size w])
 case atStart=>exact⟨0,none,none,0,0, [],rfl,rfl,by go_num,zJ _,rfl,⟨rfl,fun j x Y=>by simp at Y⟩,x2⟩
 case round=>
  obtain⟨k,A5,A6,c5,c6,vs,rfl,rfl,rfl,hk,rfl,Q,L⟩:=hrel;clear x2 q0
  by_cases y8:k<m
  ·obtain⟨b,off,u,rfl,ax,hb,hp⟩:=Hu.o.at_ y8
   obtain⟨b2,Z,d,rfl,aq,y1,h3⟩:=Hd.o.at_ y8
   obtain⟨cu,⟨rfl,a4⟩,y2⟩:=hp;have E0:wr.cell? ⟨b,off+k,none⟩=some (.int .u64 (u.val:Int)):=((L.below M3).cell hb).trans (by have h:=y2 0 _ rfl;simpa [show Rep.size U64=1 from rfl]using h);obtain⟨Ad,nd,cd,xi,y3⟩:=h3.list;have E1:wr.cell? _=_:=((L.below M3).cell y1).trans xi;have q1:wr.cell? ⟨Mb,1,none⟩=some (.slice (some ⟨b2,Z,none⟩) m c1):=((L.below M3).cell S).trans x8
   obtain⟨z,hz⟩:=eX (IntKind.i64.wrap (u.val:Int));have az:Hid (seqI u=z):=hz;have aj:=zA y3;clear h3 y2 y3
   go_wp2_with (first
    |(at_builtin;refine yC Zs (.tmp 22) (.tmp 25) rfl rfl L rfl (cs:= #[.int .i64 z]) rfl rfl rfl (by intro u hu;simp at hu;subst hu;rfl) (by omega) (by omega) ?_;intro A8 c8 w8 an aw p;have q2:w8.cell? ⟨Mb,1,none⟩=some (.slice (some ⟨b2,Z,none⟩) m c1):=((p.below M3).cell S).trans x8;have E2:w8.cell? ⟨b2,Z+k,none⟩=some (.slice Ad nd cd):=((p.below M3).cell y1).trans xi)
    |(at_builtin;refine yC JX (.tmp 27) (.tmp 36) rfl rfl p.p1 rfl (cs:= #[.slice Ad nd cd]) rfl rfl rfl (by intro u hu;simp at hu;subst hu;rfl) (by omega) (by omega) ?_;intro A9 c9 w9 a8 be t)
    |fail)
   have e1:ints ((B.take k).map seqI)++(#[Value.int .i64 z]:aG).toList=ints ((B.take (k+1)).map seqI):=(by rw [zI,ax.o,<-az.o];simp [Go.Proofs.YtjbhbfaeielbiaaGreatDoor.ints]);have ht:=t.p1;rw [e1]at ht
   have X:Hid ((vs++ [Value.slice Ad nd cd]).length=k+1/\∀(j:Nat) (x:List Entry),(docs.take (k+1))[j]? =some x->∃A n c,(vs++ [Value.slice Ad nd cd])[j]? =some (.slice A n c)/\zL w (·<w.heap.size) A n c x):=by
    refine⟨by rw [zG,Q.o.1];rfl,fun j x Y=> ?_⟩;rw [zI,aq.o]at Y;have hl:(docs.take k).length=k:=(by rw [zr,Hd.o.length];omega);rcases zk j k with hj|hj
    ·rw [z9 (by omega)]at Y;rw [z9 (by rw [Q.o.1];exact hj)];exact Q.o.2 j x Y
    ·rw [zR (by omega),hl]at Y;rw [zR (by rw [Q.o.1];exact hj),Q.o.1];have h0:=zN Y;simp at h0;obtain rfl:j=k:=by omega
     rw [yh]at Y⊢;cases Y;exact⟨Ad,nd,cd,rfl,aj.o⟩
   clear L p t e1;go_wp2
   go_roundg (m - (k+1))
   ·exact⟨k+1,A8,A9,c8,c9,_,rfl,rfl,by go_num,by omega,rfl,X,ht.p1.p1⟩
   ·omega
  ·obtain rfl:k=m:=by omega
   have ay:=Hu.o.length;have ar:=Hd.o.length;rw [zF (by omega)]at L
   have X:Hid (∀(j:Nat) (x:List Entry),docs[j]? =some x->∃A n c,vs[j]? =some (.slice A n c)/\zL w (·<w.heap.size) A n c x):=by
    have h:=Q.o.2;rw [zF (by omega)]at h;exact h
   have xn:=zA (ZR (c:=0) L (RB.none_ _) (by omega) (x:=k) (by omega));have bi:IntKind.u64.wrap (k:Int)=(k:Int):=(by rw [zW];omega);clear L ay;go_wp2_with fail;refine xn.o.mono ?_;rintro e w3 ⟨A3,m3,rfl,bb,he⟩;have h6:=(he.rowOf M1).cap;have xs:=zA (Qc A5 k c5 (B.map seqI) w3 (by omega) h6.2.1 h6.2.2 (he.rc M1) (fun z hz=>by obtain⟨u,_,rfl⟩:=List.mem_map.1 hz;exact oQ u))
   clear xn h6;go_wp2_with fail;refine xs.o.mono ?_;rintro e w4 ⟨A4,m4,rfl,bc,x3⟩;have C:=(he.c1 x3).p1;have Hr:=zA (C.rb M1).1.reads;clear xs he x3;go_wp2_with (at_builtin;refine yR yW (.tmp 42) (.tmp 44) rfl rfl C rfl rfl Hr.o (xd _) (by omega) (by omega) ?_;intro ha hh w6 a7 bd o);rw [<-y9]at o;have h8:=(o.rb M0).1.len
   have x1:=zA (gN A6 k c6 docs w6 (Sp.refs o M3 (.tail _ M4) ar X.o) hm x5.o);clear C;go_wp2_with fail;refine x1.o.mono ?_;rintro e w7 ⟨A7,m7,c7,rfl,M⟩;have p:=o.c1 M;have av:=(p.rb M0).1.len;clear x1 M o;have al:=zA (show(QU B).length<=6000000000 by unfold QU;rw [zZ]at h8;rw [Hu.o.length,h8];omega);rw [zZ]at p
   have h1:=((p.p1.bytes.elsNil (α:=aC)).p1.elsPush).p1.bytes.elsPush;have h2:=(Sp.selT [_,_,_,_] h1 [0]).lit #[.slice ha (m3+m4) hh,.slice A7 m7 c7] 65 1 2 rfl (by decide);obtain⟨B9,x6⟩:=eX (w7.heap.size);obtain⟨w8,ai⟩:=eX (w7.alloc (.cells #[.slice ha (m3+m4) hh,.slice A7 m7 c7] 65));rw [ai,x6]at h2
   have t:Sp w8 [RowA 65 1 (.slice (some ⟨B9,0,none⟩) 2 2) 2 [[Value.slice ha (m3+m4) hh], [.slice A7 m7 c7]].flatten,ElsA [[Value.slice ha (m3+m4) hh], [.slice A7 m7 c7]] (QU B::ZB docs::XG r a 0),BlkA H 24 #[.slice A n c],OldA w.heap.size w]:=by
    have e:QU B=zP k++putL (B.map seqI):=(by unfold QU;rw [Hu.o.length]);have e2:XG r a 0= []:=(by unfold XG;simp);rw [e,e2];exact h2
   have q2:w8.cell? ⟨Mb,2,none⟩=some (.slice A2 n c2):=((t.below M3).cell S).trans ys;clear p h1 h2 h8 av;go_wp2;clear ai x6;have au:=Hs.o.length;have bh:=Hv.o.length;have x4:=zA au
   go_loopg [9,54] n (fun gi v9 a2 wr=>∃(i q9:Nat) (A9:aA) (c9:Nat) (css:List aF),v9= .slice A9 q9 c9/\a2= .int .i64 i/\i<=n/\gi=n - i/\q9<=2+3*i/\Hid ((∀(j:Nat) (f:Field) (x:N8),j<i->r[j]? =some f->a[j]? =some x->WA f x.1 x.2.1)/\∀s∈XG r a i,s.length<=6000000000)/\Sp wr [RowA 65 1 (.slice A9 q9 c9) q9 css.flatten,ElsA css (QU B::ZB docs::XG r a i),BlkA H 24 #[.slice A n c],OldA w.heap.size w])
   case atStart=>exact⟨0,2,_,2,_,rfl,by go_num,zJ _,rfl,by omega,⟨fun j f x hj=>by omega,fun s F=>by simp [XG]at F⟩,t⟩
   case round=>
    obtain⟨i,q9,A9,c9,css,rfl,rfl,a9,rfl,bg,D,L⟩:=hrel;clear t q2
    by_cases hi:i<n
    ·obtain⟨bI,oI,x,rfl,hr,P,hp⟩:=Hv.o.at_ hi
     obtain⟨A0,A1,A2,A3,A4,A5,n0,c0,n1,c1,n2,c2,n3,c3,n4,c4,n5,c5,⟨E0,E1,E2,E3,E4,E5⟩,r0,r1,r2,r3,r4,r5⟩:=N8.at_ hp
     obtain⟨E,G,f,rfl,W,I,y5⟩:=Hs.o.at_ hi
     obtain⟨Af,nf,cf,F0,F1,F2,F3,F4,F5,F6,a0, -, -, -, -⟩:=Field.at_ y5
     have J:=L.below M3;have E0:wr.cell? _=_:=(J.cell P).trans E0;have E1:wr.cell? _=_:=(J.cell P).trans E1;have E2:wr.cell? _=_:=(J.cell P).trans E2;have E3:wr.cell? _=_:=(J.cell P).trans E3;have E4:wr.cell? _=_:=(J.cell P).trans E4;have E5:wr.cell? _=_:=(J.cell P).trans E5;obtain⟨Tb,y0⟩:=eX (wr.heap.size)
     have h5:=L.blkH 150 #[.slice A0 n0 c0,.slice A1 n1 c1,.slice A2 n2 c2,.slice A3 n3 c3,.slice A4 n4 c4,.slice A5 n5 c5] y0;obtain⟨w4,ah⟩:=eX (wr.alloc (.cells #[.slice A0 n0 c0,.slice A1 n1 c1,.slice A2 n2 c2,.slice A3 n3 c3,.slice A4 n4 c4,.slice A5 n5 c5] 150));rw [ah]at h5;have N:=h5.drew;have l:=N.below M4;obtain⟨y7,y6⟩:=Hk.o f (zD W.o)
     have HX:=zA (sE (w:=w4.drew) (Af:=Af) (nf:=nf) (cf:=cf) y7 y6 (Hi.o i f x W.o hr.o) (r0.on l) (r1.on l) (r2.on l) (r3.on l) (r4.on l) (r5.on l));unfold fldV at HX
     have h7:w4.drew.cell? ⟨E,G+i*7,none⟩=some (.string f.name)/\w4.drew.cell? ⟨E,G+i*7+1,none⟩=some (.int .i64 f.kind)/\w4.drew.cell? ⟨E,G+i*7+2,none⟩=some (.slice Af nf cf)/\w4.drew.cell? ⟨E,G+i*7+3,none⟩=some (.int .i64 f.scale)/\w4.drew.cell? ⟨E,G+i*7+4,none⟩=some (.int .i64 f.dims)/\w4.drew.cell? ⟨E,G+i*7+5,none⟩=some (.bool f.many)/\w4.drew.cell? ⟨E,G+i*7+6,none⟩=some (.bool f.stored):=
      ⟨(l.cell I).trans F0,(l.cell I).trans F1,(l.cell I).trans F2,(l.cell I).trans F3,(l.cell I).trans F4,(l.cell I).trans F5,(l.cell I).trans F6⟩
     clear L h5 r0 r1 r2 r3 r4 r5 hp y5 F0 F1 F2 F3 F4 F5 F6 a0 J l y7 y6;go_upto_region 13 with fail;clear ah y0 E0 E1 E2 E3 E4 E5
     refine gR [(9,fun w=>w.cell? ⟨H,0,none⟩=some (.slice (some ⟨E,G,none⟩) n c)),(7,fun w=>w.cell? ⟨E,G+i*7,none⟩=some (.string f.name)/\w.cell? ⟨E,G+i*7+1,none⟩=some (.int .i64 f.kind)/\w.cell? ⟨E,G+i*7+2,none⟩=some (.slice Af nf cf)/\w.cell? ⟨E,G+i*7+3,none⟩=some (.int .i64 f.scale)/\w.cell? ⟨E,G+i*7+4,none⟩=some (.int .i64 f.dims)/\w.cell? ⟨E,G+i*7+5,none⟩=some (.bool f.many)/\w.cell? ⟨E,G+i*7+6,none⟩=some (.bool f.stored)),(7,fun w=>w.cell? ⟨Tb,0,none⟩=some (.slice A0 n0 c0)/\w.cell? ⟨Tb,1,none⟩=some (.slice A1 n1 c1)/\w.cell? ⟨Tb,2,none⟩=some (.slice A2 n2 c2)/\w.cell? ⟨Tb,3,none⟩=some (.slice A3 n3 c3)/\w.cell? ⟨Tb,4,none⟩=some (.slice A4 n4 c4)/\w.cell? ⟨Tb,5,none⟩=some (.slice A5 n5 c5))] (zg (N.cell M3 0) (zg h7 (hB (OG N M0)))) ?_
     refine gF 0 ?_;refine gF 1 ?_;refine gL 2 9 M0 ?_;refine gF 3 ?_;refine gF 4 ?_;refine gL 5 7 M1 ?_;refine gL 6 7 M2 ?_;intro hC;refine gO 7 fun K hK=> ?_;go_simp;refine HX.o.mono ?_;rintro e w5 (⟨v,rfl,A',n',c',rfl,k1,k2,C⟩|⟨er,k0,kg,rfl,ho⟩);rotate_left
     ·exact⟨rfl,.inr ⟨er,k0,fun g=>kg (g.2 i f x W.o hr.o),rfl,(N.grow ho).below M4⟩⟩
     have o:=N.c1 C;refine hK.o _ _ (zg (o.cell M4 0) (YP (by kernel_rfl) (YP (by kernel_rfl) yY))) ?_;clear hK K hC;intro hC;clear N C HX h7;have ab :=(o.ls M0).length;have ad:=DB f x;unfold YU at ad;rw [ab]at ad;obtain⟨R,ba,af,M⟩:=o.unels;have h4:=M.elsOne M0;have p:=Sp.selT [_,_,_] M [2,0,1];clear o M;refine gO 8 fun K hK=> ?_
     refine XT eE (.tmp 59) (.tmp 66) rfl rfl p rfl rfl af.reads h4 (by omega) (by omega) ?_;intro A8 c8 w8 an aw t;refine hK.o _ _ (zg (t.cell M4 0) (YP (by kernel_rfl) (YP (by kernel_rfl) yY))) ?_;clear hK K hC;intro hC;refine gO 9 fun K hK=> ?_;go_simp;refine hK.o _ _ hA ?_;clear hK K hC;intro hC;refine xW (by kernel_rfl) ?_;have g1:=(Sp.selT [_,_,_,_] t [3,1,0]).elsJoin
     rw [<-yf]at g1
     have e1:XG r a (i+1)=XG r a i++YU f x:=by
      unfold XG;have hz:(r.zip a)[i]? =some (f,x):=(by rw [List.getElem?_zip_eq_some];exact⟨W.o,hr.o⟩);rw [zI,hz,yS];simp
     have g2:Sp w8 [RowA 65 1 (.slice A8 (q9+n') c8) (q9+n') (css++R).flatten,ElsA (css++R) (QU B::ZB docs::XG r a (i+1)),BlkA H 24 #[.slice (some ⟨E,G,none⟩) n c],OldA w.heap.size w]:=by
      rw [e1];exact g1.p1
     have xb:Hid ((∀(j:Nat) (f:Field) (x:N8),j<i+1->r[j]? =some f->a[j]? =some x->WA f x.1 x.2.1)/\∀s∈XG r a (i+1),s.length<=6000000000):=by
      refine⟨fun j g y hj hg hy=> ?_,fun s F=> ?_⟩
      ·by_cases h:j<i
       ·exact D.o.1 j g y h hg hy
       ·obtain rfl:j=i:=by omega
        rw [W.o]at hg;rw [hr.o]at hy;cases hg;cases hy;exact k1
      ·rw [e1]at F;rcases List.mem_append.1 F with F|F
       ·exact D.o.2 s F
       ·exact k2 s F
     clear p t g1 e1 hC h4 af k1 k2 D ab;go_wp2
     go_roundg (n - (i+1))
     ·exact⟨i+1,q9+n',A8,c8,css++R,rfl,by go_num,by omega,rfl,by omega,xb,g2⟩
     ·omega
    ·obtain rfl:i=n:=by omega
     have h1:=Sp.els (α:=aC) L;have T:QU B::ZB docs::XG r a i=xl r B docs a:=(by unfold xl;rw [x4.o]);rw [T]at h1;have h9:=h1.ls M0
     have aa:∀s∈xl r B docs a,s.length<=6000000000:=by
      rw [<-T];intro s F;simp only [yx]at F;rcases F with rfl|rfl|F
      ·exact al.o
      ·exact tU (by omega) x5.o
      ·exact D.o.2 s F
     have y4:=jU aa;rw [h9.length]at y4;have HQ:Hid (Calls prog 90 #[.int .u8 1,.slice A9 q9 c9] wr (Yp 1 (xl r B docs a) wr)):=IM 1 A9 q9 c9 _ wr (by omega) h9.rbs (by omega);unfold Yp at HQ;obtain⟨fb,U⟩:=eX (xR 1 (xl r B docs a));rw [U]at HQ;have hw:=zA U;clear L T aa y4 U h9;cases fb with
     |false=>
      go_wp2_with (first|(go_at_call 90;refine HQ.o.mono ?_;rintro e w5 ⟨rfl,ho⟩;have am:=zA ((h1.grow ho).below M2);clear ho)|(go_at_call 89;refine(cY _ _ _).mono ?_;rintro e w6 h;obtain⟨rfl,rfl⟩:=h.bad (by decide)))
      exact⟨rfl,.inr ⟨3,by decide,fun g=>Bool.false_ne_true (hw.o.symm.trans g.1),rfl,am.o⟩⟩
     |true=>
      go_wp2_with (first|(go_at_call 90;refine HQ.o.mono ?_;rintro e w5 ⟨A5,m5,rfl,C⟩;have o:=h1.c1 C;clear C)|(go_at_call 89;refine(cY _ _ _).mono ?_;rintro e w6 h;obtain⟨rfl,rfl⟩:=h.ok))
      go_ret
      exact .inl ⟨_,rfl,A5,m5,rfl,hw.o,fun j f x hf Y=>D.o.1 j f x (by rw [<-x4.o];exact zN hf) hf Y,Sp.selT [_,_,_] o [0]⟩
theorem lQ {size:Nat}:∀{css:List aF} {k j:Nat} {cs:aF} (v:V),(∀c∈css,c.length=size)->css[k]? =some cs->j<size->css.flatten.set (k*size+j) v=(css.set k (cs.set j v)).flatten
 | [],_,_,_,_,_,h,_=>by simp at h
 |c::css,0,j,cs,v,hl,h,hj=>by
  simp only [zf,Option.some.injEq]at h;subst h;rw [yM,yw,yM,Nat.zero_mul,zx,List.set_append_left _ _ (by rw [hl c (by simp)];exact hj)]
 |c::css,k+1,j,cs,v,hl,h,hj=>by
  simp only [zj]at h;have a:=hl c (by simp);have d:=lQ v (fun x b=>hl x (by simp [b])) h hj;rw [yM,List.set_cons_succ,yM,xB _ _ (by rw [a,Nat.succ_mul];omega),a,show(k+1)*size+j - size=k*size+j by rw [Nat.succ_mul];omega,d]
theorem K1 {w:O} {g:Nat} {b:V} {a:aG} (c:a.getD 2 undef= .pointer (some ⟨g,0,none⟩)) (h:Blk w g 24 #[b]):(results Tryz.f80 a).run prog w= .ok (.agg #[b]) w:=by
 have d:=run_loadVar_row (P:=prog) w g 24 24 #[b] (0,0) _ h underlying24 rfl (by kernel_rfl);have e:Tryz.f80.results= #[ResultVar.cell 2 24]:=rfl;have f:a[2]?.getD undef= .pointer (some ⟨g,0,none⟩):=by simpa using c
 simp [results,e,f,d,asAddr,Result.andThen]
theorem uD {A:aA} {n c:Nat} {d:List Field} {w:O} (hs:zL w (·<w.heap.size) A n c d) (hn:n<=16) (Z:∀f∈d,f.chain.length<=1000000000):
 Calls prog 80 #[.agg #[.slice A n c]] w fun r w' =>∃A',r= .returned (.agg #[.slice A' n n])/\Sp w' [DatA (.slice A' n n) d,OldA w.heap.size w]:=by
 obtain⟨H,hH⟩:=eX (w.heap.size);have i:=((Sp.start w).blkH 24 #[.slice A n c] hH).blkH 24 #[.slice none 0 0] (H:=H+1) (by simp [hH]);have hlen:=zA hs.length;have ho:=hs.cap;obtain⟨css,z,B,he⟩:=hs.css fun _ h=>h
 have s:∀u∈css.flatten,u.oneCell' =true:=fun u hu=>by
  obtain⟨cs,W,hu⟩:=List.mem_flatten.1 hu;obtain⟨k,F⟩:=z8 W;have hl:k<d.length:=(by rw [<-z];exact zN F);exact Rep.one (B k cs d[k] F (zB hl)) hu
 have hh:=zA Z;have y:=i.below M2;obtain⟨w2,hg⟩:=eX ((w.alloc (.cells #[.slice A n c] 24)).alloc (.cells #[.slice none 0 0] 24));rw [hg]at i y;have G:=zA (sZ A n c css.flatten w2 (by omega) (he.on y).reads s);have K:=zA z;have L:=zA B;clear hs Z z B he s y;go_enter func80,ntmps80;go_upto_region 1 with fail;have q1:=i.cl M1 0;clear hg hH
 go_wp2_with (first
  |(go_at_call 142;refine G.o.mono ?_;rintro r w3 ⟨A3,c3,rfl,hb,T⟩;have t:=i.row hb T;have X:=(t.rowOf M0).cap;clear hb T i q1 G)
  |(go_at_call 141;refine(u5 _ _ _ _ X.2.1 X.2.2).mono ?_;rintro r w4 ⟨rfl,rfl⟩;have I:=t.clip;clear t)
  |fail)
 have J:Sp w3 [RowA 61 7 (.slice A3 n n) n css.flatten,ElsA (css.take 0) (d.take 0),BlkA (H+1) 24 #[.slice none 0 0],BlkA H 24 #[.slice A n c],OldA w.heap.size w]:=(I.elsNil (α:=Field)).p1;clear I
 go_loopg [11] n (fun gk hm wr=>∃(k:Nat) (cs:List aF),hm= .int .i64 k/\k<=n/\gk=n - k/\Hid (cs.length=n/\(∀c∈cs,c.length=7)/\∀j,k<=j->cs[j]? =css[j]?)/\Sp wr [RowA 61 7 (.slice A3 n n) n cs.flatten,ElsA (cs.take k) (d.take k),BlkA (H+1) 24 #[.slice none 0 0],BlkA H 24 #[.slice A n c],OldA w.heap.size w])
 case atStart=>
  refine⟨0,css,by go_num,zJ _,rfl,⟨by rw [K.o];exact hlen.o,fun c W=> ?_,fun j _=>rfl⟩,J⟩;obtain⟨k,F⟩:=z8 W;have hl:k<d.length:=(by rw [<-K.o];exact zN F);exact Rep.len (L.o k c d[k] F (zB hl))
 case round=>
  obtain⟨k,cs,rfl,F,rfl,a,m⟩:=hrel;clear J
  by_cases C:k<n
  ·obtain⟨f,hf⟩:∃f,d[k]? =some f:=⟨_,zB (by rw [hlen.o];exact C)⟩;obtain⟨cz,q⟩:∃cz,cs[k]? =some cz:=⟨_,zB (by rw [a.o.1];exact C)⟩;obtain⟨Ac,b,cc,rfl,r0,i1,i2,i3,s0⟩:=Field.cells_of (L.o k cz f (by rw [<-a.o.2.2 k (zC _)];exact q) hf);obtain⟨R,rfl, -, -⟩:=(m.rowOf M0).at_ (by omega)
   have t2:wr.cell? ⟨R,k*7+2,none⟩=some (.slice Ac b cc):=m.rowCell M0 ((xX cs k 2 _ a.o.2.1 q (by omega)).trans rfl);have hp:b<=1000000000:=(by rw [<-r0.length];exact hh.o f (zD hf));have G:=zA (l4 Ac b cc (ints f.chain) wr (by omega) (r0.on (m.below M4)).reads_ints (Y3 _));have hi:=zA r0.in64;have Hf:=zA hf;have M:=zA q
   have o:=zA (And.intro i1 (And.intro i2 (And.intro i3 s0)));clear r0 hf q i1 i2 i3 s0
   go_wp2_with (first
    |(go_at_call 53;refine G.o.mono ?_;rintro r w5 ⟨D,c5,rfl,hd,U⟩;have l:=m.row hd U;have Y:=(l.rowOf M0).cap;have u2:w5.cell? ⟨R,k*7+2,none⟩=some (.slice Ac b cc):=l.rowCell M1 ((xX cs k 2 _ a.o.2.1 M.o (by omega)).trans rfl);have u3:=l.rowFree M1 (k*7+2);clear hd U m G t2)
    |(go_at_call 54;refine(UO _ _ _ _ Y.2.1 Y.2.2).mono ?_;rintro r w6 ⟨rfl,rfl⟩)
    |fail)
   have E:=l.p1.rowSet (k*7+2) (.slice D b b);rw [lQ (.slice D b b) a.o.2.1 M.o (by decide)]at E
   have Q:=(E.p1.clip.ints hi.o).mk1 (cs:= [.string f.name,.int .i64 f.kind,.slice D b b,.int .i64 f.scale,.int .i64 f.dims,.bool f.many,.bool f.stored]) (x:=f) (fun S h=>by
    obtain⟨A',n',c',e,h⟩:=h;cases e;exact Field.of_cells h o.o.1 o.o.2.1 o.o.2.2.1 o.o.2.2.2)
   have h3:=(Sp.selT [_,_,_] Q [0,2,1]).elsPush;have P:d.take (k+1)=d.take k++ [f]:=(by rw [zI,Hf.o];rfl);obtain⟨v,p⟩:=eX (cs.set k [.string f.name,.int .i64 f.kind,.slice D b b,.int .i64 f.scale,.int .i64 f.dims,.bool f.many,.bool f.stored])
   have N:v.take (k+1)=cs.take k++ [[.string f.name,.int .i64 f.kind,.slice D b b,.int .i64 f.scale,.int .i64 f.dims,.bool f.many,.bool f.stored]]:=by
    rw [<-p,zI,List.take_set_of_le (zC _),List.getElem?_set_self (by rw [a.o.1];exact C)];rfl
   rw [<-N,<-P]at h3;have h4:Sp (w5.setCell ⟨R,k*7+2,none⟩ (.slice D b b)) [RowA 61 7 (.slice (some ⟨R,0,none⟩) n n) n v.flatten,ElsA (v.take (k+1)) (d.take (k+1)),BlkA (H+1) 24 #[.slice none 0 0],BlkA H 24 #[.slice A n c],OldA w.heap.size w]:=(by rw [<-p]at h3⊢;exact h3.p1)
   have ha:Hid (v.length=n/\(∀c∈v,c.length=7)/\∀j,k+1<=j->v[j]? =css[j]?):=by
    rw [<-p];refine⟨by rw [List.length_set];exact a.o.1,fun c W=> ?_,fun j hj=> ?_⟩
    ·rcases xe W with h|rfl
     ·exact a.o.2.1 c h
     ·rfl
    ·rw [List.getElem?_set_ne (by omega)];exact a.o.2.2 j (by omega)
   clear l E Q h3 N P p u2 u3;go_wp2
   go_roundg (n - (k+1))
   ·exact⟨k+1,v,by go_num,by omega,rfl,ha,h4⟩
   ·omega
  ·obtain rfl:k=n:=by omega
   rw [zF (by rw [a.o.1];exact zC _),zF (by rw [hlen.o];exact zC _)]at m;have d0:=m.cl M2 0;have d1:=(m.blkOf M2).frozen 0;have E:=Sp.els (α:=Field) m;have Q:=E.p1.set 0 (.slice A3 k k);clear E m;go_wp2;refine bodyPost_ret (K1 (g:=H+1) (by rfl) (Q.blkOf M0)) rfl ⟨_,rfl,Sp.selT [_,_,_,_] Q [1,3]⟩
end Go.Proofs.YtjbhbfaeielbiaaGreatDoor

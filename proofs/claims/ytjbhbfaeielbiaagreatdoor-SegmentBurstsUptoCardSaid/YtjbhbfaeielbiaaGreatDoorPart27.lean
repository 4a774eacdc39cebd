import Derived.Test.YtjbhbfaeielbiaaGreatDoorPart24
import Derived.Test.YtjbhbfaeielbiaaGreatDoorPart25
set_option maxRecDepth 100000
set_option maxHeartbeats 8000000
set_option linter.unusedVariables false
set_option linter.unusedSimpArgs false
namespace Go.Proofs.YtjbhbfaeielbiaaGreatDoor
open Tryz
open Rep (rep)
open Go.RowKit
attribute [local go_sem ↓] zU zV
def oH (o:Option (List yZ)) (w:O) (r:Ending) (w' :O):Prop:=
 match o with
 |some cs=>∃A' n' c',r= .returned (.tuple #[.slice A' n' c',.int .i64 0])/\Sp w' [DatA (.slice A' n' c') cs,OldA w.heap.size w]
 |none=>∃er,r= .returned (.tuple #[.slice none 0 0,.int .i64 er])/\er≠0/\Below w.heap.size w w'
theorem MC {fs:List Field} {es:List Entry} {k:Nat} {e:Entry} {seen tks:aD} (hk:es[k]? =some e) (h:Zx fs e.field=none):ZV fs (es.drop k) seen tks=none:=by
 obtain⟨hl,rfl⟩:=List.getElem?_eq_some_iff.1 hk;rw [za hl];simp [ZV,h]
theorem NM {fs:List Field} {es:List Entry} {k i:Nat} {e:Entry} {f:Field} {seen tks:aD} (hk:es[k]? =some e) (h:Zx fs e.field=some i) (hf:fs[i]? =some f) (hn:WX f e (seen.getD i 0) (tks.getD i 0)=false):ZV fs (es.drop k) seen tks=none:=by
 obtain⟨hl,rfl⟩:=List.getElem?_eq_some_iff.1 hk;rw [za hl];unfold ZV;rw [h];simp only [hf,hn];rfl
theorem NZ {fs:List Field} {es:List Entry} {k i:Nat} {e:Entry} {f:Field} {seen tks:aD} (hk:es[k]? =some e) (h:Zx fs e.field=some i) (hf:fs[i]? =some f) (hn:WX f e (seen.getD i 0) (tks.getD i 0)=true):
 ZV fs (es.drop k) seen tks=(ZV fs (es.drop (k+1)) (seen.set i (seen.getD i 0+1)) (tks.set i (Yr f e (tks.getD i 0)))).map (bJ i f e::·):=by
 obtain⟨hl,rfl⟩:=List.getElem?_eq_some_iff.1 hk;rw [za hl]
 conv=>lhs;unfold ZV
 rw [h];simp only [hf,hn];rfl
theorem DD {fs:List Field} {i:Nat} {f:Field} (h:xC fs=true) (hf:fs[i]? =some f):f.kind=4->0<=f.scale/\f.scale<=9:=by
 intro h4;unfold xC at h;simp only [zM,List.all_eq_true]at h;have:=h.2 i (List.mem_range.2 (zN hf));unfold YH at this;rw [hf]at this;simp only [zM]at this;have:=this.2;unfold Xq xD at this;simp [h4]at this;exact this.2
theorem FC (A:aA) (n c:Nat) (fs:List Field) (nm:aB):∃(ix:Nat) (kn:Bool),((Zx fs nm=none/\ix=0/\kn=false)\/(Zx fs nm=some ix/\kn=true))/\∀w,zL w (·<w.heap.size) A n c fs->
 Calls prog 39 #[.agg #[.slice A n c],.string nm] w fun e w' =>e= .returned (.tuple #[.int .i64 (ix:Int),.bool kn])/\Below w.heap.size w w' :=by
 rcases h:Zx fs nm with _|i
 ·exact⟨0,false,.inl ⟨rfl,rfl,rfl⟩,fun w hs=>FD A n c fs nm w hs h⟩
 ·exact⟨i,true,.inr ⟨rfl,rfl⟩,fun w hs=>Ug A n c fs nm w hs i h⟩
theorem GS {f:Field} {e:Entry} {tv:Int} (h:Ys f e tv=true) (h0:0<=tv/\tv<=4096):0<=Yr f e tv/\Yr f e tv<=4096:=by
 unfold Yr;unfold Ys at h
 by_cases h1:f.kind=1
 ·rw [if_pos h1]at h⊢;simp only [zM,decide_eq_true_eq]at h;omega
 ·rw [if_neg h1];exact h0
theorem Sp.nlen {w:O} {L:List Asn} {A:aA} {m c:Nat} {l:aD} (h:Sp w L) (hm:NA A m c l∈L):l.length=m:=by
 have:=(h.rowOf hm).1
 simpa [Go.Proofs.YtjbhbfaeielbiaaGreatDoor.ints]using this
theorem Sp.via {w:O} {L M:List Asn} (h:Sp w L) (f:Sp w L->Sp w M):Sp w M:=f h
section
variable {w:O} {a:Addr} {v:V}
theorem NV (h:w.cell? a=some v):w.drew.cell? a=some v:=h
theorem ON (h:w.cell? a=some v) (o:Obj):(w.alloc o).cell? a=some v:=(World.cell?_alloc_some w a o (by rw [h];rfl)).trans h
theorem PC {p:Addr} {u:V} (h:w.cell? a=some v) (hn:p.block≠a.block):(w.setCell p u).cell? a=some v:=(World.cell?_setCell_far w p a u hn).trans h
end
theorem FY (A B:aA) (n c m cm:Nat) (fs:List Field) (es:List Entry) (w:O) (hV:Vs w) (hs:zL w (·<w.heap.size) A n c fs) (he:zL w (·<w.heap.size) B m cm es)
 (hts:∀e∈es,e.text.size<=100000000/\e.numbers.length<=1000000000):
 Calls prog 9 #[.agg #[.slice A n c],.agg #[.slice B m cm]] w fun r w' =>oH (Yk fs es) w r w' :=by
 have hmf:=@mF prog;obtain⟨o,ho⟩:=eX (Yk fs es);rw [ho];have hcap:=hs.cap;have hcap2:=he.cap;have hl:=hs.length;have hl2:=he.length;obtain⟨H,hH⟩:=eX (w.heap.size);have HB:=((Sp.start w).blkH 24 #[.slice A n c] hH).blkH 38 #[.slice B m cm] (H:=H+1) (by simp [hH]);have hbW:Below w.heap.size w ((w.alloc (.cells #[.slice A n c] 24)).alloc (.cells #[.slice B m cm] 38)):=HB.below M2
 have HC:=zA (XJ A n c fs _ (hV.tabs.on hbW) (hs.on hbW));obtain⟨sb,hsb⟩:=eX (xC fs);rw [hsb]at HC;cases sb with
 |false=>
  obtain rfl:o=none:=by rw [<-ho];simp [Yk,hsb]
  clear hV hs he hts ho hsb;go_enter func9,ntmps9;go_wp2_with fail;refine HC.out.mono ?_;rintro r w1 ⟨rfl,hb⟩;go_wp2;go_ret2;exact⟨80,rfl,by decide,hbW.trans (hb.mono hbW.size)⟩
 |true=>
  by_cases h64:64<m
  ·obtain rfl:o=none:=by rw [<-ho];simp [Yk,show ¬es.length<=64 by omega]
   have h64i:(64:Int)<(m:Int):=(by omega);clear hV hs he hts ho hsb;go_enter func9,ntmps9;go_wp2_with fail;refine HC.out.mono ?_;rintro r w1 ⟨rfl,hb⟩;have HS1:=HB.grow hb;have q1:=HS1.cell M0 0;go_wp2;go_ret2;exact⟨84,rfl,by decide,hbW.trans (hb.mono hbW.size)⟩
  ·have ho2:ZV fs es (List.replicate n 0) (List.replicate n 0)=o:=(by rw [<-ho];unfold Yk;rw [hsb,hl,if_pos (by simp;omega)]);have h64i:¬(64:Int)<(m:Int):=(by omega)
   have hn:1<=n/\n<=16:=by
    have:=hsb;unfold xC at this;simp only [zM,decide_eq_true_eq]at this;omega
   have hmk:=run_make_row' (P:=prog) 55 3 (.int .i64 0) 8 underlying55 (by kernel_rfl) rfl .i64 .i64 n (by omega) (by omega);have Ho:=zA ho2;have Hs:=zA hs;have He:=zA he;have Hts:=zA hts;have HV:=zA hV;have Hsb:=zA hsb;have Hl:=zA hl;have Hl2:=zA hl2;clear hV hs he hts ho hsb ho2 hl hl2;go_enter func9,ntmps9;go_wp2_with fail;refine HC.out.mono ?_;rintro r w1 ⟨rfl,hb⟩;have HS1:=HB.grow hb
   have q1:=HS1.cl M0 0;have q2:=HS1.cl M1 0;have hHs:=(HS1.blkOf M1).lt;obtain⟨K,hK⟩:=eX (w1.heap.size);rw [hK]at hHs;have n0:¬H=K:=(by omega);have n1:¬H=K+1:=(by omega);have n2:¬H=K+2:=(by omega);have n3:¬H=K+3:=(by omega);have n4:¬H=K+1+1:=(by omega);have n5:¬H=K+1+1+1:=(by omega)
   have P0:=fun a b:V=>((((HS1.blkH 55 #[a] (H:=K) (by simp [hK])).blkH 55 #[b] (H:=K+1) (by simp [hK])).mkd (H:=K+2) (n:=n) (z:= .int .i64 0) (e:=3) (by simp [hK]) (by omega)).mkd (H:=K+3) (n:=n) (z:= .int .i64 0) (e:=3) (by simp [hK]) (by omega)).drew
   have P1:=fun a b:V=>((((HS1.blkH 55 #[a] (H:=K) (by simp [hK])).mkd (H:=K+1) (n:=n) (z:= .int .i64 0) (e:=3) (by simp [hK]) (by omega)).blkH 55 #[b] (H:=K+2) (by simp [hK])).mkd (H:=K+3) (n:=n) (z:= .int .i64 0) (e:=3) (by simp [hK]) (by omega)).drew
   have P2:=fun a b:V=>((((HS1.blkH 55 #[a] (H:=K) (by simp [hK])).mkd (H:=K+1) (n:=n) (z:= .int .i64 0) (e:=3) (by simp [hK]) (by omega)).mkd (H:=K+2) (n:=n) (z:= .int .i64 0) (e:=3) (by simp [hK]) (by omega)).blkH 55 #[b] (H:=K+3) (by simp [hK])).drew
   have P3:=fun a b:V=>((((HS1.mkd (H:=K) (n:=n) (z:= .int .i64 0) (e:=3) (by simp [hK]) (by omega)).blkH 55 #[a] (H:=K+1) (by simp [hK])).blkH 55 #[b] (H:=K+2) (by simp [hK])).mkd (H:=K+3) (n:=n) (z:= .int .i64 0) (e:=3) (by simp [hK]) (by omega)).drew
   have P4:=fun a b:V=>((((HS1.mkd (H:=K) (n:=n) (z:= .int .i64 0) (e:=3) (by simp [hK]) (by omega)).blkH 55 #[a] (H:=K+1) (by simp [hK])).mkd (H:=K+2) (n:=n) (z:= .int .i64 0) (e:=3) (by simp [hK]) (by omega)).blkH 55 #[b] (H:=K+3) (by simp [hK])).drew
   have P5:=fun a b:V=>((((HS1.mkd (H:=K) (n:=n) (z:= .int .i64 0) (e:=3) (by simp [hK]) (by omega)).mkd (H:=K+1) (n:=n) (z:= .int .i64 0) (e:=3) (by simp [hK]) (by omega)).blkH 55 #[a] (H:=K+2) (by simp [hK])).blkH 55 #[b] (H:=K+3) (by simp [hK])).drew;clear HB hbW hb HC;go_upto_region 7 with fail
   go_cut [8,9]from 28 to 35 (fun v8 v9 W=>∃G8 G9 gs gt:Nat,v8= .pointer (some ⟨G8,0,none⟩)/\v9= .pointer (some ⟨G9,0,none⟩)/\Sp W (BlkA G8 55 #[.slice (some ⟨gs,0,none⟩) n n]::BlkA G9 55 #[.slice (some ⟨gt,0,none⟩) n n]::RowA 3 1 (.slice (some ⟨gs,0,none⟩) n n) n (madeCells #[.int .i64 0] n).toList::RowA 3 1 (.slice (some ⟨gt,0,none⟩) n n) n (madeCells #[.int .i64 0] n).toList:: [BlkA (H+1) 38 #[.slice B m cm],BlkA H 24 #[.slice A n c],OldA w.heap.size w]))
   case first=>
    go_region_held3 (fun W=>W.cell? ⟨H,0,none⟩=some (.slice A n c)) (first|with_reducible assumption|(repeat (first|with_reducible assumption|refine NV ?_|refine ON ?_ _|refine PC ?_ (by simp;omega)))|fail) (first|fail)
    all_goals go_wp2
    all_goals go_meet
    all_goals exact⟨_,_,_,_,rfl,rfl,by
     first
     |(with_reducible refine Sp.via (P0 _ _) fun h=> ?_;first|with_reducible exact h.p1.p2.p3|with_reducible exact h.p1.p1.p2.p3|with_reducible exact h.p1.p3.p3|with_reducible exact h.p1.p1.p3.p3)
     |(with_reducible refine Sp.via (P1 _ _) fun h=> ?_;first|with_reducible exact h.p2.p2.p3|with_reducible exact h.p2.p1.p2.p3|with_reducible exact h.p2.p3.p3|with_reducible exact h.p2.p1.p3.p3)
     |(with_reducible refine Sp.via (P2 _ _) fun h=> ?_;first|with_reducible exact h.p1.p2.p2.p3|with_reducible exact h.p2.p2.p2.p3|with_reducible exact h.p1.p2.p3.p3|with_reducible exact h.p2.p2.p3.p3)
     |(with_reducible refine Sp.via (P3 _ _) fun h=> ?_;first|with_reducible exact h.p3.p2.p3|with_reducible exact h.p3.p3.p3|with_reducible exact h.p3.p1.p2.p3|with_reducible exact h.p3.p1.p3.p3)
     |(with_reducible refine Sp.via (P4 _ _) fun h=> ?_;first|with_reducible exact h.p1.p3.p2.p3|with_reducible exact h.p1.p3.p3.p3|with_reducible exact h.p3.p2.p2.p3|with_reducible exact h.p3.p2.p3.p3)
     |(with_reducible refine Sp.via (P5 _ _) fun h=> ?_;first|with_reducible exact h.p2.p3.p2.p3|with_reducible exact h.p2.p3.p3.p3|with_reducible exact h.p3.p3.p2.p3|with_reducible exact h.p3.p3.p3.p3)⟩
   case rest=>
    obtain⟨G8,G9,gs,gt,rfl,rfl,HS2⟩:=hcut;clear P0 P1 P2 P3 P4 P5 q1 q2 n0 n1 n2 n3 n4 n5 hK hHs HS1 hmk;have e1:=nE n;rw [yr]at e1;rw [show(madeCells #[Value.int .i64 0] n).toList=ints (List.replicate n 0)from e1]at HS2;have q1:=HS2.cl M4 0;go_wp2;clear q1 e1
    have HS3:Sp wc [RowA 59 3 (.slice none 0 0) 0 ([]:List aF).flatten,ElsA [] ([]:List yZ),BlkA G8 55 #[.slice (some ⟨gs,0,none⟩) n n],BlkA G9 55 #[.slice (some ⟨gt,0,none⟩) n n],TokA gs n n (List.replicate n 0),TokA gt n n (List.replicate n 0),BlkA (H+1) 38 #[.slice B m cm],BlkA H 24 #[.slice A n c],OldA w.heap.size w]:=(HS2.elsNil (α:=yZ)).nil 59 3
    go_loopg [7,39] m (fun gk v7 v39 wr=>∃(k:Nat) (A7:aA) (c7:Nat) (css:List aF) (done:List yZ) (seen tks:aD),v7= .slice A7 k c7/\v39= .int .i64 k/\k<=m/\gk=m - k/\done.length=k/\o=(ZV fs (es.drop k) seen tks).map (done++·)/\(∀x∈seen,0<=x/\x<=k)/\(∀x∈tks,0<=x/\x<=4096)/\
     Sp wr [RowA 59 3 (.slice A7 k c7) k css.flatten,ElsA css done,BlkA G8 55 #[.slice (some ⟨gs,0,none⟩) n n],BlkA G9 55 #[.slice (some ⟨gt,0,none⟩) n n],TokA gs n n seen,TokA gt n n tks,BlkA (H+1) 38 #[.slice B m cm],BlkA H 24 #[.slice A n c],OldA w.heap.size w])
    case atStart=>exact⟨0,none,0, [], [],_,_,rfl,rfl,zJ _,rfl,rfl,by rw [<-Ho.out];simp,by simp,by simp,HS3⟩
    case round=>
     obtain⟨k,A7,c7,css,done,seen,tks,rfl,rfl,hk,rfl,hd,ho,hseen,htks,HS⟩:=hrel;clear HS2 HS3 Ho;have Hd:=zA hd;have Ho:=zA ho;have Hseen:=zA hseen;have Htks:=zA htks;clear hd ho hseen htks
     by_cases hkm:k<m
     ·obtain⟨b,off,e,rfl,hxe,hb,hee⟩:=He.out.at_ hkm
      obtain⟨An,nn,cn,E0,E1,E2,hnum, -, -⟩:=Entry.at_ hee
      have E0:wr.cell? _=_:=((HS.below M8).cell hb).trans E0;have E1:wr.cell? _=_:=((HS.below M8).cell hb).trans E1;have E2:wr.cell? _=_:=((HS.below M8).cell hb).trans E2;obtain⟨ix,kn,hfind,hF⟩:=FC A n c fs e.field
      obtain⟨f,hf⟩:∃f,fs[ix]? =some f:=by
       rcases hfind with⟨_,rfl,_⟩|⟨h,_⟩
       ·exact⟨_,zB (by rw [Hl.out];omega)⟩
       ·obtain⟨f,hf,_⟩:=eD h;exact⟨f,hf⟩
      have hix:ix<n:=(by rw [<-Hl.out];exact zN hf);obtain⟨Eb,hEb⟩:=eX (wr.heap.size);have HSe:=HS.blkH 86 (eCs e An nn cn) hEb;obtain⟨w2,hw2⟩:=eX (wr.alloc (.cells (eCs e An nn cn) 86));have q3:w2.cell? ⟨H,0,none⟩=some (.slice A n c):=(by rw [<-hw2];exact HSe.cell M8 0);have q4:w2.cell? ⟨Eb,0,none⟩=some (.string e.field):=(by rw [<-hw2];exact HSe.cell M0 0);rw [hw2]at HSe
      have hsc:=zA (DD Hsb.out hf);have Hxe:=hxe;have Hnum:Hid (zL w (·<w.heap.size) An nn cn e.numbers):=hnum;have Hfind:=zA hfind;have Hf:=zA hf;have HF:=zA (hF w2 (Hs.out.on (HSe.below (.tail _ M8))));clear HS hnum hfind hF hxe hee;have hw2' :wr.alloc (.cells #[.string e.field,.string e.text,.slice An nn cn] 86)=w2:=hw2;go_upto_region 11 with fail
      try rw [hw2']
      clear hw2 hw2' E0 E1 E2 hEb;go_wp2_with fail;refine HF.out.mono ?_;rintro r w3 ⟨rfl,hb3⟩;obtain⟨Ib,hIb⟩:=eX (w3.heap.size);have HS4:=((HSe.grow hb3).blkH 3 #[.int .i64 (ix:Int)] hIb).blkH 4 #[.bool kn] (H:=Ib+1) (by simp [hIb]);obtain⟨w4,hw4⟩:=eX ((w3.alloc (.cells #[.int .i64 (ix:Int)] 3)).alloc (.cells #[.bool kn] 4));rw [hw4]at HS4;have hz4:w4.heap.size=Ib+2:=(by rw [<-hw4];simp [hIb])
      obtain⟨bf,of,f',hA,hf',hbf,hef⟩:=Hs.out.at_ hix
      cases hf'.out.symm.trans Hf.out;subst hA;obtain⟨A2,n2,c2,F0,F1,F2,F3,F4,F5,F6,hch, -, -, -, -⟩:=Field.at_ hef
      have kF:∀(j:Nat) (v:V),w.cell? ⟨bf,j,none⟩=some v->w4.cell? ⟨bf,j,none⟩=some v:=fun j v h=>((HS4.below (.tail _ (.tail _ (.tail _ M8)))).cell hbf).trans h;have F0:=kF _ _ F0;have F1:=kF _ _ F1;have F2:=kF _ _ F2;have F3:=kF _ _ F3;have F4:=kF _ _ F4;have F5:=kF _ _ F5;have F6:=kF _ _ F6;clear kF;have HS5:=HS4.blkH 61 (fCs f A2 n2 c2) hz4
      obtain⟨w5,hw5⟩:=eX (w4.alloc (.cells #[.string f.name,.int .i64 f.kind,.slice A2 n2 c2,.int .i64 f.scale,.int .i64 f.dims,.bool f.many,.bool f.stored] 61));rw [show w4.alloc (.cells (fCs f A2 n2 c2) 61)=w5 from hw5]at HS5;have hz5:w5.heap.size=Ib+3:=(by rw [<-hw5];simp [hz4]);have HS6:=HS5.blkH 59 #[.int .i64 (ix:Int),.string ⟨#[]⟩,.slice none 0 0] hz5
      obtain⟨w6,hw6⟩:=eX (w5.alloc (.cells #[.int .i64 (ix:Int),.string ⟨#[]⟩,.slice none 0 0] 59));rw [hw6]at HS6;have hz6:w6.heap.size=Ib+4:=(by rw [<-hw6];simp [hz5])
      have HS7:=HS6.blkH 93 #[.func (.func 40) #[] #[.pointer (some ⟨Ib+1,0,none⟩)],.func (.func 42) #[] #[.pointer (some ⟨Ib+2,0,none⟩),.pointer (some ⟨Eb,0,none⟩)],.func (.func 44) #[] #[.pointer (some ⟨Ib+2,0,none⟩),.pointer (some ⟨G8,0,none⟩),.pointer (some ⟨Ib,0,none⟩)],.func (.func 45) #[] #[.pointer (some ⟨Ib+2,0,none⟩),.pointer (some ⟨Eb,0,none⟩),.pointer (some ⟨Ib+3,0,none⟩),.pointer (some ⟨G9,0,none⟩),.pointer (some ⟨Ib,0,none⟩)]] hz6
      have q5:w4.cell? ⟨H,0,none⟩=some (.slice (some ⟨bf,of,none⟩) n c):=HS4.cell (.tail _ (.tail _ M8)) 0;have q6:=HS4.cl M1 0;have q7:=HS5.cl M2 0;have Hch:Hid (zL w (·<w.heap.size) A2 n2 c2 f.chain):=hch;have Hw6:=zA hw6;clear hef hch hb3 HSe q3 q4 HF hbf HS4 HS5 HS6 hw6;go_upto_region 14 with fail;rw [Hw6.out];clear q5 q6 q7 F0 F1 F2 F3 F4 F5 F6 hw5 hz5 Hw6;go_wp2_with fail
      obtain⟨sv,hsv⟩:∃sv,seen[ix]? =some sv:=⟨_,zB (by rw [HS7.nlen (.tail _ (.tail _ M8))];exact hix)⟩;obtain⟨tv,htv⟩:∃tv,tks[ix]? =some tv:=⟨_,zB (by rw [HS7.nlen (.tail _ (.tail _ (.tail _ M8)))];exact hix)⟩;have hsv1:=Hseen.out sv (zD hsv);have htv1:=Htks.out tv (zD htv);have Hsv:=zA hsv;have Htv:=zA htv;have hnl:e.numbers.length=nn:=Hnum.out.length;have hte:=Hts.out e (zD Hxe.out)
      obtain⟨Fs,hFs⟩:∃Fs:aG,#[.func (.func 40) #[] #[.pointer (some ⟨Ib+1,0,none⟩)],.func (.func 42) #[] #[.pointer (some ⟨Ib+2,0,none⟩),.pointer (some ⟨Eb,0,none⟩)],.func (.func 44) #[] #[.pointer (some ⟨Ib+2,0,none⟩),.pointer (some ⟨G8,0,none⟩),.pointer (some ⟨Ib,0,none⟩)],.func (.func 45) #[] #[.pointer (some ⟨Ib+2,0,none⟩),.pointer (some ⟨Eb,0,none⟩),.pointer (some ⟨Ib+3,0,none⟩),.pointer (some ⟨G9,0,none⟩),.pointer (some ⟨Ib,0,none⟩)]]=Fs:=⟨_,rfl⟩
      rw [hFs]at HS7⊢;have hF0:Fs[0]? =some (.func (.func 40) #[] #[.pointer (some ⟨Ib+1,0,none⟩)]):=(by rw [<-hFs];rfl);have hF1:Fs[1]? =some (.func (.func 42) #[] #[.pointer (some ⟨Ib+2,0,none⟩),.pointer (some ⟨Eb,0,none⟩)]):=(by rw [<-hFs];rfl)
      have hF2:Fs[2]? =some (.func (.func 44) #[] #[.pointer (some ⟨Ib+2,0,none⟩),.pointer (some ⟨G8,0,none⟩),.pointer (some ⟨Ib,0,none⟩)]):=(by rw [<-hFs];rfl);have hF3:Fs[3]? =some (.func (.func 45) #[] #[.pointer (some ⟨Ib+2,0,none⟩),.pointer (some ⟨Eb,0,none⟩),.pointer (some ⟨Ib+3,0,none⟩),.pointer (some ⟨G9,0,none⟩),.pointer (some ⟨Ib,0,none⟩)]):=(by rw [<-hFs];rfl);have Hf0:=zA hF0
      have Hf1:=zA hF1;have Hf2:=zA hF2;have Hf3:=zA hF3;obtain⟨w7,hw7⟩:=eX (w6.alloc (.cells Fs 93));rw [hw7]at HS7⊢
      have HS8:Sp w7 [BlkA (Ib+3) 59 #[.int .i64 (ix:Int),.string ⟨#[]⟩,.slice none 0 0],TokA gt n n tks,BlkA (Ib+2) 61 (fCs f A2 n2 c2),BlkA Eb 86 (eCs e An nn cn),BlkA G9 55 #[.slice (some ⟨gt,0,none⟩) n n],BlkA Ib 3 #[.int .i64 (ix:Int)],BlkA (Ib+4) 93 Fs,BlkA (Ib+1) 4 #[.bool kn],RowA 59 3 (.slice A7 k c7) k css.flatten,ElsA css done,BlkA G8 55 #[.slice (some ⟨gs,0,none⟩) n n],TokA gs n n seen,BlkA (H+1) 38 #[.slice (some ⟨b,off,none⟩) m cm],BlkA H 24 #[.slice (some ⟨bf,of,none⟩) n c],OldA w.heap.size w]:=Sp.selT [_,_,_,_,_,_,_,_,_,_,_,_,_,_,_] HS7 [1,11,2,5,9,4,0,3,6,7,8,10,12,13,14]
      have hu0:∀er,unlI false er=er:=fun _=>rfl;have hu1:∀er,unlI true er=0:=fun _=>rfl;clear hsv htv hF0 hF1 hF2 hF3 hFs hw7 HS7 hf hb hw4 hz4 hz6 hIb
      go_loopg [63] 4 (fun gj v63 wj=>∃j:Nat,v63= .int .i64 j/\j<=4/\gj=4 - j/\(1<=j->kn=true)/\(2<=j->Vz f e.text nn=true)/\(3<=j->(f.many||sv==0)=true)/\((j<=3/\Sp wj [BlkA (Ib+3) 59 #[.int .i64 (ix:Int),.string ⟨#[]⟩,.slice none 0 0],TokA gt n n tks,BlkA (Ib+2) 61 (fCs f A2 n2 c2),BlkA Eb 86 (eCs e An nn cn),BlkA G9 55 #[.slice (some ⟨gt,0,none⟩) n n],BlkA Ib 3 #[.int .i64 (ix:Int)],BlkA (Ib+4) 93 Fs,BlkA (Ib+1) 4 #[.bool kn],RowA 59 3 (.slice A7 k c7) k css.flatten,ElsA css done,BlkA G8 55 #[.slice (some ⟨gs,0,none⟩) n n],TokA gs n n seen,BlkA (H+1) 38 #[.slice (some ⟨b,off,none⟩) m cm],BlkA H 24 #[.slice (some ⟨bf,of,none⟩) n c],OldA w.heap.size w])\/(j=4/\Ys f e tv=true/\∃Aq nq cq,Sp wj [DatA (.slice Aq nq cq) (ZU f e),BlkA (Ib+3) 59 #[.int .i64 (ix:Int),.string (xr f e),.slice Aq nq cq],TokA gt n n (tks.set ix (Yr f e tv)),BlkA (Ib+2) 61 (fCs f A2 n2 c2),BlkA Eb 86 (eCs e An nn cn),BlkA G9 55 #[.slice (some ⟨gt,0,none⟩) n n],BlkA Ib 3 #[.int .i64 (ix:Int)],BlkA (Ib+4) 93 Fs,BlkA (Ib+1) 4 #[.bool kn],RowA 59 3 (.slice A7 k c7) k css.flatten,ElsA css done,BlkA G8 55 #[.slice (some ⟨gs,0,none⟩) n n],TokA gs n n seen,BlkA (H+1) 38 #[.slice (some ⟨b,off,none⟩) m cm],BlkA H 24 #[.slice (some ⟨bf,of,none⟩) n c],OldA w.heap.size w])))
      case atStart=>exact⟨0,rfl,by omega,rfl,by omega,by omega,by omega,.inl ⟨by omega,HS8⟩⟩
      case round=>
       obtain⟨j,rfl,hj,rfl,hj1,hj2,hj3,hst⟩:=hrel;clear HS8;have hgs:seen.getD ix 0=sv:=(by rw [zm,Hsv.out];rfl);have hgt:tks.getD ix 0=tv:=(by rw [zm,Htv.out];rfl)
       have Hbad:Hid (kn=true->WX f e sv tv=false->o=none):=fun h1 h2=>by
        have h3:Zx fs e.field=some ix:=by
         rcases Hfind.out with⟨_,_,h⟩|⟨h,_⟩
         ·rw [h]at h1;cases h1
         ·exact h
        rw [Ho.out,NM Hxe.out h3 Hf.out (by rw [hgs,hgt];exact h2)];rfl
       have Hgs:=zA hgs;have Hgt:=zA hgt;have HJ1:=zA hj1;have HJ2:=zA hj2;have HJ3:=zA hj3;have Hnl:=zA hnl;clear hgs hgt hj1 hj2 hj3 hnl;rcases hst with⟨hj3,HSj⟩|⟨rfl,hvo,Aq,nq,cq,HSj⟩
       ·have hjc:j=0\/j=1\/j=2\/j=3:=(by omega);have hbj:=zA (HSj.below (.tail _ (.tail _ (.tail _ (.tail _ (.tail _ (.tail _ M8)))))));rcases hjc with rfl|rfl|rfl|rfl
        ·have r0:wr.cell? ⟨Ib+4,0,none⟩=some (.func (.func 40) #[] #[.pointer (some ⟨Ib+1,0,none⟩)]):=(HSj.cell M6 0).trans Hf0.out;have HC:=zA (BP (Ib+1) kn wr (HSj.cell M7 0));cases kn with
         |false=>
          obtain rfl:o=none:=by
           rw [Ho.out,MC Hxe.out (by rcases Hfind.out with⟨h,_,_⟩|⟨_,h⟩;exact h;cases h)];rfl
          go_wp2_with (go_at_call 40;refine HC.out.mono ?_;rintro r w' ⟨rfl,rfl⟩);go_ret2;exact⟨81,rfl,by decide,hbj.out⟩
         |true=>
          go_wp2_with (go_at_call 40;refine HC.out.mono ?_;rintro r w' ⟨rfl,rfl⟩)
          go_roundg (4 - (0+1))
          ·exact⟨1,rfl,by omega,rfl,by simp,by omega,by omega,.inl ⟨by omega,HSj⟩⟩
          ·omega
        ·have r0:wr.cell? ⟨Ib+4,1,none⟩=some (.func (.func 42) #[] #[.pointer (some ⟨Ib+2,0,none⟩),.pointer (some ⟨Eb,0,none⟩)]):=(HSj.cell M6 1).trans Hf1.out;have HC:=BN (HSj.blkOf M2) (HSj.blkOf M3);obtain⟨q,hq⟩:=eX (Vz f e.text nn);rw [hq]at HC;have HC:=zA HC;have Hq:=zA hq;clear hq;cases q with
         |false=>
          obtain rfl:o=none:=Hbad.out (HJ1.out (by omega)) (by unfold WX;rw [Hnl.out,Hq.out];rfl);go_wp2_with (go_at_call 42;refine HC.out.mono ?_;rintro r w' ⟨rfl,hb'⟩);go_ret2;exact⟨82,rfl,by decide,(HSj.grow hb').below (.tail _ (.tail _ (.tail _ (.tail _ (.tail _ (.tail _ M8))))))⟩
         |true=>
          go_wp2_with (go_at_call 42;refine HC.out.mono ?_;rintro r w' ⟨rfl,hb'⟩)
          go_roundg (4 - (1+1))
          ·exact⟨2,rfl,by omega,rfl,fun _=>HJ1.out (by omega),fun _=>Hq.out,by omega,.inl ⟨by omega,HSj.grow hb'⟩⟩
          ·omega
        ·have r0:wr.cell? ⟨Ib+4,2,none⟩=some (.func (.func 44) #[] #[.pointer (some ⟨Ib+2,0,none⟩),.pointer (some ⟨G8,0,none⟩),.pointer (some ⟨Ib,0,none⟩)]):=(HSj.cell M6 2).trans Hf2.out;have HC:=BM (seen:=seen) (HSj.blkOf M2) (HSj.cell (.tail _ (.tail _ M8)) 0) (HSj.cell M5 0) hix (HSj.rowCell (.tail _ (.tail _ (.tail _ M8))) (Z9 Hsv.out));obtain⟨q,hq⟩:=eX ((f.many||sv==0));rw [hq]at HC
         have HC:=zA HC;have Hq:=zA hq;clear hq;cases q with
         |false=>
          obtain rfl:o=none:=Hbad.out (HJ1.out (by omega)) (by unfold WX;rw [Hq.out];simp);go_wp2_with (go_at_call 44;refine HC.out.mono ?_;rintro r w' ⟨rfl,rfl⟩);go_ret2;exact⟨84,rfl,by decide,hbj.out⟩
         |true=>
          go_wp2_with (go_at_call 44;refine HC.out.mono ?_;rintro r w' ⟨rfl,rfl⟩)
          go_roundg (4 - (2+1))
          ·exact⟨3,rfl,by omega,rfl,fun _=>HJ1.out (by omega),fun _=>HJ2.out (by omega),fun _=>Hq.out,.inl ⟨by omega,HSj⟩⟩
          ·omega
        ·have r0:wr.cell? ⟨Ib+4,3,none⟩=some (.func (.func 45) #[] #[.pointer (some ⟨Ib+2,0,none⟩),.pointer (some ⟨Eb,0,none⟩),.pointer (some ⟨Ib+3,0,none⟩),.pointer (some ⟨G9,0,none⟩),.pointer (some ⟨Ib,0,none⟩)]):=(HSj.cell M6 3).trans Hf3.out
         have HC:=BL (HV.out.on hbj.out) hix (Hch.out.on hbj.out) (Hnum.out.on hbj.out) hte.1 (by rw [<-Hnl.out];exact hte.2) hsc.out Htv.out (by omega) HSj;obtain⟨q,hq⟩:=eX (Ys f e tv);rw [hq]at HC;have HC:=zA HC;have Hq:=zA hq;clear hq HSj;cases q with
         |false=>
          obtain rfl:o=none:=Hbad.out (HJ1.out (by omega)) (by unfold WX;rw [Hq.out];simp);go_wp2_with (go_at_call 45;refine HC.out.mono ?_;rintro r w' ⟨rfl,Aq,nq,cq,HSk⟩);go_ret2;exact⟨83,rfl,by decide,HSk.below (.tail _ (.tail _ (.tail _ (.tail _ (.tail _ (.tail _ (.tail _ M8)))))))⟩
         |true=>
          go_wp2_with (go_at_call 45;refine HC.out.mono ?_;rintro r w' ⟨rfl,Aq,nq,cq,HSk⟩)
          go_roundg (4 - (3+1))
          ·exact⟨4,rfl,by omega,rfl,fun _=>HJ1.out (by omega),fun _=>HJ2.out (by omega),fun _=>HJ3.out (by omega),.inr ⟨rfl,Hq.out,Aq,nq,cq,HSk⟩⟩
          ·omega
       ·have hok:WX f e sv tv=true:=by
         unfold WX;rw [Hnl.out,HJ2.out (by omega),HJ3.out (by omega),hvo];rfl
        have s1:wr.cell? ⟨G8,0,none⟩=some (.slice (some ⟨gs,0,none⟩) n n):=HSj.cell (.tail _ (.tail _ (.tail _ M8))) 0;have s2:=HSj.cl M6 0;have s3:wr.cell? ⟨gs,ix,none⟩=some (.int .i64 sv):=HSj.rowCell (.tail _ (.tail _ (.tail _ (.tail _ M8)))) (Z9 Hsv.out);have s4:=HSj.rowFree (.tail _ (.tail _ (.tail _ (.tail _ M8)))) ix
        have HSk:=(Sp.selT [_,_,_,_,_,_,_,_,_,_,_,_,_,_,_,_] HSj [12,9,0,10,1,11,5,2,13,14,15]).rowSet ix (.int .i64 (sv+1));rw [<-WR]at HSk;obtain⟨w8,hw8⟩:=eX (wr.setCell ⟨gs,ix,none⟩ (.int .i64 (sv+1)));rw [hw8]at HSk;clear HSj;go_upto_region 22 with fail
        try rw [hw8]
        clear s1 s2 s3 s4 hw8;have s5:=HSk.cl M4 0;have s6:=HSk.cl M4 1;have s7:=HSk.cl M4 2
        have HS9:Sp w8 [RowA 59 3 (.slice A7 k c7) k css.flatten,DatA (.slice Aq nq cq) (ZU f e),ElsA css done,BlkA G8 55 #[.slice (some ⟨gs,0,none⟩) n n],BlkA G9 55 #[.slice (some ⟨gt,0,none⟩) n n],TokA gs n n (seen.set ix (sv+1)),TokA gt n n (tks.set ix (Yr f e tv)),BlkA (H+1) 38 #[.slice (some ⟨b,off,none⟩) m cm],BlkA H 24 #[.slice (some ⟨bf,of,none⟩) n c],OldA w.heap.size w]:=Sp.selT [_,_,_,_,_,_,_,_,_,_,_] HSk [1,2,3,5,6,0,7,8,9,10]
        clear HSk;go_wp2_with (at_builtin;refine yC nV (.tmp 79) (.tmp 81) rfl rfl HS9 rfl (cs:= #[.int .i64 (ix:Int),.string (xr f e),.slice Aq nq cq]) rfl rfl rfl (by intro u hu;simp at hu;rcases hu with rfl|rfl|rfl<;>rfl) (by omega) (by omega) ?_;intro A8 c8 w9 hc8 hm8 HS10)
        clear s5 s6 s7 HS9;have hkn:=HJ1.out (by omega)
        have h3:Zx fs e.field=some ix:=by
         rcases Hfind.out with⟨_,_,h⟩|⟨h,_⟩
         ·rw [h]at hkn;cases hkn
         ·exact h
        have HS11:=Sp.mk1 (cs:= [.int .i64 (ix:Int),.string (xr f e),.slice Aq nq cq]) (x:=bJ ix f e) HS10.p1 fun S hS=>⟨[.int .i64 (ix:Int)], [.string (xr f e),.slice Aq nq cq],rfl,⟨rfl,show In64 ((ix:Nat):Int)from⟨by omega,by omega⟩⟩, [.string (xr f e)], [.slice Aq nq cq],rfl,⟨rfl,by have:=hte.1;show(xr f e).size<=_;unfold xr;split;omega;exact zJ _⟩,hS⟩;have HS12:=(HS11.p2.p1).elsPush.p1
        have efl:css.flatten++(#[Value.int .i64 (ix:Int),Value.string (xr f e),Value.slice Aq nq cq]:aG).toList=(css++ [[Value.int .i64 (ix:Int),Value.string (xr f e),Value.slice Aq nq cq]]).flatten:=(by simp);rw [efl]at HS12;clear HS10 HS11 efl;go_wp2
        go_roundg (m - (k+1))
        case measure=>omega
        case rel=>
         refine⟨k+1,A8,c8,_,_,_,_,rfl,by go_num,by omega,rfl,by simp [Hd.out],?_,?_,?_,HS12⟩
         ·rw [Ho.out,NZ Hxe.out h3 Hf.out (by rw [Hgs.out,Hgt.out];exact hok),Hgs.out,Hgt.out,Option.map_map]
          congr 1
          funext l
          simp
         ·intro x hx;rcases xe hx with h|h
          ·have:=Hseen.out x h;omega
          ·omega
         ·intro x hx;rcases xe hx with h|h
          ·exact Htks.out x h
          ·rw [h];exact GS hvo htv1
     ·obtain rfl:k=m:=by omega
      obtain rfl:o=some done:=by rw [Ho.out,zQ (by rw [Hl2.out];omega)];simp [ZV]
      go_wp2;go_ret2;exact⟨A7,k,c7,rfl,(HS.els).selT [_,_,_,_,_,_,_,_] [0,7]⟩
open Go.RowKit Go.Maps
theorem LU (x:Option Nat) (w:O):(binOp .eql 219 (.map x) (.map none)).run prog w= .ok (.bool x.isNone) w:=by
 cases x<;>kernel_rfl
theorem TR.kv_inj {rs:List TR} {j:Nat} {t:aB} {v:V} (h:(rs.map TR.kv)[j]? =some (.string t,v)):∃r,rs[j]? =some r/\r.term=t/\v= .map (some r.b):=by
 rw [zH]at h;rcases hr:rs[j]? with _|r
 ·rw [hr]at h;cases h
 ·rw [hr]at h;simp only [yk,TR.kv,Option.some.injEq,Prod.mk.injEq,Value.string.injEq]at h;exact⟨r,rfl,h.1,h.2.symm⟩
theorem DR.kv_inj {ds:List DR} {j:Nat} {d:Int} {v:V} (h:(ds.map DR.kv)[j]? =some (.int .i64 d,v)):∃r,ds[j]? =some r/\r.doc=d/\v= .slice r.A r.l.length r.c:=by
 rw [zH]at h;rcases hr:ds[j]? with _|r
 ·rw [hr]at h;cases h
 ·rw [hr]at h;simp only [yk,DR.kv,Option.some.injEq,Prod.mk.injEq,Value.int.injEq,true_and]at h;exact⟨r,rfl,h.1,h.2.symm⟩
section
variable {P:Program} {k t e:TypeId} {b:Nat} {l:List (V×V)} {w:O} {L:List Asn}
theorem Sp.mapAt (K:Keyed P k) (ht:P.underlying t=some (.map k e)) {z:V} (hz:∀w,(zeroValue e).run P w= .ok z w) (h:Sp w L) (hm:MapA P k b l∈L) {key v:V} {kl:Lit} (hkey:Go.keyOf P k key=some kl) {j:Nat} (hj:l[j]? =some (key,v)):
 (Instr.lookup t (.map (some b)) key false).run P w= .ok v w:=by
 rcases h.mapLook K ht (hz w) hm hkey with⟨_,h2⟩|⟨j',v',h1,h2⟩
 ·exact absurd rfl (h2 _ (zD hj))
 ·have hn:=h.mapDistinct hm
  have hjj:j=j' :=by
   have a1:(l.map (·.1))[j]? =some key:=(by rw [zH,hj];rfl);have a2:(l.map (·.1))[j']? =some key:=(by rw [zH,h2];rfl);obtain⟨b1,c1⟩:=List.getElem?_eq_some_iff.1 a1;obtain⟨b2,c2⟩:=List.getElem?_eq_some_iff.1 a2;exact(List.getElem_inj hn).1 (c1.trans c2.symm)
  subst hjj;rw [hj]at h2;cases h2;exact h1
theorem Sp.mapNo (K:Keyed P k) (ht:P.underlying t=some (.map k e)) {z:V} (hz:∀w,(zeroValue e).run P w= .ok z w) (h:Sp w L) (hm:MapA P k b l∈L) {key:V} {kl:Lit} (hkey:Go.keyOf P k key=some kl) (hj:∀p∈l,p.1≠key):
 (Instr.lookup t (.map (some b)) key false).run P w= .ok z w:=by
 rcases h.mapLook K ht (hz w) hm hkey with⟨h1,_⟩|⟨j',v',_,h2⟩
 ·exact h1
 ·exact absurd rfl (hj _ (zD h2))
end
theorem US (w:O):(zeroValue 219).run prog w= .ok (.map none) w:=by kernel_rfl
theorem UT (w:O):(zeroValue 55).run prog w= .ok (.slice none 0 0) w:=by kernel_rfl
theorem gJ {w:O} {L:List Asn} {T:Nat} {rs:List TR} (h:Sp w L) (hm:MapA prog 9 T (rs.map TR.kv)∈L):(rs.map TR.term).Nodup:=by
 have:=h.mapDistinct hm;rw [yD]at this;have h3:rs.map ((·.1) ∘ TR.kv)=(rs.map TR.term).map Value.string:=by rw [yD];rfl
 rw [h3]at this;exact(List.pairwise_map.1 this).imp fun h e=>h (by rw [e])
theorem rN {α:Type} {l:List α} {i:Nat} {x:α} (h:l[i]? =some x):l.set i x=l:=by
 apply yX
 intro j;rw [xO]
 by_cases hj:i=j
 ·subst hj;rw [if_pos rfl,if_pos (zN h),h]
 ·rw [if_neg hj]
theorem oK {W:O} {L:List Asn} {T b j:Nat} {td:xo} {t:aB} {d p:Int} {rs:List TR} {ds ds' :List DR} (hdis:(td.map (·.1)).Nodup) (hrj:rs[j]? =some ⟨t,b,ds⟩) (hpl:rs.map TR.pl=upd t (fun o=>o.getD []) td) (hd:ds'.map DR.pl=OJ (ds.map DR.pl) d p)
 (h:Sp W (MapA prog 3 b (ds'.map DR.kv)::zz (ds'.map DR.asn)::MapA prog 9 T (rs.map TR.kv)::zz ((rs.map TR.asn).eraseIdx j)::L)):Sp W (YR T (addT td t d p)::L):=by
 have h1:=Sp.selT [_,_,_] (h.starIn) [0,2,1];have h2:=Sp.starSet (X' :=TR.asn ⟨t,b,ds'⟩) h1 (by rw [zK];exact zN hrj);have e1:(rs.map TR.asn).set j (TR.asn ⟨t,b,ds'⟩)=(rs.set j ⟨t,b,ds'⟩).map TR.asn:=by rw [List.map_set]
 have e2:rs.map TR.kv=(rs.set j ⟨t,b,ds'⟩).map TR.kv:=by
  rw [List.map_set];exact(rN (by rw [zH,hrj];rfl)).symm
 rw [e1]at h2;have h3:=h2.p1;rw [e2]at h3;refine h3.termsIn ?_;rw [List.map_set,hpl];have h4:(upd t (fun o:Option Wc=>o.getD []) td)[j]? =some (t,ds.map DR.pl):=by rw [<-hpl,zH,hrj];rfl
 unfold addT;rw [KP (f:=fun o=>OJ (o.getD []) d p) hdis h4 (fun o=>rfl)]
 congr 1
 show(t,ds'.map DR.pl)=_;rw [hd];rfl
theorem pS {G T N:Nat} {gs:aG} {td:xo} {w:O} {L:List Asn} (t:aB) (d p:Int) (hd:In64 d) (ht:t.size<=1000000000) (hN:Ya N td) (hN2:N<=10000000000)
 (HS:Sp w (YR T td::BlkA G 152 gs::L)) (hg:gs[8]? =some (.map (some T))):
 Calls prog 191 #[.pointer (some ⟨G,0,none⟩),.string t,.int .i64 d,.int .i64 p] w fun e w' =>e= .returned (.tuple #[])/\Sp w' (YR T (addT td t d p)::BlkA G 152 gs::L):=by
 obtain⟨rs,hrs,HS1⟩:=HS.termsOut;have hkt:=zA (keyS t (by omega));have hkd:=zA (O3 d hd);have c8:w.cell? ⟨G,8,none⟩=some (.map (some T)):=(HS1.cell M2 8).trans hg;have hnil:=fun x W=>LU x W
 have hdis:(td.map (·.1)).Nodup:=by
  have h2:td.map (·.1)=rs.map TR.term:=(by rw [<-hrs,yD];rfl);rw [h2];exact gJ HS1 M0
 have Hg:=zA hg;have Hrs:=zA hrs;have HN:=zA hN;have Hdis:=zA hdis;have hrl:rs.length<=N:=by have:=hN.1;rw [<-hrs]at this;simpa using this
 clear HS hg hrs hN hdis hd
 obtain⟨x,hl,hx⟩:∃x:Option Nat,(Instr.lookup 144 (.map (some T)) (.string t) false).run prog w= .ok (.map x) w/\((x=none/\∀p∈rs.map TR.kv,p.1≠ .string t)\/∃(j:Nat) (r:TR),rs[j]? =some r/\r.term=t/\x=some r.b):=by
  rcases HS1.mapLook Vc underlying144 (US w) M0 hkt.out with⟨hl,hno⟩|⟨j,v,hl,hj⟩
  ·exact⟨none,hl,.inl ⟨rfl,hno⟩⟩
  ·obtain⟨r,hr,hrt,rfl⟩:=TR.kv_inj hj;exact⟨some r.b,hl,.inr ⟨j,r,hr,hrt,rfl⟩⟩
 have Hx:=zA hx;clear hx;go_enter func191,ntmps191
 go_upto_if 14 with fail
 clear hl
 go_cut []from 15 to 20 (fun W=>∃(rs' :List TR) (j b:Nat) (ds:List DR),rs'[j]? =some ⟨t,b,ds⟩/\rs'.map TR.pl=upd t (fun o=>o.getD []) td/\Sp W (MapA prog 3 b (ds.map DR.kv)::zz (ds.map DR.asn)::MapA prog 9 T (rs'.map TR.kv)::zz ((rs'.map TR.asn).eraseIdx j)::BlkA G 152 gs::L))
 case first=>
  rcases Hx.out with⟨rfl,hno⟩|⟨j,r,hr,rfl,rfl⟩
  ·obtain⟨Bn,hBn⟩:=eX (w.heap.size);have HS2:=(HS1.mapNew (P:=prog) (k:=3) hBn).p1;obtain⟨w2,l',hmu,hl',HS3⟩:=HS2.mapPut Vc underlying144 (by rw [zK];unfold maxLen;omega) (.map (some Bn)) hkt.out;have hmk:=fun w=>run_makeMap (P:=prog) 219 w;have c8a:∀o,(w.alloc o).cell? ⟨G,8,none⟩=some (.map (some T)):=fun o=>ON c8 o;go_wp2
   go_meet
   rcases hl' with⟨_,rfl⟩|⟨j,v,hj,_⟩
   ·refine⟨rs++ [⟨t,Bn, []⟩],rs.length,Bn, [],by simp,?_,?_⟩
    ·rw [zw,Hrs.out,cH]
     ·rfl
     ·intro q hq e;rw [<-Hrs.out]at hq;obtain⟨r,hr,rfl⟩:=List.mem_map.1 hq;exact hno _ (List.mem_map.2 ⟨r,hr,rfl⟩) (by show Value.string r.term=_;rw [show r.term=t from e])
    ·have e1:((rs++ [(⟨t,Bn, []⟩:TR)]).map TR.asn).eraseIdx rs.length=rs.map TR.asn:=by
      rw [zw,List.eraseIdx_append_of_length_le (by simp)];simp
     rw [e1,zw];exact Sp.selT [_,_,_,_] HS3.starNil [2,0,1,3]
   ·exact absurd rfl (hno _ (zD hj))
  ·go_wp2
   go_meet
   have hk1:(rs.map TR.asn)[j]? =some r.asn:=(by rw [zH,hr];rfl);have HS4:=((HS1.p1.starAt hk1).starOut (X:=MapA prog 3 r.b (r.docs.map DR.kv)) (M:=r.docs.map DR.asn));refine⟨rs,j,r.b,r.docs,hr,?_,Sp.selT [_,_,_,_] HS4 [0,1,3,2]⟩;have h1:td[j]? =some (r.term,r.docs.map DR.pl):=(by rw [<-Hrs.out,zH,hr];rfl);rw [Hrs.out,V9 Hdis.out h1]
   apply yX
   intro i;rw [xO]
   by_cases hi:j=i
   ·subst hi;rw [if_pos rfl,if_pos (zN h1),h1];rfl
   ·rw [if_neg hi]
 case rest=>
  obtain⟨rs',j,b,ds,hrj,hpl,HS2⟩:=hcut;have HN' :=HN;clear HN Hx HS1 c8 hnil;have Hpl:=zA hpl;have Hrj:=zA hrj
  have hds:ds.length<=N/\∀r∈ds,r.l.length<=N:=by
   have h1:(upd t (fun o:Option Wc=>o.getD []) td)[j]? =some (t,ds.map DR.pl):=(by rw [<-hpl,zH,hrj];rfl)
   have h2:(t,ds.map DR.pl)∈td\/ds= []:=by
    by_cases hno:∀q∈td,q.1≠t
    ·rw [cH hno]at h1;rcases zk j td.length with hj|hj
     ·rw [z9 hj]at h1;exact .inl (zD h1)
     ·rw [zR hj]at h1;have:=zN h1;simp at this;rw [show j - td.length=0 by omega]at h1;simp at h1;exact .inr h1
    ·obtain⟨q,hq,hqt⟩:∃q∈td,q.1=t:=by
      by_cases hh:∃q∈td,q.1=t
      ·exact hh
      ·exact absurd (fun q hq e=>hh ⟨q,hq,e⟩) hno
     obtain⟨i,hi⟩:=z8 hq;have hi2:td[i]? =some (t,q.2):=(by rw [hi,<-hqt]);rw [V9 Hdis.out hi2]at h1;have h3:=zD h1;rcases xe h3 with h|h
     ·exact .inl h
     ·simp only [yq,Prod.mk.injEq,true_and]at h;rw [h,<-hqt];exact .inl hq
   rcases h2 with h2|rfl
   ·have h3:=HN'.out.2 _ h2;refine⟨by simpa using h3.1,fun r hr=> ?_⟩;exact h3.2 r.pl (List.mem_map.2 ⟨r,hr,rfl⟩)
   ·exact⟨zJ _,fun r hr=>by simp at hr⟩
  have Hds:=zA hds;have hrj' :=hrj;clear hds hpl hrj
  obtain⟨A,c,l,E,hl,HR,hlk,hfin⟩:∃(A:aA) (c:Nat) (l:aD) (E:List Asn),l.length<=N/\
   Sp wc (NA A l.length c l::MapA prog 3 b (ds.map DR.kv)::zz E::MapA prog 9 T (rs'.map TR.kv)::zz ((rs'.map TR.asn).eraseIdx j)::BlkA G 152 gs::L)/\
   (∀(W:O) (L' :List Asn),Sp W L' ->MapA prog 3 b (ds.map DR.kv)∈L' ->(Instr.lookup 219 (.map (some b)) (.int .i64 d) false).run prog W= .ok (.slice A l.length c) W)/\
   ∀(W:O) (A' :aA) (c' :Nat) (es:List (V×V)),((∀q∈ds.map DR.kv,q.1≠ .int .i64 d)/\es=ds.map DR.kv++ [(.int .i64 d,.slice A' (l.length+1) c')]\/∃(i:Nat) (v:V),(ds.map DR.kv)[i]? =some (.int .i64 d,v)/\es=(ds.map DR.kv).set i (.int .i64 d,.slice A' (l.length+1) c'))->
    Sp W (MapA prog 3 b es::NA A' (l.length+1) c' (l++ [p])::zz E::MapA prog 9 T (rs'.map TR.kv)::zz ((rs'.map TR.asn).eraseIdx j)::BlkA G 152 gs::L)->Sp W (YR T (addT td t d p)::BlkA G 152 gs::L):=by
   by_cases hno:∀q∈ds.map DR.kv,q.1≠ .int .i64 d
   ·refine⟨none,0, [],ds.map DR.asn,zJ _,HS2.nil 3 1,fun W L' h hm=>h.mapNo UD underlying219 UT hm hkd.out hno,fun W A' c' es hes h=> ?_⟩;rcases hes with⟨_,rfl⟩|⟨i,v,hi,_⟩
    ·refine oK (ds' :=ds++ [⟨d,A',c', [p]⟩]) Hdis.out Hrj.out Hpl.out ?_ ?_
     ·rw [zw];unfold OJ;rw [cH fun q hq e=> ?_]
      ·rfl
      ·obtain⟨r,hr,rfl⟩:=List.mem_map.1 hq;exact hno r.kv (List.mem_map.2 ⟨r,hr,rfl⟩) (by show Value.int .i64 r.doc=_;rw [show r.doc=d from e])
     ·rw [zw,zw];have h2:Sp W (NA A' 1 c' [p]::zz (ds.map DR.asn)::_):=Sp.selT [_,_,_] h [1,2,0];exact h2.starPush.p1
    ·exact absurd rfl (hno _ (zD hi))
   ·obtain⟨q,hq,hqd⟩:∃q∈ds.map DR.kv,q.1= .int .i64 d:=by
     by_cases hh:∃q∈ds.map DR.kv,q.1= .int .i64 d
     ·exact hh
     ·exact absurd (fun q hq e=>hh ⟨q,hq,e⟩) hno
    obtain⟨i,hi⟩:=z8 hq;obtain⟨r,hr,hrd,hrv⟩:=DR.kv_inj (v:=q.2) (by rw [hi,<-hqd]);have hk1:(ds.map DR.asn)[i]? =some r.asn:=(by rw [zH,hr];rfl);have hkv:(ds.map DR.kv)[i]? =some (.int .i64 d,.slice r.A r.l.length r.c):=(by rw [zH,hr,<-hrd];rfl)
    refine⟨r.A,r.c,r.l,(ds.map DR.asn).eraseIdx i,Hds.out.2 r (zD hr),?_,fun W L' h hm=>h.mapAt UD underlying219 UT hm hkd.out hkv,fun W A' c' es hes h=> ?_⟩
    ·exact Sp.selT [_,_,_] (HS2.p1.starAt hk1) [0,2,1]
    ·have hdn:(ds.map DR.doc).Nodup:=by
      have:=HS2.mapDistinct M0;rw [yD]at this;have h3:ds.map ((·.1) ∘ DR.kv)=(ds.map DR.doc).map (Value.int .i64):=(by rw [yD];rfl);rw [h3]at this;exact(List.pairwise_map.1 this).imp fun h e=>h (by rw [e])
     rcases hes with⟨hno2,_⟩|⟨i2,v,hi2,rfl⟩
     ·exact absurd hqd (hno2 q hq)
     ·have hii:i2=i:=by
       obtain⟨r2,hr2,hrd2,_⟩:=DR.kv_inj hi2;have a1:(ds.map DR.doc)[i]? =some d:=(by rw [zH,hr,<-hrd];rfl);have a2:(ds.map DR.doc)[i2]? =some d:=(by rw [zH,hr2,<-hrd2];rfl);obtain⟨b1,c1⟩:=List.getElem?_eq_some_iff.1 a1;obtain⟨b2,c2⟩:=List.getElem?_eq_some_iff.1 a2;exact(List.getElem_inj hdn).1 (c2.trans c1.symm)
      subst hii;have hp1:(ds.map DR.pl)[i2]? =some (d,r.l):=(by rw [zH,hr,<-hrd];rfl);have hpn:((ds.map DR.pl).map (·.1)).Nodup:=(by rw [yD];exact hdn);refine oK (ds' :=ds.set i2 ⟨d,A',c',r.l++ [p]⟩) Hdis.out Hrj.out Hpl.out ?_ ?_
      ·rw [List.map_set];unfold OJ;rw [V9 hpn hp1];rfl
      ·have e1:(ds.map DR.kv).set i2 (.int .i64 d,.slice A' (r.l.length+1) c')=(ds.set i2 ⟨d,A',c',r.l++ [p]⟩).map DR.kv:=by
        rw [List.map_set];simp [DR.kv]
       have e2:(ds.map DR.asn).set i2 (NA A' (r.l.length+1) c' (r.l++ [p]))=(ds.set i2 ⟨d,A',c',r.l++ [p]⟩).map DR.asn:=by
        rw [List.map_set];simp [DR.asn]
       rw [<-e1,<-e2];have h2:Sp W (NA A' (r.l.length+1) c' (r.l++ [p])::zz ((ds.map DR.asn).eraseIdx i2)::_):=Sp.selT [_,_,_] h [1,2,0];exact(h2.starSet (by rw [zK];exact zN hr)).p1
  have Hfin:=zA hfin;have Hlk:=zA hlk;clear hfin hlk HS2 Hpl Hrj Hdis;have HRd:=HR.drew;have m8:wc.cell? ⟨G,8,none⟩=some (.map (some T)):=(HR.cell M5 8).trans Hg.out;obtain⟨n,hn⟩:=eX (l.length);rw [hn]at HR HRd Hlk hl Hfin;have hTk:(rs'.map TR.kv)[j]? =some (.string t,.map (some b)):=(by rw [zH,hrj'];rfl)
  have lkT:∀(W:O) (L' :List Asn),Sp W L' ->MapA prog 9 T (rs'.map TR.kv)∈L' ->(Instr.lookup 144 (.map (some T)) (.string t) false).run prog W= .ok (.map (some b)) W:=fun W L' h hm=>h.mapAt Vc underlying144 US hm hkt.out hTk;have LkT:=zA lkT;have lT0:=LkT.out wc.drew _ HRd M3;have lT1:=fun o=>LkT.out (wc.alloc o).drew _ (HR.al o).drew M3;have lD0:=Hlk.out wc.drew _ HRd M1
  have lD1:=fun o=>Hlk.out (wc.alloc o).drew _ (HR.al o).drew M1;have m81:∀o,(wc.alloc o).drew.cell? ⟨G,8,none⟩=some (.map (some T)):=fun o=>ON m8 o;have hroom:(ds.map DR.kv).length<maxLen:=(by have:=Hds.out.1;rw [zK];unfold maxLen;omega);have Hroom:=zA hroom;clear lkT hTk hn hroom hrj';go_upto_region 2 with fail
  go_region_held3 (fun W=>W.cell? ⟨G,8,none⟩=some (.map (some T))) (first|with_reducible assumption|exact m81 _|go_keep|fail) (first
   |(refine yz Xr (.tmp 35) (.tmp 37) rfl rfl HRd rfl (cs:= #[.int .i64 p]) rfl rfl rfl (by intro u hu;simp at hu;subst hu;rfl) (by omega) (by omega) ?_;intro A8 c8 w8 hc8 hm8 HS8;have m82:w8.cell? ⟨G,8,none⟩=some (.map (some T)):=(HS8.cell M5 8).trans Hg.out;have lT2:=LkT.out _ _ HS8 M3;obtain⟨w9,l9,hmu,hl9,HS9⟩:=Sp.mapPut UD underlying219 HS8.p1 Hroom.out (.slice A8 (n+1) c8) hkd.out;have m83:w9.cell? ⟨G,8,none⟩=some (.map (some T)):=(HS9.cell M5 8).trans Hg.out)
   |fail)
  all_goals
   have e1:ints l++(#[Value.int .i64 p]:aG).toList=ints (l++ [p]):=(by simp [Go.Proofs.YtjbhbfaeielbiaaGreatDoor.ints]);rw [e1]at HS9;have HS11:=Hfin.out w9 A8 c8 l9 hl9 HS9;clear HS9 hmu lT0 lT1 lT2 lD0 lD1 m8 m81 m82 m83
   go_end0
   exact⟨rfl,HS11⟩
theorem eP {κ ν:Type} [DecidableEq κ] (k:κ) (f:Option ν->ν):∀(l:List (κ×ν)),(upd k f l).length<=l.length+1
 | []=>by simp [upd]
 |p::l=>by
  rw [QG]
  split
  ·simp
  ·simpa using eP k f l
theorem Q2 {κ ν:Type} [DecidableEq κ] {k:κ} {f:Option ν->ν}:∀{l:List (κ×ν)} {q:κ×ν},q∈upd k f l->q∈l\/q=(k,f none)\/∃v,(k,v)∈l/\q=(k,f (some v))
 | [],q,h=>by simp [upd]at h;exact .inr (.inl h)
 |p::l,q,h=>by
  rw [QG]at h
  split at h
  ·rename_i e;rcases yx.1 h with rfl|h
   ·exact .inr (.inr ⟨p.2,by rw [<-e];simp,rfl⟩)
   ·exact .inl (by simp [h])
  ·rcases yx.1 h with rfl|h
   ·exact .inl (by simp)
   ·rcases Q2 h with h|h|⟨v,h,e⟩
    ·exact .inl (by simp [h])
    ·exact .inr (.inl h)
    ·exact .inr (.inr ⟨v,by simp [h],e⟩)
theorem Ya.add {N:Nat} {td:xo} (h:Ya N td) (t:aB) (d p:Int):Ya (N+1) (addT td t d p):=by
 have hadd:∀ds:Wc,ds.length<=N->(∀q∈ds,q.2.length<=N)->(OJ ds d p).length<=N+1/\∀q∈OJ ds d p,q.2.length<=N+1:=fun ds h1 h2=>by
  refine⟨zY (eP _ _ _) (by omega),fun q hq=> ?_⟩;rcases Q2 hq with h|rfl|⟨v,h,rfl⟩
  ·have:=h2 q h;omega
  ·simp
  ·have:=h2 _ h;simp at this⊢;omega
 refine⟨zY (eP _ _ _) (by have:=h.1;omega),fun q hq=> ?_⟩;rcases Q2 hq with h1|rfl|⟨v,h1,rfl⟩
 ·have:=h.2 q h1;exact⟨by omega,fun r hr=>by have:=this.2 r hr;omega⟩
 ·exact hadd [] (by simp) (by simp)
 ·have:=h.2 _ h1;exact hadd v this.1 this.2
theorem Ya.mono {N M:Nat} {td:xo} (h:Ya N td) (hm:N<=M):Ya M td:=⟨zY h.1 hm,fun p hp=>⟨zY (h.2 p hp).1 hm,fun q hq=>zY ((h.2 p hp).2 q hq) hm⟩⟩
def Y6 (td:xo) (d:Int) (l:List Token):xo:=l.foldl (fun td t=>addT td t.text d t.pos) td
theorem Va {out:List Token} {j k:Nat} {t:Token} {v:V} (h:out[j]? =some t) (hk:t.cells[k]? =some v) (hk4:k<4):(out.flatMap Token.cells)[j*4+k]? =some v:=by
 rw [List.flatMap_def];exact(xX (out.map Token.cells) j k t.cells (by simp [Token.cells]) (by simp [h]) hk4).trans hk
theorem B6 {G T N n2 c2 doc i n c m cm:Nat} {A2 A B:aA} {gs:aG} {td:xo} {lens:aD} {fs:List Field} {cells:List yZ} {f:Field} {w:O} {L:List Asn} (hV:Tabs w) (hs:zL w (·<w.heap.size) A n c fs) (he:zL w (·<w.heap.size) B m cm cells)
 (hsb:xC fs=true) (hf:fs[i]? =some f) (hk:f.kind=1) (hm:m<=64) (hts:∀t∈tokP fs i cells,t.text.size<=1000000000) (hdoc:doc<=16384) (hN:Ya N td) (hN2:N<=6000000000) (hn2:n2<=1000000)
 (HS:Sp w (YR T td::BlkA G 152 gs::IA A2 n2 c2 lens::L)) (g2:gs[2]? =some (.slice A2 n2 c2)) (g6:gs[6]? =some (.slice A n c)) (g7:gs[7]? =some (.int .i64 (i:Int))) (g8:gs[8]? =some (.map (some T))):
 Calls prog 110 #[.pointer (some ⟨G,0,none⟩),.int .i64 (doc:Int),.slice B m cm] w fun e w' =>e= .returned (.tuple #[])/\∃A2' c2',Sp w' (YR T (Y6 td doc (tokP fs i cells))::BlkA G 152 (gs.setIfInBounds 2 (.slice A2' (n2+1) c2'))::IA A2' (n2+1) c2' (lens++ [((tokP fs i cells).length:Int)])::L):=by
 have HT:=tN A B n c m cm i fs cells f w.drew (hV.on (zE _ _).drew) (hs.on (zE _ _).drew) (he.on (zE _ _).drew) hsb hf hk hm;obtain⟨o,ho⟩:=eX (tokP fs i cells);rw [ho]at HT hts⊢;have HT:=zA HT;have Hts:=zA hts;have HN:=zA hN;have G2:=zA g2;have G6:=zA g6;have G7:=zA g7;have G8:=zA g8;have q6:w.cell? ⟨G,6,none⟩=some (.slice A n c):=(HS.cell M1 6).trans g6
 have q7:w.cell? ⟨G,7,none⟩=some (.int .i64 (i:Int)):=(HS.cell M1 7).trans g7;have HSd:=HS.drew;clear hV hs he hsb hf hts hN g2 g6 g7 g8 ho HS;go_enter func110,ntmps110;go_upto_region 0 with fail
 go_region_held3 (fun W=>W.cell? ⟨G,6,none⟩=some (.slice A n c)/\W.cell? ⟨G,7,none⟩=some (.int .i64 (i:Int))) (first|with_reducible assumption|(with_reducible exact⟨by assumption,by assumption⟩)|go_keep|fail) (first
  |(go_at_call 10;refine HT.out.mono ?_;rintro r w1 ⟨Ak,nk,ck,rfl,hnk,hnk2,HS0⟩;have Hnk:=zA hnk;clear hnk;have HS1:=HSd.c1 HS0;have k6:w1.cell? ⟨G,6,none⟩=some (.slice A n c):=(HS1.cell M2 6).trans G6.out;have k7:w1.cell? ⟨G,7,none⟩=some (.int .i64 (i:Int)):=(HS1.cell M2 7).trans G7.out)
  |fail)
 clear q6 q7 k6 k7 HT HSd HS0;go_wp2
 go_loopg [21] nk (fun gj v21 wr=>∃j:Nat,v21= .int .i64 j/\j<=nk/\gj=nk - j/\Sp wr (TkA Ak nk ck o::YR T (Y6 td doc (o.take j))::BlkA G 152 gs::IA A2 n2 c2 lens::L)/\Ya (N+j) (Y6 td doc (o.take j)))
 case atStart=>exact⟨0,rfl,zJ _,rfl,HS1,HN.out⟩
 case round=>
  obtain⟨j,rfl,hj,rfl,HS2,hsz⟩:=hrel;clear HS1
  by_cases hjn:j<nk
  ·obtain⟨t,ht⟩:∃t,o[j]? =some t:=⟨_,zB (by rw [<-Hnk.out];exact hjn)⟩;obtain⟨gk,rfl, -, -⟩:=(HS2.rowOf M0).at_ (by omega)
   have t0:wr.cell? ⟨gk,j*4,none⟩=some (.string t.text):=by
    have:=HS2.rowCell M0 (Va (k:=0) ht rfl (by omega))
    simpa using this
   have t1:wr.cell? ⟨gk,j*4+1,none⟩=some (.int .i64 t.pos):=HS2.rowCell M0 (Va ht rfl (by omega));have t2:wr.cell? ⟨gk,j*4+2,none⟩=some (.int .i64 t.from_):=HS2.rowCell M0 (Va ht rfl (by omega));have t3:wr.cell? ⟨gk,j*4+3,none⟩=some (.int .i64 t.to_):=HS2.rowCell M0 (Va ht rfl (by omega));obtain⟨Tb,hTb⟩:=eX (wr.heap.size)
   have HS3:=HS2.blkH 48 #[.string t.text,.int .i64 t.pos,.int .i64 t.from_,.int .i64 t.to_] hTb;have HA:=zA (pS (N:=N+j) t.text (doc:Int) t.pos ⟨by omega,by omega⟩ (Hts.out t (zD ht)) hsz (by omega) (Sp.selT [_,_,_,_] HS3 [2,3,1,0]) G8.out)
   have hstep:Y6 td doc (o.take (j+1))=addT (Y6 td doc (o.take j)) t.text doc t.pos:=by
    rw [zI,ht];unfold Y6;rw [xE];rfl
   have Hstep:=zA hstep;have Hsz:=zA hsz;clear HS2 HS3 hstep hsz;go_wp2_with (go_at_call 191;refine HA.out.mono ?_;rintro r w2 ⟨rfl,HS4⟩)
   go_roundg (nk - (j+1))
   case measure=>omega
   case rel=>
    rw [<-Hstep.out]at HS4;exact⟨j+1,by go_num,by omega,rfl,Sp.selT [_,_,_,_] HS4 [2,0,1],by rw [Hstep.out];exact Hsz.out.add _ _ _⟩
  ·obtain rfl:j=nk:=by omega
   rw [zF (by rw [<-Hnk.out];exact zC _)]at HS2;have HS3:=Sp.selT [_,_,_,_] HS2 [3,2,1];have k2:wr.cell? ⟨G,2,none⟩=some (.slice A2 n2 c2):=(HS3.cell M1 2).trans G2.out;clear HS2 hsz
   go_wp2_with (at_builtin;refine yC Zs (.tmp 38) (.tmp 41) rfl rfl HS3 rfl (cs:= #[.int .i64 (j:Int)]) rfl rfl rfl (by intro u hu;simp at hu;subst hu;rfl) (by omega) (by omega) ?_;intro A8 c8 w8 hc8 hm8 HS8;have k3:w8.cell? ⟨G,2,none⟩=some (.slice A2 n2 c2):=(HS8.cell M1 2).trans G2.out;have k4:=(HS8.blkOf M1).frozen 2)
   have e1:ints lens++(#[Value.int .i64 (j:Int)]:aG).toList=ints (lens++ [(o.length:Int)]):=(by rw [<-Hnk.out];simp [Go.Proofs.YtjbhbfaeielbiaaGreatDoor.ints]);rw [e1]at HS8;have HS9:=(HS8.p1).set 2 (.slice A8 (n2+1) c8);clear HS8 e1 k2 k3 k4;go_wp2
   go_end0
   exact⟨rfl,A8,c8,HS9.p2⟩
def YO (kd:Int):Nat:=if kd=1 then 110 else if kd=2 then 111 else if kd=5 then 113 else 112
theorem CB {G i n c:Nat} {A:aA} {fs:List Field} {f:Field} {w:O} (hs:zL w (·<w.heap.size) A n c fs) (hf:fs[i]? =some f) (hk:1<=f.kind/\f.kind<=5)
 (g6:w.cell? ⟨G,6,none⟩=some (.slice A n c)) (g7:w.cell? ⟨G,7,none⟩=some (.int .i64 (i:Int))) (hG:G<w.heap.size):
 Calls prog 62 #[.pointer (some ⟨G,0,none⟩)] w fun e w' =>e= .returned (.func (.func (YO f.kind)) #[.pointer (some ⟨G,0,none⟩)] #[])/\Below w.heap.size w w' :=by
 have hmf:=@mF prog;have hin:i<n:=by rw [<-hs.length];exact zN hf
 have hi2:(i:Int)<(n:Int):=by omega
 obtain⟨b,off,f',rfl,hf',hb,he⟩:=hs.at_ hin
 cases hf'.out.symm.trans hf;obtain⟨A2,n2,c2,F0,F1,F2,F3,F4,F5,F6, -⟩:=Field.at_ he
 have hbw:∀o,Below w.heap.size w (w.alloc o):=fun o=>(zE _ _).alloc (zC _) o;have q6:∀o,(w.alloc o).cell? ⟨G,6,none⟩=some (.slice (some ⟨b,off,none⟩) n c):=fun o=>ON g6 o;have q7:∀o,(w.alloc o).cell? ⟨G,7,none⟩=some (.int .i64 (i:Int)):=fun o=>ON g7 o;have q1:∀o,(w.alloc o).cell? ⟨b,off+i*7+1,none⟩=some (.int .i64 f.kind):=fun o=>ON F1 o;obtain⟨kd,hkd⟩:=eX (f.kind);rw [hkd]at q1 hk F1⊢
 have Hbw:=zA hbw;clear hs hf F0 F2 F3 F4 F5 F6 he hf' hkd hbw;obtain⟨kn,hkn⟩:∃kn:Nat,kd=(kn:Int):=⟨kd.toNat,by omega⟩;subst hkn;have hk6:(kn:Int)<6:=by omega
 obtain⟨Fs,hFs⟩:∃Fs:aG,#[Value.nilFunc,Value.func (.func 110) #[.pointer (some ⟨G,0,none⟩)] #[],Value.func (.func 111) #[.pointer (some ⟨G,0,none⟩)] #[],Value.func (.func 112) #[.pointer (some ⟨G,0,none⟩)] #[],Value.func (.func 112) #[.pointer (some ⟨G,0,none⟩)] #[],Value.func (.func 113) #[.pointer (some ⟨G,0,none⟩)] #[]]=Fs:=⟨_,rfl⟩
 have hFk:Fs[kn]? =some (.func (.func (YO (kn:Int))) #[.pointer (some ⟨G,0,none⟩)] #[]):=by
  rw [<-hFs];have hc:kn=1\/kn=2\/kn=3\/kn=4\/kn=5:=(by omega);rcases hc with rfl|rfl|rfl|rfl|rfl<;>rfl
 obtain⟨H,hH⟩:=eX (w.heap.size);have hl:(w.alloc (.cells Fs 154)).cell? ⟨H,kn,none⟩=some (.func (.func (YO (kn:Int))) #[.pointer (some ⟨G,0,none⟩)] #[]):=by rw [<-hH];simpa using hFk
 obtain⟨w2,hw2⟩:=eX (w.alloc (.cells Fs 154));have hb2:Below w.heap.size w w2:=by rw [<-hw2];exact Hbw.out _
 have p6:=q6 (.cells Fs 154);have p7:=q7 (.cells Fs 154);have p1:=q1 (.cells Fs 154);rw [hw2]at hl p6 p7 p1;have Hb2:=zA hb2;clear q6 q7 q1 hFk hb2 Hbw;go_enter func62,ntmps62;go_wp2
 go_region
 all_goals
  clear p6 p7 p1 hl g6 g7 F1;go_wp2;go_ret
  exact⟨rfl,Hb2.out.drew⟩
end Go.Proofs.YtjbhbfaeielbiaaGreatDoor

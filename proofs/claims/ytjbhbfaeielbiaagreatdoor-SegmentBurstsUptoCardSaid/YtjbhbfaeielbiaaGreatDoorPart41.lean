/-
  SegmentBursts, the second form: whatever schema, items (together with the rest of bulk at most 2^20), place and burst: a segment's file that is altered by one burst of at most 32 bits is refused, and what was handed in reads as it did; no condition beyond the bulk's bound and the listed variables of the library, which the card ties to the program's text.
  The texts Part01 to Part41 were made small by program out of the repository's templates; the frame was written after the kit's worked example over listed variables.
-/
import Derived.Test.YtjbhbfaeielbiaaGreatDoorPart39
import Derived.Test.YtjbhbfaeielbiaaGreatDoorPart38
import Derived.Test.YtjbhbfaeielbiaaGreatDoorPart40
set_option maxRecDepth 100000
set_option maxHeartbeats 8000000
set_option linter.unusedVariables false
set_option linter.unusedSimpArgs false
namespace Go.Proofs.YtjbhbfaeielbiaaGreatDoor
open Go.Proofs.Tryz
open Rep (rep)
open Go.RowKit
attribute [local go_sem ↓] zU zV
abbrev O5 (items:List xw):List U64:=items.map (·.1)
abbrev bL (items:List xw):N7:=items.map (·.2)
def bG (fs:List Field) (items:List xw):aC:=ZQ 1 (xl fs (O5 items) (bL items) (Zz fs items))
def dG (fs:List Field) (items:List xw):Prop:=Uy fs items/\xR 1 (xl fs (O5 items) (bL items) (Zz fs items))=true/\∀(k:Nat) (f:Field) (x:N8),fs[k]? =some f->(Zz fs items)[k]? =some x->WA f x.1 x.2.1
def fZ (fs:List Field) (items:List xw) (w:O) (e:Ending) (w' :O):Prop:=
 (∃er,er≠0/\¬dG fs items/\e= .returned (.tuple #[.pointer none,.int .i64 er])/\Below w.heap.size w w')\/
 ∃(X g q:Nat) (A1 A2 A3 A4 Ac:aA) (c2 c3 c4 cc Tb:Nat) (As:List aA),e= .returned (.tuple #[.pointer (some ⟨X,0,none⟩),.int .i64 0])/\As.length=g/\(yL (bL items)).length=g/\dG fs items/\
  Sp w' (OP X fs.length q items.length g A1 A2 A3 A4 Ac c2 c3 c4 cc Tb As fs (O5 items) (bL items) (Zz fs items) (bG fs items)++ [OldA w.heap.size w])
theorem VS {w:O} {s e:Nat} {v u:V} {tmps:aG} (h2:tmps.getD 4 undef= .pointer (some ⟨s,0,none⟩)) (h3:tmps.getD 5 undef= .pointer (some ⟨e,0,none⟩)) (hs:w.cell? ⟨s,0,none⟩=some v) (he:w.cell? ⟨e,0,none⟩=some u):
 (results Tryz.f6 tmps).run prog w= .ok (.tuple #[v,u]) w:=by
 have h1:Tryz.f6.results= #[ResultVar.cell 4 26,ResultVar.cell 5 27]:=rfl;have h4:tmps[4]?.getD undef= .pointer (some ⟨s,0,none⟩):=by simpa using h2
 have h5:tmps[5]?.getD undef= .pointer (some ⟨e,0,none⟩):=by simpa using h3
 simp [results,h1,h4,h5,asAddr,Result.andThen,go_sem,hs,he]
theorem VW {fn:Func} {R:Ending->O->Prop} {t1 t2:aG} (h:results fn t1=results fn t2):∀(ds:List Deferred) (u:FrameMode) (w:O),Leaves prog fn t1 R ds u w->Leaves prog fn t2 R ds u w
 | [],.returning,w,hl=>by
   obtain⟨v,h1,h2⟩:=hl;exact⟨v,by rw [<-h];exact h1,h2⟩
 | [],.panicking _,_,hl=>hl
 | [],.run,_,hl=>hl
 |_::ds,_,_,⟨h1,fv,cap,f,args,h2,h3,h4⟩=>⟨h1,fv,cap,f,args,h2,h3,h4.mono fun e u' w' =>match e with
  | .returned _=>VW h ds _ _
  | .panicked _=>VW h ds _ _
  | .outgrown=>id⟩
theorem fO {K:Act->O->Prop} {R:Ending->O->Prop} {c:List PanicEntry} {a:Act} {w:O} {v:V} (k:Nat) (h4:k≠4:=by decide) (h5:k≠5:=by decide) (h:Exit.then K (bodyPostD prog Tryz.f6 R) (.panic c) (a.put (some k) v) w):Exit.then K (bodyPostD prog Tryz.f6 R) (.panic c) a w:=by
 refine VW ?_ a.defers _ w h;have h1:Tryz.f6.results= #[ResultVar.cell 4 26,ResultVar.cell 5 27]:=rfl;have e4:(a.put (some k) v).tmps[4]? =a.tmps[4]? :=by simp [Act.put,h4]
 have e5:(a.put (some k) v).tmps[5]? =a.tmps[5]? :=by simp [Act.put,h5]
 simp [results,h1,e4,e5]
theorem fL {fn:Func} {tmps:aG} {R:Ending->O->Prop} {p q:Nat} {er:Int} {tp tq:TypeId} {v0 u0:V} {w:O} {L:List Asn} (HS:Sp w (BlkA p tp #[v0]::BlkA q tq #[u0]::L))
 (k:∀w',Sp w' (BlkA p tp #[.pointer none]::BlkA q tq #[.int .i64 er]::L)->∃v,(results fn tmps).run prog w' = .ok v w' /\R (.returned v) w'):
 Leaves prog fn tmps R [{target:= .fn (.func 30) #[],args:= #[.pointer (some ⟨p,0,none⟩),.pointer (some ⟨q,0,none⟩)]}] (.panicking [Q1 er]) w:=by
 have eg:=enters_of func30 (by kernel_rfl) rfl;refine leaves_cons (f:=30) (args:= #[.pointer (some ⟨p,0,none⟩),.pointer (some ⟨q,0,none⟩)]) (by simp) (by simp [invoke,go_sem,eg]) ?_;refine(BS p q er tp tq v0 u0 w L HS).mono ?_;rintro e u' w' ⟨rfl,rfl,h⟩;exact k w' h
theorem wY {fn:Func} {tmps:aG} {R:Ending->O->Prop} {p q:Nat} {w:O} (k:∃v,(results fn tmps).run prog w= .ok v w/\R (.returned v) w):
 Leaves prog fn tmps R [{target:= .fn (.func 30) #[],args:= #[.pointer (some ⟨p,0,none⟩),.pointer (some ⟨q,0,none⟩)]}] .returning w:=by
 have eg:=enters_of func30 (by kernel_rfl) rfl;refine leaves_cons (f:=30) (args:= #[.pointer (some ⟨p,0,none⟩),.pointer (some ⟨q,0,none⟩)]) (by simp) (by simp [invoke,go_sem,eg]) ?_;refine(vA _ _ w).mono ?_;rintro e u' w' ⟨rfl,rfl,rfl⟩;exact k
theorem jA {A B:aA} {n c m cm:Nat} {fs:List Field} {items:List xw} {w:O} (hV:Vs w) (hs:zL w (·<w.heap.size) A n c fs) (hi:zL w (·<w.heap.size) B m cm items)
 (hz:∀x∈items,∀e∈x.2,e.text.size<=100000000/\e.numbers.length<=1000000000):
 Calls prog 6 #[.agg #[.slice A n c],.slice B m cm] w (fZ fs items w):=by
 have hn0:=hs.length;have hm0:=hi.length;subst hn0;subst hm0;obtain⟨H,hH⟩:=eX (w.heap.size);have hin:=dY hi;have hsq:=lM hi;have HS0:=(((Sp.start w).blkH 24 #[.slice A fs.length c] hH).blkH 26 #[.pointer none] (H:=H+1) (by simp [hH])).blkH 27 #[.int .i64 0] (H:=H+1+1) (by simp [hH])
 obtain⟨w0,hw0⟩:=eX (((w.alloc (.cells #[.slice A fs.length c] 24)).alloc (.cells #[.pointer none] 26)).alloc (.cells #[.int .i64 0] 27));rw [hw0]at HS0;have hbw:=HS0.below M3;have HB:=zA (CD (hV.on hbw) (hs.on hbw) (hi.on hbw) hz);have q0:=HS0.cl M2 0;have Hs:=zA hs;have Hin:=zA hin;have Hsq:=zA hsq;have hcap:=hs.cap;clear hV hs hi hz hin hsq hbw
 go_enter_defers func6,ntmps6
 go_upto_region 2 with fail;clear hH;go_wp2_with fail;clear hw0 q0;refine HB.out.mono ?_;unfold qU;rintro e w1 (⟨er,her,hng,rfl,hb1⟩|⟨Mb,A0,A1,A2,rfl,hdo,HS1⟩)
 ·have HS2:=zA (Sp.selT [_,_,_] (HS0.grow hb1) [1,0]);clear HS0 hb1 HB;go_wp2_with (go_at_call 31;refine(pM _ _ _).mono ?_;rintro e w2 h;obtain⟨rfl,rfl⟩:=h.bad her);refine fL HS2.out fun w' h=>⟨_,VS (by rfl) (by rfl) (h.cell M0 0) (h.cell M1 0),.inl ⟨er,her,fun g=>hng g.1,rfl,h.below M2⟩⟩
 ·have HS2:=HS0.call [_,_,_,_] HS1;clear HS0 HS1 HB;go_upto_region 3 with(go_at_call 31;refine(pM _ _ _).mono ?_;rintro e w2 h;obtain⟨rfl,rfl⟩:=h.ok);have HSd:=HS2.drew;have hbd:=HSd.below M7;obtain⟨hsb,hil⟩:=WI hdo.1;obtain⟨hfl,hfk⟩:=sF hsb
  have HW:=zA (tD (Mb:=Mb) (w:=w2.drew) (Hs.out.on hbd) (HSd.cell M0 0) (HSd.cell M0 1) (HSd.cell M0 2) (HSd.blkOf M0).lt (HSd.ls M1) (HSd.ls M2) (HSd.ls M3) hil hfl (nW hdo Hin.out) (fun k f x hf hx=>(eZ hdo Hin.out hf hx).1) hfk);clear HS2 hbd
  refine gR [(4,fun w=>w.cell? ⟨H,0,none⟩=some (.slice A fs.length c)),(3,fun w=>w.cell? ⟨H,0,none⟩=some (.slice A fs.length c))] (zg (HSd.cell M6 0) (hB (HSd.cell M6 0))) ?_;refine gL 0 4 M0 (hQ:=by exact fun _ _ _ h=>fO 13 (h:=h)) ?_;refine gL 1 3 M1 (hQ:=by exact fun _ _ _ h=>fO 14 (h:=h)) ?_;refine gF 2 (hQ:=by exact fun _ _ _ h=>fO 15 (h:=h)) ?_;intro hC;refine gO 3 fun K hK=> ?_;go_simp
  refine HW.out.mono ?_;rintro e w3 (⟨v,rfl,A5,q,rfl,hsf,hso,HS3⟩|⟨er,her,hng,rfl,hb3⟩);rotate_left
  ·have HSq:=HSd.grow hb3;refine fL (Sp.selT [_,_,_,_,_,_] HSq [5,4]) fun w' h=>⟨_,VS (by rfl) (by rfl) (h.cell M0 0) (h.cell M1 0),.inl ⟨er,her,fun g=>hng g.2,rfl,h.below M3⟩⟩
  have HS4:=Sp.selT [_,_,_,_,_,_,_] (HSd.c1 HS3) [0,5,6];have hb4:=HS4.below M4;have hrb:=HS4.rb M0;have hqq:=hrb.1.len;have HR:=zA (IR (w:=w3) (Hs.out.on hb4) hfl (sG hsb) hfk (by rw [zK]) Hsq.out (by rw [zK]) hil (nW hdo Hin.out) (AE fs items) (fun j f x hf hx=>⟨(eZ hdo Hin.out hf hx).1,hso j f x hf hx,(eZ hdo Hin.out hf hx).2⟩) hsf hrb.1 hrb.2.1 hrb.2.2)
  refine hK.out _ _ (zg (HS4.cell M3 0) (YP (by kernel_rfl) yY)) ?_;clear hK K hC;intro hC;refine gO 4 fun K hK=> ?_;go_simp;refine HR.out.mono ?_;rintro e w5 ⟨X,g,B1,B2,B3,B4,Bc,c2,c3,c4,cc,Tb,As,rfl,hAs,hg,HS5⟩;have HS6:=HS4.call _ HS5;refine hK.out _ _ hA ?_;clear hK K hC;intro hC;unfold OP at HS6;simp only [yI,zZ]at HS6;have HS7:=Sp.selT [_,_,_,_,_,_,_,_,_,_,_] HS6 [10,9,0,1,2,3,4,5,6,7]
  have y0:=HS7.cl M0 0;have y1:=(HS7.blkOf M0).frozen 0;have HS8:=HS7.set 0 (.pointer (some ⟨X,0,none⟩));clear HS6 HS5 HR HW HS4 HSd;refine gO 5 fun K hK=> ?_;go_simp;refine hK.out _ _ hA ?_;clear hK K hC;intro hC;obtain⟨x6,hx6⟩:=eX (w5.setCell ⟨H+1,0,none⟩ (.pointer (some ⟨X,0,none⟩)));rw [hx6]at HS8 hC⊢;clear hx6 HS7 y0 y1;have y0:=HS8.cl M1 0;have y1:=(HS8.blkOf M1).frozen 0
  have HS9:=HS8.p1.set 0 (.int .i64 0);refine gO 6 fun K hK=> ?_;go_simp;refine hK.out _ _ hA ?_;clear hK K hC;intro hC;refine xW (by kernel_rfl) ?_;have HS10:=zA HS9;clear HS8 HS9 hC y0 y1;go_wp2;refine wY ⟨_,VS (by rfl) (by rfl) (HS10.out.cell M1 0) (HS10.out.cell M0 0),.inr ⟨X,g,q,B1,B2,B3,B4,Bc,c2,c3,c4,cc,Tb,As,rfl,hAs,hg,⟨hdo,hsf,hso⟩,?_⟩⟩
  exact Sp.selT [_,_,_,_,_,_,_,_,_,_,_] HS10.out [2,3,4,5,6,7,8,9]
theorem IQ {A Ad:aA} {n c q qc:Nat} {b:aC} {w:O} (hq:q<=qc) (hqc:qc<=9223372036854775807) (hb:RB w Ad q b) (hq16:q<=16777216) (hs:ZN 1 b=false):
 Calls prog 33 #[.agg #[.slice A n c],.slice Ad q qc] w fun e w' =>e= .panicked [Q1 20]/\Below w.heap.size w w' :=by
 obtain⟨H,hH⟩:=eX (w.heap.size);have HS0:=(Sp.start w).blkH 24 #[.slice A n c] hH;obtain⟨w0,hw0⟩:=eX (w.alloc (.cells #[.slice A n c] 24));rw [hw0]at HS0;have HO:=zA (I1 1 Ad q qc b w0 hq hqc (hb.on (HS0.below M1)) hs);clear hb hs;go_enter func33,ntmps33;go_upto_region 1 with fail;clear hH;go_wp2_with fail;clear hw0;refine HO.out.mono ?_;rintro e w1 ⟨⟨er,rfl,he,hne⟩,hb1⟩;obtain rfl:=he hq16
 have hbb:=zA ((HS0.grow hb1).below M1);clear HS0 hb1 he hne HO;go_wp2_with (go_at_call 71;refine(pL _ _ _).mono ?_;rintro e w1 h;obtain⟨rfl,rfl⟩:=h.bad (by decide));exact⟨rfl,rfl,hbb.out⟩
theorem IK {w:O} {s e:Nat} {v u:V} {tmps:aG} (h2:tmps.getD 4 undef= .pointer (some ⟨s,0,none⟩)) (h3:tmps.getD 5 undef= .pointer (some ⟨e,0,none⟩)) (hs:w.cell? ⟨s,0,none⟩=some v) (he:w.cell? ⟨e,0,none⟩=some u):
 (results Tryz.f25 tmps).run prog w= .ok (.tuple #[v,u]) w:=by
 have h1:Tryz.f25.results= #[ResultVar.cell 4 26,ResultVar.cell 5 27]:=rfl;have h4:tmps[4]?.getD undef= .pointer (some ⟨s,0,none⟩):=by simpa using h2
 have h5:tmps[5]?.getD undef= .pointer (some ⟨e,0,none⟩):=by simpa using h3
 simp [results,h1,h4,h5,asAddr,Result.andThen,go_sem,hs,he]
theorem t6 {A Ad:aA} {n c q qc:Nat} {fs:List Field} {b:aC} {w:O} (hT:Tabs w) (hs0:zL w (·<w.heap.size) A n c fs) (hsb:xC fs=true) (hq:q<=qc) (hqc:qc<=9223372036854775807) (hb:RB w Ad q b) (hq16:q<=16777216) (hs:ZN 1 b=false):
 Calls prog 25 #[.agg #[.slice A n c],.slice Ad q qc] w fun e w' =>e= .returned (.tuple #[.pointer none,.int .i64 20])/\Below w.heap.size w w' :=by
 obtain⟨H,hH⟩:=eX (w.heap.size);have HS0:=(((Sp.start w).blkH 24 #[.slice A n c] hH).blkH 26 #[.pointer none] (H:=H+1) (by simp [hH])).blkH 27 #[.int .i64 0] (H:=H+1+1) (by simp [hH]);obtain⟨w0,hw0⟩:=eX (((w.alloc (.cells #[.slice A n c] 24)).alloc (.cells #[.pointer none] 26)).alloc (.cells #[.int .i64 0] 27));rw [hw0]at HS0;have hbw:=HS0.below M3
 have HK:=zA (XJ A n c fs w0 (hT.on hbw) (hs0.on hbw));rw [hsb]at HK;have q0:=HS0.cl M2 0;have Hb:=zA hb;have Hs:=zA hs;have hqb:¬(16777216:Int)<(q:Int):=by omega
 clear hT hs0 hbw hb hs
 go_enter_defers func25,ntmps25
 go_upto_region 1 with fail;clear hH;go_wp2_with fail;clear hw0;refine HK.out.mono ?_;rintro e w1 ⟨rfl,hb1⟩;have HS1:=HS0.grow hb1;have q1:=HS1.cl M2 0;have HR:=zA (IQ (A:=A) (n:=n) (c:=c) (w:=w1) hq hqc (Hb.out.on (HS1.below M3)) hq16 Hs.out);have he0:OV true=0:=rfl;clear HS0 hb1 q0 HK;go_wp2_with fail;refine HR.out.mono ?_;rintro e w2 ⟨rfl,hb2⟩;have HS2:=Sp.selT [_,_,_] (HS1.grow hb2) [1,0]
 clear HS1 hb2 HR q1;refine fL HS2 fun w' h=>⟨_,IK (by rfl) (by rfl) (h.cell M0 0) (h.cell M1 0),rfl,h.below M2⟩
theorem sD {X q c2:Nat} {A2:aA} {b:aC} {w:O} (hX:w.cell? ⟨X,1,none⟩=some (.slice A2 q c2)) (hb:RB w A2 q b) (hq:q<=140737488355328):
 Calls prog 23 #[.pointer (some ⟨X,0,none⟩)] w fun e w' =>∃A',e= .returned (.slice A' q q)/\Sp w' [BA A' q q b,OldA w.heap.size w]:=by
 have HC:=zA (fW (c:=c2) (Sp.start w) hb hq);clear hb;go_enter func23,ntmps23;go_wp2_with fail;refine HC.out.mono ?_;rintro e w1 ⟨A',c',rfl,HS⟩;have hcap:=(HS.rb M0).2;go_wp2_with (go_at_call 55;refine(Zt _ _ _ _ hcap.1 hcap.2).mono ?_;rintro e w1 ⟨rfl,rfl⟩);go_ret
 exact⟨A',rfl,HS.clip⟩
theorem wD {X k c3:Nat} {A3:aA} {w:O} (hX:w.cell? ⟨X,2,none⟩=some (.slice A3 k c3)):
 Calls prog 26 #[.pointer (some ⟨X,0,none⟩)] w fun e w' =>e= .returned (.int .i64 (k:Int))/\w=w' :=by
 go_enter func26,ntmps26;go_wp2;go_ret
 exact⟨rfl,rfl⟩
theorem II {w:O} {g:Nat} {a0 a1 a2 a3 a4 a5:V} {tmps:aG} (h0:tmps.getD 4 undef= .pointer (some ⟨g,0,none⟩)) (hb:Blk w g 106 #[a0,a1,a2,a3,a4,a5]):(results Tryz.f48 tmps).run prog w= .ok (.agg #[a0,a1,a2,a3,a4,a5]) w:=by
 have h1:=run_loadVar_row (P:=prog) w g 106 106 #[a0,a1,a2,a3,a4,a5] (0,0) _ hb underlying106 rfl (by kernel_rfl);have h2:Tryz.f48.results= #[ResultVar.cell 4 106]:=rfl;have h3:tmps[4]?.getD undef= .pointer (some ⟨g,0,none⟩):=by simpa using h0
 simp [results,h2,h3,h1,asAddr,Result.andThen]
theorem mM {l:aF} (h:l.length=6):∃v0 v1 v2 v3 v4 v5,l= [v0,v1,v2,v3,v4,v5]:=by
 match l,h with
 | [v0,v1,v2,v3,v4,v5],_=>exact⟨v0,v1,v2,v3,v4,v5,rfl⟩
theorem Q9 {X f n c4:Nat} {A4:aA} {ms:List Zj} {w:O} (hX:w.cell? ⟨X,4,none⟩=some (.slice A4 n c4)) (hl:zL w (·<w.heap.size) A4 n c4 ms) (hf:f<n):
 Calls prog 48 #[.pointer (some ⟨X,0,none⟩),.int .i64 (f:Int)] w fun e w' =>∃v0 v1 v2 v3 v4 v5 z,ms[f]? =some z/\e= .returned (.agg #[v0,v1,v2,v3,v4,v5])/\rep w (·<w.heap.size) [v0,v1,v2,v3,v4,v5] z/\Below w.heap.size w w' :=by
 obtain⟨b,off,z,rfl,hz,hb,cs,hr,hc⟩:=hl.at_ hf
 obtain⟨v0,v1,v2,v3,v4,v5,rfl⟩:=mM (Rep.len hr);have hsz:Rep.size Zj=6:=rfl;rw [hsz]at hc;obtain⟨H,hH⟩:=eX (w.heap.size);have HS:=(Sp.start w).blkH 106 #[.pointer none,.slice none 0 0,.slice none 0 0,.pointer none,.pointer none,.pointer none] hH;obtain⟨w0,hw0⟩:=eX (w.alloc (.cells #[.pointer none,.slice none 0 0,.slice none 0 0,.pointer none,.pointer none,.pointer none] 106));rw [hw0]at HS
 have hbw:=HS.below M1;have g0:w0.cell? ⟨b,off+f*6,none⟩=some v0:=(hbw.cell hb).trans (hc 0 _ rfl);have g1:w0.cell? _=_:=(hbw.cell hb).trans (hc 1 _ rfl);have g2:w0.cell? _=_:=(hbw.cell hb).trans (hc 2 _ rfl);have g3:w0.cell? _=_:=(hbw.cell hb).trans (hc 3 _ rfl);have g4:w0.cell? _=_:=(hbw.cell hb).trans (hc 4 _ rfl);have g5:w0.cell? _=_:=(hbw.cell hb).trans (hc 5 _ rfl)
 have hXl:X<w.heap.size:=ye hX;have gX:w0.cell? ⟨X,4,none⟩=some (.slice (some ⟨b,off,none⟩) n c4):=(hbw.cell hXl).trans hX;have hcap:=hl.cap;have r0:=(HS.blkOf M0).frozen 0;have r1:=(HS.blkOf M0).frozen 1;have r2:=(HS.blkOf M0).frozen 2;have r3:=(HS.blkOf M0).frozen 3;have r4:=(HS.blkOf M0).frozen 4;have r5:=(HS.blkOf M0).frozen 5;obtain⟨k0,k1,k2,k3,k4,k5⟩:=OG HS M0
 have HS2:=zA ((((((HS.set 0 v0).set 1 v1).set 2 v2).set 3 v3).set 4 v4).set 5 v5);have hone:∀u∈ [v0,v1,v2,v3,v4,v5],u.oneCell' =true:=fun u hu=>Rep.one hr hu;have s0:∀(W:O) (a:Addr),(store a v0 .plain).run prog W=stored prog W a v0 .plain:=fun W a=>run_store _ W a v0 .plain (hone _ (by simp))
 have s1:∀(W:O) (a:Addr),(store a v1 .plain).run prog W=stored prog W a v1 .plain:=fun W a=>run_store _ W a v1 .plain (hone _ (by simp));have s2:∀(W:O) (a:Addr),(store a v2 .plain).run prog W=stored prog W a v2 .plain:=fun W a=>run_store _ W a v2 .plain (hone _ (by simp))
 have s3:∀(W:O) (a:Addr),(store a v3 .plain).run prog W=stored prog W a v3 .plain:=fun W a=>run_store _ W a v3 .plain (hone _ (by simp));have s4:∀(W:O) (a:Addr),(store a v4 .plain).run prog W=stored prog W a v4 .plain:=fun W a=>run_store _ W a v4 .plain (hone _ (by simp))
 have s5:∀(W:O) (a:Addr),(store a v5 .plain).run prog W=stored prog W a v5 .plain:=fun W a=>run_store _ W a v5 .plain (hone _ (by simp));have Hz:=zA hz.out;have Hr:=zA hr;clear HS hbw hl hc hX hr hz hXl hone;go_enter func48,ntmps48;go_wp2;refine bodyPost_ret (II (g:=H) (by rfl) (HS2.out.blkOf M0)) rfl ⟨v0,v1,v2,v3,v4,v5,z,Hz.out,rfl,Hr.out,HS2.out.below M1⟩
theorem Qj {w:O} {F:Nat->Prop} {v0 v1 v2 v3 v4 v5:V} {z:Zj} (h:rep w F [v0,v1,v2,v3,v4,v5] z):rep w F [v0] z.1/\rep w F [v1] z.2.1/\rep w F [v2] z.2.2.1:=by
 obtain⟨c1,c2,e,h1,d1,d2,rfl,h2,f1,f2,rfl,h3, -⟩:=h;have l1:c1.length=1:=Rep.len h1;have l2:d1.length=1:=Rep.len h2;have l3:f1.length=1:=Rep.len h3
 match c1,d1,f1,l1,l2,l3 with
 | [a], [b], [c],_,_,_=>
   simp only [yI,zZ,List.cons.injEq]at e;obtain⟨rfl,rfl,rfl, -⟩:=e;exact⟨h1,h2,h3⟩
theorem sA {X f n c4:Nat} {A4:aA} {ms:List Zj} {w:O} (hX:w.cell? ⟨X,4,none⟩=some (.slice A4 n c4)) (hl:zL w (·<w.heap.size) A4 n c4 ms) (hf:f<n):
 Calls prog 11 #[.pointer (some ⟨X,0,none⟩),.int .i64 (f:Int)] w fun e w' =>∃v z,ms[f]? =some z/\e= .returned v/\rep w (·<w.heap.size) [v] z.1/\Below w.heap.size w w' :=by
 have HF:=zA (Q9 hX hl hf);clear hX hl hf;go_enter func11,ntmps11;go_wp2_with fail;refine HF.out.mono ?_;rintro e w1 ⟨v0,v1,v2,v3,v4,v5,z,hz,rfl,hr,hb⟩;have Hz:=zA hz;have Hr:=zA (Qj hr);have Hb:=zA hb;clear hz hr hb HF;have hfd:∀W:O,(Instr.field 106 (.agg #[v0,v1,v2,v3,v4,v5]) 0).run prog W= .ok v0 W:=fun W=>by kernel_rfl
 go_wp2;go_ret
 exact⟨v0,z,Hz.out,rfl,Hr.out.1,Hb.out⟩
theorem rI {X f n c4 i:Nat} {x:Int} {A4:aA} {ms:List Zj} {z:Zj} {w:O} (hX:w.cell? ⟨X,4,none⟩=some (.slice A4 n c4)) (hl:zL w (·<w.heap.size) A4 n c4 ms) (hf:ms[f]? =some z) (hi:z.2.2.1[i]? =some x):
 Calls prog 37 #[.pointer (some ⟨X,0,none⟩),.int .i64 (f:Int),.int .i64 (i:Int)] w fun e w' =>e= .returned (.int .i64 x)/\Below w.heap.size w w' :=by
 have hfn:f<n:=by have:=zN hf;have:=hl.length;omega
 have HF:=zA (Q9 hX hl hfn);have Hf:=zA hf;have Hi:=zA hi;clear hX hl hf hi hfn;go_enter func37,ntmps37;go_wp2_with fail;refine HF.out.mono ?_;rintro e w1 ⟨v0,v1,v2,v3,v4,v5,z',hz,rfl,hr,hb⟩;rw [Hf.out]at hz;cases hz;obtain⟨A,k,c,he,hx⟩:=(Qj hr).2.2;cases he;have hil:=zN Hi.out;have hk:i<k:=by have:=hx.length;omega
 obtain⟨b,off,y,rfl,hy,hbb,cs,hcs,hc⟩:=hx.at_ hk
 cases hcs.1;have hyx:y=x:=yG (hy.out.symm.trans Hi.out);subst hyx
 have q:w1.cell? ⟨b,off+i,none⟩=some (.int .i64 y):=by
  have h:=(hb.cell hbb).trans (hc 0 _ rfl);have e:Rep.size Int=1:=rfl;rw [e]at h
  simpa using h
 have Hb:=zA hb;have hki:¬k<=i:=by omega
 have hkj:(i:Int)<(k:Int):=by omega
 clear hx hc hy hr hb HF;have hfd:∀W:O,(Instr.field 106 (.agg #[v0,v1,.slice (some ⟨b,off,none⟩) k c,v3,v4,v5]) 2).run prog W= .ok (.slice (some ⟨b,off,none⟩) k c) W:=fun W=>by kernel_rfl
 go_wp2;go_ret
 exact⟨rfl,Hb.out⟩
theorem uF {A Ad:aA} {n c q qc:Nat} {fs:List Field} {b:aC} {w:O} (hT:Tabs w) (hs0:zL w (·<w.heap.size) A n c fs) (hsb:xC fs=true) (hq:q<=qc) (hqc:qc<=9223372036854775807) (hb:RB w Ad q b) (hq16:q<=16777216) (hs:ZN 1 b=false):
 Calls prog 29 #[.agg #[.slice A n c],.slice Ad q qc] w fun e w' =>e= .returned (.int .i64 20)/\Below w.heap.size w w' :=by
 obtain⟨H,hH⟩:=eX (w.heap.size);have HS0:=(Sp.start w).blkH 24 #[.slice A n c] hH;obtain⟨w0,hw0⟩:=eX (w.alloc (.cells #[.slice A n c] 24));rw [hw0]at HS0;have hbw:=HS0.below M1;have HO:=zA (t6 (hT.on hbw) (hs0.on hbw) hsb hq hqc (hb.on hbw) hq16 hs);have q0:=HS0.cl M0 0;have Hb:=zA hbw;clear hT hs0 hb hs HS0 hbw hsb;go_enter func29,ntmps29;go_upto_region 1 with fail;clear hH;go_wp2_with fail
 refine HO.out.mono ?_;rintro e w1 ⟨rfl,hb1⟩;have Hb1:=zA (Hb.out.trans (hb1.mono Hb.out.size));clear hb1 hw0 q0 HO;go_wp2;go_ret
 exact⟨rfl,Hb1.out⟩
def Q0 (b l:aC) (fr p k:Nat) (hit:Bool):Prop:=
 l.length=b.length/\(∀i,i<8*b.length->bitB l i=(bitB b i !=(decide (fr<=i/\i<fr+k) && p.testBit (i - fr))))/\(hit=true↔∃j,j<k/\fr+j<8*b.length/\p.testBit j=true)
theorem Q0.start (b:aC) (fr p:Nat):Q0 b b fr p 0 false:=by
 refine⟨rfl,fun i _=> ?_,⟨fun h=>(by cases h),fun⟨j,h,_⟩=>(by omega)⟩⟩;have:decide (fr<=i/\i<fr+0)=false:=decide_eq_false (by omega);rw [this,Bool.false_and];simp
theorem Q0.skip {b l:aC} {fr p k:Nat} {hit:Bool} (h:Q0 b l fr p k hit) (hp:p.testBit k=false):Q0 b l fr p (k+1) hit:=by
 obtain⟨h1,h2,h3⟩:=h;refine⟨h1,fun i hi=> ?_,h3.trans ⟨fun⟨j,a,b⟩=>⟨j,by omega,b⟩,fun⟨j,a,b⟩=>⟨j,?_,b⟩⟩⟩
 ·rw [h2 i hi]
  congr 1
  by_cases e:i=fr+k
  ·subst e;rw [show fr+k - fr=k by omega,hp,Bool.and_false,Bool.and_false]
  ·congr 1
   exact decide_eq_decide.2 (by omega)
 ·rcases zk j k with g|g
  ·exact g
  ·obtain rfl:j=k:=by omega
   rw [hp]at b;cases b.2
theorem KI {l:aC} {x i j:Nat} (hj:j / 8<l.length) (hx:x<256):bitB (l.set (j / 8) x.toUInt8) i=if i / 8=j / 8 then x.testBit (i%8)else bitB l i:=by
 unfold bitB;rw [xO]
 by_cases h:j / 8=i / 8
 ·rw [if_pos h,if_pos h.symm,if_pos (by omega)];simp [zy hx]
 ·rw [if_neg h,if_neg fun e=>h e.symm]
theorem Q0.flip {b l:aC} {fr p k:Nat} {hit:Bool} {y:UInt8} (h:Q0 b l fr p k hit) (hp:p.testBit k=true) (hk:fr+k<8*b.length) (hy:l[(fr+k) / 8]? =some y):
 Q0 b (l.set ((fr+k) / 8) (y.toNat^^^2^((fr+k)%8)).toUInt8) fr p (k+1) true:=by
 obtain⟨h1,h2,h3⟩:=h;have hx:y.toNat^^^2^((fr+k)%8)<256:=Nat.xor_lt_two_pow (n:=8) y.toNat_lt (Nat.pow_lt_pow_right (by omega) (by omega));refine⟨by rw [List.length_set];exact h1,fun i hi=> ?_,⟨fun _=>⟨k,by omega,hk,hp⟩,fun _=>rfl⟩⟩;rw [KI (by omega) hx]
 by_cases e8:i / 8=(fr+k) / 8
 ·rw [if_pos e8,Nat.testBit_xor,Nat.testBit_two_pow];have hyb:y.toNat.testBit (i%8)=bitB l i:=(by unfold bitB;rw [e8,hy];rfl);rw [hyb,h2 i hi]
  by_cases e:i=fr+k
  ·subst e;have a1:decide (fr<=fr+k/\fr+k<fr+k)=false:=decide_eq_false (by omega);have a2:decide (fr<=fr+k/\fr+k<fr+(k+1))=true:=decide_eq_true (by omega);rw [a1,a2,show fr+k - fr=k by omega,hp];cases bitB b (fr+k)<;>simp
  ·have a1:decide ((fr+k)%8=i%8)=false:=decide_eq_false (by omega);have a2:decide (fr<=i/\i<fr+(k+1))=decide (fr<=i/\i<fr+k):=decide_eq_decide.2 (by omega);rw [a1,a2];simp
 ·rw [if_neg e8,h2 i hi]
  have a2:decide (fr<=i/\i<fr+(k+1))=decide (fr<=i/\i<fr+k):=decide_eq_decide.2 (by
   have:i≠fr+k:=fun e=>e8 (by rw [e]);omega)
  rw [a2]
theorem Q0.done {b l:aC} {fr p k:Nat} (h:Q0 b l fr p k true) (hk:k=32\/8*b.length<=fr+k) (hp:p<2^32) {kd:UInt8} (hs:ZN kd b=true):ZN kd l=false:=by
 obtain⟨h1,h2,h3⟩:=h;obtain⟨j, -,hj,hb⟩:=h3.1 rfl;refine rQ h1 hp (fun i hi=> ?_) ⟨j,hj,hb⟩ hs;rw [h2 i hi]
 congr 1
 by_cases e:fr<=i/\i<fr+k
 ·rw [decide_eq_true e,decide_eq_true e.1]
 ·rw [decide_eq_false e,Bool.false_and]
  by_cases e2:fr<=i
  ·have:32<=i - fr:=(by omega);rw [Nat.testBit_lt_two_pow (zX hp (yB (by omega) this)),Bool.and_false]
  ·rw [decide_eq_false e2,Bool.false_and]
theorem ML {a b:Nat} (ha:a<256) (hb:b<256):bits .xor .u8 (a:Int) (b:Int)=((a^^^b:Nat):Int):=by
 show IntKind.u8.wrap ((BitVec.ofInt 8 (a:Int)^^^BitVec.ofInt 8 (b:Int)).toNat:Int)=_;rw [yE,yE,BitVec.toNat_xor,yJ,yJ,zy (by omega),zy (by omega),IntKind.wrap_u8];have:=Nat.xor_lt_two_pow (n:=8) ha hb;omega
theorem uS {fs:List Field} {items:List xw} (h:dG fs items):ZN 1 (bG fs items)=true/\(bG fs items).length<=16777216/\8<=(bG fs items).length:=
 have⟨h1,h2,h3,_⟩:=VR h.2.1
 ⟨h1,h3,h2⟩
theorem NP {p k:Nat} (hp:p<4294967296):bits .and .u32 ((p:Int) / 2^k) 1=((if p.testBit k then 1 else 0:Nat):Int):=by
 have h1:(p:Int) / 2^k=((p / 2^k:Nat):Int):=by push_cast;rfl
 rw [h1];have h2:=fG (a:=p / 2^k) (b:=1) (Nat.lt_of_le_of_lt (Nat.div_le_self _ _) hp) (by omega);refine h2.trans ?_;rw [Nat.and_one_is_mod,Nat.testBit_eq_decide_div_mod_eq];rcases Nat.mod_two_eq_zero_or_one (p / 2^k)with h|h<;>rw [h]<;>rfl
theorem AO {y r:Nat} (hy:y<256) (hr:r<8):bits .xor .u8 (y:Int) (2^r%256)=((y^^^2^r:Nat):Int):=by
 have h1:(2:Nat)^r<256:=Nat.pow_lt_pow_right (n:=8) (by omega) hr
 have h2:(2:Int)^r%256=((2^r:Nat):Int):=by
  have h3:((2^r:Nat):Int)=(2:Int)^r:=(by push_cast;rfl);rw [<-h3];generalize (2:Nat)^r=X at h1⊢;omega
 rw [h2];exact ML hy h1
theorem EX {at_:Int} {N:Nat} (h:In64 at_) (h0:0<N) (hN:N<=1000000000):∃z:Int,at_.tmod (N:Int)=z/\ -(N:Int)<z/\z<N/\IntKind.i64.wrap z=z/\wrap64 z=z:=by
 refine⟨_,rfl,?_⟩;have h1:at_.tmod (N:Int)<N:=Int.tmod_lt_of_pos _ (by omega)
 have h2: -(N:Int)<at_.tmod (N:Int):=by
  have h3:=Int.tmod_lt_of_pos (-at_) (b:=(N:Int)) (by omega);rw [Int.neg_tmod]at h3;omega
 generalize at_.tmod (N:Int)=z at h1 h2
 refine⟨h2,h1,?_,?_⟩
 ·rw [zT];omega
 ·unfold wrap64;omega
theorem BV (HA:∀w:O,Vs w->Calls prog 8 #[] w fun e w' =>e= .returned (.bool true)/\Below w.heap.size w w')
 {A B:aA} {n c m cm p:Nat} {at_:Int} {fs:List Field} {items:List xw} {w:O} (hV:Vs w) (hs:zL w (·<w.heap.size) A n c fs) (hi:zL w (·<w.heap.size) B m cm items)
 (hz:∀x∈items,∀e∈x.2,e.text.size<=100000000/\e.numbers.length<=1000000000) (hat:In64 at_) (hp:p<4294967296):
 Calls prog 5 #[.agg #[.slice A n c],.slice B m cm,.int .i64 at_,.int .u32 (p:Int)] w fun e w' =>e= .returned (.bool true)/\Below w.heap.size w w' :=by
 obtain⟨H,hH⟩:=eX (w.heap.size);have HS0:=(Sp.start w).blkH 24 #[.slice A n c] hH;obtain⟨w0,hw0⟩:=eX (w.alloc (.cells #[.slice A n c] 24));rw [hw0]at HS0;have hbw:=HS0.below M1;have HB:=zA (jA (hV.on hbw) (hs.on hbw) (hi.on hbw) hz);have q0:=HS0.cl M0 0;have HV:=zA hV;have Hs:=zA hs;have HF:=zA (fun(W:O) (hW:Below w.heap.size w W)=>LT (hi.on hW));have HAw:=zA HA;have Hat:=zA hat;have Hp:=zA hp
 clear hV hs hi hz hat hp HA hbw;go_enter func5,ntmps5;go_upto_region 1 with fail;clear hH;go_wp2_with fail;clear hw0 q0;refine HB.out.mono ?_;unfold fZ;rintro e w1 (⟨er,her, -,rfl,hb1⟩|⟨X,g,q,A1,A2,A3,A4,Ac,c2,c3,c4,cc,Tb,As,rfl, -, -,hok,HS1⟩)
 ·have hb:=(HS0.grow hb1).below M1;have HFw:=zA (HF.out w1 hb);have hne:(er !=0)=true:=(by simpa using her);have Hbw:=zA hb;clear HS0 hb1 HB hb her;go_upto_region 2 with fail;go_wp2_with fail;refine HFw.out.mono ?_;rintro e w2 ⟨fb,rfl,hd⟩;have Hb2:Hid (Below w.heap.size w w2):=(by obtain⟨j,rfl⟩:=hd;exact zd Hbw.out j);have HA1:=zA (HAw.out w2 (HV.out.on Hb2.out));clear hd HFw;cases fb
  all_goals
   go_wp2_with fail;refine HA1.out.mono ?_;rintro e w3 ⟨rfl,hb3⟩;have Hb3:=zA (Hb2.out.trans (hb3.mono Hb2.out.size));clear hb3;go_wp2;go_ret
   exact⟨rfl,Hb3.out⟩
 ·unfold OP at HS1;simp only [yI,zZ]at HS1;have hb:Below w.heap.size w w1:=(HS0.below M1).trans ((HS1.below M8).mono (HS0.below M1).size);have HSq:=HS0.call [_,_,_,_,_,_,_,_] HS1;obtain⟨hsl,hq16,hq8⟩:=uS hok;obtain⟨hsb, -⟩:=WI hok.1.1;obtain⟨b,hbq⟩:=eX (bG fs items);rw [hbq]at HS1 hsl hq16 hq8 HSq;have hlen:=(HS1.rb M2).1.len;rw [hlen]at hq16 hq8
  have HX:=zA (fun(W:O) (hW:Below w1.heap.size w1 W)=>sD (X:=X) (w:=W) (c2:=c2) ((hW.cell (HS1.blkOf M0).lt).trans (HS1.cell M0 1)) ((HS1.rb M2).1.on hW) (by omega));have HC:=zA (fun(W:O) (hW:Below w1.heap.size w1 W)=>show W.cell? ⟨H,0,none⟩=some (.slice A n c)from(hW.cell (HSq.blkOf M8).lt).trans (HSq.cell M8 0));have HFw:=zA (HF.out w1 hb);have Hbw:=zA hb;have Hsl:=zA hsl;have Hsb:=zA hsb
  have Hlen:=zA hlen;clear HS0 HS1 HSq HB hb hsl hsb hbq hok hlen HF;go_upto_region 2 with fail;go_wp2_with fail;refine HFw.out.mono ?_;rintro e w2 ⟨fb,rfl,hd⟩;have Hb2:Hid (Below w1.heap.size w1 w2):=(by obtain⟨j,rfl⟩:=hd;exact zd (zE _ _) j);have HA1:=zA (HAw.out w2 (HV.out.on (Hbw.out.trans (Hb2.out.mono Hbw.out.size))));clear hd HFw;cases fb
  ·go_wp2_with fail;refine HA1.out.mono ?_;rintro e w3 ⟨rfl,hb3⟩;have Hb3:=zA (Hbw.out.trans ((Hb2.out.trans (hb3.mono Hb2.out.size)).mono Hbw.out.size));clear hb3;go_wp2;go_ret
   exact⟨rfl,Hb3.out⟩
  ·by_cases hp0:p=0
   ·have hp1:(p:Int)=0:=(by omega);clear hp0;go_wp2_with fail;refine HA1.out.mono ?_;rintro e w3 ⟨rfl,hb3⟩;have Hb3:=zA (Hbw.out.trans ((Hb2.out.trans (hb3.mono Hb2.out.size)).mono Hbw.out.size));clear hb3;go_wp2;go_ret
    exact⟨rfl,Hb3.out⟩
   ·have hp1:¬(p:Int)=0:=(by omega);clear hp0;go_wp2_with fail;refine HA1.out.mono ?_;rintro e w3 ⟨rfl,hb3⟩;have Hb3:=zA (Hb2.out.trans (hb3.mono Hb2.out.size));have HX1:=zA (HX.out w3 Hb3.out);clear hb3 HA1 HX;go_upto_region 4 with fail;go_wp2_with fail;refine HX1.out.mono ?_;rintro e w4 ⟨A',rfl,HS4⟩;obtain⟨g,rfl, -, -⟩:=(HS4.rowOf M0).at_ (by omega)
    obtain⟨N,hN⟩:=eX (8*q);have a1:8*(q:Int)=(N:Int):=(by omega);have a2:IntKind.i64.wrap (N:Int)=(N:Int):=(by rw [zT];omega);have a3:¬(N:Int)=0:=(by omega);have hNb:N<=134217728:=(by omega);have HN:=zA hN;obtain⟨z,t1,t2,t3,t4,t5⟩:=EX (N:=N) Hat.out (by omega) (by omega);have T2:=zA (And.intro t2 t3);clear hN HX1 t2 t3 hq16 hq8;go_upto_region 7 with fail
    obtain⟨fr,hfrN,hzz⟩:∃fr:Nat,fr<N/\((z<0/\z+(N:Int)=(fr:Int))\/z=(fr:Int)):=by
     have h1:=T2.out.1;have h2:=T2.out.2
     by_cases h:z<0
     ·exact⟨(z+N).toNat,by omega,.inl ⟨h,by omega⟩⟩
     ·exact⟨z.toNat,by omega,.inr (by omega)⟩
    have a6:IntKind.i64.wrap (fr:Int)=(fr:Int):=(by rw [zT];omega);have a7:¬(fr:Int)<0:=(by omega);clear t1 t4 t5 a1 a2 a3;rcases hzz with⟨b1,b2⟩|rfl
    all_goals
     clear T2;go_wp2
     go_loopg [14,15] 32 (fun gk v14 v15 wr=>∃(k:Nat) (hit:Bool) (l:aC),v14= .bool hit/\v15= .int .i64 k/\k<=32/\gk=32 - k/\Hid (Q0 b l fr p k hit)/\Sp wr [BA (some ⟨g,0,none⟩) q q l,OldA w3.heap.size w3])
     case atStart=>exact⟨0,false,b,rfl,by go_num,by omega,rfl,Q0.start b fr p,HS4⟩
     case round=>
      obtain⟨k,hit,l,rfl,rfl,hk,rfl,HI,HS⟩:=hrel;clear HS4
      by_cases hgo:k<32/\fr+k<N
      ·obtain⟨hk32,hkN⟩:=hgo;obtain⟨s,hs⟩:=eX (fr+k);have c1:(fr:Int)+(k:Int)=(s:Int):=(by omega);have c2:IntKind.i64.wrap (s:Int)=(s:Int):=(by rw [zT];omega);have c3:(s:Int)<(N:Int):=(by omega);have c4:(k:Int)<32:=(by omega);have c5:IntKind.u64.wrap (k:Int)=(k:Int):=(by rw [zW];omega);have hbit:=NP (k:=k) Hp.out;cases htb:p.testBit k
       ·rw [htb]at hbit;have hb0:(bits .and .u32 ((p:Int) / 2^k) 1==1)=false:=(by rw [hbit];rfl);have HI2:=zA (HI.out.skip htb);clear hbit htb HI;go_wp2
        go_roundg (32 - (k+1))
        ·exact⟨k+1,hit,l,rfl,by go_num,by omega,rfl,HI2,HS⟩
        ·omega
       ·rw [htb]at hbit;have hb0:(bits .and .u32 ((p:Int) / 2^k) 1==1)=true:=(by rw [hbit];rfl);have hll:=HI.out.1;have hs8:s / 8<l.length:=(by rw [hll,Hlen.out];have:=HN.out;omega);obtain⟨y,hy⟩:∃y,l[s / 8]? =some y:=⟨_,zB hs8⟩;have HI2:=zA (HI.out.flip htb (by rw [Hlen.out,HN.out];omega) (by rw [hs];exact hy));rw [hs]at HI2
        have q1:wr.cell? ⟨g,s / 8,none⟩=some (.int .u8 (y.toNat:Int)):=HS.rowCell M0 (V4 hy);have f1:=HS.rowFree M0 (s / 8);have hsq:s / 8<q:=(by rw [<-Hlen.out,<-hll];exact hs8);have Hy:=zA hy;clear hbit htb HI hy hll hs8;go_wp2
        go_roundg (32 - (k+1))
        case measure=>omega
        case rel=>exact⟨k+1,true,_,rfl,by go_num,by omega,rfl,HI2,by
         have h:=HS.rowSet (s / 8) (.int .u8 ((y.toNat^^^2^(s%8):Nat):Int));rw [<-fX _ _ (Nat.xor_lt_two_pow (n:=8) y.toNat_lt (Nat.pow_lt_pow_right (by omega) (Nat.mod_lt _ (by omega))))]at h;rw [AO y.toNat_lt (Nat.mod_lt _ (by omega))];exact h⟩
      ·have hk2:k=32\/8*b.length<=fr+k:=(by have h1:=Hlen.out;have h2:=HN.out;omega);have hbr:Below w1.heap.size w1 wr:=Hb3.out.trans ((HS.below M1).mono Hb3.out.size);have hbw:Below w.heap.size w wr:=Hbw.out.trans (hbr.mono Hbw.out.size);have q0:=HC.out wr hbr;have Hbb:=zA hbw
       have HR:=zA (fun(h:hit=true)=>uF (b:=l) (w:=wr) (HV.out.on hbw).tabs (Hs.out.on hbw) Hsb.out (zC q) (by have:=HN.out;omega) (HS.rb M0).1 (by have:=HN.out;omega) ((show Q0 b l fr p k true by rw [<-h];exact HI.out).done hk2 Hp.out Hsl.out));clear HI HS hbr hbw hk2;have hgo2:k=32\/(k<32/\¬fr+k<N):=(by omega);clear hgo;cases hit
       ·rcases hgo2 with rfl|⟨h1,h2⟩
        ·go_wp2;go_ret
         exact⟨rfl,Hbb.out⟩
        ·have c4:(k:Int)<32:=(by omega);obtain⟨s,hs⟩:=eX (fr+k);have c1:(fr:Int)+(k:Int)=(s:Int):=(by omega);have c2:IntKind.i64.wrap (s:Int)=(s:Int):=(by rw [zT];omega);have c3:¬(s:Int)<(N:Int):=(by omega);go_wp2;go_ret
         exact⟨rfl,Hbb.out⟩
       ·have HR1:=zA (HR.out rfl);clear HR;rcases hgo2 with rfl|⟨h1,h2⟩
        ·go_wp2_with fail;refine HR1.out.mono ?_;rintro e w5 ⟨rfl,hb5⟩;have Hb5:=zA (Hbb.out.trans (hb5.mono Hbb.out.size));clear hb5;go_wp2;go_ret
         exact⟨rfl,Hb5.out⟩
        ·have c4:(k:Int)<32:=(by omega);obtain⟨s,hs⟩:=eX (fr+k);have c1:(fr:Int)+(k:Int)=(s:Int):=(by omega);have c2:IntKind.i64.wrap (s:Int)=(s:Int):=(by rw [zT];omega);have c3:¬(s:Int)<(N:Int):=(by omega);go_wp2_with fail;refine HR1.out.mono ?_;rintro e w5 ⟨rfl,hb5⟩;have Hb5:=zA (Hbb.out.trans (hb5.mono Hbb.out.size));clear hb5;go_wp2;go_ret
         exact⟨rfl,Hb5.out⟩
theorem sB {X f n c4 o:Nat} {A4:aA} {ms:List Zj} {z:Zj} {p:aW} {w:O} (hX:w.cell? ⟨X,4,none⟩=some (.slice A4 n c4)) (hl:zL w (·<w.heap.size) A4 n c4 ms) (hf:ms[f]? =some z) (ho:z.2.1[o]? =some p):
 Calls prog 13 #[.pointer (some ⟨X,0,none⟩),.int .i64 (f:Int),.int .i64 (o:Int)] w fun e w' =>∃v,e= .returned v/\rep w (·<w.heap.size) [v] p/\Below w.heap.size w w' :=by
 have hfn:f<n:=by have:=zN hf;have:=hl.length;omega
 have HF:=zA (Q9 hX hl hfn);have Hf:=zA hf;have Ho:=zA ho;clear hX hl hf ho hfn;go_enter func13,ntmps13;go_wp2_with fail;refine HF.out.mono ?_;rintro e w1 ⟨v0,v1,v2,v3,v4,v5,z',hz,rfl,hr,hb⟩;rw [Hf.out]at hz;cases hz;obtain⟨A,k,c,he,hx⟩:=(Qj hr).2.1;cases he;have hol:=zN Ho.out;have hk:o<k:=by have:=hx.length;omega
 obtain⟨b,off,y,rfl,hy,hbb,cs,hcs,hc⟩:=hx.at_ hk
 have hyx:y=p:=yG (hy.out.symm.trans Ho.out);subst hyx;have l1:cs.length=1:=Rep.len hcs;obtain⟨v,rfl⟩:=List.length_eq_one_iff.1 l1
 have q:w1.cell? ⟨b,off+o,none⟩=some v:=by
  have h:=(hb.cell hbb).trans (hc 0 _ rfl);have e:Rep.size aW=1:=rfl;rw [e]at h
  simpa using h
 have Hb:=zA hb;have Hcs:=zA hcs;have hki:¬k<=o:=by omega
 have hkj:(o:Int)<(k:Int):=by omega
 have hkl:¬(k:Int)<=(o:Int):=by omega
 clear hx hc hy hr hb HF hcs;have hfd:∀W:O,(Instr.field 106 (.agg #[v0,.slice (some ⟨b,off,none⟩) k c,v2,v3,v4,v5]) 1).run prog W= .ok (.slice (some ⟨b,off,none⟩) k c) W:=fun W=>by kernel_rfl
 go_wp2;go_ret
 exact⟨v,rfl,Hcs.out,Hb.out⟩
theorem dE {α:Type} [Rep α] {w:O} {F:Nat->Prop} {v:V} {x:α} (h:rep w F [v] (Ptr.mk (some x))):∃b,v= .pointer (some ⟨b,0,none⟩):=by
 obtain⟨b,hb, -⟩:=h;cases hb;exact⟨b,rfl⟩
theorem nR {D k:Nat} {s:aB} {ls:List aB} {at_:aE} {L:List Asn} {w:O} (h:Sp w L) (hd:aX L D ls at_) (ht:xQ ls=true) (hat:at_.length=ls.length) (hu:∀x∈at_,x<18446744073709551616) (hx:ls[k]? =some s):
 Calls prog 12 #[.pointer (some ⟨D,0,none⟩),.string s] w fun e w' =>e= .returned (.tuple #[.int .i64 (k:Int),.bool true])/\Sp w' L:=by
 refine(JV h hd ht hat hu).mono ?_;rintro e w' ⟨k',b,rfl,h1,h2,h3⟩;cases b with
 |false=>exact absurd (zD hx) (h2 rfl).2
 |true=>
  have h4:=h1 rfl;have hp:=dJ ht
  obtain rfl:k' =k:=by
   rcases Nat.lt_trichotomy k' k with g|g|g
   ·exact absurd (aZ hp g h4 hx) (ZO _)
   ·exact g
   ·exact absurd (aZ hp g hx h4) (ZO _)
  exact⟨rfl,h3⟩
theorem pG {w0:O} {D:Nat} {ls:List aB} {at_:aE} {L:List Asn} (hm:OldA w0.heap.size w0∈L) (h:rep w0 (·<w0.heap.size) [.pointer (some ⟨D,0,none⟩)] (Ptr.mk (some (tBl ls at_,tFi ls,(ls.length:Int))))):aX L D ls at_:=
 fun _ hS=>Rep.on h (hS.below hm)
theorem o0 {w0:O} {D:Nat} {ps:List PostD} {L:List Asn} (hm:OldA w0.heap.size w0∈L) (h:rep w0 (·<w0.heap.size) [.pointer (some ⟨D,0,none⟩)] (Xo ps)):bQ L D ps:=
 ⟨w0.heap.size,w0,hm,zC _,h⟩
abbrev bH (ps:List PostD):aD:=ps.map (·.doc)
theorem t7 {X f n c c4 k:Nat} {A1 A4:aA} {fs:List Field} {ms:List Zj} {fd:Field} {z:Zj} {ts:List aB} {ls:List (List PostD)} {ps:List PostD} {name text:aB} {w:O}
 (h0:w.cell? ⟨X,0,none⟩=some (.slice A1 n c)) (hfs:zL w (·<w.heap.size) A1 n c fs) (h4:w.cell? ⟨X,4,none⟩=some (.slice A4 n c4)) (hms:zL w (·<w.heap.size) A4 n c4 ms)
 (hN:Zx fs name=some f) (hfd:fs[f]? =some fd) (hk2:fd.kind=2) (hz:ms[f]? =some z) (hz1:z.1=aT ts ls) (hz2:z.2.1=ls.map Xo) (ht:xQ ts=true) (hal:(allL ls).length<=16777216)
 (hx:ts[k]? =some text) (hps:ls[k]? =some ps) (hr:xk ps=true):
 Calls prog 18 #[.pointer (some ⟨X,0,none⟩),.string name,.string text] w fun e w' =>∃A' m,e= .returned (.slice A' m m)/\ps.length=m/\Sp w' [NA A' m m (bH ps),OldA w.heap.size w]:=by
 have hfn:f<n:=by have:=zN hfd;have:=hfs.length;omega
 obtain⟨b1,o1,g1,rfl,Hg1,hb1,he1⟩:=hfs.at_ hfn
 have e1:g1=fd:=yG (Hg1.out.symm.trans hfd);subst e1;obtain⟨_,_,_, -,F1, -⟩:=Field.at_ he1
 rw [hk2]at F1;obtain⟨b4,o4,z',rfl,Hz,hb4,cs,hcs,hc⟩:=hms.at_ hfn
 have e2:z' =z:=yG (Hz.out.symm.trans hz);subst e2;obtain⟨v0,v1,v2,v3,v4,v5,rfl⟩:=mM (Rep.len hcs);have hsz:Rep.size Zj=6:=rfl;rw [hsz]at hc;have G0:w.cell? ⟨b4,o4+f*6,none⟩=some v0:=hc 0 _ rfl;have G1:w.cell? ⟨b4,o4+f*6+1,none⟩=some v1:=hc 1 _ rfl;obtain⟨r0,r1, -⟩:=Qj hcs;rw [hz1]at r0;rw [hz2]at r1;obtain⟨D,rfl⟩:=dE r0;obtain⟨Al,nl,cl,hv1,hll⟩:=r1;cases hv1
 have hkl:k<nl:=by have h1:=zN hps;have h2:=hll.length;rw [zK]at h2;omega
 obtain⟨bl,ol,pm,rfl,Hp,hbl,cs2,hcs2,hc2⟩:=hll.at_ hkl
 have e3:pm=Xo ps:=by
  have h:=Hp.out;rw [zH,hps]at h;exact(yG h).symm
 subst e3;obtain⟨v,rfl⟩:=List.length_eq_one_iff.1 (show cs2.length=1 from Rep.len hcs2);obtain⟨E,rfl⟩:=dE hcs2
 have G2:w.cell? ⟨bl,ol+k,none⟩=some (.pointer (some ⟨E,0,none⟩)):=by
  have h:=hc2 0 _ rfl;have e:Rep.size aW=1:=rfl;rw [e]at h
  simpa using h
 have hcap1:=hfs.cap;have hcap4:=hms.cap;have hcapl:=hll.cap;have HFi:=zA (Ug _ n c fs name w hfs f hN);have HD:=zA (fun(W:O) (hW:Sp W [OldA w.heap.size w])=>nR hW (pG M0 r0) ht (Qp _ _) (fY hal) hx);have HL:=zA (fun X:Asn=>o0 (L:= [X,OldA w.heap.size w]) M1 hcs2);obtain⟨hin, -,hn1⟩:=QN hr;have Hr:=zA hr
 have HK:=zA (fun(W:O) (hW:Below w.heap.size w W)=>And.intro ((hW.cell (ye h0)).trans h0) (And.intro ((hW.cell (ye h4)).trans h4) (And.intro ((hW.cell hb1).trans F1) (And.intro ((hW.cell hb4).trans G0) (And.intro ((hW.cell hb4).trans G1) ((hW.cell hbl).trans G2))))));obtain⟨np,hnp⟩:=eX (ps.length);rw [hnp]at hn1;have Hnp:=zA hnp;have hfi:(f:Int)<n:=by omega
 have hki:(k:Int)<nl:=by omega
 clear hfs hms he1 hcs hc hcs2 hc2 hll r0 Hg1 Hz Hp hz hz1 hz2 hN hfd hk2 hx hps ht hal hr F1 G0 G1 G2 h4 hnp hb1 hb4 hbl hin;go_enter func18,ntmps18;go_wp2_with fail;refine HFi.out.mono ?_;rintro e w1 ⟨rfl,hb⟩;have HS1:=(Sp.start w).grow hb;obtain⟨q0,q1,F1,G0,G1,G2⟩:=HK.out w1 hb;have HD1:=zA (HD.out w1 HS1);clear HFi hb HD h0;go_wp2_with fail;refine HD1.out.mono ?_;rintro e w2 ⟨rfl,HS2⟩
 clear q0 q1 F1 G0 G1 G2 HS1 HD1;obtain⟨q0,q1,F1,G0,G1,G2⟩:=HK.out w2 (HS2.below M0);have HI:=zA (nK (D:=E) HS2);clear HS2;go_wp2_with fail;refine HI.out.mono ?_;rintro e w3 ⟨I,rfl,HS3⟩
 have HS4:Sp w3 (ItA I E (.slice none 0 0) ps 0++ [NA none 0 0 (bH (ps.take 0)),OldA w.heap.size w]):=by
  have h:=(((HS3.elsNil (α:=PostD)).nil 116 2).els (α:=PostD) (css:= [])).nil 3 1;exact Sp.selT [_,_,_,_] h [2,1,0,3]
 clear HS3 HI q0 q1 F1 G0 G1 G2 HK hfi hki hkl;go_wp2
 go_loopg [10] (np+1) (fun gk v10 wr=>∃(o:Nat) (A:aA) (cp:Nat) (vp:V),v10= .slice A o cp/\o<=np/\gk=np+1 - o/\Sp wr (ItA I E vp ps o++ [NA A o cp (bH (ps.take o)),OldA w.heap.size w]))
 case atStart=>exact⟨0,none,0,.slice none 0 0,rfl,zJ _,rfl,HS4⟩
 case round=>
  obtain⟨o,A,cp,vp,rfl,ho,rfl,HS⟩:=hrel;clear HS4;have HN:=lD HS (HL.out _) Hr.out (by rw [Hnp.out];exact ho);rw [Hnp.out]at HN
  by_cases hon:o<np
  ·rw [decide_eq_true hon]at HN;have HN1:=zA HN;obtain⟨p,hp⟩:∃p,ps[o]? =some p:=⟨_,zB (by rw [Hnp.out];exact hon)⟩;have Hp:=zA hp;have Hdoc:=zA (fun(W:O) (vp' :V) (hW:Sp W (ItA I E vp' ps (o+1)++ [NA A o cp (bH (ps.take o)),OldA w.heap.size w]))=>pF hW (by omega) (show ps[o+1 - 1]? =some p from hp));clear hp HN HS
   go_wp2_with (first
    |(go_at_call 20;refine HN1.out.mono ?_;rintro e w4 ⟨vp',rfl,HS5⟩;have HDo:=zA (Hdoc.out w4 vp' HS5))
    |(go_at_call 16;refine HDo.out.mono ?_;rintro e w5 ⟨rfl,hd⟩;have HS6:=(show Sp w5 _ from(by obtain⟨n0,rfl⟩:=hd;exact Sp.selT [_,_,_,_] (HS5.drewN n0) [2,0,1,3]));clear hd)
    |(at_builtin;refine yC Xr (.tmp 66) (.tmp 69) rfl rfl HS6 rfl (cs:= #[.int .i64 p.doc]) rfl rfl rfl (by intro u hu;simp at hu;subst hu;rfl) (by omega) (by omega) ?_;intro A8 c8 w8 hc8 hm8 HS8)
    |fail)
   have e1:ints (bH (ps.take o))++ #[Value.int .i64 p.doc].toList=ints (bH (ps.take (o+1))):=by
    rw [zI,Hp.out];simp [ints,bH]
   rw [e1]at HS8
   go_roundg (np+1 - (o+1))
   ·exact⟨o+1,A8,c8,vp',rfl,by omega,rfl,Sp.selT [_,_,_,_] HS8 [1,2,0,3]⟩
   ·omega
  ·obtain rfl:o=np:=by omega
   rw [decide_eq_false (Nat.lt_irrefl _)]at HN;have HN1:=zA HN;clear HN HS
   go_wp2_with (first
    |(go_at_call 20;refine HN1.out.mono ?_;rintro e w4 ⟨vp',rfl,HS5⟩;have HS6:=Sp.selT [_,_,_,_] HS5 [2,3];have hcap:=(HS6.rowOf M0).cap)
    |(go_at_call 54;refine(UO _ _ _ _ (by omega) (by omega)).mono ?_;rintro e w' ⟨rfl,rfl⟩)
    |fail)
   go_ret
   refine⟨A,o,rfl,Hnp.out,?_⟩;rw [zF (by rw [Hnp.out];exact zC _)]at HS6;exact HS6.clip
theorem NG:dG fsG itG:=⟨NI,by rw [fT];exact MU,by rw [fT];exact NU⟩
theorem LB {w:O} (hV:Vs w):Calls prog 35 #[] w fun e w' =>∃(X g q:Nat) (A1 A2 A3 A4 Ac:aA) (c2 c3 c4 cc Tb:Nat) (As:List aA),e= .returned (.pointer (some ⟨X,0,none⟩))/\
 Sp w' (OP X 2 q 1 g A1 A2 A3 A4 Ac c2 c3 c4 cc Tb As fsG (O5 itG) (bL itG) invG (bG fsG itG)++ [OldA w.heap.size w]):=by
 have HV:=zA hV;clear hV;go_enter func35,ntmps35;go_wp2_with fail;refine(ES _).mono ?_;rintro e w1 ⟨A,rfl,hF,hb⟩;obtain⟨W,hW⟩:=eX ((w1.alloc (.cells #[.string ⟨#[116]⟩,.string ⟨#[66,32,97]⟩,.slice none 0 0,.string ⟨#[107]⟩,.string ⟨#[120]⟩,.slice none 0 0] 86)).alloc (.cells #[.int .u64 5,.slice (some ⟨w1.heap.size,0,none⟩) 2 2] 40));obtain⟨hi,hbW⟩:=JI hW;have hb2:=hb.trans (hbW.mono hb.size)
 have HB:=zA (jA (HV.out.on hb2) (hF.on hbW) hi (fun x hx e he=>by
  simp only [itG,List.mem_singleton]at hx;subst hx;simp only [O2,yx,xZ,or_false]at he;rcases he with rfl|rfl<;>exact⟨by decide,by decide⟩))
 have Hb2:=zA hb2;clear hF hi hbW hb hb2;go_wp2_with fail;refine HB.out.mono ?_;unfold fZ;rintro e w2 (⟨er,her,hng,rfl,hb2⟩|⟨X,g,q,A1,A2,A3,A4,Ac,c2,c3,c4,cc,Tb,As,rfl, -, -, -,HS⟩)
 ·exact absurd NG hng
 ·have HS2:Hid (Sp w2 (OP X 2 q 1 g A1 A2 A3 A4 Ac c2 c3 c4 cc Tb As fsG (O5 itG) (bL itG) invG (bG fsG itG)++ [OldA w.heap.size w])):=by
   rw [fT]at HS;exact((Sp.start w).grow Hb2.out).call _ HS
  clear HS HB hW;go_wp2;go_ret
  exact⟨X,g,q,A1,A2,A3,A4,Ac,c2,c3,c4,cc,Tb,As,rfl,HS2.out⟩
theorem O0:(aR fsG invG 2)[0]? =some (aT [⟨#[97]⟩,⟨#[98]⟩] [[⟨0, [1]⟩], [⟨0, [0]⟩]], [Xo [⟨0, [1]⟩],Xo [⟨0, [0]⟩]], [2],⟨⟩,⟨⟩,⟨⟩):=rfl
theorem O8:(aR fsG invG 2)[1]? =some (aT [⟨#[120]⟩] [[⟨0, [0]⟩]], [Xo [⟨0, [0]⟩]], [],⟨⟩,⟨⟩,⟨⟩):=rfl
theorem lJ {w W:O} {L:List Asn} {v:Int} {R:Nat} (hR:w.heap.size=R) (hW:w.alloc (.cells #[.int .i64 v] 3)=W):xA W (R+1) 1 (some ⟨R,0,none⟩) 1 (ints [v]):=by
 subst hW;exact Ye w #[.int .i64 v] 3 rfl hR
theorem GH {w:O} (hV:Vs w):Calls prog 8 #[] w fun e w' =>e= .returned (.bool true)/\Below w.heap.size w w' :=by
 have HO:=zA (LB hV);clear hV;go_enter func8,ntmps8;go_wp2_with fail;refine HO.out.mono ?_;rintro e w1 ⟨X,g,q,A1,A2,A3,A4,Ac,c2,c3,c4,cc,Tb,As,rfl,HS⟩;unfold OP at HS;simp only [yI,zZ]at HS;have hb0:=zA (HS.below M8);have h0:=HS.cl M0 0;have h2:=HS.cl M0 2;have h4:=HS.cl M0 4;have hfs:=HS.ls M1;have hms:=HS.ls M4;have HT:=zA (sA (f:=0) h4 hms (by omega))
 have HP:=zA (fun(W:O) (hW:Below w1.heap.size w1 W)=>sB (o:=0) (w:=W) ((hW.cell (ye h4)).trans h4) (hms.on hW) O0 rfl);have HL:=zA (fun(W:O) (hW:Below w1.heap.size w1 W)=>wD (w:=W) ((hW.cell (ye h2)).trans h2));have HN:=zA (fun(W:O) (hW:Below w1.heap.size w1 W)=>rI (i:=0) (w:=W) ((hW.cell (ye h4)).trans h4) (hms.on hW) O0 rfl)
 have HF:=zA (fun(W:O) (hW:Below w1.heap.size w1 W)=>t7 (w:=W) (name:=⟨#[107]⟩) (f:=1) (k:=0) ((hW.cell (ye h0)).trans h0) (hfs.on hW) ((hW.cell (ye h4)).trans h4) (hms.on hW) (by decide) rfl rfl O8 rfl rfl (by decide+kernel) (by decide+kernel) rfl rfl (by decide+kernel));clear HS HO h0 h2 h4 hfs hms;go_wp2_with fail;refine HT.out.mono ?_;rintro e w2 ⟨v,z,hz,rfl,hr,hb⟩;rw [O0]at hz;cases hz
 obtain⟨D,rfl⟩:=dE hr;have HFd:=zA (nR (k:=0) (s:=⟨#[97]⟩) ((Sp.start w1).grow hb) (pG M0 hr) (by decide+kernel) (Qp _ _) (fY (by decide+kernel)) rfl);clear hr hb HT;go_wp2_with fail;refine HFd.out.mono ?_;rintro e w3 ⟨rfl,HS3⟩;have hb3:=zA (HS3.below M0);have HP1:=zA (HP.out w3 hb3.out);clear HFd HS3 HP;go_wp2_with fail;refine HP1.out.mono ?_;rintro e w4 ⟨v,rfl,hr,hb4⟩;obtain⟨E,rfl⟩:=dE hr
 have Hd:=zA (show bQ [OldA w3.heap.size w3] E [⟨0, [1]⟩]from o0 M0 hr);have HI:=zA (nK (D:=E) ((Sp.start w3).grow hb4));clear hr hb4 HP1;go_wp2_with fail;refine HI.out.mono ?_;rintro e w5 ⟨I,rfl,HS5⟩;have HS6:Sp w5 (ItA I E (.slice none 0 0) [⟨0, [1]⟩] 0++ [OldA w3.heap.size w3]):=(((HS5.elsNil (α:=PostD)).nil 116 2).els (α:=PostD) (css:= [])).p1
 have HB:=zA (fun(W:O) (hW:Below w3.heap.size w3 W)=>hb3.out.trans (hW.mono hb3.out.size));have HL1:=zA (HL.out w5 (HB.out w5 (HS6.below M2)));have HNx:=zA (show Calls prog 20 #[.pointer (some ⟨I,0,none⟩)] w5 fun e w' =>∃vp',e= .returned (.bool true)/\Sp w' (ItA I E vp' [⟨0, [1]⟩] 1++ [OldA w3.heap.size w3])from lD HS6 Hd.out (by decide+kernel) (by decide));clear HS5 HS6 HI HL
 go_wp2_with (first
  |(go_at_call 26;refine HL1.out.mono ?_;rintro e w' ⟨rfl,rfl⟩)
  |(go_at_call 20;refine HNx.out.mono ?_;rintro e w6 ⟨vp',rfl,HS7⟩;have HDo:=zA (pF (o:=1) HS7 (by omega) (show([⟨0, [1]⟩]:List PostD)[1 - 1]? =some ⟨0, [1]⟩from rfl)))
  |(go_at_call 16;refine HDo.out.mono ?_;rintro e w7 ⟨rfl,hd7⟩;have HS8:=(show Sp w7 (ItA I E vp' [⟨0, [1]⟩] 1++ [OldA w3.heap.size w3])from(by obtain⟨n0,rfl⟩:=hd7;exact HS7.drewN n0));have HPo:=zA (K4 (o:=1) HS8 (by omega) (show([⟨0, [1]⟩]:List PostD)[1 - 1]? =some ⟨0, [1]⟩from rfl) (by decide));clear hd7)
  |(go_at_call 17;refine HPo.out.mono ?_;rintro e w8 ⟨A',n',c',rfl,hn',HS9⟩;have hn1:=(show n' =1 from hn'.symm);subst hn1;obtain⟨R,hR⟩:=eX (w8.heap.size);obtain⟨w9,hw9⟩:=eX (w8.alloc (.cells #[.int .i64 1] 3));have HS10:=(Sp.call (Xs:= [RowA 3 1 (.slice A' 1 c') 1 (ints [1])]) HS8 HS9).al (.cells #[.int .i64 1] 3);rw [hw9]at HS10;have hx1:=(show xA w9 w9.heap.size 1 A' 1 (ints [1])from zt.reads (c:=c') (HS10.rowOf M0));have HIx1:=zA (show Calls prog 36 #[.slice A' 1 c',.slice (some ⟨R,0,none⟩) 1 1] w9 fun e w' =>e= .returned (.bool true)/\xG w9 w' from nL A' (some ⟨R,0,none⟩) 1 1 c' 1 [1] [1] w9.heap.size (R+1) w9 (by decide) hx1 (lJ (v:=1) (L:= []) hR hw9));clear hx1;clear HS9 hn')
  |(go_at_call 36;refine HIx2.out.mono ?_;rintro e w14 ⟨rfl,hd14⟩)
  |(go_at_call 36;refine HIx1.out.mono ?_;rintro e w10 ⟨rfl,hd10⟩;have HS11:=(show Sp w10 _ from(by obtain⟨n0,rfl⟩:=hd10;exact HS10.drewN n0));have HN1:=zA (HN.out w10 (HB.out w10 (HS11.below M3)));clear hd10)
  |(go_at_call 37;refine HN1.out.mono ?_;rintro e w11 ⟨rfl,hb11⟩;have HS12:=HS11.grow hb11;have HF1:=zA (HF.out w11 (HB.out w11 (HS12.below M3)));clear hb11)
  |(go_at_call 18;refine HF1.out.mono ?_;rintro e w12 ⟨A5,m,rfl,hm,HS13⟩;have hm1:=(show m=1 from hm.symm);subst hm1;obtain⟨R2,hR2⟩:=eX (w12.heap.size);obtain⟨w13,hw13⟩:=eX (w12.alloc (.cells #[.int .i64 0] 3));have HS14:=(Sp.call (Xs:= [NA A5 1 1 [0]]) HS12 HS13).al (.cells #[.int .i64 0] 3);rw [hw13]at HS14;have hx2:=(show xA w13 w13.heap.size 1 A5 1 (ints [0])from zt.reads (c:=1) (HS14.rowOf M0));have HIx2:=zA (show Calls prog 36 #[.slice A5 1 1,.slice (some ⟨R2,0,none⟩) 1 1] w13 fun e w' =>e= .returned (.bool true)/\xG w13 w' from nL A5 (some ⟨R2,0,none⟩) 1 1 1 1 [0] [0] w13.heap.size (R2+1) w13 (by decide) hx2 (lJ (v:=0) (L:= []) hR2 hw13));clear hx2;clear HS13 hm)
  |fail)
 go_ret
 have hb14:Below w3.heap.size w3 w14:=by obtain⟨n0,rfl⟩:=hd14;exact(HS14.drewN n0).below M4
 exact⟨rfl,hb0.out.trans ((HB.out w14 hb14).mono hb0.out.size)⟩
end Go.Proofs.YtjbhbfaeielbiaaGreatDoor
namespace Go.Proofs.YtjbhbfaeielbiaaGreatDoor.segmentBursts
open Go.Proofs.Tryz
open Rep (rep)
open Go.ChangeShapes Go.WideShapes Go.ChangeAt Go.RowKit Go.Deep
theorem NT {W:O} (hL:laidMet prog Rows.segmentBurstsUptoRow.laid W) (hS:W.ShapedOpen prog):Vs W where
 tabs:=rH (Lib.laidMet.reads hL (by unfold Rows.segmentBurstsUptoRow;simp only [yx,Prod.mk.injEq,true_and,and_true,reduceCtorEq,String.reduceEq,false_and,false_or,or_true,true_or])) (Lib.laidMet.reads hL (by unfold Rows.segmentBurstsUptoRow;simp only [yx,Prod.mk.injEq,true_and,and_true,reduceCtorEq,String.reduceEq,false_and,false_or,or_true,true_or]))
 maxLen:=by
  obtain⟨m,h⟩:=cell_of_shapedOpen_int (g:=0) (t:=3) (zero:= #[.int .i64 0]) (k:= .i64) hS (of_decide_eq_true (by kernel_rfl)) (by kernel_rfl) rfl (by kernel_rfl) (by kernel_rfl) underlying3;exact⟨m,h,ye h⟩
 esyn:=nM (n:= "strconv.ErrSyntax") (ty:=297) (Lib.laidMet.reads hL (d:=Rows.laid_strconv_ErrSyntax) (by unfold Rows.segmentBurstsUptoRow;simp only [yx,Prod.mk.injEq,true_and,and_true,reduceCtorEq,String.reduceEq,false_and,false_or,or_true,true_or])) (by kernel_rfl) (by kernel_rfl) (by kernel_rfl)
 erng:=nM (n:= "strconv.ErrRange") (ty:=297) (Lib.laidMet.reads hL (d:=Rows.laid_strconv_ErrRange) (by unfold Rows.segmentBurstsUptoRow;simp only [yx,Prod.mk.injEq,true_and,and_true,reduceCtorEq,String.reduceEq,false_and,false_or,or_true,true_or])) (by kernel_rfl) (by kernel_rfl) (by kernel_rfl)
theorem J7 (H:Type) (enc:TypeId×V->H) (W:O) (base:Nat) (args:aG) (ds gs:List (DataW H)) (before:List MemPlace)
 (hval:∀(j:Nat) t v,Tryz.f5.params[j]? =some t->args[j]? =some v->Value.okWide prog W .any base t v)
 (hW:DataW.Whole enc prog Tryz.f5.params.toList Rows.segmentBurstsSpec.vars false W args.toList ds gs before) (hk:Rows.uptoSmall H (ds++gs)=true) (hV:Vs W):
 Calls prog 5 args W fun e W' =>∃v,e= .returned v/\Rows.segmentBurstsSpec.post enc prog Tryz.f5 false true false false W args v W' :=by
 have hW' :=hW;obtain⟨p,q,hA0,hVs,rfl,hfz,hnd⟩:=hW;have hA:DataW.TrodAll enc prog W 0 (fun _=>true) true Tryz.f5.params.toList args.toList ds p:=hA0;rw [Tryz.params5]at hA hval;obtain⟨v0,vs0,d0,ds0,p0,q0,hargs,rfl,rfl,h0,r0⟩:=trodAll_cons hA;obtain⟨v1,vs1,d1,ds1,p1,q1,rfl,rfl,rfl,h1,r1⟩:=trodAll_cons r0;obtain⟨v2,vs2,d2,ds2,p2,q2,rfl,rfl,rfl,h2,r2⟩:=trodAll_cons r1
 obtain⟨v3,vs3,d3,ds3,p3,q3,rfl,rfl,rfl,h3,r3⟩:=trodAll_cons r2;obtain⟨rfl,rfl,rfl⟩:=trodAll_nil r3;obtain rfl:args= #[v0,v1,v2,v3]:=by cases args;simp_all
 obtain⟨rfl,rfl⟩:=trodVars_none hVs;have k0:=h0;have k1:=h1;have lt0:∀x∈p0,x.block<W.heap.size:=by obtain⟨m,hm⟩:=k0;exact DataW.trod_lt m _ _ _ hm
 have lt1:∀x∈p1,x.block<W.heap.size:=by obtain⟨m,hm⟩:=k1;exact DataW.trod_lt m _ _ _ hm
 have hbd:Rows.uptoBulkAll ([d0,d1,d2,d3]++([]:List (DataW H)))<=1048576:=of_decide_eq_true hk;simp only [zo,yI,zZ,Rows.uptoBulkAll]at hbd;obtain⟨A,n,c,fs,rfl,hs⟩:=uL (hval 0 24 v0 rfl rfl) h0 (by omega);obtain⟨B,m,cm,items,rfl,hi,hz⟩:=wU (hval 1 25 v1 rfl rfl) h1 (by omega);obtain⟨a2,rfl,rfl,rfl,w2⟩:=open_int underlying3 (hval 2 3 v2 rfl rfl) h2
 obtain⟨a3,rfl,rfl,rfl,w3⟩:=open_int underlying72 (hval 3 72 v3 rfl rfl) h3;have b2:=bounds_i64 w2;have b3:0<=a3/\a3<=4294967295:=by simpa [Lit.wf,IntKind.min,IntKind.max,IntKind.signed,IntKind.bits]using w3
 obtain⟨pp,rfl⟩:∃k:Nat,a3=(k:Int):=⟨a3.toNat,by omega⟩;clear hA0;refine(BV (fun w h=>GH h) hV hs hi (fun x hx e he=>by have:=hz x hx e he;omega) (by unfold In64;omega) (by omega)).mono fun e W' ⟨he,bel⟩=> ?_;subst he
 exact⟨_,rfl,_,_,_, [],_, [],hW',trodAll_mk1 (shut_bool underlying4 _),(trodAll_cons_mk (Below.trod o6 (by kernel_rfl) (of_decide_eq_true (by kernel_rfl)) k0 bel lt0) (trodAll_cons_mk (Below.trod o6 (by kernel_rfl) (of_decide_eq_true (by kernel_rfl)) k1 bel lt1) (trodAll_cons_mk (shut_int underlying3 w2) (trodAll_cons_mk (shut_int underlying72 w3) trodAll_mk0)))),rfl,bel.frame _,fun h=>by cases h⟩
theorem ND (os:Os) (started:os.Started) (H:Type) (enc:TypeId×V->H) (F:Stop.Interp):
 ReturnsInHanded {} Tryz.checked os 5 .any ((Rows.OpenSpec.upto Rows.segmentBurstsSpec).preRow enc prog Tryz.f5 Rows.segmentBurstsUptoRow.domain false Rows.segmentBurstsUptoRow.laid) (((Rows.OpenSpec.upto Rows.segmentBurstsSpec).at F).post enc prog Tryz.f5 false true false false):=by
 obtain⟨yg,hx⟩:=reads os enc
 refine returnsInHanded_of_row (C:=Tryz.checked) (s:=Rows.OpenSpec.upto Rows.segmentBurstsSpec) PH started (by kernel_rfl) func5
  (tH (enc:=enc) (C:=Tryz.checked) false (World.laidAll prog os laid) #[.agg #[.slice none 0 0],.slice none 0 0,.int .i64 0,.int .u32 0] (World.laidAll_os _ _ _)
   (World.shaped_of_ZipB (by kernel_rfl) (by kernel_rfl)) (by kernel_rfl)
   (OpenSpec.preRow_of_cond 8 hx (by kernel_rfl) (fun k hk=>by cases hk;kernel_rfl) (by kernel_rfl) (by rw [MakeChecks.laidMetH_plain _ _ _ (by kernel_rfl)];exact laidMet_laidAll _ (by kernel_rfl) (by kernel_rfl)))) ?_
 intro W base args ds gs before hval hW _ hcond _ hL hS _;rw [MakeChecks.laidMetH_plain _ _ _ (by kernel_rfl)]at hL;exact J7 H enc W base args ds gs before hval hW (hcond _ rfl) (NT hL hS)
theorem sH:(Rows.segmentBurstsUptoRow.inPlace==Tryz.pinned.checked.prog.inPlace 5)=true:=by kernel_rfl
theorem qX:(Rows.segmentBurstsUptoRow.unfollowed==Tryz.pinned.checked.prog.unfollowed 5)=true:=by kernel_rfl
theorem rJ:(Rows.segmentBurstsUptoRow.recurses==Tryz.pinned.checked.prog.recurses 5)=true:=by kernel_rfl
theorem wK:(Rows.segmentBurstsUptoRow.named==Tryz.pinned.checked.prog.varsNamed 5)=true:=by kernel_rfl
theorem NK:joinedFacts Tryz.pinned.checked.prog 5 Tryz.f5 (Rows.OpenSpec.upto Rows.segmentBurstsSpec).bare Rows.segmentBurstsUptoRow=true:=by
 unfold joinedFacts;simp only [zM]
 exact⟨⟨⟨⟨⟨⟨⟨⟨⟨⟨⟨⟨⟨⟨⟨⟨⟨⟨⟨⟨⟨⟨⟨⟨⟨⟨⟨⟨⟨⟨⟨by kernel_rfl,by kernel_rfl⟩,by kernel_rfl⟩,by kernel_rfl⟩,by kernel_rfl⟩,by kernel_rfl⟩,by kernel_rfl⟩,by kernel_rfl⟩,by kernel_rfl⟩,sH⟩,qX⟩,rJ⟩,wK⟩,by kernel_rfl⟩,by kernel_rfl⟩,by kernel_rfl⟩,by kernel_rfl⟩,by kernel_rfl⟩,by kernel_rfl⟩,by kernel_rfl⟩,by kernel_rfl⟩,by kernel_rfl⟩,by kernel_rfl⟩,by kernel_rfl⟩,by kernel_rfl⟩,by kernel_rfl⟩,by kernel_rfl⟩,by kernel_rfl⟩,by kernel_rfl⟩,by kernel_rfl⟩,by kernel_rfl⟩,by kernel_rfl⟩
theorem bD:Rows.SegmentBurstsUptoSaid:=
 OpenClaim.holds_of_cond 5 Tryz.f5 rfl rfl rfl rfl rfl rfl rfl ⟨rfl,rfl,rfl,rfl,rfl⟩ rfl rfl rfl rfl rfl (by kernel_rfl) func5 NK
  (of_decide_eq_true (by kernel_rfl)) (by unfold Func.isWrapper;first|(rw [if_pos (by decide+kernel)];kernel_rfl)|(rw [if_neg (by decide+kernel)];exact⟨rfl,rfl⟩))
  (fun os started H enc _ F=>by rw [OpenClaim.pre_eq_preRow];exact ND os started H enc F)
theorem PI:Rows.segmentBurstsUptoRow.wfByText (Rows.OpenSpec.upto Rows.segmentBurstsSpec)=true:=by kernel_rfl
theorem PL:Tryz.pinned.checked.prog.mainIs=some (true,("f017f3c1bf931a095882f8ea4c7599dac00e2a1f3f4b28c4ddaa625bcbcc2c38" :String).toList):=by kernel_rfl
theorem PK:true=Tryz.pinned.checked.prog.looks []:=by kernel_rfl
theorem PJ:false=Rows.segmentBurstsUptoRow.goesBy Tryz.pinned.checked.prog:=N4 rfl N5
theorem card_holds:Rows.SegmentBurstsUptoCardSaid:=
 Claim7.holds_tied_plain_at .later [] [.data,.data,.data,.data,.sentinel,.sentinel,.pinned] true (true, "f017f3c1bf931a095882f8ea4c7599dac00e2a1f3f4b28c4ddaa625bcbcc2c38") true bD (fun _ h=>by cases h) PI (fun _ h=>by cases h) segmentBurstsUpto_row_tie rfl ⟨rfl,rfl⟩ PL rfl
  (fun f fn hf hfn=>by
   obtain rfl:f=5:=yG ((show Tryz.prog.funcNamed Rows.segmentBurstsUptoRow.func=some 5 by kernel_rfl).symm.trans hf)|>.symm;obtain rfl:fn=Tryz.f5:=(yG (Tryz.func5.symm.trans hfn)).symm
   exact⟨PK,fun j t ht=>by
    rw [Tryz.params5]at ht;have hm:t∈ [24,25,3,72]:=(by simpa using Array.mem_of_getElem? ht);have hall:([24,25,3,72].all fun u=> !Tryz.prog.wantsStandIn u)=true:=(by kernel_rfl);exact(show Tryz.prog.wantsStandIn t=false by simpa using List.all_eq_true.1 hall t hm)⟩)
  PJ
#print axioms card_holds
end Go.Proofs.YtjbhbfaeielbiaaGreatDoor.segmentBursts

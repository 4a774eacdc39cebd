import Derived.Test.YtjbhbfaeielbiaaGreatDoorPart32
set_option maxRecDepth 100000
set_option maxHeartbeats 8000000
set_option linter.unusedVariables false
set_option linter.unusedSimpArgs false
namespace Go.Proofs.YtjbhbfaeielbiaaGreatDoor
open Tryz
open Rep (rep)
open Go.RowKit
attribute [local go_sem ↓] zU zV
theorem GO {f dims n:Nat} {l s:List Pt} {d nn:Nat} (hl:l.length=n) (h8:¬n<=8) (hd:(xF l dims).1=d) (hs:s=Zu d l) (hnn:(n+1) / 2=nn):
 allP (f+1) dims l=allP f dims (s.take nn)++allP f dims (s.drop nn):=by
 subst hs hd;rw [allP,if_neg (by rw [hl];exact h8),hl,hnn]
theorem ER {n nn:Nat} (h:(n+1) / 2=nn) (hn:n<1000000000):Int.tdiv (n:Int) 2=((n - nn:Nat):Int)/\IntKind.i64.wrap (Int.tdiv (n:Int) 2)=((n - nn:Nat):Int):=by
 have e2:Int.tdiv (n:Int) 2=((n / 2:Nat):Int):=rfl;have e3:n / 2=n - nn:=by omega
 rw [e2,e3];exact⟨rfl,by rw [zT];omega⟩
theorem Sp.rot5 {w:O} {A B C D E:Asn} {L:List Asn} (h:Sp w (A::B::C::D::E::L)):Sp w (B::C::D::E::A::L):=Sp.selT [A,B,C,D,E] h [1,2,3,4,0]
theorem nA {q p dims:Nat} (hd0:0<dims) (hd4:dims<=4):∀(f:Nat) (w:O) (L:List Asn) (m c n:Nat) (A:aA) (CX:List aF) (PX l:List Pt) (pre post:aC),ZG dims l->l.length=n->n<=f->0<f->m+n<=1048576->
 Sp w (O1 q p dims (rsAt pre (xS f dims l++post)) A m c CX PX L)->
 Calls prog 212 #[.pointer (some ⟨q,0,none⟩),.int .i64 (n:Int)] w fun e w' =>∃b A' c' CX',
  e= .returned (.pointer (some ⟨b,0,none⟩))/\Sp w' (O1 q p dims (rsAt (pre++xS f dims l) post) A' (m+n) c' CX' (PX++allP f dims l) L)
 |0,_,_,_,_,_,_,_,_,_,_,_,_,_,_,h0,_,_=>absurd h0 (Nat.lt_irrefl _)
 |f+1,w,L,m,c,n,A,CX,PX,l,pre,post,hP,hn,hf,_,hm,h=>by
  by_cases hn8:n<=8
  ·exact DX hP hd0 hd4 hn hn8 (by omega) h
  ·have IH:=zA (nA (q:=q) (p:=p) hd0 hd4 f);obtain⟨nn,hnn⟩:=eX ((n+1) / 2);have hn0:0<nn:=(by omega);have h8d:decide ((8:Int)<(n:Int))=true:=(by simp;omega);have hnn' :nn<n:=(by omega);obtain⟨hq1,hq2⟩:=nN hnn (by omega);obtain⟨hq3,hq4⟩:=ER hnn (by omega);obtain⟨d,hd⟩:=eX ((xF l dims).1);have hdd:d<dims:=(by rw [<-hd];exact VN _ _ hd0);obtain⟨s,hs⟩:∃s,s=Zu d l:=⟨_,rfl⟩
   have hls:s.length=n:=(by rw [hs,UZ,hn]);have hPs:ZG dims s:=(by rw [hs];exact hP.perm (Yc d l));obtain⟨pt,hpt⟩:∃pt,s[nn]? =some pt:=⟨_,zB (by omega)⟩;have hpin:=hPs pt (zD hpt);obtain⟨x,hx⟩:∃x,pt.2[d]? =some x:=⟨_,zB (by rw [hpin.1];exact hdd)⟩;have hxr:=hpin.2.2.2 x (zD hx);have hfm:=jS (f:=f) (x:=x) hn hn8 hd hs hnn (by rw [hpt];simp [Pt.x_get hx]);have hal:=GO (f:=f) hn hn8 hd hs hnn
   obtain⟨lb,hlb⟩:=eX (xS f dims (s.take nn));obtain⟨rb,hrb⟩:=eX (xS f dims (s.drop nn));rw [hlb,hrb]at hfm;rw [hfm,hal];obtain⟨lL,hlL⟩:=eX (lb.length);rw [hlL];rw [hfm,hlL,show([1]++zP d++zP (yc x)++zP lL++lb++rb)++post= [1]++(zP d++(zP (yc x)++(zP lL++(lb++(rb++post))))) by simp]at h;obtain⟨S0,hrd⟩:=h.rdOf;have hbl:=hrd.2.2.1;simp only [rsAt,zG]at hbl;have c0:=h.cl M1 0
   have HB:=zA (XQ h (z:=1) rfl (by omega));have HPL:Hid (ZG dims (s.take nn)):=fun p hp=>hPs p (yu hp);have HPR:Hid (ZG dims (s.drop nn)):=fun p hp=>hPs p (List.mem_of_mem_drop hp);have HlL:Hid ((s.take nn).length=nn):=(by show _=_;rw [zr];omega);have HlR:Hid ((s.drop nn).length=n - nn):=(by show _=_;rw [ze];omega);obtain⟨N2,hN2⟩:=eX ((rb++post).length)
   have hN2b:lL+N2<=140737488355328:=(by rw [<-hN2,<-hlL,zG];omega);have Hlb:=zA hlb;have Hrb:=zA hrb;have HlL2:=zA hlL;have HN2:=zA hN2;have Hxr:=zA hxr;clear hlb hrb hlL hN2 hxr hbl hrd hfm hal hx hpin hpt hPs hls hs hd hP hn h;go_enter func212,ntmps212;go_wp2_with fail;refine HB.out.mono ?_;rintro e w1 ⟨A1,rfl,HS1⟩;obtain⟨g1,rfl, -, -⟩:=(HS1.rowOf M0).at_ (by decide)
   have k0:w1.cell? ⟨g1,0,none⟩=some (.int .u8 1):=HS1.rowCell M0 rfl;have c1:=HS1.cl M2 0;have c1d:=HS1.cl M2 1;have HS2:=HS1.tail;have HE:=zA (QA HS2);have HG:=zA Ut;clear HB HS1 c0
   go_wp2_with (first
    |(go_at_call 79;refine HE.out.mono ?_;rintro e w' ⟨rfl,rfl⟩)
    |(go_at_call 211;refine(HG.out _).mono ?_;rintro e w' ⟨rfl,rfl⟩))
   obtain⟨dm,hdm⟩:∃dm,dims=dm+1:=⟨dims - 1,by omega⟩;subst hdm;have hw1:IntKind.i64.wrap (((dm+1:Nat):Int) - 1)=(dm:Int):=(by rw [zT];omega);have hw2:(((dm+1:Nat):Int) - 1)=(dm:Int):=(by omega);have hw3:IntKind.i64.wrap (dm:Int)=(dm:Int):=(by rw [zT];omega);have HZ:=ZH HS2.drew dm (by omega);rw [yn (show d<2^64 by omega) (show d<=dm by omega)]at HZ;have HZ:=zA HZ;clear k0 HE
   go_region_held3 (fun W=>W.cell? ⟨q,0,none⟩=some (.pointer (some ⟨p,0,none⟩))/\W.cell? ⟨q,1,none⟩=some (.int .i64 ((dm+1:Nat):Int))) (first|with_reducible assumption|go_keep|(with_reducible exact⟨by assumption,by assumption⟩)|fail) (first
    |(go_at_call 74;refine HZ.out.mono ?_;rintro e w2 ⟨rfl,HS3⟩;have c2:=HS3.cl M1 0;have c2d:=HS3.cl M1 1;have HI:=gB HS3;rw [Vm Hxr.out]at HI;have HI:=zA HI)
    |(go_at_call 134;refine HI.out.mono ?_;rintro e w3 ⟨rfl,HS4⟩;have c3:=HS4.cl M1 0;have c3d:=HS4.cl M1 1)
    |fail)
   obtain⟨Bx,hBx⟩:=eX (w3.heap.size);have HS5:=(HS4.blkH 394 #[.slice none 0 0,.int .i64 (d:Int),.int .i64 x,.pointer none,.pointer none] hBx).rot5;go_wp2;obtain⟨w5,hw5⟩:=eX (w3.alloc (.cells #[.slice none 0 0,.int .i64 (d:Int),.int .i64 x,.pointer none,.pointer none] 394));rw [hw5]at HS5⊢;rw [hBx];have c5:=HS5.cl M1 0;obtain⟨N1,hN1⟩:=eX (lL+N2);obtain⟨N0,hN0⟩:=eX ((zP lL).length+N1)
   have hu10:=ya (n:=lL) (by omega);have HLt:=Xz HS5.drew;rw [YL,show(zP lL++(lb++(rb++post))).length=N0 by rw [zG,zG,HlL2.out,HN2.out];omega]at HLt;have HLt:=zA HLt;have HZ2:=fun k=>ZH (HS5.drewN k) N0 (by omega);rw [yn (show lL<2^64 by omega) (show lL<=N0 by omega)]at HZ2;have HZ2:=zA HZ2;have hlN:lL<=N1:=(by omega)
   have Hdiff:Hid (IntKind.i64.wrap ((N1:Int) - (N2:Int))=(lL:Int)):=(by show _=_;rw [zT];omega);have Hdif2:Hid (((N1:Int) - (N2:Int))=(lL:Int)):=(by show _=_;omega);have Hwl:Hid (wrap64 (lL:Int)=(lL:Int)):=(by show _=_;unfold wrap64;omega);have HN1:=zA hN1;clear hw5 c1 c1d c2 c2d c3 c3d HS2 HS3 HS4 HZ HI hBx hw1 hw2 hw3 hN1 hN0 hN2b hu10
   go_region_held3 (fun W=>W.cell? ⟨q,0,none⟩=some (.pointer (some ⟨p,0,none⟩))) (first|with_reducible assumption|go_keep|fail) (first
    |(go_at_call 77;refine HLt.out.mono ?_;rintro e w6 ⟨rfl,k6,rfl⟩)
    |(go_at_call 74;refine(HZ2.out _).mono ?_;rintro e w7 ⟨rfl,HS7⟩;have c7:=HS7.cl M1 0)
    |fail)
   have HE7:=zA (QA HS7);have HLt7:=Xz HS7;rw [YL,show(lb++(rb++post)).length=N1 by rw [zG,HlL2.out,HN2.out];exact HN1.out]at HLt7;have HLt7:=zA HLt7
   have HI7:=zA (fun k=>IH.out (w7.drewN k) (BlkA Bx 394 #[.slice none 0 0,.int .i64 (d:Int),.int .i64 x,.pointer none,.pointer none]::L) m c nn A CX PX (s.take nn) (pre++ [1]++zP d++zP (yc x)++zP lL) (rb++post) HPL.out HlL.out (by omega) (by omega) (by omega) (by rw [Hlb.out];exact HS7.drewN k));clear HLt HZ2 c5 HS5
   go_wp2_with (first
    |(go_at_call 79;refine HE7.out.mono ?_;rintro e w' ⟨rfl,rfl⟩)
    |(go_at_call 211;refine(HG.out _).mono ?_;rintro e w' ⟨rfl,rfl⟩)
    |(go_at_call 77;refine HLt7.out.mono ?_;rintro e w8 ⟨rfl,k8,rfl⟩))
   refine(HI7.out _).mono ?_;rintro e w8 ⟨b1,A8,c8,CX8,rfl,HS8⟩;have hne:Bx≠q:=HS8.p1.p4.ne;have c8q:=HS8.cl M1 0;have c8x:=HS8.cl M4 3;have c8f:=(HS8.blkOf M4).frozen 3;have HS9:=HS8.p4.set 3 (.pointer (some ⟨b1,0,none⟩));have HLt9:=Xz HS9.p1;rw [YL,HN2.out]at HLt9;have HLt9:=zA HLt9;have hdiff:=Hdiff.out;have hdif2:=Hdif2.out;have hwl:=Hwl.out
   have HI9:=zA (fun k=>IH.out ((w8.setCell ⟨Bx,3,none⟩ (.pointer (some ⟨b1,0,none⟩))).drewN k) _ (m+nn) c8 (n - nn) A8 CX8 (PX++allP f (dm+1) (s.take nn)) (s.drop nn) (pre++ [1]++zP d++zP (yc x)++zP lL++xS f (dm+1) (s.take nn)) post HPR.out HlR.out (by clear hq1 hq2 hq3 hq4 hdiff hdif2 hwl;omega) (by clear hq1 hq2 hq3 hq4 hdiff hdif2 hwl;omega) (by clear hq1 hq2 hq3 hq4 hdiff hdif2 hwl;omega) (by rw [Hrb.out];exact HS9.rot5.drewN k))
   clear HS8 HS9 c7 HS7 HE7 HLt7 HI7
   go_wp2_with (first
    |(go_at_call 211;refine(HG.out _).mono ?_;rintro e w' ⟨rfl,rfl⟩)
    |(go_at_call 77;refine HLt9.out.mono ?_;rintro e w9 ⟨rfl,k9,rfl⟩))
   refine(HI9.out _).mono ?_;rintro e w10 ⟨b2,A10,c10,CX10,rfl,HS10⟩;have c10x:=HS10.cell M4 4;have c10f:=(HS10.blkOf M4).frozen 4;have HS11:=(HS10.p4.set 4 (.pointer (some ⟨b2,0,none⟩))).tail;have hmn:m+nn+(n - nn)=m+n:=(by clear hq1 hq2 hq3 hq4 hdiff hdif2 hwl;omega);rw [hmn,Hlb.out,Hrb.out]at HS11;have Hmn:=zA HS11;clear HS10 HS11 HI9 hdiff hdif2 hwl hq1 hq2 hq3 hq4 hmn;go_wp2;go_ret
   refine⟨Bx,A10,c10,CX10,rfl,?_⟩;have h:=Hmn.out;have e1:pre++ [1]++zP d++zP (yc x)++zP lL++lb++rb=pre++([1]++zP d++zP (yc x)++zP lL++lb++rb):=(by simp);rw [e1,zO PX]at h;exact h
theorem vC (p q:Addr) (w:O):
 CallsD prog 210 #[.pointer (some p),.pointer (some q)] .returning w fun e u' w' =>e= .returned (.tuple #[])/\u' = .returning/\Below w.heap.size w w' :=by
 have hta:∀W:O,(Instr.typeAssert Value.nilIface 20 336 true).run prog W= .ok (.tuple #[.agg #[],.bool false]) W:=fun W=>by kernel_rfl
 refine callsD_of_wpS func210 rfl fun c₀ cs hu=> ?_
 apply wpS_seq
 apply wpS_region
 simp [wpOpsS,go_sem,recoverD,hu,ntmps210,Exit.thenS];refine wpS_of_wp ?_;show Code.wp _ _ _ {tmps:= #[.pointer (some p),.pointer (some q),.nilIface,undef,undef,.nilIface,undef,undef,undef,undef,undef,undef,undef,undef,undef],defers:= []} _;go_wp2;refine⟨rfl,.returning,?_,.tuple #[],results_none rfl _ _ _,rfl,rfl,(zE _ _).alloc (zC _) _⟩;cases c₀;simp only at hu;subst hu;rfl
section
variable {w:O} {L:List Asn}
theorem F9 {w:O} {s e:Nat} {v:V} {tmps:aG} (h2:tmps.getD 2 undef= .pointer (some ⟨s,0,none⟩)) (h3:tmps.getD 3 undef= .pointer (some ⟨e,0,none⟩)) (hs:w.cell? ⟨s,0,none⟩=some v) (he:w.cell? ⟨e,0,none⟩=some (.int .i64 0)):
 (results Tryz.f156 tmps).run prog w= .ok (.tuple #[v,.int .i64 0]) w:=by
 have h1:Tryz.f156.results= #[ResultVar.cell 2 104,ResultVar.cell 3 27]:=rfl;have h4:tmps[2]?.getD undef= .pointer (some ⟨s,0,none⟩):=by simpa using h2
 have h5:tmps[3]?.getD undef= .pointer (some ⟨e,0,none⟩):=by simpa using h3
 simp [results,h1,h4,h5,asAddr,Result.andThen,go_sem,hs,he]
theorem Sp.focusPt {A:aA} {n c k:Nat} {ps:List Pt} {p:Pt} (h:Sp w (DatA (.slice A n c) ps::L)) (hk:ps[k]? =some p):
 ∃b off A' n' c',A=some ⟨b,off,none⟩/\w.cell? ⟨b,off+k*2,none⟩=some (.int .i64 p.1)/\w.cell? ⟨b,off+k*2+1,none⟩=some (.slice A' n' c')/\p.2.length=n' /\Sp w (Z1 [.slice A n c] ps [.slice A' n' c'] p.2::L):=by
 obtain⟨S,h1,h2,h3⟩:=h;obtain⟨⟨A0,n0,c0,e,h4⟩,h5⟩:=h2;cases e;have hkn:k<n:=by rw [<-h4.length];exact zN hk
 obtain⟨b,off,x,rfl,Hx,_,cs,hr,hc⟩:=h4.at_ hkn
 have e:=Hx.out.symm.trans hk;cases e;obtain⟨A',n',c',rfl, -,h6⟩:=Pt.at_ hr
 exact⟨b,off,A',n',c',rfl,hc 0 _ rfl,hc 1 _ rfl,h6.length,S,h1,⟨⟨⟨_,_,_,rfl,h4⟩,h5⟩,⟨⟨_,_,_,rfl,h6⟩,h5⟩⟩,h3⟩
end
theorem kA (A:aA) (nb c dims n:Nat) (pts:List Pt) (w:O) (hnb:nb<=100000000000000) (hl:RB w A nb (bkdB dims pts)) (hP:ZG dims pts) (hd0:0<dims) (hd4:dims<=4) (hlen:pts.length=n) (hn:n<=1048576):
 Calls prog 156 #[.slice A nb c] w fun e w' =>∃D,e= .returned (.tuple #[.pointer (some ⟨D,0,none⟩),.int .i64 0])/\Below w.heap.size w w' :=by
 have hmf:=@mF prog;obtain⟨f,hf⟩:∃f,f=(if n=0 then 1 else n):=⟨_,rfl⟩
 have hbk:bkdB dims pts=zP dims++(zP n++xS f dims pts):=by
  unfold bkdB;rw [hlen]
  by_cases h0:n=0
  ·subst h0 hf;have:=zS hlen;subst this
   have e:xS 1 dims []= [0,0]:=by
    rw [xS,if_pos (by simp),show Zu 0 []= [] by simp [Zu]];rw [YT (by simp)];rfl
   rw [if_pos rfl,if_pos rfl,e];simp
  ·rw [hf,if_neg h0,if_neg h0];simp
 have hf0:0<f:=by rw [hf];split<;>omega
 have hnf:n<=f:=by rw [hf];split<;>omega
 obtain⟨Bt,hBt⟩:=eX (w.heap.size);have HS0:=((Sp.start w).blkH 104 #[.pointer none] hBt).blkH 27 #[.int .i64 0] (H:=Bt+1) (by simp [hBt]);have hr0:RB (((w.alloc (.cells #[.pointer none] 104))).alloc (.cells #[.int .i64 0] 27)) A nb (bkdB dims pts):=hl.on (HS0.below M2);have HN:=zA (VG (c:=c) HS0 hr0 (by omega));rw [hbk]at HN;have Hl:=zA hl;have HP:=zA hP;have Hlen:=zA hlen;have Hbk:=zA hbk
 clear hl hP hlen hbk hr0 HS0 hf
 go_enter_defers func156,ntmps156
 go_wp2_with fail;refine HN.out.mono ?_;rintro e w1 ⟨p,rfl,HS1⟩;obtain⟨q,hq⟩:=eX (w1.heap.size);have HS2:=(HS1.blkH 340 #[.pointer (some ⟨p,0,none⟩),.int .i64 0,.slice none 0 0] hq).p1;have HS2:Sp _ (RdA p (rsAt [] (zP dims++(zP n++xS f dims pts)))::_):=HS2;have HZ1:=ZH HS2 4 (by omega);rw [yn (show dims<2^64 by omega) hd4]at HZ1;have HZ1:=zA HZ1;clear HN HS1 HS2;go_wp2_with fail
 refine HZ1.out.mono ?_;rintro e w2 ⟨rfl,HS3⟩;have q1:=HS3.cl M1 1;have q0:=HS3.cl M1 0;have qf:=(HS3.blkOf M1).frozen 1;have HS4:=(HS3.p1.set 1 (.int .i64 (dims:Int))).p1;have HZ2:=ZH HS4 1048576 (by omega);rw [show zP n++xS f dims pts=zP n++xS f dims pts from rfl,yn (show n<2^64 by omega) hn]at HZ2;have HZ2:=zA HZ2;clear HZ1 HS3 HS4 hq;go_wp2_with fail;refine HZ2.out.mono ?_
 rintro e w3 ⟨rfl,HS5⟩;have c0:=HS5.cl M1 0;have c1:=HS5.cl M1 1;have HE:=zA (QA (post:=xS f dims pts) HS5);have HG:=zA Ut;have hd0i:decide ((0:Int)<(dims:Int))=true:=by simp;omega
 clear HZ2 q0 q1 qf
 go_wp2_with (first
  |(go_at_call 79;refine HE.out.mono ?_;rintro e w' ⟨rfl,rfl⟩)
  |(go_at_call 211;refine(HG.out _).mono ?_;rintro e w' ⟨rfl,rfl⟩))
 have HS6:Sp _ (O1 q p dims (rsAt ([]++zP dims++zP n) (xS f dims pts)) none 0 0 [] [] [BlkA (Bt+1) 27 #[.int .i64 0],BlkA Bt 104 #[.pointer none],OldA w.heap.size w]):=
  Sp.selT [_,_,_,_] ((HS5.nil 232 2).elsNil (α:=Pt)) [2,3,1,0]
 rw [<-zo (xS f dims pts)]at HS6;have HNd:=zA (nA hd0 hd4 f _ _ 0 0 n none [] [] pts _ [] HP.out Hlen.out hnf hf0 (by omega) HS6.drew);rw [zx]at HNd;clear HS5 HS6 HE c0 hd0i
 go_region_held3 (fun W=>W.cell? ⟨q,1,none⟩=some (.int .i64 (dims:Int))) (first|with_reducible assumption|go_keep|fail) (first
  |(go_at_call 212;refine HNd.out.mono ?_;rintro e w4 ⟨rt,A4,c4,CX4,rfl,HS7⟩;obtain⟨BT,hBT⟩:=eX (w4.heap.size);have c4d:=HS7.cl M1 1;have hne:Bt≠q:=(HS7.p1.p5).ne;have b0:=(fun o=>(HS7.al o).cell M5 0);have bf:=(fun o=>((HS7.al o).blkOf M5).frozen 0))
  |fail)
 have HS8:=((HS7.blkH 345 #[.int .i64 (dims:Int),.int .i64 (n:Int),.pointer (some ⟨rt,0,none⟩),.slice none 0 0,.slice none 0 0] hBT).p6).set 0 (.pointer (some ⟨BT,0,none⟩));have HS9:Sp _ (DatA (.slice A4 n c4) (allP f dims pts)::_):=Sp.els (Sp.selT [_,_,_,_,_,_,_,_] HS8 [4,5,0,1,3,6,7]);clear HS7 HS8 HNd c4d b0 bf c1;go_wp2
 obtain⟨w5,hw5⟩:=eX ((w4.alloc (.cells #[.int .i64 (dims:Int),.int .i64 (n:Int),.pointer (some ⟨rt,0,none⟩),.slice none 0 0,.slice none 0 0] 345)).setCell ⟨Bt,0,none⟩ (.pointer (some ⟨BT,0,none⟩)));rw [hw5]at HS9⊢;clear hw5 hBT;have hperm:(allP f dims pts).Perm pts:=Uw f dims pts (by rw [Hlen.out];exact hnf) hf0;obtain⟨ps,hps⟩:=eX (allP f dims pts);rw [hps]at HS9 hperm
 have HPs:Hid (ZG dims ps):=HP.out.perm hperm;have Hlps:Hid (ps.length=n):=by show _=_;rw [hperm.length_eq,Hlen.out]
 have hbb:bkdB dims ps=bkdB dims pts:=BZ hperm;have HB:=Qm A4 n c4 dims ps _ (HS9.drew.ls M0) HPs.out hd0 hd4 hn;rw [hbb]at HB;have HB:=zA HB;have HS9d:=HS9.drew;have c1:=HS9.cl M3 1;have c2:=HS9.cl M3 2;clear HS9 hperm hbb hps hBt
 go_region_held3 (fun W=>W.cell? ⟨q,1,none⟩=some (.int .i64 (dims:Int))/\W.cell? ⟨q,2,none⟩=some (.slice A4 n c4)) (first|with_reducible assumption|(with_reducible exact⟨by assumption,by assumption⟩)|go_keep|fail) (first
  |(go_at_call 167;refine HB.out.mono ?_;rintro e w6 ⟨A6,m6,c6,rfl,hm6,HSb⟩;have HS10:=HS9d.c1 HSb;have HEq:=bY A6 A m6 nb c6 c (bkdB dims pts) (bkdB dims pts) _ (by omega) (HS10.rb M0).1 (Hl.out.on (HS10.below M6));rw [decide_eq_true rfl]at HEq;have HEq:=zA HEq;have c61:=HS10.cl M4 1;have c62:=HS10.cl M4 2)
  |(go_at_call 145;refine HEq.out.mono ?_;rintro e w7 ⟨rfl,k7,rfl⟩)
  |(go_at_call 211;refine(HG.out _).mono ?_;rintro e w' ⟨rfl,rfl⟩)
  |fail)
 have HS11:Sp _ [IA none 0 0 [],IA none 0 0 [],BlkA BT 345 #[.int .i64 (dims:Int),.int .i64 (n:Int),.pointer (some ⟨rt,0,none⟩),.slice none 0 0,.slice none 0 0],DatA (.slice A4 n c4) ps,BlkA Bt 104 #[.pointer (some ⟨BT,0,none⟩)],BlkA q 340 #[.pointer (some ⟨p,0,none⟩),.int .i64 (dims:Int),.slice A4 n c4],BlkA (Bt+1) 27 #[.int .i64 0],OldA w.heap.size w]:=((((HS10.tail).drewN k7).p2.nil 2 1).nil 2 1)
 have c72:(w6.drewN k7).cell? ⟨q,2,none⟩=some (.slice A4 n c4):=c62;clear HS9d HSb HEq HB HS10 c1 c2 c61 c62 hm6;go_wp2;clear c72
 go_loopg [6,7,8,9,69,91] n (fun gk _ _ _ _ vi _ wr=>∃(k z:Nat) (Al Ah:aA) (cl ch:Nat) (ll lh:aD),vi= .int .i64 k/\k<=n/\gk=n - k/\z=(if k=0 then 0 else dims)/\Sp wr [IA Al z cl ll,IA Ah z ch lh,BlkA BT 345 #[.int .i64 (dims:Int),.int .i64 (n:Int),.pointer (some ⟨rt,0,none⟩),.slice Al z cl,.slice Ah z ch],DatA (.slice A4 n c4) ps,BlkA Bt 104 #[.pointer (some ⟨BT,0,none⟩)],BlkA q 340 #[.pointer (some ⟨p,0,none⟩),.int .i64 (dims:Int),.slice A4 n c4],BlkA (Bt+1) 27 #[.int .i64 0],OldA w.heap.size w])
 case atStart=>exact⟨0,0,none,none,0,0, [], [],rfl,zJ _,rfl,rfl,HS11⟩
 case round=>
  obtain⟨k,z,Al,Ah,cl,ch,ll,lh,rfl,hk,rfl,hz,HS⟩:=hrel;clear HS11
  by_cases hkn:k<n
  ·obtain⟨pt,hpt⟩:∃pt,ps[k]? =some pt:=⟨_,zB (by rw [Hlps.out];exact hkn)⟩;obtain⟨b,off,A1,n1,c1,rfl,f0,f1,hl1,HSf⟩:=HS.p3.focusPt hpt;have hpin:=HPs.out pt (zD hpt);have hn1:n1=dims:=(by rw [<-hl1];exact hpin.1);subst hn1;obtain⟨D,hD⟩:=eX (pt.1);rw [hD]at f0;obtain⟨Bp,hBp⟩:=eX (wr.heap.size);clear HS hpin hl1 hpt hD
   have e1:∀o,(wr.alloc o).cell? ⟨Bt,0,none⟩=some (.pointer (some ⟨BT,0,none⟩)):=fun o=>(HSf.al o).cell M4 0;have HSb:=(HSf.blkH 232 #[.int .i64 D,.slice A1 n1 c1] hBp)
   go_upto_if 75 with fail
   obtain⟨w8,hw8⟩:=eX (wr.alloc (.cells #[.int .i64 D,.slice A1 n1 c1] 232));rw [hw8]at HSb⊢;clear e1 hw8 f0 f1 hBp HSf
   go_cut []from 76 to 87 (fun W=>∃(Al Ah:aA) (cl ch:Nat) (ll lh:aD),Sp W [IA Al n1 cl ll,IA Ah n1 ch lh,BlkA BT 345 #[.int .i64 (n1:Int),.int .i64 (n:Int),.pointer (some ⟨rt,0,none⟩),.slice Al n1 cl,.slice Ah n1 ch],Z1 [.slice (some ⟨b,off,none⟩) n c4] ps [.slice A1 n1 c1] pt.2,BlkA Bt 104 #[.pointer (some ⟨BT,0,none⟩)],BlkA q 340 #[.pointer (some ⟨p,0,none⟩),.int .i64 (n1:Int),.slice (some ⟨b,off,none⟩) n c4],BlkA (Bt+1) 27 #[.int .i64 0],OldA w.heap.size w,BlkA Bp 232 #[.int .i64 D,.slice A1 n1 c1]])
   case first=>
    by_cases hk0:k=0
    ·subst hk0;have d0:=HSb.cl M5 0;have d1:=HSb.cl M0 1;have g1:BT≠Bt:=(Sp.p1 (HSb.p5.p5)).ne.symm;have g2:BT≠Bp:=(HSb.p4).ne;have HSd:=HSb.drew;have HC1:=zA (XW A1 n1 c1 _ _ (by omega) (HSd.ls2 M1).reads_ints (Y3 _));clear HSb;go_wp2
     go_region_held3 (fun W=>W.cell? ⟨Bt,0,none⟩=some (.pointer (some ⟨BT,0,none⟩))/\W.cell? ⟨Bp,1,none⟩=some (.slice A1 n1 c1)) (first|with_reducible assumption|(with_reducible exact⟨by assumption,by assumption⟩)|go_keep|fail) (first
      |(go_at_call 96;refine HC1.out.mono ?_;rintro e w9 ⟨A9,c9,rfl,hr9,hb9⟩;have HS9:=HSd.row hr9 hb9;have HC2:=zA (XW A1 n1 c1 _ _ (by omega) (HS9.ls2 M2).reads_ints (Y3 _));have d90:=HS9.cl M6 0;have d91:=HS9.cl M1 1)
      |(go_at_call 96;refine HC2.out.mono ?_;rintro e w10 ⟨A10,c10,rfl,hr10,hb10⟩;have HS10:=HS9.row hr10 hb10;have da0:=HS10.cl M7 0;have da1:=HS10.cl M2 1;have b3:=HS10.cell M6 3;have b4:=HS10.cell M6 4;have bf3:=(HS10.blkOf M6).frozen 3;have bf4:=(HS10.blkOf M6).frozen 4)
      |fail)
     all_goals
      have HS11:=(((HS10.p6.set 3 (.slice A9 n1 c9)).set 4 (.slice A10 n1 c10)).sel [2,1,0,4,7,8,9,10,3]);clear HS9 HS10 hr9 hb9 hr10 hb10 d0 d1 d90 d91 da0 da1 b3 b4 bf3 bf4;go_wp2
      go_meet
      exact⟨A9,A10,c9,c10,pt.2,pt.2,HS11⟩
    ·have hz1:z=n1:=(by rw [hz,if_neg hk0]);subst hz1;have hkb:((k:Int)==0)=false:=(by simp;omega);go_wp2
     go_meet
     exact⟨Al,Ah,cl,ch,ll,lh,HSb.sel [2,3,4,1,5,6,7,8,0]⟩
   case rest=>
    obtain⟨Al,Ah,cl,ch,ll,lh,HSc⟩:=hcut;obtain⟨gl,rfl, -, -⟩:=(HSc.rowOf M0).at_ hd0
    obtain⟨gh,rfl, -, -⟩:=(HSc.rowOf M1).at_ hd0
    have d1:=HSc.cl M8 1;go_wp2;clear d1
    go_loopg [8,9,91] n1 (fun gj _ _ vj wr=>∃(j:Nat) (ll lh:aD),vj= .int .i64 j/\j<=n1/\gj=n1 - j/\Sp wr [IA (some ⟨gl,0,none⟩) n1 cl ll,IA (some ⟨gh,0,none⟩) n1 ch lh,BlkA BT 345 #[.int .i64 (n1:Int),.int .i64 (n:Int),.pointer (some ⟨rt,0,none⟩),.slice (some ⟨gl,0,none⟩) n1 cl,.slice (some ⟨gh,0,none⟩) n1 ch],Z1 [.slice (some ⟨b,off,none⟩) n c4] ps [.slice A1 n1 c1] pt.2,BlkA Bt 104 #[.pointer (some ⟨BT,0,none⟩)],BlkA q 340 #[.pointer (some ⟨p,0,none⟩),.int .i64 (n1:Int),.slice (some ⟨b,off,none⟩) n c4],BlkA (Bt+1) 27 #[.int .i64 0],OldA w.heap.size w,BlkA Bp 232 #[.int .i64 D,.slice A1 n1 c1]])
    case atStart=>exact⟨0,ll,lh,rfl,zJ _,rfl,HSc⟩
    case round=>
     obtain⟨j,ll,lh,rfl,hj,rfl,HS2⟩:=hrel;clear HSc
     by_cases hjn:j<n1
     ·obtain⟨b1,o1,x,rfl, -,hb1,hcx⟩:=(HS2.ls2 M3).at_ hjn
      have hcx:=hcx.int.1;obtain⟨lx,hlx⟩:∃lx,ll[j]? =some lx:=⟨_,zB (by rw [(HS2.ilen M0).1];exact hjn)⟩;obtain⟨hx,hhx⟩:∃hx,lh[j]? =some hx:=⟨_,zB (by rw [(HS2.ilen M1).1];exact hjn)⟩;have e1:=HS2.cl M4 0;have e2:=HS2.cl M2 3;have e3:=HS2.cl M2 4;have e4:wr.cell? ⟨gl,j,none⟩=some (.int .i64 lx):=HS2.rowCell M0 (Z9 hlx);have e5:wr.cell? ⟨gh,j,none⟩=some (.int .i64 hx):=HS2.rowCell M1 (Z9 hhx)
      have e6:=HS2.rowFree M0 j;have e7:=HS2.rowFree M1 j;have g1:gl≠gh:=HS2.neRR;have g1' :gh≠gl:=HS2.neRR.symm;have g2:gl≠BT:=HS2.d1.neRB;have g3:gh≠BT:=HS2.tail.neRB;have g4:gl≠Bt:=(HS2.d1.d1.d1).neRB;have g5:gh≠Bt:=(HS2.tail.d1.d1).neRB;have HSx:=(((HS2.rowSet j (.int .i64 (min lx x))).p1.rowSet j (.int .i64 (max hx x))).p1).drew
      have HSy:=(((HS2.p1.rowSet j (.int .i64 (max hx x))).p1.rowSet j (.int .i64 (min lx x)))).drew;rw [<-WR,<-WR]at HSx HSy;clear HS2 hlx hhx hb1;go_wp2;refine wp_region_noPanic ?_
      refine gR [(29,fun W=>W.cell? ⟨gl,j,none⟩=some (.int .i64 lx)),(31,fun W=>W.cell? ⟨Bt,0,none⟩=some (.pointer (some ⟨BT,0,none⟩))/\W.cell? ⟨BT,3,none⟩=some (.slice (some ⟨gl,0,none⟩) n1 cl)/\W.cell? ⟨BT,4,none⟩=some (.slice (some ⟨gh,0,none⟩) n1 ch)/\W.cell? ⟨gh,j,none⟩=some (.int .i64 hx))] (zg e4 (hB ⟨e1,e2,e3,e5⟩)) ?_;refine gL 0 31 M1 ?_;refine gF 1 ?_;refine gF 2 ?_
      refine gL 3 31 M1 ?_;refine gF 4 ?_;refine gL 5 31 M1 ?_;refine gF 6 ?_;refine gF 7 ?_;refine gL 8 31 M1 ?_;refine gF 9 ?_;refine gL 10 31 M1 ?_;refine gF 11 ?_;refine gF 12 ?_;refine gL 13 31 M1 ?_;refine gF 14 ?_;refine gF 15 ?_;refine gL 16 29 M0 ?_;refine gF 17 ?_;refine gF 18 ?_;refine gL 19 31 M1 ?_;refine gF 20 ?_;refine gF 21 ?_;refine gL 22 31 M1 ?_;refine gF 23 ?_
      refine gF 24 ?_;refine gL 25 31 M1 ?_;refine gF 26 ?_;refine gF 27 ?_;refine gF 28 ?_;intro hC;refine gO 29 fun K hK=> ?_;go_simp;refine hK.out _ _ (YP (by kernel_rfl) (hB ⟨by go_simp,by go_simp,by go_simp,by go_simp⟩)) ?_;clear hK K hC;refine gF 30 ?_;intro hC;refine gO 31 fun K hK=> ?_;go_simp;refine hK.out _ _ hA ?_;clear hK K hC;intro hC;refine xW (by kernel_rfl) ?_
      refine NoPanic.normal ?_
      all_goals
       clear e1 e2 e3 e4 e5 e6 e7;go_wp2
       go_roundg (n1 - (j+1))
       case measure=>omega
       case rel=>first
        |exact⟨j+1,_,_,by go_num,by omega,rfl,HSx⟩
        |exact⟨j+1,_,_,by go_num,by omega,rfl,HSy⟩
     ·obtain rfl:j=n1:=by omega
      have HS3:=(HS2.p3.unfocus).sel [1,2,3,0,4,5,6,7];clear HS2;go_wp2
      go_roundg (n - (k+1))
      ·exact⟨k+1,j,_,_,cl,ch,ll,lh,by go_num,by omega,rfl,by rw [if_neg (by omega)],HS3⟩
      ·omega
  ·obtain rfl:k=n:=by omega
   have e1:=HS.cl M4 0;have e2:=HS.cl M6 0;have e3:=(HS.blkOf M4).frozen 0;have e4:=(HS.blkOf M6).frozen 0;have HSe:=(HS.p4.set 0 (.pointer (some ⟨BT,0,none⟩))).p6.set 0 (.int .i64 0);have e5:Bt≠Bt+1:=(by omega);clear HS;have eg:=enters_of func210 (by kernel_rfl) rfl;go_wp2
   refine leaves_cons (f:=210) (args:= #[.pointer (some ⟨Bt,0,none⟩),.pointer (some ⟨Bt+1,0,none⟩)]) (by simp) (by simp [invoke,go_sem,eg]) ?_;refine(vC _ _ _).mono ?_;rintro e u' w'' ⟨rfl,rfl,hb⟩;have h2:=HSe.grow hb;refine⟨_,F9 (s:=Bt) (e:=Bt+1) (by rfl) (by rfl) (h2.cell M1 0) (h2.cell M0 0),BT,rfl,h2.below M7⟩
end Go.Proofs.YtjbhbfaeielbiaaGreatDoor

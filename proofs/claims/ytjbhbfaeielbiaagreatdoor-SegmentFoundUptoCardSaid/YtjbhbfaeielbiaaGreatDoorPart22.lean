import Derived.Test.YtjbhbfaeielbiaaGreatDoorPart18
set_option maxRecDepth 100000
set_option maxHeartbeats 8000000
set_option linter.unusedVariables false
set_option linter.unusedSimpArgs false
namespace Go.Proofs.YtjbhbfaeielbiaaGreatDoor
open Go.Proofs.Tryz
open Rep (rep)
open Go.RowKit
def Yn (s:aB) (p:aE):Nat->aC
 |0=> []
 |j+1=>Yn s p j++(if aQ (rn s (p[j]?.getD 0))then []else(s.extract (p[j]?.getD 0) (p[j+1]?.getD 0)).data.toList)
def WP (s:aB):aC:=Yn s (yg s) ((yg s).length - 1)
def Qf (t:Token):List Token:=if WP t.text= []then []else [{t with text:=⟨(WP t.text).toArray⟩}]
theorem WO (s:aB):∀j x,(yg s)[j]? =some x->(Yn s (yg s) j).length<=x
 |0,x,_=>by simp [Yn]
 |j+1,x,hx=>by
  obtain⟨y,a⟩:∃y,(yg s)[j]? =some y:=⟨_,zB (by have:=zN hx;omega)⟩;have b:=WO s j y a;have c:=Xn a hx (by omega);have d:x<=s.size:=QQ (zD hx);rw [Yn,zG,a,hx]
  split
  ·simp;omega
  ·have:((s.extract y x).data.toList).length=x - y:=by
    rw [Lib.extract_data,zr,ze,<-Lib.size_eq];omega
   simp only [yq];omega
theorem DN {s:aB} {j x:Nat} (h:(yg s)[j]? =some x) (a:j+1<(yg s).length):x<s.size:=by
 have:j<(ats s).length:=by simp [yg]at a;omega
 rw [yg,z9 this]at h;exact V5 (zD h)
theorem K9 {w:O} {base:Nat} {A:aA} {n c:Nat} {p:aE} (h:Own Flat w base 3 (.slice A n c) (natI p)) (s:0<p.length):∃g cur,A=some ⟨g,0,none⟩/\Blk w g 3 cur/\∀(i x:Nat),p[i]? =some x->cur[i]? =some (.int .i64 (x:Int)):=by
 have j:=h;obtain⟨css,r,t,m⟩:=h;have l:(natI p).length=p.length:=by simp [natI]
 rcases m.2 with⟨d,k⟩|⟨g,cap,cur,d,q,f,_⟩
 ·rw [l]at k;omega
 ·cases d;refine⟨g,cur,rfl,f,fun i x o=> ?_⟩;obtain⟨b,a,e⟩:=YV j o;cases a;rw [Blk.cell (show Blk w g 3 cur from f) i]at e;exact e
theorem Blk.others {W d :O} {b g:Nat} {t:TypeId} {cs:aG} (h:Blk W g t cs) (f:Lib.OthersKept 5 (some b) W d) (a:g≠b) (i:t≠5):Blk d g t cs:=
 f g _ h (fun e=>a (by cases e;rfl)) (fun c j e=>i (by cases e;rfl))
theorem sP (t:Token) (ht:t.ok) (hs:t.text.size<=1000000000) (w:O) (hT:Tabs w):
 Calls prog 242 #[.agg #[.string t.text,.int .i64 t.pos,.int .i64 t.from_,.int .i64 t.to_]] w fun e w' =>∃v,e= .returned v/\Own Flat w' w.heap.size 48 v (Qf t)/\Below w.heap.size w w' :=by
 have b0:=(Blk.new w 48 #[.string t.text,.int .i64 t.pos,.int .i64 t.from_,.int .i64 t.to_]).alloc (.cells #[.pointer none,.slice none 0 0] 365)
 have hv:OU (w.heap.size+1) (w.heap.size+1) [] ((w.alloc (.cells #[.string t.text,.int .i64 t.pos,.int .i64 t.from_,.int .i64 t.to_] 48)).alloc (.cells #[.pointer none,.slice none 0 0] 365)):=by
  have:=Lib.fresh_isBuilder 365 5 (w.alloc (.cells #[.string t.text,.int .i64 t.pos,.int .i64 t.from_,.int .i64 t.to_] 48));rw [World.size_alloc]at this;exact this
 have ho:Below w.heap.size w ((w.alloc (.cells #[.string t.text,.int .i64 t.pos,.int .i64 t.from_,.int .i64 t.to_] 48)).alloc (.cells #[.pointer none,.slice none 0 0] 365)):=((zE _ _).alloc (zC _) _).alloc (by simp) _;have B0:=zA b0;have h3:=zA hv;have Ht:=zA ht;have HT:=zA hT;have K:=zA ho;have hz:=Yf t.text;clear b0 hv ht hT ho;go_enter func242,ntmps242;go_wp2_with fail
 refine(Qd t.text (by omega) _ (HT.o.on K.o)).mono ?_;rintro e w1 ⟨vp,rfl,op,D⟩;obtain⟨Ap,cp,rfl⟩:=op.form;obtain⟨p,hp⟩:=eX (yg t.text);have n:=zA (fun j x (h:(yg t.text)[j]? =some x) hj=>DN h hj);have G:=zA (fun i j a b (h1:(yg t.text)[i]? =some a) (h2:(yg t.text)[j]? =some b) h=>Xn h1 h2 h);have q:=zA (fun j x (h:(yg t.text)[j]? =some x)=>QQ (zD h));have L:=zA (WO t.text)
 rw [hp]at op hz n G q L⊢;have hy:(natI p).length=p.length:=by simp [natI]
 obtain⟨X,cur,rfl,bp,I⟩:=K9 op (by omega);rw [hy]at⊢;obtain⟨U,T⟩:=eX (p.length);rw [T]at hz n⊢
 have y1:w.heap.size+1<X:=by
  obtain⟨_,_,_,hr⟩:=op;rcases hr.2 with⟨h,_⟩|⟨g',_,_,h,hb,_⟩
  ·cases h
  ·cases h;simp at hb;omega
 have b1:=B0.o.below D (by simp;omega);have hh:=h3.o.on D;have H :=K.o.trans (D.mono K.o.size);have xb:=zA H;have B1:=zA b1;have h5:=zA hh;have Bp:=zA bp;have m:=zA I;have B:=zA T;have Hp:=zA hp;have y2:U<=1000000001:=by omega
 clear b1 hh D H op hy T hp bp I;go_wp2
 go_loopw [14] (fun i wr=>∃j:Nat,j+1<=U/\i= .int .i64 j/\Blk wr w.heap.size 48 #[.string t.text,.int .i64 t.pos,.int .i64 t.from_,.int .i64 t.to_]/\Blk wr X 3 cur/\OU (w.heap.size+1) (w.heap.size+1) (Yn t.text p j) wr/\Below w.heap.size w wr) (fun i _=>U - (intOf i).toNat)
 case atStart=>exact⟨0,by omega,rfl,B1.o,Bp.o,h5.o,xb.o⟩
 case round=>
  obtain⟨j,hj,rfl,bt,bp,bd,S⟩:=hrel;have Bt:=zA bt;have u:=zA bp;have Bd:=zA bd;have A:=zA S;have h0:=S.size;have ys:=bd.le.2;clear bt bp bd S
  by_cases x2:j+1<U
  ·obtain⟨a,Y⟩:∃a,p[j]? =some a:=⟨_,zB (by have:=B.o;omega)⟩;obtain⟨c,Z⟩:∃c,p[j+1]? =some c:=⟨_,zB (by have:=B.o;omega)⟩;have x8:a<=c:=G.o _ _ _ _ Y Z (by omega);have y0:c<=t.text.size:=q.o _ _ Z;have x1:a<t.text.size:=n.o _ _ Y x2;have x3:=L.o j a Y;have e0:=Bt.o.cell 0;simp only [yF,zf]at e0;have ea:=(u.o.cell j).trans (m.o j a Y)
   have ec:=(u.o.cell (j+1)).trans (m.o (j+1) c Z);have g0:(0:Int)<=(j:Int):=(by omega);have g1:(j:Int)<(U:Int):=(by omega);have hn:Tabs wr:=HT.o.on A.o;have h9:=zA hn;have E0:=zA e0;have Ea:=zA ea;have Ec:=zA ec;clear hn ec;go_wp2
   go_region_held3 (fun w' =>w'.cell? ⟨w.heap.size,0,none⟩=some (.string t.text)/\w'.cell? ⟨X,j,none⟩=some (.int .i64 (a:Int))) (go_keep)
    ((go_at_call 292
      refine(dR t.text a x1 (by omega) _ (h9.o.on (zE _ wr).drew)).mono ?_;rintro e W ⟨rfl,hu⟩;have E:Below wr.heap.size wr W:=(zE _ wr).drew.trans hu;have P:=(E.cell (p:=⟨w.heap.size,0,none⟩) (ye E0.o)).trans E0.o;have Q:=(E.cell (p:=⟨X,j,none⟩) (ye Ea.o)).trans Ea.o;have g:=zA E;clear hu E))
   have hk:=Bt.o.below g.o Bt.o.lt;have N:=u.o.below g.o u.o.lt;have hi:=Bd.o.on g.o;have R:=(N.cell (j+1)).trans (m.o (j+1) c Z);have y3:=g.o.size;have he:=zA hk;have y:=zA N;have hd:=zA hi;have hg:=zA R;have h8:=zA P;have hf:=zA Q
   have s:Yn t.text p (j+1)=Yn t.text p j++(if aQ (rn t.text a)then []else(t.text.extract a c).data.toList):=(by rw [Yn,Y,Z];rfl);have d:=zA s;have g2:(j:Int)+1<(U:Int):=(by omega);have g3:(0:Int)<=(j:Int)+1:=(by omega);have g4:((j:Int)+1).toNat=j+1:=(by omega);have g5:IntKind.i64.wrap ((j:Int)+1)=(j:Int)+1:=IntWalk.i64_in _ (by omega);have g6:(0:Int)<=(a:Int):=(by omega)
   have g7:(a:Int)<=(c:Int):=(by omega);have g8:(c:Int)<=(t.text.size:Int):=(by omega);have g9:(0:Int)<=(c:Int):=(by omega);have hw:(t.text.extract a c).size=c - a:=(by rw [yQ];omega);have xi:=zA hw;clear hk N hi R s Y Z e0 ea P Q hw;rcases hm:aQ (rn t.text a)with _|_
   ·have Hm:=zA hm;rw [hm]at d;clear hm;have P:=h8.o;have Q:=hf.o;have R:=hg.o;go_wp2_with (go_at_call 248;go_must (refine(dU _ _).mono ?_);rw [Hm.o];rintro e w' ⟨rfl,rfl⟩)
    go_region_held3 (fun w' =>w'.cell? ⟨w.heap.size,0,none⟩=some (.string t.text)/\w'.cell? ⟨X,j,none⟩=some (.int .i64 (a:Int))/\w'.cell? ⟨X,j+1,none⟩=some (.int .i64 (c:Int))) (go_keep)
     ((go_at_call 233
       refine(Qu (w.heap.size+1) (w.heap.size+1) _ _ W.drew (hd.o.on (zE _ W).drew) (by rw [Lib.byteCells_length,xi.o];omega) (by show _<=W.heap.size;omega)).mono ?_;rintro e w4 ⟨rfl,h4,b4,k4⟩;have b5:Below (w.heap.size+1) W w4:=(zE _ W).drew.trans b4;have k5:Lib.OthersKept 5 (some (w.heap.size+1)) W w4:=fun k o h=>k4 k o h;have f:=Blk.others he.o k5 (by omega) (by decide)
       have C:=Blk.others y.o k5 (by omega) (by decide);have xs:=(f.cell 0);have x5:=(C.cell j).trans ((y.o.cell j).symm.trans hf.o);have x6:=(C.cell (j+1)).trans ((y.o.cell (j+1)).symm.trans hg.o);simp only [yF,zf]at xs;have h7:=zA f;have h6:=zA C;have B5:=zA b5;have H4:=zA h4;clear f C b5 h4 b4 k4 k5))
    go_wp2
    go_roundw
    case rel=>
     refine⟨j+1,by omega,by go_num,h7.o,h6.o,?_,A.o.trans ((g.o.mono h0).trans (B5.o.mono (by omega)))⟩;rw [d.o];show Lib.IsBuilder _ _ _ _ _ _;rw [if_neg (by simp),Lib.byteCells_append,<-VJ];exact .inr H4.o
    case measure=>simp [intOf];omega
   ·have Hm:=zA hm;rw [hm]at d;clear hm;go_wp2_with (go_at_call 248;go_must (refine(dU _ _).mono ?_);rw [Hm.o];rintro e w' ⟨rfl,rfl⟩)
    go_roundw
    case rel=>exact⟨j+1,by omega,by go_num,he.o,y.o,by rw [d.o,if_pos trivial,zo];exact hd.o,A.o.trans (g.o.mono h0)⟩
    case measure=>simp [intOf];omega
  ·obtain rfl:j+1=U:=by omega
   obtain⟨M,hM⟩:=eX (Yn t.text p j);have J:WP t.text=M:=(by unfold WP;rw [Hp.o,B.o];exact hM)
   have x3:M.length<=t.text.size:=by
    obtain⟨x,hx⟩:∃x,p[j]? =some x:=⟨_,zB (by have:=B.o;omega)⟩;have h1:=L.o j x hx;have h2:=q.o _ _ hx;rw [hM]at h1;omega
   rw [hM]at Bd;have F:=zA J;clear hM J;have x4:=Bd.o.le;go_wp2_with fail;refine(Tryz.Builder_String_any_k (w.heap.size+1) (w.heap.size+1) M _ (Lib.IsBuilderF.of Bd.o) (by omega)).mono ?_;rintro e w4 ⟨rfl,_,b4,k4⟩;have f:=Blk.others Bt.o k4 (by omega) (by decide);have f4:=f.frozen 0;have r:=f.set_ 0 (.string ⟨M.toArray⟩);have c1:=r.cell 0;have c2:=r.cell 1
   have c3:=r.cell 2;have c4:=r.cell 3;have d0:=f.cell 0;simp only [yF,zf,zj,List.setIfInBounds_toArray,yw]at c1 c2 c3 c4 d0;have z:Hid (Below w.heap.size w (w4.setCell ⟨w.heap.size,0,none⟩ (.string ⟨M.toArray⟩))):=(A.o.trans (b4.mono (by omega))).setCell (p:=⟨w.heap.size,0,none⟩) (zC _) _;have hl:(⟨M.toArray⟩:aB).size=M.length:=(by simp [ByteArray.size])
   have xn:Hid (Token.ok {t with text:=⟨M.toArray⟩}):=⟨by simp only [hl];omega,Ht.o.2⟩;clear b4 k4 f r hl
   by_cases l:M= []
   ·have hr:Hid (Qf t= []):=(by show _=_;unfold Qf;rw [F.o,if_pos l]);subst l;go_wp2;go_ret
    exact⟨_,rfl,by rw [hr.o];exact Own.nil _ _ _ _,z.o⟩
   ·have hr:Hid (Qf t= [{t with text:=⟨M.toArray⟩}]):=(by show _=_;unfold Qf;rw [F.o,if_neg l]);have h1:(M== [])=false:=(by simpa using l);have h2:M.isEmpty=false:=(by simpa using l);clear l;go_wp2;go_ret
    exact⟨_,rfl,by rw [hr.o];exact Wm _ _ z.o.size {t with text:=⟨M.toArray⟩} xn.o _ rfl _ (by simp [World.setCell]),z.o.alloc z.o.size _⟩
end Go.Proofs.YtjbhbfaeielbiaaGreatDoor

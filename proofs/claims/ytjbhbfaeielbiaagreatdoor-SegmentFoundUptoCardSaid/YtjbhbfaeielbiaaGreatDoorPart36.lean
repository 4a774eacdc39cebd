import Derived.Test.YtjbhbfaeielbiaaGreatDoorPart35
set_option maxRecDepth 100000
set_option maxHeartbeats 8000000
set_option linter.unusedVariables false
set_option linter.unusedSimpArgs false
namespace Go.Proofs.YtjbhbfaeielbiaaGreatDoor
open Go.Proofs.Tryz
open Rep (rep)
open Go.RowKit
attribute [local go_sem ↓] zU zV
theorem Sp.ilen' {w:O} {L:List Asn} {A:aA} {m c:Nat} {l:aD} (h:Sp w L) (a:NA A m c l∈L):l.length=m/\m<=c/\c<=9223372036854775807:=by
 have:=h.rowOf a;exact⟨by have h:=this.1;rw [Xd]at h;omega,this.cap.2⟩
theorem DV (A:aA) (nb c:Nat) (rows:List aD) (w:O) (Z:nb<=c) (G:c<=9223372036854775807) (H:nb<=100000000000) (g:RB w A nb (colL rows)) (y:rows.length<=16384) (z:∀r∈rows,r.length<=64/\InL r) (Q:rows.map xP=rows):
 Calls prog 154 #[.slice A nb c] w fun e w' =>∃p,e= .returned (.tuple #[.pointer p,.int .i64 0])/\Below w.heap.size w w' :=by
 have D:=zA (iQ A nb c rows w Z G H g y z);obtain⟨n,i⟩:=eX (rows.length);rw [i]at y D;have T:=zA g;have N:=zA z;have U:=zA Q;have t:=zA i
 have v:InL rows.flatten:=by
  intro x I;obtain⟨l,g,I⟩:=List.mem_flatten.1 I;exact(z l g).2 x I
 have E:=zA v;clear g z Q i v;go_enter func154,ntmps154;go_wp2_with fail;refine D.o.mono ?_;rintro e w1 ⟨K,L,P,C,m,rfl,b⟩;obtain rfl:C=n:=by have:=(b.ilen' M0).1;simp [Y4]at this;omega
 obtain⟨M,F⟩:=eX (w1.heap.size);have o:=b.blkH 324 #[.slice K C P,.slice L m m] F
 have hm:m<=100000000:=by
  have h:=(b.ilen M1).1;have Y:=Wq (B:=64) (ls:=rows) fun l g=>(N.o l g).1;rw [t.o]at Y;omega
 have k:=zA (CL o t.o y E.o hm);go_wp2_with fail;refine k.o.mono ?_;rintro e w3 ⟨R,W,rfl,q⟩;have d:=zA (gW R C W rows w3 (q.ls M0) y N.o);rw [U.o]at d;clear D k b o;go_wp2_with fail;refine d.o.mono ?_;rintro e J ⟨S,m4,X,rfl,ha,s⟩;have a:=q.c1 s
 have j:=zA (bY S A m4 nb X c (colL rows) (colL rows) J (by omega) (a.rb M0).1 (T.o.on (a.below M4)));rw [decide_eq_true rfl]at j;have f:J.cell? ⟨M,0,none⟩=some (.slice K C P)/\J.cell? ⟨M,1,none⟩=some (.slice L m m):=⟨a.cell M2 0,a.cell M2 1⟩;clear d s;go_wp2_with fail;refine j.o.mono ?_;rintro e w5 ⟨rfl,q5,rfl⟩;obtain⟨hb,hd⟩:=f
 have u:=(a.drewN q5).below M4;go_wp2;go_ret2;exact⟨_,rfl,(u.alloc u.size _)⟩
end Go.Proofs.YtjbhbfaeielbiaaGreatDoor

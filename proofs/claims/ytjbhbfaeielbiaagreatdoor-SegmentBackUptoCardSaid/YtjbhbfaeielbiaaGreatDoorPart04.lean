import Derived.Test.YtjbhbfaeielbiaaGreatDoorPart01
set_option maxRecDepth 100000
set_option maxHeartbeats 8000000
set_option linter.unusedVariables false
set_option linter.unusedSimpArgs false
namespace Go.Proofs.YtjbhbfaeielbiaaGreatDoor
open Tryz
open Go.RowKit
theorem Xi (A:aA) (n c:Nat) (cs:aF) (w:O) (s:n*1<=140737488355328) (d:xA w w.heap.size 1 A n cs) (i:∀u∈cs,u.oneCell' =true):
 Calls prog 56 #[.slice A n c] w fun e w' =>∃A' c',e= .returned (.slice A' n c')/\zt w' (Frm w.heap.size) 5 1 (.slice A' n c') n cs/\Below w.heap.size w w' :=by
 have r:=eN underlying65;have q:n<=140737488355328:=by omega
 cases A with
 |none=>
  have l:n=0:=by
   rcases zi n with h|h
   ·exact h
   ·obtain⟨_,hA,_⟩:=d.2 h;cases hA
  subst l;have j:cs= []:=zS (by simpa using d.1);subst j;clear d i;go_enter func56,ntmps56;go_wp2;go_ret
  exact⟨none,0,rfl,ZJ _ _ _ _,zE _ _⟩
 |some ad=>
  have o:=zA (Zn (S:=Frm w.heap.size) w #[] 5 1 0 rfl (by decide) (zC _));have p:=zA (d.alloc (zC _) (.cells #[] 5));have m:=zA i;clear d i;go_enter func56,ntmps56
  go_wp2_with (at_builtin;refine xm (S:=Frm w.heap.size) yW (.tmp 5) (.tmp 6) rfl rfl (v:= .slice (some ⟨w.heap.size,0,none⟩) 0 0) rfl o.o rfl p.o m.o (by omega) (by omega) (by simp [Frm]) ?_;intro A' c' t a k _ b;simp only [zx,zZ]at a;have g:=zA a;have f:=zA (((zE w.heap.size w).alloc (zC _) (.cells #[] 5)).trans (b.below (by simp) (fun _ h=>h)));clear a k b)
  go_ret
  exact⟨A',c',rfl,g.o,f.o⟩
theorem Zs:Elt prog 57 2 1 8:=xt underlying57 (by decide) (by kernel_rfl)
theorem XW (A:aA) (n c:Nat) (cs:aF) (w:O) (s:n*8<=140737488355328) (d:xA w w.heap.size 1 A n cs) (i:∀u∈cs,u.oneCell' =true):
 Calls prog 96 #[.slice A n c] w fun e w' =>∃A' c',e= .returned (.slice A' n c')/\zt w' (Frm w.heap.size) 2 1 (.slice A' n c') n cs/\Below w.heap.size w w' :=by
 have r:=eN underlying57;have q:n<=140737488355328:=by omega
 cases A with
 |none=>
  have l:n=0:=by
   rcases zi n with h|h
   ·exact h
   ·obtain⟨_,hA,_⟩:=d.2 h;cases hA
  subst l;have j:cs= []:=zS (by simpa using d.1);subst j;clear d i;go_enter func96,ntmps96;go_wp2;go_ret
  exact⟨none,0,rfl,ZJ _ _ _ _,zE _ _⟩
 |some ad=>
  have o:=zA (Zn (S:=Frm w.heap.size) w #[] 2 1 0 rfl (by decide) (zC _));have p:=zA (d.alloc (zC _) (.cells #[] 2));have m:=zA i;clear d i;go_enter func96,ntmps96
  go_wp2_with (at_builtin;refine xm (S:=Frm w.heap.size) Zs (.tmp 5) (.tmp 6) rfl rfl (v:= .slice (some ⟨w.heap.size,0,none⟩) 0 0) rfl o.o rfl p.o m.o (by omega) (by omega) (by simp [Frm]) ?_;intro A' c' t a k _ b;simp only [zx,zZ]at a;have g:=zA a;have f:=zA (((zE w.heap.size w).alloc (zC _) (.cells #[] 2)).trans (b.below (by simp) (fun _ h=>h)));clear a k b)
  go_ret
  exact⟨A',c',rfl,g.o,f.o⟩
theorem Xr:Elt prog 55 3 1 8:=xt underlying55 (by decide) (by kernel_rfl)
theorem l4 (A:aA) (n c:Nat) (cs:aF) (w:O) (s:n*8<=140737488355328) (d:xA w w.heap.size 1 A n cs) (i:∀u∈cs,u.oneCell' =true):
 Calls prog 53 #[.slice A n c] w fun e w' =>∃A' c',e= .returned (.slice A' n c')/\zt w' (Frm w.heap.size) 3 1 (.slice A' n c') n cs/\Below w.heap.size w w' :=by
 have r:=eN underlying55;have q:n<=140737488355328:=by omega
 cases A with
 |none=>
  have l:n=0:=by
   rcases zi n with h|h
   ·exact h
   ·obtain⟨_,hA,_⟩:=d.2 h;cases hA
  subst l;have j:cs= []:=zS (by simpa using d.1);subst j;clear d i;go_enter func53,ntmps53;go_wp2;go_ret
  exact⟨none,0,rfl,ZJ _ _ _ _,zE _ _⟩
 |some ad=>
  have o:=zA (Zn (S:=Frm w.heap.size) w #[] 3 1 0 rfl (by decide) (zC _));have p:=zA (d.alloc (zC _) (.cells #[] 3));have m:=zA i;clear d i;go_enter func53,ntmps53
  go_wp2_with (at_builtin;refine xm (S:=Frm w.heap.size) Xr (.tmp 5) (.tmp 6) rfl rfl (v:= .slice (some ⟨w.heap.size,0,none⟩) 0 0) rfl o.o rfl p.o m.o (by omega) (by omega) (by simp [Frm]) ?_;intro A' c' t a k _ b;simp only [zx,zZ]at a;have g:=zA a;have f:=zA (((zE w.heap.size w).alloc (zC _) (.cells #[] 3)).trans (b.below (by simp) (fun _ h=>h)));clear a k b)
  go_ret
  exact⟨A',c',rfl,g.o,f.o⟩
theorem Ql:Elt prog 129 9 1 16:=xt underlying129 (by decide) (by kernel_rfl)
theorem FP (A:aA) (n c:Nat) (cs:aF) (w:O) (s:n*16<=140737488355328) (d:xA w w.heap.size 1 A n cs) (i:∀u∈cs,u.oneCell' =true):
 Calls prog 271 #[.slice A n c] w fun e w' =>∃A' c',e= .returned (.slice A' n c')/\zt w' (Frm w.heap.size) 9 1 (.slice A' n c') n cs/\Below w.heap.size w w' :=by
 have r:=eN underlying129;have q:n<=140737488355328:=by omega
 cases A with
 |none=>
  have l:n=0:=by
   rcases zi n with h|h
   ·exact h
   ·obtain⟨_,hA,_⟩:=d.2 h;cases hA
  subst l;have j:cs= []:=zS (by simpa using d.1);subst j;clear d i;go_enter func271,ntmps271;go_wp2;go_ret
  exact⟨none,0,rfl,ZJ _ _ _ _,zE _ _⟩
 |some ad=>
  have o:=zA (Zn (S:=Frm w.heap.size) w #[] 9 1 0 rfl (by decide) (zC _));have p:=zA (d.alloc (zC _) (.cells #[] 9));have m:=zA i;clear d i;go_enter func271,ntmps271
  go_wp2_with (at_builtin;refine xm (S:=Frm w.heap.size) Ql (.tmp 5) (.tmp 6) rfl rfl (v:= .slice (some ⟨w.heap.size,0,none⟩) 0 0) rfl o.o rfl p.o m.o (by omega) (by omega) (by simp [Frm]) ?_;intro A' c' t a k _ b;simp only [zx,zZ]at a;have g:=zA a;have f:=zA (((zE w.heap.size w).alloc (zC _) (.cells #[] 9)).trans (b.below (by simp) (fun _ h=>h)));clear a k b)
  go_ret
  exact⟨A',c',rfl,g.o,f.o⟩
theorem nV:Elt prog 32 59 3 48:=xt underlying32 (by decide) (by kernel_rfl)
theorem BD (A:aA) (n c:Nat) (cs:aF) (w:O) (s:n*48<=140737488355328) (d:xA w w.heap.size 3 A n cs) (i:∀u∈cs,u.oneCell' =true):
 Calls prog 64 #[.slice A n c] w fun e w' =>∃A' c',e= .returned (.slice A' n c')/\zt w' (Frm w.heap.size) 59 3 (.slice A' n c') n cs/\Below w.heap.size w w' :=by
 have r:=eN underlying32;have q:n<=140737488355328:=by omega
 cases A with
 |none=>
  have l:n=0:=by
   rcases zi n with h|h
   ·exact h
   ·obtain⟨_,hA,_⟩:=d.2 h;cases hA
  subst l;have j:cs= []:=zS (by simpa using d.1);subst j;clear d i;go_enter func64,ntmps64;go_wp2;go_ret
  exact⟨none,0,rfl,ZJ _ _ _ _,zE _ _⟩
 |some ad=>
  have o:=zA (Zn (S:=Frm w.heap.size) w #[] 59 3 0 rfl (by decide) (zC _));have p:=zA (d.alloc (zC _) (.cells #[] 59));have m:=zA i;clear d i;go_enter func64,ntmps64
  go_wp2_with (at_builtin;refine xm (S:=Frm w.heap.size) nV (.tmp 5) (.tmp 6) rfl rfl (v:= .slice (some ⟨w.heap.size,0,none⟩) 0 0) rfl o.o rfl p.o m.o (by omega) (by omega) (by simp [Frm]) ?_;intro A' c' t a k _ b;simp only [zx,zZ]at a;have g:=zA a;have f:=zA (((zE w.heap.size w).alloc (zC _) (.cells #[] 59)).trans (b.below (by simp) (fun _ h=>h)));clear a k b)
  go_ret
  exact⟨A',c',rfl,g.o,f.o⟩
theorem AQ:Elt prog 22 61 7 72:=xt underlying22 (by decide) (by kernel_rfl)
theorem sZ (A:aA) (n c:Nat) (cs:aF) (w:O) (s:n*72<=140737488355328) (d:xA w w.heap.size 7 A n cs) (i:∀u∈cs,u.oneCell' =true):
 Calls prog 142 #[.slice A n c] w fun e w' =>∃A' c',e= .returned (.slice A' n c')/\zt w' (Frm w.heap.size) 61 7 (.slice A' n c') n cs/\Below w.heap.size w w' :=by
 have r:=eN underlying22;have q:n<=140737488355328:=by omega
 cases A with
 |none=>
  have l:n=0:=by
   rcases zi n with h|h
   ·exact h
   ·obtain⟨_,hA,_⟩:=d.2 h;cases hA
  subst l;have j:cs= []:=zS (by simpa using d.1);subst j;clear d i;go_enter func142,ntmps142;go_wp2;go_ret
  exact⟨none,0,rfl,ZJ _ _ _ _,zE _ _⟩
 |some ad=>
  have o:=zA (Zn (S:=Frm w.heap.size) w #[] 61 7 0 rfl (by decide) (zC _));have p:=zA (d.alloc (zC _) (.cells #[] 61));have m:=zA i;clear d i;go_enter func142,ntmps142
  go_wp2_with (at_builtin;refine xm (S:=Frm w.heap.size) AQ (.tmp 5) (.tmp 6) rfl rfl (v:= .slice (some ⟨w.heap.size,0,none⟩) 0 0) rfl o.o rfl p.o m.o (by omega) (by omega) (by simp [Frm]) ?_;intro A' c' t a k _ b;simp only [zx,zZ]at a;have g:=zA a;have f:=zA (((zE w.heap.size w).alloc (zC _) (.cells #[] 61)).trans (b.below (by simp) (fun _ h=>h)));clear a k b)
  go_ret
  exact⟨A',c',rfl,g.o,f.o⟩
theorem Ws:Elt prog 148 232 2 32:=xt underlying148 (by decide) (by kernel_rfl)
theorem uZ (A:aA) (n c:Nat) (cs:aF) (w:O) (s:n*32<=140737488355328) (d:xA w w.heap.size 2 A n cs) (i:∀u∈cs,u.oneCell' =true):
 Calls prog 224 #[.slice A n c] w fun e w' =>∃A' c',e= .returned (.slice A' n c')/\zt w' (Frm w.heap.size) 232 2 (.slice A' n c') n cs/\Below w.heap.size w w' :=by
 have r:=eN underlying148;have q:n<=140737488355328:=by omega
 cases A with
 |none=>
  have l:n=0:=by
   rcases zi n with h|h
   ·exact h
   ·obtain⟨_,hA,_⟩:=d.2 h;cases hA
  subst l;have j:cs= []:=zS (by simpa using d.1);subst j;clear d i;go_enter func224,ntmps224;go_wp2;go_ret
  exact⟨none,0,rfl,ZJ _ _ _ _,zE _ _⟩
 |some ad=>
  have o:=zA (Zn (S:=Frm w.heap.size) w #[] 232 2 0 rfl (by decide) (zC _));have p:=zA (d.alloc (zC _) (.cells #[] 232));have m:=zA i;clear d i;go_enter func224,ntmps224
  go_wp2_with (at_builtin;refine xm (S:=Frm w.heap.size) Ws (.tmp 5) (.tmp 6) rfl rfl (v:= .slice (some ⟨w.heap.size,0,none⟩) 0 0) rfl o.o rfl p.o m.o (by omega) (by omega) (by simp [Frm]) ?_;intro A' c' t a k _ b;simp only [zx,zZ]at a;have g:=zA a;have f:=zA (((zE w.heap.size w).alloc (zC _) (.cells #[] 232)).trans (b.below (by simp) (fun _ h=>h)));clear a k b)
  go_ret
  exact⟨A',c',rfl,g.o,f.o⟩
theorem Zt (A:aA) (n c:Nat) (w:O) (b:n<=c) (a:c<=9223372036854775807):
 Calls prog 55 #[.slice A n c] w fun e w' =>e= .returned (.slice A n n)/\w=w' :=by
 go_enter func55,ntmps55;go_wp2;go_ret
 exact⟨rfl,rfl⟩
theorem UO (A:aA) (n c:Nat) (w:O) (b:n<=c) (a:c<=9223372036854775807):
 Calls prog 54 #[.slice A n c] w fun e w' =>e= .returned (.slice A n n)/\w=w' :=by
 go_enter func54,ntmps54;go_wp2;go_ret
 exact⟨rfl,rfl⟩
theorem eK (A:aA) (n c:Nat) (w:O) (b:n<=c) (a:c<=9223372036854775807):
 Calls prog 109 #[.slice A n c] w fun e w' =>e= .returned (.slice A n n)/\w=w' :=by
 go_enter func109,ntmps109;go_wp2;go_ret
 exact⟨rfl,rfl⟩
theorem KA (A:aA) (n c:Nat) (w:O) (b:n<=c) (a:c<=9223372036854775807):
 Calls prog 67 #[.slice A n c] w fun e w' =>e= .returned (.slice A n n)/\w=w' :=by
 go_enter func67,ntmps67;go_wp2;go_ret
 exact⟨rfl,rfl⟩
theorem KD (A:aA) (n c:Nat) (w:O) (b:n<=c) (a:c<=9223372036854775807):
 Calls prog 68 #[.slice A n c] w fun e w' =>e= .returned (.slice A n n)/\w=w' :=by
 go_enter func68,ntmps68;go_wp2;go_ret
 exact⟨rfl,rfl⟩
theorem KC (A:aA) (n c:Nat) (w:O) (b:n<=c) (a:c<=9223372036854775807):
 Calls prog 69 #[.slice A n c] w fun e w' =>e= .returned (.slice A n n)/\w=w' :=by
 go_enter func69,ntmps69;go_wp2;go_ret
 exact⟨rfl,rfl⟩
theorem KB (A:aA) (n c:Nat) (w:O) (b:n<=c) (a:c<=9223372036854775807):
 Calls prog 120 #[.slice A n c] w fun e w' =>e= .returned (.slice A n n)/\w=w' :=by
 go_enter func120,ntmps120;go_wp2;go_ret
 exact⟨rfl,rfl⟩
theorem BG (A:aA) (n c:Nat) (w:O) (b:n<=c) (a:c<=9223372036854775807):
 Calls prog 121 #[.slice A n c] w fun e w' =>e= .returned (.slice A n n)/\w=w' :=by
 go_enter func121,ntmps121;go_wp2;go_ret
 exact⟨rfl,rfl⟩
theorem FQ (A:aA) (n c:Nat) (w:O) (b:n<=c) (a:c<=9223372036854775807):
 Calls prog 122 #[.slice A n c] w fun e w' =>e= .returned (.slice A n n)/\w=w' :=by
 go_enter func122,ntmps122;go_wp2;go_ret
 exact⟨rfl,rfl⟩
theorem FR (A:aA) (n c:Nat) (w:O) (b:n<=c) (a:c<=9223372036854775807):
 Calls prog 123 #[.slice A n c] w fun e w' =>e= .returned (.slice A n n)/\w=w' :=by
 go_enter func123,ntmps123;go_wp2;go_ret
 exact⟨rfl,rfl⟩
theorem BH (A:aA) (n c:Nat) (w:O) (b:n<=c) (a:c<=9223372036854775807):
 Calls prog 124 #[.slice A n c] w fun e w' =>e= .returned (.slice A n n)/\w=w' :=by
 go_enter func124,ntmps124;go_wp2;go_ret
 exact⟨rfl,rfl⟩
theorem BI (A:aA) (n c:Nat) (w:O) (b:n<=c) (a:c<=9223372036854775807):
 Calls prog 130 #[.slice A n c] w fun e w' =>e= .returned (.slice A n n)/\w=w' :=by
 go_enter func130,ntmps130;go_wp2;go_ret
 exact⟨rfl,rfl⟩
theorem u5 (A:aA) (n c:Nat) (w:O) (b:n<=c) (a:c<=9223372036854775807):
 Calls prog 141 #[.slice A n c] w fun e w' =>e= .returned (.slice A n n)/\w=w' :=by
 go_enter func141,ntmps141;go_wp2;go_ret
 exact⟨rfl,rfl⟩
end Go.Proofs.YtjbhbfaeielbiaaGreatDoor

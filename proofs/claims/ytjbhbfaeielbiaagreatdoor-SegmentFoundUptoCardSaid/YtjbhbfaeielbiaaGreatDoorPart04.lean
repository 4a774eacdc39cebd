import Derived.Test.YtjbhbfaeielbiaaGreatDoorPart01
set_option maxRecDepth 100000
set_option maxHeartbeats 8000000
set_option linter.unusedVariables false
set_option linter.unusedSimpArgs false
namespace Go.Proofs.YtjbhbfaeielbiaaGreatDoor
open Tryz
open Go.RowKit
theorem Xi (A:aA) (n c:Nat) (cs:aF) (w:O) (t:n*1<=140737488355328) (d:xA w w.heap.size 1 A n cs) (j:∀u∈cs,u.oneCell' =true):
 Calls prog 56 #[.slice A n c] w fun e w' =>∃A' f,e= .returned (.slice A' n f)/\zt w' (Frm w.heap.size) 5 1 (.slice A' n f) n cs/\Below w.heap.size w w' :=by
 have s:=eN underlying65;have r:n<=140737488355328:=by omega
 cases A with
 |none=>
  have m:n=0:=by
   rcases zi n with h|h
   ·exact h
   ·obtain⟨_,hA,_⟩:=d.2 h;cases hA
  subst m;have k:cs= []:=zS (by simpa using d.1);subst k;clear d j;go_enter func56,ntmps56;go_wp2;go_ret
  exact⟨none,0,rfl,ZJ _ _ _ _,zE _ _⟩
 |some ad=>
  have p:=zA (Zn (S:=Frm w.heap.size) w #[] 5 1 0 rfl (by decide) (zC _));have q:=zA (d.alloc (zC _) (.cells #[] 5));have o:=zA j;clear d j;go_enter func56,ntmps56
  go_wp2_with (at_builtin;refine xm (S:=Frm w.heap.size) yW (.tmp 5) (.tmp 6) rfl rfl (v:= .slice (some ⟨w.heap.size,0,none⟩) 0 0) rfl p.o rfl q.o o.o (by omega) (by omega) (by simp [Frm]) ?_;intro A' f x a l _ b;simp only [zx,zZ]at a;have i:=zA a;have g:=zA (((zE w.heap.size w).alloc (zC _) (.cells #[] 5)).trans (b.below (by simp) (fun _ h=>h)));clear a l b)
  go_ret
  exact⟨A',f,rfl,i.o,g.o⟩
theorem Zs:Elt prog 57 2 1 8:=xt underlying57 (by decide) (by kernel_rfl)
theorem XW (A:aA) (n c:Nat) (cs:aF) (w:O) (t:n*8<=140737488355328) (d:xA w w.heap.size 1 A n cs) (j:∀u∈cs,u.oneCell' =true):
 Calls prog 96 #[.slice A n c] w fun e w' =>∃A' f,e= .returned (.slice A' n f)/\zt w' (Frm w.heap.size) 2 1 (.slice A' n f) n cs/\Below w.heap.size w w' :=by
 have s:=eN underlying57;have r:n<=140737488355328:=by omega
 cases A with
 |none=>
  have m:n=0:=by
   rcases zi n with h|h
   ·exact h
   ·obtain⟨_,hA,_⟩:=d.2 h;cases hA
  subst m;have k:cs= []:=zS (by simpa using d.1);subst k;clear d j;go_enter func96,ntmps96;go_wp2;go_ret
  exact⟨none,0,rfl,ZJ _ _ _ _,zE _ _⟩
 |some ad=>
  have p:=zA (Zn (S:=Frm w.heap.size) w #[] 2 1 0 rfl (by decide) (zC _));have q:=zA (d.alloc (zC _) (.cells #[] 2));have o:=zA j;clear d j;go_enter func96,ntmps96
  go_wp2_with (at_builtin;refine xm (S:=Frm w.heap.size) Zs (.tmp 5) (.tmp 6) rfl rfl (v:= .slice (some ⟨w.heap.size,0,none⟩) 0 0) rfl p.o rfl q.o o.o (by omega) (by omega) (by simp [Frm]) ?_;intro A' f x a l _ b;simp only [zx,zZ]at a;have i:=zA a;have g:=zA (((zE w.heap.size w).alloc (zC _) (.cells #[] 2)).trans (b.below (by simp) (fun _ h=>h)));clear a l b)
  go_ret
  exact⟨A',f,rfl,i.o,g.o⟩
theorem Xr:Elt prog 55 3 1 8:=xt underlying55 (by decide) (by kernel_rfl)
theorem l4 (A:aA) (n c:Nat) (cs:aF) (w:O) (t:n*8<=140737488355328) (d:xA w w.heap.size 1 A n cs) (j:∀u∈cs,u.oneCell' =true):
 Calls prog 53 #[.slice A n c] w fun e w' =>∃A' f,e= .returned (.slice A' n f)/\zt w' (Frm w.heap.size) 3 1 (.slice A' n f) n cs/\Below w.heap.size w w' :=by
 have s:=eN underlying55;have r:n<=140737488355328:=by omega
 cases A with
 |none=>
  have m:n=0:=by
   rcases zi n with h|h
   ·exact h
   ·obtain⟨_,hA,_⟩:=d.2 h;cases hA
  subst m;have k:cs= []:=zS (by simpa using d.1);subst k;clear d j;go_enter func53,ntmps53;go_wp2;go_ret
  exact⟨none,0,rfl,ZJ _ _ _ _,zE _ _⟩
 |some ad=>
  have p:=zA (Zn (S:=Frm w.heap.size) w #[] 3 1 0 rfl (by decide) (zC _));have q:=zA (d.alloc (zC _) (.cells #[] 3));have o:=zA j;clear d j;go_enter func53,ntmps53
  go_wp2_with (at_builtin;refine xm (S:=Frm w.heap.size) Xr (.tmp 5) (.tmp 6) rfl rfl (v:= .slice (some ⟨w.heap.size,0,none⟩) 0 0) rfl p.o rfl q.o o.o (by omega) (by omega) (by simp [Frm]) ?_;intro A' f x a l _ b;simp only [zx,zZ]at a;have i:=zA a;have g:=zA (((zE w.heap.size w).alloc (zC _) (.cells #[] 3)).trans (b.below (by simp) (fun _ h=>h)));clear a l b)
  go_ret
  exact⟨A',f,rfl,i.o,g.o⟩
theorem Ql:Elt prog 129 9 1 16:=xt underlying129 (by decide) (by kernel_rfl)
theorem FP (A:aA) (n c:Nat) (cs:aF) (w:O) (t:n*16<=140737488355328) (d:xA w w.heap.size 1 A n cs) (j:∀u∈cs,u.oneCell' =true):
 Calls prog 271 #[.slice A n c] w fun e w' =>∃A' f,e= .returned (.slice A' n f)/\zt w' (Frm w.heap.size) 9 1 (.slice A' n f) n cs/\Below w.heap.size w w' :=by
 have s:=eN underlying129;have r:n<=140737488355328:=by omega
 cases A with
 |none=>
  have m:n=0:=by
   rcases zi n with h|h
   ·exact h
   ·obtain⟨_,hA,_⟩:=d.2 h;cases hA
  subst m;have k:cs= []:=zS (by simpa using d.1);subst k;clear d j;go_enter func271,ntmps271;go_wp2;go_ret
  exact⟨none,0,rfl,ZJ _ _ _ _,zE _ _⟩
 |some ad=>
  have p:=zA (Zn (S:=Frm w.heap.size) w #[] 9 1 0 rfl (by decide) (zC _));have q:=zA (d.alloc (zC _) (.cells #[] 9));have o:=zA j;clear d j;go_enter func271,ntmps271
  go_wp2_with (at_builtin;refine xm (S:=Frm w.heap.size) Ql (.tmp 5) (.tmp 6) rfl rfl (v:= .slice (some ⟨w.heap.size,0,none⟩) 0 0) rfl p.o rfl q.o o.o (by omega) (by omega) (by simp [Frm]) ?_;intro A' f x a l _ b;simp only [zx,zZ]at a;have i:=zA a;have g:=zA (((zE w.heap.size w).alloc (zC _) (.cells #[] 9)).trans (b.below (by simp) (fun _ h=>h)));clear a l b)
  go_ret
  exact⟨A',f,rfl,i.o,g.o⟩
theorem nV:Elt prog 32 59 3 48:=xt underlying32 (by decide) (by kernel_rfl)
theorem BD (A:aA) (n c:Nat) (cs:aF) (w:O) (t:n*48<=140737488355328) (d:xA w w.heap.size 3 A n cs) (j:∀u∈cs,u.oneCell' =true):
 Calls prog 64 #[.slice A n c] w fun e w' =>∃A' f,e= .returned (.slice A' n f)/\zt w' (Frm w.heap.size) 59 3 (.slice A' n f) n cs/\Below w.heap.size w w' :=by
 have s:=eN underlying32;have r:n<=140737488355328:=by omega
 cases A with
 |none=>
  have m:n=0:=by
   rcases zi n with h|h
   ·exact h
   ·obtain⟨_,hA,_⟩:=d.2 h;cases hA
  subst m;have k:cs= []:=zS (by simpa using d.1);subst k;clear d j;go_enter func64,ntmps64;go_wp2;go_ret
  exact⟨none,0,rfl,ZJ _ _ _ _,zE _ _⟩
 |some ad=>
  have p:=zA (Zn (S:=Frm w.heap.size) w #[] 59 3 0 rfl (by decide) (zC _));have q:=zA (d.alloc (zC _) (.cells #[] 59));have o:=zA j;clear d j;go_enter func64,ntmps64
  go_wp2_with (at_builtin;refine xm (S:=Frm w.heap.size) nV (.tmp 5) (.tmp 6) rfl rfl (v:= .slice (some ⟨w.heap.size,0,none⟩) 0 0) rfl p.o rfl q.o o.o (by omega) (by omega) (by simp [Frm]) ?_;intro A' f x a l _ b;simp only [zx,zZ]at a;have i:=zA a;have g:=zA (((zE w.heap.size w).alloc (zC _) (.cells #[] 59)).trans (b.below (by simp) (fun _ h=>h)));clear a l b)
  go_ret
  exact⟨A',f,rfl,i.o,g.o⟩
theorem AQ:Elt prog 22 61 7 72:=xt underlying22 (by decide) (by kernel_rfl)
theorem sZ (A:aA) (n c:Nat) (cs:aF) (w:O) (t:n*72<=140737488355328) (d:xA w w.heap.size 7 A n cs) (j:∀u∈cs,u.oneCell' =true):
 Calls prog 142 #[.slice A n c] w fun e w' =>∃A' f,e= .returned (.slice A' n f)/\zt w' (Frm w.heap.size) 61 7 (.slice A' n f) n cs/\Below w.heap.size w w' :=by
 have s:=eN underlying22;have r:n<=140737488355328:=by omega
 cases A with
 |none=>
  have m:n=0:=by
   rcases zi n with h|h
   ·exact h
   ·obtain⟨_,hA,_⟩:=d.2 h;cases hA
  subst m;have k:cs= []:=zS (by simpa using d.1);subst k;clear d j;go_enter func142,ntmps142;go_wp2;go_ret
  exact⟨none,0,rfl,ZJ _ _ _ _,zE _ _⟩
 |some ad=>
  have p:=zA (Zn (S:=Frm w.heap.size) w #[] 61 7 0 rfl (by decide) (zC _));have q:=zA (d.alloc (zC _) (.cells #[] 61));have o:=zA j;clear d j;go_enter func142,ntmps142
  go_wp2_with (at_builtin;refine xm (S:=Frm w.heap.size) AQ (.tmp 5) (.tmp 6) rfl rfl (v:= .slice (some ⟨w.heap.size,0,none⟩) 0 0) rfl p.o rfl q.o o.o (by omega) (by omega) (by simp [Frm]) ?_;intro A' f x a l _ b;simp only [zx,zZ]at a;have i:=zA a;have g:=zA (((zE w.heap.size w).alloc (zC _) (.cells #[] 61)).trans (b.below (by simp) (fun _ h=>h)));clear a l b)
  go_ret
  exact⟨A',f,rfl,i.o,g.o⟩
theorem Ws:Elt prog 148 232 2 32:=xt underlying148 (by decide) (by kernel_rfl)
theorem uZ (A:aA) (n c:Nat) (cs:aF) (w:O) (t:n*32<=140737488355328) (d:xA w w.heap.size 2 A n cs) (j:∀u∈cs,u.oneCell' =true):
 Calls prog 224 #[.slice A n c] w fun e w' =>∃A' f,e= .returned (.slice A' n f)/\zt w' (Frm w.heap.size) 232 2 (.slice A' n f) n cs/\Below w.heap.size w w' :=by
 have s:=eN underlying148;have r:n<=140737488355328:=by omega
 cases A with
 |none=>
  have m:n=0:=by
   rcases zi n with h|h
   ·exact h
   ·obtain⟨_,hA,_⟩:=d.2 h;cases hA
  subst m;have k:cs= []:=zS (by simpa using d.1);subst k;clear d j;go_enter func224,ntmps224;go_wp2;go_ret
  exact⟨none,0,rfl,ZJ _ _ _ _,zE _ _⟩
 |some ad=>
  have p:=zA (Zn (S:=Frm w.heap.size) w #[] 232 2 0 rfl (by decide) (zC _));have q:=zA (d.alloc (zC _) (.cells #[] 232));have o:=zA j;clear d j;go_enter func224,ntmps224
  go_wp2_with (at_builtin;refine xm (S:=Frm w.heap.size) Ws (.tmp 5) (.tmp 6) rfl rfl (v:= .slice (some ⟨w.heap.size,0,none⟩) 0 0) rfl p.o rfl q.o o.o (by omega) (by omega) (by simp [Frm]) ?_;intro A' f x a l _ b;simp only [zx,zZ]at a;have i:=zA a;have g:=zA (((zE w.heap.size w).alloc (zC _) (.cells #[] 232)).trans (b.below (by simp) (fun _ h=>h)));clear a l b)
  go_ret
  exact⟨A',f,rfl,i.o,g.o⟩
theorem Zt (A:aA) (n c:Nat) (w:O) (b:n<=c) (a:c<=9223372036854775807):
 Calls prog 55 #[.slice A n c] w fun e w' =>e= .returned (.slice A n n)/\w=w' :=by
 go_enter func55,ntmps55;go_wp2;go_ret
 exact⟨rfl,rfl⟩
theorem UO (A:aA) (n c:Nat) (w:O) (b:n<=c) (a:c<=9223372036854775807):
 Calls prog 54 #[.slice A n c] w fun e w' =>e= .returned (.slice A n n)/\w=w' :=by
 go_enter func54,ntmps54;go_wp2;go_ret
 exact⟨rfl,rfl⟩
theorem eK (A:aA) (n c:Nat) (w:O) (b:n<=c) (a:c<=9223372036854775807):
 Calls prog 109 #[.slice A n c] w fun e w' =>e= .returned (.slice A n n)/\w=w' :=by
 go_enter func109,ntmps109;go_wp2;go_ret
 exact⟨rfl,rfl⟩
theorem KA (A:aA) (n c:Nat) (w:O) (b:n<=c) (a:c<=9223372036854775807):
 Calls prog 67 #[.slice A n c] w fun e w' =>e= .returned (.slice A n n)/\w=w' :=by
 go_enter func67,ntmps67;go_wp2;go_ret
 exact⟨rfl,rfl⟩
theorem KD (A:aA) (n c:Nat) (w:O) (b:n<=c) (a:c<=9223372036854775807):
 Calls prog 68 #[.slice A n c] w fun e w' =>e= .returned (.slice A n n)/\w=w' :=by
 go_enter func68,ntmps68;go_wp2;go_ret
 exact⟨rfl,rfl⟩
theorem KC (A:aA) (n c:Nat) (w:O) (b:n<=c) (a:c<=9223372036854775807):
 Calls prog 69 #[.slice A n c] w fun e w' =>e= .returned (.slice A n n)/\w=w' :=by
 go_enter func69,ntmps69;go_wp2;go_ret
 exact⟨rfl,rfl⟩
theorem KB (A:aA) (n c:Nat) (w:O) (b:n<=c) (a:c<=9223372036854775807):
 Calls prog 120 #[.slice A n c] w fun e w' =>e= .returned (.slice A n n)/\w=w' :=by
 go_enter func120,ntmps120;go_wp2;go_ret
 exact⟨rfl,rfl⟩
theorem BG (A:aA) (n c:Nat) (w:O) (b:n<=c) (a:c<=9223372036854775807):
 Calls prog 121 #[.slice A n c] w fun e w' =>e= .returned (.slice A n n)/\w=w' :=by
 go_enter func121,ntmps121;go_wp2;go_ret
 exact⟨rfl,rfl⟩
theorem FQ (A:aA) (n c:Nat) (w:O) (b:n<=c) (a:c<=9223372036854775807):
 Calls prog 122 #[.slice A n c] w fun e w' =>e= .returned (.slice A n n)/\w=w' :=by
 go_enter func122,ntmps122;go_wp2;go_ret
 exact⟨rfl,rfl⟩
theorem FR (A:aA) (n c:Nat) (w:O) (b:n<=c) (a:c<=9223372036854775807):
 Calls prog 123 #[.slice A n c] w fun e w' =>e= .returned (.slice A n n)/\w=w' :=by
 go_enter func123,ntmps123;go_wp2;go_ret
 exact⟨rfl,rfl⟩
theorem BH (A:aA) (n c:Nat) (w:O) (b:n<=c) (a:c<=9223372036854775807):
 Calls prog 124 #[.slice A n c] w fun e w' =>e= .returned (.slice A n n)/\w=w' :=by
 go_enter func124,ntmps124;go_wp2;go_ret
 exact⟨rfl,rfl⟩
theorem BI (A:aA) (n c:Nat) (w:O) (b:n<=c) (a:c<=9223372036854775807):
 Calls prog 130 #[.slice A n c] w fun e w' =>e= .returned (.slice A n n)/\w=w' :=by
 go_enter func130,ntmps130;go_wp2;go_ret
 exact⟨rfl,rfl⟩
theorem u5 (A:aA) (n c:Nat) (w:O) (b:n<=c) (a:c<=9223372036854775807):
 Calls prog 141 #[.slice A n c] w fun e w' =>e= .returned (.slice A n n)/\w=w' :=by
 go_enter func141,ntmps141;go_wp2;go_ret
 exact⟨rfl,rfl⟩
end Go.Proofs.YtjbhbfaeielbiaaGreatDoor

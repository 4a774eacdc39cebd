/-
  The abstract machine: runs in pieces; memory that is no longer needed is let go; words for what stands between two pieces.
-/
import Derived.Test.YtllipkakgjmheaaGreatDoorEvX
import Derived.Test.YtllipkakgjmheaaGreatDoorEvWk
set_option linter.unusedVariables false
set_option linter.unusedSimpArgs false
set_option linter.constructorNameAsVariable false
namespace Go.Proofs.YtllipkakgjmheaaGreatDoor.Ev
open Go Go.RowKit

/-! ### Quick tables -/
def evens {α : Type} : List α → List α
  | [] => []
  | [x] => [x]
  | x :: _ :: l => x :: evens l
def odds {α : Type} : List α → List α
  | [] => []
  | _ :: l => evens l
def ofL {α : Type} : Nat → List α → Tr α
  | 0, _ => .l
  | _ + 1, [] => .l
  | f + 1, x :: l => .n (some x) (ofL f (evens l)) (ofL f (odds l))
theorem evens_get {α : Type} : ∀ (l : List α) (i : Nat), (evens l)[i]? = l[2 * i]?
  | [], i => by simp [evens]
  | [x], 0 => rfl
  | [x], i + 1 => by simp [evens, show 2 * (i + 1) = 2 * i + 1 + 1 by omega]
  | x :: y :: l, 0 => rfl
  | x :: y :: l, i + 1 => by
    rw [show 2 * (i + 1) = 2 * i + 1 + 1 by omega]
    simp only [evens, List.getElem?_cons_succ]
    exact evens_get l i
theorem odds_get {α : Type} : ∀ (l : List α) (i : Nat), (odds l)[i]? = l[2 * i + 1]?
  | [], i => by simp [odds]
  | _ :: l, i => by simp only [odds, List.getElem?_cons_succ]; exact evens_get l i
theorem evens_len {α : Type} : ∀ (l : List α), 2 * (evens l).length ≤ l.length + 1
  | [] => by simp [evens]
  | [x] => by simp [evens]
  | x :: y :: l => by simp only [evens, List.length_cons]; have := evens_len l; omega
theorem odds_len {α : Type} : ∀ (l : List α), 2 * (odds l).length ≤ l.length
  | [] => by simp [odds]
  | _ :: l => by simp only [odds, List.length_cons]; exact evens_len l
theorem ofL_get {α : Type} : ∀ (f : Nat) (l : List α) (i : Nat), l.length < 2 ^ f → (ofL f l).get i = l[i]?
  | 0, l, i, h => by
    have : l = [] := List.eq_nil_of_length_eq_zero (by simpa using h)
    subst this; rw [ofL, Tr.get_l]; simp
  | f + 1, [], i, _ => by rw [ofL, Tr.get_l]; simp
  | f + 1, x :: l, i, h => by
    have hp : 2 ^ (f + 1) = 2 * 2 ^ f := by rw [Nat.pow_succ]; omega
    simp only [List.length_cons] at h
    rw [ofL, Tr.get_n]
    by_cases h0 : i = 0
    · subst h0; simp
    · rw [if_neg h0]
      obtain ⟨j, rfl⟩ : ∃ j, i = j + 1 := ⟨i - 1, by omega⟩
      rw [List.getElem?_cons_succ]
      have e1 := evens_len l
      have e2 := odds_len l
      by_cases h1 : (j + 1) % 2 = 1
      · rw [if_pos h1, ofL_get f _ _ (by omega), evens_get]; congr 1; omega
      · rw [if_neg h1, ofL_get f _ _ (by omega), odds_get]; congr 1; omega
def infoOf (P : Program) (types : Tr TypeInfo) (t : TypeId) : Option TypeInfo :=
  match types.get t with
  | some i => some i
  | none => P.info? t
def lkOf (P : Program) (types : Tr TypeInfo) (fns : Tr Func) : Lk where
  info? := infoOf P types
  underlying t := match infoOf P types t with
  | some { desc := .named _ u, .. } => (infoOf P types u).map (·.desc)
  | some i => some i.desc
  | none => none
  fn := fns.get
theorem lk_eq {P : Program} (h1 : P.types.toList.length < 2 ^ 12) (h2 : P.funcs.toList.length < 2 ^ 12) : lkOf P (ofL 12 P.types.toList) (ofL 12 P.funcs.toList) = Lk.of P := by
  have e1 : infoOf P (ofL 12 P.types.toList) = P.info? := by
    funext t
    unfold infoOf
    rw [ofL_get _ _ _ h1]
    cases ht : P.types.toList[t]? with
    | none => rfl
    | some i =>
      have hlt : t < P.types.size := by
        have := (List.getElem?_eq_some_iff.1 ht).1; simpa using this
      show some i = Tables.info? P.toTables t
      unfold Tables.info?
      rw [if_pos hlt, ← ht]; simp
  have e2 : (ofL 12 P.funcs.toList).get = fun f => P.funcs[f]? := by
    funext t; rw [ofL_get _ _ _ h2]; simp
  unfold lkOf Lk.of
  rw [e1, e2]
  rfl

/-! ### A state written out: what is handed on is constructors alone -/
section
variable {α : Type}
def nfN (n : Nat) (k : Nat → α) : α := match n with
  | 0 => k 0
  | m + 1 => k (m + 1)
def nfNs : List Nat → (List Nat → α) → α
  | [], k => k []
  | n :: l, k => nfN n fun n => nfNs l fun l => k (n :: l)
def nfI (i : Int) (k : Int → α) : α := match i with
  | .ofNat n => nfN n fun n => k (.ofNat n)
  | .negSucc n => nfN n fun n => k (.negSucc n)
def nfB (b : Bool) (k : Bool → α) : α := match b with
  | true => k true
  | false => k false
def nfK (j : IntKind) (k : IntKind → α) : α := match j with
  | .i8 => k .i8 | .i16 => k .i16 | .i32 => k .i32 | .i64 => k .i64 | .u8 => k .u8 | .u16 => k .u16 | .u32 => k .u32 | .u64 => k .u64
def nfC (c : Cap) (k : Cap → α) : α := match c with
  | .is n => nfN n fun n => k (.is n)
  | .room n => nfN n fun n => k (.room n)
def nfV (v : Value) (k : Value → α) : α := match v with
  | .pointer none => k (.pointer none)
  | .slice none a b => nfN a fun a => nfN b fun b => k (.slice none a b)
  | .map none => k (.map none)
  | .nilFunc => k .nilFunc
  | .nilIface => k .nilIface
  | v => k v
def nfO {β : Type} (f : β → (β → α) → α) (o : Option β) (k : Option β → α) : α := match o with
  | none => k none
  | some x => f x fun x => k (some x)
mutual
def AV.nf : AV → (AV → α) → α
  | .any, k => k .any
  | .lit v, k => nfV v fun v => k (.lit v)
  | .bool b, k => nfB b fun b => k (.bool b)
  | .int j n, k => nfK j fun j => nfI n fun n => k (.int j n)
  | .str s, k => nfNs s fun s => k (.str s)
  | .ptr a b, k => nfN a fun a => nfN b fun b => k (.ptr a b)
  | .slice a b c d, k => nfN a fun a => nfN b fun b => nfN c fun c => nfC d fun d => k (.slice a b c d)
  | .empty c, k => nfO nfN c fun c => k (.empty c)
  | .map a, k => nfN a fun a => k (.map a)
  | .func f x y, k => nfN f fun f => AV.nfs x fun x => AV.nfs y fun y => k (.func f x y)
  | .yield a, k => nfN a fun a => k (.yield a)
  | .iface t v, k => nfN t fun t => AV.nf v fun v => k (.iface t v)
  | .agg l, k => AV.nfs l fun l => k (.agg l)
  | .tuple l, k => AV.nfs l fun l => k (.tuple l)
def AV.nfs : List AV → (List AV → α) → α
  | [], k => k []
  | a :: l, k => AV.nf a fun a => AV.nfs l fun l => k (a :: l)
end
def nfL {β : Type} (f : β → (β → α) → α) : List β → (List β → α) → α
  | [], k => k []
  | a :: l, k => f a fun a => nfL f l fun l => k (a :: l)
def nfT {β : Type} (f : β → (β → α) → α) : Tr β → (Tr β → α) → α
  | .l, k => k .l
  | .n v a b, k => nfO f v fun v => nfT f a fun a => nfT f b fun b => k (.n v a b)
/-- the head alone: what stands in a code is the program's text -/
def nfCode (c : Code) (k : Code → α) : α := match c with
  | .skip => k .skip
  | .seq a b => k (.seq a b)
  | .cond a b c => k (.cond a b c)
  | .block a b => k (.block a b)
  | .loop a => k (.loop a)
  | .scope a => k (.scope a)
  | .exit a => k (.exit a)
  | .goto a => k (.goto a)
  | .label a => k (.label a)
  | .ret => k .ret
  | .region a b c => k (.region a b c)
  | .rangeFunc a b c d => k (.rangeFunc a b c d)
  | .refuse a => k (.refuse a)
def nfOps (a : Array Oper) (k : Array Oper → α) : α := match a with
  | ⟨l⟩ => k ⟨l⟩
def nfOpl (a : List Oper) (k : List Oper → α) : α := match a with
  | [] => k []
  | o :: l => k (o :: l)
def AItem.nf : AItem → (AItem → α) → α
  | .code c, k => nfCode c fun c => k (.code c)
  | .inBlock n, k => nfN n fun n => k (.inBlock n)
  | .inLoop c, k => nfCode c fun c => k (.inLoop c)
  | .inScope c, k => nfCode c fun c => k (.inScope c)
  | .reg o i l, k => nfOps o fun o => nfN i fun i => nfOpl l fun l => k (.reg o i l)
  | .drw o a b c r, k => nfOps o fun o => nfN a fun a => nfN b fun b => nfN c fun c => nfB r fun r => k (.drw o a b c r)
  | .rangeF n, k => nfN n fun n => k (.rangeF n)
  | .endF n, k => nfN n fun n => k (.endF n)
  | .beginRound, k => k .beginRound
def ADef.nf : ADef → (ADef → α) → α
  | .call f c a, k => nfN f fun f => AV.nfs c fun c => AV.nfs a fun a => k (.call f c a)
  | .collected n, k => nfN n fun n => k (.collected n)
def nfSt (s : LoopState) (k : LoopState → α) : α := match s with
  | .ready => k .ready
  | .busy => k .busy
  | .done => k .done
  | .exhausted => k .exhausted
def nfTmps (a : Array Tmp) (k : Array Tmp → α) : α := match a with
  | ⟨l⟩ => nfNs l fun l => k ⟨l⟩
def ALoop.nf (l : ALoop) (k : ALoop → α) : α := match l with
  | ⟨s, p, f, nt, T, ps, a, b, d⟩ => nfSt s fun s => nfO nfCode p fun p => nfN f fun f => nfN nt fun nt => nfT AV.nf T fun T => nfTmps ps fun ps => nfCode a fun a => nfCode b fun b => nfN d fun d => k ⟨s, p, f, nt, T, ps, a, b, d⟩
def nfE (e : AV × AV × Nat) (k : AV × AV × Nat → α) : α := match e with
  | (a, b, n) => AV.nf a fun a => AV.nf b fun b => nfN n fun n => k (a, b, n)
def ABlock.nf : ABlock → (ABlock → α) → α
  | .cells r cs, k => nfB r fun r => AV.nfs cs fun cs => k (.cells r cs)
  | .map es n, k => nfL nfE es fun es => nfN n fun n => k (.map es n)
  | .mapIter a b c d, k => nfN a fun a => nfN b fun b => nfNs c fun c => nfN d fun d => k (.mapIter a b c d)
  | .strIter s n, k => nfNs s fun s => nfN n fun n => k (.strIter s n)
  | .loop l, k => ALoop.nf l fun l => k (.loop l)
  | .deferred ds, k => nfL ADef.nf ds fun ds => k (.deferred ds)
def AFrame.nf (f : AFrame) (k : AFrame → α) : α := match f with
  | ⟨fn, nt, T, td, ds, r, d, o⟩ => nfN fn fun fn => nfN nt fun nt => nfT AV.nf T fun T => nfL AItem.nf td fun td => nfL ADef.nf ds fun ds => nfB r fun r => nfB d fun d => nfO nfN o fun o => k ⟨fn, nt, T, td, ds, r, d, o⟩
def AM.nf (m : AM) (k : AM → α) : α := match m with
  | ⟨fr, cs, h⟩ => match h with
    | ⟨n, t⟩ => AFrame.nf fr fun fr => nfL AFrame.nf cs fun cs => nfN n fun n => nfT ABlock.nf t fun t => k ⟨fr, cs, ⟨n, t⟩⟩

theorem nfN_eq (n : Nat) (k : Nat → α) : nfN n k = k n := by cases n <;> rfl
theorem nfNs_eq : ∀ (l : List Nat) (k : List Nat → α), nfNs l k = k l
  | [], _ => rfl
  | n :: l, k => by rw [nfNs, nfN_eq, nfNs_eq l]
theorem nfI_eq (n : Int) (k : Int → α) : nfI n k = k n := by cases n <;> simp only [nfI, nfN_eq]
theorem nfB_eq (b : Bool) (k : Bool → α) : nfB b k = k b := by cases b <;> rfl
theorem nfK_eq (b : IntKind) (k : IntKind → α) : nfK b k = k b := by cases b <;> rfl
theorem nfC_eq (b : Cap) (k : Cap → α) : nfC b k = k b := by cases b <;> simp only [nfC, nfN_eq]
theorem nfV_eq (b : Value) (k : Value → α) : nfV b k = k b := by
  unfold nfV; split <;> first | rfl | (rw [nfN_eq, nfN_eq])
theorem nfO_eq {β : Type} {f : β → (β → α) → α} (hf : ∀ b k, f b k = k b) (o : Option β) (k : Option β → α) : nfO f o k = k o := by
  cases o with
  | none => rfl
  | some x => exact hf _ _
mutual
theorem AV.nf_eq : ∀ (a : AV) (k : AV → α), AV.nf a k = k a
  | .any, _ => rfl
  | .lit _, _ => by rw [AV.nf, nfV_eq]
  | .bool _, _ => by rw [AV.nf, nfB_eq]
  | .int _ _, _ => by rw [AV.nf, nfK_eq, nfI_eq]
  | .str _, _ => by rw [AV.nf, nfNs_eq]
  | .ptr _ _, _ => by rw [AV.nf, nfN_eq, nfN_eq]
  | .slice _ _ _ _, _ => by rw [AV.nf, nfN_eq, nfN_eq, nfN_eq, nfC_eq]
  | .empty _, _ => by rw [AV.nf, nfO_eq nfN_eq]
  | .map _, _ => by rw [AV.nf, nfN_eq]
  | .func _ x y, _ => by rw [AV.nf, nfN_eq, AV.nfs_eq x, AV.nfs_eq y]
  | .yield _, _ => by rw [AV.nf, nfN_eq]
  | .iface _ v, _ => by rw [AV.nf, nfN_eq, AV.nf_eq v]
  | .agg l, _ => by rw [AV.nf, AV.nfs_eq l]
  | .tuple l, _ => by rw [AV.nf, AV.nfs_eq l]
theorem AV.nfs_eq : ∀ (a : List AV) (k : List AV → α), AV.nfs a k = k a
  | [], _ => rfl
  | a :: l, _ => by rw [AV.nfs, AV.nf_eq a, AV.nfs_eq l]
end
theorem nfL_eq {β : Type} {f : β → (β → α) → α} (hf : ∀ b k, f b k = k b) : ∀ (l : List β) (k : List β → α), nfL f l k = k l
  | [], _ => rfl
  | a :: l, k => by rw [nfL, hf, nfL_eq hf l]
theorem nfT_eq {β : Type} {f : β → (β → α) → α} (hf : ∀ b k, f b k = k b) : ∀ (t : Tr β) (k : Tr β → α), nfT f t k = k t
  | .l, _ => rfl
  | .n v a b, k => by rw [nfT, nfO_eq hf, nfT_eq hf a, nfT_eq hf b]
theorem nfCode_eq (c : Code) (k : Code → α) : nfCode c k = k c := by cases c <;> rfl
theorem nfOps_eq (c : Array Oper) (k : Array Oper → α) : nfOps c k = k c := by cases c; rfl
theorem nfOpl_eq (c : List Oper) (k : List Oper → α) : nfOpl c k = k c := by cases c <;> rfl
theorem AItem.nf_eq (c : AItem) (k : AItem → α) : AItem.nf c k = k c := by
  cases c <;> simp only [AItem.nf, nfCode_eq, nfN_eq, nfOps_eq, nfOpl_eq, nfB_eq]
theorem ADef.nf_eq (c : ADef) (k : ADef → α) : ADef.nf c k = k c := by
  cases c <;> simp only [ADef.nf, nfN_eq, AV.nfs_eq]
theorem nfSt_eq (c : LoopState) (k : LoopState → α) : nfSt c k = k c := by cases c <;> rfl
theorem nfTmps_eq (c : Array Tmp) (k : Array Tmp → α) : nfTmps c k = k c := by
  cases c; simp only [nfTmps, nfNs_eq]
theorem ALoop.nf_eq (c : ALoop) (k : ALoop → α) : ALoop.nf c k = k c := by
  cases c; simp only [ALoop.nf, nfSt_eq, nfO_eq nfCode_eq, nfN_eq, nfT_eq AV.nf_eq, nfTmps_eq, nfCode_eq]
theorem nfE_eq (c : AV × AV × Nat) (k : AV × AV × Nat → α) : nfE c k = k c := by
  obtain ⟨a, b, n⟩ := c; simp only [nfE, AV.nf_eq, nfN_eq]
theorem ABlock.nf_eq (c : ABlock) (k : ABlock → α) : ABlock.nf c k = k c := by
  cases c <;> simp only [ABlock.nf, nfB_eq, AV.nfs_eq, nfL_eq nfE_eq, nfN_eq, nfNs_eq, ALoop.nf_eq, nfL_eq ADef.nf_eq]
theorem AFrame.nf_eq (c : AFrame) (k : AFrame → α) : AFrame.nf c k = k c := by
  cases c; simp only [AFrame.nf, nfN_eq, nfT_eq AV.nf_eq, nfL_eq AItem.nf_eq, nfL_eq ADef.nf_eq, nfB_eq, nfO_eq nfN_eq]
theorem AM.nf_eq (c : AM) (k : AM → α) : AM.nf c k = k c := by
  obtain ⟨fr, cs, ⟨n, t⟩⟩ := c; simp only [AM.nf, nfN_eq, nfT_eq ABlock.nf_eq, nfL_eq AFrame.nf_eq, AFrame.nf_eq]
end

/-! ### Memory is let go -/
def keepGo (t : Tr ABlock) : List Nat → Tr ABlock → Tr ABlock
  | [], r => r
  | k :: ks, r => keepGo t ks (r.set k (t.get k))
def AM.gc (m : AM) (ks : List Nat) : AM := match m with | ⟨fr, cs, h⟩ => match h with | ⟨n, t⟩ => ⟨fr, cs, ⟨n, keepGo t ks .l⟩⟩
theorem keepGo_get {t : Tr ABlock} : ∀ (ks : List Nat) (r : Tr ABlock) (k : Nat) (b : ABlock), (keepGo t ks r).get k = some b → r.get k = some b ∨ t.get k = some b
  | [], _, _, _, h => .inl h
  | x :: ks, r, k, b, h => by
    rcases keepGo_get ks _ k b h with h | h
    · rw [Tr.get_set] at h
      by_cases hx : k = x
      · rw [if_pos hx] at h; subst hx; exact .inr h
      · rw [if_neg hx] at h; exact .inl h
    · exact .inr h
section
variable {P : Program} {ng n0 : Nat} {σ : Sg} {h : AH} {w : World}
theorem HR.fewer {h' : AH} (R : HR ng n0 σ h w) (hg : ∀ k b, h'.get k = some b → h.get k = some b) (hn : h'.next = h.next) : HR ng n0 σ h' w :=
  ⟨fun k e b h1 h2 => R.blk k e b h1 (hg k b h2), fun k hk => R.fresh k (by rw [← hn]; exact hk), fun k hk => by
    cases hx : h'.get k with
    | none => rfl
    | some b => rw [← R.freshA k (by rw [← hn]; exact hk), hg k b hx],
   fun k k' e e' b b' h1 h2 h3 h4 => R.inj k k' e e' b b' h1 h2 (hg k b h3) (hg k' b' h4), R.lt, R.glob, fun k e b h1 h2 => R.own k e b h1 (hg k b h2), by rw [hn]; exact R.ngn, R.big⟩

def notReady : List AItem → Bool
  | .drw _ _ _ _ true :: _ => false
  | _ => true
theorem Rdy.of {nt : Nat} {T : Tr AV} {a : List AItem} (hp : notReady a = true) : Rdy P ng nt T h a := by
  unfold Rdy
  split
  · cases hp
  · trivial
theorem MRx.gc {m : AM} {f : Frame} {cs : List Frame} {p : List (Nat × Nat)} {l : List Nat} (M : MRx P ng n0 σ m f cs w p l) (ks : List Nat) (hp : notReady m.fr.todo = true) : MRx P ng n0 σ (m.gc ks) f cs w p l :=
  ⟨M.top, M.stack, ⟨M.pg.1, M.pg.2⟩, M.heap.fewer (fun k b hb => by
    rcases keepGo_get ks .l k b hb with h | h
    · rw [Tr.get_l] at h; cases h
    · exact h) rfl, Rdy.of hp⟩

/-- from one state to another: whatever memory the first stands for -/
def Leads (P : Program) (ng : Nat) (m m' : AM) : Prop :=
  ∀ (n0 : Nat) (σ : Sg) (f : Frame) (cs base : List Frame) (w : World) (p : List (Nat × Nat)) (l : List Nat), MRx P ng n0 σ m f cs w p l → Post P ng n0 σ w f cs base m'
theorem Leads.trans {a b c : AM} (h1 : Leads P ng a b) (h2 : Leads P ng b c) : Leads P ng a c := fun n0 σ f cs base w p l M => by
  obtain ⟨σ1, f1, cs1, w1, p1, ks1, s1, l1, M1, b1⟩ := h1 n0 σ f cs base w p l M
  obtain ⟨σ2, f2, cs2, w2, p2, ks2, s2, l2, M2, b2⟩ := h2 n0 σ1 f1 cs1 base w1 p1 ks1 M1
  exact ⟨σ2, f2, cs2, w2, p2, ks2, s1.trans s2, l1.trans l2, M2, b1.trans b2⟩

/-- a piece of a run: so many steps, and what is kept of the memory -/
def piece (L : Lk) (ng n : Nat) (ks : List Nat) (m : AM) : Option AM :=
  match K.arun L ng n m with
  | some m' => bif notReady m'.fr.todo then AM.nf (m'.gc ks) some else none
  | none => none
theorem leads_piece (hP : 8 ≤ P.types.size) (hmix : P.follows .mixedOrders = true) {L : Lk} (hL : L = Lk.of P) {n : Nat} {ks : List Nat} {m m' : AM} (hq : piece L ng n ks m = some m') : Leads P ng m m' := by
  subst hL
  unfold piece at hq
  have e : K.arun (Lk.of P) ng n m = arun P ng n m := congrFun (congrFun K.arun_eq n) m
  rw [e] at hq
  intro n0 σ f cs base w p l M
  cases hr : arun P ng n m with
  | none => simp [hr] at hq
  | some m1 =>
    simp only [hr] at hq
    cases hn : notReady m1.fr.todo with
    | false => rw [hn] at hq; cases hq
    | true =>
      rw [hn, cond_true, AM.nf_eq] at hq
      injection hq with hq; subst hq
      obtain ⟨σ1, f1, cs1, w1, p1, ks1, s1, l1, M1, b1⟩ := run_sound (base := base) hP hmix n m m1 σ f cs w p l M hr
      exact ⟨σ1, f1, cs1, w1, p1, ks1, s1, l1, M1.gc ks hn, b1⟩

/-- a piece that parts and meets again -/
def noSum : AH → FuncId → List AV → Option AV := fun _ _ _ => none
theorem noSum_ok {P : Program} {ng : Nat} : SumOk P ng noSum := fun _ _ _ _ _ _ _ _ _ _ h => by cases h
def pieceS (S : AH → FuncId → List AV → Option AV) (L : Lk) (ng : Nat) (s : Sc) (ks : List Nat) (m : AM) : Option (List AM) :=
  match K.scr L ng S s [m] with
  | some ms => bif ms.all (fun m' => notReady m'.fr.todo) then nfL AM.nf (ms.map fun m' => m'.gc ks) some else none
  | none => none
theorem leads_pieceS (hP : 8 ≤ P.types.size) (hmix : P.follows .mixedOrders = true) {S : AH → FuncId → List AV → Option AV} (hS : SumOk P ng S) {L : Lk} (hL : L = Lk.of P) {s : Sc} {ks : List Nat} {n : Nat} {m m' : AM} (hq : pieceS S L ng s ks m = some (List.replicate n m')) : Leads P ng m m' := by
  subst hL
  unfold pieceS at hq
  have e : K.scr (Lk.of P) ng S s [m] = scr P ng S s [m] := congrFun (congrFun (congrFun K.scr_eq S) s) [m]
  rw [e] at hq
  intro n0 σ f cs base w p l M
  cases hr : scr P ng S s [m] with
  | none => simp [hr] at hq
  | some ms =>
    simp only [hr] at hq
    cases hn : ms.all (fun m' => notReady m'.fr.todo) with
    | false => rw [hn] at hq; cases hq
    | true =>
      rw [hn, cond_true, nfL_eq AM.nf_eq] at hq
      injection hq with hq
      obtain ⟨m1, hm1, σ1, f1, cs1, w1, p1, ks1, s1, l1, M1, b1⟩ := scr_sound hP hmix hS s [m] ms hr m (List.mem_cons_self ..) n0 σ f cs base w p l M
      have hg : m1.gc ks = m' := List.eq_of_mem_replicate (hq ▸ List.mem_map.2 ⟨m1, hm1, rfl⟩)
      rw [← hg]
      exact ⟨σ1, f1, cs1, w1, p1, ks1, s1, l1, M1.gc ks (List.all_eq_true.1 hn m1 hm1), b1⟩

/-- **A CLOSED RUN IN PIECES.** -/
theorem calls_leads {g : FuncId} {args : List AV} {argv : Array Value} {fr : AFrame} {h0 : AH} {σ : Sg} {w : World} {m' : AM} {v : AV}
    (hen : AFrame.enter P g args false = some fr) (ha : VRs σ args argv.toList) (R : HR ng w.heap.size σ h0 w) (hrun : Leads P ng { fr, cs := [], h := h0 } m') (hans : answer P g m' = some v) :
    Calls P g argv w fun e w' => ∃ u σ', e = .returned u ∧ VR σ' v u ∧ Below w.heap.size w w' := by
  intro base
  obtain ⟨g1, g2, g3, g4, g5⟩ := enter_sound (ng := ng) hen ha
  have M : MRx P ng w.heap.size σ { fr, cs := [], h := h0 } (Frame.enter P g argv .normal) [] w [] [] := ⟨g1, ⟨rfl, rfl⟩, ⟨List.nodup_nil, fun k hk => by simp at hk⟩, R, g5 _⟩
  obtain ⟨σ', f', cs', w', p', ks', s1, l1, M1, b1⟩ := hrun w.heap.size σ _ [] base w [] [] M
  unfold answer at hans
  split at hans
  · rename_i hcs hds
    cases hb : (m'.fr.ret && !m'.fr.dfd && plainTop m'.fr.todo && Nat.beq m'.fr.fn g) with
    | false => rw [hb] at hans; cases hans
    | true =>
      rw [hb, cond_true] at hans
      simp only [Bool.and_eq_true, nbeq, decide_eq_true_eq, Bool.not_eq_true'] at hb
      obtain ⟨⟨⟨b2, b3⟩, b4⟩, b5⟩ := hb
      cases hfn : P.funcs[g]? with
      | none => simp [hfn] at hans
      | some fn =>
        simp only [hfn, Option.map_eq_some_iff] at hans
        obtain ⟨vs, hres, rfl⟩ := hans
        obtain ⟨_, htm, _⟩ := top_inv b4 M1.top.top
        obtain ⟨u, hru, hvu⟩ := results_sound (P := P) M1.heap htm hres
        have hS := M1.stack
        rw [hcs] at hS
        obtain ⟨hcs', _⟩ := hS
        subst hcs'
        have hmode : f'.mode = .returning := by have := M1.top.mode; rw [b2] at this; exact this
        have hk : f'.kind = .normal := by have := M1.top.kind; rw [b3] at this; exact this
        have hfd : f'.defers = [] := by
          have := M1.top.defers
          rw [hds] at this
          cases hx : f'.defers with
          | nil => rfl
          | cons _ _ => rw [hx] at this; exact this.elim
        have hffn : f'.fn = g := M1.top.fn.trans b5
        exact ⟨.returned u, w', f', ⟨u, σ', rfl, hvu, b1⟩, s1, hffn, hmode, hfd, hk, fn, by rw [hffn]; exact hfn, hru⟩
  · cases hans
end

/-! ### Words for a state -/
def sub : Code → List Nat → Code
  | c, [] => c
  | .seq a _, 0 :: p => sub a p
  | .seq _ b, _ :: p => sub b p
  | .cond _ a _, 0 :: p => sub a p
  | .cond _ _ b, _ :: p => sub b p
  | .block _ c, _ :: p => sub c p
  | .loop c, _ :: p => sub c p
  | .scope c, _ :: p => sub c p
  | .rangeFunc _ _ a _, 0 :: p => sub a p
  | .rangeFunc _ _ _ b, _ :: p => sub b p
  | c, _ :: _ => c
def opsOf : Code → Array Oper
  | .region _ ops _ => ops
  | _ => #[]
section
variable (F : Tr Func)
/-- the code of function f at a path -/
def cd (f : Nat) (p : List Nat) : Code :=
  match F.get f with
  | some fn => match fn.body with
    | some c => sub c p
    | none => .skip
  | none => .skip
def rg (f : Nat) (p : List Nat) (i : Nat) : AItem := .reg (opsOf (cd F f p)) i ((opsOf (cd F f p)).toList.drop i)
def dw (f : Nat) (p : List Nat) (dm um ed : Nat) (b : Bool) : AItem := .drw (opsOf (cd F f p)) dm um ed b
def ci (f : Nat) (p : List Nat) : AItem := .code (cd F f p)
def li (f : Nat) (p : List Nat) : AItem := .inLoop (cd F f p)
def si (f : Nat) (p : List Nat) : AItem := .inScope (cd F f p)
end
def tr {α : Type} : List (Nat × α) → Tr α → Tr α
  | [], t => t
  | (i, x) :: l, t => tr l (t.set i (some x))
def by8 (l : List Nat) : List AV := l.map fun n => .int .u8 (.ofNat n)
def by6 (l : List Nat) : List AV := l.map fun n => .int .i64 (.ofNat n)
def byu (l : List Nat) : List AV := l.map fun n => .int .u64 (.ofNat n)
def ii (n : Nat) : AV := .int .i64 (.ofNat n)
def uu (n : Nat) : AV := .int .u64 (.ofNat n)
def bb (n : Nat) : AV := .int .u8 (.ofNat n)
def wc (l : List AV) : ABlock := .cells false l
end Go.Proofs.YtllipkakgjmheaaGreatDoor.Ev

/- A symbolic executor over data by value, proved sound over any program: no conditions. -/
import Derived.Test.YtgpcioamhfaodaaDoorE4
set_option linter.all false
set_option linter.unnecessarySimpa false
set_option linter.unusedSectionVars false
set_option linter.unusedSimpArgs false
set_option linter.unusedVariables false
namespace Go.Proofs
open Go Go.Ev
variable [Lay]
structure Node where
  flag : Int
  no : Int
  yes : Int
  e : Env
deriving Inhabited
structure Tree where
  nodes : List Node
deriving Inhabited
def Node.same (a b : Node) : Bool := a.flag == b.flag && a.no == b.no && a.yes == b.yes && Env.same a.e b.e
theorem Node.same_self (a : Node) : Node.same a a = true := by simp [Node.same, Env.same_self]
def Tree.same (a b : Tree) : Bool := all2 Node.same a.nodes b.nodes
theorem Tree.same_self (a : Tree) : Tree.same a a = true := all2_self Node.same_self _
def szNode (a : Node) (l : Int) : Int := if szEnv a.e l < 0 then -1 else szEnv a.e l
def Node.small (x : Node) : Prop := x.e.ints.length ≤ 1048576 ∧ x.e.arrs.length ≤ 1048576
def SmallN (l : List Node) : Prop := l.length ≤ 1048576 ∧ ∀ x ∈ l, Node.small x
theorem szNode_len {a : Node} {l : Int} (hl : 0 ≤ l ∧ l ≤ 1048576) (h : ¬ szNode a l < 0) : Node.small a ∧ szNode a l ≤ l := by
  unfold szNode at h ⊢
  split at h <;> rename_i h1
  · omega
  · have := szEnv_len hl h1
    rw [if_neg h1]; exact ⟨⟨this.1, this.2.1⟩, this.2.2⟩
def szNodeS (a : List Node) (l : Int) : Int := if l - a.length < 0 then -1 else szF szNode (l - a.length) a
theorem szNodeS_len {a : List Node} {l : Int} (hl : 0 ≤ l ∧ l ≤ 1048576) (h : ¬ szNodeS a l < 0) : SmallN a ∧ szNodeS a l ≤ l := by
  unfold szNodeS at h ⊢
  split at h <;> rename_i h1
  · omega
  · rw [if_neg h1]
    obtain ⟨h2, h3⟩ := szF_all (f := szNode) (Q := Node.small) (fun x v hv h => szNode_len hv h) ⟨by omega, by omega⟩ h
    exact ⟨⟨by omega, h2⟩, by omega⟩
def szTree (a : Tree) (l : Int) : Int := if szNodeS a.nodes l < 0 then -1 else szNodeS a.nodes l
theorem szTree_len {a : Tree} {l : Int} (hl : 0 ≤ l ∧ l ≤ 1048576) (h : ¬ szTree a l < 0) : SmallN a.nodes ∧ szTree a l ≤ l := by
  unfold szTree at h ⊢
  split at h <;> rename_i h1
  · omega
  · have := szNodeS_len hl h1
    rw [if_neg h1]; exact this
section
variable {α : Type} [Inhabited α]
def atL (wt : α → Int) (k : Int) (a : List α) (i : Nat) : Int := k + ((a.take i).map wt).sum
def mkL (wt : α → Int) (mk : Int → α → α) (k : Int) (a : List α) (i : Nat) (e : α) : α := mk (atL wt k a i) e
def markL (wt : α → Int) (mk : Int → α → α) (k : Int) (a : List α) : List α := mkAll (mkL wt mk k a) a
def marksL (wt : α → Int) (k : Int) (a : List α) : Int := atL wt k a a.length
variable {wt : α → Int} {mk : Int → α → α} {k : Int} {a : List α}
theorem atL_zero (wt : α → Int) (k : Int) (a : List α) : atL wt k a 0 = k := by simp [atL]
theorem atL_step {j : Nat} (h : j < a.length) : atL wt k a (j + 1) = atL wt k a j + wt (a.getD j default) := by
  unfold atL
  rw [List.take_add_one, List.getElem?_eq_getElem h, List.getD_eq_getElem?_getD, List.getElem?_eq_getElem h]
  simp only [List.map_append, List.sum_append, Option.toList_some, List.map_cons, List.map_nil, List.sum_cons, List.sum_nil, Option.getD_some]; omega
theorem atL_all {j : Nat} (h : a.length ≤ j) : atL wt k a j = marksL wt k a := by
  unfold marksL atL; rw [List.take_of_length_le h, List.take_of_length_le (Nat.le_refl _)]
theorem atL_bound {B : Int} (hB : ∀ x ∈ a, 0 ≤ wt x ∧ wt x ≤ B) : ∀ j, j ≤ a.length → k ≤ atL wt k a j ∧ atL wt k a j ≤ k + j * B
  | 0, _ => by rw [atL_zero]; simp
  | j + 1, hj => by
    have ih := atL_bound hB j (by omega)
    have hx := hB _ (getD_mem (j := j) (by omega))
    rw [atL_step (by omega)]
    have e : ((j + 1 : Nat) : Int) * B = j * B + B := by rw [Int.natCast_add]; simp [Int.add_mul]
    rw [e]; omega
theorem mkL_get {j : Nat} (h : j < a.length) : (mkTo (mkL wt mk k a) a j).getD j default = a.getD j default := by
  rw [mkTo_get _ _ h, if_neg (by omega)]
theorem markL_len : (markL wt mk k a).length = a.length := mkAll_len _ _
theorem markL_get {i : Nat} (hi : i < a.length) : (markL wt mk k a).getD i default = mk (atL wt k a i) (a.getD i default) := mkAll_get _ _ hi
theorem atL_mark (hw : ∀ k x, wt (mk k x) = wt x) : ∀ i, i ≤ a.length → atL wt k (markL wt mk k a) i = atL wt k a i
  | 0, _ => by rw [atL_zero, atL_zero]
  | i + 1, h => by
    have hl : (markL wt mk k a).length = a.length := markL_len
    rw [atL_step (by omega), atL_step (by omega), atL_mark hw i (by omega), markL_get (by omega), hw]
def MarkedL (wt : α → Int) (mk : Int → α → α) (k : Int) (a : List α) : Prop := ∀ i, i < a.length → a.getD i default = mk (atL wt k a i) (a.getD i default)
theorem markedL (hw : ∀ k x, wt (mk k x) = wt x) (hm : ∀ k x, mk k (mk k x) = mk k x) : MarkedL wt mk k (markL wt mk k a) := fun i hi => by
  have hl : (markL wt mk k a).length = a.length := markL_len
  rw [atL_mark hw i (by omega), markL_get (by omega), hm]
theorem marksL_mark (hw : ∀ k x, wt (mk k x) = wt x) : marksL wt k (markL wt mk k a) = marksL wt k a := by
  unfold marksL
  rw [markL_len, atL_mark hw _ (Nat.le_refl _)]
end
def Node.wt (x : Node) : Int := 4 + 2 * (x.e.ints.length : Int) + 2 * (x.e.arrs.length : Int)
def Node.markT (k : Int) (x : Node) : Node := ⟨k, k + 1, k + 2, Int.tmod (k + 3) 3 == 0, mkAll (mIv (k + 4)) x.e.ints, mkAll (mIv (k + 4 + 2 * (x.e.ints.length : Int))) x.e.arrs⟩
theorem Node.wt_mark (k : Int) (x : Node) : Node.wt (Node.markT k x) = Node.wt x := by simp [Node.wt, Node.markT, mkAll_len]
theorem Node.mark_mark (k : Int) (x : Node) : Node.markT k (Node.markT k x) = Node.markT k x := by simp [Node.markT, mkAll_len, mIv_mk]
theorem NodeS.bnd {k : Int} {a : List Node} {j : Nat} (h : SmallN a) (hj : j ≤ a.length) (hk : 0 ≤ k ∧ k ≤ 1125899906842624) : k ≤ atL Node.wt k a j ∧ atL Node.wt k a j ≤ 1130297954402304 + 4194304 := by
  have h1 := atL_bound (wt := Node.wt) (k := k) (a := a) (B := 4 + 4 * 1048576) (fun x hx => by
    have := h.2 x hx
    unfold Node.small at this
    unfold Node.wt; omega) j hj
  have h2 := h.1
  have h3 : (j : Int) * (4 + 4 * 1048576) ≤ 1048576 * (4 + 4 * 1048576) := Int.mul_le_mul_of_nonneg_right (by omega) (by omega)
  omega
theorem Node.round {k : Int} {a : List Node} {j : Nat} (h : j < a.length) {k0 k1 k2 k3 k4 k5 : Int} {b : Bool} {L0 L1 L2 L3 L4 L5 L6 : List Node} (h0 : L0 = mkTo (mkL Node.wt Node.markT k a) a j) (e0 : k0 = atL Node.wt k a j)
    (h1 : L1 = L0.set j ⟨k0, (L0.getD j default).no, (L0.getD j default).yes, (L0.getD j default).e⟩) (e1 : k1 = k0 + 1)
    (h2 : L2 = L1.set j ⟨(L1.getD j default).flag, k1, (L1.getD j default).yes, (L1.getD j default).e⟩) (e2 : k2 = k1 + 1)
    (h3 : L3 = L2.set j ⟨(L2.getD j default).flag, (L2.getD j default).no, k2, (L2.getD j default).e⟩) (e3 : k3 = k2 + 1) (hb : b = (Int.tmod k3 3 == 0))
    (h4 : L4 = L3.set j ⟨(L3.getD j default).flag, (L3.getD j default).no, (L3.getD j default).yes, b, (L3.getD j default).e.ints, (L3.getD j default).e.arrs⟩) (e4 : k4 = k3 + 1)
    (h5 : L5 = L4.set j ⟨(L4.getD j default).flag, (L4.getD j default).no, (L4.getD j default).yes, (L4.getD j default).e.live, mkAll (mIv k4) (L4.getD j default).e.ints, (L4.getD j default).e.arrs⟩) (e5 : k5 = k4 + 2 * ((L4.getD j default).e.ints.length : Int))
    (h6 : L6 = L5.set j ⟨(L5.getD j default).flag, (L5.getD j default).no, (L5.getD j default).yes, (L5.getD j default).e.live, (L5.getD j default).e.ints, mkAll (mIv k5) (L5.getD j default).e.arrs⟩) :
    L6 = mkTo (mkL Node.wt Node.markT k a) a (j + 1) ∧ k5 + 2 * ((L5.getD j default).e.arrs.length : Int) = atL Node.wt k a (j + 1) := by
  have hl : j < (mkTo (mkL Node.wt Node.markT k a) a j).length := by rw [mkTo_len]; exact h
  have hg := mkL_get (wt := Node.wt) (mk := Node.markT) (k := k) h
  subst h0 h1 h2 h3 h4 h5 h6 e0 e1 e2 e3 hb e4 e5
  simp only [List.set_set, set_getD, List.length_set, hl, hg]
  refine ⟨mkTo_step _ _ h ?_, ?_⟩
  · unfold mkL Node.markT
    simp only [Node.mk.injEq, Env.mk.injEq, true_and]
    refine ⟨by omega, ?_, ?_, ?_⟩
    · congr 2; omega
    · congr 2; omega
    · congr 2; omega
  · rw [atL_step h]; unfold Node.wt; omega

section
variable {k : Int} {x : Node}
theorem Node.heldF (h : x = Node.markT k x) : x.flag = k := by rw [h]; rfl
theorem Node.heldN (h : x = Node.markT k x) : x.no = k + 1 := by rw [h]; rfl
theorem Node.heldY (h : x = Node.markT k x) : x.yes = k + 2 := by rw [h]; rfl
theorem Node.heldL (h : x = Node.markT k x) : x.e.live = (Int.tmod (k + 3) 3 == 0) := by rw [h]; rfl
theorem Node.heldI (h : x = Node.markT k x) : ∀ i, i < x.e.ints.length → x.e.ints.getD i default = mIv (k + 4) i default := fun i hi => by
  have h2 : x.e.ints = mkAll (mIv (k + 4)) x.e.ints := congrArg (fun y => y.e.ints) h
  rw [h2]; exact mkAll_get _ _ hi
theorem Node.heldA (h : x = Node.markT k x) : ∀ i, i < x.e.arrs.length → x.e.arrs.getD i default = mIv (k + 4 + 2 * (x.e.ints.length : Int)) i default := fun i hi => by
  have h2 : x.e.arrs = mkAll (mIv (k + 4 + 2 * (x.e.ints.length : Int))) x.e.arrs := congrArg (fun y => y.e.arrs) h
  rw [h2]; exact mkAll_get _ _ hi
end
theorem small_mark {k : Int} {a : List Node} (h : SmallN a) : SmallN (markL Node.wt Node.markT k a) := by
  refine ⟨by rw [markL_len]; exact h.1, fun x hx => ?_⟩
  obtain ⟨i, hi, rfl⟩ := List.getElem_of_mem hx
  have hi' : i < a.length := by rw [markL_len] at hi; exact hi
  have e : (markL Node.wt Node.markT k a)[i] = Node.markT (atL Node.wt k a i) (a.getD i default) := by
    rw [← markL_get (wt := Node.wt) (mk := Node.markT) (k := k) hi', List.getD_eq_getElem?_getD, List.getElem?_eq_getElem hi]; rfl
  have := h.2 _ (getD_mem hi')
  rw [e]
  simpa [Node.small, Node.markT, mkAll_len] using this
def Tree.marks (k : Int) (a : Tree) : Int := marksL Node.wt k a.nodes
def Tree.mark (k : Int) (a : Tree) : Tree := ⟨markL Node.wt Node.markT k a.nodes⟩
def Tree.Marked (k : Int) (a : Tree) : Prop := MarkedL Node.wt Node.markT k a.nodes
theorem Tree.marked (k : Int) (a : Tree) : Tree.Marked k (Tree.mark k a) := markedL Node.wt_mark Node.mark_mark
theorem Tree.marks_mark (k : Int) (a : Tree) : Tree.marks k (Tree.mark k a) = Tree.marks k a := marksL_mark Node.wt_mark
theorem Tree.marks_bnd {k : Int} {a : Tree} (h : SmallN a.nodes) (hk : 0 ≤ k ∧ k ≤ 1125899906842624) : k ≤ Tree.marks k a ∧ Tree.marks k a ≤ 1130297954402304 + 4194304 := NodeS.bnd h (Nat.le_refl _) hk
theorem Iv.same_iff {a b : Iv} : Iv.same a b = true ↔ a = b := by
  cases a; cases b; simp [Iv.same]
theorem Iv.same_no {x y : Iv} (h : ¬ x.lo = y.lo ∨ ¬ x.hi = y.hi) : Iv.same x y = false := by
  cases hs : Iv.same x y
  · rfl
  · rw [Iv.same_iff] at hs; subst hs; simp at h
theorem all2_eq {α : Type} [Inhabited α] {p : α → α → Bool} (h : ∀ {x y}, p x y = true → x = y) {a b : List α} (hs : all2 p a b = true) : a = b := by
  simp only [all2, Bool.and_eq_true, beq_iff_eq] at hs
  refine List.ext_getElem hs.1 fun i h1 h2 => ?_
  have := h (allTo_iff.1 hs.2 i h1)
  simpa [List.getD_eq_getElem?_getD, List.getElem?_eq_getElem h1, List.getElem?_eq_getElem h2] using this
theorem Env.same_iff {a b : Env} : Env.same a b = true ↔ a = b := by
  constructor
  · intro h
    cases a; cases b
    simp only [Env.same, Bool.and_eq_true, beq_iff_eq] at h
    rw [Env.mk.injEq]
    exact ⟨h.1.1, all2_eq (fun h => Iv.same_iff.1 h) h.1.2, all2_eq (fun h => Iv.same_iff.1 h) h.2⟩
  · rintro rfl; exact Env.same_self _
theorem Node.same_iff {a b : Node} : Node.same a b = true ↔ a = b := by
  constructor
  · intro h
    cases a; cases b
    simp only [Node.same, Bool.and_eq_true, beq_iff_eq] at h
    rw [Node.mk.injEq]
    exact ⟨h.1.1.1, h.1.1.2, h.1.2, Env.same_iff.1 h.2⟩
  · rintro rfl; exact Node.same_self _
def treeAt (l : List Node) (n : Node) : Int := idx (fun x => Node.same x n) l
theorem treeAt_bnd (l : List Node) (n : Node) : -1 ≤ treeAt l n ∧ treeAt l n < (l.length : Int) := by
  unfold treeAt idx; split <;> omega
def treePut (l : List Node) (n : Node) : List Node × Int := if treeAt l n ≥ 0 then (l, treeAt l n) else (l ++ [n], (l.length : Int))
theorem treePut_in {l : List Node} {n : Node} (h : treeAt l n ≥ 0) : treePut l n = (l, treeAt l n) := if_pos h
theorem treePut_new {l : List Node} {n : Node} (h : ¬ treeAt l n ≥ 0) : treePut l n = (l ++ [n], (l.length : Int)) := if_neg h
def p2 (f : Nat) : Nat := 2 ^ f
theorem p2_zero : p2 0 = 1 := rfl
theorem p2_step (f : Nat) : p2 (f + 1) = 2 * p2 f := by unfold p2; rw [Nat.pow_succ]; omega
theorem p2_le {f : Nat} (h : f ≤ 3) : 1 ≤ p2 f ∧ p2 f ≤ 8 := by
  have : f = 0 ∨ f = 1 ∨ f = 2 ∨ f = 3 := by omega
  rcases this with rfl | rfl | rfl | rfl <;> decide
theorem p2_lt {f g : Nat} (h : f < g) : p2 f < p2 g := Nat.pow_lt_pow_right (by decide) h
theorem p2_inj {f g : Nat} (h : p2 f = p2 g) : f = g := by
  rcases Nat.lt_trichotomy f g with h1 | h1 | h1
  · have := p2_lt h1; omega
  · exact h1
  · have := p2_lt h1; omega
theorem pw {f : Nat} (h : f ≤ 3) : IntKind.wrap .i64 (1 * 2 ^ (min ((f : Int)).toNat (IntKind.bits .i64))) = ((p2 f : Nat) : Int) := by
  have : f = 0 ∨ f = 1 ∨ f = 2 ∨ f = 3 := by omega
  rcases this with rfl | rfl | rfl | rfl <;> decide
theorem or_p2 {f g : Nat} (hf : f ≤ 3) (hg : g < p2 f) : IntKind.wrap .i64 ((BitVec.ofInt (IntKind.bits .i64) (g : Int) ||| BitVec.ofInt (IntKind.bits .i64) ((p2 f : Nat) : Int)).toNat : Int) = ((g + p2 f : Nat) : Int) := by
  have key : ∀ f, f < 4 → ∀ g, g < 8 → g < p2 f → IntKind.wrap .i64 ((BitVec.ofInt (IntKind.bits .i64) (g : Int) ||| BitVec.ofInt (IntKind.bits .i64) ((p2 f : Nat) : Int)).toNat : Int) = ((g + p2 f : Nat) : Int) := by decide +kernel
  have := p2_le hf
  exact key f (by omega) g (by omega) hg
def dep (t : List Env) : Nat := t.length.log2
def Pow2 (t : List Env) : Prop := t.length = p2 (dep t) ∧ dep t ≤ 3
theorem Pow2.of {d : Decl} {t : List Env} (h : Table.ok d t = true) : Pow2 t ∧ dep t = d.flags.length := by
  have h1 := Table.isIn_get (Table.ok_in h)
  have h2 : d.flags.length ≤ 3 := by
    unfold Table.ok Decl.ok at h
    simp only [Bool.and_eq_true, decide_eq_true_eq] at h
    omega
  have h3 := h1.1
  unfold leavesOf at h3
  rw [pw h2] at h3
  have h4 : t.length = p2 d.flags.length := by omega
  have h5 : dep t = d.flags.length := by unfold dep; rw [h4]; unfold p2; exact Nat.log2_two_pow
  exact ⟨⟨by rw [h5]; exact h4, by omega⟩, h5⟩
def treeGo (t : List Env) : Nat → Nat → Nat → List Node → List Node × Int
  | 0, _, leaf, l => treePut l ⟨-1, 0, 0, t.getD leaf default⟩
  | n + 1, flag, leaf, l =>
    if (treeGo t n (flag + 1) leaf l).2 = (treeGo t n (flag + 1) (leaf + p2 flag) (treeGo t n (flag + 1) leaf l).1).2 then ((treeGo t n (flag + 1) (leaf + p2 flag) (treeGo t n (flag + 1) leaf l).1).1, (treeGo t n (flag + 1) leaf l).2)
    else treePut (treeGo t n (flag + 1) (leaf + p2 flag) (treeGo t n (flag + 1) leaf l).1).1 ⟨flag, (treeGo t n (flag + 1) leaf l).2, (treeGo t n (flag + 1) (leaf + p2 flag) (treeGo t n (flag + 1) leaf l).1).2, ⟨false, [], []⟩⟩
def Tree.of (d : Decl) (t : List Env) : Tree := if Table.ok d t = true then ⟨(treeGo t d.flags.length 0 0 []).1⟩ else ⟨[]⟩
theorem Tree.of_no {d : Decl} {t : List Env} (h : Table.ok d t = false) : Tree.of d t = ⟨[]⟩ := if_neg (by rw [h]; decide)
theorem Tree.of_yes {d : Decl} {t : List Env} (h : Table.ok d t = true) : Tree.of d t = ⟨(treeGo t (dep t - 0) 0 0 []).1⟩ := by
  unfold Tree.of; rw [if_pos h, (Pow2.of h).2]; rfl
section
variable {t : List Env} {flag leaf : Nat} {l : List Node}
theorem treeGo_leaf (h : dep t ≤ flag) : treeGo t (dep t - flag) flag leaf l = treePut l ⟨-1, 0, 0, t.getD leaf default⟩ := by
  rw [Nat.sub_eq_zero_of_le h]; rfl
theorem treeGo_same (h : flag < dep t) (h1 : (treeGo t (dep t - (flag + 1)) (flag + 1) leaf l).2 = (treeGo t (dep t - (flag + 1)) (flag + 1) (leaf + p2 flag) (treeGo t (dep t - (flag + 1)) (flag + 1) leaf l).1).2) :
    treeGo t (dep t - flag) flag leaf l = ((treeGo t (dep t - (flag + 1)) (flag + 1) (leaf + p2 flag) (treeGo t (dep t - (flag + 1)) (flag + 1) leaf l).1).1, (treeGo t (dep t - (flag + 1)) (flag + 1) leaf l).2) := by
  have e : dep t - flag = (dep t - (flag + 1)) + 1 := by omega
  rw [e, treeGo, if_pos h1]
theorem treeGo_else (h : flag < dep t) (h1 : ¬ (treeGo t (dep t - (flag + 1)) (flag + 1) leaf l).2 = (treeGo t (dep t - (flag + 1)) (flag + 1) (leaf + p2 flag) (treeGo t (dep t - (flag + 1)) (flag + 1) leaf l).1).2) :
    treeGo t (dep t - flag) flag leaf l = treePut (treeGo t (dep t - (flag + 1)) (flag + 1) (leaf + p2 flag) (treeGo t (dep t - (flag + 1)) (flag + 1) leaf l).1).1 ⟨flag, (treeGo t (dep t - (flag + 1)) (flag + 1) leaf l).2, (treeGo t (dep t - (flag + 1)) (flag + 1) (leaf + p2 flag) (treeGo t (dep t - (flag + 1)) (flag + 1) leaf l).1).2, ⟨false, [], []⟩⟩ := by
  have e : dep t - flag = (dep t - (flag + 1)) + 1 := by omega
  rw [e, treeGo, if_neg h1]
end
theorem treePut_len (l : List Node) (n : Node) : l.length ≤ (treePut l n).1.length ∧ (treePut l n).1.length ≤ l.length + 1 := by
  unfold treePut; split <;> simp
theorem treePut_all {Q : Node → Prop} {l : List Node} {n : Node} (h : ∀ x ∈ l, Q x) (hn : Q n) : ∀ x ∈ (treePut l n).1, Q x := by
  unfold treePut; split
  · exact h
  · intro x hx
    rcases List.mem_append.1 hx with hx | hx
    · exact h x hx
    · rw [List.mem_singleton.1 hx]; exact hn
theorem treeGo_len (t : List Env) : ∀ (n flag leaf : Nat) (l : List Node), l.length ≤ (treeGo t n flag leaf l).1.length ∧ (treeGo t n flag leaf l).1.length + 1 ≤ l.length + p2 (n + 1)
  | 0, _, leaf, l => by
    have := treePut_len l ⟨-1, 0, 0, t.getD leaf default⟩
    have e : p2 (0 + 1) = 2 := rfl
    unfold treeGo
    omega
  | n + 1, flag, leaf, l => by
    have h1 := treeGo_len t n (flag + 1) leaf l
    have h2 := treeGo_len t n (flag + 1) (leaf + p2 flag) (treeGo t n (flag + 1) leaf l).1
    have e := p2_step (n + 1)
    rw [treeGo]
    split
    · simp only; omega
    · have h3 := treePut_len (treeGo t n (flag + 1) (leaf + p2 flag) (treeGo t n (flag + 1) leaf l).1).1 ⟨flag, (treeGo t n (flag + 1) leaf l).2, (treeGo t n (flag + 1) (leaf + p2 flag) (treeGo t n (flag + 1) leaf l).1).2, ⟨false, [], []⟩⟩
      omega
theorem treeGo_all {Q : Node → Prop} {t : List Env} (h0 : ∀ leaf, Q ⟨-1, 0, 0, t.getD leaf default⟩) (h1 : ∀ f a b, Q ⟨f, a, b, ⟨false, [], []⟩⟩) : ∀ (n flag leaf : Nat) (l : List Node), (∀ x ∈ l, Q x) → ∀ x ∈ (treeGo t n flag leaf l).1, Q x
  | 0, _, leaf, l, h => treePut_all h (h0 leaf)
  | n + 1, flag, leaf, l, h => by
    have g1 := treeGo_all h0 h1 n (flag + 1) leaf l h
    have g2 := treeGo_all h0 h1 n (flag + 1) (leaf + p2 flag) _ g1
    rw [treeGo]
    split
    · exact g2
    · exact treePut_all g2 (h1 _ _ _)
theorem leaf_small {t : List Env} {B : Nat} (h : ∀ x ∈ t, x.ints.length ≤ B ∧ x.arrs.length ≤ B) (leaf : Nat) : (t.getD leaf default).ints.length ≤ B ∧ (t.getD leaf default).arrs.length ≤ B := by
  by_cases hl : leaf < t.length
  · exact h _ (getD_mem hl)
  · have e : t.getD leaf default = (default : Env) := by rw [List.getD_eq_getElem?_getD, List.getElem?_eq_none (by omega)]; rfl
    have e1 : (default : Env).ints = [] := rfl
    have e2 : (default : Env).arrs = [] := rfl
    rw [e, e1, e2]; simp
theorem treeGo_small {t : List Env} (h : ∀ x ∈ t, x.ints.length ≤ 1048576 ∧ x.arrs.length ≤ 1048576) (n flag leaf : Nat) (l : List Node) (hl : ∀ x ∈ l, Node.small x) : ∀ x ∈ (treeGo t n flag leaf l).1, Node.small x :=
  treeGo_all (Q := Node.small) (fun leaf => leaf_small h leaf) (fun _ _ _ => ⟨by simp, by simp⟩) n flag leaf l hl
theorem treePut_at {l : List Node} {n : Node} {j : Nat} (hj : j < l.length) (h : allTo j (fun i => !Node.same (l.getD i default) n) = true) (h1 : Node.same (l.getD j default) n = true) : treePut l n = (l, (j : Int)) := by
  have e : treeAt l n = (j : Int) := idx_found (p := fun x => Node.same x n) hj h h1
  rw [treePut_in (by rw [e]; omega), e]
theorem treePut_none {l : List Node} {n : Node} {j : Nat} (hj : l.length ≤ j) (h : allTo j (fun i => !Node.same (l.getD i default) n) = true) : treePut l n = (l ++ [n], (l.length : Int)) := by
  have e : treeAt l n = -1 := idx_none (p := fun x => Node.same x n) hj h
  rw [treePut_new (by rw [e]; decide)]
theorem Env.same_no {a b : Env} (h : (¬ a.live = b.live ∨ ¬ (a.ints.length : Int) = b.ints.length) ∨ ¬ (a.arrs.length : Int) = b.arrs.length) : Env.same a b = false := by
  cases hs : Env.same a b
  · rfl
  · rw [Env.same_iff] at hs; subst hs; simp at h
theorem Env.same_fail {a b : Env} {j : Nat} (h : a.ints.length = b.ints.length) (hj : j < (a.ints ++ a.arrs).length) (h1 : ¬ ((a.ints ++ a.arrs).getD j default).lo = ((b.ints ++ b.arrs).getD j default).lo ∨ ¬ ((a.ints ++ a.arrs).getD j default).hi = ((b.ints ++ b.arrs).getD j default).hi) : Env.same a b = false := by
  cases hs : Env.same a b
  · rfl
  · rw [Env.same_iff] at hs; subst hs; simp at h1
theorem Env.same_done {a b : Env} {j : Nat} (h : a.live = b.live ∧ a.ints.length = b.ints.length ∧ a.arrs.length = b.arrs.length) (hj : (a.ints ++ a.arrs).length ≤ j) (h1 : allTo j (fun i => Iv.same ((a.ints ++ a.arrs).getD i default) ((b.ints ++ b.arrs).getD i default)) = true) : Env.same a b = true := by
  have hl : (a.ints ++ a.arrs).length = (b.ints ++ b.arrs).length := by simp; omega
  have h2 : a.ints ++ a.arrs = b.ints ++ b.arrs := all2_eq (p := Iv.same) (fun h => Iv.same_iff.1 h) (by
    simp only [all2, Bool.and_eq_true, beq_iff_eq]
    exact ⟨hl, allTo_iff.2 fun i hi => allTo_iff.1 h1 i (by omega)⟩)
  have h3 := List.append_inj h2 h.2.1
  rw [Env.same_iff]
  cases a; cases b
  simp only [Env.mk.injEq]
  exact ⟨h.1, h3.1, h3.2⟩
theorem Tree.of_small {d : Decl} {t : List Env} (h : Small 1048576 t) : SmallN (Tree.of d t).nodes := by
  cases h1 : Table.ok d t
  · rw [Tree.of_no h1]; exact ⟨by simp, by simp⟩
  · rw [Tree.of_yes h1]
    have h2 := treeGo_len t (dep t - 0) 0 0 []
    have h3 := p2_le (Pow2.of h1).1.2
    have h4 := p2_step (dep t - 0)
    simp only [List.length_nil, Nat.sub_zero] at h2 h4
    exact ⟨by simp only [Nat.sub_zero]; omega, treeGo_small h.2 _ _ _ _ (by simp)⟩
end Go.Proofs

namespace Go.Proofs
open Go Go.Ev
variable [Lay]
def bitAt (leaf f : Int) : Bool := IntKind.wrap .i64 ((BitVec.ofInt (IntKind.bits .i64) (leaf.fdiv (2 ^ (min (f).toNat (IntKind.bits .i64)))) &&& BitVec.ofInt (IntKind.bits .i64) 1).toNat : Int) == 1
theorem bitAt_of {g f : Nat} (hf : f < 3) (hg : g < 8) : bitAt (g : Int) (f : Int) = decide ((g / p2 f) % 2 = 1) := by
  have key : ∀ f : Nat, f < 3 → ∀ g : Nat, g < 8 → bitAt (g : Int) (f : Int) = decide ((g / p2 f) % 2 = 1) := by decide +kernel
  exact key f hf g hg
def nowhere : Env × Bool := (⟨false, [], []⟩, false)
def treeFind (l : List Node) (flags leaf : Int) : Nat → Int → Env × Bool
  | 0, _ => nowhere
  | m + 1, p => if p < 0 then nowhere else
    if (l.getD p.toNat default).flag = -1 then ((l.getD p.toNat default).e, true) else
    if inR (l.getD p.toNat default).flag 0 (flags - 1) = false then nowhere else
    if inR (if bitAt leaf (l.getD p.toNat default).flag = true then (l.getD p.toNat default).yes else (l.getD p.toNat default).no) 0 (p - 1) = false then nowhere else
    treeFind l flags leaf m (if bitAt leaf (l.getD p.toNat default).flag = true then (l.getD p.toNat default).yes else (l.getD p.toNat default).no)
def treeAsk (l : List Node) (leaf : Int) : Nat → Int → Env × Bool
  | 0, _ => nowhere
  | m + 1, p => if inR p 0 ((l.length : Int) - 1) = false then nowhere else
    if (l.getD p.toNat default).flag = -1 then ((l.getD p.toNat default).e, true) else
    if inR (l.getD p.toNat default).flag 0 2 = false then nowhere else
    treeAsk l leaf m (if bitAt leaf (l.getD p.toNat default).flag = true then (l.getD p.toNat default).yes else (l.getD p.toNat default).no)
def Rep (t : List Env) (l : List Node) : Nat → Nat → Nat → Nat → Prop
  | 0, _, b, p => p < l.length ∧ (l.getD p default).flag = -1 ∧ (l.getD p default).e = t.getD b default
  | n + 1, f, b, p => (Rep t l n (f + 1) b p ∧ Rep t l n (f + 1) (b + p2 f) p) ∨
    (p < l.length ∧ (l.getD p default).flag = (f : Int) ∧ ∃ q1 q2 : Nat, (l.getD p default).no = (q1 : Int) ∧ (l.getD p default).yes = (q2 : Int) ∧ q1 < p ∧ q2 < p ∧ Rep t l n (f + 1) b q1 ∧ Rep t l n (f + 1) (b + p2 f) q2)
theorem Rep.lt {t : List Env} {l : List Node} : ∀ {n f b p : Nat}, Rep t l n f b p → p < l.length
  | 0, _, _, _, h => h.1
  | n + 1, _, _, _, h => by
    rcases h with h | h
    · exact Rep.lt h.1
    · exact h.1
theorem getD_app {α : Type} [Inhabited α] {l e : List α} {p : Nat} (h : p < l.length) : (l ++ e).getD p default = l.getD p default := by
  simp [List.getD_eq_getElem?_getD, List.getElem?_append_left h]
theorem Rep.app {t : List Env} {l e : List Node} : ∀ {n f b p : Nat}, Rep t l n f b p → Rep t (l ++ e) n f b p
  | 0, _, _, _, h => ⟨by rw [List.length_append]; have := h.1; omega, by rw [getD_app h.1]; exact h.2.1, by rw [getD_app h.1]; exact h.2.2⟩
  | n + 1, _, _, _, h => by
    rcases h with h | ⟨h1, h2, q1, q2, h3, h4, h5, h6, h7, h8⟩
    · exact .inl ⟨h.1.app, h.2.app⟩
    · exact .inr ⟨by rw [List.length_append]; omega, by rw [getD_app h1]; exact h2, q1, q2, by rw [getD_app h1]; exact h3, by rw [getD_app h1]; exact h4, h5, h6, h7.app, h8.app⟩
theorem half {f m b : Nat} (hb : b < p2 f) : ((b + p2 f * m) / p2 f) % 2 = m % 2 := by
  have h0 : 0 < p2 f := by omega
  rw [Nat.add_mul_div_left _ _ h0, Nat.div_eq_of_lt hb, Nat.zero_add]
theorem p2_add (f n : Nat) : p2 (f + n) = p2 f * p2 n := by unfold p2; rw [Nat.pow_add]
theorem leaf_split {f n b m : Nat} (hm : m < p2 (n + 1)) : ∃ m', m' < p2 n ∧ ((m % 2 = 0 ∧ b + p2 f * m = b + p2 (f + 1) * m') ∨ (m % 2 = 1 ∧ b + p2 f * m = b + p2 f + p2 (f + 1) * m')) := by
  rw [p2_step] at hm
  refine ⟨m / 2, by omega, ?_⟩
  rw [p2_step]
  have e : m = 2 * (m / 2) + m % 2 := by omega
  rcases (by omega : m % 2 = 0 ∨ m % 2 = 1) with h | h
  · refine .inl ⟨h, ?_⟩
    have e2 : p2 f * m = 2 * p2 f * (m / 2) := by
      rw [show m = 2 * (m / 2) by omega, Nat.mul_comm 2 (p2 f), Nat.mul_assoc]
      congr 2; omega
    omega
  · refine .inr ⟨h, ?_⟩
    have e2 : p2 f * m = p2 f + 2 * p2 f * (m / 2) := by
      have e3 : m = 2 * (m / 2) + 1 := by omega
      conv => lhs; rw [e3]
      rw [Nat.mul_add, Nat.mul_one, Nat.mul_comm 2 (p2 f), Nat.mul_assoc]; omega
    omega
theorem small_leaf {f n b m : Nat} (hb : b < p2 f) (hm : m < p2 n) (h3 : f + n ≤ 3) : b + p2 f * m < 8 := by
  have h1 := p2_le h3
  rw [p2_add] at h1
  have h2 : p2 f * (m + 1) ≤ p2 f * p2 n := Nat.mul_le_mul_left _ (by omega)
  rw [Nat.mul_add, Nat.mul_one] at h2
  omega
theorem find_rep {t : List Env} {l : List Node} {D : Nat} (hD : D ≤ 3) : ∀ {n f b p m fuel : Nat}, Rep t l n f b p → f + n = D → b < p2 f → m < p2 n → p < fuel → treeFind l (D : Int) ((b + p2 f * m : Nat) : Int) fuel (p : Int) = (t.getD (b + p2 f * m) default, true)
  | 0, f, b, p, m, fuel, h, hn, hb, hm, hp => by
    have e : m = 0 := by have : p2 0 = 1 := rfl; omega
    subst e
    obtain ⟨h1, h2, h3⟩ := h
    cases fuel with
    | zero => omega
    | succ fuel =>
      rw [treeFind, if_neg (by omega), Int.toNat_natCast, if_pos h2, h3]; rfl
  | n + 1, f, b, p, m, fuel, h, hn, hb, hm, hp => by
    obtain ⟨m', hm', hcase⟩ := leaf_split (f := f) (b := b) hm
    have hp2 := p2_step f
    rcases h with ⟨ha, hb2⟩ | ⟨h1, h2, q1, q2, h3, h4, h5, h6, h7, h8⟩
    · rcases hcase with ⟨_, e⟩ | ⟨_, e⟩
      · rw [e]; exact find_rep hD ha (by omega) (by omega) hm' hp
      · rw [e]; exact find_rep hD hb2 (by omega) (by omega) hm' hp
    · cases fuel with
      | zero => omega
      | succ fuel =>
        have hs := small_leaf (n := n + 1) hb hm (by omega)
        have hbit := bitAt_of (g := b + p2 f * m) (f := f) (by omega) hs
        rw [half hb] at hbit
        rw [treeFind, if_neg (by omega), Int.toNat_natCast, h2, if_neg (by omega), if_neg (by simp [inR]; omega)]
        rcases hcase with ⟨hpar, e⟩ | ⟨hpar, e⟩
        · have hb0 : bitAt ((b + p2 f * m : Nat) : Int) (f : Int) = false := by rw [hbit]; simp [hpar]
          simp only [hb0, Bool.false_eq_true, if_false, h3]
          rw [if_neg (by simp [inR]; omega), e]
          exact find_rep hD h7 (by omega) (by omega) hm' (by omega)
        · have hb0 : bitAt ((b + p2 f * m : Nat) : Int) (f : Int) = true := by rw [hbit]; simp [hpar]
          simp only [hb0, if_true, h4]
          rw [if_neg (by simp [inR]; omega), e]
          exact find_rep hD h8 (by omega) (by omega) hm' (by omega)
theorem ask_rep {t : List Env} {l : List Node} : ∀ {n f b p m fuel : Nat}, Rep t l n f b p → f + n ≤ 3 → b < p2 f → m < p2 n → n < fuel → treeAsk l ((b + p2 f * m : Nat) : Int) fuel (p : Int) = (t.getD (b + p2 f * m) default, true)
  | 0, f, b, p, m, fuel, h, hn, hb, hm, hp => by
    have e : m = 0 := by have : p2 0 = 1 := rfl; omega
    subst e
    obtain ⟨h1, h2, h3⟩ := h
    cases fuel with
    | zero => omega
    | succ fuel =>
      rw [treeAsk, if_neg (by simp [inR]; omega), Int.toNat_natCast, if_pos h2, h3]; rfl
  | n + 1, f, b, p, m, fuel, h, hn, hb, hm, hp => by
    obtain ⟨m', hm', hcase⟩ := leaf_split (f := f) (b := b) hm
    have hp2 := p2_step f
    have hlt := Rep.lt h
    rcases h with ⟨ha, hb2⟩ | ⟨h1, h2, q1, q2, h3, h4, h5, h6, h7, h8⟩
    · rcases hcase with ⟨_, e⟩ | ⟨_, e⟩
      · rw [e]; exact ask_rep ha (by omega) (by omega) hm' (by omega)
      · rw [e]; exact ask_rep hb2 (by omega) (by omega) hm' (by omega)
    · cases fuel with
      | zero => omega
      | succ fuel =>
        have hs := small_leaf (n := n + 1) hb hm (by omega)
        have hbit := bitAt_of (g := b + p2 f * m) (f := f) (by omega) hs
        rw [half hb] at hbit
        rw [treeAsk, if_neg (by simp [inR]; omega), Int.toNat_natCast, h2, if_neg (by omega), if_neg (by simp [inR]; omega)]
        rcases hcase with ⟨hpar, e⟩ | ⟨hpar, e⟩
        · have hb0 : bitAt ((b + p2 f * m : Nat) : Int) (f : Int) = false := by rw [hbit]; simp [hpar]
          rw [hb0, if_neg (by decide), h3, e]
          exact ask_rep h7 (by omega) (by omega) hm' (by omega)
        · have hb0 : bitAt ((b + p2 f * m : Nat) : Int) (f : Int) = true := by rw [hbit]; simp [hpar]
          rw [hb0, if_pos rfl, h4, e]
          exact ask_rep h8 (by omega) (by omega) hm' (by omega)
def Falls (l : List Node) : Prop := ∀ i, i < l.length → (l.getD i default).flag ≠ -1 → (l.getD i default).no < (i : Int) ∧ (l.getD i default).yes < (i : Int)
structure Built (t : List Env) (l l' : List Node) (n f b : Nat) (p : Int) : Prop where
  ext : ∃ e, l' = l ++ e
  pos : 0 ≤ p
  rep : Rep t l' n f b p.toNat
  last : (p < (l.length : Int) ∧ l' = l) ∨ (p + 1 = (l'.length : Int) ∧ (l.length : Int) ≤ p)
  falls : Falls l'
theorem at_node {l : List Node} {n : Node} (h : treeAt l n ≥ 0) : (treeAt l n).toNat < l.length ∧ l.getD (treeAt l n).toNat default = n := by
  have h1 := treeAt_bnd l n
  refine ⟨by omega, ?_⟩
  unfold treeAt idx at h ⊢
  split at h
  · rename_i h2
    rw [if_pos h2, Int.toNat_natCast]
    have h3 := List.findIdx_getElem (w := h2)
    have h4 := Node.same_iff.1 h3
    rw [List.getD_eq_getElem?_getD, List.getElem?_eq_getElem h2]; exact h4
  · omega
theorem getD_last {α : Type} [Inhabited α] (l : List α) (x : α) : (l ++ [x]).getD l.length default = x := by simp [List.getD_eq_getElem?_getD]
theorem Falls.snoc {l : List Node} {n : Node} (h : Falls l) (hn : n.flag ≠ -1 → n.no < (l.length : Int) ∧ n.yes < (l.length : Int)) : Falls (l ++ [n]) := fun i hi hf => by
  by_cases h1 : i < l.length
  · rw [getD_app h1] at hf ⊢; exact h i h1 hf
  · have e : i = l.length := by simp at hi; omega
    subst e
    rw [getD_last] at hf ⊢; exact hn hf
theorem built (t : List Env) : ∀ (n f b : Nat) (l : List Node), Falls l → Built t l (treeGo t n f b l).1 n f b (treeGo t n f b l).2
  | 0, f, b, l, hl => by
    rw [treeGo]
    by_cases h : treeAt l ⟨-1, 0, 0, t.getD b default⟩ ≥ 0
    · rw [treePut_in h]
      obtain ⟨h1, h2⟩ := at_node h
      exact ⟨⟨[], by simp⟩, h, ⟨h1, by rw [h2], by rw [h2]⟩, .inl ⟨by omega, rfl⟩, hl⟩
    · rw [treePut_new h]
      exact ⟨⟨_, rfl⟩, by simp, ⟨by simp, by simp only [Int.toNat_natCast, getD_last], by simp only [Int.toNat_natCast, getD_last]⟩, .inr ⟨by simp, by simp⟩, hl.snoc (by simp)⟩
  | n + 1, f, b, l, hl => by
    obtain ⟨⟨x1, e1⟩, p1, r1, s1, w1⟩ := built t n (f + 1) b l hl
    obtain ⟨⟨x2, e2⟩, p2', r2, s2, w2⟩ := built t n (f + 1) (b + p2 f) (treeGo t n (f + 1) b l).1 w1
    have k1 := Rep.lt r1
    have k2 := Rep.lt r2
    rw [treeGo]
    generalize treeGo t n (f + 1) b l = R at *
    generalize treeGo t n (f + 1) (b + p2 f) R.1 = S at *
    obtain ⟨l1, a1⟩ := R
    obtain ⟨l2, a2⟩ := S
    simp only at *
    subst e1
    subst e2
    have r1' : Rep t (l ++ x1 ++ x2) n (f + 1) b a1.toNat := r1.app
    by_cases h : a1 = a2
    · subst h
      rw [if_pos rfl]
      refine ⟨⟨x1 ++ x2, by simp⟩, p1, .inl ⟨r1', r2⟩, ?_, w2⟩
      rcases s1 with ⟨s1, s1'⟩ | ⟨s1, s1'⟩
      · rcases s2 with ⟨s2, s2'⟩ | ⟨s2, s2'⟩
        · exact .inl ⟨s1, s2'.trans s1'⟩
        · simp at s2'; omega
      · rcases s2 with ⟨s2, s2'⟩ | ⟨s2, s2'⟩
        · exact .inr ⟨by rw [s2']; exact s1, s1'⟩
        · exact .inr ⟨s2, s1'⟩
    · rw [if_neg h]
      have hlen1 : (a1 : Int) < ((l ++ x1 ++ x2).length : Int) := by simp only [List.length_append] at k1 ⊢; omega
      have hlen2 : (a2 : Int) < ((l ++ x1 ++ x2).length : Int) := by omega
      by_cases hp : treeAt (l ++ x1 ++ x2) ⟨f, a1, a2, ⟨false, [], []⟩⟩ ≥ 0
      · rw [treePut_in hp]
        obtain ⟨g1, g2⟩ := at_node hp
        have hf := w2 _ g1 (by rw [g2]; simp only; omega)
        rw [g2] at hf
        simp only at hf
        have hpos : (((treeAt (l ++ x1 ++ x2) ⟨f, a1, a2, ⟨false, [], []⟩⟩).toNat : Nat) : Int) = treeAt (l ++ x1 ++ x2) ⟨f, a1, a2, ⟨false, [], []⟩⟩ := by omega
        refine ⟨⟨x1 ++ x2, by simp⟩, hp, .inr ⟨g1, by rw [g2], a1.toNat, a2.toNat, by rw [g2]; simp only; omega, by rw [g2]; simp only; omega, by omega, by omega, r1', r2⟩, ?_, w2⟩
        have s12 : l ++ x1 ++ x2 = l := by
          rcases s2 with ⟨s2, s2'⟩ | ⟨s2, s2'⟩
          · rcases s1 with ⟨s1, s1'⟩ | ⟨s1, s1'⟩
            · exact s2'.trans s1'
            · have : ((l ++ x1 ++ x2).length : Int) = ((l ++ x1).length : Int) := by rw [s2']
              omega
          · omega
        refine .inl ⟨?_, s12⟩
        have : ((l ++ x1 ++ x2).length : Int) = (l.length : Int) := by rw [s12]
        omega
      · rw [treePut_new hp]
        refine ⟨⟨x1 ++ x2 ++ [⟨f, a1, a2, ⟨false, [], []⟩⟩], by simp⟩, Int.natCast_nonneg _, .inr ⟨by simp only [List.length_append, List.length_singleton, Int.toNat_natCast]; omega, by simp only [Int.toNat_natCast, getD_last], a1.toNat, a2.toNat, ?_, ?_, by omega, by omega, r1'.app, r2.app⟩, .inr ⟨by simp only [List.length_append, List.length_singleton]; omega, by simp only [List.length_append]; omega⟩, w2.snoc fun _ => ⟨by simp only; omega, by simp only; omega⟩⟩
        · simp only [Int.toNat_natCast, getD_last]; omega
        · simp only [Int.toNat_natCast, getD_last]; omega
def findR (l : List Node) (flags leaf : Int) : Env × Bool := treeFind l flags leaf l.length ((l.length : Int) - 1)
def askR (l : List Node) (leaf : Int) : Env × Bool := treeAsk l leaf 5 ((l.length : Int) - 1)
def tabOf (get : Int → Env × Bool) (n : Nat) : List Env := (List.range n).map fun i : Nat => (get i).1
def hasAll (get : Int → Env × Bool) (n : Nat) : Bool := allTo n fun i => (get i).2
theorem tabOf_len (get : Int → Env × Bool) (n : Nat) : (tabOf get n).length = n := by simp [tabOf]
theorem tabOf_step (get : Int → Env × Bool) (n : Nat) : tabOf get n ++ [(get n).1] = tabOf get (n + 1) := by simp [tabOf, List.range_succ]
theorem tabOf_eq {get : Int → Env × Bool} {o : List Env} (h : ∀ i, i < o.length → get (i : Int) = (o.getD i default, true)) : tabOf get o.length = o ∧ hasAll get o.length = true := by
  constructor
  · refine List.ext_getElem (tabOf_len _ _) fun i h1 h2 => ?_
    simp only [tabOf, List.getElem_map, List.getElem_range, h i h2, List.getD_eq_getElem?_getD, List.getElem?_eq_getElem h2]; rfl
  · exact allTo_iff.2 fun i hi => by rw [h i hi]
def IsTree (d : Decl) (o : List Env) (l : List Node) : Prop := Table.ok d o = true ∧ l = (treeGo o (dep o - 0) 0 0 []).1
theorem IsTree.len {d : Decl} {o : List Env} {l : List Node} (h : IsTree d o l) : o.length = p2 d.flags.length ∧ dep o = d.flags.length ∧ d.flags.length ≤ 3 := by
  obtain ⟨h1, h2⟩ := Pow2.of h.1
  exact ⟨by rw [← h2]; exact h1.1, h2, by rw [← h2]; exact h1.2⟩
theorem IsTree.get {d : Decl} {o : List Env} {l : List Node} (h : IsTree d o l) : ∀ i : Nat, i < o.length → findR l (d.flags.length : Int) i = (o.getD i default, true) ∧ askR l i = (o.getD i default, true) := fun i hi => by
  obtain ⟨h1, h2, h3⟩ := h.len
  obtain ⟨_, hb2, hb3, hb4, _⟩ := built o (dep o - 0) 0 0 [] (fun i hi => by simp at hi)
  rw [← h.2] at hb3 hb4
  have hlt := Rep.lt hb3
  have hp : (treeGo o (dep o - 0) 0 0 []).2 = (l.length : Int) - 1 := by
    rcases hb4 with ⟨hb4, _⟩ | ⟨hb4, _⟩
    · simp only [List.length_nil] at hb4; omega
    · omega
  have hpn : (((treeGo o (dep o - 0) 0 0 []).2).toNat : Int) = (l.length : Int) - 1 := by omega
  rw [Nat.sub_zero] at hb3 hpn
  rw [h2] at hb3 hpn
  have hm : i < p2 d.flags.length := by omega
  have e : (0 + p2 0 * i : Nat) = i := by rw [p2_zero]; omega
  have f1 := find_rep (m := i) (fuel := l.length) h3 hb3 (by omega) (by decide) hm (by omega)
  have f2 := ask_rep (m := i) (fuel := 5) hb3 (by omega) (by decide) hm (by omega)
  rw [e, hpn] at f1 f2
  exact ⟨f1, f2⟩
theorem IsTree.tabs {d : Decl} {o : List Env} {l : List Node} (h : IsTree d o l) : (tabOf (findR l (d.flags.length : Int)) (p2 d.flags.length) = o ∧ hasAll (findR l (d.flags.length : Int)) (p2 d.flags.length) = true) ∧ tabOf (askR l) (p2 d.flags.length) = o ∧ hasAll (askR l) (p2 d.flags.length) = true := by
  rw [← h.len.1]
  exact ⟨tabOf_eq fun i hi => (h.get i hi).1, tabOf_eq fun i hi => (h.get i hi).2⟩
theorem IsTree.size {d : Decl} {o : List Env} {l : List Node} (h : IsTree d o l) : l.length ≤ 15 ∧ l.length ≠ 0 := by
  have h1 := treeGo_len o (dep o - 0) 0 0 []
  rw [← h.2] at h1
  obtain ⟨_, h2, h3⟩ := h.len
  have h4 := p2_le h3
  have h5 := p2_step d.flags.length
  rw [h2, Nat.sub_zero] at h1
  obtain ⟨_, _, hb3, _⟩ := built o (dep o - 0) 0 0 [] (fun i hi => by simp at hi)
  rw [← h.2] at hb3
  have := Rep.lt hb3
  simp only [List.length_nil] at h1
  omega
def Table.ofI (d : Decl) (T : Tree) : List Env × Bool :=
  if (Decl.ok d = true ∧ hasAll (findR T.nodes (d.flags.length : Int)) (p2 d.flags.length) = true) ∧ Table.isIn d (tabOf (findR T.nodes (d.flags.length : Int)) (p2 d.flags.length)) = true ∧
    all2 Node.same (treeGo (tabOf (findR T.nodes (d.flags.length : Int)) (p2 d.flags.length)) (dep (tabOf (findR T.nodes (d.flags.length : Int)) (p2 d.flags.length)) - 0) 0 0 []).1 T.nodes = true then
    (tabOf (findR T.nodes (d.flags.length : Int)) (p2 d.flags.length), true) else ([], false)
def Table.ofS (d : Decl) (T : Tree) : List Env × Bool :=
  if ((Decl.ok d = true ∧ ¬ (T.nodes.length : Int) > 15) ∧ hasAll (askR T.nodes) (p2 d.flags.length) = true) ∧ ((Tree.of d (tabOf (askR T.nodes) (p2 d.flags.length))).nodes.length : Int) = (T.nodes.length : Int) ∧ ¬ (T.nodes.length : Int) = 0 ∧
    all2 Node.same (Tree.of d (tabOf (askR T.nodes) (p2 d.flags.length))).nodes T.nodes = true then
    (tabOf (askR T.nodes) (p2 d.flags.length), true) else ([], false)
theorem node_all2 {a b : List Node} (h : all2 Node.same a b = true) : a = b := all2_eq (fun h => Node.same_iff.1 h) h
theorem Table.of_eq (d : Decl) (T : Tree) : Table.ofS d T = Table.ofI d T := by
  have hI : ∀ {o : List Env}, IsTree d o T.nodes → Table.ofI d T = (o, true) := fun {o} h => by
    obtain ⟨⟨h1, h2⟩, _⟩ := h.tabs
    unfold Table.ofI
    have hok := h.1
    unfold Table.ok at hok
    rw [h1, h2, if_pos ⟨⟨(Bool.and_eq_true_iff.1 hok).1, rfl⟩, Table.ok_in h.1, by rw [← h.2]; exact all2_self Node.same_self _⟩]
  have hS : ∀ {o : List Env}, IsTree d o T.nodes → Table.ofS d T = (o, true) := fun {o} h => by
    obtain ⟨_, h1, h2⟩ := h.tabs
    have h3 := h.size
    have h4 : (Tree.of d o).nodes = T.nodes := by rw [Tree.of_yes h.1, ← h.2]
    unfold Table.ofS
    have hok := h.1
    unfold Table.ok at hok
    rw [h1, h2, h4, if_pos ⟨⟨⟨(Bool.and_eq_true_iff.1 hok).1, by omega⟩, rfl⟩, rfl, by omega, all2_self Node.same_self _⟩]
  by_cases c1 : ((Decl.ok d = true ∧ ¬ (T.nodes.length : Int) > 15) ∧ hasAll (askR T.nodes) (p2 d.flags.length) = true) ∧ ((Tree.of d (tabOf (askR T.nodes) (p2 d.flags.length))).nodes.length : Int) = (T.nodes.length : Int) ∧ ¬ (T.nodes.length : Int) = 0 ∧
    all2 Node.same (Tree.of d (tabOf (askR T.nodes) (p2 d.flags.length))).nodes T.nodes = true
  · have h1 := node_all2 c1.2.2.2
    have h2 : IsTree d (tabOf (askR T.nodes) (p2 d.flags.length)) T.nodes := by
      cases h3 : Table.ok d (tabOf (askR T.nodes) (p2 d.flags.length))
      · rw [Tree.of_no h3] at h1
        have := c1.2.2.1
        rw [← h1] at this; simp at this
      · rw [Tree.of_yes h3] at h1
        exact ⟨h3, h1.symm⟩
    rw [hI h2, hS h2]
  · have e1 : Table.ofS d T = ([], false) := by unfold Table.ofS; rw [if_neg c1]
    by_cases c2 : (Decl.ok d = true ∧ hasAll (findR T.nodes (d.flags.length : Int)) (p2 d.flags.length) = true) ∧ Table.isIn d (tabOf (findR T.nodes (d.flags.length : Int)) (p2 d.flags.length)) = true ∧
      all2 Node.same (treeGo (tabOf (findR T.nodes (d.flags.length : Int)) (p2 d.flags.length)) (dep (tabOf (findR T.nodes (d.flags.length : Int)) (p2 d.flags.length)) - 0) 0 0 []).1 T.nodes = true
    · have h1 := node_all2 c2.2.2
      have h2 : IsTree d (tabOf (findR T.nodes (d.flags.length : Int)) (p2 d.flags.length)) T.nodes := ⟨by unfold Table.ok; rw [c2.1.1, c2.2.1]; rfl, h1.symm⟩
      rw [hI h2, hS h2]
    · have e2 : Table.ofI d T = ([], false) := by unfold Table.ofI; rw [if_neg c2]
      rw [e1, e2]
def leafCount (l : List Node) : Nat → Int
  | 0 => 0
  | j + 1 => leafCount l j + truthN ((l.getD j default).flag == -1)
def Tree.leaves (d : Decl) (T : Tree) : Int := if (Table.ofI d T).2 = true then leafCount T.nodes T.nodes.length else -1
section
variable {l : List Node} {fl leaf p : Int} {m i : Nat}
theorem find_end (h : ¬ p ≥ 0) : treeFind l fl leaf m p = nowhere := by
  cases m with
  | zero => rfl
  | succ m => rw [treeFind, if_pos (by omega)]
theorem find_leaf (h : p ≥ 0) (hm : p < m) (h1 : (l.getD p.toNat default).flag = -1) : treeFind l fl leaf m p = ((l.getD p.toNat default).e, true) := by
  cases m with
  | zero => omega
  | succ m => rw [treeFind, if_neg (by omega), if_pos h1]
theorem find_flag (h : p ≥ 0) (hm : p < m) (h1 : ¬ (l.getD p.toNat default).flag = -1) (h2 : inR (l.getD p.toNat default).flag 0 (fl - 1) = false) : treeFind l fl leaf m p = nowhere := by
  cases m with
  | zero => omega
  | succ m => rw [treeFind, if_neg (by omega), if_neg h1, if_pos h2]
theorem find_outY (h : p ≥ 0) (hm : p < m) (h1 : ¬ (l.getD p.toNat default).flag = -1) (h2 : inR (l.getD p.toNat default).flag 0 (fl - 1) = true) (h3 : bitAt leaf (l.getD p.toNat default).flag = true) (h4 : inR (l.getD p.toNat default).yes 0 (p - 1) = false) : treeFind l fl leaf m p = nowhere := by
  cases m with
  | zero => omega
  | succ m => rw [treeFind, if_neg (by omega), if_neg h1, if_neg (by rw [h2]; decide), if_pos (by rw [if_pos h3]; exact h4)]
theorem find_outN (h : p ≥ 0) (hm : p < m) (h1 : ¬ (l.getD p.toNat default).flag = -1) (h2 : inR (l.getD p.toNat default).flag 0 (fl - 1) = true) (h3 : bitAt leaf (l.getD p.toNat default).flag = false) (h4 : inR (l.getD p.toNat default).no 0 (p - 1) = false) : treeFind l fl leaf m p = nowhere := by
  cases m with
  | zero => omega
  | succ m => rw [treeFind, if_neg (by omega), if_neg h1, if_neg (by rw [h2]; decide), if_pos (by rw [if_neg (by rw [h3]; decide)]; exact h4)]
theorem find_goY (h : p ≥ 0) (hm : p < m) (h1 : ¬ (l.getD p.toNat default).flag = -1) (h2 : inR (l.getD p.toNat default).flag 0 (fl - 1) = true) (h3 : bitAt leaf (l.getD p.toNat default).flag = true) (h4 : inR (l.getD p.toNat default).yes 0 (p - 1) = true) : treeFind l fl leaf m p = treeFind l fl leaf (m - 1) (l.getD p.toNat default).yes := by
  cases m with
  | zero => omega
  | succ m =>
    rw [treeFind, if_neg (by omega), if_neg h1, if_neg (by rw [h2]; decide)]
    simp only [h3, if_true]
    rw [if_neg (by rw [h4]; decide), Nat.add_sub_cancel]
theorem find_goN (h : p ≥ 0) (hm : p < m) (h1 : ¬ (l.getD p.toNat default).flag = -1) (h2 : inR (l.getD p.toNat default).flag 0 (fl - 1) = true) (h3 : bitAt leaf (l.getD p.toNat default).flag = false) (h4 : inR (l.getD p.toNat default).no 0 (p - 1) = true) : treeFind l fl leaf m p = treeFind l fl leaf (m - 1) (l.getD p.toNat default).no := by
  cases m with
  | zero => omega
  | succ m =>
    rw [treeFind, if_neg (by omega), if_neg h1, if_neg (by rw [h2]; decide)]
    simp only [h3, Bool.false_eq_true, if_false]
    rw [if_neg (by rw [h4]; decide), Nat.add_sub_cancel]
theorem inR_get {x a b : Int} (h : inR x a b = true) : a ≤ x ∧ x ≤ b := by
  simp only [inR, Bool.and_eq_true, decide_eq_true_eq] at h; omega
theorem ask_end (h : ¬ (i : Int) < 5 ∨ inR p 0 ((l.length : Int) - 1) = false) : treeAsk l leaf (5 - i) p = nowhere := by
  cases hm : 5 - i with
  | zero => rfl
  | succ m => rw [treeAsk, if_pos (h.resolve_left (by omega))]
theorem ask_leaf (h : (i : Int) < 5 ∧ inR p 0 ((l.length : Int) - 1) = true) (h1 : (l.getD p.toNat default).flag = -1) : treeAsk l leaf (5 - i) p = ((l.getD p.toNat default).e, true) := by
  rw [show 5 - i = (4 - i) + 1 by omega, treeAsk, if_neg (by rw [h.2]; decide), if_pos h1]
theorem ask_flag (h : (i : Int) < 5 ∧ inR p 0 ((l.length : Int) - 1) = true) (h1 : ¬ (l.getD p.toNat default).flag = -1) (h2 : inR (l.getD p.toNat default).flag 0 2 = false) : treeAsk l leaf (5 - i) p = nowhere := by
  rw [show 5 - i = (4 - i) + 1 by omega, treeAsk, if_neg (by rw [h.2]; decide), if_neg h1, if_pos h2]
theorem ask_goY (h : (i : Int) < 5 ∧ inR p 0 ((l.length : Int) - 1) = true) (h1 : ¬ (l.getD p.toNat default).flag = -1) (h2 : inR (l.getD p.toNat default).flag 0 2 = true) (h3 : bitAt leaf (l.getD p.toNat default).flag = true) : treeAsk l leaf (5 - i) p = treeAsk l leaf (5 - (i + 1)) (l.getD p.toNat default).yes := by
  rw [show 5 - i = (4 - i) + 1 by omega, treeAsk, if_neg (by rw [h.2]; decide), if_neg h1, if_neg (by rw [h2]; decide), if_pos h3, show 5 - (i + 1) = 4 - i by omega]
theorem ask_goN (h : (i : Int) < 5 ∧ inR p 0 ((l.length : Int) - 1) = true) (h1 : ¬ (l.getD p.toNat default).flag = -1) (h2 : inR (l.getD p.toNat default).flag 0 2 = true) (h3 : bitAt leaf (l.getD p.toNat default).flag = false) : treeAsk l leaf (5 - i) p = treeAsk l leaf (5 - (i + 1)) (l.getD p.toNat default).no := by
  rw [show 5 - i = (4 - i) + 1 by omega, treeAsk, if_neg (by rw [h.2]; decide), if_neg h1, if_neg (by rw [h2]; decide), if_neg (by rw [h3]; decide), show 5 - (i + 1) = 4 - i by omega]
end
theorem tree_small {l : List Node} {fl leaf : Int} {B : Nat} (h : ∀ x ∈ l, x.e.ints.length ≤ B ∧ x.e.arrs.length ≤ B) : ∀ m p, (treeFind l fl leaf m p).1.ints.length ≤ B ∧ (treeFind l fl leaf m p).1.arrs.length ≤ B
  | 0, _ => by simp [treeFind, nowhere]
  | m + 1, p => by
    have hd : ∀ q, (l.getD q default).e.ints.length ≤ B ∧ (l.getD q default).e.arrs.length ≤ B := fun q => by
      by_cases hq : q < l.length
      · exact h _ (getD_mem hq)
      · have e : l.getD q default = (default : Node) := by rw [List.getD_eq_getElem?_getD, List.getElem?_eq_none (by omega)]; rfl
        have e1 : (default : Node).e.ints = [] := rfl
        have e2 : (default : Node).e.arrs = [] := rfl
        rw [e, e1, e2]; simp
    have hn : nowhere.1.ints.length ≤ B ∧ nowhere.1.arrs.length ≤ B := by simp [nowhere]
    have ih := tree_small (fl := fl) (leaf := leaf) h m
    rw [treeFind]
    repeat' split
    all_goals first | exact hn | exact hd _ | exact ih _
theorem ask_small {l : List Node} {leaf : Int} {B : Nat} (h : ∀ x ∈ l, x.e.ints.length ≤ B ∧ x.e.arrs.length ≤ B) : ∀ m p, (treeAsk l leaf m p).1.ints.length ≤ B ∧ (treeAsk l leaf m p).1.arrs.length ≤ B
  | 0, _ => by simp [treeAsk, nowhere]
  | m + 1, p => by
    have hd : ∀ q, (l.getD q default).e.ints.length ≤ B ∧ (l.getD q default).e.arrs.length ≤ B := fun q => by
      by_cases hq : q < l.length
      · exact h _ (getD_mem hq)
      · have e : l.getD q default = (default : Node) := by rw [List.getD_eq_getElem?_getD, List.getElem?_eq_none (by omega)]; rfl
        have e1 : (default : Node).e.ints = [] := rfl
        have e2 : (default : Node).e.arrs = [] := rfl
        rw [e, e1, e2]; simp
    rw [treeAsk]
    split
    · simp [nowhere]
    split
    · exact hd _
    split
    · simp [nowhere]
    exact ask_small h m _
theorem askR_small {l : List Node} (h : SmallN l) (leaf : Int) : (askR l leaf).1.ints.length ≤ 1048576 ∧ (askR l leaf).1.arrs.length ≤ 1048576 := ask_small h.2 _ _
theorem findR_small {l : List Node} {fl : Int} (h : SmallN l) (leaf : Int) : (findR l fl leaf).1.ints.length ≤ 1048576 ∧ (findR l fl leaf).1.arrs.length ≤ 1048576 := tree_small h.2 _ _
theorem Decl.flags3 {d : Decl} (h : Decl.ok d = true) : d.flags.length ≤ 3 := by
  unfold Decl.ok at h
  simp only [Bool.and_eq_true, decide_eq_true_eq] at h
  omega
theorem leavesOf_p2 {d : Decl} (h : Decl.ok d = true) : leavesOf d = ((p2 d.flags.length : Nat) : Int) := pw (Decl.flags3 h)
theorem hasAll_step {get : Int → Env × Bool} {j : Nat} (h : hasAll get j = true) (h1 : (get (j : Int)).2 = true) : hasAll get (j + 1) = true := allTo_step h h1
theorem hasAll_fail {get : Int → Env × Bool} {j n : Nat} (hj : j < n) (h1 : (get (j : Int)).2 = false) : hasAll get n = false := allTo_fail hj h1
theorem tabOf_small {get : Int → Env × Bool} {B : Nat} (h : ∀ i, (get i).1.ints.length ≤ B ∧ (get i).1.arrs.length ≤ B) (n : Nat) : ∀ x ∈ tabOf get n, x.ints.length ≤ B ∧ x.arrs.length ≤ B := fun x hx => by
  simp only [tabOf, List.mem_map] at hx
  obtain ⟨i, _, rfl⟩ := hx
  exact h _
section
variable {d : Decl} {T : Tree}
theorem ofS_no1 (h : Decl.ok d = false ∨ (T.nodes.length : Int) > 15) : Table.ofS d T = ([], false) := by
  unfold Table.ofS; rw [if_neg]
  rintro ⟨⟨⟨h1, h2⟩, _⟩, _⟩
  rcases h with h | h
  · rw [h] at h1; cases h1
  · exact h2 h
theorem ofS_no2 {j : Nat} (hj : j < p2 d.flags.length) (h : (askR T.nodes (j : Int)).2 = false) : Table.ofS d T = ([], false) := by
  unfold Table.ofS; rw [if_neg]
  rintro ⟨⟨_, h1⟩, _⟩
  rw [hasAll_fail hj h] at h1; cases h1
theorem ofS_no3 (h : ¬ ((Tree.of d (tabOf (askR T.nodes) (p2 d.flags.length))).nodes.length : Int) = (T.nodes.length : Int) ∨ (T.nodes.length : Int) = 0) : Table.ofS d T = ([], false) := by
  unfold Table.ofS; rw [if_neg]
  rintro ⟨_, h1, h2, _⟩
  rcases h with h | h
  · exact h h1
  · exact h2 h
theorem ofS_no4 {j : Nat} (hj : j < (Tree.of d (tabOf (askR T.nodes) (p2 d.flags.length))).nodes.length) (h : Node.same ((Tree.of d (tabOf (askR T.nodes) (p2 d.flags.length))).nodes.getD j default) (T.nodes.getD j default) = false) : Table.ofS d T = ([], false) := by
  unfold Table.ofS; rw [if_neg]
  rintro ⟨_, _, _, h1⟩
  rw [all2_fail _ hj h] at h1; cases h1
theorem ofS_yes (h : Decl.ok d = true ∧ ¬ (T.nodes.length : Int) > 15) (h1 : hasAll (askR T.nodes) (p2 d.flags.length) = true) (h2 : ((Tree.of d (tabOf (askR T.nodes) (p2 d.flags.length))).nodes.length : Int) = (T.nodes.length : Int) ∧ ¬ (T.nodes.length : Int) = 0)
    (h3 : all2 Node.same (Tree.of d (tabOf (askR T.nodes) (p2 d.flags.length))).nodes T.nodes = true) : Table.ofS d T = (tabOf (askR T.nodes) (p2 d.flags.length), true) := by
  unfold Table.ofS; rw [if_pos ⟨⟨h, h1⟩, h2.1, h2.2, h3⟩]
theorem ofI_no1 (h : Decl.ok d = false) : Table.ofI d T = ([], false) := by
  unfold Table.ofI; rw [if_neg]
  rintro ⟨⟨h1, _⟩, _⟩
  rw [h] at h1; cases h1
theorem ofI_no2 {j : Nat} (hj : j < p2 d.flags.length) (h : (findR T.nodes (d.flags.length : Int) (j : Int)).2 = false) : Table.ofI d T = ([], false) := by
  unfold Table.ofI; rw [if_neg]
  rintro ⟨⟨_, h1⟩, _⟩
  rw [hasAll_fail hj h] at h1; cases h1
theorem ofI_no3 (h : Table.isIn d (tabOf (findR T.nodes (d.flags.length : Int)) (p2 d.flags.length)) = false ∨ all2 Node.same (treeGo (tabOf (findR T.nodes (d.flags.length : Int)) (p2 d.flags.length)) (dep (tabOf (findR T.nodes (d.flags.length : Int)) (p2 d.flags.length)) - 0) 0 0 []).1 T.nodes = false) : Table.ofI d T = ([], false) := by
  unfold Table.ofI; rw [if_neg]
  rintro ⟨_, h1, h2⟩
  rcases h with h | h
  · rw [h] at h1; cases h1
  · rw [h] at h2; cases h2
theorem ofI_yes (h : Decl.ok d = true) (h1 : hasAll (findR T.nodes (d.flags.length : Int)) (p2 d.flags.length) = true) (h2 : Table.isIn d (tabOf (findR T.nodes (d.flags.length : Int)) (p2 d.flags.length)) = true ∧ all2 Node.same (treeGo (tabOf (findR T.nodes (d.flags.length : Int)) (p2 d.flags.length)) (dep (tabOf (findR T.nodes (d.flags.length : Int)) (p2 d.flags.length)) - 0) 0 0 []).1 T.nodes = true) :
    Table.ofI d T = (tabOf (findR T.nodes (d.flags.length : Int)) (p2 d.flags.length), true) := by
  unfold Table.ofI; rw [if_pos ⟨⟨h, h1⟩, h2.1, h2.2⟩]
theorem Table.pow_of (h : Decl.ok d = true) {t : List Env} (h1 : Table.isIn d t = true) : Pow2 t ∧ dep t = d.flags.length := Pow2.of (by unfold Table.ok; rw [h, h1]; rfl)
theorem leaves_no (h : (Table.ofI d T).2 = false) : Tree.leaves d T = -1 := by unfold Tree.leaves; rw [if_neg (by rw [h]; decide)]
theorem leaves_yes (h : (Table.ofI d T).2 = true) : Tree.leaves d T = leafCount T.nodes T.nodes.length := by unfold Tree.leaves; rw [if_pos h]
theorem leafCount_bnd (l : List Node) : ∀ j, 0 ≤ leafCount l j ∧ leafCount l j ≤ j
  | 0 => ⟨Int.le_refl 0, Int.le_refl 0⟩
  | j + 1 => by
    have := leafCount_bnd l j
    have h : ∀ b, 0 ≤ truthN b ∧ truthN b ≤ 1 := fun b => by cases b <;> decide
    have := h ((l.getD j default).flag == -1)
    simp only [leafCount]; omega
theorem leafCount_step (l : List Node) {j : Nat} (h : j ≤ 1048576) : IntKind.wrap .i64 (leafCount l j + truthN ((l.getD j default).flag == -1)) = leafCount l (j + 1) := by
  have := leafCount_bnd l (j + 1)
  exact wrap_le (by simp only [leafCount] at this; omega) (by simp only [leafCount] at this; omega)
end
theorem ofI_small {d : Decl} {T : Tree} (h : SmallN T.nodes) : Small 1048576 (Table.ofI d T).1 := by
  unfold Table.ofI
  split
  · rename_i h1
    exact ⟨by rw [tabOf_len]; have := p2_le (Decl.flags3 h1.1.1); omega, tabOf_small (findR_small h) _⟩
  · exact ⟨by simp, by simp⟩
end Go.Proofs

namespace Go.Proofs
open Go Go.Ev
variable [Lay]
theorem ofI_of {d : Decl} {t : List Env} (h : Table.ok d t = true) : Table.ofI d (Tree.of d t) = (t, true) := by
  have hT : IsTree d t (Tree.of d t).nodes := ⟨h, by rw [Tree.of_yes h]⟩
  obtain ⟨⟨h1, h2⟩, _⟩ := hT.tabs
  have h3 := ofI_yes (T := Tree.of d t) (Table.ok_decl h) h2 ⟨by rw [h1]; exact Table.ok_in h, by rw [h1, ← hT.2]; exact all2_self Node.same_self _⟩
  rw [h3, h1]
theorem find_empty (fl leaf : Int) : findR [] fl leaf = nowhere := find_end (by simp)
theorem ofI_empty (d : Decl) : Table.ofI d ⟨[]⟩ = ([], false) :=
  ofI_no2 (j := 0) (Nat.two_pow_pos _) (by show (findR [] _ _).2 = false; rw [find_empty]; rfl)
theorem leaves_bad {d : Decl} {t : List Env} (h : Table.ok d t = false) : Tree.leaves d (Tree.of d t) = -1 := by
  rw [Tree.of_no h]; exact leaves_no (by rw [ofI_empty])
theorem treeGo_no {Q : Node → Prop} {t : List Env} (h0 : ∀ leaf, Q ⟨-1, 0, 0, t.getD leaf default⟩) (h1 : ∀ (f : Nat) a b, ¬ a = b → Q ⟨f, a, b, ⟨false, [], []⟩⟩) : ∀ (n flag leaf : Nat) (l : List Node), (∀ x ∈ l, Q x) → ∀ x ∈ (treeGo t n flag leaf l).1, Q x
  | 0, _, leaf, l, h => treePut_all h (h0 leaf)
  | n + 1, flag, leaf, l, h => by
    have g1 := treeGo_no h0 h1 n (flag + 1) leaf l h
    have g2 := treeGo_no h0 h1 n (flag + 1) (leaf + p2 flag) _ g1
    rw [treeGo]
    split
    · exact g2
    · rename_i hne; exact treePut_all g2 (h1 _ _ _ hne)
theorem at_mem {l : List Node} {n : Node} : treeAt l n ≥ 0 ↔ n ∈ l := by
  refine ⟨fun h => ?_, fun h => ?_⟩
  · obtain ⟨h1, h2⟩ := at_node h
    rw [← h2]; exact getD_mem h1
  · unfold treeAt idx
    rw [if_pos (List.findIdx_lt_length_of_exists (p := fun x => Node.same x n) ⟨n, h, Node.same_self n⟩)]
    omega
theorem put_mem {l : List Node} {n x : Node} : x ∈ (treePut l n).1 ↔ x ∈ l ∨ x = n := by
  by_cases h : treeAt l n ≥ 0
  · rw [treePut_in h]
    exact ⟨.inl, fun h1 => h1.elim id fun e => by rw [e]; exact at_mem.1 h⟩
  · rw [treePut_new h]; simp
theorem put_nodup {l : List Node} {n : Node} (h : l.Nodup) : (treePut l n).1.Nodup := by
  by_cases h1 : treeAt l n ≥ 0
  · rw [treePut_in h1]; exact h
  · rw [treePut_new h1]
    refine List.nodup_append.2 ⟨h, by simp, fun x hx y hy e => ?_⟩
    rw [List.mem_singleton.1 hy] at e
    exact h1 (at_mem.2 (e ▸ hx))
section
variable {t : List Env}
theorem go_nodup : ∀ (n flag leaf : Nat) (l : List Node), l.Nodup → (treeGo t n flag leaf l).1.Nodup
  | 0, _, leaf, l, h => put_nodup h
  | n + 1, flag, leaf, l, h => by
    have g1 := go_nodup n (flag + 1) leaf l h
    have g2 := go_nodup n (flag + 1) (leaf + p2 flag) _ g1
    rw [treeGo]
    split
    · exact g2
    · exact put_nodup g2
def leafNode (t : List Env) (i : Nat) : Node := ⟨-1, 0, 0, t.getD i default⟩
theorem go_sub : ∀ (n flag leaf : Nat) (l : List Node), ∀ x ∈ l, x ∈ (treeGo t n flag leaf l).1
  | 0, _, leaf, l, x, h => put_mem.2 (.inl h)
  | n + 1, flag, leaf, l, x, h => by
    have g1 := go_sub n (flag + 1) leaf l x h
    have g2 := go_sub n (flag + 1) (leaf + p2 flag) _ x g1
    rw [treeGo]
    split
    · exact g2
    · exact put_mem.2 (.inl g2)
theorem go_has : ∀ (n f b : Nat) (l : List Node) (m : Nat), m < p2 n → leafNode t (b + p2 f * m) ∈ (treeGo t n f b l).1
  | 0, f, b, l, m, h => by
    have : m = 0 := by have e : p2 0 = 1 := rfl; omega
    subst this
    exact put_mem.2 (.inr rfl)
  | n + 1, f, b, l, m, h => by
    obtain ⟨m', h1, h2⟩ := leaf_split (f := f) (b := b) h
    have key : leafNode t (b + p2 f * m) ∈ (treeGo t n (f + 1) (b + p2 f) (treeGo t n (f + 1) b l).1).1 := by
      rcases h2 with ⟨_, h2⟩ | ⟨_, h2⟩
      · rw [h2]; exact go_sub _ _ _ _ _ (go_has n (f + 1) b l m' h1)
      · rw [h2]; exact go_has n (f + 1) (b + p2 f) _ m' h1
    rw [treeGo]
    split
    · exact key
    · exact put_mem.2 (.inl key)
theorem go_leaf : ∀ (n f b : Nat) (l : List Node) (x : Node), x ∈ (treeGo t n f b l).1 → x.flag = -1 → x ∈ l ∨ ∃ m, m < p2 n ∧ x = leafNode t (b + p2 f * m)
  | 0, f, b, l, x, h, hf => by
    rcases put_mem.1 h with h | h
    · exact .inl h
    · exact .inr ⟨0, by decide, h⟩
  | n + 1, f, b, l, x, h, hf => by
    have key : x ∈ (treeGo t n (f + 1) (b + p2 f) (treeGo t n (f + 1) b l).1).1 := by
      rw [treeGo] at h
      split at h
      · exact h
      · rcases put_mem.1 h with h | h
        · exact h
        · rw [h] at hf
          have : ((f : Nat) : Int) = -1 := hf
          omega
    have e := p2_step n
    have ef := p2_step f
    have em : ∀ m', p2 (f + 1) * m' = p2 f * (2 * m') := fun m' => by rw [ef, Nat.mul_left_comm, Nat.mul_assoc]
    rcases go_leaf n (f + 1) (b + p2 f) _ x key hf with h1 | ⟨m, h1, h2⟩
    · rcases go_leaf n (f + 1) b l x h1 hf with h3 | ⟨m, h3, h4⟩
      · exact .inl h3
      · exact .inr ⟨2 * m, by omega, by rw [h4, em]⟩
    · refine .inr ⟨2 * m + 1, by omega, ?_⟩
      rw [h2, em, Nat.mul_add, Nat.mul_one]
      congr 1
      omega
theorem nodup_le : ∀ {a b : List Node}, a.Nodup → (∀ x ∈ a, x ∈ b) → a.length ≤ b.length
  | [], b, _, _ => by simp
  | x :: a, b, h, hs => by
    have h1 := List.nodup_cons.1 h
    have h2 := nodup_le (a := a) (b := b.filter fun y => !Node.same y x) h1.2 fun y hy => List.mem_filter.2 ⟨hs y (List.mem_cons_of_mem _ hy), by
      cases e : Node.same y x with
      | false => rfl
      | true => exact absurd ((Node.same_iff.1 e) ▸ hy) h1.1⟩
    have h3 : (b.filter fun y => !Node.same y x).length < b.length := List.length_filter_lt_length_iff_exists.2 ⟨x, hs x (by simp), by simp [Node.same_self]⟩
    simp only [List.length_cons]; omega
theorem leafCount_is (l : List Node) : ∀ j, j ≤ l.length → leafCount l j = (((l.take j).filter fun x => x.flag == -1).length : Int)
  | 0, _ => by simp [leafCount]
  | j + 1, h => by
    have e : l.take (j + 1) = l.take j ++ [l.getD j default] := by
      rw [List.take_add_one, List.getD_eq_getElem?_getD, List.getElem?_eq_getElem (by omega)]; rfl
    rw [leafCount, leafCount_is l j (by omega), e, List.filter_append, List.length_append]
    unfold truthN
    cases h1 : (l.getD j default).flag == -1 <;> simp only [List.filter_cons, h1] <;> simp
def oldTo (t : List Env) (i : Nat) : Nat → Bool
  | 0 => false
  | u + 1 => oldTo t i u || Env.same (t.getD i default) (t.getD u default)
def distTo (t : List Env) : Nat → Int
  | 0 => 0
  | j + 1 => if oldTo t j j = true then distTo t j else distTo t j + 1
def firstsL (t : List Env) : Nat → List Node
  | 0 => []
  | j + 1 => if oldTo t j j = true then firstsL t j else firstsL t j ++ [leafNode t j]
theorem oldTo_iff {i : Nat} : ∀ {u : Nat}, oldTo t i u = true ↔ ∃ v, v < u ∧ t.getD i default = t.getD v default
  | 0 => by simp [oldTo]
  | u + 1 => by
    rw [oldTo, Bool.or_eq_true, oldTo_iff (u := u), Env.same_iff]
    constructor
    · rintro (⟨v, h1, h2⟩ | h)
      · exact ⟨v, by omega, h2⟩
      · exact ⟨u, by omega, h⟩
    · rintro ⟨v, h1, h2⟩
      by_cases e : v = u
      · subst e; exact .inr h2
      · exact .inl ⟨v, by omega, h2⟩
theorem firsts_mem {x : Node} : ∀ {j : Nat}, x ∈ firstsL t j ↔ ∃ i, i < j ∧ x = leafNode t i
  | 0 => by simp [firstsL]
  | j + 1 => by
    have ih := firsts_mem (x := x) (j := j)
    have up : (∃ i, i < j ∧ x = leafNode t i) → ∃ i, i < j + 1 ∧ x = leafNode t i := fun ⟨i, h1, h2⟩ => ⟨i, by omega, h2⟩
    rw [firstsL]
    split
    · rename_i h
      rw [ih]
      refine ⟨up, fun ⟨i, h1, h2⟩ => ?_⟩
      by_cases e : i = j
      · obtain ⟨v, h3, h4⟩ := oldTo_iff.1 h
        exact ⟨v, h3, by rw [h2, e]; unfold leafNode; rw [h4]⟩
      · exact ⟨i, by omega, h2⟩
    · rw [List.mem_append, ih, List.mem_singleton]
      refine ⟨fun h1 => h1.elim up fun h2 => ⟨j, by omega, h2⟩, fun ⟨i, h1, h2⟩ => ?_⟩
      by_cases e : i = j
      · exact .inr (e ▸ h2)
      · exact .inl ⟨i, by omega, h2⟩
theorem firsts_nodup : ∀ j, (firstsL t j).Nodup
  | 0 => by simp [firstsL]
  | j + 1 => by
    rw [firstsL]
    split
    · exact firsts_nodup j
    · rename_i h
      refine List.nodup_append.2 ⟨firsts_nodup j, by simp, fun x hx y hy e => ?_⟩
      rw [List.mem_singleton.1 hy] at e
      subst e
      obtain ⟨i, h1, h2⟩ := firsts_mem.1 hx
      simp only [leafNode, Node.mk.injEq, true_and] at h2
      exact h (oldTo_iff.2 ⟨i, h1, h2⟩)
theorem firsts_len : ∀ j, ((firstsL t j).length : Int) = distTo t j
  | 0 => rfl
  | j + 1 => by
    rw [firstsL, distTo]
    split
    · exact firsts_len j
    · rw [List.length_append, ← firsts_len j]; simp
theorem dist_bnd : ∀ j : Nat, 0 ≤ distTo t j ∧ distTo t j ≤ j := fun j => by
  rw [← firsts_len]
  have : ∀ j, (firstsL t j).length ≤ j := fun j => by
    induction j with
    | zero => simp [firstsL]
    | succ j ih =>
      rw [firstsL]
      split
      · omega
      · rw [List.length_append]; simp; omega
  have := this j
  omega
end
theorem dist_new {t : List Env} {j u : Nat} (hu : u ≤ j) (hc : ¬ (u : Int) < (j : Int)) (h : oldTo t j u = false) : distTo t (j + 1) = distTo t j + 1 := by
  have e : u = j := by omega
  subst e
  rw [distTo, if_neg (by rw [h]; decide)]
theorem dist_old {t : List Env} {j u : Nat} (hu : u ≤ j) (hc : ¬ (u : Int) < (j : Int)) (h : oldTo t j u = true) : distTo t j = distTo t (j + 1) := by
  have e : u = j := by omega
  subst e
  rw [distTo, if_pos h]
theorem law_TreeFew {d : Decl} {t : List Env} (h : Table.ok d t = true) : Tree.leaves d (Tree.of d t) = distTo t t.length ∧ (Tree.of d t).nodes.length < 2 * t.length ∧ ∀ x ∈ (Tree.of d t).nodes, x.flag = -1 ∨ ¬ x.no = x.yes := by
  have hp := Pow2.of h
  have hl : t.length = p2 d.flags.length := by rw [hp.1.1, hp.2]
  have e : (Tree.of d t).nodes = (treeGo t d.flags.length 0 0 []).1 := by unfold Tree.of; rw [if_pos h]
  refine ⟨?_, ?_, ?_⟩
  · rw [leaves_yes (by rw [ofI_of h]), leafCount_is _ _ (Nat.le_refl _), List.take_length, ← firsts_len]
    have a1 : ((Tree.of d t).nodes.filter fun x => x.flag == -1).Nodup := by rw [e]; exact (go_nodup _ _ _ _ (by simp)).filter _
    have a2 := firsts_nodup (t := t) t.length
    have k1 := nodup_le a1 (b := firstsL t t.length) fun x hx => by
      obtain ⟨h1, h2⟩ := List.mem_filter.1 hx
      rw [e] at h1
      rcases go_leaf _ _ _ _ x h1 (by simpa using h2) with h3 | ⟨m, h3, h4⟩
      · simp at h3
      · exact firsts_mem.2 ⟨m, by omega, by rw [h4]; simp [p2_zero]⟩
    have k2 := nodup_le a2 (b := (Tree.of d t).nodes.filter fun x => x.flag == -1) fun x hx => by
      obtain ⟨i, h1, h2⟩ := firsts_mem.1 hx
      refine List.mem_filter.2 ⟨?_, by rw [h2]; rfl⟩
      have := go_has (t := t) d.flags.length 0 0 [] i (by omega)
      rw [e, h2]
      simpa [p2_zero] using this
    omega
  · have := treeGo_len t d.flags.length 0 0 []
    have e2 := p2_step d.flags.length
    rw [e]
    simp only [List.length_nil] at this
    omega
  · rw [e]
    exact treeGo_no (Q := fun x => x.flag = -1 ∨ ¬ x.no = x.yes) (fun _ => .inl rfl) (fun _ _ _ h => .inr h) _ _ _ _ (by simp)
end Go.Proofs

namespace Go.Proofs
open Go Go.Ev
variable [Lay]
structure Rdr where
  b : List Int
  p : Int
deriving Inhabited
def Rdr.ok (b : List Int) (p : Int) : Prop := 0 ≤ p ∧ p ≤ b.length ∧ b.length ≤ 1048576 ∧ ∀ x ∈ b, 0 ≤ x ∧ x ≤ 255
theorem bytes_good {l : List Int} (h : ∀ x ∈ l, (Lit.int .u8 x).wf = true) : ∀ x ∈ l, 0 ≤ x ∧ x ≤ 255 := fun x hx => by
  have h1 := h x hx
  simp only [Lit.wf, Bool.and_eq_true, decide_eq_true_eq] at h1
  have h2 : IntKind.min .u8 = 0 := rfl
  have h3 : IntKind.max .u8 = 255 := rfl
  omega
def nextV (b : List Int) (p : Int) : Int := if p ≥ b.length then 0 else b.getD p.toNat default
def nextP (b : List Int) (p : Int) : Int := if p ≥ b.length then p else p + 1
variable {b : List Int} {p : Int}
theorem nextV_end (h : p ≥ b.length) : nextV b p = 0 := by unfold nextV; rw [if_pos h]
theorem nextP_end (h : p ≥ b.length) : nextP b p = p := by unfold nextP; rw [if_pos h]
theorem nextV_more (h : ¬ p ≥ b.length) : nextV b p = b.getD p.toNat default := by unfold nextV; rw [if_neg h]
theorem nextP_more (h : ¬ p ≥ b.length) : nextP b p = p + 1 := by unfold nextP; rw [if_neg h]
theorem Rdr.ok.next (h : Rdr.ok b p) : Rdr.ok b (nextP b p) := by
  obtain ⟨h1, h2, h3, h4⟩ := h
  unfold nextP
  split
  · exact ⟨h1, h2, h3, h4⟩
  · exact ⟨by omega, by omega, h3, h4⟩
theorem nextV_bnd (h : Rdr.ok b p) : 0 ≤ nextV b p ∧ nextV b p ≤ 255 := by
  unfold nextV
  split
  · omega
  · exact h.2.2.2 _ (getD_mem (by have := h.1; omega))
def belowV (b : List Int) (p n : Int) : Int := if n ≤ 1 then 0 else if n ≤ 256 then Int.tmod (nextV b p) n else Int.tmod (nextV b p * 256 + nextV b (nextP b p)) n
def belowP (b : List Int) (p n : Int) : Int := if n ≤ 1 then p else if n ≤ 256 then nextP b p else nextP b (nextP b p)
theorem belowV_one {n : Int} (h : n ≤ 1) : belowV b p n = 0 := by unfold belowV; rw [if_pos h]
theorem belowP_one {n : Int} (h : n ≤ 1) : belowP b p n = p := by unfold belowP; rw [if_pos h]
theorem belowV_more {n : Int} (h : ¬ n ≤ 1) (h2 : n ≤ 256) : belowV b p n = Int.tmod (nextV b p) n := by unfold belowV; rw [if_neg h, if_pos h2]
theorem belowP_more {n : Int} (h : ¬ n ≤ 1) (h2 : n ≤ 256) : belowP b p n = nextP b p := by unfold belowP; rw [if_neg h, if_pos h2]
theorem belowV_two {n : Int} (h : ¬ n ≤ 1) (h2 : ¬ n ≤ 256) : belowV b p n = Int.tmod (nextV b p * 256 + nextV b (nextP b p)) n := by unfold belowV; rw [if_neg h, if_neg h2]
theorem belowV_two' {n : Int} (hr : Rdr.ok b p) (h : ¬ n ≤ 1) (h2 : ¬ n ≤ 256) : belowV b p n = Int.tmod (IntKind.wrap .i64 (IntKind.wrap .i64 (nextV b p * 256) + nextV b (nextP b p))) n := by
  have h3 := nextV_bnd hr
  have h4 := nextV_bnd hr.next
  rw [belowV_two h h2, wrap_le (a := nextV b p * 256) (by omega) (by omega), wrap_le (by omega) (by omega)]
theorem belowP_two {n : Int} (h : ¬ n ≤ 1) (h2 : ¬ n ≤ 256) : belowP b p n = nextP b (nextP b p) := by unfold belowP; rw [if_neg h, if_neg h2]
theorem Rdr.ok.below {n : Int} (h : Rdr.ok b p) : Rdr.ok b (belowP b p n) := by
  unfold belowP; split
  · exact h
  · split
    · exact h.next
    · exact h.next.next
theorem belowV_bnd {n : Int} (h : Rdr.ok b p) (hn : 1 ≤ n) : 0 ≤ belowV b p n ∧ belowV b p n < n := by
  have h1 := nextV_bnd h
  have h2 := nextV_bnd h.next
  unfold belowV; split
  · omega
  · split
    · exact ⟨Int.tmod_nonneg _ h1.1, Int.tmod_lt_of_pos _ (by omega)⟩
    · exact ⟨Int.tmod_nonneg _ (by omega), Int.tmod_lt_of_pos _ (by omega)⟩
def onceV (b : List Int) (p n : Int) : Bool := belowV b p n == n - 1
theorem onceV_eq {n : Int} (h : 0 ≤ n ∧ n ≤ 1048576) : onceV b p n = (belowV b p n == IntKind.wrap .i64 (n - 1)) := by
  unfold onceV
  rw [wrap_le (by omega) (by omega)]
def nextsP (b : List Int) (p : Int) : Nat → Int
  | 0 => p
  | j + 1 => nextP b (nextsP b p j)
theorem Rdr.ok.nexts (h : Rdr.ok b p) : ∀ j, Rdr.ok b (nextsP b p j)
  | 0 => h
  | j + 1 => (Rdr.ok.nexts h j).next
def wStep (x v : Int) : Int := IntKind.wrap .u64 ((BitVec.ofInt (IntKind.bits .u64) (IntKind.wrap .u64 (x * 2 ^ (min ((8 : Int)).toNat (IntKind.bits .u64)))) ||| BitVec.ofInt (IntKind.bits .u64) (IntKind.wrap .u64 v)).toNat : Int)
def wordTo (b : List Int) (p : Int) : Nat → Int
  | 0 => 0
  | j + 1 => wStep (wordTo b p j) (nextV b (nextsP b p j))
theorem wordTo_succ (j : Nat) : IntKind.wrap .u64 ((BitVec.ofInt (IntKind.bits .u64) (IntKind.wrap .u64 ((wordTo b p j) * 2 ^ (min ((8 : Int)).toNat (IntKind.bits .u64)))) ||| BitVec.ofInt (IntKind.bits .u64) (IntKind.wrap .u64 (nextV b (nextsP b p j)))).toNat : Int) = wordTo b p (j + 1) := by
  show _ = wStep (wordTo b p j) (nextV b (nextsP b p j))
  unfold wStep
  rfl
def wordV (b : List Int) (p : Int) : Int := wordTo b p 8
def wordP (b : List Int) (p : Int) : Int := nextsP b p 8
theorem Rdr.ok.word (h : Rdr.ok b p) : Rdr.ok b (wordP b p) := h.nexts 8
theorem word_end {j : Nat} (h : j ≤ 8) (h1 : ¬ (j : Int) < 8) : wordTo b p j = wordV b p ∧ nextsP b p j = wordP b p := by
  have : j = 8 := by omega
  subst this
  exact ⟨rfl, rfl⟩
def Fit (x : Int) : Prop := -9223372036854775808 ≤ x ∧ x ≤ 9223372036854775807
theorem fit_wrap (x : Int) : Fit (IntKind.wrap .i64 x) := by
  unfold Fit
  simp only [IntKind.wrap, IntKind.bits, IntKind.signed]
  simp
  split <;> omega
theorem wrap_u64_nn (x : Int) : 0 ≤ IntKind.wrap .u64 x := by
  simp only [IntKind.wrap, IntKind.bits, IntKind.signed]
  simp
  omega
theorem fit_shr {x : Int} (h : Fit x) (k : Nat) : Fit (x.fdiv (2 ^ k)) := by
  have hp : (0 : Int) < 2 ^ k := Int.pow_pos (by omega)
  rw [Int.fdiv_eq_ediv_of_nonneg _ (Int.le_of_lt hp)]
  unfold Fit at h ⊢
  refine ⟨?_, ?_⟩
  · refine Int.le_ediv_of_mul_le hp ?_
    have : (-9223372036854775808 : Int) * 2 ^ k ≤ -9223372036854775808 * 1 := Int.mul_le_mul_of_nonpos_left (by omega) (by omega)
    omega
  · by_cases h0 : 0 ≤ x
    · have := Int.ediv_le_self (2 ^ k) h0
      omega
    · have := Int.ediv_neg_of_neg_of_pos (a := x) (b := 2 ^ k) (by omega) hp
      omega
def numL : List Int := [-9223372036854775808, -9223372036854775807, 9223372036854775807, 9223372036854775806, -1, 0, 1, 4294967296, -4294967296, 3037000500]
def numV (b : List Int) (p : Int) : Int :=
  if belowV b p 6 = 0 then numL.getD (belowV b (belowP b p 6) 10).toNat default
  else if belowV b p 6 = 1 then IntKind.wrap .i64 (wordV b (belowP b p 6))
  else if belowV b p 6 = 2 then (IntKind.wrap .i64 (wordV b (belowP b p 6))).fdiv (2 ^ (min (IntKind.wrap .u64 (belowV b (wordP b (belowP b p 6)) 60)).toNat (IntKind.bits .i64)))
  else IntKind.wrap .i64 (belowV b (belowP b p 6) 41 - 20)
def numP (b : List Int) (p : Int) : Int :=
  if belowV b p 6 = 0 then belowP b (belowP b p 6) 10
  else if belowV b p 6 = 1 then wordP b (belowP b p 6)
  else if belowV b p 6 = 2 then belowP b (wordP b (belowP b p 6)) 60
  else belowP b (belowP b p 6) 41
theorem Rdr.ok.num (h : Rdr.ok b p) : Rdr.ok b (numP b p) := by
  unfold numP
  repeat' split
  · exact h.below.below
  · exact h.below.word
  · exact h.below.word.below
  · exact h.below.below
theorem num_fit (h : Rdr.ok b p) : Fit (numV b p) := by
  unfold numV
  repeat' split
  · have h1 := belowV_bnd (n := 10) (h.below (n := 6)) (by omega)
    have h2 : numL.getD (belowV b (belowP b p 6) 10).toNat default ∈ numL := getD_mem (by simp [numL]; omega)
    have h3 : ∀ x ∈ numL, Fit x := by unfold numL Fit; decide
    exact h3 _ h2
  · exact fit_wrap _
  · exact fit_shr (fit_wrap _) _
  · exact fit_wrap _
theorem num_0 (h : belowV b p 6 = 0) : numV b p = numL.getD (belowV b (belowP b p 6) 10).toNat default ∧ numP b p = belowP b (belowP b p 6) 10 := by
  unfold numV numP; rw [if_pos h, if_pos h]; exact ⟨rfl, rfl⟩
theorem num_1 (h0 : ¬ belowV b p 6 = 0) (h : belowV b p 6 = 1) : numV b p = IntKind.wrap .i64 (wordV b (belowP b p 6)) ∧ numP b p = wordP b (belowP b p 6) := by
  unfold numV numP; rw [if_neg h0, if_neg h0, if_pos h, if_pos h]; exact ⟨rfl, rfl⟩
theorem num_2 (h0 : ¬ belowV b p 6 = 0) (h1 : ¬ belowV b p 6 = 1) (h : belowV b p 6 = 2) : numV b p = (IntKind.wrap .i64 (wordV b (belowP b p 6))).fdiv (2 ^ (min (IntKind.wrap .u64 (belowV b (wordP b (belowP b p 6)) 60)).toNat (IntKind.bits .i64))) ∧ numP b p = belowP b (wordP b (belowP b p 6)) 60 := by
  unfold numV numP; rw [if_neg h0, if_neg h0, if_neg h1, if_neg h1, if_pos h, if_pos h]; exact ⟨rfl, rfl⟩
theorem num_3 (h0 : ¬ belowV b p 6 = 0) (h1 : ¬ belowV b p 6 = 1) (h : ¬ belowV b p 6 = 2) : numV b p = IntKind.wrap .i64 (belowV b (belowP b p 6) 41 - 20) ∧ numP b p = belowP b (belowP b p 6) 41 := by
  unfold numV numP; rw [if_neg h0, if_neg h0, if_neg h1, if_neg h1, if_neg h, if_neg h]; exact ⟨rfl, rfl⟩
def addV (a c : Int) : Int := if (c > 0 ∧ a > IntKind.wrap .i64 (9223372036854775807 - c)) ∨ (c < 0 ∧ a < IntKind.wrap .i64 (-9223372036854775808 - c)) then 0 else IntKind.wrap .i64 (a + c)
def addO (a c : Int) : Int := if c > 0 ∧ a > IntKind.wrap .i64 (9223372036854775807 - c) then 1 else if c < 0 ∧ a < IntKind.wrap .i64 (-9223372036854775808 - c) then -1 else 0
theorem add_1 {a c : Int} (h : c > 0 ∧ a > IntKind.wrap .i64 (9223372036854775807 - c)) : addV a c = 0 ∧ addO a c = 1 := by
  unfold addV addO; rw [if_pos (.inl h), if_pos h]; exact ⟨rfl, rfl⟩
theorem add_2 {a c : Int} (h0 : ¬ c > 0 ∨ ¬ a > IntKind.wrap .i64 (9223372036854775807 - c)) (h : c < 0 ∧ a < IntKind.wrap .i64 (-9223372036854775808 - c)) : addV a c = 0 ∧ addO a c = -1 := by
  unfold addV addO; rw [if_pos (.inr h), if_neg (fun h9 => h0.elim (fun h8 => h8 h9.1) fun h8 => h8 h9.2), if_pos h]; exact ⟨rfl, rfl⟩
theorem add_3 {a c : Int} (h0 : ¬ c > 0 ∨ ¬ a > IntKind.wrap .i64 (9223372036854775807 - c)) (h : ¬ c < 0 ∨ ¬ a < IntKind.wrap .i64 (-9223372036854775808 - c)) : addV a c = IntKind.wrap .i64 (a + c) ∧ addO a c = 0 := by
  have h1 : ¬ (c > 0 ∧ a > IntKind.wrap .i64 (9223372036854775807 - c)) := fun h9 => h0.elim (fun h8 => h8 h9.1) fun h8 => h8 h9.2
  have h2 : ¬ (c < 0 ∧ a < IntKind.wrap .i64 (-9223372036854775808 - c)) := fun h9 => h.elim (fun h8 => h8 h9.1) fun h8 => h8 h9.2
  unfold addV addO; rw [if_neg (fun h9 => h9.elim h1 h2), if_neg h1, if_neg h2]; exact ⟨rfl, rfl⟩
theorem add_fit (a c : Int) : Fit (addV a c) := by
  unfold addV; split
  · unfold Fit; omega
  · exact fit_wrap _
def nearV (b : List Int) (p a h : Int) : Int :=
  if belowV b p 8 = 0 then a else if belowV b p 8 = 1 then h else if h < a then a
  else IntKind.wrap .i64 (a + (IntKind.wrap .i64 (Int.tmod ((wordV b (belowP b p 8)).fdiv (2 ^ (min ((1 : Int)).toNat (IntKind.bits .u64)))) (IntKind.wrap .u64 (IntKind.wrap .i64 ((IntKind.wrap .i64 (h - a)) + 1))))))
def nearP (b : List Int) (p a h : Int) : Int := if belowV b p 8 = 0 then belowP b p 8 else if belowV b p 8 = 1 then belowP b p 8 else if h < a then belowP b p 8 else wordP b (belowP b p 8)
theorem near_0 {a h : Int} (h0 : belowV b p 8 = 0) : nearV b p a h = a ∧ nearP b p a h = belowP b p 8 := by unfold nearV nearP; rw [if_pos h0, if_pos h0]; exact ⟨rfl, rfl⟩
theorem near_1 {a h : Int} (h0 : ¬ belowV b p 8 = 0) (h1 : belowV b p 8 = 1) : nearV b p a h = h ∧ nearP b p a h = belowP b p 8 := by unfold nearV nearP; rw [if_neg h0, if_neg h0, if_pos h1, if_pos h1]; exact ⟨rfl, rfl⟩
theorem near_2 {a h : Int} (h0 : ¬ belowV b p 8 = 0) (h1 : ¬ belowV b p 8 = 1) (h2 : h < a) : nearV b p a h = a ∧ nearP b p a h = belowP b p 8 := by unfold nearV nearP; rw [if_neg h0, if_neg h0, if_neg h1, if_neg h1, if_pos h2, if_pos h2]; exact ⟨rfl, rfl⟩
theorem near_3 {a h : Int} (h0 : ¬ belowV b p 8 = 0) (h1 : ¬ belowV b p 8 = 1) (h2 : ¬ h < a) : nearV b p a h = IntKind.wrap .i64 (a + (IntKind.wrap .i64 (Int.tmod ((wordV b (belowP b p 8)).fdiv (2 ^ (min ((1 : Int)).toNat (IntKind.bits .u64)))) (IntKind.wrap .u64 (IntKind.wrap .i64 ((IntKind.wrap .i64 (h - a)) + 1)))))) ∧ nearP b p a h = wordP b (belowP b p 8) := by
  unfold nearV nearP; rw [if_neg h0, if_neg h0, if_neg h1, if_neg h1, if_neg h2, if_neg h2]; exact ⟨rfl, rfl⟩
theorem near_ne {a h : Int} (hx : -1000 ≤ a ∧ a ≤ 10000000 ∧ -1000 ≤ h ∧ h ≤ 10000000) (h2 : ¬ h < a) : IntKind.wrap .u64 (IntKind.wrap .i64 ((IntKind.wrap .i64 (h - a)) + 1)) ≠ 0 := by
  rw [wrap_le (a := h - a) (by omega) (by omega), wrap_le (by omega) (by omega), wrap_u64 (by omega) (by omega)]
  omega
theorem Rdr.ok.near {a h : Int} (hr : Rdr.ok b p) : Rdr.ok b (nearP b p a h) := by
  unfold nearP
  repeat' split
  all_goals first | exact hr.below | exact hr.below.word
theorem near_fit {a h : Int} (ha : Fit a) (hh : Fit h) : Fit (nearV b p a h) := by
  unfold nearV
  repeat' split
  all_goals first | exact ha | exact hh | exact fit_wrap _
def offL (a h : Int) : List Int := [IntKind.wrap .i64 (a - 1), IntKind.wrap .i64 (h + 1), -9223372036854775808, 9223372036854775807]
def offV (b : List Int) (p a h : Int) : Int := if onceV b p 24 = true then (offL a h).getD (belowV b (belowP b p 24) 4).toNat default else nearV b (belowP b p 24) a h
def offP (b : List Int) (p a h : Int) : Int := if onceV b p 24 = true then belowP b (belowP b p 24) 4 else nearP b (belowP b p 24) a h
theorem off_1 {a h : Int} (h0 : onceV b p 24 = true) : offV b p a h = (offL a h).getD (belowV b (belowP b p 24) 4).toNat default ∧ offP b p a h = belowP b (belowP b p 24) 4 := by unfold offV offP; rw [if_pos h0, if_pos h0]; exact ⟨rfl, rfl⟩
theorem off_0 {a h : Int} (h0 : onceV b p 24 = false) : offV b p a h = nearV b (belowP b p 24) a h ∧ offP b p a h = nearP b (belowP b p 24) a h := by
  unfold offV offP; rw [if_neg (by rw [h0]; decide), if_neg (by rw [h0]; decide)]; exact ⟨rfl, rfl⟩
theorem Rdr.ok.off {a h : Int} (hr : Rdr.ok b p) : Rdr.ok b (offP b p a h) := by
  unfold offP; split
  · exact hr.below.below
  · exact hr.below.near
theorem off_fit {a h : Int} (hr : Rdr.ok b p) (ha : Fit a) (hh : Fit h) : Fit (offV b p a h) := by
  unfold offV; split
  · have h1 := belowV_bnd (n := 4) (hr.below (n := 24)) (by omega)
    have h2 : (offL a h).getD (belowV b (belowP b p 24) 4).toNat default ∈ offL a h := getD_mem (by simp [offL]; omega)
    have h3 : ∀ x ∈ offL a h, Fit x := by
      intro x hx
      simp only [offL, List.mem_cons, List.not_mem_nil, or_false] at hx
      rcases hx with rfl | rfl | rfl | rfl
      · exact fit_wrap _
      · exact fit_wrap _
      · unfold Fit; omega
      · unfold Fit; omega
    exact h3 _ h2
  · exact near_fit ha hh
def ivEnd (b : List Int) (x y p : Int) : Iv := if y < x ∧ onceV b p 12 = false then ⟨y, x⟩ else ⟨x, y⟩
def ivEndP (b : List Int) (x y p : Int) : Int := if y < x then belowP b p 12 else p
def ivY (b : List Int) (x p : Int) : Int := if addV x (belowV b p 30) < x then x else addV x (belowV b p 30)
def ivV (b : List Int) (p : Int) : Iv :=
  if belowV b (numP b p) 4 = 0 then ivEnd b (numV b p) (numV b (belowP b (numP b p) 4)) (numP b (belowP b (numP b p) 4))
  else if belowV b (numP b p) 4 = 1 ∨ belowV b (numP b p) 4 = 2 then ivEnd b (numV b p) (ivY b (numV b p) (belowP b (numP b p) 4)) (belowP b (belowP b (numP b p) 4) 30)
  else ivEnd b (numV b p) (numV b p) (belowP b (numP b p) 4)
def ivP (b : List Int) (p : Int) : Int :=
  if belowV b (numP b p) 4 = 0 then ivEndP b (numV b p) (numV b (belowP b (numP b p) 4)) (numP b (belowP b (numP b p) 4))
  else if belowV b (numP b p) 4 = 1 ∨ belowV b (numP b p) 4 = 2 then ivEndP b (numV b p) (ivY b (numV b p) (belowP b (numP b p) 4)) (belowP b (belowP b (numP b p) 4) 30)
  else ivEndP b (numV b p) (numV b p) (belowP b (numP b p) 4)
def FitI (a : Iv) : Prop := Fit a.lo ∧ Fit a.hi
theorem ivEnd_sw {x y q : Int} (h : y < x ∧ onceV b q 12 = false) : ivEnd b x y q = ⟨y, x⟩ := by unfold ivEnd; rw [if_pos h]
theorem ivEnd_no {x y q : Int} (h : ¬ y < x ∨ onceV b q 12 = true) : ivEnd b x y q = ⟨x, y⟩ := by unfold ivEnd; rw [if_neg (fun h9 => h.elim (fun h8 => h8 h9.1) fun h8 => by rw [h8] at h9; exact absurd h9.2 (by decide))]
theorem ivY_x {x q : Int} (h : addV x (belowV b q 30) < x) : ivY b x q = x := by unfold ivY; rw [if_pos h]
theorem ivY_y {x q : Int} (h : ¬ addV x (belowV b q 30) < x) : ivY b x q = addV x (belowV b q 30) := by unfold ivY; rw [if_neg h]
theorem ivV_0 (h : belowV b (numP b p) 4 = 0) : ivV b p = ivEnd b (numV b p) (numV b (belowP b (numP b p) 4)) (numP b (belowP b (numP b p) 4)) := by unfold ivV; rw [if_pos h]
theorem ivP_0 (h : belowV b (numP b p) 4 = 0) : ivP b p = ivEndP b (numV b p) (numV b (belowP b (numP b p) 4)) (numP b (belowP b (numP b p) 4)) := by unfold ivP; rw [if_pos h]
theorem ivV_1 (h0 : ¬ belowV b (numP b p) 4 = 0) (h : belowV b (numP b p) 4 = 1 ∨ belowV b (numP b p) 4 = 2) : ivV b p = ivEnd b (numV b p) (ivY b (numV b p) (belowP b (numP b p) 4)) (belowP b (belowP b (numP b p) 4) 30) := by unfold ivV; rw [if_neg h0, if_pos h]
theorem ivP_1 (h0 : ¬ belowV b (numP b p) 4 = 0) (h : belowV b (numP b p) 4 = 1 ∨ belowV b (numP b p) 4 = 2) : ivP b p = ivEndP b (numV b p) (ivY b (numV b p) (belowP b (numP b p) 4)) (belowP b (belowP b (numP b p) 4) 30) := by unfold ivP; rw [if_neg h0, if_pos h]
theorem ivV_2 (h0 : ¬ belowV b (numP b p) 4 = 0) (h1 : ¬ belowV b (numP b p) 4 = 1) (h2 : ¬ belowV b (numP b p) 4 = 2) : ivV b p = ivEnd b (numV b p) (numV b p) (belowP b (numP b p) 4) := by unfold ivV; rw [if_neg h0, if_neg (fun h => h.elim h1 h2)]
theorem ivP_2 (h0 : ¬ belowV b (numP b p) 4 = 0) (h1 : ¬ belowV b (numP b p) 4 = 1) (h2 : ¬ belowV b (numP b p) 4 = 2) : ivP b p = ivEndP b (numV b p) (numV b p) (belowP b (numP b p) 4) := by unfold ivP; rw [if_neg h0, if_neg (fun h => h.elim h1 h2)]
theorem ivEnd_fit {x y q : Int} (hx : Fit x) (hy : Fit y) : FitI (ivEnd b x y q) := by
  unfold ivEnd
  split
  · exact ⟨hy, hx⟩
  · exact ⟨hx, hy⟩
theorem Rdr.ok.ivEnd {x y q : Int} (h : Rdr.ok b q) : Rdr.ok b (ivEndP b x y q) := by
  unfold ivEndP; split
  · exact h.below
  · exact h
theorem iv_fit (h : Rdr.ok b p) : FitI (ivV b p) := by
  have hx := num_fit h
  unfold ivV
  repeat' split
  · exact ivEnd_fit hx (num_fit h.num.below)
  · refine ivEnd_fit hx ?_
    unfold ivY; split
    · exact hx
    · exact add_fit _ _
  · exact ivEnd_fit hx hx
theorem Rdr.ok.iv (h : Rdr.ok b p) : Rdr.ok b (ivP b p) := by
  unfold ivP
  repeat' split
  · exact h.num.below.num.ivEnd
  · exact h.num.below.below.ivEnd
  · exact h.num.below.ivEnd
def smallV (b : List Int) (p : Int) : Iv :=
  if onceV b p 6 = true then ⟨min (ivV b (belowP b p 6)).lo (ivV b (belowP b p 6)).hi, max (ivV b (belowP b p 6)).lo (ivV b (belowP b p 6)).hi⟩
  else ⟨belowV b (belowP b p 6) 20 - 8, belowV b (belowP b p 6) 20 - 8 + belowV b (belowP b (belowP b p 6) 20) 9⟩
def smallP (b : List Int) (p : Int) : Int := if onceV b p 6 = true then ivP b (belowP b p 6) else belowP b (belowP b (belowP b p 6) 20) 9
theorem Rdr.ok.small (h : Rdr.ok b p) : Rdr.ok b (smallP b p) := by
  unfold smallP; split
  · exact h.below.iv
  · exact h.below.below.below
theorem small_fit (h : Rdr.ok b p) : FitI (smallV b p) := by
  unfold smallV; split
  · have := iv_fit (h.below (n := 6))
    unfold FitI Fit at this ⊢
    simp only
    omega
  · have h1 := belowV_bnd (n := 20) (h.below (n := 6)) (by omega)
    have h2 := belowV_bnd (n := 9) ((h.below (n := 6)).below (n := 20)) (by omega)
    unfold FitI Fit
    simp only
    omega
theorem small_1 (h : onceV b p 6 = true) : smallV b p = ⟨min (ivV b (belowP b p 6)).lo (ivV b (belowP b p 6)).hi, max (ivV b (belowP b p 6)).lo (ivV b (belowP b p 6)).hi⟩ ∧ smallP b p = ivP b (belowP b p 6) := by
  unfold smallV smallP; rw [if_pos h, if_pos h]; exact ⟨rfl, rfl⟩
theorem small_2 (hr : Rdr.ok b p) (h : onceV b p 6 = false) : smallV b p = ⟨IntKind.wrap .i64 (belowV b (belowP b p 6) 20 - 8), IntKind.wrap .i64 (IntKind.wrap .i64 (belowV b (belowP b p 6) 20 - 8) + belowV b (belowP b (belowP b p 6) 20) 9)⟩ ∧ smallP b p = belowP b (belowP b (belowP b p 6) 20) 9 := by
  have h1 := belowV_bnd (n := 20) (hr.below (n := 6)) (by omega)
  have h2 := belowV_bnd (n := 9) ((hr.below (n := 6)).below (n := 20)) (by omega)
  unfold smallV smallP; rw [if_neg (by rw [h]; decide), if_neg (by rw [h]; decide), wrap_le (a := belowV b (belowP b p 6) 20 - 8) (by omega) (by omega), wrap_le (by omega) (by omega)]; exact ⟨rfl, rfl⟩
def smP (b : List Int) (p : Int) : Nat → Int
  | 0 => p
  | j + 1 => smallP b (smP b p j)
def smL (b : List Int) (p : Int) : Nat → List Iv
  | 0 => []
  | j + 1 => smL b p j ++ [smallV b (smP b p j)]
theorem Rdr.ok.sm (h : Rdr.ok b p) : ∀ j, Rdr.ok b (smP b p j)
  | 0 => h
  | j + 1 => (Rdr.ok.sm h j).small
theorem smL_len (b : List Int) (p : Int) : ∀ j, (smL b p j).length = j
  | 0 => rfl
  | j + 1 => by simp [smL, smL_len b p j]
theorem smL_fit (h : Rdr.ok b p) : ∀ j, ∀ x ∈ smL b p j, FitI x
  | 0, x, hx => by simp [smL] at hx
  | j + 1, x, hx => by
    simp only [smL, List.mem_append, List.mem_singleton] at hx
    rcases hx with hx | rfl
    · exact smL_fit h j x hx
    · exact small_fit (Rdr.ok.sm h j)
def envV (b : List Int) (p : Int) (d : Decl) : Env :=
  if onceV b p 16 = true then ⟨false, [], []⟩ else ⟨true, smL b (belowP b p 16) d.vars.length, smL b (smP b (belowP b p 16) d.vars.length) d.arrays.length⟩
def envP (b : List Int) (p : Int) (d : Decl) : Int :=
  if onceV b p 16 = true then belowP b p 16 else smP b (smP b (belowP b p 16) d.vars.length) d.arrays.length
theorem env_1 {d : Decl} (h : onceV b p 16 = true) : envV b p d = ⟨false, [], []⟩ ∧ envP b p d = belowP b p 16 := by
  unfold envV envP; rw [if_pos h, if_pos h]; exact ⟨rfl, rfl⟩
theorem env_2 {d : Decl} {j k : Nat} (h : onceV b p 16 = false) (hj : j ≤ d.vars.length) (hj2 : ¬ (j : Int) < d.vars.length) (hk : k ≤ d.arrays.length) (hk2 : ¬ (k : Int) < d.arrays.length) :
    envV b p d = ⟨true, smL b (belowP b p 16) j, smL b (smP b (belowP b p 16) d.vars.length) k⟩ ∧ envP b p d = smP b (smP b (belowP b p 16) d.vars.length) k := by
  obtain rfl : j = d.vars.length := by omega
  obtain rfl : k = d.arrays.length := by omega
  unfold envV envP; rw [if_neg (by rw [h]; decide), if_neg (by rw [h]; decide)]; exact ⟨rfl, rfl⟩
theorem Rdr.ok.env {d : Decl} (h : Rdr.ok b p) : Rdr.ok b (envP b p d) := by
  unfold envP; split
  · exact h.below
  · exact (h.below.sm _).sm _
def FitE (e : Env) : Prop := (∀ x ∈ e.ints, FitI x) ∧ ∀ x ∈ e.arrs, FitI x
theorem env_fit {d : Decl} (h : Rdr.ok b p) : FitE (envV b p d) := by
  unfold envV; split
  · exact ⟨by simp, by simp⟩
  · exact ⟨smL_fit h.below _, smL_fit (h.below.sm _) _⟩
theorem env_len {d : Decl} : (envV b p d).ints.length ≤ d.vars.length ∧ (envV b p d).arrs.length ≤ d.arrays.length := by
  unfold envV; split
  · simp
  · simp [smL_len]
def hurtP (b : List Int) (p : Int) : Int := belowP b p 24
def hurtV (b : List Int) (p : Int) (e : Env) : Env :=
  if belowV b p 24 = 0 then ⟨!e.live, e.ints, e.arrs⟩
  else if belowV b p 24 = 1 then ⟨e.live, e.ints ++ [⟨0, 0⟩], e.arrs⟩
  else if belowV b p 24 = 2 then ⟨e.live, e.ints.set 0 ⟨1, 0⟩, e.arrs⟩
  else e
theorem hurt_len {e : Env} : (hurtV b p e).ints.length ≤ e.ints.length + 1 ∧ (hurtV b p e).arrs.length ≤ e.arrs.length := by
  unfold hurtV
  repeat' split
  all_goals simp
theorem hurt_fit {e : Env} (h : FitE e) : FitE (hurtV b p e) := by
  unfold hurtV
  repeat' split
  · exact h
  · refine ⟨fun x hx => ?_, h.2⟩
    simp only [List.mem_append, List.mem_singleton] at hx
    rcases hx with hx | rfl
    · exact h.1 x hx
    · unfold FitI Fit; simp
  · refine ⟨fun x hx => ?_, h.2⟩
    rcases List.mem_or_eq_of_mem_set hx with hx | rfl
    · exact h.1 x hx
    · unfold FitI Fit; simp
  · exact h
theorem hurt_0 {e : Env} (h : belowV b p 24 = 0) : hurtV b p e = ⟨!e.live, e.ints, e.arrs⟩ := by unfold hurtV; rw [if_pos h]
theorem hurt_1 {e : Env} (h0 : ¬ belowV b p 24 = 0) (h : belowV b p 24 = 1) : hurtV b p e = ⟨e.live, e.ints ++ [⟨0, 0⟩], e.arrs⟩ := by unfold hurtV; rw [if_neg h0, if_pos h]
theorem hurt_2 {e : Env} (h0 : ¬ belowV b p 24 = 0) (h1 : ¬ belowV b p 24 = 1) (h : belowV b p 24 = 2) : hurtV b p e = ⟨e.live, e.ints.set 0 ⟨1, 0⟩, e.arrs⟩ := by unfold hurtV; rw [if_neg h0, if_neg h1, if_pos h]
theorem hurt_3 {e : Env} (h0 : ¬ belowV b p 24 = 0) (h1 : ¬ belowV b p 24 = 1) (h : belowV b p 24 = 2) (hn : ¬ (e.ints.length : Int) > 0) : hurtV b p e = ⟨e.live, e.ints, e.arrs⟩ := by
  rw [hurt_2 h0 h1 h]
  have : e.ints = [] := List.eq_nil_of_length_eq_zero (by omega)
  rw [this]; rfl
theorem hurt_4 {e : Env} (h0 : ¬ belowV b p 24 = 0) (h1 : ¬ belowV b p 24 = 1) (h : ¬ belowV b p 24 = 2) : hurtV b p e = ⟨e.live, e.ints, e.arrs⟩ := by unfold hurtV; rw [if_neg h0, if_neg h1, if_neg h]
theorem Rdr.ok.hurt (h : Rdr.ok b p) : Rdr.ok b (hurtP b p) := h.below
def varsL : List ByteArray := [⟨#[120]⟩, ⟨#[121]⟩, ⟨#[105]⟩, ⟨#[110]⟩, ⟨#[107]⟩]
def flagsL : List ByteArray := [⟨#[98]⟩, ⟨#[99]⟩, ⟨#[102]⟩]
def dcP1 (b : List Int) (p : Int) : Int := belowP b p 4
def dcP2 (b : List Int) (p : Int) : Int := belowP b (dcP1 b p) 2
def dcP3 (b : List Int) (p : Int) : Int := belowP b (dcP2 b p) 3
def dcP4 (b : List Int) (p : Int) : Int := if onceV b (dcP2 b p) 3 = true then belowP b (dcP3 b p) 4 else dcP3 b p
def dcP5 (b : List Int) (p : Int) : Int := belowP b (dcP4 b p) 2
def declP (b : List Int) (p : Int) : Int := if onceV b (dcP4 b p) 2 = true then belowP b (dcP5 b p) 6 else dcP5 b p
def declV (b : List Int) (p : Int) : Decl :=
  ⟨varsL.take (1 + belowV b p 4).toNat,
   if onceV b (dcP2 b p) 3 = true then flagsL.take (belowV b (dcP3 b p) 4).toNat else flagsL.take (1 + belowV b (dcP1 b p) 2).toNat,
   if onceV b (dcP4 b p) 2 = true then [⟨⟨#[97]⟩, 1 + belowV b (dcP5 b p) 6⟩] else []⟩
theorem Rdr.ok.decl (h : Rdr.ok b p) : Rdr.ok b (dcP1 b p) ∧ Rdr.ok b (dcP2 b p) ∧ Rdr.ok b (dcP3 b p) ∧ Rdr.ok b (dcP4 b p) ∧ Rdr.ok b (dcP5 b p) ∧ Rdr.ok b (declP b p) := by
  have h1 : Rdr.ok b (dcP1 b p) := h.below
  have h2 : Rdr.ok b (dcP2 b p) := h1.below
  have h3 : Rdr.ok b (dcP3 b p) := h2.below
  have h4 : Rdr.ok b (dcP4 b p) := by
    unfold dcP4; split
    · exact h3.below
    · exact h3
  have h5 : Rdr.ok b (dcP5 b p) := h4.below
  refine ⟨h1, h2, h3, h4, h5, ?_⟩
  unfold declP; split
  · exact h5.below
  · exact h5
theorem dcP4_1 (h0 : onceV b (dcP2 b p) 3 = true) : dcP4 b p = belowP b (dcP3 b p) 4 := by unfold dcP4; rw [if_pos h0]
theorem dcP4_0 (h0 : onceV b (dcP2 b p) 3 = false) : dcP4 b p = dcP3 b p := by unfold dcP4; rw [if_neg (by rw [h0]; decide)]
theorem decl_11 (h0 : onceV b (dcP2 b p) 3 = true) (h9 : onceV b (belowP b (dcP3 b p) 4) 2 = true) : declV b p = ⟨varsL.take (1 + belowV b p 4).toNat, flagsL.take (belowV b (dcP3 b p) 4).toNat, [⟨⟨#[97]⟩, 1 + belowV b (belowP b (belowP b (dcP3 b p) 4) 2) 6⟩]⟩ ∧ declP b p = belowP b (belowP b (belowP b (dcP3 b p) 4) 2) 6 := by
  have h1 : onceV b (dcP4 b p) 2 = true := by rw [dcP4_1 h0]; exact h9
  have e : dcP4 b p = belowP b (dcP3 b p) 4 := by unfold dcP4; rw [if_pos h0]
  unfold declV declP; rw [if_pos h0, if_pos h1, if_pos h1]; unfold dcP5; rw [e]; exact ⟨rfl, rfl⟩
theorem decl_10 (h0 : onceV b (dcP2 b p) 3 = true) (h9 : onceV b (belowP b (dcP3 b p) 4) 2 = false) : declV b p = ⟨varsL.take (1 + belowV b p 4).toNat, flagsL.take (belowV b (dcP3 b p) 4).toNat, []⟩ ∧ declP b p = belowP b (belowP b (dcP3 b p) 4) 2 := by
  have h1 : onceV b (dcP4 b p) 2 = false := by rw [dcP4_1 h0]; exact h9
  have e : dcP4 b p = belowP b (dcP3 b p) 4 := by unfold dcP4; rw [if_pos h0]
  unfold declV declP; rw [if_pos h0, if_neg (by rw [h1]; decide), if_neg (by rw [h1]; decide)]; unfold dcP5; rw [e]; exact ⟨rfl, rfl⟩
theorem decl_01 (h0 : onceV b (dcP2 b p) 3 = false) (h9 : onceV b (dcP3 b p) 2 = true) : declV b p = ⟨varsL.take (1 + belowV b p 4).toNat, flagsL.take (1 + belowV b (dcP1 b p) 2).toNat, [⟨⟨#[97]⟩, 1 + belowV b (belowP b (dcP3 b p) 2) 6⟩]⟩ ∧ declP b p = belowP b (belowP b (dcP3 b p) 2) 6 := by
  have h1 : onceV b (dcP4 b p) 2 = true := by rw [dcP4_0 h0]; exact h9
  have e : dcP4 b p = dcP3 b p := by unfold dcP4; rw [if_neg (by rw [h0]; decide)]
  unfold declV declP; rw [if_neg (by rw [h0]; decide), if_pos h1, if_pos h1]; unfold dcP5; rw [e]; exact ⟨rfl, rfl⟩
theorem decl_00 (h0 : onceV b (dcP2 b p) 3 = false) (h9 : onceV b (dcP3 b p) 2 = false) : declV b p = ⟨varsL.take (1 + belowV b p 4).toNat, flagsL.take (1 + belowV b (dcP1 b p) 2).toNat, []⟩ ∧ declP b p = belowP b (dcP3 b p) 2 := by
  have h1 : onceV b (dcP4 b p) 2 = false := by rw [dcP4_0 h0]; exact h9
  have e : dcP4 b p = dcP3 b p := by unfold dcP4; rw [if_neg (by rw [h0]; decide)]
  unfold declV declP; rw [if_neg (by rw [h0]; decide), if_neg (by rw [h1]; decide), if_neg (by rw [h1]; decide)]; unfold dcP5; rw [e]; exact ⟨rfl, rfl⟩
theorem one_norm (h : Rdr.ok b p) {n : Int} (h1 : 1 ≤ n) (h2 : n ≤ 100) : IntKind.wrap .i64 (1 + belowV b p n) = 1 + belowV b p n := by
  have h9 := belowV_bnd h h1
  exact wrap_le (by omega) (by omega)
theorem hund_norm (h : Rdr.ok b p) : IntKind.wrap .i64 (100 + belowV b p 2) = 100 + belowV b p 2 := by
  have h9 := belowV_bnd (n := 2) h (by omega)
  exact wrap_le (by omega) (by omega)
theorem down_norm {j : Nat} (h : Rdr.ok b p) (hj : (j : Int) ≤ belowV b p 7) : IntKind.wrap .i64 (belowV b p 7 - (j : Int) - 1) = belowV b p 7 - ((j + 1 : Nat) : Int) := by
  have h9 := belowV_bnd (n := 7) h (by omega)
  rw [wrap_le (by omega) (by omega)]; omega
theorem Rdr.ok.declP (h : Rdr.ok b p) : Rdr.ok b (declP b p) := h.decl.2.2.2.2.2
theorem decl_len : (declV b p).vars.length ≤ 5 ∧ (declV b p).flags.length ≤ 3 ∧ (declV b p).arrays.length ≤ 1 := by
  unfold declV varsL flagsL
  refine ⟨?_, ?_, ?_⟩
  · simp; omega
  · simp only; split <;> simp <;> omega
  · simp only; split <;> simp
theorem decl_names : ∀ x ∈ Decl.names (declV b p), x.size ≤ 9223372036854775807 := by
  have h1 : ∀ x ∈ varsL, x.size ≤ 9223372036854775807 := by decide
  have h2 : ∀ x ∈ flagsL, x.size ≤ 9223372036854775807 := by decide
  intro x hx
  unfold Decl.names declV at hx
  simp only [List.mem_append, List.mem_map] at hx
  rcases hx with (hx | hx) | ⟨y, hy, rfl⟩
  · exact h1 x (List.mem_of_mem_take hx)
  · split at hx
    · exact h2 x (List.mem_of_mem_take hx)
    · exact h2 x (List.mem_of_mem_take hx)
  · split at hy
    · simp only [List.mem_singleton] at hy
      subst hy
      have : ((⟨#[97]⟩ : ByteArray)).size = 1 := rfl
      show ((⟨#[97]⟩ : ByteArray)).size ≤ _
      omega
    · simp at hy
def nmP (b : List Int) (p : Int) : Nat → Int
  | 0 => p
  | j + 1 => numP b (nmP b p j)
def nmL (b : List Int) (p : Int) : Nat → List Int
  | 0 => []
  | j + 1 => nmL b p j ++ [numV b (nmP b p j)]
theorem Rdr.ok.nm (h : Rdr.ok b p) : ∀ j, Rdr.ok b (nmP b p j)
  | 0 => h
  | j + 1 => (Rdr.ok.nm h j).num
theorem nmL_len (b : List Int) (p : Int) : ∀ j, (nmL b p j).length = j
  | 0 => rfl
  | j + 1 => by simp [nmL, nmL_len b p j]
def stN (b : List Int) (p : Int) : Nat := (belowV b p 7).toNat
def stP (b : List Int) (p : Int) : Int := nmP b (belowP b p 7) (stN b p)
def stepsV (b : List Int) (p : Int) : List Int :=
  if onceV b (stP b p) 40 = true then List.replicate (100 + belowV b (belowP b (stP b p) 40) 2).toNat 0 else nmL b (belowP b p 7) (stN b p)
def stepsP (b : List Int) (p : Int) : Int := if onceV b (stP b p) 40 = true then belowP b (belowP b (stP b p) 40) 2 else belowP b (stP b p) 40
theorem nm_end (hr : Rdr.ok b p) {j : Nat} (h : (j : Int) ≤ belowV b p 7) (h1 : ¬ belowV b p 7 - (j : Int) > 0) : j = stN b p := by unfold stN; omega
theorem steps_1 {q : Int} (hq : q = stP b p) (h : onceV b q 40 = true) : stepsV b p = List.replicate (100 + belowV b (belowP b q 40) 2).toNat 0 ∧ stepsP b p = belowP b (belowP b q 40) 2 := by
  subst hq; unfold stepsV stepsP; rw [if_pos h, if_pos h]; exact ⟨rfl, rfl⟩
theorem steps_2 {q : Int} (hq : q = stP b p) (h : onceV b q 40 = false) : stepsV b p = nmL b (belowP b p 7) (stN b p) ∧ stepsP b p = belowP b q 40 := by
  subst hq; unfold stepsV stepsP; rw [if_neg (by rw [h]; decide), if_neg (by rw [h]; decide)]; exact ⟨rfl, rfl⟩
theorem steps_len (h : Rdr.ok b p) : (stepsV b p).length ≤ 101 := by
  have h1 := belowV_bnd (n := 7) h (by omega)
  unfold stepsV; split
  · have h2 := belowV_bnd (b := b) (p := belowP b (stP b p) 40) (n := 2) (Rdr.ok.below (h.below.nm _)) (by omega)
    simp; omega
  · rw [nmL_len]; unfold stN; omega
def byteV (c : List Int) (i : Int) : Int := if (c.length : Int) = 0 then 0 else c.getD (Int.tmod i (c.length : Int)).toNat default
theorem byte_0 {c : List Int} {i : Int} (h : (c.length : Int) = 0) : byteV c i = 0 := by unfold byteV; rw [if_pos h]
theorem byte_1 {c : List Int} {i : Int} (h : ¬ (c.length : Int) = 0) : byteV c i = c.getD (Int.tmod i (c.length : Int)).toNat default := by unfold byteV; rw [if_neg h]
theorem byte_nn {c : List Int} {i : Int} (hi : 0 ≤ i ∧ i ≤ 1048576) (h : ¬ (c.length : Int) = 0) : Int.tmod i (c.length : Int) = ((Int.tmod i (c.length : Int)).toNat : Int) := by
  have := Int.tmod_nonneg (c.length : Int) hi.1; omega
theorem byte_lt {c : List Int} {i : Int} (hi : 0 ≤ i ∧ i ≤ 1048576) (h : ¬ (c.length : Int) = 0) : (Int.tmod i (c.length : Int)).toNat < c.length := by
  have h1 := Int.tmod_nonneg (c.length : Int) hi.1
  have h2 := Int.tmod_lt_of_pos i (b := (c.length : Int)) (by omega)
  omega
theorem byte_bnd {c : List Int} {i : Int} (hb : ∀ x ∈ c, 0 ≤ x ∧ x ≤ 255) (hi : 0 ≤ i ∧ i ≤ 1048576) : 0 ≤ byteV c i ∧ byteV c i ≤ 255 := by
  unfold byteV; split
  · omega
  · rename_i h; exact hb _ (getD_mem (byte_lt hi h))
theorem wrap_u64_eq (z : Int) : IntKind.wrap .u64 z = z % 18446744073709551616 := by
  simp only [IntKind.wrap, IntKind.bits, IntKind.signed]; simp
theorem wrap_i64_eq (z : Int) : IntKind.wrap .i64 z = if z % 18446744073709551616 < 9223372036854775808 then z % 18446744073709551616 else z % 18446744073709551616 - 18446744073709551616 := by
  simp only [IntKind.wrap, IntKind.bits, IntKind.signed]
  simp
  split <;> split <;> omega
def wN (a : Iv) : Int := IntKind.wrap .u64 ((IntKind.wrap .u64 a.hi) - (IntKind.wrap .u64 a.lo))
def kV (c : List Int) (i : Int) : Int := IntKind.wrap .u64 (IntKind.wrap .i64 ((IntKind.wrap .i64 ((byteV c i) * 257)) + (byteV c (IntKind.wrap .i64 (i + 1)))))
def spread (a : Iv) (x : Int) : Int := IntKind.wrap .i64 (IntKind.wrap .u64 ((IntKind.wrap .u64 a.lo) + (Int.tmod x (IntKind.wrap .u64 (wN a + 1)))))
def inV (a : Iv) (c : List Int) (i : Int) : Int :=
  if Int.tmod (byteV c (IntKind.wrap .i64 (i + 2))) 4 = 0 then a.lo else if Int.tmod (byteV c (IntKind.wrap .i64 (i + 2))) 4 = 1 then a.hi
  else if IntKind.wrap .u64 (wN a + 1) = 0 then IntKind.wrap .i64 (IntKind.wrap .u64 (kV c i * 281474976710597)) else spread a (IntKind.wrap .u64 (kV c i * 281474976710597))
section
variable {a : Iv} {c : List Int} {i : Int}
theorem in_0 (h0 : Int.tmod (byteV c (IntKind.wrap .i64 (i + 2))) 4 = 0) : inV a c i = a.lo := by unfold inV; rw [if_pos h0]
theorem in_1 (h0 : ¬ Int.tmod (byteV c (IntKind.wrap .i64 (i + 2))) 4 = 0) (h1 : Int.tmod (byteV c (IntKind.wrap .i64 (i + 2))) 4 = 1) : inV a c i = a.hi := by unfold inV; rw [if_neg h0, if_pos h1]
theorem in_2 (h0 : ¬ Int.tmod (byteV c (IntKind.wrap .i64 (i + 2))) 4 = 0) (h1 : ¬ Int.tmod (byteV c (IntKind.wrap .i64 (i + 2))) 4 = 1) (h2 : IntKind.wrap .u64 (wN a + 1) = 0) : inV a c i = IntKind.wrap .i64 (IntKind.wrap .u64 (kV c i * 281474976710597)) := by
  unfold inV; rw [if_neg h0, if_neg h1, if_pos h2]
theorem in_3 (h0 : ¬ Int.tmod (byteV c (IntKind.wrap .i64 (i + 2))) 4 = 0) (h1 : ¬ Int.tmod (byteV c (IntKind.wrap .i64 (i + 2))) 4 = 1) (h2 : ¬ IntKind.wrap .u64 (wN a + 1) = 0) : inV a c i = spread a (IntKind.wrap .u64 (kV c i * 281474976710597)) := by
  unfold inV; rw [if_neg h0, if_neg h1, if_neg h2]
theorem wN_eq (hf : FitI a) (h : a.lo ≤ a.hi) : wN a = a.hi - a.lo := by
  unfold wN FitI Fit at *
  rw [wrap_u64_eq, wrap_u64_eq, wrap_u64_eq]; omega
theorem spread_in (hf : FitI a) (h : a.lo ≤ a.hi) {x : Int} (hx : 0 ≤ x) (h2 : ¬ IntKind.wrap .u64 (wN a + 1) = 0) : a.lo ≤ spread a x ∧ spread a x ≤ a.hi := by
  have e := wN_eq hf h
  unfold FitI Fit at hf
  unfold spread
  rw [wrap_u64_eq] at h2
  have e2 : IntKind.wrap .u64 (wN a + 1) = a.hi - a.lo + 1 := by rw [wrap_u64_eq, e]; rw [e] at h2; omega
  rw [e2]
  have h3 := Int.tmod_nonneg (a.hi - a.lo + 1) hx
  have h4 := Int.tmod_lt_of_pos x (b := a.hi - a.lo + 1) (by omega)
  generalize Int.tmod x (a.hi - a.lo + 1) = y at *
  rw [wrap_i64_eq, wrap_u64_eq, wrap_u64_eq]
  split <;> omega
theorem full_in (hf : FitI a) (h : a.lo ≤ a.hi) (x : Int) (h2 : IntKind.wrap .u64 (wN a + 1) = 0) : a.lo ≤ IntKind.wrap .i64 x ∧ IntKind.wrap .i64 x ≤ a.hi := by
  have e := wN_eq hf h
  have h3 := fit_wrap x
  unfold FitI Fit at hf
  unfold Fit at h3
  rw [wrap_u64_eq, e] at h2
  omega
theorem inV_in (hf : FitI a) (h : a.lo ≤ a.hi) : a.lo ≤ inV a c i ∧ inV a c i ≤ a.hi := by
  unfold inV
  split
  · omega
  · split
    · omega
    · split
      · exact full_in hf h _ ‹_›
      · exact spread_in hf h (wrap_u64_nn _) ‹_›
end
def rinV (b : List Int) (p : Int) (a : Iv) : Int :=
  if belowV b p 4 = 0 then a.lo else if belowV b p 4 = 1 then a.hi
  else if IntKind.wrap .u64 (wN a + 1) = 0 then IntKind.wrap .i64 (wordV b (belowP b p 4)) else spread a (wordV b (belowP b p 4))
def rinP (b : List Int) (p : Int) (_ : Iv) : Int := if belowV b p 4 = 0 then belowP b p 4 else if belowV b p 4 = 1 then belowP b p 4 else wordP b (belowP b p 4)
theorem rin_0 {a : Iv} (h0 : belowV b p 4 = 0) : rinV b p a = a.lo ∧ rinP b p a = belowP b p 4 := by unfold rinV rinP; rw [if_pos h0, if_pos h0]; exact ⟨rfl, rfl⟩
theorem rin_1 {a : Iv} (h0 : ¬ belowV b p 4 = 0) (h1 : belowV b p 4 = 1) : rinV b p a = a.hi ∧ rinP b p a = belowP b p 4 := by unfold rinV rinP; rw [if_neg h0, if_neg h0, if_pos h1, if_pos h1]; exact ⟨rfl, rfl⟩
theorem rin_2 {a : Iv} (h0 : ¬ belowV b p 4 = 0) (h1 : ¬ belowV b p 4 = 1) (h2 : IntKind.wrap .u64 (wN a + 1) = 0) : rinV b p a = IntKind.wrap .i64 (wordV b (belowP b p 4)) ∧ rinP b p a = wordP b (belowP b p 4) := by
  unfold rinV rinP; rw [if_neg h0, if_neg h0, if_neg h1, if_neg h1, if_pos h2]; exact ⟨rfl, rfl⟩
theorem rin_3 {a : Iv} (h0 : ¬ belowV b p 4 = 0) (h1 : ¬ belowV b p 4 = 1) (h2 : ¬ IntKind.wrap .u64 (wN a + 1) = 0) : rinV b p a = spread a (wordV b (belowP b p 4)) ∧ rinP b p a = wordP b (belowP b p 4) := by
  unfold rinV rinP; rw [if_neg h0, if_neg h0, if_neg h1, if_neg h1, if_neg h2]; exact ⟨rfl, rfl⟩
theorem Rdr.ok.rin {a : Iv} (h : Rdr.ok b p) : Rdr.ok b (rinP b p a) := by
  unfold rinP
  repeat' split
  all_goals first | exact h.below | exact h.below.word
def htV (b : List Int) (p : Int) (t : List Env) : List Env :=
  if belowV b p 24 = 0 then t.drop 1
  else if belowV b p 24 = 1 then t.set 0 (hurtV b (belowP b p 24) (t.getD 0 default))
  else if belowV b p 24 = 2 then t ++ [⟨false, [], []⟩]
  else t
def htP (b : List Int) (p : Int) : Int := if belowV b p 24 = 1 then hurtP b (belowP b p 24) else belowP b p 24
theorem ht_0 {t : List Env} (h : belowV b p 24 = 0) : htV b p t = t.drop 1 := by unfold htV; rw [if_pos h]
theorem ht_1 {t : List Env} (h0 : ¬ belowV b p 24 = 0) (h : belowV b p 24 = 1) : htV b p t = t.set 0 (hurtV b (belowP b p 24) (t.getD 0 default)) := by unfold htV; rw [if_neg h0, if_pos h]
theorem ht_2 {t : List Env} (h0 : ¬ belowV b p 24 = 0) (h1 : ¬ belowV b p 24 = 1) (h : belowV b p 24 = 2) : htV b p t = t ++ [⟨false, [], []⟩] := by unfold htV; rw [if_neg h0, if_neg h1, if_pos h]
theorem ht_3 {t : List Env} (h0 : ¬ belowV b p 24 = 0) (h1 : ¬ belowV b p 24 = 1) (h : ¬ belowV b p 24 = 2) : htV b p t = t := by unfold htV; rw [if_neg h0, if_neg h1, if_neg h]
theorem htP_0 (h : ¬ belowV b p 24 = 1) : htP b p = belowP b p 24 := by unfold htP; rw [if_neg h]
theorem htP_1 (h : belowV b p 24 = 1) : htP b p = hurtP b (belowP b p 24) := by unfold htP; rw [if_pos h]
theorem Rdr.ok.ht (h : Rdr.ok b p) : Rdr.ok b (htP b p) := by
  unfold htP; split
  · exact h.below.hurt
  · exact h.below
theorem ht_len {t : List Env} : (htV b p t).length ≤ t.length + 1 := by
  unfold htV
  repeat' split
  all_goals first | (simp; done) | (simp; omega)
abbrev drA (c : List Int) : Env := envV c (declP c 0) (declV c 0)
abbrev drP2 (c : List Int) : Int := envP c (declP c 0) (declV c 0)
abbrev drB0 (c : List Int) : Env := envV c (drP2 c) (declV c 0)
abbrev drP3 (c : List Int) : Int := envP c (drP2 c) (declV c 0)
abbrev drB (c : List Int) : Env := if onceV c (drP3 c) 2 = true then Env.join (drA c) (drB0 c) else drB0 c
def dlA (c : List Int) : Env := hurtV c (belowP c (drP3 c) 2) (drA c)
def dlB (c : List Int) : Env := hurtV c (hurtP c (belowP c (drP3 c) 2)) (drB c)
theorem dlB_1 {c : List Int} (h : onceV c (drP3 c) 2 = true) : dlB c = hurtV c (hurtP c (belowP c (drP3 c) 2)) (Env.join (drA c) (drB0 c)) := by unfold dlB drB; rw [if_pos h]
theorem dlB_2 {c : List Int} (h : onceV c (drP3 c) 2 = false) : dlB c = hurtV c (hurtP c (belowP c (drP3 c) 2)) (drB0 c) := by unfold dlB drB; rw [if_neg (by rw [h]; decide)]
theorem dr_d (c : List Int) (p : Int) : (declV c p).vars.length ≤ 1048576 ∧ (declV c p).arrays.length ≤ 1048576 := by have := decl_len (b := c) (p := p); omega
theorem env_len' (c : List Int) (p q : Int) : (envV c p (declV c q)).ints.length ≤ 5 ∧ (envV c p (declV c q)).arrs.length ≤ 1 := by
  have h1 := decl_len (b := c) (p := q)
  have h2 := env_len (b := c) (p := p) (d := declV c q)
  omega
theorem env_live {c : List Int} {p : Int} {d : Decl} (h : (envV c p d).live = true) : (envV c p d).ints.length = d.vars.length ∧ (envV c p d).arrs.length = d.arrays.length := by
  unfold envV at h ⊢
  split
  · rename_i h9; rw [if_pos h9] at h; exact absurd h (by decide)
  · simp [smL_len]
theorem dr_j (c : List Int) (p q : Int) (d : Decl) : (envV c p d).live = true → (envV c q d).live = true → (envV c p d).ints.length = (envV c q d).ints.length ∧ (envV c p d).arrs.length = (envV c q d).arrs.length := fun h1 h2 => by
  rw [(env_live h1).1, (env_live h1).2, (env_live h2).1, (env_live h2).2]; exact ⟨rfl, rfl⟩
theorem dr_h (c : List Int) (p q u : Int) : (envV c p (declV c u)).ints.length ≤ 1048576 ∧ (envV c p (declV c u)).arrs.length ≤ 1048576 ∧ (envV c q (declV c u)).ints.length ≤ 1048576 ∧ (envV c q (declV c u)).arrs.length ≤ 1048576 := by
  have h1 := env_len' c p u
  have h2 := env_len' c q u
  omega
theorem dr_e (c : List Int) (p u : Int) : (envV c p (declV c u)).ints.length ≤ 1048576 := by have h1 := env_len' c p u; omega
theorem join_len' {a b : Env} : (Env.join a b).ints.length ≤ max a.ints.length b.ints.length ∧ (Env.join a b).arrs.length ≤ max a.arrs.length b.arrs.length := by
  unfold Env.join
  repeat' split
  all_goals first | omega | (simp only [zip2_len]; omega)
theorem dr_e2 (c : List Int) (p q u : Int) : (Env.join (envV c p (declV c u)) (envV c q (declV c u))).ints.length ≤ 1048576 := by
  have h1 := env_len' c p u
  have h2 := env_len' c q u
  have h3 := join_len' (a := envV c p (declV c u)) (b := envV c q (declV c u))
  omega
theorem dl_len (c : List Int) : (dlA c).ints.length ≤ 6 ∧ (dlA c).arrs.length ≤ 1 ∧ (dlB c).ints.length ≤ 6 ∧ (dlB c).arrs.length ≤ 1 := by
  have h1 : (drA c).ints.length ≤ 5 ∧ (drA c).arrs.length ≤ 1 := env_len' c (declP c 0) 0
  have h2 : (drB0 c).ints.length ≤ 5 ∧ (drB0 c).arrs.length ≤ 1 := env_len' c (drP2 c) 0
  have h3 := join_len' (a := drA c) (b := drB0 c)
  have h4 := hurt_len (b := c) (p := belowP c (drP3 c) 2) (e := drA c)
  have h5 := hurt_len (b := c) (p := hurtP c (belowP c (drP3 c) 2)) (e := drB c)
  unfold dlA dlB
  have h6 : (drB c).ints.length ≤ 5 ∧ (drB c).arrs.length ≤ 1 := by
    unfold drB; split <;> omega
  omega
theorem join_fit {a b : Env} (ha : FitE a) (hb : FitE b) (hl : a.live = true → b.live = true → a.ints.length = b.ints.length ∧ a.arrs.length = b.arrs.length) : FitE (Env.join a b) := by
  unfold Env.join
  split
  · rename_i h1
    split
    · rename_i h2
      have h3 := hl h1 h2
      have key : ∀ {x y : List Iv}, (∀ z ∈ x, FitI z) → (∀ z ∈ y, FitI z) → x.length = y.length → ∀ z ∈ zip2 Iv.join x y, FitI z := by
        intro x y hx hy he z hz
        unfold zip2 zip2To at hz
        simp only [List.mem_map, List.mem_range] at hz
        obtain ⟨i, hi, rfl⟩ := hz
        have h4 := hx _ (getD_mem hi)
        have h5 := hy _ (getD_mem (he ▸ hi))
        unfold FitI Fit Iv.join at *
        simp only
        omega
      exact ⟨key ha.1 hb.1 h3.1, key ha.2 hb.2 h3.2⟩
    · exact ha
  · exact hb
theorem dl_fit {c : List Int} (h : Rdr.ok c 0) : FitE (dlA c) ∧ FitE (dlB c) := by
  have h1 : FitE (drA c) := env_fit h.declP
  have h2 : FitE (drB0 c) := env_fit h.declP.env
  unfold dlA dlB
  refine ⟨hurt_fit h1, hurt_fit ?_⟩
  unfold drB; split
  · exact join_fit h1 h2 (dr_j _ _ _ _)
  · exact h2
end Go.Proofs

namespace Go.Proofs
open Go Go.Ev
variable [Lay]
def Env.leqIn (d : Decl) (a b : Env) : Bool := (Decl.ok d && Env.okIn d a && Env.okIn d b) && Env.leq a b
theorem leqIn_len {d : Decl} {a b : Env} (h : (Decl.ok d && Env.okIn d a && Env.okIn d b) = true) : a.live = true → b.live = true → a.ints.length = b.ints.length ∧ a.arrs.length = b.arrs.length :=
  okIn_len2 (by simpa [Bool.and_eq_true] using h)
theorem leq_two {d : Decl} {a b : Env} (h1 : (Decl.ok d && Env.okIn d a) = true) (h2 : (Decl.ok d && Env.okIn d b) = true) : (Decl.ok d && Env.okIn d a && Env.okIn d b) = true := by
  simp only [Bool.and_eq_true] at *; exact ⟨h1, h2.2⟩
theorem leqIn_spec {d : Decl} {a b : Env} : ((Decl.ok d && Env.okIn d a) && (Decl.ok d && Env.okIn d b) && Env.leq a b) = Env.leqIn d a b := by
  unfold Env.leqIn
  cases Decl.ok d <;> simp
theorem okIn_off {d : Decl} {a : Env} (h : Env.okIn d a = true) (hl : a.live = false) : a = ⟨false, [], []⟩ := by
  unfold Env.okIn at h
  rw [if_neg (by rw [hl]; decide)] at h
  simp only [Bool.and_eq_true, beq_iff_eq] at h
  have h1 : a.ints = [] := List.eq_nil_of_length_eq_zero (by omega)
  have h2 : a.arrs = [] := List.eq_nil_of_length_eq_zero (by omega)
  cases a; simp_all
theorem okIn_ok {d : Decl} {a : Env} (h : Env.okIn d a = true) (hl : a.live = true) : (a.ints.length = d.vars.length ∧ a.arrs.length = d.arrays.length) ∧ (∀ x ∈ a.ints, x.lo ≤ x.hi) ∧ ∀ x ∈ a.arrs, x.lo ≤ x.hi := by
  refine ⟨okIn_one h hl, ?_⟩
  unfold Env.okIn at h
  rw [if_pos hl] at h
  simp only [Bool.and_eq_true, List.all_eq_true, List.mem_append, Iv.ok, decide_eq_true_eq] at h
  exact ⟨fun x hx => h.2 x (.inl hx), fun x hx => h.2 x (.inr hx)⟩
theorem okIn_mk {d : Decl} {a : Env} (hl : a.live = true) (h1 : a.ints.length = d.vars.length) (h2 : a.arrs.length = d.arrays.length) (h3 : ∀ x ∈ a.ints, x.lo ≤ x.hi) (h4 : ∀ x ∈ a.arrs, x.lo ≤ x.hi) : Env.okIn d a = true := by
  unfold Env.okIn
  rw [if_pos hl]
  simp only [Bool.and_eq_true, beq_iff_eq, List.all_eq_true, List.mem_append, Iv.ok, decide_eq_true_eq]
  exact ⟨⟨by omega, by omega⟩, fun x hx => hx.elim (h3 x) (h4 x)⟩
theorem leq_mk {a b : Env} (hb : b.live = true) (h1 : ∀ i, i < a.ints.length → Iv.leq (a.ints.getD i default) (b.ints.getD i default) = true) (h2 : ∀ i, i < a.arrs.length → Iv.leq (a.arrs.getD i default) (b.arrs.getD i default) = true) : Env.leq a b = true := by
  unfold Env.leq
  split
  · simp only [hb, if_true, Bool.and_eq_true]; exact ⟨allTo_iff.2 h1, allTo_iff.2 h2⟩
  · rfl
theorem Iv.leq_mk {a b : Iv} (h1 : a.lo ≤ a.hi) (h2 : b.lo ≤ b.hi) (h3 : b.lo ≤ a.lo) (h4 : a.hi ≤ b.hi) : Iv.leq a b = true := by
  simp only [Iv.leq, Iv.ok, Bool.and_eq_true, decide_eq_true_eq]; exact ⟨⟨⟨h1, h2⟩, h3⟩, h4⟩
theorem zip2_get {α β γ : Type} [Inhabited α] [Inhabited β] [Inhabited γ] {f : α → β → γ} {a : List α} {b : List β} {i : Nat} (h : i < a.length) : (zip2 f a b).getD i default = f (a.getD i default) (b.getD i default) := by
  unfold zip2 zip2To
  rw [List.getD_eq_getElem?_getD, List.getElem?_map, List.getElem?_range h]; rfl
theorem zip2_all {α β γ : Type} [Inhabited α] [Inhabited β] {f : α → β → γ} {a : List α} {b : List β} {p : γ → Prop} (h : ∀ i, i < a.length → p (f (a.getD i default) (b.getD i default))) : ∀ x ∈ zip2 f a b, p x := by
  intro x hx
  unfold zip2 zip2To at hx
  simp only [List.mem_map, List.mem_range] at hx
  obtain ⟨i, hi, rfl⟩ := hx
  exact h i hi
theorem list_ext {α : Type} [Inhabited α] {a b : List α} (hl : a.length = b.length) (h : ∀ i, i < a.length → a.getD i default = b.getD i default) : a = b := by
  refine List.ext_getElem hl fun i h1 h2 => ?_
  have := h i h1
  rwa [List.getD_eq_getElem?_getD, List.getD_eq_getElem?_getD, List.getElem?_eq_getElem h1, List.getElem?_eq_getElem h2] at this
theorem zip2_id {f : Iv → Iv → Iv} {a b : List Iv} (h : ∀ i, i < a.length → f (a.getD i default) (b.getD i default) = a.getD i default) : zip2 f a b = a :=
  list_ext (zip2_len _ _ _) fun i hi => by rw [zip2_len] at hi; rw [zip2_get hi]; exact h i hi
theorem foldl_le {n z : Int} : ∀ {l : List Int}, z ≤ n → l.foldl (fun m s => if s ≤ n then max m s else m) z ≤ n
  | [], h => h
  | s :: l, h => by
    simp only [List.foldl_cons]
    refine foldl_le ?_
    split <;> omega
theorem foldl_ge {n z : Int} : ∀ {l : List Int}, n ≤ z → n ≤ l.foldl (fun m s => if s ≥ n then min m s else m) z
  | [], h => h
  | s :: l, h => by
    simp only [List.foldl_cons]
    refine foldl_ge ?_
    split <;> omega
theorem widenLo_le {n z : Int} {l : List Int} (h : z ≤ n) : widenLo n l z ≤ n := foldl_le h
theorem widenHi_ge {n z : Int} {l : List Int} (h : n ≤ z) : n ≤ widenHi n l z := foldl_ge h
theorem widen_bnd {a b : Iv} {l : List Int} (fb : FitI b) : (Iv.widen a b l).lo ≤ a.lo ∧ (Iv.widen a b l).lo ≤ b.lo ∧ a.hi ≤ (Iv.widen a b l).hi ∧ b.hi ≤ (Iv.widen a b l).hi := by
  have h1 := widenLo_le (n := b.lo) (z := -9223372036854775808) (l := l) fb.1.1
  have h2 := widenHi_ge (n := b.hi) (z := 9223372036854775807) (l := l) fb.2.2
  unfold Iv.widen
  simp only
  split <;> split <;> omega
theorem widen_stay {a b : Iv} {l : List Int} (h1 : a.lo ≤ b.lo) (h2 : b.hi ≤ a.hi) : Iv.widen a b l = a := by
  unfold Iv.widen
  rw [if_neg (by omega), if_neg (by omega)]
theorem widenOk_is {a b : Iv} {l : List Int} (h1 : a.lo ≤ a.hi) (h2 : b.lo ≤ b.hi) (hl : ¬ (l.length : Int) > 100) : Iv.widenOk l a b = Iv.widen a b l :=
  Iv.widenOk_yes ⟨⟨decide_eq_true h1, decide_eq_true h2⟩, hl⟩
section
variable {d : Decl} {a b : Env} {l : List Int}
theorem widen_ok (hd : Decl.ok d = true) (ha : Env.okIn d a = true) (hb : Env.okIn d b = true) (hl : ¬ (l.length : Int) > 100) (fb : FitE b) : Env.okIn d (Env.widenIn d a b l) = true := by
  rw [Env.widenIn_yes2 ⟨⟨⟨hd, ha⟩, hb⟩, hl⟩]
  unfold Env.joinW
  split
  · rename_i h1
    split
    · rename_i h2
      obtain ⟨a1, a2, a3⟩ := okIn_ok ha h1
      obtain ⟨b1, b2, b3⟩ := okIn_ok hb h2
      have key : ∀ {x y : List Iv}, (∀ z ∈ x, z.lo ≤ z.hi) → (∀ z ∈ y, z.lo ≤ z.hi) → (∀ z ∈ y, FitI z) → x.length = y.length → ∀ z ∈ zip2 (fun x y => Iv.widenOk l x y) x y, z.lo ≤ z.hi := fun {x y} hx hy hf he => zip2_all fun i hi => by
        have h3 := hx _ (getD_mem hi)
        have h4 := hy _ (getD_mem (he ▸ hi))
        have h5 := hf _ (getD_mem (he ▸ hi))
        rw [widenOk_is h3 h4 hl]
        have := widen_bnd (a := x.getD i default) (l := l) h5
        omega
      exact okIn_mk rfl (by rw [zip2_len]; exact a1.1) (by rw [zip2_len]; exact a1.2) (key a2 b2 fb.1 (a1.1.trans b1.1.symm)) (key a3 b3 fb.2 (a1.2.trans b1.2.symm))
    · exact ha
  · exact hb
theorem widen_above (hd : Decl.ok d = true) (ha : Env.okIn d a = true) (hb : Env.okIn d b = true) (hl : ¬ (l.length : Int) > 100) (fb : FitE b) : Env.leqIn d a (Env.widenIn d a b l) = true ∧ Env.leqIn d b (Env.widenIn d a b l) = true := by
  have hw := widen_ok hd ha hb hl fb
  unfold Env.leqIn
  rw [hd, ha, hb, hw]
  simp only [Bool.and_self, Bool.true_and]
  rw [Env.widenIn_yes2 ⟨⟨⟨hd, ha⟩, hb⟩, hl⟩]
  have same : ∀ {x : List Iv}, (∀ z ∈ x, z.lo ≤ z.hi) → ∀ i, i < x.length → Iv.leq (x.getD i default) (x.getD i default) = true := fun hx i hi => Iv.leq_mk (hx _ (getD_mem hi)) (hx _ (getD_mem hi)) (Int.le_refl _) (Int.le_refl _)
  unfold Env.joinW
  split
  · rename_i h1
    obtain ⟨a1, a2, a3⟩ := okIn_ok ha h1
    split
    · rename_i h2
      obtain ⟨b1, b2, b3⟩ := okIn_ok hb h2
      have key : ∀ {x y : List Iv}, (∀ z ∈ x, z.lo ≤ z.hi) → (∀ z ∈ y, z.lo ≤ z.hi) → (∀ z ∈ y, FitI z) → x.length = y.length → ∀ i, i < x.length → Iv.leq (x.getD i default) ((zip2 (fun x y => Iv.widenOk l x y) x y).getD i default) = true ∧ Iv.leq (y.getD i default) ((zip2 (fun x y => Iv.widenOk l x y) x y).getD i default) = true := fun {x y} hx hy hf he i hi => by
        have h3 := hx _ (getD_mem hi)
        have h4 := hy _ (getD_mem (he ▸ hi))
        have h5 := hf _ (getD_mem (he ▸ hi))
        rw [zip2_get hi, widenOk_is h3 h4 hl]
        have := widen_bnd (a := x.getD i default) (l := l) h5
        exact ⟨Iv.leq_mk h3 (by omega) (by omega) (by omega), Iv.leq_mk h4 (by omega) (by omega) (by omega)⟩
      have e1 := a1.1.trans b1.1.symm
      have e2 := a1.2.trans b1.2.symm
      exact ⟨leq_mk rfl (fun i hi => (key a2 b2 fb.1 e1 i hi).1) fun i hi => (key a3 b3 fb.2 e2 i hi).1, leq_mk rfl (fun i hi => (key a2 b2 fb.1 e1 i (e1 ▸ hi)).2) fun i hi => (key a3 b3 fb.2 e2 i (e2 ▸ hi)).2⟩
    · rename_i h2
      refine ⟨leq_mk h1 (same a2) (same a3), ?_⟩
      unfold Env.leq; rw [if_neg h2]
  · rename_i h1
    refine ⟨by unfold Env.leq; rw [if_neg h1], ?_⟩
    cases h2 : b.live with
    | true =>
      obtain ⟨b1, b2, b3⟩ := okIn_ok hb h2
      exact leq_mk h2 (same b2) (same b3)
    | false => unfold Env.leq; rw [if_neg (by rw [h2]; decide)]
theorem widen_still {w : Env} (hd : Decl.ok d = true) (hw : Env.okIn d w = true) (hb : Env.okIn d b = true) (hl : ¬ (l.length : Int) > 100) (h : Env.leq b w = true) : Env.widenIn d w b l = w := by
  rw [Env.widenIn_yes2 ⟨⟨⟨hd, hw⟩, hb⟩, hl⟩]
  unfold Env.joinW
  unfold Env.leq at h
  cases h1 : w.live with
  | true =>
    cases h2 : b.live with
    | true =>
      obtain ⟨a1, a2, a3⟩ := okIn_ok hw h1
      obtain ⟨b1, b2, b3⟩ := okIn_ok hb h2
      rw [if_pos h2, if_pos h1, Bool.and_eq_true] at h
      have key : ∀ {x y : List Iv}, x.length = y.length → (allTo y.length fun i => Iv.leq (y.getD i default) (x.getD i default)) = true → zip2 (fun x y => Iv.widenOk l x y) x y = x := fun {x y} he h3 => zip2_id fun i hi => by
        have h4 := allTo_iff.1 h3 i (he ▸ hi)
        simp only [Iv.leq, Iv.ok, Bool.and_eq_true, decide_eq_true_eq] at h4
        rw [widenOk_is h4.1.1.2 h4.1.1.1 hl, widen_stay h4.1.2 h4.2]
      rw [if_pos rfl, if_pos rfl, key (a1.1.trans b1.1.symm) h.1, key (a1.2.trans b1.2.symm) h.2]
      cases w; simp_all
    | false => rw [if_pos rfl, if_neg (by decide)]
  | false =>
    rw [if_neg (by decide)]
    cases h2 : b.live with
    | true => rw [if_pos h2, if_neg (by rw [h1]; decide)] at h; exact absurd h (by decide)
    | false => rw [okIn_off hb h2, okIn_off hw h1]
theorem law_EnvWiden (hd : Decl.ok d = true) (ha : Env.okIn d a = true) (hb : Env.okIn d b = true) (hl : ¬ (l.length : Int) > 100) (fb : FitE b) :
    Env.leqIn d a (Env.widenIn d a b l) = true ∧ Env.leqIn d b (Env.widenIn d a b l) = true ∧ Env.same (Env.widenIn d (Env.widenIn d a b l) b l) (Env.widenIn d a b l) = true ∧ Env.same (Env.widenIn d (Env.widenIn d a b l) a []) (Env.widenIn d a b l) = true := by
  obtain ⟨h1, h2⟩ := widen_above hd ha hb hl fb
  have hw := widen_ok hd ha hb hl fb
  refine ⟨h1, h2, ?_, ?_⟩
  · rw [widen_still hd hw hb hl (Bool.and_eq_true_iff.1 h2).2]; exact Env.same_self _
  · rw [widen_still hd hw ha (by simp) (Bool.and_eq_true_iff.1 h1).2]; exact Env.same_self _
end
end Go.Proofs

namespace Go.Proofs
open Go Go.Ev
variable [Lay]
variable {b : List Int} {p : Int} {d : Decl}
theorem leaves_bnd (h : d.flags.length ≤ 3) : 1 ≤ leavesOf d ∧ leavesOf d ≤ 8 := by
  unfold leavesOf
  have : d.flags.length = 0 ∨ d.flags.length = 1 ∨ d.flags.length = 2 ∨ d.flags.length = 3 := by omega
  rcases this with h | h | h | h <;> rw [h] <;> decide
def tbP2 (b : List Int) (d : Decl) (p : Int) (i : Nat) : Int := if (i : Int) > 0 then belowP b (envP b p d) 2 else envP b p d
def tbP3 (b : List Int) (d : Decl) (p : Int) (i : Nat) : Int := if (i : Int) > 0 ∧ onceV b (envP b p d) 2 = true then belowP b (tbP2 b d p i) (i : Int) else tbP2 b d p i
def tbE1 (b : List Int) (d : Decl) (p : Int) (out : List Env) (i : Nat) : Env := if (i : Int) > 0 ∧ onceV b (envP b p d) 2 = true then out.getD (belowV b (tbP2 b d p i) (i : Int)).toNat default else envV b p d
def tbE (b : List Int) (d : Decl) (p : Int) (out : List Env) (i : Nat) : Env := if onceV b (tbP3 b d p i) 6 = true then ⟨false, [], []⟩ else tbE1 b d p out i
def tbS (b : List Int) (d : Decl) (p : Int) : Nat → List Env × Int
  | 0 => ([], p)
  | j + 1 => ((tbS b d p j).1 ++ [tbE b d (tbS b d p j).2 (tbS b d p j).1 j], belowP b (tbP3 b d (tbS b d p j).2 j) 6)
def tbV (b : List Int) (p : Int) (d : Decl) : List Env := (tbS b d p (leavesOf d).toNat).1
def tbP (b : List Int) (p : Int) (d : Decl) : Int := (tbS b d p (leavesOf d).toNat).2
theorem Rdr.ok.tb3 (h : Rdr.ok b p) (i : Nat) : Rdr.ok b (tbP3 b d p i) := by
  have h2 : Rdr.ok b (tbP2 b d p i) := by
    unfold tbP2; split
    · exact h.env.below
    · exact h.env
  unfold tbP3; split
  · exact h2.below
  · exact h2
theorem Rdr.ok.tb2 (h : Rdr.ok b p) (i : Nat) : Rdr.ok b (tbP2 b d p i) := by
  unfold tbP2; split
  · exact h.env.below
  · exact h.env
theorem Rdr.ok.tbS (h : Rdr.ok b p) : ∀ j, Rdr.ok b (tbS b d p j).2
  | 0 => h
  | j + 1 => Rdr.ok.below (n := 6) ((Rdr.ok.tbS h j).tb3 (d := d) j)
theorem Rdr.ok.tb (h : Rdr.ok b p) : Rdr.ok b (tbP b p d) := h.tbS _
theorem tbS_len : ∀ j, (tbS b d p j).1.length = j
  | 0 => rfl
  | j + 1 => by simp [tbS, tbS_len j]
def Sized (d : Decl) (x : Env) : Prop := (x.live = true → x.ints.length = d.vars.length ∧ x.arrs.length = d.arrays.length) ∧ x.ints.length ≤ d.vars.length ∧ x.arrs.length ≤ d.arrays.length ∧ FitE x
theorem env_sized (h : Rdr.ok b p) : Sized d (envV b p d) := ⟨env_live, env_len.1, env_len.2, env_fit h⟩
theorem off_sized : Sized d ⟨false, [], []⟩ := ⟨fun h => absurd h (by decide), Nat.zero_le _, Nat.zero_le _, by simp [FitE]⟩
theorem tb_sized (h : Rdr.ok b p) : ∀ j, ∀ x ∈ (tbS b d p j).1, Sized d x
  | 0, x, hx => by simp [tbS] at hx
  | j + 1, x, hx => by
    simp only [tbS, List.mem_append, List.mem_singleton] at hx
    rcases hx with hx | rfl
    · exact tb_sized h j x hx
    · unfold tbE
      split
      · exact off_sized
      · unfold tbE1
        split
        · rename_i h1
          have h2 := belowV_bnd (n := (j : Int)) ((Rdr.ok.tbS (d := d) h j).tb2 (d := d) j) (by omega)
          exact tb_sized h j _ (getD_mem (by rw [tbS_len]; omega))
        · exact env_sized (Rdr.ok.tbS h j)
section
theorem no_and {A : Prop} {x : Bool} (h : ¬ A ∨ x = false) : ¬ (A ∧ x = true) := fun h9 => h.elim (fun h8 => h8 h9.1) fun h8 => by rw [h8] at h9; exact absurd h9.2 (by decide)
variable {j : Nat}
theorem tbP3_1 (h1 : (j : Int) > 0 ∧ onceV b (envP b p d) 2 = true) : tbP3 b d p j = belowP b (tbP2 b d p j) (j : Int) := by unfold tbP3; exact if_pos h1
theorem tbP3_0 (h1 : ¬ (j : Int) > 0 ∨ onceV b (envP b p d) 2 = false) : tbP3 b d p j = tbP2 b d p j := by unfold tbP3; exact if_neg (no_and h1)
theorem tbE_1 {out : List Env} (h : onceV b (tbP3 b d p j) 6 = true) : tbE b d p out j = ⟨false, [], []⟩ := by unfold tbE; exact if_pos h
theorem tbE_0 {out : List Env} (h : onceV b (tbP3 b d p j) 6 = false) : tbE b d p out j = tbE1 b d p out j := by unfold tbE; exact if_neg (by rw [h]; decide)
theorem tbE1_1 {out : List Env} (h1 : (j : Int) > 0 ∧ onceV b (envP b p d) 2 = true) : tbE1 b d p out j = out.getD (belowV b (tbP2 b d p j) (j : Int)).toNat default := by unfold tbE1; exact if_pos h1
theorem tbE1_0 {out : List Env} (h1 : ¬ (j : Int) > 0 ∨ onceV b (envP b p d) 2 = false) : tbE1 b d p out j = envV b p d := by unfold tbE1; exact if_neg (no_and h1)
theorem tbS_1 {x : Env} (h : tbE b d (tbS b d p j).2 (tbS b d p j).1 j = x) : (tbS b d p j).1 ++ [x] = (tbS b d p (j + 1)).1 := by rw [← h]; rfl
theorem tbS_2 {q : Int} (h : tbP3 b d (tbS b d p j).2 j = q) : belowP b q 6 = (tbS b d p (j + 1)).2 := by rw [← h]; rfl
theorem tb_11 (h1 : (j : Int) > 0 ∧ onceV b (envP b (tbS b d p j).2 d) 2 = true) (h2 : onceV b (belowP b (tbP2 b d (tbS b d p j).2 j) (j : Int)) 6 = true) : (tbS b d p j).1 ++ [⟨false, [], []⟩] = (tbS b d p (j + 1)).1 :=
  tbS_1 (tbE_1 (by rw [tbP3_1 h1]; exact h2))
theorem tb_10 (h1 : (j : Int) > 0 ∧ onceV b (envP b (tbS b d p j).2 d) 2 = true) (h2 : onceV b (belowP b (tbP2 b d (tbS b d p j).2 j) (j : Int)) 6 = false) : (tbS b d p j).1 ++ [(tbS b d p j).1.getD (belowV b (tbP2 b d (tbS b d p j).2 j) (j : Int)).toNat default] = (tbS b d p (j + 1)).1 :=
  tbS_1 ((tbE_0 (by rw [tbP3_1 h1]; exact h2)).trans (tbE1_1 h1))
theorem tb_01 (h1 : ¬ (j : Int) > 0 ∨ onceV b (envP b (tbS b d p j).2 d) 2 = false) (h2 : onceV b (tbP2 b d (tbS b d p j).2 j) 6 = true) : (tbS b d p j).1 ++ [⟨false, [], []⟩] = (tbS b d p (j + 1)).1 :=
  tbS_1 (tbE_1 (by rw [tbP3_0 h1]; exact h2))
theorem tb_00 (h1 : ¬ (j : Int) > 0 ∨ onceV b (envP b (tbS b d p j).2 d) 2 = false) (h2 : onceV b (tbP2 b d (tbS b d p j).2 j) 6 = false) : (tbS b d p j).1 ++ [envV b (tbS b d p j).2 d] = (tbS b d p (j + 1)).1 :=
  tbS_1 ((tbE_0 (by rw [tbP3_0 h1]; exact h2)).trans (tbE1_0 h1))
theorem tb_p1 (h1 : (j : Int) > 0 ∧ onceV b (envP b (tbS b d p j).2 d) 2 = true) : belowP b (belowP b (tbP2 b d (tbS b d p j).2 j) (j : Int)) 6 = (tbS b d p (j + 1)).2 := tbS_2 (tbP3_1 h1)
theorem tb_p0 (h1 : ¬ (j : Int) > 0 ∨ onceV b (envP b (tbS b d p j).2 d) 2 = false) : belowP b (tbP2 b d (tbS b d p j).2 j) 6 = (tbS b d p (j + 1)).2 := tbS_2 (tbP3_0 h1)
end
theorem tb_copy (h : Rdr.ok b p) (hd : d.vars.length ≤ 1048576 ∧ d.arrays.length ≤ 1048576) {j i : Nat} (hi : i < j) : ((tbS b d p j).1.getD i default).ints.length ≤ 1048576 ∧ ((tbS b d p j).1.getD i default).arrs.length ≤ 1048576 := by
  have h1 := tb_sized (d := d) h j _ (getD_mem (a := (tbS b d p j).1) (j := i) (by rw [tbS_len]; exact hi))
  exact ⟨Nat.le_trans h1.2.1 hd.1, Nat.le_trans h1.2.2.1 hd.2⟩
theorem tb_end {j : Nat} (h : (j : Int) ≤ leavesOf d) (h1 : ¬ (j : Int) < leavesOf d) : (tbS b d p j).1 = tbV b p d ∧ (tbS b d p j).2 = tbP b p d := by
  have : j = (leavesOf d).toNat := by omega
  subst this
  exact ⟨rfl, rfl⟩
theorem tbV_len (h : d.flags.length ≤ 3) : ((tbV b p d).length : Int) = leavesOf d := by
  have := leaves_bnd h
  unfold tbV; rw [tbS_len]; omega
theorem tbV_sized (h : Rdr.ok b p) : ∀ x ∈ tbV b p d, Sized d x := tb_sized h _
abbrev dtA (c : List Int) : List Env := tbV c (declP c 0) (declV c 0)
abbrev dtP2 (c : List Int) : Int := tbP c (declP c 0) (declV c 0)
abbrev dtB0 (c : List Int) : List Env := tbV c (dtP2 c) (declV c 0)
abbrev dtP3 (c : List Int) : Int := tbP c (dtP2 c) (declV c 0)
abbrev dtB (c : List Int) : List Env := if onceV c (dtP3 c) 2 = true then zip2 Env.join (dtA c) (dtB0 c) else dtB0 c
def tlA (c : List Int) : List Env := htV c (belowP c (dtP3 c) 2) (dtA c)
def tlB (c : List Int) : List Env := htV c (htP c (belowP c (dtP3 c) 2)) (dtB c)
theorem tlB_1 {c : List Int} (h : onceV c (dtP3 c) 2 = true) : tlB c = htV c (htP c (belowP c (dtP3 c) 2)) (zip2 Env.join (dtA c) (dtB0 c)) := by unfold tlB dtB; rw [if_pos h]
theorem tlB_2 {c : List Int} (h : onceV c (dtP3 c) 2 = false) : tlB c = htV c (htP c (belowP c (dtP3 c) 2)) (dtB0 c) := by unfold tlB dtB; rw [if_neg (by rw [h]; decide)]
section
variable {c : List Int} {q q' u : Int}
theorem tv_x (h : Rdr.ok c q) : ∀ x ∈ tbV c q (declV c u), x.ints.length ≤ 1048576 ∧ x.arrs.length ≤ 1048576 := fun x hx => by
  have h1 := tbV_sized h x hx
  have h2 := decl_len (b := c) (p := u)
  have h3 := h1.2.1
  have h4 := h1.2.2.1
  omega
theorem tv_l : (tbV c q (declV c u)).length = (tbV c q' (declV c u)).length ∧ (tbV c q (declV c u)).length ≤ 1048576 := by
  have h1 := tbV_len (b := c) (p := q) (d := declV c u) decl_len.2.1
  have h2 := tbV_len (b := c) (p := q') (d := declV c u) decl_len.2.1
  have h3 := leaves_bnd (d := declV c u) decl_len.2.1
  omega
theorem tv_f (h : Rdr.ok c q) (h' : Rdr.ok c q') : ∀ i, i < (tbV c q (declV c u)).length → ((tbV c q (declV c u)).getD i default).live = true → ((tbV c q' (declV c u)).getD i default).live = true →
    ((tbV c q (declV c u)).getD i default).ints.length = ((tbV c q' (declV c u)).getD i default).ints.length ∧ ((tbV c q (declV c u)).getD i default).arrs.length = ((tbV c q' (declV c u)).getD i default).arrs.length := fun i hi h1 h2 => by
  have h3 := (tbV_sized h _ (getD_mem hi)).1 h1
  have h4 := (tbV_sized h' _ (getD_mem ((tv_l (q' := q')).1 ▸ hi))).1 h2
  omega
theorem tv_h (h : Rdr.ok c q) : (tbV c q (declV c u)).length ≤ 1048576 ∧ ∀ x ∈ tbV c q (declV c u), x.ints.length ≤ 1048576 := ⟨(tv_l (q' := q)).2, fun x hx => (tv_x h x hx).1⟩
theorem tv_n : 1 ≤ (tbV c q (declV c u)).length := by
  have h1 := tbV_len (b := c) (p := q) (d := declV c u) decl_len.2.1
  have h3 := leaves_bnd (d := declV c u) decl_len.2.1
  omega
theorem join_sized {d : Decl} {a b : Env} (ha : Sized d a) (hb : Sized d b) : Sized d (Env.join a b) := by
  refine ⟨fun hl => ?_, ?_, ?_, join_fit ha.2.2.2 hb.2.2.2 fun h1 h2 => ?_⟩
  · unfold Env.join at hl ⊢
    split
    · rename_i h1
      split
      · simp only [zip2_len]; exact ha.1 h1
      · exact ha.1 h1
    · rename_i h1
      rw [if_neg h1] at hl
      exact hb.1 hl
  · have := join_len' (a := a) (b := b); have := ha.2.1; have := hb.2.1; omega
  · have := join_len' (a := a) (b := b); have := ha.2.2.1; have := hb.2.2.1; omega
  · have h3 := ha.1 h1
    have h4 := hb.1 h2
    omega
theorem tj_sized (h : Rdr.ok c q) (h' : Rdr.ok c q') : ∀ x ∈ zip2 Env.join (tbV c q (declV c u)) (tbV c q' (declV c u)), Sized (declV c u) x := fun x hx => by
  obtain ⟨i, hi, rfl⟩ := zip2_mem hx
  exact join_sized (tbV_sized h _ (getD_mem hi)) (tbV_sized h' _ (getD_mem ((tv_l (q' := q')).1 ▸ hi)))
theorem tj_h (h : Rdr.ok c q) (h' : Rdr.ok c q') : (zip2 Env.join (tbV c q (declV c u)) (tbV c q' (declV c u))).length ≤ 1048576 ∧ ∀ x ∈ zip2 Env.join (tbV c q (declV c u)) (tbV c q' (declV c u)), x.ints.length ≤ 1048576 := by
  refine ⟨by rw [zip2_len]; exact (tv_l (q' := q)).2, fun x hx => ?_⟩
  have h1 := (tj_sized h h' x hx).2.1
  have h2 := decl_len (b := c) (p := u)
  omega
theorem tj_n : 1 ≤ (zip2 Env.join (tbV c q (declV c u)) (tbV c q' (declV c u))).length := by rw [zip2_len]; exact tv_n
theorem d_hd : (declV c u).vars.length ≤ 1048576 ∧ (declV c u).arrays.length ≤ 1048576 := by have := decl_len (b := c) (p := u); omega
def Sized1 (x : Env) : Prop := x.ints.length ≤ 6 ∧ x.arrs.length ≤ 1 ∧ FitE x
theorem ht_sized {p : Int} {t : List Env} (h : ∀ x ∈ t, Sized (declV c u) x) (hn : 1 ≤ t.length) : ∀ x ∈ htV c p t, Sized1 x := by
  have h0 : ∀ x, Sized (declV c u) x → Sized1 x := fun x hx => by
    have h2 := decl_len (b := c) (p := u)
    have h3 := hx.2.1
    have h4 := hx.2.2.1
    exact ⟨by omega, by omega, hx.2.2.2⟩
  intro x hx
  unfold htV at hx
  split at hx
  · exact h0 _ (h x (List.mem_of_mem_drop hx))
  · split at hx
    · rcases List.mem_or_eq_of_mem_set hx with hx | rfl
      · exact h0 _ (h x hx)
      · have h1 := h _ (getD_mem (a := t) (j := 0) (by omega))
        have h2 := hurt_len (b := c) (p := belowP c p 24) (e := t.getD 0 default)
        have h3 := decl_len (b := c) (p := u)
        have h4 := h1.2.1
        have h5 := h1.2.2.1
        exact ⟨by omega, by omega, hurt_fit h1.2.2.2⟩
    · split at hx
      · simp only [List.mem_append, List.mem_singleton] at hx
        rcases hx with hx | rfl
        · exact h0 _ (h x hx)
        · exact ⟨by simp, by simp, by simp [FitE]⟩
      · exact h0 _ (h x hx)
theorem tl_sized (h : Rdr.ok c 0) : (∀ x ∈ tlA c, Sized1 x) ∧ ∀ x ∈ tlB c, Sized1 x := by
  have h1 : Rdr.ok c (declP c 0) := h.declP
  have h2 : Rdr.ok c (dtP2 c) := h1.tb
  refine ⟨ht_sized (tbV_sized h1) tv_n, ?_⟩
  unfold tlB dtB
  split
  · exact ht_sized (tj_sized h1 h2) tj_n
  · exact ht_sized (tbV_sized h2) tv_n
theorem tl_len : (tlA c).length ≤ 9 ∧ (tlB c).length ≤ 9 := by
  have h3 := leaves_bnd (d := declV c 0) decl_len.2.1
  have h1 : ((dtA c).length : Int) = leavesOf (declV c 0) := tbV_len (b := c) (p := declP c 0) (d := declV c 0) decl_len.2.1
  have h2 : ((dtB0 c).length : Int) = leavesOf (declV c 0) := tbV_len (b := c) (p := dtP2 c) (d := declV c 0) decl_len.2.1
  unfold tlA tlB
  refine ⟨Nat.le_trans ht_len (by omega), Nat.le_trans ht_len ?_⟩
  unfold dtB
  split
  · rw [zip2_len]; omega
  · omega
end
def toT (c : List Int) : List Env := htV c (tbP c (declP c 0) (declV c 0)) (tbV c (declP c 0) (declV c 0))
theorem toT_sized {c : List Int} (h : Rdr.ok c 0) : ∀ x ∈ toT c, Sized1 x := ht_sized (tbV_sized h.declP) tv_n
theorem toT_len {c : List Int} : (toT c).length ≤ 9 := by
  have h1 := tbV_len (b := c) (p := declP c 0) (d := declV c 0) decl_len.2.1
  have h2 := leaves_bnd (d := declV c 0) decl_len.2.1
  have h3 := ht_len (b := c) (p := tbP c (declP c 0) (declV c 0)) (t := tbV c (declP c 0) (declV c 0))
  unfold toT
  omega
end Go.Proofs

namespace Go.Proofs
open Go Go.Ev
variable [Lay]
section
variable {d : Decl} {a b : Env} {l : List Int}
theorem joinOk_is {x y : Iv} (h1 : x.lo ≤ x.hi) (h2 : y.lo ≤ y.hi) : Iv.joinOk x y = Iv.join x y := Iv.joinOk_yes ⟨decide_eq_true h1, decide_eq_true h2⟩
theorem joinW_ok {f : Iv → Iv → Iv} (hf : ∀ x y, x.lo ≤ x.hi → y.lo ≤ y.hi → FitI y → (f x y).lo ≤ (f x y).hi) (ha : Env.okIn d a = true) (hb : Env.okIn d b = true) (fb : FitE b) : Env.okIn d (Env.joinW f a b) = true := by
  unfold Env.joinW
  split
  · rename_i h1
    split
    · rename_i h2
      obtain ⟨a1, a2, a3⟩ := okIn_ok ha h1
      obtain ⟨b1, b2, b3⟩ := okIn_ok hb h2
      have key : ∀ {x y : List Iv}, (∀ z ∈ x, z.lo ≤ z.hi) → (∀ z ∈ y, z.lo ≤ z.hi) → (∀ z ∈ y, FitI z) → x.length = y.length → ∀ z ∈ zip2 f x y, z.lo ≤ z.hi := fun {x y} hx hy hy2 he => zip2_all fun i hi =>
        hf _ _ (hx _ (getD_mem hi)) (hy _ (getD_mem (he ▸ hi))) (hy2 _ (getD_mem (he ▸ hi)))
      exact okIn_mk rfl (by rw [zip2_len]; exact a1.1) (by rw [zip2_len]; exact a1.2) (key a2 b2 fb.1 (a1.1.trans b1.1.symm)) (key a3 b3 fb.2 (a1.2.trans b1.2.symm))
    · exact ha
  · exact hb
theorem leq_refl (ha : Env.okIn d a = true) : Env.leq a a = true := by
  cases h1 : a.live with
  | false => unfold Env.leq; rw [if_neg (by rw [h1]; decide)]
  | true =>
    obtain ⟨a1, a2, a3⟩ := okIn_ok ha h1
    have same : ∀ {x : List Iv}, (∀ z ∈ x, z.lo ≤ z.hi) → ∀ i, i < x.length → Iv.leq (x.getD i default) (x.getD i default) = true := fun hx i hi => Iv.leq_mk (hx _ (getD_mem hi)) (hx _ (getD_mem hi)) (Int.le_refl _) (Int.le_refl _)
    exact leq_mk h1 (same a2) (same a3)
theorem leq_off (h : a.live = false) : Env.leq a b = true := by unfold Env.leq; rw [if_neg (by rw [h]; decide)]
theorem joinW_leq {f g : Iv → Iv → Iv} (hf : ∀ x y, x.lo ≤ x.hi → y.lo ≤ y.hi → FitI y → Iv.leq (f x y) (g x y) = true) (ha : Env.okIn d a = true) (hb : Env.okIn d b = true) (fb : FitE b) : Env.leq (Env.joinW f a b) (Env.joinW g a b) = true := by
  unfold Env.joinW
  split
  · rename_i h1
    split
    · rename_i h2
      obtain ⟨a1, a2, a3⟩ := okIn_ok ha h1
      obtain ⟨b1, b2, b3⟩ := okIn_ok hb h2
      have key : ∀ {x y : List Iv}, (∀ z ∈ x, z.lo ≤ z.hi) → (∀ z ∈ y, z.lo ≤ z.hi) → (∀ z ∈ y, FitI z) → x.length = y.length → ∀ i, i < (zip2 f x y).length → Iv.leq ((zip2 f x y).getD i default) ((zip2 g x y).getD i default) = true := fun {x y} hx hy hy2 he i hi => by
        rw [zip2_len] at hi
        rw [zip2_get hi, zip2_get hi]
        exact hf _ _ (hx _ (getD_mem hi)) (hy _ (getD_mem (he ▸ hi))) (hy2 _ (getD_mem (he ▸ hi)))
      exact leq_mk rfl (key a2 b2 fb.1 (a1.1.trans b1.1.symm)) (key a3 b3 fb.2 (a1.2.trans b1.2.symm))
    · exact leq_refl ha
  · exact leq_refl hb
theorem leq_joinW {g : Iv → Iv → Iv} (hf : ∀ x y, x.lo ≤ x.hi → y.lo ≤ y.hi → FitI y → Iv.leq x (g x y) = true ∧ Iv.leq y (g x y) = true) (ha : Env.okIn d a = true) (hb : Env.okIn d b = true) (fb : FitE b) : Env.leq a (Env.joinW g a b) = true ∧ Env.leq b (Env.joinW g a b) = true := by
  unfold Env.joinW
  split
  · rename_i h1
    split
    · rename_i h2
      obtain ⟨a1, a2, a3⟩ := okIn_ok ha h1
      obtain ⟨b1, b2, b3⟩ := okIn_ok hb h2
      have key : ∀ {x y : List Iv}, (∀ z ∈ x, z.lo ≤ z.hi) → (∀ z ∈ y, z.lo ≤ z.hi) → (∀ z ∈ y, FitI z) → x.length = y.length → ∀ i, i < x.length → Iv.leq (x.getD i default) ((zip2 g x y).getD i default) = true ∧ Iv.leq (y.getD i default) ((zip2 g x y).getD i default) = true := fun {x y} hx hy hy2 he i hi => by
        rw [zip2_get hi]
        exact hf _ _ (hx _ (getD_mem hi)) (hy _ (getD_mem (he ▸ hi))) (hy2 _ (getD_mem (he ▸ hi)))
      have e1 := a1.1.trans b1.1.symm
      have e2 := a1.2.trans b1.2.symm
      exact ⟨leq_mk rfl (fun i hi => (key a2 b2 fb.1 e1 i hi).1) fun i hi => (key a3 b3 fb.2 e2 i hi).1, leq_mk rfl (fun i hi => (key a2 b2 fb.1 e1 i (e1 ▸ hi)).2) fun i hi => (key a3 b3 fb.2 e2 i (e2 ▸ hi)).2⟩
    · rename_i h2
      exact ⟨leq_refl ha, leq_off (by simpa using h2)⟩
  · rename_i h1
    exact ⟨leq_off (by simpa using h1), leq_refl hb⟩
theorem ivjoin_ok (x y : Iv) (h1 : x.lo ≤ x.hi) (h2 : y.lo ≤ y.hi) : (Iv.joinOk x y).lo ≤ (Iv.joinOk x y).hi := by rw [joinOk_is h1 h2]; unfold Iv.join; simp only; omega
theorem ivwiden_ok (hl : ¬ (l.length : Int) > 100) (x y : Iv) (h1 : x.lo ≤ x.hi) (h2 : y.lo ≤ y.hi) (fy : FitI y) : (Iv.widenOk l x y).lo ≤ (Iv.widenOk l x y).hi := by
  rw [widenOk_is h1 h2 hl]; have := widen_bnd (a := x) (l := l) fy; omega
theorem ivjoin_above (x y : Iv) (h1 : x.lo ≤ x.hi) (h2 : y.lo ≤ y.hi) : Iv.leq x (Iv.joinOk x y) = true ∧ Iv.leq y (Iv.joinOk x y) = true := by
  rw [joinOk_is h1 h2]; unfold Iv.join
  exact ⟨Iv.leq_mk h1 (by simp only; omega) (by simp only; omega) (by simp only; omega), Iv.leq_mk h2 (by simp only; omega) (by simp only; omega) (by simp only; omega)⟩
theorem ivjoin_widen (hl : ¬ (l.length : Int) > 100) (x y : Iv) (h1 : x.lo ≤ x.hi) (h2 : y.lo ≤ y.hi) (fy : FitI y) : Iv.leq (Iv.joinOk x y) (Iv.widenOk l x y) = true := by
  rw [joinOk_is h1 h2, widenOk_is h1 h2 hl]
  have := widen_bnd (a := x) (l := l) fy
  unfold Iv.join
  exact Iv.leq_mk (by simp only; omega) (by omega) (by simp only; omega) (by simp only; omega)
theorem ivleq_same {x y : Iv} (h1 : x.lo ≤ x.hi) (h2 : y.lo ≤ y.hi) : Iv.leq x y = Iv.same (Iv.joinOk x y) y := by
  rw [joinOk_is h1 h2, Bool.eq_iff_iff]
  simp only [Iv.leq, Iv.ok, Iv.same, Iv.join, Bool.and_eq_true, decide_eq_true_eq, beq_iff_eq]
  omega
theorem leq_same (ha : Env.okIn d a = true) (hb : Env.okIn d b = true) : Env.leq a b = Env.same (Env.joinW Iv.joinOk a b) b := by
  cases h1 : a.live with
  | false =>
    rw [leq_off h1]
    unfold Env.joinW
    rw [if_neg (by rw [h1]; decide)]
    exact (Env.same_self b).symm
  | true =>
    obtain ⟨a1, a2, a3⟩ := okIn_ok ha h1
    cases h2 : b.live with
    | false =>
      unfold Env.leq Env.joinW
      rw [if_pos h1, if_neg (by rw [h2]; decide), if_pos h1, if_neg (by rw [h2]; decide)]
      simp [Env.same, h1, h2]
    | true =>
      obtain ⟨b1, b2, b3⟩ := okIn_ok hb h2
      unfold Env.leq
      rw [if_pos h1, if_pos h2, Env.joinW_live ⟨h1, h2⟩]
      have key : ∀ {x y : List Iv}, (∀ z ∈ x, z.lo ≤ z.hi) → (∀ z ∈ y, z.lo ≤ z.hi) → x.length = y.length → (allTo x.length fun i => Iv.leq (x.getD i default) (y.getD i default)) = all2 Iv.same (zip2 Iv.joinOk x y) y := fun {x y} hx hy he => by
        unfold all2
        rw [zip2_len, he]
        simp only [beq_self_eq_true, Bool.true_and]
        refine allTo_congr fun i hi => ?_
        rw [zip2_get (he ▸ hi)]
        exact ivleq_same (hx _ (getD_mem (he ▸ hi))) (hy _ (getD_mem hi))
      simp only [Env.same, h2, beq_self_eq_true, Bool.true_and]
      rw [key a2 b2 (a1.1.trans b1.1.symm), key a3 b3 (a1.2.trans b1.2.symm)]
end
section
variable {d : Decl} {a b : List Env} {l : List Int}
theorem isIn_mk {t : List Env} (h1 : (t.length : Int) = leavesOf d) (h2 : ∀ x ∈ t, Env.okIn d x = true) : Table.isIn d t = true := by
  simp only [Table.isIn, Bool.and_eq_true, beq_iff_eq, List.all_eq_true]
  exact ⟨h1, h2⟩
theorem isIn_zip {f : Env → Env → Env} (ha : Table.isIn d a = true) (hb : Table.isIn d b = true) (h : ∀ i, i < a.length → Env.okIn d (f (a.getD i default) (b.getD i default)) = true) : Table.isIn d (zip2 f a b) = true :=
  isIn_mk (by rw [zip2_len]; exact (Table.isIn_get ha).1) (zip2_all h)
theorem law_TableOrder (ha : Table.ok d a = true) (hb : Table.ok d b = true) (hl : ¬ (l.length : Int) > 100) (fb : ∀ x ∈ b, FitE x) :
    Table.leq d a (Table.joinIn d a b) = true ∧ Table.leq d b (Table.joinIn d a b) = true ∧ Table.leq d (Table.joinIn d a b) (Table.widenIn d a b l) = true ∧
    Table.leq d a b = all2 Env.same (Table.joinIn d a b) b ∧ Table.widenIn d (Table.widenIn d a b l) (Table.joinIn d a b) l = Table.widenIn d a b l := by
  have hd := Table.ok_decl ha
  have ia := Table.ok_in ha
  have ib := Table.ok_in hb
  have he := (Table.fit ia ib).1
  have oa := (Table.isIn_get ia).2
  have ob : ∀ i, i < a.length → Env.okIn d (b.getD i default) = true := fun i hi => (Table.isIn_get ib).2 i (he ▸ hi)
  have ff : ∀ i, i < a.length → FitE (b.getD i default) := fun i hi => fb _ (getD_mem (he ▸ hi))
  rw [Table.joinIn_yes2 ⟨ha, ib⟩, Table.widenIn_yes2 ⟨⟨ha, ib⟩, hl⟩]
  have oj : ∀ i, i < a.length → Env.okIn d (Env.joinW Iv.joinOk (a.getD i default) (b.getD i default)) = true := fun i hi => joinW_ok (fun x y h1 h2 _ => ivjoin_ok x y h1 h2) (oa i hi) (ob i hi) (ff i hi)
  have ow : ∀ i, i < a.length → Env.okIn d (Env.joinW (fun x y => Iv.widenOk l x y) (a.getD i default) (b.getD i default)) = true := fun i hi => joinW_ok (ivwiden_ok hl) (oa i hi) (ob i hi) (ff i hi)
  have ij : Table.isIn d (zip2 (Env.joinW Iv.joinOk) a b) = true := isIn_zip ia ib oj
  have iw : Table.isIn d (zip2 (Env.joinW fun x y => Iv.widenOk l x y) a b) = true := isIn_zip ia ib ow
  have okj : Table.ok d (zip2 (Env.joinW Iv.joinOk) a b) = true := by unfold Table.ok; rw [hd, ij]; rfl
  have okw : Table.ok d (zip2 (Env.joinW fun x y => Iv.widenOk l x y) a b) = true := by unfold Table.ok; rw [hd, iw]; rfl
  have jw : ∀ i, i < a.length → Env.leq (Env.joinW Iv.joinOk (a.getD i default) (b.getD i default)) (Env.joinW (fun x y => Iv.widenOk l x y) (a.getD i default) (b.getD i default)) = true := fun i hi => joinW_leq (ivjoin_widen hl) (oa i hi) (ob i hi) (ff i hi)
  refine ⟨?_, ?_, ?_, ?_, ?_⟩
  · unfold Table.leq tabLeq
    rw [ha, ij]
    simp only [Bool.and_self, Bool.true_and]
    refine allTo_iff.2 fun i hi => ?_
    rw [zip2_get hi]
    exact (leq_joinW (fun x y h1 h2 _ => ivjoin_above x y h1 h2) (oa i hi) (ob i hi) (ff i hi)).1
  · unfold Table.leq tabLeq
    rw [hb, ij]
    simp only [Bool.and_self, Bool.true_and]
    refine allTo_iff.2 fun i hi => ?_
    rw [← he] at hi
    rw [zip2_get hi]
    exact (leq_joinW (fun x y h1 h2 _ => ivjoin_above x y h1 h2) (oa i hi) (ob i hi) (ff i hi)).2
  · unfold Table.leq tabLeq
    rw [okj, iw]
    simp only [Bool.and_self, Bool.true_and]
    refine allTo_iff.2 fun i hi => ?_
    rw [zip2_len] at hi
    rw [zip2_get hi, zip2_get hi]
    exact jw i hi
  · unfold Table.leq tabLeq all2
    rw [ha, ib, zip2_len, he]
    simp only [Bool.and_self, Bool.true_and, beq_self_eq_true]
    refine allTo_congr fun i hi => ?_
    rw [← he] at hi
    rw [zip2_get hi]
    exact leq_same (oa i hi) (ob i hi)
  · rw [Table.widenIn_yes2 ⟨⟨okw, ij⟩, hl⟩]
    refine list_ext (zip2_len _ _ _) fun i hi => ?_
    rw [zip2_len, zip2_len] at hi
    rw [zip2_get (by rw [zip2_len]; exact hi), zip2_get hi, zip2_get hi]
    have h9 := widen_still (l := l) hd (ow i hi) (oj i hi) hl (jw i hi)
    rwa [Env.widenIn_yes2 ⟨⟨⟨hd, ow i hi⟩, oj i hi⟩, hl⟩] at h9
end
end Go.Proofs

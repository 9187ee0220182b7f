/- A symbolic executor over data by value, proved sound over any program: no conditions. -/
import Derived.Test.YtoijbdnhjgfloaaGreatDoorE4
set_option linter.all false
set_option linter.unnecessarySimpa false
set_option linter.unusedSectionVars false
set_option linter.unusedSimpArgs false
set_option linter.unusedVariables false
/- The model, part F: a table comes back from its tree. -/
namespace Go.Proofs
open Go Go.Ev
variable [Lay]
def bitAt (leaf f : Int) : Bool := IntKind.wrap .i64 ((BitVec.ofInt (IntKind.bits .i64) (leaf.fdiv (2 ^ (min (f).toNat (IntKind.bits .i64)))) &&& BitVec.ofInt (IntKind.bits .i64) 1).toNat : Int) == 1
theorem bitAt_of {g f : Nat} (hf : f < 3) (hg : g < 8) : bitAt (g : Int) (f : Int) = decide ((g / p2 f) % 2 = 1) := by
  have key : ∀ f : Nat, f < 3 → ∀ g : Nat, g < 8 → bitAt (g : Int) (f : Int) = decide ((g / p2 f) % 2 = 1) := by decide +kernel
  exact key f hf g hg
def nowhere : Env × Bool := (⟨false, [], []⟩, false)
/-- The bounds of a leaf, from a place on, each place ahead of the one before. -/
def treeFind (l : List Node) (flags leaf : Int) : Nat → Int → Env × Bool
  | 0, _ => nowhere
  | m + 1, p => if p < 0 then nowhere else
    if (l.getD p.toNat default).flag = -1 then ((l.getD p.toNat default).e, true) else
    if inR (l.getD p.toNat default).flag 0 (flags - 1) = false then nowhere else
    if inR (if bitAt leaf (l.getD p.toNat default).flag = true then (l.getD p.toNat default).yes else (l.getD p.toNat default).no) 0 (p - 1) = false then nowhere else
    treeFind l flags leaf m (if bitAt leaf (l.getD p.toNat default).flag = true then (l.getD p.toNat default).yes else (l.getD p.toNat default).no)
/-- The bounds of a leaf, from a place on, in so many steps. -/
def treeAsk (l : List Node) (leaf : Int) : Nat → Int → Env × Bool
  | 0, _ => nowhere
  | m + 1, p => if inR p 0 ((l.length : Int) - 1) = false then nowhere else
    if (l.getD p.toNat default).flag = -1 then ((l.getD p.toNat default).e, true) else
    if inR (l.getD p.toNat default).flag 0 2 = false then nowhere else
    treeAsk l leaf m (if bitAt leaf (l.getD p.toNat default).flag = true then (l.getD p.toNat default).yes else (l.getD p.toNat default).no)
/-- The node at `p` tells the leaves behind the flags ahead of `f`, which are `b`; `n` flags are left. -/
def Rep (t : List Env) (l : List Node) : Nat → Nat → Nat → Nat → Prop
  | 0, _, b, p => p < l.length ∧ (l.getD p default).flag = -1 ∧ (l.getD p default).e = t.getD b default
  | n + 1, f, b, p => (Rep t l n (f + 1) b p ∧ Rep t l n (f + 1) (b + p2 f) p) ∨
    (p < l.length ∧ (l.getD p default).flag = (f : Int) ∧ ∃ q1 q2 : Nat, (l.getD p default).no = (q1 : Int) ∧ (l.getD p default).yes = (q2 : Int) ∧ q1 < p ∧ q2 < p ∧ Rep t l n (f + 1) b q1 ∧ Rep t l n (f + 1) (b + p2 f) q2)
theorem Rep.lt {t : List Env} {l : List Node} : ∀ {n f b p : Nat}, Rep t l n f b p → p < l.length
  | 0, _, _, _, h => h.1
  | n + 1, _, _, _, h => by
    rcases h with h | h
    · exact Rep.lt h.1
    · exact h.1
theorem getD_app {α : Type} [Inhabited α] {l e : List α} {p : Nat} (h : p < l.length) : (l ++ e).getD p default = l.getD p default := by
  simp [List.getD_eq_getElem?_getD, List.getElem?_append_left h]
theorem Rep.app {t : List Env} {l e : List Node} : ∀ {n f b p : Nat}, Rep t l n f b p → Rep t (l ++ e) n f b p
  | 0, _, _, _, h => ⟨by rw [List.length_append]; have := h.1; omega, by rw [getD_app h.1]; exact h.2.1, by rw [getD_app h.1]; exact h.2.2⟩
  | n + 1, _, _, _, h => by
    rcases h with h | ⟨h1, h2, q1, q2, h3, h4, h5, h6, h7, h8⟩
    · exact .inl ⟨h.1.app, h.2.app⟩
    · exact .inr ⟨by rw [List.length_append]; omega, by rw [getD_app h1]; exact h2, q1, q2, by rw [getD_app h1]; exact h3, by rw [getD_app h1]; exact h4, h5, h6, h7.app, h8.app⟩
theorem half {f m b : Nat} (hb : b < p2 f) : ((b + p2 f * m) / p2 f) % 2 = m % 2 := by
  have h0 : 0 < p2 f := by omega
  rw [Nat.add_mul_div_left _ _ h0, Nat.div_eq_of_lt hb, Nat.zero_add]
theorem p2_add (f n : Nat) : p2 (f + n) = p2 f * p2 n := by unfold p2; rw [Nat.pow_add]
theorem leaf_split {f n b m : Nat} (hm : m < p2 (n + 1)) : ∃ m', m' < p2 n ∧ ((m % 2 = 0 ∧ b + p2 f * m = b + p2 (f + 1) * m') ∨ (m % 2 = 1 ∧ b + p2 f * m = b + p2 f + p2 (f + 1) * m')) := by
  rw [p2_step] at hm
  refine ⟨m / 2, by omega, ?_⟩
  rw [p2_step]
  have e : m = 2 * (m / 2) + m % 2 := by omega
  rcases (by omega : m % 2 = 0 ∨ m % 2 = 1) with h | h
  · refine .inl ⟨h, ?_⟩
    have e2 : p2 f * m = 2 * p2 f * (m / 2) := by
      rw [show m = 2 * (m / 2) by omega, Nat.mul_comm 2 (p2 f), Nat.mul_assoc]
      congr 2; omega
    omega
  · refine .inr ⟨h, ?_⟩
    have e2 : p2 f * m = p2 f + 2 * p2 f * (m / 2) := by
      have e3 : m = 2 * (m / 2) + 1 := by omega
      conv => lhs; rw [e3]
      rw [Nat.mul_add, Nat.mul_one, Nat.mul_comm 2 (p2 f), Nat.mul_assoc]; omega
    omega
theorem small_leaf {f n b m : Nat} (hb : b < p2 f) (hm : m < p2 n) (h3 : f + n ≤ 3) : b + p2 f * m < 8 := by
  have h1 := p2_le h3
  rw [p2_add] at h1
  have h2 : p2 f * (m + 1) ≤ p2 f * p2 n := Nat.mul_le_mul_left _ (by omega)
  rw [Nat.mul_add, Nat.mul_one] at h2
  omega
theorem find_rep {t : List Env} {l : List Node} {D : Nat} (hD : D ≤ 3) : ∀ {n f b p m fuel : Nat}, Rep t l n f b p → f + n = D → b < p2 f → m < p2 n → p < fuel → treeFind l (D : Int) ((b + p2 f * m : Nat) : Int) fuel (p : Int) = (t.getD (b + p2 f * m) default, true)
  | 0, f, b, p, m, fuel, h, hn, hb, hm, hp => by
    have e : m = 0 := by have : p2 0 = 1 := rfl; omega
    subst e
    obtain ⟨h1, h2, h3⟩ := h
    cases fuel with
    | zero => omega
    | succ fuel =>
      rw [treeFind, if_neg (by omega), Int.toNat_natCast, if_pos h2, h3]; rfl
  | n + 1, f, b, p, m, fuel, h, hn, hb, hm, hp => by
    obtain ⟨m', hm', hcase⟩ := leaf_split (f := f) (b := b) hm
    have hp2 := p2_step f
    rcases h with ⟨ha, hb2⟩ | ⟨h1, h2, q1, q2, h3, h4, h5, h6, h7, h8⟩
    · rcases hcase with ⟨_, e⟩ | ⟨_, e⟩
      · rw [e]; exact find_rep hD ha (by omega) (by omega) hm' hp
      · rw [e]; exact find_rep hD hb2 (by omega) (by omega) hm' hp
    · cases fuel with
      | zero => omega
      | succ fuel =>
        have hs := small_leaf (n := n + 1) hb hm (by omega)
        have hbit := bitAt_of (g := b + p2 f * m) (f := f) (by omega) hs
        rw [half hb] at hbit
        rw [treeFind, if_neg (by omega), Int.toNat_natCast, h2, if_neg (by omega), if_neg (by simp [inR]; omega)]
        rcases hcase with ⟨hpar, e⟩ | ⟨hpar, e⟩
        · have hb0 : bitAt ((b + p2 f * m : Nat) : Int) (f : Int) = false := by rw [hbit]; simp [hpar]
          simp only [hb0, Bool.false_eq_true, if_false, h3]
          rw [if_neg (by simp [inR]; omega), e]
          exact find_rep hD h7 (by omega) (by omega) hm' (by omega)
        · have hb0 : bitAt ((b + p2 f * m : Nat) : Int) (f : Int) = true := by rw [hbit]; simp [hpar]
          simp only [hb0, if_true, h4]
          rw [if_neg (by simp [inR]; omega), e]
          exact find_rep hD h8 (by omega) (by omega) hm' (by omega)
theorem ask_rep {t : List Env} {l : List Node} : ∀ {n f b p m fuel : Nat}, Rep t l n f b p → f + n ≤ 3 → b < p2 f → m < p2 n → n < fuel → treeAsk l ((b + p2 f * m : Nat) : Int) fuel (p : Int) = (t.getD (b + p2 f * m) default, true)
  | 0, f, b, p, m, fuel, h, hn, hb, hm, hp => by
    have e : m = 0 := by have : p2 0 = 1 := rfl; omega
    subst e
    obtain ⟨h1, h2, h3⟩ := h
    cases fuel with
    | zero => omega
    | succ fuel =>
      rw [treeAsk, if_neg (by simp [inR]; omega), Int.toNat_natCast, if_pos h2, h3]; rfl
  | n + 1, f, b, p, m, fuel, h, hn, hb, hm, hp => by
    obtain ⟨m', hm', hcase⟩ := leaf_split (f := f) (b := b) hm
    have hp2 := p2_step f
    have hlt := Rep.lt h
    rcases h with ⟨ha, hb2⟩ | ⟨h1, h2, q1, q2, h3, h4, h5, h6, h7, h8⟩
    · rcases hcase with ⟨_, e⟩ | ⟨_, e⟩
      · rw [e]; exact ask_rep ha (by omega) (by omega) hm' (by omega)
      · rw [e]; exact ask_rep hb2 (by omega) (by omega) hm' (by omega)
    · cases fuel with
      | zero => omega
      | succ fuel =>
        have hs := small_leaf (n := n + 1) hb hm (by omega)
        have hbit := bitAt_of (g := b + p2 f * m) (f := f) (by omega) hs
        rw [half hb] at hbit
        rw [treeAsk, if_neg (by simp [inR]; omega), Int.toNat_natCast, h2, if_neg (by omega), if_neg (by simp [inR]; omega)]
        rcases hcase with ⟨hpar, e⟩ | ⟨hpar, e⟩
        · have hb0 : bitAt ((b + p2 f * m : Nat) : Int) (f : Int) = false := by rw [hbit]; simp [hpar]
          rw [hb0, if_neg (by decide), h3, e]
          exact ask_rep h7 (by omega) (by omega) hm' (by omega)
        · have hb0 : bitAt ((b + p2 f * m : Nat) : Int) (f : Int) = true := by rw [hbit]; simp [hpar]
          rw [hb0, if_pos rfl, h4, e]
          exact ask_rep h8 (by omega) (by omega) hm' (by omega)
/-- Each node's places lie ahead of it. -/
def Falls (l : List Node) : Prop := ∀ i, i < l.length → (l.getD i default).flag ≠ -1 → (l.getD i default).no < (i : Int) ∧ (l.getD i default).yes < (i : Int)
/-- What building leaves: the list goes on, the place is one of the list's, an old one or the last. -/
structure Built (t : List Env) (l l' : List Node) (n f b : Nat) (p : Int) : Prop where
  ext : ∃ e, l' = l ++ e
  pos : 0 ≤ p
  rep : Rep t l' n f b p.toNat
  last : (p < (l.length : Int) ∧ l' = l) ∨ (p + 1 = (l'.length : Int) ∧ (l.length : Int) ≤ p)
  falls : Falls l'
theorem at_node {l : List Node} {n : Node} (h : treeAt l n ≥ 0) : (treeAt l n).toNat < l.length ∧ l.getD (treeAt l n).toNat default = n := by
  have h1 := treeAt_bnd l n
  refine ⟨by omega, ?_⟩
  unfold treeAt idx at h ⊢
  split at h
  · rename_i h2
    rw [if_pos h2, Int.toNat_natCast]
    have h3 := List.findIdx_getElem (w := h2)
    have h4 := Node.same_iff.1 h3
    rw [List.getD_eq_getElem?_getD, List.getElem?_eq_getElem h2]; exact h4
  · omega
theorem getD_last {α : Type} [Inhabited α] (l : List α) (x : α) : (l ++ [x]).getD l.length default = x := by simp [List.getD_eq_getElem?_getD]
theorem Falls.snoc {l : List Node} {n : Node} (h : Falls l) (hn : n.flag ≠ -1 → n.no < (l.length : Int) ∧ n.yes < (l.length : Int)) : Falls (l ++ [n]) := fun i hi hf => by
  by_cases h1 : i < l.length
  · rw [getD_app h1] at hf ⊢; exact h i h1 hf
  · have e : i = l.length := by simp at hi; omega
    subst e
    rw [getD_last] at hf ⊢; exact hn hf
theorem built (t : List Env) : ∀ (n f b : Nat) (l : List Node), Falls l → Built t l (treeGo t n f b l).1 n f b (treeGo t n f b l).2
  | 0, f, b, l, hl => by
    rw [treeGo]
    by_cases h : treeAt l ⟨-1, 0, 0, t.getD b default⟩ ≥ 0
    · rw [treePut_in h]
      obtain ⟨h1, h2⟩ := at_node h
      exact ⟨⟨[], by simp⟩, h, ⟨h1, by rw [h2], by rw [h2]⟩, .inl ⟨by omega, rfl⟩, hl⟩
    · rw [treePut_new h]
      exact ⟨⟨_, rfl⟩, by simp, ⟨by simp, by simp only [Int.toNat_natCast, getD_last], by simp only [Int.toNat_natCast, getD_last]⟩, .inr ⟨by simp, by simp⟩, hl.snoc (by simp)⟩
  | n + 1, f, b, l, hl => by
    obtain ⟨⟨x1, e1⟩, p1, r1, s1, w1⟩ := built t n (f + 1) b l hl
    obtain ⟨⟨x2, e2⟩, p2', r2, s2, w2⟩ := built t n (f + 1) (b + p2 f) (treeGo t n (f + 1) b l).1 w1
    have k1 := Rep.lt r1
    have k2 := Rep.lt r2
    rw [treeGo]
    generalize treeGo t n (f + 1) b l = R at *
    generalize treeGo t n (f + 1) (b + p2 f) R.1 = S at *
    obtain ⟨l1, a1⟩ := R
    obtain ⟨l2, a2⟩ := S
    simp only at *
    subst e1
    subst e2
    have r1' : Rep t (l ++ x1 ++ x2) n (f + 1) b a1.toNat := r1.app
    by_cases h : a1 = a2
    · subst h
      rw [if_pos rfl]
      refine ⟨⟨x1 ++ x2, by simp⟩, p1, .inl ⟨r1', r2⟩, ?_, w2⟩
      rcases s1 with ⟨s1, s1'⟩ | ⟨s1, s1'⟩
      · rcases s2 with ⟨s2, s2'⟩ | ⟨s2, s2'⟩
        · exact .inl ⟨s1, s2'.trans s1'⟩
        · simp at s2'; omega
      · rcases s2 with ⟨s2, s2'⟩ | ⟨s2, s2'⟩
        · exact .inr ⟨by rw [s2']; exact s1, s1'⟩
        · exact .inr ⟨s2, s1'⟩
    · rw [if_neg h]
      have hlen1 : (a1 : Int) < ((l ++ x1 ++ x2).length : Int) := by simp only [List.length_append] at k1 ⊢; omega
      have hlen2 : (a2 : Int) < ((l ++ x1 ++ x2).length : Int) := by omega
      by_cases hp : treeAt (l ++ x1 ++ x2) ⟨f, a1, a2, ⟨false, [], []⟩⟩ ≥ 0
      · rw [treePut_in hp]
        obtain ⟨g1, g2⟩ := at_node hp
        have hf := w2 _ g1 (by rw [g2]; simp only; omega)
        rw [g2] at hf
        simp only at hf
        have hpos : (((treeAt (l ++ x1 ++ x2) ⟨f, a1, a2, ⟨false, [], []⟩⟩).toNat : Nat) : Int) = treeAt (l ++ x1 ++ x2) ⟨f, a1, a2, ⟨false, [], []⟩⟩ := by omega
        refine ⟨⟨x1 ++ x2, by simp⟩, hp, .inr ⟨g1, by rw [g2], a1.toNat, a2.toNat, by rw [g2]; simp only; omega, by rw [g2]; simp only; omega, by omega, by omega, r1', r2⟩, ?_, w2⟩
        have s12 : l ++ x1 ++ x2 = l := by
          rcases s2 with ⟨s2, s2'⟩ | ⟨s2, s2'⟩
          · rcases s1 with ⟨s1, s1'⟩ | ⟨s1, s1'⟩
            · exact s2'.trans s1'
            · have : ((l ++ x1 ++ x2).length : Int) = ((l ++ x1).length : Int) := by rw [s2']
              omega
          · omega
        refine .inl ⟨?_, s12⟩
        have : ((l ++ x1 ++ x2).length : Int) = (l.length : Int) := by rw [s12]
        omega
      · rw [treePut_new hp]
        refine ⟨⟨x1 ++ x2 ++ [⟨f, a1, a2, ⟨false, [], []⟩⟩], by simp⟩, Int.natCast_nonneg _, .inr ⟨by simp only [List.length_append, List.length_singleton, Int.toNat_natCast]; omega, by simp only [Int.toNat_natCast, getD_last], a1.toNat, a2.toNat, ?_, ?_, by omega, by omega, r1'.app, r2.app⟩, .inr ⟨by simp only [List.length_append, List.length_singleton]; omega, by simp only [List.length_append]; omega⟩, w2.snoc fun _ => ⟨by simp only; omega, by simp only; omega⟩⟩
        · simp only [Int.toNat_natCast, getD_last]; omega
        · simp only [Int.toNat_natCast, getD_last]; omega
def findR (l : List Node) (flags leaf : Int) : Env × Bool := treeFind l flags leaf l.length ((l.length : Int) - 1)
def askR (l : List Node) (leaf : Int) : Env × Bool := treeAsk l leaf 5 ((l.length : Int) - 1)
def tabOf (get : Int → Env × Bool) (n : Nat) : List Env := (List.range n).map fun i : Nat => (get i).1
def hasAll (get : Int → Env × Bool) (n : Nat) : Bool := allTo n fun i => (get i).2
theorem tabOf_len (get : Int → Env × Bool) (n : Nat) : (tabOf get n).length = n := by simp [tabOf]
theorem tabOf_step (get : Int → Env × Bool) (n : Nat) : tabOf get n ++ [(get n).1] = tabOf get (n + 1) := by simp [tabOf, List.range_succ]
theorem tabOf_eq {get : Int → Env × Bool} {o : List Env} (h : ∀ i, i < o.length → get (i : Int) = (o.getD i default, true)) : tabOf get o.length = o ∧ hasAll get o.length = true := by
  constructor
  · refine List.ext_getElem (tabOf_len _ _) fun i h1 h2 => ?_
    simp only [tabOf, List.getElem_map, List.getElem_range, h i h2, List.getD_eq_getElem?_getD, List.getElem?_eq_getElem h2]; rfl
  · exact allTo_iff.2 fun i hi => by rw [h i hi]
/-- `l` is the tree of the table `o`. -/
def IsTree (d : Decl) (o : List Env) (l : List Node) : Prop := Table.ok d o = true ∧ l = (treeGo o (dep o - 0) 0 0 []).1
theorem IsTree.len {d : Decl} {o : List Env} {l : List Node} (h : IsTree d o l) : o.length = p2 d.flags.length ∧ dep o = d.flags.length ∧ d.flags.length ≤ 3 := by
  obtain ⟨h1, h2⟩ := Pow2.of h.1
  exact ⟨by rw [← h2]; exact h1.1, h2, by rw [← h2]; exact h1.2⟩
theorem IsTree.get {d : Decl} {o : List Env} {l : List Node} (h : IsTree d o l) : ∀ i : Nat, i < o.length → findR l (d.flags.length : Int) i = (o.getD i default, true) ∧ askR l i = (o.getD i default, true) := fun i hi => by
  obtain ⟨h1, h2, h3⟩ := h.len
  obtain ⟨_, hb2, hb3, hb4, _⟩ := built o (dep o - 0) 0 0 [] (fun i hi => by simp at hi)
  rw [← h.2] at hb3 hb4
  have hlt := Rep.lt hb3
  have hp : (treeGo o (dep o - 0) 0 0 []).2 = (l.length : Int) - 1 := by
    rcases hb4 with ⟨hb4, _⟩ | ⟨hb4, _⟩
    · simp only [List.length_nil] at hb4; omega
    · omega
  have hpn : (((treeGo o (dep o - 0) 0 0 []).2).toNat : Int) = (l.length : Int) - 1 := by omega
  rw [Nat.sub_zero] at hb3 hpn
  rw [h2] at hb3 hpn
  have hm : i < p2 d.flags.length := by omega
  have e : (0 + p2 0 * i : Nat) = i := by rw [p2_zero]; omega
  have f1 := find_rep (m := i) (fuel := l.length) h3 hb3 (by omega) (by decide) hm (by omega)
  have f2 := ask_rep (m := i) (fuel := 5) hb3 (by omega) (by decide) hm (by omega)
  rw [e, hpn] at f1 f2
  exact ⟨f1, f2⟩
theorem IsTree.tabs {d : Decl} {o : List Env} {l : List Node} (h : IsTree d o l) : (tabOf (findR l (d.flags.length : Int)) (p2 d.flags.length) = o ∧ hasAll (findR l (d.flags.length : Int)) (p2 d.flags.length) = true) ∧ tabOf (askR l) (p2 d.flags.length) = o ∧ hasAll (askR l) (p2 d.flags.length) = true := by
  rw [← h.len.1]
  exact ⟨tabOf_eq fun i hi => (h.get i hi).1, tabOf_eq fun i hi => (h.get i hi).2⟩
theorem IsTree.size {d : Decl} {o : List Env} {l : List Node} (h : IsTree d o l) : l.length ≤ 15 ∧ l.length ≠ 0 := by
  have h1 := treeGo_len o (dep o - 0) 0 0 []
  rw [← h.2] at h1
  obtain ⟨_, h2, h3⟩ := h.len
  have h4 := p2_le h3
  have h5 := p2_step d.flags.length
  rw [h2, Nat.sub_zero] at h1
  obtain ⟨_, _, hb3, _⟩ := built o (dep o - 0) 0 0 [] (fun i hi => by simp at hi)
  rw [← h.2] at hb3
  have := Rep.lt hb3
  simp only [List.length_nil] at h1
  omega
def Table.ofI (d : Decl) (T : Tree) : List Env × Bool :=
  if (Decl.ok d = true ∧ hasAll (findR T.nodes (d.flags.length : Int)) (p2 d.flags.length) = true) ∧ Table.isIn d (tabOf (findR T.nodes (d.flags.length : Int)) (p2 d.flags.length)) = true ∧
    all2 Node.same (treeGo (tabOf (findR T.nodes (d.flags.length : Int)) (p2 d.flags.length)) (dep (tabOf (findR T.nodes (d.flags.length : Int)) (p2 d.flags.length)) - 0) 0 0 []).1 T.nodes = true then
    (tabOf (findR T.nodes (d.flags.length : Int)) (p2 d.flags.length), true) else ([], false)
def Table.ofS (d : Decl) (T : Tree) : List Env × Bool :=
  if ((Decl.ok d = true ∧ ¬ (T.nodes.length : Int) > 15) ∧ hasAll (askR T.nodes) (p2 d.flags.length) = true) ∧ ((Tree.of d (tabOf (askR T.nodes) (p2 d.flags.length))).nodes.length : Int) = (T.nodes.length : Int) ∧ ¬ (T.nodes.length : Int) = 0 ∧
    all2 Node.same (Tree.of d (tabOf (askR T.nodes) (p2 d.flags.length))).nodes T.nodes = true then
    (tabOf (askR T.nodes) (p2 d.flags.length), true) else ([], false)
theorem node_all2 {a b : List Node} (h : all2 Node.same a b = true) : a = b := all2_eq (fun h => Node.same_iff.1 h) h
theorem Table.of_eq (d : Decl) (T : Tree) : Table.ofS d T = Table.ofI d T := by
  have hI : ∀ {o : List Env}, IsTree d o T.nodes → Table.ofI d T = (o, true) := fun {o} h => by
    obtain ⟨⟨h1, h2⟩, _⟩ := h.tabs
    unfold Table.ofI
    have hok := h.1
    unfold Table.ok at hok
    rw [h1, h2, if_pos ⟨⟨(Bool.and_eq_true_iff.1 hok).1, rfl⟩, Table.ok_in h.1, by rw [← h.2]; exact all2_self Node.same_self _⟩]
  have hS : ∀ {o : List Env}, IsTree d o T.nodes → Table.ofS d T = (o, true) := fun {o} h => by
    obtain ⟨_, h1, h2⟩ := h.tabs
    have h3 := h.size
    have h4 : (Tree.of d o).nodes = T.nodes := by rw [Tree.of_yes h.1, ← h.2]
    unfold Table.ofS
    have hok := h.1
    unfold Table.ok at hok
    rw [h1, h2, h4, if_pos ⟨⟨⟨(Bool.and_eq_true_iff.1 hok).1, by omega⟩, rfl⟩, rfl, by omega, all2_self Node.same_self _⟩]
  by_cases c1 : ((Decl.ok d = true ∧ ¬ (T.nodes.length : Int) > 15) ∧ hasAll (askR T.nodes) (p2 d.flags.length) = true) ∧ ((Tree.of d (tabOf (askR T.nodes) (p2 d.flags.length))).nodes.length : Int) = (T.nodes.length : Int) ∧ ¬ (T.nodes.length : Int) = 0 ∧
    all2 Node.same (Tree.of d (tabOf (askR T.nodes) (p2 d.flags.length))).nodes T.nodes = true
  · have h1 := node_all2 c1.2.2.2
    have h2 : IsTree d (tabOf (askR T.nodes) (p2 d.flags.length)) T.nodes := by
      cases h3 : Table.ok d (tabOf (askR T.nodes) (p2 d.flags.length))
      · rw [Tree.of_no h3] at h1
        have := c1.2.2.1
        rw [← h1] at this; simp at this
      · rw [Tree.of_yes h3] at h1
        exact ⟨h3, h1.symm⟩
    rw [hI h2, hS h2]
  · have e1 : Table.ofS d T = ([], false) := by unfold Table.ofS; rw [if_neg c1]
    by_cases c2 : (Decl.ok d = true ∧ hasAll (findR T.nodes (d.flags.length : Int)) (p2 d.flags.length) = true) ∧ Table.isIn d (tabOf (findR T.nodes (d.flags.length : Int)) (p2 d.flags.length)) = true ∧
      all2 Node.same (treeGo (tabOf (findR T.nodes (d.flags.length : Int)) (p2 d.flags.length)) (dep (tabOf (findR T.nodes (d.flags.length : Int)) (p2 d.flags.length)) - 0) 0 0 []).1 T.nodes = true
    · have h1 := node_all2 c2.2.2
      have h2 : IsTree d (tabOf (findR T.nodes (d.flags.length : Int)) (p2 d.flags.length)) T.nodes := ⟨by unfold Table.ok; rw [c2.1.1, c2.2.1]; rfl, h1.symm⟩
      rw [hI h2, hS h2]
    · have e2 : Table.ofI d T = ([], false) := by unfold Table.ofI; rw [if_neg c2]
      rw [e1, e2]
def leafCount (l : List Node) : Nat → Int
  | 0 => 0
  | j + 1 => leafCount l j + truthN ((l.getD j default).flag == -1)
def Tree.leaves (d : Decl) (T : Tree) : Int := if (Table.ofI d T).2 = true then leafCount T.nodes T.nodes.length else -1
section
variable {l : List Node} {fl leaf p : Int} {m i : Nat}
theorem find_end (h : ¬ p ≥ 0) : treeFind l fl leaf m p = nowhere := by
  cases m with
  | zero => rfl
  | succ m => rw [treeFind, if_pos (by omega)]
theorem find_leaf (h : p ≥ 0) (hm : p < m) (h1 : (l.getD p.toNat default).flag = -1) : treeFind l fl leaf m p = ((l.getD p.toNat default).e, true) := by
  cases m with
  | zero => omega
  | succ m => rw [treeFind, if_neg (by omega), if_pos h1]
theorem find_flag (h : p ≥ 0) (hm : p < m) (h1 : ¬ (l.getD p.toNat default).flag = -1) (h2 : inR (l.getD p.toNat default).flag 0 (fl - 1) = false) : treeFind l fl leaf m p = nowhere := by
  cases m with
  | zero => omega
  | succ m => rw [treeFind, if_neg (by omega), if_neg h1, if_pos h2]
theorem find_outY (h : p ≥ 0) (hm : p < m) (h1 : ¬ (l.getD p.toNat default).flag = -1) (h2 : inR (l.getD p.toNat default).flag 0 (fl - 1) = true) (h3 : bitAt leaf (l.getD p.toNat default).flag = true) (h4 : inR (l.getD p.toNat default).yes 0 (p - 1) = false) : treeFind l fl leaf m p = nowhere := by
  cases m with
  | zero => omega
  | succ m => rw [treeFind, if_neg (by omega), if_neg h1, if_neg (by rw [h2]; decide), if_pos (by rw [if_pos h3]; exact h4)]
theorem find_outN (h : p ≥ 0) (hm : p < m) (h1 : ¬ (l.getD p.toNat default).flag = -1) (h2 : inR (l.getD p.toNat default).flag 0 (fl - 1) = true) (h3 : bitAt leaf (l.getD p.toNat default).flag = false) (h4 : inR (l.getD p.toNat default).no 0 (p - 1) = false) : treeFind l fl leaf m p = nowhere := by
  cases m with
  | zero => omega
  | succ m => rw [treeFind, if_neg (by omega), if_neg h1, if_neg (by rw [h2]; decide), if_pos (by rw [if_neg (by rw [h3]; decide)]; exact h4)]
theorem find_goY (h : p ≥ 0) (hm : p < m) (h1 : ¬ (l.getD p.toNat default).flag = -1) (h2 : inR (l.getD p.toNat default).flag 0 (fl - 1) = true) (h3 : bitAt leaf (l.getD p.toNat default).flag = true) (h4 : inR (l.getD p.toNat default).yes 0 (p - 1) = true) : treeFind l fl leaf m p = treeFind l fl leaf (m - 1) (l.getD p.toNat default).yes := by
  cases m with
  | zero => omega
  | succ m =>
    rw [treeFind, if_neg (by omega), if_neg h1, if_neg (by rw [h2]; decide)]
    simp only [h3, if_true]
    rw [if_neg (by rw [h4]; decide), Nat.add_sub_cancel]
theorem find_goN (h : p ≥ 0) (hm : p < m) (h1 : ¬ (l.getD p.toNat default).flag = -1) (h2 : inR (l.getD p.toNat default).flag 0 (fl - 1) = true) (h3 : bitAt leaf (l.getD p.toNat default).flag = false) (h4 : inR (l.getD p.toNat default).no 0 (p - 1) = true) : treeFind l fl leaf m p = treeFind l fl leaf (m - 1) (l.getD p.toNat default).no := by
  cases m with
  | zero => omega
  | succ m =>
    rw [treeFind, if_neg (by omega), if_neg h1, if_neg (by rw [h2]; decide)]
    simp only [h3, Bool.false_eq_true, if_false]
    rw [if_neg (by rw [h4]; decide), Nat.add_sub_cancel]
theorem inR_get {x a b : Int} (h : inR x a b = true) : a ≤ x ∧ x ≤ b := by
  simp only [inR, Bool.and_eq_true, decide_eq_true_eq] at h; omega
theorem ask_end (h : ¬ (i : Int) < 5 ∨ inR p 0 ((l.length : Int) - 1) = false) : treeAsk l leaf (5 - i) p = nowhere := by
  cases hm : 5 - i with
  | zero => rfl
  | succ m => rw [treeAsk, if_pos (h.resolve_left (by omega))]
theorem ask_leaf (h : (i : Int) < 5 ∧ inR p 0 ((l.length : Int) - 1) = true) (h1 : (l.getD p.toNat default).flag = -1) : treeAsk l leaf (5 - i) p = ((l.getD p.toNat default).e, true) := by
  rw [show 5 - i = (4 - i) + 1 by omega, treeAsk, if_neg (by rw [h.2]; decide), if_pos h1]
theorem ask_flag (h : (i : Int) < 5 ∧ inR p 0 ((l.length : Int) - 1) = true) (h1 : ¬ (l.getD p.toNat default).flag = -1) (h2 : inR (l.getD p.toNat default).flag 0 2 = false) : treeAsk l leaf (5 - i) p = nowhere := by
  rw [show 5 - i = (4 - i) + 1 by omega, treeAsk, if_neg (by rw [h.2]; decide), if_neg h1, if_pos h2]
theorem ask_goY (h : (i : Int) < 5 ∧ inR p 0 ((l.length : Int) - 1) = true) (h1 : ¬ (l.getD p.toNat default).flag = -1) (h2 : inR (l.getD p.toNat default).flag 0 2 = true) (h3 : bitAt leaf (l.getD p.toNat default).flag = true) : treeAsk l leaf (5 - i) p = treeAsk l leaf (5 - (i + 1)) (l.getD p.toNat default).yes := by
  rw [show 5 - i = (4 - i) + 1 by omega, treeAsk, if_neg (by rw [h.2]; decide), if_neg h1, if_neg (by rw [h2]; decide), if_pos h3, show 5 - (i + 1) = 4 - i by omega]
theorem ask_goN (h : (i : Int) < 5 ∧ inR p 0 ((l.length : Int) - 1) = true) (h1 : ¬ (l.getD p.toNat default).flag = -1) (h2 : inR (l.getD p.toNat default).flag 0 2 = true) (h3 : bitAt leaf (l.getD p.toNat default).flag = false) : treeAsk l leaf (5 - i) p = treeAsk l leaf (5 - (i + 1)) (l.getD p.toNat default).no := by
  rw [show 5 - i = (4 - i) + 1 by omega, treeAsk, if_neg (by rw [h.2]; decide), if_neg h1, if_neg (by rw [h2]; decide), if_neg (by rw [h3]; decide), show 5 - (i + 1) = 4 - i by omega]
end
theorem tree_small {l : List Node} {fl leaf : Int} {B : Nat} (h : ∀ x ∈ l, x.e.ints.length ≤ B ∧ x.e.arrs.length ≤ B) : ∀ m p, (treeFind l fl leaf m p).1.ints.length ≤ B ∧ (treeFind l fl leaf m p).1.arrs.length ≤ B
  | 0, _ => by simp [treeFind, nowhere]
  | m + 1, p => by
    have hd : ∀ q, (l.getD q default).e.ints.length ≤ B ∧ (l.getD q default).e.arrs.length ≤ B := fun q => by
      by_cases hq : q < l.length
      · exact h _ (getD_mem hq)
      · have e : l.getD q default = (default : Node) := by rw [List.getD_eq_getElem?_getD, List.getElem?_eq_none (by omega)]; rfl
        have e1 : (default : Node).e.ints = [] := rfl
        have e2 : (default : Node).e.arrs = [] := rfl
        rw [e, e1, e2]; simp
    have hn : nowhere.1.ints.length ≤ B ∧ nowhere.1.arrs.length ≤ B := by simp [nowhere]
    have ih := tree_small (fl := fl) (leaf := leaf) h m
    rw [treeFind]
    repeat' split
    all_goals first | exact hn | exact hd _ | exact ih _
theorem ask_small {l : List Node} {leaf : Int} {B : Nat} (h : ∀ x ∈ l, x.e.ints.length ≤ B ∧ x.e.arrs.length ≤ B) : ∀ m p, (treeAsk l leaf m p).1.ints.length ≤ B ∧ (treeAsk l leaf m p).1.arrs.length ≤ B
  | 0, _ => by simp [treeAsk, nowhere]
  | m + 1, p => by
    have hd : ∀ q, (l.getD q default).e.ints.length ≤ B ∧ (l.getD q default).e.arrs.length ≤ B := fun q => by
      by_cases hq : q < l.length
      · exact h _ (getD_mem hq)
      · have e : l.getD q default = (default : Node) := by rw [List.getD_eq_getElem?_getD, List.getElem?_eq_none (by omega)]; rfl
        have e1 : (default : Node).e.ints = [] := rfl
        have e2 : (default : Node).e.arrs = [] := rfl
        rw [e, e1, e2]; simp
    rw [treeAsk]
    split
    · simp [nowhere]
    split
    · exact hd _
    split
    · simp [nowhere]
    exact ask_small h m _
theorem askR_small {l : List Node} (h : SmallN l) (leaf : Int) : (askR l leaf).1.ints.length ≤ 1048576 ∧ (askR l leaf).1.arrs.length ≤ 1048576 := ask_small h.2 _ _
theorem findR_small {l : List Node} {fl : Int} (h : SmallN l) (leaf : Int) : (findR l fl leaf).1.ints.length ≤ 1048576 ∧ (findR l fl leaf).1.arrs.length ≤ 1048576 := tree_small h.2 _ _
theorem Decl.flags3 {d : Decl} (h : Decl.ok d = true) : d.flags.length ≤ 3 := by
  unfold Decl.ok at h
  simp only [Bool.and_eq_true, decide_eq_true_eq] at h
  omega
theorem leavesOf_p2 {d : Decl} (h : Decl.ok d = true) : leavesOf d = ((p2 d.flags.length : Nat) : Int) := pw (Decl.flags3 h)
theorem hasAll_step {get : Int → Env × Bool} {j : Nat} (h : hasAll get j = true) (h1 : (get (j : Int)).2 = true) : hasAll get (j + 1) = true := allTo_step h h1
theorem hasAll_fail {get : Int → Env × Bool} {j n : Nat} (hj : j < n) (h1 : (get (j : Int)).2 = false) : hasAll get n = false := allTo_fail hj h1
theorem tabOf_small {get : Int → Env × Bool} {B : Nat} (h : ∀ i, (get i).1.ints.length ≤ B ∧ (get i).1.arrs.length ≤ B) (n : Nat) : ∀ x ∈ tabOf get n, x.ints.length ≤ B ∧ x.arrs.length ≤ B := fun x hx => by
  simp only [tabOf, List.mem_map] at hx
  obtain ⟨i, _, rfl⟩ := hx
  exact h _
section
variable {d : Decl} {T : Tree}
theorem ofS_no1 (h : Decl.ok d = false ∨ (T.nodes.length : Int) > 15) : Table.ofS d T = ([], false) := by
  unfold Table.ofS; rw [if_neg]
  rintro ⟨⟨⟨h1, h2⟩, _⟩, _⟩
  rcases h with h | h
  · rw [h] at h1; cases h1
  · exact h2 h
theorem ofS_no2 {j : Nat} (hj : j < p2 d.flags.length) (h : (askR T.nodes (j : Int)).2 = false) : Table.ofS d T = ([], false) := by
  unfold Table.ofS; rw [if_neg]
  rintro ⟨⟨_, h1⟩, _⟩
  rw [hasAll_fail hj h] at h1; cases h1
theorem ofS_no3 (h : ¬ ((Tree.of d (tabOf (askR T.nodes) (p2 d.flags.length))).nodes.length : Int) = (T.nodes.length : Int) ∨ (T.nodes.length : Int) = 0) : Table.ofS d T = ([], false) := by
  unfold Table.ofS; rw [if_neg]
  rintro ⟨_, h1, h2, _⟩
  rcases h with h | h
  · exact h h1
  · exact h2 h
theorem ofS_no4 {j : Nat} (hj : j < (Tree.of d (tabOf (askR T.nodes) (p2 d.flags.length))).nodes.length) (h : Node.same ((Tree.of d (tabOf (askR T.nodes) (p2 d.flags.length))).nodes.getD j default) (T.nodes.getD j default) = false) : Table.ofS d T = ([], false) := by
  unfold Table.ofS; rw [if_neg]
  rintro ⟨_, _, _, h1⟩
  rw [all2_fail _ hj h] at h1; cases h1
theorem ofS_yes (h : Decl.ok d = true ∧ ¬ (T.nodes.length : Int) > 15) (h1 : hasAll (askR T.nodes) (p2 d.flags.length) = true) (h2 : ((Tree.of d (tabOf (askR T.nodes) (p2 d.flags.length))).nodes.length : Int) = (T.nodes.length : Int) ∧ ¬ (T.nodes.length : Int) = 0)
    (h3 : all2 Node.same (Tree.of d (tabOf (askR T.nodes) (p2 d.flags.length))).nodes T.nodes = true) : Table.ofS d T = (tabOf (askR T.nodes) (p2 d.flags.length), true) := by
  unfold Table.ofS; rw [if_pos ⟨⟨h, h1⟩, h2.1, h2.2, h3⟩]
theorem ofI_no1 (h : Decl.ok d = false) : Table.ofI d T = ([], false) := by
  unfold Table.ofI; rw [if_neg]
  rintro ⟨⟨h1, _⟩, _⟩
  rw [h] at h1; cases h1
theorem ofI_no2 {j : Nat} (hj : j < p2 d.flags.length) (h : (findR T.nodes (d.flags.length : Int) (j : Int)).2 = false) : Table.ofI d T = ([], false) := by
  unfold Table.ofI; rw [if_neg]
  rintro ⟨⟨_, h1⟩, _⟩
  rw [hasAll_fail hj h] at h1; cases h1
theorem ofI_no3 (h : Table.isIn d (tabOf (findR T.nodes (d.flags.length : Int)) (p2 d.flags.length)) = false ∨ all2 Node.same (treeGo (tabOf (findR T.nodes (d.flags.length : Int)) (p2 d.flags.length)) (dep (tabOf (findR T.nodes (d.flags.length : Int)) (p2 d.flags.length)) - 0) 0 0 []).1 T.nodes = false) : Table.ofI d T = ([], false) := by
  unfold Table.ofI; rw [if_neg]
  rintro ⟨_, h1, h2⟩
  rcases h with h | h
  · rw [h] at h1; cases h1
  · rw [h] at h2; cases h2
theorem ofI_yes (h : Decl.ok d = true) (h1 : hasAll (findR T.nodes (d.flags.length : Int)) (p2 d.flags.length) = true) (h2 : Table.isIn d (tabOf (findR T.nodes (d.flags.length : Int)) (p2 d.flags.length)) = true ∧ all2 Node.same (treeGo (tabOf (findR T.nodes (d.flags.length : Int)) (p2 d.flags.length)) (dep (tabOf (findR T.nodes (d.flags.length : Int)) (p2 d.flags.length)) - 0) 0 0 []).1 T.nodes = true) :
    Table.ofI d T = (tabOf (findR T.nodes (d.flags.length : Int)) (p2 d.flags.length), true) := by
  unfold Table.ofI; rw [if_pos ⟨⟨h, h1⟩, h2.1, h2.2⟩]
theorem Table.pow_of (h : Decl.ok d = true) {t : List Env} (h1 : Table.isIn d t = true) : Pow2 t ∧ dep t = d.flags.length := Pow2.of (by unfold Table.ok; rw [h, h1]; rfl)
theorem leaves_no (h : (Table.ofI d T).2 = false) : Tree.leaves d T = -1 := by unfold Tree.leaves; rw [if_neg (by rw [h]; decide)]
theorem leaves_yes (h : (Table.ofI d T).2 = true) : Tree.leaves d T = leafCount T.nodes T.nodes.length := by unfold Tree.leaves; rw [if_pos h]
theorem leafCount_bnd (l : List Node) : ∀ j, 0 ≤ leafCount l j ∧ leafCount l j ≤ j
  | 0 => ⟨Int.le_refl 0, Int.le_refl 0⟩
  | j + 1 => by
    have := leafCount_bnd l j
    have h : ∀ b, 0 ≤ truthN b ∧ truthN b ≤ 1 := fun b => by cases b <;> decide
    have := h ((l.getD j default).flag == -1)
    simp only [leafCount]; omega
theorem leafCount_step (l : List Node) {j : Nat} (h : j ≤ 1048576) : IntKind.wrap .i64 (leafCount l j + truthN ((l.getD j default).flag == -1)) = leafCount l (j + 1) := by
  have := leafCount_bnd l (j + 1)
  exact wrap_le (by simp only [leafCount] at this; omega) (by simp only [leafCount] at this; omega)
end
theorem ofI_small {d : Decl} {T : Tree} (h : SmallN T.nodes) : Small 1048576 (Table.ofI d T).1 := by
  unfold Table.ofI
  split
  · rename_i h1
    exact ⟨by rw [tabOf_len]; have := p2_le (Decl.flags3 h1.1.1); omega, tabOf_small (findR_small h) _⟩
  · exact ⟨by simp, by simp⟩
end Go.Proofs

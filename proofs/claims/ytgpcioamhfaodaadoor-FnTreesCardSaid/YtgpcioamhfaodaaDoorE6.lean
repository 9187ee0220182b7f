/- A symbolic executor over data by value, proved sound over any program: no conditions. -/
import Derived.Test.YtgpcioamhfaodaaDoorE5
set_option linter.all false
set_option linter.unnecessarySimpa false
set_option linter.unusedSectionVars false
set_option linter.unusedSimpArgs false
set_option linter.unusedVariables false
namespace Go.Proofs
open Go Go.Ev
variable [Lay]
def newA (a : List Arr) (j : Nat) : List (List Int) := (List.range j).map fun i => List.replicate (a.getD i default).size.toNat 0
theorem newA_len (a : List Arr) (j : Nat) : (newA a j).length = j := by simp [newA]
theorem newA_step {a : List Arr} {j : Nat} : newA a j ++ [List.replicate (a.getD j default).size.toNat 0] = newA a (j + 1) := by simp [newA, List.range_succ]
def Store.newV (d : Decl) : Store := if Decl.ok d = true then ⟨List.replicate d.vars.length 0, List.replicate d.flags.length false, newA d.arrays d.arrays.length⟩ else ⟨[], [], []⟩
theorem Store.newV_no {d : Decl} (h : Decl.ok d = false) : Store.newV d = ⟨[], [], []⟩ := by unfold Store.newV; rw [if_neg (by rw [h]; decide)]
theorem Store.newV_yes {d : Decl} (h : Decl.ok d = true) : Store.newV d = ⟨List.replicate d.vars.length 0, List.replicate d.flags.length false, newA d.arrays d.arrays.length⟩ := by unfold Store.newV; rw [if_pos h]
theorem newA_end {a : List Arr} {j : Nat} (h : j ≤ a.length) (h1 : ¬ (j : Int) < a.length) : newA a j = newA a a.length := by
  have : j = a.length := by omega
  rw [this]
theorem ok_sizes {d : Decl} (h : Decl.ok d = true) : (d.vars.length ≤ 5 ∧ d.flags.length ≤ 3 ∧ d.arrays.length ≤ 2) ∧ ∀ i, i < d.arrays.length → 1 ≤ (d.arrays.getD i default).size ∧ (d.arrays.getD i default).size ≤ 16 := by
  unfold Decl.ok at h
  simp only [Bool.and_eq_true, decide_eq_true_eq] at h
  exact ⟨h.1.1, fun i hi => by have h1 := allTo_iff.1 h.1.2 i hi; simp only [inR, Bool.and_eq_true, decide_eq_true_eq] at h1; exact h1⟩
def fillG {α : Type} (f g : Nat → α) (n j : Nat) : List α := (List.range n).map fun i => if i < j then f i else g i
theorem fillG_len {α : Type} (f g : Nat → α) (n j : Nat) : (fillG f g n j).length = n := by simp [fillG]
theorem fillG_zero {α : Type} (f : Nat → α) (z : α) (n : Nat) : List.replicate n z = fillG f (fun _ => z) n 0 := by
  unfold fillG
  simp [List.map_const']
theorem fillG_step {α : Type} (f g : Nat → α) {n j : Nat} (h : j < n) : (fillG f g n j).set j (f j) = fillG f g n (j + 1) := by
  refine List.ext_getElem (by simp [fillG]) fun i h1 h2 => ?_
  simp only [fillG, List.getElem_set, List.getElem_map, List.getElem_range]
  by_cases e : j = i
  · subst e; simp
  · rw [if_neg e]
    by_cases h3 : i < j
    · rw [if_pos h3, if_pos (by omega)]
    · rw [if_neg h3, if_neg (by omega)]
theorem fillG_all {α : Type} (f g : Nat → α) {n j : Nat} (h : n ≤ j) : fillG f g n j = (List.range n).map f := by
  unfold fillG
  refine List.map_congr_left fun i hi => ?_
  have := List.mem_range.1 hi
  rw [if_pos (by omega)]
def insI (e : Env) (c : List Int) (i : Nat) : Int := inV (e.ints.getD i default) c (3 * (i : Int))
def insF (leaf : Int) (i : Nat) : Bool := IntKind.wrap .i64 ((BitVec.ofInt (IntKind.bits .i64) (leaf.fdiv (2 ^ (min ((IntKind.wrap .u64 (i : Int))).toNat (IntKind.bits .i64)))) &&& BitVec.ofInt (IntKind.bits .i64) 1).toNat : Int) == 1
def newN (d : Decl) (i : Nat) : Nat := (d.arrays.getD i default).size.toNat
def newR (d : Decl) (i : Nat) : List Int := List.replicate (newN d i) 0
def insQ (e : Env) (c : List Int) (i k : Nat) : Int := inV (e.arrs.getD i default) c (5 * (k : Int) + (i : Int))
def insP (d : Decl) (e : Env) (c : List Int) (i u : Nat) : List Int := fillG (insQ e c i) (fun _ => 0) (newN d i) u
def insA (d : Decl) (e : Env) (c : List Int) (i : Nat) : List Int := insP d e c i (newN d i)
def insideV (d : Decl) (e : Env) (leaf : Int) (c : List Int) : Store :=
  ⟨fillG (insI e c) (fun _ => 0) d.vars.length d.vars.length, fillG (insF leaf) (fun _ => false) d.flags.length d.flags.length, fillG (insA d e c) (newR d) d.arrays.length d.arrays.length⟩
theorem new_ints {d : Decl} (h : Decl.ok d = true) : (Store.newV d).ints = List.replicate d.vars.length 0 ∧ (Store.newV d).flags = List.replicate d.flags.length false ∧ (Store.newV d).arrs = (List.range d.arrays.length).map (newR d) := by
  rw [Store.newV_yes h]; exact ⟨rfl, rfl, rfl⟩
theorem fillG_start {α : Type} (f g : Nat → α) (n : Nat) : (List.range n).map g = fillG f g n 0 := by
  unfold fillG; simp
theorem insP_zero (d : Decl) (e : Env) (c : List Int) (i : Nat) : insP d e c i 0 = newR d i := by
  unfold insP newR; exact (fillG_zero _ _ _).symm
theorem insP_step {d : Decl} {e : Env} {c : List Int} {i u : Nat} (h : u < newN d i) : (insP d e c i u).set u (insQ e c i u) = insP d e c i (u + 1) := fillG_step _ _ h
theorem fillG_get {α : Type} [Inhabited α] (f g : Nat → α) {n j i : Nat} (h : i < n) : (fillG f g n j).getD i default = if i < j then f i else g i := by
  unfold fillG
  rw [List.getD_eq_getElem?_getD, List.getElem?_map, List.getElem?_range h]; rfl
theorem fillG_self {α : Type} (f g : Nat → α) {n j : Nat} (x : α) (hx : x = g j) : fillG f g n j = (fillG f g n j).set j x := by
  subst hx
  refine List.ext_getElem (by simp [fillG]) fun i h1 h2 => ?_
  simp only [fillG, List.getElem_set, List.getElem_map, List.getElem_range]
  by_cases e : j = i
  · subst e; simp
  · rw [if_neg e]
theorem set_getD {α : Type} [Inhabited α] {l : List α} {j : Nat} {x : α} (h : j < l.length) : (l.set j x).getD j default = x := by
  rw [List.getD_eq_getElem?_getD, List.getElem?_set_self h]; rfl
theorem insP_len (d : Decl) (e : Env) (c : List Int) (i u : Nat) : (insP d e c i u).length = newN d i := fillG_len _ _ _ _
theorem ins_inner {d : Decl} {e : Env} {c : List Int} {j u : Nat} (h : u < newN d j) : ((fillG (insA d e c) (newR d) d.arrays.length j).set j (insP d e c j u)).set j ((insP d e c j u).set u (insQ e c j u)) = (fillG (insA d e c) (newR d) d.arrays.length j).set j (insP d e c j (u + 1)) := by
  rw [List.set_set, insP_step h]
theorem ins_outer {d : Decl} {e : Env} {c : List Int} {j u : Nat} (hj : j < d.arrays.length) (h : u = newN d j) : (fillG (insA d e c) (newR d) d.arrays.length j).set j (insP d e c j u) = fillG (insA d e c) (newR d) d.arrays.length (j + 1) := by
  subst h; exact fillG_step (insA d e c) (newR d) hj
end Go.Proofs

namespace Go.Proofs
open Go Go.Ev
variable [Lay]
theorem fillG_at {α : Type} [Inhabited α] (f g : Nat → α) {n i : Nat} (h : i < n) : (fillG f g n n).getD i default = f i := by rw [fillG_get f g h, if_pos h]
theorem mem_set9 {α : Type} {l : List α} {n : Nat} {x z : α} (h : z ∈ l.set n x) : z = x ∨ z ∈ l := (List.mem_or_eq_of_mem_set h).symm
theorem set_ne9 {α : Type} [Inhabited α] {l : List α} {i j : Nat} {x : α} (h : ¬ i = j) : (l.set j x).getD i default = l.getD i default := by
  rw [List.getD_eq_getElem?_getD, List.getD_eq_getElem?_getD, List.getElem?_set_ne (Ne.symm h)]
section
variable {d : Decl} {e : Env} {leaf : Int} {c : List Int}
theorem inside_len (d : Decl) (e : Env) (leaf : Int) (c : List Int) : (insideV d e leaf c).ints.length = d.vars.length ∧ (insideV d e leaf c).flags.length = d.flags.length ∧ (insideV d e leaf c).arrs.length = d.arrays.length := ⟨fillG_len _ _ _ _, fillG_len _ _ _ _, fillG_len _ _ _ _⟩
theorem inside_row (d : Decl) (e : Env) (leaf : Int) (c : List Int) {i : Nat} (hi : i < d.arrays.length) : (insideV d e leaf c).arrs.getD i default = insA d e c i := fillG_at _ _ hi
theorem insA_len (hk : Decl.ok d = true) {i : Nat} (hi : i < d.arrays.length) : ((insA d e c i).length : Int) = (d.arrays.getD i default).size := by
  have := (ok_sizes hk).2 i hi
  unfold insA
  rw [insP_len]
  unfold newN
  omega
theorem okIn_of {s : Store} (h1 : s.ints.length = d.vars.length ∧ s.flags.length = d.flags.length ∧ s.arrs.length = d.arrays.length) (h2 : ∀ i, i < d.arrays.length → ((s.arrs.getD i default).length : Int) = (d.arrays.getD i default).size) : Store.okIn d s = true := by
  unfold Store.okIn
  rw [decide_eq_true h1, Bool.true_and]
  exact allTo_iff.2 fun i hi => by rw [h2 i hi]; simp
theorem inside_ok (hk : Decl.ok d = true) : Store.okIn d (insideV d e leaf c) = true :=
  okIn_of (inside_len d e leaf c) fun i hi => by rw [inside_row d e leaf c hi]; exact insA_len hk hi
theorem insA_in (he : Env.okIn d e = true) (hl : e.live = true) (hf : FitE e) {i : Nat} (hi : i < d.arrays.length) : ∀ x ∈ insA d e c i, (e.arrs.getD i default).lo ≤ x ∧ x ≤ (e.arrs.getD i default).hi := by
  intro x hx
  unfold insA insP at hx
  rw [fillG_all _ _ (Nat.le_refl _)] at hx
  obtain ⟨k, _, rfl⟩ := List.mem_map.1 hx
  obtain ⟨a1, a2, a3⟩ := okIn_ok he hl
  have hm : e.arrs.getD i default ∈ e.arrs := getD_mem (by omega)
  exact inV_in (hf.2 _ hm) (a3 _ hm)
theorem inside_int (he : Env.okIn d e = true) (hl : e.live = true) (hf : FitE e) : (allTo e.ints.length fun i => Iv.has (e.ints.getD i default) ((insideV d e leaf c).ints.getD i default)) = true := by
  obtain ⟨a1, a2, a3⟩ := okIn_ok he hl
  refine allTo_iff.2 fun i hi => ?_
  have e1 : (insideV d e leaf c).ints.getD i default = insI e c i := fillG_at _ _ (by omega)
  have hm : e.ints.getD i default ∈ e.ints := getD_mem hi
  have := inV_in (c := c) (i := 3 * (i : Int)) (hf.1 _ hm) (a2 _ hm)
  rw [e1]
  simp only [Iv.has, inR, Bool.and_eq_true, decide_eq_true_eq]
  exact this
theorem has_all {l : List Int} {a : Iv} (h : ∀ x ∈ l, a.lo ≤ x ∧ x ≤ a.hi) : l.all (Iv.has a) = true := by
  rw [List.all_eq_true]
  intro x hx
  simp only [Iv.has, inR, Bool.and_eq_true, decide_eq_true_eq]
  exact h x hx
theorem inside_has (he : Env.okIn d e = true) (hl : e.live = true) (hf : FitE e) : Env.has e (insideV d e leaf c) = true := by
  obtain ⟨a1, a2, a3⟩ := okIn_ok he hl
  unfold Env.has
  rw [hl, inside_int he hl hf, Bool.and_self, Bool.true_and]
  refine allTo_iff.2 fun i hi => ?_
  rw [inside_row d e leaf c (by omega)]
  exact has_all (insA_in he hl hf (by omega))
theorem meets_at {p : Iv} {sz x : Int} (hp : p.lo ≤ x ∧ x ≤ p.hi) (hx : 0 ≤ x ∧ x < sz) (hs : sz ≤ 16) : Iv.meets p (allOf sz) = true := by
  unfold Iv.meets allOf
  rw [wrap_le (by omega) (by omega)]
  simp only [Iv.ok, Iv.meet, Bool.and_eq_true, decide_eq_true_eq]
  exact ⟨by omega, decide_eq_true (by omega)⟩
theorem putC_yes {v : Int} {p a : Iv} (hk : Decl.ok d = true) (he : Env.okIn d e = true) (hl : e.live = true) (hv : 0 ≤ v ∧ v < (d.arrays.length : Int)) (hp : Iv.ok p = true) (ha : Iv.ok a = true) : Env.putC d e v p a = true := by
  have := (ok_sizes hk).1
  refine Env.putIn_yes ⟨⟨⟨⟨⟨hk, he⟩, hl⟩, ?_⟩, hp⟩, ha⟩
  rw [wrap_le (by omega) (by omega)]
  simp only [inR, Bool.and_eq_true, decide_eq_true_eq]
  omega
theorem ins_e1 {j : Nat} (h : ¬ (j : Int) < ((fillG (insI e c) (fun _ => 0) d.vars.length j).length : Int)) : fillG (insI e c) (fun _ => 0) d.vars.length j = (insideV d e leaf c).ints := by
  rw [fillG_len] at h
  exact (fillG_all _ _ (by omega)).trans (fillG_all _ _ (Nat.le_refl _)).symm
theorem ins_e2 {j : Nat} (h : ¬ (j : Int) < ((fillG (insF leaf) (fun _ => false) d.flags.length j).length : Int)) : fillG (insF leaf) (fun _ => false) d.flags.length j = (insideV d e leaf c).flags := by
  rw [fillG_len] at h
  exact (fillG_all _ _ (by omega)).trans (fillG_all _ _ (Nat.le_refl _)).symm
theorem ins_e3 {j : Nat} (h : ¬ (j : Int) < ((fillG (insA d e c) (newR d) d.arrays.length j).length : Int)) : fillG (insA d e c) (newR d) d.arrays.length j = (insideV d e leaf c).arrs := by
  rw [fillG_len] at h
  exact (fillG_all _ _ (by omega)).trans (fillG_all _ _ (Nat.le_refl _)).symm
theorem put_alarm {v : Int} {p a : Iv} (hk : Decl.ok d = true) (he : Env.okIn d e = true) (hl : e.live = true) (hv : 0 ≤ v ∧ v < (d.arrays.length : Int)) (hp : Iv.ok p = true) (ha : Iv.ok a = true) {x : Int} (hx : p.lo ≤ x ∧ x ≤ p.hi) (h0 : x < 0 ∨ x ≥ (d.arrays.getD v.toNat default).size) : Env.putInAl d e v p a = 2 := by
  unfold Env.putInAl
  rw [if_pos (putC_yes hk he hl hv hp ha)]
  have := (ok_sizes hk).2 v.toNat (by omega)
  refine (alarm_no ?_).symm
  rw [← Bool.not_eq_true]
  intro h
  unfold Iv.leq allOf at h
  rw [wrap_le (by omega) (by omega)] at h
  simp only [Bool.and_eq_true, decide_eq_true_eq] at h
  omega
theorem put_has {v : Int} {p a : Iv} (hk : Decl.ok d = true) (he : Env.okIn d e = true) (hl : e.live = true) (hf : FitE e) (hv : 0 ≤ v ∧ v < (d.arrays.length : Int)) (hp : Iv.ok p = true) (ha : Iv.ok a = true) {x y : Int} (hx : p.lo ≤ x ∧ x ≤ p.hi) (h0 : 0 ≤ x ∧ x < (d.arrays.getD v.toNat default).size) (hy : a.lo ≤ y ∧ y ≤ a.hi) :
    Env.hasIn d (Env.putIn d e v p a) ⟨(insideV d e leaf c).ints, (insideV d e leaf c).flags, (insideV d e leaf c).arrs.set v.toNat (((insideV d e leaf c).arrs.getD v.toNat default).set x.toNat y)⟩ = true := by
  have hvn : v.toNat < d.arrays.length := by omega
  have hsz := (ok_sizes hk).2 v.toNat hvn
  obtain ⟨a1, a2, a3⟩ := okIn_ok he hl
  have hm : e.arrs.getD v.toNat default ∈ e.arrs := getD_mem (by omega)
  have hal : a.lo ≤ a.hi := by unfold Iv.ok at ha; exact of_decide_eq_true ha
  have hev := a3 _ hm
  rw [inside_row d e leaf c hvn]
  have hrow := insA_in (c := c) he hl hf hvn
  have hlen := insA_len (e := e) (c := c) hk hvn
  obtain ⟨B, hB, hB2, hB3⟩ : ∃ B : Iv, Env.putIn d e v p a = ⟨e.live, e.ints, e.arrs.set v.toNat B⟩ ∧ B.lo ≤ B.hi ∧ ∀ z ∈ (insA d e c v.toNat).set x.toNat y, B.lo ≤ z ∧ z ≤ B.hi := by
    unfold Env.putIn
    rw [if_pos (putC_yes hk he hl hv hp ha)]
    have hme := meets_at hx h0 hsz.2
    by_cases h1 : (d.arrays.getD v.toNat default).size = 1
    · refine ⟨a, Env.put_one hme h1, hal, fun z hz => ?_⟩
      have hx0 : x.toNat = 0 := by omega
      have hl1 : (insA d e c v.toNat).length = 1 := by omega
      obtain ⟨u, hu⟩ := List.length_eq_one_iff.1 hl1
      rw [hx0, hu] at hz
      simp at hz
      subst hz
      exact hy
    · refine ⟨_, Env.put_more hme h1, by unfold Iv.join; simp only; omega, fun z hz => ?_⟩
      have hz2 : a.lo ≤ z ∧ z ≤ a.hi ∨ (e.arrs.getD v.toNat default).lo ≤ z ∧ z ≤ (e.arrs.getD v.toNat default).hi := by
        rcases mem_set9 hz with rfl | hz
        · exact .inl hy
        · exact .inr (hrow z hz)
      unfold Iv.join
      simp only
      omega
  rw [hB]
  unfold Env.hasIn
  have o1 : Env.okIn d ⟨e.live, e.ints, e.arrs.set v.toNat B⟩ = true := okIn_mk hl a1.1 (by rw [List.length_set]; exact a1.2) a2 fun z hz => by
    rcases mem_set9 hz with rfl | hz
    · exact hB2
    · exact a3 z hz
  have o2 : Store.okIn d ⟨(insideV d e leaf c).ints, (insideV d e leaf c).flags, (insideV d e leaf c).arrs.set v.toNat ((insA d e c v.toNat).set x.toNat y)⟩ = true := by
    obtain ⟨i1, i2, i3⟩ := inside_len d e leaf c
    refine okIn_of ⟨i1, i2, by rw [List.length_set]; exact i3⟩ fun i hi => ?_
    by_cases h1 : i = v.toNat
    · subst h1
      show ((((insideV d e leaf c).arrs.set v.toNat ((insA d e c v.toNat).set x.toNat y)).getD v.toNat default).length : Int) = _
      rw [set_getD (by omega), List.length_set]
      exact hlen
    · show ((((insideV d e leaf c).arrs.set v.toNat ((insA d e c v.toNat).set x.toNat y)).getD i default).length : Int) = _
      rw [set_ne9 h1, inside_row d e leaf c hi]
      exact insA_len hk hi
  have o3 : Env.has ⟨e.live, e.ints, e.arrs.set v.toNat B⟩ ⟨(insideV d e leaf c).ints, (insideV d e leaf c).flags, (insideV d e leaf c).arrs.set v.toNat ((insA d e c v.toNat).set x.toNat y)⟩ = true := by
    unfold Env.has
    show (e.live && (allTo e.ints.length fun i => Iv.has (e.ints.getD i default) ((insideV d e leaf c).ints.getD i default)) && allTo (e.arrs.set v.toNat B).length fun i => (((insideV d e leaf c).arrs.set v.toNat ((insA d e c v.toNat).set x.toNat y)).getD i default).all (Iv.has ((e.arrs.set v.toNat B).getD i default))) = true
    rw [hl, inside_int he hl hf, Bool.and_self, Bool.true_and, List.length_set]
    refine allTo_iff.2 fun i hi => ?_
    have i3 := (inside_len d e leaf c).2.2
    by_cases h1 : i = v.toNat
    · subst h1
      rw [set_getD (by omega), set_getD hi]
      exact has_all hB3
    · rw [set_ne9 h1, set_ne9 h1, inside_row d e leaf c (by omega)]
      exact has_all (insA_in he hl hf (by omega))
  rw [hk, o1, o2, o3]; rfl
end
def dpD (c : List Int) : Decl := ⟨(declV c 0).vars, (declV c 0).flags, [⟨⟨#[97]⟩, 1 + belowV c (declP c 0) 6⟩]⟩
def dpP1 (c : List Int) : Int := belowP c (declP c 0) 6
def dpE (c : List Int) : Env := hurtV c (envP c (dpP1 c) (dpD c)) (envV c (dpP1 c) (dpD c))
def dpP2 (c : List Int) : Int := hurtP c (envP c (dpP1 c) (dpD c))
def dpV (c : List Int) : Int := offV c (dpP2 c) 0 0
def dpP3 (c : List Int) : Int := offP c (dpP2 c) 0 0
def dpA (c : List Int) : Iv := smallV c (dpP3 c)
def dpI (c : List Int) : Iv := ivV c (smallP c (dpP3 c))
theorem dp_names (c : List Int) : ∀ x ∈ Decl.names (dpD c), x.size ≤ 9223372036854775807 := by
  intro x hx
  have h := decl_names (b := c) (p := 0)
  unfold Decl.names at hx h
  simp only [dpD, List.map_cons, List.map_nil, List.mem_append, List.mem_singleton] at hx
  rcases hx with hx | hx
  · exact h x (by simp only [List.mem_append]; exact .inl hx)
  · subst hx; decide
theorem dp_len (c : List Int) : (dpD c).vars.length ≤ 5 ∧ (dpD c).flags.length ≤ 3 ∧ (dpD c).arrays.length = 1 ∧ (dpE c).ints.length ≤ 6 ∧ (dpE c).arrs.length ≤ 1 := by
  have h1 := decl_len (b := c) (p := 0)
  have h2 := env_len (b := c) (p := dpP1 c) (d := dpD c)
  have h3 := hurt_len (b := c) (p := envP c (dpP1 c) (dpD c)) (e := envV c (dpP1 c) (dpD c))
  have h4 : (dpD c).vars = (declV c 0).vars := rfl
  have h5 : (dpD c).flags = (declV c 0).flags := rfl
  have h6 : (dpD c).arrays.length = 1 := rfl
  rw [h4] at h2 ⊢
  rw [h5]
  unfold dpE
  omega
theorem dp_fit {c : List Int} (h : Rdr.ok c 0) : FitE (dpE c) ∧ FitI (dpA c) ∧ FitI (dpI c) := by
  have h1 : Rdr.ok c (dpP1 c) := h.declP.below
  have h2 : Rdr.ok c (dpP2 c) := (h1.env (d := dpD c)).hurt
  have h3 : Rdr.ok c (dpP3 c) := h2.off (a := 0) (h := 0)
  exact ⟨hurt_fit (env_fit h1), small_fit h3, iv_fit h3.small⟩
theorem dp_d (c : List Int) (x : Arr) : (Decl.mk (declV c 0).vars (declV c 0).flags [x]).vars.length ≤ 1048576 ∧ (Decl.mk (declV c 0).vars (declV c 0).flags [x]).arrays.length ≤ 1048576 := ⟨(dr_d c 0).1, by simp⟩
theorem dp_e (c : List Int) (p : Int) (x : Arr) : (envV c p (Decl.mk (declV c 0).vars (declV c 0).flags [x])).ints.length ≤ 1048576 := by
  have h1 := env_len (b := c) (p := p) (d := Decl.mk (declV c 0).vars (declV c 0).flags [x])
  have h2 := (dr_d c 0).1
  have h3 : (Decl.mk (declV c 0).vars (declV c 0).flags [x]).vars = (declV c 0).vars := rfl
  rw [h3] at h1
  omega
end Go.Proofs

namespace Go.Proofs
open Go Go.Ev
variable [Lay]
def rowG (Q : Nat → Nat → Int) (d : Decl) (i u : Nat) : List Int := fillG (Q i) (fun _ => 0) (newN d i) u
def rowsG (Q : Nat → Nat → Int) (d : Decl) (j : Nat) : List (List Int) := fillG (fun i => rowG Q d i (newN d i)) (newR d) d.arrays.length j
section
variable {Q : Nat → Nat → Int} {d : Decl} {i j u : Nat}
theorem rowG_len (Q : Nat → Nat → Int) (d : Decl) (i u : Nat) : (rowG Q d i u).length = newN d i := fillG_len _ _ _ _
theorem rowsG_len (Q : Nat → Nat → Int) (d : Decl) (j : Nat) : (rowsG Q d j).length = d.arrays.length := fillG_len _ _ _ _
theorem rowG_zero : rowG Q d i 0 = newR d i := (fillG_zero _ _ _).symm
theorem rows_start {l : List (List Int)} (h : l = (List.range d.arrays.length).map (newR d)) : l = rowsG Q d 0 := h.trans (fillG_start _ _ _)
theorem rows_begin : rowsG Q d j = (rowsG Q d j).set j (rowG Q d j 0) := fillG_self _ _ _ rowG_zero
theorem rows_inner (h : u < newN d j) : ((rowsG Q d j).set j (rowG Q d j u)).set j ((rowG Q d j u).set u (Q j u)) = (rowsG Q d j).set j (rowG Q d j (u + 1)) := by
  rw [List.set_set]; congr 1; exact fillG_step _ _ h
theorem rows_outer (hj : j < d.arrays.length) (h : u = newN d j) : (rowsG Q d j).set j (rowG Q d j u) = rowsG Q d (j + 1) := by
  subst h; exact fillG_step (fun i => rowG Q d i (newN d i)) (newR d) hj
end
def riP (b : List Int) (p : Int) (l : List Iv) : Nat → Int
  | 0 => p
  | j + 1 => rinP b (riP b p l j) (l.getD j default)
def riF (b : List Int) (p : Int) (l : List Iv) (i : Nat) : Int := rinV b (riP b p l i) (l.getD i default)
def onP (b : List Int) (p : Int) : Nat → Int
  | 0 => p
  | j + 1 => belowP b (onP b p j) 2
def onF (b : List Int) (p : Int) (i : Nat) : Bool := onceV b (onP b p i) 2
def rpP (b : List Int) (p : Int) (x : Iv) : Nat → Int
  | 0 => p
  | j + 1 => rinP b (rpP b p x j) x
def rrP (b : List Int) (p : Int) (e : Env) (d : Decl) : Nat → Int
  | 0 => p
  | j + 1 => rpP b (rrP b p e d j) (e.arrs.getD j default) (newN d j)
def rrQ (b : List Int) (p : Int) (e : Env) (d : Decl) (j u : Nat) : Int := rinV b (rpP b (rrP b p e d j) (e.arrs.getD j default) u) (e.arrs.getD j default)
def nI (d : Decl) (e : Env) : Nat := if e.live then d.vars.length else 0
def nA (d : Decl) (e : Env) : Nat := if e.live then d.arrays.length else 0
def rins1 (b : List Int) (p : Int) (d : Decl) (e : Env) : Int := riP b p e.ints (nI d e)
def rins2 (b : List Int) (p : Int) (d : Decl) (e : Env) : Int := onP b (rins1 b p d e) d.flags.length
def rinsP (b : List Int) (p : Int) (d : Decl) (e : Env) : Int := rrP b (rins2 b p d e) e d (nA d e)
def rinsV (b : List Int) (p : Int) (d : Decl) (e : Env) : Store :=
  ⟨fillG (riF b p e.ints) (fun _ => 0) d.vars.length (nI d e), fillG (onF b (rins1 b p d e)) (fun _ => false) d.flags.length d.flags.length, rowsG (rrQ b (rins2 b p d e) e d) d (nA d e)⟩
section
variable {b : List Int} {p : Int}
theorem Rdr.ok.ri (h : Rdr.ok b p) (l : List Iv) : ∀ j, Rdr.ok b (riP b p l j)
  | 0 => h
  | j + 1 => (Rdr.ok.ri h l j).rin
theorem Rdr.ok.on (h : Rdr.ok b p) : ∀ j, Rdr.ok b (onP b p j)
  | 0 => h
  | j + 1 => (Rdr.ok.on h j).below
theorem Rdr.ok.rp (h : Rdr.ok b p) (x : Iv) : ∀ j, Rdr.ok b (rpP b p x j)
  | 0 => h
  | j + 1 => (Rdr.ok.rp h x j).rin
theorem Rdr.ok.rr (h : Rdr.ok b p) (e : Env) (d : Decl) : ∀ j, Rdr.ok b (rrP b p e d j)
  | 0 => h
  | j + 1 => (Rdr.ok.rr h e d j).rp _ _
theorem Rdr.ok.rins1 {d : Decl} {e : Env} (h : Rdr.ok b p) : Rdr.ok b (rins1 b p d e) := h.ri _ _
theorem Rdr.ok.rins2 {d : Decl} {e : Env} (h : Rdr.ok b p) : Rdr.ok b (rins2 b p d e) := h.rins1.on _
theorem Rdr.ok.rins {d : Decl} {e : Env} (h : Rdr.ok b p) : Rdr.ok b (rinsP b p d e) := h.rins2.rr _ _ _
variable {l : List Iv} {x : Iv} {e : Env} {d : Decl} {j u : Nat}
theorem riP_0 : p = riP b p l 0 := rfl
theorem riP_s : rinP b (riP b p l j) (l.getD j default) = riP b p l (j + 1) := rfl
theorem onP_s : belowP b (onP b p j) 2 = onP b p (j + 1) := rfl
theorem rpP_s : rinP b (rpP b p x j) x = rpP b p x (j + 1) := rfl
theorem on_start (h : j = nI d e) : riP b p e.ints j = onP b (rins1 b p d e) 0 := by subst h; rfl
theorem rr_start (h : j = d.flags.length) : onP b (rins1 b p d e) j = rrP b (rins2 b p d e) e d 0 := by subst h; rfl
theorem rp_start : rrP b p e d j = rpP b (rrP b p e d j) (e.arrs.getD j default) 0 := rfl
theorem rr_next (h : u = newN d j) : rpP b (rrP b p e d j) (e.arrs.getD j default) u = rrP b p e d (j + 1) := by subst h; rfl
theorem rr_end (h : j = nA d e) : rrP b (rins2 b p d e) e d j = rinsP b p d e := by subst h; rfl
theorem nI_end {N : Int} (h : j ≤ nI d e) (hN : N = d.vars.length) (hc : ¬ (j : Int) < N ∨ e.live = false) : j = nI d e := by
  unfold nI at *
  cases hl : e.live with
  | true => rw [hl] at h hc; simp at h hc ⊢; omega
  | false => rw [hl] at h; simp at h ⊢; omega
theorem nA_end {N : Int} (h : j ≤ nA d e) (hN : N = d.arrays.length) (hc : ¬ (j : Int) < N ∨ e.live = false) : j = nA d e := by
  unfold nA at *
  cases hl : e.live with
  | true => rw [hl] at h hc; simp at h hc ⊢; omega
  | false => rw [hl] at h; simp at h ⊢; omega
theorem nI_live (h : e.live = true) : nI d e = d.vars.length := by unfold nI; rw [h]; rfl
theorem nA_live (h : e.live = true) : nA d e = d.arrays.length := by unfold nA; rw [h]; rfl
theorem rins_ints (h : j = nI d e) : fillG (riF b p e.ints) (fun _ => 0) d.vars.length j = (rinsV b p d e).ints := by subst h; rfl
theorem rins_flags (h : j = d.flags.length) : fillG (onF b (rins1 b p d e)) (fun _ => false) d.flags.length j = (rinsV b p d e).flags := by subst h; rfl
theorem rins_arrs (h : j = nA d e) : rowsG (rrQ b (rins2 b p d e) e d) d j = (rinsV b p d e).arrs := by subst h; rfl
theorem rins_len (b : List Int) (p : Int) (d : Decl) (e : Env) : (rinsV b p d e).ints.length = d.vars.length ∧ (rinsV b p d e).flags.length = d.flags.length ∧ (rinsV b p d e).arrs.length = d.arrays.length := ⟨fillG_len _ _ _ _, fillG_len _ _ _ _, fillG_len _ _ _ _⟩
end
theorem rowG_all (Q : Nat → Nat → Int) (d : Decl) (i : Nat) : rowG Q d i (newN d i) = (List.range (newN d i)).map (Q i) := fillG_all _ _ (Nat.le_refl _)
theorem rins_rows {b : List Int} {p : Int} {d : Decl} {e : Env} (hk : Decl.ok d = true) {i : Nat} (hi : i < d.arrays.length) : (((rinsV b p d e).arrs.getD i default).length : Int) = (d.arrays.getD i default).size := by
  have h1 := (ok_sizes hk).2 i hi
  have h2 : (rinsV b p d e).arrs.getD i default = if i < nA d e then rowG (rrQ b (rins2 b p d e) e d) d i (newN d i) else newR d i := fillG_get _ _ hi
  rw [h2]
  split
  · rw [rowG_len]; unfold newN; omega
  · unfold newR newN; rw [List.length_replicate]; omega
theorem rins_okIn {b : List Int} {p : Int} {d : Decl} {e : Env} (hk : Decl.ok d = true) : Store.okIn d (rinsV b p d e) = true := okIn_of (rins_len b p d e) fun i hi => rins_rows hk hi
theorem small_of {d : Decl} {s : Store} (hk : Decl.ok d = true) (h : Store.okIn d s = true) : Store.small s := by
  have h1 := ok_sizes hk
  have h2 := Store.okIn_len h
  refine ⟨by omega, by omega, by omega, fun x hx => ?_⟩
  obtain ⟨i, hi, rfl⟩ := List.mem_iff_getElem.1 hx
  have h3 : (s.arrs.getD i default).length = s.arrs[i].length := by rw [List.getD_eq_getElem?_getD, List.getElem?_eq_getElem hi]; rfl
  unfold Store.okIn at h
  have h4 := allTo_iff.1 (Bool.and_eq_true_iff.1 h).2 i (by omega)
  have h5 := h1.2 i (by omega)
  simp only [beq_iff_eq] at h4
  omega
theorem decl_ok9 : ∀ k < 5, ∀ m < 4, Decl.ok ⟨varsL.take k, flagsL.take m, []⟩ = true ∧ ∀ s < 6, Decl.ok ⟨varsL.take k, flagsL.take m, [⟨⟨#[97]⟩, 1 + ((s : Nat) : Int)⟩]⟩ = true := by decide +kernel
theorem decl_isok {b : List Int} {p : Int} (h : Rdr.ok b p) : Decl.ok (declV b p) = true := by
  obtain ⟨q1, q2, q3, q4, q5, _⟩ := h.decl
  have h1 := belowV_bnd (n := 4) h (by omega)
  obtain ⟨m, hm, em⟩ : ∃ m, m < 4 ∧ (if onceV b (dcP2 b p) 3 = true then flagsL.take (belowV b (dcP3 b p) 4).toNat else flagsL.take (1 + belowV b (dcP1 b p) 2).toNat) = flagsL.take m := by
    have h2 := belowV_bnd (n := 4) q3 (by omega)
    have h3 := belowV_bnd (n := 2) q1 (by omega)
    split
    · exact ⟨_, by omega, rfl⟩
    · exact ⟨_, by omega, rfl⟩
  have h4 := belowV_bnd (n := 6) q5 (by omega)
  unfold declV
  rw [em]
  split
  · have := (decl_ok9 (1 + belowV b p 4).toNat (by omega) m hm).2 (belowV b (dcP5 b p) 6).toNat (by omega)
    rwa [Int.toNat_of_nonneg h4.1] at this
  · exact (decl_ok9 _ (by omega) m hm).1
theorem env_lens {b : List Int} {p : Int} {d : Decl} (h : (envV b p d).live = true) : (envV b p d).ints.length = d.vars.length ∧ (envV b p d).arrs.length = d.arrays.length := by
  unfold envV at *
  split at h
  · cases h
  · rename_i h1; rw [if_neg h1]; exact ⟨smL_len _ _ _, smL_len _ _ _⟩
def dhE0 (c : List Int) : Env := envV c (declP c 0) (declV c 0)
def dhP2 (c : List Int) : Int := envP c (declP c 0) (declV c 0)
def dhS0 (c : List Int) : Store := rinsV c (dhP2 c) (declV c 0) (dhE0 c)
def dhP3 (c : List Int) : Int := rinsP c (dhP2 c) (declV c 0) (dhE0 c)
def dhB (c : List Int) : Bool := onceV c (dhP3 c) 3 && decide (((dhS0 c).ints.length : Int) > 0)
def dhS (c : List Int) : Store := if dhB c = true then ⟨(dhS0 c).ints.set 0 (numV c (belowP c (dhP3 c) 3)), (dhS0 c).flags, (dhS0 c).arrs⟩ else dhS0 c
def dhE (c : List Int) : Env := hurtV c (if dhB c = true then numP c (belowP c (dhP3 c) 3) else belowP c (dhP3 c) 3) (dhE0 c)
theorem dh_1 {c : List Int} (h : onceV c (dhP3 c) 3 = true ∧ ((dhS0 c).ints.length : Int) > 0) : dhS c = ⟨(dhS0 c).ints.set 0 (numV c (belowP c (dhP3 c) 3)), (dhS0 c).flags, (dhS0 c).arrs⟩ ∧ dhE c = hurtV c (numP c (belowP c (dhP3 c) 3)) (dhE0 c) := by
  have e : dhB c = true := by unfold dhB; rw [h.1, decide_eq_true h.2]; rfl
  unfold dhS dhE; rw [if_pos e, if_pos e]; exact ⟨rfl, rfl⟩
theorem dh_0 {c : List Int} (h : onceV c (dhP3 c) 3 = false ∨ ¬ ((dhS0 c).ints.length : Int) > 0) : dhS c = dhS0 c ∧ dhE c = hurtV c (belowP c (dhP3 c) 3) (dhE0 c) := by
  have e : ¬ dhB c = true := by
    unfold dhB
    rcases h with h | h
    · rw [h]; simp
    · rw [decide_eq_false h]; simp
  unfold dhS dhE; rw [if_neg e, if_neg e]; exact ⟨rfl, rfl⟩
theorem dh_ok {c : List Int} (h : Rdr.ok c 0) : Store.okIn (declV c 0) (dhS c) = true := by
  have h1 : Store.okIn (declV c 0) (dhS0 c) = true := rins_okIn (decl_isok h)
  unfold dhS
  split
  · unfold Store.okIn at *; simpa using h1
  · exact h1
theorem dh_len (c : List Int) : (dhE c).ints.length ≤ 6 ∧ (dhE c).arrs.length ≤ 1 := by
  have h1 := env_len' c (declP c 0) 0
  unfold dhE dhE0
  have h2 := hurt_len (b := c) (p := if dhB c = true then numP c (belowP c (dhP3 c) 3) else belowP c (dhP3 c) 3) (e := envV c (declP c 0) (declV c 0))
  omega
section
variable {d : Decl} {a b : Env} {s : Store}
theorem has_get (h : Env.has a s = true) : a.live = true ∧ (∀ i, i < a.ints.length → Iv.has (a.ints.getD i default) (s.ints.getD i default) = true) ∧ ∀ i, i < a.arrs.length → ∀ x ∈ s.arrs.getD i default, Iv.has (a.arrs.getD i default) x = true := by
  unfold Env.has at h
  simp only [Bool.and_eq_true] at h
  exact ⟨h.1.1, allTo_iff.1 h.1.2, fun i hi => List.all_eq_true.1 (allTo_iff.1 h.2 i hi)⟩
theorem has_mk (h1 : a.live = true) (h2 : ∀ i, i < a.ints.length → Iv.has (a.ints.getD i default) (s.ints.getD i default) = true) (h3 : ∀ i, i < a.arrs.length → ∀ x ∈ s.arrs.getD i default, Iv.has (a.arrs.getD i default) x = true) : Env.has a s = true := by
  unfold Env.has
  rw [h1, allTo_iff.2 h2, Bool.and_self, Bool.true_and]
  exact allTo_iff.2 fun i hi => List.all_eq_true.2 (h3 i hi)
theorem leq_get (ha : a.live = true) (h : Env.leq a b = true) : b.live = true ∧ (∀ i, i < a.ints.length → Iv.leq (a.ints.getD i default) (b.ints.getD i default) = true) ∧ ∀ i, i < a.arrs.length → Iv.leq (a.arrs.getD i default) (b.arrs.getD i default) = true := by
  unfold Env.leq at h
  rw [if_pos ha] at h
  split at h
  · rename_i hb
    rw [Bool.and_eq_true] at h
    exact ⟨hb, allTo_iff.1 h.1, allTo_iff.1 h.2⟩
  · cases h
theorem ivleq_has {x y : Iv} {n : Int} (h : Iv.leq x y = true) (h1 : Iv.has x n = true) : Iv.has y n = true := by
  simp only [Iv.leq, Iv.has, inR, Bool.and_eq_true, decide_eq_true_eq] at *
  omega
theorem has_leq (ha : Env.okIn d a = true) (hb : Env.okIn d b = true) (h : Env.leq a b = true) (hs : Env.has a s = true) : Env.has b s = true := by
  obtain ⟨h1, h2, h3⟩ := has_get hs
  obtain ⟨h4, h5, h6⟩ := leq_get h1 h
  have a1 := okIn_one ha h1
  have b1 := okIn_one hb h4
  exact has_mk h4 (fun i hi => ivleq_has (h5 i (by omega)) (h2 i (by omega))) fun i hi x hx => ivleq_has (h6 i (by omega)) (h3 i (by omega) x hx)
end
end Go.Proofs

namespace Go.Proofs
open Go Go.Ev
variable [Lay]
section
variable {b : List Int} {p : Int} {d : Decl}
theorem small_ok9 (h : Rdr.ok b p) : (smallV b p).lo ≤ (smallV b p).hi := by
  unfold smallV; split
  · simp only; omega
  · have h2 := belowV_bnd (n := 9) ((h.below (n := 6)).below (n := 20)) (by omega)
    simp only
    omega
theorem smL_ok (h : Rdr.ok b p) : ∀ j, ∀ x ∈ smL b p j, x.lo ≤ x.hi
  | 0, x, hx => by simp [smL] at hx
  | j + 1, x, hx => by
    simp only [smL, List.mem_append, List.mem_singleton] at hx
    rcases hx with hx | rfl
    · exact smL_ok h j x hx
    · exact small_ok9 (Rdr.ok.sm h j)
theorem off_ok : Env.okIn d ⟨false, [], []⟩ = true := by unfold Env.okIn; rfl
theorem env_ok (h : Rdr.ok b p) : Env.okIn d (envV b p d) = true := by
  unfold envV
  split
  · exact off_ok
  · exact okIn_mk rfl (smL_len _ _ _) (smL_len _ _ _) (smL_ok h.below _) (smL_ok (h.below.sm _) _)
theorem tb_ok (h : Rdr.ok b p) : ∀ j, ∀ x ∈ (tbS b d p j).1, Env.okIn d x = true
  | 0, x, hx => by simp [tbS] at hx
  | j + 1, x, hx => by
    simp only [tbS, List.mem_append, List.mem_singleton] at hx
    rcases hx with hx | rfl
    · exact tb_ok h j x hx
    · unfold tbE
      split
      · exact off_ok
      · unfold tbE1
        split
        · rename_i h1
          have h2 := belowV_bnd (n := (j : Int)) ((Rdr.ok.tbS (d := d) h j).tb2 (d := d) j) (by omega)
          exact tb_ok h j _ (getD_mem (by rw [tbS_len]; omega))
        · exact env_ok (Rdr.ok.tbS h j)
theorem tbV_ok (h : Rdr.ok b p) (hd : Decl.ok d = true) : Table.ok d (tbV b p d) = true := by
  unfold Table.ok
  rw [hd, Bool.true_and]
  exact isIn_mk (tbV_len (ok_sizes hd).1.2.1) (tb_ok h _)
end
section
variable {c : List Int}
abbrev dkN0 (c : List Int) : List Node := (Tree.of (declV c 0) (tbV c (declP c 0) (declV c 0))).nodes
abbrev dkP (c : List Int) : Int := tbP c (declP c 0) (declV c 0)
abbrev dkQ (c : List Int) : Int := belowP c (dkP c) 12
def dkN (c : List Int) : List Node :=
  if belowV c (dkP c) 12 = 0 then (dkN0 c).drop 1
  else if belowV c (dkP c) 12 = 1 then dkN0 c ++ [(dkN0 c).getD 0 default]
  else if belowV c (dkP c) 12 = 2 then (dkN0 c).set ((dkN0 c).length - 1) ⟨((dkN0 c).getD ((dkN0 c).length - 1) default).flag, ((dkN0 c).getD ((dkN0 c).length - 1) default).no, offV c (dkQ c) 0 3, ((dkN0 c).getD ((dkN0 c).length - 1) default).e⟩
  else if belowV c (dkP c) 12 = 3 then (dkN0 c).set 0 ⟨offV c (dkQ c) (-1) 2, ((dkN0 c).getD 0 default).no, ((dkN0 c).getD 0 default).yes, ((dkN0 c).getD 0 default).e⟩
  else if belowV c (dkP c) 12 = 4 then (dkN0 c).set 0 ⟨((dkN0 c).getD 0 default).flag, ((dkN0 c).getD 0 default).no, ((dkN0 c).getD 0 default).yes, hurtV c (dkQ c) ((dkN0 c).getD 0 default).e⟩
  else dkN0 c
theorem dk_0 (h0 : belowV c (dkP c) 12 = 0) : (dkN0 c).drop 1 = dkN c := by unfold dkN; rw [if_pos h0]
theorem dk_1 (h0 : ¬ belowV c (dkP c) 12 = 0) (h1 : belowV c (dkP c) 12 = 1) : dkN0 c ++ [(dkN0 c).getD 0 default] = dkN c := by unfold dkN; rw [if_neg h0, if_pos h1]
theorem dk_2 (h0 : ¬ belowV c (dkP c) 12 = 0) (h1 : ¬ belowV c (dkP c) 12 = 1) (h2 : belowV c (dkP c) 12 = 2) : (dkN0 c).set ((dkN0 c).length - 1) ⟨((dkN0 c).getD ((dkN0 c).length - 1) default).flag, ((dkN0 c).getD ((dkN0 c).length - 1) default).no, offV c (dkQ c) 0 3, ((dkN0 c).getD ((dkN0 c).length - 1) default).e⟩ = dkN c := by
  unfold dkN; rw [if_neg h0, if_neg h1, if_pos h2]
theorem dk_3 (h0 : ¬ belowV c (dkP c) 12 = 0) (h1 : ¬ belowV c (dkP c) 12 = 1) (h2 : ¬ belowV c (dkP c) 12 = 2) (h3 : belowV c (dkP c) 12 = 3) : (dkN0 c).set 0 ⟨offV c (dkQ c) (-1) 2, ((dkN0 c).getD 0 default).no, ((dkN0 c).getD 0 default).yes, ((dkN0 c).getD 0 default).e⟩ = dkN c := by
  unfold dkN; rw [if_neg h0, if_neg h1, if_neg h2, if_pos h3]
theorem dk_4 (h0 : ¬ belowV c (dkP c) 12 = 0) (h1 : ¬ belowV c (dkP c) 12 = 1) (h2 : ¬ belowV c (dkP c) 12 = 2) (h3 : ¬ belowV c (dkP c) 12 = 3) (h4 : belowV c (dkP c) 12 = 4) : (dkN0 c).set 0 ⟨((dkN0 c).getD 0 default).flag, ((dkN0 c).getD 0 default).no, ((dkN0 c).getD 0 default).yes, hurtV c (dkQ c) ((dkN0 c).getD 0 default).e⟩ = dkN c := by
  unfold dkN; rw [if_neg h0, if_neg h1, if_neg h2, if_neg h3, if_pos h4]
theorem dk_5 (h0 : ¬ belowV c (dkP c) 12 = 0) (h1 : ¬ belowV c (dkP c) 12 = 1) (h2 : ¬ belowV c (dkP c) 12 = 2) (h3 : ¬ belowV c (dkP c) 12 = 3) (h4 : ¬ belowV c (dkP c) 12 = 4) : dkN0 c = dkN c := by
  unfold dkN; rw [if_neg h0, if_neg h1, if_neg h2, if_neg h3, if_neg h4]
def dkT (c : List Int) : Tree := ⟨dkN c⟩
theorem dk_tab (h : Rdr.ok c 0) : Table.ok (declV c 0) (tbV c (declP c 0) (declV c 0)) = true := tbV_ok h.declP (decl_isok h)
theorem dk_len (h : Rdr.ok c 0) : 1 ≤ (dkN0 c).length ∧ (dkN0 c).length ≤ 15 := by
  have h1 := IsTree.size (d := declV c 0) (o := tbV c (declP c 0) (declV c 0)) (l := dkN0 c) ⟨dk_tab h, by unfold dkN0; rw [Tree.of_yes (dk_tab h)]⟩
  omega
theorem leaf_bnd9 {t : List Env} (h : ∀ x ∈ t, x.ints.length ≤ 5 ∧ x.arrs.length ≤ 1) (leaf : Nat) : (t.getD leaf default).ints.length ≤ 5 ∧ (t.getD leaf default).arrs.length ≤ 1 := by
  by_cases h1 : leaf < t.length
  · exact h _ (getD_mem h1)
  · rw [List.getD_eq_getElem?_getD, List.getElem?_eq_none (by omega)]
    exact ⟨Nat.zero_le _, Nat.zero_le _⟩
theorem dk_small0 (h : Rdr.ok c 0) : ∀ x ∈ dkN0 c, x.e.ints.length ≤ 5 ∧ x.e.arrs.length ≤ 1 := by
  have e : dkN0 c = (treeGo (tbV c (declP c 0) (declV c 0)) (declV c 0).flags.length 0 0 []).1 := by unfold dkN0 Tree.of; rw [if_pos (dk_tab h)]
  rw [e]
  have h2 := decl_len (b := c) (p := 0)
  exact treeGo_all (Q := fun x => x.e.ints.length ≤ 5 ∧ x.e.arrs.length ≤ 1) (fun leaf => leaf_bnd9 (fun x hx => by
    have h1 := tbV_sized h.declP x hx
    have h3 := h1.2.1
    have h4 := h1.2.2.1
    omega) leaf) (fun _ _ _ => by simp) _ _ _ _ (by simp)
theorem dk_small (h : Rdr.ok c 0) : SmallN (dkT c).nodes := by
  have h1 := dk_len h
  have h2 := dk_small0 h
  have hm : ∀ i, i < (dkN0 c).length → ((dkN0 c).getD i default).e.ints.length ≤ 5 ∧ ((dkN0 c).getD i default).e.arrs.length ≤ 1 := fun i hi => h2 _ (getD_mem hi)
  have w : ∀ x ∈ dkN0 c, Node.small x := fun x hx => ⟨by have := (h2 x hx).1; omega, by have := (h2 x hx).2; omega⟩
  have set9 : ∀ {i : Nat} {y : Node}, y.e.ints.length ≤ 6 ∧ y.e.arrs.length ≤ 1 → SmallN ((dkN0 c).set i y) := fun {i y} hy => ⟨by rw [List.length_set]; omega, fun x hx => by
    rcases mem_set9 hx with rfl | hx
    · exact ⟨by omega, by omega⟩
    · exact w x hx⟩
  show SmallN (dkN c)
  unfold dkN
  split
  · exact ⟨by simp; omega, fun x hx => w x (List.mem_of_mem_drop hx)⟩
  split
  · refine ⟨by simp; omega, fun x hx => ?_⟩
    rcases List.mem_append.1 hx with hx | hx
    · exact w x hx
    · rw [List.mem_singleton.1 hx]; exact w _ (getD_mem (by omega))
  split
  · exact set9 (by have := hm ((dkN0 c).length - 1) (by omega); simp only; omega)
  split
  · exact set9 (by have := hm 0 (by omega); simp only; omega)
  split
  · refine set9 ?_
    have h3 := hm 0 (by omega)
    have h4 := hurt_len (b := c) (p := dkQ c) (e := ((dkN0 c).getD 0 default).e)
    simp only
    omega
  · exact ⟨by omega, w⟩
end
theorem law_Trees {d : Decl} {t : List Env} (h : Table.ok d t = true) : (Table.ofI d (Tree.of d t)).2 = true ∧ all2 Env.same (Table.ofI d (Tree.of d t)).1 t = true := by
  rw [ofI_of h]; exact ⟨rfl, all2_self Env.same_self _⟩
end Go.Proofs

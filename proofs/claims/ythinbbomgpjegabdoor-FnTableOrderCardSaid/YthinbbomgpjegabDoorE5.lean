/- A symbolic executor over data by value, proved sound over any program: no conditions. -/
import Derived.Test.YthinbbomgpjegabDoorE4
set_option linter.all false
set_option linter.unnecessarySimpa false
set_option linter.unusedSectionVars false
set_option linter.unusedSimpArgs false
set_option linter.unusedVariables false
/- The plain laws of bounds. -/
namespace Go.Proofs
open Go Go.Ev
variable [Lay]
def Env.leqIn (d : Decl) (a b : Env) : Bool := (Decl.ok d && Env.okIn d a && Env.okIn d b) && Env.leq a b
theorem leqIn_len {d : Decl} {a b : Env} (h : (Decl.ok d && Env.okIn d a && Env.okIn d b) = true) : a.live = true → b.live = true → a.ints.length = b.ints.length ∧ a.arrs.length = b.arrs.length :=
  okIn_len2 (by simpa [Bool.and_eq_true] using h)
theorem okIn_off {d : Decl} {a : Env} (h : Env.okIn d a = true) (hl : a.live = false) : a = ⟨false, [], []⟩ := by
  unfold Env.okIn at h
  rw [if_neg (by rw [hl]; decide)] at h
  simp only [Bool.and_eq_true, beq_iff_eq] at h
  have h1 : a.ints = [] := List.eq_nil_of_length_eq_zero (by omega)
  have h2 : a.arrs = [] := List.eq_nil_of_length_eq_zero (by omega)
  cases a; simp_all
theorem okIn_ok {d : Decl} {a : Env} (h : Env.okIn d a = true) (hl : a.live = true) : (a.ints.length = d.vars.length ∧ a.arrs.length = d.arrays.length) ∧ (∀ x ∈ a.ints, x.lo ≤ x.hi) ∧ ∀ x ∈ a.arrs, x.lo ≤ x.hi := by
  refine ⟨okIn_one h hl, ?_⟩
  unfold Env.okIn at h
  rw [if_pos hl] at h
  simp only [Bool.and_eq_true, List.all_eq_true, List.mem_append, Iv.ok, decide_eq_true_eq] at h
  exact ⟨fun x hx => h.2 x (.inl hx), fun x hx => h.2 x (.inr hx)⟩
theorem okIn_mk {d : Decl} {a : Env} (hl : a.live = true) (h1 : a.ints.length = d.vars.length) (h2 : a.arrs.length = d.arrays.length) (h3 : ∀ x ∈ a.ints, x.lo ≤ x.hi) (h4 : ∀ x ∈ a.arrs, x.lo ≤ x.hi) : Env.okIn d a = true := by
  unfold Env.okIn
  rw [if_pos hl]
  simp only [Bool.and_eq_true, beq_iff_eq, List.all_eq_true, List.mem_append, Iv.ok, decide_eq_true_eq]
  exact ⟨⟨by omega, by omega⟩, fun x hx => hx.elim (h3 x) (h4 x)⟩
theorem leq_mk {a b : Env} (hb : b.live = true) (h1 : ∀ i, i < a.ints.length → Iv.leq (a.ints.getD i default) (b.ints.getD i default) = true) (h2 : ∀ i, i < a.arrs.length → Iv.leq (a.arrs.getD i default) (b.arrs.getD i default) = true) : Env.leq a b = true := by
  unfold Env.leq
  split
  · simp only [hb, if_true, Bool.and_eq_true]; exact ⟨allTo_iff.2 h1, allTo_iff.2 h2⟩
  · rfl
theorem Iv.leq_mk {a b : Iv} (h1 : a.lo ≤ a.hi) (h2 : b.lo ≤ b.hi) (h3 : b.lo ≤ a.lo) (h4 : a.hi ≤ b.hi) : Iv.leq a b = true := by
  simp only [Iv.leq, Iv.ok, Bool.and_eq_true, decide_eq_true_eq]; exact ⟨⟨⟨h1, h2⟩, h3⟩, h4⟩
theorem zip2_get {α β γ : Type} [Inhabited α] [Inhabited β] [Inhabited γ] {f : α → β → γ} {a : List α} {b : List β} {i : Nat} (h : i < a.length) : (zip2 f a b).getD i default = f (a.getD i default) (b.getD i default) := by
  unfold zip2 zip2To
  rw [List.getD_eq_getElem?_getD, List.getElem?_map, List.getElem?_range h]; rfl
theorem zip2_all {α β γ : Type} [Inhabited α] [Inhabited β] {f : α → β → γ} {a : List α} {b : List β} {p : γ → Prop} (h : ∀ i, i < a.length → p (f (a.getD i default) (b.getD i default))) : ∀ x ∈ zip2 f a b, p x := by
  intro x hx
  unfold zip2 zip2To at hx
  simp only [List.mem_map, List.mem_range] at hx
  obtain ⟨i, hi, rfl⟩ := hx
  exact h i hi
theorem list_ext {α : Type} [Inhabited α] {a b : List α} (hl : a.length = b.length) (h : ∀ i, i < a.length → a.getD i default = b.getD i default) : a = b := by
  refine List.ext_getElem hl fun i h1 h2 => ?_
  have := h i h1
  rwa [List.getD_eq_getElem?_getD, List.getD_eq_getElem?_getD, List.getElem?_eq_getElem h1, List.getElem?_eq_getElem h2] at this
theorem zip2_id {f : Iv → Iv → Iv} {a b : List Iv} (h : ∀ i, i < a.length → f (a.getD i default) (b.getD i default) = a.getD i default) : zip2 f a b = a :=
  list_ext (zip2_len _ _ _) fun i hi => by rw [zip2_len] at hi; rw [zip2_get hi]; exact h i hi
-- widening
theorem foldl_le {n z : Int} : ∀ {l : List Int}, z ≤ n → l.foldl (fun m s => if s ≤ n then max m s else m) z ≤ n
  | [], h => h
  | s :: l, h => by
    simp only [List.foldl_cons]
    refine foldl_le ?_
    split <;> omega
theorem foldl_ge {n z : Int} : ∀ {l : List Int}, n ≤ z → n ≤ l.foldl (fun m s => if s ≥ n then min m s else m) z
  | [], h => h
  | s :: l, h => by
    simp only [List.foldl_cons]
    refine foldl_ge ?_
    split <;> omega
theorem widenLo_le {n z : Int} {l : List Int} (h : z ≤ n) : widenLo n l z ≤ n := foldl_le h
theorem widenHi_ge {n z : Int} {l : List Int} (h : n ≤ z) : n ≤ widenHi n l z := foldl_ge h
theorem widen_bnd {a b : Iv} {l : List Int} (fb : FitI b) : (Iv.widen a b l).lo ≤ a.lo ∧ (Iv.widen a b l).lo ≤ b.lo ∧ a.hi ≤ (Iv.widen a b l).hi ∧ b.hi ≤ (Iv.widen a b l).hi := by
  have h1 := widenLo_le (n := b.lo) (z := -9223372036854775808) (l := l) fb.1.1
  have h2 := widenHi_ge (n := b.hi) (z := 9223372036854775807) (l := l) fb.2.2
  unfold Iv.widen
  simp only
  split <;> split <;> omega
theorem widen_stay {a b : Iv} {l : List Int} (h1 : a.lo ≤ b.lo) (h2 : b.hi ≤ a.hi) : Iv.widen a b l = a := by
  unfold Iv.widen
  rw [if_neg (by omega), if_neg (by omega)]
theorem widenOk_is {a b : Iv} {l : List Int} (h1 : a.lo ≤ a.hi) (h2 : b.lo ≤ b.hi) (hl : ¬ (l.length : Int) > 100) : Iv.widenOk l a b = Iv.widen a b l :=
  Iv.widenOk_yes ⟨⟨decide_eq_true h1, decide_eq_true h2⟩, hl⟩
section
variable {d : Decl} {a b : Env} {l : List Int}
/-- What is widened is right. -/
theorem widen_ok (hd : Decl.ok d = true) (ha : Env.okIn d a = true) (hb : Env.okIn d b = true) (hl : ¬ (l.length : Int) > 100) (fb : FitE b) : Env.okIn d (Env.widenIn d a b l) = true := by
  rw [Env.widenIn_yes2 ⟨⟨⟨hd, ha⟩, hb⟩, hl⟩]
  unfold Env.joinW
  split
  · rename_i h1
    split
    · rename_i h2
      obtain ⟨a1, a2, a3⟩ := okIn_ok ha h1
      obtain ⟨b1, b2, b3⟩ := okIn_ok hb h2
      have key : ∀ {x y : List Iv}, (∀ z ∈ x, z.lo ≤ z.hi) → (∀ z ∈ y, z.lo ≤ z.hi) → (∀ z ∈ y, FitI z) → x.length = y.length → ∀ z ∈ zip2 (fun x y => Iv.widenOk l x y) x y, z.lo ≤ z.hi := fun {x y} hx hy hf he => zip2_all fun i hi => by
        have h3 := hx _ (getD_mem hi)
        have h4 := hy _ (getD_mem (he ▸ hi))
        have h5 := hf _ (getD_mem (he ▸ hi))
        rw [widenOk_is h3 h4 hl]
        have := widen_bnd (a := x.getD i default) (l := l) h5
        omega
      exact okIn_mk rfl (by rw [zip2_len]; exact a1.1) (by rw [zip2_len]; exact a1.2) (key a2 b2 fb.1 (a1.1.trans b1.1.symm)) (key a3 b3 fb.2 (a1.2.trans b1.2.symm))
    · exact ha
  · exact hb
theorem widen_above (hd : Decl.ok d = true) (ha : Env.okIn d a = true) (hb : Env.okIn d b = true) (hl : ¬ (l.length : Int) > 100) (fb : FitE b) : Env.leqIn d a (Env.widenIn d a b l) = true ∧ Env.leqIn d b (Env.widenIn d a b l) = true := by
  have hw := widen_ok hd ha hb hl fb
  unfold Env.leqIn
  rw [hd, ha, hb, hw]
  simp only [Bool.and_self, Bool.true_and]
  rw [Env.widenIn_yes2 ⟨⟨⟨hd, ha⟩, hb⟩, hl⟩]
  have same : ∀ {x : List Iv}, (∀ z ∈ x, z.lo ≤ z.hi) → ∀ i, i < x.length → Iv.leq (x.getD i default) (x.getD i default) = true := fun hx i hi => Iv.leq_mk (hx _ (getD_mem hi)) (hx _ (getD_mem hi)) (Int.le_refl _) (Int.le_refl _)
  unfold Env.joinW
  split
  · rename_i h1
    obtain ⟨a1, a2, a3⟩ := okIn_ok ha h1
    split
    · rename_i h2
      obtain ⟨b1, b2, b3⟩ := okIn_ok hb h2
      have key : ∀ {x y : List Iv}, (∀ z ∈ x, z.lo ≤ z.hi) → (∀ z ∈ y, z.lo ≤ z.hi) → (∀ z ∈ y, FitI z) → x.length = y.length → ∀ i, i < x.length → Iv.leq (x.getD i default) ((zip2 (fun x y => Iv.widenOk l x y) x y).getD i default) = true ∧ Iv.leq (y.getD i default) ((zip2 (fun x y => Iv.widenOk l x y) x y).getD i default) = true := fun {x y} hx hy hf he i hi => by
        have h3 := hx _ (getD_mem hi)
        have h4 := hy _ (getD_mem (he ▸ hi))
        have h5 := hf _ (getD_mem (he ▸ hi))
        rw [zip2_get hi, widenOk_is h3 h4 hl]
        have := widen_bnd (a := x.getD i default) (l := l) h5
        exact ⟨Iv.leq_mk h3 (by omega) (by omega) (by omega), Iv.leq_mk h4 (by omega) (by omega) (by omega)⟩
      have e1 := a1.1.trans b1.1.symm
      have e2 := a1.2.trans b1.2.symm
      exact ⟨leq_mk rfl (fun i hi => (key a2 b2 fb.1 e1 i hi).1) fun i hi => (key a3 b3 fb.2 e2 i hi).1, leq_mk rfl (fun i hi => (key a2 b2 fb.1 e1 i (e1 ▸ hi)).2) fun i hi => (key a3 b3 fb.2 e2 i (e2 ▸ hi)).2⟩
    · rename_i h2
      refine ⟨leq_mk h1 (same a2) (same a3), ?_⟩
      unfold Env.leq; rw [if_neg h2]
  · rename_i h1
    refine ⟨by unfold Env.leq; rw [if_neg h1], ?_⟩
    cases h2 : b.live with
    | true =>
      obtain ⟨b1, b2, b3⟩ := okIn_ok hb h2
      exact leq_mk h2 (same b2) (same b3)
    | false => unfold Env.leq; rw [if_neg (by rw [h2]; decide)]
/-- What is above another one stays when it is widened by it. -/
theorem widen_still {w : Env} (hd : Decl.ok d = true) (hw : Env.okIn d w = true) (hb : Env.okIn d b = true) (hl : ¬ (l.length : Int) > 100) (h : Env.leq b w = true) : Env.widenIn d w b l = w := by
  rw [Env.widenIn_yes2 ⟨⟨⟨hd, hw⟩, hb⟩, hl⟩]
  unfold Env.joinW
  unfold Env.leq at h
  cases h1 : w.live with
  | true =>
    cases h2 : b.live with
    | true =>
      obtain ⟨a1, a2, a3⟩ := okIn_ok hw h1
      obtain ⟨b1, b2, b3⟩ := okIn_ok hb h2
      rw [if_pos h2, if_pos h1, Bool.and_eq_true] at h
      have key : ∀ {x y : List Iv}, x.length = y.length → (allTo y.length fun i => Iv.leq (y.getD i default) (x.getD i default)) = true → zip2 (fun x y => Iv.widenOk l x y) x y = x := fun {x y} he h3 => zip2_id fun i hi => by
        have h4 := allTo_iff.1 h3 i (he ▸ hi)
        simp only [Iv.leq, Iv.ok, Bool.and_eq_true, decide_eq_true_eq] at h4
        rw [widenOk_is h4.1.1.2 h4.1.1.1 hl, widen_stay h4.1.2 h4.2]
      rw [if_pos rfl, if_pos rfl, key (a1.1.trans b1.1.symm) h.1, key (a1.2.trans b1.2.symm) h.2]
      cases w; simp_all
    | false => rw [if_pos rfl, if_neg (by decide)]
  | false =>
    rw [if_neg (by decide)]
    cases h2 : b.live with
    | true => rw [if_pos h2, if_neg (by rw [h1]; decide)] at h; exact absurd h (by decide)
    | false => rw [okIn_off hb h2, okIn_off hw h1]
theorem law_EnvWiden (hd : Decl.ok d = true) (ha : Env.okIn d a = true) (hb : Env.okIn d b = true) (hl : ¬ (l.length : Int) > 100) (fb : FitE b) :
    Env.leqIn d a (Env.widenIn d a b l) = true ∧ Env.leqIn d b (Env.widenIn d a b l) = true ∧ Env.same (Env.widenIn d (Env.widenIn d a b l) b l) (Env.widenIn d a b l) = true ∧ Env.same (Env.widenIn d (Env.widenIn d a b l) a []) (Env.widenIn d a b l) = true := by
  obtain ⟨h1, h2⟩ := widen_above hd ha hb hl fb
  have hw := widen_ok hd ha hb hl fb
  refine ⟨h1, h2, ?_, ?_⟩
  · rw [widen_still hd hw hb hl (Bool.and_eq_true_iff.1 h2).2]; exact Env.same_self _
  · rw [widen_still hd hw ha (by simp) (Bool.and_eq_true_iff.1 h1).2]; exact Env.same_self _
end
end Go.Proofs

/- The model: drawn tables. -/
namespace Go.Proofs
open Go Go.Ev
variable [Lay]
variable {b : List Int} {p : Int} {d : Decl}
theorem leaves_bnd (h : d.flags.length ≤ 3) : 1 ≤ leavesOf d ∧ leavesOf d ≤ 8 := by
  unfold leavesOf
  have : d.flags.length = 0 ∨ d.flags.length = 1 ∨ d.flags.length = 2 ∨ d.flags.length = 3 := by omega
  rcases this with h | h | h | h <;> rw [h] <;> decide
def tbP2 (b : List Int) (d : Decl) (p : Int) (i : Nat) : Int := if (i : Int) > 0 then belowP b (envP b p d) 2 else envP b p d
def tbP3 (b : List Int) (d : Decl) (p : Int) (i : Nat) : Int := if (i : Int) > 0 ∧ onceV b (envP b p d) 2 = true then belowP b (tbP2 b d p i) (i : Int) else tbP2 b d p i
def tbE1 (b : List Int) (d : Decl) (p : Int) (out : List Env) (i : Nat) : Env := if (i : Int) > 0 ∧ onceV b (envP b p d) 2 = true then out.getD (belowV b (tbP2 b d p i) (i : Int)).toNat default else envV b p d
def tbE (b : List Int) (d : Decl) (p : Int) (out : List Env) (i : Nat) : Env := if onceV b (tbP3 b d p i) 6 = true then ⟨false, [], []⟩ else tbE1 b d p out i
def tbS (b : List Int) (d : Decl) (p : Int) : Nat → List Env × Int
  | 0 => ([], p)
  | j + 1 => ((tbS b d p j).1 ++ [tbE b d (tbS b d p j).2 (tbS b d p j).1 j], belowP b (tbP3 b d (tbS b d p j).2 j) 6)
def tbV (b : List Int) (p : Int) (d : Decl) : List Env := (tbS b d p (leavesOf d).toNat).1
def tbP (b : List Int) (p : Int) (d : Decl) : Int := (tbS b d p (leavesOf d).toNat).2
theorem Rdr.ok.tb3 (h : Rdr.ok b p) (i : Nat) : Rdr.ok b (tbP3 b d p i) := by
  have h2 : Rdr.ok b (tbP2 b d p i) := by
    unfold tbP2; split
    · exact h.env.below
    · exact h.env
  unfold tbP3; split
  · exact h2.below
  · exact h2
theorem Rdr.ok.tb2 (h : Rdr.ok b p) (i : Nat) : Rdr.ok b (tbP2 b d p i) := by
  unfold tbP2; split
  · exact h.env.below
  · exact h.env
theorem Rdr.ok.tbS (h : Rdr.ok b p) : ∀ j, Rdr.ok b (tbS b d p j).2
  | 0 => h
  | j + 1 => Rdr.ok.below (n := 6) ((Rdr.ok.tbS h j).tb3 (d := d) j)
theorem Rdr.ok.tb (h : Rdr.ok b p) : Rdr.ok b (tbP b p d) := h.tbS _
theorem tbS_len : ∀ j, (tbS b d p j).1.length = j
  | 0 => rfl
  | j + 1 => by simp [tbS, tbS_len j]
/-- What each drawn bound is like. -/
def Sized (d : Decl) (x : Env) : Prop := (x.live = true → x.ints.length = d.vars.length ∧ x.arrs.length = d.arrays.length) ∧ x.ints.length ≤ d.vars.length ∧ x.arrs.length ≤ d.arrays.length ∧ FitE x
theorem env_sized (h : Rdr.ok b p) : Sized d (envV b p d) := ⟨env_live, env_len.1, env_len.2, env_fit h⟩
theorem off_sized : Sized d ⟨false, [], []⟩ := ⟨fun h => absurd h (by decide), Nat.zero_le _, Nat.zero_le _, by simp [FitE]⟩
theorem tb_sized (h : Rdr.ok b p) : ∀ j, ∀ x ∈ (tbS b d p j).1, Sized d x
  | 0, x, hx => by simp [tbS] at hx
  | j + 1, x, hx => by
    simp only [tbS, List.mem_append, List.mem_singleton] at hx
    rcases hx with hx | rfl
    · exact tb_sized h j x hx
    · unfold tbE
      split
      · exact off_sized
      · unfold tbE1
        split
        · rename_i h1
          have h2 := belowV_bnd (n := (j : Int)) ((Rdr.ok.tbS (d := d) h j).tb2 (d := d) j) (by omega)
          exact tb_sized h j _ (getD_mem (by rw [tbS_len]; omega))
        · exact env_sized (Rdr.ok.tbS h j)
section
theorem no_and {A : Prop} {x : Bool} (h : ¬ A ∨ x = false) : ¬ (A ∧ x = true) := fun h9 => h.elim (fun h8 => h8 h9.1) fun h8 => by rw [h8] at h9; exact absurd h9.2 (by decide)
variable {j : Nat}
theorem tbP3_1 (h1 : (j : Int) > 0 ∧ onceV b (envP b p d) 2 = true) : tbP3 b d p j = belowP b (tbP2 b d p j) (j : Int) := by unfold tbP3; exact if_pos h1
theorem tbP3_0 (h1 : ¬ (j : Int) > 0 ∨ onceV b (envP b p d) 2 = false) : tbP3 b d p j = tbP2 b d p j := by unfold tbP3; exact if_neg (no_and h1)
theorem tbE_1 {out : List Env} (h : onceV b (tbP3 b d p j) 6 = true) : tbE b d p out j = ⟨false, [], []⟩ := by unfold tbE; exact if_pos h
theorem tbE_0 {out : List Env} (h : onceV b (tbP3 b d p j) 6 = false) : tbE b d p out j = tbE1 b d p out j := by unfold tbE; exact if_neg (by rw [h]; decide)
theorem tbE1_1 {out : List Env} (h1 : (j : Int) > 0 ∧ onceV b (envP b p d) 2 = true) : tbE1 b d p out j = out.getD (belowV b (tbP2 b d p j) (j : Int)).toNat default := by unfold tbE1; exact if_pos h1
theorem tbE1_0 {out : List Env} (h1 : ¬ (j : Int) > 0 ∨ onceV b (envP b p d) 2 = false) : tbE1 b d p out j = envV b p d := by unfold tbE1; exact if_neg (no_and h1)
theorem tbS_1 {x : Env} (h : tbE b d (tbS b d p j).2 (tbS b d p j).1 j = x) : (tbS b d p j).1 ++ [x] = (tbS b d p (j + 1)).1 := by rw [← h]; rfl
theorem tbS_2 {q : Int} (h : tbP3 b d (tbS b d p j).2 j = q) : belowP b q 6 = (tbS b d p (j + 1)).2 := by rw [← h]; rfl
theorem tb_11 (h1 : (j : Int) > 0 ∧ onceV b (envP b (tbS b d p j).2 d) 2 = true) (h2 : onceV b (belowP b (tbP2 b d (tbS b d p j).2 j) (j : Int)) 6 = true) : (tbS b d p j).1 ++ [⟨false, [], []⟩] = (tbS b d p (j + 1)).1 :=
  tbS_1 (tbE_1 (by rw [tbP3_1 h1]; exact h2))
theorem tb_10 (h1 : (j : Int) > 0 ∧ onceV b (envP b (tbS b d p j).2 d) 2 = true) (h2 : onceV b (belowP b (tbP2 b d (tbS b d p j).2 j) (j : Int)) 6 = false) : (tbS b d p j).1 ++ [(tbS b d p j).1.getD (belowV b (tbP2 b d (tbS b d p j).2 j) (j : Int)).toNat default] = (tbS b d p (j + 1)).1 :=
  tbS_1 ((tbE_0 (by rw [tbP3_1 h1]; exact h2)).trans (tbE1_1 h1))
theorem tb_01 (h1 : ¬ (j : Int) > 0 ∨ onceV b (envP b (tbS b d p j).2 d) 2 = false) (h2 : onceV b (tbP2 b d (tbS b d p j).2 j) 6 = true) : (tbS b d p j).1 ++ [⟨false, [], []⟩] = (tbS b d p (j + 1)).1 :=
  tbS_1 (tbE_1 (by rw [tbP3_0 h1]; exact h2))
theorem tb_00 (h1 : ¬ (j : Int) > 0 ∨ onceV b (envP b (tbS b d p j).2 d) 2 = false) (h2 : onceV b (tbP2 b d (tbS b d p j).2 j) 6 = false) : (tbS b d p j).1 ++ [envV b (tbS b d p j).2 d] = (tbS b d p (j + 1)).1 :=
  tbS_1 ((tbE_0 (by rw [tbP3_0 h1]; exact h2)).trans (tbE1_0 h1))
theorem tb_p1 (h1 : (j : Int) > 0 ∧ onceV b (envP b (tbS b d p j).2 d) 2 = true) : belowP b (belowP b (tbP2 b d (tbS b d p j).2 j) (j : Int)) 6 = (tbS b d p (j + 1)).2 := tbS_2 (tbP3_1 h1)
theorem tb_p0 (h1 : ¬ (j : Int) > 0 ∨ onceV b (envP b (tbS b d p j).2 d) 2 = false) : belowP b (tbP2 b d (tbS b d p j).2 j) 6 = (tbS b d p (j + 1)).2 := tbS_2 (tbP3_0 h1)
end
theorem tb_copy (h : Rdr.ok b p) (hd : d.vars.length ≤ 1048576 ∧ d.arrays.length ≤ 1048576) {j i : Nat} (hi : i < j) : ((tbS b d p j).1.getD i default).ints.length ≤ 1048576 ∧ ((tbS b d p j).1.getD i default).arrs.length ≤ 1048576 := by
  have h1 := tb_sized (d := d) h j _ (getD_mem (a := (tbS b d p j).1) (j := i) (by rw [tbS_len]; exact hi))
  exact ⟨Nat.le_trans h1.2.1 hd.1, Nat.le_trans h1.2.2.1 hd.2⟩
theorem tb_end {j : Nat} (h : (j : Int) ≤ leavesOf d) (h1 : ¬ (j : Int) < leavesOf d) : (tbS b d p j).1 = tbV b p d ∧ (tbS b d p j).2 = tbP b p d := by
  have : j = (leavesOf d).toNat := by omega
  subst this
  exact ⟨rfl, rfl⟩
theorem tbV_len (h : d.flags.length ≤ 3) : ((tbV b p d).length : Int) = leavesOf d := by
  have := leaves_bnd h
  unfold tbV; rw [tbS_len]; omega
theorem tbV_sized (h : Rdr.ok b p) : ∀ x ∈ tbV b p d, Sized d x := tb_sized h _
-- two tables in an order
abbrev dtA (c : List Int) : List Env := tbV c (declP c 0) (declV c 0)
abbrev dtP2 (c : List Int) : Int := tbP c (declP c 0) (declV c 0)
abbrev dtB0 (c : List Int) : List Env := tbV c (dtP2 c) (declV c 0)
abbrev dtP3 (c : List Int) : Int := tbP c (dtP2 c) (declV c 0)
abbrev dtB (c : List Int) : List Env := if onceV c (dtP3 c) 2 = true then zip2 Env.join (dtA c) (dtB0 c) else dtB0 c
def tlA (c : List Int) : List Env := htV c (belowP c (dtP3 c) 2) (dtA c)
def tlB (c : List Int) : List Env := htV c (htP c (belowP c (dtP3 c) 2)) (dtB c)
theorem tlB_1 {c : List Int} (h : onceV c (dtP3 c) 2 = true) : tlB c = htV c (htP c (belowP c (dtP3 c) 2)) (zip2 Env.join (dtA c) (dtB0 c)) := by unfold tlB dtB; rw [if_pos h]
theorem tlB_2 {c : List Int} (h : onceV c (dtP3 c) 2 = false) : tlB c = htV c (htP c (belowP c (dtP3 c) 2)) (dtB0 c) := by unfold tlB dtB; rw [if_neg (by rw [h]; decide)]
section
variable {c : List Int} {q q' u : Int}
theorem tv_x (h : Rdr.ok c q) : ∀ x ∈ tbV c q (declV c u), x.ints.length ≤ 1048576 ∧ x.arrs.length ≤ 1048576 := fun x hx => by
  have h1 := tbV_sized h x hx
  have h2 := decl_len (b := c) (p := u)
  have h3 := h1.2.1
  have h4 := h1.2.2.1
  omega
theorem tv_l : (tbV c q (declV c u)).length = (tbV c q' (declV c u)).length ∧ (tbV c q (declV c u)).length ≤ 1048576 := by
  have h1 := tbV_len (b := c) (p := q) (d := declV c u) decl_len.2.1
  have h2 := tbV_len (b := c) (p := q') (d := declV c u) decl_len.2.1
  have h3 := leaves_bnd (d := declV c u) decl_len.2.1
  omega
theorem tv_f (h : Rdr.ok c q) (h' : Rdr.ok c q') : ∀ i, i < (tbV c q (declV c u)).length → ((tbV c q (declV c u)).getD i default).live = true → ((tbV c q' (declV c u)).getD i default).live = true →
    ((tbV c q (declV c u)).getD i default).ints.length = ((tbV c q' (declV c u)).getD i default).ints.length ∧ ((tbV c q (declV c u)).getD i default).arrs.length = ((tbV c q' (declV c u)).getD i default).arrs.length := fun i hi h1 h2 => by
  have h3 := (tbV_sized h _ (getD_mem hi)).1 h1
  have h4 := (tbV_sized h' _ (getD_mem ((tv_l (q' := q')).1 ▸ hi))).1 h2
  omega
theorem tv_h (h : Rdr.ok c q) : (tbV c q (declV c u)).length ≤ 1048576 ∧ ∀ x ∈ tbV c q (declV c u), x.ints.length ≤ 1048576 := ⟨(tv_l (q' := q)).2, fun x hx => (tv_x h x hx).1⟩
theorem tv_n : 1 ≤ (tbV c q (declV c u)).length := by
  have h1 := tbV_len (b := c) (p := q) (d := declV c u) decl_len.2.1
  have h3 := leaves_bnd (d := declV c u) decl_len.2.1
  omega
theorem join_sized {d : Decl} {a b : Env} (ha : Sized d a) (hb : Sized d b) : Sized d (Env.join a b) := by
  refine ⟨fun hl => ?_, ?_, ?_, join_fit ha.2.2.2 hb.2.2.2 fun h1 h2 => ?_⟩
  · unfold Env.join at hl ⊢
    split
    · rename_i h1
      split
      · simp only [zip2_len]; exact ha.1 h1
      · exact ha.1 h1
    · rename_i h1
      rw [if_neg h1] at hl
      exact hb.1 hl
  · have := join_len' (a := a) (b := b); have := ha.2.1; have := hb.2.1; omega
  · have := join_len' (a := a) (b := b); have := ha.2.2.1; have := hb.2.2.1; omega
  · have h3 := ha.1 h1
    have h4 := hb.1 h2
    omega
theorem tj_sized (h : Rdr.ok c q) (h' : Rdr.ok c q') : ∀ x ∈ zip2 Env.join (tbV c q (declV c u)) (tbV c q' (declV c u)), Sized (declV c u) x := fun x hx => by
  obtain ⟨i, hi, rfl⟩ := zip2_mem hx
  exact join_sized (tbV_sized h _ (getD_mem hi)) (tbV_sized h' _ (getD_mem ((tv_l (q' := q')).1 ▸ hi)))
theorem tj_h (h : Rdr.ok c q) (h' : Rdr.ok c q') : (zip2 Env.join (tbV c q (declV c u)) (tbV c q' (declV c u))).length ≤ 1048576 ∧ ∀ x ∈ zip2 Env.join (tbV c q (declV c u)) (tbV c q' (declV c u)), x.ints.length ≤ 1048576 := by
  refine ⟨by rw [zip2_len]; exact (tv_l (q' := q)).2, fun x hx => ?_⟩
  have h1 := (tj_sized h h' x hx).2.1
  have h2 := decl_len (b := c) (p := u)
  omega
theorem tj_n : 1 ≤ (zip2 Env.join (tbV c q (declV c u)) (tbV c q' (declV c u))).length := by rw [zip2_len]; exact tv_n
theorem d_hd : (declV c u).vars.length ≤ 1048576 ∧ (declV c u).arrays.length ≤ 1048576 := by have := decl_len (b := c) (p := u); omega
/-- Bounds that may be a little too long. -/
def Sized1 (x : Env) : Prop := x.ints.length ≤ 6 ∧ x.arrs.length ≤ 1 ∧ FitE x
theorem ht_sized {p : Int} {t : List Env} (h : ∀ x ∈ t, Sized (declV c u) x) (hn : 1 ≤ t.length) : ∀ x ∈ htV c p t, Sized1 x := by
  have h0 : ∀ x, Sized (declV c u) x → Sized1 x := fun x hx => by
    have h2 := decl_len (b := c) (p := u)
    have h3 := hx.2.1
    have h4 := hx.2.2.1
    exact ⟨by omega, by omega, hx.2.2.2⟩
  intro x hx
  unfold htV at hx
  split at hx
  · exact h0 _ (h x (List.mem_of_mem_drop hx))
  · split at hx
    · rcases List.mem_or_eq_of_mem_set hx with hx | rfl
      · exact h0 _ (h x hx)
      · have h1 := h _ (getD_mem (a := t) (j := 0) (by omega))
        have h2 := hurt_len (b := c) (p := belowP c p 24) (e := t.getD 0 default)
        have h3 := decl_len (b := c) (p := u)
        have h4 := h1.2.1
        have h5 := h1.2.2.1
        exact ⟨by omega, by omega, hurt_fit h1.2.2.2⟩
    · split at hx
      · simp only [List.mem_append, List.mem_singleton] at hx
        rcases hx with hx | rfl
        · exact h0 _ (h x hx)
        · exact ⟨by simp, by simp, by simp [FitE]⟩
      · exact h0 _ (h x hx)
theorem tl_sized (h : Rdr.ok c 0) : (∀ x ∈ tlA c, Sized1 x) ∧ ∀ x ∈ tlB c, Sized1 x := by
  have h1 : Rdr.ok c (declP c 0) := h.declP
  have h2 : Rdr.ok c (dtP2 c) := h1.tb
  refine ⟨ht_sized (tbV_sized h1) tv_n, ?_⟩
  unfold tlB dtB
  split
  · exact ht_sized (tj_sized h1 h2) tj_n
  · exact ht_sized (tbV_sized h2) tv_n
theorem tl_len : (tlA c).length ≤ 9 ∧ (tlB c).length ≤ 9 := by
  have h3 := leaves_bnd (d := declV c 0) decl_len.2.1
  have h1 : ((dtA c).length : Int) = leavesOf (declV c 0) := tbV_len (b := c) (p := declP c 0) (d := declV c 0) decl_len.2.1
  have h2 : ((dtB0 c).length : Int) = leavesOf (declV c 0) := tbV_len (b := c) (p := dtP2 c) (d := declV c 0) decl_len.2.1
  unfold tlA tlB
  refine ⟨Nat.le_trans ht_len (by omega), Nat.le_trans ht_len ?_⟩
  unfold dtB
  split
  · rw [zip2_len]; omega
  · omega
end
end Go.Proofs

/- The plain laws of tables. -/
namespace Go.Proofs
open Go Go.Ev
variable [Lay]
section
variable {d : Decl} {a b : Env} {l : List Int}
theorem joinOk_is {x y : Iv} (h1 : x.lo ≤ x.hi) (h2 : y.lo ≤ y.hi) : Iv.joinOk x y = Iv.join x y := Iv.joinOk_yes ⟨decide_eq_true h1, decide_eq_true h2⟩
/-- What both environments' joins and widenings have in common. -/
theorem joinW_ok {f : Iv → Iv → Iv} (hf : ∀ x y, x.lo ≤ x.hi → y.lo ≤ y.hi → FitI y → (f x y).lo ≤ (f x y).hi) (ha : Env.okIn d a = true) (hb : Env.okIn d b = true) (fb : FitE b) : Env.okIn d (Env.joinW f a b) = true := by
  unfold Env.joinW
  split
  · rename_i h1
    split
    · rename_i h2
      obtain ⟨a1, a2, a3⟩ := okIn_ok ha h1
      obtain ⟨b1, b2, b3⟩ := okIn_ok hb h2
      have key : ∀ {x y : List Iv}, (∀ z ∈ x, z.lo ≤ z.hi) → (∀ z ∈ y, z.lo ≤ z.hi) → (∀ z ∈ y, FitI z) → x.length = y.length → ∀ z ∈ zip2 f x y, z.lo ≤ z.hi := fun {x y} hx hy hy2 he => zip2_all fun i hi =>
        hf _ _ (hx _ (getD_mem hi)) (hy _ (getD_mem (he ▸ hi))) (hy2 _ (getD_mem (he ▸ hi)))
      exact okIn_mk rfl (by rw [zip2_len]; exact a1.1) (by rw [zip2_len]; exact a1.2) (key a2 b2 fb.1 (a1.1.trans b1.1.symm)) (key a3 b3 fb.2 (a1.2.trans b1.2.symm))
    · exact ha
  · exact hb
theorem leq_refl (ha : Env.okIn d a = true) : Env.leq a a = true := by
  cases h1 : a.live with
  | false => unfold Env.leq; rw [if_neg (by rw [h1]; decide)]
  | true =>
    obtain ⟨a1, a2, a3⟩ := okIn_ok ha h1
    have same : ∀ {x : List Iv}, (∀ z ∈ x, z.lo ≤ z.hi) → ∀ i, i < x.length → Iv.leq (x.getD i default) (x.getD i default) = true := fun hx i hi => Iv.leq_mk (hx _ (getD_mem hi)) (hx _ (getD_mem hi)) (Int.le_refl _) (Int.le_refl _)
    exact leq_mk h1 (same a2) (same a3)
theorem leq_off (h : a.live = false) : Env.leq a b = true := by unfold Env.leq; rw [if_neg (by rw [h]; decide)]
/-- One way of joining below another one. -/
theorem joinW_leq {f g : Iv → Iv → Iv} (hf : ∀ x y, x.lo ≤ x.hi → y.lo ≤ y.hi → FitI y → Iv.leq (f x y) (g x y) = true) (ha : Env.okIn d a = true) (hb : Env.okIn d b = true) (fb : FitE b) : Env.leq (Env.joinW f a b) (Env.joinW g a b) = true := by
  unfold Env.joinW
  split
  · rename_i h1
    split
    · rename_i h2
      obtain ⟨a1, a2, a3⟩ := okIn_ok ha h1
      obtain ⟨b1, b2, b3⟩ := okIn_ok hb h2
      have key : ∀ {x y : List Iv}, (∀ z ∈ x, z.lo ≤ z.hi) → (∀ z ∈ y, z.lo ≤ z.hi) → (∀ z ∈ y, FitI z) → x.length = y.length → ∀ i, i < (zip2 f x y).length → Iv.leq ((zip2 f x y).getD i default) ((zip2 g x y).getD i default) = true := fun {x y} hx hy hy2 he i hi => by
        rw [zip2_len] at hi
        rw [zip2_get hi, zip2_get hi]
        exact hf _ _ (hx _ (getD_mem hi)) (hy _ (getD_mem (he ▸ hi))) (hy2 _ (getD_mem (he ▸ hi)))
      exact leq_mk rfl (key a2 b2 fb.1 (a1.1.trans b1.1.symm)) (key a3 b3 fb.2 (a1.2.trans b1.2.symm))
    · exact leq_refl ha
  · exact leq_refl hb
theorem leq_joinW {g : Iv → Iv → Iv} (hf : ∀ x y, x.lo ≤ x.hi → y.lo ≤ y.hi → FitI y → Iv.leq x (g x y) = true ∧ Iv.leq y (g x y) = true) (ha : Env.okIn d a = true) (hb : Env.okIn d b = true) (fb : FitE b) : Env.leq a (Env.joinW g a b) = true ∧ Env.leq b (Env.joinW g a b) = true := by
  unfold Env.joinW
  split
  · rename_i h1
    split
    · rename_i h2
      obtain ⟨a1, a2, a3⟩ := okIn_ok ha h1
      obtain ⟨b1, b2, b3⟩ := okIn_ok hb h2
      have key : ∀ {x y : List Iv}, (∀ z ∈ x, z.lo ≤ z.hi) → (∀ z ∈ y, z.lo ≤ z.hi) → (∀ z ∈ y, FitI z) → x.length = y.length → ∀ i, i < x.length → Iv.leq (x.getD i default) ((zip2 g x y).getD i default) = true ∧ Iv.leq (y.getD i default) ((zip2 g x y).getD i default) = true := fun {x y} hx hy hy2 he i hi => by
        rw [zip2_get hi]
        exact hf _ _ (hx _ (getD_mem hi)) (hy _ (getD_mem (he ▸ hi))) (hy2 _ (getD_mem (he ▸ hi)))
      have e1 := a1.1.trans b1.1.symm
      have e2 := a1.2.trans b1.2.symm
      exact ⟨leq_mk rfl (fun i hi => (key a2 b2 fb.1 e1 i hi).1) fun i hi => (key a3 b3 fb.2 e2 i hi).1, leq_mk rfl (fun i hi => (key a2 b2 fb.1 e1 i (e1 ▸ hi)).2) fun i hi => (key a3 b3 fb.2 e2 i (e2 ▸ hi)).2⟩
    · rename_i h2
      exact ⟨leq_refl ha, leq_off (by simpa using h2)⟩
  · rename_i h1
    exact ⟨leq_off (by simpa using h1), leq_refl hb⟩
theorem ivjoin_ok (x y : Iv) (h1 : x.lo ≤ x.hi) (h2 : y.lo ≤ y.hi) : (Iv.joinOk x y).lo ≤ (Iv.joinOk x y).hi := by rw [joinOk_is h1 h2]; unfold Iv.join; simp only; omega
theorem ivwiden_ok (hl : ¬ (l.length : Int) > 100) (x y : Iv) (h1 : x.lo ≤ x.hi) (h2 : y.lo ≤ y.hi) (fy : FitI y) : (Iv.widenOk l x y).lo ≤ (Iv.widenOk l x y).hi := by
  rw [widenOk_is h1 h2 hl]; have := widen_bnd (a := x) (l := l) fy; omega
theorem ivjoin_above (x y : Iv) (h1 : x.lo ≤ x.hi) (h2 : y.lo ≤ y.hi) : Iv.leq x (Iv.joinOk x y) = true ∧ Iv.leq y (Iv.joinOk x y) = true := by
  rw [joinOk_is h1 h2]; unfold Iv.join
  exact ⟨Iv.leq_mk h1 (by simp only; omega) (by simp only; omega) (by simp only; omega), Iv.leq_mk h2 (by simp only; omega) (by simp only; omega) (by simp only; omega)⟩
theorem ivjoin_widen (hl : ¬ (l.length : Int) > 100) (x y : Iv) (h1 : x.lo ≤ x.hi) (h2 : y.lo ≤ y.hi) (fy : FitI y) : Iv.leq (Iv.joinOk x y) (Iv.widenOk l x y) = true := by
  rw [joinOk_is h1 h2, widenOk_is h1 h2 hl]
  have := widen_bnd (a := x) (l := l) fy
  unfold Iv.join
  exact Iv.leq_mk (by simp only; omega) (by omega) (by simp only; omega) (by simp only; omega)
theorem ivleq_same {x y : Iv} (h1 : x.lo ≤ x.hi) (h2 : y.lo ≤ y.hi) : Iv.leq x y = Iv.same (Iv.joinOk x y) y := by
  rw [joinOk_is h1 h2, Bool.eq_iff_iff]
  simp only [Iv.leq, Iv.ok, Iv.same, Iv.join, Bool.and_eq_true, decide_eq_true_eq, beq_iff_eq]
  omega
theorem leq_same (ha : Env.okIn d a = true) (hb : Env.okIn d b = true) : Env.leq a b = Env.same (Env.joinW Iv.joinOk a b) b := by
  cases h1 : a.live with
  | false =>
    rw [leq_off h1]
    unfold Env.joinW
    rw [if_neg (by rw [h1]; decide)]
    exact (Env.same_self b).symm
  | true =>
    obtain ⟨a1, a2, a3⟩ := okIn_ok ha h1
    cases h2 : b.live with
    | false =>
      unfold Env.leq Env.joinW
      rw [if_pos h1, if_neg (by rw [h2]; decide), if_pos h1, if_neg (by rw [h2]; decide)]
      simp [Env.same, h1, h2]
    | true =>
      obtain ⟨b1, b2, b3⟩ := okIn_ok hb h2
      unfold Env.leq
      rw [if_pos h1, if_pos h2, Env.joinW_live ⟨h1, h2⟩]
      have key : ∀ {x y : List Iv}, (∀ z ∈ x, z.lo ≤ z.hi) → (∀ z ∈ y, z.lo ≤ z.hi) → x.length = y.length → (allTo x.length fun i => Iv.leq (x.getD i default) (y.getD i default)) = all2 Iv.same (zip2 Iv.joinOk x y) y := fun {x y} hx hy he => by
        unfold all2
        rw [zip2_len, he]
        simp only [beq_self_eq_true, Bool.true_and]
        refine allTo_congr fun i hi => ?_
        rw [zip2_get (he ▸ hi)]
        exact ivleq_same (hx _ (getD_mem (he ▸ hi))) (hy _ (getD_mem hi))
      simp only [Env.same, h2, beq_self_eq_true, Bool.true_and]
      rw [key a2 b2 (a1.1.trans b1.1.symm), key a3 b3 (a1.2.trans b1.2.symm)]
end
-- tables
section
variable {d : Decl} {a b : List Env} {l : List Int}
theorem isIn_mk {t : List Env} (h1 : (t.length : Int) = leavesOf d) (h2 : ∀ x ∈ t, Env.okIn d x = true) : Table.isIn d t = true := by
  simp only [Table.isIn, Bool.and_eq_true, beq_iff_eq, List.all_eq_true]
  exact ⟨h1, h2⟩
theorem isIn_zip {f : Env → Env → Env} (ha : Table.isIn d a = true) (hb : Table.isIn d b = true) (h : ∀ i, i < a.length → Env.okIn d (f (a.getD i default) (b.getD i default)) = true) : Table.isIn d (zip2 f a b) = true :=
  isIn_mk (by rw [zip2_len]; exact (Table.isIn_get ha).1) (zip2_all h)
theorem law_TableOrder (ha : Table.ok d a = true) (hb : Table.ok d b = true) (hl : ¬ (l.length : Int) > 100) (fb : ∀ x ∈ b, FitE x) :
    Table.leq d a (Table.joinIn d a b) = true ∧ Table.leq d b (Table.joinIn d a b) = true ∧ Table.leq d (Table.joinIn d a b) (Table.widenIn d a b l) = true ∧
    Table.leq d a b = all2 Env.same (Table.joinIn d a b) b ∧ Table.widenIn d (Table.widenIn d a b l) (Table.joinIn d a b) l = Table.widenIn d a b l := by
  have hd := Table.ok_decl ha
  have ia := Table.ok_in ha
  have ib := Table.ok_in hb
  have he := (Table.fit ia ib).1
  have oa := (Table.isIn_get ia).2
  have ob : ∀ i, i < a.length → Env.okIn d (b.getD i default) = true := fun i hi => (Table.isIn_get ib).2 i (he ▸ hi)
  have ff : ∀ i, i < a.length → FitE (b.getD i default) := fun i hi => fb _ (getD_mem (he ▸ hi))
  rw [Table.joinIn_yes2 ⟨ha, ib⟩, Table.widenIn_yes2 ⟨⟨ha, ib⟩, hl⟩]
  have oj : ∀ i, i < a.length → Env.okIn d (Env.joinW Iv.joinOk (a.getD i default) (b.getD i default)) = true := fun i hi => joinW_ok (fun x y h1 h2 _ => ivjoin_ok x y h1 h2) (oa i hi) (ob i hi) (ff i hi)
  have ow : ∀ i, i < a.length → Env.okIn d (Env.joinW (fun x y => Iv.widenOk l x y) (a.getD i default) (b.getD i default)) = true := fun i hi => joinW_ok (ivwiden_ok hl) (oa i hi) (ob i hi) (ff i hi)
  have ij : Table.isIn d (zip2 (Env.joinW Iv.joinOk) a b) = true := isIn_zip ia ib oj
  have iw : Table.isIn d (zip2 (Env.joinW fun x y => Iv.widenOk l x y) a b) = true := isIn_zip ia ib ow
  have okj : Table.ok d (zip2 (Env.joinW Iv.joinOk) a b) = true := by unfold Table.ok; rw [hd, ij]; rfl
  have okw : Table.ok d (zip2 (Env.joinW fun x y => Iv.widenOk l x y) a b) = true := by unfold Table.ok; rw [hd, iw]; rfl
  have jw : ∀ i, i < a.length → Env.leq (Env.joinW Iv.joinOk (a.getD i default) (b.getD i default)) (Env.joinW (fun x y => Iv.widenOk l x y) (a.getD i default) (b.getD i default)) = true := fun i hi => joinW_leq (ivjoin_widen hl) (oa i hi) (ob i hi) (ff i hi)
  refine ⟨?_, ?_, ?_, ?_, ?_⟩
  · unfold Table.leq tabLeq
    rw [ha, ij]
    simp only [Bool.and_self, Bool.true_and]
    refine allTo_iff.2 fun i hi => ?_
    rw [zip2_get hi]
    exact (leq_joinW (fun x y h1 h2 _ => ivjoin_above x y h1 h2) (oa i hi) (ob i hi) (ff i hi)).1
  · unfold Table.leq tabLeq
    rw [hb, ij]
    simp only [Bool.and_self, Bool.true_and]
    refine allTo_iff.2 fun i hi => ?_
    rw [← he] at hi
    rw [zip2_get hi]
    exact (leq_joinW (fun x y h1 h2 _ => ivjoin_above x y h1 h2) (oa i hi) (ob i hi) (ff i hi)).2
  · unfold Table.leq tabLeq
    rw [okj, iw]
    simp only [Bool.and_self, Bool.true_and]
    refine allTo_iff.2 fun i hi => ?_
    rw [zip2_len] at hi
    rw [zip2_get hi, zip2_get hi]
    exact jw i hi
  · unfold Table.leq tabLeq all2
    rw [ha, ib, zip2_len, he]
    simp only [Bool.and_self, Bool.true_and, beq_self_eq_true]
    refine allTo_congr fun i hi => ?_
    rw [← he] at hi
    rw [zip2_get hi]
    exact leq_same (oa i hi) (ob i hi)
  · rw [Table.widenIn_yes2 ⟨⟨okw, ij⟩, hl⟩]
    refine list_ext (zip2_len _ _ _) fun i hi => ?_
    rw [zip2_len, zip2_len] at hi
    rw [zip2_get (by rw [zip2_len]; exact hi), zip2_get hi, zip2_get hi]
    have h9 := widen_still (l := l) hd (ow i hi) (oj i hi) hl (jw i hi)
    rwa [Env.widenIn_yes2 ⟨⟨⟨hd, ow i hi⟩, oj i hi⟩, hl⟩] at h9
end
end Go.Proofs

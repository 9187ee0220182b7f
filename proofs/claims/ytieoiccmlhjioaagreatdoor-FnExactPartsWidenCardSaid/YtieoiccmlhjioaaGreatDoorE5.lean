/- A symbolic executor over data by value, proved sound over any program: no conditions. -/
import Derived.Test.YtieoiccmlhjioaaGreatDoorE4
set_option linter.all false
set_option linter.unnecessarySimpa false
set_option linter.unusedSectionVars false
set_option linter.unusedSimpArgs false
set_option linter.unusedVariables false
namespace Go.Proofs
open Go Go.Ev
variable [Lay]
def insP (F : List Env → List Env → List Env) (l : List Part) (p : Part) : List Part :=
  if partB l p.token = true then l.set (partI l p.token) ⟨(l.getD (partI l p.token) default).token, F (l.getD (partI l p.token) default).table p.table⟩
  else l.take (partI l p.token) ++ [p] ++ l.drop (partI l p.token)
def uniI (F : List Env → List Env → List Env) (l m : List Part) : Nat → List Part
  | 0 => l
  | j + 1 => insP F (uniI F l m j) (m.getD j default)
def uniS (F : List Env → List Env → List Env) (l m : List Part) : Nat → List Part
  | 0 => l
  | j + 1 => putV F (uniS F l m j) (m.getD j default)
theorem insP_T {F : List Env → List Env → List Env} {l : List Part} {p : Part} (h : partB l p.token = true) : insP F l p = l.set (partI l p.token) ⟨(l.getD (partI l p.token) default).token, F (l.getD (partI l p.token) default).table p.table⟩ := by unfold insP; rw [if_pos h]
theorem insP_F {F : List Env → List Env → List Env} {l : List Part} {p : Part} (h : partB l p.token = false) : insP F l p = l.take (partI l p.token) ++ [p] ++ l.drop (partI l p.token) := by unfold insP; rw [if_neg (by rw [h]; decide)]
structure RiseP (l : List Part) : Prop where
  tok : ∀ i, i < l.length → tokOk (l.getD i default).token = true
  up : ∀ i k, i < k → k < l.length → tokKey (l.getD i default).token < tokKey (l.getD k default).token
theorem RiseP.of {d : Decl} {l : List Part} (h : Parts.isIn d l = true) : RiseP l := by
  obtain ⟨h1, _, h3⟩ := Parts.get h
  have hk := fun i hi => Part.ok_tok (h3 i hi)
  refine ⟨hk, fun i k hik hkl => ?_⟩
  have := keys_rise h1 hk (k - i - 1) i (by omega)
  rwa [show i + (k - i - 1) + 1 = k by omega] at this
section
variable {F : List Env → List Env → List Env} {l : List Part} {p : Part}
theorem part_cut (h : RiseP l) (ht : tokOk p.token = true) : partI l p.token ≤ l.length ∧ (∀ q, q < partI l p.token → q < l.length → tokKey (l.getD q default).token < tokKey p.token) ∧ ∀ q, partI l p.token ≤ q → q < l.length → tokKey p.token ≤ tokKey (l.getD q default).token := by
  have key : ∀ q, q < l.length → (tokCmp (l.getD q default).token p.token < 0 ↔ tokKey (l.getD q default).token < tokKey p.token) := fun q hq => by rw [tokCmp_key (h.tok q hq) ht, cmpI_neg]
  have hcut := bsAt_cut (f := fun q => tokCmp (l.getD q default).token p.token) (n := l.length) (fun x y hxy hy hf => by
    rw [key x (by omega)]
    have := (key y hy).1 hf
    have := h.up x y hxy hy
    omega)
  have hle : partI l p.token ≤ l.length := by
    unfold partI
    rcases Nat.lt_or_ge l.length (bsAt (fun q => tokCmp (l.getD q default).token p.token) l.length) with h9 | h9
    · have h8 : ∀ {f : Nat → Int} {n m i j : Nat}, i ≤ j → j ≤ n → bsGo f m i j ≤ n := by
        intro f n m
        induction m with
        | zero => intro i j h1 h2; show i ≤ n; omega
        | succ m ih =>
          intro i j h1 h2
          unfold bsGo
          split
          · rename_i h3
            have := mid_bnd h3
            split
            · exact ih (by omega) h2
            · exact ih (by omega) (by omega)
          · omega
      have := h8 (f := fun q => tokCmp (l.getD q default).token p.token) (n := l.length) (m := l.length) (Nat.zero_le l.length) (Nat.le_refl _)
      unfold bsAt at h9; omega
    · exact h9
  refine ⟨hle, fun q hq hql => (key q hql).1 (hcut.1 q hq), fun q hq hql => ?_⟩
  have := hcut.2 q hq hql
  rw [key q hql] at this
  omega
theorem partB_key (h : RiseP l) (ht : tokOk p.token = true) : partB l p.token = true ↔ partI l p.token < l.length ∧ tokKey (l.getD (partI l p.token) default).token = tokKey p.token := by
  unfold partB
  rw [Bool.and_eq_true, decide_eq_true_eq, beq_iff_eq]
  constructor
  · rintro ⟨h1, h2⟩
    rw [tokCmp_key (h.tok _ (by omega)) ht, cmpI_zero] at h2
    exact ⟨by omega, h2⟩
  · rintro ⟨h1, h2⟩
    refine ⟨by omega, ?_⟩
    rw [tokCmp_key (h.tok _ h1) ht, cmpI_zero]; exact h2
theorem take_succ9 {α : Type} [Inhabited α] {l : List α} {j : Nat} (h : j < l.length) : l.take (j + 1) = l.take j ++ [l.getD j default] := by
  rw [List.take_add_one, List.getElem?_eq_getElem h, List.getD_eq_getElem?_getD, List.getElem?_eq_getElem h]; rfl
theorem ins_put (h : RiseP l) (ht : tokOk p.token = true) : putV F l p = insP F l p := by
  obtain ⟨c1, c2, c3⟩ := part_cut h ht
  have k1 : ∀ q, q < l.length → (tokCmp (l.getD q default).token p.token > 0 ↔ tokKey p.token < tokKey (l.getD q default).token) := fun q hq => by
    rw [tokCmp_key (h.tok q hq) ht]; unfold cmpI; split
    · omega
    · split <;> omega
  have k0 : ∀ q, q < l.length → (tokCmp (l.getD q default).token p.token = 0 ↔ tokKey (l.getD q default).token = tokKey p.token) := fun q hq => by rw [tokCmp_key (h.tok q hq) ht, cmpI_zero]
  have low : ∀ j, j ≤ partI l p.token → putS F l p j = (l.take j, false) := by
    intro j
    induction j with
    | zero => intro _; rfl
    | succ j ih =>
      intro hj
      have h1 := c2 j (by omega) (by omega)
      rw [putS_c (fun h9 => by have := (k1 j (by omega)).1 h9.1; omega) (fun h9 => by have := (k0 j (by omega)).1 h9; omega), ih (by omega), ← take_succ9 (by omega)]
  by_cases hb : partB l p.token = true
  · rw [insP_T hb]
    obtain ⟨b1, b2⟩ := (partB_key h ht).1 hb
    have hi : putS F l p (partI l p.token + 1) = (l.take (partI l p.token) ++ [⟨(l.getD (partI l p.token) default).token, F (l.getD (partI l p.token) default).table p.table⟩], true) := by
      rw [putS_b (fun h9 => by have := (k1 _ b1).1 h9.1; omega) ((k0 _ b1).2 b2), low _ (Nat.le_refl _)]
    have high : ∀ n, partI l p.token + 1 + n ≤ l.length → putS F l p (partI l p.token + 1 + n) = ((l.set (partI l p.token) ⟨(l.getD (partI l p.token) default).token, F (l.getD (partI l p.token) default).table p.table⟩).take (partI l p.token + 1 + n), true) := by
      intro n
      induction n with
      | zero =>
        intro _
        rw [Nat.add_zero, hi, take_succ9 (by rw [List.length_set]; exact b1), List.take_set_of_le (Nat.le_refl _), set_getD b1]
      | succ n ih =>
        intro hn
        have h1 := h.up (partI l p.token) (partI l p.token + 1 + n) (by omega) (by omega)
        rw [show partI l p.token + 1 + (n + 1) = (partI l p.token + 1 + n) + 1 from rfl, putS_c (fun h9 => by rw [ih (by omega)] at h9; cases h9.2) (fun h9 => by have := (k0 _ (by omega)).1 h9; omega), ih (by omega), take_succ9 (l := l.set _ _) (by rw [List.length_set]; omega)]
        have e : (l.set (partI l p.token) (⟨(l.getD (partI l p.token) default).token, F (l.getD (partI l p.token) default).table p.table⟩ : Part)).getD (partI l p.token + 1 + n) default = l.getD (partI l p.token + 1 + n) default := by
          rw [List.getD_eq_getElem?_getD, List.getElem?_set_ne (by omega), List.getD_eq_getElem?_getD]
        rw [e]
    have hf := high (l.length - (partI l p.token + 1)) (by omega)
    rw [show partI l p.token + 1 + (l.length - (partI l p.token + 1)) = l.length by omega] at hf
    rw [putV_1 (by rw [hf]), hf]
    exact List.take_of_length_le (by rw [List.length_set]; exact Nat.le_refl _)
  · have hb' : partB l p.token = false := by simpa using hb
    rw [insP_F hb']
    have hne : ∀ q, partI l p.token ≤ q → q < l.length → tokKey p.token < tokKey (l.getD q default).token := fun q hq hql => by
      have h1 := c3 q hq hql
      have h2 := c3 (partI l p.token) (Nat.le_refl _) (by omega)
      have h3 : ¬ tokKey (l.getD (partI l p.token) default).token = tokKey p.token := fun h9 => hb ((partB_key h ht).2 ⟨by omega, h9⟩)
      by_cases e : q = partI l p.token
      · rw [e] at h1 ⊢; omega
      · have := h.up (partI l p.token) q (by omega) hql; omega
    by_cases hl : partI l p.token = l.length
    · have hf := low l.length (by omega)
      rw [putV_0 (by rw [hf]), hf, hl]
      simp
    · have hi : putS F l p (partI l p.token + 1) = ((l.take (partI l p.token) ++ [p]) ++ [l.getD (partI l p.token) default], true) := by
        rw [putS_a ⟨(k1 _ (by omega)).2 (hne _ (Nat.le_refl _) (by omega)), by rw [low _ (Nat.le_refl _)]⟩, low _ (Nat.le_refl _)]
      have high : ∀ n, partI l p.token + 1 + n ≤ l.length → putS F l p (partI l p.token + 1 + n) = ((l.take (partI l p.token) ++ [p]) ++ (l.drop (partI l p.token)).take (1 + n), true) := by
        intro n
        induction n with
        | zero =>
          intro _
          rw [Nat.add_zero, hi, List.drop_eq_getElem_cons (by omega), List.getD_eq_getElem?_getD, List.getElem?_eq_getElem (by omega)]; rfl
        | succ n ih =>
          intro hn
          have h1 := hne (partI l p.token + 1 + n) (by omega) (by omega)
          rw [show partI l p.token + 1 + (n + 1) = (partI l p.token + 1 + n) + 1 from rfl, putS_c (fun h9 => by rw [ih (by omega)] at h9; cases h9.2) (fun h9 => by have := (k0 _ (by omega)).1 h9; omega), ih (by omega),
            show 1 + (n + 1) = (1 + n) + 1 from rfl, take_succ9 (l := l.drop _) (by rw [List.length_drop]; omega)]
          have e : (l.drop (partI l p.token)).getD (1 + n) default = l.getD (partI l p.token + 1 + n) default := by
            rw [List.getD_eq_getElem?_getD, List.getElem?_drop, List.getD_eq_getElem?_getD, ← Nat.add_assoc]
          rw [e]; simp
      have hf := high (l.length - (partI l p.token + 1)) (by omega)
      rw [show partI l p.token + 1 + (l.length - (partI l p.token + 1)) = l.length by omega] at hf
      rw [putV_1 (by rw [hf]), hf]
      exact congrArg (fun z => (l.take (partI l p.token) ++ [p]) ++ z) (List.take_of_length_le (by rw [List.length_drop]; omega))
end
structure Uni (Q : List Env → Prop) (l : List Part) : Prop where
  rise : RiseP l
  q : ∀ i, i < l.length → Q (l.getD i default).table
section
variable {Q : List Env → Prop} {F G : List Env → List Env → List Env} {l m : List Part} {p : Part}
theorem insP_len : (insP F l p).length ≤ l.length + 1 := by
  unfold insP
  split
  · rw [List.length_set]; omega
  · simp only [List.length_append, List.length_take, List.length_drop, List.length_singleton]; omega
theorem set_get9 {i k : Nat} {x : Part} (hi : i < l.length) : (l.set i x).getD k default = if i = k then x else l.getD k default := by
  rw [List.getD_eq_getElem?_getD, List.getElem?_set, List.getD_eq_getElem?_getD]
  split
  · rename_i h; subst h; simp [hi]
  · rfl
theorem ins_get9 {i k : Nat} (hi : i ≤ l.length) : (l.take i ++ [p] ++ l.drop i).getD k default = if k < i then l.getD k default else if k = i then p else l.getD (k - 1) default := by
  have ht : (l.take i).length = i := by rw [List.length_take]; omega
  rw [List.getD_eq_getElem?_getD, List.append_assoc]
  by_cases h1 : k < i
  · rw [if_pos h1, List.getElem?_append_left (by omega), List.getElem?_take, if_pos h1, List.getD_eq_getElem?_getD]
  · rw [if_neg h1, List.getElem?_append_right (by omega), ht]
    by_cases h2 : k = i
    · rw [if_pos h2, h2, Nat.sub_self]; rfl
    · rw [if_neg h2, List.getElem?_append_right (by simp; omega), List.getElem?_drop, List.getD_eq_getElem?_getD]
      congr 2
      simp only [List.length_singleton]; omega
theorem Uni.ins (h : Uni Q l) (ht : tokOk p.token = true) (hp : Q p.table) (hF : ∀ a b, Q a → Q b → Q (F a b)) : Uni Q (insP F l p) := by
  obtain ⟨c1, c2, c3⟩ := part_cut h.rise ht
  by_cases hb : partB l p.token = true
  · obtain ⟨b1, b2⟩ := (partB_key h.rise ht).1 hb
    rw [insP_T hb]
    have hg : ∀ k, ((l.set (partI l p.token) (⟨(l.getD (partI l p.token) default).token, F (l.getD (partI l p.token) default).table p.table⟩ : Part)).getD k default).token = (l.getD k default).token := fun k => by
      rw [set_get9 b1]
      split
      · rename_i e; rw [← e]
      · rfl
    refine ⟨⟨fun i hi => ?_, fun i k hik hk => ?_⟩, fun i hi => ?_⟩
    · rw [List.length_set] at hi; rw [hg]; exact h.rise.tok i hi
    · rw [List.length_set] at hk; rw [hg, hg]; exact h.rise.up i k hik hk
    · rw [List.length_set] at hi
      rw [set_get9 b1]
      split
      · exact hF _ _ (h.q _ b1) hp
      · exact h.q i hi
  · have hb' : partB l p.token = false := by simpa using hb
    rw [insP_F hb']
    have hlen : (l.take (partI l p.token) ++ [p] ++ l.drop (partI l p.token)).length = l.length + 1 := by
      simp only [List.length_append, List.length_take, List.length_drop, List.length_singleton]; omega
    have hne : ∀ q, partI l p.token ≤ q → q < l.length → tokKey p.token < tokKey (l.getD q default).token := fun q hq hql => by
      have h1 := c3 q hq hql
      have h2 := c3 (partI l p.token) (Nat.le_refl _) (by omega)
      have h3 : ¬ tokKey (l.getD (partI l p.token) default).token = tokKey p.token := fun h9 => hb ((partB_key h.rise ht).2 ⟨by omega, h9⟩)
      by_cases e : q = partI l p.token
      · rw [e] at h1 ⊢; omega
      · have := h.rise.up (partI l p.token) q (by omega) hql; omega
    refine ⟨⟨fun i hi => ?_, fun i k hik hk => ?_⟩, fun i hi => ?_⟩
    · rw [hlen] at hi
      rw [ins_get9 c1]
      split
      · exact h.rise.tok i (by omega)
      · split
        · exact ht
        · exact h.rise.tok (i - 1) (by omega)
    · rw [hlen] at hk
      rw [ins_get9 c1, ins_get9 c1]
      by_cases h1 : i < partI l p.token
      · rw [if_pos h1]
        by_cases h2 : k < partI l p.token
        · rw [if_pos h2]; exact h.rise.up i k hik (by omega)
        · rw [if_neg h2]
          have h4 := c2 i h1 (by omega)
          by_cases h3 : k = partI l p.token
          · rw [if_pos h3]; exact h4
          · rw [if_neg h3]
            have := c3 (k - 1) (by omega) (by omega)
            omega
      · rw [if_neg h1, if_neg (by omega : ¬ k < partI l p.token), if_neg (by omega : ¬ k = partI l p.token)]
        by_cases h3 : i = partI l p.token
        · rw [if_pos h3]; exact hne _ (by omega) (by omega)
        · rw [if_neg h3]; exact h.rise.up (i - 1) (k - 1) (by omega) (by omega)
    · rw [hlen] at hi
      rw [ins_get9 c1]
      split
      · exact h.q i (by omega)
      · split
        · exact hp
        · exact h.q (i - 1) (by omega)
theorem Uni.all (h : Uni Q l) (hm : Uni Q m) (hF : ∀ a b, Q a → Q b → Q (F a b)) : ∀ j, j ≤ m.length → Uni Q (uniI F l m j) ∧ (uniI F l m j).length ≤ l.length + j
  | 0, _ => ⟨h, Nat.le_refl _⟩
  | j + 1, hj => by
    obtain ⟨i1, i2⟩ := Uni.all h hm hF j (by omega)
    refine ⟨i1.ins (hm.rise.tok j (by omega)) (hm.q j (by omega)) hF, ?_⟩
    have := insP_len (F := F) (l := uniI F l m j) (p := m.getD j default)
    show (insP F (uniI F l m j) (m.getD j default)).length ≤ _
    omega
theorem uni_eq (h : Uni Q l) (hm : Uni Q m) (hG : ∀ a b, Q a → Q b → Q (G a b)) (hFG : ∀ a b, Q a → Q b → F a b = G a b) : ∀ j, j ≤ m.length → uniS F l m j = uniI G l m j
  | 0, _ => rfl
  | j + 1, hj => by
    obtain ⟨i1, _⟩ := Uni.all h hm hG j (by omega)
    have ht := hm.rise.tok j (by omega)
    show putV F (uniS F l m j) (m.getD j default) = insP G (uniI G l m j) (m.getD j default)
    rw [uni_eq h hm hG hFG j (by omega), ins_put i1.rise ht]
    by_cases hb : partB (uniI G l m j) (m.getD j default).token = true
    · rw [insP_T hb, insP_T hb, hFG _ _ (i1.q _ (partB_lt hb)) (hm.q j (by omega))]
    · have hb' : partB (uniI G l m j) (m.getD j default).token = false := by simpa using hb
      rw [insP_F hb', insP_F hb']
end
def TabL (d : Decl) (t : List Env) : Prop := (t.length : Int) = leavesOf d ∧ ∀ x ∈ t, (x.live = true → x.ints.length = d.vars.length ∧ x.arrs.length = d.arrays.length) ∧ x.ints.length ≤ d.vars.length ∧ x.arrs.length ≤ d.arrays.length
theorem TabL.of {d : Decl} {t : List Env} (h : Table.isIn d t = true) : TabL d t := by
  obtain ⟨h1, h2⟩ := Table.isIn_get h
  refine ⟨h1, fun x hx => ?_⟩
  obtain ⟨i, hi, rfl⟩ := List.getElem_of_mem hx
  have h3 := h2 i hi
  rw [List.getD_eq_getElem?_getD, List.getElem?_eq_getElem hi] at h3
  have h3 : Env.okIn d t[i] = true := h3
  by_cases hl : t[i].live = true
  · have h4 := okIn_one h3 hl
    exact ⟨fun _ => h4, by omega, by omega⟩
  · unfold Env.okIn at h3
    rw [if_neg hl] at h3
    simp only [Bool.and_eq_true, beq_iff_eq] at h3
    exact ⟨fun h => absurd h hl, by omega, by omega⟩
theorem TabL.zip {d : Decl} {f : Iv → Iv → Iv} {a b : List Env} (ha : TabL d a) (hb : TabL d b) : TabL d (zip2 (Env.joinW f) a b) := by
  refine ⟨by rw [zip2_len]; exact ha.1, fun z hz => ?_⟩
  obtain ⟨i, hi, rfl⟩ := zip2_mem hz
  have h1 := ha.2 _ (getD_mem hi)
  have h2 := hb.2 _ (getD_mem (a := b) (j := i) (by have := ha.1; have := hb.1; omega))
  unfold Env.joinW
  split
  · split
    · rename_i l1 l2
      have := h1.1 l1
      simp only [zip2_len]
      exact ⟨fun _ => this, h1.2⟩
    · exact h1
  · exact h2
theorem decl_small {d : Decl} (hk : Decl.ok d = true) : d.vars.length ≤ 5 ∧ d.arrays.length ≤ 2 := by
  unfold Decl.ok at hk
  simp only [Bool.and_eq_true, decide_eq_true_eq] at hk
  omega
theorem TabL.small {d : Decl} {t : List Env} (hk : Decl.ok d = true) (h : TabL d t) : Small 1048576 t := by
  have h1 := leaves_bnd9 hk
  have h2 := decl_small hk
  have h3 := h.1
  refine ⟨by omega, fun x hx => ?_⟩
  have := (h.2 x hx).2
  omega
theorem TabL.pair {d : Decl} {a b : List Env} (hk : Decl.ok d = true) (ha : TabL d a) (hb : TabL d b) : PairOk a b := by
  have sa := ha.small hk
  have sb := hb.small hk
  have hl : a.length = b.length := by have := ha.1; have := hb.1; omega
  refine ⟨⟨hl, sa.1⟩, fun i hi l1 l2 => ?_, sa.2, sb.2⟩
  have h1 := (ha.2 _ (getD_mem hi)).1 l1
  have h2 := (hb.2 _ (getD_mem (a := b) (j := i) (by omega))).1 l2
  omega
theorem TabL.marks {d : Decl} {t : List Env} (hk : Decl.ok d = true) (h : TabL d t) : 0 ≤ EnvS.marks 0 t ∧ EnvS.marks 0 t ≤ 120 := by
  have h1 := leaves_bnd9 hk
  have h2 := decl_small hk
  have h3 := h.1
  have key : ∀ l : List Env, (∀ x ∈ l, 0 ≤ Env.wt x ∧ Env.wt x ≤ 15) → 0 ≤ (l.map Env.wt).sum ∧ (l.map Env.wt).sum ≤ 15 * (l.length : Int) := by
    intro l
    induction l with
    | nil => intro _; simp
    | cons y l ih =>
      intro hl
      have i1 := ih fun x hx => hl x (List.mem_cons_of_mem _ hx)
      have i2 := hl y (by simp)
      simp only [List.map_cons, List.sum_cons, List.length_cons]
      omega
  have h4 := key t fun x hx => by
    have := (h.2 x hx).2
    unfold Env.wt; omega
  unfold EnvS.marks EnvS.at
  rw [List.take_of_length_le (Nat.le_refl _)]
  omega
def fewV (l : List Part) : List Part := if (l.length : Int) > 100 then [] else l
theorem fewV_no {l : List Part} (h : (l.length : Int) > 100) : fewV l = [] := by unfold fewV; rw [if_pos h]
theorem fewV_yes {l : List Part} (h : ¬ (l.length : Int) > 100) : fewV l = l := by unfold fewV; rw [if_neg h]
theorem few_end {l : List Part} {j : Nat} (hI : j ≤ l.length ∧ ((l.length : Int) > 100 → j = 0)) (h : ¬ (j : Int) < (l.length : Int) ∨ ¬ (l.length : Int) ≤ 100) : l.take j = fewV l := by
  by_cases h9 : (l.length : Int) > 100
  · rw [fewV_no h9, hI.2 h9]; rfl
  · rw [fewV_yes h9, List.take_of_length_le (by omega)]
def Parts.widenIn (d : Decl) (a b : List Part) (s : List Int) : List Part := if (Parts.ok d a = true ∧ Parts.isIn d b = true) ∧ ¬ (s.length : Int) > 100 then fewV (uniI (zip2 (Env.joinW fun x y => Iv.widenOk s x y)) a b b.length) else []
section
variable {d : Decl} {a b : List Part} {s : List Int}
theorem Parts.ok_two (h : Parts.ok d a = true) : Parts.ok d b = Parts.isIn d b := by
  unfold Parts.ok at h ⊢
  rw [(Bool.and_eq_true_iff.1 h).1, Bool.true_and]
theorem pwiden_no2 (h : (Parts.ok d a = false ∨ Parts.isIn d b = false) ∨ (s.length : Int) > 100) : Parts.widenIn d a b s = [] := by
  unfold Parts.widenIn; rw [if_neg]; rintro ⟨⟨h1, h2⟩, h3⟩; rcases h with (h | h) | h <;> simp_all
theorem pwiden_no (h : (Parts.ok d a = false ∨ Parts.ok d b = false) ∨ (s.length : Int) > 100) : Parts.widenIn d a b s = [] := by
  cases h1 : Parts.ok d a with
  | false => exact pwiden_no2 (.inl (.inl h1))
  | true => exact pwiden_no2 (by rw [← Parts.ok_two (b := b) h1]; rcases h with (h | h) | h; exact .inl (.inl h); exact .inl (.inr h); exact .inr h)
theorem pwiden_yes2 (h : (Parts.ok d a = true ∧ Parts.isIn d b = true) ∧ ¬ (s.length : Int) > 100) : Parts.widenIn d a b s = fewV (uniI (zip2 (Env.joinW fun x y => Iv.widenOk s x y)) a b b.length) := by unfold Parts.widenIn; rw [if_pos h]
theorem parts_uni (h : Parts.isIn d a = true) : Uni (TabL d) a := ⟨RiseP.of h, fun i hi => .of (Part.ok_tab ((Parts.get h).2.2 i hi))⟩
theorem parts_decl (h : Parts.ok d a = true) : Decl.ok d = true := by unfold Parts.ok at h; exact (Bool.and_eq_true_iff.1 h).1
theorem uni_run {f : Iv → Iv → Iv} (h : Parts.ok d a = true ∧ Parts.isIn d b = true) {j : Nat} (hj : j ≤ b.length) : Uni (TabL d) (uniI (zip2 (Env.joinW f)) a b j) ∧ (uniI (zip2 (Env.joinW f)) a b j).length ≤ a.length + j :=
  (parts_uni (Parts.ok_in h.1)).all (parts_uni h.2) (fun _ _ ha hb => ha.zip hb) j hj
theorem pwiden_S (h : Parts.ok d a = true ∧ Parts.isIn d b = true) : uniS (putF true s) a b b.length = uniI (zip2 (Env.joinW fun x y => Iv.widenOk s x y)) a b b.length :=
  uni_eq (parts_uni (Parts.ok_in h.1)) (parts_uni h.2) (fun x y hx hy => hx.zip hy) (fun x y _ _ => rfl) b.length (Nat.le_refl _)
theorem uniS_run {w : Bool} (h : Parts.ok d a = true ∧ Parts.isIn d b = true) {j : Nat} (hj : j ≤ b.length) : Uni (TabL d) (uniS (putF w s) a b j) ∧ (uniS (putF w s) a b j).length ≤ a.length + j := by
  have e : uniS (putF w s) a b j = uniI (zip2 (Env.joinW (if w then fun x y => Iv.widenOk s x y else Iv.join))) a b j :=
    uni_eq (Q := TabL d) (parts_uni (Parts.ok_in h.1)) (parts_uni h.2) (fun x y hx hy => hx.zip hy) (fun x y _ _ => by cases w <;> rfl) j hj
  rw [e]; exact uni_run h hj
theorem Uni.getP {l : List Part} (hk : Decl.ok d = true) (h : Uni (TabL d) l) {i : Nat} (hi : i < l.length) : Part.small (l.getD i default) := by
  refine ⟨?_, (h.q i hi).small hk⟩
  have := (tokOk_iff (h.rise.tok i hi)).1
  omega
theorem Uni.small {l : List Part} (hk : Decl.ok d = true) (h : Uni (TabL d) l) (hl : l.length ≤ 1048576) : SmallP l := ⟨hl, fun x hx => by
  obtain ⟨i, hi, rfl⟩ := List.getElem_of_mem hx
  have := h.getP hk hi
  rwa [List.getD_eq_getElem?_getD, List.getElem?_eq_getElem hi] at this⟩
theorem Uni.wt {l : List Part} (hk : Decl.ok d = true) (h : Uni (TabL d) l) (hl : l.length ≤ 1048576) : marksL Part.wt 0 l ≤ 17592186044416 := by
  have h1 := atL_bound (wt := Part.wt) (k := 0) (a := l) (B := 126) (fun x hx => by
    obtain ⟨i, hi, rfl⟩ := List.getElem_of_mem hx
    have h2 := (h.q i hi).marks hk
    have h3 := (tokOk_iff (h.rise.tok i hi)).1
    rw [List.getD_eq_getElem?_getD, List.getElem?_eq_getElem hi] at h2 h3
    simp only [Option.getD_some] at h2 h3
    unfold Part.wt; omega) l.length (Nat.le_refl _)
  unfold marksL
  have h5 : (l.length : Int) * 126 ≤ 1048576 * 126 := Int.mul_le_mul_of_nonneg_right (by omega) (by omega)
  omega
theorem fewV_mem {l : List Part} : (fewV l).length ≤ 100 ∧ ((fewV l) = [] ∨ fewV l = l) := by
  unfold fewV
  split
  · exact ⟨by simp, .inl rfl⟩
  · exact ⟨by omega, .inr rfl⟩
theorem few_small {f : Iv → Iv → Iv} (h : Parts.ok d a = true ∧ Parts.isIn d b = true) : SmallP (fewV (uniI (zip2 (Env.joinW f)) a b b.length)) ∧ marksL Part.wt 0 (fewV (uniI (zip2 (Env.joinW f)) a b b.length)) ≤ 17592186044416 := by
  have hk := parts_decl h.1
  have h1 := (uni_run (f := f) h (Nat.le_refl b.length)).1
  obtain ⟨h2, h3 | h3⟩ := fewV_mem (l := uniI (zip2 (Env.joinW f)) a b b.length)
  · rw [h3]; exact ⟨⟨by simp, by simp⟩, by simp [marksL, atL]⟩
  · rw [h3] at h2 ⊢; exact ⟨h1.small hk (by omega), h1.wt hk (by omega)⟩
theorem pwiden_small : SmallP (Parts.widenIn d a b s) ∧ marksL Part.wt 0 (Parts.widenIn d a b s) ≤ 17592186044416 := by
  by_cases h : (Parts.ok d a = true ∧ Parts.isIn d b = true) ∧ ¬ (s.length : Int) > 100
  · rw [pwiden_yes2 h]; exact few_small h.1
  · have e : Parts.widenIn d a b s = [] := by unfold Parts.widenIn; rw [if_neg h]
    rw [e]; exact ⟨⟨by simp, by simp⟩, by simp [marksL, atL]⟩
end
end Go.Proofs

/- A symbolic executor over data by value, proved sound over any program: no conditions. -/
import Derived.Test.YtieoiccmlhjioabGreatDoorE4
set_option linter.all false
set_option linter.unnecessarySimpa false
set_option linter.unusedSectionVars false
set_option linter.unusedSimpArgs false
set_option linter.unusedVariables false
namespace Go.Proofs
open Go Go.Ev
variable [Lay]
def mEnt (k : Int) (i : Nat) (_ : Entry) : Entry := ⟨k + 2 * (i : Int), k + 2 * (i : Int) + 1⟩
def Part.wt (x : Part) : Int := 2 * (x.token.length : Int) + EnvS.marks 0 x.table
def Part.markT (k : Int) (x : Part) : Part := ⟨mkAll (mEnt k) x.token, EnvS.mark (k + 2 * (x.token.length : Int)) x.table⟩
theorem EnvS.marks_add (k : Int) (a : List Env) : EnvS.marks k a = k + EnvS.marks 0 a := by
  unfold EnvS.marks EnvS.at; omega
theorem EnvS.marks0_mark (k : Int) (a : List Env) : EnvS.marks 0 (EnvS.mark k a) = EnvS.marks 0 a := by
  have h1 := EnvS.marks_mark k a
  rw [EnvS.marks_add, EnvS.marks_add k a] at h1
  omega
theorem list_ext9 {α : Type} [Inhabited α] {a b : List α} (h : a.length = b.length) (h2 : ∀ i, i < a.length → a.getD i default = b.getD i default) : a = b := by
  refine List.ext_getElem h fun i hi hi' => ?_
  have := h2 i hi
  rw [List.getD_eq_getElem?_getD, List.getD_eq_getElem?_getD, List.getElem?_eq_getElem hi, List.getElem?_eq_getElem hi'] at this
  exact this
theorem EnvS.mark_mark (k : Int) (a : List Env) : EnvS.mark k (EnvS.mark k a) = EnvS.mark k a := by
  have hl : (EnvS.mark k a).length = a.length := mkAll_len _ _
  have hl2 : (EnvS.mark k (EnvS.mark k a)).length = (EnvS.mark k a).length := mkAll_len _ _
  refine list_ext9 hl2 fun i hi => ?_
  have h1 := EnvS.marked k a i (by omega)
  have h2 : (EnvS.mark k (EnvS.mark k a)).getD i default = EnvS.mk k (EnvS.mark k a) i ((EnvS.mark k a).getD i default) := mkAll_get _ _ (by omega)
  rw [h2]
  exact h1.symm
theorem mEnt_mk (k : Int) (l : List Entry) : mkAll (mEnt k) (mkAll (mEnt k) l) = mkAll (mEnt k) l := by
  unfold mkAll mkTo
  simp only [List.length_map, List.length_range]
  refine List.map_congr_left fun i hi => ?_
  have := List.mem_range.1 hi
  simp [this, mEnt]
theorem Part.wt_mark (k : Int) (x : Part) : Part.wt (Part.markT k x) = Part.wt x := by
  simp only [Part.wt, Part.markT, mkAll_len, EnvS.marks0_mark]
theorem Part.mark_mark (k : Int) (x : Part) : Part.markT k (Part.markT k x) = Part.markT k x := by
  simp only [Part.markT, mkAll_len, mEnt_mk, EnvS.mark_mark]
theorem Part.wt_nn {x : Part} (h : Part.small x) : 0 ≤ Part.wt x := by
  have := EnvS.marks_bnd (k := 0) h.2 (by omega)
  unfold Part.wt; omega
theorem atL_add {α : Type} (wt : α → Int) (k : Int) (a : List α) (i : Nat) : atL wt k a i = k + atL wt 0 a i := by
  unfold atL; omega
theorem atL_mono {α : Type} [Inhabited α] {wt : α → Int} {a : List α} (h : ∀ x ∈ a, 0 ≤ wt x) {k : Int} {j : Nat} (hj : j ≤ a.length) : ∀ n, j + n ≤ a.length → atL wt k a j ≤ atL wt k a (j + n)
  | 0, _ => by simp
  | n + 1, hn => by
    have ih := atL_mono h (k := k) hj n (by omega)
    have := h _ (getD_mem (j := j + n) (by omega))
    rw [show j + (n + 1) = (j + n) + 1 from rfl, atL_step (by omega)]; omega
theorem PartS.bnd {k : Int} {a : List Part} {j : Nat} (h : SmallP a) (hw : marksL Part.wt 0 a ≤ 17592186044416) (hj : j ≤ a.length) : k ≤ atL Part.wt k a j ∧ atL Part.wt k a j ≤ k + 17592186044416 := by
  have hn : ∀ x ∈ a, 0 ≤ Part.wt x := fun x hx => Part.wt_nn (h.2 x hx)
  have h1 := atL_mono hn (k := 0) (j := 0) (by omega) j (by omega)
  have h2 := atL_mono hn (k := 0) hj (a.length - j) (by omega)
  rw [atL_zero, Nat.zero_add] at h1
  rw [show j + (a.length - j) = a.length by omega] at h2
  rw [atL_add]
  unfold marksL at hw
  omega
theorem PartS.step {k : Int} {a : List Part} {j : Nat} (h : SmallP a) (hw : marksL Part.wt 0 a ≤ 17592186044416) (hj : j < a.length) : atL Part.wt k a (j + 1) = atL Part.wt k a j + Part.wt (a.getD j default) ∧ 2 * ((a.getD j default).token.length : Int) ≤ Part.wt (a.getD j default) ∧ Part.wt (a.getD j default) ≤ 17592186044416 := by
  have h1 := PartS.bnd (k := 0) h hw (j := j) (by omega)
  have h2 := PartS.bnd (k := 0) h hw (j := j + 1) (by omega)
  have h4 := atL_step (wt := Part.wt) (k := 0) hj
  have h3 := EnvS.marks_bnd (k := 0) (h.2 _ (getD_mem hj)).2 (by omega)
  refine ⟨atL_step hj, ?_, by omega⟩
  unfold Part.wt; omega
theorem PartS.round {k : Int} {a : List Part} {j : Nat} (h : j < a.length) {k0 k1 : Int} {L0 L1 L2 : List Part} (h0 : L0 = mkTo (mkL Part.wt Part.markT k a) a j) (e0 : k0 = atL Part.wt k a j)
    (h1 : L1 = L0.set j ⟨mkAll (mEnt k0) (L0.getD j default).token, (L0.getD j default).table⟩) (e1 : k1 = k0 + 2 * ((L0.getD j default).token.length : Int))
    (h2 : L2 = L1.set j ⟨(L1.getD j default).token, EnvS.mark k1 (L1.getD j default).table⟩) :
    L2 = mkTo (mkL Part.wt Part.markT k a) a (j + 1) ∧ EnvS.marks k1 (L1.getD j default).table = atL Part.wt k a (j + 1) := by
  have hl : j < (mkTo (mkL Part.wt Part.markT k a) a j).length := by rw [mkTo_len]; exact h
  have hg := mkL_get (wt := Part.wt) (mk := Part.markT) (k := k) h
  subst h0 h1 h2 e0 e1
  simp only [List.set_set, set_getD, List.length_set, hl, hg]
  refine ⟨mkTo_step _ _ h rfl, ?_⟩
  rw [atL_step h, EnvS.marks_add]; unfold Part.wt; omega
section
variable {k : Int} {x : Part}
theorem Part.heldT (h : x = Part.markT k x) : ∀ i, i < x.token.length → x.token.getD i default = mEnt k i default := fun i hi => by
  have h2 : x.token = mkAll (mEnt k) x.token := congrArg Part.token h
  rw [h2]; exact mkAll_get _ _ hi
theorem Part.heldE (h : x = Part.markT k x) : EnvS.Marked (k + 2 * (x.token.length : Int)) x.table := by
  have h2 : x.table = EnvS.mark (k + 2 * (x.token.length : Int)) x.table := congrArg Part.table h
  rw [h2]
  have h3 : x.token.length = x.token.length := rfl
  exact EnvS.marked _ _
end
theorem PartS.small_mark {k : Int} {a : List Part} (h : SmallP a) : SmallP (markL Part.wt Part.markT k a) := by
  refine ⟨by rw [markL_len]; exact h.1, fun x hx => ?_⟩
  obtain ⟨i, hi, rfl⟩ := List.getElem_of_mem hx
  have hi' : i < a.length := by rw [markL_len] at hi; exact hi
  have e : (markL Part.wt Part.markT k a)[i] = Part.markT (atL Part.wt k a i) (a.getD i default) := by
    rw [← markL_get (wt := Part.wt) (mk := Part.markT) (k := k) hi', List.getD_eq_getElem?_getD, List.getElem?_eq_getElem hi]; rfl
  have h2 := h.2 _ (getD_mem hi')
  rw [e]
  refine ⟨?_, ?_⟩
  · have := h2.1; simpa [Part.markT, mkAll_len] using this
  · exact EnvS.small_mark h2.2
def PartS.marks (k : Int) (a : List Part) : Int := marksL Part.wt k a
def PartS.mark (k : Int) (a : List Part) : List Part := markL Part.wt Part.markT k a
theorem PartS.marks_mark (k : Int) (a : List Part) : PartS.marks k (PartS.mark k a) = PartS.marks k a := marksL_mark Part.wt_mark
theorem PartS.marked (k : Int) (a : List Part) : MarkedL Part.wt Part.markT k (PartS.mark k a) := markedL Part.wt_mark Part.mark_mark
theorem PartS.wt_mark0 (k : Int) (a : List Part) : marksL Part.wt 0 (PartS.mark k a) = marksL Part.wt 0 a := by
  have h1 := PartS.marks_mark k a
  unfold PartS.marks marksL at h1
  rw [atL_add, atL_add Part.wt k a] at h1
  unfold marksL
  omega
theorem PartS.marks_bnd {k : Int} {a : List Part} (h : SmallP a) (hw : marksL Part.wt 0 a ≤ 17592186044416) : k ≤ PartS.marks k a ∧ PartS.marks k a ≤ k + 17592186044416 := PartS.bnd h hw (Nat.le_refl _)
theorem PartS.wt_few {a : List Part} (h : SmallP a) (hl : a.length ≤ 3) : marksL Part.wt 0 a ≤ 17592186044416 := by
  have h1 := atL_bound (wt := Part.wt) (k := 0) (a := a) (B := 4400193994752) (fun x hx => by
    have h2 := h.2 x hx
    have h3 := EnvS.marks_bnd (k := 0) h2.2 (by omega)
    have h4 := h2.1
    unfold Part.wt; omega) a.length (Nat.le_refl _)
  unfold marksL
  have h5 : (a.length : Int) * 4400193994752 ≤ 3 * 4400193994752 := Int.mul_le_mul_of_nonneg_right (by omega) (by omega)
  omega
theorem leaves_bnd9 {d : Decl} (hk : Decl.ok d = true) : leavesOf d ≤ 8 := by
  unfold Decl.ok at hk
  simp only [Bool.and_eq_true, decide_eq_true_eq] at hk
  have h9 : d.flags.length = 0 ∨ d.flags.length = 1 ∨ d.flags.length = 2 ∨ d.flags.length = 3 := by omega
  unfold leavesOf
  rcases h9 with h8 | h8 | h8 | h8 <;> rw [h8] <;> decide
section
variable {f : Iv → Iv → Iv} {l m : List Part} {j : Nat}
end
section
variable {w : Bool} {s : List Int} {l : List Part} {p : Part} {j : Nat}
end
end Go.Proofs

namespace Go.Proofs
open Go Go.Ev
variable [Lay]
def startT (d : Decl) : List Env := (List.replicate (leavesOf d).toNat (⟨false, [], []⟩ : Env)).set 0 ⟨true, List.replicate d.vars.length ⟨0, 0⟩, List.replicate d.arrays.length ⟨0, 0⟩⟩
def startV (d : Decl) : List Part := [⟨[], startT d⟩]
noncomputable def Prog.start (p : Prog) : List Part := if Prog.ok p = true then startV p.d else []
theorem start_no {p : Prog} (h : Prog.ok p = false) : Prog.start p = [] := by unfold Prog.start; rw [if_neg (by rw [h]; decide)]
theorem start_yes {p : Prog} (h : Prog.ok p = true) : Prog.start p = startV p.d := by unfold Prog.start; rw [if_pos h]
theorem ok_decl {p : Prog} (h : Prog.ok p = true) : Decl.ok p.d = true := by
  unfold Prog.ok at h
  simp only [Bool.and_eq_true] at h
  exact h.1.1.1
theorem leaves_bnd1 {d : Decl} (hk : Decl.ok d = true) : 1 ≤ leavesOf d ∧ leavesOf d ≤ 8 := by
  refine ⟨?_, leaves_bnd9 hk⟩
  unfold Decl.ok at hk
  simp only [Bool.and_eq_true, decide_eq_true_eq] at hk
  have h9 : d.flags.length = 0 ∨ d.flags.length = 1 ∨ d.flags.length = 2 ∨ d.flags.length = 3 := by omega
  unfold leavesOf
  rcases h9 with h | h | h | h <;> rw [h] <;> decide
theorem decl_sm {d : Decl} (hk : Decl.ok d = true) : d.vars.length ≤ 5 ∧ d.arrays.length ≤ 2 := by
  unfold Decl.ok at hk
  simp only [Bool.and_eq_true, decide_eq_true_eq] at hk
  omega
theorem start_small {p : Prog} : SmallP (Prog.start p) ∧ (Prog.start p).length ≤ 1 := by
  cases h : Prog.ok p with
  | false => rw [start_no h]; exact ⟨⟨by simp, by simp⟩, by simp⟩
  | true =>
    have hk := ok_decl h
    have h1 := leaves_bnd1 hk
    rw [start_yes h]
    unfold Decl.ok at hk
    simp only [Bool.and_eq_true, decide_eq_true_eq] at hk
    refine ⟨⟨by simp [startV], fun x hx => ?_⟩, by simp [startV]⟩
    simp only [startV, List.mem_singleton] at hx
    subst hx
    refine ⟨by simp, ⟨?_, fun y hy => ?_⟩⟩
    · simp only [startT, List.length_set, List.length_replicate]; omega
    · rcases List.mem_or_eq_of_mem_set hy with h9 | h9
      · rw [List.eq_of_mem_replicate h9]; simp
      · subst h9; simp only [List.length_replicate]; omega
end Go.Proofs

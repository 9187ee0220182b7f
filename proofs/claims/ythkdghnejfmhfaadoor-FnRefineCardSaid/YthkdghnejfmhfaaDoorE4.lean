/- A symbolic executor over data by value, proved sound over any program: no conditions. -/
import Derived.Test.YthkdghnejfmhfaaDoorE3
import Derived.Lib.Mul64
set_option linter.all false
set_option linter.unnecessarySimpa false
set_option linter.unusedSectionVars false
set_option linter.unusedSimpArgs false
set_option linter.unusedVariables false
namespace Go.Proofs
open Go Go.Ev
variable [Lay]
structure Tok where
  op : Int
  n : Int
deriving Inhabited
def Tok.same (a b : Tok) : Bool := a.op == b.op && a.n == b.n
def takesN (op : Int) : Int := if op ≤ 5 then 0 else if op ≤ 7 ∨ op = 19 then 1 else 2
def kdT (op : Int) : Int := if op = 3 ∨ op = 4 ∨ op = 5 then 0 else if op ≤ 12 then 1 else if op ≤ 18 then 1 else 2
def kdL (op : Int) : Int := if op = 3 ∨ op = 4 ∨ op = 5 then 2 else if op ≤ 12 then 1 else if op ≤ 18 then 2 else 2
def takesL (op : Int) : List Int := if op = 6 ∨ op = 7 then [1] else if inR op 8 18 = true then [1, 1] else if op = 19 then [2] else if op = 20 ∨ op = 21 then [2, 2] else []
def leavesK (op : Int) : Int := if inR op 3 5 = true ∨ op ≥ 13 then 2 else 1
def Tok.ok (d : Decl) (t : Tok) : Bool :=
  if t.op = 1 then inR t.n 0 999999999999999999 else if t.op = 2 then inR t.n 0 (d.vars.length - 1) else if t.op = 3 then inR t.n 0 (d.flags.length - 1) else if t.op = 6 then inR t.n 0 (d.arrays.length - 1) else inR t.op 4 21 && (t.n == 0)
theorem inR_iff {n lo hi : Int} : inR n lo hi = true ↔ lo ≤ n ∧ n ≤ hi := by
  unfold inR; simp only [Bool.and_eq_true, decide_eq_true_eq, ge_iff_le]
theorem Tok.ok_op {d : Decl} {t : Tok} (h : Tok.ok d t = true) : 1 ≤ t.op ∧ t.op ≤ 21 := by
  unfold Tok.ok at h
  repeat' split at h
  all_goals first | omega | (rw [Bool.and_eq_true, inR_iff] at h; omega)
theorem takesL_len (op : Int) : (takesL op).length ≤ 2 := by
  unfold takesL; repeat' split
  all_goals simp
theorem takes_same {op : Int} (h : 1 ≤ op ∧ op ≤ 21) : ((takesL op).length : Int) = takesN op ∧ (∀ x ∈ takesL op, x = kdT op) ∧ leavesK op = kdL op := by
  have h0 : op = 1 ∨ op = 2 ∨ op = 3 ∨ op = 4 ∨ op = 5 ∨ op = 6 ∨ op = 7 ∨ op = 8 ∨ op = 9 ∨ op = 10 ∨ op = 11 ∨ op = 12 ∨ op = 13 ∨ op = 14 ∨ op = 15 ∨ op = 16 ∨ op = 17 ∨ op = 18 ∨ op = 19 ∨ op = 20 ∨ op = 21 := by omega
  rcases h0 with rfl | rfl | rfl | rfl | rfl | rfl | rfl | rfl | rfl | rfl | rfl | rfl | rfl | rfl | rfl | rfl | rfl | rfl | rfl | rfl | rfl <;> decide
def kst (p : List Int) (t : Tok) : Option (List Int) := if (takesL t.op).length ≤ p.length ∧ p.drop (p.length - (takesL t.op).length) = takesL t.op then some (p.take (p.length - (takesL t.op).length) ++ [leavesK t.op]) else none
def kdS (d : Decl) (l : List Tok) : Nat → Option (List Int)
  | 0 => some []
  | j + 1 => (kdS d l j).bind fun p => if Tok.ok d (l.getD j default) = true then kst p (l.getD j default) else none
def kdV (d : Decl) (l : List Tok) : Int := match kdS d l l.length with
  | some [k] => k
  | _ => 0
def Expr.kind (d : Decl) (l : List Tok) : Int := if l.length ≤ 40 then kdV d l else 0
def Expr.kindIn (d : Decl) (l : List Tok) : Int := if Decl.ok d = true then Expr.kind d l else 0
section
variable {d : Decl} {l : List Tok} {j : Nat} {p : List Int}
theorem kdS_none (h : kdS d l j = none) : ∀ n, kdS d l (j + n) = none
  | 0 => h
  | n + 1 => by rw [← Nat.add_assoc, kdS, kdS_none h n]; rfl
theorem kind_none (hj : j ≤ l.length) (h : kdS d l j = none) : Expr.kind d l = 0 := by
  have h1 := kdS_none h (l.length - j)
  rw [show j + (l.length - j) = l.length by omega] at h1
  unfold Expr.kind kdV; rw [h1]; simp
theorem kind_long (h : ¬ l.length ≤ 40) : Expr.kind d l = 0 := by unfold Expr.kind; rw [if_neg h]
theorem kind_one (h : l.length ≤ 40) (hj : j = l.length) (hp : kdS d l j = some p) (h1 : p.length = 1) : Expr.kind d l = p.getD 0 default := by
  subst hj
  unfold Expr.kind kdV; rw [if_pos h, hp]
  match p, h1 with
  | [k], _ => rfl
theorem kind_many (hj : j = l.length) (hp : kdS d l j = some p) (h1 : ¬ p.length = 1) : Expr.kind d l = 0 := by
  subst hj
  unfold Expr.kind kdV; rw [hp]
  match p, h1 with
  | [], _ => simp
  | [k], h1 => exact absurd rfl h1
  | _ :: _ :: _, _ => simp
theorem kdS_len (hp : kdS d l j = some p) : p.length ≤ j := by
  induction j generalizing p with
  | zero => simp only [kdS, Option.some.injEq] at hp; subst hp; simp
  | succ j ih =>
    rw [kdS] at hp
    cases h : kdS d l j with
    | none => rw [h] at hp; cases hp
    | some q =>
      rw [h] at hp
      have h1 := ih h
      simp only [Option.bind_some] at hp
      split at hp
      · unfold kst at hp
        split at hp
        · simp only [Option.some.injEq] at hp
          subst hp
          simp only [List.length_append, List.length_take, List.length_singleton]; omega
        · cases hp
      · cases hp
theorem kdS_bad (hp : kdS d l j = some p) (h : Tok.ok d (l.getD j default) = false) : kdS d l (j + 1) = none := by
  rw [kdS, hp, Option.bind_some, if_neg (by rw [h]; decide)]
theorem kdS_go (hp : kdS d l j = some p) (h : Tok.ok d (l.getD j default) = true) : kdS d l (j + 1) = kst p (l.getD j default) := by
  rw [kdS, hp, Option.bind_some, if_pos h]
theorem kst_some {t : Tok} (h1 : (takesL t.op).length ≤ p.length) (h2 : p.drop (p.length - (takesL t.op).length) = takesL t.op) : kst p t = some (p.take (p.length - (takesL t.op).length) ++ [leavesK t.op]) := by unfold kst; rw [if_pos ⟨h1, h2⟩]
theorem kst_few {t : Tok} (h1 : ¬ (takesL t.op).length ≤ p.length) : kst p t = none := by unfold kst; rw [if_neg (fun h => h1 h.1)]
theorem kst_ne {t : Tok} (h2 : ¬ p.drop (p.length - (takesL t.op).length) = takesL t.op) : kst p t = none := by unfold kst; rw [if_neg (fun h => h2 h.2)]
end
theorem intEq_all {a b : List Int} (h : all2 intEq a b = true) : a = b := by
  unfold all2 at h
  simp only [Bool.and_eq_true, beq_iff_eq] at h
  refine List.ext_getElem h.1 fun i hi hi' => ?_
  have h3 := allTo_iff.1 h.2 i hi
  unfold intEq at h3
  rw [beq_iff_eq, List.getD_eq_getElem?_getD, List.getD_eq_getElem?_getD, List.getElem?_eq_getElem hi, List.getElem?_eq_getElem hi'] at h3
  exact h3
theorem takesN_bnd (op : Int) : 0 ≤ takesN op ∧ takesN op ≤ 2 := by
  unfold takesN; repeat' split
  all_goals omega
section
variable {d : Decl} {l : List Tok} {j u : Nat} {p : List Int}
theorem kd_goI (hp : kdS d l j = some p) (h : Tok.ok d (l.getD j default) = true) (h1 : ¬ ((p.length : Int) - ((takesL (l.getD j default).op).length : Int) < 0) ∧ all2 intEq (p.drop ((p.length : Int) - ((takesL (l.getD j default).op).length : Int)).toNat) (takesL (l.getD j default).op) = true) :
    kdS d l (j + 1) = some (p.take ((p.length : Int) - ((takesL (l.getD j default).op).length : Int)).toNat ++ [leavesK (l.getD j default).op]) := by
  have e : ((p.length : Int) - ((takesL (l.getD j default).op).length : Int)).toNat = p.length - (takesL (l.getD j default).op).length := by omega
  rw [e] at h1 ⊢
  rw [kdS_go hp h]
  exact kst_some (by omega) (intEq_all h1.2)
theorem kd_noI (hp : kdS d l j = some p) (h : Tok.ok d (l.getD j default) = true) (h1 : (p.length : Int) - ((takesL (l.getD j default).op).length : Int) < 0 ∨ all2 intEq (p.drop ((p.length : Int) - ((takesL (l.getD j default).op).length : Int)).toNat) (takesL (l.getD j default).op) = false) : kdS d l (j + 1) = none := by
  rw [kdS_go hp h]
  rcases h1 with h1 | h1
  · exact kst_few (by omega)
  · by_cases h0 : (takesL (l.getD j default).op).length ≤ p.length
    · have e : ((p.length : Int) - ((takesL (l.getD j default).op).length : Int)).toNat = p.length - (takesL (l.getD j default).op).length := by omega
      rw [e] at h1
      refine kst_ne fun h2 => ?_
      rw [h2, all2_self intEq_self] at h1; cases h1
    · exact kst_few h0
end
theorem kind_bad {d : Decl} {l : List Tok} (h : l.all (Tok.ok d) = false) : Expr.kind d l = 0 := by
  have h1 : ∃ i, i < l.length ∧ Tok.ok d (l.getD i default) = false := by
    rw [List.all_eq_false] at h
    obtain ⟨x, hx, hb⟩ := h
    obtain ⟨i, hi, rfl⟩ := List.getElem_of_mem hx
    exact ⟨i, hi, by rw [List.getD_eq_getElem?_getD, List.getElem?_eq_getElem hi]; simpa using hb⟩
  obtain ⟨i, hi, hb⟩ := h1
  cases h2 : kdS d l i with
  | none => exact kind_none (by omega) h2
  | some p => exact kind_none (by omega) (kdS_bad h2 hb)
end Go.Proofs

namespace Go.Proofs
open Go Go.Ev
variable [Lay]
structure Rdr where
  b : List Int
  p : Int
deriving Inhabited
def Rdr.ok (b : List Int) (p : Int) : Prop := 0 ≤ p ∧ p ≤ b.length ∧ b.length ≤ 1048576 ∧ ∀ x ∈ b, 0 ≤ x ∧ x ≤ 255
theorem bytes_good {l : List Int} (h : ∀ x ∈ l, (Lit.int .u8 x).wf = true) : ∀ x ∈ l, 0 ≤ x ∧ x ≤ 255 := fun x hx => by
  have h1 := h x hx
  simp only [Lit.wf, Bool.and_eq_true, decide_eq_true_eq] at h1
  have h2 : IntKind.min .u8 = 0 := rfl
  have h3 : IntKind.max .u8 = 255 := rfl
  omega
def nextV (b : List Int) (p : Int) : Int := if p ≥ b.length then 0 else b.getD p.toNat default
def nextP (b : List Int) (p : Int) : Int := if p ≥ b.length then p else p + 1
variable {b : List Int} {p : Int}
theorem nextV_end (h : p ≥ b.length) : nextV b p = 0 := by unfold nextV; rw [if_pos h]
theorem nextP_end (h : p ≥ b.length) : nextP b p = p := by unfold nextP; rw [if_pos h]
theorem nextV_more (h : ¬ p ≥ b.length) : nextV b p = b.getD p.toNat default := by unfold nextV; rw [if_neg h]
theorem nextP_more (h : ¬ p ≥ b.length) : nextP b p = p + 1 := by unfold nextP; rw [if_neg h]
theorem Rdr.ok.next (h : Rdr.ok b p) : Rdr.ok b (nextP b p) := by
  obtain ⟨h1, h2, h3, h4⟩ := h
  unfold nextP
  split
  · exact ⟨h1, h2, h3, h4⟩
  · exact ⟨by omega, by omega, h3, h4⟩
theorem nextV_bnd (h : Rdr.ok b p) : 0 ≤ nextV b p ∧ nextV b p ≤ 255 := by
  unfold nextV
  split
  · omega
  · exact h.2.2.2 _ (getD_mem (by have := h.1; omega))
def belowV (b : List Int) (p n : Int) : Int := if n ≤ 1 then 0 else if n ≤ 256 then Int.tmod (nextV b p) n else Int.tmod (nextV b p * 256 + nextV b (nextP b p)) n
def belowP (b : List Int) (p n : Int) : Int := if n ≤ 1 then p else if n ≤ 256 then nextP b p else nextP b (nextP b p)
theorem belowV_one {n : Int} (h : n ≤ 1) : belowV b p n = 0 := by unfold belowV; rw [if_pos h]
theorem belowP_one {n : Int} (h : n ≤ 1) : belowP b p n = p := by unfold belowP; rw [if_pos h]
theorem belowV_more {n : Int} (h : ¬ n ≤ 1) (h2 : n ≤ 256) : belowV b p n = Int.tmod (nextV b p) n := by unfold belowV; rw [if_neg h, if_pos h2]
theorem belowP_more {n : Int} (h : ¬ n ≤ 1) (h2 : n ≤ 256) : belowP b p n = nextP b p := by unfold belowP; rw [if_neg h, if_pos h2]
theorem belowV_two {n : Int} (h : ¬ n ≤ 1) (h2 : ¬ n ≤ 256) : belowV b p n = Int.tmod (nextV b p * 256 + nextV b (nextP b p)) n := by unfold belowV; rw [if_neg h, if_neg h2]
theorem belowV_two' {n : Int} (hr : Rdr.ok b p) (h : ¬ n ≤ 1) (h2 : ¬ n ≤ 256) : belowV b p n = Int.tmod (IntKind.wrap .i64 (IntKind.wrap .i64 (nextV b p * 256) + nextV b (nextP b p))) n := by
  have h3 := nextV_bnd hr
  have h4 := nextV_bnd hr.next
  rw [belowV_two h h2, wrap_le (a := nextV b p * 256) (by omega) (by omega), wrap_le (by omega) (by omega)]
theorem belowP_two {n : Int} (h : ¬ n ≤ 1) (h2 : ¬ n ≤ 256) : belowP b p n = nextP b (nextP b p) := by unfold belowP; rw [if_neg h, if_neg h2]
theorem Rdr.ok.below {n : Int} (h : Rdr.ok b p) : Rdr.ok b (belowP b p n) := by
  unfold belowP; split
  · exact h
  · split
    · exact h.next
    · exact h.next.next
theorem belowV_bnd {n : Int} (h : Rdr.ok b p) (hn : 1 ≤ n) : 0 ≤ belowV b p n ∧ belowV b p n < n := by
  have h1 := nextV_bnd h
  have h2 := nextV_bnd h.next
  unfold belowV; split
  · omega
  · split
    · exact ⟨Int.tmod_nonneg _ h1.1, Int.tmod_lt_of_pos _ (by omega)⟩
    · exact ⟨Int.tmod_nonneg _ (by omega), Int.tmod_lt_of_pos _ (by omega)⟩
def onceV (b : List Int) (p n : Int) : Bool := belowV b p n == n - 1
theorem onceV_eq {n : Int} (h : 0 ≤ n ∧ n ≤ 1048576) : onceV b p n = (belowV b p n == IntKind.wrap .i64 (n - 1)) := by
  unfold onceV
  rw [wrap_le (by omega) (by omega)]
def nextsP (b : List Int) (p : Int) : Nat → Int
  | 0 => p
  | j + 1 => nextP b (nextsP b p j)
theorem Rdr.ok.nexts (h : Rdr.ok b p) : ∀ j, Rdr.ok b (nextsP b p j)
  | 0 => h
  | j + 1 => (Rdr.ok.nexts h j).next
def wStep (x v : Int) : Int := IntKind.wrap .u64 ((BitVec.ofInt (IntKind.bits .u64) (IntKind.wrap .u64 (x * 2 ^ (min ((8 : Int)).toNat (IntKind.bits .u64)))) ||| BitVec.ofInt (IntKind.bits .u64) (IntKind.wrap .u64 v)).toNat : Int)
def wordTo (b : List Int) (p : Int) : Nat → Int
  | 0 => 0
  | j + 1 => wStep (wordTo b p j) (nextV b (nextsP b p j))
theorem wordTo_succ (j : Nat) : IntKind.wrap .u64 ((BitVec.ofInt (IntKind.bits .u64) (IntKind.wrap .u64 ((wordTo b p j) * 2 ^ (min ((8 : Int)).toNat (IntKind.bits .u64)))) ||| BitVec.ofInt (IntKind.bits .u64) (IntKind.wrap .u64 (nextV b (nextsP b p j)))).toNat : Int) = wordTo b p (j + 1) := by
  show _ = wStep (wordTo b p j) (nextV b (nextsP b p j))
  unfold wStep
  rfl
def wordV (b : List Int) (p : Int) : Int := wordTo b p 8
def wordP (b : List Int) (p : Int) : Int := nextsP b p 8
theorem Rdr.ok.word (h : Rdr.ok b p) : Rdr.ok b (wordP b p) := h.nexts 8
theorem word_end {j : Nat} (h : j ≤ 8) (h1 : ¬ (j : Int) < 8) : wordTo b p j = wordV b p ∧ nextsP b p j = wordP b p := by
  have : j = 8 := by omega
  subst this
  exact ⟨rfl, rfl⟩
def Fit (x : Int) : Prop := -9223372036854775808 ≤ x ∧ x ≤ 9223372036854775807
theorem fit_wrap (x : Int) : Fit (IntKind.wrap .i64 x) := by
  unfold Fit
  simp only [IntKind.wrap, IntKind.bits, IntKind.signed]
  simp
  split <;> omega
theorem wrap_u64_nn (x : Int) : 0 ≤ IntKind.wrap .u64 x := by
  simp only [IntKind.wrap, IntKind.bits, IntKind.signed]
  simp
  omega
theorem fit_shr {x : Int} (h : Fit x) (k : Nat) : Fit (x.fdiv (2 ^ k)) := by
  have hp : (0 : Int) < 2 ^ k := Int.pow_pos (by omega)
  rw [Int.fdiv_eq_ediv_of_nonneg _ (Int.le_of_lt hp)]
  unfold Fit at h ⊢
  refine ⟨?_, ?_⟩
  · refine Int.le_ediv_of_mul_le hp ?_
    have : (-9223372036854775808 : Int) * 2 ^ k ≤ -9223372036854775808 * 1 := Int.mul_le_mul_of_nonpos_left (by omega) (by omega)
    omega
  · by_cases h0 : 0 ≤ x
    · have := Int.ediv_le_self (2 ^ k) h0
      omega
    · have := Int.ediv_neg_of_neg_of_pos (a := x) (b := 2 ^ k) (by omega) hp
      omega
def numL : List Int := [-9223372036854775808, -9223372036854775807, 9223372036854775807, 9223372036854775806, -1, 0, 1, 4294967296, -4294967296, 3037000500]
def numV (b : List Int) (p : Int) : Int :=
  if belowV b p 6 = 0 then numL.getD (belowV b (belowP b p 6) 10).toNat default
  else if belowV b p 6 = 1 then IntKind.wrap .i64 (wordV b (belowP b p 6))
  else if belowV b p 6 = 2 then (IntKind.wrap .i64 (wordV b (belowP b p 6))).fdiv (2 ^ (min (IntKind.wrap .u64 (belowV b (wordP b (belowP b p 6)) 60)).toNat (IntKind.bits .i64)))
  else IntKind.wrap .i64 (belowV b (belowP b p 6) 41 - 20)
def numP (b : List Int) (p : Int) : Int :=
  if belowV b p 6 = 0 then belowP b (belowP b p 6) 10
  else if belowV b p 6 = 1 then wordP b (belowP b p 6)
  else if belowV b p 6 = 2 then belowP b (wordP b (belowP b p 6)) 60
  else belowP b (belowP b p 6) 41
theorem Rdr.ok.num (h : Rdr.ok b p) : Rdr.ok b (numP b p) := by
  unfold numP
  repeat' split
  · exact h.below.below
  · exact h.below.word
  · exact h.below.word.below
  · exact h.below.below
theorem num_fit (h : Rdr.ok b p) : Fit (numV b p) := by
  unfold numV
  repeat' split
  · have h1 := belowV_bnd (n := 10) (h.below (n := 6)) (by omega)
    have h2 : numL.getD (belowV b (belowP b p 6) 10).toNat default ∈ numL := getD_mem (by simp [numL]; omega)
    have h3 : ∀ x ∈ numL, Fit x := by unfold numL Fit; decide
    exact h3 _ h2
  · exact fit_wrap _
  · exact fit_shr (fit_wrap _) _
  · exact fit_wrap _
theorem num_0 (h : belowV b p 6 = 0) : numV b p = numL.getD (belowV b (belowP b p 6) 10).toNat default ∧ numP b p = belowP b (belowP b p 6) 10 := by
  unfold numV numP; rw [if_pos h, if_pos h]; exact ⟨rfl, rfl⟩
theorem num_1 (h0 : ¬ belowV b p 6 = 0) (h : belowV b p 6 = 1) : numV b p = IntKind.wrap .i64 (wordV b (belowP b p 6)) ∧ numP b p = wordP b (belowP b p 6) := by
  unfold numV numP; rw [if_neg h0, if_neg h0, if_pos h, if_pos h]; exact ⟨rfl, rfl⟩
theorem num_2 (h0 : ¬ belowV b p 6 = 0) (h1 : ¬ belowV b p 6 = 1) (h : belowV b p 6 = 2) : numV b p = (IntKind.wrap .i64 (wordV b (belowP b p 6))).fdiv (2 ^ (min (IntKind.wrap .u64 (belowV b (wordP b (belowP b p 6)) 60)).toNat (IntKind.bits .i64))) ∧ numP b p = belowP b (wordP b (belowP b p 6)) 60 := by
  unfold numV numP; rw [if_neg h0, if_neg h0, if_neg h1, if_neg h1, if_pos h, if_pos h]; exact ⟨rfl, rfl⟩
theorem num_3 (h0 : ¬ belowV b p 6 = 0) (h1 : ¬ belowV b p 6 = 1) (h : ¬ belowV b p 6 = 2) : numV b p = IntKind.wrap .i64 (belowV b (belowP b p 6) 41 - 20) ∧ numP b p = belowP b (belowP b p 6) 41 := by
  unfold numV numP; rw [if_neg h0, if_neg h0, if_neg h1, if_neg h1, if_neg h, if_neg h]; exact ⟨rfl, rfl⟩
def addV (a c : Int) : Int := if (c > 0 ∧ a > IntKind.wrap .i64 (9223372036854775807 - c)) ∨ (c < 0 ∧ a < IntKind.wrap .i64 (-9223372036854775808 - c)) then 0 else IntKind.wrap .i64 (a + c)
def addO (a c : Int) : Int := if c > 0 ∧ a > IntKind.wrap .i64 (9223372036854775807 - c) then 1 else if c < 0 ∧ a < IntKind.wrap .i64 (-9223372036854775808 - c) then -1 else 0
theorem add_1 {a c : Int} (h : c > 0 ∧ a > IntKind.wrap .i64 (9223372036854775807 - c)) : addV a c = 0 ∧ addO a c = 1 := by
  unfold addV addO; rw [if_pos (.inl h), if_pos h]; exact ⟨rfl, rfl⟩
theorem add_2 {a c : Int} (h0 : ¬ c > 0 ∨ ¬ a > IntKind.wrap .i64 (9223372036854775807 - c)) (h : c < 0 ∧ a < IntKind.wrap .i64 (-9223372036854775808 - c)) : addV a c = 0 ∧ addO a c = -1 := by
  unfold addV addO; rw [if_pos (.inr h), if_neg (fun h9 => h0.elim (fun h8 => h8 h9.1) fun h8 => h8 h9.2), if_pos h]; exact ⟨rfl, rfl⟩
theorem add_3 {a c : Int} (h0 : ¬ c > 0 ∨ ¬ a > IntKind.wrap .i64 (9223372036854775807 - c)) (h : ¬ c < 0 ∨ ¬ a < IntKind.wrap .i64 (-9223372036854775808 - c)) : addV a c = IntKind.wrap .i64 (a + c) ∧ addO a c = 0 := by
  have h1 : ¬ (c > 0 ∧ a > IntKind.wrap .i64 (9223372036854775807 - c)) := fun h9 => h0.elim (fun h8 => h8 h9.1) fun h8 => h8 h9.2
  have h2 : ¬ (c < 0 ∧ a < IntKind.wrap .i64 (-9223372036854775808 - c)) := fun h9 => h.elim (fun h8 => h8 h9.1) fun h8 => h8 h9.2
  unfold addV addO; rw [if_neg (fun h9 => h9.elim h1 h2), if_neg h1, if_neg h2]; exact ⟨rfl, rfl⟩
theorem add_fit (a c : Int) : Fit (addV a c) := by
  unfold addV; split
  · unfold Fit; omega
  · exact fit_wrap _
def nearV (b : List Int) (p a h : Int) : Int :=
  if belowV b p 8 = 0 then a else if belowV b p 8 = 1 then h else if h < a then a
  else IntKind.wrap .i64 (a + (IntKind.wrap .i64 (Int.tmod ((wordV b (belowP b p 8)).fdiv (2 ^ (min ((1 : Int)).toNat (IntKind.bits .u64)))) (IntKind.wrap .u64 (IntKind.wrap .i64 ((IntKind.wrap .i64 (h - a)) + 1))))))
def nearP (b : List Int) (p a h : Int) : Int := if belowV b p 8 = 0 then belowP b p 8 else if belowV b p 8 = 1 then belowP b p 8 else if h < a then belowP b p 8 else wordP b (belowP b p 8)
theorem near_0 {a h : Int} (h0 : belowV b p 8 = 0) : nearV b p a h = a ∧ nearP b p a h = belowP b p 8 := by unfold nearV nearP; rw [if_pos h0, if_pos h0]; exact ⟨rfl, rfl⟩
theorem near_1 {a h : Int} (h0 : ¬ belowV b p 8 = 0) (h1 : belowV b p 8 = 1) : nearV b p a h = h ∧ nearP b p a h = belowP b p 8 := by unfold nearV nearP; rw [if_neg h0, if_neg h0, if_pos h1, if_pos h1]; exact ⟨rfl, rfl⟩
theorem near_2 {a h : Int} (h0 : ¬ belowV b p 8 = 0) (h1 : ¬ belowV b p 8 = 1) (h2 : h < a) : nearV b p a h = a ∧ nearP b p a h = belowP b p 8 := by unfold nearV nearP; rw [if_neg h0, if_neg h0, if_neg h1, if_neg h1, if_pos h2, if_pos h2]; exact ⟨rfl, rfl⟩
theorem near_3 {a h : Int} (h0 : ¬ belowV b p 8 = 0) (h1 : ¬ belowV b p 8 = 1) (h2 : ¬ h < a) : nearV b p a h = IntKind.wrap .i64 (a + (IntKind.wrap .i64 (Int.tmod ((wordV b (belowP b p 8)).fdiv (2 ^ (min ((1 : Int)).toNat (IntKind.bits .u64)))) (IntKind.wrap .u64 (IntKind.wrap .i64 ((IntKind.wrap .i64 (h - a)) + 1)))))) ∧ nearP b p a h = wordP b (belowP b p 8) := by
  unfold nearV nearP; rw [if_neg h0, if_neg h0, if_neg h1, if_neg h1, if_neg h2, if_neg h2]; exact ⟨rfl, rfl⟩
theorem near_ne {a h : Int} (hx : -1000 ≤ a ∧ a ≤ 10000000 ∧ -1000 ≤ h ∧ h ≤ 10000000) (h2 : ¬ h < a) : IntKind.wrap .u64 (IntKind.wrap .i64 ((IntKind.wrap .i64 (h - a)) + 1)) ≠ 0 := by
  rw [wrap_le (a := h - a) (by omega) (by omega), wrap_le (by omega) (by omega), wrap_u64 (by omega) (by omega)]
  omega
theorem Rdr.ok.near {a h : Int} (hr : Rdr.ok b p) : Rdr.ok b (nearP b p a h) := by
  unfold nearP
  repeat' split
  all_goals first | exact hr.below | exact hr.below.word
def offL (a h : Int) : List Int := [IntKind.wrap .i64 (a - 1), IntKind.wrap .i64 (h + 1), -9223372036854775808, 9223372036854775807]
def offV (b : List Int) (p a h : Int) : Int := if onceV b p 24 = true then (offL a h).getD (belowV b (belowP b p 24) 4).toNat default else nearV b (belowP b p 24) a h
def offP (b : List Int) (p a h : Int) : Int := if onceV b p 24 = true then belowP b (belowP b p 24) 4 else nearP b (belowP b p 24) a h
theorem off_1 {a h : Int} (h0 : onceV b p 24 = true) : offV b p a h = (offL a h).getD (belowV b (belowP b p 24) 4).toNat default ∧ offP b p a h = belowP b (belowP b p 24) 4 := by unfold offV offP; rw [if_pos h0, if_pos h0]; exact ⟨rfl, rfl⟩
theorem off_0 {a h : Int} (h0 : onceV b p 24 = false) : offV b p a h = nearV b (belowP b p 24) a h ∧ offP b p a h = nearP b (belowP b p 24) a h := by
  unfold offV offP; rw [if_neg (by rw [h0]; decide), if_neg (by rw [h0]; decide)]; exact ⟨rfl, rfl⟩
theorem Rdr.ok.off {a h : Int} (hr : Rdr.ok b p) : Rdr.ok b (offP b p a h) := by
  unfold offP; split
  · exact hr.below.below
  · exact hr.below.near
def ivEnd (b : List Int) (x y p : Int) : Iv := if y < x ∧ onceV b p 12 = false then ⟨y, x⟩ else ⟨x, y⟩
def ivEndP (b : List Int) (x y p : Int) : Int := if y < x then belowP b p 12 else p
def ivY (b : List Int) (x p : Int) : Int := if addV x (belowV b p 30) < x then x else addV x (belowV b p 30)
def ivV (b : List Int) (p : Int) : Iv :=
  if belowV b (numP b p) 4 = 0 then ivEnd b (numV b p) (numV b (belowP b (numP b p) 4)) (numP b (belowP b (numP b p) 4))
  else if belowV b (numP b p) 4 = 1 ∨ belowV b (numP b p) 4 = 2 then ivEnd b (numV b p) (ivY b (numV b p) (belowP b (numP b p) 4)) (belowP b (belowP b (numP b p) 4) 30)
  else ivEnd b (numV b p) (numV b p) (belowP b (numP b p) 4)
def ivP (b : List Int) (p : Int) : Int :=
  if belowV b (numP b p) 4 = 0 then ivEndP b (numV b p) (numV b (belowP b (numP b p) 4)) (numP b (belowP b (numP b p) 4))
  else if belowV b (numP b p) 4 = 1 ∨ belowV b (numP b p) 4 = 2 then ivEndP b (numV b p) (ivY b (numV b p) (belowP b (numP b p) 4)) (belowP b (belowP b (numP b p) 4) 30)
  else ivEndP b (numV b p) (numV b p) (belowP b (numP b p) 4)
def FitI (a : Iv) : Prop := Fit a.lo ∧ Fit a.hi
theorem ivEnd_sw {x y q : Int} (h : y < x ∧ onceV b q 12 = false) : ivEnd b x y q = ⟨y, x⟩ := by unfold ivEnd; rw [if_pos h]
theorem ivEnd_no {x y q : Int} (h : ¬ y < x ∨ onceV b q 12 = true) : ivEnd b x y q = ⟨x, y⟩ := by unfold ivEnd; rw [if_neg (fun h9 => h.elim (fun h8 => h8 h9.1) fun h8 => by rw [h8] at h9; exact absurd h9.2 (by decide))]
theorem ivY_x {x q : Int} (h : addV x (belowV b q 30) < x) : ivY b x q = x := by unfold ivY; rw [if_pos h]
theorem ivY_y {x q : Int} (h : ¬ addV x (belowV b q 30) < x) : ivY b x q = addV x (belowV b q 30) := by unfold ivY; rw [if_neg h]
theorem ivV_0 (h : belowV b (numP b p) 4 = 0) : ivV b p = ivEnd b (numV b p) (numV b (belowP b (numP b p) 4)) (numP b (belowP b (numP b p) 4)) := by unfold ivV; rw [if_pos h]
theorem ivP_0 (h : belowV b (numP b p) 4 = 0) : ivP b p = ivEndP b (numV b p) (numV b (belowP b (numP b p) 4)) (numP b (belowP b (numP b p) 4)) := by unfold ivP; rw [if_pos h]
theorem ivV_1 (h0 : ¬ belowV b (numP b p) 4 = 0) (h : belowV b (numP b p) 4 = 1 ∨ belowV b (numP b p) 4 = 2) : ivV b p = ivEnd b (numV b p) (ivY b (numV b p) (belowP b (numP b p) 4)) (belowP b (belowP b (numP b p) 4) 30) := by unfold ivV; rw [if_neg h0, if_pos h]
theorem ivP_1 (h0 : ¬ belowV b (numP b p) 4 = 0) (h : belowV b (numP b p) 4 = 1 ∨ belowV b (numP b p) 4 = 2) : ivP b p = ivEndP b (numV b p) (ivY b (numV b p) (belowP b (numP b p) 4)) (belowP b (belowP b (numP b p) 4) 30) := by unfold ivP; rw [if_neg h0, if_pos h]
theorem ivV_2 (h0 : ¬ belowV b (numP b p) 4 = 0) (h1 : ¬ belowV b (numP b p) 4 = 1) (h2 : ¬ belowV b (numP b p) 4 = 2) : ivV b p = ivEnd b (numV b p) (numV b p) (belowP b (numP b p) 4) := by unfold ivV; rw [if_neg h0, if_neg (fun h => h.elim h1 h2)]
theorem ivP_2 (h0 : ¬ belowV b (numP b p) 4 = 0) (h1 : ¬ belowV b (numP b p) 4 = 1) (h2 : ¬ belowV b (numP b p) 4 = 2) : ivP b p = ivEndP b (numV b p) (numV b p) (belowP b (numP b p) 4) := by unfold ivP; rw [if_neg h0, if_neg (fun h => h.elim h1 h2)]
theorem ivEnd_fit {x y q : Int} (hx : Fit x) (hy : Fit y) : FitI (ivEnd b x y q) := by
  unfold ivEnd
  split
  · exact ⟨hy, hx⟩
  · exact ⟨hx, hy⟩
theorem Rdr.ok.ivEnd {x y q : Int} (h : Rdr.ok b q) : Rdr.ok b (ivEndP b x y q) := by
  unfold ivEndP; split
  · exact h.below
  · exact h
theorem iv_fit (h : Rdr.ok b p) : FitI (ivV b p) := by
  have hx := num_fit h
  unfold ivV
  repeat' split
  · exact ivEnd_fit hx (num_fit h.num.below)
  · refine ivEnd_fit hx ?_
    unfold ivY; split
    · exact hx
    · exact add_fit _ _
  · exact ivEnd_fit hx hx
theorem Rdr.ok.iv (h : Rdr.ok b p) : Rdr.ok b (ivP b p) := by
  unfold ivP
  repeat' split
  · exact h.num.below.num.ivEnd
  · exact h.num.below.below.ivEnd
  · exact h.num.below.ivEnd
def smallV (b : List Int) (p : Int) : Iv :=
  if onceV b p 6 = true then ⟨min (ivV b (belowP b p 6)).lo (ivV b (belowP b p 6)).hi, max (ivV b (belowP b p 6)).lo (ivV b (belowP b p 6)).hi⟩
  else ⟨belowV b (belowP b p 6) 20 - 8, belowV b (belowP b p 6) 20 - 8 + belowV b (belowP b (belowP b p 6) 20) 9⟩
def smallP (b : List Int) (p : Int) : Int := if onceV b p 6 = true then ivP b (belowP b p 6) else belowP b (belowP b (belowP b p 6) 20) 9
theorem Rdr.ok.small (h : Rdr.ok b p) : Rdr.ok b (smallP b p) := by
  unfold smallP; split
  · exact h.below.iv
  · exact h.below.below.below
theorem small_fit (h : Rdr.ok b p) : FitI (smallV b p) := by
  unfold smallV; split
  · have := iv_fit (h.below (n := 6))
    unfold FitI Fit at this ⊢
    simp only
    omega
  · have h1 := belowV_bnd (n := 20) (h.below (n := 6)) (by omega)
    have h2 := belowV_bnd (n := 9) ((h.below (n := 6)).below (n := 20)) (by omega)
    unfold FitI Fit
    simp only
    omega
theorem small_1 (h : onceV b p 6 = true) : smallV b p = ⟨min (ivV b (belowP b p 6)).lo (ivV b (belowP b p 6)).hi, max (ivV b (belowP b p 6)).lo (ivV b (belowP b p 6)).hi⟩ ∧ smallP b p = ivP b (belowP b p 6) := by
  unfold smallV smallP; rw [if_pos h, if_pos h]; exact ⟨rfl, rfl⟩
theorem small_2 (hr : Rdr.ok b p) (h : onceV b p 6 = false) : smallV b p = ⟨IntKind.wrap .i64 (belowV b (belowP b p 6) 20 - 8), IntKind.wrap .i64 (IntKind.wrap .i64 (belowV b (belowP b p 6) 20 - 8) + belowV b (belowP b (belowP b p 6) 20) 9)⟩ ∧ smallP b p = belowP b (belowP b (belowP b p 6) 20) 9 := by
  have h1 := belowV_bnd (n := 20) (hr.below (n := 6)) (by omega)
  have h2 := belowV_bnd (n := 9) ((hr.below (n := 6)).below (n := 20)) (by omega)
  unfold smallV smallP; rw [if_neg (by rw [h]; decide), if_neg (by rw [h]; decide), wrap_le (a := belowV b (belowP b p 6) 20 - 8) (by omega) (by omega), wrap_le (by omega) (by omega)]; exact ⟨rfl, rfl⟩
def smP (b : List Int) (p : Int) : Nat → Int
  | 0 => p
  | j + 1 => smallP b (smP b p j)
theorem Rdr.ok.sm (h : Rdr.ok b p) : ∀ j, Rdr.ok b (smP b p j)
  | 0 => h
  | j + 1 => (Rdr.ok.sm h j).small
def envP (b : List Int) (p : Int) (d : Decl) : Int :=
  if onceV b p 16 = true then belowP b p 16 else smP b (smP b (belowP b p 16) d.vars.length) d.arrays.length
theorem Rdr.ok.env {d : Decl} (h : Rdr.ok b p) : Rdr.ok b (envP b p d) := by
  unfold envP; split
  · exact h.below
  · exact (h.below.sm _).sm _
def hurtP (b : List Int) (p : Int) : Int := belowP b p 24
theorem Rdr.ok.hurt (h : Rdr.ok b p) : Rdr.ok b (hurtP b p) := h.below
def dcP1 (b : List Int) (p : Int) : Int := belowP b p 4
def dcP2 (b : List Int) (p : Int) : Int := belowP b (dcP1 b p) 2
def dcP3 (b : List Int) (p : Int) : Int := belowP b (dcP2 b p) 3
def dcP4 (b : List Int) (p : Int) : Int := if onceV b (dcP2 b p) 3 = true then belowP b (dcP3 b p) 4 else dcP3 b p
def dcP5 (b : List Int) (p : Int) : Int := belowP b (dcP4 b p) 2
def declP (b : List Int) (p : Int) : Int := if onceV b (dcP4 b p) 2 = true then belowP b (dcP5 b p) 6 else dcP5 b p
theorem Rdr.ok.decl (h : Rdr.ok b p) : Rdr.ok b (dcP1 b p) ∧ Rdr.ok b (dcP2 b p) ∧ Rdr.ok b (dcP3 b p) ∧ Rdr.ok b (dcP4 b p) ∧ Rdr.ok b (dcP5 b p) ∧ Rdr.ok b (declP b p) := by
  have h1 : Rdr.ok b (dcP1 b p) := h.below
  have h2 : Rdr.ok b (dcP2 b p) := h1.below
  have h3 : Rdr.ok b (dcP3 b p) := h2.below
  have h4 : Rdr.ok b (dcP4 b p) := by
    unfold dcP4; split
    · exact h3.below
    · exact h3
  have h5 : Rdr.ok b (dcP5 b p) := h4.below
  refine ⟨h1, h2, h3, h4, h5, ?_⟩
  unfold declP; split
  · exact h5.below
  · exact h5
theorem Rdr.ok.declP (h : Rdr.ok b p) : Rdr.ok b (declP b p) := h.decl.2.2.2.2.2
def nmP (b : List Int) (p : Int) : Nat → Int
  | 0 => p
  | j + 1 => numP b (nmP b p j)
theorem Rdr.ok.nm (h : Rdr.ok b p) : ∀ j, Rdr.ok b (nmP b p j)
  | 0 => h
  | j + 1 => (Rdr.ok.nm h j).num
def byteV (c : List Int) (i : Int) : Int := if (c.length : Int) = 0 then 0 else c.getD (Int.tmod i (c.length : Int)).toNat default
theorem byte_0 {c : List Int} {i : Int} (h : (c.length : Int) = 0) : byteV c i = 0 := by unfold byteV; rw [if_pos h]
theorem byte_1 {c : List Int} {i : Int} (h : ¬ (c.length : Int) = 0) : byteV c i = c.getD (Int.tmod i (c.length : Int)).toNat default := by unfold byteV; rw [if_neg h]
theorem byte_nn {c : List Int} {i : Int} (hi : 0 ≤ i ∧ i ≤ 1048576) (h : ¬ (c.length : Int) = 0) : Int.tmod i (c.length : Int) = ((Int.tmod i (c.length : Int)).toNat : Int) := by
  have := Int.tmod_nonneg (c.length : Int) hi.1; omega
theorem byte_lt {c : List Int} {i : Int} (hi : 0 ≤ i ∧ i ≤ 1048576) (h : ¬ (c.length : Int) = 0) : (Int.tmod i (c.length : Int)).toNat < c.length := by
  have h1 := Int.tmod_nonneg (c.length : Int) hi.1
  have h2 := Int.tmod_lt_of_pos i (b := (c.length : Int)) (by omega)
  omega
theorem wrap_u64_eq (z : Int) : IntKind.wrap .u64 z = z % 18446744073709551616 := by
  simp only [IntKind.wrap, IntKind.bits, IntKind.signed]; simp
theorem wrap_i64_eq (z : Int) : IntKind.wrap .i64 z = if z % 18446744073709551616 < 9223372036854775808 then z % 18446744073709551616 else z % 18446744073709551616 - 18446744073709551616 := by
  simp only [IntKind.wrap, IntKind.bits, IntKind.signed]
  simp
  split <;> split <;> omega
def wN (a : Iv) : Int := IntKind.wrap .u64 ((IntKind.wrap .u64 a.hi) - (IntKind.wrap .u64 a.lo))
def kV (c : List Int) (i : Int) : Int := IntKind.wrap .u64 (IntKind.wrap .i64 ((IntKind.wrap .i64 ((byteV c i) * 257)) + (byteV c (IntKind.wrap .i64 (i + 1)))))
def spread (a : Iv) (x : Int) : Int := IntKind.wrap .i64 (IntKind.wrap .u64 ((IntKind.wrap .u64 a.lo) + (Int.tmod x (IntKind.wrap .u64 (wN a + 1)))))
def inV (a : Iv) (c : List Int) (i : Int) : Int :=
  if Int.tmod (byteV c (IntKind.wrap .i64 (i + 2))) 4 = 0 then a.lo else if Int.tmod (byteV c (IntKind.wrap .i64 (i + 2))) 4 = 1 then a.hi
  else if IntKind.wrap .u64 (wN a + 1) = 0 then IntKind.wrap .i64 (IntKind.wrap .u64 (kV c i * 281474976710597)) else spread a (IntKind.wrap .u64 (kV c i * 281474976710597))
section
variable {a : Iv} {c : List Int} {i : Int}
theorem in_0 (h0 : Int.tmod (byteV c (IntKind.wrap .i64 (i + 2))) 4 = 0) : inV a c i = a.lo := by unfold inV; rw [if_pos h0]
theorem in_1 (h0 : ¬ Int.tmod (byteV c (IntKind.wrap .i64 (i + 2))) 4 = 0) (h1 : Int.tmod (byteV c (IntKind.wrap .i64 (i + 2))) 4 = 1) : inV a c i = a.hi := by unfold inV; rw [if_neg h0, if_pos h1]
theorem in_2 (h0 : ¬ Int.tmod (byteV c (IntKind.wrap .i64 (i + 2))) 4 = 0) (h1 : ¬ Int.tmod (byteV c (IntKind.wrap .i64 (i + 2))) 4 = 1) (h2 : IntKind.wrap .u64 (wN a + 1) = 0) : inV a c i = IntKind.wrap .i64 (IntKind.wrap .u64 (kV c i * 281474976710597)) := by
  unfold inV; rw [if_neg h0, if_neg h1, if_pos h2]
theorem in_3 (h0 : ¬ Int.tmod (byteV c (IntKind.wrap .i64 (i + 2))) 4 = 0) (h1 : ¬ Int.tmod (byteV c (IntKind.wrap .i64 (i + 2))) 4 = 1) (h2 : ¬ IntKind.wrap .u64 (wN a + 1) = 0) : inV a c i = spread a (IntKind.wrap .u64 (kV c i * 281474976710597)) := by
  unfold inV; rw [if_neg h0, if_neg h1, if_neg h2]
theorem wN_eq (hf : FitI a) (h : a.lo ≤ a.hi) : wN a = a.hi - a.lo := by
  unfold wN FitI Fit at *
  rw [wrap_u64_eq, wrap_u64_eq, wrap_u64_eq]; omega
theorem spread_in (hf : FitI a) (h : a.lo ≤ a.hi) {x : Int} (hx : 0 ≤ x) (h2 : ¬ IntKind.wrap .u64 (wN a + 1) = 0) : a.lo ≤ spread a x ∧ spread a x ≤ a.hi := by
  have e := wN_eq hf h
  unfold FitI Fit at hf
  unfold spread
  rw [wrap_u64_eq] at h2
  have e2 : IntKind.wrap .u64 (wN a + 1) = a.hi - a.lo + 1 := by rw [wrap_u64_eq, e]; rw [e] at h2; omega
  rw [e2]
  have h3 := Int.tmod_nonneg (a.hi - a.lo + 1) hx
  have h4 := Int.tmod_lt_of_pos x (b := a.hi - a.lo + 1) (by omega)
  generalize Int.tmod x (a.hi - a.lo + 1) = y at *
  rw [wrap_i64_eq, wrap_u64_eq, wrap_u64_eq]
  split <;> omega
theorem full_in (hf : FitI a) (h : a.lo ≤ a.hi) (x : Int) (h2 : IntKind.wrap .u64 (wN a + 1) = 0) : a.lo ≤ IntKind.wrap .i64 x ∧ IntKind.wrap .i64 x ≤ a.hi := by
  have e := wN_eq hf h
  have h3 := fit_wrap x
  unfold FitI Fit at hf
  unfold Fit at h3
  rw [wrap_u64_eq, e] at h2
  omega
theorem inV_in (hf : FitI a) (h : a.lo ≤ a.hi) : a.lo ≤ inV a c i ∧ inV a c i ≤ a.hi := by
  unfold inV
  split
  · omega
  · split
    · omega
    · split
      · exact full_in hf h _ ‹_›
      · exact spread_in hf h (wrap_u64_nn _) ‹_›
end
def htP (b : List Int) (p : Int) : Int := if belowV b p 24 = 1 then hurtP b (belowP b p 24) else belowP b p 24
theorem Rdr.ok.ht (h : Rdr.ok b p) : Rdr.ok b (htP b p) := by
  unfold htP; split
  · exact h.below.hurt
  · exact h.below
end Go.Proofs

namespace Go.Proofs
open Go Go.Ev
variable [Lay]
def fitN (x : Int) : Int := if -9223372036854775808 ≤ x ∧ x ≤ 9223372036854775807 then x else 0
def fitO (x : Int) : Int := if x > 9223372036854775807 then 1 else if x < -9223372036854775808 then -1 else 0
def fitC (x : Int) : Int := if -9223372036854775808 ≤ x ∧ x ≤ 9223372036854775807 then 0 else 6
theorem fitN_fit (x : Int) : Fit (fitN x) := by unfold fitN Fit; split <;> omega
theorem fit_in {x : Int} (h : Fit x) : fitN x = x ∧ fitO x = 0 ∧ fitC x = 0 := by
  unfold Fit at h; unfold fitN fitO fitC
  rw [if_pos h, if_neg (by omega), if_neg (by omega), if_pos h]; exact ⟨rfl, rfl, rfl⟩
theorem fit_big {x : Int} (h : x > 9223372036854775807) : fitN x = 0 ∧ fitO x = 1 ∧ fitC x = 6 := by
  unfold fitN fitO fitC
  rw [if_neg (by omega), if_pos h, if_neg (by omega)]; exact ⟨rfl, rfl, rfl⟩
theorem fit_low {x : Int} (h : x < -9223372036854775808) : fitN x = 0 ∧ fitO x = -1 ∧ fitC x = 6 := by
  unfold fitN fitO fitC
  rw [if_neg (by omega), if_neg (by omega), if_pos h, if_neg (by omega)]; exact ⟨rfl, rfl, rfl⟩
theorem fitO_ne {x : Int} (h : ¬ fitO x = 0) : fitC x = 6 ∧ fitN x = 0 := by
  unfold fitO at h; unfold fitC fitN
  split at h
  · rw [if_neg (by omega), if_neg (by omega)]; exact ⟨rfl, rfl⟩
  · split at h
    · rw [if_neg (by omega), if_neg (by omega)]; exact ⟨rfl, rfl⟩
    · exact absurd rfl h
theorem fitO_eq {x : Int} (h : fitO x = 0) : fitC x = 0 ∧ fitN x = x := by
  unfold fitO at h; unfold fitC fitN
  split at h
  · omega
  · split at h
    · omega
    · rw [if_pos (by omega), if_pos (by omega)]; exact ⟨rfl, rfl⟩
theorem addV_fit {a c : Int} (ha : Fit a) (hc : Fit c) : addV a c = fitN (a + c) ∧ addO a c = fitO (a + c) := by
  unfold Fit at ha hc
  by_cases h1 : c > 0 ∧ a > IntKind.wrap .i64 (9223372036854775807 - c)
  · have h2 := add_1 h1
    rw [wrap_le (by omega) (by omega)] at h1
    have h3 := fit_big (x := a + c) (by omega)
    rw [h2.1, h2.2, h3.1, h3.2.1]; exact ⟨rfl, rfl⟩
  · by_cases h4 : c < 0 ∧ a < IntKind.wrap .i64 (-9223372036854775808 - c)
    · have h2 := add_2 (by omega) h4
      rw [wrap_le (by omega) (by omega)] at h4
      have h3 := fit_low (x := a + c) (by omega)
      rw [h2.1, h2.2, h3.1, h3.2.1]; exact ⟨rfl, rfl⟩
    · have h2 := add_3 (a := a) (c := c) (by omega) (by omega)
      have h5 : Fit (a + c) := by
        unfold Fit
        by_cases h6 : c > 0
        · rw [wrap_le (by omega) (by omega)] at h1; omega
        · by_cases h7 : c < 0
          · rw [wrap_le (by omega) (by omega)] at h4; omega
          · omega
      have h3 := fit_in h5
      rw [h2.1, h2.2, h3.1, h3.2.1]
      unfold Fit at h5
      exact ⟨wrap_le h5.1 h5.2, rfl⟩
section
variable {a c : Int}
theorem sub_1 (ha : Fit a) (hc : Fit c) (h : c < 0 ∧ a > IntKind.wrap .i64 (9223372036854775807 + c)) : fitN (a - c) = 0 ∧ fitO (a - c) = 1 := by
  unfold Fit at ha hc
  rw [wrap_le (by omega) (by omega)] at h
  have h3 := fit_big (x := a - c) (by omega)
  exact ⟨h3.1, h3.2.1⟩
theorem sub_2 (ha : Fit a) (hc : Fit c) (h : c > 0 ∧ a < IntKind.wrap .i64 (-9223372036854775808 + c)) : fitN (a - c) = 0 ∧ fitO (a - c) = -1 := by
  unfold Fit at ha hc
  rw [wrap_le (by omega) (by omega)] at h
  have h3 := fit_low (x := a - c) (by omega)
  exact ⟨h3.1, h3.2.1⟩
theorem sub_3 (ha : Fit a) (hc : Fit c) (h1 : ¬ c < 0 ∨ ¬ a > IntKind.wrap .i64 (9223372036854775807 + c)) (h2 : ¬ c > 0 ∨ ¬ a < IntKind.wrap .i64 (-9223372036854775808 + c)) : fitN (a - c) = IntKind.wrap .i64 (a - c) ∧ fitO (a - c) = 0 := by
  unfold Fit at ha hc
  have h5 : Fit (a - c) := by
    unfold Fit
    by_cases h6 : c < 0
    · rw [wrap_le (by omega) (by omega)] at h1; omega
    · by_cases h7 : c > 0
      · rw [wrap_le (by omega) (by omega)] at h2; omega
      · omega
  have h3 := fit_in h5
  unfold Fit at h5
  rw [h3.1, h3.2.1, wrap_le h5.1 h5.2]; exact ⟨rfl, rfl⟩
def absN (a : Int) : Int := if a < 0 then -a else a
theorem absN_bnd (ha : Fit a) : 0 ≤ absN a ∧ absN a ≤ 9223372036854775808 := by unfold Fit at ha; unfold absN; split <;> omega
theorem abs_1' (ha : Fit a) (h : a < 0) : absN a = IntKind.wrap .u64 (0 - (IntKind.wrap .u64 a)) := by
  unfold Fit at ha; unfold absN; rw [if_pos h, wrap_u64_eq, wrap_u64_eq]; omega
theorem abs_2 (ha : Fit a) (h : ¬ a < 0) : absN a = IntKind.wrap .u64 a := by
  unfold Fit at ha; unfold absN; rw [if_neg h, wrap_u64_eq]; omega
theorem abs_mul (a c : Int) : a * c = if decide (a < 0) = decide (c < 0) then absN a * absN c else -(absN a * absN c) := by
  unfold absN
  by_cases h1 : a < 0 <;> by_cases h2 : c < 0 <;> simp [h1, h2, Int.neg_mul, Int.mul_neg]
def mulHi (x y : Int) : Int := x * y / 18446744073709551616
def mulLo (x y : Int) : Int := x * y % 18446744073709551616
def mostN (a c : Int) : Int := if decide (a < 0) = decide (c < 0) then 9223372036854775807 else 9223372036854775808
theorem abs_prod (ha : Fit a) (hc : Fit c) : 0 ≤ absN a * absN c := Int.mul_nonneg (absN_bnd ha).1 (absN_bnd hc).1
theorem hi_no (ha : Fit a) (hc : Fit c) {m : Int} (hm : 0 ≤ m ∧ m < 18446744073709551616) : (mulHi (absN a) (absN c) > 0 ∨ mulLo (absN a) (absN c) > m) ↔ absN a * absN c > m := by
  have h0 := abs_prod ha hc
  unfold mulHi mulLo
  generalize absN a * absN c = q at *
  omega
theorem mul_over (hg : absN a * absN c > mostN a c) : fitN (a * c) = 0 ∧ fitO (a * c) = if decide (a < 0) = decide (c < 0) then 1 else -1 := by
  rw [abs_mul a c]
  unfold mostN at hg
  generalize absN a * absN c = q at *
  by_cases h : decide (a < 0) = decide (c < 0)
  · simp only [if_pos h] at *
    have := fit_big hg
    exact ⟨this.1, this.2.1⟩
  · simp only [if_neg h] at *
    have := fit_low (x := -q) (by omega)
    exact ⟨this.1, this.2.1⟩
theorem mul_fits (ha : Fit a) (hc : Fit c) (hg : ¬ absN a * absN c > mostN a c) : Fit (a * c) := by
  rw [abs_mul a c]
  have h0 := abs_prod ha hc
  unfold mostN at hg
  generalize absN a * absN c = q at *
  unfold Fit
  by_cases h : decide (a < 0) = decide (c < 0)
  · simp only [if_pos h] at *; omega
  · simp only [if_neg h] at *; omega
theorem mul_low (ha : Fit a) (hc : Fit c) (hg : ¬ absN a * absN c > mostN a c) (h : ¬ decide (a < 0) = decide (c < 0)) : a * c = IntKind.wrap .i64 (IntKind.wrap .u64 (-(mulLo (absN a) (absN c)))) := by
  have h1 := mul_fits ha hc hg
  have h0 := abs_prod ha hc
  have h2 := abs_mul a c
  unfold mostN at hg
  unfold mulLo
  rw [if_neg h] at h2 hg
  unfold Fit at h1
  generalize absN a * absN c = q at *
  rw [wrap_i64_eq, wrap_u64_eq]
  omega
theorem mul_low' (ha : Fit a) (hc : Fit c) (hg : ¬ absN a * absN c > mostN a c) (h : ¬ decide (a < 0) = decide (c < 0)) : a * c = IntKind.wrap .i64 (IntKind.wrap .u64 (0 - (mulLo (absN a) (absN c)))) := by
  rw [Int.zero_sub]; exact mul_low ha hc hg h
theorem mul_high (ha : Fit a) (hc : Fit c) (hg : ¬ absN a * absN c > mostN a c) (h : decide (a < 0) = decide (c < 0)) : a * c = IntKind.wrap .i64 (mulLo (absN a) (absN c)) := by
  have h1 := mul_fits ha hc hg
  have h0 := abs_prod ha hc
  have h2 := abs_mul a c
  unfold mostN at hg
  unfold mulLo
  rw [if_pos h] at h2 hg
  unfold Fit at h1
  generalize absN a * absN c = q at *
  rw [wrap_i64_eq]
  omega
section
variable {a c : Int}
theorem most_ne (h : ¬ decide (a < 0) = decide (c < 0)) : mostN a c = 9223372036854775808 := by unfold mostN; rw [if_neg h]
theorem most_eq (h : decide (a < 0) = decide (c < 0)) : mostN a c = 9223372036854775807 := by unfold mostN; rw [if_pos h]
theorem wrap_most : IntKind.wrap .u64 (9223372036854775807 + 1) = 9223372036854775808 := by rw [wrap_u64_eq]; decide
theorem imul_0 (ha : Fit a) (hc : Fit c) (h : ¬ decide (a < 0) = decide (c < 0)) (h2 : mulHi (absN a) (absN c) > 0 ∨ mulLo (absN a) (absN c) > IntKind.wrap .u64 (9223372036854775807 + 1)) : fitN (a * c) = 0 ∧ fitO (a * c) = bif decide (a < 0) != decide (c < 0) then -1 else 1 := by
  rw [wrap_most] at h2
  have h3 := mul_over (a := a) (c := c) (by rw [most_ne h]; exact (hi_no ha hc (by omega)).1 h2)
  rw [if_neg h] at h3
  refine ⟨h3.1, h3.2.trans ?_⟩
  rw [bne_iff_ne.2 h]; rfl
theorem imul_1 (ha : Fit a) (hc : Fit c) (h : ¬ decide (a < 0) = decide (c < 0)) (h2 : ¬ mulHi (absN a) (absN c) > 0 ∧ ¬ mulLo (absN a) (absN c) > IntKind.wrap .u64 (9223372036854775807 + 1)) : fitN (a * c) = IntKind.wrap .i64 (IntKind.wrap .u64 (0 - mulLo (absN a) (absN c))) ∧ fitO (a * c) = 0 := by
  rw [wrap_most] at h2
  have hg : ¬ absN a * absN c > mostN a c := by rw [most_ne h]; exact fun h9 => ((hi_no ha hc (by omega)).2 h9).elim h2.1 h2.2
  have h4 := fit_in (mul_fits ha hc hg)
  rw [h4.1, h4.2.1, ← mul_low' ha hc hg h]; exact ⟨rfl, rfl⟩
theorem imul_3 (ha : Fit a) (hc : Fit c) (h : decide (a < 0) = decide (c < 0)) (h2 : mulHi (absN a) (absN c) > 0 ∨ mulLo (absN a) (absN c) > 9223372036854775807) : fitN (a * c) = 0 ∧ fitO (a * c) = bif decide (a < 0) != decide (c < 0) then -1 else 1 := by
  have h3 := mul_over (a := a) (c := c) (by rw [most_eq h]; exact (hi_no ha hc (by omega)).1 h2)
  rw [if_pos h] at h3
  refine ⟨h3.1, h3.2.trans ?_⟩
  rw [h]; simp
theorem imul_5 (ha : Fit a) (hc : Fit c) (h : decide (a < 0) = decide (c < 0)) (h2 : ¬ mulHi (absN a) (absN c) > 0 ∧ ¬ mulLo (absN a) (absN c) > 9223372036854775807) : fitN (a * c) = IntKind.wrap .i64 (mulLo (absN a) (absN c)) ∧ fitO (a * c) = 0 := by
  have hg : ¬ absN a * absN c > mostN a c := by rw [most_eq h]; exact fun h9 => ((hi_no ha hc (by omega)).2 h9).elim h2.1 h2.2
  have h4 := fit_in (mul_fits ha hc hg)
  rw [h4.1, h4.2.1, ← mul_high ha hc hg h]; exact ⟨rfl, rfl⟩
end
theorem nat_of {x : Int} (h : 0 ≤ x ∧ x ≤ 9223372036854775808) : ∃ n : Nat, x = n ∧ n < 18446744073709551616 := ⟨x.toNat, by omega, by omega⟩
theorem mask_eq {a : Nat} (ha : a < 18446744073709551616) : IntKind.wrap .u64 ((BitVec.ofInt (IntKind.bits .u64) (a : Int) &&& BitVec.ofInt (IntKind.bits .u64) 4294967295).toNat : Int) = ((a % 4294967296 : Nat) : Int) := by
  have h1 : (BitVec.ofInt (IntKind.bits .u64) (a : Int) &&& BitVec.ofInt (IntKind.bits .u64) 4294967295).toNat = a % 4294967296 := by
    rw [BitVec.toNat_and]
    have e1 : (BitVec.ofInt (IntKind.bits .u64) (a : Int)).toNat = a := by
      rw [BitVec.toNat_ofInt]; simp only [IntKind.bits]; omega
    have e2 : (BitVec.ofInt (IntKind.bits .u64) 4294967295).toNat = 2 ^ 32 - 1 := by decide
    rw [e1, e2, Nat.and_two_pow_sub_one_eq_mod]
  rw [h1, wrap_u64_eq]; omega
theorem shr_eq (a : Nat) : (a : Int).fdiv (2 ^ (min ((32 : Int)).toNat (IntKind.bits .u64))) = ((a / 4294967296 : Nat) : Int) := by
  have e : (2 : Int) ^ (min ((32 : Int)).toNat (IntKind.bits .u64)) = 4294967296 := by decide
  rw [e, Int.fdiv_eq_ediv_of_nonneg _ (by omega)]; omega
theorem mulw_eq {a b : Nat} (h : a * b < 18446744073709551616) : IntKind.wrap .u64 ((a : Int) * (b : Int)) = ((a * b : Nat) : Int) := by
  rw [wrap_u64_eq, ← Int.natCast_mul]; omega
theorem addw_eq {a b : Nat} (h : a + b < 18446744073709551616) : IntKind.wrap .u64 ((a : Int) + (b : Int)) = ((a + b : Nat) : Int) := by
  rw [wrap_u64_eq]; omega
theorem mul64_lo9 {x y : Int} (hx : 0 ≤ x ∧ x ≤ 9223372036854775808) (hy : 0 ≤ y ∧ y ≤ 9223372036854775808) : IntKind.wrap .u64 (x * y) = mulLo x y := by
  rw [wrap_u64_eq]; rfl
theorem mul64_hi9 {x y : Int} (hx : 0 ≤ x ∧ x ≤ 9223372036854775808) (hy : 0 ≤ y ∧ y ≤ 9223372036854775808) : IntKind.wrap .u64 (IntKind.wrap .u64 (IntKind.wrap .u64 ((x).fdiv (2 ^ (min ((32 : Int)).toNat (IntKind.bits .u64))) * (y).fdiv (2 ^ (min ((32 : Int)).toNat (IntKind.bits .u64)))) + (IntKind.wrap .u64 (IntKind.wrap .u64 ((x).fdiv (2 ^ (min ((32 : Int)).toNat (IntKind.bits .u64))) * IntKind.wrap .u64 ((BitVec.ofInt (IntKind.bits .u64) (y) &&& BitVec.ofInt (IntKind.bits .u64) 4294967295).toNat : Int)) + (IntKind.wrap .u64 (IntKind.wrap .u64 ((BitVec.ofInt (IntKind.bits .u64) (x) &&& BitVec.ofInt (IntKind.bits .u64) 4294967295).toNat : Int) * IntKind.wrap .u64 ((BitVec.ofInt (IntKind.bits .u64) (y) &&& BitVec.ofInt (IntKind.bits .u64) 4294967295).toNat : Int))).fdiv (2 ^ (min ((32 : Int)).toNat (IntKind.bits .u64))))).fdiv (2 ^ (min ((32 : Int)).toNat (IntKind.bits .u64)))) + (IntKind.wrap .u64 (IntKind.wrap .u64 ((BitVec.ofInt (IntKind.bits .u64) (IntKind.wrap .u64 (IntKind.wrap .u64 ((x).fdiv (2 ^ (min ((32 : Int)).toNat (IntKind.bits .u64))) * IntKind.wrap .u64 ((BitVec.ofInt (IntKind.bits .u64) (y) &&& BitVec.ofInt (IntKind.bits .u64) 4294967295).toNat : Int)) + (IntKind.wrap .u64 (IntKind.wrap .u64 ((BitVec.ofInt (IntKind.bits .u64) (x) &&& BitVec.ofInt (IntKind.bits .u64) 4294967295).toNat : Int) * IntKind.wrap .u64 ((BitVec.ofInt (IntKind.bits .u64) (y) &&& BitVec.ofInt (IntKind.bits .u64) 4294967295).toNat : Int))).fdiv (2 ^ (min ((32 : Int)).toNat (IntKind.bits .u64))))) &&& BitVec.ofInt (IntKind.bits .u64) 4294967295).toNat : Int) + IntKind.wrap .u64 (IntKind.wrap .u64 ((BitVec.ofInt (IntKind.bits .u64) (x) &&& BitVec.ofInt (IntKind.bits .u64) 4294967295).toNat : Int) * (y).fdiv (2 ^ (min ((32 : Int)).toNat (IntKind.bits .u64)))))).fdiv (2 ^ (min ((32 : Int)).toNat (IntKind.bits .u64)))) = mulHi x y := by
  obtain ⟨m, rfl, hm⟩ := nat_of hx
  obtain ⟨n, rfl, hn⟩ := nat_of hy
  obtain ⟨bd, bt, bw, hhi⟩ := Lib.mul64_hi m n hm hn
  have ba := Lib.half_mul_le (a := m / 4294967296) (b := n / 4294967296) (by omega) (by omega)
  have bb := Lib.half_mul_le (a := m / 4294967296) (b := n % 4294967296) (by omega) (by omega)
  have bc := Lib.half_mul_le (a := m % 4294967296) (b := n / 4294967296) (by omega) (by omega)
  rw [mask_eq hm, mask_eq hn, shr_eq, shr_eq, mulw_eq bd, shr_eq, mulw_eq (a := m / 4294967296) (b := n % 4294967296) (by omega), addw_eq bt, shr_eq, mask_eq bt, mulw_eq (a := m % 4294967296) (b := n / 4294967296) (by omega), addw_eq bw, shr_eq, mulw_eq (a := m / 4294967296) (b := n / 4294967296) (by omega), addw_eq (by omega), addw_eq (by omega), hhi]
  unfold mulHi; rw [← Int.natCast_mul]; omega
def quoN (a c : Int) : Int := if c = 0 then 0 else fitN (Int.tdiv a c)
def quoO (a c : Int) : Int := if c = 0 then 0 else fitO (Int.tdiv a c)
def remN (a c : Int) : Int := if c = 0 then 0 else Int.tmod a c
theorem tdiv_bnd (ha : Fit a) (h : ¬ (a = -9223372036854775808 ∧ c = -1)) : Fit (Int.tdiv a c) := by
  unfold Fit at *
  have h1 : (Int.tdiv a c).natAbs = a.natAbs / c.natAbs := Int.natAbs_tdiv a c
  by_cases e : c = 0
  · subst e; simp
  · have h2 : a.natAbs / c.natAbs ≤ a.natAbs := Nat.div_le_self _ _
    by_cases e1 : c = 1
    · subst e1; simp; omega
    · by_cases e2 : c = -1
      · subst e2; simp; omega
      · have h3 : 2 ≤ c.natAbs := by omega
        have h4 : a.natAbs / c.natAbs ≤ a.natAbs / 2 := Nat.div_le_div_left h3 (by omega)
        omega
theorem quo_end (ha : Fit a) (h0 : ¬ c = 0) (h : ¬ a = -9223372036854775808 ∨ ¬ c = -1) : quoN a c = IntKind.wrap .i64 (Int.tdiv a c) ∧ quoO a c = 0 := by
  have h1 := tdiv_bnd (c := c) ha (by omega)
  have h2 := fit_in h1
  unfold Fit at h1
  unfold quoN quoO
  rw [if_neg h0, if_neg h0, h2.1, h2.2.1, wrap_le h1.1 h1.2]; exact ⟨rfl, rfl⟩
theorem quo_neg (ha : Fit a) (h : c = -1) : quoN a c = fitN (0 - a) ∧ quoO a c = fitO (0 - a) := by
  subst h; unfold quoN quoO
  rw [if_neg (by decide), if_neg (by decide)]
  have : Int.tdiv a (-1) = 0 - a := by rw [Int.tdiv_neg, Int.tdiv_one, Int.zero_sub]
  rw [this]; exact ⟨rfl, rfl⟩
theorem rem_no (h : c = 0 ∨ c = -1) : remN a c = 0 := by
  unfold remN; rcases h with h | h
  · rw [if_pos h]
  · subst h; rw [if_neg (by decide)]; simp
theorem rem_end (h : ¬ c = 0) : remN a c = Int.tmod a c := by unfold remN; rw [if_neg h]
end
def cmpB (op a b : Int) : Bool := if op = 13 then decide (a < b) else if op = 14 then decide (a ≤ b) else if op = 15 then a == b else if op = 16 then a != b else if op = 17 then decide (a > b) else decide (a ≥ b)
def apN (op a b : Int) : Int := if op = 8 then fitN (a + b) else if op = 9 then fitN (a - b) else if op = 10 then fitN (a * b) else if op = 20 then min a b else if op = 21 then max a b
  else if op = 11 then quoN a b else if op = 12 then remN a b else truthN (cmpB op a b)
def apC (op a b : Int) : Int := if op = 8 then fitC (a + b) else if op = 9 then fitC (a - b) else if op = 10 then fitC (a * b) else if op = 20 then 0 else if op = 21 then 0
  else if op = 11 then (if b = 0 then 4 else fitC (Int.tdiv a b)) else if op = 12 then (if b = 0 then 4 else 0) else 0
theorem truthN_01 (b : Bool) : truthN b = 0 ∨ truthN b = 1 := by cases b; exact .inl rfl; exact .inr rfl
def ftN (n w : Int) : Int := if w = 0 then n else 0
def ftC (w : Int) : Int := if w = 0 then 0 else 6
theorem ft_fit (x : Int) : ftN (fitN x) (fitO x) = fitN x ∧ ftC (fitO x) = fitC x := by
  unfold ftN ftC
  by_cases h : fitO x = 0
  · rw [if_pos h, if_pos h, (fitO_eq h).1]; exact ⟨rfl, rfl⟩
  · rw [if_neg h, if_neg h, (fitO_ne h).1, (fitO_ne h).2]; exact ⟨rfl, rfl⟩
section
variable {op a b : Int}
theorem ap_8 (ha : Fit a) (hb : Fit b) (h : op = 8) : ftN (addV a b) (addO a b) = apN op a b ∧ ftC (addO a b) = apC op a b := by
  subst h; rw [(addV_fit ha hb).1, (addV_fit ha hb).2]; exact ft_fit _
theorem ap_9 (h : op = 9) : ftN (fitN (a - b)) (fitO (a - b)) = apN op a b ∧ ftC (fitO (a - b)) = apC op a b := by subst h; exact ft_fit _
theorem ap_10 (h : op = 10) : ftN (fitN (a * b)) (fitO (a * b)) = apN op a b ∧ ftC (fitO (a * b)) = apC op a b := by subst h; exact ft_fit _
theorem ap_20 (h : op = 20) : min a b = apN op a b ∧ 0 = apC op a b := by subst h; exact ⟨rfl, rfl⟩
theorem ap_21 (h : op = 21) : max a b = apN op a b ∧ 0 = apC op a b := by subst h; exact ⟨rfl, rfl⟩
theorem ap_div (h : op = 11 ∨ op = 12) (h0 : b = 0) : 0 = apN op a b ∧ 4 = apC op a b := by subst h0; rcases h with h | h <;> subst h <;> exact ⟨rfl, rfl⟩
theorem ap_12 (h : op = 12) (h0 : ¬ b = 0) : remN a b = apN op a b ∧ 0 = apC op a b := by
  subst h; refine ⟨rfl, ?_⟩
  show 0 = if b = 0 then 4 else 0
  rw [if_neg h0]
theorem ap_11 (h : op = 11) (h0 : ¬ b = 0) : ftN (quoN a b) (quoO a b) = apN op a b ∧ ftC (quoO a b) = apC op a b := by
  subst h
  have e1 : quoN a b = fitN (Int.tdiv a b) := by unfold quoN; rw [if_neg h0]
  have e2 : quoO a b = fitO (Int.tdiv a b) := by unfold quoO; rw [if_neg h0]
  have h1 := ft_fit (Int.tdiv a b)
  rw [e1, e2]
  refine ⟨h1.1.trans e1.symm, ?_⟩
  rw [h1.2]
  show fitC _ = if b = 0 then 4 else fitC (Int.tdiv a b)
  rw [if_neg h0]
theorem ap_cmp (h : ¬ op = 8 ∧ ¬ op = 9 ∧ ¬ op = 10 ∧ ¬ op = 20 ∧ ¬ op = 21 ∧ ¬ op = 11 ∧ ¬ op = 12) : truthN (cmpB op a b) = apN op a b ∧ 0 = apC op a b := by
  obtain ⟨h1, h2, h3, h4, h5, h6, h7⟩ := h
  unfold apN apC
  rw [if_neg h1, if_neg h2, if_neg h3, if_neg h4, if_neg h5, if_neg h6, if_neg h7, if_neg h1, if_neg h2, if_neg h3, if_neg h4, if_neg h5, if_neg h6, if_neg h7]
  exact ⟨rfl, rfl⟩
end
def thingV (s : Store) (t : Tok) : Int := if t.op = 1 then t.n else if t.op = 2 then s.ints.getD t.n.toNat default else if t.op = 3 then truthN (s.flags.getD t.n.toNat default) else truthN (t.op == 4)
def ofN (s : Store) (t : Tok) (a : Int) : Int := if t.op = 6 then (if inR a 0 (((s.arrs.getD t.n.toNat default).length : Int) - 1) = true then (s.arrs.getD t.n.toNat default).getD a.toNat default else 0) else if t.op = 7 then fitN (0 - a) else 1 - a
def ofC (s : Store) (t : Tok) (a : Int) : Int := if t.op = 6 then (if inR a 0 (((s.arrs.getD t.n.toNat default).length : Int) - 1) = true then 0 else 5) else if t.op = 7 then fitC (0 - a) else 0
section
variable {s : Store} {t : Tok} {a : Int}
theorem of_6n (h : t.op = 6) (h1 : inR a 0 (((s.arrs.getD t.n.toNat default).length : Int) - 1) = false) : 0 = ofN s t a ∧ 5 = ofC s t a := by
  unfold ofN ofC; rw [if_pos h, if_pos h, if_neg (by rw [h1]; decide), if_neg (by rw [h1]; decide)]; exact ⟨rfl, rfl⟩
theorem of_6 (h : t.op = 6) (h1 : inR a 0 (((s.arrs.getD t.n.toNat default).length : Int) - 1) = true) : (s.arrs.getD t.n.toNat default).getD a.toNat default = ofN s t a ∧ 0 = ofC s t a := by
  unfold ofN ofC; rw [if_pos h, if_pos h, if_pos h1, if_pos h1]; exact ⟨rfl, rfl⟩
theorem of_7 (h : t.op = 7) : ftN (fitN (0 - a)) (fitO (0 - a)) = ofN s t a ∧ ftC (fitO (0 - a)) = ofC s t a := by
  have h6 : ¬ t.op = 6 := by omega
  unfold ofN ofC; rw [if_neg h6, if_neg h6, if_pos h, if_pos h]; exact ft_fit _
theorem of_19 (h : ¬ t.op = 6) (h2 : ¬ t.op = 7) : 1 - a = ofN s t a ∧ 0 = ofC s t a := by
  unfold ofN ofC; rw [if_neg h, if_neg h, if_neg h2, if_neg h2]; exact ⟨rfl, rfl⟩
end
def topN (p : List Int) (i : Nat) : Int := p.getD (p.length - i) default
def opN (s : Store) (p : List Int) (t : Tok) : Int := if takesN t.op = 0 then thingV s t else if takesN t.op = 1 then ofN s t (topN p 1) else apN t.op (topN p 2) (topN p 1)
def opC (s : Store) (p : List Int) (t : Tok) : Int := if takesN t.op = 0 then 0 else if takesN t.op = 1 then ofC s t (topN p 1) else apC t.op (topN p 2) (topN p 1)
def nxP (s : Store) (p : List Int) (t : Tok) : List Int := p.take (p.length - (takesN t.op).toNat) ++ [opN s p t]
def evS (s : Store) (l : List Tok) : Nat → Int × List Int
  | 0 => (0, [])
  | j + 1 => if (evS s l j).1 = 0 then (if opC s (evS s l j).2 (l.getD j default) = 0 then (0, nxP s (evS s l j).2 (l.getD j default)) else (opC s (evS s l j).2 (l.getD j default), [])) else evS s l j
def evN (s : Store) (l : List Tok) : Int := if (evS s l l.length).1 = 0 then (evS s l l.length).2.getD 0 default else 0
def evC (s : Store) (l : List Tok) : Int := (evS s l l.length).1
def Eval.n (d : Decl) (l : List Tok) (s : Store) : Int := if Store.ok d s = true ∧ ¬ Expr.kind d l = 0 then evN s l else 0
def Eval.c (d : Decl) (l : List Tok) (s : Store) : Int := if Store.ok d s = true ∧ ¬ Expr.kind d l = 0 then evC s l else 1
section
variable {s : Store} {l : List Tok} {j : Nat} {p : List Int}
theorem evS_go (h : evS s l j = (0, p)) (hc : opC s p (l.getD j default) = 0) : evS s l (j + 1) = (0, nxP s p (l.getD j default)) := by
  rw [evS, h, if_pos rfl, if_pos hc]
theorem evS_bad (h : evS s l j = (0, p)) (hc : ¬ opC s p (l.getD j default) = 0) : evS s l (j + 1) = (opC s p (l.getD j default), []) := by
  rw [evS, h, if_pos rfl, if_neg hc]
theorem evS_stay (h : ¬ (evS s l j).1 = 0) : ∀ n, evS s l (j + n) = evS s l j
  | 0 => rfl
  | n + 1 => by rw [← Nat.add_assoc, evS, evS_stay h n, if_neg h]
theorem ev_bad (h : evS s l j = (0, p)) (hj : j < l.length) (hc : ¬ opC s p (l.getD j default) = 0) : evN s l = 0 ∧ evC s l = opC s p (l.getD j default) := by
  have h1 := evS_bad h hc
  have h2 := evS_stay (s := s) (l := l) (j := j + 1) (by rw [h1]; exact hc) (l.length - (j + 1))
  rw [show j + 1 + (l.length - (j + 1)) = l.length by omega, h1] at h2
  unfold evN evC
  rw [h2, if_neg hc]; exact ⟨rfl, rfl⟩
theorem ev_end (h : evS s l j = (0, p)) (hj : l.length ≤ j) (hj2 : j ≤ l.length) : evN s l = p.getD 0 default ∧ evC s l = 0 := by
  have : j = l.length := by omega
  subst this
  unfold evN evC; rw [h, if_pos rfl]; exact ⟨rfl, rfl⟩
end
def FitS (s : Store) : Prop := (∀ x ∈ s.ints, Fit x) ∧ ∀ a ∈ s.arrs, ∀ x ∈ a, Fit x
def PileI (d : Decl) (l : List Tok) (j : Nat) (p : List Int) : Prop := ∃ k, kdS d l j = some k ∧ k.length = p.length ∧ (∀ i, i < p.length → Fit (p.getD i default)) ∧ ∀ i, i < p.length → k.getD i default = 2 → p.getD i default = 0 ∨ p.getD i default = 1
theorem PileI.zero {d : Decl} {l : List Tok} : PileI d l 0 [] := ⟨[], rfl, rfl, fun i hi => absurd hi (by simp), fun i hi => absurd hi (by simp)⟩
structure NextI (d : Decl) (s : Store) (p : List Int) (t : Tok) : Prop where
  ok : 1 ≤ t.op ∧ t.op ≤ 21
  n0 : takesN t.op ≤ p.length
  num : t.op = 1 → Fit t.n
  zero : t.op = 5 → t.n = 0
  var : t.op = 2 → 0 ≤ t.n ∧ t.n < s.ints.length
  flag : t.op = 3 → 0 ≤ t.n ∧ t.n < s.flags.length
  arr : t.op = 6 → 0 ≤ t.n ∧ t.n < s.arrs.length
  f1 : 1 ≤ takesN t.op → Fit (topN p 1)
  f2 : 2 ≤ takesN t.op → Fit (topN p 2)
  t1 : t.op = 19 ∨ t.op = 20 ∨ t.op = 21 → topN p 1 = 0 ∨ topN p 1 = 1
  t2 : t.op = 20 ∨ t.op = 21 → topN p 2 = 0 ∨ topN p 2 = 1
theorem kd_next_some {d : Decl} {l : List Tok} (hk : ¬ Expr.kind d l = 0) {j : Nat} (hj : j ≤ l.length) : ∃ k, kdS d l j = some k := by
  cases h : kdS d l j with
  | none => exact absurd (kind_none hj h) hk
  | some k => exact ⟨k, rfl⟩
theorem kd_step_eq {d : Decl} {l : List Tok} (hk : ¬ Expr.kind d l = 0) {j : Nat} (hj : j < l.length) {k : List Int} (h : kdS d l j = some k) :
    Tok.ok d (l.getD j default) = true ∧ kdS d l (j + 1) = some (k.take (k.length - (takesN (l.getD j default).op).toNat) ++ [kdL (l.getD j default).op]) ∧ takesN (l.getD j default).op ≤ k.length ∧
    (1 ≤ takesN (l.getD j default).op → k.getD (k.length - 1) default = kdT (l.getD j default).op) ∧ (2 ≤ takesN (l.getD j default).op → k.getD (k.length - 2) default = kdT (l.getD j default).op) := by
  obtain ⟨k2, h2⟩ := kd_next_some hk (j := j + 1) hj
  generalize ht : l.getD j default = t at *
  have ho : Tok.ok d t = true := by
    cases e : Tok.ok d t with
    | true => rfl
    | false => rw [kdS_bad h (by rw [ht]; exact e)] at h2; cases h2
  have h3 := kdS_go h (by rw [ht]; exact ho)
  rw [h2, ht] at h3
  obtain ⟨a1, a2, a3⟩ := takes_same (Tok.ok_op ho)
  unfold kst at h3
  split at h3
  · rename_i hc
    simp only [Option.some.injEq] at h3
    have e1 : (takesN t.op).toNat = (takesL t.op).length := by omega
    have hd : ∀ i, i < (takesL t.op).length → k.getD (k.length - (takesL t.op).length + i) default = kdT t.op := fun i hi => by
      have h5 : k[k.length - (takesL t.op).length + i]? = (takesL t.op)[i]? := by rw [← List.getElem?_drop, hc.2]
      rw [List.getD_eq_getElem?_getD, h5, List.getElem?_eq_getElem hi]
      exact a2 _ (List.getElem_mem hi)
    refine ⟨ho, by rw [h2, h3, e1, a3], by omega, fun h1 => ?_, fun h1 => ?_⟩
    · have := hd ((takesL t.op).length - 1) (by omega)
      rwa [show k.length - (takesL t.op).length + ((takesL t.op).length - 1) = k.length - 1 by omega] at this
    · have h9 := takesN_bnd t.op
      have := hd 0 (by omega)
      rwa [show k.length - (takesL t.op).length + 0 = k.length - 2 by omega] at this
  · cases h3
theorem kdT_truth {op : Int} (h : op = 19 ∨ op = 20 ∨ op = 21) : kdT op = 2 := by rcases h with h | h | h <;> subst h <;> decide
theorem next_of {d : Decl} {l : List Tok} {s : Store} {j : Nat} {p : List Int} (hk : ¬ Expr.kind d l = 0) (hs : Store.okIn d s = true) (hj : j < l.length) (hp : PileI d l j p) : NextI d s p (l.getD j default) := by
  obtain ⟨k, h1, h2, h3, h4⟩ := hp
  obtain ⟨o, _, n0, k1, k2⟩ := kd_step_eq hk hj h1
  generalize l.getD j default = t at *
  have hl := Store.okIn_len hs
  have hn := takesN_bnd t.op
  have o' := o
  unfold Tok.ok at o'
  refine ⟨Tok.ok_op o, by omega, fun h => ?_, fun h => ?_, fun h => ?_, fun h => ?_, fun h => ?_, fun h => ?_, fun h => ?_, fun h => ?_, fun h => ?_⟩
  · rw [if_pos h, inR_iff] at o'; unfold Fit; omega
  · rw [if_neg (by omega), if_neg (by omega), if_neg (by omega), if_neg (by omega)] at o'; simp at o'; exact o'.2
  · rw [if_neg (by omega), if_pos h, inR_iff] at o'; omega
  · rw [if_neg (by omega), if_neg (by omega), if_pos h, inR_iff] at o'; omega
  · rw [if_neg (by omega), if_neg (by omega), if_neg (by omega), if_pos h, inR_iff] at o'; omega
  · unfold topN; exact h3 _ (by omega)
  · unfold topN; exact h3 _ (by omega)
  · have ht : 1 ≤ takesN t.op := by rcases h with h | h | h <;> rw [h] <;> decide
    unfold topN
    exact h4 _ (by omega) (by rw [← h2, k1 ht]; exact kdT_truth h)
  · have ht : 2 ≤ takesN t.op := by rcases h with h | h <;> rw [h] <;> decide
    unfold topN
    exact h4 _ (by omega) (by rw [← h2, k2 ht]; exact kdT_truth (.inr h))
theorem getD_all {α : Type} [Inhabited α] {P : α → Prop} {a : List α} (h : ∀ x ∈ a, P x) {i : Nat} (hi : i < a.length) : P (a.getD i default) := h _ (getD_mem hi)
theorem apN_fit {op a b : Int} (ha : Fit a) (hb : Fit b) : Fit (apN op a b) := by
  unfold apN
  repeat' split
  · exact fitN_fit _
  · exact fitN_fit _
  · exact fitN_fit _
  · unfold Fit at *; omega
  · unfold Fit at *; omega
  · unfold quoN; split
    · unfold Fit; omega
    · exact fitN_fit _
  · unfold remN; split
    · unfold Fit; omega
    · have h1 : (Int.tmod a b).natAbs ≤ a.natAbs := by rw [Int.natAbs_tmod]; exact Nat.mod_le _ _
      unfold Fit at *
      have h2 : a = -9223372036854775808 → Int.tmod a b ≤ 0 := fun e => by
        have := Int.tmod_nonneg b (a := -a) (by omega)
        rw [Int.neg_tmod] at this; omega
      omega
  · have := truthN_01 (cmpB op a b); unfold Fit; omega
theorem kdL_truth {op : Int} (h : 1 ≤ op ∧ op ≤ 21) (h2 : kdL op = 2) : op = 3 ∨ op = 4 ∨ op = 5 ∨ 13 ≤ op := by
  unfold kdL at h2
  split at h2
  · omega
  · split at h2
    · omega
    · omega
theorem step_fit {d : Decl} {s : Store} {p : List Int} {t : Tok} (hf : FitS s) (h : NextI d s p t) : Fit (opN s p t) := by
  have hn := takesN_bnd t.op
  unfold opN
  split
  · unfold thingV
    repeat' split
    · exact h.num ‹_›
    · have := h.var ‹_›; exact getD_all hf.1 (by omega)
    · have := truthN_01 (s.flags.getD t.n.toNat default); unfold Fit; omega
    · have := truthN_01 (t.op == 4); unfold Fit; omega
  · split
    · unfold ofN
      have h1 := h.f1 (by omega)
      repeat' split
      · rename_i h6 h7
        rw [inR_iff] at h7
        have := h.arr h6
        exact getD_all (getD_all hf.2 (i := t.n.toNat) (by omega)) (by omega)
      · unfold Fit; omega
      · exact fitN_fit _
      · rename_i h6 h7
        have h0 : takesN t.op = 1 := by assumption
        have h8 : t.op = 19 := by
          have := h.ok
          unfold takesN at h0
          split at h0
          · omega
          · split at h0
            · omega
            · omega
        have := h.t1 (.inl h8)
        unfold Fit; omega
    · exact apN_fit (h.f2 (by omega)) (h.f1 (by omega))
theorem step_truth {d : Decl} {s : Store} {p : List Int} {t : Tok} (h : NextI d s p t) (hl : kdL t.op = 2) : opN s p t = 0 ∨ opN s p t = 1 := by
  have ho := kdL_truth h.ok hl
  have hn := h.ok
  have h1 := h.t1
  have h2 := h.t2
  unfold opN
  rcases ho with e | e | e | e
  · rw [if_pos (by rw [e]; decide)]; unfold thingV; rw [if_neg (by omega), if_neg (by omega), if_pos e]; exact truthN_01 _
  · rw [if_pos (by rw [e]; decide)]; unfold thingV; rw [if_neg (by omega), if_neg (by omega), if_neg (by omega)]; exact truthN_01 _
  · rw [if_pos (by rw [e]; decide)]; unfold thingV; rw [if_neg (by omega), if_neg (by omega), if_neg (by omega)]; exact truthN_01 _
  · by_cases e19 : t.op = 19
    · rw [if_neg (by rw [e19]; decide), if_pos (by rw [e19]; decide)]
      unfold ofN; rw [if_neg (by omega), if_neg (by omega)]
      have := h1 (.inl e19); omega
    · have ht : takesN t.op = 2 := by unfold takesN; rw [if_neg (by omega), if_neg (by omega)]
      rw [if_neg (by omega), if_neg (by omega)]
      unfold apN
      rw [if_neg (by omega), if_neg (by omega), if_neg (by omega)]
      split
      · have := h1 (by omega); have := h2 (by omega); omega
      · split
        · have := h1 (by omega); have := h2 (by omega); omega
        · rw [if_neg (by omega), if_neg (by omega)]; exact truthN_01 _
theorem PileI.next {d : Decl} {l : List Tok} {s : Store} {j : Nat} {p : List Int} (hk : ¬ Expr.kind d l = 0) (hs : Store.okIn d s = true) (hf : FitS s) (hj : j < l.length) (hp : PileI d l j p) : PileI d l (j + 1) (nxP s p (l.getD j default)) := by
  have hn := next_of hk hs hj hp
  obtain ⟨k, h1, h2, h3, h4⟩ := hp
  obtain ⟨o, e, n0, k1, k2⟩ := kd_step_eq hk hj h1
  have hn2 := takesN_bnd (l.getD j default).op
  refine ⟨_, e, ?_, fun i hi => ?_, fun i hi => ?_⟩
  · unfold nxP; simp only [List.length_append, List.length_take, List.length_singleton]; omega
  all_goals
    unfold nxP at hi ⊢
    simp only [List.length_append, List.length_take, List.length_singleton] at hi
    by_cases hi2 : i < p.length - (takesN (l.getD j default).op).toNat
  · rw [getD_app1 (by rw [List.length_take]; omega), List.getD_eq_getElem?_getD, List.getElem?_take_of_lt hi2, ← List.getD_eq_getElem?_getD]
    exact h3 i (by omega)
  · have e2 : i = (p.take (p.length - (takesN (l.getD j default).op).toNat)).length + 0 := by rw [List.length_take]; omega
    rw [e2, getD_app2]
    exact step_fit hf hn
  · rw [getD_app1 (by rw [List.length_take]; omega), getD_app1 (by rw [List.length_take]; omega), List.getD_eq_getElem?_getD, List.getElem?_take_of_lt (by omega), ← List.getD_eq_getElem?_getD, List.getD_eq_getElem?_getD (l := p.take _), List.getElem?_take_of_lt hi2, ← List.getD_eq_getElem?_getD]
    exact h4 i (by omega)
  · have e2 : i = (p.take (p.length - (takesN (l.getD j default).op).toNat)).length + 0 := by rw [List.length_take]; omega
    have e3 : i = (k.take (k.length - (takesN (l.getD j default).op).toNat)).length + 0 := by rw [List.length_take]; omega
    intro hkd
    rw [e3, getD_app2] at hkd
    rw [e2, getD_app2]
    exact step_truth hn hkd
section
variable {s : Store} {p : List Int} {t : Tok}
theorem thing_eq {x : Int} (h : x = thingV s t) (h0 : takesN t.op = 0) : p.take ((p.length : Int) - takesN t.op).toNat ++ [x] = nxP s p t ∧ opC s p t = 0 := by
  unfold nxP opN opC
  rw [if_pos h0, if_pos h0, h, show ((p.length : Int) - takesN t.op).toNat = p.length - (takesN t.op).toNat by omega]; exact ⟨rfl, rfl⟩
theorem of_eq (h1 : takesN t.op = 1) : p.take ((p.length : Int) - takesN t.op).toNat ++ [ofN s t (p.getD ((p.length : Int) - takesN t.op).toNat default)] = nxP s p t ∧ opC s p t = ofC s t (p.getD ((p.length : Int) - takesN t.op).toNat default) := by
  unfold nxP opN opC topN
  rw [if_neg (by omega), if_pos h1, if_neg (by omega), if_pos h1, show ((p.length : Int) - takesN t.op).toNat = p.length - (takesN t.op).toNat by omega, h1]; exact ⟨rfl, rfl⟩
theorem ap_eq (h2 : takesN t.op = 2) (hl : 2 ≤ p.length) : p.take ((p.length : Int) - takesN t.op).toNat ++ [apN t.op (p.getD ((p.length : Int) - takesN t.op).toNat default) (p.getD ((p.length : Int) - takesN t.op + 1).toNat default)] = nxP s p t ∧
    opC s p t = apC t.op (p.getD ((p.length : Int) - takesN t.op).toNat default) (p.getD ((p.length : Int) - takesN t.op + 1).toNat default) := by
  unfold nxP opN opC topN
  rw [if_neg (by omega), if_neg (by omega), if_neg (by omega), if_neg (by omega), h2, show ((p.length : Int) - 2).toNat = p.length - 2 by omega, show ((p.length : Int) - 2 + 1).toNat = p.length - 1 by omega]; exact ⟨rfl, rfl⟩
end
section
variable {s : Store} {p : List Int} {t : Tok}
end
section
variable {s : Store} {l : List Tok} {j : Nat} {p : List Int}
theorem ev_bad1 (h : evS s l j = (0, p)) (hj : j < l.length) (h1 : takesN (l.getD j default).op = 1) (hc : ¬ ofC s (l.getD j default) (p.getD ((p.length : Int) - takesN (l.getD j default).op).toNat default) = 0) : 0 = evN s l ∧ ofC s (l.getD j default) (p.getD ((p.length : Int) - takesN (l.getD j default).op).toNat default) = evC s l := by
  rw [← (of_eq h1).2] at hc ⊢
  have h2 := ev_bad h hj hc
  exact ⟨h2.1.symm, h2.2.symm⟩
theorem ev_bad2 (h : evS s l j = (0, p)) (hj : j < l.length) (h2 : takesN (l.getD j default).op = 2) (hl : 2 ≤ p.length) (hc : ¬ apC (l.getD j default).op (p.getD ((p.length : Int) - takesN (l.getD j default).op).toNat default) (p.getD ((p.length : Int) - takesN (l.getD j default).op + 1).toNat default) = 0) :
    0 = evN s l ∧ apC (l.getD j default).op (p.getD ((p.length : Int) - takesN (l.getD j default).op).toNat default) (p.getD ((p.length : Int) - takesN (l.getD j default).op + 1).toNat default) = evC s l := by
  rw [← (ap_eq h2 hl).2] at hc ⊢
  have h3 := ev_bad h hj hc
  exact ⟨h3.1.symm, h3.2.symm⟩
end
theorem next_top {d : Decl} {s : Store} {p : List Int} {t : Tok} (h : NextI d s p t) : (takesN t.op = 1 → Fit (p.getD ((p.length : Int) - takesN t.op).toNat default) ∧ (¬ t.op = 6 → ¬ t.op = 7 → p.getD ((p.length : Int) - takesN t.op).toNat default = 0 ∨ p.getD ((p.length : Int) - takesN t.op).toNat default = 1)) ∧
    (takesN t.op = 2 → (Fit (p.getD ((p.length : Int) - takesN t.op).toNat default) ∧ Fit (p.getD ((p.length : Int) - takesN t.op + 1).toNat default)) ∧ (t.op = 20 → (p.getD ((p.length : Int) - takesN t.op).toNat default = 0 ∨ p.getD ((p.length : Int) - takesN t.op).toNat default = 1) ∧ (p.getD ((p.length : Int) - takesN t.op + 1).toNat default = 0 ∨ p.getD ((p.length : Int) - takesN t.op + 1).toNat default = 1))) := by
  have hn := h.n0
  have ho := h.ok
  refine ⟨fun h1 => ?_, fun h2 => ?_⟩
  · rw [show ((p.length : Int) - takesN t.op).toNat = p.length - 1 by omega]
    refine ⟨h.f1 (by omega), fun h6 h7 => h.t1 (.inl ?_)⟩
    unfold takesN at h1
    split at h1
    · omega
    · split at h1 <;> omega
  · rw [show ((p.length : Int) - takesN t.op).toNat = p.length - 2 by omega, show ((p.length : Int) - takesN t.op + 1).toNat = p.length - 1 by omega]
    exact ⟨⟨h.f2 (by omega), h.f1 (by omega)⟩, fun h20 => ⟨h.t2 (.inl h20), h.t1 (.inr (.inl h20))⟩⟩
theorem kind_len {d : Decl} {l : List Tok} (hk : ¬ Expr.kind d l = 0) : l.length ≤ 40 := by
  by_cases h : l.length ≤ 40
  · exact h
  · exact absurd (kind_long h) hk
theorem pile_end {d : Decl} {l : List Tok} {j : Nat} {p : List Int} (hk : ¬ Expr.kind d l = 0) (hj : l.length ≤ j) (hj2 : j ≤ l.length) (hp : PileI d l j p) : p.length = 1 := by
  have e : j = l.length := by omega
  subst e
  obtain ⟨k, h1, h2, _⟩ := hp
  by_cases h : k.length = 1
  · omega
  · exact absurd (kind_many rfl h1 h) hk
theorem pile_len {d : Decl} {l : List Tok} {j : Nat} {p : List Int} (hp : PileI d l j p) : p.length ≤ j := by
  obtain ⟨k, h1, h2, _⟩ := hp
  have := kdS_len h1; omega
theorem kindIn_ok {d : Decl} {l : List Tok} {s : Store} (h : Store.ok d s = true) : Expr.kindIn d l = Expr.kind d l := by
  unfold Expr.kindIn; rw [if_pos (Bool.and_eq_true_iff.1 h).1]
theorem eval_no {d : Decl} {l : List Tok} {s : Store} (h : Store.ok d s = false ∨ Expr.kind d l = 0) : 0 = Eval.n d l s ∧ 1 = Eval.c d l s := by
  have h1 : ¬ (Store.ok d s = true ∧ ¬ Expr.kind d l = 0) := fun h9 => by
    rcases h with h | h
    · rw [h] at h9; exact absurd h9.1 (by decide)
    · exact h9.2 h
  unfold Eval.n Eval.c; rw [if_neg h1, if_neg h1]; exact ⟨rfl, rfl⟩
theorem eval_yes {d : Decl} {l : List Tok} {s : Store} (h : Store.ok d s = true ∧ ¬ Expr.kind d l = 0) : evN s l = Eval.n d l s ∧ evC s l = Eval.c d l s := by
  unfold Eval.n Eval.c; rw [if_pos h, if_pos h]; exact ⟨rfl, rfl⟩
end Go.Proofs

namespace Go.Proofs
open Go Go.Ev
variable [Lay]
def mayB (op : Int) (a b : Iv) : Bool := if op = 13 then decide (a.lo < b.hi) else if op = 14 then decide (a.lo ≤ b.hi) else if op = 15 then (decide (a.lo ≤ b.hi) && decide (b.lo ≤ a.hi)) else if op = 16 then !(a.lo == a.hi && b.lo == b.hi && a.lo == b.lo) else if op = 17 then decide (b.lo < a.hi) else decide (b.lo ≤ a.hi)
def oppN (op : Int) : Int := if op = 13 then 18 else if op = 14 then 17 else if op = 15 then 16 else if op = 16 then 15 else if op = 17 then 14 else 13
def turnN (op : Int) : Int := if op = 13 then 17 else if op = 14 then 18 else if op = 17 then 13 else if op = 18 then 14 else op
def cmI (op : Int) (a b : Iv) : Iv := ⟨if mayB (oppN op) a b = true then 0 else 1, if mayB op a b = true then 1 else 0⟩
def cmB (op : Int) (a b : Iv) : Bool := inR op 13 18 && (Iv.ok a && Iv.ok b)
def cmV (op : Int) (a b : Iv) : Iv := if cmB op a b = true then cmI op a b else ⟨0, 0⟩
def rfO (op : Int) (a b : Iv) : Iv := if op = 13 then ⟨a.lo, min a.hi (b.hi - 1)⟩ else if op = 14 then ⟨a.lo, min a.hi b.hi⟩ else if op = 15 then ⟨max a.lo b.lo, min a.hi b.hi⟩
  else if op = 16 then (if b.lo = b.hi ∧ a.lo = b.lo then ⟨a.lo + 1, a.hi⟩ else if b.lo = b.hi ∧ a.hi = b.lo then ⟨a.lo, a.hi - 1⟩ else a)
  else if op = 17 then ⟨max a.lo (b.lo + 1), a.hi⟩ else ⟨max a.lo b.lo, a.hi⟩
def rfB (op : Int) (a b : Iv) : Bool := cmB op a b && Iv.ok (rfO op a b)
def rfV (op : Int) (a b : Iv) : Iv := if rfB op a b = true then rfO op a b else ⟨0, 0⟩
theorem cmB_no {op : Int} {a b : Iv} (h : (inR op 13 18 = false ∨ Iv.ok a = false) ∨ Iv.ok b = false) : cmB op a b = false := by
  unfold cmB; rcases h with (h | h) | h <;> rw [h] <;> simp
theorem cmB_no2 {op : Int} {a b : Iv} (h : inR op 13 18 = false ∨ (Iv.ok a = false ∨ Iv.ok b = false)) : cmB op a b = false := cmB_no (by rcases h with h | h | h; exact .inl (.inl h); exact .inl (.inr h); exact .inr h)
theorem cmB_yes {op : Int} {a b : Iv} (h : (inR op 13 18 = true ∧ Iv.ok a = true) ∧ Iv.ok b = true) : cmB op a b = true := by unfold cmB; rw [h.1.1, h.1.2, h.2]; rfl
theorem cmV_no {op : Int} {a b : Iv} (h : cmB op a b = false) : cmV op a b = ⟨0, 0⟩ := by unfold cmV; rw [if_neg (by rw [h]; decide)]
theorem cmV_yes {op : Int} {a b : Iv} (h : cmB op a b = true) : cmV op a b = cmI op a b := by unfold cmV; rw [if_pos h]
theorem rf_no {op : Int} {a b : Iv} (h : cmB op a b = false) : rfB op a b = false ∧ rfV op a b = ⟨0, 0⟩ := by
  have h1 : rfB op a b = false := by unfold rfB; rw [h]; rfl
  refine ⟨h1, ?_⟩; unfold rfV; rw [if_neg (by rw [h1]; decide)]
theorem rf_dead {op : Int} {a b : Iv} (h : Iv.ok (rfO op a b) = false) : rfB op a b = false ∧ rfV op a b = ⟨0, 0⟩ := by
  have h1 : rfB op a b = false := by unfold rfB; rw [h, Bool.and_false]
  refine ⟨h1, ?_⟩; unfold rfV; rw [if_neg (by rw [h1]; decide)]
theorem rf_live {op : Int} {a b : Iv} (hc : cmB op a b = true) (h : Iv.ok (rfO op a b) = true) : rfB op a b = true ∧ rfV op a b = rfO op a b := by
  have h1 : rfB op a b = true := by unfold rfB; rw [hc, h]; rfl
  refine ⟨h1, ?_⟩; unfold rfV; rw [if_pos h1]
theorem rf_meet {op : Int} {a b c : Iv} (hc : cmB op a b = true) (h : Iv.meet a c = rfO op a b) (hk : Iv.ok c = true) : Iv.meets a c = rfB op a b ∧ Iv.meetOk a c = rfV op a b := by
  have hc' := hc
  unfold cmB at hc'
  simp only [Bool.and_eq_true] at hc'
  have h1 : Iv.meets a c = rfB op a b := by unfold Iv.meets rfB; rw [h, hc, hk, hc'.2.1]; rfl
  refine ⟨h1, ?_⟩
  unfold Iv.meetOk rfV; rw [h1, h]
theorem iv_ok_iff {a : Iv} : Iv.ok a = true ↔ a.lo ≤ a.hi := by unfold Iv.ok; simp
theorem iv_no_iff {a : Iv} : Iv.ok a = false ↔ ¬ a.lo ≤ a.hi := by unfold Iv.ok; simp
section
variable {op : Int} {a b : Iv}
theorem cm_get (h : cmB op a b = true) : (13 ≤ op ∧ op ≤ 18) ∧ a.lo ≤ a.hi ∧ b.lo ≤ b.hi := by
  unfold cmB at h; simp only [Bool.and_eq_true, iv_ok_iff, inR_iff] at h; exact ⟨h.1, h.2.1, h.2.2⟩
theorem may_all (h : cmB op a b = true) : mayB op a b = true ∨ mayB (oppN op) a b = true := by
  obtain ⟨h1, h2, h3⟩ := cm_get h
  have h4 : op = 13 ∨ op = 14 ∨ op = 15 ∨ op = 16 ∨ op = 17 ∨ op = 18 := by omega
  rcases h4 with rfl | rfl | rfl | rfl | rfl | rfl <;> simp [mayB, oppN] <;> omega
theorem opp_opp (h : 13 ≤ op ∧ op ≤ 18) : oppN (oppN op) = op := by
  have h4 : op = 13 ∨ op = 14 ∨ op = 15 ∨ op = 16 ∨ op = 17 ∨ op = 18 := by omega
  rcases h4 with rfl | rfl | rfl | rfl | rfl | rfl <;> rfl
theorem opp_in (h : 13 ≤ op ∧ op ≤ 18) : 13 ≤ oppN op ∧ oppN op ≤ 18 := by
  have h4 : op = 13 ∨ op = 14 ∨ op = 15 ∨ op = 16 ∨ op = 17 ∨ op = 18 := by omega
  rcases h4 with rfl | rfl | rfl | rfl | rfl | rfl <;> decide
theorem turn_may (h : 17 ≤ op ∧ op ≤ 18) : mayB (turnN op) b a = mayB op a b := by
  have h4 : op = 17 ∨ op = 18 := by omega
  rcases h4 with rfl | rfl <;> rfl
theorem turn_in (h : 17 ≤ op ∧ op ≤ 18) : 13 ≤ turnN op ∧ turnN op ≤ 14 := by
  have h4 : op = 17 ∨ op = 18 := by omega
  rcases h4 with rfl | rfl <;> decide
theorem may_of {x y : Int} (h1 : 13 ≤ op ∧ op ≤ 18) (hx : a.lo ≤ x ∧ x ≤ a.hi) (hy : b.lo ≤ y ∧ y ≤ b.hi) (h : cmpB op x y = true) : mayB op a b = true := by
  have h4 : op = 13 ∨ op = 14 ∨ op = 15 ∨ op = 16 ∨ op = 17 ∨ op = 18 := by omega
  rcases h4 with rfl | rfl | rfl | rfl | rfl | rfl <;> simp [mayB, cmpB] at h ⊢ <;> omega
theorem cmp_opp {x y : Int} (h1 : 13 ≤ op ∧ op ≤ 18) : cmpB (oppN op) x y = !cmpB op x y := by
  have h4 : op = 13 ∨ op = 14 ∨ op = 15 ∨ op = 16 ∨ op = 17 ∨ op = 18 := by omega
  rcases h4 with rfl | rfl | rfl | rfl | rfl | rfl <;> rw [Bool.eq_iff_iff] <;> simp [cmpB, oppN]
theorem cm_has {x y : Int} (h : cmB op a b = true) (hx : a.lo ≤ x ∧ x ≤ a.hi) (hy : b.lo ≤ y ∧ y ≤ b.hi) : Iv.has (cmI op a b) (truthN (cmpB op x y)) = true := by
  obtain ⟨h1, _, _⟩ := cm_get h
  have q1 := may_of (op := op) h1 hx hy
  have q2 := may_of (op := oppN op) (opp_in h1) hx hy
  rw [cmp_opp h1] at q2
  unfold Iv.has cmI
  rw [inR_iff]
  cases hb : cmpB op x y with
  | true => rw [q1 hb]; show (if mayB (oppN op) a b = true then 0 else 1) ≤ (1 : Int) ∧ (1 : Int) ≤ 1; split <;> omega
  | false => rw [q2 (by rw [hb]; rfl)]; show (0 : Int) ≤ 0 ∧ (0 : Int) ≤ (if mayB op a b = true then 1 else 0); split <;> omega
theorem rf_has {x y : Int} (h : cmB op a b = true) (hx : a.lo ≤ x ∧ x ≤ a.hi) (hy : b.lo ≤ y ∧ y ≤ b.hi) (hb : cmpB op x y = true) : rfB op a b = true ∧ Iv.has (rfV op a b) x = true := by
  obtain ⟨h1, h2, h3⟩ := cm_get h
  have key : (rfO op a b).lo ≤ x ∧ x ≤ (rfO op a b).hi := by
    have h4 : op = 13 ∨ op = 14 ∨ op = 15 ∨ op = 16 ∨ op = 17 ∨ op = 18 := by omega
    rcases h4 with rfl | rfl | rfl | rfl | rfl | rfl <;> simp [cmpB] at hb <;> simp [rfO] <;> (repeat' split) <;> (try dsimp only) <;> omega
  have h5 := rf_live h (iv_ok_iff.2 (by omega))
  refine ⟨h5.1, ?_⟩
  rw [h5.2]; unfold Iv.has; rw [inR_iff]; exact key
theorem rf_leq (h : rfB op a b = true) : Iv.leq (rfV op a b) a = true := by
  have h' := h
  unfold rfB at h'
  rw [Bool.and_eq_true] at h'
  obtain ⟨h1, h2, h3⟩ := cm_get h'.1
  have e : rfV op a b = rfO op a b := by unfold rfV; rw [if_pos h]
  have h6 := iv_ok_iff.1 h'.2
  rw [e]
  unfold Iv.leq
  simp only [Bool.and_eq_true, decide_eq_true_eq, iv_ok_iff]
  refine ⟨⟨⟨h6, h2⟩, ?_⟩, ?_⟩ <;> (unfold rfO; (repeat' split) <;> (try dsimp only) <;> omega)
end
section
variable {op : Int} {a b : Iv}
theorem rf_eq (hc : cmB op a b = true) (h : op = 15) : Iv.meets a b = rfB op a b ∧ Iv.meetOk a b = rfV op a b := by
  subst h; exact rf_meet hc rfl (iv_ok_iff.2 (cm_get hc).2.2)
theorem rf_le (hc : cmB op a b = true) (hf : FitI a ∧ FitI b) (h : op = 14) : Iv.meets a ⟨-9223372036854775808, b.hi⟩ = rfB op a b ∧ Iv.meetOk a ⟨-9223372036854775808, b.hi⟩ = rfV op a b := by
  subst h; unfold FitI Fit at hf
  refine rf_meet hc ?_ (iv_ok_iff.2 (by dsimp only; omega))
  show (⟨max a.lo (-9223372036854775808), min a.hi b.hi⟩ : Iv) = ⟨a.lo, min a.hi b.hi⟩
  rw [show max a.lo (-9223372036854775808) = a.lo by omega]
theorem rf_ge (hc : cmB op a b = true) (hf : FitI a ∧ FitI b) (h : op = 18) : Iv.meets a ⟨b.lo, 9223372036854775807⟩ = rfB op a b ∧ Iv.meetOk a ⟨b.lo, 9223372036854775807⟩ = rfV op a b := by
  subst h; unfold FitI Fit at hf
  refine rf_meet hc ?_ (iv_ok_iff.2 (by dsimp only; omega))
  show (⟨max a.lo b.lo, min a.hi 9223372036854775807⟩ : Iv) = ⟨max a.lo b.lo, a.hi⟩
  rw [show min a.hi 9223372036854775807 = a.hi by omega]
theorem rf_lt (hc : cmB op a b = true) (hf : FitI a ∧ FitI b) (h : op = 13) (hm : ¬ b.hi = -9223372036854775808) : Iv.meets a ⟨-9223372036854775808, IntKind.wrap .i64 (b.hi - 1)⟩ = rfB op a b ∧ Iv.meetOk a ⟨-9223372036854775808, IntKind.wrap .i64 (b.hi - 1)⟩ = rfV op a b := by
  subst h; unfold FitI Fit at hf
  rw [wrap_le (by omega) (by omega)]
  refine rf_meet hc ?_ (iv_ok_iff.2 (by dsimp only; omega))
  show (⟨max a.lo (-9223372036854775808), min a.hi (b.hi - 1)⟩ : Iv) = ⟨a.lo, min a.hi (b.hi - 1)⟩
  rw [show max a.lo (-9223372036854775808) = a.lo by omega]
theorem rf_gt (hc : cmB op a b = true) (hf : FitI a ∧ FitI b) (h : op = 17) (hm : ¬ b.lo = 9223372036854775807) : Iv.meets a ⟨IntKind.wrap .i64 (b.lo + 1), 9223372036854775807⟩ = rfB op a b ∧ Iv.meetOk a ⟨IntKind.wrap .i64 (b.lo + 1), 9223372036854775807⟩ = rfV op a b := by
  subst h; unfold FitI Fit at hf
  rw [wrap_le (by omega) (by omega)]
  refine rf_meet hc ?_ (iv_ok_iff.2 (by dsimp only; omega))
  show (⟨max a.lo (b.lo + 1), min a.hi 9223372036854775807⟩ : Iv) = ⟨max a.lo (b.lo + 1), a.hi⟩
  rw [show min a.hi 9223372036854775807 = a.hi by omega]
theorem rf_lt0 (hf : FitI a ∧ FitI b) (h : op = 13) (hm : b.hi = -9223372036854775808) : rfB op a b = false ∧ rfV op a b = ⟨0, 0⟩ := by
  subst h; unfold FitI Fit at hf
  exact rf_dead (iv_no_iff.2 (by simp [rfO]; omega))
theorem rf_gt0 (hf : FitI a ∧ FitI b) (h : op = 17) (hm : b.lo = 9223372036854775807) : rfB op a b = false ∧ rfV op a b = ⟨0, 0⟩ := by
  subst h; unfold FitI Fit at hf
  exact rf_dead (iv_no_iff.2 (by simp [rfO]; omega))
def unB (a b : Iv) : Bool := Iv.ok (rfO 16 a b)
def unV (a b : Iv) : Iv := if unB a b = true then rfO 16 a b else ⟨0, 0⟩
theorem rf_ne (hc : cmB op a b = true) (h : op = 16) : unB a b = rfB op a b ∧ unV a b = rfV op a b := by
  subst h
  have e : unB a b = rfB 16 a b := by unfold unB rfB; rw [hc]; rfl
  refine ⟨e, ?_⟩; unfold unV rfV; rw [e]
end
section
variable {op : Int} {a b X : Iv}
theorem rf_endn (h : X = rfO op a b) (hk : Iv.ok X = false) : 0 = (rfV op a b).lo ∧ 0 = (rfV op a b).hi ∧ false = rfB op a b := by
  subst h
  have := rf_dead hk
  rw [this.1, this.2]; exact ⟨rfl, rfl, rfl⟩
theorem rf_endy (hc : cmB op a b = true) (h : X = rfO op a b) (hk : Iv.ok X = true) : X.lo = (rfV op a b).lo ∧ X.hi = (rfV op a b).hi ∧ true = rfB op a b := by
  subst h
  have := rf_live hc hk
  rw [this.1, this.2]; exact ⟨rfl, rfl, rfl⟩
theorem rf_nil (h : rfB op a b = false ∧ rfV op a b = ⟨0, 0⟩) : 0 = (rfV op a b).lo ∧ 0 = (rfV op a b).hi ∧ false = rfB op a b := by
  rw [h.1, h.2]; exact ⟨rfl, rfl, rfl⟩
theorem rf_pair {x : Bool} {v : Iv} (h : x = rfB op a b ∧ v = rfV op a b) : v.lo = (rfV op a b).lo ∧ v.hi = (rfV op a b).hi ∧ x = rfB op a b := by
  rw [h.1, h.2]; exact ⟨rfl, rfl, rfl⟩
theorem rfx_13 (h : op = 13) : (⟨a.lo, min a.hi (b.hi - 1)⟩ : Iv) = rfO op a b := by subst h; rfl
theorem rfx_14 (h : op = 14) : (⟨a.lo, min a.hi b.hi⟩ : Iv) = rfO op a b := by subst h; rfl
theorem rfx_17 (h : op = 17) : (⟨max a.lo (b.lo + 1), a.hi⟩ : Iv) = rfO op a b := by subst h; rfl
theorem rfx_18 (h : op = 18) : (⟨max a.lo b.lo, a.hi⟩ : Iv) = rfO op a b := by subst h; rfl
theorem rfx_16 (h : op = 16) : rfO op a b = if b.lo = b.hi ∧ a.lo = b.lo then ⟨a.lo + 1, a.hi⟩ else if b.lo = b.hi ∧ a.hi = b.lo then ⟨a.lo, a.hi - 1⟩ else a := by subst h; rfl
theorem opp_list (h : 13 ≤ op ∧ op ≤ 18) : ([18, 17, 16, 15, 14, 13] : List Int).getD (op - 13).toNat default = oppN op := by
  have h4 : op = 13 ∨ op = 14 ∨ op = 15 ∨ op = 16 ∨ op = 17 ∨ op = 18 := by omega
  rcases h4 with rfl | rfl | rfl | rfl | rfl | rfl <;> rfl
theorem un_e1 (h : op = 16) (h1 : b.lo = b.hi ∧ a.lo = b.lo) : (⟨a.lo + 1, a.hi⟩ : Iv) = rfO op a b := by rw [rfx_16 h, if_pos h1]
theorem un_e2 (h : op = 16) (h1 : ¬ (b.lo = b.hi ∧ a.lo = b.lo)) (h2 : b.lo = b.hi ∧ a.hi = b.lo) : (⟨a.lo, a.hi - 1⟩ : Iv) = rfO op a b := by rw [rfx_16 h, if_neg h1, if_pos h2]
theorem un_e3 (h : op = 16) (h1 : ¬ (b.lo = b.hi ∧ a.lo = b.lo)) (h2 : ¬ (b.lo = b.hi ∧ a.hi = b.lo)) : (⟨a.lo, a.hi⟩ : Iv) = rfO op a b := by rw [rfx_16 h, if_neg h1, if_neg h2]
theorem un_dead (h : op = 16) (hb : b.lo = b.hi) (ha : a.lo = a.hi) (he : a.lo = b.lo) : rfB op a b = false ∧ rfV op a b = ⟨0, 0⟩ := by
  refine rf_dead ?_
  rw [rfx_16 h, if_pos ⟨hb, he⟩, iv_no_iff]; dsimp only; omega
theorem un_a (h : ¬ b.lo = b.hi ∨ (¬ b.lo = a.lo ∧ ¬ b.lo = a.hi)) (ha : a.lo ≤ a.hi) : a.lo = (unV a b).lo ∧ a.hi = (unV a b).hi ∧ true = unB a b := by
  have e : rfO 16 a b = a := by rw [rfx_16 rfl, if_neg (by omega), if_neg (by omega)]
  have e1 : unB a b = true := by unfold unB; rw [e]; exact iv_ok_iff.2 ha
  unfold unV; rw [e1, if_pos rfl, e]; exact ⟨rfl, rfl, rfl⟩
theorem un_b (h : b.lo = b.hi ∧ (b.lo = a.lo ∨ b.lo = a.hi)) (ha : a.lo = a.hi) : 0 = (unV a b).lo ∧ 0 = (unV a b).hi ∧ false = unB a b := by
  have e1 : unB a b = false := by
    unfold unB; rw [rfx_16 rfl, if_pos (by omega), iv_no_iff]; dsimp only; omega
  unfold unV; rw [e1]; exact ⟨rfl, rfl, rfl⟩
theorem un_c (h : b.lo = b.hi) (h2 : b.lo = a.lo) (ha : a.lo ≤ a.hi) (hn : ¬ a.lo = a.hi) : a.lo + 1 = (unV a b).lo ∧ a.hi = (unV a b).hi ∧ true = unB a b := by
  have e : rfO 16 a b = ⟨a.lo + 1, a.hi⟩ := by rw [rfx_16 rfl, if_pos (by omega)]
  have e1 : unB a b = true := by unfold unB; rw [e]; exact iv_ok_iff.2 (by dsimp only; omega)
  unfold unV; rw [e1, if_pos rfl, e]; exact ⟨rfl, rfl, rfl⟩
theorem un_d (h : b.lo = b.hi) (h2 : b.lo = a.hi) (ha : a.lo ≤ a.hi) (hn : ¬ a.lo = a.hi) : a.lo = (unV a b).lo ∧ a.hi - 1 = (unV a b).hi ∧ true = unB a b := by
  have e : rfO 16 a b = ⟨a.lo, a.hi - 1⟩ := by rw [rfx_16 rfl, if_neg (by omega), if_pos (by omega)]
  have e1 : unB a b = true := by unfold unB; rw [e]; exact iv_ok_iff.2 (by dsimp only; omega)
  unfold unV; rw [e1, if_pos rfl, e]; exact ⟨rfl, rfl, rfl⟩
def allB (op : Int) (a b : Iv) : Bool := !mayB (oppN op) a b
def truthI (f h : Bool) : Iv := if f = false then ⟨1, 1⟩ else if h = false then ⟨0, 0⟩ else ⟨0, 1⟩
theorem truthI_cm (hc : cmB op a b = true) : truthI (mayB (oppN op) a b) (mayB op a b) = cmV op a b := by
  have h1 := may_all hc
  rw [cmV_yes hc]; unfold truthI cmI
  cases e1 : mayB (oppN op) a b <;> cases e2 : mayB op a b <;> first | rfl | (rw [e1, e2] at h1; simp at h1)
theorem all_cm (hc : cmB op a b = true) : truthN (allB op a b) = (cmV op a b).lo ∧ 1 - truthN (allB (oppN op) a b) = (cmV op a b).hi := by
  have h1 := (cm_get hc).1
  rw [cmV_yes hc]; unfold allB cmI; rw [opp_opp h1]
  cases e1 : mayB (oppN op) a b <;> cases e2 : mayB op a b <;> exact ⟨rfl, rfl⟩
theorem all_is (h : 13 ≤ op ∧ op ≤ 18) : allB op a b = if op = 13 then decide (a.hi < b.lo) else if op = 14 then decide (a.hi ≤ b.lo) else if op = 15 then (a.lo == a.hi && (b.lo == b.hi && a.lo == b.lo)) else if op = 16 then (decide (a.hi < b.lo) || decide (b.hi < a.lo)) else if op = 17 then decide (a.lo > b.hi) else decide (a.lo ≥ b.hi) := by
  have h4 : op = 13 ∨ op = 14 ∨ op = 15 ∨ op = 16 ∨ op = 17 ∨ op = 18 := by omega
  unfold allB
  rcases h4 with rfl | rfl | rfl | rfl | rfl | rfl <;> rw [Bool.eq_iff_iff] <;> simp [mayB, oppN] <;> omega
end
def dcB (c : List Int) : Bool := onceV c (belowP c 0 6) 20
def dcO (c : List Int) : Int := if dcB c = true then offV c (belowP c (belowP c 0 6) 20) 1 21 else 13 + belowV c 0 6
def dcP (c : List Int) : Int := if dcB c = true then offP c (belowP c (belowP c 0 6) 20) 1 21 else belowP c (belowP c 0 6) 20
def dcS (c : List Int) : Bool := onceV c (dcP c) 2
def dcA (c : List Int) : Iv := if dcS c = true then smallV c (belowP c (dcP c) 2) else ivV c (belowP c (dcP c) 2)
def dcI (c : List Int) : Iv := if dcS c = true then smallV c (smallP c (belowP c (dcP c) 2)) else ivV c (ivP c (belowP c (dcP c) 2))
def drI (c : List Int) : Iv := if belowV c 0 4 = 0 then ⟨(dcI c).lo, (dcI c).lo⟩ else if belowV c 0 4 = 1 then ⟨(dcA c).lo, (dcA c).lo⟩ else dcI c
section
variable {c : List Int}
theorem dc_o1 (h : onceV c (belowP c 0 6) 20 = true) : offV c (belowP c (belowP c 0 6) 20) 1 21 = dcO c ∧ offP c (belowP c (belowP c 0 6) 20) 1 21 = dcP c := by unfold dcO dcP dcB; rw [if_pos h, if_pos h]; exact ⟨rfl, rfl⟩
theorem dc_o0 (h : onceV c (belowP c 0 6) 20 = false) : 13 + belowV c 0 6 = dcO c ∧ belowP c (belowP c 0 6) 20 = dcP c := by
  unfold dcO dcP dcB; rw [if_neg (by rw [h]; decide), if_neg (by rw [h]; decide)]; exact ⟨rfl, rfl⟩
theorem dc_s1 {q : Int} (hq : q = dcP c) (h : onceV c q 2 = true) : smallV c (belowP c q 2) = dcA c ∧ smallV c (smallP c (belowP c q 2)) = dcI c := by subst hq; unfold dcA dcI dcS; rw [if_pos h, if_pos h]; exact ⟨rfl, rfl⟩
theorem dc_s0 {q : Int} (hq : q = dcP c) (h : onceV c q 2 = false) : ivV c (belowP c q 2) = dcA c ∧ ivV c (ivP c (belowP c q 2)) = dcI c := by subst hq; unfold dcA dcI dcS; rw [if_neg (by rw [h]; decide), if_neg (by rw [h]; decide)]; exact ⟨rfl, rfl⟩
theorem dcP_ok (h : Rdr.ok c 0) : Rdr.ok c (dcP c) := by
  unfold dcP; split
  · exact h.below.below.off
  · exact h.below.below
theorem dc_fit (h : Rdr.ok c 0) : FitI (dcA c) ∧ FitI (drI c) := by
  have h1 : Rdr.ok c (belowP c (dcP c) 2) := (dcP_ok h).below
  have hA : FitI (dcA c) := by
    unfold dcA; split
    · exact small_fit h1
    · exact iv_fit h1
  have hB : FitI (dcI c) := by
    unfold dcI; split
    · exact small_fit h1.small
    · exact iv_fit h1.iv
  refine ⟨hA, ?_⟩
  unfold drI; unfold FitI at *
  repeat' split
  · exact ⟨hB.1, hB.1⟩
  · exact ⟨hA.1, hA.1⟩
  · exact hB
theorem dr_0 (h : belowV c 0 4 = 0) : (⟨(dcI c).lo, (dcI c).lo⟩ : Iv) = drI c := by unfold drI; rw [if_pos h]
theorem dr_1 (h0 : ¬ belowV c 0 4 = 0) (h : belowV c 0 4 = 1) : (⟨(dcA c).lo, (dcA c).lo⟩ : Iv) = drI c := by unfold drI; rw [if_neg h0, if_pos h]
theorem dr_2 (h0 : ¬ belowV c 0 4 = 0) (h : ¬ belowV c 0 4 = 1) : dcI c = drI c := by unfold drI; rw [if_neg h0, if_neg h]
end
theorem ev3 {k x y : Int} (h : 13 ≤ k ∧ k ≤ 18) : Eval.n ⟨[⟨#[120]⟩, ⟨#[121]⟩], [], []⟩ [⟨2, 0⟩, ⟨2, 1⟩, ⟨k, 0⟩] ⟨[x, y], [], []⟩ = truthN (cmpB k x y) := by
  have h1 : Store.ok ⟨[⟨#[120]⟩, ⟨#[121]⟩], [], []⟩ ⟨[x, y], [], []⟩ = true := by
    unfold Store.ok
    have h2 : Decl.ok ⟨[⟨#[120]⟩, ⟨#[121]⟩], [], []⟩ = true := by decide +kernel
    rw [h2]; rfl
  have h4 : k = 13 ∨ k = 14 ∨ k = 15 ∨ k = 16 ∨ k = 17 ∨ k = 18 := by omega
  have h3 : ¬ Expr.kind ⟨[⟨#[120]⟩, ⟨#[121]⟩], [], []⟩ [⟨2, 0⟩, ⟨2, 1⟩, ⟨k, 0⟩] = 0 := by
    rcases h4 with rfl | rfl | rfl | rfl | rfl | rfl <;> decide
  unfold Eval.n
  rw [if_pos ⟨h1, h3⟩]
  rcases h4 with rfl | rfl | rfl | rfl | rfl | rfl <;> rfl
theorem law_Refine {k x y : Int} {a b : Iv} (h : cmB k a b = true) (hx : a.lo ≤ x ∧ x ≤ a.hi) (hy : b.lo ≤ y ∧ y ≤ b.hi) :
    Iv.has (cmV k a b) (truthN (cmpB k x y)) = true ∧ (truthN (cmpB k x y) = 0 ∨ rfB k a b = true ∧ Iv.has (rfV k a b) x = true) ∧ (rfB k a b = false ∨ Iv.leq (rfV k a b) a = true) := by
  refine ⟨?_, ?_, ?_⟩
  · rw [cmV_yes h]; exact cm_has h hx hy
  · cases hb : cmpB k x y with
    | false => exact .inl rfl
    | true => exact .inr (rf_has h hx hy hb)
  · cases hb : rfB k a b with
    | false => exact .inl rfl
    | true => exact .inr (rf_leq hb)
theorem cmB_of {op : Int} {a b : Iv} (h : 13 ≤ op ∧ op ≤ 18) (ha : Iv.ok a = true) (hb : Iv.ok b = true) : cmB op a b = true := by
  unfold cmB; rw [inR_iff.2 h, ha, hb]; rfl
theorem rf_names : ∀ x ∈ Decl.names (Decl.mk [(⟨#[120]⟩ : ByteArray), (⟨#[121]⟩ : ByteArray)] [] []), x.size ≤ 9223372036854775807 := by
  intro x hx
  simp [Decl.names] at hx
  rcases hx with rfl | rfl <;> decide
theorem rf_sizes : (Decl.mk [(⟨#[120]⟩ : ByteArray), (⟨#[121]⟩ : ByteArray)] [] []).vars.length ≤ 1048576 ∧ (Decl.mk [(⟨#[120]⟩ : ByteArray), (⟨#[121]⟩ : ByteArray)] [] []).flags.length ≤ 1048576 ∧ (Decl.mk [(⟨#[120]⟩ : ByteArray), (⟨#[121]⟩ : ByteArray)] [] []).arrays.length ≤ 1048576 := by decide
theorem rf_small {x y : Int} : Store.small (Store.mk [x, y] [] []) := ⟨by show 2 ≤ 1048576; omega, Nat.zero_le _, Nat.zero_le _, fun a ha => absurd ha (by simp)⟩
theorem rf_fits {x y : Int} {a b : Iv} (hx : a.lo ≤ x ∧ x ≤ a.hi) (hy : b.lo ≤ y ∧ y ≤ b.hi) (ha : FitI a) (hb : FitI b) : FitS (Store.mk [x, y] [] []) := by
  unfold FitI Fit at ha hb
  refine ⟨fun z hz => ?_, fun a ha => absurd ha (by simp)⟩
  simp at hz
  unfold Fit
  rcases hz with rfl | rfl <;> omega
theorem rf_end {k x y : Int} {a b : Iv} (hk : 13 ≤ k ∧ k ≤ 18) (h : cmB k a b = true) (hx : a.lo ≤ x ∧ x ≤ a.hi) (hy : b.lo ≤ y ∧ y ≤ b.hi) :
    (((Iv.has (cmV k a b) (Eval.n (Decl.mk [(⟨#[120]⟩ : ByteArray), (⟨#[121]⟩ : ByteArray)] [] []) [(Tok.mk 2 0), (Tok.mk 2 1), (Tok.mk k 0)] (Store.mk [x, y] [] [])) && ((Eval.n (Decl.mk [(⟨#[120]⟩ : ByteArray), (⟨#[121]⟩ : ByteArray)] [] []) [(Tok.mk 2 0), (Tok.mk 2 1), (Tok.mk k 0)] (Store.mk [x, y] [] [])) == 0 || (rfB k a b && Iv.has (rfV k a b) x))) && (!(rfB k a b) || Iv.leq (rfV k a b) a))) = true := by
  rw [ev3 hk]
  obtain ⟨h1, h2, h3⟩ := law_Refine h hx hy
  rw [h1, Bool.true_and]
  have e1 : (truthN (cmpB k x y) == 0 || (rfB k a b && Iv.has (rfV k a b) x)) = true := by
    rcases h2 with h2 | h2
    · rw [h2]; rfl
    · rw [h2.1, h2.2]; simp
  have e2 : (!(rfB k a b) || Iv.leq (rfV k a b) a) = true := by
    rcases h3 with h3 | h3
    · rw [h3]; rfl
    · rw [h3]; simp
  rw [e1, e2]; rfl
end Go.Proofs

namespace Go.Proofs
open Go Go.Ev
variable [Lay]
section
variable {d : Decl} {a b : Env} {l : List Int}
end
end Go.Proofs

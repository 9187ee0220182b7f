/- A symbolic executor over data by value, proved sound over any program: no conditions. -/
import Derived.Test.YtgpcioamhfaodaaDoorE4
set_option linter.all false
set_option linter.unnecessarySimpa false
set_option linter.unusedSectionVars false
set_option linter.unusedSimpArgs false
set_option linter.unusedVariables false
/- The model: the drawer's reader of a code. -/
namespace Go.Proofs
open Go Go.Ev
variable [Lay]
structure Rdr where
  b : List Int
  p : Int
deriving Inhabited
/-- A code of bytes, and a place in it. -/
def Rdr.ok (b : List Int) (p : Int) : Prop := 0 ≤ p ∧ p ≤ b.length ∧ b.length ≤ 1048576 ∧ ∀ x ∈ b, 0 ≤ x ∧ x ≤ 255
theorem bytes_good {l : List Int} (h : ∀ x ∈ l, (Lit.int .u8 x).wf = true) : ∀ x ∈ l, 0 ≤ x ∧ x ≤ 255 := fun x hx => by
  have h1 := h x hx
  simp only [Lit.wf, Bool.and_eq_true, decide_eq_true_eq] at h1
  have h2 : IntKind.min .u8 = 0 := rfl
  have h3 : IntKind.max .u8 = 255 := rfl
  omega
def nextV (b : List Int) (p : Int) : Int := if p ≥ b.length then 0 else b.getD p.toNat default
def nextP (b : List Int) (p : Int) : Int := if p ≥ b.length then p else p + 1
variable {b : List Int} {p : Int}
theorem nextV_end (h : p ≥ b.length) : nextV b p = 0 := by unfold nextV; rw [if_pos h]
theorem nextP_end (h : p ≥ b.length) : nextP b p = p := by unfold nextP; rw [if_pos h]
theorem nextV_more (h : ¬ p ≥ b.length) : nextV b p = b.getD p.toNat default := by unfold nextV; rw [if_neg h]
theorem nextP_more (h : ¬ p ≥ b.length) : nextP b p = p + 1 := by unfold nextP; rw [if_neg h]
theorem Rdr.ok.next (h : Rdr.ok b p) : Rdr.ok b (nextP b p) := by
  obtain ⟨h1, h2, h3, h4⟩ := h
  unfold nextP
  split
  · exact ⟨h1, h2, h3, h4⟩
  · exact ⟨by omega, by omega, h3, h4⟩
theorem nextV_bnd (h : Rdr.ok b p) : 0 ≤ nextV b p ∧ nextV b p ≤ 255 := by
  unfold nextV
  split
  · omega
  · exact h.2.2.2 _ (getD_mem (by have := h.1; omega))
def belowV (b : List Int) (p n : Int) : Int := if n ≤ 1 then 0 else if n ≤ 256 then Int.tmod (nextV b p) n else Int.tmod (nextV b p * 256 + nextV b (nextP b p)) n
def belowP (b : List Int) (p n : Int) : Int := if n ≤ 1 then p else if n ≤ 256 then nextP b p else nextP b (nextP b p)
theorem belowV_one {n : Int} (h : n ≤ 1) : belowV b p n = 0 := by unfold belowV; rw [if_pos h]
theorem belowP_one {n : Int} (h : n ≤ 1) : belowP b p n = p := by unfold belowP; rw [if_pos h]
theorem belowV_more {n : Int} (h : ¬ n ≤ 1) (h2 : n ≤ 256) : belowV b p n = Int.tmod (nextV b p) n := by unfold belowV; rw [if_neg h, if_pos h2]
theorem belowP_more {n : Int} (h : ¬ n ≤ 1) (h2 : n ≤ 256) : belowP b p n = nextP b p := by unfold belowP; rw [if_neg h, if_pos h2]
theorem belowV_two {n : Int} (h : ¬ n ≤ 1) (h2 : ¬ n ≤ 256) : belowV b p n = Int.tmod (nextV b p * 256 + nextV b (nextP b p)) n := by unfold belowV; rw [if_neg h, if_neg h2]
theorem belowV_two' {n : Int} (hr : Rdr.ok b p) (h : ¬ n ≤ 1) (h2 : ¬ n ≤ 256) : belowV b p n = Int.tmod (IntKind.wrap .i64 (IntKind.wrap .i64 (nextV b p * 256) + nextV b (nextP b p))) n := by
  have h3 := nextV_bnd hr
  have h4 := nextV_bnd hr.next
  rw [belowV_two h h2, wrap_le (a := nextV b p * 256) (by omega) (by omega), wrap_le (by omega) (by omega)]
theorem belowP_two {n : Int} (h : ¬ n ≤ 1) (h2 : ¬ n ≤ 256) : belowP b p n = nextP b (nextP b p) := by unfold belowP; rw [if_neg h, if_neg h2]
theorem Rdr.ok.below {n : Int} (h : Rdr.ok b p) : Rdr.ok b (belowP b p n) := by
  unfold belowP; split
  · exact h
  · split
    · exact h.next
    · exact h.next.next
theorem belowV_bnd {n : Int} (h : Rdr.ok b p) (hn : 1 ≤ n) : 0 ≤ belowV b p n ∧ belowV b p n < n := by
  have h1 := nextV_bnd h
  have h2 := nextV_bnd h.next
  unfold belowV; split
  · omega
  · split
    · exact ⟨Int.tmod_nonneg _ h1.1, Int.tmod_lt_of_pos _ (by omega)⟩
    · exact ⟨Int.tmod_nonneg _ (by omega), Int.tmod_lt_of_pos _ (by omega)⟩
def onceV (b : List Int) (p n : Int) : Bool := belowV b p n == n - 1
theorem onceV_eq {n : Int} (h : 0 ≤ n ∧ n ≤ 1048576) : onceV b p n = (belowV b p n == IntKind.wrap .i64 (n - 1)) := by
  unfold onceV
  rw [wrap_le (by omega) (by omega)]
-- eight bytes
def nextsP (b : List Int) (p : Int) : Nat → Int
  | 0 => p
  | j + 1 => nextP b (nextsP b p j)
theorem Rdr.ok.nexts (h : Rdr.ok b p) : ∀ j, Rdr.ok b (nextsP b p j)
  | 0 => h
  | j + 1 => (Rdr.ok.nexts h j).next
def wStep (x v : Int) : Int := IntKind.wrap .u64 ((BitVec.ofInt (IntKind.bits .u64) (IntKind.wrap .u64 (x * 2 ^ (min ((8 : Int)).toNat (IntKind.bits .u64)))) ||| BitVec.ofInt (IntKind.bits .u64) (IntKind.wrap .u64 v)).toNat : Int)
def wordTo (b : List Int) (p : Int) : Nat → Int
  | 0 => 0
  | j + 1 => wStep (wordTo b p j) (nextV b (nextsP b p j))
theorem wordTo_succ (j : Nat) : IntKind.wrap .u64 ((BitVec.ofInt (IntKind.bits .u64) (IntKind.wrap .u64 ((wordTo b p j) * 2 ^ (min ((8 : Int)).toNat (IntKind.bits .u64)))) ||| BitVec.ofInt (IntKind.bits .u64) (IntKind.wrap .u64 (nextV b (nextsP b p j)))).toNat : Int) = wordTo b p (j + 1) := by
  show _ = wStep (wordTo b p j) (nextV b (nextsP b p j))
  unfold wStep
  rfl
def wordV (b : List Int) (p : Int) : Int := wordTo b p 8
def wordP (b : List Int) (p : Int) : Int := nextsP b p 8
theorem Rdr.ok.word (h : Rdr.ok b p) : Rdr.ok b (wordP b p) := h.nexts 8
theorem word_end {j : Nat} (h : j ≤ 8) (h1 : ¬ (j : Int) < 8) : wordTo b p j = wordV b p ∧ nextsP b p j = wordP b p := by
  have : j = 8 := by omega
  subst this
  exact ⟨rfl, rfl⟩
/-- A number that fits. -/
def Fit (x : Int) : Prop := -9223372036854775808 ≤ x ∧ x ≤ 9223372036854775807
theorem fit_wrap (x : Int) : Fit (IntKind.wrap .i64 x) := by
  unfold Fit
  simp only [IntKind.wrap, IntKind.bits, IntKind.signed]
  simp
  split <;> omega
theorem wrap_u64_nn (x : Int) : 0 ≤ IntKind.wrap .u64 x := by
  simp only [IntKind.wrap, IntKind.bits, IntKind.signed]
  simp
  omega
theorem fit_shr {x : Int} (h : Fit x) (k : Nat) : Fit (x.fdiv (2 ^ k)) := by
  have hp : (0 : Int) < 2 ^ k := Int.pow_pos (by omega)
  rw [Int.fdiv_eq_ediv_of_nonneg _ (Int.le_of_lt hp)]
  unfold Fit at h ⊢
  refine ⟨?_, ?_⟩
  · refine Int.le_ediv_of_mul_le hp ?_
    have : (-9223372036854775808 : Int) * 2 ^ k ≤ -9223372036854775808 * 1 := Int.mul_le_mul_of_nonpos_left (by omega) (by omega)
    omega
  · by_cases h0 : 0 ≤ x
    · have := Int.ediv_le_self (2 ^ k) h0
      omega
    · have := Int.ediv_neg_of_neg_of_pos (a := x) (b := 2 ^ k) (by omega) hp
      omega
-- numbers
def numL : List Int := [-9223372036854775808, -9223372036854775807, 9223372036854775807, 9223372036854775806, -1, 0, 1, 4294967296, -4294967296, 3037000500]
def numV (b : List Int) (p : Int) : Int :=
  if belowV b p 6 = 0 then numL.getD (belowV b (belowP b p 6) 10).toNat default
  else if belowV b p 6 = 1 then IntKind.wrap .i64 (wordV b (belowP b p 6))
  else if belowV b p 6 = 2 then (IntKind.wrap .i64 (wordV b (belowP b p 6))).fdiv (2 ^ (min (IntKind.wrap .u64 (belowV b (wordP b (belowP b p 6)) 60)).toNat (IntKind.bits .i64)))
  else IntKind.wrap .i64 (belowV b (belowP b p 6) 41 - 20)
def numP (b : List Int) (p : Int) : Int :=
  if belowV b p 6 = 0 then belowP b (belowP b p 6) 10
  else if belowV b p 6 = 1 then wordP b (belowP b p 6)
  else if belowV b p 6 = 2 then belowP b (wordP b (belowP b p 6)) 60
  else belowP b (belowP b p 6) 41
theorem Rdr.ok.num (h : Rdr.ok b p) : Rdr.ok b (numP b p) := by
  unfold numP
  repeat' split
  · exact h.below.below
  · exact h.below.word
  · exact h.below.word.below
  · exact h.below.below
theorem num_fit (h : Rdr.ok b p) : Fit (numV b p) := by
  unfold numV
  repeat' split
  · have h1 := belowV_bnd (n := 10) (h.below (n := 6)) (by omega)
    have h2 : numL.getD (belowV b (belowP b p 6) 10).toNat default ∈ numL := getD_mem (by simp [numL]; omega)
    have h3 : ∀ x ∈ numL, Fit x := by unfold numL Fit; decide
    exact h3 _ h2
  · exact fit_wrap _
  · exact fit_shr (fit_wrap _) _
  · exact fit_wrap _
theorem num_0 (h : belowV b p 6 = 0) : numV b p = numL.getD (belowV b (belowP b p 6) 10).toNat default ∧ numP b p = belowP b (belowP b p 6) 10 := by
  unfold numV numP; rw [if_pos h, if_pos h]; exact ⟨rfl, rfl⟩
theorem num_1 (h0 : ¬ belowV b p 6 = 0) (h : belowV b p 6 = 1) : numV b p = IntKind.wrap .i64 (wordV b (belowP b p 6)) ∧ numP b p = wordP b (belowP b p 6) := by
  unfold numV numP; rw [if_neg h0, if_neg h0, if_pos h, if_pos h]; exact ⟨rfl, rfl⟩
theorem num_2 (h0 : ¬ belowV b p 6 = 0) (h1 : ¬ belowV b p 6 = 1) (h : belowV b p 6 = 2) : numV b p = (IntKind.wrap .i64 (wordV b (belowP b p 6))).fdiv (2 ^ (min (IntKind.wrap .u64 (belowV b (wordP b (belowP b p 6)) 60)).toNat (IntKind.bits .i64))) ∧ numP b p = belowP b (wordP b (belowP b p 6)) 60 := by
  unfold numV numP; rw [if_neg h0, if_neg h0, if_neg h1, if_neg h1, if_pos h, if_pos h]; exact ⟨rfl, rfl⟩
theorem num_3 (h0 : ¬ belowV b p 6 = 0) (h1 : ¬ belowV b p 6 = 1) (h : ¬ belowV b p 6 = 2) : numV b p = IntKind.wrap .i64 (belowV b (belowP b p 6) 41 - 20) ∧ numP b p = belowP b (belowP b p 6) 41 := by
  unfold numV numP; rw [if_neg h0, if_neg h0, if_neg h1, if_neg h1, if_neg h, if_neg h]; exact ⟨rfl, rfl⟩
-- sums that may not fit
def addV (a c : Int) : Int := if (c > 0 ∧ a > IntKind.wrap .i64 (9223372036854775807 - c)) ∨ (c < 0 ∧ a < IntKind.wrap .i64 (-9223372036854775808 - c)) then 0 else IntKind.wrap .i64 (a + c)
def addO (a c : Int) : Int := if c > 0 ∧ a > IntKind.wrap .i64 (9223372036854775807 - c) then 1 else if c < 0 ∧ a < IntKind.wrap .i64 (-9223372036854775808 - c) then -1 else 0
theorem add_1 {a c : Int} (h : c > 0 ∧ a > IntKind.wrap .i64 (9223372036854775807 - c)) : addV a c = 0 ∧ addO a c = 1 := by
  unfold addV addO; rw [if_pos (.inl h), if_pos h]; exact ⟨rfl, rfl⟩
theorem add_2 {a c : Int} (h0 : ¬ c > 0 ∨ ¬ a > IntKind.wrap .i64 (9223372036854775807 - c)) (h : c < 0 ∧ a < IntKind.wrap .i64 (-9223372036854775808 - c)) : addV a c = 0 ∧ addO a c = -1 := by
  unfold addV addO; rw [if_pos (.inr h), if_neg (fun h9 => h0.elim (fun h8 => h8 h9.1) fun h8 => h8 h9.2), if_pos h]; exact ⟨rfl, rfl⟩
theorem add_3 {a c : Int} (h0 : ¬ c > 0 ∨ ¬ a > IntKind.wrap .i64 (9223372036854775807 - c)) (h : ¬ c < 0 ∨ ¬ a < IntKind.wrap .i64 (-9223372036854775808 - c)) : addV a c = IntKind.wrap .i64 (a + c) ∧ addO a c = 0 := by
  have h1 : ¬ (c > 0 ∧ a > IntKind.wrap .i64 (9223372036854775807 - c)) := fun h9 => h0.elim (fun h8 => h8 h9.1) fun h8 => h8 h9.2
  have h2 : ¬ (c < 0 ∧ a < IntKind.wrap .i64 (-9223372036854775808 - c)) := fun h9 => h.elim (fun h8 => h8 h9.1) fun h8 => h8 h9.2
  unfold addV addO; rw [if_neg (fun h9 => h9.elim h1 h2), if_neg h1, if_neg h2]; exact ⟨rfl, rfl⟩
theorem add_fit (a c : Int) : Fit (addV a c) := by
  unfold addV; split
  · unfold Fit; omega
  · exact fit_wrap _
-- near a range, now and then outside
def nearV (b : List Int) (p a h : Int) : Int :=
  if belowV b p 8 = 0 then a else if belowV b p 8 = 1 then h else if h < a then a
  else IntKind.wrap .i64 (a + (IntKind.wrap .i64 (Int.tmod ((wordV b (belowP b p 8)).fdiv (2 ^ (min ((1 : Int)).toNat (IntKind.bits .u64)))) (IntKind.wrap .u64 (IntKind.wrap .i64 ((IntKind.wrap .i64 (h - a)) + 1))))))
def nearP (b : List Int) (p a h : Int) : Int := if belowV b p 8 = 0 then belowP b p 8 else if belowV b p 8 = 1 then belowP b p 8 else if h < a then belowP b p 8 else wordP b (belowP b p 8)
theorem near_0 {a h : Int} (h0 : belowV b p 8 = 0) : nearV b p a h = a ∧ nearP b p a h = belowP b p 8 := by unfold nearV nearP; rw [if_pos h0, if_pos h0]; exact ⟨rfl, rfl⟩
theorem near_1 {a h : Int} (h0 : ¬ belowV b p 8 = 0) (h1 : belowV b p 8 = 1) : nearV b p a h = h ∧ nearP b p a h = belowP b p 8 := by unfold nearV nearP; rw [if_neg h0, if_neg h0, if_pos h1, if_pos h1]; exact ⟨rfl, rfl⟩
theorem near_2 {a h : Int} (h0 : ¬ belowV b p 8 = 0) (h1 : ¬ belowV b p 8 = 1) (h2 : h < a) : nearV b p a h = a ∧ nearP b p a h = belowP b p 8 := by unfold nearV nearP; rw [if_neg h0, if_neg h0, if_neg h1, if_neg h1, if_pos h2, if_pos h2]; exact ⟨rfl, rfl⟩
theorem near_3 {a h : Int} (h0 : ¬ belowV b p 8 = 0) (h1 : ¬ belowV b p 8 = 1) (h2 : ¬ h < a) : nearV b p a h = IntKind.wrap .i64 (a + (IntKind.wrap .i64 (Int.tmod ((wordV b (belowP b p 8)).fdiv (2 ^ (min ((1 : Int)).toNat (IntKind.bits .u64)))) (IntKind.wrap .u64 (IntKind.wrap .i64 ((IntKind.wrap .i64 (h - a)) + 1)))))) ∧ nearP b p a h = wordP b (belowP b p 8) := by
  unfold nearV nearP; rw [if_neg h0, if_neg h0, if_neg h1, if_neg h1, if_neg h2, if_neg h2]; exact ⟨rfl, rfl⟩
theorem near_ne {a h : Int} (hx : -1000 ≤ a ∧ a ≤ 10000000 ∧ -1000 ≤ h ∧ h ≤ 10000000) (h2 : ¬ h < a) : IntKind.wrap .u64 (IntKind.wrap .i64 ((IntKind.wrap .i64 (h - a)) + 1)) ≠ 0 := by
  rw [wrap_le (a := h - a) (by omega) (by omega), wrap_le (by omega) (by omega), wrap_u64 (by omega) (by omega)]
  omega
theorem Rdr.ok.near {a h : Int} (hr : Rdr.ok b p) : Rdr.ok b (nearP b p a h) := by
  unfold nearP
  repeat' split
  all_goals first | exact hr.below | exact hr.below.word
theorem near_fit {a h : Int} (ha : Fit a) (hh : Fit h) : Fit (nearV b p a h) := by
  unfold nearV
  repeat' split
  all_goals first | exact ha | exact hh | exact fit_wrap _
def offL (a h : Int) : List Int := [IntKind.wrap .i64 (a - 1), IntKind.wrap .i64 (h + 1), -9223372036854775808, 9223372036854775807]
def offV (b : List Int) (p a h : Int) : Int := if onceV b p 24 = true then (offL a h).getD (belowV b (belowP b p 24) 4).toNat default else nearV b (belowP b p 24) a h
def offP (b : List Int) (p a h : Int) : Int := if onceV b p 24 = true then belowP b (belowP b p 24) 4 else nearP b (belowP b p 24) a h
theorem off_1 {a h : Int} (h0 : onceV b p 24 = true) : offV b p a h = (offL a h).getD (belowV b (belowP b p 24) 4).toNat default ∧ offP b p a h = belowP b (belowP b p 24) 4 := by unfold offV offP; rw [if_pos h0, if_pos h0]; exact ⟨rfl, rfl⟩
theorem off_0 {a h : Int} (h0 : onceV b p 24 = false) : offV b p a h = nearV b (belowP b p 24) a h ∧ offP b p a h = nearP b (belowP b p 24) a h := by
  unfold offV offP; rw [if_neg (by rw [h0]; decide), if_neg (by rw [h0]; decide)]; exact ⟨rfl, rfl⟩
theorem Rdr.ok.off {a h : Int} (hr : Rdr.ok b p) : Rdr.ok b (offP b p a h) := by
  unfold offP; split
  · exact hr.below.below
  · exact hr.below.near
theorem off_fit {a h : Int} (hr : Rdr.ok b p) (ha : Fit a) (hh : Fit h) : Fit (offV b p a h) := by
  unfold offV; split
  · have h1 := belowV_bnd (n := 4) (hr.below (n := 24)) (by omega)
    have h2 : (offL a h).getD (belowV b (belowP b p 24) 4).toNat default ∈ offL a h := getD_mem (by simp [offL]; omega)
    have h3 : ∀ x ∈ offL a h, Fit x := by
      intro x hx
      simp only [offL, List.mem_cons, List.not_mem_nil, or_false] at hx
      rcases hx with rfl | rfl | rfl | rfl
      · exact fit_wrap _
      · exact fit_wrap _
      · unfold Fit; omega
      · unfold Fit; omega
    exact h3 _ h2
  · exact near_fit ha hh
-- intervals
def ivEnd (b : List Int) (x y p : Int) : Iv := if y < x ∧ onceV b p 12 = false then ⟨y, x⟩ else ⟨x, y⟩
def ivEndP (b : List Int) (x y p : Int) : Int := if y < x then belowP b p 12 else p
def ivY (b : List Int) (x p : Int) : Int := if addV x (belowV b p 30) < x then x else addV x (belowV b p 30)
def ivV (b : List Int) (p : Int) : Iv :=
  if belowV b (numP b p) 4 = 0 then ivEnd b (numV b p) (numV b (belowP b (numP b p) 4)) (numP b (belowP b (numP b p) 4))
  else if belowV b (numP b p) 4 = 1 ∨ belowV b (numP b p) 4 = 2 then ivEnd b (numV b p) (ivY b (numV b p) (belowP b (numP b p) 4)) (belowP b (belowP b (numP b p) 4) 30)
  else ivEnd b (numV b p) (numV b p) (belowP b (numP b p) 4)
def ivP (b : List Int) (p : Int) : Int :=
  if belowV b (numP b p) 4 = 0 then ivEndP b (numV b p) (numV b (belowP b (numP b p) 4)) (numP b (belowP b (numP b p) 4))
  else if belowV b (numP b p) 4 = 1 ∨ belowV b (numP b p) 4 = 2 then ivEndP b (numV b p) (ivY b (numV b p) (belowP b (numP b p) 4)) (belowP b (belowP b (numP b p) 4) 30)
  else ivEndP b (numV b p) (numV b p) (belowP b (numP b p) 4)
def FitI (a : Iv) : Prop := Fit a.lo ∧ Fit a.hi
theorem ivEnd_sw {x y q : Int} (h : y < x ∧ onceV b q 12 = false) : ivEnd b x y q = ⟨y, x⟩ := by unfold ivEnd; rw [if_pos h]
theorem ivEnd_no {x y q : Int} (h : ¬ y < x ∨ onceV b q 12 = true) : ivEnd b x y q = ⟨x, y⟩ := by unfold ivEnd; rw [if_neg (fun h9 => h.elim (fun h8 => h8 h9.1) fun h8 => by rw [h8] at h9; exact absurd h9.2 (by decide))]
theorem ivY_x {x q : Int} (h : addV x (belowV b q 30) < x) : ivY b x q = x := by unfold ivY; rw [if_pos h]
theorem ivY_y {x q : Int} (h : ¬ addV x (belowV b q 30) < x) : ivY b x q = addV x (belowV b q 30) := by unfold ivY; rw [if_neg h]
theorem ivV_0 (h : belowV b (numP b p) 4 = 0) : ivV b p = ivEnd b (numV b p) (numV b (belowP b (numP b p) 4)) (numP b (belowP b (numP b p) 4)) := by unfold ivV; rw [if_pos h]
theorem ivP_0 (h : belowV b (numP b p) 4 = 0) : ivP b p = ivEndP b (numV b p) (numV b (belowP b (numP b p) 4)) (numP b (belowP b (numP b p) 4)) := by unfold ivP; rw [if_pos h]
theorem ivV_1 (h0 : ¬ belowV b (numP b p) 4 = 0) (h : belowV b (numP b p) 4 = 1 ∨ belowV b (numP b p) 4 = 2) : ivV b p = ivEnd b (numV b p) (ivY b (numV b p) (belowP b (numP b p) 4)) (belowP b (belowP b (numP b p) 4) 30) := by unfold ivV; rw [if_neg h0, if_pos h]
theorem ivP_1 (h0 : ¬ belowV b (numP b p) 4 = 0) (h : belowV b (numP b p) 4 = 1 ∨ belowV b (numP b p) 4 = 2) : ivP b p = ivEndP b (numV b p) (ivY b (numV b p) (belowP b (numP b p) 4)) (belowP b (belowP b (numP b p) 4) 30) := by unfold ivP; rw [if_neg h0, if_pos h]
theorem ivV_2 (h0 : ¬ belowV b (numP b p) 4 = 0) (h1 : ¬ belowV b (numP b p) 4 = 1) (h2 : ¬ belowV b (numP b p) 4 = 2) : ivV b p = ivEnd b (numV b p) (numV b p) (belowP b (numP b p) 4) := by unfold ivV; rw [if_neg h0, if_neg (fun h => h.elim h1 h2)]
theorem ivP_2 (h0 : ¬ belowV b (numP b p) 4 = 0) (h1 : ¬ belowV b (numP b p) 4 = 1) (h2 : ¬ belowV b (numP b p) 4 = 2) : ivP b p = ivEndP b (numV b p) (numV b p) (belowP b (numP b p) 4) := by unfold ivP; rw [if_neg h0, if_neg (fun h => h.elim h1 h2)]
theorem ivEnd_fit {x y q : Int} (hx : Fit x) (hy : Fit y) : FitI (ivEnd b x y q) := by
  unfold ivEnd
  split
  · exact ⟨hy, hx⟩
  · exact ⟨hx, hy⟩
theorem Rdr.ok.ivEnd {x y q : Int} (h : Rdr.ok b q) : Rdr.ok b (ivEndP b x y q) := by
  unfold ivEndP; split
  · exact h.below
  · exact h
theorem iv_fit (h : Rdr.ok b p) : FitI (ivV b p) := by
  have hx := num_fit h
  unfold ivV
  repeat' split
  · exact ivEnd_fit hx (num_fit h.num.below)
  · refine ivEnd_fit hx ?_
    unfold ivY; split
    · exact hx
    · exact add_fit _ _
  · exact ivEnd_fit hx hx
theorem Rdr.ok.iv (h : Rdr.ok b p) : Rdr.ok b (ivP b p) := by
  unfold ivP
  repeat' split
  · exact h.num.below.num.ivEnd
  · exact h.num.below.below.ivEnd
  · exact h.num.below.ivEnd
def smallV (b : List Int) (p : Int) : Iv :=
  if onceV b p 6 = true then ⟨min (ivV b (belowP b p 6)).lo (ivV b (belowP b p 6)).hi, max (ivV b (belowP b p 6)).lo (ivV b (belowP b p 6)).hi⟩
  else ⟨belowV b (belowP b p 6) 20 - 8, belowV b (belowP b p 6) 20 - 8 + belowV b (belowP b (belowP b p 6) 20) 9⟩
def smallP (b : List Int) (p : Int) : Int := if onceV b p 6 = true then ivP b (belowP b p 6) else belowP b (belowP b (belowP b p 6) 20) 9
theorem Rdr.ok.small (h : Rdr.ok b p) : Rdr.ok b (smallP b p) := by
  unfold smallP; split
  · exact h.below.iv
  · exact h.below.below.below
theorem small_fit (h : Rdr.ok b p) : FitI (smallV b p) := by
  unfold smallV; split
  · have := iv_fit (h.below (n := 6))
    unfold FitI Fit at this ⊢
    simp only
    omega
  · have h1 := belowV_bnd (n := 20) (h.below (n := 6)) (by omega)
    have h2 := belowV_bnd (n := 9) ((h.below (n := 6)).below (n := 20)) (by omega)
    unfold FitI Fit
    simp only
    omega
theorem small_1 (h : onceV b p 6 = true) : smallV b p = ⟨min (ivV b (belowP b p 6)).lo (ivV b (belowP b p 6)).hi, max (ivV b (belowP b p 6)).lo (ivV b (belowP b p 6)).hi⟩ ∧ smallP b p = ivP b (belowP b p 6) := by
  unfold smallV smallP; rw [if_pos h, if_pos h]; exact ⟨rfl, rfl⟩
theorem small_2 (hr : Rdr.ok b p) (h : onceV b p 6 = false) : smallV b p = ⟨IntKind.wrap .i64 (belowV b (belowP b p 6) 20 - 8), IntKind.wrap .i64 (IntKind.wrap .i64 (belowV b (belowP b p 6) 20 - 8) + belowV b (belowP b (belowP b p 6) 20) 9)⟩ ∧ smallP b p = belowP b (belowP b (belowP b p 6) 20) 9 := by
  have h1 := belowV_bnd (n := 20) (hr.below (n := 6)) (by omega)
  have h2 := belowV_bnd (n := 9) ((hr.below (n := 6)).below (n := 20)) (by omega)
  unfold smallV smallP; rw [if_neg (by rw [h]; decide), if_neg (by rw [h]; decide), wrap_le (a := belowV b (belowP b p 6) 20 - 8) (by omega) (by omega), wrap_le (by omega) (by omega)]; exact ⟨rfl, rfl⟩
def smP (b : List Int) (p : Int) : Nat → Int
  | 0 => p
  | j + 1 => smallP b (smP b p j)
def smL (b : List Int) (p : Int) : Nat → List Iv
  | 0 => []
  | j + 1 => smL b p j ++ [smallV b (smP b p j)]
theorem Rdr.ok.sm (h : Rdr.ok b p) : ∀ j, Rdr.ok b (smP b p j)
  | 0 => h
  | j + 1 => (Rdr.ok.sm h j).small
theorem smL_len (b : List Int) (p : Int) : ∀ j, (smL b p j).length = j
  | 0 => rfl
  | j + 1 => by simp [smL, smL_len b p j]
theorem smL_fit (h : Rdr.ok b p) : ∀ j, ∀ x ∈ smL b p j, FitI x
  | 0, x, hx => by simp [smL] at hx
  | j + 1, x, hx => by
    simp only [smL, List.mem_append, List.mem_singleton] at hx
    rcases hx with hx | rfl
    · exact smL_fit h j x hx
    · exact small_fit (Rdr.ok.sm h j)
def envV (b : List Int) (p : Int) (d : Decl) : Env :=
  if onceV b p 16 = true then ⟨false, [], []⟩ else ⟨true, smL b (belowP b p 16) d.vars.length, smL b (smP b (belowP b p 16) d.vars.length) d.arrays.length⟩
def envP (b : List Int) (p : Int) (d : Decl) : Int :=
  if onceV b p 16 = true then belowP b p 16 else smP b (smP b (belowP b p 16) d.vars.length) d.arrays.length
theorem env_1 {d : Decl} (h : onceV b p 16 = true) : envV b p d = ⟨false, [], []⟩ ∧ envP b p d = belowP b p 16 := by
  unfold envV envP; rw [if_pos h, if_pos h]; exact ⟨rfl, rfl⟩
theorem env_2 {d : Decl} {j k : Nat} (h : onceV b p 16 = false) (hj : j ≤ d.vars.length) (hj2 : ¬ (j : Int) < d.vars.length) (hk : k ≤ d.arrays.length) (hk2 : ¬ (k : Int) < d.arrays.length) :
    envV b p d = ⟨true, smL b (belowP b p 16) j, smL b (smP b (belowP b p 16) d.vars.length) k⟩ ∧ envP b p d = smP b (smP b (belowP b p 16) d.vars.length) k := by
  obtain rfl : j = d.vars.length := by omega
  obtain rfl : k = d.arrays.length := by omega
  unfold envV envP; rw [if_neg (by rw [h]; decide), if_neg (by rw [h]; decide)]; exact ⟨rfl, rfl⟩
theorem Rdr.ok.env {d : Decl} (h : Rdr.ok b p) : Rdr.ok b (envP b p d) := by
  unfold envP; split
  · exact h.below
  · exact (h.below.sm _).sm _
def FitE (e : Env) : Prop := (∀ x ∈ e.ints, FitI x) ∧ ∀ x ∈ e.arrs, FitI x
theorem env_fit {d : Decl} (h : Rdr.ok b p) : FitE (envV b p d) := by
  unfold envV; split
  · exact ⟨by simp, by simp⟩
  · exact ⟨smL_fit h.below _, smL_fit (h.below.sm _) _⟩
theorem env_len {d : Decl} : (envV b p d).ints.length ≤ d.vars.length ∧ (envV b p d).arrs.length ≤ d.arrays.length := by
  unfold envV; split
  · simp
  · simp [smL_len]
def hurtP (b : List Int) (p : Int) : Int := belowP b p 24
def hurtV (b : List Int) (p : Int) (e : Env) : Env :=
  if belowV b p 24 = 0 then ⟨!e.live, e.ints, e.arrs⟩
  else if belowV b p 24 = 1 then ⟨e.live, e.ints ++ [⟨0, 0⟩], e.arrs⟩
  else if belowV b p 24 = 2 then ⟨e.live, e.ints.set 0 ⟨1, 0⟩, e.arrs⟩
  else e
theorem hurt_len {e : Env} : (hurtV b p e).ints.length ≤ e.ints.length + 1 ∧ (hurtV b p e).arrs.length ≤ e.arrs.length := by
  unfold hurtV
  repeat' split
  all_goals simp
theorem hurt_fit {e : Env} (h : FitE e) : FitE (hurtV b p e) := by
  unfold hurtV
  repeat' split
  · exact h
  · refine ⟨fun x hx => ?_, h.2⟩
    simp only [List.mem_append, List.mem_singleton] at hx
    rcases hx with hx | rfl
    · exact h.1 x hx
    · unfold FitI Fit; simp
  · refine ⟨fun x hx => ?_, h.2⟩
    rcases List.mem_or_eq_of_mem_set hx with hx | rfl
    · exact h.1 x hx
    · unfold FitI Fit; simp
  · exact h
theorem hurt_0 {e : Env} (h : belowV b p 24 = 0) : hurtV b p e = ⟨!e.live, e.ints, e.arrs⟩ := by unfold hurtV; rw [if_pos h]
theorem hurt_1 {e : Env} (h0 : ¬ belowV b p 24 = 0) (h : belowV b p 24 = 1) : hurtV b p e = ⟨e.live, e.ints ++ [⟨0, 0⟩], e.arrs⟩ := by unfold hurtV; rw [if_neg h0, if_pos h]
theorem hurt_2 {e : Env} (h0 : ¬ belowV b p 24 = 0) (h1 : ¬ belowV b p 24 = 1) (h : belowV b p 24 = 2) : hurtV b p e = ⟨e.live, e.ints.set 0 ⟨1, 0⟩, e.arrs⟩ := by unfold hurtV; rw [if_neg h0, if_neg h1, if_pos h]
theorem hurt_3 {e : Env} (h0 : ¬ belowV b p 24 = 0) (h1 : ¬ belowV b p 24 = 1) (h : belowV b p 24 = 2) (hn : ¬ (e.ints.length : Int) > 0) : hurtV b p e = ⟨e.live, e.ints, e.arrs⟩ := by
  rw [hurt_2 h0 h1 h]
  have : e.ints = [] := List.eq_nil_of_length_eq_zero (by omega)
  rw [this]; rfl
theorem hurt_4 {e : Env} (h0 : ¬ belowV b p 24 = 0) (h1 : ¬ belowV b p 24 = 1) (h : ¬ belowV b p 24 = 2) : hurtV b p e = ⟨e.live, e.ints, e.arrs⟩ := by unfold hurtV; rw [if_neg h0, if_neg h1, if_neg h]
theorem Rdr.ok.hurt (h : Rdr.ok b p) : Rdr.ok b (hurtP b p) := h.below
-- declarations
def varsL : List ByteArray := [⟨#[120]⟩, ⟨#[121]⟩, ⟨#[105]⟩, ⟨#[110]⟩, ⟨#[107]⟩]
def flagsL : List ByteArray := [⟨#[98]⟩, ⟨#[99]⟩, ⟨#[102]⟩]
/-- Where the places are that a declaration is drawn from. -/
def dcP1 (b : List Int) (p : Int) : Int := belowP b p 4
def dcP2 (b : List Int) (p : Int) : Int := belowP b (dcP1 b p) 2
def dcP3 (b : List Int) (p : Int) : Int := belowP b (dcP2 b p) 3
def dcP4 (b : List Int) (p : Int) : Int := if onceV b (dcP2 b p) 3 = true then belowP b (dcP3 b p) 4 else dcP3 b p
def dcP5 (b : List Int) (p : Int) : Int := belowP b (dcP4 b p) 2
def declP (b : List Int) (p : Int) : Int := if onceV b (dcP4 b p) 2 = true then belowP b (dcP5 b p) 6 else dcP5 b p
def declV (b : List Int) (p : Int) : Decl :=
  ⟨varsL.take (1 + belowV b p 4).toNat,
   if onceV b (dcP2 b p) 3 = true then flagsL.take (belowV b (dcP3 b p) 4).toNat else flagsL.take (1 + belowV b (dcP1 b p) 2).toNat,
   if onceV b (dcP4 b p) 2 = true then [⟨⟨#[97]⟩, 1 + belowV b (dcP5 b p) 6⟩] else []⟩
theorem Rdr.ok.decl (h : Rdr.ok b p) : Rdr.ok b (dcP1 b p) ∧ Rdr.ok b (dcP2 b p) ∧ Rdr.ok b (dcP3 b p) ∧ Rdr.ok b (dcP4 b p) ∧ Rdr.ok b (dcP5 b p) ∧ Rdr.ok b (declP b p) := by
  have h1 : Rdr.ok b (dcP1 b p) := h.below
  have h2 : Rdr.ok b (dcP2 b p) := h1.below
  have h3 : Rdr.ok b (dcP3 b p) := h2.below
  have h4 : Rdr.ok b (dcP4 b p) := by
    unfold dcP4; split
    · exact h3.below
    · exact h3
  have h5 : Rdr.ok b (dcP5 b p) := h4.below
  refine ⟨h1, h2, h3, h4, h5, ?_⟩
  unfold declP; split
  · exact h5.below
  · exact h5
theorem dcP4_1 (h0 : onceV b (dcP2 b p) 3 = true) : dcP4 b p = belowP b (dcP3 b p) 4 := by unfold dcP4; rw [if_pos h0]
theorem dcP4_0 (h0 : onceV b (dcP2 b p) 3 = false) : dcP4 b p = dcP3 b p := by unfold dcP4; rw [if_neg (by rw [h0]; decide)]
theorem decl_11 (h0 : onceV b (dcP2 b p) 3 = true) (h9 : onceV b (belowP b (dcP3 b p) 4) 2 = true) : declV b p = ⟨varsL.take (1 + belowV b p 4).toNat, flagsL.take (belowV b (dcP3 b p) 4).toNat, [⟨⟨#[97]⟩, 1 + belowV b (belowP b (belowP b (dcP3 b p) 4) 2) 6⟩]⟩ ∧ declP b p = belowP b (belowP b (belowP b (dcP3 b p) 4) 2) 6 := by
  have h1 : onceV b (dcP4 b p) 2 = true := by rw [dcP4_1 h0]; exact h9
  have e : dcP4 b p = belowP b (dcP3 b p) 4 := by unfold dcP4; rw [if_pos h0]
  unfold declV declP; rw [if_pos h0, if_pos h1, if_pos h1]; unfold dcP5; rw [e]; exact ⟨rfl, rfl⟩
theorem decl_10 (h0 : onceV b (dcP2 b p) 3 = true) (h9 : onceV b (belowP b (dcP3 b p) 4) 2 = false) : declV b p = ⟨varsL.take (1 + belowV b p 4).toNat, flagsL.take (belowV b (dcP3 b p) 4).toNat, []⟩ ∧ declP b p = belowP b (belowP b (dcP3 b p) 4) 2 := by
  have h1 : onceV b (dcP4 b p) 2 = false := by rw [dcP4_1 h0]; exact h9
  have e : dcP4 b p = belowP b (dcP3 b p) 4 := by unfold dcP4; rw [if_pos h0]
  unfold declV declP; rw [if_pos h0, if_neg (by rw [h1]; decide), if_neg (by rw [h1]; decide)]; unfold dcP5; rw [e]; exact ⟨rfl, rfl⟩
theorem decl_01 (h0 : onceV b (dcP2 b p) 3 = false) (h9 : onceV b (dcP3 b p) 2 = true) : declV b p = ⟨varsL.take (1 + belowV b p 4).toNat, flagsL.take (1 + belowV b (dcP1 b p) 2).toNat, [⟨⟨#[97]⟩, 1 + belowV b (belowP b (dcP3 b p) 2) 6⟩]⟩ ∧ declP b p = belowP b (belowP b (dcP3 b p) 2) 6 := by
  have h1 : onceV b (dcP4 b p) 2 = true := by rw [dcP4_0 h0]; exact h9
  have e : dcP4 b p = dcP3 b p := by unfold dcP4; rw [if_neg (by rw [h0]; decide)]
  unfold declV declP; rw [if_neg (by rw [h0]; decide), if_pos h1, if_pos h1]; unfold dcP5; rw [e]; exact ⟨rfl, rfl⟩
theorem decl_00 (h0 : onceV b (dcP2 b p) 3 = false) (h9 : onceV b (dcP3 b p) 2 = false) : declV b p = ⟨varsL.take (1 + belowV b p 4).toNat, flagsL.take (1 + belowV b (dcP1 b p) 2).toNat, []⟩ ∧ declP b p = belowP b (dcP3 b p) 2 := by
  have h1 : onceV b (dcP4 b p) 2 = false := by rw [dcP4_0 h0]; exact h9
  have e : dcP4 b p = dcP3 b p := by unfold dcP4; rw [if_neg (by rw [h0]; decide)]
  unfold declV declP; rw [if_neg (by rw [h0]; decide), if_neg (by rw [h1]; decide), if_neg (by rw [h1]; decide)]; unfold dcP5; rw [e]; exact ⟨rfl, rfl⟩
theorem one_norm (h : Rdr.ok b p) {n : Int} (h1 : 1 ≤ n) (h2 : n ≤ 100) : IntKind.wrap .i64 (1 + belowV b p n) = 1 + belowV b p n := by
  have h9 := belowV_bnd h h1
  exact wrap_le (by omega) (by omega)
theorem hund_norm (h : Rdr.ok b p) : IntKind.wrap .i64 (100 + belowV b p 2) = 100 + belowV b p 2 := by
  have h9 := belowV_bnd (n := 2) h (by omega)
  exact wrap_le (by omega) (by omega)
theorem down_norm {j : Nat} (h : Rdr.ok b p) (hj : (j : Int) ≤ belowV b p 7) : IntKind.wrap .i64 (belowV b p 7 - (j : Int) - 1) = belowV b p 7 - ((j + 1 : Nat) : Int) := by
  have h9 := belowV_bnd (n := 7) h (by omega)
  rw [wrap_le (by omega) (by omega)]; omega
theorem Rdr.ok.declP (h : Rdr.ok b p) : Rdr.ok b (declP b p) := h.decl.2.2.2.2.2
theorem decl_len : (declV b p).vars.length ≤ 5 ∧ (declV b p).flags.length ≤ 3 ∧ (declV b p).arrays.length ≤ 1 := by
  unfold declV varsL flagsL
  refine ⟨?_, ?_, ?_⟩
  · simp; omega
  · simp only; split <;> simp <;> omega
  · simp only; split <;> simp
theorem decl_names : ∀ x ∈ Decl.names (declV b p), x.size ≤ 9223372036854775807 := by
  have h1 : ∀ x ∈ varsL, x.size ≤ 9223372036854775807 := by decide
  have h2 : ∀ x ∈ flagsL, x.size ≤ 9223372036854775807 := by decide
  intro x hx
  unfold Decl.names declV at hx
  simp only [List.mem_append, List.mem_map] at hx
  rcases hx with (hx | hx) | ⟨y, hy, rfl⟩
  · exact h1 x (List.mem_of_mem_take hx)
  · split at hx
    · exact h2 x (List.mem_of_mem_take hx)
    · exact h2 x (List.mem_of_mem_take hx)
  · split at hy
    · simp only [List.mem_singleton] at hy
      subst hy
      have : ((⟨#[97]⟩ : ByteArray)).size = 1 := rfl
      show ((⟨#[97]⟩ : ByteArray)).size ≤ _
      omega
    · simp at hy
-- steps
def nmP (b : List Int) (p : Int) : Nat → Int
  | 0 => p
  | j + 1 => numP b (nmP b p j)
def nmL (b : List Int) (p : Int) : Nat → List Int
  | 0 => []
  | j + 1 => nmL b p j ++ [numV b (nmP b p j)]
theorem Rdr.ok.nm (h : Rdr.ok b p) : ∀ j, Rdr.ok b (nmP b p j)
  | 0 => h
  | j + 1 => (Rdr.ok.nm h j).num
theorem nmL_len (b : List Int) (p : Int) : ∀ j, (nmL b p j).length = j
  | 0 => rfl
  | j + 1 => by simp [nmL, nmL_len b p j]
def stN (b : List Int) (p : Int) : Nat := (belowV b p 7).toNat
def stP (b : List Int) (p : Int) : Int := nmP b (belowP b p 7) (stN b p)
def stepsV (b : List Int) (p : Int) : List Int :=
  if onceV b (stP b p) 40 = true then List.replicate (100 + belowV b (belowP b (stP b p) 40) 2).toNat 0 else nmL b (belowP b p 7) (stN b p)
def stepsP (b : List Int) (p : Int) : Int := if onceV b (stP b p) 40 = true then belowP b (belowP b (stP b p) 40) 2 else belowP b (stP b p) 40
theorem nm_end (hr : Rdr.ok b p) {j : Nat} (h : (j : Int) ≤ belowV b p 7) (h1 : ¬ belowV b p 7 - (j : Int) > 0) : j = stN b p := by unfold stN; omega
theorem steps_1 {q : Int} (hq : q = stP b p) (h : onceV b q 40 = true) : stepsV b p = List.replicate (100 + belowV b (belowP b q 40) 2).toNat 0 ∧ stepsP b p = belowP b (belowP b q 40) 2 := by
  subst hq; unfold stepsV stepsP; rw [if_pos h, if_pos h]; exact ⟨rfl, rfl⟩
theorem steps_2 {q : Int} (hq : q = stP b p) (h : onceV b q 40 = false) : stepsV b p = nmL b (belowP b p 7) (stN b p) ∧ stepsP b p = belowP b q 40 := by
  subst hq; unfold stepsV stepsP; rw [if_neg (by rw [h]; decide), if_neg (by rw [h]; decide)]; exact ⟨rfl, rfl⟩
theorem steps_len (h : Rdr.ok b p) : (stepsV b p).length ≤ 101 := by
  have h1 := belowV_bnd (n := 7) h (by omega)
  unfold stepsV; split
  · have h2 := belowV_bnd (b := b) (p := belowP b (stP b p) 40) (n := 2) (Rdr.ok.below (h.below.nm _)) (by omega)
    simp; omega
  · rw [nmL_len]; unfold stN; omega
-- bytes of a code
def byteV (c : List Int) (i : Int) : Int := if (c.length : Int) = 0 then 0 else c.getD (Int.tmod i (c.length : Int)).toNat default
theorem byte_0 {c : List Int} {i : Int} (h : (c.length : Int) = 0) : byteV c i = 0 := by unfold byteV; rw [if_pos h]
theorem byte_1 {c : List Int} {i : Int} (h : ¬ (c.length : Int) = 0) : byteV c i = c.getD (Int.tmod i (c.length : Int)).toNat default := by unfold byteV; rw [if_neg h]
theorem byte_nn {c : List Int} {i : Int} (hi : 0 ≤ i ∧ i ≤ 1048576) (h : ¬ (c.length : Int) = 0) : Int.tmod i (c.length : Int) = ((Int.tmod i (c.length : Int)).toNat : Int) := by
  have := Int.tmod_nonneg (c.length : Int) hi.1; omega
theorem byte_lt {c : List Int} {i : Int} (hi : 0 ≤ i ∧ i ≤ 1048576) (h : ¬ (c.length : Int) = 0) : (Int.tmod i (c.length : Int)).toNat < c.length := by
  have h1 := Int.tmod_nonneg (c.length : Int) hi.1
  have h2 := Int.tmod_lt_of_pos i (b := (c.length : Int)) (by omega)
  omega
theorem byte_bnd {c : List Int} {i : Int} (hb : ∀ x ∈ c, 0 ≤ x ∧ x ≤ 255) (hi : 0 ≤ i ∧ i ≤ 1048576) : 0 ≤ byteV c i ∧ byteV c i ≤ 255 := by
  unfold byteV; split
  · omega
  · rename_i h; exact hb _ (getD_mem (byte_lt hi h))
theorem wrap_u64_eq (z : Int) : IntKind.wrap .u64 z = z % 18446744073709551616 := by
  simp only [IntKind.wrap, IntKind.bits, IntKind.signed]; simp
theorem wrap_i64_eq (z : Int) : IntKind.wrap .i64 z = if z % 18446744073709551616 < 9223372036854775808 then z % 18446744073709551616 else z % 18446744073709551616 - 18446744073709551616 := by
  simp only [IntKind.wrap, IntKind.bits, IntKind.signed]
  simp
  split <;> split <;> omega
-- a number of an interval
def wN (a : Iv) : Int := IntKind.wrap .u64 ((IntKind.wrap .u64 a.hi) - (IntKind.wrap .u64 a.lo))
def kV (c : List Int) (i : Int) : Int := IntKind.wrap .u64 (IntKind.wrap .i64 ((IntKind.wrap .i64 ((byteV c i) * 257)) + (byteV c (IntKind.wrap .i64 (i + 1)))))
def spread (a : Iv) (x : Int) : Int := IntKind.wrap .i64 (IntKind.wrap .u64 ((IntKind.wrap .u64 a.lo) + (Int.tmod x (IntKind.wrap .u64 (wN a + 1)))))
def inV (a : Iv) (c : List Int) (i : Int) : Int :=
  if Int.tmod (byteV c (IntKind.wrap .i64 (i + 2))) 4 = 0 then a.lo else if Int.tmod (byteV c (IntKind.wrap .i64 (i + 2))) 4 = 1 then a.hi
  else if IntKind.wrap .u64 (wN a + 1) = 0 then IntKind.wrap .i64 (IntKind.wrap .u64 (kV c i * 281474976710597)) else spread a (IntKind.wrap .u64 (kV c i * 281474976710597))
section
variable {a : Iv} {c : List Int} {i : Int}
theorem in_0 (h0 : Int.tmod (byteV c (IntKind.wrap .i64 (i + 2))) 4 = 0) : inV a c i = a.lo := by unfold inV; rw [if_pos h0]
theorem in_1 (h0 : ¬ Int.tmod (byteV c (IntKind.wrap .i64 (i + 2))) 4 = 0) (h1 : Int.tmod (byteV c (IntKind.wrap .i64 (i + 2))) 4 = 1) : inV a c i = a.hi := by unfold inV; rw [if_neg h0, if_pos h1]
theorem in_2 (h0 : ¬ Int.tmod (byteV c (IntKind.wrap .i64 (i + 2))) 4 = 0) (h1 : ¬ Int.tmod (byteV c (IntKind.wrap .i64 (i + 2))) 4 = 1) (h2 : IntKind.wrap .u64 (wN a + 1) = 0) : inV a c i = IntKind.wrap .i64 (IntKind.wrap .u64 (kV c i * 281474976710597)) := by
  unfold inV; rw [if_neg h0, if_neg h1, if_pos h2]
theorem in_3 (h0 : ¬ Int.tmod (byteV c (IntKind.wrap .i64 (i + 2))) 4 = 0) (h1 : ¬ Int.tmod (byteV c (IntKind.wrap .i64 (i + 2))) 4 = 1) (h2 : ¬ IntKind.wrap .u64 (wN a + 1) = 0) : inV a c i = spread a (IntKind.wrap .u64 (kV c i * 281474976710597)) := by
  unfold inV; rw [if_neg h0, if_neg h1, if_neg h2]
theorem wN_eq (hf : FitI a) (h : a.lo ≤ a.hi) : wN a = a.hi - a.lo := by
  unfold wN FitI Fit at *
  rw [wrap_u64_eq, wrap_u64_eq, wrap_u64_eq]; omega
theorem spread_in (hf : FitI a) (h : a.lo ≤ a.hi) {x : Int} (hx : 0 ≤ x) (h2 : ¬ IntKind.wrap .u64 (wN a + 1) = 0) : a.lo ≤ spread a x ∧ spread a x ≤ a.hi := by
  have e := wN_eq hf h
  unfold FitI Fit at hf
  unfold spread
  rw [wrap_u64_eq] at h2
  have e2 : IntKind.wrap .u64 (wN a + 1) = a.hi - a.lo + 1 := by rw [wrap_u64_eq, e]; rw [e] at h2; omega
  rw [e2]
  have h3 := Int.tmod_nonneg (a.hi - a.lo + 1) hx
  have h4 := Int.tmod_lt_of_pos x (b := a.hi - a.lo + 1) (by omega)
  generalize Int.tmod x (a.hi - a.lo + 1) = y at *
  rw [wrap_i64_eq, wrap_u64_eq, wrap_u64_eq]
  split <;> omega
theorem full_in (hf : FitI a) (h : a.lo ≤ a.hi) (x : Int) (h2 : IntKind.wrap .u64 (wN a + 1) = 0) : a.lo ≤ IntKind.wrap .i64 x ∧ IntKind.wrap .i64 x ≤ a.hi := by
  have e := wN_eq hf h
  have h3 := fit_wrap x
  unfold FitI Fit at hf
  unfold Fit at h3
  rw [wrap_u64_eq, e] at h2
  omega
theorem inV_in (hf : FitI a) (h : a.lo ≤ a.hi) : a.lo ≤ inV a c i ∧ inV a c i ≤ a.hi := by
  unfold inV
  split
  · omega
  · split
    · omega
    · split
      · exact full_in hf h _ ‹_›
      · exact spread_in hf h (wrap_u64_nn _) ‹_›
end
def rinV (b : List Int) (p : Int) (a : Iv) : Int :=
  if belowV b p 4 = 0 then a.lo else if belowV b p 4 = 1 then a.hi
  else if IntKind.wrap .u64 (wN a + 1) = 0 then IntKind.wrap .i64 (wordV b (belowP b p 4)) else spread a (wordV b (belowP b p 4))
def rinP (b : List Int) (p : Int) (_ : Iv) : Int := if belowV b p 4 = 0 then belowP b p 4 else if belowV b p 4 = 1 then belowP b p 4 else wordP b (belowP b p 4)
theorem rin_0 {a : Iv} (h0 : belowV b p 4 = 0) : rinV b p a = a.lo ∧ rinP b p a = belowP b p 4 := by unfold rinV rinP; rw [if_pos h0, if_pos h0]; exact ⟨rfl, rfl⟩
theorem rin_1 {a : Iv} (h0 : ¬ belowV b p 4 = 0) (h1 : belowV b p 4 = 1) : rinV b p a = a.hi ∧ rinP b p a = belowP b p 4 := by unfold rinV rinP; rw [if_neg h0, if_neg h0, if_pos h1, if_pos h1]; exact ⟨rfl, rfl⟩
theorem rin_2 {a : Iv} (h0 : ¬ belowV b p 4 = 0) (h1 : ¬ belowV b p 4 = 1) (h2 : IntKind.wrap .u64 (wN a + 1) = 0) : rinV b p a = IntKind.wrap .i64 (wordV b (belowP b p 4)) ∧ rinP b p a = wordP b (belowP b p 4) := by
  unfold rinV rinP; rw [if_neg h0, if_neg h0, if_neg h1, if_neg h1, if_pos h2]; exact ⟨rfl, rfl⟩
theorem rin_3 {a : Iv} (h0 : ¬ belowV b p 4 = 0) (h1 : ¬ belowV b p 4 = 1) (h2 : ¬ IntKind.wrap .u64 (wN a + 1) = 0) : rinV b p a = spread a (wordV b (belowP b p 4)) ∧ rinP b p a = wordP b (belowP b p 4) := by
  unfold rinV rinP; rw [if_neg h0, if_neg h0, if_neg h1, if_neg h1, if_neg h2]; exact ⟨rfl, rfl⟩
theorem Rdr.ok.rin {a : Iv} (h : Rdr.ok b p) : Rdr.ok b (rinP b p a) := by
  unfold rinP
  repeat' split
  all_goals first | exact h.below | exact h.below.word
-- tables
def htV (b : List Int) (p : Int) (t : List Env) : List Env :=
  if belowV b p 24 = 0 then t.drop 1
  else if belowV b p 24 = 1 then t.set 0 (hurtV b (belowP b p 24) (t.getD 0 default))
  else if belowV b p 24 = 2 then t ++ [⟨false, [], []⟩]
  else t
def htP (b : List Int) (p : Int) : Int := if belowV b p 24 = 1 then hurtP b (belowP b p 24) else belowP b p 24
theorem ht_0 {t : List Env} (h : belowV b p 24 = 0) : htV b p t = t.drop 1 := by unfold htV; rw [if_pos h]
theorem ht_1 {t : List Env} (h0 : ¬ belowV b p 24 = 0) (h : belowV b p 24 = 1) : htV b p t = t.set 0 (hurtV b (belowP b p 24) (t.getD 0 default)) := by unfold htV; rw [if_neg h0, if_pos h]
theorem ht_2 {t : List Env} (h0 : ¬ belowV b p 24 = 0) (h1 : ¬ belowV b p 24 = 1) (h : belowV b p 24 = 2) : htV b p t = t ++ [⟨false, [], []⟩] := by unfold htV; rw [if_neg h0, if_neg h1, if_pos h]
theorem ht_3 {t : List Env} (h0 : ¬ belowV b p 24 = 0) (h1 : ¬ belowV b p 24 = 1) (h : ¬ belowV b p 24 = 2) : htV b p t = t := by unfold htV; rw [if_neg h0, if_neg h1, if_neg h]
theorem htP_0 (h : ¬ belowV b p 24 = 1) : htP b p = belowP b p 24 := by unfold htP; rw [if_neg h]
theorem htP_1 (h : belowV b p 24 = 1) : htP b p = hurtP b (belowP b p 24) := by unfold htP; rw [if_pos h]
theorem Rdr.ok.ht (h : Rdr.ok b p) : Rdr.ok b (htP b p) := by
  unfold htP; split
  · exact h.below.hurt
  · exact h.below
theorem ht_len {t : List Env} : (htV b p t).length ≤ t.length + 1 := by
  unfold htV
  repeat' split
  all_goals first | (simp; done) | (simp; omega)
-- two environments in an order
abbrev drA (c : List Int) : Env := envV c (declP c 0) (declV c 0)
abbrev drP2 (c : List Int) : Int := envP c (declP c 0) (declV c 0)
abbrev drB0 (c : List Int) : Env := envV c (drP2 c) (declV c 0)
abbrev drP3 (c : List Int) : Int := envP c (drP2 c) (declV c 0)
abbrev drB (c : List Int) : Env := if onceV c (drP3 c) 2 = true then Env.join (drA c) (drB0 c) else drB0 c
def dlA (c : List Int) : Env := hurtV c (belowP c (drP3 c) 2) (drA c)
def dlB (c : List Int) : Env := hurtV c (hurtP c (belowP c (drP3 c) 2)) (drB c)
theorem dlB_1 {c : List Int} (h : onceV c (drP3 c) 2 = true) : dlB c = hurtV c (hurtP c (belowP c (drP3 c) 2)) (Env.join (drA c) (drB0 c)) := by unfold dlB drB; rw [if_pos h]
theorem dlB_2 {c : List Int} (h : onceV c (drP3 c) 2 = false) : dlB c = hurtV c (hurtP c (belowP c (drP3 c) 2)) (drB0 c) := by unfold dlB drB; rw [if_neg (by rw [h]; decide)]
theorem dr_d (c : List Int) (p : Int) : (declV c p).vars.length ≤ 1048576 ∧ (declV c p).arrays.length ≤ 1048576 := by have := decl_len (b := c) (p := p); omega
theorem env_len' (c : List Int) (p q : Int) : (envV c p (declV c q)).ints.length ≤ 5 ∧ (envV c p (declV c q)).arrs.length ≤ 1 := by
  have h1 := decl_len (b := c) (p := q)
  have h2 := env_len (b := c) (p := p) (d := declV c q)
  omega
theorem env_live {c : List Int} {p : Int} {d : Decl} (h : (envV c p d).live = true) : (envV c p d).ints.length = d.vars.length ∧ (envV c p d).arrs.length = d.arrays.length := by
  unfold envV at h ⊢
  split
  · rename_i h9; rw [if_pos h9] at h; exact absurd h (by decide)
  · simp [smL_len]
theorem dr_j (c : List Int) (p q : Int) (d : Decl) : (envV c p d).live = true → (envV c q d).live = true → (envV c p d).ints.length = (envV c q d).ints.length ∧ (envV c p d).arrs.length = (envV c q d).arrs.length := fun h1 h2 => by
  rw [(env_live h1).1, (env_live h1).2, (env_live h2).1, (env_live h2).2]; exact ⟨rfl, rfl⟩
theorem dr_h (c : List Int) (p q u : Int) : (envV c p (declV c u)).ints.length ≤ 1048576 ∧ (envV c p (declV c u)).arrs.length ≤ 1048576 ∧ (envV c q (declV c u)).ints.length ≤ 1048576 ∧ (envV c q (declV c u)).arrs.length ≤ 1048576 := by
  have h1 := env_len' c p u
  have h2 := env_len' c q u
  omega
theorem dr_e (c : List Int) (p u : Int) : (envV c p (declV c u)).ints.length ≤ 1048576 := by have h1 := env_len' c p u; omega
theorem join_len' {a b : Env} : (Env.join a b).ints.length ≤ max a.ints.length b.ints.length ∧ (Env.join a b).arrs.length ≤ max a.arrs.length b.arrs.length := by
  unfold Env.join
  repeat' split
  all_goals first | omega | (simp only [zip2_len]; omega)
theorem dr_e2 (c : List Int) (p q u : Int) : (Env.join (envV c p (declV c u)) (envV c q (declV c u))).ints.length ≤ 1048576 := by
  have h1 := env_len' c p u
  have h2 := env_len' c q u
  have h3 := join_len' (a := envV c p (declV c u)) (b := envV c q (declV c u))
  omega
theorem dl_len (c : List Int) : (dlA c).ints.length ≤ 6 ∧ (dlA c).arrs.length ≤ 1 ∧ (dlB c).ints.length ≤ 6 ∧ (dlB c).arrs.length ≤ 1 := by
  have h1 : (drA c).ints.length ≤ 5 ∧ (drA c).arrs.length ≤ 1 := env_len' c (declP c 0) 0
  have h2 : (drB0 c).ints.length ≤ 5 ∧ (drB0 c).arrs.length ≤ 1 := env_len' c (drP2 c) 0
  have h3 := join_len' (a := drA c) (b := drB0 c)
  have h4 := hurt_len (b := c) (p := belowP c (drP3 c) 2) (e := drA c)
  have h5 := hurt_len (b := c) (p := hurtP c (belowP c (drP3 c) 2)) (e := drB c)
  unfold dlA dlB
  have h6 : (drB c).ints.length ≤ 5 ∧ (drB c).arrs.length ≤ 1 := by
    unfold drB; split <;> omega
  omega
theorem join_fit {a b : Env} (ha : FitE a) (hb : FitE b) (hl : a.live = true → b.live = true → a.ints.length = b.ints.length ∧ a.arrs.length = b.arrs.length) : FitE (Env.join a b) := by
  unfold Env.join
  split
  · rename_i h1
    split
    · rename_i h2
      have h3 := hl h1 h2
      have key : ∀ {x y : List Iv}, (∀ z ∈ x, FitI z) → (∀ z ∈ y, FitI z) → x.length = y.length → ∀ z ∈ zip2 Iv.join x y, FitI z := by
        intro x y hx hy he z hz
        unfold zip2 zip2To at hz
        simp only [List.mem_map, List.mem_range] at hz
        obtain ⟨i, hi, rfl⟩ := hz
        have h4 := hx _ (getD_mem hi)
        have h5 := hy _ (getD_mem (he ▸ hi))
        unfold FitI Fit Iv.join at *
        simp only
        omega
      exact ⟨key ha.1 hb.1 h3.1, key ha.2 hb.2 h3.2⟩
    · exact ha
  · exact hb
theorem dl_fit {c : List Int} (h : Rdr.ok c 0) : FitE (dlA c) ∧ FitE (dlB c) := by
  have h1 : FitE (drA c) := env_fit h.declP
  have h2 : FitE (drB0 c) := env_fit h.declP.env
  unfold dlA dlB
  refine ⟨hurt_fit h1, hurt_fit ?_⟩
  unfold drB; split
  · exact join_fit h1 h2 (dr_j _ _ _ _)
  · exact h2
end Go.Proofs

/- The plain laws of bounds. -/
namespace Go.Proofs
open Go Go.Ev
variable [Lay]
def Env.leqIn (d : Decl) (a b : Env) : Bool := (Decl.ok d && Env.okIn d a && Env.okIn d b) && Env.leq a b
theorem leqIn_len {d : Decl} {a b : Env} (h : (Decl.ok d && Env.okIn d a && Env.okIn d b) = true) : a.live = true → b.live = true → a.ints.length = b.ints.length ∧ a.arrs.length = b.arrs.length :=
  okIn_len2 (by simpa [Bool.and_eq_true] using h)
theorem leq_two {d : Decl} {a b : Env} (h1 : (Decl.ok d && Env.okIn d a) = true) (h2 : (Decl.ok d && Env.okIn d b) = true) : (Decl.ok d && Env.okIn d a && Env.okIn d b) = true := by
  simp only [Bool.and_eq_true] at *; exact ⟨h1, h2.2⟩
theorem leqIn_spec {d : Decl} {a b : Env} : ((Decl.ok d && Env.okIn d a) && (Decl.ok d && Env.okIn d b) && Env.leq a b) = Env.leqIn d a b := by
  unfold Env.leqIn
  cases Decl.ok d <;> simp
theorem okIn_off {d : Decl} {a : Env} (h : Env.okIn d a = true) (hl : a.live = false) : a = ⟨false, [], []⟩ := by
  unfold Env.okIn at h
  rw [if_neg (by rw [hl]; decide)] at h
  simp only [Bool.and_eq_true, beq_iff_eq] at h
  have h1 : a.ints = [] := List.eq_nil_of_length_eq_zero (by omega)
  have h2 : a.arrs = [] := List.eq_nil_of_length_eq_zero (by omega)
  cases a; simp_all
theorem okIn_ok {d : Decl} {a : Env} (h : Env.okIn d a = true) (hl : a.live = true) : (a.ints.length = d.vars.length ∧ a.arrs.length = d.arrays.length) ∧ (∀ x ∈ a.ints, x.lo ≤ x.hi) ∧ ∀ x ∈ a.arrs, x.lo ≤ x.hi := by
  refine ⟨okIn_one h hl, ?_⟩
  unfold Env.okIn at h
  rw [if_pos hl] at h
  simp only [Bool.and_eq_true, List.all_eq_true, List.mem_append, Iv.ok, decide_eq_true_eq] at h
  exact ⟨fun x hx => h.2 x (.inl hx), fun x hx => h.2 x (.inr hx)⟩
theorem okIn_mk {d : Decl} {a : Env} (hl : a.live = true) (h1 : a.ints.length = d.vars.length) (h2 : a.arrs.length = d.arrays.length) (h3 : ∀ x ∈ a.ints, x.lo ≤ x.hi) (h4 : ∀ x ∈ a.arrs, x.lo ≤ x.hi) : Env.okIn d a = true := by
  unfold Env.okIn
  rw [if_pos hl]
  simp only [Bool.and_eq_true, beq_iff_eq, List.all_eq_true, List.mem_append, Iv.ok, decide_eq_true_eq]
  exact ⟨⟨by omega, by omega⟩, fun x hx => hx.elim (h3 x) (h4 x)⟩
theorem leq_mk {a b : Env} (hb : b.live = true) (h1 : ∀ i, i < a.ints.length → Iv.leq (a.ints.getD i default) (b.ints.getD i default) = true) (h2 : ∀ i, i < a.arrs.length → Iv.leq (a.arrs.getD i default) (b.arrs.getD i default) = true) : Env.leq a b = true := by
  unfold Env.leq
  split
  · simp only [hb, if_true, Bool.and_eq_true]; exact ⟨allTo_iff.2 h1, allTo_iff.2 h2⟩
  · rfl
theorem Iv.leq_mk {a b : Iv} (h1 : a.lo ≤ a.hi) (h2 : b.lo ≤ b.hi) (h3 : b.lo ≤ a.lo) (h4 : a.hi ≤ b.hi) : Iv.leq a b = true := by
  simp only [Iv.leq, Iv.ok, Bool.and_eq_true, decide_eq_true_eq]; exact ⟨⟨⟨h1, h2⟩, h3⟩, h4⟩
theorem zip2_get {α β γ : Type} [Inhabited α] [Inhabited β] [Inhabited γ] {f : α → β → γ} {a : List α} {b : List β} {i : Nat} (h : i < a.length) : (zip2 f a b).getD i default = f (a.getD i default) (b.getD i default) := by
  unfold zip2 zip2To
  rw [List.getD_eq_getElem?_getD, List.getElem?_map, List.getElem?_range h]; rfl
theorem zip2_all {α β γ : Type} [Inhabited α] [Inhabited β] {f : α → β → γ} {a : List α} {b : List β} {p : γ → Prop} (h : ∀ i, i < a.length → p (f (a.getD i default) (b.getD i default))) : ∀ x ∈ zip2 f a b, p x := by
  intro x hx
  unfold zip2 zip2To at hx
  simp only [List.mem_map, List.mem_range] at hx
  obtain ⟨i, hi, rfl⟩ := hx
  exact h i hi
theorem list_ext {α : Type} [Inhabited α] {a b : List α} (hl : a.length = b.length) (h : ∀ i, i < a.length → a.getD i default = b.getD i default) : a = b := by
  refine List.ext_getElem hl fun i h1 h2 => ?_
  have := h i h1
  rwa [List.getD_eq_getElem?_getD, List.getD_eq_getElem?_getD, List.getElem?_eq_getElem h1, List.getElem?_eq_getElem h2] at this
theorem zip2_id {f : Iv → Iv → Iv} {a b : List Iv} (h : ∀ i, i < a.length → f (a.getD i default) (b.getD i default) = a.getD i default) : zip2 f a b = a :=
  list_ext (zip2_len _ _ _) fun i hi => by rw [zip2_len] at hi; rw [zip2_get hi]; exact h i hi
-- widening
theorem foldl_le {n z : Int} : ∀ {l : List Int}, z ≤ n → l.foldl (fun m s => if s ≤ n then max m s else m) z ≤ n
  | [], h => h
  | s :: l, h => by
    simp only [List.foldl_cons]
    refine foldl_le ?_
    split <;> omega
theorem foldl_ge {n z : Int} : ∀ {l : List Int}, n ≤ z → n ≤ l.foldl (fun m s => if s ≥ n then min m s else m) z
  | [], h => h
  | s :: l, h => by
    simp only [List.foldl_cons]
    refine foldl_ge ?_
    split <;> omega
theorem widenLo_le {n z : Int} {l : List Int} (h : z ≤ n) : widenLo n l z ≤ n := foldl_le h
theorem widenHi_ge {n z : Int} {l : List Int} (h : n ≤ z) : n ≤ widenHi n l z := foldl_ge h
theorem widen_bnd {a b : Iv} {l : List Int} (fb : FitI b) : (Iv.widen a b l).lo ≤ a.lo ∧ (Iv.widen a b l).lo ≤ b.lo ∧ a.hi ≤ (Iv.widen a b l).hi ∧ b.hi ≤ (Iv.widen a b l).hi := by
  have h1 := widenLo_le (n := b.lo) (z := -9223372036854775808) (l := l) fb.1.1
  have h2 := widenHi_ge (n := b.hi) (z := 9223372036854775807) (l := l) fb.2.2
  unfold Iv.widen
  simp only
  split <;> split <;> omega
theorem widen_stay {a b : Iv} {l : List Int} (h1 : a.lo ≤ b.lo) (h2 : b.hi ≤ a.hi) : Iv.widen a b l = a := by
  unfold Iv.widen
  rw [if_neg (by omega), if_neg (by omega)]
theorem widenOk_is {a b : Iv} {l : List Int} (h1 : a.lo ≤ a.hi) (h2 : b.lo ≤ b.hi) (hl : ¬ (l.length : Int) > 100) : Iv.widenOk l a b = Iv.widen a b l :=
  Iv.widenOk_yes ⟨⟨decide_eq_true h1, decide_eq_true h2⟩, hl⟩
section
variable {d : Decl} {a b : Env} {l : List Int}
/-- What is widened is right. -/
theorem widen_ok (hd : Decl.ok d = true) (ha : Env.okIn d a = true) (hb : Env.okIn d b = true) (hl : ¬ (l.length : Int) > 100) (fb : FitE b) : Env.okIn d (Env.widenIn d a b l) = true := by
  rw [Env.widenIn_yes2 ⟨⟨⟨hd, ha⟩, hb⟩, hl⟩]
  unfold Env.joinW
  split
  · rename_i h1
    split
    · rename_i h2
      obtain ⟨a1, a2, a3⟩ := okIn_ok ha h1
      obtain ⟨b1, b2, b3⟩ := okIn_ok hb h2
      have key : ∀ {x y : List Iv}, (∀ z ∈ x, z.lo ≤ z.hi) → (∀ z ∈ y, z.lo ≤ z.hi) → (∀ z ∈ y, FitI z) → x.length = y.length → ∀ z ∈ zip2 (fun x y => Iv.widenOk l x y) x y, z.lo ≤ z.hi := fun {x y} hx hy hf he => zip2_all fun i hi => by
        have h3 := hx _ (getD_mem hi)
        have h4 := hy _ (getD_mem (he ▸ hi))
        have h5 := hf _ (getD_mem (he ▸ hi))
        rw [widenOk_is h3 h4 hl]
        have := widen_bnd (a := x.getD i default) (l := l) h5
        omega
      exact okIn_mk rfl (by rw [zip2_len]; exact a1.1) (by rw [zip2_len]; exact a1.2) (key a2 b2 fb.1 (a1.1.trans b1.1.symm)) (key a3 b3 fb.2 (a1.2.trans b1.2.symm))
    · exact ha
  · exact hb
theorem widen_above (hd : Decl.ok d = true) (ha : Env.okIn d a = true) (hb : Env.okIn d b = true) (hl : ¬ (l.length : Int) > 100) (fb : FitE b) : Env.leqIn d a (Env.widenIn d a b l) = true ∧ Env.leqIn d b (Env.widenIn d a b l) = true := by
  have hw := widen_ok hd ha hb hl fb
  unfold Env.leqIn
  rw [hd, ha, hb, hw]
  simp only [Bool.and_self, Bool.true_and]
  rw [Env.widenIn_yes2 ⟨⟨⟨hd, ha⟩, hb⟩, hl⟩]
  have same : ∀ {x : List Iv}, (∀ z ∈ x, z.lo ≤ z.hi) → ∀ i, i < x.length → Iv.leq (x.getD i default) (x.getD i default) = true := fun hx i hi => Iv.leq_mk (hx _ (getD_mem hi)) (hx _ (getD_mem hi)) (Int.le_refl _) (Int.le_refl _)
  unfold Env.joinW
  split
  · rename_i h1
    obtain ⟨a1, a2, a3⟩ := okIn_ok ha h1
    split
    · rename_i h2
      obtain ⟨b1, b2, b3⟩ := okIn_ok hb h2
      have key : ∀ {x y : List Iv}, (∀ z ∈ x, z.lo ≤ z.hi) → (∀ z ∈ y, z.lo ≤ z.hi) → (∀ z ∈ y, FitI z) → x.length = y.length → ∀ i, i < x.length → Iv.leq (x.getD i default) ((zip2 (fun x y => Iv.widenOk l x y) x y).getD i default) = true ∧ Iv.leq (y.getD i default) ((zip2 (fun x y => Iv.widenOk l x y) x y).getD i default) = true := fun {x y} hx hy hf he i hi => by
        have h3 := hx _ (getD_mem hi)
        have h4 := hy _ (getD_mem (he ▸ hi))
        have h5 := hf _ (getD_mem (he ▸ hi))
        rw [zip2_get hi, widenOk_is h3 h4 hl]
        have := widen_bnd (a := x.getD i default) (l := l) h5
        exact ⟨Iv.leq_mk h3 (by omega) (by omega) (by omega), Iv.leq_mk h4 (by omega) (by omega) (by omega)⟩
      have e1 := a1.1.trans b1.1.symm
      have e2 := a1.2.trans b1.2.symm
      exact ⟨leq_mk rfl (fun i hi => (key a2 b2 fb.1 e1 i hi).1) fun i hi => (key a3 b3 fb.2 e2 i hi).1, leq_mk rfl (fun i hi => (key a2 b2 fb.1 e1 i (e1 ▸ hi)).2) fun i hi => (key a3 b3 fb.2 e2 i (e2 ▸ hi)).2⟩
    · rename_i h2
      refine ⟨leq_mk h1 (same a2) (same a3), ?_⟩
      unfold Env.leq; rw [if_neg h2]
  · rename_i h1
    refine ⟨by unfold Env.leq; rw [if_neg h1], ?_⟩
    cases h2 : b.live with
    | true =>
      obtain ⟨b1, b2, b3⟩ := okIn_ok hb h2
      exact leq_mk h2 (same b2) (same b3)
    | false => unfold Env.leq; rw [if_neg (by rw [h2]; decide)]
/-- What is above another one stays when it is widened by it. -/
theorem widen_still {w : Env} (hd : Decl.ok d = true) (hw : Env.okIn d w = true) (hb : Env.okIn d b = true) (hl : ¬ (l.length : Int) > 100) (h : Env.leq b w = true) : Env.widenIn d w b l = w := by
  rw [Env.widenIn_yes2 ⟨⟨⟨hd, hw⟩, hb⟩, hl⟩]
  unfold Env.joinW
  unfold Env.leq at h
  cases h1 : w.live with
  | true =>
    cases h2 : b.live with
    | true =>
      obtain ⟨a1, a2, a3⟩ := okIn_ok hw h1
      obtain ⟨b1, b2, b3⟩ := okIn_ok hb h2
      rw [if_pos h2, if_pos h1, Bool.and_eq_true] at h
      have key : ∀ {x y : List Iv}, x.length = y.length → (allTo y.length fun i => Iv.leq (y.getD i default) (x.getD i default)) = true → zip2 (fun x y => Iv.widenOk l x y) x y = x := fun {x y} he h3 => zip2_id fun i hi => by
        have h4 := allTo_iff.1 h3 i (he ▸ hi)
        simp only [Iv.leq, Iv.ok, Bool.and_eq_true, decide_eq_true_eq] at h4
        rw [widenOk_is h4.1.1.2 h4.1.1.1 hl, widen_stay h4.1.2 h4.2]
      rw [if_pos rfl, if_pos rfl, key (a1.1.trans b1.1.symm) h.1, key (a1.2.trans b1.2.symm) h.2]
      cases w; simp_all
    | false => rw [if_pos rfl, if_neg (by decide)]
  | false =>
    rw [if_neg (by decide)]
    cases h2 : b.live with
    | true => rw [if_pos h2, if_neg (by rw [h1]; decide)] at h; exact absurd h (by decide)
    | false => rw [okIn_off hb h2, okIn_off hw h1]
theorem law_EnvWiden (hd : Decl.ok d = true) (ha : Env.okIn d a = true) (hb : Env.okIn d b = true) (hl : ¬ (l.length : Int) > 100) (fb : FitE b) :
    Env.leqIn d a (Env.widenIn d a b l) = true ∧ Env.leqIn d b (Env.widenIn d a b l) = true ∧ Env.same (Env.widenIn d (Env.widenIn d a b l) b l) (Env.widenIn d a b l) = true ∧ Env.same (Env.widenIn d (Env.widenIn d a b l) a []) (Env.widenIn d a b l) = true := by
  obtain ⟨h1, h2⟩ := widen_above hd ha hb hl fb
  have hw := widen_ok hd ha hb hl fb
  refine ⟨h1, h2, ?_, ?_⟩
  · rw [widen_still hd hw hb hl (Bool.and_eq_true_iff.1 h2).2]; exact Env.same_self _
  · rw [widen_still hd hw ha (by simp) (Bool.and_eq_true_iff.1 h1).2]; exact Env.same_self _
end
end Go.Proofs

/- The model: drawn tables. -/
namespace Go.Proofs
open Go Go.Ev
variable [Lay]
variable {b : List Int} {p : Int} {d : Decl}
theorem leaves_bnd (h : d.flags.length ≤ 3) : 1 ≤ leavesOf d ∧ leavesOf d ≤ 8 := by
  unfold leavesOf
  have : d.flags.length = 0 ∨ d.flags.length = 1 ∨ d.flags.length = 2 ∨ d.flags.length = 3 := by omega
  rcases this with h | h | h | h <;> rw [h] <;> decide
def tbP2 (b : List Int) (d : Decl) (p : Int) (i : Nat) : Int := if (i : Int) > 0 then belowP b (envP b p d) 2 else envP b p d
def tbP3 (b : List Int) (d : Decl) (p : Int) (i : Nat) : Int := if (i : Int) > 0 ∧ onceV b (envP b p d) 2 = true then belowP b (tbP2 b d p i) (i : Int) else tbP2 b d p i
def tbE1 (b : List Int) (d : Decl) (p : Int) (out : List Env) (i : Nat) : Env := if (i : Int) > 0 ∧ onceV b (envP b p d) 2 = true then out.getD (belowV b (tbP2 b d p i) (i : Int)).toNat default else envV b p d
def tbE (b : List Int) (d : Decl) (p : Int) (out : List Env) (i : Nat) : Env := if onceV b (tbP3 b d p i) 6 = true then ⟨false, [], []⟩ else tbE1 b d p out i
def tbS (b : List Int) (d : Decl) (p : Int) : Nat → List Env × Int
  | 0 => ([], p)
  | j + 1 => ((tbS b d p j).1 ++ [tbE b d (tbS b d p j).2 (tbS b d p j).1 j], belowP b (tbP3 b d (tbS b d p j).2 j) 6)
def tbV (b : List Int) (p : Int) (d : Decl) : List Env := (tbS b d p (leavesOf d).toNat).1
def tbP (b : List Int) (p : Int) (d : Decl) : Int := (tbS b d p (leavesOf d).toNat).2
theorem Rdr.ok.tb3 (h : Rdr.ok b p) (i : Nat) : Rdr.ok b (tbP3 b d p i) := by
  have h2 : Rdr.ok b (tbP2 b d p i) := by
    unfold tbP2; split
    · exact h.env.below
    · exact h.env
  unfold tbP3; split
  · exact h2.below
  · exact h2
theorem Rdr.ok.tb2 (h : Rdr.ok b p) (i : Nat) : Rdr.ok b (tbP2 b d p i) := by
  unfold tbP2; split
  · exact h.env.below
  · exact h.env
theorem Rdr.ok.tbS (h : Rdr.ok b p) : ∀ j, Rdr.ok b (tbS b d p j).2
  | 0 => h
  | j + 1 => Rdr.ok.below (n := 6) ((Rdr.ok.tbS h j).tb3 (d := d) j)
theorem Rdr.ok.tb (h : Rdr.ok b p) : Rdr.ok b (tbP b p d) := h.tbS _
theorem tbS_len : ∀ j, (tbS b d p j).1.length = j
  | 0 => rfl
  | j + 1 => by simp [tbS, tbS_len j]
/-- What each drawn bound is like. -/
def Sized (d : Decl) (x : Env) : Prop := (x.live = true → x.ints.length = d.vars.length ∧ x.arrs.length = d.arrays.length) ∧ x.ints.length ≤ d.vars.length ∧ x.arrs.length ≤ d.arrays.length ∧ FitE x
theorem env_sized (h : Rdr.ok b p) : Sized d (envV b p d) := ⟨env_live, env_len.1, env_len.2, env_fit h⟩
theorem off_sized : Sized d ⟨false, [], []⟩ := ⟨fun h => absurd h (by decide), Nat.zero_le _, Nat.zero_le _, by simp [FitE]⟩
theorem tb_sized (h : Rdr.ok b p) : ∀ j, ∀ x ∈ (tbS b d p j).1, Sized d x
  | 0, x, hx => by simp [tbS] at hx
  | j + 1, x, hx => by
    simp only [tbS, List.mem_append, List.mem_singleton] at hx
    rcases hx with hx | rfl
    · exact tb_sized h j x hx
    · unfold tbE
      split
      · exact off_sized
      · unfold tbE1
        split
        · rename_i h1
          have h2 := belowV_bnd (n := (j : Int)) ((Rdr.ok.tbS (d := d) h j).tb2 (d := d) j) (by omega)
          exact tb_sized h j _ (getD_mem (by rw [tbS_len]; omega))
        · exact env_sized (Rdr.ok.tbS h j)
section
theorem no_and {A : Prop} {x : Bool} (h : ¬ A ∨ x = false) : ¬ (A ∧ x = true) := fun h9 => h.elim (fun h8 => h8 h9.1) fun h8 => by rw [h8] at h9; exact absurd h9.2 (by decide)
variable {j : Nat}
theorem tbP3_1 (h1 : (j : Int) > 0 ∧ onceV b (envP b p d) 2 = true) : tbP3 b d p j = belowP b (tbP2 b d p j) (j : Int) := by unfold tbP3; exact if_pos h1
theorem tbP3_0 (h1 : ¬ (j : Int) > 0 ∨ onceV b (envP b p d) 2 = false) : tbP3 b d p j = tbP2 b d p j := by unfold tbP3; exact if_neg (no_and h1)
theorem tbE_1 {out : List Env} (h : onceV b (tbP3 b d p j) 6 = true) : tbE b d p out j = ⟨false, [], []⟩ := by unfold tbE; exact if_pos h
theorem tbE_0 {out : List Env} (h : onceV b (tbP3 b d p j) 6 = false) : tbE b d p out j = tbE1 b d p out j := by unfold tbE; exact if_neg (by rw [h]; decide)
theorem tbE1_1 {out : List Env} (h1 : (j : Int) > 0 ∧ onceV b (envP b p d) 2 = true) : tbE1 b d p out j = out.getD (belowV b (tbP2 b d p j) (j : Int)).toNat default := by unfold tbE1; exact if_pos h1
theorem tbE1_0 {out : List Env} (h1 : ¬ (j : Int) > 0 ∨ onceV b (envP b p d) 2 = false) : tbE1 b d p out j = envV b p d := by unfold tbE1; exact if_neg (no_and h1)
theorem tbS_1 {x : Env} (h : tbE b d (tbS b d p j).2 (tbS b d p j).1 j = x) : (tbS b d p j).1 ++ [x] = (tbS b d p (j + 1)).1 := by rw [← h]; rfl
theorem tbS_2 {q : Int} (h : tbP3 b d (tbS b d p j).2 j = q) : belowP b q 6 = (tbS b d p (j + 1)).2 := by rw [← h]; rfl
theorem tb_11 (h1 : (j : Int) > 0 ∧ onceV b (envP b (tbS b d p j).2 d) 2 = true) (h2 : onceV b (belowP b (tbP2 b d (tbS b d p j).2 j) (j : Int)) 6 = true) : (tbS b d p j).1 ++ [⟨false, [], []⟩] = (tbS b d p (j + 1)).1 :=
  tbS_1 (tbE_1 (by rw [tbP3_1 h1]; exact h2))
theorem tb_10 (h1 : (j : Int) > 0 ∧ onceV b (envP b (tbS b d p j).2 d) 2 = true) (h2 : onceV b (belowP b (tbP2 b d (tbS b d p j).2 j) (j : Int)) 6 = false) : (tbS b d p j).1 ++ [(tbS b d p j).1.getD (belowV b (tbP2 b d (tbS b d p j).2 j) (j : Int)).toNat default] = (tbS b d p (j + 1)).1 :=
  tbS_1 ((tbE_0 (by rw [tbP3_1 h1]; exact h2)).trans (tbE1_1 h1))
theorem tb_01 (h1 : ¬ (j : Int) > 0 ∨ onceV b (envP b (tbS b d p j).2 d) 2 = false) (h2 : onceV b (tbP2 b d (tbS b d p j).2 j) 6 = true) : (tbS b d p j).1 ++ [⟨false, [], []⟩] = (tbS b d p (j + 1)).1 :=
  tbS_1 (tbE_1 (by rw [tbP3_0 h1]; exact h2))
theorem tb_00 (h1 : ¬ (j : Int) > 0 ∨ onceV b (envP b (tbS b d p j).2 d) 2 = false) (h2 : onceV b (tbP2 b d (tbS b d p j).2 j) 6 = false) : (tbS b d p j).1 ++ [envV b (tbS b d p j).2 d] = (tbS b d p (j + 1)).1 :=
  tbS_1 ((tbE_0 (by rw [tbP3_0 h1]; exact h2)).trans (tbE1_0 h1))
theorem tb_p1 (h1 : (j : Int) > 0 ∧ onceV b (envP b (tbS b d p j).2 d) 2 = true) : belowP b (belowP b (tbP2 b d (tbS b d p j).2 j) (j : Int)) 6 = (tbS b d p (j + 1)).2 := tbS_2 (tbP3_1 h1)
theorem tb_p0 (h1 : ¬ (j : Int) > 0 ∨ onceV b (envP b (tbS b d p j).2 d) 2 = false) : belowP b (tbP2 b d (tbS b d p j).2 j) 6 = (tbS b d p (j + 1)).2 := tbS_2 (tbP3_0 h1)
end
theorem tb_copy (h : Rdr.ok b p) (hd : d.vars.length ≤ 1048576 ∧ d.arrays.length ≤ 1048576) {j i : Nat} (hi : i < j) : ((tbS b d p j).1.getD i default).ints.length ≤ 1048576 ∧ ((tbS b d p j).1.getD i default).arrs.length ≤ 1048576 := by
  have h1 := tb_sized (d := d) h j _ (getD_mem (a := (tbS b d p j).1) (j := i) (by rw [tbS_len]; exact hi))
  exact ⟨Nat.le_trans h1.2.1 hd.1, Nat.le_trans h1.2.2.1 hd.2⟩
theorem tb_end {j : Nat} (h : (j : Int) ≤ leavesOf d) (h1 : ¬ (j : Int) < leavesOf d) : (tbS b d p j).1 = tbV b p d ∧ (tbS b d p j).2 = tbP b p d := by
  have : j = (leavesOf d).toNat := by omega
  subst this
  exact ⟨rfl, rfl⟩
theorem tbV_len (h : d.flags.length ≤ 3) : ((tbV b p d).length : Int) = leavesOf d := by
  have := leaves_bnd h
  unfold tbV; rw [tbS_len]; omega
theorem tbV_sized (h : Rdr.ok b p) : ∀ x ∈ tbV b p d, Sized d x := tb_sized h _
-- two tables in an order
abbrev dtA (c : List Int) : List Env := tbV c (declP c 0) (declV c 0)
abbrev dtP2 (c : List Int) : Int := tbP c (declP c 0) (declV c 0)
abbrev dtB0 (c : List Int) : List Env := tbV c (dtP2 c) (declV c 0)
abbrev dtP3 (c : List Int) : Int := tbP c (dtP2 c) (declV c 0)
abbrev dtB (c : List Int) : List Env := if onceV c (dtP3 c) 2 = true then zip2 Env.join (dtA c) (dtB0 c) else dtB0 c
def tlA (c : List Int) : List Env := htV c (belowP c (dtP3 c) 2) (dtA c)
def tlB (c : List Int) : List Env := htV c (htP c (belowP c (dtP3 c) 2)) (dtB c)
theorem tlB_1 {c : List Int} (h : onceV c (dtP3 c) 2 = true) : tlB c = htV c (htP c (belowP c (dtP3 c) 2)) (zip2 Env.join (dtA c) (dtB0 c)) := by unfold tlB dtB; rw [if_pos h]
theorem tlB_2 {c : List Int} (h : onceV c (dtP3 c) 2 = false) : tlB c = htV c (htP c (belowP c (dtP3 c) 2)) (dtB0 c) := by unfold tlB dtB; rw [if_neg (by rw [h]; decide)]
section
variable {c : List Int} {q q' u : Int}
theorem tv_x (h : Rdr.ok c q) : ∀ x ∈ tbV c q (declV c u), x.ints.length ≤ 1048576 ∧ x.arrs.length ≤ 1048576 := fun x hx => by
  have h1 := tbV_sized h x hx
  have h2 := decl_len (b := c) (p := u)
  have h3 := h1.2.1
  have h4 := h1.2.2.1
  omega
theorem tv_l : (tbV c q (declV c u)).length = (tbV c q' (declV c u)).length ∧ (tbV c q (declV c u)).length ≤ 1048576 := by
  have h1 := tbV_len (b := c) (p := q) (d := declV c u) decl_len.2.1
  have h2 := tbV_len (b := c) (p := q') (d := declV c u) decl_len.2.1
  have h3 := leaves_bnd (d := declV c u) decl_len.2.1
  omega
theorem tv_f (h : Rdr.ok c q) (h' : Rdr.ok c q') : ∀ i, i < (tbV c q (declV c u)).length → ((tbV c q (declV c u)).getD i default).live = true → ((tbV c q' (declV c u)).getD i default).live = true →
    ((tbV c q (declV c u)).getD i default).ints.length = ((tbV c q' (declV c u)).getD i default).ints.length ∧ ((tbV c q (declV c u)).getD i default).arrs.length = ((tbV c q' (declV c u)).getD i default).arrs.length := fun i hi h1 h2 => by
  have h3 := (tbV_sized h _ (getD_mem hi)).1 h1
  have h4 := (tbV_sized h' _ (getD_mem ((tv_l (q' := q')).1 ▸ hi))).1 h2
  omega
theorem tv_h (h : Rdr.ok c q) : (tbV c q (declV c u)).length ≤ 1048576 ∧ ∀ x ∈ tbV c q (declV c u), x.ints.length ≤ 1048576 := ⟨(tv_l (q' := q)).2, fun x hx => (tv_x h x hx).1⟩
theorem tv_n : 1 ≤ (tbV c q (declV c u)).length := by
  have h1 := tbV_len (b := c) (p := q) (d := declV c u) decl_len.2.1
  have h3 := leaves_bnd (d := declV c u) decl_len.2.1
  omega
theorem join_sized {d : Decl} {a b : Env} (ha : Sized d a) (hb : Sized d b) : Sized d (Env.join a b) := by
  refine ⟨fun hl => ?_, ?_, ?_, join_fit ha.2.2.2 hb.2.2.2 fun h1 h2 => ?_⟩
  · unfold Env.join at hl ⊢
    split
    · rename_i h1
      split
      · simp only [zip2_len]; exact ha.1 h1
      · exact ha.1 h1
    · rename_i h1
      rw [if_neg h1] at hl
      exact hb.1 hl
  · have := join_len' (a := a) (b := b); have := ha.2.1; have := hb.2.1; omega
  · have := join_len' (a := a) (b := b); have := ha.2.2.1; have := hb.2.2.1; omega
  · have h3 := ha.1 h1
    have h4 := hb.1 h2
    omega
theorem tj_sized (h : Rdr.ok c q) (h' : Rdr.ok c q') : ∀ x ∈ zip2 Env.join (tbV c q (declV c u)) (tbV c q' (declV c u)), Sized (declV c u) x := fun x hx => by
  obtain ⟨i, hi, rfl⟩ := zip2_mem hx
  exact join_sized (tbV_sized h _ (getD_mem hi)) (tbV_sized h' _ (getD_mem ((tv_l (q' := q')).1 ▸ hi)))
theorem tj_h (h : Rdr.ok c q) (h' : Rdr.ok c q') : (zip2 Env.join (tbV c q (declV c u)) (tbV c q' (declV c u))).length ≤ 1048576 ∧ ∀ x ∈ zip2 Env.join (tbV c q (declV c u)) (tbV c q' (declV c u)), x.ints.length ≤ 1048576 := by
  refine ⟨by rw [zip2_len]; exact (tv_l (q' := q)).2, fun x hx => ?_⟩
  have h1 := (tj_sized h h' x hx).2.1
  have h2 := decl_len (b := c) (p := u)
  omega
theorem tj_n : 1 ≤ (zip2 Env.join (tbV c q (declV c u)) (tbV c q' (declV c u))).length := by rw [zip2_len]; exact tv_n
theorem d_hd : (declV c u).vars.length ≤ 1048576 ∧ (declV c u).arrays.length ≤ 1048576 := by have := decl_len (b := c) (p := u); omega
/-- Bounds that may be a little too long. -/
def Sized1 (x : Env) : Prop := x.ints.length ≤ 6 ∧ x.arrs.length ≤ 1 ∧ FitE x
theorem ht_sized {p : Int} {t : List Env} (h : ∀ x ∈ t, Sized (declV c u) x) (hn : 1 ≤ t.length) : ∀ x ∈ htV c p t, Sized1 x := by
  have h0 : ∀ x, Sized (declV c u) x → Sized1 x := fun x hx => by
    have h2 := decl_len (b := c) (p := u)
    have h3 := hx.2.1
    have h4 := hx.2.2.1
    exact ⟨by omega, by omega, hx.2.2.2⟩
  intro x hx
  unfold htV at hx
  split at hx
  · exact h0 _ (h x (List.mem_of_mem_drop hx))
  · split at hx
    · rcases List.mem_or_eq_of_mem_set hx with hx | rfl
      · exact h0 _ (h x hx)
      · have h1 := h _ (getD_mem (a := t) (j := 0) (by omega))
        have h2 := hurt_len (b := c) (p := belowP c p 24) (e := t.getD 0 default)
        have h3 := decl_len (b := c) (p := u)
        have h4 := h1.2.1
        have h5 := h1.2.2.1
        exact ⟨by omega, by omega, hurt_fit h1.2.2.2⟩
    · split at hx
      · simp only [List.mem_append, List.mem_singleton] at hx
        rcases hx with hx | rfl
        · exact h0 _ (h x hx)
        · exact ⟨by simp, by simp, by simp [FitE]⟩
      · exact h0 _ (h x hx)
theorem tl_sized (h : Rdr.ok c 0) : (∀ x ∈ tlA c, Sized1 x) ∧ ∀ x ∈ tlB c, Sized1 x := by
  have h1 : Rdr.ok c (declP c 0) := h.declP
  have h2 : Rdr.ok c (dtP2 c) := h1.tb
  refine ⟨ht_sized (tbV_sized h1) tv_n, ?_⟩
  unfold tlB dtB
  split
  · exact ht_sized (tj_sized h1 h2) tj_n
  · exact ht_sized (tbV_sized h2) tv_n
theorem tl_len : (tlA c).length ≤ 9 ∧ (tlB c).length ≤ 9 := by
  have h3 := leaves_bnd (d := declV c 0) decl_len.2.1
  have h1 : ((dtA c).length : Int) = leavesOf (declV c 0) := tbV_len (b := c) (p := declP c 0) (d := declV c 0) decl_len.2.1
  have h2 : ((dtB0 c).length : Int) = leavesOf (declV c 0) := tbV_len (b := c) (p := dtP2 c) (d := declV c 0) decl_len.2.1
  unfold tlA tlB
  refine ⟨Nat.le_trans ht_len (by omega), Nat.le_trans ht_len ?_⟩
  unfold dtB
  split
  · rw [zip2_len]; omega
  · omega
end
end Go.Proofs

/- The plain laws of tables. -/
namespace Go.Proofs
open Go Go.Ev
variable [Lay]
section
variable {d : Decl} {a b : Env} {l : List Int}
theorem joinOk_is {x y : Iv} (h1 : x.lo ≤ x.hi) (h2 : y.lo ≤ y.hi) : Iv.joinOk x y = Iv.join x y := Iv.joinOk_yes ⟨decide_eq_true h1, decide_eq_true h2⟩
/-- What both environments' joins and widenings have in common. -/
theorem joinW_ok {f : Iv → Iv → Iv} (hf : ∀ x y, x.lo ≤ x.hi → y.lo ≤ y.hi → FitI y → (f x y).lo ≤ (f x y).hi) (ha : Env.okIn d a = true) (hb : Env.okIn d b = true) (fb : FitE b) : Env.okIn d (Env.joinW f a b) = true := by
  unfold Env.joinW
  split
  · rename_i h1
    split
    · rename_i h2
      obtain ⟨a1, a2, a3⟩ := okIn_ok ha h1
      obtain ⟨b1, b2, b3⟩ := okIn_ok hb h2
      have key : ∀ {x y : List Iv}, (∀ z ∈ x, z.lo ≤ z.hi) → (∀ z ∈ y, z.lo ≤ z.hi) → (∀ z ∈ y, FitI z) → x.length = y.length → ∀ z ∈ zip2 f x y, z.lo ≤ z.hi := fun {x y} hx hy hy2 he => zip2_all fun i hi =>
        hf _ _ (hx _ (getD_mem hi)) (hy _ (getD_mem (he ▸ hi))) (hy2 _ (getD_mem (he ▸ hi)))
      exact okIn_mk rfl (by rw [zip2_len]; exact a1.1) (by rw [zip2_len]; exact a1.2) (key a2 b2 fb.1 (a1.1.trans b1.1.symm)) (key a3 b3 fb.2 (a1.2.trans b1.2.symm))
    · exact ha
  · exact hb
theorem leq_refl (ha : Env.okIn d a = true) : Env.leq a a = true := by
  cases h1 : a.live with
  | false => unfold Env.leq; rw [if_neg (by rw [h1]; decide)]
  | true =>
    obtain ⟨a1, a2, a3⟩ := okIn_ok ha h1
    have same : ∀ {x : List Iv}, (∀ z ∈ x, z.lo ≤ z.hi) → ∀ i, i < x.length → Iv.leq (x.getD i default) (x.getD i default) = true := fun hx i hi => Iv.leq_mk (hx _ (getD_mem hi)) (hx _ (getD_mem hi)) (Int.le_refl _) (Int.le_refl _)
    exact leq_mk h1 (same a2) (same a3)
theorem leq_off (h : a.live = false) : Env.leq a b = true := by unfold Env.leq; rw [if_neg (by rw [h]; decide)]
/-- One way of joining below another one. -/
theorem joinW_leq {f g : Iv → Iv → Iv} (hf : ∀ x y, x.lo ≤ x.hi → y.lo ≤ y.hi → FitI y → Iv.leq (f x y) (g x y) = true) (ha : Env.okIn d a = true) (hb : Env.okIn d b = true) (fb : FitE b) : Env.leq (Env.joinW f a b) (Env.joinW g a b) = true := by
  unfold Env.joinW
  split
  · rename_i h1
    split
    · rename_i h2
      obtain ⟨a1, a2, a3⟩ := okIn_ok ha h1
      obtain ⟨b1, b2, b3⟩ := okIn_ok hb h2
      have key : ∀ {x y : List Iv}, (∀ z ∈ x, z.lo ≤ z.hi) → (∀ z ∈ y, z.lo ≤ z.hi) → (∀ z ∈ y, FitI z) → x.length = y.length → ∀ i, i < (zip2 f x y).length → Iv.leq ((zip2 f x y).getD i default) ((zip2 g x y).getD i default) = true := fun {x y} hx hy hy2 he i hi => by
        rw [zip2_len] at hi
        rw [zip2_get hi, zip2_get hi]
        exact hf _ _ (hx _ (getD_mem hi)) (hy _ (getD_mem (he ▸ hi))) (hy2 _ (getD_mem (he ▸ hi)))
      exact leq_mk rfl (key a2 b2 fb.1 (a1.1.trans b1.1.symm)) (key a3 b3 fb.2 (a1.2.trans b1.2.symm))
    · exact leq_refl ha
  · exact leq_refl hb
theorem leq_joinW {g : Iv → Iv → Iv} (hf : ∀ x y, x.lo ≤ x.hi → y.lo ≤ y.hi → FitI y → Iv.leq x (g x y) = true ∧ Iv.leq y (g x y) = true) (ha : Env.okIn d a = true) (hb : Env.okIn d b = true) (fb : FitE b) : Env.leq a (Env.joinW g a b) = true ∧ Env.leq b (Env.joinW g a b) = true := by
  unfold Env.joinW
  split
  · rename_i h1
    split
    · rename_i h2
      obtain ⟨a1, a2, a3⟩ := okIn_ok ha h1
      obtain ⟨b1, b2, b3⟩ := okIn_ok hb h2
      have key : ∀ {x y : List Iv}, (∀ z ∈ x, z.lo ≤ z.hi) → (∀ z ∈ y, z.lo ≤ z.hi) → (∀ z ∈ y, FitI z) → x.length = y.length → ∀ i, i < x.length → Iv.leq (x.getD i default) ((zip2 g x y).getD i default) = true ∧ Iv.leq (y.getD i default) ((zip2 g x y).getD i default) = true := fun {x y} hx hy hy2 he i hi => by
        rw [zip2_get hi]
        exact hf _ _ (hx _ (getD_mem hi)) (hy _ (getD_mem (he ▸ hi))) (hy2 _ (getD_mem (he ▸ hi)))
      have e1 := a1.1.trans b1.1.symm
      have e2 := a1.2.trans b1.2.symm
      exact ⟨leq_mk rfl (fun i hi => (key a2 b2 fb.1 e1 i hi).1) fun i hi => (key a3 b3 fb.2 e2 i hi).1, leq_mk rfl (fun i hi => (key a2 b2 fb.1 e1 i (e1 ▸ hi)).2) fun i hi => (key a3 b3 fb.2 e2 i (e2 ▸ hi)).2⟩
    · rename_i h2
      exact ⟨leq_refl ha, leq_off (by simpa using h2)⟩
  · rename_i h1
    exact ⟨leq_off (by simpa using h1), leq_refl hb⟩
theorem ivjoin_ok (x y : Iv) (h1 : x.lo ≤ x.hi) (h2 : y.lo ≤ y.hi) : (Iv.joinOk x y).lo ≤ (Iv.joinOk x y).hi := by rw [joinOk_is h1 h2]; unfold Iv.join; simp only; omega
theorem ivwiden_ok (hl : ¬ (l.length : Int) > 100) (x y : Iv) (h1 : x.lo ≤ x.hi) (h2 : y.lo ≤ y.hi) (fy : FitI y) : (Iv.widenOk l x y).lo ≤ (Iv.widenOk l x y).hi := by
  rw [widenOk_is h1 h2 hl]; have := widen_bnd (a := x) (l := l) fy; omega
theorem ivjoin_above (x y : Iv) (h1 : x.lo ≤ x.hi) (h2 : y.lo ≤ y.hi) : Iv.leq x (Iv.joinOk x y) = true ∧ Iv.leq y (Iv.joinOk x y) = true := by
  rw [joinOk_is h1 h2]; unfold Iv.join
  exact ⟨Iv.leq_mk h1 (by simp only; omega) (by simp only; omega) (by simp only; omega), Iv.leq_mk h2 (by simp only; omega) (by simp only; omega) (by simp only; omega)⟩
theorem ivjoin_widen (hl : ¬ (l.length : Int) > 100) (x y : Iv) (h1 : x.lo ≤ x.hi) (h2 : y.lo ≤ y.hi) (fy : FitI y) : Iv.leq (Iv.joinOk x y) (Iv.widenOk l x y) = true := by
  rw [joinOk_is h1 h2, widenOk_is h1 h2 hl]
  have := widen_bnd (a := x) (l := l) fy
  unfold Iv.join
  exact Iv.leq_mk (by simp only; omega) (by omega) (by simp only; omega) (by simp only; omega)
theorem ivleq_same {x y : Iv} (h1 : x.lo ≤ x.hi) (h2 : y.lo ≤ y.hi) : Iv.leq x y = Iv.same (Iv.joinOk x y) y := by
  rw [joinOk_is h1 h2, Bool.eq_iff_iff]
  simp only [Iv.leq, Iv.ok, Iv.same, Iv.join, Bool.and_eq_true, decide_eq_true_eq, beq_iff_eq]
  omega
theorem leq_same (ha : Env.okIn d a = true) (hb : Env.okIn d b = true) : Env.leq a b = Env.same (Env.joinW Iv.joinOk a b) b := by
  cases h1 : a.live with
  | false =>
    rw [leq_off h1]
    unfold Env.joinW
    rw [if_neg (by rw [h1]; decide)]
    exact (Env.same_self b).symm
  | true =>
    obtain ⟨a1, a2, a3⟩ := okIn_ok ha h1
    cases h2 : b.live with
    | false =>
      unfold Env.leq Env.joinW
      rw [if_pos h1, if_neg (by rw [h2]; decide), if_pos h1, if_neg (by rw [h2]; decide)]
      simp [Env.same, h1, h2]
    | true =>
      obtain ⟨b1, b2, b3⟩ := okIn_ok hb h2
      unfold Env.leq
      rw [if_pos h1, if_pos h2, Env.joinW_live ⟨h1, h2⟩]
      have key : ∀ {x y : List Iv}, (∀ z ∈ x, z.lo ≤ z.hi) → (∀ z ∈ y, z.lo ≤ z.hi) → x.length = y.length → (allTo x.length fun i => Iv.leq (x.getD i default) (y.getD i default)) = all2 Iv.same (zip2 Iv.joinOk x y) y := fun {x y} hx hy he => by
        unfold all2
        rw [zip2_len, he]
        simp only [beq_self_eq_true, Bool.true_and]
        refine allTo_congr fun i hi => ?_
        rw [zip2_get (he ▸ hi)]
        exact ivleq_same (hx _ (getD_mem (he ▸ hi))) (hy _ (getD_mem hi))
      simp only [Env.same, h2, beq_self_eq_true, Bool.true_and]
      rw [key a2 b2 (a1.1.trans b1.1.symm), key a3 b3 (a1.2.trans b1.2.symm)]
end
-- tables
section
variable {d : Decl} {a b : List Env} {l : List Int}
theorem isIn_mk {t : List Env} (h1 : (t.length : Int) = leavesOf d) (h2 : ∀ x ∈ t, Env.okIn d x = true) : Table.isIn d t = true := by
  simp only [Table.isIn, Bool.and_eq_true, beq_iff_eq, List.all_eq_true]
  exact ⟨h1, h2⟩
theorem isIn_zip {f : Env → Env → Env} (ha : Table.isIn d a = true) (hb : Table.isIn d b = true) (h : ∀ i, i < a.length → Env.okIn d (f (a.getD i default) (b.getD i default)) = true) : Table.isIn d (zip2 f a b) = true :=
  isIn_mk (by rw [zip2_len]; exact (Table.isIn_get ha).1) (zip2_all h)
theorem law_TableOrder (ha : Table.ok d a = true) (hb : Table.ok d b = true) (hl : ¬ (l.length : Int) > 100) (fb : ∀ x ∈ b, FitE x) :
    Table.leq d a (Table.joinIn d a b) = true ∧ Table.leq d b (Table.joinIn d a b) = true ∧ Table.leq d (Table.joinIn d a b) (Table.widenIn d a b l) = true ∧
    Table.leq d a b = all2 Env.same (Table.joinIn d a b) b ∧ Table.widenIn d (Table.widenIn d a b l) (Table.joinIn d a b) l = Table.widenIn d a b l := by
  have hd := Table.ok_decl ha
  have ia := Table.ok_in ha
  have ib := Table.ok_in hb
  have he := (Table.fit ia ib).1
  have oa := (Table.isIn_get ia).2
  have ob : ∀ i, i < a.length → Env.okIn d (b.getD i default) = true := fun i hi => (Table.isIn_get ib).2 i (he ▸ hi)
  have ff : ∀ i, i < a.length → FitE (b.getD i default) := fun i hi => fb _ (getD_mem (he ▸ hi))
  rw [Table.joinIn_yes2 ⟨ha, ib⟩, Table.widenIn_yes2 ⟨⟨ha, ib⟩, hl⟩]
  have oj : ∀ i, i < a.length → Env.okIn d (Env.joinW Iv.joinOk (a.getD i default) (b.getD i default)) = true := fun i hi => joinW_ok (fun x y h1 h2 _ => ivjoin_ok x y h1 h2) (oa i hi) (ob i hi) (ff i hi)
  have ow : ∀ i, i < a.length → Env.okIn d (Env.joinW (fun x y => Iv.widenOk l x y) (a.getD i default) (b.getD i default)) = true := fun i hi => joinW_ok (ivwiden_ok hl) (oa i hi) (ob i hi) (ff i hi)
  have ij : Table.isIn d (zip2 (Env.joinW Iv.joinOk) a b) = true := isIn_zip ia ib oj
  have iw : Table.isIn d (zip2 (Env.joinW fun x y => Iv.widenOk l x y) a b) = true := isIn_zip ia ib ow
  have okj : Table.ok d (zip2 (Env.joinW Iv.joinOk) a b) = true := by unfold Table.ok; rw [hd, ij]; rfl
  have okw : Table.ok d (zip2 (Env.joinW fun x y => Iv.widenOk l x y) a b) = true := by unfold Table.ok; rw [hd, iw]; rfl
  have jw : ∀ i, i < a.length → Env.leq (Env.joinW Iv.joinOk (a.getD i default) (b.getD i default)) (Env.joinW (fun x y => Iv.widenOk l x y) (a.getD i default) (b.getD i default)) = true := fun i hi => joinW_leq (ivjoin_widen hl) (oa i hi) (ob i hi) (ff i hi)
  refine ⟨?_, ?_, ?_, ?_, ?_⟩
  · unfold Table.leq tabLeq
    rw [ha, ij]
    simp only [Bool.and_self, Bool.true_and]
    refine allTo_iff.2 fun i hi => ?_
    rw [zip2_get hi]
    exact (leq_joinW (fun x y h1 h2 _ => ivjoin_above x y h1 h2) (oa i hi) (ob i hi) (ff i hi)).1
  · unfold Table.leq tabLeq
    rw [hb, ij]
    simp only [Bool.and_self, Bool.true_and]
    refine allTo_iff.2 fun i hi => ?_
    rw [← he] at hi
    rw [zip2_get hi]
    exact (leq_joinW (fun x y h1 h2 _ => ivjoin_above x y h1 h2) (oa i hi) (ob i hi) (ff i hi)).2
  · unfold Table.leq tabLeq
    rw [okj, iw]
    simp only [Bool.and_self, Bool.true_and]
    refine allTo_iff.2 fun i hi => ?_
    rw [zip2_len] at hi
    rw [zip2_get hi, zip2_get hi]
    exact jw i hi
  · unfold Table.leq tabLeq all2
    rw [ha, ib, zip2_len, he]
    simp only [Bool.and_self, Bool.true_and, beq_self_eq_true]
    refine allTo_congr fun i hi => ?_
    rw [← he] at hi
    rw [zip2_get hi]
    exact leq_same (oa i hi) (ob i hi)
  · rw [Table.widenIn_yes2 ⟨⟨okw, ij⟩, hl⟩]
    refine list_ext (zip2_len _ _ _) fun i hi => ?_
    rw [zip2_len, zip2_len] at hi
    rw [zip2_get (by rw [zip2_len]; exact hi), zip2_get hi, zip2_get hi]
    have h9 := widen_still (l := l) hd (ow i hi) (oj i hi) hl (jw i hi)
    rwa [Env.widenIn_yes2 ⟨⟨⟨hd, ow i hi⟩, oj i hi⟩, hl⟩] at h9
end
end Go.Proofs

/- The model: new stores, and stores inside bounds. -/
namespace Go.Proofs
open Go Go.Ev
variable [Lay]
def newA (a : List Arr) (j : Nat) : List (List Int) := (List.range j).map fun i => List.replicate (a.getD i default).size.toNat 0
theorem newA_len (a : List Arr) (j : Nat) : (newA a j).length = j := by simp [newA]
theorem newA_step {a : List Arr} {j : Nat} : newA a j ++ [List.replicate (a.getD j default).size.toNat 0] = newA a (j + 1) := by simp [newA, List.range_succ]
def Store.newV (d : Decl) : Store := if Decl.ok d = true then ⟨List.replicate d.vars.length 0, List.replicate d.flags.length false, newA d.arrays d.arrays.length⟩ else ⟨[], [], []⟩
theorem Store.newV_no {d : Decl} (h : Decl.ok d = false) : Store.newV d = ⟨[], [], []⟩ := by unfold Store.newV; rw [if_neg (by rw [h]; decide)]
theorem Store.newV_yes {d : Decl} (h : Decl.ok d = true) : Store.newV d = ⟨List.replicate d.vars.length 0, List.replicate d.flags.length false, newA d.arrays d.arrays.length⟩ := by unfold Store.newV; rw [if_pos h]
theorem newA_end {a : List Arr} {j : Nat} (h : j ≤ a.length) (h1 : ¬ (j : Int) < a.length) : newA a j = newA a a.length := by
  have : j = a.length := by omega
  rw [this]
theorem ok_sizes {d : Decl} (h : Decl.ok d = true) : (d.vars.length ≤ 5 ∧ d.flags.length ≤ 3 ∧ d.arrays.length ≤ 2) ∧ ∀ i, i < d.arrays.length → 1 ≤ (d.arrays.getD i default).size ∧ (d.arrays.getD i default).size ≤ 16 := by
  unfold Decl.ok at h
  simp only [Bool.and_eq_true, decide_eq_true_eq] at h
  exact ⟨h.1.1, fun i hi => by have h1 := allTo_iff.1 h.1.2 i hi; simp only [inR, Bool.and_eq_true, decide_eq_true_eq] at h1; exact h1⟩
/-- The first `j` of `n` places filled by `f`, the others as `g` tells. -/
def fillG {α : Type} (f g : Nat → α) (n j : Nat) : List α := (List.range n).map fun i => if i < j then f i else g i
theorem fillG_len {α : Type} (f g : Nat → α) (n j : Nat) : (fillG f g n j).length = n := by simp [fillG]
theorem fillG_zero {α : Type} (f : Nat → α) (z : α) (n : Nat) : List.replicate n z = fillG f (fun _ => z) n 0 := by
  unfold fillG
  simp [List.map_const']
theorem fillG_step {α : Type} (f g : Nat → α) {n j : Nat} (h : j < n) : (fillG f g n j).set j (f j) = fillG f g n (j + 1) := by
  refine List.ext_getElem (by simp [fillG]) fun i h1 h2 => ?_
  simp only [fillG, List.getElem_set, List.getElem_map, List.getElem_range]
  by_cases e : j = i
  · subst e; simp
  · rw [if_neg e]
    by_cases h3 : i < j
    · rw [if_pos h3, if_pos (by omega)]
    · rw [if_neg h3, if_neg (by omega)]
theorem fillG_all {α : Type} (f g : Nat → α) {n j : Nat} (h : n ≤ j) : fillG f g n j = (List.range n).map f := by
  unfold fillG
  refine List.map_congr_left fun i hi => ?_
  have := List.mem_range.1 hi
  rw [if_pos (by omega)]
-- a store inside bounds
def insI (e : Env) (c : List Int) (i : Nat) : Int := inV (e.ints.getD i default) c (3 * (i : Int))
def insF (leaf : Int) (i : Nat) : Bool := IntKind.wrap .i64 ((BitVec.ofInt (IntKind.bits .i64) (leaf.fdiv (2 ^ (min ((IntKind.wrap .u64 (i : Int))).toNat (IntKind.bits .i64)))) &&& BitVec.ofInt (IntKind.bits .i64) 1).toNat : Int) == 1
def newN (d : Decl) (i : Nat) : Nat := (d.arrays.getD i default).size.toNat
def newR (d : Decl) (i : Nat) : List Int := List.replicate (newN d i) 0
def insQ (e : Env) (c : List Int) (i k : Nat) : Int := inV (e.arrs.getD i default) c (5 * (k : Int) + (i : Int))
def insP (d : Decl) (e : Env) (c : List Int) (i u : Nat) : List Int := fillG (insQ e c i) (fun _ => 0) (newN d i) u
def insA (d : Decl) (e : Env) (c : List Int) (i : Nat) : List Int := insP d e c i (newN d i)
def insideV (d : Decl) (e : Env) (leaf : Int) (c : List Int) : Store :=
  ⟨fillG (insI e c) (fun _ => 0) d.vars.length d.vars.length, fillG (insF leaf) (fun _ => false) d.flags.length d.flags.length, fillG (insA d e c) (newR d) d.arrays.length d.arrays.length⟩
theorem new_ints {d : Decl} (h : Decl.ok d = true) : (Store.newV d).ints = List.replicate d.vars.length 0 ∧ (Store.newV d).flags = List.replicate d.flags.length false ∧ (Store.newV d).arrs = (List.range d.arrays.length).map (newR d) := by
  rw [Store.newV_yes h]; exact ⟨rfl, rfl, rfl⟩
theorem fillG_start {α : Type} (f g : Nat → α) (n : Nat) : (List.range n).map g = fillG f g n 0 := by
  unfold fillG; simp
theorem insP_zero (d : Decl) (e : Env) (c : List Int) (i : Nat) : insP d e c i 0 = newR d i := by
  unfold insP newR; exact (fillG_zero _ _ _).symm
theorem insP_step {d : Decl} {e : Env} {c : List Int} {i u : Nat} (h : u < newN d i) : (insP d e c i u).set u (insQ e c i u) = insP d e c i (u + 1) := fillG_step _ _ h
theorem fillG_get {α : Type} [Inhabited α] (f g : Nat → α) {n j i : Nat} (h : i < n) : (fillG f g n j).getD i default = if i < j then f i else g i := by
  unfold fillG
  rw [List.getD_eq_getElem?_getD, List.getElem?_map, List.getElem?_range h]; rfl
theorem fillG_self {α : Type} (f g : Nat → α) {n j : Nat} (x : α) (hx : x = g j) : fillG f g n j = (fillG f g n j).set j x := by
  subst hx
  refine List.ext_getElem (by simp [fillG]) fun i h1 h2 => ?_
  simp only [fillG, List.getElem_set, List.getElem_map, List.getElem_range]
  by_cases e : j = i
  · subst e; simp
  · rw [if_neg e]
theorem set_getD {α : Type} [Inhabited α] {l : List α} {j : Nat} {x : α} (h : j < l.length) : (l.set j x).getD j default = x := by
  rw [List.getD_eq_getElem?_getD, List.getElem?_set_self h]; rfl
theorem insP_len (d : Decl) (e : Env) (c : List Int) (i u : Nat) : (insP d e c i u).length = newN d i := fillG_len _ _ _ _
theorem ins_inner {d : Decl} {e : Env} {c : List Int} {j u : Nat} (h : u < newN d j) : ((fillG (insA d e c) (newR d) d.arrays.length j).set j (insP d e c j u)).set j ((insP d e c j u).set u (insQ e c j u)) = (fillG (insA d e c) (newR d) d.arrays.length j).set j (insP d e c j (u + 1)) := by
  rw [List.set_set, insP_step h]
theorem ins_outer {d : Decl} {e : Env} {c : List Int} {j u : Nat} (hj : j < d.arrays.length) (h : u = newN d j) : (fillG (insA d e c) (newR d) d.arrays.length j).set j (insP d e c j u) = fillG (insA d e c) (newR d) d.arrays.length (j + 1) := by
  subst h; exact fillG_step (insA d e c) (newR d) hj
end Go.Proofs

/- The plain law of puts: stores inside bounds. -/
namespace Go.Proofs
open Go Go.Ev
variable [Lay]
theorem fillG_at {α : Type} [Inhabited α] (f g : Nat → α) {n i : Nat} (h : i < n) : (fillG f g n n).getD i default = f i := by rw [fillG_get f g h, if_pos h]
theorem mem_set9 {α : Type} {l : List α} {n : Nat} {x z : α} (h : z ∈ l.set n x) : z = x ∨ z ∈ l := (List.mem_or_eq_of_mem_set h).symm
theorem set_ne9 {α : Type} [Inhabited α] {l : List α} {i j : Nat} {x : α} (h : ¬ i = j) : (l.set j x).getD i default = l.getD i default := by
  rw [List.getD_eq_getElem?_getD, List.getD_eq_getElem?_getD, List.getElem?_set_ne (Ne.symm h)]
section
variable {d : Decl} {e : Env} {leaf : Int} {c : List Int}
theorem inside_len (d : Decl) (e : Env) (leaf : Int) (c : List Int) : (insideV d e leaf c).ints.length = d.vars.length ∧ (insideV d e leaf c).flags.length = d.flags.length ∧ (insideV d e leaf c).arrs.length = d.arrays.length := ⟨fillG_len _ _ _ _, fillG_len _ _ _ _, fillG_len _ _ _ _⟩
theorem inside_row (d : Decl) (e : Env) (leaf : Int) (c : List Int) {i : Nat} (hi : i < d.arrays.length) : (insideV d e leaf c).arrs.getD i default = insA d e c i := fillG_at _ _ hi
theorem insA_len (hk : Decl.ok d = true) {i : Nat} (hi : i < d.arrays.length) : ((insA d e c i).length : Int) = (d.arrays.getD i default).size := by
  have := (ok_sizes hk).2 i hi
  unfold insA
  rw [insP_len]
  unfold newN
  omega
theorem okIn_of {s : Store} (h1 : s.ints.length = d.vars.length ∧ s.flags.length = d.flags.length ∧ s.arrs.length = d.arrays.length) (h2 : ∀ i, i < d.arrays.length → ((s.arrs.getD i default).length : Int) = (d.arrays.getD i default).size) : Store.okIn d s = true := by
  unfold Store.okIn
  rw [decide_eq_true h1, Bool.true_and]
  exact allTo_iff.2 fun i hi => by rw [h2 i hi]; simp
theorem inside_ok (hk : Decl.ok d = true) : Store.okIn d (insideV d e leaf c) = true :=
  okIn_of (inside_len d e leaf c) fun i hi => by rw [inside_row d e leaf c hi]; exact insA_len hk hi
theorem insA_in (he : Env.okIn d e = true) (hl : e.live = true) (hf : FitE e) {i : Nat} (hi : i < d.arrays.length) : ∀ x ∈ insA d e c i, (e.arrs.getD i default).lo ≤ x ∧ x ≤ (e.arrs.getD i default).hi := by
  intro x hx
  unfold insA insP at hx
  rw [fillG_all _ _ (Nat.le_refl _)] at hx
  obtain ⟨k, _, rfl⟩ := List.mem_map.1 hx
  obtain ⟨a1, a2, a3⟩ := okIn_ok he hl
  have hm : e.arrs.getD i default ∈ e.arrs := getD_mem (by omega)
  exact inV_in (hf.2 _ hm) (a3 _ hm)
theorem inside_int (he : Env.okIn d e = true) (hl : e.live = true) (hf : FitE e) : (allTo e.ints.length fun i => Iv.has (e.ints.getD i default) ((insideV d e leaf c).ints.getD i default)) = true := by
  obtain ⟨a1, a2, a3⟩ := okIn_ok he hl
  refine allTo_iff.2 fun i hi => ?_
  have e1 : (insideV d e leaf c).ints.getD i default = insI e c i := fillG_at _ _ (by omega)
  have hm : e.ints.getD i default ∈ e.ints := getD_mem hi
  have := inV_in (c := c) (i := 3 * (i : Int)) (hf.1 _ hm) (a2 _ hm)
  rw [e1]
  simp only [Iv.has, inR, Bool.and_eq_true, decide_eq_true_eq]
  exact this
theorem has_all {l : List Int} {a : Iv} (h : ∀ x ∈ l, a.lo ≤ x ∧ x ≤ a.hi) : l.all (Iv.has a) = true := by
  rw [List.all_eq_true]
  intro x hx
  simp only [Iv.has, inR, Bool.and_eq_true, decide_eq_true_eq]
  exact h x hx
theorem inside_has (he : Env.okIn d e = true) (hl : e.live = true) (hf : FitE e) : Env.has e (insideV d e leaf c) = true := by
  obtain ⟨a1, a2, a3⟩ := okIn_ok he hl
  unfold Env.has
  rw [hl, inside_int he hl hf, Bool.and_self, Bool.true_and]
  refine allTo_iff.2 fun i hi => ?_
  rw [inside_row d e leaf c (by omega)]
  exact has_all (insA_in he hl hf (by omega))
theorem meets_at {p : Iv} {sz x : Int} (hp : p.lo ≤ x ∧ x ≤ p.hi) (hx : 0 ≤ x ∧ x < sz) (hs : sz ≤ 16) : Iv.meets p (allOf sz) = true := by
  unfold Iv.meets allOf
  rw [wrap_le (by omega) (by omega)]
  simp only [Iv.ok, Iv.meet, Bool.and_eq_true, decide_eq_true_eq]
  exact ⟨by omega, decide_eq_true (by omega)⟩
theorem putC_yes {v : Int} {p a : Iv} (hk : Decl.ok d = true) (he : Env.okIn d e = true) (hl : e.live = true) (hv : 0 ≤ v ∧ v < (d.arrays.length : Int)) (hp : Iv.ok p = true) (ha : Iv.ok a = true) : Env.putC d e v p a = true := by
  have := (ok_sizes hk).1
  refine Env.putIn_yes ⟨⟨⟨⟨⟨hk, he⟩, hl⟩, ?_⟩, hp⟩, ha⟩
  rw [wrap_le (by omega) (by omega)]
  simp only [inR, Bool.and_eq_true, decide_eq_true_eq]
  omega
theorem ins_e1 {j : Nat} (h : ¬ (j : Int) < ((fillG (insI e c) (fun _ => 0) d.vars.length j).length : Int)) : fillG (insI e c) (fun _ => 0) d.vars.length j = (insideV d e leaf c).ints := by
  rw [fillG_len] at h
  exact (fillG_all _ _ (by omega)).trans (fillG_all _ _ (Nat.le_refl _)).symm
theorem ins_e2 {j : Nat} (h : ¬ (j : Int) < ((fillG (insF leaf) (fun _ => false) d.flags.length j).length : Int)) : fillG (insF leaf) (fun _ => false) d.flags.length j = (insideV d e leaf c).flags := by
  rw [fillG_len] at h
  exact (fillG_all _ _ (by omega)).trans (fillG_all _ _ (Nat.le_refl _)).symm
theorem ins_e3 {j : Nat} (h : ¬ (j : Int) < ((fillG (insA d e c) (newR d) d.arrays.length j).length : Int)) : fillG (insA d e c) (newR d) d.arrays.length j = (insideV d e leaf c).arrs := by
  rw [fillG_len] at h
  exact (fillG_all _ _ (by omega)).trans (fillG_all _ _ (Nat.le_refl _)).symm
/-- Where there is no such place, the alarm. -/
theorem put_alarm {v : Int} {p a : Iv} (hk : Decl.ok d = true) (he : Env.okIn d e = true) (hl : e.live = true) (hv : 0 ≤ v ∧ v < (d.arrays.length : Int)) (hp : Iv.ok p = true) (ha : Iv.ok a = true) {x : Int} (hx : p.lo ≤ x ∧ x ≤ p.hi) (h0 : x < 0 ∨ x ≥ (d.arrays.getD v.toNat default).size) : Env.putInAl d e v p a = 2 := by
  unfold Env.putInAl
  rw [if_pos (putC_yes hk he hl hv hp ha)]
  have := (ok_sizes hk).2 v.toNat (by omega)
  refine (alarm_no ?_).symm
  rw [← Bool.not_eq_true]
  intro h
  unfold Iv.leq allOf at h
  rw [wrap_le (by omega) (by omega)] at h
  simp only [Bool.and_eq_true, decide_eq_true_eq] at h
  omega
theorem put_has {v : Int} {p a : Iv} (hk : Decl.ok d = true) (he : Env.okIn d e = true) (hl : e.live = true) (hf : FitE e) (hv : 0 ≤ v ∧ v < (d.arrays.length : Int)) (hp : Iv.ok p = true) (ha : Iv.ok a = true) {x y : Int} (hx : p.lo ≤ x ∧ x ≤ p.hi) (h0 : 0 ≤ x ∧ x < (d.arrays.getD v.toNat default).size) (hy : a.lo ≤ y ∧ y ≤ a.hi) :
    Env.hasIn d (Env.putIn d e v p a) ⟨(insideV d e leaf c).ints, (insideV d e leaf c).flags, (insideV d e leaf c).arrs.set v.toNat (((insideV d e leaf c).arrs.getD v.toNat default).set x.toNat y)⟩ = true := by
  have hvn : v.toNat < d.arrays.length := by omega
  have hsz := (ok_sizes hk).2 v.toNat hvn
  obtain ⟨a1, a2, a3⟩ := okIn_ok he hl
  have hm : e.arrs.getD v.toNat default ∈ e.arrs := getD_mem (by omega)
  have hal : a.lo ≤ a.hi := by unfold Iv.ok at ha; exact of_decide_eq_true ha
  have hev := a3 _ hm
  rw [inside_row d e leaf c hvn]
  have hrow := insA_in (c := c) he hl hf hvn
  have hlen := insA_len (e := e) (c := c) hk hvn
  obtain ⟨B, hB, hB2, hB3⟩ : ∃ B : Iv, Env.putIn d e v p a = ⟨e.live, e.ints, e.arrs.set v.toNat B⟩ ∧ B.lo ≤ B.hi ∧ ∀ z ∈ (insA d e c v.toNat).set x.toNat y, B.lo ≤ z ∧ z ≤ B.hi := by
    unfold Env.putIn
    rw [if_pos (putC_yes hk he hl hv hp ha)]
    have hme := meets_at hx h0 hsz.2
    by_cases h1 : (d.arrays.getD v.toNat default).size = 1
    · refine ⟨a, Env.put_one hme h1, hal, fun z hz => ?_⟩
      have hx0 : x.toNat = 0 := by omega
      have hl1 : (insA d e c v.toNat).length = 1 := by omega
      obtain ⟨u, hu⟩ := List.length_eq_one_iff.1 hl1
      rw [hx0, hu] at hz
      simp at hz
      subst hz
      exact hy
    · refine ⟨_, Env.put_more hme h1, by unfold Iv.join; simp only; omega, fun z hz => ?_⟩
      have hz2 : a.lo ≤ z ∧ z ≤ a.hi ∨ (e.arrs.getD v.toNat default).lo ≤ z ∧ z ≤ (e.arrs.getD v.toNat default).hi := by
        rcases mem_set9 hz with rfl | hz
        · exact .inl hy
        · exact .inr (hrow z hz)
      unfold Iv.join
      simp only
      omega
  rw [hB]
  unfold Env.hasIn
  have o1 : Env.okIn d ⟨e.live, e.ints, e.arrs.set v.toNat B⟩ = true := okIn_mk hl a1.1 (by rw [List.length_set]; exact a1.2) a2 fun z hz => by
    rcases mem_set9 hz with rfl | hz
    · exact hB2
    · exact a3 z hz
  have o2 : Store.okIn d ⟨(insideV d e leaf c).ints, (insideV d e leaf c).flags, (insideV d e leaf c).arrs.set v.toNat ((insA d e c v.toNat).set x.toNat y)⟩ = true := by
    obtain ⟨i1, i2, i3⟩ := inside_len d e leaf c
    refine okIn_of ⟨i1, i2, by rw [List.length_set]; exact i3⟩ fun i hi => ?_
    by_cases h1 : i = v.toNat
    · subst h1
      show ((((insideV d e leaf c).arrs.set v.toNat ((insA d e c v.toNat).set x.toNat y)).getD v.toNat default).length : Int) = _
      rw [set_getD (by omega), List.length_set]
      exact hlen
    · show ((((insideV d e leaf c).arrs.set v.toNat ((insA d e c v.toNat).set x.toNat y)).getD i default).length : Int) = _
      rw [set_ne9 h1, inside_row d e leaf c hi]
      exact insA_len hk hi
  have o3 : Env.has ⟨e.live, e.ints, e.arrs.set v.toNat B⟩ ⟨(insideV d e leaf c).ints, (insideV d e leaf c).flags, (insideV d e leaf c).arrs.set v.toNat ((insA d e c v.toNat).set x.toNat y)⟩ = true := by
    unfold Env.has
    show (e.live && (allTo e.ints.length fun i => Iv.has (e.ints.getD i default) ((insideV d e leaf c).ints.getD i default)) && allTo (e.arrs.set v.toNat B).length fun i => (((insideV d e leaf c).arrs.set v.toNat ((insA d e c v.toNat).set x.toNat y)).getD i default).all (Iv.has ((e.arrs.set v.toNat B).getD i default))) = true
    rw [hl, inside_int he hl hf, Bool.and_self, Bool.true_and, List.length_set]
    refine allTo_iff.2 fun i hi => ?_
    have i3 := (inside_len d e leaf c).2.2
    by_cases h1 : i = v.toNat
    · subst h1
      rw [set_getD (by omega), set_getD hi]
      exact has_all hB3
    · rw [set_ne9 h1, set_ne9 h1, inside_row d e leaf c (by omega)]
      exact has_all (insA_in he hl hf (by omega))
  rw [hk, o1, o2, o3]; rfl
end
-- what is drawn for puts
def dpD (c : List Int) : Decl := ⟨(declV c 0).vars, (declV c 0).flags, [⟨⟨#[97]⟩, 1 + belowV c (declP c 0) 6⟩]⟩
def dpP1 (c : List Int) : Int := belowP c (declP c 0) 6
def dpE (c : List Int) : Env := hurtV c (envP c (dpP1 c) (dpD c)) (envV c (dpP1 c) (dpD c))
def dpP2 (c : List Int) : Int := hurtP c (envP c (dpP1 c) (dpD c))
def dpV (c : List Int) : Int := offV c (dpP2 c) 0 0
def dpP3 (c : List Int) : Int := offP c (dpP2 c) 0 0
def dpA (c : List Int) : Iv := smallV c (dpP3 c)
def dpI (c : List Int) : Iv := ivV c (smallP c (dpP3 c))
theorem dp_names (c : List Int) : ∀ x ∈ Decl.names (dpD c), x.size ≤ 9223372036854775807 := by
  intro x hx
  have h := decl_names (b := c) (p := 0)
  unfold Decl.names at hx h
  simp only [dpD, List.map_cons, List.map_nil, List.mem_append, List.mem_singleton] at hx
  rcases hx with hx | hx
  · exact h x (by simp only [List.mem_append]; exact .inl hx)
  · subst hx; decide
theorem dp_len (c : List Int) : (dpD c).vars.length ≤ 5 ∧ (dpD c).flags.length ≤ 3 ∧ (dpD c).arrays.length = 1 ∧ (dpE c).ints.length ≤ 6 ∧ (dpE c).arrs.length ≤ 1 := by
  have h1 := decl_len (b := c) (p := 0)
  have h2 := env_len (b := c) (p := dpP1 c) (d := dpD c)
  have h3 := hurt_len (b := c) (p := envP c (dpP1 c) (dpD c)) (e := envV c (dpP1 c) (dpD c))
  have h4 : (dpD c).vars = (declV c 0).vars := rfl
  have h5 : (dpD c).flags = (declV c 0).flags := rfl
  have h6 : (dpD c).arrays.length = 1 := rfl
  rw [h4] at h2 ⊢
  rw [h5]
  unfold dpE
  omega
theorem dp_fit {c : List Int} (h : Rdr.ok c 0) : FitE (dpE c) ∧ FitI (dpA c) ∧ FitI (dpI c) := by
  have h1 : Rdr.ok c (dpP1 c) := h.declP.below
  have h2 : Rdr.ok c (dpP2 c) := (h1.env (d := dpD c)).hurt
  have h3 : Rdr.ok c (dpP3 c) := h2.off (a := 0) (h := 0)
  exact ⟨hurt_fit (env_fit h1), small_fit h3, iv_fit h3.small⟩
theorem dp_d (c : List Int) (x : Arr) : (Decl.mk (declV c 0).vars (declV c 0).flags [x]).vars.length ≤ 1048576 ∧ (Decl.mk (declV c 0).vars (declV c 0).flags [x]).arrays.length ≤ 1048576 := ⟨(dr_d c 0).1, by simp⟩
theorem dp_e (c : List Int) (p : Int) (x : Arr) : (envV c p (Decl.mk (declV c 0).vars (declV c 0).flags [x])).ints.length ≤ 1048576 := by
  have h1 := env_len (b := c) (p := p) (d := Decl.mk (declV c 0).vars (declV c 0).flags [x])
  have h2 := (dr_d c 0).1
  have h3 : (Decl.mk (declV c 0).vars (declV c 0).flags [x]).vars = (declV c 0).vars := rfl
  rw [h3] at h1
  omega
end Go.Proofs

/- The model: drawn stores inside bounds. -/
namespace Go.Proofs
open Go Go.Ev
variable [Lay]
-- rows filled one after another
def rowG (Q : Nat → Nat → Int) (d : Decl) (i u : Nat) : List Int := fillG (Q i) (fun _ => 0) (newN d i) u
def rowsG (Q : Nat → Nat → Int) (d : Decl) (j : Nat) : List (List Int) := fillG (fun i => rowG Q d i (newN d i)) (newR d) d.arrays.length j
section
variable {Q : Nat → Nat → Int} {d : Decl} {i j u : Nat}
theorem rowG_len (Q : Nat → Nat → Int) (d : Decl) (i u : Nat) : (rowG Q d i u).length = newN d i := fillG_len _ _ _ _
theorem rowsG_len (Q : Nat → Nat → Int) (d : Decl) (j : Nat) : (rowsG Q d j).length = d.arrays.length := fillG_len _ _ _ _
theorem rowG_zero : rowG Q d i 0 = newR d i := (fillG_zero _ _ _).symm
theorem rows_start {l : List (List Int)} (h : l = (List.range d.arrays.length).map (newR d)) : l = rowsG Q d 0 := h.trans (fillG_start _ _ _)
theorem rows_begin : rowsG Q d j = (rowsG Q d j).set j (rowG Q d j 0) := fillG_self _ _ _ rowG_zero
theorem rows_inner (h : u < newN d j) : ((rowsG Q d j).set j (rowG Q d j u)).set j ((rowG Q d j u).set u (Q j u)) = (rowsG Q d j).set j (rowG Q d j (u + 1)) := by
  rw [List.set_set]; congr 1; exact fillG_step _ _ h
theorem rows_outer (hj : j < d.arrays.length) (h : u = newN d j) : (rowsG Q d j).set j (rowG Q d j u) = rowsG Q d (j + 1) := by
  subst h; exact fillG_step (fun i => rowG Q d i (newN d i)) (newR d) hj
end
-- places of the drawer
def riP (b : List Int) (p : Int) (l : List Iv) : Nat → Int
  | 0 => p
  | j + 1 => rinP b (riP b p l j) (l.getD j default)
def riF (b : List Int) (p : Int) (l : List Iv) (i : Nat) : Int := rinV b (riP b p l i) (l.getD i default)
def onP (b : List Int) (p : Int) : Nat → Int
  | 0 => p
  | j + 1 => belowP b (onP b p j) 2
def onF (b : List Int) (p : Int) (i : Nat) : Bool := onceV b (onP b p i) 2
def rpP (b : List Int) (p : Int) (x : Iv) : Nat → Int
  | 0 => p
  | j + 1 => rinP b (rpP b p x j) x
def rrP (b : List Int) (p : Int) (e : Env) (d : Decl) : Nat → Int
  | 0 => p
  | j + 1 => rpP b (rrP b p e d j) (e.arrs.getD j default) (newN d j)
def rrQ (b : List Int) (p : Int) (e : Env) (d : Decl) (j u : Nat) : Int := rinV b (rpP b (rrP b p e d j) (e.arrs.getD j default) u) (e.arrs.getD j default)
def nI (d : Decl) (e : Env) : Nat := if e.live then d.vars.length else 0
def nA (d : Decl) (e : Env) : Nat := if e.live then d.arrays.length else 0
def rins1 (b : List Int) (p : Int) (d : Decl) (e : Env) : Int := riP b p e.ints (nI d e)
def rins2 (b : List Int) (p : Int) (d : Decl) (e : Env) : Int := onP b (rins1 b p d e) d.flags.length
def rinsP (b : List Int) (p : Int) (d : Decl) (e : Env) : Int := rrP b (rins2 b p d e) e d (nA d e)
def rinsV (b : List Int) (p : Int) (d : Decl) (e : Env) : Store :=
  ⟨fillG (riF b p e.ints) (fun _ => 0) d.vars.length (nI d e), fillG (onF b (rins1 b p d e)) (fun _ => false) d.flags.length d.flags.length, rowsG (rrQ b (rins2 b p d e) e d) d (nA d e)⟩
section
variable {b : List Int} {p : Int}
theorem Rdr.ok.ri (h : Rdr.ok b p) (l : List Iv) : ∀ j, Rdr.ok b (riP b p l j)
  | 0 => h
  | j + 1 => (Rdr.ok.ri h l j).rin
theorem Rdr.ok.on (h : Rdr.ok b p) : ∀ j, Rdr.ok b (onP b p j)
  | 0 => h
  | j + 1 => (Rdr.ok.on h j).below
theorem Rdr.ok.rp (h : Rdr.ok b p) (x : Iv) : ∀ j, Rdr.ok b (rpP b p x j)
  | 0 => h
  | j + 1 => (Rdr.ok.rp h x j).rin
theorem Rdr.ok.rr (h : Rdr.ok b p) (e : Env) (d : Decl) : ∀ j, Rdr.ok b (rrP b p e d j)
  | 0 => h
  | j + 1 => (Rdr.ok.rr h e d j).rp _ _
theorem Rdr.ok.rins1 {d : Decl} {e : Env} (h : Rdr.ok b p) : Rdr.ok b (rins1 b p d e) := h.ri _ _
theorem Rdr.ok.rins2 {d : Decl} {e : Env} (h : Rdr.ok b p) : Rdr.ok b (rins2 b p d e) := h.rins1.on _
theorem Rdr.ok.rins {d : Decl} {e : Env} (h : Rdr.ok b p) : Rdr.ok b (rinsP b p d e) := h.rins2.rr _ _ _
variable {l : List Iv} {x : Iv} {e : Env} {d : Decl} {j u : Nat}
theorem riP_0 : p = riP b p l 0 := rfl
theorem riP_s : rinP b (riP b p l j) (l.getD j default) = riP b p l (j + 1) := rfl
theorem onP_s : belowP b (onP b p j) 2 = onP b p (j + 1) := rfl
theorem rpP_s : rinP b (rpP b p x j) x = rpP b p x (j + 1) := rfl
theorem on_start (h : j = nI d e) : riP b p e.ints j = onP b (rins1 b p d e) 0 := by subst h; rfl
theorem rr_start (h : j = d.flags.length) : onP b (rins1 b p d e) j = rrP b (rins2 b p d e) e d 0 := by subst h; rfl
theorem rp_start : rrP b p e d j = rpP b (rrP b p e d j) (e.arrs.getD j default) 0 := rfl
theorem rr_next (h : u = newN d j) : rpP b (rrP b p e d j) (e.arrs.getD j default) u = rrP b p e d (j + 1) := by subst h; rfl
theorem rr_end (h : j = nA d e) : rrP b (rins2 b p d e) e d j = rinsP b p d e := by subst h; rfl
theorem nI_end {N : Int} (h : j ≤ nI d e) (hN : N = d.vars.length) (hc : ¬ (j : Int) < N ∨ e.live = false) : j = nI d e := by
  unfold nI at *
  cases hl : e.live with
  | true => rw [hl] at h hc; simp at h hc ⊢; omega
  | false => rw [hl] at h; simp at h ⊢; omega
theorem nA_end {N : Int} (h : j ≤ nA d e) (hN : N = d.arrays.length) (hc : ¬ (j : Int) < N ∨ e.live = false) : j = nA d e := by
  unfold nA at *
  cases hl : e.live with
  | true => rw [hl] at h hc; simp at h hc ⊢; omega
  | false => rw [hl] at h; simp at h ⊢; omega
theorem nI_live (h : e.live = true) : nI d e = d.vars.length := by unfold nI; rw [h]; rfl
theorem nA_live (h : e.live = true) : nA d e = d.arrays.length := by unfold nA; rw [h]; rfl
theorem rins_ints (h : j = nI d e) : fillG (riF b p e.ints) (fun _ => 0) d.vars.length j = (rinsV b p d e).ints := by subst h; rfl
theorem rins_flags (h : j = d.flags.length) : fillG (onF b (rins1 b p d e)) (fun _ => false) d.flags.length j = (rinsV b p d e).flags := by subst h; rfl
theorem rins_arrs (h : j = nA d e) : rowsG (rrQ b (rins2 b p d e) e d) d j = (rinsV b p d e).arrs := by subst h; rfl
theorem rins_len (b : List Int) (p : Int) (d : Decl) (e : Env) : (rinsV b p d e).ints.length = d.vars.length ∧ (rinsV b p d e).flags.length = d.flags.length ∧ (rinsV b p d e).arrs.length = d.arrays.length := ⟨fillG_len _ _ _ _, fillG_len _ _ _ _, fillG_len _ _ _ _⟩
end
theorem rowG_all (Q : Nat → Nat → Int) (d : Decl) (i : Nat) : rowG Q d i (newN d i) = (List.range (newN d i)).map (Q i) := fillG_all _ _ (Nat.le_refl _)
theorem rins_rows {b : List Int} {p : Int} {d : Decl} {e : Env} (hk : Decl.ok d = true) {i : Nat} (hi : i < d.arrays.length) : (((rinsV b p d e).arrs.getD i default).length : Int) = (d.arrays.getD i default).size := by
  have h1 := (ok_sizes hk).2 i hi
  have h2 : (rinsV b p d e).arrs.getD i default = if i < nA d e then rowG (rrQ b (rins2 b p d e) e d) d i (newN d i) else newR d i := fillG_get _ _ hi
  rw [h2]
  split
  · rw [rowG_len]; unfold newN; omega
  · unfold newR newN; rw [List.length_replicate]; omega
theorem rins_okIn {b : List Int} {p : Int} {d : Decl} {e : Env} (hk : Decl.ok d = true) : Store.okIn d (rinsV b p d e) = true := okIn_of (rins_len b p d e) fun i hi => rins_rows hk hi
theorem small_of {d : Decl} {s : Store} (hk : Decl.ok d = true) (h : Store.okIn d s = true) : Store.small s := by
  have h1 := ok_sizes hk
  have h2 := Store.okIn_len h
  refine ⟨by omega, by omega, by omega, fun x hx => ?_⟩
  obtain ⟨i, hi, rfl⟩ := List.mem_iff_getElem.1 hx
  have h3 : (s.arrs.getD i default).length = s.arrs[i].length := by rw [List.getD_eq_getElem?_getD, List.getElem?_eq_getElem hi]; rfl
  unfold Store.okIn at h
  have h4 := allTo_iff.1 (Bool.and_eq_true_iff.1 h).2 i (by omega)
  have h5 := h1.2 i (by omega)
  simp only [beq_iff_eq] at h4
  omega
-- what is drawn is a right declaration
theorem decl_ok9 : ∀ k < 5, ∀ m < 4, Decl.ok ⟨varsL.take k, flagsL.take m, []⟩ = true ∧ ∀ s < 6, Decl.ok ⟨varsL.take k, flagsL.take m, [⟨⟨#[97]⟩, 1 + ((s : Nat) : Int)⟩]⟩ = true := by decide +kernel
theorem decl_isok {b : List Int} {p : Int} (h : Rdr.ok b p) : Decl.ok (declV b p) = true := by
  obtain ⟨q1, q2, q3, q4, q5, _⟩ := h.decl
  have h1 := belowV_bnd (n := 4) h (by omega)
  obtain ⟨m, hm, em⟩ : ∃ m, m < 4 ∧ (if onceV b (dcP2 b p) 3 = true then flagsL.take (belowV b (dcP3 b p) 4).toNat else flagsL.take (1 + belowV b (dcP1 b p) 2).toNat) = flagsL.take m := by
    have h2 := belowV_bnd (n := 4) q3 (by omega)
    have h3 := belowV_bnd (n := 2) q1 (by omega)
    split
    · exact ⟨_, by omega, rfl⟩
    · exact ⟨_, by omega, rfl⟩
  have h4 := belowV_bnd (n := 6) q5 (by omega)
  unfold declV
  rw [em]
  split
  · have := (decl_ok9 (1 + belowV b p 4).toNat (by omega) m hm).2 (belowV b (dcP5 b p) 6).toNat (by omega)
    rwa [Int.toNat_of_nonneg h4.1] at this
  · exact (decl_ok9 _ (by omega) m hm).1
theorem env_lens {b : List Int} {p : Int} {d : Decl} (h : (envV b p d).live = true) : (envV b p d).ints.length = d.vars.length ∧ (envV b p d).arrs.length = d.arrays.length := by
  unfold envV at *
  split at h
  · cases h
  · rename_i h1; rw [if_neg h1]; exact ⟨smL_len _ _ _, smL_len _ _ _⟩
-- what is drawn for 'has'
def dhE0 (c : List Int) : Env := envV c (declP c 0) (declV c 0)
def dhP2 (c : List Int) : Int := envP c (declP c 0) (declV c 0)
def dhS0 (c : List Int) : Store := rinsV c (dhP2 c) (declV c 0) (dhE0 c)
def dhP3 (c : List Int) : Int := rinsP c (dhP2 c) (declV c 0) (dhE0 c)
def dhB (c : List Int) : Bool := onceV c (dhP3 c) 3 && decide (((dhS0 c).ints.length : Int) > 0)
def dhS (c : List Int) : Store := if dhB c = true then ⟨(dhS0 c).ints.set 0 (numV c (belowP c (dhP3 c) 3)), (dhS0 c).flags, (dhS0 c).arrs⟩ else dhS0 c
def dhE (c : List Int) : Env := hurtV c (if dhB c = true then numP c (belowP c (dhP3 c) 3) else belowP c (dhP3 c) 3) (dhE0 c)
theorem dh_1 {c : List Int} (h : onceV c (dhP3 c) 3 = true ∧ ((dhS0 c).ints.length : Int) > 0) : dhS c = ⟨(dhS0 c).ints.set 0 (numV c (belowP c (dhP3 c) 3)), (dhS0 c).flags, (dhS0 c).arrs⟩ ∧ dhE c = hurtV c (numP c (belowP c (dhP3 c) 3)) (dhE0 c) := by
  have e : dhB c = true := by unfold dhB; rw [h.1, decide_eq_true h.2]; rfl
  unfold dhS dhE; rw [if_pos e, if_pos e]; exact ⟨rfl, rfl⟩
theorem dh_0 {c : List Int} (h : onceV c (dhP3 c) 3 = false ∨ ¬ ((dhS0 c).ints.length : Int) > 0) : dhS c = dhS0 c ∧ dhE c = hurtV c (belowP c (dhP3 c) 3) (dhE0 c) := by
  have e : ¬ dhB c = true := by
    unfold dhB
    rcases h with h | h
    · rw [h]; simp
    · rw [decide_eq_false h]; simp
  unfold dhS dhE; rw [if_neg e, if_neg e]; exact ⟨rfl, rfl⟩
theorem dh_ok {c : List Int} (h : Rdr.ok c 0) : Store.okIn (declV c 0) (dhS c) = true := by
  have h1 : Store.okIn (declV c 0) (dhS0 c) = true := rins_okIn (decl_isok h)
  unfold dhS
  split
  · unfold Store.okIn at *; simpa using h1
  · exact h1
theorem dh_len (c : List Int) : (dhE c).ints.length ≤ 6 ∧ (dhE c).arrs.length ≤ 1 := by
  have h1 := env_len' c (declP c 0) 0
  unfold dhE dhE0
  have h2 := hurt_len (b := c) (p := if dhB c = true then numP c (belowP c (dhP3 c) 3) else belowP c (dhP3 c) 3) (e := envV c (declP c 0) (declV c 0))
  omega
-- stores of bounds that are below others
section
variable {d : Decl} {a b : Env} {s : Store}
theorem has_get (h : Env.has a s = true) : a.live = true ∧ (∀ i, i < a.ints.length → Iv.has (a.ints.getD i default) (s.ints.getD i default) = true) ∧ ∀ i, i < a.arrs.length → ∀ x ∈ s.arrs.getD i default, Iv.has (a.arrs.getD i default) x = true := by
  unfold Env.has at h
  simp only [Bool.and_eq_true] at h
  exact ⟨h.1.1, allTo_iff.1 h.1.2, fun i hi => List.all_eq_true.1 (allTo_iff.1 h.2 i hi)⟩
theorem has_mk (h1 : a.live = true) (h2 : ∀ i, i < a.ints.length → Iv.has (a.ints.getD i default) (s.ints.getD i default) = true) (h3 : ∀ i, i < a.arrs.length → ∀ x ∈ s.arrs.getD i default, Iv.has (a.arrs.getD i default) x = true) : Env.has a s = true := by
  unfold Env.has
  rw [h1, allTo_iff.2 h2, Bool.and_self, Bool.true_and]
  exact allTo_iff.2 fun i hi => List.all_eq_true.2 (h3 i hi)
theorem leq_get (ha : a.live = true) (h : Env.leq a b = true) : b.live = true ∧ (∀ i, i < a.ints.length → Iv.leq (a.ints.getD i default) (b.ints.getD i default) = true) ∧ ∀ i, i < a.arrs.length → Iv.leq (a.arrs.getD i default) (b.arrs.getD i default) = true := by
  unfold Env.leq at h
  rw [if_pos ha] at h
  split at h
  · rename_i hb
    rw [Bool.and_eq_true] at h
    exact ⟨hb, allTo_iff.1 h.1, allTo_iff.1 h.2⟩
  · cases h
theorem ivleq_has {x y : Iv} {n : Int} (h : Iv.leq x y = true) (h1 : Iv.has x n = true) : Iv.has y n = true := by
  simp only [Iv.leq, Iv.has, inR, Bool.and_eq_true, decide_eq_true_eq] at *
  omega
/-- What is below another one has no store that this one has not. -/
theorem has_leq (ha : Env.okIn d a = true) (hb : Env.okIn d b = true) (h : Env.leq a b = true) (hs : Env.has a s = true) : Env.has b s = true := by
  obtain ⟨h1, h2, h3⟩ := has_get hs
  obtain ⟨h4, h5, h6⟩ := leq_get h1 h
  have a1 := okIn_one ha h1
  have b1 := okIn_one hb h4
  exact has_mk h4 (fun i hi => ivleq_has (h5 i (by omega)) (h2 i (by omega))) fun i hi x hx => ivleq_has (h6 i (by omega)) (h3 i (by omega) x hx)
end
end Go.Proofs

/- The plain laws of joins and meets. -/
namespace Go.Proofs
open Go Go.Ev
variable [Lay]
section
variable {d : Decl} {a b c : Env}
theorem joinW_comm (ha : Env.okIn d a = true) (hb : Env.okIn d b = true) : Env.joinW Iv.joinOk a b = Env.joinW Iv.joinOk b a := by
  have key : ∀ {x y : List Iv}, (∀ z ∈ x, z.lo ≤ z.hi) → (∀ z ∈ y, z.lo ≤ z.hi) → x.length = y.length → zip2 Iv.joinOk x y = zip2 Iv.joinOk y x := fun {x y} hx hy he =>
    list_ext (by rw [zip2_len, zip2_len, he]) fun i hi => by
      rw [zip2_len] at hi
      rw [zip2_get hi, zip2_get (he ▸ hi), joinOk_is (hx _ (getD_mem hi)) (hy _ (getD_mem (he ▸ hi))), joinOk_is (hy _ (getD_mem (he ▸ hi))) (hx _ (getD_mem hi))]
      unfold Iv.join
      rw [Int.min_comm, Int.max_comm]
  unfold Env.joinW
  cases h1 : a.live with
  | true =>
    obtain ⟨a1, a2, a3⟩ := okIn_ok ha h1
    cases h2 : b.live with
    | true =>
      obtain ⟨b1, b2, b3⟩ := okIn_ok hb h2
      simp only [if_true]
      rw [key a2 b2 (a1.1.trans b1.1.symm), key a3 b3 (a1.2.trans b1.2.symm)]
    | false => simp
  | false =>
    cases h2 : b.live with
    | true => simp
    | false => simp only [Bool.false_eq_true, if_false]; rw [okIn_off ha h1, okIn_off hb h2]
theorem joinW_assoc (ha : Env.okIn d a = true) (hb : Env.okIn d b = true) (hc : Env.okIn d c = true) : Env.joinW Iv.joinOk (Env.joinW Iv.joinOk a b) c = Env.joinW Iv.joinOk a (Env.joinW Iv.joinOk b c) := by
  have key : ∀ {x y z : List Iv}, (∀ u ∈ x, u.lo ≤ u.hi) → (∀ u ∈ y, u.lo ≤ u.hi) → (∀ u ∈ z, u.lo ≤ u.hi) → x.length = y.length → y.length = z.length → zip2 Iv.joinOk (zip2 Iv.joinOk x y) z = zip2 Iv.joinOk x (zip2 Iv.joinOk y z) := fun {x y z} hx hy hz he he2 =>
    list_ext (by simp only [zip2_len]) fun i hi => by
      simp only [zip2_len] at hi
      have k1 := hx _ (getD_mem hi)
      have k2 := hy _ (getD_mem (he ▸ hi))
      have k3 := hz _ (getD_mem (he2 ▸ he ▸ hi))
      rw [zip2_get (by rw [zip2_len]; exact hi), zip2_get hi, zip2_get hi, zip2_get (he ▸ hi), joinOk_is k1 k2, joinOk_is k2 k3, joinOk_is (by unfold Iv.join; simp only; omega) k3, joinOk_is k1 (by unfold Iv.join; simp only; omega)]
      unfold Iv.join
      simp only [Iv.mk.injEq]
      omega
  unfold Env.joinW
  cases h1 : a.live with
  | false => simp
  | true =>
    obtain ⟨a1, a2, a3⟩ := okIn_ok ha h1
    cases h2 : b.live with
    | false => simp [h1]
    | true =>
      obtain ⟨b1, b2, b3⟩ := okIn_ok hb h2
      cases h3 : c.live with
      | false => simp [h2]
      | true =>
        obtain ⟨c1, c2, c3⟩ := okIn_ok hc h3
        simp only [if_true]
        rw [key a2 b2 c2 (a1.1.trans b1.1.symm) (b1.1.trans c1.1.symm), key a3 b3 c3 (a1.2.trans b1.2.symm) (b1.2.trans c1.2.symm)]
theorem joinW_self (ha : Env.okIn d a = true) : Env.joinW Iv.joinOk a a = a := by
  have key : ∀ {x : List Iv}, (∀ z ∈ x, z.lo ≤ z.hi) → zip2 Iv.joinOk x x = x := fun {x} hx => zip2_id fun i hi => by
    have := hx _ (getD_mem hi)
    rw [joinOk_is this this]
    unfold Iv.join
    rw [Int.min_self, Int.max_self]
  unfold Env.joinW
  cases h1 : a.live with
  | false => simp
  | true =>
    obtain ⟨a1, a2, a3⟩ := okIn_ok ha h1
    simp only [if_true]
    rw [key a2, key a3]
    cases a; simp_all
theorem meets_is {x y : Iv} (h : Iv.meets x y = true) : Iv.meetOk x y = Iv.meet x y ∧ x.lo ≤ x.hi ∧ y.lo ≤ y.hi ∧ (Iv.meet x y).lo ≤ (Iv.meet x y).hi := by
  refine ⟨by unfold Iv.meetOk; rw [if_pos h], ?_⟩
  unfold Iv.meets at h
  simp only [Iv.ok, Bool.and_eq_true, decide_eq_true_eq] at h
  exact ⟨h.1.1, h.1.2, h.2⟩
theorem dead_ok : Env.okIn d ⟨false, [], []⟩ = true := by unfold Env.okIn; rfl
theorem meet_ok (ha : Env.okIn d a = true) (hb : Env.okIn d b = true) : Env.okIn d (Env.meetIn d a b) = true ∧ Env.leq (Env.meetIn d a b) a = true ∧ Env.leq (Env.meetIn d a b) b = true := by
  unfold Env.meetIn
  split
  · rename_i h
    obtain ⟨⟨⟨_, _⟩, h1, h2⟩, h3⟩ := h
    obtain ⟨a1, a2, a3⟩ := okIn_ok ha h1
    obtain ⟨b1, b2, b3⟩ := okIn_ok hb h2
    unfold Env.meetsB at h3
    rw [Bool.and_eq_true] at h3
    have key : ∀ {x y : List Iv}, meetsTo x y x.length = true → ∀ i, i < x.length → ((zip2 Iv.meetOk x y).getD i default).lo ≤ ((zip2 Iv.meetOk x y).getD i default).hi ∧ Iv.leq ((zip2 Iv.meetOk x y).getD i default) (x.getD i default) = true ∧ Iv.leq ((zip2 Iv.meetOk x y).getD i default) (y.getD i default) = true := fun {x y} h i hi => by
      obtain ⟨k1, k2, k3, k4⟩ := meets_is (meetsTo_iff.1 h i hi)
      rw [zip2_get hi, k1]
      refine ⟨k4, Iv.leq_mk k4 k2 ?_ ?_, Iv.leq_mk k4 k3 ?_ ?_⟩ <;> unfold Iv.meet <;> simp only <;> omega
    have all : ∀ {x y : List Iv}, meetsTo x y x.length = true → ∀ z ∈ zip2 Iv.meetOk x y, z.lo ≤ z.hi := fun {x y} h => zip2_all fun i hi => by
      have := (key h i hi).1
      rwa [zip2_get hi] at this
    refine ⟨okIn_mk rfl (by rw [zip2_len]; exact a1.1) (by rw [zip2_len]; exact a1.2) (all h3.1) (all h3.2), leq_mk h1 (fun i hi => ?_) fun i hi => ?_, leq_mk h2 (fun i hi => ?_) fun i hi => ?_⟩ <;> simp only [zip2_len] at hi
    · exact (key h3.1 i hi).2.1
    · exact (key h3.2 i hi).2.1
    · exact (key h3.1 i hi).2.2
    · exact (key h3.2 i hi).2.2
  · exact ⟨dead_ok, leq_off rfl, leq_off rfl⟩
/-- What is below another one is what both have. -/
theorem meet_leq (hd : Decl.ok d = true) (ha : Env.okIn d a = true) (hb : Env.okIn d b = true) (h : Env.leq a b = true) : Env.meetIn d a b = a := by
  cases h1 : a.live with
  | false => rw [Env.meetIn_no fun h2 => by rw [h1] at h2; exact absurd h2.2.1 (by decide), okIn_off ha h1]
  | true =>
    unfold Env.leq at h
    rw [if_pos h1] at h
    cases h2 : b.live with
    | false => simp [h2] at h
    | true =>
      rw [h2, if_pos rfl, Bool.and_eq_true] at h
      have key : ∀ {x y : List Iv}, (allTo x.length fun i => Iv.leq (x.getD i default) (y.getD i default)) = true → ∀ i, i < x.length → Iv.meets (x.getD i default) (y.getD i default) = true ∧ Iv.meetOk (x.getD i default) (y.getD i default) = x.getD i default := fun {x y} h3 i hi => by
        have h4 := allTo_iff.1 h3 i hi
        generalize x.getD i default = u at h4 ⊢
        generalize y.getD i default = v at h4 ⊢
        simp only [Iv.leq, Iv.ok, Bool.and_eq_true, decide_eq_true_eq] at h4
        have e : Iv.meet u v = u := by
          unfold Iv.meet
          rw [Int.max_eq_left (by omega), Int.min_eq_left (by omega)]
        have h5 : Iv.meets u v = true := by
          unfold Iv.meets
          rw [e]
          simp only [Iv.ok, Bool.and_eq_true, decide_eq_true_eq]
          omega
        exact ⟨h5, by rw [(meets_is h5).1, e]⟩
      have m : Env.meetsB a b = true := by
        unfold Env.meetsB
        rw [Bool.and_eq_true]
        exact ⟨meetsTo_iff.2 fun i hi => (key h.1 i hi).1, meetsTo_iff.2 fun i hi => (key h.2 i hi).1⟩
      rw [Env.meetIn_eq ⟨⟨⟨hd, ha⟩, hb⟩, h1, h2⟩ m, zip2_id fun i hi => (key h.1 i hi).2, zip2_id fun i hi => (key h.2 i hi).2]
      cases a; simp_all
theorem law_EnvOrder (hd : Decl.ok d = true) (ha : Env.okIn d a = true) (hb : Env.okIn d b = true) (fa : FitE a) (fb : FitE b) :
    Env.leqIn d a (Env.joinIn d a b) = true ∧ Env.leqIn d b (Env.joinIn d a b) = true ∧ Env.leqIn d (Env.meetIn d a b) a = true ∧ Env.leqIn d (Env.meetIn d a b) b = true ∧ Env.leqIn d a b = Env.same (Env.joinIn d a b) b ∧ Env.same (Env.joinIn d b a) (Env.joinIn d a b) = true ∧ Env.okIn d (Env.joinIn d a b) = true ∧ Env.okIn d (Env.meetIn d a b) = true := by
  have hj : Env.joinIn d a b = Env.joinW Iv.joinOk a b := Env.joinIn_yes2 ⟨⟨hd, ha⟩, hb⟩
  have hj2 : Env.joinIn d b a = Env.joinW Iv.joinOk b a := Env.joinIn_yes2 ⟨⟨hd, hb⟩, ha⟩
  have oj : Env.okIn d (Env.joinW Iv.joinOk a b) = true := joinW_ok (fun x y h1 h2 _ => ivjoin_ok x y h1 h2) ha hb fb
  obtain ⟨l1, l2⟩ := leq_joinW (g := Iv.joinOk) (fun x y h1 h2 _ => ivjoin_above x y h1 h2) ha hb fb
  obtain ⟨m1, m2, m3⟩ := meet_ok ha hb
  rw [hj, hj2, joinW_comm hb ha]
  unfold Env.leqIn
  rw [hd, ha, hb, oj, m1, l1, l2, m2, m3, leq_same ha hb]
  exact ⟨rfl, rfl, rfl, rfl, rfl, Env.same_self _, rfl, rfl⟩
theorem law_Joins (hd : Decl.ok d = true) (ha : Env.okIn d a = true) (hb : Env.okIn d b = true) (hc : Env.okIn d c = true) (fa : FitE a) (fb : FitE b) (fc : FitE c) :
    Env.same (Env.joinIn d (Env.joinIn d a b) c) (Env.joinIn d a (Env.joinIn d c b)) = true ∧ Env.same (Env.joinIn d a a) a = true ∧ Env.same (Env.meetIn d a (Env.joinIn d (Env.joinIn d a b) c)) a = true := by
  have ok : ∀ {x y : Env}, Env.okIn d x = true → Env.okIn d y = true → FitE y → Env.okIn d (Env.joinW Iv.joinOk x y) = true := fun hx hy fy => joinW_ok (fun x y h1 h2 _ => ivjoin_ok x y h1 h2) hx hy fy
  have yes : ∀ {x y : Env}, Env.okIn d x = true → Env.okIn d y = true → Env.joinIn d x y = Env.joinW Iv.joinOk x y := fun hx hy => Env.joinIn_yes2 ⟨⟨hd, hx⟩, hy⟩
  have oab := ok ha hb fb
  have ocb := ok hc hb fb
  have obc := ok hb hc fc
  have ox := ok oab hc fc
  rw [yes ha hb, yes oab hc, yes hc hb, yes ha ocb, yes ha ha, joinW_self ha, joinW_comm hc hb, ← joinW_assoc ha hb hc]
  refine ⟨Env.same_self _, Env.same_self _, ?_⟩
  have fbc : FitE (Env.joinW Iv.joinOk b c) := by
    rw [← join_joinOk hd hb hc]
    exact join_fit fb fc fun h1 h2 => ⟨(okIn_ok hb h1).1.1.trans (okIn_ok hc h2).1.1.symm, (okIn_ok hb h1).1.2.trans (okIn_ok hc h2).1.2.symm⟩
  have h2 : Env.leq a (Env.joinW Iv.joinOk (Env.joinW Iv.joinOk a b) c) = true := by
    rw [joinW_assoc ha hb hc]
    exact (leq_joinW (g := Iv.joinOk) (fun x y h1 h2 _ => ivjoin_above x y h1 h2) ha obc fbc).1
  rw [meet_leq hd ha ox h2]
  exact Env.same_self _
end
-- bounds, some of their intervals wider
def grI (c : List Int) (x : Iv) (i : Nat) : Iv :=
  ⟨if x.lo > -4611686018427387904 then IntKind.wrap .i64 (x.lo - Int.tmod (byteV c (2 * (i : Int))) 7) else x.lo,
   if x.hi < 4611686018427387904 then IntKind.wrap .i64 (x.hi + Int.tmod (byteV c (2 * (i : Int) + 1)) 7) else x.hi⟩
def grL (c : List Int) (l : List Iv) (off j : Nat) : List Iv := (List.range j).map fun i => grI c (l.getD i default) (off + i)
def grownV (e : Env) (c : List Int) : Env := ⟨true, grL c e.ints 0 e.ints.length, grL c e.arrs e.ints.length e.arrs.length⟩
theorem grL_len (c : List Int) (l : List Iv) (off j : Nat) : (grL c l off j).length = j := by simp [grL]
theorem grL_step {c : List Int} {l : List Iv} {off j : Nat} {x : Iv} (h : x = grI c (l.getD j default) (off + j)) : grL c l off j ++ [x] = grL c l off (j + 1) := by
  subst h; simp [grL, List.range_succ]
theorem gr_i {c : List Int} {l : List Iv} {j : Nat} {x : Iv} (hj : j < l.length) (h : x = grI c (l.getD j default) j) : grL c l 0 (min j l.length) ++ [x] = grL c l 0 (min (j + 1) l.length) := by
  rw [Nat.min_eq_left (by omega), Nat.min_eq_left (by omega)]
  exact grL_step (by rw [h, Nat.zero_add])
theorem gr_i' {c : List Int} {l : List Iv} {j : Nat} (hj : l.length ≤ j) : grL c l 0 (min j l.length) = grL c l 0 (min (j + 1) l.length) := by
  rw [Nat.min_eq_right hj, Nat.min_eq_right (by omega)]
theorem gr_a {c : List Int} {l : List Iv} {n j : Nat} {x : Iv} (hj : n ≤ j) (h : x = grI c (l.getD (j - n) default) j) : grL c l n (j - n) ++ [x] = grL c l n (j + 1 - n) := by
  rw [show j + 1 - n = (j - n) + 1 by omega]
  exact grL_step (by rw [h, show n + (j - n) = j by omega])
theorem gr_a' {c : List Int} {l : List Iv} {n j : Nat} (hj : j < n) : grL c l n (j - n) = grL c l n (j + 1 - n) := by
  rw [show j - n = 0 by omega, show j + 1 - n = 0 by omega]
theorem tmod7 {x : Int} (h : 0 ≤ x) : 0 ≤ Int.tmod x 7 ∧ Int.tmod x 7 ≤ 6 := by
  have h1 := Int.tmod_nonneg 7 h
  have h2 := Int.tmod_lt_of_pos x (b := 7) (by omega)
  omega
theorem grI_bnd {c : List Int} (hb : ∀ x ∈ c, 0 ≤ x ∧ x ≤ 255) {x : Iv} (hx : x.lo ≤ x.hi) (hf : FitI x) {i : Nat} (hi : (i : Int) ≤ 1000) : (grI c x i).lo ≤ (grI c x i).hi ∧ FitI (grI c x i) := by
  have h1 := tmod7 (byte_bnd (i := 2 * (i : Int)) hb ⟨by omega, by omega⟩).1
  have h2 := tmod7 (byte_bnd (i := 2 * (i : Int) + 1) hb ⟨by omega, by omega⟩).1
  unfold FitI Fit at hf
  unfold grI FitI Fit
  simp only
  generalize Int.tmod (byteV c (2 * (i : Int))) 7 = u at *
  generalize Int.tmod (byteV c (2 * (i : Int) + 1)) 7 = v at *
  have e1 : x.lo > -4611686018427387904 → IntKind.wrap .i64 (x.lo - u) = x.lo - u := fun h => wrap_le (by omega) (by omega)
  have e2 : x.hi < 4611686018427387904 → IntKind.wrap .i64 (x.hi + v) = x.hi + v := fun h => wrap_le (by omega) (by omega)
  obtain ⟨y, hy, y1, y2⟩ : ∃ y, (if x.lo > -4611686018427387904 then IntKind.wrap .i64 (x.lo - u) else x.lo) = y ∧ y ≤ x.lo ∧ -9223372036854775808 ≤ y := by
    by_cases k : x.lo > -4611686018427387904
    · exact ⟨_, if_pos k, by rw [e1 k]; omega, by rw [e1 k]; omega⟩
    · exact ⟨_, if_neg k, by omega, by omega⟩
  obtain ⟨z, hz, z1, z2⟩ : ∃ z, (if x.hi < 4611686018427387904 then IntKind.wrap .i64 (x.hi + v) else x.hi) = z ∧ x.hi ≤ z ∧ z ≤ 9223372036854775807 := by
    by_cases k : x.hi < 4611686018427387904
    · exact ⟨_, if_pos k, by rw [e2 k]; omega, by rw [e2 k]; omega⟩
    · exact ⟨_, if_neg k, by omega, by omega⟩
  rw [hy, hz]
  omega
theorem grL_bnd {c : List Int} (hb : ∀ x ∈ c, 0 ≤ x ∧ x ≤ 255) {l : List Iv} {off j : Nat} (hj : j ≤ l.length) (ho : off + j ≤ 1000) (hl : ∀ x ∈ l, x.lo ≤ x.hi) (hf : ∀ x ∈ l, FitI x) : ∀ x ∈ grL c l off j, x.lo ≤ x.hi ∧ FitI x := by
  intro x hx
  unfold grL at hx
  simp only [List.mem_map, List.mem_range] at hx
  obtain ⟨i, hi, rfl⟩ := hx
  have hm : l.getD i default ∈ l := getD_mem (by omega)
  exact grI_bnd hb (hl _ hm) (hf _ hm) (by omega)
theorem grown_ok {d : Decl} {b : Env} {c : List Int} (hb : ∀ x ∈ c, 0 ≤ x ∧ x ≤ 255) (ho : Env.okIn d b = true) (hl : b.live = true) (hf : FitE b) (hn : b.ints.length + b.arrs.length ≤ 1000) : Env.okIn d (grownV b c) = true ∧ FitE (grownV b c) := by
  obtain ⟨b1, b2, b3⟩ := okIn_ok ho hl
  have k1 := grL_bnd hb (off := 0) (Nat.le_refl _) (by omega) b2 hf.1
  have k2 := grL_bnd hb (off := b.ints.length) (Nat.le_refl _) (by omega) b3 hf.2
  exact ⟨okIn_mk rfl ((grL_len _ _ _ _).trans b1.1) ((grL_len _ _ _ _).trans b1.2) (fun x hx => (k1 x hx).1) fun x hx => (k2 x hx).1, fun x hx => (k1 x hx).2, fun x hx => (k2 x hx).2⟩
theorem grown_len (b : Env) (c : List Int) : (grownV b c).ints.length = b.ints.length ∧ (grownV b c).arrs.length = b.arrs.length := ⟨grL_len _ _ _ _, grL_len _ _ _ _⟩
end Go.Proofs

/- The plain law of stores in joins and meets. -/
namespace Go.Proofs
open Go Go.Ev
variable [Lay]
theorem meets_has {x y : Iv} {n : Int} (h1 : Iv.has x n = true) (h2 : Iv.has y n = true) : Iv.meets x y = true ∧ Iv.has (Iv.meetOk x y) n = true := by
  simp only [Iv.has, inR, Bool.and_eq_true, decide_eq_true_eq] at h1 h2
  have h : Iv.meets x y = true := by
    unfold Iv.meets
    simp only [Iv.ok, Iv.meet, Bool.and_eq_true, decide_eq_true_eq]
    exact ⟨by omega, decide_eq_true (by omega)⟩
  refine ⟨h, ?_⟩
  rw [(meets_is h).1]
  unfold Iv.meet
  simp only [Iv.has, inR, Bool.and_eq_true, decide_eq_true_eq]
  omega
section
variable {d : Decl} {a b : Env} {s : Store}
theorem row_some (hd : Decl.ok d = true) (hs : Store.okIn d s = true) {i : Nat} (hi : i < d.arrays.length) : ∃ x, x ∈ s.arrs.getD i default := by
  have h1 := (ok_sizes hd).2 i hi
  unfold Store.okIn at hs
  have h2 := allTo_iff.1 (Bool.and_eq_true_iff.1 hs).2 i hi
  simp only [beq_iff_eq] at h2
  exact List.exists_mem_of_length_pos (by omega)
theorem has_meet (hd : Decl.ok d = true) (ha : Env.okIn d a = true) (hb : Env.okIn d b = true) (hs : Store.okIn d s = true) (h : Env.has a s = true) : Env.has (Env.meetIn d a b) s = Env.has b s := by
  obtain ⟨m1, m2, m3⟩ := meet_ok ha hb
  refine Bool.eq_iff_iff.2 ⟨fun h1 => has_leq m1 hb m3 h1, fun h1 => ?_⟩
  obtain ⟨a1, a2, a3⟩ := has_get h
  obtain ⟨b1, b2, b3⟩ := has_get h1
  have hl := meet_lens ha hb a1 b1
  have la := okIn_one ha a1
  have ki : ∀ i, i < a.ints.length → Iv.meets (a.ints.getD i default) (b.ints.getD i default) = true ∧ Iv.has (Iv.meetOk (a.ints.getD i default) (b.ints.getD i default)) (s.ints.getD i default) = true := fun i hi => meets_has (a2 i hi) (b2 i (by omega))
  have ka : ∀ i, i < a.arrs.length → ∀ x ∈ s.arrs.getD i default, Iv.meets (a.arrs.getD i default) (b.arrs.getD i default) = true ∧ Iv.has (Iv.meetOk (a.arrs.getD i default) (b.arrs.getD i default)) x = true := fun i hi x hx => meets_has (a3 i hi x hx) (b3 i (by omega) x hx)
  have m : Env.meetsB a b = true := by
    unfold Env.meetsB
    rw [Bool.and_eq_true]
    refine ⟨meetsTo_iff.2 fun i hi => (ki i hi).1, meetsTo_iff.2 fun i hi => ?_⟩
    obtain ⟨x, hx⟩ := row_some (d := d) hd hs (i := i) (by omega)
    exact (ka i hi x hx).1
  rw [Env.meetIn_eq ⟨⟨⟨hd, ha⟩, hb⟩, a1, b1⟩ m]
  refine has_mk rfl (fun i hi => ?_) fun i hi x hx => ?_
  · have hi : i < a.ints.length := by have := zip2_len Iv.meetOk a.ints b.ints; exact this ▸ hi
    show Iv.has ((zip2 Iv.meetOk a.ints b.ints).getD i default) _ = true
    rw [zip2_get hi]; exact (ki i hi).2
  · have hi : i < a.arrs.length := by have := zip2_len Iv.meetOk a.arrs b.arrs; exact this ▸ hi
    show Iv.has ((zip2 Iv.meetOk a.arrs b.arrs).getD i default) _ = true
    rw [zip2_get hi]; exact (ka i hi x hx).2
theorem law_EnvHas {c : List Int} (hd : Decl.ok d = true) (ha : Env.okIn d a = true) (hb : Env.okIn d b = true) (hl : a.live = true) (fa : FitE a) (fb : FitE b) :
    Env.hasIn d a (insideV d a 0 c) = true ∧ Env.hasIn d (Env.joinIn d a b) (insideV d a 0 c) = true ∧ Env.hasIn d (Env.joinIn d b a) (insideV d a 0 c) = true ∧ Env.hasIn d (Env.meetIn d a b) (insideV d a 0 c) = Env.hasIn d b (insideV d a 0 c) := by
  have o := inside_ok (e := a) (leaf := 0) (c := c) hd
  have h := inside_has (leaf := 0) (c := c) ha hl fa
  have yes : ∀ {x y : Env}, Env.okIn d x = true → Env.okIn d y = true → Env.joinIn d x y = Env.joinW Iv.joinOk x y := fun hx hy => Env.joinIn_yes2 ⟨⟨hd, hx⟩, hy⟩
  have oj : Env.okIn d (Env.joinW Iv.joinOk a b) = true := joinW_ok (fun x y h1 h2 _ => ivjoin_ok x y h1 h2) ha hb fb
  have hj : Env.has (Env.joinW Iv.joinOk a b) (insideV d a 0 c) = true := has_leq ha oj (leq_joinW (g := Iv.joinOk) (fun x y h1 h2 _ => ivjoin_above x y h1 h2) ha hb fb).1 h
  have om := (meet_ok (a := a) (b := b) ha hb).1
  have hm := has_meet hd ha hb o h
  rw [yes ha hb, yes hb ha, joinW_comm hb ha]
  unfold Env.hasIn
  rw [hd, ha, hb, oj, om, o, h, hj, hm]
  exact ⟨rfl, rfl, rfl, rfl⟩
end
end Go.Proofs

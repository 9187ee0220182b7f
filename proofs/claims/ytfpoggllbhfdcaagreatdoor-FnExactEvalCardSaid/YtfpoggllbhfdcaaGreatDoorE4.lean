/- A symbolic executor over data by value, proved sound over any program: no conditions. -/
import Derived.Test.YtfpoggllbhfdcaaGreatDoorE3
import Derived.Lib.Mul64
set_option linter.all false
set_option linter.unnecessarySimpa false
set_option linter.unusedSectionVars false
set_option linter.unusedSimpArgs false
set_option linter.unusedVariables false
namespace Go.Proofs
open Go Go.Ev
variable [Lay]
structure Iv where
  lo : Int
  hi : Int
deriving Inhabited, DecidableEq
structure Env where
  live : Bool
  ints : List Iv
  arrs : List Iv
deriving Inhabited
structure Arr where
  name : ByteArray
  size : Int
deriving Inhabited
structure Decl where
  vars : List ByteArray
  flags : List ByteArray
  arrays : List Arr
deriving Inhabited
def strEq (a b : ByteArray) : Bool := a.toList == b.toList
def Iv.same (a b : Iv) : Bool := a.lo == b.lo && a.hi == b.hi
def Arr.same (a b : Arr) : Bool := strEq a.name b.name && a.size == b.size
def Env.same (a b : Env) : Bool := a.live == b.live && all2 Iv.same a.ints b.ints && all2 Iv.same a.arrs b.arrs
def Decl.same (a b : Decl) : Bool := all2 strEq a.vars b.vars && all2 strEq a.flags b.flags && all2 Arr.same a.arrays b.arrays
def strW (x : ByteArray) : Int := x.size
def arrW (x : Arr) : Int := x.name.size
def szA (a : Arr) (left : Int) : Int := if left - a.name.size < 0 then -1 else left - a.name.size
theorem szA_neg {a : Arr} {v : Int} : szA a v < 0 ↔ v - arrW a < 0 := by
  simp only [szA, arrW]; split <;> omega
def szDecl (a : Decl) (left : Int) : Int :=
  if szL strW a.vars left < 0 then -1 else if szL strW a.flags (szL strW a.vars left) < 0 then -1 else
    if szL arrW a.arrays (szL strW a.flags (szL strW a.vars left)) < 0 then -1 else szL arrW a.arrays (szL strW a.flags (szL strW a.vars left))
def mStr (k : Int) (i : Nat) (_ : ByteArray) : ByteArray := mText (k + i)
def mArr (k : Int) (i : Nat) (_ : Arr) : Arr := ⟨mText (k + 2 * i), k + 2 * i + 1⟩
def mIv (k : Int) (i : Nat) (_ : Iv) : Iv := ⟨k + 2 * i, k + 2 * i + 1⟩
def Decl.marks (k : Int) (a : Decl) : Int := k + (a.vars.length : Int) + (a.flags.length : Int) + 2 * (a.arrays.length : Int)
def Decl.mark (k : Int) (a : Decl) : Decl := ⟨mkAll (mStr k) a.vars, mkAll (mStr (k + (a.vars.length : Int))) a.flags, mkAll (mArr (k + (a.vars.length : Int) + (a.flags.length : Int))) a.arrays⟩
def Env.marks (k : Int) (a : Env) : Int := k + 2 * (a.ints.length : Int) + 2 * (a.arrs.length : Int)
def Env.mark (k : Int) (a : Env) : Env := ⟨a.live, mkAll (mIv k) a.ints, mkAll (mIv (k + 2 * (a.ints.length : Int))) a.arrs⟩
def inR (n lo hi : Int) : Bool := decide (n ≥ lo) && decide (n ≤ hi)
def Iv.ok (a : Iv) : Bool := decide (a.lo ≤ a.hi)
def Iv.join (a b : Iv) : Iv := ⟨min a.lo b.lo, max a.hi b.hi⟩
def keys : List ByteArray := [⟨#[118, 97, 114]⟩, ⟨#[102, 108, 97, 103]⟩, ⟨#[97, 114, 114, 97, 121]⟩, ⟨#[105, 102]⟩, ⟨#[102, 111, 114, 107]⟩, ⟨#[101, 108, 115, 101]⟩, ⟨#[101, 110, 100]⟩, ⟨#[119, 104, 105, 108, 101]⟩, ⟨#[117, 110, 114, 111, 108, 108]⟩, ⟨#[97, 115, 115, 101, 114, 116]⟩, ⟨#[97, 115, 115, 117, 109, 101]⟩, ⟨#[105, 110, 112, 117, 116]⟩, ⟨#[115, 112, 108, 105, 116]⟩, ⟨#[109, 101, 114, 103, 101]⟩, ⟨#[116, 114, 117, 101]⟩, ⟨#[102, 97, 108, 115, 101]⟩]
def isKey (s : ByteArray) : Bool := keys.any fun x => strEq x s
def letters (s : ByteArray) : Bool := allTo s.size fun i => decide (97 ≤ byteAt s i ∧ byteAt s i ≤ 122)
def nmOk (s : ByteArray) : Bool := letters s && inR s.size 1 8 && !isKey s
def place (l : List ByteArray) (s : ByteArray) : Int := idx (fun x => strEq x s) l
def Decl.names (d : Decl) : List ByteArray := d.vars ++ d.flags ++ d.arrays.map Arr.name
def nameOk (l : List ByteArray) (i : Nat) : Bool := nmOk (l.getD i default) && !(l.take i).any fun x => strEq x (l.getD i default)
theorem nameOk_of {l : List ByteArray} {i : Nat} (h : nmOk (l.getD i default) = true ∧ ¬ place (l.take i) (l.getD i default) ≥ 0) : nameOk l i = true := by
  have h2 := idx_any (fun x => strEq x (l.getD i default)) (l.take i)
  simp only [nameOk, h.1, ← h2, Bool.true_and]
  rw [show decide (idx (fun x => strEq x (l.getD i default)) (l.take i) ≥ 0) = false from decide_eq_false h.2]; rfl
def Decl.ok (d : Decl) : Bool := decide (d.vars.length ≤ 5 ∧ d.flags.length ≤ 3 ∧ d.arrays.length ≤ 2) && allTo d.arrays.length (fun i => inR (d.arrays.getD i default).size 1 16) && allTo (Decl.names d).length (nameOk (Decl.names d))
theorem Decl.ok_ne {d : Decl} (h : ¬ (d.vars.length ≤ 5 ∧ d.flags.length ≤ 3 ∧ d.arrays.length ≤ 2)) : Decl.ok d = false := by
  simp only [Decl.ok, decide_eq_false h, Bool.false_and]
theorem Decl.ok_size {d : Decl} {j : Nat} (hj : j < d.arrays.length) (h : inR (d.arrays.getD j default).size 1 16 = false) : Decl.ok d = false := by
  simp only [Decl.ok, allTo_fail (f := fun i => inR (d.arrays.getD i default).size 1 16) hj h, Bool.and_false, Bool.false_and]
theorem Decl.ok_name {d : Decl} {j : Nat} (hj : j < (Decl.names d).length) (h : nmOk ((Decl.names d).getD j default) = false ∨ place ((Decl.names d).take j) ((Decl.names d).getD j default) ≥ 0) : Decl.ok d = false := by
  have : nameOk (Decl.names d) j = false := by
    have h2 := idx_any (fun x => strEq x ((Decl.names d).getD j default)) ((Decl.names d).take j)
    rcases h with h | h
    · simp only [nameOk, h, Bool.false_and]
    · simp only [nameOk, ← h2]; rw [show decide (idx (fun x => strEq x ((Decl.names d).getD j default)) ((Decl.names d).take j) ≥ 0) = true from decide_eq_true h]; simp
  simp only [Decl.ok, allTo_fail hj this, Bool.and_false]
theorem Decl.ok_done {d : Decl} (h : d.vars.length ≤ 5 ∧ d.flags.length ≤ 3 ∧ d.arrays.length ≤ 2) {k j : Nat} (h2 : allTo k (fun i => inR (d.arrays.getD i default).size 1 16) = true) (hk : d.arrays.length ≤ k) (hj : (Decl.names d).length ≤ j) (h3 : allTo j (nameOk (Decl.names d)) = true) : Decl.ok d = true := by
  simp only [Decl.ok, decide_eq_true h, allTo_le hk h2, allTo_le hj h3, Bool.and_true]
def Env.okIn (d : Decl) (e : Env) : Bool := if e.live then ((e.ints.length : Int) == d.vars.length && (e.arrs.length : Int) == d.arrays.length) && (e.ints ++ e.arrs).all Iv.ok else ((e.ints.length : Int) == 0 && (e.arrs.length : Int) == 0)
def Env.join (a b : Env) : Env := if a.live then if b.live then ⟨true, zip2 Iv.join a.ints b.ints, zip2 Iv.join a.arrs b.arrs⟩ else a else b
theorem okIn_one {d : Decl} {a : Env} (h : Env.okIn d a = true) (hl : a.live = true) : a.ints.length = d.vars.length ∧ a.arrs.length = d.arrays.length := by
  simp only [Env.okIn, hl, if_true, Bool.and_eq_true, beq_iff_eq] at h; omega
theorem okIn_len {d : Decl} {a b : Env} (h : (Decl.ok d = true ∧ Env.okIn d a = true) ∧ Decl.ok d = true ∧ Env.okIn d b = true) : a.live = true → b.live = true → a.ints.length = b.ints.length ∧ a.arrs.length = b.arrs.length := fun h1 h2 => by
  have := okIn_one h.1.2 h1
  have := okIn_one h.2.2 h2
  omega
def lens (l : List (List ByteArray)) : Nat := (l.map List.length).sum
theorem flatten_lens (l : List (List ByteArray)) : l.flatten.length = lens l := by simp [lens, List.length_flatten]
theorem lens_take (l : List (List ByteArray)) (j : Nat) : lens (l.take (j + 1)) = lens (l.take j) + (l.getD j default).length := by
  unfold lens
  rw [List.take_add_one]
  cases h : l[j]? <;> simp [List.getD_eq_getElem?_getD, h]
  rfl
theorem lens_le (l : List (List ByteArray)) (j : Nat) : lens (l.take j) ≤ lens l := by
  have : lens l = lens (l.take j) + lens (l.drop j) := by
    unfold lens; rw [← List.sum_append, ← List.map_append, List.take_append_drop]
  omega
theorem take_flatten (l : List (List ByteArray)) (j : Nat) : (l.take j).flatten ++ l.getD j default = (l.take (j + 1)).flatten := by
  rw [List.take_add_one]
  cases h : l[j]? <;> simp [List.getD_eq_getElem?_getD, h]
  rfl
theorem strEq_comm (a b : ByteArray) : strEq a b = strEq b a := by
  unfold strEq; rw [Bool.eq_iff_iff]; simp only [beq_iff_eq]; exact eq_comm
theorem isKey_eq (s : ByteArray) : (keys.any fun x => strEq s x) = isKey s := by
  unfold isKey; congr 1; funext x; exact strEq_comm _ _
theorem any_comm (l : List ByteArray) (s : ByteArray) : (l.any fun x => strEq s x) = l.any fun x => strEq x s := by
  congr 1; funext x; exact strEq_comm _ _
theorem nameOk_of2 {l : List ByteArray} {i : Nat} (h : nmOk (l.getD i default) = true ∧ ((l.take i).any fun x => strEq (l.getD i default) x) = false) : nameOk l i = true := by
  simp only [nameOk, h.1, ← any_comm, h.2]; rfl
theorem Decl.ok_name2 {d : Decl} {j : Nat} (hj : j < (Decl.names d).length) (h : nmOk ((Decl.names d).getD j default) = false ∨ (((Decl.names d).take j).any fun x => strEq ((Decl.names d).getD j default) x) = true) : Decl.ok d = false := by
  have : nameOk (Decl.names d) j = false := by
    rcases h with h | h
    · simp only [nameOk, h, Bool.false_and]
    · simp only [nameOk, ← any_comm, h]; simp
  simp only [Decl.ok, allTo_fail hj this, Bool.and_false]
theorem Decl.ok_right {d : Decl} {j : Nat} (hj : (Decl.names d).length ≤ j) (h : allTo j (nameOk (Decl.names d)) = true) :
    (decide ((d.vars.length : Int) ≤ 5) && decide ((d.flags.length : Int) ≤ 3) && decide ((d.arrays.length : Int) ≤ 2) && d.arrays.all fun x => inR x.size 1 16) = Decl.ok d := by
  simp only [Decl.ok, allTo_le hj h, Bool.and_true]
  congr 1
  · rw [Bool.eq_iff_iff]; simp only [Bool.and_eq_true, decide_eq_true_eq]; omega
  · rw [all_allTo]
theorem szDecl_len {a : Decl} {l : Int} (hv : ∀ x ∈ a.vars, 0 ≤ strW x ∧ strW x ≤ 9223372036854775807) (hf : ∀ x ∈ a.flags, 0 ≤ strW x ∧ strW x ≤ 9223372036854775807) (ha : ∀ x ∈ a.arrays, 0 ≤ arrW x ∧ arrW x ≤ 9223372036854775807) (hl : 0 ≤ l ∧ l ≤ 1048576) (h : ¬ szDecl a l < 0) :
    a.vars.length ≤ 1048576 ∧ a.flags.length ≤ 1048576 ∧ a.arrays.length ≤ 1048576 ∧ szDecl a l ≤ l := by
  simp only [szDecl] at h ⊢
  split at h <;> rename_i h1
  · omega
  · have h2 := szL_len hv h1
    rw [if_neg h1]
    split at h <;> rename_i h3
    · omega
    · have h4 := szL_len hf h3
      rw [if_neg h3]
      split at h <;> rename_i h5
      · omega
      · have h6 := szL_len ha h5
        rw [if_neg h5]; omega
theorem all2_self {α : Type} [Inhabited α] {p : α → α → Bool} (h : ∀ x, p x x = true) (a : List α) : all2 p a a = true :=
  all2_done p rfl (allTo_iff.2 fun i _ => h _)
theorem strEq_self (a : ByteArray) : strEq a a = true := by simp [strEq]
theorem Iv.same_self (a : Iv) : Iv.same a a = true := by simp [Iv.same]
theorem Arr.same_self (a : Arr) : Arr.same a a = true := by simp [Arr.same, strEq_self]
theorem Env.same_self (a : Env) : Env.same a a = true := by simp [Env.same, all2_self Iv.same_self]
theorem Decl.same_self (a : Decl) : Decl.same a a = true := by simp [Decl.same, all2_self strEq_self, all2_self Arr.same_self]

theorem strs_good {l : List ByteArray} (h : ∀ x ∈ l, x.size ≤ maxLen) : ∀ x ∈ l, 0 ≤ strW x ∧ strW x ≤ 9223372036854775807 := fun x hx => by
  have := h x hx; simp only [strW, maxLen] at *; omega
theorem arrs_good {l : List Arr} {q : Arr → Prop} (h : ∀ x ∈ l, x.name.size ≤ maxLen ∧ q x) : ∀ x ∈ l, 0 ≤ arrW x ∧ arrW x ≤ 9223372036854775807 := fun x hx => by
  have := (h x hx).1; simp only [arrW, maxLen] at *; omega
theorem names_good {d : Decl} {q : Arr → Prop} (h1 : ∀ x ∈ d.vars, x.size ≤ maxLen) (h2 : ∀ x ∈ d.flags, x.size ≤ maxLen) (h3 : ∀ x ∈ d.arrays, x.name.size ≤ maxLen ∧ q x) : ∀ x ∈ Decl.names d, x.size ≤ 9223372036854775807 := fun x hx => by
  simp only [Decl.names, List.mem_append, List.mem_map] at hx
  rcases hx with (hx | hx) | ⟨y, hy, rfl⟩
  · have := h1 x hx; simp only [maxLen] at this; omega
  · have := h2 x hx; simp only [maxLen] at this; omega
  · have := (h3 y hy).1; simp only [maxLen] at this; omega

def Iv.meet (a b : Iv) : Iv := ⟨max a.lo b.lo, min a.hi b.hi⟩
def Iv.meets (a b : Iv) : Bool := Iv.ok a && Iv.ok b && Iv.ok (Iv.meet a b)
def Iv.leq (a b : Iv) : Bool := Iv.ok a && Iv.ok b && decide (b.lo ≤ a.lo) && decide (a.hi ≤ b.hi)
def allOf (sz : Int) : Iv := ⟨0, IntKind.wrap .i64 (sz - 1)⟩
def Env.put (d : Decl) (e : Env) (v : Int) (p a : Iv) : Env :=
  if Iv.meets p (allOf (d.arrays.getD v.toNat default).size) = true then ⟨e.live, e.ints, e.arrs.set v.toNat (if (d.arrays.getD v.toNat default).size = 1 then a else Iv.join (e.arrs.getD v.toNat default) a)⟩ else ⟨false, [], []⟩
def intEq (a b : Int) : Bool := a == b
theorem intEq_self (a : Int) : intEq a a = true := by simp [intEq]
def szF {α : Type} (f : α → Int → Int) : Int → List α → Int
  | l, [] => l
  | l, x :: xs => if f x l < 0 then -1 else szF f (f x l) xs
theorem szF_step {α : Type} [Inhabited α] {f : α → Int → Int} {a : List α} {j : Nat} {v : Int} (h : j < a.length) (h2 : ¬ f (a.getD j default) v < 0) : szF f v (a.drop j) = szF f (f (a.getD j default) v) (a.drop (j + 1)) := by
  rw [drop_step h, szF, if_neg h2]
theorem szF_fail {α : Type} [Inhabited α] {f : α → Int → Int} {a : List α} {j : Nat} {v : Int} (h : j < a.length) (h2 : f (a.getD j default) v < 0) : szF f v (a.drop j) = -1 := by
  rw [drop_step h, szF, if_pos h2]
theorem szF_end {α : Type} {f : α → Int → Int} {a : List α} {j : Nat} {v : Int} (h : a.length ≤ j) : szF f v (a.drop j) = v := by
  rw [List.drop_eq_nil_of_le h, szF]
def leavesOf (d : Decl) : Int := IntKind.wrap .i64 (1 * 2 ^ (min ((d.flags.length : Int)).toNat (IntKind.bits .i64)))
def Env.leq (a b : Env) : Bool := if a.live then if b.live then (allTo a.ints.length fun i => Iv.leq (a.ints.getD i default) (b.ints.getD i default)) && (allTo a.arrs.length fun i => Iv.leq (a.arrs.getD i default) (b.arrs.getD i default)) else false else true
def Table.isIn (d : Decl) (t : List Env) : Bool := ((t.length : Int) == leavesOf d) && t.all (Env.okIn d)
def Table.ok (d : Decl) (t : List Env) : Bool := Decl.ok d && Table.isIn d t
def tabLeq (a b : List Env) : Bool := allTo a.length fun i => Env.leq (a.getD i default) (b.getD i default)
def Table.leq (d : Decl) (a b : List Env) : Bool := (Table.ok d a && Table.isIn d b) && tabLeq a b
end Go.Proofs

namespace Go.Proofs
open Go Go.Ev
variable [Lay]

def Env.wt (e : Env) : Int := 1 + 2 * (e.ints.length : Int) + 2 * (e.arrs.length : Int)
def Env.markT (k : Int) (e : Env) : Env := ⟨Int.tmod k 3 == 0, mkAll (mIv (k + 1)) e.ints, mkAll (mIv (k + 1 + 2 * (e.ints.length : Int))) e.arrs⟩
def EnvS.at (k : Int) (a : List Env) (i : Nat) : Int := k + ((a.take i).map Env.wt).sum
def EnvS.mk (k : Int) (a : List Env) (i : Nat) (e : Env) : Env := Env.markT (EnvS.at k a i) e
def EnvS.mark (k : Int) (a : List Env) : List Env := mkAll (EnvS.mk k a) a
def EnvS.marks (k : Int) (a : List Env) : Int := EnvS.at k a a.length
theorem EnvS.get {k : Int} {a : List Env} {j : Nat} (h : j < a.length) : (mkTo (EnvS.mk k a) a j).getD j default = a.getD j default := by
  rw [mkTo_get _ _ h, if_neg (by omega)]
def szPl {α : Type} (a : List α) (left : Int) : Int := if left - a.length < 0 then -1 else left - a.length
theorem szPl_le {α : Type} {a : List α} {l B : Int} (h : 0 ≤ B ∧ l ≤ B) : szPl a l ≤ B := by
  unfold szPl; split <;> omega
theorem szPl_len {α : Type} {a : List α} {l : Int} (h : ¬ szPl a l < 0) : (a.length : Int) ≤ l ∧ szPl a l ≤ l := by
  unfold szPl at h ⊢; split at h <;> (split <;> omega)
theorem szF_all {α : Type} {f : α → Int → Int} {Q : α → Prop} (hf : ∀ x v, (0 ≤ v ∧ v ≤ 1048576) → ¬ f x v < 0 → Q x ∧ f x v ≤ v) : ∀ {a : List α} {l : Int}, (0 ≤ l ∧ l ≤ 1048576) → ¬ szF f l a < 0 → (∀ x ∈ a, Q x) ∧ szF f l a ≤ l
  | [], l, _, _ => ⟨by simp, by simp [szF]⟩
  | y :: a, l, hl, h => by
    unfold szF at h ⊢
    by_cases h1 : f y l < 0
    · rw [if_pos h1] at h; omega
    · rw [if_neg h1] at h ⊢
      have h2 := hf y l hl h1
      have h3 := szF_all hf (a := a) (l := f y l) ⟨by omega, by omega⟩ h
      refine ⟨fun x hx => ?_, by omega⟩
      rcases List.mem_cons.1 hx with rfl | hx
      · exact h2.1
      · exact h3.1 x hx
def szSS (a : List (List Int)) (l : Int) : Int := if l - a.length < 0 then -1 else szF szPl (l - a.length) a
theorem szSS_len {a : List (List Int)} {l : Int} (hl : 0 ≤ l ∧ l ≤ 1048576) (h : ¬ szSS a l < 0) : a.length ≤ 1048576 ∧ (∀ x ∈ a, x.length ≤ 1048576) ∧ szSS a l ≤ l := by
  unfold szSS at h ⊢
  by_cases h1 : l - a.length < 0
  · rw [if_pos h1] at h; omega
  · rw [if_neg h1] at h ⊢
    have h2 := szF_all (f := szPl) (Q := fun x => x.length ≤ 1048576) (fun x v hv hx => by have := szPl_len hx; omega) (l := l - a.length) ⟨by omega, by omega⟩ h
    exact ⟨by omega, h2.1, by omega⟩
structure Store where
  ints : List Int
  flags : List Bool
  arrs : List (List Int)
deriving Inhabited
def boolEq (a b : Bool) : Bool := a == b
theorem boolEq_self (a : Bool) : boolEq a a = true := by simp [boolEq]
def Store.same (a b : Store) : Bool := all2 intEq a.ints b.ints && all2 boolEq a.flags b.flags && all2 (all2 intEq) a.arrs b.arrs
theorem Store.same_self (a : Store) : Store.same a a = true := by simp [Store.same, all2_self intEq_self, all2_self boolEq_self, all2_self (all2_self intEq_self)]
def szStore (a : Store) (l : Int) : Int := if szPl a.ints l < 0 then -1 else if szPl a.flags (szPl a.ints l) < 0 then -1 else if szSS a.arrs (szPl a.flags (szPl a.ints l)) < 0 then -1 else szSS a.arrs (szPl a.flags (szPl a.ints l))
def Store.small (s : Store) : Prop := s.ints.length ≤ 1048576 ∧ s.flags.length ≤ 1048576 ∧ s.arrs.length ≤ 1048576 ∧ ∀ x ∈ s.arrs, x.length ≤ 1048576
theorem szStore_len {a : Store} {l : Int} (hl : 0 ≤ l ∧ l ≤ 1048576) (h : ¬ szStore a l < 0) : Store.small a ∧ szStore a l ≤ l := by
  unfold szStore at h ⊢
  by_cases h1 : szPl a.ints l < 0
  · rw [if_pos h1] at h; omega
  · rw [if_neg h1] at h ⊢
    have q1 := szPl_len h1
    by_cases h2 : szPl a.flags (szPl a.ints l) < 0
    · rw [if_pos h2] at h; omega
    · rw [if_neg h2] at h ⊢
      have q2 := szPl_len h2
      by_cases h3 : szSS a.arrs (szPl a.flags (szPl a.ints l)) < 0
      · rw [if_pos h3] at h; omega
      · rw [if_neg h3] at h ⊢
        have q3 := szSS_len (by omega) h3
        exact ⟨⟨by omega, by omega, q3.1, q3.2.1⟩, by omega⟩
def Store.okIn (d : Decl) (s : Store) : Bool := decide (s.ints.length = d.vars.length ∧ s.flags.length = d.flags.length ∧ s.arrs.length = d.arrays.length) && allTo d.arrays.length fun i => ((s.arrs.getD i default).length : Int) == (d.arrays.getD i default).size
def Store.ok (d : Decl) (s : Store) : Bool := Decl.ok d && Store.okIn d s
theorem Store.okIn_ne {d : Decl} {s : Store} (h : ¬ (s.ints.length = d.vars.length ∧ s.flags.length = d.flags.length ∧ s.arrs.length = d.arrays.length)) : Store.okIn d s = false := by
  unfold Store.okIn; rw [decide_eq_false h]; rfl
theorem Store.okIn_fail {d : Decl} {s : Store} {j : Nat} (hj : j < d.arrays.length) (h : ¬ ((s.arrs.getD j default).length : Int) = (d.arrays.getD j default).size) : Store.okIn d s = false := by
  unfold Store.okIn
  rw [allTo_fail (j := j) hj (by simpa using h), Bool.and_false]
theorem Store.okIn_done {d : Decl} {s : Store} {j : Nat} (h : s.ints.length = d.vars.length ∧ s.flags.length = d.flags.length ∧ s.arrs.length = d.arrays.length) (hj : d.arrays.length ≤ j) (h2 : allTo j (fun i => ((s.arrs.getD i default).length : Int) == (d.arrays.getD i default).size) = true) : Store.okIn d s = true := by
  unfold Store.okIn
  rw [decide_eq_true h, allTo_le hj h2]; rfl
theorem Store.okIn_len {d : Decl} {s : Store} (h : Store.okIn d s = true) : s.ints.length = d.vars.length ∧ s.flags.length = d.flags.length ∧ s.arrs.length = d.arrays.length := by
  unfold Store.okIn at h
  exact of_decide_eq_true (Bool.and_eq_true_iff.1 h).1
def Fits (e : Env) (s : Store) : Prop := e.live = true → e.ints.length = s.ints.length ∧ e.arrs.length = s.arrs.length
def truthN (b : Bool) : Int := if b then 1 else 0
theorem Store.okIn_no {d : Decl} {s : Store} (h : (¬ (s.ints.length : Int) = d.vars.length ∨ ¬ (s.flags.length : Int) = d.flags.length) ∨ ¬ (s.arrs.length : Int) = d.arrays.length) : Store.okIn d s = false :=
  Store.okIn_ne (by omega)
theorem Store.ok_no {d : Decl} {s : Store} (h : ((Decl.ok d = false ∨ ¬ (s.ints.length : Int) = d.vars.length) ∨ ¬ (s.flags.length : Int) = d.flags.length) ∨ ¬ (s.arrs.length : Int) = d.arrays.length) : Store.ok d s = false := by
  unfold Store.ok
  by_cases hd : Decl.ok d = true
  · rw [Store.okIn_no (by simpa [hd] using h), Bool.and_false]
  · rw [Bool.not_eq_true] at hd; rw [hd]; rfl
theorem Store.ok_yes {d : Decl} {s : Store} (h : Decl.ok d = true) : Store.ok d s = Store.okIn d s := by
  unfold Store.ok; rw [h]; rfl
end Go.Proofs

namespace Go.Proofs
open Go Go.Ev
variable [Lay]
structure Tok where
  op : Int
  n : Int
deriving Inhabited
def Tok.same (a b : Tok) : Bool := a.op == b.op && a.n == b.n
theorem Tok.same_self (a : Tok) : Tok.same a a = true := by simp [Tok.same]
def takesN (op : Int) : Int := if op ≤ 5 then 0 else if op ≤ 7 ∨ op = 19 then 1 else 2
def kdT (op : Int) : Int := if op = 3 ∨ op = 4 ∨ op = 5 then 0 else if op ≤ 12 then 1 else if op ≤ 18 then 1 else 2
def kdL (op : Int) : Int := if op = 3 ∨ op = 4 ∨ op = 5 then 2 else if op ≤ 12 then 1 else if op ≤ 18 then 2 else 2
def takesL (op : Int) : List Int := if op = 6 ∨ op = 7 then [1] else if inR op 8 18 = true then [1, 1] else if op = 19 then [2] else if op = 20 ∨ op = 21 then [2, 2] else []
def leavesK (op : Int) : Int := if inR op 3 5 = true ∨ op ≥ 13 then 2 else 1
def Tok.ok (d : Decl) (t : Tok) : Bool :=
  if t.op = 1 then inR t.n 0 999999999999999999 else if t.op = 2 then inR t.n 0 (d.vars.length - 1) else if t.op = 3 then inR t.n 0 (d.flags.length - 1) else if t.op = 6 then inR t.n 0 (d.arrays.length - 1) else inR t.op 4 21 && (t.n == 0)
theorem inR_iff {n lo hi : Int} : inR n lo hi = true ↔ lo ≤ n ∧ n ≤ hi := by
  unfold inR; simp only [Bool.and_eq_true, decide_eq_true_eq, ge_iff_le]
theorem Tok.ok_op {d : Decl} {t : Tok} (h : Tok.ok d t = true) : 1 ≤ t.op ∧ t.op ≤ 21 := by
  unfold Tok.ok at h
  repeat' split at h
  all_goals first | omega | (rw [Bool.and_eq_true, inR_iff] at h; omega)
theorem takesL_len (op : Int) : (takesL op).length ≤ 2 := by
  unfold takesL; repeat' split
  all_goals simp
theorem takes_same {op : Int} (h : 1 ≤ op ∧ op ≤ 21) : ((takesL op).length : Int) = takesN op ∧ (∀ x ∈ takesL op, x = kdT op) ∧ leavesK op = kdL op := by
  have h0 : op = 1 ∨ op = 2 ∨ op = 3 ∨ op = 4 ∨ op = 5 ∨ op = 6 ∨ op = 7 ∨ op = 8 ∨ op = 9 ∨ op = 10 ∨ op = 11 ∨ op = 12 ∨ op = 13 ∨ op = 14 ∨ op = 15 ∨ op = 16 ∨ op = 17 ∨ op = 18 ∨ op = 19 ∨ op = 20 ∨ op = 21 := by omega
  rcases h0 with rfl | rfl | rfl | rfl | rfl | rfl | rfl | rfl | rfl | rfl | rfl | rfl | rfl | rfl | rfl | rfl | rfl | rfl | rfl | rfl | rfl <;> decide
def kst (p : List Int) (t : Tok) : Option (List Int) := if (takesL t.op).length ≤ p.length ∧ p.drop (p.length - (takesL t.op).length) = takesL t.op then some (p.take (p.length - (takesL t.op).length) ++ [leavesK t.op]) else none
def kdS (d : Decl) (l : List Tok) : Nat → Option (List Int)
  | 0 => some []
  | j + 1 => (kdS d l j).bind fun p => if Tok.ok d (l.getD j default) = true then kst p (l.getD j default) else none
def kdV (d : Decl) (l : List Tok) : Int := match kdS d l l.length with
  | some [k] => k
  | _ => 0
def Expr.kind (d : Decl) (l : List Tok) : Int := if l.length ≤ 40 then kdV d l else 0
def Expr.kindIn (d : Decl) (l : List Tok) : Int := if Decl.ok d = true then Expr.kind d l else 0
section
variable {d : Decl} {l : List Tok} {j : Nat} {p : List Int}
theorem kdS_none (h : kdS d l j = none) : ∀ n, kdS d l (j + n) = none
  | 0 => h
  | n + 1 => by rw [← Nat.add_assoc, kdS, kdS_none h n]; rfl
theorem kind_none (hj : j ≤ l.length) (h : kdS d l j = none) : Expr.kind d l = 0 := by
  have h1 := kdS_none h (l.length - j)
  rw [show j + (l.length - j) = l.length by omega] at h1
  unfold Expr.kind kdV; rw [h1]; simp
theorem kind_long (h : ¬ l.length ≤ 40) : Expr.kind d l = 0 := by unfold Expr.kind; rw [if_neg h]
theorem kind_one (h : l.length ≤ 40) (hj : j = l.length) (hp : kdS d l j = some p) (h1 : p.length = 1) : Expr.kind d l = p.getD 0 default := by
  subst hj
  unfold Expr.kind kdV; rw [if_pos h, hp]
  match p, h1 with
  | [k], _ => rfl
theorem kind_many (hj : j = l.length) (hp : kdS d l j = some p) (h1 : ¬ p.length = 1) : Expr.kind d l = 0 := by
  subst hj
  unfold Expr.kind kdV; rw [hp]
  match p, h1 with
  | [], _ => simp
  | [k], h1 => exact absurd rfl h1
  | _ :: _ :: _, _ => simp
theorem kdS_len (hp : kdS d l j = some p) : p.length ≤ j := by
  induction j generalizing p with
  | zero => simp only [kdS, Option.some.injEq] at hp; subst hp; simp
  | succ j ih =>
    rw [kdS] at hp
    cases h : kdS d l j with
    | none => rw [h] at hp; cases hp
    | some q =>
      rw [h] at hp
      have h1 := ih h
      simp only [Option.bind_some] at hp
      split at hp
      · unfold kst at hp
        split at hp
        · simp only [Option.some.injEq] at hp
          subst hp
          simp only [List.length_append, List.length_take, List.length_singleton]; omega
        · cases hp
      · cases hp
theorem kdS_bad (hp : kdS d l j = some p) (h : Tok.ok d (l.getD j default) = false) : kdS d l (j + 1) = none := by
  rw [kdS, hp, Option.bind_some, if_neg (by rw [h]; decide)]
theorem kdS_go (hp : kdS d l j = some p) (h : Tok.ok d (l.getD j default) = true) : kdS d l (j + 1) = kst p (l.getD j default) := by
  rw [kdS, hp, Option.bind_some, if_pos h]
theorem kst_some {t : Tok} (h1 : (takesL t.op).length ≤ p.length) (h2 : p.drop (p.length - (takesL t.op).length) = takesL t.op) : kst p t = some (p.take (p.length - (takesL t.op).length) ++ [leavesK t.op]) := by unfold kst; rw [if_pos ⟨h1, h2⟩]
theorem kst_few {t : Tok} (h1 : ¬ (takesL t.op).length ≤ p.length) : kst p t = none := by unfold kst; rw [if_neg (fun h => h1 h.1)]
theorem kst_ne {t : Tok} (h2 : ¬ p.drop (p.length - (takesL t.op).length) = takesL t.op) : kst p t = none := by unfold kst; rw [if_neg (fun h => h2 h.2)]
theorem kst_each {t : Tok} (ht : 1 ≤ t.op ∧ t.op ≤ 21) (h1 : ¬ (p.length : Int) < takesN t.op) (h2 : ∀ i : Nat, (p.length : Int) - takesN t.op ≤ (i : Int) → i < p.length → p.getD i default = kdT t.op) : kst p t = some (p.take (p.length - (takesL t.op).length) ++ [kdL t.op]) := by
  obtain ⟨a1, a2, a3⟩ := takes_same ht
  rw [← a3]
  refine kst_some (by omega) ?_
  refine List.ext_getElem (by rw [List.length_drop]; omega) fun i hi hi' => ?_
  rw [List.length_drop] at hi
  rw [List.getElem_drop]
  have h3 := h2 (p.length - (takesL t.op).length + i) (by omega) (by omega)
  rw [List.getD_eq_getElem?_getD, List.getElem?_eq_getElem (by omega)] at h3
  exact (show p[p.length - (takesL t.op).length + i] = kdT t.op from h3).trans (a2 _ (List.getElem_mem hi')).symm
theorem kst_wrong {t : Tok} {i : Nat} (ht : 1 ≤ t.op ∧ t.op ≤ 21) (h1 : ¬ (p.length : Int) < takesN t.op) (hi : (p.length : Int) - takesN t.op ≤ (i : Int)) (hi2 : i < p.length) (h2 : ¬ p.getD i default = kdT t.op) : kst p t = none := by
  obtain ⟨a1, a2, a3⟩ := takes_same ht
  refine kst_ne fun h => h2 ?_
  have h4 : i = p.length - (takesL t.op).length + (i - (p.length - (takesL t.op).length)) := by omega
  have h5 : p[i]? = (takesL t.op)[i - (p.length - (takesL t.op).length)]? := by
    conv => lhs; rw [h4]
    rw [← List.getElem?_drop, h]
  rw [List.getD_eq_getElem?_getD, h5, List.getElem?_eq_getElem (by omega)]
  exact a2 _ (List.getElem_mem _)
theorem kst_less {t : Tok} (ht : 1 ≤ t.op ∧ t.op ≤ 21) (h1 : (p.length : Int) < takesN t.op) : kst p t = none := by
  have a1 := (takes_same ht).1
  exact kst_few (by omega)
end
theorem intEq_all {a b : List Int} (h : all2 intEq a b = true) : a = b := by
  unfold all2 at h
  simp only [Bool.and_eq_true, beq_iff_eq] at h
  refine List.ext_getElem h.1 fun i hi hi' => ?_
  have h3 := allTo_iff.1 h.2 i hi
  unfold intEq at h3
  rw [beq_iff_eq, List.getD_eq_getElem?_getD, List.getD_eq_getElem?_getD, List.getElem?_eq_getElem hi, List.getElem?_eq_getElem hi'] at h3
  exact h3
theorem takesN_bnd (op : Int) : 0 ≤ takesN op ∧ takesN op ≤ 2 := by
  unfold takesN; repeat' split
  all_goals omega
section
variable {d : Decl} {l : List Tok} {j u : Nat} {p : List Int}
theorem kd_each (hp : kdS d l j = some p) (h : Tok.ok d (l.getD j default) = true ∧ ¬ (p.length : Int) < takesN (l.getD j default).op)
    (hu : ∀ i : Nat, (p.length : Int) - takesN (l.getD j default).op ≤ (i : Int) → (i : Int) < (p.length : Int) - takesN (l.getD j default).op + (u : Int) → p.getD i default = kdT (l.getD j default).op) (h2 : ¬ (p.length : Int) - takesN (l.getD j default).op + (u : Int) < (p.length : Int)) :
    kdS d l (j + 1) = some (p.take ((p.length : Int) - takesN (l.getD j default).op).toNat ++ [kdL (l.getD j default).op]) := by
  have ho := Tok.ok_op h.1
  rw [kdS_go hp h.1, kst_each ho h.2 fun i h3 h4 => hu i h3 (by omega)]
  have a1 := (takes_same ho).1
  rw [show ((p.length : Int) - takesN (l.getD j default).op).toNat = p.length - (takesL (l.getD j default).op).length by omega]
theorem kd_next {a n x : Int} (h : ∀ i : Nat, a - n ≤ (i : Int) → (i : Int) < a - n + (u : Int) → p.getD i default = x) (h1 : p.getD (a - n + (u : Int)).toNat default = x) : ∀ i : Nat, a - n ≤ (i : Int) → (i : Int) < a - n + ((u + 1 : Nat) : Int) → p.getD i default = x := fun i h2 h3 => by
  by_cases e : (i : Int) < a - n + (u : Int)
  · exact h i h2 e
  · rw [show i = (a - n + (u : Int)).toNat by omega]; exact h1
theorem kd_goI (hp : kdS d l j = some p) (h : Tok.ok d (l.getD j default) = true) (h1 : ¬ ((p.length : Int) - ((takesL (l.getD j default).op).length : Int) < 0) ∧ all2 intEq (p.drop ((p.length : Int) - ((takesL (l.getD j default).op).length : Int)).toNat) (takesL (l.getD j default).op) = true) :
    kdS d l (j + 1) = some (p.take ((p.length : Int) - ((takesL (l.getD j default).op).length : Int)).toNat ++ [leavesK (l.getD j default).op]) := by
  have e : ((p.length : Int) - ((takesL (l.getD j default).op).length : Int)).toNat = p.length - (takesL (l.getD j default).op).length := by omega
  rw [e] at h1 ⊢
  rw [kdS_go hp h]
  exact kst_some (by omega) (intEq_all h1.2)
theorem kd_noI (hp : kdS d l j = some p) (h : Tok.ok d (l.getD j default) = true) (h1 : (p.length : Int) - ((takesL (l.getD j default).op).length : Int) < 0 ∨ all2 intEq (p.drop ((p.length : Int) - ((takesL (l.getD j default).op).length : Int)).toNat) (takesL (l.getD j default).op) = false) : kdS d l (j + 1) = none := by
  rw [kdS_go hp h]
  rcases h1 with h1 | h1
  · exact kst_few (by omega)
  · by_cases h0 : (takesL (l.getD j default).op).length ≤ p.length
    · have e : ((p.length : Int) - ((takesL (l.getD j default).op).length : Int)).toNat = p.length - (takesL (l.getD j default).op).length := by omega
      rw [e] at h1
      refine kst_ne fun h2 => ?_
      rw [h2, all2_self intEq_self] at h1; cases h1
    · exact kst_few h0
end
theorem kind_bad {d : Decl} {l : List Tok} (h : l.all (Tok.ok d) = false) : Expr.kind d l = 0 := by
  have h1 : ∃ i, i < l.length ∧ Tok.ok d (l.getD i default) = false := by
    rw [List.all_eq_false] at h
    obtain ⟨x, hx, hb⟩ := h
    obtain ⟨i, hi, rfl⟩ := List.getElem_of_mem hx
    exact ⟨i, hi, by rw [List.getD_eq_getElem?_getD, List.getElem?_eq_getElem hi]; simpa using hb⟩
  obtain ⟨i, hi, hb⟩ := h1
  cases h2 : kdS d l i with
  | none => exact kind_none (by omega) h2
  | some p => exact kind_none (by omega) (kdS_bad h2 hb)
end Go.Proofs

namespace Go.Proofs
open Go Go.Ev
variable [Lay]
structure Rdr where
  b : List Int
  p : Int
deriving Inhabited
def Rdr.ok (b : List Int) (p : Int) : Prop := 0 ≤ p ∧ p ≤ b.length ∧ b.length ≤ 1048576 ∧ ∀ x ∈ b, 0 ≤ x ∧ x ≤ 255
def nextV (b : List Int) (p : Int) : Int := if p ≥ b.length then 0 else b.getD p.toNat default
def nextP (b : List Int) (p : Int) : Int := if p ≥ b.length then p else p + 1
variable {b : List Int} {p : Int}
theorem Rdr.ok.next (h : Rdr.ok b p) : Rdr.ok b (nextP b p) := by
  obtain ⟨h1, h2, h3, h4⟩ := h
  unfold nextP
  split
  · exact ⟨h1, h2, h3, h4⟩
  · exact ⟨by omega, by omega, h3, h4⟩
def belowV (b : List Int) (p n : Int) : Int := if n ≤ 1 then 0 else if n ≤ 256 then Int.tmod (nextV b p) n else Int.tmod (nextV b p * 256 + nextV b (nextP b p)) n
def belowP (b : List Int) (p n : Int) : Int := if n ≤ 1 then p else if n ≤ 256 then nextP b p else nextP b (nextP b p)
theorem Rdr.ok.below {n : Int} (h : Rdr.ok b p) : Rdr.ok b (belowP b p n) := by
  unfold belowP; split
  · exact h
  · split
    · exact h.next
    · exact h.next.next
def onceV (b : List Int) (p n : Int) : Bool := belowV b p n == n - 1
def nextsP (b : List Int) (p : Int) : Nat → Int
  | 0 => p
  | j + 1 => nextP b (nextsP b p j)
theorem Rdr.ok.nexts (h : Rdr.ok b p) : ∀ j, Rdr.ok b (nextsP b p j)
  | 0 => h
  | j + 1 => (Rdr.ok.nexts h j).next
def wStep (x v : Int) : Int := IntKind.wrap .u64 ((BitVec.ofInt (IntKind.bits .u64) (IntKind.wrap .u64 (x * 2 ^ (min ((8 : Int)).toNat (IntKind.bits .u64)))) ||| BitVec.ofInt (IntKind.bits .u64) (IntKind.wrap .u64 v)).toNat : Int)
def wordTo (b : List Int) (p : Int) : Nat → Int
  | 0 => 0
  | j + 1 => wStep (wordTo b p j) (nextV b (nextsP b p j))
def wordV (b : List Int) (p : Int) : Int := wordTo b p 8
def wordP (b : List Int) (p : Int) : Int := nextsP b p 8
theorem Rdr.ok.word (h : Rdr.ok b p) : Rdr.ok b (wordP b p) := h.nexts 8
def Fit (x : Int) : Prop := -9223372036854775808 ≤ x ∧ x ≤ 9223372036854775807
def numL : List Int := [-9223372036854775808, -9223372036854775807, 9223372036854775807, 9223372036854775806, -1, 0, 1, 4294967296, -4294967296, 3037000500]
def numV (b : List Int) (p : Int) : Int :=
  if belowV b p 6 = 0 then numL.getD (belowV b (belowP b p 6) 10).toNat default
  else if belowV b p 6 = 1 then IntKind.wrap .i64 (wordV b (belowP b p 6))
  else if belowV b p 6 = 2 then (IntKind.wrap .i64 (wordV b (belowP b p 6))).fdiv (2 ^ (min (IntKind.wrap .u64 (belowV b (wordP b (belowP b p 6)) 60)).toNat (IntKind.bits .i64)))
  else IntKind.wrap .i64 (belowV b (belowP b p 6) 41 - 20)
def numP (b : List Int) (p : Int) : Int :=
  if belowV b p 6 = 0 then belowP b (belowP b p 6) 10
  else if belowV b p 6 = 1 then wordP b (belowP b p 6)
  else if belowV b p 6 = 2 then belowP b (wordP b (belowP b p 6)) 60
  else belowP b (belowP b p 6) 41
theorem Rdr.ok.num (h : Rdr.ok b p) : Rdr.ok b (numP b p) := by
  unfold numP
  repeat' split
  · exact h.below.below
  · exact h.below.word
  · exact h.below.word.below
  · exact h.below.below
def addV (a c : Int) : Int := if (c > 0 ∧ a > IntKind.wrap .i64 (9223372036854775807 - c)) ∨ (c < 0 ∧ a < IntKind.wrap .i64 (-9223372036854775808 - c)) then 0 else IntKind.wrap .i64 (a + c)
def addO (a c : Int) : Int := if c > 0 ∧ a > IntKind.wrap .i64 (9223372036854775807 - c) then 1 else if c < 0 ∧ a < IntKind.wrap .i64 (-9223372036854775808 - c) then -1 else 0
theorem add_1 {a c : Int} (h : c > 0 ∧ a > IntKind.wrap .i64 (9223372036854775807 - c)) : addV a c = 0 ∧ addO a c = 1 := by
  unfold addV addO; rw [if_pos (.inl h), if_pos h]; exact ⟨rfl, rfl⟩
theorem add_2 {a c : Int} (h0 : ¬ c > 0 ∨ ¬ a > IntKind.wrap .i64 (9223372036854775807 - c)) (h : c < 0 ∧ a < IntKind.wrap .i64 (-9223372036854775808 - c)) : addV a c = 0 ∧ addO a c = -1 := by
  unfold addV addO; rw [if_pos (.inr h), if_neg (fun h9 => h0.elim (fun h8 => h8 h9.1) fun h8 => h8 h9.2), if_pos h]; exact ⟨rfl, rfl⟩
theorem add_3 {a c : Int} (h0 : ¬ c > 0 ∨ ¬ a > IntKind.wrap .i64 (9223372036854775807 - c)) (h : ¬ c < 0 ∨ ¬ a < IntKind.wrap .i64 (-9223372036854775808 - c)) : addV a c = IntKind.wrap .i64 (a + c) ∧ addO a c = 0 := by
  have h1 : ¬ (c > 0 ∧ a > IntKind.wrap .i64 (9223372036854775807 - c)) := fun h9 => h0.elim (fun h8 => h8 h9.1) fun h8 => h8 h9.2
  have h2 : ¬ (c < 0 ∧ a < IntKind.wrap .i64 (-9223372036854775808 - c)) := fun h9 => h.elim (fun h8 => h8 h9.1) fun h8 => h8 h9.2
  unfold addV addO; rw [if_neg (fun h9 => h9.elim h1 h2), if_neg h1, if_neg h2]; exact ⟨rfl, rfl⟩
def nearP (b : List Int) (p a h : Int) : Int := if belowV b p 8 = 0 then belowP b p 8 else if belowV b p 8 = 1 then belowP b p 8 else if h < a then belowP b p 8 else wordP b (belowP b p 8)
theorem Rdr.ok.near {a h : Int} (hr : Rdr.ok b p) : Rdr.ok b (nearP b p a h) := by
  unfold nearP
  repeat' split
  all_goals first | exact hr.below | exact hr.below.word
def offP (b : List Int) (p a h : Int) : Int := if onceV b p 24 = true then belowP b (belowP b p 24) 4 else nearP b (belowP b p 24) a h
theorem Rdr.ok.off {a h : Int} (hr : Rdr.ok b p) : Rdr.ok b (offP b p a h) := by
  unfold offP; split
  · exact hr.below.below
  · exact hr.below.near
def ivEnd (b : List Int) (x y p : Int) : Iv := if y < x ∧ onceV b p 12 = false then ⟨y, x⟩ else ⟨x, y⟩
def ivEndP (b : List Int) (x y p : Int) : Int := if y < x then belowP b p 12 else p
def ivY (b : List Int) (x p : Int) : Int := if addV x (belowV b p 30) < x then x else addV x (belowV b p 30)
def ivP (b : List Int) (p : Int) : Int :=
  if belowV b (numP b p) 4 = 0 then ivEndP b (numV b p) (numV b (belowP b (numP b p) 4)) (numP b (belowP b (numP b p) 4))
  else if belowV b (numP b p) 4 = 1 ∨ belowV b (numP b p) 4 = 2 then ivEndP b (numV b p) (ivY b (numV b p) (belowP b (numP b p) 4)) (belowP b (belowP b (numP b p) 4) 30)
  else ivEndP b (numV b p) (numV b p) (belowP b (numP b p) 4)
theorem Rdr.ok.ivEnd {x y q : Int} (h : Rdr.ok b q) : Rdr.ok b (ivEndP b x y q) := by
  unfold ivEndP; split
  · exact h.below
  · exact h
theorem Rdr.ok.iv (h : Rdr.ok b p) : Rdr.ok b (ivP b p) := by
  unfold ivP
  repeat' split
  · exact h.num.below.num.ivEnd
  · exact h.num.below.below.ivEnd
  · exact h.num.below.ivEnd
def smallP (b : List Int) (p : Int) : Int := if onceV b p 6 = true then ivP b (belowP b p 6) else belowP b (belowP b (belowP b p 6) 20) 9
theorem Rdr.ok.small (h : Rdr.ok b p) : Rdr.ok b (smallP b p) := by
  unfold smallP; split
  · exact h.below.iv
  · exact h.below.below.below
def hurtP (b : List Int) (p : Int) : Int := belowP b p 24
theorem Rdr.ok.hurt (h : Rdr.ok b p) : Rdr.ok b (hurtP b p) := h.below
theorem wrap_u64_eq (z : Int) : IntKind.wrap .u64 z = z % 18446744073709551616 := by
  simp only [IntKind.wrap, IntKind.bits, IntKind.signed]; simp
theorem wrap_i64_eq (z : Int) : IntKind.wrap .i64 z = if z % 18446744073709551616 < 9223372036854775808 then z % 18446744073709551616 else z % 18446744073709551616 - 18446744073709551616 := by
  simp only [IntKind.wrap, IntKind.bits, IntKind.signed]
  simp
  split <;> split <;> omega
section
variable {a : Iv} {c : List Int} {i : Int}
end
def htP (b : List Int) (p : Int) : Int := if belowV b p 24 = 1 then hurtP b (belowP b p 24) else belowP b p 24
theorem Rdr.ok.ht (h : Rdr.ok b p) : Rdr.ok b (htP b p) := by
  unfold htP; split
  · exact h.below.hurt
  · exact h.below
end Go.Proofs

namespace Go.Proofs
open Go Go.Ev
variable [Lay]
def fitN (x : Int) : Int := if -9223372036854775808 ≤ x ∧ x ≤ 9223372036854775807 then x else 0
def fitO (x : Int) : Int := if x > 9223372036854775807 then 1 else if x < -9223372036854775808 then -1 else 0
def fitC (x : Int) : Int := if -9223372036854775808 ≤ x ∧ x ≤ 9223372036854775807 then 0 else 6
theorem fitN_fit (x : Int) : Fit (fitN x) := by unfold fitN Fit; split <;> omega
theorem fit_in {x : Int} (h : Fit x) : fitN x = x ∧ fitO x = 0 ∧ fitC x = 0 := by
  unfold Fit at h; unfold fitN fitO fitC
  rw [if_pos h, if_neg (by omega), if_neg (by omega), if_pos h]; exact ⟨rfl, rfl, rfl⟩
theorem fit_big {x : Int} (h : x > 9223372036854775807) : fitN x = 0 ∧ fitO x = 1 ∧ fitC x = 6 := by
  unfold fitN fitO fitC
  rw [if_neg (by omega), if_pos h, if_neg (by omega)]; exact ⟨rfl, rfl, rfl⟩
theorem fit_low {x : Int} (h : x < -9223372036854775808) : fitN x = 0 ∧ fitO x = -1 ∧ fitC x = 6 := by
  unfold fitN fitO fitC
  rw [if_neg (by omega), if_neg (by omega), if_pos h, if_neg (by omega)]; exact ⟨rfl, rfl, rfl⟩
theorem fitO_ne {x : Int} (h : ¬ fitO x = 0) : fitC x = 6 ∧ fitN x = 0 := by
  unfold fitO at h; unfold fitC fitN
  split at h
  · rw [if_neg (by omega), if_neg (by omega)]; exact ⟨rfl, rfl⟩
  · split at h
    · rw [if_neg (by omega), if_neg (by omega)]; exact ⟨rfl, rfl⟩
    · exact absurd rfl h
theorem fitO_eq {x : Int} (h : fitO x = 0) : fitC x = 0 ∧ fitN x = x := by
  unfold fitO at h; unfold fitC fitN
  split at h
  · omega
  · split at h
    · omega
    · rw [if_pos (by omega), if_pos (by omega)]; exact ⟨rfl, rfl⟩
theorem addV_fit {a c : Int} (ha : Fit a) (hc : Fit c) : addV a c = fitN (a + c) ∧ addO a c = fitO (a + c) := by
  unfold Fit at ha hc
  by_cases h1 : c > 0 ∧ a > IntKind.wrap .i64 (9223372036854775807 - c)
  · have h2 := add_1 h1
    rw [wrap_le (by omega) (by omega)] at h1
    have h3 := fit_big (x := a + c) (by omega)
    rw [h2.1, h2.2, h3.1, h3.2.1]; exact ⟨rfl, rfl⟩
  · by_cases h4 : c < 0 ∧ a < IntKind.wrap .i64 (-9223372036854775808 - c)
    · have h2 := add_2 (by omega) h4
      rw [wrap_le (by omega) (by omega)] at h4
      have h3 := fit_low (x := a + c) (by omega)
      rw [h2.1, h2.2, h3.1, h3.2.1]; exact ⟨rfl, rfl⟩
    · have h2 := add_3 (a := a) (c := c) (by omega) (by omega)
      have h5 : Fit (a + c) := by
        unfold Fit
        by_cases h6 : c > 0
        · rw [wrap_le (by omega) (by omega)] at h1; omega
        · by_cases h7 : c < 0
          · rw [wrap_le (by omega) (by omega)] at h4; omega
          · omega
      have h3 := fit_in h5
      rw [h2.1, h2.2, h3.1, h3.2.1]
      unfold Fit at h5
      exact ⟨wrap_le h5.1 h5.2, rfl⟩
section
variable {a c : Int}
theorem sub_1 (ha : Fit a) (hc : Fit c) (h : c < 0 ∧ a > IntKind.wrap .i64 (9223372036854775807 + c)) : fitN (a - c) = 0 ∧ fitO (a - c) = 1 := by
  unfold Fit at ha hc
  rw [wrap_le (by omega) (by omega)] at h
  have h3 := fit_big (x := a - c) (by omega)
  exact ⟨h3.1, h3.2.1⟩
theorem sub_2 (ha : Fit a) (hc : Fit c) (h : c > 0 ∧ a < IntKind.wrap .i64 (-9223372036854775808 + c)) : fitN (a - c) = 0 ∧ fitO (a - c) = -1 := by
  unfold Fit at ha hc
  rw [wrap_le (by omega) (by omega)] at h
  have h3 := fit_low (x := a - c) (by omega)
  exact ⟨h3.1, h3.2.1⟩
theorem sub_3 (ha : Fit a) (hc : Fit c) (h1 : ¬ c < 0 ∨ ¬ a > IntKind.wrap .i64 (9223372036854775807 + c)) (h2 : ¬ c > 0 ∨ ¬ a < IntKind.wrap .i64 (-9223372036854775808 + c)) : fitN (a - c) = IntKind.wrap .i64 (a - c) ∧ fitO (a - c) = 0 := by
  unfold Fit at ha hc
  have h5 : Fit (a - c) := by
    unfold Fit
    by_cases h6 : c < 0
    · rw [wrap_le (by omega) (by omega)] at h1; omega
    · by_cases h7 : c > 0
      · rw [wrap_le (by omega) (by omega)] at h2; omega
      · omega
  have h3 := fit_in h5
  unfold Fit at h5
  rw [h3.1, h3.2.1, wrap_le h5.1 h5.2]; exact ⟨rfl, rfl⟩
def absN (a : Int) : Int := if a < 0 then -a else a
theorem absN_bnd (ha : Fit a) : 0 ≤ absN a ∧ absN a ≤ 9223372036854775808 := by unfold Fit at ha; unfold absN; split <;> omega
theorem abs_1' (ha : Fit a) (h : a < 0) : absN a = IntKind.wrap .u64 (0 - (IntKind.wrap .u64 a)) := by
  unfold Fit at ha; unfold absN; rw [if_pos h, wrap_u64_eq, wrap_u64_eq]; omega
theorem abs_2 (ha : Fit a) (h : ¬ a < 0) : absN a = IntKind.wrap .u64 a := by
  unfold Fit at ha; unfold absN; rw [if_neg h, wrap_u64_eq]; omega
theorem abs_mul (a c : Int) : a * c = if decide (a < 0) = decide (c < 0) then absN a * absN c else -(absN a * absN c) := by
  unfold absN
  by_cases h1 : a < 0 <;> by_cases h2 : c < 0 <;> simp [h1, h2, Int.neg_mul, Int.mul_neg]
def mulHi (x y : Int) : Int := x * y / 18446744073709551616
def mulLo (x y : Int) : Int := x * y % 18446744073709551616
def mostN (a c : Int) : Int := if decide (a < 0) = decide (c < 0) then 9223372036854775807 else 9223372036854775808
theorem abs_prod (ha : Fit a) (hc : Fit c) : 0 ≤ absN a * absN c := Int.mul_nonneg (absN_bnd ha).1 (absN_bnd hc).1
theorem hi_no (ha : Fit a) (hc : Fit c) {m : Int} (hm : 0 ≤ m ∧ m < 18446744073709551616) : (mulHi (absN a) (absN c) > 0 ∨ mulLo (absN a) (absN c) > m) ↔ absN a * absN c > m := by
  have h0 := abs_prod ha hc
  unfold mulHi mulLo
  generalize absN a * absN c = q at *
  omega
theorem mul_over (hg : absN a * absN c > mostN a c) : fitN (a * c) = 0 ∧ fitO (a * c) = if decide (a < 0) = decide (c < 0) then 1 else -1 := by
  rw [abs_mul a c]
  unfold mostN at hg
  generalize absN a * absN c = q at *
  by_cases h : decide (a < 0) = decide (c < 0)
  · simp only [if_pos h] at *
    have := fit_big hg
    exact ⟨this.1, this.2.1⟩
  · simp only [if_neg h] at *
    have := fit_low (x := -q) (by omega)
    exact ⟨this.1, this.2.1⟩
theorem mul_fits (ha : Fit a) (hc : Fit c) (hg : ¬ absN a * absN c > mostN a c) : Fit (a * c) := by
  rw [abs_mul a c]
  have h0 := abs_prod ha hc
  unfold mostN at hg
  generalize absN a * absN c = q at *
  unfold Fit
  by_cases h : decide (a < 0) = decide (c < 0)
  · simp only [if_pos h] at *; omega
  · simp only [if_neg h] at *; omega
theorem mul_low (ha : Fit a) (hc : Fit c) (hg : ¬ absN a * absN c > mostN a c) (h : ¬ decide (a < 0) = decide (c < 0)) : a * c = IntKind.wrap .i64 (IntKind.wrap .u64 (-(mulLo (absN a) (absN c)))) := by
  have h1 := mul_fits ha hc hg
  have h0 := abs_prod ha hc
  have h2 := abs_mul a c
  unfold mostN at hg
  unfold mulLo
  rw [if_neg h] at h2 hg
  unfold Fit at h1
  generalize absN a * absN c = q at *
  rw [wrap_i64_eq, wrap_u64_eq]
  omega
theorem mul_low' (ha : Fit a) (hc : Fit c) (hg : ¬ absN a * absN c > mostN a c) (h : ¬ decide (a < 0) = decide (c < 0)) : a * c = IntKind.wrap .i64 (IntKind.wrap .u64 (0 - (mulLo (absN a) (absN c)))) := by
  rw [Int.zero_sub]; exact mul_low ha hc hg h
theorem mul_high (ha : Fit a) (hc : Fit c) (hg : ¬ absN a * absN c > mostN a c) (h : decide (a < 0) = decide (c < 0)) : a * c = IntKind.wrap .i64 (mulLo (absN a) (absN c)) := by
  have h1 := mul_fits ha hc hg
  have h0 := abs_prod ha hc
  have h2 := abs_mul a c
  unfold mostN at hg
  unfold mulLo
  rw [if_pos h] at h2 hg
  unfold Fit at h1
  generalize absN a * absN c = q at *
  rw [wrap_i64_eq]
  omega
theorem div_over (hc : Fit c) (h0 : ¬ c = 0) {m x : Int} (hm : 0 ≤ m ∧ m ≤ 9223372036854775808) : x > IntKind.wrap .u64 (Int.tdiv m (absN c)) ↔ x * absN c > m := by
  have h1 := absN_bnd hc
  have h2 : 0 < absN c := by unfold absN; split <;> omega
  have h3 : Int.tdiv m (absN c) = m / absN c := Int.tdiv_eq_ediv_of_nonneg hm.1
  have h4 : 0 ≤ m / absN c := Int.ediv_nonneg hm.1 h1.1
  have h5 : m / absN c ≤ m := Int.ediv_le_self _ hm.1
  rw [h3, wrap_u64_eq, Int.emod_eq_of_lt h4 (by omega)]
  exact Int.ediv_lt_iff_lt_mul h2
section
variable {a c : Int}
theorem absN_ne (h : ¬ c = 0) : absN c ≠ 0 := by unfold absN; split <;> omega
theorem mul_zero9 (h : a = 0 ∨ c = 0) : fitN (a * c) = 0 ∧ fitO (a * c) = 0 := by
  have e : a * c = 0 := by rcases h with h | h <;> rw [h] <;> simp
  rw [e]; exact ⟨rfl, rfl⟩
theorem most_ne (h : ¬ decide (a < 0) = decide (c < 0)) : mostN a c = 9223372036854775808 := by unfold mostN; rw [if_neg h]
theorem most_eq (h : decide (a < 0) = decide (c < 0)) : mostN a c = 9223372036854775807 := by unfold mostN; rw [if_pos h]
theorem smul_1 (hc : Fit c) (h0 : ¬ c = 0) (h : ¬ decide (a < 0) = decide (c < 0)) (h2 : absN a > IntKind.wrap .u64 (Int.tdiv 9223372036854775808 (absN c))) : fitN (a * c) = 0 ∧ fitO (a * c) = -1 := by
  have h3 := mul_over (a := a) (c := c) (by rw [most_ne h]; exact (div_over hc h0 (by omega)).1 h2)
  rw [if_neg h] at h3; exact h3
theorem smul_3 (ha : Fit a) (hc : Fit c) (h0 : ¬ c = 0) (h : ¬ decide (a < 0) = decide (c < 0)) (h2 : ¬ absN a > IntKind.wrap .u64 (Int.tdiv 9223372036854775808 (absN c))) : fitN (a * c) = IntKind.wrap .i64 (a * c) ∧ fitO (a * c) = 0 := by
  have h3 := mul_fits ha hc (by rw [most_ne h]; exact fun h9 => h2 ((div_over hc h0 (by omega)).2 h9))
  have h4 := fit_in h3
  unfold Fit at h3
  rw [h4.1, h4.2.1, wrap_le h3.1 h3.2]; exact ⟨rfl, rfl⟩
theorem smul_5 (hc : Fit c) (h0 : ¬ c = 0) (h : decide (a < 0) = decide (c < 0)) (h2 : absN a > IntKind.wrap .u64 (Int.tdiv 9223372036854775807 (absN c))) : fitN (a * c) = 0 ∧ fitO (a * c) = 1 := by
  have h3 := mul_over (a := a) (c := c) (by rw [most_eq h]; exact (div_over hc h0 (by omega)).1 h2)
  rw [if_pos h] at h3; exact h3
theorem smul_6 (ha : Fit a) (hc : Fit c) (h0 : ¬ c = 0) (h : decide (a < 0) = decide (c < 0)) (h2 : ¬ absN a > IntKind.wrap .u64 (Int.tdiv 9223372036854775807 (absN c))) : fitN (a * c) = IntKind.wrap .i64 (a * c) ∧ fitO (a * c) = 0 := by
  have h3 := mul_fits ha hc (by rw [most_eq h]; exact fun h9 => h2 ((div_over hc h0 (by omega)).2 h9))
  have h4 := fit_in h3
  unfold Fit at h3
  rw [h4.1, h4.2.1, wrap_le h3.1 h3.2]; exact ⟨rfl, rfl⟩
theorem wrap_most : IntKind.wrap .u64 (9223372036854775807 + 1) = 9223372036854775808 := by rw [wrap_u64_eq]; decide
theorem imul_0 (ha : Fit a) (hc : Fit c) (h : ¬ decide (a < 0) = decide (c < 0)) (h2 : mulHi (absN a) (absN c) > 0 ∨ mulLo (absN a) (absN c) > IntKind.wrap .u64 (9223372036854775807 + 1)) : fitN (a * c) = 0 ∧ fitO (a * c) = bif decide (a < 0) != decide (c < 0) then -1 else 1 := by
  rw [wrap_most] at h2
  have h3 := mul_over (a := a) (c := c) (by rw [most_ne h]; exact (hi_no ha hc (by omega)).1 h2)
  rw [if_neg h] at h3
  refine ⟨h3.1, h3.2.trans ?_⟩
  rw [bne_iff_ne.2 h]; rfl
theorem imul_1 (ha : Fit a) (hc : Fit c) (h : ¬ decide (a < 0) = decide (c < 0)) (h2 : ¬ mulHi (absN a) (absN c) > 0 ∧ ¬ mulLo (absN a) (absN c) > IntKind.wrap .u64 (9223372036854775807 + 1)) : fitN (a * c) = IntKind.wrap .i64 (IntKind.wrap .u64 (0 - mulLo (absN a) (absN c))) ∧ fitO (a * c) = 0 := by
  rw [wrap_most] at h2
  have hg : ¬ absN a * absN c > mostN a c := by rw [most_ne h]; exact fun h9 => ((hi_no ha hc (by omega)).2 h9).elim h2.1 h2.2
  have h4 := fit_in (mul_fits ha hc hg)
  rw [h4.1, h4.2.1, ← mul_low' ha hc hg h]; exact ⟨rfl, rfl⟩
theorem imul_3 (ha : Fit a) (hc : Fit c) (h : decide (a < 0) = decide (c < 0)) (h2 : mulHi (absN a) (absN c) > 0 ∨ mulLo (absN a) (absN c) > 9223372036854775807) : fitN (a * c) = 0 ∧ fitO (a * c) = bif decide (a < 0) != decide (c < 0) then -1 else 1 := by
  have h3 := mul_over (a := a) (c := c) (by rw [most_eq h]; exact (hi_no ha hc (by omega)).1 h2)
  rw [if_pos h] at h3
  refine ⟨h3.1, h3.2.trans ?_⟩
  rw [h]; simp
theorem imul_5 (ha : Fit a) (hc : Fit c) (h : decide (a < 0) = decide (c < 0)) (h2 : ¬ mulHi (absN a) (absN c) > 0 ∧ ¬ mulLo (absN a) (absN c) > 9223372036854775807) : fitN (a * c) = IntKind.wrap .i64 (mulLo (absN a) (absN c)) ∧ fitO (a * c) = 0 := by
  have hg : ¬ absN a * absN c > mostN a c := by rw [most_eq h]; exact fun h9 => ((hi_no ha hc (by omega)).2 h9).elim h2.1 h2.2
  have h4 := fit_in (mul_fits ha hc hg)
  rw [h4.1, h4.2.1, ← mul_high ha hc hg h]; exact ⟨rfl, rfl⟩
end
theorem nat_of {x : Int} (h : 0 ≤ x ∧ x ≤ 9223372036854775808) : ∃ n : Nat, x = n ∧ n < 18446744073709551616 := ⟨x.toNat, by omega, by omega⟩
theorem mask_eq {a : Nat} (ha : a < 18446744073709551616) : IntKind.wrap .u64 ((BitVec.ofInt (IntKind.bits .u64) (a : Int) &&& BitVec.ofInt (IntKind.bits .u64) 4294967295).toNat : Int) = ((a % 4294967296 : Nat) : Int) := by
  have h1 : (BitVec.ofInt (IntKind.bits .u64) (a : Int) &&& BitVec.ofInt (IntKind.bits .u64) 4294967295).toNat = a % 4294967296 := by
    rw [BitVec.toNat_and]
    have e1 : (BitVec.ofInt (IntKind.bits .u64) (a : Int)).toNat = a := by
      rw [BitVec.toNat_ofInt]; simp only [IntKind.bits]; omega
    have e2 : (BitVec.ofInt (IntKind.bits .u64) 4294967295).toNat = 2 ^ 32 - 1 := by decide
    rw [e1, e2, Nat.and_two_pow_sub_one_eq_mod]
  rw [h1, wrap_u64_eq]; omega
theorem shr_eq (a : Nat) : (a : Int).fdiv (2 ^ (min ((32 : Int)).toNat (IntKind.bits .u64))) = ((a / 4294967296 : Nat) : Int) := by
  have e : (2 : Int) ^ (min ((32 : Int)).toNat (IntKind.bits .u64)) = 4294967296 := by decide
  rw [e, Int.fdiv_eq_ediv_of_nonneg _ (by omega)]; omega
theorem mulw_eq {a b : Nat} (h : a * b < 18446744073709551616) : IntKind.wrap .u64 ((a : Int) * (b : Int)) = ((a * b : Nat) : Int) := by
  rw [wrap_u64_eq, ← Int.natCast_mul]; omega
theorem addw_eq {a b : Nat} (h : a + b < 18446744073709551616) : IntKind.wrap .u64 ((a : Int) + (b : Int)) = ((a + b : Nat) : Int) := by
  rw [wrap_u64_eq]; omega
theorem mul64_lo9 {x y : Int} (hx : 0 ≤ x ∧ x ≤ 9223372036854775808) (hy : 0 ≤ y ∧ y ≤ 9223372036854775808) : IntKind.wrap .u64 (x * y) = mulLo x y := by
  rw [wrap_u64_eq]; rfl
theorem mul64_hi9 {x y : Int} (hx : 0 ≤ x ∧ x ≤ 9223372036854775808) (hy : 0 ≤ y ∧ y ≤ 9223372036854775808) : IntKind.wrap .u64 (IntKind.wrap .u64 (IntKind.wrap .u64 ((x).fdiv (2 ^ (min ((32 : Int)).toNat (IntKind.bits .u64))) * (y).fdiv (2 ^ (min ((32 : Int)).toNat (IntKind.bits .u64)))) + (IntKind.wrap .u64 (IntKind.wrap .u64 ((x).fdiv (2 ^ (min ((32 : Int)).toNat (IntKind.bits .u64))) * IntKind.wrap .u64 ((BitVec.ofInt (IntKind.bits .u64) (y) &&& BitVec.ofInt (IntKind.bits .u64) 4294967295).toNat : Int)) + (IntKind.wrap .u64 (IntKind.wrap .u64 ((BitVec.ofInt (IntKind.bits .u64) (x) &&& BitVec.ofInt (IntKind.bits .u64) 4294967295).toNat : Int) * IntKind.wrap .u64 ((BitVec.ofInt (IntKind.bits .u64) (y) &&& BitVec.ofInt (IntKind.bits .u64) 4294967295).toNat : Int))).fdiv (2 ^ (min ((32 : Int)).toNat (IntKind.bits .u64))))).fdiv (2 ^ (min ((32 : Int)).toNat (IntKind.bits .u64)))) + (IntKind.wrap .u64 (IntKind.wrap .u64 ((BitVec.ofInt (IntKind.bits .u64) (IntKind.wrap .u64 (IntKind.wrap .u64 ((x).fdiv (2 ^ (min ((32 : Int)).toNat (IntKind.bits .u64))) * IntKind.wrap .u64 ((BitVec.ofInt (IntKind.bits .u64) (y) &&& BitVec.ofInt (IntKind.bits .u64) 4294967295).toNat : Int)) + (IntKind.wrap .u64 (IntKind.wrap .u64 ((BitVec.ofInt (IntKind.bits .u64) (x) &&& BitVec.ofInt (IntKind.bits .u64) 4294967295).toNat : Int) * IntKind.wrap .u64 ((BitVec.ofInt (IntKind.bits .u64) (y) &&& BitVec.ofInt (IntKind.bits .u64) 4294967295).toNat : Int))).fdiv (2 ^ (min ((32 : Int)).toNat (IntKind.bits .u64))))) &&& BitVec.ofInt (IntKind.bits .u64) 4294967295).toNat : Int) + IntKind.wrap .u64 (IntKind.wrap .u64 ((BitVec.ofInt (IntKind.bits .u64) (x) &&& BitVec.ofInt (IntKind.bits .u64) 4294967295).toNat : Int) * (y).fdiv (2 ^ (min ((32 : Int)).toNat (IntKind.bits .u64)))))).fdiv (2 ^ (min ((32 : Int)).toNat (IntKind.bits .u64)))) = mulHi x y := by
  obtain ⟨m, rfl, hm⟩ := nat_of hx
  obtain ⟨n, rfl, hn⟩ := nat_of hy
  obtain ⟨bd, bt, bw, hhi⟩ := Lib.mul64_hi m n hm hn
  have ba := Lib.half_mul_le (a := m / 4294967296) (b := n / 4294967296) (by omega) (by omega)
  have bb := Lib.half_mul_le (a := m / 4294967296) (b := n % 4294967296) (by omega) (by omega)
  have bc := Lib.half_mul_le (a := m % 4294967296) (b := n / 4294967296) (by omega) (by omega)
  rw [mask_eq hm, mask_eq hn, shr_eq, shr_eq, mulw_eq bd, shr_eq, mulw_eq (a := m / 4294967296) (b := n % 4294967296) (by omega), addw_eq bt, shr_eq, mask_eq bt, mulw_eq (a := m % 4294967296) (b := n / 4294967296) (by omega), addw_eq bw, shr_eq, mulw_eq (a := m / 4294967296) (b := n / 4294967296) (by omega), addw_eq (by omega), addw_eq (by omega), hhi]
  unfold mulHi; rw [← Int.natCast_mul]; omega
def quoN (a c : Int) : Int := if c = 0 then 0 else fitN (Int.tdiv a c)
def quoO (a c : Int) : Int := if c = 0 then 0 else fitO (Int.tdiv a c)
def remN (a c : Int) : Int := if c = 0 then 0 else Int.tmod a c
theorem tdiv_bnd (ha : Fit a) (h : ¬ (a = -9223372036854775808 ∧ c = -1)) : Fit (Int.tdiv a c) := by
  unfold Fit at *
  have h1 : (Int.tdiv a c).natAbs = a.natAbs / c.natAbs := Int.natAbs_tdiv a c
  by_cases e : c = 0
  · subst e; simp
  · have h2 : a.natAbs / c.natAbs ≤ a.natAbs := Nat.div_le_self _ _
    by_cases e1 : c = 1
    · subst e1; simp; omega
    · by_cases e2 : c = -1
      · subst e2; simp; omega
      · have h3 : 2 ≤ c.natAbs := by omega
        have h4 : a.natAbs / c.natAbs ≤ a.natAbs / 2 := Nat.div_le_div_left h3 (by omega)
        omega
theorem quo_end (ha : Fit a) (h0 : ¬ c = 0) (h : ¬ a = -9223372036854775808 ∨ ¬ c = -1) : quoN a c = IntKind.wrap .i64 (Int.tdiv a c) ∧ quoO a c = 0 := by
  have h1 := tdiv_bnd (c := c) ha (by omega)
  have h2 := fit_in h1
  unfold Fit at h1
  unfold quoN quoO
  rw [if_neg h0, if_neg h0, h2.1, h2.2.1, wrap_le h1.1 h1.2]; exact ⟨rfl, rfl⟩
theorem quo_neg (ha : Fit a) (h : c = -1) : quoN a c = fitN (0 - a) ∧ quoO a c = fitO (0 - a) := by
  subst h; unfold quoN quoO
  rw [if_neg (by decide), if_neg (by decide)]
  have : Int.tdiv a (-1) = 0 - a := by rw [Int.tdiv_neg, Int.tdiv_one, Int.zero_sub]
  rw [this]; exact ⟨rfl, rfl⟩
theorem rem_no (h : c = 0 ∨ c = -1) : remN a c = 0 := by
  unfold remN; rcases h with h | h
  · rw [if_pos h]
  · subst h; rw [if_neg (by decide)]; simp
theorem rem_end (h : ¬ c = 0) : remN a c = Int.tmod a c := by unfold remN; rw [if_neg h]
end
def cmpB (op a b : Int) : Bool := if op = 13 then decide (a < b) else if op = 14 then decide (a ≤ b) else if op = 15 then a == b else if op = 16 then a != b else if op = 17 then decide (a > b) else decide (a ≥ b)
def apN (op a b : Int) : Int := if op = 8 then fitN (a + b) else if op = 9 then fitN (a - b) else if op = 10 then fitN (a * b) else if op = 20 then min a b else if op = 21 then max a b
  else if op = 11 then quoN a b else if op = 12 then remN a b else truthN (cmpB op a b)
def apC (op a b : Int) : Int := if op = 8 then fitC (a + b) else if op = 9 then fitC (a - b) else if op = 10 then fitC (a * b) else if op = 20 then 0 else if op = 21 then 0
  else if op = 11 then (if b = 0 then 4 else fitC (Int.tdiv a b)) else if op = 12 then (if b = 0 then 4 else 0) else 0
theorem truthN_01 (b : Bool) : truthN b = 0 ∨ truthN b = 1 := by cases b; exact .inl rfl; exact .inr rfl
def ftN (n w : Int) : Int := if w = 0 then n else 0
def ftC (w : Int) : Int := if w = 0 then 0 else 6
theorem ft_fit (x : Int) : ftN (fitN x) (fitO x) = fitN x ∧ ftC (fitO x) = fitC x := by
  unfold ftN ftC
  by_cases h : fitO x = 0
  · rw [if_pos h, if_pos h, (fitO_eq h).1]; exact ⟨rfl, rfl⟩
  · rw [if_neg h, if_neg h, (fitO_ne h).1, (fitO_ne h).2]; exact ⟨rfl, rfl⟩
theorem ft_no {n w x y : Int} (h : ftN n w = x ∧ ftC w = y) (hw : ¬ w = 0) : 0 = x ∧ 6 = y := by
  unfold ftN ftC at h; rw [if_neg hw, if_neg hw] at h; exact h
theorem ft_ok {n w x y : Int} (h : ftN n w = x ∧ ftC w = y) (hw : w = 0) : n = x ∧ 0 = y := by
  unfold ftN ftC at h; rw [if_pos hw, if_pos hw] at h; exact h
section
variable {op a b : Int}
theorem ap_8 (ha : Fit a) (hb : Fit b) (h : op = 8) : ftN (addV a b) (addO a b) = apN op a b ∧ ftC (addO a b) = apC op a b := by
  subst h; rw [(addV_fit ha hb).1, (addV_fit ha hb).2]; exact ft_fit _
theorem ap_9 (h : op = 9) : ftN (fitN (a - b)) (fitO (a - b)) = apN op a b ∧ ftC (fitO (a - b)) = apC op a b := by subst h; exact ft_fit _
theorem ap_10 (h : op = 10) : ftN (fitN (a * b)) (fitO (a * b)) = apN op a b ∧ ftC (fitO (a * b)) = apC op a b := by subst h; exact ft_fit _
theorem ap_20 (h : op = 20) : min a b = apN op a b ∧ 0 = apC op a b := by subst h; exact ⟨rfl, rfl⟩
theorem ap_21 (h : op = 21) : max a b = apN op a b ∧ 0 = apC op a b := by subst h; exact ⟨rfl, rfl⟩
theorem ap_div (h : op = 11 ∨ op = 12) (h0 : b = 0) : 0 = apN op a b ∧ 4 = apC op a b := by subst h0; rcases h with h | h <;> subst h <;> exact ⟨rfl, rfl⟩
theorem ap_12 (h : op = 12) (h0 : ¬ b = 0) : remN a b = apN op a b ∧ 0 = apC op a b := by
  subst h; refine ⟨rfl, ?_⟩
  show 0 = if b = 0 then 4 else 0
  rw [if_neg h0]
theorem ap_11 (h : op = 11) (h0 : ¬ b = 0) : ftN (quoN a b) (quoO a b) = apN op a b ∧ ftC (quoO a b) = apC op a b := by
  subst h
  have e1 : quoN a b = fitN (Int.tdiv a b) := by unfold quoN; rw [if_neg h0]
  have e2 : quoO a b = fitO (Int.tdiv a b) := by unfold quoO; rw [if_neg h0]
  have h1 := ft_fit (Int.tdiv a b)
  rw [e1, e2]
  refine ⟨h1.1.trans e1.symm, ?_⟩
  rw [h1.2]
  show fitC _ = if b = 0 then 4 else fitC (Int.tdiv a b)
  rw [if_neg h0]
theorem ap_cmp (h : ¬ op = 8 ∧ ¬ op = 9 ∧ ¬ op = 10 ∧ ¬ op = 20 ∧ ¬ op = 21 ∧ ¬ op = 11 ∧ ¬ op = 12) : truthN (cmpB op a b) = apN op a b ∧ 0 = apC op a b := by
  obtain ⟨h1, h2, h3, h4, h5, h6, h7⟩ := h
  unfold apN apC
  rw [if_neg h1, if_neg h2, if_neg h3, if_neg h4, if_neg h5, if_neg h6, if_neg h7, if_neg h1, if_neg h2, if_neg h3, if_neg h4, if_neg h5, if_neg h6, if_neg h7]
  exact ⟨rfl, rfl⟩
theorem ap_and (hq : op = 20 → (a = 0 ∨ a = 1) ∧ (b = 0 ∨ b = 1)) (h : op = 20) : IntKind.wrap .i64 (a * b) = apN op a b ∧ 0 = apC op a b := by
  obtain ⟨h1, h2⟩ := hq h
  subst h
  rcases h1 with rfl | rfl <;> rcases h2 with rfl | rfl <;> decide
end
def thingV (s : Store) (t : Tok) : Int := if t.op = 1 then t.n else if t.op = 2 then s.ints.getD t.n.toNat default else if t.op = 3 then truthN (s.flags.getD t.n.toNat default) else truthN (t.op == 4)
def ofN (s : Store) (t : Tok) (a : Int) : Int := if t.op = 6 then (if inR a 0 (((s.arrs.getD t.n.toNat default).length : Int) - 1) = true then (s.arrs.getD t.n.toNat default).getD a.toNat default else 0) else if t.op = 7 then fitN (0 - a) else 1 - a
def ofC (s : Store) (t : Tok) (a : Int) : Int := if t.op = 6 then (if inR a 0 (((s.arrs.getD t.n.toNat default).length : Int) - 1) = true then 0 else 5) else if t.op = 7 then fitC (0 - a) else 0
section
variable {s : Store} {t : Tok} {a : Int}
theorem of_6n (h : t.op = 6) (h1 : inR a 0 (((s.arrs.getD t.n.toNat default).length : Int) - 1) = false) : 0 = ofN s t a ∧ 5 = ofC s t a := by
  unfold ofN ofC; rw [if_pos h, if_pos h, if_neg (by rw [h1]; decide), if_neg (by rw [h1]; decide)]; exact ⟨rfl, rfl⟩
theorem of_6 (h : t.op = 6) (h1 : inR a 0 (((s.arrs.getD t.n.toNat default).length : Int) - 1) = true) : (s.arrs.getD t.n.toNat default).getD a.toNat default = ofN s t a ∧ 0 = ofC s t a := by
  unfold ofN ofC; rw [if_pos h, if_pos h, if_pos h1, if_pos h1]; exact ⟨rfl, rfl⟩
theorem of_7 (h : t.op = 7) : ftN (fitN (0 - a)) (fitO (0 - a)) = ofN s t a ∧ ftC (fitO (0 - a)) = ofC s t a := by
  have h6 : ¬ t.op = 6 := by omega
  unfold ofN ofC; rw [if_neg h6, if_neg h6, if_pos h, if_pos h]; exact ft_fit _
theorem of_19 (h : ¬ t.op = 6) (h2 : ¬ t.op = 7) : 1 - a = ofN s t a ∧ 0 = ofC s t a := by
  unfold ofN ofC; rw [if_neg h, if_neg h, if_neg h2, if_neg h2]; exact ⟨rfl, rfl⟩
end
def topN (p : List Int) (i : Nat) : Int := p.getD (p.length - i) default
def opN (s : Store) (p : List Int) (t : Tok) : Int := if takesN t.op = 0 then thingV s t else if takesN t.op = 1 then ofN s t (topN p 1) else apN t.op (topN p 2) (topN p 1)
def opC (s : Store) (p : List Int) (t : Tok) : Int := if takesN t.op = 0 then 0 else if takesN t.op = 1 then ofC s t (topN p 1) else apC t.op (topN p 2) (topN p 1)
def nxP (s : Store) (p : List Int) (t : Tok) : List Int := p.take (p.length - (takesN t.op).toNat) ++ [opN s p t]
def evS (s : Store) (l : List Tok) : Nat → Int × List Int
  | 0 => (0, [])
  | j + 1 => if (evS s l j).1 = 0 then (if opC s (evS s l j).2 (l.getD j default) = 0 then (0, nxP s (evS s l j).2 (l.getD j default)) else (opC s (evS s l j).2 (l.getD j default), [])) else evS s l j
def evN (s : Store) (l : List Tok) : Int := if (evS s l l.length).1 = 0 then (evS s l l.length).2.getD 0 default else 0
def evC (s : Store) (l : List Tok) : Int := (evS s l l.length).1
def Eval.n (d : Decl) (l : List Tok) (s : Store) : Int := if Store.ok d s = true ∧ ¬ Expr.kind d l = 0 then evN s l else 0
def Eval.c (d : Decl) (l : List Tok) (s : Store) : Int := if Store.ok d s = true ∧ ¬ Expr.kind d l = 0 then evC s l else 1
section
variable {s : Store} {l : List Tok} {j : Nat} {p : List Int}
theorem evS_go (h : evS s l j = (0, p)) (hc : opC s p (l.getD j default) = 0) : evS s l (j + 1) = (0, nxP s p (l.getD j default)) := by
  rw [evS, h, if_pos rfl, if_pos hc]
theorem evS_bad (h : evS s l j = (0, p)) (hc : ¬ opC s p (l.getD j default) = 0) : evS s l (j + 1) = (opC s p (l.getD j default), []) := by
  rw [evS, h, if_pos rfl, if_neg hc]
theorem evS_stay (h : ¬ (evS s l j).1 = 0) : ∀ n, evS s l (j + n) = evS s l j
  | 0 => rfl
  | n + 1 => by rw [← Nat.add_assoc, evS, evS_stay h n, if_neg h]
theorem ev_bad (h : evS s l j = (0, p)) (hj : j < l.length) (hc : ¬ opC s p (l.getD j default) = 0) : evN s l = 0 ∧ evC s l = opC s p (l.getD j default) := by
  have h1 := evS_bad h hc
  have h2 := evS_stay (s := s) (l := l) (j := j + 1) (by rw [h1]; exact hc) (l.length - (j + 1))
  rw [show j + 1 + (l.length - (j + 1)) = l.length by omega, h1] at h2
  unfold evN evC
  rw [h2, if_neg hc]; exact ⟨rfl, rfl⟩
theorem ev_end (h : evS s l j = (0, p)) (hj : l.length ≤ j) (hj2 : j ≤ l.length) : evN s l = p.getD 0 default ∧ evC s l = 0 := by
  have : j = l.length := by omega
  subst this
  unfold evN evC; rw [h, if_pos rfl]; exact ⟨rfl, rfl⟩
end
def FitS (s : Store) : Prop := (∀ x ∈ s.ints, Fit x) ∧ ∀ a ∈ s.arrs, ∀ x ∈ a, Fit x
def PileI (d : Decl) (l : List Tok) (j : Nat) (p : List Int) : Prop := ∃ k, kdS d l j = some k ∧ k.length = p.length ∧ (∀ i, i < p.length → Fit (p.getD i default)) ∧ ∀ i, i < p.length → k.getD i default = 2 → p.getD i default = 0 ∨ p.getD i default = 1
theorem PileI.zero {d : Decl} {l : List Tok} : PileI d l 0 [] := ⟨[], rfl, rfl, fun i hi => absurd hi (by simp), fun i hi => absurd hi (by simp)⟩
structure NextI (d : Decl) (s : Store) (p : List Int) (t : Tok) : Prop where
  ok : 1 ≤ t.op ∧ t.op ≤ 21
  n0 : takesN t.op ≤ p.length
  num : t.op = 1 → Fit t.n
  zero : t.op = 5 → t.n = 0
  var : t.op = 2 → 0 ≤ t.n ∧ t.n < s.ints.length
  flag : t.op = 3 → 0 ≤ t.n ∧ t.n < s.flags.length
  arr : t.op = 6 → 0 ≤ t.n ∧ t.n < s.arrs.length
  f1 : 1 ≤ takesN t.op → Fit (topN p 1)
  f2 : 2 ≤ takesN t.op → Fit (topN p 2)
  t1 : t.op = 19 ∨ t.op = 20 ∨ t.op = 21 → topN p 1 = 0 ∨ topN p 1 = 1
  t2 : t.op = 20 ∨ t.op = 21 → topN p 2 = 0 ∨ topN p 2 = 1
theorem kd_next_some {d : Decl} {l : List Tok} (hk : ¬ Expr.kind d l = 0) {j : Nat} (hj : j ≤ l.length) : ∃ k, kdS d l j = some k := by
  cases h : kdS d l j with
  | none => exact absurd (kind_none hj h) hk
  | some k => exact ⟨k, rfl⟩
theorem kd_step_eq {d : Decl} {l : List Tok} (hk : ¬ Expr.kind d l = 0) {j : Nat} (hj : j < l.length) {k : List Int} (h : kdS d l j = some k) :
    Tok.ok d (l.getD j default) = true ∧ kdS d l (j + 1) = some (k.take (k.length - (takesN (l.getD j default).op).toNat) ++ [kdL (l.getD j default).op]) ∧ takesN (l.getD j default).op ≤ k.length ∧
    (1 ≤ takesN (l.getD j default).op → k.getD (k.length - 1) default = kdT (l.getD j default).op) ∧ (2 ≤ takesN (l.getD j default).op → k.getD (k.length - 2) default = kdT (l.getD j default).op) := by
  obtain ⟨k2, h2⟩ := kd_next_some hk (j := j + 1) hj
  generalize ht : l.getD j default = t at *
  have ho : Tok.ok d t = true := by
    cases e : Tok.ok d t with
    | true => rfl
    | false => rw [kdS_bad h (by rw [ht]; exact e)] at h2; cases h2
  have h3 := kdS_go h (by rw [ht]; exact ho)
  rw [h2, ht] at h3
  obtain ⟨a1, a2, a3⟩ := takes_same (Tok.ok_op ho)
  unfold kst at h3
  split at h3
  · rename_i hc
    simp only [Option.some.injEq] at h3
    have e1 : (takesN t.op).toNat = (takesL t.op).length := by omega
    have hd : ∀ i, i < (takesL t.op).length → k.getD (k.length - (takesL t.op).length + i) default = kdT t.op := fun i hi => by
      have h5 : k[k.length - (takesL t.op).length + i]? = (takesL t.op)[i]? := by rw [← List.getElem?_drop, hc.2]
      rw [List.getD_eq_getElem?_getD, h5, List.getElem?_eq_getElem hi]
      exact a2 _ (List.getElem_mem hi)
    refine ⟨ho, by rw [h2, h3, e1, a3], by omega, fun h1 => ?_, fun h1 => ?_⟩
    · have := hd ((takesL t.op).length - 1) (by omega)
      rwa [show k.length - (takesL t.op).length + ((takesL t.op).length - 1) = k.length - 1 by omega] at this
    · have h9 := takesN_bnd t.op
      have := hd 0 (by omega)
      rwa [show k.length - (takesL t.op).length + 0 = k.length - 2 by omega] at this
  · cases h3
theorem kdT_truth {op : Int} (h : op = 19 ∨ op = 20 ∨ op = 21) : kdT op = 2 := by rcases h with h | h | h <;> subst h <;> decide
theorem next_of {d : Decl} {l : List Tok} {s : Store} {j : Nat} {p : List Int} (hk : ¬ Expr.kind d l = 0) (hs : Store.okIn d s = true) (hj : j < l.length) (hp : PileI d l j p) : NextI d s p (l.getD j default) := by
  obtain ⟨k, h1, h2, h3, h4⟩ := hp
  obtain ⟨o, _, n0, k1, k2⟩ := kd_step_eq hk hj h1
  generalize l.getD j default = t at *
  have hl := Store.okIn_len hs
  have hn := takesN_bnd t.op
  have o' := o
  unfold Tok.ok at o'
  refine ⟨Tok.ok_op o, by omega, fun h => ?_, fun h => ?_, fun h => ?_, fun h => ?_, fun h => ?_, fun h => ?_, fun h => ?_, fun h => ?_, fun h => ?_⟩
  · rw [if_pos h, inR_iff] at o'; unfold Fit; omega
  · rw [if_neg (by omega), if_neg (by omega), if_neg (by omega), if_neg (by omega)] at o'; simp at o'; exact o'.2
  · rw [if_neg (by omega), if_pos h, inR_iff] at o'; omega
  · rw [if_neg (by omega), if_neg (by omega), if_pos h, inR_iff] at o'; omega
  · rw [if_neg (by omega), if_neg (by omega), if_neg (by omega), if_pos h, inR_iff] at o'; omega
  · unfold topN; exact h3 _ (by omega)
  · unfold topN; exact h3 _ (by omega)
  · have ht : 1 ≤ takesN t.op := by rcases h with h | h | h <;> rw [h] <;> decide
    unfold topN
    exact h4 _ (by omega) (by rw [← h2, k1 ht]; exact kdT_truth h)
  · have ht : 2 ≤ takesN t.op := by rcases h with h | h <;> rw [h] <;> decide
    unfold topN
    exact h4 _ (by omega) (by rw [← h2, k2 ht]; exact kdT_truth (.inr h))
theorem getD_all {α : Type} [Inhabited α] {P : α → Prop} {a : List α} (h : ∀ x ∈ a, P x) {i : Nat} (hi : i < a.length) : P (a.getD i default) := h _ (getD_mem hi)
theorem apN_fit {op a b : Int} (ha : Fit a) (hb : Fit b) : Fit (apN op a b) := by
  unfold apN
  repeat' split
  · exact fitN_fit _
  · exact fitN_fit _
  · exact fitN_fit _
  · unfold Fit at *; omega
  · unfold Fit at *; omega
  · unfold quoN; split
    · unfold Fit; omega
    · exact fitN_fit _
  · unfold remN; split
    · unfold Fit; omega
    · have h1 : (Int.tmod a b).natAbs ≤ a.natAbs := by rw [Int.natAbs_tmod]; exact Nat.mod_le _ _
      unfold Fit at *
      have h2 : a = -9223372036854775808 → Int.tmod a b ≤ 0 := fun e => by
        have := Int.tmod_nonneg b (a := -a) (by omega)
        rw [Int.neg_tmod] at this; omega
      omega
  · have := truthN_01 (cmpB op a b); unfold Fit; omega
theorem kdL_truth {op : Int} (h : 1 ≤ op ∧ op ≤ 21) (h2 : kdL op = 2) : op = 3 ∨ op = 4 ∨ op = 5 ∨ 13 ≤ op := by
  unfold kdL at h2
  split at h2
  · omega
  · split at h2
    · omega
    · omega
theorem step_fit {d : Decl} {s : Store} {p : List Int} {t : Tok} (hf : FitS s) (h : NextI d s p t) : Fit (opN s p t) := by
  have hn := takesN_bnd t.op
  unfold opN
  split
  · unfold thingV
    repeat' split
    · exact h.num ‹_›
    · have := h.var ‹_›; exact getD_all hf.1 (by omega)
    · have := truthN_01 (s.flags.getD t.n.toNat default); unfold Fit; omega
    · have := truthN_01 (t.op == 4); unfold Fit; omega
  · split
    · unfold ofN
      have h1 := h.f1 (by omega)
      repeat' split
      · rename_i h6 h7
        rw [inR_iff] at h7
        have := h.arr h6
        exact getD_all (getD_all hf.2 (i := t.n.toNat) (by omega)) (by omega)
      · unfold Fit; omega
      · exact fitN_fit _
      · rename_i h6 h7
        have h0 : takesN t.op = 1 := by assumption
        have h8 : t.op = 19 := by
          have := h.ok
          unfold takesN at h0
          split at h0
          · omega
          · split at h0
            · omega
            · omega
        have := h.t1 (.inl h8)
        unfold Fit; omega
    · exact apN_fit (h.f2 (by omega)) (h.f1 (by omega))
theorem step_truth {d : Decl} {s : Store} {p : List Int} {t : Tok} (h : NextI d s p t) (hl : kdL t.op = 2) : opN s p t = 0 ∨ opN s p t = 1 := by
  have ho := kdL_truth h.ok hl
  have hn := h.ok
  have h1 := h.t1
  have h2 := h.t2
  unfold opN
  rcases ho with e | e | e | e
  · rw [if_pos (by rw [e]; decide)]; unfold thingV; rw [if_neg (by omega), if_neg (by omega), if_pos e]; exact truthN_01 _
  · rw [if_pos (by rw [e]; decide)]; unfold thingV; rw [if_neg (by omega), if_neg (by omega), if_neg (by omega)]; exact truthN_01 _
  · rw [if_pos (by rw [e]; decide)]; unfold thingV; rw [if_neg (by omega), if_neg (by omega), if_neg (by omega)]; exact truthN_01 _
  · by_cases e19 : t.op = 19
    · rw [if_neg (by rw [e19]; decide), if_pos (by rw [e19]; decide)]
      unfold ofN; rw [if_neg (by omega), if_neg (by omega)]
      have := h1 (.inl e19); omega
    · have ht : takesN t.op = 2 := by unfold takesN; rw [if_neg (by omega), if_neg (by omega)]
      rw [if_neg (by omega), if_neg (by omega)]
      unfold apN
      rw [if_neg (by omega), if_neg (by omega), if_neg (by omega)]
      split
      · have := h1 (by omega); have := h2 (by omega); omega
      · split
        · have := h1 (by omega); have := h2 (by omega); omega
        · rw [if_neg (by omega), if_neg (by omega)]; exact truthN_01 _
theorem PileI.next {d : Decl} {l : List Tok} {s : Store} {j : Nat} {p : List Int} (hk : ¬ Expr.kind d l = 0) (hs : Store.okIn d s = true) (hf : FitS s) (hj : j < l.length) (hp : PileI d l j p) : PileI d l (j + 1) (nxP s p (l.getD j default)) := by
  have hn := next_of hk hs hj hp
  obtain ⟨k, h1, h2, h3, h4⟩ := hp
  obtain ⟨o, e, n0, k1, k2⟩ := kd_step_eq hk hj h1
  have hn2 := takesN_bnd (l.getD j default).op
  refine ⟨_, e, ?_, fun i hi => ?_, fun i hi => ?_⟩
  · unfold nxP; simp only [List.length_append, List.length_take, List.length_singleton]; omega
  all_goals
    unfold nxP at hi ⊢
    simp only [List.length_append, List.length_take, List.length_singleton] at hi
    by_cases hi2 : i < p.length - (takesN (l.getD j default).op).toNat
  · rw [getD_app1 (by rw [List.length_take]; omega), List.getD_eq_getElem?_getD, List.getElem?_take_of_lt hi2, ← List.getD_eq_getElem?_getD]
    exact h3 i (by omega)
  · have e2 : i = (p.take (p.length - (takesN (l.getD j default).op).toNat)).length + 0 := by rw [List.length_take]; omega
    rw [e2, getD_app2]
    exact step_fit hf hn
  · rw [getD_app1 (by rw [List.length_take]; omega), getD_app1 (by rw [List.length_take]; omega), List.getD_eq_getElem?_getD, List.getElem?_take_of_lt (by omega), ← List.getD_eq_getElem?_getD, List.getD_eq_getElem?_getD (l := p.take _), List.getElem?_take_of_lt hi2, ← List.getD_eq_getElem?_getD]
    exact h4 i (by omega)
  · have e2 : i = (p.take (p.length - (takesN (l.getD j default).op).toNat)).length + 0 := by rw [List.length_take]; omega
    have e3 : i = (k.take (k.length - (takesN (l.getD j default).op).toNat)).length + 0 := by rw [List.length_take]; omega
    intro hkd
    rw [e3, getD_app2] at hkd
    rw [e2, getD_app2]
    exact step_truth hn hkd
section
variable {s : Store} {p : List Int} {t : Tok}
theorem thing_eq {x : Int} (h : x = thingV s t) (h0 : takesN t.op = 0) : p.take ((p.length : Int) - takesN t.op).toNat ++ [x] = nxP s p t ∧ opC s p t = 0 := by
  unfold nxP opN opC
  rw [if_pos h0, if_pos h0, h, show ((p.length : Int) - takesN t.op).toNat = p.length - (takesN t.op).toNat by omega]; exact ⟨rfl, rfl⟩
theorem of_eq (h1 : takesN t.op = 1) : p.take ((p.length : Int) - takesN t.op).toNat ++ [ofN s t (p.getD ((p.length : Int) - takesN t.op).toNat default)] = nxP s p t ∧ opC s p t = ofC s t (p.getD ((p.length : Int) - takesN t.op).toNat default) := by
  unfold nxP opN opC topN
  rw [if_neg (by omega), if_pos h1, if_neg (by omega), if_pos h1, show ((p.length : Int) - takesN t.op).toNat = p.length - (takesN t.op).toNat by omega, h1]; exact ⟨rfl, rfl⟩
theorem ap_eq (h2 : takesN t.op = 2) (hl : 2 ≤ p.length) : p.take ((p.length : Int) - takesN t.op).toNat ++ [apN t.op (p.getD ((p.length : Int) - takesN t.op).toNat default) (p.getD ((p.length : Int) - takesN t.op + 1).toNat default)] = nxP s p t ∧
    opC s p t = apC t.op (p.getD ((p.length : Int) - takesN t.op).toNat default) (p.getD ((p.length : Int) - takesN t.op + 1).toNat default) := by
  unfold nxP opN opC topN
  rw [if_neg (by omega), if_neg (by omega), if_neg (by omega), if_neg (by omega), h2, show ((p.length : Int) - 2).toNat = p.length - 2 by omega, show ((p.length : Int) - 2 + 1).toNat = p.length - 1 by omega]; exact ⟨rfl, rfl⟩
end
section
variable {s : Store} {p : List Int} {t : Tok}
theorem of_eq' (h1 : takesN t.op = 1) {x : Int} (h : x = ofN s t (p.getD ((p.length : Int) - takesN t.op).toNat default)) : p.take ((p.length : Int) - takesN t.op).toNat ++ [x] = nxP s p t := by rw [h]; exact (of_eq h1).1
theorem ap9_of {a : Int} (h : t.op = 7) : apN 9 0 a = ofN s t a ∧ apC 9 0 a = ofC s t a := by
  have h6 : ¬ t.op = 6 := by omega
  unfold ofN ofC; rw [if_neg h6, if_neg h6, if_pos h, if_pos h]; exact ⟨rfl, rfl⟩
theorem tv_2 (h : t.op = 2) : s.ints.getD t.n.toNat default = thingV s t := by unfold thingV; rw [if_neg (by omega), if_pos h]
theorem tv_3 (h : t.op = 3) : truthN (s.flags.getD t.n.toNat default) = thingV s t := by unfold thingV; rw [if_neg (by omega), if_neg (by omega), if_pos h]
theorem tv_4 (h : t.op = 4) : 1 = thingV s t := by unfold thingV; rw [if_neg (by omega), if_neg (by omega), if_neg (by omega), h]; rfl
theorem tv_d (h2 : ¬ t.op = 2) (h3 : ¬ t.op = 3) (h4 : ¬ t.op = 4) (h5 : t.op = 1 ∨ t.op = 5) (h : t.op = 5 → t.n = 0) : t.n = thingV s t := by
  unfold thingV
  rcases h5 with h5 | h5
  · rw [if_pos h5]
  · rw [if_neg (by omega), if_neg h2, if_neg h3, h h5, h5]; rfl
end
section
variable {s : Store} {l : List Tok} {j : Nat} {p : List Int}
theorem ev_bad1 (h : evS s l j = (0, p)) (hj : j < l.length) (h1 : takesN (l.getD j default).op = 1) (hc : ¬ ofC s (l.getD j default) (p.getD ((p.length : Int) - takesN (l.getD j default).op).toNat default) = 0) : 0 = evN s l ∧ ofC s (l.getD j default) (p.getD ((p.length : Int) - takesN (l.getD j default).op).toNat default) = evC s l := by
  rw [← (of_eq h1).2] at hc ⊢
  have h2 := ev_bad h hj hc
  exact ⟨h2.1.symm, h2.2.symm⟩
theorem ev_bad2 (h : evS s l j = (0, p)) (hj : j < l.length) (h2 : takesN (l.getD j default).op = 2) (hl : 2 ≤ p.length) (hc : ¬ apC (l.getD j default).op (p.getD ((p.length : Int) - takesN (l.getD j default).op).toNat default) (p.getD ((p.length : Int) - takesN (l.getD j default).op + 1).toNat default) = 0) :
    0 = evN s l ∧ apC (l.getD j default).op (p.getD ((p.length : Int) - takesN (l.getD j default).op).toNat default) (p.getD ((p.length : Int) - takesN (l.getD j default).op + 1).toNat default) = evC s l := by
  rw [← (ap_eq h2 hl).2] at hc ⊢
  have h3 := ev_bad h hj hc
  exact ⟨h3.1.symm, h3.2.symm⟩
end
theorem next_top {d : Decl} {s : Store} {p : List Int} {t : Tok} (h : NextI d s p t) : (takesN t.op = 1 → Fit (p.getD ((p.length : Int) - takesN t.op).toNat default) ∧ (¬ t.op = 6 → ¬ t.op = 7 → p.getD ((p.length : Int) - takesN t.op).toNat default = 0 ∨ p.getD ((p.length : Int) - takesN t.op).toNat default = 1)) ∧
    (takesN t.op = 2 → (Fit (p.getD ((p.length : Int) - takesN t.op).toNat default) ∧ Fit (p.getD ((p.length : Int) - takesN t.op + 1).toNat default)) ∧ (t.op = 20 → (p.getD ((p.length : Int) - takesN t.op).toNat default = 0 ∨ p.getD ((p.length : Int) - takesN t.op).toNat default = 1) ∧ (p.getD ((p.length : Int) - takesN t.op + 1).toNat default = 0 ∨ p.getD ((p.length : Int) - takesN t.op + 1).toNat default = 1))) := by
  have hn := h.n0
  have ho := h.ok
  refine ⟨fun h1 => ?_, fun h2 => ?_⟩
  · rw [show ((p.length : Int) - takesN t.op).toNat = p.length - 1 by omega]
    refine ⟨h.f1 (by omega), fun h6 h7 => h.t1 (.inl ?_)⟩
    unfold takesN at h1
    split at h1
    · omega
    · split at h1 <;> omega
  · rw [show ((p.length : Int) - takesN t.op).toNat = p.length - 2 by omega, show ((p.length : Int) - takesN t.op + 1).toNat = p.length - 1 by omega]
    exact ⟨⟨h.f2 (by omega), h.f1 (by omega)⟩, fun h20 => ⟨h.t2 (.inl h20), h.t1 (.inr (.inl h20))⟩⟩
theorem kind_len {d : Decl} {l : List Tok} (hk : ¬ Expr.kind d l = 0) : l.length ≤ 40 := by
  by_cases h : l.length ≤ 40
  · exact h
  · exact absurd (kind_long h) hk
theorem pile_end {d : Decl} {l : List Tok} {j : Nat} {p : List Int} (hk : ¬ Expr.kind d l = 0) (hj : l.length ≤ j) (hj2 : j ≤ l.length) (hp : PileI d l j p) : p.length = 1 := by
  have e : j = l.length := by omega
  subst e
  obtain ⟨k, h1, h2, _⟩ := hp
  by_cases h : k.length = 1
  · omega
  · exact absurd (kind_many rfl h1 h) hk
theorem pile_len {d : Decl} {l : List Tok} {j : Nat} {p : List Int} (hp : PileI d l j p) : p.length ≤ j := by
  obtain ⟨k, h1, h2, _⟩ := hp
  have := kdS_len h1; omega
theorem takesN_ops {op : Int} (h : 1 ≤ op ∧ op ≤ 21) : (op = 1 ∨ op = 2 ∨ op = 3 ∨ op = 4 ∨ op = 5 → takesN op = 0) ∧ (op = 6 ∨ op = 7 ∨ op = 19 → takesN op = 1) ∧ (8 ≤ op → ¬ op = 19 → takesN op = 2) := by
  unfold takesN
  refine ⟨fun h1 => if_pos (by omega), fun h1 => ?_, fun h1 h2 => ?_⟩
  · rw [if_neg (by omega), if_pos (by omega)]
  · rw [if_neg (by omega), if_neg (by omega)]
theorem kindIn_ok {d : Decl} {l : List Tok} {s : Store} (h : Store.ok d s = true) : Expr.kindIn d l = Expr.kind d l := by
  unfold Expr.kindIn; rw [if_pos (Bool.and_eq_true_iff.1 h).1]
theorem kin_no {d : Decl} {l : List Tok} {s : Store} (h : Store.ok d s = false ∨ Expr.kindIn d l = 0) : Store.ok d s = false ∨ Expr.kind d l = 0 := by
  rcases h with h | h
  · exact .inl h
  · cases e : Store.ok d s with
    | false => exact .inl rfl
    | true => rw [kindIn_ok e] at h; exact .inr h
theorem kin_yes {d : Decl} {l : List Tok} {s : Store} (h : Store.ok d s = true ∧ ¬ Expr.kindIn d l = 0) : Store.ok d s = true ∧ ¬ Expr.kind d l = 0 := by
  rw [kindIn_ok h.1] at h; exact h
theorem eval_no {d : Decl} {l : List Tok} {s : Store} (h : Store.ok d s = false ∨ Expr.kind d l = 0) : 0 = Eval.n d l s ∧ 1 = Eval.c d l s := by
  have h1 : ¬ (Store.ok d s = true ∧ ¬ Expr.kind d l = 0) := fun h9 => by
    rcases h with h | h
    · rw [h] at h9; exact absurd h9.1 (by decide)
    · exact h9.2 h
  unfold Eval.n Eval.c; rw [if_neg h1, if_neg h1]; exact ⟨rfl, rfl⟩
theorem eval_yes {d : Decl} {l : List Tok} {s : Store} (h : Store.ok d s = true ∧ ¬ Expr.kind d l = 0) : evN s l = Eval.n d l s ∧ evC s l = Eval.c d l s := by
  unfold Eval.n Eval.c; rw [if_pos h, if_pos h]; exact ⟨rfl, rfl⟩
theorem fit_good {x : Int} (h : (Lit.int .i64 x).wf = true) : Fit x := by
  simp only [Lit.wf, Bool.and_eq_true, decide_eq_true_eq] at h
  have h2 : IntKind.min .i64 = -9223372036854775808 := rfl
  have h3 : IntKind.max .i64 = 9223372036854775807 := rfl
  unfold Fit; omega
end Go.Proofs

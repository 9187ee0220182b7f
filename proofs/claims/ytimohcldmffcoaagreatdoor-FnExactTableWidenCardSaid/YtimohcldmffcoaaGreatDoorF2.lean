/- Contracts of the program's functions at this seat, printed by a program of ours and checked by Lean: each under the conditions of its own statement. -/
import Derived.Test.YtimohcldmffcoaaGreatDoorF1
set_option linter.all false
set_option linter.unnecessarySimpa false
set_option linter.unusedSectionVars false
set_option linter.unusedSimpArgs false
set_option linter.unusedVariables false
namespace Go.Proofs
open Go Go.Proofs Go.Ev

def u8c (x : Int) : List D := [.v (.int .u8 x)]
theorem u8c_e (x : Int) : (u8c x).map D.erase = u8c x := by simp [u8c, D.erase_v]
theorem u8c_o (x : Int) : ∀ d ∈ u8c x, Owned d := by simp [u8c, Owned.v]
def i3 : TI := ⟨.int .i64, 1, 8, [.int .i64 0]⟩
theorem t3 : TyOk Tryz.prog 3 i3 := ⟨Tryz.underlying3, by kernel_rfl⟩
theorem z3 : ZOk Tryz.prog 3 i3 := ⟨t3, rfl⟩
def i5 : TI := ⟨.int .u8, 1, 1, [.int .u8 0]⟩
theorem t5 : TyOk Tryz.prog 5 i5 := ⟨Tryz.underlying5, by kernel_rfl⟩
theorem z5 : ZOk Tryz.prog 5 i5 := ⟨t5, rfl⟩
def i177 : TI := ⟨.sl 5, 1, 24, [.slice none 0 0]⟩
theorem t177 : TyOk Tryz.prog 177 i177 := ⟨Tryz.underlying177, by kernel_rfl⟩
theorem z177 : ZOk Tryz.prog 177 i177 := ⟨t177, rfl⟩
theorem c_markText (k : Int) (hk : k < 4611686018427387904) : Trip Tryz.prog 111 [(false, 1)] ([.v (.int .i64 (k))]) [(false, 1)] [.v (.string (mText k))] [] := by
 refine Trip.of Tryz.func111 (by decide) (c := _) rfl rfl (shB_ok rfl) (Nat.le_of_ble_eq_true rfl) rfl (AftOk.nil _) ?_
 refine .seq ?_
 refine .reg (X := Unit) (fun ζ => .of [(0, .one (.d (.v (.int .i64 (k)))))] []) [⟨[], some 2, [], []⟩] (fun k1 => ?_) ?_
 ·skip
  refine .assign (.no rfl) rfl rfl rfl rfl ?_
  exact .fin () (.of (.cons rfl .nil) .nil)
 intro _
 refine .seq ?_
 refine .seq ?_
 refine .reg (X := Unit) (fun ζ => .of [(0, .one (.d (.v (.int .i64 (k))))), (5, .one (.d (.v (.bool (decide (k ≤ 0))))))] []) [⟨[0], some 4, [], []⟩, ⟨[4], some 5, [], []⟩] (fun k2 => ?_) ?_
 ·skip
  refine .move (.no rfl) rfl rfl rfl rfl ?_
  refine .bin (.no rfl) rfl rfl rfl rfl rfl rfl ?_
  exact .fin () (.of (.cons rfl (.cons rfl .nil)) .nil)
 intro _
 refine .cond (t := decide (k ≤ 0)) rfl (fun c0 => ?_) (fun c0 => ?_)
 ·have c0 := of_decide_eq_true c0
  refine .seq ?_
  refine .reg (X := Unit) (fun ζ => .of [(2, .one (.d (.v (.string ((⟨#[109, 48]⟩ : ByteArray))))))] []) [⟨[], some 2, [], []⟩] (fun k3 => ?_) ?_
  ·skip
   refine .assign (.no rfl) rfl rfl rfl rfl ?_
   exact .fin () (.of (.cons rfl .nil) .nil)
  intro _
  refine .ret ?_
  have e4 : ((⟨#[109, 48]⟩ : ByteArray)) = (mText k) := by (simp only [mText]; rw [if_pos c0])
  have hc5 := eq1 (fun z1 => SV.one (.d (.v (.string (z1))))) e4
  show _ ∧ _
  exact ⟨.inr rfl, .done ⟨_, [], [], _, .one (c := .d (.v (.string (mText k)))) (hc5) .nil, .cons (Reads.d _).gives .nil, nodupB_ok rfl, by simp, (by simp)⟩⟩
 ·have c0 := of_decide_eq_false c0
  refine .skip ?_
  refine .seq ?_
  refine .reg (X := Unit) (fun ζ => .of [(0, .one (.d (.v (.int .i64 (k))))), (3, .one (.d (.v (.string ((⟨#[]⟩ : ByteArray))))))] []) [⟨[], some 3, [], []⟩] (fun k6 => ?_) ?_
  ·skip
   refine .assign (.no rfl) rfl rfl rfl rfl ?_
   exact .fin () (.of (.cons rfl (.cons rfl .nil)) .nil)
  intro _
  refine .seq ?_
  refine .block ?_
  refine .loop (X := Int × ByteArray) (fun ζ => .of [(0, .one (.d (.v (.int .i64 (ζ.1))))), (3, .one (.d (.v (.string (ζ.2)))))] []) (fun ζ => 0 ≤ ζ.1 ∧ ζ.1 ≤ k ∧ txtGo ζ.1 ζ.2 = txtGo k (⟨#[]⟩ : ByteArray) ∧ (ζ.2.size : Int) + ζ.1 ≤ k) (fun ζ => ζ.1.toNat) ?_ ?_
  ·skip
   exact .here (k, (⟨#[]⟩ : ByteArray)) (.of (.cons rfl (.cons rfl .nil)) .nil) (show 0 ≤ k ∧ k ≤ k ∧ txtGo k (⟨#[]⟩ : ByteArray) = txtGo k (⟨#[]⟩ : ByteArray) ∧ ((⟨#[]⟩ : ByteArray).size : Int) + k ≤ k by exact ⟨by omega, by omega, rfl, by show ((0 : Nat) : Int) + k ≤ k; omega⟩)
  ·rintro ⟨v, u⟩ hI
   have hI : 0 ≤ v ∧ v ≤ k ∧ txtGo v u = txtGo k (⟨#[]⟩ : ByteArray) ∧ (u.size : Int) + v ≤ k := hI
   refine .seq ?_
   refine .seq ?_
   refine .reg (X := Unit) (fun ζ => .of [(0, .one (.d (.v (.int .i64 (v))))), (3, .one (.d (.v (.string (u))))), (7, .one (.d (.v (.bool (decide (v > 0))))))] []) [⟨[0], some 6, [], []⟩, ⟨[6], some 7, [], []⟩] (fun k7 => ?_) ?_
   ·skip
    refine .move (.no rfl) rfl rfl rfl rfl ?_
    refine .bin (.no rfl) rfl rfl rfl rfl rfl rfl ?_
    exact .fin () (.of (.cons rfl (.cons rfl (.cons rfl .nil))) .nil)
   intro _
   refine .cond (t := decide (v > 0)) rfl (fun c1 => ?_) (fun c1 => ?_)
   ·have c1 := of_decide_eq_true c1
    refine .skip ?_
    refine .block ?_
    refine .seq ?_
    refine .reg (X := Unit) (fun ζ => .of [(0, .one (.d (.v (.int .i64 (v))))), (3, .one (.d (.v (.string ((bytesOf [IntKind.wrap .u8 (IntKind.wrap .i64 (48 + (Int.tmod v 10)))]) ++ u)))))] []) [⟨[0], some 8, [], []⟩, ⟨[8], some 9, [], []⟩, ⟨[9], some 10, [], []⟩, ⟨[10], some 11, [], []⟩, ⟨[11], some 12, [], [[12]]⟩, ⟨[12], some 13, [[12]], []⟩, ⟨[3], some 14, [], []⟩, ⟨[13, 14], some 15, [], []⟩, ⟨[15], some 3, [], []⟩] (fun k8 => ?_) ?_
    ·skip
     refine .move (.no rfl) rfl rfl rfl rfl ?_
     refine .quoRem (.no rfl) rfl (.inr ⟨rfl, rfl⟩) rfl rfl rfl rfl rfl ?_
     refine .bin (.no rfl) rfl rfl rfl rfl rfl rfl ?_
     refine .conv (.no rfl) rfl t3 t5 rfl rfl rfl rfl rfl rfl ?_
     refine .buildSlice (.no rfl) rfl (els := [[.v (.int .u8 (IntKind.wrap .u8 (IntKind.wrap .i64 (48 + (Int.tmod v 10)))))]]) t177 rfl z5 rfl rfl rfl rfl rfl rfl rfl rfl (by simp [i5]) (.cons _ _ _ _ _ _ (.d _) .nil) rfl rfl rfl ?_
     refine .bytesStr (.no rfl) rfl (ns := [IntKind.wrap .u8 (IntKind.wrap .i64 (48 + (Int.tmod v 10)))]) t177 rfl t5 rfl t9 rfl rfl rfl (.ref _ _ _ _ _ rfl) rfl rfl ?_
     refine .move (.no rfl) rfl rfl rfl rfl ?_
     refine .addStr (.no rfl) rfl rfl rfl rfl (by (first | (rw [bytesOf1_size]; omega) | (have : (⟨#[109]⟩ : ByteArray).size = 1 := rfl; omega))) rfl ?_
     refine .assign (.no rfl) rfl rfl rfl rfl ?_
     exact .fin () (.of (.cons rfl (.cons rfl .nil)) .nil)
    intro _
    refine .reg (X := Unit) (fun ζ => .of [(0, .one (.d (.v (.int .i64 (IntKind.wrap .i64 (Int.tdiv v 10)))))), (3, .one (.d (.v (.string ((bytesOf [IntKind.wrap .u8 (IntKind.wrap .i64 (48 + (Int.tmod v 10)))]) ++ u)))))] []) [⟨[0], some 16, [], []⟩, ⟨[16], some 17, [], []⟩, ⟨[17], some 0, [], []⟩] (fun k9 => ?_) ?_
    ·skip
     refine .move (.no rfl) rfl rfl rfl rfl ?_
     refine .quoRem (.no rfl) rfl (.inl ⟨rfl, rfl⟩) rfl rfl rfl rfl rfl ?_
     refine .assign (.no rfl) rfl rfl rfl rfl ?_
     exact .fin () (.of (.cons rfl (.cons rfl .nil)) .nil)
    intro _
    exact .here ((Int.tdiv v 10), (bytesOf [digit v] ++ u)) (.of (.cons (svI (show (IntKind.wrap .i64 (Int.tdiv v 10)) = ((Int.tdiv v 10)) by first | rfl | exact wrap_le (by have := tdiv_lt c1; omega) (by have := tdiv_lt c1; omega))) (.cons (svS (show ((bytesOf [IntKind.wrap .u8 (IntKind.wrap .i64 (48 + (Int.tmod v 10)))]) ++ u) = ((bytesOf [digit v] ++ u)) by first | rfl | exact wrap_le (by have := tdiv_lt c1; omega) (by have := tdiv_lt c1; omega))) .nil)) .nil) ⟨(show 0 ≤ (Int.tdiv v 10) ∧ (Int.tdiv v 10) ≤ k ∧ txtGo (Int.tdiv v 10) (bytesOf [digit v] ++ u) = txtGo k (⟨#[]⟩ : ByteArray) ∧ ((bytesOf [digit v] ++ u).size : Int) + (Int.tdiv v 10) ≤ k by (have h9 := tdiv_lt c1; exact ⟨h9.1, by omega, (txtGo_step c1).trans hI.2.2.1, by rw [ByteArray.size_append, bytesOf1_size]; omega⟩)), (show (Int.tdiv v 10).toNat < v.toNat by (have h9 := tdiv_lt c1; omega))⟩
   ·have c1 := of_decide_eq_false c1
    refine .exit ?_
    refine .seq ?_
    refine .reg (X := Unit) (fun ζ => .of [(2, .one (.d (.v (.string ((⟨#[109]⟩ : ByteArray) ++ u)))))] []) [⟨[3], some 18, [], []⟩, ⟨[18], some 19, [], []⟩, ⟨[19], some 2, [], []⟩] (fun k10 => ?_) ?_
    ·skip
     refine .move (.no rfl) rfl rfl rfl rfl ?_
     refine .addStr (.no rfl) rfl rfl rfl rfl (by (first | (rw [bytesOf1_size]; omega) | (have : (⟨#[109]⟩ : ByteArray).size = 1 := rfl; omega))) rfl ?_
     refine .assign (.no rfl) rfl rfl rfl rfl ?_
     exact .fin () (.of (.cons rfl .nil) .nil)
    intro _
    refine .ret ?_
    have e11 : ((⟨#[109]⟩ : ByteArray) ++ u) = (mText k) := by (simp only [mText]; rw [if_neg c0, ← hI.2.2.1, txtGo_end c1])
    have hc12 := eq1 (fun z1 => SV.one (.d (.v (.string (z1))))) e11
    show _ ∧ _
    exact ⟨.inr rfl, .done ⟨_, [], [], _, .one (c := .d (.v (.string (mText k)))) (hc12) .nil, .cons (Reads.d _).gives .nil, nodupB_ok rfl, by simp, (by simp)⟩⟩
theorem c_markStringS (a : List ByteArray) (k : Int) (hk : 0 ≤ k ∧ k + 2 * (a.length : Int) < 4611686018427387904) : Trip Tryz.prog 70 [(false, 1), (false, 1)] ([.sl true 9 1 (List.map strc (a))] ++ [.v (.int .i64 (k))]) [(false, 1)] [.v (.int .i64 (k + (a.length : Int)))] [(0, .sl true 9 1 (List.map strc (mkAll (mStr k) a)))] := by
 refine Trip.of Tryz.func70 (by decide) (c := _) rfl rfl (shB_ok rfl) (Nat.le_of_ble_eq_true rfl) rfl (AftOk.sl rfl (AftOk.nil _)) ?_
 refine .seq ?_
 refine .reg (X := Unit) (fun ζ => .of [(0, .one (.ref [0, 0, 0] (0))), (1, .one (.d (.v (.int .i64 (k)))))] [([0, 0, 0], (0, 0, .row 9 1 (List.map strc (a))))]) [⟨[], some 4, [], []⟩] (fun k1 => ?_) ?_
 ·skip
  refine .assign (.no rfl) rfl rfl rfl rfl ?_
  exact .fin () (.of (.cons rfl (.cons rfl .nil)) (.cons rfl .nil))
 intro _
 refine .seq ?_
 refine .seq ?_
 refine .reg (X := Unit) (fun ζ => .of [(0, .one (.ref [0, 0, 0] (0))), (1, .one (.d (.v (.int .i64 (k))))), (5, .one (.d (.v (.int .i64 (0)))))] [([0, 0, 0], (0, 0, .row 9 1 (List.map strc (a))))]) [⟨[], some 5, [], []⟩] (fun k2 => ?_) ?_
 ·skip
  refine .assign (.no rfl) rfl rfl rfl rfl ?_
  exact .fin () (.of (.cons rfl (.cons rfl (.cons rfl .nil))) (.cons rfl .nil))
 intro _
 refine .block ?_
 refine .loop (X := Nat × Nat) (fun ζ => .of [(0, .one (.ref [0, 0, 0] (0))), (1, .one (.d (.v (.int .i64 (k + (ζ.1 : Int)))))), (5, .one (.d (.v (.int .i64 ((ζ.1 : Int))))))] [([0, 0, 0], (0, ζ.2, .row 9 1 (List.map strc (mkTo (mStr k) a ζ.1))))]) (fun ζ => ζ.1 ≤ a.length) (fun ζ => a.length - ζ.1) ?_ ?_
 ·skip
  exact .here (0, 0) (.of (.cons rfl (.cons (svI (show (k) = (k + (0 : Int)) by first | omega | exact wrap_le (by omega) (by omega) | (rw [wrap_le (by omega) (by omega)]; omega) | (rw [wrap_le (a := k + 2 * (j : Int) + 1) (by omega) (by omega), wrap_le (by omega) (by omega)]; omega))) (.cons (svI (show (0) = ((0 : Int)) by first | omega | exact wrap_le (by omega) (by omega) | (rw [wrap_le (by omega) (by omega)]; omega) | (rw [wrap_le (a := k + 2 * (j : Int) + 1) (by omega) (by omega), wrap_le (by omega) (by omega)]; omega))) .nil))) (.cons (rowE (show List.map strc (a) = List.map strc (mkTo (mStr k) a 0) by first | (rw [← mkTo_zero]) | (rw [mkTo_step (x := mText (k + j)) (mStr k) a (by omega) rfl]))) .nil)) (show 0 ≤ a.length by omega)
 ·rintro ⟨j, q3⟩ hI
  have hI : j ≤ a.length := hI
  have hL : (mkTo (mStr k) a j).length = a.length := mkTo_len _ _ _
  refine .seq ?_
  refine .seq ?_
  refine .reg (X := Unit) (fun ζ => .of [(0, .one (.ref [0, 0, 0] (0))), (1, .one (.d (.v (.int .i64 (k + (j : Int)))))), (5, .one (.d (.v (.int .i64 ((j : Int)))))), (9, .one (.d (.v (.bool (decide ((j : Int) < ((mkTo (mStr k) a j).length : Int)))))))] [([0, 0, 0], (0, q3, .row 9 1 (List.map strc (mkTo (mStr k) a j))))]) [⟨[5], some 6, [], []⟩, ⟨[0], some 7, [], []⟩, ⟨[7], some 8, [[0, 0, 0]], []⟩, ⟨[6, 8], some 9, [], []⟩] (fun k4 => ?_) ?_
  ·skip
   refine .move (.no rfl) rfl rfl rfl rfl ?_
   refine .move (.no rfl) rfl rfl rfl rfl ?_
   refine .len (.no rfl) rfl (z := ((mkTo (mStr k) a j).length : Int)) t22 rfl rfl rfl (.ref _ _ _ _ _ rfl) (map_len _ _) rfl ?_
   refine .bin (.no rfl) rfl rfl rfl rfl rfl rfl ?_
   exact .fin () (.of (.cons rfl (.cons rfl (.cons rfl (.cons rfl .nil)))) (.cons rfl .nil))
  intro _
  refine .cond (t := decide ((j : Int) < ((mkTo (mStr k) a j).length : Int))) rfl (fun c0 => ?_) (fun c0 => ?_)
  ·have c0 := of_decide_eq_true c0
   refine .skip ?_
   refine .seq ?_
   refine .block ?_
   refine .seq ?_
   refine .reg (X := Nat) (fun ζ => .of [(0, .one (.ref [0, 0, 0] (0))), (1, .one (.d (.v (.int .i64 (k + (j : Int)))))), (5, .one (.d (.v (.int .i64 ((j : Int))))))] [([0, 0, 0], (0, ζ, .row 9 1 (List.map strc ((mkTo (mStr k) a j).set j (mText (k + (j : Int)))))))]) [⟨[0], some 12, [], []⟩, ⟨[5], some 13, [], []⟩, ⟨[1], some 14, [], []⟩, ⟨[14], some 15, [], []⟩, ⟨[12, 13], some 16, [[0, 0, 0]], []⟩, ⟨[16, 15], none, [[0, 0, 0]], [[0, 0, 0]]⟩] (fun k5 => ?_) ?_
   ·skip
    refine .move (.no rfl) rfl rfl rfl rfl ?_
    refine .move (.no rfl) rfl rfl rfl rfl ?_
    refine .move (.no rfl) rfl rfl rfl rfl ?_
    refine .call (.no rfl) rfl [] [] (c_markText (k + (j : Int)) (by omega)) rfl rfl rfl rfl rfl (.cons (Reads.d _).gives .nil) rfl rfl (fun h => absurd rfl h) (.own [15, 0] .nil) (.nil) rfl rfl rfl (by simp) rfl rfl rfl ?_
    refine .indexAddr (.no rfl) rfl (j) t22 rfl t9 rfl rfl rfl (.ref _ _ _ _ _ rfl) rfl rfl rfl (map_get (by first | omega | (rw [List.length_set]; omega))) rfl rfl ?_
    refine .storeE (.no rfl) rfl (els' := List.map strc ((mkTo (mStr k) a j).set j (mText (k + (j : Int))))) t9 rfl rfl rfl rfl (map_get (by first | omega | (rw [List.length_set]; omega))) rfl rfl (.cons _ _ _ _ _ _ (.d _) .nil) rfl (Nat.le_of_ble_eq_true rfl) (set_map _ _ _ (mText (k + (j : Int))) _ rfl) rfl rfl ?_
    exact .fin (k5 + 1 + 1 + 1 + 1 + 1) (.of (.cons rfl (.cons rfl (.cons rfl .nil))) (.cons rfl .nil))
   intro g6
   refine .reg (X := Unit) (fun ζ => .of [(0, .one (.ref [0, 0, 0] (0))), (1, .one (.d (.v (.int .i64 (IntKind.wrap .i64 ((k + (j : Int)) + 1)))))), (5, .one (.d (.v (.int .i64 ((j : Int))))))] [([0, 0, 0], (0, g6, .row 9 1 (List.map strc ((mkTo (mStr k) a j).set j (mText (k + (j : Int)))))))]) [⟨[1], some 17, [], []⟩, ⟨[17], some 18, [], []⟩, ⟨[18], some 1, [], []⟩] (fun k7 => ?_) ?_
   ·skip
    refine .move (.no rfl) rfl rfl rfl rfl ?_
    refine .bin (.no rfl) rfl rfl rfl rfl rfl rfl ?_
    refine .assign (.no rfl) rfl rfl rfl rfl ?_
    exact .fin () (.of (.cons rfl (.cons rfl (.cons rfl .nil))) (.cons rfl .nil))
   intro _
   refine .reg (X := Unit) (fun ζ => .of [(0, .one (.ref [0, 0, 0] (0))), (1, .one (.d (.v (.int .i64 (IntKind.wrap .i64 ((k + (j : Int)) + 1)))))), (5, .one (.d (.v (.int .i64 (IntKind.wrap .i64 ((j : Int) + 1))))))] [([0, 0, 0], (0, g6, .row 9 1 (List.map strc ((mkTo (mStr k) a j).set j (mText (k + (j : Int)))))))]) [⟨[5], some 10, [], []⟩, ⟨[10], some 11, [], []⟩, ⟨[11], some 5, [], []⟩] (fun k8 => ?_) ?_
   ·skip
    refine .move (.no rfl) rfl rfl rfl rfl ?_
    refine .bin (.no rfl) rfl rfl rfl rfl rfl rfl ?_
    refine .assign (.no rfl) rfl rfl rfl rfl ?_
    exact .fin () (.of (.cons rfl (.cons rfl (.cons rfl .nil))) (.cons rfl .nil))
   intro _
   exact .here ((j + 1), g6) (.of (.cons rfl (.cons (svI (show (IntKind.wrap .i64 ((k + (j : Int)) + 1)) = (k + ((j + 1) : Int)) by first | omega | exact wrap_le (by omega) (by omega) | (rw [wrap_le (by omega) (by omega)]; omega) | (rw [wrap_le (a := k + 2 * (j : Int) + 1) (by omega) (by omega), wrap_le (by omega) (by omega)]; omega))) (.cons (svI (show (IntKind.wrap .i64 ((j : Int) + 1)) = (((j + 1) : Int)) by first | omega | exact wrap_le (by omega) (by omega) | (rw [wrap_le (by omega) (by omega)]; omega) | (rw [wrap_le (a := k + 2 * (j : Int) + 1) (by omega) (by omega), wrap_le (by omega) (by omega)]; omega))) .nil))) (.cons (rowE (show List.map strc ((mkTo (mStr k) a j).set j (mText (k + (j : Int)))) = List.map strc (mkTo (mStr k) a (j + 1)) by first | (rw [← mkTo_zero]) | (rw [mkTo_step (x := mText (k + j)) (mStr k) a (by omega) rfl]))) .nil)) ⟨(show (j + 1) ≤ a.length by omega), (show a.length - (j + 1) < a.length - j by omega)⟩
  ·have c0 := of_decide_eq_false c0
   refine .exit ?_
   refine .seq ?_
   refine .reg (X := Unit) (fun ζ => .of [(0, .one (.ref [0, 0, 0] (0))), (4, .one (.d (.v (.int .i64 (k + (j : Int))))))] [([0, 0, 0], (0, q3, .row 9 1 (List.map strc (mkTo (mStr k) a j))))]) [⟨[1], some 19, [], []⟩, ⟨[19], some 4, [], []⟩] (fun k9 => ?_) ?_
   ·skip
    refine .move (.no rfl) rfl rfl rfl rfl ?_
    refine .assign (.no rfl) rfl rfl rfl rfl ?_
    exact .fin () (.of (.cons rfl (.cons rfl .nil)) (.cons rfl .nil))
   intro _
   refine .ret ?_
   have e10 : (k + (j : Int)) = (k + (a.length : Int)) := by first | omega | exact mkTo_all _ _ hI (by omega)
   have hc11 := eq1 (fun z1 => SV.one (.d (.v (.int .i64 (z1))))) e10
   have e12 : (mkTo (mStr k) a j) = (mkAll (mStr k) a) := by first | omega | exact mkTo_all _ _ hI (by omega)
   show _ ∧ _
   exact ⟨.inr rfl, .done ⟨_, [], [([0, 0, 0], (0, q3, .row 9 1 (List.map strc (mkAll (mStr k) a))))], _, .one (c := .d (.v (.int .i64 (k + (a.length : Int))))) (hc11) .nil, .cons (Reads.d _).gives (.cons (.ref (.head _)) .nil), nodupB_ok rfl, by simp, (AllH.get (.cons (rowE (congrArg (List.map strc) e12)) .nil))⟩⟩
theorem c_markInt64S (a : List Int) (k : Int) (hk : 0 ≤ k ∧ k + 2 * (a.length : Int) < 4611686018427387904) : Trip Tryz.prog 29 [(false, 1), (false, 1)] ([.sl true 2 1 (List.map i64c (a))] ++ [.v (.int .i64 (k))]) [(false, 1)] [.v (.int .i64 (k + (a.length : Int)))] [(0, .sl true 2 1 (List.map i64c (mkAll (mInt k) a)))] := by
 refine Trip.of Tryz.func29 (by decide) (c := _) rfl rfl (shB_ok rfl) (Nat.le_of_ble_eq_true rfl) rfl (AftOk.sl rfl (AftOk.nil _)) ?_
 refine .seq ?_
 refine .reg (X := Unit) (fun ζ => .of [(0, .one (.ref [0, 0, 0] (0))), (1, .one (.d (.v (.int .i64 (k)))))] [([0, 0, 0], (0, 0, .row 2 1 (List.map i64c (a))))]) [⟨[], some 4, [], []⟩] (fun k1 => ?_) ?_
 ·skip
  refine .assign (.no rfl) rfl rfl rfl rfl ?_
  exact .fin () (.of (.cons rfl (.cons rfl .nil)) (.cons rfl .nil))
 intro _
 refine .seq ?_
 refine .seq ?_
 refine .reg (X := Unit) (fun ζ => .of [(0, .one (.ref [0, 0, 0] (0))), (1, .one (.d (.v (.int .i64 (k))))), (5, .one (.d (.v (.int .i64 (0)))))] [([0, 0, 0], (0, 0, .row 2 1 (List.map i64c (a))))]) [⟨[], some 5, [], []⟩] (fun k2 => ?_) ?_
 ·skip
  refine .assign (.no rfl) rfl rfl rfl rfl ?_
  exact .fin () (.of (.cons rfl (.cons rfl (.cons rfl .nil))) (.cons rfl .nil))
 intro _
 refine .block ?_
 refine .loop (X := Nat × Nat) (fun ζ => .of [(0, .one (.ref [0, 0, 0] (0))), (1, .one (.d (.v (.int .i64 (k + (ζ.1 : Int)))))), (5, .one (.d (.v (.int .i64 ((ζ.1 : Int))))))] [([0, 0, 0], (0, ζ.2, .row 2 1 (List.map i64c (mkTo (mInt k) a ζ.1))))]) (fun ζ => ζ.1 ≤ a.length) (fun ζ => a.length - ζ.1) ?_ ?_
 ·skip
  exact .here (0, 0) (.of (.cons rfl (.cons (svI (show (k) = (k + (0 : Int)) by first | omega | exact wrap_le (by omega) (by omega) | (rw [wrap_le (by omega) (by omega)]; omega) | (rw [wrap_le (a := k + 2 * (j : Int) + 1) (by omega) (by omega), wrap_le (by omega) (by omega)]; omega))) (.cons (svI (show (0) = ((0 : Int)) by first | omega | exact wrap_le (by omega) (by omega) | (rw [wrap_le (by omega) (by omega)]; omega) | (rw [wrap_le (a := k + 2 * (j : Int) + 1) (by omega) (by omega), wrap_le (by omega) (by omega)]; omega))) .nil))) (.cons (rowE (show List.map i64c (a) = List.map i64c (mkTo (mInt k) a 0) by first | (rw [← mkTo_zero]) | (rw [mkTo_step (x := k + j) (mInt k) a (by omega) rfl]))) .nil)) (show 0 ≤ a.length by omega)
 ·rintro ⟨j, q3⟩ hI
  have hI : j ≤ a.length := hI
  have hL : (mkTo (mInt k) a j).length = a.length := mkTo_len _ _ _
  refine .seq ?_
  refine .seq ?_
  refine .reg (X := Unit) (fun ζ => .of [(0, .one (.ref [0, 0, 0] (0))), (1, .one (.d (.v (.int .i64 (k + (j : Int)))))), (5, .one (.d (.v (.int .i64 ((j : Int)))))), (9, .one (.d (.v (.bool (decide ((j : Int) < ((mkTo (mInt k) a j).length : Int)))))))] [([0, 0, 0], (0, q3, .row 2 1 (List.map i64c (mkTo (mInt k) a j))))]) [⟨[5], some 6, [], []⟩, ⟨[0], some 7, [], []⟩, ⟨[7], some 8, [[0, 0, 0]], []⟩, ⟨[6, 8], some 9, [], []⟩] (fun k4 => ?_) ?_
  ·skip
   refine .move (.no rfl) rfl rfl rfl rfl ?_
   refine .move (.no rfl) rfl rfl rfl rfl ?_
   refine .len (.no rfl) rfl (z := ((mkTo (mInt k) a j).length : Int)) t27 rfl rfl rfl (.ref _ _ _ _ _ rfl) (map_len _ _) rfl ?_
   refine .bin (.no rfl) rfl rfl rfl rfl rfl rfl ?_
   exact .fin () (.of (.cons rfl (.cons rfl (.cons rfl (.cons rfl .nil)))) (.cons rfl .nil))
  intro _
  refine .cond (t := decide ((j : Int) < ((mkTo (mInt k) a j).length : Int))) rfl (fun c0 => ?_) (fun c0 => ?_)
  ·have c0 := of_decide_eq_true c0
   refine .skip ?_
   refine .seq ?_
   refine .block ?_
   refine .seq ?_
   refine .reg (X := Nat) (fun ζ => .of [(0, .one (.ref [0, 0, 0] (0))), (1, .one (.d (.v (.int .i64 (k + (j : Int)))))), (5, .one (.d (.v (.int .i64 ((j : Int))))))] [([0, 0, 0], (0, ζ, .row 2 1 (List.map i64c ((mkTo (mInt k) a j).set j (k + (j : Int))))))]) [⟨[0], some 12, [], []⟩, ⟨[5], some 13, [], []⟩, ⟨[1], some 14, [], []⟩, ⟨[12, 13], some 15, [[0, 0, 0]], []⟩, ⟨[15, 14], none, [[0, 0, 0]], [[0, 0, 0]]⟩] (fun k5 => ?_) ?_
   ·skip
    refine .move (.no rfl) rfl rfl rfl rfl ?_
    refine .move (.no rfl) rfl rfl rfl rfl ?_
    refine .move (.no rfl) rfl rfl rfl rfl ?_
    refine .indexAddr (.no rfl) rfl (j) t27 rfl t2 rfl rfl rfl (.ref _ _ _ _ _ rfl) rfl rfl rfl (map_get (by first | omega | (rw [List.length_set]; omega))) rfl rfl ?_
    refine .storeE (.no rfl) rfl (els' := List.map i64c ((mkTo (mInt k) a j).set j (k + (j : Int)))) t2 rfl rfl rfl rfl (map_get (by first | omega | (rw [List.length_set]; omega))) rfl rfl (.cons _ _ _ _ _ _ (.d _) .nil) rfl (Nat.le_of_ble_eq_true rfl) (set_map _ _ _ (k + (j : Int)) _ rfl) rfl rfl ?_
    exact .fin (k5 + 1 + 1 + 1 + 1) (.of (.cons rfl (.cons rfl (.cons rfl .nil))) (.cons rfl .nil))
   intro g6
   refine .reg (X := Unit) (fun ζ => .of [(0, .one (.ref [0, 0, 0] (0))), (1, .one (.d (.v (.int .i64 (IntKind.wrap .i64 ((k + (j : Int)) + 1)))))), (5, .one (.d (.v (.int .i64 ((j : Int))))))] [([0, 0, 0], (0, g6, .row 2 1 (List.map i64c ((mkTo (mInt k) a j).set j (k + (j : Int))))))]) [⟨[1], some 16, [], []⟩, ⟨[16], some 17, [], []⟩, ⟨[17], some 1, [], []⟩] (fun k7 => ?_) ?_
   ·skip
    refine .move (.no rfl) rfl rfl rfl rfl ?_
    refine .bin (.no rfl) rfl rfl rfl rfl rfl rfl ?_
    refine .assign (.no rfl) rfl rfl rfl rfl ?_
    exact .fin () (.of (.cons rfl (.cons rfl (.cons rfl .nil))) (.cons rfl .nil))
   intro _
   refine .reg (X := Unit) (fun ζ => .of [(0, .one (.ref [0, 0, 0] (0))), (1, .one (.d (.v (.int .i64 (IntKind.wrap .i64 ((k + (j : Int)) + 1)))))), (5, .one (.d (.v (.int .i64 (IntKind.wrap .i64 ((j : Int) + 1))))))] [([0, 0, 0], (0, g6, .row 2 1 (List.map i64c ((mkTo (mInt k) a j).set j (k + (j : Int))))))]) [⟨[5], some 10, [], []⟩, ⟨[10], some 11, [], []⟩, ⟨[11], some 5, [], []⟩] (fun k8 => ?_) ?_
   ·skip
    refine .move (.no rfl) rfl rfl rfl rfl ?_
    refine .bin (.no rfl) rfl rfl rfl rfl rfl rfl ?_
    refine .assign (.no rfl) rfl rfl rfl rfl ?_
    exact .fin () (.of (.cons rfl (.cons rfl (.cons rfl .nil))) (.cons rfl .nil))
   intro _
   exact .here ((j + 1), g6) (.of (.cons rfl (.cons (svI (show (IntKind.wrap .i64 ((k + (j : Int)) + 1)) = (k + ((j + 1) : Int)) by first | omega | exact wrap_le (by omega) (by omega) | (rw [wrap_le (by omega) (by omega)]; omega) | (rw [wrap_le (a := k + 2 * (j : Int) + 1) (by omega) (by omega), wrap_le (by omega) (by omega)]; omega))) (.cons (svI (show (IntKind.wrap .i64 ((j : Int) + 1)) = (((j + 1) : Int)) by first | omega | exact wrap_le (by omega) (by omega) | (rw [wrap_le (by omega) (by omega)]; omega) | (rw [wrap_le (a := k + 2 * (j : Int) + 1) (by omega) (by omega), wrap_le (by omega) (by omega)]; omega))) .nil))) (.cons (rowE (show List.map i64c ((mkTo (mInt k) a j).set j (k + (j : Int))) = List.map i64c (mkTo (mInt k) a (j + 1)) by first | (rw [← mkTo_zero]) | (rw [mkTo_step (x := k + j) (mInt k) a (by omega) rfl]))) .nil)) ⟨(show (j + 1) ≤ a.length by omega), (show a.length - (j + 1) < a.length - j by omega)⟩
  ·have c0 := of_decide_eq_false c0
   refine .exit ?_
   refine .seq ?_
   refine .reg (X := Unit) (fun ζ => .of [(0, .one (.ref [0, 0, 0] (0))), (4, .one (.d (.v (.int .i64 (k + (j : Int))))))] [([0, 0, 0], (0, q3, .row 2 1 (List.map i64c (mkTo (mInt k) a j))))]) [⟨[1], some 18, [], []⟩, ⟨[18], some 4, [], []⟩] (fun k9 => ?_) ?_
   ·skip
    refine .move (.no rfl) rfl rfl rfl rfl ?_
    refine .assign (.no rfl) rfl rfl rfl rfl ?_
    exact .fin () (.of (.cons rfl (.cons rfl .nil)) (.cons rfl .nil))
   intro _
   refine .ret ?_
   have e10 : (k + (j : Int)) = (k + (a.length : Int)) := by first | omega | exact mkTo_all _ _ hI (by omega)
   have hc11 := eq1 (fun z1 => SV.one (.d (.v (.int .i64 (z1))))) e10
   have e12 : (mkTo (mInt k) a j) = (mkAll (mInt k) a) := by first | omega | exact mkTo_all _ _ hI (by omega)
   show _ ∧ _
   exact ⟨.inr rfl, .done ⟨_, [], [([0, 0, 0], (0, q3, .row 2 1 (List.map i64c (mkAll (mInt k) a))))], _, .one (c := .d (.v (.int .i64 (k + (a.length : Int))))) (hc11) .nil, .cons (Reads.d _).gives (.cons (.ref (.head _)) .nil), nodupB_ok rfl, by simp, (AllH.get (.cons (rowE (congrArg (List.map i64c) e12)) .nil))⟩⟩
theorem c_markArrS (a : List Arr) (k : Int) (hk : 0 ≤ k ∧ k + 2 * (a.length : Int) < 4611686018427387904) : Trip Tryz.prog 71 [(false, 1), (false, 1)] ([.sl true 119 2 (List.map Arr.c (a))] ++ [.v (.int .i64 (k))]) [(false, 1)] [.v (.int .i64 (k + 2 * (a.length : Int)))] [(0, .sl true 119 2 (List.map Arr.c (mkAll (mArr k) a)))] := by
 refine Trip.of Tryz.func71 (by decide) (c := _) rfl rfl (shB_ok rfl) (Nat.le_of_ble_eq_true rfl) rfl (AftOk.sl rfl (AftOk.nil _)) ?_
 refine .seq ?_
 refine .reg (X := Unit) (fun ζ => .of [(0, .one (.ref [0, 0, 0] (0))), (1, .one (.d (.v (.int .i64 (k)))))] [([0, 0, 0], (0, 0, .row 119 2 (List.map Arr.c (a))))]) [⟨[], some 4, [], []⟩] (fun k1 => ?_) ?_
 ·skip
  refine .assign (.no rfl) rfl rfl rfl rfl ?_
  exact .fin () (.of (.cons rfl (.cons rfl .nil)) (.cons rfl .nil))
 intro _
 refine .seq ?_
 refine .seq ?_
 refine .reg (X := Unit) (fun ζ => .of [(0, .one (.ref [0, 0, 0] (0))), (1, .one (.d (.v (.int .i64 (k))))), (5, .one (.d (.v (.int .i64 (0)))))] [([0, 0, 0], (0, 0, .row 119 2 (List.map Arr.c (a))))]) [⟨[], some 5, [], []⟩] (fun k2 => ?_) ?_
 ·skip
  refine .assign (.no rfl) rfl rfl rfl rfl ?_
  exact .fin () (.of (.cons rfl (.cons rfl (.cons rfl .nil))) (.cons rfl .nil))
 intro _
 refine .block ?_
 refine .loop (X := Nat × Nat) (fun ζ => .of [(0, .one (.ref [0, 0, 0] (0))), (1, .one (.d (.v (.int .i64 (k + 2 * (ζ.1 : Int)))))), (5, .one (.d (.v (.int .i64 ((ζ.1 : Int))))))] [([0, 0, 0], (0, ζ.2, .row 119 2 (List.map Arr.c (mkTo (mArr k) a ζ.1))))]) (fun ζ => ζ.1 ≤ a.length) (fun ζ => a.length - ζ.1) ?_ ?_
 ·skip
  exact .here (0, 0) (.of (.cons rfl (.cons (svI (show (k) = (k + 2 * (0 : Int)) by first | omega | exact wrap_le (by omega) (by omega) | (rw [wrap_le (by omega) (by omega)]; omega) | (rw [wrap_le (a := k + 2 * (j : Int) + 1) (by omega) (by omega), wrap_le (by omega) (by omega)]; omega))) (.cons (svI (show (0) = ((0 : Int)) by first | omega | exact wrap_le (by omega) (by omega) | (rw [wrap_le (by omega) (by omega)]; omega) | (rw [wrap_le (a := k + 2 * (j : Int) + 1) (by omega) (by omega), wrap_le (by omega) (by omega)]; omega))) .nil))) (.cons (rowE (show List.map Arr.c (a) = List.map Arr.c (mkTo (mArr k) a 0) by first | (rw [← mkTo_zero]) | (rw [List.set_set, set_getD (by rw [mkTo_len]; omega), mkTo_step _ _ (by omega) (by simp only [mArr]; rw [wrap_le (a := k + 2 * (j : Int) + 1) (by omega) (by omega)])]))) .nil)) (show 0 ≤ a.length by omega)
 ·rintro ⟨j, q3⟩ hI
  have hI : j ≤ a.length := hI
  have hL : (mkTo (mArr k) a j).length = a.length := mkTo_len _ _ _
  refine .seq ?_
  refine .seq ?_
  refine .reg (X := Unit) (fun ζ => .of [(0, .one (.ref [0, 0, 0] (0))), (1, .one (.d (.v (.int .i64 (k + 2 * (j : Int)))))), (5, .one (.d (.v (.int .i64 ((j : Int)))))), (9, .one (.d (.v (.bool (decide ((j : Int) < ((mkTo (mArr k) a j).length : Int)))))))] [([0, 0, 0], (0, q3, .row 119 2 (List.map Arr.c (mkTo (mArr k) a j))))]) [⟨[5], some 6, [], []⟩, ⟨[0], some 7, [], []⟩, ⟨[7], some 8, [[0, 0, 0]], []⟩, ⟨[6, 8], some 9, [], []⟩] (fun k4 => ?_) ?_
  ·skip
   refine .move (.no rfl) rfl rfl rfl rfl ?_
   refine .move (.no rfl) rfl rfl rfl rfl ?_
   refine .len (.no rfl) rfl (z := ((mkTo (mArr k) a j).length : Int)) t36 rfl rfl rfl (.ref _ _ _ _ _ rfl) (map_len _ _) rfl ?_
   refine .bin (.no rfl) rfl rfl rfl rfl rfl rfl ?_
   exact .fin () (.of (.cons rfl (.cons rfl (.cons rfl (.cons rfl .nil)))) (.cons rfl .nil))
  intro _
  refine .cond (t := decide ((j : Int) < ((mkTo (mArr k) a j).length : Int))) rfl (fun c0 => ?_) (fun c0 => ?_)
  ·have c0 := of_decide_eq_true c0
   refine .skip ?_
   refine .seq ?_
   refine .block ?_
   refine .seq ?_
   refine .reg (X := Nat) (fun ζ => .of [(0, .one (.ref [0, 0, 0] (0))), (1, .one (.d (.v (.int .i64 (k + 2 * (j : Int)))))), (5, .one (.d (.v (.int .i64 ((j : Int))))))] [([0, 0, 0], (0, ζ, .row 119 2 (List.map Arr.c ((mkTo (mArr k) a j).set j (Arr.mk (mText (k + 2 * (j : Int))) (((mkTo (mArr k) a j).getD (j) default).size))))))]) [⟨[0], some 12, [], []⟩, ⟨[5], some 13, [], []⟩, ⟨[1], some 14, [], []⟩, ⟨[14], some 15, [], []⟩, ⟨[12, 13], some 16, [[0, 0, 0]], []⟩, ⟨[16], some 17, [], []⟩, ⟨[17, 15], none, [[0, 0, 0]], [[0, 0, 0]]⟩] (fun k5 => ?_) ?_
   ·skip
    refine .move (.no rfl) rfl rfl rfl rfl ?_
    refine .move (.no rfl) rfl rfl rfl rfl ?_
    refine .move (.no rfl) rfl rfl rfl rfl ?_
    refine .call (.no rfl) rfl [] [] (c_markText (k + 2 * (j : Int)) (by omega)) rfl rfl rfl rfl rfl (.cons (Reads.d _).gives .nil) rfl rfl (fun h => absurd rfl h) (.own [15, 0] .nil) (.nil) rfl rfl rfl (by simp) rfl rfl rfl ?_
    refine .indexAddr (.no rfl) rfl (j) t36 rfl t119 rfl rfl rfl (.ref _ _ _ _ _ rfl) rfl rfl rfl (map_get (by first | omega | (rw [List.length_set]; omega))) rfl rfl ?_
    refine .fieldAddr (.no rfl) rfl t119 rfl rfl t9 rfl rfl rfl rfl [] (by simp) (by intro _ _ _ h; cases h) rfl rfl ?_
    refine .storeE (.no rfl) rfl (els' := List.map Arr.c ((mkTo (mArr k) a j).set j (Arr.mk (mText (k + 2 * (j : Int))) (((mkTo (mArr k) a j).getD (j) default).size)))) t9 rfl rfl rfl rfl (map_get (by first | omega | (rw [List.length_set]; omega))) rfl rfl (.cons _ _ _ _ _ _ (.d _) .nil) rfl (Nat.le_of_ble_eq_true rfl) (set_map _ _ _ (Arr.mk (mText (k + 2 * (j : Int))) (((mkTo (mArr k) a j).getD (j) default).size)) _ rfl) rfl rfl ?_
    exact .fin (k5 + 1 + 1 + 1 + 1 + 1 + 1) (.of (.cons rfl (.cons rfl (.cons rfl .nil))) (.cons rfl .nil))
   intro g6
   refine .seq ?_
   refine .reg (X := Unit) (fun ζ => .of [(0, .one (.ref [0, 0, 0] (0))), (1, .one (.d (.v (.int .i64 (IntKind.wrap .i64 ((k + 2 * (j : Int)) + 1)))))), (5, .one (.d (.v (.int .i64 ((j : Int))))))] [([0, 0, 0], (0, g6, .row 119 2 (List.map Arr.c ((mkTo (mArr k) a j).set j (Arr.mk (mText (k + 2 * (j : Int))) (((mkTo (mArr k) a j).getD (j) default).size))))))]) [⟨[1], some 18, [], []⟩, ⟨[18], some 19, [], []⟩, ⟨[19], some 1, [], []⟩] (fun k7 => ?_) ?_
   ·skip
    refine .move (.no rfl) rfl rfl rfl rfl ?_
    refine .bin (.no rfl) rfl rfl rfl rfl rfl rfl ?_
    refine .assign (.no rfl) rfl rfl rfl rfl ?_
    exact .fin () (.of (.cons rfl (.cons rfl (.cons rfl .nil))) (.cons rfl .nil))
   intro _
   refine .seq ?_
   refine .reg (X := Nat) (fun ζ => .of [(0, .one (.ref [0, 0, 0] (0))), (1, .one (.d (.v (.int .i64 (IntKind.wrap .i64 ((k + 2 * (j : Int)) + 1)))))), (5, .one (.d (.v (.int .i64 ((j : Int))))))] [([0, 0, 0], (0, ζ, .row 119 2 (List.map Arr.c (((mkTo (mArr k) a j).set j (Arr.mk (mText (k + 2 * (j : Int))) (((mkTo (mArr k) a j).getD (j) default).size))).set j (Arr.mk ((((mkTo (mArr k) a j).set j (Arr.mk (mText (k + 2 * (j : Int))) (((mkTo (mArr k) a j).getD (j) default).size))).getD (j) default).name) (IntKind.wrap .i64 ((k + 2 * (j : Int)) + 1)))))))]) [⟨[0], some 20, [], []⟩, ⟨[5], some 21, [], []⟩, ⟨[1], some 22, [], []⟩, ⟨[20, 21], some 23, [[0, 0, 0]], []⟩, ⟨[23], some 24, [], []⟩, ⟨[24, 22], none, [[0, 0, 0]], [[0, 0, 0]]⟩] (fun k8 => ?_) ?_
   ·skip
    refine .move (.no rfl) rfl rfl rfl rfl ?_
    refine .move (.no rfl) rfl rfl rfl rfl ?_
    refine .move (.no rfl) rfl rfl rfl rfl ?_
    refine .indexAddr (.no rfl) rfl (j) t36 rfl t119 rfl rfl rfl (.ref _ _ _ _ _ rfl) rfl rfl rfl (map_get (by first | omega | (rw [List.length_set]; omega))) rfl rfl ?_
    refine .fieldAddr (.no rfl) rfl t119 rfl rfl t2 rfl rfl rfl rfl [] (by simp) (by intro _ _ _ h; cases h) rfl rfl ?_
    refine .storeE (.no rfl) rfl (els' := List.map Arr.c (((mkTo (mArr k) a j).set j (Arr.mk (mText (k + 2 * (j : Int))) (((mkTo (mArr k) a j).getD (j) default).size))).set j (Arr.mk ((((mkTo (mArr k) a j).set j (Arr.mk (mText (k + 2 * (j : Int))) (((mkTo (mArr k) a j).getD (j) default).size))).getD (j) default).name) (IntKind.wrap .i64 ((k + 2 * (j : Int)) + 1))))) t2 rfl rfl rfl rfl (map_get (by first | omega | (rw [List.length_set]; omega))) rfl rfl (.cons _ _ _ _ _ _ (.d _) .nil) rfl (Nat.le_of_ble_eq_true rfl) (set_map _ _ _ (Arr.mk ((((mkTo (mArr k) a j).set j (Arr.mk (mText (k + 2 * (j : Int))) (((mkTo (mArr k) a j).getD (j) default).size))).getD (j) default).name) (IntKind.wrap .i64 ((k + 2 * (j : Int)) + 1))) _ rfl) rfl rfl ?_
    exact .fin (k8 + 1 + 1 + 1 + 1 + 1) (.of (.cons rfl (.cons rfl (.cons rfl .nil))) (.cons rfl .nil))
   intro g9
   refine .reg (X := Unit) (fun ζ => .of [(0, .one (.ref [0, 0, 0] (0))), (1, .one (.d (.v (.int .i64 (IntKind.wrap .i64 ((IntKind.wrap .i64 ((k + 2 * (j : Int)) + 1)) + 1)))))), (5, .one (.d (.v (.int .i64 ((j : Int))))))] [([0, 0, 0], (0, g9, .row 119 2 (List.map Arr.c (((mkTo (mArr k) a j).set j (Arr.mk (mText (k + 2 * (j : Int))) (((mkTo (mArr k) a j).getD (j) default).size))).set j (Arr.mk ((((mkTo (mArr k) a j).set j (Arr.mk (mText (k + 2 * (j : Int))) (((mkTo (mArr k) a j).getD (j) default).size))).getD (j) default).name) (IntKind.wrap .i64 ((k + 2 * (j : Int)) + 1)))))))]) [⟨[1], some 25, [], []⟩, ⟨[25], some 26, [], []⟩, ⟨[26], some 1, [], []⟩] (fun k10 => ?_) ?_
   ·skip
    refine .move (.no rfl) rfl rfl rfl rfl ?_
    refine .bin (.no rfl) rfl rfl rfl rfl rfl rfl ?_
    refine .assign (.no rfl) rfl rfl rfl rfl ?_
    exact .fin () (.of (.cons rfl (.cons rfl (.cons rfl .nil))) (.cons rfl .nil))
   intro _
   refine .reg (X := Unit) (fun ζ => .of [(0, .one (.ref [0, 0, 0] (0))), (1, .one (.d (.v (.int .i64 (IntKind.wrap .i64 ((IntKind.wrap .i64 ((k + 2 * (j : Int)) + 1)) + 1)))))), (5, .one (.d (.v (.int .i64 (IntKind.wrap .i64 ((j : Int) + 1))))))] [([0, 0, 0], (0, g9, .row 119 2 (List.map Arr.c (((mkTo (mArr k) a j).set j (Arr.mk (mText (k + 2 * (j : Int))) (((mkTo (mArr k) a j).getD (j) default).size))).set j (Arr.mk ((((mkTo (mArr k) a j).set j (Arr.mk (mText (k + 2 * (j : Int))) (((mkTo (mArr k) a j).getD (j) default).size))).getD (j) default).name) (IntKind.wrap .i64 ((k + 2 * (j : Int)) + 1)))))))]) [⟨[5], some 10, [], []⟩, ⟨[10], some 11, [], []⟩, ⟨[11], some 5, [], []⟩] (fun k11 => ?_) ?_
   ·skip
    refine .move (.no rfl) rfl rfl rfl rfl ?_
    refine .bin (.no rfl) rfl rfl rfl rfl rfl rfl ?_
    refine .assign (.no rfl) rfl rfl rfl rfl ?_
    exact .fin () (.of (.cons rfl (.cons rfl (.cons rfl .nil))) (.cons rfl .nil))
   intro _
   exact .here ((j + 1), g9) (.of (.cons rfl (.cons (svI (show (IntKind.wrap .i64 ((IntKind.wrap .i64 ((k + 2 * (j : Int)) + 1)) + 1)) = (k + 2 * ((j + 1) : Int)) by first | omega | exact wrap_le (by omega) (by omega) | (rw [wrap_le (by omega) (by omega)]; omega) | (rw [wrap_le (a := k + 2 * (j : Int) + 1) (by omega) (by omega), wrap_le (by omega) (by omega)]; omega))) (.cons (svI (show (IntKind.wrap .i64 ((j : Int) + 1)) = (((j + 1) : Int)) by first | omega | exact wrap_le (by omega) (by omega) | (rw [wrap_le (by omega) (by omega)]; omega) | (rw [wrap_le (a := k + 2 * (j : Int) + 1) (by omega) (by omega), wrap_le (by omega) (by omega)]; omega))) .nil))) (.cons (rowE (show List.map Arr.c (((mkTo (mArr k) a j).set j (Arr.mk (mText (k + 2 * (j : Int))) (((mkTo (mArr k) a j).getD (j) default).size))).set j (Arr.mk ((((mkTo (mArr k) a j).set j (Arr.mk (mText (k + 2 * (j : Int))) (((mkTo (mArr k) a j).getD (j) default).size))).getD (j) default).name) (IntKind.wrap .i64 ((k + 2 * (j : Int)) + 1)))) = List.map Arr.c (mkTo (mArr k) a (j + 1)) by first | (rw [← mkTo_zero]) | (rw [List.set_set, set_getD (by rw [mkTo_len]; omega), mkTo_step _ _ (by omega) (by simp only [mArr]; rw [wrap_le (a := k + 2 * (j : Int) + 1) (by omega) (by omega)])]))) .nil)) ⟨(show (j + 1) ≤ a.length by omega), (show a.length - (j + 1) < a.length - j by omega)⟩
  ·have c0 := of_decide_eq_false c0
   refine .exit ?_
   refine .seq ?_
   refine .reg (X := Unit) (fun ζ => .of [(0, .one (.ref [0, 0, 0] (0))), (4, .one (.d (.v (.int .i64 (k + 2 * (j : Int))))))] [([0, 0, 0], (0, q3, .row 119 2 (List.map Arr.c (mkTo (mArr k) a j))))]) [⟨[1], some 27, [], []⟩, ⟨[27], some 4, [], []⟩] (fun k12 => ?_) ?_
   ·skip
    refine .move (.no rfl) rfl rfl rfl rfl ?_
    refine .assign (.no rfl) rfl rfl rfl rfl ?_
    exact .fin () (.of (.cons rfl (.cons rfl .nil)) (.cons rfl .nil))
   intro _
   refine .ret ?_
   have e13 : (k + 2 * (j : Int)) = (k + 2 * (a.length : Int)) := by first | omega | exact mkTo_all _ _ hI (by omega)
   have hc14 := eq1 (fun z1 => SV.one (.d (.v (.int .i64 (z1))))) e13
   have e15 : (mkTo (mArr k) a j) = (mkAll (mArr k) a) := by first | omega | exact mkTo_all _ _ hI (by omega)
   show _ ∧ _
   exact ⟨.inr rfl, .done ⟨_, [], [([0, 0, 0], (0, q3, .row 119 2 (List.map Arr.c (mkAll (mArr k) a))))], _, .one (c := .d (.v (.int .i64 (k + 2 * (a.length : Int))))) (hc14) .nil, .cons (Reads.d _).gives (.cons (.ref (.head _)) .nil), nodupB_ok rfl, by simp, (AllH.get (.cons (rowE (congrArg (List.map Arr.c) e15)) .nil))⟩⟩
theorem c_markIntervalS (a : List Iv) (k : Int) (hk : 0 ≤ k ∧ k + 2 * (a.length : Int) < 4611686018427387904) : Trip Tryz.prog 72 [(false, 1), (false, 1)] ([.sl true 122 2 (List.map Iv.c (a))] ++ [.v (.int .i64 (k))]) [(false, 1)] [.v (.int .i64 (k + 2 * (a.length : Int)))] [(0, .sl true 122 2 (List.map Iv.c (mkAll (mIv k) a)))] := by
 refine Trip.of Tryz.func72 (by decide) (c := _) rfl rfl (shB_ok rfl) (Nat.le_of_ble_eq_true rfl) rfl (AftOk.sl rfl (AftOk.nil _)) ?_
 refine .seq ?_
 refine .reg (X := Unit) (fun ζ => .of [(0, .one (.ref [0, 0, 0] (0))), (1, .one (.d (.v (.int .i64 (k)))))] [([0, 0, 0], (0, 0, .row 122 2 (List.map Iv.c (a))))]) [⟨[], some 4, [], []⟩] (fun k1 => ?_) ?_
 ·skip
  refine .assign (.no rfl) rfl rfl rfl rfl ?_
  exact .fin () (.of (.cons rfl (.cons rfl .nil)) (.cons rfl .nil))
 intro _
 refine .seq ?_
 refine .seq ?_
 refine .reg (X := Unit) (fun ζ => .of [(0, .one (.ref [0, 0, 0] (0))), (1, .one (.d (.v (.int .i64 (k))))), (5, .one (.d (.v (.int .i64 (0)))))] [([0, 0, 0], (0, 0, .row 122 2 (List.map Iv.c (a))))]) [⟨[], some 5, [], []⟩] (fun k2 => ?_) ?_
 ·skip
  refine .assign (.no rfl) rfl rfl rfl rfl ?_
  exact .fin () (.of (.cons rfl (.cons rfl (.cons rfl .nil))) (.cons rfl .nil))
 intro _
 refine .block ?_
 refine .loop (X := Nat × Nat) (fun ζ => .of [(0, .one (.ref [0, 0, 0] (0))), (1, .one (.d (.v (.int .i64 (k + 2 * (ζ.1 : Int)))))), (5, .one (.d (.v (.int .i64 ((ζ.1 : Int))))))] [([0, 0, 0], (0, ζ.2, .row 122 2 (List.map Iv.c (mkTo (mIv k) a ζ.1))))]) (fun ζ => ζ.1 ≤ a.length) (fun ζ => a.length - ζ.1) ?_ ?_
 ·skip
  exact .here (0, 0) (.of (.cons rfl (.cons (svI (show (k) = (k + 2 * (0 : Int)) by first | omega | exact wrap_le (by omega) (by omega) | (rw [wrap_le (by omega) (by omega)]; omega) | (rw [wrap_le (a := k + 2 * (j : Int) + 1) (by omega) (by omega), wrap_le (by omega) (by omega)]; omega))) (.cons (svI (show (0) = ((0 : Int)) by first | omega | exact wrap_le (by omega) (by omega) | (rw [wrap_le (by omega) (by omega)]; omega) | (rw [wrap_le (a := k + 2 * (j : Int) + 1) (by omega) (by omega), wrap_le (by omega) (by omega)]; omega))) .nil))) (.cons (rowE (show List.map Iv.c (a) = List.map Iv.c (mkTo (mIv k) a 0) by first | (rw [← mkTo_zero]) | (rw [List.set_set, set_getD (by rw [mkTo_len]; omega), mkTo_step _ _ (by omega) (by simp only [mIv]; rw [wrap_le (a := k + 2 * (j : Int) + 1) (by omega) (by omega)])]))) .nil)) (show 0 ≤ a.length by omega)
 ·rintro ⟨j, q3⟩ hI
  have hI : j ≤ a.length := hI
  have hL : (mkTo (mIv k) a j).length = a.length := mkTo_len _ _ _
  refine .seq ?_
  refine .seq ?_
  refine .reg (X := Unit) (fun ζ => .of [(0, .one (.ref [0, 0, 0] (0))), (1, .one (.d (.v (.int .i64 (k + 2 * (j : Int)))))), (5, .one (.d (.v (.int .i64 ((j : Int)))))), (9, .one (.d (.v (.bool (decide ((j : Int) < ((mkTo (mIv k) a j).length : Int)))))))] [([0, 0, 0], (0, q3, .row 122 2 (List.map Iv.c (mkTo (mIv k) a j))))]) [⟨[5], some 6, [], []⟩, ⟨[0], some 7, [], []⟩, ⟨[7], some 8, [[0, 0, 0]], []⟩, ⟨[6, 8], some 9, [], []⟩] (fun k4 => ?_) ?_
  ·skip
   refine .move (.no rfl) rfl rfl rfl rfl ?_
   refine .move (.no rfl) rfl rfl rfl rfl ?_
   refine .len (.no rfl) rfl (z := ((mkTo (mIv k) a j).length : Int)) t75 rfl rfl rfl (.ref _ _ _ _ _ rfl) (map_len _ _) rfl ?_
   refine .bin (.no rfl) rfl rfl rfl rfl rfl rfl ?_
   exact .fin () (.of (.cons rfl (.cons rfl (.cons rfl (.cons rfl .nil)))) (.cons rfl .nil))
  intro _
  refine .cond (t := decide ((j : Int) < ((mkTo (mIv k) a j).length : Int))) rfl (fun c0 => ?_) (fun c0 => ?_)
  ·have c0 := of_decide_eq_true c0
   refine .skip ?_
   refine .seq ?_
   refine .block ?_
   refine .seq ?_
   refine .reg (X := Nat) (fun ζ => .of [(0, .one (.ref [0, 0, 0] (0))), (1, .one (.d (.v (.int .i64 (k + 2 * (j : Int)))))), (5, .one (.d (.v (.int .i64 ((j : Int))))))] [([0, 0, 0], (0, ζ, .row 122 2 (List.map Iv.c ((mkTo (mIv k) a j).set j (Iv.mk (k + 2 * (j : Int)) (((mkTo (mIv k) a j).getD (j) default).hi))))))]) [⟨[0], some 12, [], []⟩, ⟨[5], some 13, [], []⟩, ⟨[1], some 14, [], []⟩, ⟨[12, 13], some 15, [[0, 0, 0]], []⟩, ⟨[15], some 16, [], []⟩, ⟨[16, 14], none, [[0, 0, 0]], [[0, 0, 0]]⟩] (fun k5 => ?_) ?_
   ·skip
    refine .move (.no rfl) rfl rfl rfl rfl ?_
    refine .move (.no rfl) rfl rfl rfl rfl ?_
    refine .move (.no rfl) rfl rfl rfl rfl ?_
    refine .indexAddr (.no rfl) rfl (j) t75 rfl t122 rfl rfl rfl (.ref _ _ _ _ _ rfl) rfl rfl rfl (map_get (by first | omega | (rw [List.length_set]; omega))) rfl rfl ?_
    refine .fieldAddr (.no rfl) rfl t122 rfl rfl t2 rfl rfl rfl rfl [] (by simp) (by intro _ _ _ h; cases h) rfl rfl ?_
    refine .storeE (.no rfl) rfl (els' := List.map Iv.c ((mkTo (mIv k) a j).set j (Iv.mk (k + 2 * (j : Int)) (((mkTo (mIv k) a j).getD (j) default).hi)))) t2 rfl rfl rfl rfl (map_get (by first | omega | (rw [List.length_set]; omega))) rfl rfl (.cons _ _ _ _ _ _ (.d _) .nil) rfl (Nat.le_of_ble_eq_true rfl) (set_map _ _ _ (Iv.mk (k + 2 * (j : Int)) (((mkTo (mIv k) a j).getD (j) default).hi)) _ rfl) rfl rfl ?_
    exact .fin (k5 + 1 + 1 + 1 + 1 + 1) (.of (.cons rfl (.cons rfl (.cons rfl .nil))) (.cons rfl .nil))
   intro g6
   refine .seq ?_
   refine .reg (X := Unit) (fun ζ => .of [(0, .one (.ref [0, 0, 0] (0))), (1, .one (.d (.v (.int .i64 (IntKind.wrap .i64 ((k + 2 * (j : Int)) + 1)))))), (5, .one (.d (.v (.int .i64 ((j : Int))))))] [([0, 0, 0], (0, g6, .row 122 2 (List.map Iv.c ((mkTo (mIv k) a j).set j (Iv.mk (k + 2 * (j : Int)) (((mkTo (mIv k) a j).getD (j) default).hi))))))]) [⟨[1], some 17, [], []⟩, ⟨[17], some 18, [], []⟩, ⟨[18], some 1, [], []⟩] (fun k7 => ?_) ?_
   ·skip
    refine .move (.no rfl) rfl rfl rfl rfl ?_
    refine .bin (.no rfl) rfl rfl rfl rfl rfl rfl ?_
    refine .assign (.no rfl) rfl rfl rfl rfl ?_
    exact .fin () (.of (.cons rfl (.cons rfl (.cons rfl .nil))) (.cons rfl .nil))
   intro _
   refine .seq ?_
   refine .reg (X := Nat) (fun ζ => .of [(0, .one (.ref [0, 0, 0] (0))), (1, .one (.d (.v (.int .i64 (IntKind.wrap .i64 ((k + 2 * (j : Int)) + 1)))))), (5, .one (.d (.v (.int .i64 ((j : Int))))))] [([0, 0, 0], (0, ζ, .row 122 2 (List.map Iv.c (((mkTo (mIv k) a j).set j (Iv.mk (k + 2 * (j : Int)) (((mkTo (mIv k) a j).getD (j) default).hi))).set j (Iv.mk ((((mkTo (mIv k) a j).set j (Iv.mk (k + 2 * (j : Int)) (((mkTo (mIv k) a j).getD (j) default).hi))).getD (j) default).lo) (IntKind.wrap .i64 ((k + 2 * (j : Int)) + 1)))))))]) [⟨[0], some 19, [], []⟩, ⟨[5], some 20, [], []⟩, ⟨[1], some 21, [], []⟩, ⟨[19, 20], some 22, [[0, 0, 0]], []⟩, ⟨[22], some 23, [], []⟩, ⟨[23, 21], none, [[0, 0, 0]], [[0, 0, 0]]⟩] (fun k8 => ?_) ?_
   ·skip
    refine .move (.no rfl) rfl rfl rfl rfl ?_
    refine .move (.no rfl) rfl rfl rfl rfl ?_
    refine .move (.no rfl) rfl rfl rfl rfl ?_
    refine .indexAddr (.no rfl) rfl (j) t75 rfl t122 rfl rfl rfl (.ref _ _ _ _ _ rfl) rfl rfl rfl (map_get (by first | omega | (rw [List.length_set]; omega))) rfl rfl ?_
    refine .fieldAddr (.no rfl) rfl t122 rfl rfl t2 rfl rfl rfl rfl [] (by simp) (by intro _ _ _ h; cases h) rfl rfl ?_
    refine .storeE (.no rfl) rfl (els' := List.map Iv.c (((mkTo (mIv k) a j).set j (Iv.mk (k + 2 * (j : Int)) (((mkTo (mIv k) a j).getD (j) default).hi))).set j (Iv.mk ((((mkTo (mIv k) a j).set j (Iv.mk (k + 2 * (j : Int)) (((mkTo (mIv k) a j).getD (j) default).hi))).getD (j) default).lo) (IntKind.wrap .i64 ((k + 2 * (j : Int)) + 1))))) t2 rfl rfl rfl rfl (map_get (by first | omega | (rw [List.length_set]; omega))) rfl rfl (.cons _ _ _ _ _ _ (.d _) .nil) rfl (Nat.le_of_ble_eq_true rfl) (set_map _ _ _ (Iv.mk ((((mkTo (mIv k) a j).set j (Iv.mk (k + 2 * (j : Int)) (((mkTo (mIv k) a j).getD (j) default).hi))).getD (j) default).lo) (IntKind.wrap .i64 ((k + 2 * (j : Int)) + 1))) _ rfl) rfl rfl ?_
    exact .fin (k8 + 1 + 1 + 1 + 1 + 1) (.of (.cons rfl (.cons rfl (.cons rfl .nil))) (.cons rfl .nil))
   intro g9
   refine .reg (X := Unit) (fun ζ => .of [(0, .one (.ref [0, 0, 0] (0))), (1, .one (.d (.v (.int .i64 (IntKind.wrap .i64 ((IntKind.wrap .i64 ((k + 2 * (j : Int)) + 1)) + 1)))))), (5, .one (.d (.v (.int .i64 ((j : Int))))))] [([0, 0, 0], (0, g9, .row 122 2 (List.map Iv.c (((mkTo (mIv k) a j).set j (Iv.mk (k + 2 * (j : Int)) (((mkTo (mIv k) a j).getD (j) default).hi))).set j (Iv.mk ((((mkTo (mIv k) a j).set j (Iv.mk (k + 2 * (j : Int)) (((mkTo (mIv k) a j).getD (j) default).hi))).getD (j) default).lo) (IntKind.wrap .i64 ((k + 2 * (j : Int)) + 1)))))))]) [⟨[1], some 24, [], []⟩, ⟨[24], some 25, [], []⟩, ⟨[25], some 1, [], []⟩] (fun k10 => ?_) ?_
   ·skip
    refine .move (.no rfl) rfl rfl rfl rfl ?_
    refine .bin (.no rfl) rfl rfl rfl rfl rfl rfl ?_
    refine .assign (.no rfl) rfl rfl rfl rfl ?_
    exact .fin () (.of (.cons rfl (.cons rfl (.cons rfl .nil))) (.cons rfl .nil))
   intro _
   refine .reg (X := Unit) (fun ζ => .of [(0, .one (.ref [0, 0, 0] (0))), (1, .one (.d (.v (.int .i64 (IntKind.wrap .i64 ((IntKind.wrap .i64 ((k + 2 * (j : Int)) + 1)) + 1)))))), (5, .one (.d (.v (.int .i64 (IntKind.wrap .i64 ((j : Int) + 1))))))] [([0, 0, 0], (0, g9, .row 122 2 (List.map Iv.c (((mkTo (mIv k) a j).set j (Iv.mk (k + 2 * (j : Int)) (((mkTo (mIv k) a j).getD (j) default).hi))).set j (Iv.mk ((((mkTo (mIv k) a j).set j (Iv.mk (k + 2 * (j : Int)) (((mkTo (mIv k) a j).getD (j) default).hi))).getD (j) default).lo) (IntKind.wrap .i64 ((k + 2 * (j : Int)) + 1)))))))]) [⟨[5], some 10, [], []⟩, ⟨[10], some 11, [], []⟩, ⟨[11], some 5, [], []⟩] (fun k11 => ?_) ?_
   ·skip
    refine .move (.no rfl) rfl rfl rfl rfl ?_
    refine .bin (.no rfl) rfl rfl rfl rfl rfl rfl ?_
    refine .assign (.no rfl) rfl rfl rfl rfl ?_
    exact .fin () (.of (.cons rfl (.cons rfl (.cons rfl .nil))) (.cons rfl .nil))
   intro _
   exact .here ((j + 1), g9) (.of (.cons rfl (.cons (svI (show (IntKind.wrap .i64 ((IntKind.wrap .i64 ((k + 2 * (j : Int)) + 1)) + 1)) = (k + 2 * ((j + 1) : Int)) by first | omega | exact wrap_le (by omega) (by omega) | (rw [wrap_le (by omega) (by omega)]; omega) | (rw [wrap_le (a := k + 2 * (j : Int) + 1) (by omega) (by omega), wrap_le (by omega) (by omega)]; omega))) (.cons (svI (show (IntKind.wrap .i64 ((j : Int) + 1)) = (((j + 1) : Int)) by first | omega | exact wrap_le (by omega) (by omega) | (rw [wrap_le (by omega) (by omega)]; omega) | (rw [wrap_le (a := k + 2 * (j : Int) + 1) (by omega) (by omega), wrap_le (by omega) (by omega)]; omega))) .nil))) (.cons (rowE (show List.map Iv.c (((mkTo (mIv k) a j).set j (Iv.mk (k + 2 * (j : Int)) (((mkTo (mIv k) a j).getD (j) default).hi))).set j (Iv.mk ((((mkTo (mIv k) a j).set j (Iv.mk (k + 2 * (j : Int)) (((mkTo (mIv k) a j).getD (j) default).hi))).getD (j) default).lo) (IntKind.wrap .i64 ((k + 2 * (j : Int)) + 1)))) = List.map Iv.c (mkTo (mIv k) a (j + 1)) by first | (rw [← mkTo_zero]) | (rw [List.set_set, set_getD (by rw [mkTo_len]; omega), mkTo_step _ _ (by omega) (by simp only [mIv]; rw [wrap_le (a := k + 2 * (j : Int) + 1) (by omega) (by omega)])]))) .nil)) ⟨(show (j + 1) ≤ a.length by omega), (show a.length - (j + 1) < a.length - j by omega)⟩
  ·have c0 := of_decide_eq_false c0
   refine .exit ?_
   refine .seq ?_
   refine .reg (X := Unit) (fun ζ => .of [(0, .one (.ref [0, 0, 0] (0))), (4, .one (.d (.v (.int .i64 (k + 2 * (j : Int))))))] [([0, 0, 0], (0, q3, .row 122 2 (List.map Iv.c (mkTo (mIv k) a j))))]) [⟨[1], some 26, [], []⟩, ⟨[26], some 4, [], []⟩] (fun k12 => ?_) ?_
   ·skip
    refine .move (.no rfl) rfl rfl rfl rfl ?_
    refine .assign (.no rfl) rfl rfl rfl rfl ?_
    exact .fin () (.of (.cons rfl (.cons rfl .nil)) (.cons rfl .nil))
   intro _
   refine .ret ?_
   have e13 : (k + 2 * (j : Int)) = (k + 2 * (a.length : Int)) := by first | omega | exact mkTo_all _ _ hI (by omega)
   have hc14 := eq1 (fun z1 => SV.one (.d (.v (.int .i64 (z1))))) e13
   have e15 : (mkTo (mIv k) a j) = (mkAll (mIv k) a) := by first | omega | exact mkTo_all _ _ hI (by omega)
   show _ ∧ _
   exact ⟨.inr rfl, .done ⟨_, [], [([0, 0, 0], (0, q3, .row 122 2 (List.map Iv.c (mkAll (mIv k) a))))], _, .one (c := .d (.v (.int .i64 (k + 2 * (a.length : Int))))) (hc14) .nil, .cons (Reads.d _).gives (.cons (.ref (.head _)) .nil), nodupB_ok rfl, by simp, (AllH.get (.cons (rowE (congrArg (List.map Iv.c) e15)) .nil))⟩⟩
theorem c_markDecl (a : Decl) (k : Int) (hk : 0 ≤ k ∧ k ≤ 1073741824) (hl : a.vars.length ≤ 1048576 ∧ a.flags.length ≤ 1048576 ∧ a.arrays.length ≤ 1048576) : Trip Tryz.prog 27 [(true, 3), (false, 1)] ([.sl true 9 1 (List.map strc (a.vars)), .sl true 9 1 (List.map strc (a.flags)), .sl true 119 2 (List.map Arr.c (a.arrays))] ++ [.v (.int .i64 (k))]) [(false, 1)] [.v (.int .i64 (Decl.marks k a))] [(0, .sl true 9 1 (List.map strc ((Decl.mark k a).vars))), (1, .sl true 9 1 (List.map strc ((Decl.mark k a).flags))), (2, .sl true 119 2 (List.map Arr.c ((Decl.mark k a).arrays)))] := by
 refine Trip.of Tryz.func27 (by decide) (c := _) rfl rfl (shB_ok rfl) (Nat.le_of_ble_eq_true rfl) rfl (AftOk.sl rfl (AftOk.sl rfl (AftOk.sl rfl (AftOk.nil _)))) ?_
 refine .seq ?_
 refine .reg (X := Nat) (fun ζ => .of [(0, .agg [.ref [0, 0, 0] (0), .ref [1, 0, 0] (0), .ref [2, 0, 0] (0)]), (1, .one (.d (.v (.int .i64 (k))))), (2, .one (.ptr [2] (ζ) 0))] [([0, 0, 0], (0, 0, .row 9 1 (List.map strc (a.vars)))), ([1, 0, 0], (0, 0, .row 9 1 (List.map strc (a.flags)))), ([2], (ζ, ζ, .box [.ref [0, 0, 0] (0), .ref [1, 0, 0] (0), .ref [2, 0, 0] (0)])), ([2, 0, 0], (0, 0, .row 119 2 (List.map Arr.c (a.arrays))))]) [⟨[0], some 2, [], [[2]]⟩, ⟨[], some 4, [], []⟩] (fun k1 => ?_) ?_
 ·skip
  refine .box (.no rfl) rfl rfl rfl rfl rfl ?_
  refine .assign (.no rfl) rfl rfl rfl rfl ?_
  exact .fin k1 (.of (.cons rfl (.cons rfl (.cons rfl .nil))) (.cons rfl (.cons rfl (.cons rfl (.cons rfl .nil)))))
 intro g2
 refine .seq ?_
 refine .reg (X := Nat) (fun ζ => .of [(0, .agg [.ref [0, 0, 0] (0), .ref [1, 0, 0] (0), .ref [2, 0, 0] (0)]), (1, .one (.d (.v (.int .i64 (k + (a.vars.length : Int)))))), (2, .one (.ptr [2] (g2) 0))] [([0, 0, 0], (0, ζ, .row 9 1 (List.map strc (mkAll (mStr k) a.vars)))), ([1, 0, 0], (0, 0, .row 9 1 (List.map strc (a.flags)))), ([2], (g2, g2, .box [.ref [0, 0, 0] (0), .ref [1, 0, 0] (0), .ref [2, 0, 0] (0)])), ([2, 0, 0], (0, 0, .row 119 2 (List.map Arr.c (a.arrays))))]) [⟨[2], some 5, [], []⟩, ⟨[5], some 6, [[2]], []⟩, ⟨[1], some 7, [], []⟩, ⟨[6, 7], some 8, [[0, 0, 0]], [[0, 0, 0], [0, 0, 0]]⟩, ⟨[8], some 1, [], []⟩] (fun k3 => ?_) ?_
 ·skip
  refine .fieldAddrP (.no rfl) rfl t38 rfl rfl t22 rfl rfl rfl rfl ?_
  refine .load (.no rfl) rfl t22 rfl rfl (.ptr _ _ _ _ _ rfl) rfl rfl rfl rfl ?_
  refine .move (.no rfl) rfl rfl rfl rfl ?_
  refine .call (.no rfl) rfl [] [([0, 0, 0], (0, 0, .row 9 1 (List.map strc (a.vars))))] (c_markStringS a.vars k (by omega)) rfl rfl rfl rfl rfl (.cons (.ref (.head _)) (.cons (Reads.d _).gives .nil)) rfl rfl (fun h => absurd rfl h) (.own [8, 0] .nil) (.ref rfl (.head _) (by simp) .nil) rfl rfl rfl (AllH.get (.cons rfl .nil)) rfl rfl rfl ?_
  refine .assign (.no rfl) rfl rfl rfl rfl ?_
  exact .fin (k3 + 1 + 1 + 1) (.of (.cons rfl (.cons rfl (.cons rfl .nil))) (.cons rfl (.cons rfl (.cons rfl (.cons rfl .nil)))))
 intro g4
 refine .seq ?_
 refine .reg (X := Nat) (fun ζ => .of [(0, .agg [.ref [0, 0, 0] (0), .ref [1, 0, 0] (0), .ref [2, 0, 0] (0)]), (1, .one (.d (.v (.int .i64 ((k + (a.vars.length : Int)) + (a.flags.length : Int)))))), (2, .one (.ptr [2] (g2) 0))] [([0, 0, 0], (0, g4, .row 9 1 (List.map strc (mkAll (mStr k) a.vars)))), ([1, 0, 0], (0, ζ, .row 9 1 (List.map strc (mkAll (mStr (k + (a.vars.length : Int))) a.flags)))), ([2], (g2, g2, .box [.ref [0, 0, 0] (0), .ref [1, 0, 0] (0), .ref [2, 0, 0] (0)])), ([2, 0, 0], (0, 0, .row 119 2 (List.map Arr.c (a.arrays))))]) [⟨[2], some 9, [], []⟩, ⟨[9], some 10, [[2]], []⟩, ⟨[1], some 11, [], []⟩, ⟨[10, 11], some 12, [[1, 0, 0]], [[1, 0, 0], [1, 0, 0]]⟩, ⟨[12], some 1, [], []⟩] (fun k5 => ?_) ?_
 ·skip
  refine .fieldAddrP (.no rfl) rfl t38 rfl rfl t22 rfl rfl rfl rfl ?_
  refine .load (.no rfl) rfl t22 rfl rfl (.ptr _ _ _ _ _ rfl) rfl rfl rfl rfl ?_
  refine .move (.no rfl) rfl rfl rfl rfl ?_
  refine .call (.no rfl) rfl [] [([1, 0, 0], (0, 0, .row 9 1 (List.map strc (a.flags))))] (c_markStringS a.flags (k + (a.vars.length : Int)) (by omega)) rfl rfl rfl rfl rfl (.cons (.ref (.head _)) (.cons (Reads.d _).gives .nil)) rfl rfl (fun h => absurd rfl h) (.own [12, 0] .nil) (.ref rfl (.head _) (by simp) .nil) rfl rfl rfl (AllH.get (.cons rfl .nil)) rfl rfl rfl ?_
  refine .assign (.no rfl) rfl rfl rfl rfl ?_
  exact .fin (k5 + 1 + 1 + 1) (.of (.cons rfl (.cons rfl (.cons rfl .nil))) (.cons rfl (.cons rfl (.cons rfl (.cons rfl .nil)))))
 intro g6
 refine .seq ?_
 refine .reg (X := Nat) (fun ζ => .of [(0, .agg [.ref [0, 0, 0] (0), .ref [1, 0, 0] (0), .ref [2, 0, 0] (0)]), (1, .one (.d (.v (.int .i64 (((k + (a.vars.length : Int)) + (a.flags.length : Int)) + 2 * (a.arrays.length : Int))))))] [([0, 0, 0], (0, g4, .row 9 1 (List.map strc (mkAll (mStr k) a.vars)))), ([1, 0, 0], (0, g6, .row 9 1 (List.map strc (mkAll (mStr (k + (a.vars.length : Int))) a.flags)))), ([2, 0, 0], (0, ζ, .row 119 2 (List.map Arr.c (mkAll (mArr ((k + (a.vars.length : Int)) + (a.flags.length : Int))) a.arrays))))]) [⟨[2], some 13, [], []⟩, ⟨[13], some 14, [[2]], []⟩, ⟨[1], some 15, [], []⟩, ⟨[14, 15], some 16, [[2, 0, 0]], [[2, 0, 0], [2, 0, 0]]⟩, ⟨[16], some 1, [], []⟩] (fun k7 => ?_) ?_
 ·skip
  refine .fieldAddrP (.no rfl) rfl t38 rfl rfl t36 rfl rfl rfl rfl ?_
  refine .load (.no rfl) rfl t36 rfl rfl (.ptr _ _ _ _ _ rfl) rfl rfl rfl rfl ?_
  refine .move (.no rfl) rfl rfl rfl rfl ?_
  refine .call (.no rfl) rfl [] [([2, 0, 0], (0, 0, .row 119 2 (List.map Arr.c (a.arrays))))] (c_markArrS a.arrays ((k + (a.vars.length : Int)) + (a.flags.length : Int)) (by omega)) rfl rfl rfl rfl rfl (.cons (.ref (.head _)) (.cons (Reads.d _).gives .nil)) rfl rfl (fun h => absurd rfl h) (.own [16, 0] .nil) (.ref rfl (.head _) (by simp) .nil) rfl rfl rfl (AllH.get (.cons rfl .nil)) rfl rfl rfl ?_
  refine .assign (.no rfl) rfl rfl rfl rfl ?_
  exact .fin (k7 + 1 + 1 + 1) (.of (.cons rfl (.cons rfl .nil)) (.cons rfl (.cons rfl (.cons rfl .nil))))
 intro g8
 refine .seq ?_
 refine .reg (X := Unit) (fun ζ => .of [(0, .agg [.ref [0, 0, 0] (0), .ref [1, 0, 0] (0), .ref [2, 0, 0] (0)]), (4, .one (.d (.v (.int .i64 (((k + (a.vars.length : Int)) + (a.flags.length : Int)) + 2 * (a.arrays.length : Int))))))] [([0, 0, 0], (0, g4, .row 9 1 (List.map strc (mkAll (mStr k) a.vars)))), ([1, 0, 0], (0, g6, .row 9 1 (List.map strc (mkAll (mStr (k + (a.vars.length : Int))) a.flags)))), ([2, 0, 0], (0, g8, .row 119 2 (List.map Arr.c (mkAll (mArr ((k + (a.vars.length : Int)) + (a.flags.length : Int))) a.arrays))))]) [⟨[1], some 17, [], []⟩, ⟨[17], some 4, [], []⟩] (fun k9 => ?_) ?_
 ·skip
  refine .move (.no rfl) rfl rfl rfl rfl ?_
  refine .assign (.no rfl) rfl rfl rfl rfl ?_
  exact .fin () (.of (.cons rfl (.cons rfl .nil)) (.cons rfl (.cons rfl (.cons rfl .nil))))
 intro _
 refine .ret ?_
 have e10 : (((k + (a.vars.length : Int)) + (a.flags.length : Int)) + 2 * (a.arrays.length : Int)) = (Decl.marks k a) := by rfl
 have hc11 := eq1 (fun z1 => SV.one (.d (.v (.int .i64 (z1))))) e10
 have e12 : (mkAll (mStr k) a.vars) = ((Decl.mark k a).vars) := by rfl
 have e13 : (mkAll (mStr (k + (a.vars.length : Int))) a.flags) = ((Decl.mark k a).flags) := by rfl
 have e14 : (mkAll (mArr ((k + (a.vars.length : Int)) + (a.flags.length : Int))) a.arrays) = ((Decl.mark k a).arrays) := by rfl
 show _ ∧ _
 exact ⟨.inr rfl, .done ⟨_, [], [([0, 0, 0], (0, g4, .row 9 1 (List.map strc ((Decl.mark k a).vars)))), ([1, 0, 0], (0, g6, .row 9 1 (List.map strc ((Decl.mark k a).flags)))), ([2, 0, 0], (0, g8, .row 119 2 (List.map Arr.c ((Decl.mark k a).arrays))))], _, .one (c := .d (.v (.int .i64 (Decl.marks k a)))) (hc11) .nil, .cons (Reads.d _).gives (.cons (.ref (.head _)) (.cons (.ref (.tail _ (.head _))) (.cons (.ref (.tail _ (.tail _ (.head _)))) .nil))), nodupB_ok rfl, by simp, (AllH.get (.cons (rowE (congrArg (List.map strc) e12)) (.cons (rowE (congrArg (List.map strc) e13)) (.cons (rowE (congrArg (List.map Arr.c) e14)) .nil))))⟩⟩
theorem c_heldIntervalS (a : List Iv) (k : Int) (hk : 0 ≤ k ∧ k + 2 * (a.length : Int) < 4611686018427387904) (hm : ∀ i, i < a.length → a.getD i default = mIv k i default) : Trip Tryz.prog 73 [(false, 1), (false, 1)] ([.sl false 122 2 (List.map Iv.c (a))] ++ [.v (.int .i64 (k))]) [(false, 1)] [.v (.int .i64 (k + 2 * (a.length : Int)))] [] := by
 refine Trip.of Tryz.func73 (by decide) (c := _) rfl rfl (shB_ok rfl) (Nat.le_of_ble_eq_true rfl) rfl (AftOk.nil _) ?_
 refine .sat (t := 0) rfl (fun hs1 => ?_)
 have hs1l : a.length ≤ 9223372036854775807 := hs1.maplen
 refine .seq ?_
 refine .reg (X := Unit) (fun ζ => .of [(0, .one (.d (.sl false 122 2 (List.map Iv.c (a))))), (1, .one (.d (.v (.int .i64 (k)))))] []) [⟨[], some 4, [], []⟩] (fun k2 => ?_) ?_
 ·skip
  refine .assign (.no rfl) rfl rfl rfl rfl ?_
  exact .fin () (.of (.cons rfl (.cons rfl .nil)) .nil)
 intro _
 refine .seq ?_
 refine .seq ?_
 refine .reg (X := Unit) (fun ζ => .of [(0, .one (.d (.sl false 122 2 (List.map Iv.c (a))))), (1, .one (.d (.v (.int .i64 (k))))), (5, .one (.d (.v (.int .i64 (0)))))] []) [⟨[], some 5, [], []⟩] (fun k3 => ?_) ?_
 ·skip
  refine .assign (.no rfl) rfl rfl rfl rfl ?_
  exact .fin () (.of (.cons rfl (.cons rfl (.cons rfl .nil))) .nil)
 intro _
 refine .block ?_
 refine .loop (X := Nat) (fun ζ => .of [(0, .one (.d (.sl false 122 2 (List.map Iv.c (a))))), (1, .one (.d (.v (.int .i64 (k + 2 * (ζ : Int)))))), (5, .one (.d (.v (.int .i64 ((ζ : Int))))))] []) (fun ζ => ζ ≤ a.length) (fun ζ => a.length - ζ) ?_ ?_
 ·skip
  exact .here 0 (.of (.cons rfl (.cons (svI (show (k) = (k + 2 * (0 : Int)) by first | omega | exact wrap_le (by omega) (by omega) | (rw [wrap_le (by omega) (by omega)]; omega) | (rw [wrap_le (a := k + 2 * (j : Int) + 1) (by omega) (by omega), wrap_le (by omega) (by omega)]; omega))) (.cons (svI (show (0) = ((0 : Int)) by first | omega | exact wrap_le (by omega) (by omega) | (rw [wrap_le (by omega) (by omega)]; omega) | (rw [wrap_le (a := k + 2 * (j : Int) + 1) (by omega) (by omega), wrap_le (by omega) (by omega)]; omega))) .nil))) .nil) (show 0 ≤ a.length by omega)
 ·rintro j hI
  have hI : j ≤ a.length := hI
  refine .seq ?_
  refine .seq ?_
  refine .reg (X := Unit) (fun ζ => .of [(0, .one (.d (.sl false 122 2 (List.map Iv.c (a))))), (1, .one (.d (.v (.int .i64 (k + 2 * (j : Int)))))), (5, .one (.d (.v (.int .i64 ((j : Int)))))), (9, .one (.d (.v (.bool (decide ((j : Int) < (a.length : Int)))))))] []) [⟨[5], some 6, [], []⟩, ⟨[0], some 7, [], []⟩, ⟨[7], some 8, [], []⟩, ⟨[6, 8], some 9, [], []⟩] (fun k4 => ?_) ?_
  ·skip
   refine .move (.no rfl) rfl rfl rfl rfl ?_
   refine .move (.no rfl) rfl rfl rfl rfl ?_
   refine .len (.no rfl) rfl (z := (a.length : Int)) t75 rfl rfl rfl (.d _ _) (map_len _ _) rfl ?_
   refine .bin (.no rfl) rfl rfl rfl rfl rfl rfl ?_
   exact .fin () (.of (.cons rfl (.cons rfl (.cons rfl (.cons rfl .nil)))) .nil)
  intro _
  refine .cond (t := decide ((j : Int) < (a.length : Int))) rfl (fun c0 => ?_) (fun c0 => ?_)
  ·have c0 := of_decide_eq_true c0
   refine .skip ?_
   refine .seq ?_
   refine .block ?_
   refine .seq ?_
   refine .seq ?_
   refine .reg (X := Unit) (fun ζ => .of [(0, .one (.d (.sl false 122 2 (List.map Iv.c (a))))), (1, .one (.d (.v (.int .i64 (k + 2 * (j : Int)))))), (5, .one (.d (.v (.int .i64 ((j : Int)))))), (18, .one (.d (.v (.bool (((a.getD j default).lo) != (k + 2 * (j : Int)))))))] []) [⟨[0], some 12, [], []⟩, ⟨[5], some 13, [], []⟩, ⟨[12, 13], some 14, [], []⟩, ⟨[14], some 15, [], []⟩, ⟨[15], some 16, [], []⟩, ⟨[1], some 17, [], []⟩, ⟨[16, 17], some 18, [], []⟩] (fun k5 => ?_) ?_
   ·skip
    refine .move (.no rfl) rfl rfl rfl rfl ?_
    refine .move (.no rfl) rfl rfl rfl rfl ?_
    refine .indexAddr (.no rfl) rfl (j) t75 rfl t122 rfl rfl rfl (.d _ _) rfl rfl rfl (map_get (by omega)) rfl rfl ?_
    refine .fieldAddr (.no rfl) rfl t122 rfl rfl t2 rfl rfl rfl rfl [] (by simp) (by intro _ _ _ h; cases h) rfl rfl ?_
    refine .load (.no rfl) rfl t2 rfl rfl (.d _) rfl rfl rfl rfl ?_
    refine .move (.no rfl) rfl rfl rfl rfl ?_
    refine .bin (.no rfl) rfl rfl rfl rfl rfl rfl ?_
    exact .fin () (.of (.cons rfl (.cons rfl (.cons rfl (.cons rfl .nil)))) .nil)
   intro _
   refine .cond (t := ((a.getD j default).lo) != (k + 2 * (j : Int))) rfl (fun c1 => ?_) (fun c1 => ?_)
   ·have c1 := (by simpa using c1 : ¬ (((a.getD j default).lo) = (k + 2 * (j : Int))))
    refine .seq ?_
    refine .reg (X := Unit) (fun ζ => .of [(4, .one (.d (.v (.int .i64 (-1)))))] []) [⟨[], some 4, [], []⟩] (fun k6 => ?_) ?_
    ·skip
     refine .assign (.no rfl) rfl rfl rfl rfl ?_
     exact .fin () (.of (.cons rfl .nil) .nil)
    intro _
    refine .ret ?_
    have e7 : (-1) = (k + 2 * (a.length : Int)) := by (have h9 := hm j (by omega); rw [h9] at c1; simp [mIv] at c1)
    have hc8 := eq1 (fun z1 => SV.one (.d (.v (.int .i64 (z1))))) e7
    show _ ∧ _
    exact ⟨.inr rfl, .done ⟨_, [], [], _, .one (c := .d (.v (.int .i64 (k + 2 * (a.length : Int))))) (hc8) .nil, .cons (Reads.d _).gives .nil, nodupB_ok rfl, by simp, (by simp)⟩⟩
   ·have c1 := (by simpa using c1 : ((a.getD j default).lo) = (k + 2 * (j : Int)))
    refine .skip ?_
    refine .seq ?_
    refine .reg (X := Unit) (fun ζ => .of [(0, .one (.d (.sl false 122 2 (List.map Iv.c (a))))), (1, .one (.d (.v (.int .i64 (IntKind.wrap .i64 ((k + 2 * (j : Int)) + 1)))))), (5, .one (.d (.v (.int .i64 ((j : Int))))))] []) [⟨[1], some 19, [], []⟩, ⟨[19], some 20, [], []⟩, ⟨[20], some 1, [], []⟩] (fun k9 => ?_) ?_
    ·skip
     refine .move (.no rfl) rfl rfl rfl rfl ?_
     refine .bin (.no rfl) rfl rfl rfl rfl rfl rfl ?_
     refine .assign (.no rfl) rfl rfl rfl rfl ?_
     exact .fin () (.of (.cons rfl (.cons rfl (.cons rfl .nil))) .nil)
    intro _
    refine .seq ?_
    refine .seq ?_
    refine .reg (X := Unit) (fun ζ => .of [(0, .one (.d (.sl false 122 2 (List.map Iv.c (a))))), (1, .one (.d (.v (.int .i64 (IntKind.wrap .i64 ((k + 2 * (j : Int)) + 1)))))), (5, .one (.d (.v (.int .i64 ((j : Int)))))), (27, .one (.d (.v (.bool (((a.getD j default).hi) != (IntKind.wrap .i64 ((k + 2 * (j : Int)) + 1)))))))] []) [⟨[0], some 21, [], []⟩, ⟨[5], some 22, [], []⟩, ⟨[21, 22], some 23, [], []⟩, ⟨[23], some 24, [], []⟩, ⟨[24], some 25, [], []⟩, ⟨[1], some 26, [], []⟩, ⟨[25, 26], some 27, [], []⟩] (fun k10 => ?_) ?_
    ·skip
     refine .move (.no rfl) rfl rfl rfl rfl ?_
     refine .move (.no rfl) rfl rfl rfl rfl ?_
     refine .indexAddr (.no rfl) rfl (j) t75 rfl t122 rfl rfl rfl (.d _ _) rfl rfl rfl (map_get (by omega)) rfl rfl ?_
     refine .fieldAddr (.no rfl) rfl t122 rfl rfl t2 rfl rfl rfl rfl [] (by simp) (by intro _ _ _ h; cases h) rfl rfl ?_
     refine .load (.no rfl) rfl t2 rfl rfl (.d _) rfl rfl rfl rfl ?_
     refine .move (.no rfl) rfl rfl rfl rfl ?_
     refine .bin (.no rfl) rfl rfl rfl rfl rfl rfl ?_
     exact .fin () (.of (.cons rfl (.cons rfl (.cons rfl (.cons rfl .nil)))) .nil)
    intro _
    refine .cond (t := ((a.getD j default).hi) != (IntKind.wrap .i64 ((k + 2 * (j : Int)) + 1))) rfl (fun c2 => ?_) (fun c2 => ?_)
    ·have c2 := (by simpa using c2 : ¬ (((a.getD j default).hi) = (IntKind.wrap .i64 ((k + 2 * (j : Int)) + 1))))
     refine .seq ?_
     refine .reg (X := Unit) (fun ζ => .of [(4, .one (.d (.v (.int .i64 (-1)))))] []) [⟨[], some 4, [], []⟩] (fun k11 => ?_) ?_
     ·skip
      refine .assign (.no rfl) rfl rfl rfl rfl ?_
      exact .fin () (.of (.cons rfl .nil) .nil)
     intro _
     refine .ret ?_
     have e12 : (-1) = (k + 2 * (a.length : Int)) := by (have h9 := hm j (by omega); rw [wrap_le (by omega) (by omega)] at c2; rw [h9] at c2; simp [mIv] at c2)
     have hc13 := eq1 (fun z1 => SV.one (.d (.v (.int .i64 (z1))))) e12
     show _ ∧ _
     exact ⟨.inr rfl, .done ⟨_, [], [], _, .one (c := .d (.v (.int .i64 (k + 2 * (a.length : Int))))) (hc13) .nil, .cons (Reads.d _).gives .nil, nodupB_ok rfl, by simp, (by simp)⟩⟩
    ·have c2 := (by simpa using c2 : ((a.getD j default).hi) = (IntKind.wrap .i64 ((k + 2 * (j : Int)) + 1)))
     refine .skip ?_
     refine .reg (X := Unit) (fun ζ => .of [(0, .one (.d (.sl false 122 2 (List.map Iv.c (a))))), (1, .one (.d (.v (.int .i64 (IntKind.wrap .i64 ((IntKind.wrap .i64 ((k + 2 * (j : Int)) + 1)) + 1)))))), (5, .one (.d (.v (.int .i64 ((j : Int))))))] []) [⟨[1], some 28, [], []⟩, ⟨[28], some 29, [], []⟩, ⟨[29], some 1, [], []⟩] (fun k14 => ?_) ?_
     ·skip
      refine .move (.no rfl) rfl rfl rfl rfl ?_
      refine .bin (.no rfl) rfl rfl rfl rfl rfl rfl ?_
      refine .assign (.no rfl) rfl rfl rfl rfl ?_
      exact .fin () (.of (.cons rfl (.cons rfl (.cons rfl .nil))) .nil)
     intro _
     refine .reg (X := Unit) (fun ζ => .of [(0, .one (.d (.sl false 122 2 (List.map Iv.c (a))))), (1, .one (.d (.v (.int .i64 (IntKind.wrap .i64 ((IntKind.wrap .i64 ((k + 2 * (j : Int)) + 1)) + 1)))))), (5, .one (.d (.v (.int .i64 (IntKind.wrap .i64 ((j : Int) + 1))))))] []) [⟨[5], some 10, [], []⟩, ⟨[10], some 11, [], []⟩, ⟨[11], some 5, [], []⟩] (fun k15 => ?_) ?_
     ·skip
      refine .move (.no rfl) rfl rfl rfl rfl ?_
      refine .bin (.no rfl) rfl rfl rfl rfl rfl rfl ?_
      refine .assign (.no rfl) rfl rfl rfl rfl ?_
      exact .fin () (.of (.cons rfl (.cons rfl (.cons rfl .nil))) .nil)
     intro _
     exact .here (j + 1) (.of (.cons rfl (.cons (svI (show (IntKind.wrap .i64 ((IntKind.wrap .i64 ((k + 2 * (j : Int)) + 1)) + 1)) = (k + 2 * ((j + 1) : Int)) by first | omega | exact wrap_le (by omega) (by omega) | (rw [wrap_le (by omega) (by omega)]; omega) | (rw [wrap_le (a := k + 2 * (j : Int) + 1) (by omega) (by omega), wrap_le (by omega) (by omega)]; omega))) (.cons (svI (show (IntKind.wrap .i64 ((j : Int) + 1)) = (((j + 1) : Int)) by first | omega | exact wrap_le (by omega) (by omega) | (rw [wrap_le (by omega) (by omega)]; omega) | (rw [wrap_le (a := k + 2 * (j : Int) + 1) (by omega) (by omega), wrap_le (by omega) (by omega)]; omega))) .nil))) .nil) ⟨(show (j + 1) ≤ a.length by omega), (show a.length - (j + 1) < a.length - j by omega)⟩
  ·have c0 := of_decide_eq_false c0
   refine .exit ?_
   refine .seq ?_
   refine .reg (X := Unit) (fun ζ => .of [(4, .one (.d (.v (.int .i64 (k + 2 * (j : Int))))))] []) [⟨[1], some 30, [], []⟩, ⟨[30], some 4, [], []⟩] (fun k16 => ?_) ?_
   ·skip
    refine .move (.no rfl) rfl rfl rfl rfl ?_
    refine .assign (.no rfl) rfl rfl rfl rfl ?_
    exact .fin () (.of (.cons rfl .nil) .nil)
   intro _
   refine .ret ?_
   have e17 : (k + 2 * (j : Int)) = (k + 2 * (a.length : Int)) := by omega
   have hc18 := eq1 (fun z1 => SV.one (.d (.v (.int .i64 (z1))))) e17
   show _ ∧ _
   exact ⟨.inr rfl, .done ⟨_, [], [], _, .one (c := .d (.v (.int .i64 (k + 2 * (a.length : Int))))) (hc18) .nil, .cons (Reads.d _).gives .nil, nodupB_ok rfl, by simp, (by simp)⟩⟩
end Go.Proofs

namespace Go.Proofs
open Go Go.Proofs Go.Ev

theorem c_l1In (n : Int) (lo : Int) (hi : Int) : Trip Tryz.prog 93 [(false, 1), (false, 1), (false, 1)] ([.v (.int .i64 (n))] ++ [.v (.int .i64 (lo))] ++ [.v (.int .i64 (hi))]) [(false, 1)] [.v (.bool (inR n lo hi))] [] := by
 refine Trip.of Tryz.func93 (by decide) (c := _) rfl rfl (shB_ok rfl) (Nat.le_of_ble_eq_true rfl) rfl (AftOk.nil _) ?_
 refine .seq ?_
 refine .reg (X := Unit) (fun ζ => .of [(0, .one (.d (.v (.int .i64 (n))))), (1, .one (.d (.v (.int .i64 (lo))))), (2, .one (.d (.v (.int .i64 (hi)))))] []) [⟨[], some 6, [], []⟩] (fun k1 => ?_) ?_
 ·skip
  refine .assign (.no rfl) rfl rfl rfl rfl ?_
  exact .fin () (.of (.cons rfl (.cons rfl (.cons rfl .nil))) .nil)
 intro _
 refine .seq ?_
 refine .reg (X := Unit) (fun ζ => .of [(6, .one (.d (.v (.bool ((decide (n ≥ lo) && decide (n ≤ hi)))))))] []) [⟨[0], some 7, [], []⟩, ⟨[1], some 8, [], []⟩, ⟨[7, 8], some 9, [], []⟩, ⟨[9], some 10, [], []⟩, ⟨[10, 0], some 11, [], []⟩, ⟨[10, 2], some 12, [], []⟩, ⟨[10, 11, 12], some 13, [], []⟩, ⟨[10, 13], some 14, [], []⟩, ⟨[14], some 6, [], []⟩] (fun k2 => ?_) ?_
 ·skip
  refine .move (.no rfl) rfl rfl rfl rfl ?_
  refine .move (.no rfl) rfl rfl rfl rfl ?_
  refine .bin (.no rfl) rfl rfl rfl rfl rfl rfl ?_
  refine .moveB (.no rfl) rfl rfl rfl rfl fun b3 g1_3 => ?_
  cases b3
  ·skip
   refine .off rfl rfl rfl rfl rfl rfl rfl ?_
   refine .off rfl rfl rfl rfl rfl rfl rfl ?_
   refine .off rfl rfl rfl rfl rfl rfl rfl ?_
   refine .pick (.no rfl) rfl rfl rfl rfl rfl ?_
   refine .assign (.no rfl) rfl rfl rfl rfl ?_
   exact .fin () (.of (.cons (svB (show (false) = ((decide (n ≥ lo) && decide (n ≤ hi))) by first | (simp only [g1_3, Bool.true_or, Bool.false_or, Bool.true_and, Bool.false_and, Bool.not_true, Bool.not_false]; done) | simp [g1_3])) .nil) .nil)
  ·skip
   refine .move (.on rfl rfl rfl rfl rfl) rfl rfl rfl rfl ?_
   refine .move (.on rfl rfl rfl rfl rfl) rfl rfl rfl rfl ?_
   refine .bin (.on rfl rfl rfl rfl rfl) rfl rfl rfl rfl rfl rfl ?_
   refine .pick (.no rfl) rfl rfl rfl rfl rfl ?_
   refine .assign (.no rfl) rfl rfl rfl rfl ?_
   exact .fin () (.of (.cons (svB (show (decide (n ≤ hi)) = ((decide (n ≥ lo) && decide (n ≤ hi))) by first | (simp only [g1_3, Bool.true_or, Bool.false_or, Bool.true_and, Bool.false_and, Bool.not_true, Bool.not_false]; done) | simp [g1_3])) .nil) .nil)
 intro _
 refine .ret ?_
 have e4 : ((decide (n ≥ lo) && decide (n ≤ hi))) = (inR n lo hi) := by (first | rfl | simp_all [inR])
 have hc5 := eq1 (fun z1 => SV.one (.d (.v (.bool (z1))))) e4
 show _ ∧ _
 exact ⟨.inr rfl, .done ⟨_, [], [], _, .one (c := .d (.v (.bool (inR n lo hi)))) (hc5) .nil, .cons (Reads.d _).gives .nil, nodupB_ok rfl, by simp, (by simp)⟩⟩
theorem c_sIvOk (a : Iv) : Trip Tryz.prog 117 [(true, 2)] (Iv.c a) [(false, 1)] [.v (.bool (Iv.ok a))] [] := by
 refine Trip.of Tryz.func117 (by decide) (c := _) rfl rfl (shB_ok rfl) (Nat.le_of_ble_eq_true rfl) rfl (AftOk.nil _) ?_
 refine .seq ?_
 refine .reg (X := Nat) (fun ζ => .of [(1, .one (.ptr [1] (ζ) 0))] [([1], (ζ, ζ, .box [.d (.v (.int .i64 (a.lo))), .d (.v (.int .i64 (a.hi)))]))]) [⟨[0], some 1, [], [[1]]⟩, ⟨[], some 2, [], []⟩] (fun k1 => ?_) ?_
 ·skip
  refine .box (.no rfl) rfl rfl rfl rfl rfl ?_
  refine .assign (.no rfl) rfl rfl rfl rfl ?_
  exact .fin k1 (.of (.cons rfl .nil) (.cons rfl .nil))
 intro g2
 refine .seq ?_
 refine .reg (X := Unit) (fun ζ => .of [(2, .one (.d (.v (.bool (decide (a.lo ≤ a.hi))))))] []) [⟨[1], some 3, [], []⟩, ⟨[3], some 4, [[1]], []⟩, ⟨[1], some 5, [], []⟩, ⟨[5], some 6, [[1]], []⟩, ⟨[4, 6], some 7, [], []⟩, ⟨[7], some 2, [], []⟩] (fun k3 => ?_) ?_
 ·skip
  refine .fieldAddrP (.no rfl) rfl t122 rfl rfl t2 rfl rfl rfl rfl ?_
  refine .load (.no rfl) rfl t2 rfl rfl (.ptr _ _ _ _ _ rfl) rfl rfl rfl rfl ?_
  refine .fieldAddrP (.no rfl) rfl t122 rfl rfl t2 rfl rfl rfl rfl ?_
  refine .load (.no rfl) rfl t2 rfl rfl (.ptr _ _ _ _ _ rfl) rfl rfl rfl rfl ?_
  refine .bin (.no rfl) rfl rfl rfl rfl rfl rfl ?_
  refine .assign (.no rfl) rfl rfl rfl rfl ?_
  exact .fin () (.of (.cons rfl .nil) .nil)
 intro _
 refine .ret ?_
 have e4 : (decide (a.lo ≤ a.hi)) = (Iv.ok a) := by rfl
 have hc5 := eq1 (fun z1 => SV.one (.d (.v (.bool (z1))))) e4
 show _ ∧ _
 exact ⟨.inr rfl, .done ⟨_, [], [], _, .one (c := .d (.v (.bool (Iv.ok a)))) (hc5) .nil, .cons (Reads.d _).gives .nil, nodupB_ok rfl, by simp, (by simp)⟩⟩
theorem c_l2Join (a : Iv) (b : Iv) : Trip Tryz.prog 169 [(true, 2), (true, 2)] (Iv.c a ++ Iv.c b) [(true, 2)] [.v (.int .i64 ((Iv.join a b).lo)), .v (.int .i64 ((Iv.join a b).hi))] [] := by
 refine Trip.of Tryz.func169 (by decide) (c := _) rfl rfl (shB_ok rfl) (Nat.le_of_ble_eq_true rfl) rfl (AftOk.nil _) ?_
 refine .seq ?_
 refine .reg (X := Nat × Nat × Nat) (fun ζ => .of [(2, .one (.ptr [2] (ζ.1) 0)), (3, .one (.ptr [3] (ζ.2.1) 0)), (4, .one (.ptr [4] (ζ.2.2) 0))] [([2], (ζ.1, ζ.1, .box [.d (.v (.int .i64 (a.lo))), .d (.v (.int .i64 (a.hi)))])), ([3], (ζ.2.1, ζ.2.1, .box [.d (.v (.int .i64 (b.lo))), .d (.v (.int .i64 (b.hi)))])), ([4], (ζ.2.2, ζ.2.2, .box [.d (.v (.int .i64 (0))), .d (.v (.int .i64 (0)))]))]) [⟨[0], some 2, [], [[2]]⟩, ⟨[1], some 3, [], [[3]]⟩, ⟨[], some 4, [], [[4]]⟩] (fun k1 => ?_) ?_
 ·skip
  refine .box (.no rfl) rfl rfl rfl rfl rfl ?_
  refine .box (.no rfl) rfl rfl rfl rfl rfl ?_
  refine .alloc (.no rfl) rfl z122 rfl rfl rfl ?_
  exact .fin (k1, k1 + 1, k1 + 1 + 1) (.of (.cons rfl (.cons rfl (.cons rfl .nil))) (.cons rfl (.cons rfl (.cons rfl .nil))))
 rintro ⟨g2, g3, g4⟩
 refine .seq ?_
 refine .reg (X := Nat) (fun ζ => .of [(4, .one (.ptr [4] (g4) 0))] [([4], (g4, ζ, .box [.d (.v (.int .i64 (min a.lo b.lo))), .d (.v (.int .i64 (max a.hi b.hi)))]))]) [⟨[2], some 5, [], []⟩, ⟨[5], some 6, [[2]], []⟩, ⟨[3], some 7, [], []⟩, ⟨[7], some 8, [[3]], []⟩, ⟨[6, 8], some 9, [], []⟩, ⟨[2], some 10, [], []⟩, ⟨[10], some 11, [[2]], []⟩, ⟨[3], some 12, [], []⟩, ⟨[12], some 13, [[3]], []⟩, ⟨[11, 13], some 14, [], []⟩, ⟨[9, 14], some 15, [], []⟩, ⟨[4, 15], none, [[4]], [[4]]⟩] (fun k5 => ?_) ?_
 ·skip
  refine .fieldAddrP (.no rfl) rfl t122 rfl rfl t2 rfl rfl rfl rfl ?_
  refine .load (.no rfl) rfl t2 rfl rfl (.ptr _ _ _ _ _ rfl) rfl rfl rfl rfl ?_
  refine .fieldAddrP (.no rfl) rfl t122 rfl rfl t2 rfl rfl rfl rfl ?_
  refine .load (.no rfl) rfl t2 rfl rfl (.ptr _ _ _ _ _ rfl) rfl rfl rfl rfl ?_
  refine .min (.no rfl) rfl rfl rfl rfl (min_of _ _) rfl ?_
  refine .fieldAddrP (.no rfl) rfl t122 rfl rfl t2 rfl rfl rfl rfl ?_
  refine .load (.no rfl) rfl t2 rfl rfl (.ptr _ _ _ _ _ rfl) rfl rfl rfl rfl ?_
  refine .fieldAddrP (.no rfl) rfl t122 rfl rfl t2 rfl rfl rfl rfl ?_
  refine .load (.no rfl) rfl t2 rfl rfl (.ptr _ _ _ _ _ rfl) rfl rfl rfl rfl ?_
  refine .max (.no rfl) rfl rfl rfl rfl (max_of _ _) rfl ?_
  refine .build (.no rfl) rfl z122 rfl p122 rfl rfl rfl rfl ?_
  refine .store (.no rfl) rfl t122 rfl rfl rfl rfl rfl rfl rfl rfl rfl ?_
  exact .fin (k5 + 1 + 1 + 1 + 1 + 1 + 1 + 1 + 1 + 1 + 1 + 1) (.of (.cons rfl .nil) (.cons rfl .nil))
 intro g6
 refine .ret ?_
 have e7 : (min a.lo b.lo) = ((Iv.join a b).lo) := by rfl
 have e8 : (max a.hi b.hi) = ((Iv.join a b).hi) := by rfl
 have hc9 := eq2 (fun z1 z2 => some (g4, g6, O.box [.d (.v (.int .i64 (z1))), .d (.v (.int .i64 (z2)))])) e7 e8
 show _ ∧ _
 exact ⟨.inr rfl, .done ⟨_, [], [], _, .cell (cells := [.d (.v (.int .i64 ((Iv.join a b).lo))), .d (.v (.int .i64 ((Iv.join a b).hi)))]) rfl hc9 t122 rfl rfl .nil, .cons (Reads.d _).gives (.cons (Reads.d _).gives .nil), nodupB_ok rfl, by simp, (by simp)⟩⟩
theorem c_l3Key (s : ByteArray) : Trip Tryz.prog 126 [(false, 1)] ([.v (.string (s))]) [(false, 1)] [.v (.bool (isKey s))] [] := by
 refine Trip.of Tryz.func126 (by decide) (c := _) rfl rfl (shB_ok rfl) (Nat.le_of_ble_eq_true rfl) rfl (AftOk.nil _) ?_
 refine .seq ?_
 refine .reg (X := Unit) (fun ζ => .of [(0, .one (.d (.v (.string (s)))))] []) [⟨[], some 2, [], []⟩] (fun k1 => ?_) ?_
 ·skip
  refine .assign (.no rfl) rfl rfl rfl rfl ?_
  exact .fin () (.of (.cons rfl .nil) .nil)
 intro _
 refine .seq ?_
 refine .reg (X := Nat) (fun ζ => .of [(0, .one (.d (.v (.string (s))))), (3, .one (.ref [5] (ζ)))] [([5], (ζ, ζ, .row 9 1 ([[.v (.string ((⟨#[118, 97, 114]⟩ : ByteArray)))], [.v (.string ((⟨#[102, 108, 97, 103]⟩ : ByteArray)))], [.v (.string ((⟨#[97, 114, 114, 97, 121]⟩ : ByteArray)))], [.v (.string ((⟨#[105, 102]⟩ : ByteArray)))], [.v (.string ((⟨#[102, 111, 114, 107]⟩ : ByteArray)))], [.v (.string ((⟨#[101, 108, 115, 101]⟩ : ByteArray)))], [.v (.string ((⟨#[101, 110, 100]⟩ : ByteArray)))], [.v (.string ((⟨#[119, 104, 105, 108, 101]⟩ : ByteArray)))], [.v (.string ((⟨#[117, 110, 114, 111, 108, 108]⟩ : ByteArray)))], [.v (.string ((⟨#[97, 115, 115, 101, 114, 116]⟩ : ByteArray)))], [.v (.string ((⟨#[97, 115, 115, 117, 109, 101]⟩ : ByteArray)))], [.v (.string ((⟨#[105, 110, 112, 117, 116]⟩ : ByteArray)))], [.v (.string ((⟨#[115, 112, 108, 105, 116]⟩ : ByteArray)))], [.v (.string ((⟨#[109, 101, 114, 103, 101]⟩ : ByteArray)))], [.v (.string ((⟨#[116, 114, 117, 101]⟩ : ByteArray)))], [.v (.string ((⟨#[102, 97, 108, 115, 101]⟩ : ByteArray)))]])))]) [⟨[], some 5, [], [[5]]⟩, ⟨[5], some 3, [], []⟩] (fun k2 => ?_) ?_
 ·skip
  refine .buildSlice (.no rfl) rfl (els := [[.v (.string ((⟨#[118, 97, 114]⟩ : ByteArray)))], [.v (.string ((⟨#[102, 108, 97, 103]⟩ : ByteArray)))], [.v (.string ((⟨#[97, 114, 114, 97, 121]⟩ : ByteArray)))], [.v (.string ((⟨#[105, 102]⟩ : ByteArray)))], [.v (.string ((⟨#[102, 111, 114, 107]⟩ : ByteArray)))], [.v (.string ((⟨#[101, 108, 115, 101]⟩ : ByteArray)))], [.v (.string ((⟨#[101, 110, 100]⟩ : ByteArray)))], [.v (.string ((⟨#[119, 104, 105, 108, 101]⟩ : ByteArray)))], [.v (.string ((⟨#[117, 110, 114, 111, 108, 108]⟩ : ByteArray)))], [.v (.string ((⟨#[97, 115, 115, 101, 114, 116]⟩ : ByteArray)))], [.v (.string ((⟨#[97, 115, 115, 117, 109, 101]⟩ : ByteArray)))], [.v (.string ((⟨#[105, 110, 112, 117, 116]⟩ : ByteArray)))], [.v (.string ((⟨#[115, 112, 108, 105, 116]⟩ : ByteArray)))], [.v (.string ((⟨#[109, 101, 114, 103, 101]⟩ : ByteArray)))], [.v (.string ((⟨#[116, 114, 117, 101]⟩ : ByteArray)))], [.v (.string ((⟨#[102, 97, 108, 115, 101]⟩ : ByteArray)))]]) t22 rfl z9 rfl rfl rfl rfl rfl rfl rfl rfl (by simp [i9]) (.cons _ _ _ _ _ _ (.d _) (.cons _ _ _ _ _ _ (.d _) (.cons _ _ _ _ _ _ (.d _) (.cons _ _ _ _ _ _ (.d _) (.cons _ _ _ _ _ _ (.d _) (.cons _ _ _ _ _ _ (.d _) (.cons _ _ _ _ _ _ (.d _) (.cons _ _ _ _ _ _ (.d _) (.cons _ _ _ _ _ _ (.d _) (.cons _ _ _ _ _ _ (.d _) (.cons _ _ _ _ _ _ (.d _) (.cons _ _ _ _ _ _ (.d _) (.cons _ _ _ _ _ _ (.d _) (.cons _ _ _ _ _ _ (.d _) (.cons _ _ _ _ _ _ (.d _) (.cons _ _ _ _ _ _ (.d _) .nil)))))))))))))))) rfl rfl rfl ?_
  refine .assign (.no rfl) rfl rfl rfl rfl ?_
  exact .fin k2 (.of (.cons rfl (.cons rfl .nil)) (.cons rfl .nil))
 intro g3
 refine .seq ?_
 refine .seq ?_
 refine .reg (X := Unit) (fun ζ => .of [(0, .one (.d (.v (.string (s))))), (3, .one (.ref [5] (g3))), (4, .one (.d (.v (.int .i64 (0)))))] [([5], (g3, g3, .row 9 1 ([[.v (.string ((⟨#[118, 97, 114]⟩ : ByteArray)))], [.v (.string ((⟨#[102, 108, 97, 103]⟩ : ByteArray)))], [.v (.string ((⟨#[97, 114, 114, 97, 121]⟩ : ByteArray)))], [.v (.string ((⟨#[105, 102]⟩ : ByteArray)))], [.v (.string ((⟨#[102, 111, 114, 107]⟩ : ByteArray)))], [.v (.string ((⟨#[101, 108, 115, 101]⟩ : ByteArray)))], [.v (.string ((⟨#[101, 110, 100]⟩ : ByteArray)))], [.v (.string ((⟨#[119, 104, 105, 108, 101]⟩ : ByteArray)))], [.v (.string ((⟨#[117, 110, 114, 111, 108, 108]⟩ : ByteArray)))], [.v (.string ((⟨#[97, 115, 115, 101, 114, 116]⟩ : ByteArray)))], [.v (.string ((⟨#[97, 115, 115, 117, 109, 101]⟩ : ByteArray)))], [.v (.string ((⟨#[105, 110, 112, 117, 116]⟩ : ByteArray)))], [.v (.string ((⟨#[115, 112, 108, 105, 116]⟩ : ByteArray)))], [.v (.string ((⟨#[109, 101, 114, 103, 101]⟩ : ByteArray)))], [.v (.string ((⟨#[116, 114, 117, 101]⟩ : ByteArray)))], [.v (.string ((⟨#[102, 97, 108, 115, 101]⟩ : ByteArray)))]])))]) [⟨[], some 4, [], []⟩] (fun k4 => ?_) ?_
 ·skip
  refine .assign (.no rfl) rfl rfl rfl rfl ?_
  exact .fin () (.of (.cons rfl (.cons rfl (.cons rfl .nil))) (.cons rfl .nil))
 intro _
 refine .block ?_
 refine .loop (X := Nat × Nat × Nat) (fun ζ => .of [(0, .one (.d (.v (.string (s))))), (3, .one (.ref [5] (ζ.2.1))), (4, .one (.d (.v (.int .i64 ((ζ.1 : Int))))))] [([5], (ζ.2.1, ζ.2.2, .row 9 1 (List.map strc (keys))))]) (fun ζ => ζ.1 ≤ keys.length ∧ allTo ζ.1 (fun i => !strEq (keys.getD i default) s) = true) (fun ζ => keys.length - ζ.1) ?_ ?_
 ·skip
  exact .here (0, g3, g3) (.of (.cons rfl (.cons rfl (.cons (svI (show (0) = ((0 : Int)) by first | rfl | omega | exact wrap_le (by omega) (by omega) | (rw [wrap_le (by omega) (by omega)]; omega))) .nil))) (.cons (rowE (show [[.v (.string ((⟨#[118, 97, 114]⟩ : ByteArray)))], [.v (.string ((⟨#[102, 108, 97, 103]⟩ : ByteArray)))], [.v (.string ((⟨#[97, 114, 114, 97, 121]⟩ : ByteArray)))], [.v (.string ((⟨#[105, 102]⟩ : ByteArray)))], [.v (.string ((⟨#[102, 111, 114, 107]⟩ : ByteArray)))], [.v (.string ((⟨#[101, 108, 115, 101]⟩ : ByteArray)))], [.v (.string ((⟨#[101, 110, 100]⟩ : ByteArray)))], [.v (.string ((⟨#[119, 104, 105, 108, 101]⟩ : ByteArray)))], [.v (.string ((⟨#[117, 110, 114, 111, 108, 108]⟩ : ByteArray)))], [.v (.string ((⟨#[97, 115, 115, 101, 114, 116]⟩ : ByteArray)))], [.v (.string ((⟨#[97, 115, 115, 117, 109, 101]⟩ : ByteArray)))], [.v (.string ((⟨#[105, 110, 112, 117, 116]⟩ : ByteArray)))], [.v (.string ((⟨#[115, 112, 108, 105, 116]⟩ : ByteArray)))], [.v (.string ((⟨#[109, 101, 114, 103, 101]⟩ : ByteArray)))], [.v (.string ((⟨#[116, 114, 117, 101]⟩ : ByteArray)))], [.v (.string ((⟨#[102, 97, 108, 115, 101]⟩ : ByteArray)))]] = List.map strc (keys) by rfl)) .nil)) (show 0 ≤ keys.length ∧ allTo 0 (fun i => !strEq (keys.getD i default) s) = true by exact ⟨by omega, rfl⟩)
 ·rintro ⟨j, q5, q6⟩ hI
  have hI : j ≤ keys.length ∧ allTo j (fun i => !strEq (keys.getD i default) s) = true := hI
  have hk9 : keys.length = 16 := rfl
  refine .seq ?_
  refine .seq ?_
  refine .reg (X := Unit) (fun ζ => .of [(0, .one (.d (.v (.string (s))))), (3, .one (.ref [5] (q5))), (4, .one (.d (.v (.int .i64 ((j : Int)))))), (9, .one (.d (.v (.bool (decide ((j : Int) < (keys.length : Int)))))))] [([5], (q5, q6, .row 9 1 (List.map strc (keys))))]) [⟨[4], some 6, [], []⟩, ⟨[3], some 7, [], []⟩, ⟨[7], some 8, [[5]], []⟩, ⟨[6, 8], some 9, [], []⟩] (fun k7 => ?_) ?_
  ·skip
   refine .move (.no rfl) rfl rfl rfl rfl ?_
   refine .move (.no rfl) rfl rfl rfl rfl ?_
   refine .len (.no rfl) rfl (z := (keys.length : Int)) t22 rfl rfl rfl (.ref _ _ _ _ _ rfl) (map_len _ _) rfl ?_
   refine .bin (.no rfl) rfl rfl rfl rfl rfl rfl ?_
   exact .fin () (.of (.cons rfl (.cons rfl (.cons rfl (.cons rfl .nil)))) (.cons rfl .nil))
  intro _
  refine .cond (t := decide ((j : Int) < (keys.length : Int))) rfl (fun c0 => ?_) (fun c0 => ?_)
  ·have c0 := of_decide_eq_true c0
   refine .skip ?_
   refine .seq ?_
   refine .block ?_
   refine .seq ?_
   refine .reg (X := Unit) (fun ζ => .of [(0, .one (.d (.v (.string (s))))), (3, .one (.ref [5] (q5))), (4, .one (.d (.v (.int .i64 ((j : Int)))))), (17, .one (.d (.v (.bool ((keys.getD j default).toList == s.toList)))))] [([5], (q5, q6, .row 9 1 (List.map strc (keys))))]) [⟨[3], some 12, [], []⟩, ⟨[4], some 13, [], []⟩, ⟨[12, 13], some 14, [[5]], []⟩, ⟨[14], some 15, [[5]], []⟩, ⟨[0], some 16, [], []⟩, ⟨[15, 16], some 17, [], []⟩] (fun k8 => ?_) ?_
   ·skip
    refine .move (.no rfl) rfl rfl rfl rfl ?_
    refine .move (.no rfl) rfl rfl rfl rfl ?_
    refine .indexAddr (.no rfl) rfl (j) t22 rfl t9 rfl rfl rfl (.ref _ _ _ _ _ rfl) rfl rfl rfl (map_get (by omega)) rfl rfl ?_
    refine .load (.no rfl) rfl t9 rfl rfl (.eptr _ _ _ _ _ _ _ _ _ rfl (map_get (by omega))) rfl rfl rfl rfl ?_
    refine .move (.no rfl) rfl rfl rfl rfl ?_
    refine .bin (.no rfl) rfl rfl rfl rfl rfl rfl ?_
    exact .fin () (.of (.cons rfl (.cons rfl (.cons rfl (.cons rfl .nil)))) (.cons rfl .nil))
   intro _
   refine .cond (t := (keys.getD j default).toList == s.toList) rfl (fun c1 => ?_) (fun c1 => ?_)
   ·have c1 := c1
    refine .seq ?_
    refine .reg (X := Unit) (fun ζ => .of [(2, .one (.d (.v (.bool (true)))))] []) [⟨[], some 2, [], []⟩] (fun k9 => ?_) ?_
    ·skip
     refine .assign (.no rfl) rfl rfl rfl rfl ?_
     exact .fin () (.of (.cons rfl .nil) .nil)
    intro _
    refine .ret ?_
    have e10 : (true) = (isKey s) := by exact (any_found (p := fun x => strEq x s) (j := j) (by omega) c1).symm
    have hc11 := eq1 (fun z1 => SV.one (.d (.v (.bool (z1))))) e10
    show _ ∧ _
    exact ⟨.inr rfl, .done ⟨_, [], [], _, .one (c := .d (.v (.bool (isKey s)))) (hc11) .nil, .cons (Reads.d _).gives .nil, nodupB_ok rfl, by simp, (by simp)⟩⟩
   ·have c1 := c1
    refine .skip ?_
    refine .reg (X := Unit) (fun ζ => .of [(0, .one (.d (.v (.string (s))))), (3, .one (.ref [5] (q5))), (4, .one (.d (.v (.int .i64 (IntKind.wrap .i64 ((j : Int) + 1))))))] [([5], (q5, q6, .row 9 1 (List.map strc (keys))))]) [⟨[4], some 10, [], []⟩, ⟨[10], some 11, [], []⟩, ⟨[11], some 4, [], []⟩] (fun k12 => ?_) ?_
    ·skip
     refine .move (.no rfl) rfl rfl rfl rfl ?_
     refine .bin (.no rfl) rfl rfl rfl rfl rfl rfl ?_
     refine .assign (.no rfl) rfl rfl rfl rfl ?_
     exact .fin () (.of (.cons rfl (.cons rfl (.cons rfl .nil))) (.cons rfl .nil))
    intro _
    exact .here ((j + 1), q5, q6) (.of (.cons rfl (.cons rfl (.cons (svI (show (IntKind.wrap .i64 ((j : Int) + 1)) = (((j + 1) : Int)) by first | rfl | omega | exact wrap_le (by omega) (by omega) | (rw [wrap_le (by omega) (by omega)]; omega))) .nil))) (.cons rfl .nil)) ⟨(show (j + 1) ≤ keys.length ∧ allTo (j + 1) (fun i => !strEq (keys.getD i default) s) = true by exact ⟨by omega, allTo_step hI.2 (by rw [show strEq (keys.getD j default) s = false from c1]; rfl)⟩), (show keys.length - (j + 1) < keys.length - j by omega)⟩
  ·have c0 := of_decide_eq_false c0
   refine .exit ?_
   refine .seq ?_
   refine .reg (X := Unit) (fun ζ => .of [(2, .one (.d (.v (.bool (false)))))] []) [⟨[], some 2, [], []⟩] (fun k13 => ?_) ?_
   ·skip
    refine .assign (.no rfl) rfl rfl rfl rfl ?_
    exact .fin () (.of (.cons rfl .nil) .nil)
   intro _
   refine .ret ?_
   have e14 : (false) = (isKey s) := by exact (any_none (p := fun x => strEq x s) (j := j) (by omega) hI.2).symm
   have hc15 := eq1 (fun z1 => SV.one (.d (.v (.bool (z1))))) e14
   show _ ∧ _
   exact ⟨.inr rfl, .done ⟨_, [], [], _, .one (c := .d (.v (.bool (isKey s)))) (hc15) .nil, .cons (Reads.d _).gives .nil, nodupB_ok rfl, by simp, (by simp)⟩⟩
theorem c_l3Name (s : ByteArray) (hs : s.size ≤ 9223372036854775807) : Trip Tryz.prog 94 [(false, 1)] ([.v (.string (s))]) [(false, 1)] [.v (.bool (nmOk s))] [] := by
 refine Trip.of Tryz.func94 (by decide) (c := _) rfl rfl (shB_ok rfl) (Nat.le_of_ble_eq_true rfl) rfl (AftOk.nil _) ?_
 refine .seq ?_
 refine .reg (X := Unit) (fun ζ => .of [(0, .one (.d (.v (.string (s)))))] []) [⟨[], some 2, [], []⟩] (fun k1 => ?_) ?_
 ·skip
  refine .assign (.no rfl) rfl rfl rfl rfl ?_
  exact .fin () (.of (.cons rfl .nil) .nil)
 intro _
 refine .seq ?_
 refine .seq ?_
 refine .reg (X := Unit) (fun ζ => .of [(0, .one (.d (.v (.string (s))))), (3, .one (.d (.v (.int .i64 (0)))))] []) [⟨[], some 3, [], []⟩] (fun k2 => ?_) ?_
 ·skip
  refine .assign (.no rfl) rfl rfl rfl rfl ?_
  exact .fin () (.of (.cons rfl (.cons rfl .nil)) .nil)
 intro _
 refine .block ?_
 refine .loop (X := Nat) (fun ζ => .of [(0, .one (.d (.v (.string (s))))), (3, .one (.d (.v (.int .i64 ((ζ : Int))))))] []) (fun ζ => ζ ≤ s.size ∧ allTo ζ (fun i => decide (97 ≤ byteAt s i ∧ byteAt s i ≤ 122)) = true) (fun ζ => s.size - ζ) ?_ ?_
 ·skip
  exact .here 0 (.of (.cons rfl (.cons (svI (show (0) = ((0 : Int)) by first | rfl | omega | exact wrap_le (by omega) (by omega) | (rw [wrap_le (by omega) (by omega)]; omega))) .nil)) .nil) (show 0 ≤ s.size ∧ allTo 0 (fun i => decide (97 ≤ byteAt s i ∧ byteAt s i ≤ 122)) = true by exact ⟨by omega, rfl⟩)
 ·rintro j hI
  have hI : j ≤ s.size ∧ allTo j (fun i => decide (97 ≤ byteAt s i ∧ byteAt s i ≤ 122)) = true := hI
  refine .seq ?_
  refine .seq ?_
  refine .reg (X := Unit) (fun ζ => .of [(0, .one (.d (.v (.string (s))))), (3, .one (.d (.v (.int .i64 ((j : Int)))))), (7, .one (.d (.v (.bool (decide ((j : Int) < (s.size : Int)))))))] []) [⟨[3], some 4, [], []⟩, ⟨[0], some 5, [], []⟩, ⟨[5], some 6, [], []⟩, ⟨[4, 6], some 7, [], []⟩] (fun k3 => ?_) ?_
  ·skip
   refine .move (.no rfl) rfl rfl rfl rfl ?_
   refine .move (.no rfl) rfl rfl rfl rfl ?_
   refine .lenStr (.no rfl) rfl t9 rfl rfl rfl rfl rfl ?_
   refine .bin (.no rfl) rfl rfl rfl rfl rfl rfl ?_
   exact .fin () (.of (.cons rfl (.cons rfl (.cons rfl .nil))) .nil)
  intro _
  refine .cond (t := decide ((j : Int) < (s.size : Int))) rfl (fun c0 => ?_) (fun c0 => ?_)
  ·have c0 := of_decide_eq_true c0
   refine .skip ?_
   refine .seq ?_
   refine .block ?_
   refine .seq ?_
   refine .reg (X := Unit) (fun ζ => .of [(0, .one (.d (.v (.string (s))))), (3, .one (.d (.v (.int .i64 ((j : Int)))))), (19, .one (.d (.v (.bool ((decide ((byteAt s j) < 97) || decide ((byteAt s j) > 122)))))))] []) [⟨[0], some 10, [], []⟩, ⟨[3], some 11, [], []⟩, ⟨[10, 11], some 12, [], []⟩, ⟨[12], some 13, [], []⟩, ⟨[13], some 14, [], []⟩, ⟨[14, 0], some 15, [], []⟩, ⟨[14, 3], some 16, [], []⟩, ⟨[14, 15, 16], some 17, [], []⟩, ⟨[14, 17], some 18, [], []⟩, ⟨[14, 18], some 19, [], []⟩] (fun k4 => ?_) ?_
   ·skip
    refine .move (.no rfl) rfl rfl rfl rfl ?_
    refine .move (.no rfl) rfl rfl rfl rfl ?_
    refine .indexStr (.no rfl) rfl (z := byteAt s j) (j) t9 rfl rfl rfl rfl rfl (b8_get (by omega)) rfl rfl ?_
    refine .bin (.no rfl) rfl rfl rfl rfl rfl rfl ?_
    refine .moveB (.no rfl) rfl rfl rfl rfl fun b5 g4_4 => ?_
    cases b5
    ·skip
     refine .move (.on rfl rfl rfl rfl rfl) rfl rfl rfl rfl ?_
     refine .move (.on rfl rfl rfl rfl rfl) rfl rfl rfl rfl ?_
     refine .indexStr (.on rfl rfl rfl rfl rfl) rfl (z := byteAt s j) (j) t9 rfl rfl rfl rfl rfl (b8_get (by omega)) rfl rfl ?_
     refine .bin (.on rfl rfl rfl rfl rfl) rfl rfl rfl rfl rfl rfl ?_
     refine .pick (.no rfl) rfl rfl rfl rfl rfl ?_
     exact .fin () (.of (.cons rfl (.cons rfl (.cons (svB (show (decide ((byteAt s j) > 122)) = ((decide ((byteAt s j) < 97) || decide ((byteAt s j) > 122))) by first | (simp only [g4_4, Bool.true_or, Bool.false_or, Bool.true_and, Bool.false_and, Bool.not_true, Bool.not_false]; done) | simp [g4_4])) .nil))) .nil)
    ·skip
     refine .off rfl rfl rfl rfl rfl rfl rfl ?_
     refine .off rfl rfl rfl rfl rfl rfl rfl ?_
     refine .off rfl rfl rfl rfl rfl rfl rfl ?_
     refine .off rfl rfl rfl rfl rfl rfl rfl ?_
     refine .pick (.no rfl) rfl rfl rfl rfl rfl ?_
     exact .fin () (.of (.cons rfl (.cons rfl (.cons (svB (show (true) = ((decide ((byteAt s j) < 97) || decide ((byteAt s j) > 122))) by first | (simp only [g4_4, Bool.true_or, Bool.false_or, Bool.true_and, Bool.false_and, Bool.not_true, Bool.not_false]; done) | simp [g4_4])) .nil))) .nil)
   intro _
   refine .cond (t := (decide ((byteAt s j) < 97) || decide ((byteAt s j) > 122))) rfl (fun c1 => ?_) (fun c1 => ?_)
   ·have c1 := c1
    try simp only [Bool.or_eq_true, Bool.or_eq_false_iff, Bool.and_eq_true, Bool.and_eq_false_iff, decide_eq_true_eq, decide_eq_false_iff_not, Bool.not_eq_true', Bool.not_eq_false', bne_iff_ne, beq_iff_eq, bne_eq_false_iff_eq, beq_eq_false_iff_ne, ne_eq, Bool.not_eq_eq_eq_not, Bool.not_true, Bool.not_false] at c1
    refine .seq ?_
    refine .reg (X := Unit) (fun ζ => .of [(2, .one (.d (.v (.bool (false)))))] []) [⟨[], some 2, [], []⟩] (fun k6 => ?_) ?_
    ·skip
     refine .assign (.no rfl) rfl rfl rfl rfl ?_
     exact .fin () (.of (.cons rfl .nil) .nil)
    intro _
    refine .ret ?_
    have e7 : (false) = (nmOk s) := by (simp only [nmOk, letters]; rw [allTo_fail (j := j) (by omega) (by have h9 := byteAt_le s j; simp only [decide_eq_false_iff_not]; omega)]; rfl)
    have hc8 := eq1 (fun z1 => SV.one (.d (.v (.bool (z1))))) e7
    show _ ∧ _
    exact ⟨.inr rfl, .done ⟨_, [], [], _, .one (c := .d (.v (.bool (nmOk s)))) (hc8) .nil, .cons (Reads.d _).gives .nil, nodupB_ok rfl, by simp, (by simp)⟩⟩
   ·have c1 := c1
    try simp only [Bool.or_eq_true, Bool.or_eq_false_iff, Bool.and_eq_true, Bool.and_eq_false_iff, decide_eq_true_eq, decide_eq_false_iff_not, Bool.not_eq_true', Bool.not_eq_false', bne_iff_ne, beq_iff_eq, bne_eq_false_iff_eq, beq_eq_false_iff_ne, ne_eq, Bool.not_eq_eq_eq_not, Bool.not_true, Bool.not_false] at c1
    refine .skip ?_
    refine .reg (X := Unit) (fun ζ => .of [(0, .one (.d (.v (.string (s))))), (3, .one (.d (.v (.int .i64 (IntKind.wrap .i64 ((j : Int) + 1))))))] []) [⟨[3], some 8, [], []⟩, ⟨[8], some 9, [], []⟩, ⟨[9], some 3, [], []⟩] (fun k9 => ?_) ?_
    ·skip
     refine .move (.no rfl) rfl rfl rfl rfl ?_
     refine .bin (.no rfl) rfl rfl rfl rfl rfl rfl ?_
     refine .assign (.no rfl) rfl rfl rfl rfl ?_
     exact .fin () (.of (.cons rfl (.cons rfl .nil)) .nil)
    intro _
    exact .here (j + 1) (.of (.cons rfl (.cons (svI (show (IntKind.wrap .i64 ((j : Int) + 1)) = (((j + 1) : Int)) by first | rfl | omega | exact wrap_le (by omega) (by omega) | (rw [wrap_le (by omega) (by omega)]; omega))) .nil)) .nil) ⟨(show (j + 1) ≤ s.size ∧ allTo (j + 1) (fun i => decide (97 ≤ byteAt s i ∧ byteAt s i ≤ 122)) = true by exact ⟨by omega, allTo_step hI.2 (by simp only [decide_eq_true_eq]; omega)⟩), (show s.size - (j + 1) < s.size - j by omega)⟩
  ·have c0 := of_decide_eq_false c0
   refine .exit ?_
   refine .seq ?_
   refine .reg (X := Unit) (fun ζ => .of [(2, .one (.d (.v (.bool ((inR (s.size : Int) 1 8 && !(isKey s)))))))] []) [⟨[0], some 20, [], []⟩, ⟨[20], some 21, [], []⟩, ⟨[21], some 22, [], []⟩, ⟨[22], some 23, [], []⟩, ⟨[23, 0], some 24, [], []⟩, ⟨[23, 24], some 25, [], []⟩, ⟨[23, 25], some 26, [], []⟩, ⟨[23, 26], some 27, [], []⟩, ⟨[27], some 2, [], []⟩] (fun k10 => ?_) ?_
   ·skip
    refine .move (.no rfl) rfl rfl rfl rfl ?_
    refine .lenStr (.no rfl) rfl t9 rfl rfl rfl rfl rfl ?_
    refine .call (.no rfl) rfl [] [] (c_l1In (s.size : Int) 1 8) rfl rfl rfl rfl rfl (.cons (Reads.d _).gives (.cons (Reads.d _).gives (.cons (Reads.d _).gives .nil))) rfl rfl (fun h => absurd rfl h) (.own [22, 0] .nil) (.nil) rfl rfl rfl (by simp) rfl rfl rfl ?_
    refine .moveB (.no rfl) rfl rfl rfl rfl fun b11 g6_3 => ?_
    cases b11
    ·skip
     refine .off rfl rfl rfl rfl rfl rfl rfl ?_
     refine .off rfl rfl rfl rfl rfl rfl rfl ?_
     refine .off rfl rfl rfl rfl rfl rfl rfl ?_
     refine .pick (.no rfl) rfl rfl rfl rfl rfl ?_
     refine .assign (.no rfl) rfl rfl rfl rfl ?_
     exact .fin () (.of (.cons (svB (show (false) = ((inR (s.size : Int) 1 8 && !(isKey s))) by first | (simp only [g6_3, Bool.true_or, Bool.false_or, Bool.true_and, Bool.false_and, Bool.not_true, Bool.not_false]; done) | simp [g6_3])) .nil) .nil)
    ·skip
     refine .move (.on rfl rfl rfl rfl rfl) rfl rfl rfl rfl ?_
     refine .call (.on rfl rfl rfl rfl rfl) rfl [] [] (c_l3Key s) rfl rfl rfl rfl rfl (.cons (Reads.d _).gives .nil) rfl rfl (fun h => absurd rfl h) (.own [25, 0] .nil) (.nil) rfl rfl rfl (by simp) rfl rfl rfl ?_
     refine .un (.on rfl rfl rfl rfl rfl) rfl rfl rfl rfl rfl ?_
     refine .pick (.no rfl) rfl rfl rfl rfl rfl ?_
     refine .assign (.no rfl) rfl rfl rfl rfl ?_
     exact .fin () (.of (.cons (svB (show (!(isKey s)) = ((inR (s.size : Int) 1 8 && !(isKey s))) by first | (simp only [g6_3, Bool.true_or, Bool.false_or, Bool.true_and, Bool.false_and, Bool.not_true, Bool.not_false]; done) | simp [g6_3])) .nil) .nil)
   intro _
   refine .ret ?_
   have e12 : ((inR (s.size : Int) 1 8 && !(isKey s))) = (nmOk s) := by (have hj : j = s.size := (by omega); subst hj; simp only [nmOk, letters]; rw [hI.2]; first | rfl | simp_all)
   have hc13 := eq1 (fun z1 => SV.one (.d (.v (.bool (z1))))) e12
   show _ ∧ _
   exact ⟨.inr rfl, .done ⟨_, [], [], _, .one (c := .d (.v (.bool (nmOk s)))) (hc13) .nil, .cons (Reads.d _).gives .nil, nodupB_ok rfl, by simp, (by simp)⟩⟩
theorem c_l3Place (l : List ByteArray) (s : ByteArray) : Trip Tryz.prog 95 [(false, 1), (false, 1)] ([.sl false 9 1 (List.map strc (l))] ++ [.v (.string (s))]) [(false, 1)] [.v (.int .i64 (place l s))] [] := by
 refine Trip.of Tryz.func95 (by decide) (c := _) rfl rfl (shB_ok rfl) (Nat.le_of_ble_eq_true rfl) rfl (AftOk.nil _) ?_
 refine .sat (t := 0) rfl (fun hs1 => ?_)
 have hs1l : l.length ≤ 9223372036854775807 := hs1.maplen
 refine .seq ?_
 refine .reg (X := Unit) (fun ζ => .of [(0, .one (.d (.sl false 9 1 (List.map strc (l))))), (1, .one (.d (.v (.string (s)))))] []) [⟨[], some 4, [], []⟩] (fun k2 => ?_) ?_
 ·skip
  refine .assign (.no rfl) rfl rfl rfl rfl ?_
  exact .fin () (.of (.cons rfl (.cons rfl .nil)) .nil)
 intro _
 refine .seq ?_
 refine .seq ?_
 refine .reg (X := Unit) (fun ζ => .of [(0, .one (.d (.sl false 9 1 (List.map strc (l))))), (1, .one (.d (.v (.string (s))))), (5, .one (.d (.v (.int .i64 (0)))))] []) [⟨[], some 5, [], []⟩] (fun k3 => ?_) ?_
 ·skip
  refine .assign (.no rfl) rfl rfl rfl rfl ?_
  exact .fin () (.of (.cons rfl (.cons rfl (.cons rfl .nil))) .nil)
 intro _
 refine .block ?_
 refine .loop (X := Nat) (fun ζ => .of [(0, .one (.d (.sl false 9 1 (List.map strc (l))))), (1, .one (.d (.v (.string (s))))), (5, .one (.d (.v (.int .i64 ((ζ : Int))))))] []) (fun ζ => ζ ≤ l.length ∧ allTo ζ (fun i => !strEq (l.getD i default) s) = true) (fun ζ => l.length - ζ) ?_ ?_
 ·skip
  exact .here 0 (.of (.cons rfl (.cons rfl (.cons (svI (show (0) = ((0 : Int)) by first | rfl | omega | exact wrap_le (by omega) (by omega) | (rw [wrap_le (by omega) (by omega)]; omega))) .nil))) .nil) (show 0 ≤ l.length ∧ allTo 0 (fun i => !strEq (l.getD i default) s) = true by exact ⟨by omega, rfl⟩)
 ·rintro j hI
  have hI : j ≤ l.length ∧ allTo j (fun i => !strEq (l.getD i default) s) = true := hI
  refine .seq ?_
  refine .seq ?_
  refine .reg (X := Unit) (fun ζ => .of [(0, .one (.d (.sl false 9 1 (List.map strc (l))))), (1, .one (.d (.v (.string (s))))), (5, .one (.d (.v (.int .i64 ((j : Int)))))), (9, .one (.d (.v (.bool (decide ((j : Int) < (l.length : Int)))))))] []) [⟨[5], some 6, [], []⟩, ⟨[0], some 7, [], []⟩, ⟨[7], some 8, [], []⟩, ⟨[6, 8], some 9, [], []⟩] (fun k4 => ?_) ?_
  ·skip
   refine .move (.no rfl) rfl rfl rfl rfl ?_
   refine .move (.no rfl) rfl rfl rfl rfl ?_
   refine .len (.no rfl) rfl (z := (l.length : Int)) t22 rfl rfl rfl (.d _ _) (map_len _ _) rfl ?_
   refine .bin (.no rfl) rfl rfl rfl rfl rfl rfl ?_
   exact .fin () (.of (.cons rfl (.cons rfl (.cons rfl (.cons rfl .nil)))) .nil)
  intro _
  refine .cond (t := decide ((j : Int) < (l.length : Int))) rfl (fun c0 => ?_) (fun c0 => ?_)
  ·have c0 := of_decide_eq_true c0
   refine .skip ?_
   refine .seq ?_
   refine .block ?_
   refine .seq ?_
   refine .reg (X := Unit) (fun ζ => .of [(0, .one (.d (.sl false 9 1 (List.map strc (l))))), (1, .one (.d (.v (.string (s))))), (5, .one (.d (.v (.int .i64 ((j : Int)))))), (17, .one (.d (.v (.bool ((l.getD j default).toList == s.toList)))))] []) [⟨[0], some 12, [], []⟩, ⟨[5], some 13, [], []⟩, ⟨[12, 13], some 14, [], []⟩, ⟨[14], some 15, [], []⟩, ⟨[1], some 16, [], []⟩, ⟨[15, 16], some 17, [], []⟩] (fun k5 => ?_) ?_
   ·skip
    refine .move (.no rfl) rfl rfl rfl rfl ?_
    refine .move (.no rfl) rfl rfl rfl rfl ?_
    refine .indexAddr (.no rfl) rfl (j) t22 rfl t9 rfl rfl rfl (.d _ _) rfl rfl rfl (map_get (by omega)) rfl rfl ?_
    refine .load (.no rfl) rfl t9 rfl rfl (.d _) rfl rfl rfl rfl ?_
    refine .move (.no rfl) rfl rfl rfl rfl ?_
    refine .bin (.no rfl) rfl rfl rfl rfl rfl rfl ?_
    exact .fin () (.of (.cons rfl (.cons rfl (.cons rfl (.cons rfl .nil)))) .nil)
   intro _
   refine .cond (t := (l.getD j default).toList == s.toList) rfl (fun c1 => ?_) (fun c1 => ?_)
   ·have c1 := c1
    refine .seq ?_
    refine .reg (X := Unit) (fun ζ => .of [(4, .one (.d (.v (.int .i64 ((j : Int))))))] []) [⟨[5], some 18, [], []⟩, ⟨[18], some 4, [], []⟩] (fun k6 => ?_) ?_
    ·skip
     refine .move (.no rfl) rfl rfl rfl rfl ?_
     refine .assign (.no rfl) rfl rfl rfl rfl ?_
     exact .fin () (.of (.cons rfl .nil) .nil)
    intro _
    refine .ret ?_
    have e7 : ((j : Int)) = (place l s) := by exact (idx_found (p := fun x => strEq x s) (by omega) hI.2 c1).symm
    have hc8 := eq1 (fun z1 => SV.one (.d (.v (.int .i64 (z1))))) e7
    show _ ∧ _
    exact ⟨.inr rfl, .done ⟨_, [], [], _, .one (c := .d (.v (.int .i64 (place l s)))) (hc8) .nil, .cons (Reads.d _).gives .nil, nodupB_ok rfl, by simp, (by simp)⟩⟩
   ·have c1 := c1
    refine .skip ?_
    refine .reg (X := Unit) (fun ζ => .of [(0, .one (.d (.sl false 9 1 (List.map strc (l))))), (1, .one (.d (.v (.string (s))))), (5, .one (.d (.v (.int .i64 (IntKind.wrap .i64 ((j : Int) + 1))))))] []) [⟨[5], some 10, [], []⟩, ⟨[10], some 11, [], []⟩, ⟨[11], some 5, [], []⟩] (fun k9 => ?_) ?_
    ·skip
     refine .move (.no rfl) rfl rfl rfl rfl ?_
     refine .bin (.no rfl) rfl rfl rfl rfl rfl rfl ?_
     refine .assign (.no rfl) rfl rfl rfl rfl ?_
     exact .fin () (.of (.cons rfl (.cons rfl (.cons rfl .nil))) .nil)
    intro _
    exact .here (j + 1) (.of (.cons rfl (.cons rfl (.cons (svI (show (IntKind.wrap .i64 ((j : Int) + 1)) = (((j + 1) : Int)) by first | rfl | omega | exact wrap_le (by omega) (by omega) | (rw [wrap_le (by omega) (by omega)]; omega))) .nil))) .nil) ⟨(show (j + 1) ≤ l.length ∧ allTo (j + 1) (fun i => !strEq (l.getD i default) s) = true by exact ⟨by omega, allTo_step hI.2 (by rw [show strEq (l.getD j default) s = false from c1]; rfl)⟩), (show l.length - (j + 1) < l.length - j by omega)⟩
  ·have c0 := of_decide_eq_false c0
   refine .exit ?_
   refine .seq ?_
   refine .reg (X := Unit) (fun ζ => .of [(4, .one (.d (.v (.int .i64 (-1)))))] []) [⟨[], some 4, [], []⟩] (fun k10 => ?_) ?_
   ·skip
    refine .assign (.no rfl) rfl rfl rfl rfl ?_
    exact .fin () (.of (.cons rfl .nil) .nil)
   intro _
   refine .ret ?_
   have e11 : (-1) = (place l s) := by exact (idx_none (p := fun x => strEq x s) (j := j) (by omega) hI.2).symm
   have hc12 := eq1 (fun z1 => SV.one (.d (.v (.int .i64 (z1))))) e11
   show _ ∧ _
   exact ⟨.inr rfl, .done ⟨_, [], [], _, .one (c := .d (.v (.int .i64 (place l s)))) (hc12) .nil, .cons (Reads.d _).gives .nil, nodupB_ok rfl, by simp, (by simp)⟩⟩
theorem c_l6List (e : Env) (hb : e.ints.length ≤ 1048576 ∧ e.arrs.length ≤ 1048576) : Trip Tryz.prog 116 [(true, 3)] (Env.c77 e) [(false, 1)] [.sl true 122 2 (List.map Iv.c (e.ints ++ e.arrs))] [] := by
 refine Trip.of Tryz.func116 (by decide) (c := _) rfl rfl (shB_ok rfl) (Nat.le_of_ble_eq_true rfl) rfl (AftOk.nil _) ?_
 refine .satA (t := 0) (i := 1) rfl rfl (fun hs1 => ?_)
 have hs1l : e.ints.length ≤ 9223372036854775807 := hs1.maplen
 refine .satA (t := 0) (i := 2) rfl rfl (fun hs2 => ?_)
 have hs2l : e.arrs.length ≤ 9223372036854775807 := hs2.maplen
 refine .seq ?_
 refine .reg (X := Nat) (fun ζ => .of [(1, .one (.ptr [1] (ζ) 0))] [([1], (ζ, ζ, .box [.d (.v (.bool (e.live))), .d (.sl false 122 2 (List.map Iv.c (e.ints))), .d (.sl false 122 2 (List.map Iv.c (e.arrs)))]))]) [⟨[0], some 1, [], [[1]]⟩, ⟨[], some 2, [], []⟩] (fun k3 => ?_) ?_
 ·skip
  refine .box (.no rfl) rfl rfl rfl rfl rfl ?_
  refine .assign (.no rfl) rfl rfl rfl rfl ?_
  exact .fin k3 (.of (.cons rfl .nil) (.cons rfl .nil))
 intro g4
 refine .seq ?_
 refine .regD (X := Nat) (by kernel_rfl) (fun ζ => .of [(2, .one (.ref [3] (ζ)))] [([3], (ζ, ζ, .row 122 2 (List.map Iv.c (e.ints ++ e.arrs))))]) [⟨[], some 3, [], [[3]]⟩, ⟨[1], some 4, [], []⟩, ⟨[4], some 5, [[1]], []⟩, ⟨[3, 5], some 6, [[3]], [[3]]⟩, ⟨[1], some 7, [], []⟩, ⟨[7], some 8, [[1]], []⟩, ⟨[6, 8], some 9, [[3]], [[3]]⟩, ⟨[9], some 2, [], []⟩] (by kernel_rfl) (fun k5 => ?_) ?_
 ·skip
  refine .buildSlice (.no rfl) rfl (els := []) t75 rfl z122 rfl rfl rfl rfl rfl rfl rfl rfl (by simp [i122]) .nil rfl rfl rfl ?_
  refine .fieldAddrP (.no rfl) rfl t77 rfl rfl t75 rfl rfl rfl rfl ?_
  refine .load (.no rfl) rfl t75 rfl rfl (.ptr _ _ _ _ _ rfl) rfl rfl rfl rfl ?_
  refine .append (.no rfl) rfl (l3 := List.map Iv.c (e.ints)) t75 rfl z122 rfl rfl rfl rfl rfl rfl rfl rfl (.ref _ _ _ _ rfl) (.ro _ _) rfl (by simp [i122]; omega) (List.nil_append _) rfl rfl ?_
  refine .fieldAddrP (.no rfl) rfl t77 rfl rfl t75 rfl rfl rfl rfl ?_
  refine .load (.no rfl) rfl t75 rfl rfl (.ptr _ _ _ _ _ rfl) rfl rfl rfl rfl ?_
  refine .append (.no rfl) rfl (l3 := List.map Iv.c (e.ints ++ e.arrs)) t75 rfl z122 rfl rfl rfl rfl rfl rfl rfl rfl (.ref _ _ _ _ rfl) (.ro _ _) rfl (by simp [i122]; omega) (map_app _ _ _) rfl rfl ?_
  refine .assign (.no rfl) rfl rfl rfl rfl ?_
  exact .fin (k5 + 1 + 1 + 1 + 1 + 1 + 1) (.of (.cons rfl .nil) (.cons rfl .nil))
 intro g6
 refine .ret ?_
 show _ ∧ _
 exact ⟨.inr rfl, .done ⟨_, [], [([3], (g6, g6, .row 122 2 (List.map Iv.c (e.ints ++ e.arrs))))], _, .one rfl .nil, .cons (.ref (.head _)) .nil, nodupB_ok rfl, by simp, (AllH.get (.cons rfl .nil))⟩⟩
theorem c_l6Copy (e : Env) (hb : e.ints.length ≤ 1048576 ∧ e.arrs.length ≤ 1048576) : Trip Tryz.prog 168 [(true, 3)] (Env.c77 e) [(true, 3)] [.v (.bool (e.live)), .sl true 122 2 (List.map Iv.c (e.ints)), .sl true 122 2 (List.map Iv.c (e.arrs))] [] := by
 refine Trip.of Tryz.func168 (by decide) (c := _) rfl rfl (shB_ok rfl) (Nat.le_of_ble_eq_true rfl) rfl (AftOk.nil _) ?_
 refine .satA (t := 0) (i := 1) rfl rfl (fun hs1 => ?_)
 have hs1l : e.ints.length ≤ 9223372036854775807 := hs1.maplen
 refine .satA (t := 0) (i := 2) rfl rfl (fun hs2 => ?_)
 have hs2l : e.arrs.length ≤ 9223372036854775807 := hs2.maplen
 refine .seq ?_
 refine .reg (X := Nat × Nat) (fun ζ => .of [(1, .one (.ptr [1] (ζ.1) 0)), (2, .one (.ptr [2] (ζ.2) 0))] [([1], (ζ.1, ζ.1, .box [.d (.v (.bool (e.live))), .d (.sl false 122 2 (List.map Iv.c (e.ints))), .d (.sl false 122 2 (List.map Iv.c (e.arrs)))])), ([2], (ζ.2, ζ.2, .box [.d (.v (.bool (false))), .d (.v (.slice none 0 0)), .d (.v (.slice none 0 0))]))]) [⟨[0], some 1, [], [[1]]⟩, ⟨[], some 2, [], [[2]]⟩] (fun k3 => ?_) ?_
 ·skip
  refine .box (.no rfl) rfl rfl rfl rfl rfl ?_
  refine .alloc (.no rfl) rfl z77 rfl rfl rfl ?_
  exact .fin (k3, k3 + 1) (.of (.cons rfl (.cons rfl .nil)) (.cons rfl (.cons rfl .nil)))
 rintro ⟨g4, g5⟩
 refine .seq ?_
 refine .regD (X := Nat × Nat × Nat) (by kernel_rfl) (fun ζ => .of [(2, .one (.ptr [2] (g5) 0))] [([2], (g5, ζ.1, .box [.d (.v (.bool (e.live))), .ref [5] (ζ.2.1), .ref [9] (ζ.2.2)])), ([5], (ζ.2.1, ζ.2.1, .row 122 2 (List.map Iv.c (e.ints)))), ([9], (ζ.2.2, ζ.2.2, .row 122 2 (List.map Iv.c (e.arrs))))]) [⟨[1], some 3, [], []⟩, ⟨[3], some 4, [[1]], []⟩, ⟨[], some 5, [], [[5]]⟩, ⟨[1], some 6, [], []⟩, ⟨[6], some 7, [[1]], []⟩, ⟨[5, 7], some 8, [[5]], [[5]]⟩, ⟨[], some 9, [], [[9]]⟩, ⟨[1], some 10, [], []⟩, ⟨[10], some 11, [[1]], []⟩, ⟨[9, 11], some 12, [[9]], [[9]]⟩, ⟨[4, 8, 12], some 13, [], []⟩, ⟨[2, 13], none, [[2]], [[2]]⟩] (by kernel_rfl) (fun k6 => ?_) ?_
 ·skip
  refine .fieldAddrP (.no rfl) rfl t77 rfl rfl t4 rfl rfl rfl rfl ?_
  refine .load (.no rfl) rfl t4 rfl rfl (.ptr _ _ _ _ _ rfl) rfl rfl rfl rfl ?_
  refine .buildSlice (.no rfl) rfl (els := []) t75 rfl z122 rfl rfl rfl rfl rfl rfl rfl rfl (by simp [i122]) .nil rfl rfl rfl ?_
  refine .fieldAddrP (.no rfl) rfl t77 rfl rfl t75 rfl rfl rfl rfl ?_
  refine .load (.no rfl) rfl t75 rfl rfl (.ptr _ _ _ _ _ rfl) rfl rfl rfl rfl ?_
  refine .append (.no rfl) rfl (l3 := List.map Iv.c (e.ints)) t75 rfl z122 rfl rfl rfl rfl rfl rfl rfl rfl (.ref _ _ _ _ rfl) (.ro _ _) rfl (by simp [i122]; omega) (List.nil_append _) rfl rfl ?_
  refine .buildSlice (.no rfl) rfl (els := []) t75 rfl z122 rfl rfl rfl rfl rfl rfl rfl rfl (by simp [i122]) .nil rfl rfl rfl ?_
  refine .fieldAddrP (.no rfl) rfl t77 rfl rfl t75 rfl rfl rfl rfl ?_
  refine .load (.no rfl) rfl t75 rfl rfl (.ptr _ _ _ _ _ rfl) rfl rfl rfl rfl ?_
  refine .append (.no rfl) rfl (l3 := List.map Iv.c (e.arrs)) t75 rfl z122 rfl rfl rfl rfl rfl rfl rfl rfl (.ref _ _ _ _ rfl) (.ro _ _) rfl (by simp [i122]; omega) (List.nil_append _) rfl rfl ?_
  refine .build (.no rfl) rfl z77 rfl p77 rfl rfl rfl rfl ?_
  refine .store (.no rfl) rfl t77 rfl rfl rfl rfl rfl rfl rfl rfl rfl ?_
  exact .fin (k6 + 1 + 1 + 1 + 1 + 1 + 1 + 1 + 1 + 1 + 1 + 1, k6 + 1 + 1 + 1 + 1 + 1, k6 + 1 + 1 + 1 + 1 + 1 + 1 + 1 + 1 + 1) (.of (.cons rfl .nil) (.cons rfl (.cons rfl (.cons rfl .nil))))
 rintro ⟨g7, g8, g9⟩
 refine .ret ?_
 show _ ∧ _
 exact ⟨.inr rfl, .done ⟨_, [], [([5], (g8, g8, .row 122 2 (List.map Iv.c (e.ints)))), ([9], (g9, g9, .row 122 2 (List.map Iv.c (e.arrs))))], _, .cell (cells := [.d (.v (.bool (e.live))), .ref [5] (g8), .ref [9] (g9)]) rfl rfl t77 rfl rfl .nil, .cons (Reads.d _).gives (.cons (.ref (.head _)) (.cons (.ref (.tail _ (.head _))) .nil)), nodupB_ok rfl, by simp, (AllH.get (.cons rfl (.cons rfl .nil)))⟩⟩
end Go.Proofs

namespace Go.Proofs
open Go Go.Proofs Go.Ev

theorem c_sDeclOk (d : Decl) (hs : ∀ x ∈ Decl.names d, x.size ≤ 9223372036854775807) (hb : d.vars.length ≤ 1048576 ∧ d.flags.length ≤ 1048576 ∧ d.arrays.length ≤ 1048576) : Trip Tryz.prog 58 [(true, 3)] (Decl.c38 d) [(false, 1)] [.v (.bool (Decl.ok d))] [] := by
 refine Trip.of Tryz.func58 (by decide) (c := _) rfl rfl (shB_ok rfl) (Nat.le_of_ble_eq_true rfl) rfl (AftOk.nil _) ?_
 refine .satA (t := 0) (i := 0) rfl rfl (fun hs1 => ?_)
 have hs1l : d.vars.length ≤ 9223372036854775807 := hs1.maplen
 refine .satA (t := 0) (i := 1) rfl rfl (fun hs2 => ?_)
 have hs2l : d.flags.length ≤ 9223372036854775807 := hs2.maplen
 refine .satA (t := 0) (i := 2) rfl rfl (fun hs3 => ?_)
 have hs3l : d.arrays.length ≤ 9223372036854775807 := hs3.maplen
 refine .seq ?_
 refine .reg (X := Nat) (fun ζ => .of [(1, .one (.ptr [1] (ζ) 0))] [([1], (ζ, ζ, .box [.d (.sl false 9 1 (List.map strc (d.vars))), .d (.sl false 9 1 (List.map strc (d.flags))), .d (.sl false 119 2 (List.map Arr.c (d.arrays)))]))]) [⟨[0], some 1, [], [[1]]⟩, ⟨[], some 2, [], []⟩] (fun k4 => ?_) ?_
 ·skip
  refine .box (.no rfl) rfl rfl rfl rfl rfl ?_
  refine .assign (.no rfl) rfl rfl rfl rfl ?_
  exact .fin k4 (.of (.cons rfl .nil) (.cons rfl .nil))
 intro g5
 refine .seq ?_
 refine .seq ?_
 refine .reg (X := Unit) (fun ζ => .of [(1, .one (.ptr [1] (g5) 0)), (21, .one (.d (.v (.bool (((decide ((d.vars.length : Int) > 5) || decide ((d.flags.length : Int) > 3)) || decide ((d.arrays.length : Int) > 2)))))))] [([1], (g5, g5, .box [.d (.sl false 9 1 (List.map strc (d.vars))), .d (.sl false 9 1 (List.map strc (d.flags))), .d (.sl false 119 2 (List.map Arr.c (d.arrays)))]))]) [⟨[1], some 6, [], []⟩, ⟨[6], some 7, [[1]], []⟩, ⟨[7], some 8, [], []⟩, ⟨[8], some 9, [], []⟩, ⟨[9], some 10, [], []⟩, ⟨[10, 1], some 11, [], []⟩, ⟨[10, 11], some 12, [[1]], []⟩, ⟨[10, 12], some 13, [], []⟩, ⟨[10, 13], some 14, [], []⟩, ⟨[10, 14], some 15, [], []⟩, ⟨[15], some 16, [], []⟩, ⟨[16, 1], some 17, [], []⟩, ⟨[16, 17], some 18, [[1]], []⟩, ⟨[16, 18], some 19, [], []⟩, ⟨[16, 19], some 20, [], []⟩, ⟨[16, 20], some 21, [], []⟩] (fun k6 => ?_) ?_
 ·skip
  refine .fieldAddrP (.no rfl) rfl t38 rfl rfl t22 rfl rfl rfl rfl ?_
  refine .load (.no rfl) rfl t22 rfl rfl (.ptr _ _ _ _ _ rfl) rfl rfl rfl rfl ?_
  refine .len (.no rfl) rfl (z := (d.vars.length : Int)) t22 rfl rfl rfl (.d _ _) (map_len _ _) rfl ?_
  refine .bin (.no rfl) rfl rfl rfl rfl rfl rfl ?_
  refine .moveB (.no rfl) rfl rfl rfl rfl fun b7 g1_4 => ?_
  cases b7
  ·skip
   refine .fieldAddrP (.on rfl rfl rfl rfl rfl) rfl t38 rfl rfl t22 rfl rfl rfl rfl ?_
   refine .load (.on rfl rfl rfl rfl rfl) rfl t22 rfl rfl (.ptr _ _ _ _ _ rfl) rfl rfl rfl rfl ?_
   refine .len (.on rfl rfl rfl rfl rfl) rfl (z := (d.flags.length : Int)) t22 rfl rfl rfl (.d _ _) (map_len _ _) rfl ?_
   refine .bin (.on rfl rfl rfl rfl rfl) rfl rfl rfl rfl rfl rfl ?_
   refine .pick (.no rfl) rfl rfl rfl rfl rfl ?_
   refine .moveB (.no rfl) rfl rfl rfl rfl fun b8 g1_10 => ?_
   cases b8
   ·skip
    refine .fieldAddrP (.on rfl rfl rfl rfl rfl) rfl t38 rfl rfl t36 rfl rfl rfl rfl ?_
    refine .load (.on rfl rfl rfl rfl rfl) rfl t36 rfl rfl (.ptr _ _ _ _ _ rfl) rfl rfl rfl rfl ?_
    refine .len (.on rfl rfl rfl rfl rfl) rfl (z := (d.arrays.length : Int)) t36 rfl rfl rfl (.d _ _) (map_len _ _) rfl ?_
    refine .bin (.on rfl rfl rfl rfl rfl) rfl rfl rfl rfl rfl rfl ?_
    refine .pick (.no rfl) rfl rfl rfl rfl rfl ?_
    exact .fin () (.of (.cons rfl (.cons (svB (show (decide ((d.arrays.length : Int) > 2)) = (((decide ((d.vars.length : Int) > 5) || decide ((d.flags.length : Int) > 3)) || decide ((d.arrays.length : Int) > 2))) by first | (simp only [g1_4, g1_10, Bool.true_or, Bool.false_or, Bool.true_and, Bool.false_and, Bool.not_true, Bool.not_false]; done) | simp [g1_4, g1_10])) .nil)) (.cons rfl .nil))
   ·skip
    refine .off rfl rfl rfl rfl rfl rfl rfl ?_
    refine .off rfl rfl rfl rfl rfl rfl rfl ?_
    refine .off rfl rfl rfl rfl rfl rfl rfl ?_
    refine .off rfl rfl rfl rfl rfl rfl rfl ?_
    refine .pick (.no rfl) rfl rfl rfl rfl rfl ?_
    exact .fin () (.of (.cons rfl (.cons (svB (show (true) = (((decide ((d.vars.length : Int) > 5) || decide ((d.flags.length : Int) > 3)) || decide ((d.arrays.length : Int) > 2))) by first | (simp only [g1_4, g1_10, Bool.true_or, Bool.false_or, Bool.true_and, Bool.false_and, Bool.not_true, Bool.not_false]; done) | simp [g1_4, g1_10])) .nil)) (.cons rfl .nil))
  ·skip
   refine .off rfl rfl rfl rfl rfl rfl rfl ?_
   refine .off rfl rfl rfl rfl rfl rfl rfl ?_
   refine .off rfl rfl rfl rfl rfl rfl rfl ?_
   refine .off rfl rfl rfl rfl rfl rfl rfl ?_
   refine .pick (.no rfl) rfl rfl rfl rfl rfl ?_
   refine .move (.no rfl) rfl rfl rfl rfl ?_
   refine .off rfl rfl rfl rfl rfl rfl rfl ?_
   refine .off rfl rfl rfl rfl rfl rfl rfl ?_
   refine .off rfl rfl rfl rfl rfl rfl rfl ?_
   refine .off rfl rfl rfl rfl rfl rfl rfl ?_
   refine .pick (.no rfl) rfl rfl rfl rfl rfl ?_
   exact .fin () (.of (.cons rfl (.cons (svB (show (true) = (((decide ((d.vars.length : Int) > 5) || decide ((d.flags.length : Int) > 3)) || decide ((d.arrays.length : Int) > 2))) by first | (simp only [g1_4, Bool.true_or, Bool.false_or, Bool.true_and, Bool.false_and, Bool.not_true, Bool.not_false]; done) | simp [g1_4])) .nil)) (.cons rfl .nil))
 intro _
 refine .cond (t := ((decide ((d.vars.length : Int) > 5) || decide ((d.flags.length : Int) > 3)) || decide ((d.arrays.length : Int) > 2))) rfl (fun c0 => ?_) (fun c0 => ?_)
 ·have c0 := c0
  try simp only [Bool.or_eq_true, Bool.or_eq_false_iff, Bool.and_eq_true, Bool.and_eq_false_iff, decide_eq_true_eq, decide_eq_false_iff_not, Bool.not_eq_true', Bool.not_eq_false', bne_iff_ne, beq_iff_eq, bne_eq_false_iff_eq, beq_eq_false_iff_ne, ne_eq, Bool.not_eq_eq_eq_not, Bool.not_true, Bool.not_false] at c0
  refine .seq ?_
  refine .reg (X := Unit) (fun ζ => .of [(2, .one (.d (.v (.bool (false)))))] []) [⟨[], some 2, [], []⟩] (fun k9 => ?_) ?_
  ·skip
   refine .assign (.no rfl) rfl rfl rfl rfl ?_
   exact .fin () (.of (.cons rfl .nil) .nil)
  intro _
  refine .ret ?_
  have e10 : (false) = (Decl.ok d) := by exact (Decl.ok_ne (by omega)).symm
  have hc11 := eq1 (fun z1 => SV.one (.d (.v (.bool (z1))))) e10
  show _ ∧ _
  exact ⟨.inr rfl, .done ⟨_, [], [], _, .one (c := .d (.v (.bool (Decl.ok d)))) (hc11) .nil, .cons (Reads.d _).gives .nil, nodupB_ok rfl, by simp, (by simp)⟩⟩
 ·have c0 := c0
  try simp only [Bool.or_eq_true, Bool.or_eq_false_iff, Bool.and_eq_true, Bool.and_eq_false_iff, decide_eq_true_eq, decide_eq_false_iff_not, Bool.not_eq_true', Bool.not_eq_false', bne_iff_ne, beq_iff_eq, bne_eq_false_iff_eq, beq_eq_false_iff_ne, ne_eq, Bool.not_eq_eq_eq_not, Bool.not_true, Bool.not_false] at c0
  refine .skip ?_
  refine .seq ?_
  refine .regD (X := Nat) (by kernel_rfl) (fun ζ => .of [(1, .one (.ptr [1] (g5) 0)), (3, .one (.ref [22] (ζ)))] [([1], (g5, g5, .box [.d (.sl false 9 1 (List.map strc (d.vars))), .d (.sl false 9 1 (List.map strc (d.flags))), .d (.sl false 119 2 (List.map Arr.c (d.arrays)))])), ([22], (ζ, ζ, .row 9 1 (List.map strc (d.vars ++ d.flags))))]) [⟨[], some 22, [], [[22]]⟩, ⟨[1], some 23, [], []⟩, ⟨[23], some 24, [[1]], []⟩, ⟨[22, 24], some 25, [[22]], [[22]]⟩, ⟨[1], some 26, [], []⟩, ⟨[26], some 27, [[1]], []⟩, ⟨[25, 27], some 28, [[22]], [[22]]⟩, ⟨[28], some 3, [], []⟩] (by kernel_rfl) (fun k12 => ?_) ?_
  ·skip
   refine .buildSlice (.no rfl) rfl (els := []) t22 rfl z9 rfl rfl rfl rfl rfl rfl rfl rfl (by simp [i9]) .nil rfl rfl rfl ?_
   refine .fieldAddrP (.no rfl) rfl t38 rfl rfl t22 rfl rfl rfl rfl ?_
   refine .load (.no rfl) rfl t22 rfl rfl (.ptr _ _ _ _ _ rfl) rfl rfl rfl rfl ?_
   refine .append (.no rfl) rfl (l3 := List.map strc (d.vars)) t22 rfl z9 rfl rfl rfl rfl rfl rfl rfl rfl (.ref _ _ _ _ rfl) (.ro _ _) rfl (by simp [i9]; omega) (List.nil_append _) rfl rfl ?_
   refine .fieldAddrP (.no rfl) rfl t38 rfl rfl t22 rfl rfl rfl rfl ?_
   refine .load (.no rfl) rfl t22 rfl rfl (.ptr _ _ _ _ _ rfl) rfl rfl rfl rfl ?_
   refine .append (.no rfl) rfl (l3 := List.map strc (d.vars ++ d.flags)) t22 rfl z9 rfl rfl rfl rfl rfl rfl rfl rfl (.ref _ _ _ _ rfl) (.ro _ _) rfl (by simp [i9]; omega) (map_app _ _ _) rfl rfl ?_
   refine .assign (.no rfl) rfl rfl rfl rfl ?_
   exact .fin (k12 + 1 + 1 + 1 + 1 + 1 + 1) (.of (.cons rfl (.cons rfl .nil)) (.cons rfl (.cons rfl .nil)))
  intro g13
  refine .seq ?_
  refine .seq ?_
  refine .reg (X := Unit) (fun ζ => .of [(1, .one (.ptr [1] (g5) 0)), (3, .one (.ref [22] (g13))), (4, .one (.d (.v (.int .i64 (0)))))] [([1], (g5, g5, .box [.d (.sl false 9 1 (List.map strc (d.vars))), .d (.sl false 9 1 (List.map strc (d.flags))), .d (.sl false 119 2 (List.map Arr.c (d.arrays)))])), ([22], (g13, g13, .row 9 1 (List.map strc (d.vars ++ d.flags))))]) [⟨[], some 4, [], []⟩] (fun k14 => ?_) ?_
  ·skip
   refine .assign (.no rfl) rfl rfl rfl rfl ?_
   exact .fin () (.of (.cons rfl (.cons rfl (.cons rfl .nil))) (.cons rfl (.cons rfl .nil)))
  intro _
  refine .block ?_
  refine .loop (X := Nat × Nat × Nat) (fun ζ => .of [(1, .one (.ptr [1] (g5) 0)), (3, .one (.ref [22] (ζ.2.1))), (4, .one (.d (.v (.int .i64 ((ζ.1 : Int))))))] [([1], (g5, g5, .box [.d (.sl false 9 1 (List.map strc (d.vars))), .d (.sl false 9 1 (List.map strc (d.flags))), .d (.sl false 119 2 (List.map Arr.c (d.arrays)))])), ([22], (ζ.2.1, ζ.2.2, .row 9 1 (List.map strc (d.vars ++ d.flags ++ (d.arrays.take ζ.1).map Arr.name))))]) (fun ζ => ζ.1 ≤ d.arrays.length ∧ allTo ζ.1 (fun i => inR (d.arrays.getD i default).size 1 16) = true) (fun ζ => d.arrays.length - ζ.1) ?_ ?_
  ·skip
   exact .here (0, g13, g13) (.of (.cons rfl (.cons rfl (.cons (svI (show (0) = ((0 : Int)) by first | rfl | omega | exact wrap_le (by omega) (by omega) | (rw [wrap_le (by omega) (by omega)]; omega))) .nil))) (.cons rfl (.cons (rowE (show List.map strc (d.vars ++ d.flags) = List.map strc (d.vars ++ d.flags ++ (d.arrays.take 0).map Arr.name) by first | (simp; done) | (rw [List.append_assoc (d.vars ++ d.flags), take_step (f := Arr.name) (by omega)]) | (simp only [Decl.names]; rw [List.take_of_length_le (by omega)]))) .nil))) (show 0 ≤ d.arrays.length ∧ allTo 0 (fun i => inR (d.arrays.getD i default).size 1 16) = true by exact ⟨by omega, rfl⟩)
  ·rintro ⟨j, q15, q16⟩ hI
   have hI : j ≤ d.arrays.length ∧ allTo j (fun i => inR (d.arrays.getD i default).size 1 16) = true := hI
   refine .seq ?_
   refine .seq ?_
   refine .reg (X := Unit) (fun ζ => .of [(1, .one (.ptr [1] (g5) 0)), (3, .one (.ref [22] (q15))), (4, .one (.d (.v (.int .i64 ((j : Int)))))), (33, .one (.d (.v (.bool (decide ((j : Int) < (d.arrays.length : Int)))))))] [([1], (g5, g5, .box [.d (.sl false 9 1 (List.map strc (d.vars))), .d (.sl false 9 1 (List.map strc (d.flags))), .d (.sl false 119 2 (List.map Arr.c (d.arrays)))])), ([22], (q15, q16, .row 9 1 (List.map strc (d.vars ++ d.flags ++ (d.arrays.take j).map Arr.name))))]) [⟨[4], some 29, [], []⟩, ⟨[1], some 30, [], []⟩, ⟨[30], some 31, [[1]], []⟩, ⟨[31], some 32, [], []⟩, ⟨[29, 32], some 33, [], []⟩] (fun k17 => ?_) ?_
   ·skip
    refine .move (.no rfl) rfl rfl rfl rfl ?_
    refine .fieldAddrP (.no rfl) rfl t38 rfl rfl t36 rfl rfl rfl rfl ?_
    refine .load (.no rfl) rfl t36 rfl rfl (.ptr _ _ _ _ _ rfl) rfl rfl rfl rfl ?_
    refine .len (.no rfl) rfl (z := (d.arrays.length : Int)) t36 rfl rfl rfl (.d _ _) (map_len _ _) rfl ?_
    refine .bin (.no rfl) rfl rfl rfl rfl rfl rfl ?_
    exact .fin () (.of (.cons rfl (.cons rfl (.cons rfl (.cons rfl .nil)))) (.cons rfl (.cons rfl .nil)))
   intro _
   refine .cond (t := decide ((j : Int) < (d.arrays.length : Int))) rfl (fun c1 => ?_) (fun c1 => ?_)
   ·have c1 := of_decide_eq_true c1
    refine .skip ?_
    refine .seq ?_
    refine .block ?_
    refine .seq ?_
    refine .seq ?_
    refine .reg (X := Unit) (fun ζ => .of [(1, .one (.ptr [1] (g5) 0)), (3, .one (.ref [22] (q15))), (4, .one (.d (.v (.int .i64 ((j : Int)))))), (43, .one (.d (.v (.bool (!(inR ((d.arrays.getD j default).size) 1 16))))))] [([1], (g5, g5, .box [.d (.sl false 9 1 (List.map strc (d.vars))), .d (.sl false 9 1 (List.map strc (d.flags))), .d (.sl false 119 2 (List.map Arr.c (d.arrays)))])), ([22], (q15, q16, .row 9 1 (List.map strc (d.vars ++ d.flags ++ (d.arrays.take j).map Arr.name))))]) [⟨[1], some 36, [], []⟩, ⟨[36], some 37, [[1]], []⟩, ⟨[4], some 38, [], []⟩, ⟨[37, 38], some 39, [], []⟩, ⟨[39], some 40, [], []⟩, ⟨[40], some 41, [], []⟩, ⟨[41], some 42, [], []⟩, ⟨[42], some 43, [], []⟩] (fun k18 => ?_) ?_
    ·skip
     refine .fieldAddrP (.no rfl) rfl t38 rfl rfl t36 rfl rfl rfl rfl ?_
     refine .load (.no rfl) rfl t36 rfl rfl (.ptr _ _ _ _ _ rfl) rfl rfl rfl rfl ?_
     refine .move (.no rfl) rfl rfl rfl rfl ?_
     refine .indexAddr (.no rfl) rfl (j) t36 rfl t119 rfl rfl rfl (.d _ _) rfl rfl rfl (map_get (by omega)) rfl rfl ?_
     refine .fieldAddr (.no rfl) rfl t119 rfl rfl t2 rfl rfl rfl rfl [] (by simp) (by intro _ _ _ h; cases h) rfl rfl ?_
     refine .load (.no rfl) rfl t2 rfl rfl (.d _) rfl rfl rfl rfl ?_
     refine .call (.no rfl) rfl [] [] (c_l1In ((d.arrays.getD j default).size) 1 16) rfl rfl rfl rfl rfl (.cons (Reads.d _).gives (.cons (Reads.d _).gives (.cons (Reads.d _).gives .nil))) rfl rfl (fun h => absurd rfl h) (.own [42, 0] .nil) (.nil) rfl rfl rfl (by simp) rfl rfl rfl ?_
     refine .un (.no rfl) rfl rfl rfl rfl rfl ?_
     exact .fin () (.of (.cons rfl (.cons rfl (.cons rfl (.cons rfl .nil)))) (.cons rfl (.cons rfl .nil)))
    intro _
    refine .cond (t := !(inR ((d.arrays.getD j default).size) 1 16)) rfl (fun c2 => ?_) (fun c2 => ?_)
    ·have c2 := c2
     try simp only [Bool.or_eq_true, Bool.or_eq_false_iff, Bool.and_eq_true, Bool.and_eq_false_iff, decide_eq_true_eq, decide_eq_false_iff_not, Bool.not_eq_true', Bool.not_eq_false', bne_iff_ne, beq_iff_eq, bne_eq_false_iff_eq, beq_eq_false_iff_ne, ne_eq, Bool.not_eq_eq_eq_not, Bool.not_true, Bool.not_false] at c2
     refine .seq ?_
     refine .reg (X := Unit) (fun ζ => .of [(2, .one (.d (.v (.bool (false)))))] []) [⟨[], some 2, [], []⟩] (fun k19 => ?_) ?_
     ·skip
      refine .assign (.no rfl) rfl rfl rfl rfl ?_
      exact .fin () (.of (.cons rfl .nil) .nil)
     intro _
     refine .ret ?_
     have e20 : (false) = (Decl.ok d) := by exact (Decl.ok_size (j := j) (by omega) c2).symm
     have hc21 := eq1 (fun z1 => SV.one (.d (.v (.bool (z1))))) e20
     show _ ∧ _
     exact ⟨.inr rfl, .done ⟨_, [], [], _, .one (c := .d (.v (.bool (Decl.ok d)))) (hc21) .nil, .cons (Reads.d _).gives .nil, nodupB_ok rfl, by simp, (by simp)⟩⟩
    ·have c2 := c2
     try simp only [Bool.or_eq_true, Bool.or_eq_false_iff, Bool.and_eq_true, Bool.and_eq_false_iff, decide_eq_true_eq, decide_eq_false_iff_not, Bool.not_eq_true', Bool.not_eq_false', bne_iff_ne, beq_iff_eq, bne_eq_false_iff_eq, beq_eq_false_iff_ne, ne_eq, Bool.not_eq_eq_eq_not, Bool.not_true, Bool.not_false] at c2
     refine .skip ?_
     refine .reg (X := Nat) (fun ζ => .of [(1, .one (.ptr [1] (g5) 0)), (3, .one (.ref [22] (ζ))), (4, .one (.d (.v (.int .i64 ((j : Int))))))] [([1], (g5, g5, .box [.d (.sl false 9 1 (List.map strc (d.vars))), .d (.sl false 9 1 (List.map strc (d.flags))), .d (.sl false 119 2 (List.map Arr.c (d.arrays)))])), ([22], (ζ, ζ, .row 9 1 (List.map strc (d.vars ++ d.flags ++ (d.arrays.take j).map Arr.name ++ [(d.arrays.getD j default).name]))))]) [⟨[3], some 44, [], []⟩, ⟨[1], some 45, [], []⟩, ⟨[45], some 46, [[1]], []⟩, ⟨[4], some 47, [], []⟩, ⟨[46, 47], some 48, [], []⟩, ⟨[48], some 49, [], []⟩, ⟨[49], some 50, [], []⟩, ⟨[50], some 51, [], [[51]]⟩, ⟨[44, 51], some 52, [[22], [51]], [[51], [22]]⟩, ⟨[52], some 3, [], []⟩] (fun k22 => ?_) ?_
     ·skip
      refine .move (.no rfl) rfl rfl rfl rfl ?_
      refine .fieldAddrP (.no rfl) rfl t38 rfl rfl t36 rfl rfl rfl rfl ?_
      refine .load (.no rfl) rfl t36 rfl rfl (.ptr _ _ _ _ _ rfl) rfl rfl rfl rfl ?_
      refine .move (.no rfl) rfl rfl rfl rfl ?_
      refine .indexAddr (.no rfl) rfl (j) t36 rfl t119 rfl rfl rfl (.d _ _) rfl rfl rfl (map_get (by omega)) rfl rfl ?_
      refine .fieldAddr (.no rfl) rfl t119 rfl rfl t9 rfl rfl rfl rfl [] (by simp) (by intro _ _ _ h; cases h) rfl rfl ?_
      refine .load (.no rfl) rfl t9 rfl rfl (.d _) rfl rfl rfl rfl ?_
      refine .buildSlice (.no rfl) rfl (els := [[.v (.string ((d.arrays.getD j default).name))]]) t22 rfl z9 rfl rfl rfl rfl rfl rfl rfl rfl (by simp [i9]) (.cons _ _ _ _ _ _ (.d _) .nil) rfl rfl rfl ?_
      refine .append (.no rfl) rfl (l3 := List.map strc (d.vars ++ d.flags ++ (d.arrays.take j).map Arr.name ++ [(d.arrays.getD j default).name])) t22 rfl z9 rfl rfl rfl rfl rfl rfl rfl rfl (.ref _ _ _ _ rfl) (.take _ _ _ _ _ rfl) rfl (by simp [i9]; omega) (map_snoc _ _ _) rfl rfl ?_
      refine .assign (.no rfl) rfl rfl rfl rfl ?_
      exact .fin (k22 + 1 + 1 + 1 + 1 + 1 + 1 + 1 + 1) (.of (.cons rfl (.cons rfl (.cons rfl .nil))) (.cons rfl (.cons rfl .nil)))
     intro g23
     refine .reg (X := Unit) (fun ζ => .of [(1, .one (.ptr [1] (g5) 0)), (3, .one (.ref [22] (g23))), (4, .one (.d (.v (.int .i64 (IntKind.wrap .i64 ((j : Int) + 1))))))] [([1], (g5, g5, .box [.d (.sl false 9 1 (List.map strc (d.vars))), .d (.sl false 9 1 (List.map strc (d.flags))), .d (.sl false 119 2 (List.map Arr.c (d.arrays)))])), ([22], (g23, g23, .row 9 1 (List.map strc (d.vars ++ d.flags ++ (d.arrays.take j).map Arr.name ++ [(d.arrays.getD j default).name]))))]) [⟨[4], some 34, [], []⟩, ⟨[34], some 35, [], []⟩, ⟨[35], some 4, [], []⟩] (fun k24 => ?_) ?_
     ·skip
      refine .move (.no rfl) rfl rfl rfl rfl ?_
      refine .bin (.no rfl) rfl rfl rfl rfl rfl rfl ?_
      refine .assign (.no rfl) rfl rfl rfl rfl ?_
      exact .fin () (.of (.cons rfl (.cons rfl (.cons rfl .nil))) (.cons rfl (.cons rfl .nil)))
     intro _
     exact .here ((j + 1), g23, g23) (.of (.cons rfl (.cons rfl (.cons (svI (show (IntKind.wrap .i64 ((j : Int) + 1)) = (((j + 1) : Int)) by first | rfl | omega | exact wrap_le (by omega) (by omega) | (rw [wrap_le (by omega) (by omega)]; omega))) .nil))) (.cons rfl (.cons (rowE (show List.map strc (d.vars ++ d.flags ++ (d.arrays.take j).map Arr.name ++ [(d.arrays.getD j default).name]) = List.map strc (d.vars ++ d.flags ++ (d.arrays.take (j + 1)).map Arr.name) by first | (simp; done) | (rw [List.append_assoc (d.vars ++ d.flags), take_step (f := Arr.name) (by omega)]) | (simp only [Decl.names]; rw [List.take_of_length_le (by omega)]))) .nil))) ⟨(show (j + 1) ≤ d.arrays.length ∧ allTo (j + 1) (fun i => inR (d.arrays.getD i default).size 1 16) = true by exact ⟨by omega, allTo_step hI.2 (by simpa using c2)⟩), (show d.arrays.length - (j + 1) < d.arrays.length - j by omega)⟩
   ·have c1 := of_decide_eq_false c1
    refine .exit ?_
    refine .seq ?_
    refine .seq ?_
    refine .reg (X := Unit) (fun ζ => .of [(3, .one (.ref [22] (q15))), (5, .one (.d (.v (.int .i64 (0)))))] [([22], (q15, q16, .row 9 1 (List.map strc (d.vars ++ d.flags ++ (d.arrays.take j).map Arr.name))))]) [⟨[], some 5, [], []⟩] (fun k25 => ?_) ?_
    ·skip
     refine .assign (.no rfl) rfl rfl rfl rfl ?_
     exact .fin () (.of (.cons rfl (.cons rfl .nil)) (.cons rfl .nil))
    intro _
    refine .block ?_
    refine .loop (X := Nat × Nat × Nat) (fun ζ => .of [(3, .one (.ref [22] (ζ.2.1))), (5, .one (.d (.v (.int .i64 ((ζ.1 : Int))))))] [([22], (ζ.2.1, ζ.2.2, .row 9 1 (List.map strc (Decl.names d))))]) (fun ζ => ζ.1 ≤ (Decl.names d).length ∧ allTo ζ.1 (nameOk (Decl.names d)) = true) (fun ζ => (Decl.names d).length - ζ.1) ?_ ?_
    ·skip
     exact .here (0, q15, q16) (.of (.cons rfl (.cons (svI (show (0) = ((0 : Int)) by first | rfl | omega | exact wrap_le (by omega) (by omega) | (rw [wrap_le (by omega) (by omega)]; omega))) .nil)) (.cons (rowE (show List.map strc (d.vars ++ d.flags ++ (d.arrays.take j).map Arr.name) = List.map strc (Decl.names d) by first | (simp; done) | (rw [List.append_assoc (d.vars ++ d.flags), take_step (f := Arr.name) (by omega)]) | (simp only [Decl.names]; rw [List.take_of_length_le (by omega)]))) .nil)) (show 0 ≤ (Decl.names d).length ∧ allTo 0 (nameOk (Decl.names d)) = true by exact ⟨by omega, rfl⟩)
    ·rintro ⟨i, q26, q27⟩ hI
     have hI : i ≤ (Decl.names d).length ∧ allTo i (nameOk (Decl.names d)) = true := hI
     have hI0 := ‹j ≤ d.arrays.length ∧ _›
     have hn9 : (Decl.names d).length ≤ 3145728 := by simp [Decl.names]; omega
     refine .seq ?_
     refine .seq ?_
     refine .reg (X := Unit) (fun ζ => .of [(3, .one (.ref [22] (q26))), (5, .one (.d (.v (.int .i64 ((i : Int)))))), (56, .one (.d (.v (.bool (decide ((i : Int) < ((Decl.names d).length : Int)))))))] [([22], (q26, q27, .row 9 1 (List.map strc (Decl.names d))))]) [⟨[5], some 53, [], []⟩, ⟨[3], some 54, [], []⟩, ⟨[54], some 55, [[22]], []⟩, ⟨[53, 55], some 56, [], []⟩] (fun k28 => ?_) ?_
     ·skip
      refine .move (.no rfl) rfl rfl rfl rfl ?_
      refine .move (.no rfl) rfl rfl rfl rfl ?_
      refine .len (.no rfl) rfl (z := ((Decl.names d).length : Int)) t22 rfl rfl rfl (.ref _ _ _ _ _ rfl) (map_len _ _) rfl ?_
      refine .bin (.no rfl) rfl rfl rfl rfl rfl rfl ?_
      exact .fin () (.of (.cons rfl (.cons rfl (.cons rfl .nil))) (.cons rfl .nil))
     intro _
     refine .cond (t := decide ((i : Int) < ((Decl.names d).length : Int))) rfl (fun c3 => ?_) (fun c3 => ?_)
     ·have c3 := of_decide_eq_true c3
      refine .skip ?_
      refine .seq ?_
      refine .block ?_
      refine .seq ?_
      refine .regD (X := Unit) (by kernel_rfl) (fun ζ => .of [(3, .one (.ref [22] (q26))), (5, .one (.d (.v (.int .i64 ((i : Int)))))), (75, .one (.d (.v (.bool ((!(nmOk ((Decl.names d).getD (i) default)) || decide ((place ((Decl.names d).take i) ((Decl.names d).getD (i) default)) ≥ 0)))))))] [([22], (q26, q27, .row 9 1 (List.map strc (Decl.names d))))]) [⟨[3], some 59, [], []⟩, ⟨[5], some 60, [], []⟩, ⟨[59, 60], some 61, [[22]], []⟩, ⟨[61], some 62, [[22]], []⟩, ⟨[62], some 63, [], []⟩, ⟨[63], some 64, [], []⟩, ⟨[64], some 65, [], []⟩, ⟨[65, 3], some 66, [], []⟩, ⟨[65, 5], some 67, [], []⟩, ⟨[65, 66, 67], some 68, [[22]], []⟩, ⟨[65, 3], some 69, [], []⟩, ⟨[65, 5], some 70, [], []⟩, ⟨[65, 69, 70], some 71, [[22]], []⟩, ⟨[65, 71], some 72, [[22]], []⟩, ⟨[65, 68, 72], some 73, [[22]], []⟩, ⟨[65, 73], some 74, [], []⟩, ⟨[65, 74], some 75, [], []⟩] (by kernel_rfl) (fun k29 => ?_) ?_
      ·skip
       refine .move (.no rfl) rfl rfl rfl rfl ?_
       refine .move (.no rfl) rfl rfl rfl rfl ?_
       refine .indexAddr (.no rfl) rfl (i) t22 rfl t9 rfl rfl rfl (.ref _ _ _ _ _ rfl) rfl rfl rfl (map_get (by omega)) rfl rfl ?_
       refine .load (.no rfl) rfl t9 rfl rfl (.eptr _ _ _ _ _ _ _ _ _ rfl (map_get (by omega))) rfl rfl rfl rfl ?_
       refine .call (.no rfl) rfl [] [] (c_l3Name ((Decl.names d).getD (i) default) (by exact hs _ (getD_mem (by omega)))) rfl rfl rfl rfl rfl (.cons (Reads.d _).gives .nil) rfl rfl (fun h => absurd rfl h) (.own [63, 0] .nil) (.nil) rfl rfl rfl (by simp) rfl rfl rfl ?_
       refine .un (.no rfl) rfl rfl rfl rfl rfl ?_
       refine .moveB (.no rfl) rfl rfl rfl rfl fun b30 g13_6 => ?_
       cases b30
       ·skip
        refine .move (.on rfl rfl rfl rfl rfl) rfl rfl rfl rfl ?_
        refine .move (.on rfl rfl rfl rfl rfl) rfl rfl rfl rfl ?_
        refine .slice (.on rfl rfl rfl rfl rfl) rfl (lv := 0) (hv := i) (m := q27) t22 rfl t9 rfl rfl (.ref _ _ _ _ _ rfl) rfl (by intro _ _ h; cases h; exact ⟨_, .head _⟩) (by exact rfl) (by exact ⟨_, rfl⟩) (Nat.zero_le _) (le_map (by omega)) rfl rfl ?_
        refine .move (.on rfl rfl rfl rfl rfl) rfl rfl rfl rfl ?_
        refine .move (.on rfl rfl rfl rfl rfl) rfl rfl rfl rfl ?_
        refine .indexAddr (.on rfl rfl rfl rfl rfl) rfl (i) t22 rfl t9 rfl rfl rfl (.ref _ _ _ _ _ rfl) rfl rfl rfl (map_get (by omega)) rfl rfl ?_
        refine .load (.on rfl rfl rfl rfl rfl) rfl t9 rfl rfl (.eptr _ _ _ _ _ _ _ _ _ rfl (map_get (by omega))) rfl rfl rfl rfl ?_
        refine .call (.on rfl rfl rfl rfl rfl) rfl [[22]] [([22], (q26, q27, .row 9 1 (List.map strc (Decl.names d))))] (c_l3Place ((Decl.names d).take i) ((Decl.names d).getD (i) default)) rfl rfl rfl rfl rfl (.cons (Reads.cut (Frz.of_erase (erase_takeo _ _ _ _ _ _ strc_e)) (le_map (by omega)) (.head _) (.head _)).gives (.cons (Reads.d _).gives .nil)) rfl rfl (fun _ => (ownCons (Owned.v _) ownNil)) (.own [73, 0] .nil) (.nil) rfl rfl rfl (AllH.get (.cons rfl .nil)) rfl rfl rfl ?_
        refine .bin (.on rfl rfl rfl rfl rfl) rfl rfl rfl rfl rfl rfl ?_
        refine .pick (.no rfl) rfl rfl rfl rfl rfl ?_
        exact .fin () (.of (.cons rfl (.cons rfl (.cons (svB (show (decide ((place ((Decl.names d).take i) ((Decl.names d).getD (i) default)) ≥ 0)) = ((!(nmOk ((Decl.names d).getD (i) default)) || decide ((place ((Decl.names d).take i) ((Decl.names d).getD (i) default)) ≥ 0))) by first | (simp only [g13_6, Bool.true_or, Bool.false_or, Bool.true_and, Bool.false_and, Bool.not_true, Bool.not_false]; done) | simp [g13_6])) .nil))) (.cons rfl .nil))
       ·skip
        refine .off rfl rfl rfl rfl rfl rfl rfl ?_
        refine .off rfl rfl rfl rfl rfl rfl rfl ?_
        refine .off rfl rfl rfl rfl rfl rfl rfl ?_
        refine .off rfl rfl rfl rfl rfl rfl rfl ?_
        refine .off rfl rfl rfl rfl rfl rfl rfl ?_
        refine .off rfl rfl rfl rfl rfl rfl rfl ?_
        refine .off rfl rfl rfl rfl rfl rfl rfl ?_
        refine .off rfl rfl rfl rfl rfl rfl rfl ?_
        refine .off rfl rfl rfl rfl rfl rfl rfl ?_
        refine .pick (.no rfl) rfl rfl rfl rfl rfl ?_
        exact .fin () (.of (.cons rfl (.cons rfl (.cons (svB (show (true) = ((!(nmOk ((Decl.names d).getD (i) default)) || decide ((place ((Decl.names d).take i) ((Decl.names d).getD (i) default)) ≥ 0))) by first | (simp only [g13_6, Bool.true_or, Bool.false_or, Bool.true_and, Bool.false_and, Bool.not_true, Bool.not_false]; done) | simp [g13_6])) .nil))) (.cons rfl .nil))
      intro _
      refine .cond (t := (!(nmOk ((Decl.names d).getD (i) default)) || decide ((place ((Decl.names d).take i) ((Decl.names d).getD (i) default)) ≥ 0))) rfl (fun c4 => ?_) (fun c4 => ?_)
      ·have c4 := c4
       try simp only [Bool.or_eq_true, Bool.or_eq_false_iff, Bool.and_eq_true, Bool.and_eq_false_iff, decide_eq_true_eq, decide_eq_false_iff_not, Bool.not_eq_true', Bool.not_eq_false', bne_iff_ne, beq_iff_eq, bne_eq_false_iff_eq, beq_eq_false_iff_ne, ne_eq, Bool.not_eq_eq_eq_not, Bool.not_true, Bool.not_false] at c4
       refine .seq ?_
       refine .reg (X := Unit) (fun ζ => .of [(2, .one (.d (.v (.bool (false)))))] []) [⟨[], some 2, [], []⟩] (fun k31 => ?_) ?_
       ·skip
        refine .assign (.no rfl) rfl rfl rfl rfl ?_
        exact .fin () (.of (.cons rfl .nil) .nil)
       intro _
       refine .ret ?_
       have e32 : (false) = (Decl.ok d) := by exact (Decl.ok_name (j := i) (by omega) c4).symm
       have hc33 := eq1 (fun z1 => SV.one (.d (.v (.bool (z1))))) e32
       show _ ∧ _
       exact ⟨.inr rfl, .done ⟨_, [], [], _, .one (c := .d (.v (.bool (Decl.ok d)))) (hc33) .nil, .cons (Reads.d _).gives .nil, nodupB_ok rfl, by simp, (by simp)⟩⟩
      ·have c4 := c4
       try simp only [Bool.or_eq_true, Bool.or_eq_false_iff, Bool.and_eq_true, Bool.and_eq_false_iff, decide_eq_true_eq, decide_eq_false_iff_not, Bool.not_eq_true', Bool.not_eq_false', bne_iff_ne, beq_iff_eq, bne_eq_false_iff_eq, beq_eq_false_iff_ne, ne_eq, Bool.not_eq_eq_eq_not, Bool.not_true, Bool.not_false] at c4
       refine .skip ?_
       refine .reg (X := Unit) (fun ζ => .of [(3, .one (.ref [22] (q26))), (5, .one (.d (.v (.int .i64 (IntKind.wrap .i64 ((i : Int) + 1))))))] [([22], (q26, q27, .row 9 1 (List.map strc (Decl.names d))))]) [⟨[5], some 57, [], []⟩, ⟨[57], some 58, [], []⟩, ⟨[58], some 5, [], []⟩] (fun k34 => ?_) ?_
       ·skip
        refine .move (.no rfl) rfl rfl rfl rfl ?_
        refine .bin (.no rfl) rfl rfl rfl rfl rfl rfl ?_
        refine .assign (.no rfl) rfl rfl rfl rfl ?_
        exact .fin () (.of (.cons rfl (.cons rfl .nil)) (.cons rfl .nil))
       intro _
       exact .here ((i + 1), q26, q27) (.of (.cons rfl (.cons (svI (show (IntKind.wrap .i64 ((i : Int) + 1)) = (((i + 1) : Int)) by first | rfl | omega | exact wrap_le (by omega) (by omega) | (rw [wrap_le (by omega) (by omega)]; omega))) .nil)) (.cons rfl .nil)) ⟨(show (i + 1) ≤ (Decl.names d).length ∧ allTo (i + 1) (nameOk (Decl.names d)) = true by exact ⟨by omega, allTo_step hI.2 (nameOk_of c4)⟩), (show (Decl.names d).length - (i + 1) < (Decl.names d).length - i by omega)⟩
     ·have c3 := of_decide_eq_false c3
      refine .exit ?_
      refine .seq ?_
      refine .reg (X := Unit) (fun ζ => .of [(2, .one (.d (.v (.bool (true)))))] []) [⟨[], some 2, [], []⟩] (fun k35 => ?_) ?_
      ·skip
       refine .assign (.no rfl) rfl rfl rfl rfl ?_
       exact .fin () (.of (.cons rfl .nil) .nil)
      intro _
      refine .ret ?_
      have e36 : (true) = (Decl.ok d) := by exact (Decl.ok_done (by omega) hI0.2 (by omega) (j := i) (by omega) hI.2).symm
      have hc37 := eq1 (fun z1 => SV.one (.d (.v (.bool (z1))))) e36
      show _ ∧ _
      exact ⟨.inr rfl, .done ⟨_, [], [], _, .one (c := .d (.v (.bool (Decl.ok d)))) (hc37) .nil, .cons (Reads.d _).gives .nil, nodupB_ok rfl, by simp, (by simp)⟩⟩
end Go.Proofs

namespace Go.Proofs
open Go Go.Proofs Go.Ev

theorem c_sEnvOk (d : Decl) (e : Env) (hs : ∀ x ∈ Decl.names d, x.size ≤ 9223372036854775807) (hb : d.vars.length ≤ 1048576 ∧ d.flags.length ≤ 1048576 ∧ d.arrays.length ≤ 1048576) (he : e.ints.length ≤ 1048576 ∧ e.arrs.length ≤ 1048576) : Trip Tryz.prog 80 [(true, 3), (true, 3)] (Decl.c38 d ++ Env.c77 e) [(false, 1)] [.v (.bool (Decl.ok d && Env.okIn d e))] [] := by
 refine Trip.of Tryz.func80 (by decide) (c := _) rfl rfl (shB_ok rfl) (Nat.le_of_ble_eq_true rfl) rfl (AftOk.nil _) ?_
 refine .satA (t := 0) (i := 0) rfl rfl (fun hs1 => ?_)
 have hs1l : d.vars.length ≤ 9223372036854775807 := hs1.maplen
 refine .satA (t := 0) (i := 1) rfl rfl (fun hs2 => ?_)
 have hs2l : d.flags.length ≤ 9223372036854775807 := hs2.maplen
 refine .satA (t := 0) (i := 2) rfl rfl (fun hs3 => ?_)
 have hs3l : d.arrays.length ≤ 9223372036854775807 := hs3.maplen
 refine .satA (t := 1) (i := 1) rfl rfl (fun hs4 => ?_)
 have hs4l : e.ints.length ≤ 9223372036854775807 := hs4.maplen
 refine .satA (t := 1) (i := 2) rfl rfl (fun hs5 => ?_)
 have hs5l : e.arrs.length ≤ 9223372036854775807 := hs5.maplen
 refine .seq ?_
 refine .reg (X := Nat × Nat) (fun ζ => .of [(2, .one (.ptr [2] (ζ.1) 0)), (3, .one (.ptr [3] (ζ.2) 0))] [([2], (ζ.1, ζ.1, .box [.d (.sl false 9 1 (List.map strc (d.vars))), .d (.sl false 9 1 (List.map strc (d.flags))), .d (.sl false 119 2 (List.map Arr.c (d.arrays)))])), ([3], (ζ.2, ζ.2, .box [.d (.v (.bool (e.live))), .d (.sl false 122 2 (List.map Iv.c (e.ints))), .d (.sl false 122 2 (List.map Iv.c (e.arrs)))]))]) [⟨[0], some 2, [], [[2]]⟩, ⟨[1], some 3, [], [[3]]⟩, ⟨[], some 4, [], []⟩] (fun k6 => ?_) ?_
 ·skip
  refine .box (.no rfl) rfl rfl rfl rfl rfl ?_
  refine .box (.no rfl) rfl rfl rfl rfl rfl ?_
  refine .assign (.no rfl) rfl rfl rfl rfl ?_
  exact .fin (k6, k6 + 1) (.of (.cons rfl (.cons rfl .nil)) (.cons rfl (.cons rfl .nil)))
 rintro ⟨g7, g8⟩
 refine .seq ?_
 refine .seq ?_
 refine .reg (X := Unit) (fun ζ => .of [(2, .one (.ptr [2] (g7) 0)), (3, .one (.ptr [3] (g8) 0)), (9, .one (.d (.v (.bool (!(Decl.ok d))))))] [([2], (g7, g7, .box [.d (.sl false 9 1 (List.map strc (d.vars))), .d (.sl false 9 1 (List.map strc (d.flags))), .d (.sl false 119 2 (List.map Arr.c (d.arrays)))])), ([3], (g8, g8, .box [.d (.v (.bool (e.live))), .d (.sl false 122 2 (List.map Iv.c (e.ints))), .d (.sl false 122 2 (List.map Iv.c (e.arrs)))]))]) [⟨[2], some 7, [[2]], []⟩, ⟨[7], some 8, [], []⟩, ⟨[8], some 9, [], []⟩] (fun k9 => ?_) ?_
 ·skip
  refine .load (.no rfl) rfl t38 rfl rfl (.ptr _ _ _ _ _ rfl) rfl rfl rfl rfl ?_
  refine .call (.no rfl) rfl [] [] (c_sDeclOk d (by first | assumption | omega) (by first | assumption | omega)) rfl rfl rfl rfl rfl (.cons (Reads.d _).gives (.cons (Reads.d _).gives (.cons (Reads.d _).gives .nil))) rfl rfl (fun h => absurd rfl h) (.own [8, 0] .nil) (.nil) rfl rfl rfl (by simp) rfl rfl rfl ?_
  refine .un (.no rfl) rfl rfl rfl rfl rfl ?_
  exact .fin () (.of (.cons rfl (.cons rfl (.cons rfl .nil))) (.cons rfl (.cons rfl .nil)))
 intro _
 refine .cond (t := !(Decl.ok d)) rfl (fun c0 => ?_) (fun c0 => ?_)
 ·have c0 := c0
  try simp only [Bool.or_eq_true, Bool.or_eq_false_iff, Bool.and_eq_true, Bool.and_eq_false_iff, decide_eq_true_eq, decide_eq_false_iff_not, Bool.not_eq_true', Bool.not_eq_false', bne_iff_ne, beq_iff_eq, bne_eq_false_iff_eq, beq_eq_false_iff_ne, ne_eq, Bool.not_eq_eq_eq_not, Bool.not_true, Bool.not_false] at c0
  refine .seq ?_
  refine .reg (X := Unit) (fun ζ => .of [(4, .one (.d (.v (.bool (false)))))] []) [⟨[], some 4, [], []⟩] (fun k10 => ?_) ?_
  ·skip
   refine .assign (.no rfl) rfl rfl rfl rfl ?_
   exact .fin () (.of (.cons rfl .nil) .nil)
  intro _
  refine .ret ?_
  have e11 : (false) = (Decl.ok d && Env.okIn d e) := by simp [c0]
  have hc12 := eq1 (fun z1 => SV.one (.d (.v (.bool (z1))))) e11
  show _ ∧ _
  exact ⟨.inr rfl, .done ⟨_, [], [], _, .one (c := .d (.v (.bool (Decl.ok d && Env.okIn d e)))) (hc12) .nil, .cons (Reads.d _).gives .nil, nodupB_ok rfl, by simp, (by simp)⟩⟩
 ·have c0 := c0
  try simp only [Bool.or_eq_true, Bool.or_eq_false_iff, Bool.and_eq_true, Bool.and_eq_false_iff, decide_eq_true_eq, decide_eq_false_iff_not, Bool.not_eq_true', Bool.not_eq_false', bne_iff_ne, beq_iff_eq, bne_eq_false_iff_eq, beq_eq_false_iff_ne, ne_eq, Bool.not_eq_eq_eq_not, Bool.not_true, Bool.not_false] at c0
  refine .skip ?_
  refine .seq ?_
  refine .seq ?_
  refine .reg (X := Unit) (fun ζ => .of [(2, .one (.ptr [2] (g7) 0)), (3, .one (.ptr [3] (g8) 0)), (12, .one (.d (.v (.bool (!e.live)))))] [([2], (g7, g7, .box [.d (.sl false 9 1 (List.map strc (d.vars))), .d (.sl false 9 1 (List.map strc (d.flags))), .d (.sl false 119 2 (List.map Arr.c (d.arrays)))])), ([3], (g8, g8, .box [.d (.v (.bool (e.live))), .d (.sl false 122 2 (List.map Iv.c (e.ints))), .d (.sl false 122 2 (List.map Iv.c (e.arrs)))]))]) [⟨[3], some 10, [], []⟩, ⟨[10], some 11, [[3]], []⟩, ⟨[11], some 12, [], []⟩] (fun k13 => ?_) ?_
  ·skip
   refine .fieldAddrP (.no rfl) rfl t77 rfl rfl t4 rfl rfl rfl rfl ?_
   refine .load (.no rfl) rfl t4 rfl rfl (.ptr _ _ _ _ _ rfl) rfl rfl rfl rfl ?_
   refine .un (.no rfl) rfl rfl rfl rfl rfl ?_
   exact .fin () (.of (.cons rfl (.cons rfl (.cons rfl .nil))) (.cons rfl (.cons rfl .nil)))
  intro _
  refine .cond (t := !e.live) rfl (fun c1 => ?_) (fun c1 => ?_)
  ·have c1 := c1
   try simp only [Bool.or_eq_true, Bool.or_eq_false_iff, Bool.and_eq_true, Bool.and_eq_false_iff, decide_eq_true_eq, decide_eq_false_iff_not, Bool.not_eq_true', Bool.not_eq_false', bne_iff_ne, beq_iff_eq, bne_eq_false_iff_eq, beq_eq_false_iff_ne, ne_eq, Bool.not_eq_eq_eq_not, Bool.not_true, Bool.not_false] at c1
   refine .seq ?_
   refine .reg (X := Unit) (fun ζ => .of [(4, .one (.d (.v (.bool (((e.ints.length : Int) == 0 && (e.arrs.length : Int) == 0))))))] []) [⟨[3], some 13, [], []⟩, ⟨[13], some 14, [[3]], []⟩, ⟨[14], some 15, [], []⟩, ⟨[15], some 16, [], []⟩, ⟨[16], some 17, [], []⟩, ⟨[17, 3], some 18, [], []⟩, ⟨[17, 18], some 19, [[3]], []⟩, ⟨[17, 19], some 20, [], []⟩, ⟨[17, 20], some 21, [], []⟩, ⟨[17, 21], some 22, [], []⟩, ⟨[22], some 4, [], []⟩] (fun k14 => ?_) ?_
   ·skip
    refine .fieldAddrP (.no rfl) rfl t77 rfl rfl t75 rfl rfl rfl rfl ?_
    refine .load (.no rfl) rfl t75 rfl rfl (.ptr _ _ _ _ _ rfl) rfl rfl rfl rfl ?_
    refine .len (.no rfl) rfl (z := (e.ints.length : Int)) t75 rfl rfl rfl (.d _ _) (map_len _ _) rfl ?_
    refine .bin (.no rfl) rfl rfl rfl rfl rfl rfl ?_
    refine .moveB (.no rfl) rfl rfl rfl rfl fun b15 g4_4 => ?_
    cases b15
    ·skip
     refine .off rfl rfl rfl rfl rfl rfl rfl ?_
     refine .off rfl rfl rfl rfl rfl rfl rfl ?_
     refine .off rfl rfl rfl rfl rfl rfl rfl ?_
     refine .off rfl rfl rfl rfl rfl rfl rfl ?_
     refine .pick (.no rfl) rfl rfl rfl rfl rfl ?_
     refine .assign (.no rfl) rfl rfl rfl rfl ?_
     exact .fin () (.of (.cons (svB (show (false) = (((e.ints.length : Int) == 0 && (e.arrs.length : Int) == 0)) by first | (simp only [g4_4, Bool.true_or, Bool.false_or, Bool.true_and, Bool.false_and, Bool.not_true, Bool.not_false]; done) | simp [g4_4])) .nil) .nil)
    ·skip
     refine .fieldAddrP (.on rfl rfl rfl rfl rfl) rfl t77 rfl rfl t75 rfl rfl rfl rfl ?_
     refine .load (.on rfl rfl rfl rfl rfl) rfl t75 rfl rfl (.ptr _ _ _ _ _ rfl) rfl rfl rfl rfl ?_
     refine .len (.on rfl rfl rfl rfl rfl) rfl (z := (e.arrs.length : Int)) t75 rfl rfl rfl (.d _ _) (map_len _ _) rfl ?_
     refine .bin (.on rfl rfl rfl rfl rfl) rfl rfl rfl rfl rfl rfl ?_
     refine .pick (.no rfl) rfl rfl rfl rfl rfl ?_
     refine .assign (.no rfl) rfl rfl rfl rfl ?_
     exact .fin () (.of (.cons (svB (show ((e.arrs.length : Int) == 0) = (((e.ints.length : Int) == 0 && (e.arrs.length : Int) == 0)) by first | (simp only [g4_4, Bool.true_or, Bool.false_or, Bool.true_and, Bool.false_and, Bool.not_true, Bool.not_false]; done) | simp [g4_4])) .nil) .nil)
   intro _
   refine .ret ?_
   have e16 : (((e.ints.length : Int) == 0 && (e.arrs.length : Int) == 0)) = (Decl.ok d && Env.okIn d e) := by simp [c0, c1, Env.okIn]
   have hc17 := eq1 (fun z1 => SV.one (.d (.v (.bool (z1))))) e16
   show _ ∧ _
   exact ⟨.inr rfl, .done ⟨_, [], [], _, .one (c := .d (.v (.bool (Decl.ok d && Env.okIn d e)))) (hc17) .nil, .cons (Reads.d _).gives .nil, nodupB_ok rfl, by simp, (by simp)⟩⟩
  ·have c1 := c1
   try simp only [Bool.or_eq_true, Bool.or_eq_false_iff, Bool.and_eq_true, Bool.and_eq_false_iff, decide_eq_true_eq, decide_eq_false_iff_not, Bool.not_eq_true', Bool.not_eq_false', bne_iff_ne, beq_iff_eq, bne_eq_false_iff_eq, beq_eq_false_iff_ne, ne_eq, Bool.not_eq_eq_eq_not, Bool.not_true, Bool.not_false] at c1
   refine .skip ?_
   refine .seq ?_
   refine .seq ?_
   refine .reg (X := Unit) (fun ζ => .of [(3, .one (.ptr [3] (g8) 0)), (38, .one (.d (.v (.bool (((e.ints.length : Int) != (d.vars.length : Int) || (e.arrs.length : Int) != (d.arrays.length : Int)))))))] [([3], (g8, g8, .box [.d (.v (.bool (e.live))), .d (.sl false 122 2 (List.map Iv.c (e.ints))), .d (.sl false 122 2 (List.map Iv.c (e.arrs)))]))]) [⟨[3], some 23, [], []⟩, ⟨[23], some 24, [[3]], []⟩, ⟨[24], some 25, [], []⟩, ⟨[2], some 26, [], []⟩, ⟨[26], some 27, [[2]], []⟩, ⟨[27], some 28, [], []⟩, ⟨[25, 28], some 29, [], []⟩, ⟨[29], some 30, [], []⟩, ⟨[30, 3], some 31, [], []⟩, ⟨[30, 31], some 32, [[3]], []⟩, ⟨[30, 32], some 33, [], []⟩, ⟨[30, 2], some 34, [], []⟩, ⟨[30, 34], some 35, [[2]], []⟩, ⟨[30, 35], some 36, [], []⟩, ⟨[30, 33, 36], some 37, [], []⟩, ⟨[30, 37], some 38, [], []⟩] (fun k18 => ?_) ?_
   ·skip
    refine .fieldAddrP (.no rfl) rfl t77 rfl rfl t75 rfl rfl rfl rfl ?_
    refine .load (.no rfl) rfl t75 rfl rfl (.ptr _ _ _ _ _ rfl) rfl rfl rfl rfl ?_
    refine .len (.no rfl) rfl (z := (e.ints.length : Int)) t75 rfl rfl rfl (.d _ _) (map_len _ _) rfl ?_
    refine .fieldAddrP (.no rfl) rfl t38 rfl rfl t22 rfl rfl rfl rfl ?_
    refine .load (.no rfl) rfl t22 rfl rfl (.ptr _ _ _ _ _ rfl) rfl rfl rfl rfl ?_
    refine .len (.no rfl) rfl (z := (d.vars.length : Int)) t22 rfl rfl rfl (.d _ _) (map_len _ _) rfl ?_
    refine .bin (.no rfl) rfl rfl rfl rfl rfl rfl ?_
    refine .moveB (.no rfl) rfl rfl rfl rfl fun b19 g5_7 => ?_
    cases b19
    ·skip
     refine .fieldAddrP (.on rfl rfl rfl rfl rfl) rfl t77 rfl rfl t75 rfl rfl rfl rfl ?_
     refine .load (.on rfl rfl rfl rfl rfl) rfl t75 rfl rfl (.ptr _ _ _ _ _ rfl) rfl rfl rfl rfl ?_
     refine .len (.on rfl rfl rfl rfl rfl) rfl (z := (e.arrs.length : Int)) t75 rfl rfl rfl (.d _ _) (map_len _ _) rfl ?_
     refine .fieldAddrP (.on rfl rfl rfl rfl rfl) rfl t38 rfl rfl t36 rfl rfl rfl rfl ?_
     refine .load (.on rfl rfl rfl rfl rfl) rfl t36 rfl rfl (.ptr _ _ _ _ _ rfl) rfl rfl rfl rfl ?_
     refine .len (.on rfl rfl rfl rfl rfl) rfl (z := (d.arrays.length : Int)) t36 rfl rfl rfl (.d _ _) (map_len _ _) rfl ?_
     refine .bin (.on rfl rfl rfl rfl rfl) rfl rfl rfl rfl rfl rfl ?_
     refine .pick (.no rfl) rfl rfl rfl rfl rfl ?_
     exact .fin () (.of (.cons rfl (.cons (svB (show ((e.arrs.length : Int) != (d.arrays.length : Int)) = (((e.ints.length : Int) != (d.vars.length : Int) || (e.arrs.length : Int) != (d.arrays.length : Int))) by first | (simp only [g5_7, Bool.true_or, Bool.false_or, Bool.true_and, Bool.false_and, Bool.not_true, Bool.not_false]; done) | simp [g5_7])) .nil)) (.cons rfl .nil))
    ·skip
     refine .off rfl rfl rfl rfl rfl rfl rfl ?_
     refine .off rfl rfl rfl rfl rfl rfl rfl ?_
     refine .off rfl rfl rfl rfl rfl rfl rfl ?_
     refine .off rfl rfl rfl rfl rfl rfl rfl ?_
     refine .off rfl rfl rfl rfl rfl rfl rfl ?_
     refine .off rfl rfl rfl rfl rfl rfl rfl ?_
     refine .off rfl rfl rfl rfl rfl rfl rfl ?_
     refine .pick (.no rfl) rfl rfl rfl rfl rfl ?_
     exact .fin () (.of (.cons rfl (.cons (svB (show (true) = (((e.ints.length : Int) != (d.vars.length : Int) || (e.arrs.length : Int) != (d.arrays.length : Int))) by first | (simp only [g5_7, Bool.true_or, Bool.false_or, Bool.true_and, Bool.false_and, Bool.not_true, Bool.not_false]; done) | simp [g5_7])) .nil)) (.cons rfl .nil))
   intro _
   refine .cond (t := ((e.ints.length : Int) != (d.vars.length : Int) || (e.arrs.length : Int) != (d.arrays.length : Int))) rfl (fun c2 => ?_) (fun c2 => ?_)
   ·have c2 := c2
    try simp only [Bool.or_eq_true, Bool.or_eq_false_iff, Bool.and_eq_true, Bool.and_eq_false_iff, decide_eq_true_eq, decide_eq_false_iff_not, Bool.not_eq_true', Bool.not_eq_false', bne_iff_ne, beq_iff_eq, bne_eq_false_iff_eq, beq_eq_false_iff_ne, ne_eq, Bool.not_eq_eq_eq_not, Bool.not_true, Bool.not_false] at c2
    refine .seq ?_
    refine .reg (X := Unit) (fun ζ => .of [(4, .one (.d (.v (.bool (false)))))] []) [⟨[], some 4, [], []⟩] (fun k20 => ?_) ?_
    ·skip
     refine .assign (.no rfl) rfl rfl rfl rfl ?_
     exact .fin () (.of (.cons rfl .nil) .nil)
    intro _
    refine .ret ?_
    have e21 : (false) = (Decl.ok d && Env.okIn d e) := by simp only [c0, Env.okIn, c1]; simp; omega
    have hc22 := eq1 (fun z1 => SV.one (.d (.v (.bool (z1))))) e21
    show _ ∧ _
    exact ⟨.inr rfl, .done ⟨_, [], [], _, .one (c := .d (.v (.bool (Decl.ok d && Env.okIn d e)))) (hc22) .nil, .cons (Reads.d _).gives .nil, nodupB_ok rfl, by simp, (by simp)⟩⟩
   ·have c2 := c2
    try simp only [Bool.or_eq_true, Bool.or_eq_false_iff, Bool.and_eq_true, Bool.and_eq_false_iff, decide_eq_true_eq, decide_eq_false_iff_not, Bool.not_eq_true', Bool.not_eq_false', bne_iff_ne, beq_iff_eq, bne_eq_false_iff_eq, beq_eq_false_iff_ne, ne_eq, Bool.not_eq_eq_eq_not, Bool.not_true, Bool.not_false] at c2
    refine .skip ?_
    refine .seq ?_
    refine .reg (X := Unit) (fun ζ => .of [(5, .one (.d (.sl false 122 2 (List.map Iv.c (e.ints ++ e.arrs)))))] []) [⟨[3], some 39, [[3]], []⟩, ⟨[39], some 40, [], []⟩, ⟨[40], some 5, [], []⟩] (fun k23 => ?_) ?_
    ·skip
     refine .load (.no rfl) rfl t77 rfl rfl (.ptr _ _ _ _ _ rfl) rfl rfl rfl rfl ?_
     refine .call (.no rfl) rfl [] [] (c_l6List e (by first | assumption | omega)) rfl rfl rfl rfl rfl (.cons (Reads.d _).gives (.cons (Reads.d _).gives (.cons (Reads.d _).gives .nil))) rfl rfl (fun h => absurd rfl h) (.frz [40, 0] (Frz.of_erase (erase_slo _ _ _ _ _ _ Iv.c_e)) .nil) (.nil) rfl rfl rfl (by simp) rfl rfl rfl ?_
     refine .assign (.no rfl) rfl rfl rfl rfl ?_
     exact .fin () (.of (.cons rfl .nil) .nil)
    intro _
    refine .seq ?_
    refine .seq ?_
    refine .reg (X := Unit) (fun ζ => .of [(5, .one (.d (.sl false 122 2 (List.map Iv.c (e.ints ++ e.arrs))))), (6, .one (.d (.v (.int .i64 (0)))))] []) [⟨[], some 6, [], []⟩] (fun k24 => ?_) ?_
    ·skip
     refine .assign (.no rfl) rfl rfl rfl rfl ?_
     exact .fin () (.of (.cons rfl (.cons rfl .nil)) .nil)
    intro _
    refine .block ?_
    refine .loop (X := Nat) (fun ζ => .of [(5, .one (.d (.sl false 122 2 (List.map Iv.c (e.ints ++ e.arrs))))), (6, .one (.d (.v (.int .i64 ((ζ : Int))))))] []) (fun ζ => ζ ≤ (e.ints ++ e.arrs).length ∧ allTo ζ (fun x => Iv.ok ((e.ints ++ e.arrs).getD x default)) = true) (fun ζ => (e.ints ++ e.arrs).length - ζ) ?_ ?_
    ·skip
     exact .here 0 (.of (.cons rfl (.cons (svI (show (0) = ((0 : Int)) by first | rfl | omega | exact wrap_le (by omega) (by omega) | (rw [wrap_le (by omega) (by omega)]; omega))) .nil)) .nil) (show 0 ≤ (e.ints ++ e.arrs).length ∧ allTo 0 (fun x => Iv.ok ((e.ints ++ e.arrs).getD x default)) = true by exact ⟨by omega, rfl⟩)
    ·rintro j hI
     have hI : j ≤ (e.ints ++ e.arrs).length ∧ allTo j (fun x => Iv.ok ((e.ints ++ e.arrs).getD x default)) = true := hI
     have hn9 : (e.ints ++ e.arrs).length ≤ 3145728 := by simp; omega
     refine .seq ?_
     refine .seq ?_
     refine .reg (X := Unit) (fun ζ => .of [(5, .one (.d (.sl false 122 2 (List.map Iv.c (e.ints ++ e.arrs))))), (6, .one (.d (.v (.int .i64 ((j : Int)))))), (44, .one (.d (.v (.bool (decide ((j : Int) < ((e.ints ++ e.arrs).length : Int)))))))] []) [⟨[6], some 41, [], []⟩, ⟨[5], some 42, [], []⟩, ⟨[42], some 43, [], []⟩, ⟨[41, 43], some 44, [], []⟩] (fun k25 => ?_) ?_
     ·skip
      refine .move (.no rfl) rfl rfl rfl rfl ?_
      refine .move (.no rfl) rfl rfl rfl rfl ?_
      refine .len (.no rfl) rfl (z := ((e.ints ++ e.arrs).length : Int)) t75 rfl rfl rfl (.d _ _) (map_len _ _) rfl ?_
      refine .bin (.no rfl) rfl rfl rfl rfl rfl rfl ?_
      exact .fin () (.of (.cons rfl (.cons rfl (.cons rfl .nil))) .nil)
     intro _
     refine .cond (t := decide ((j : Int) < ((e.ints ++ e.arrs).length : Int))) rfl (fun c3 => ?_) (fun c3 => ?_)
     ·have c3 := of_decide_eq_true c3
      refine .skip ?_
      refine .seq ?_
      refine .block ?_
      refine .seq ?_
      refine .reg (X := Unit) (fun ζ => .of [(5, .one (.d (.sl false 122 2 (List.map Iv.c (e.ints ++ e.arrs))))), (6, .one (.d (.v (.int .i64 ((j : Int)))))), (52, .one (.d (.v (.bool (!(Iv.ok ((e.ints ++ e.arrs).getD (j) default)))))))] []) [⟨[5], some 47, [], []⟩, ⟨[6], some 48, [], []⟩, ⟨[47, 48], some 49, [], []⟩, ⟨[49], some 50, [], []⟩, ⟨[50], some 51, [], []⟩, ⟨[51], some 52, [], []⟩] (fun k26 => ?_) ?_
      ·skip
       refine .move (.no rfl) rfl rfl rfl rfl ?_
       refine .move (.no rfl) rfl rfl rfl rfl ?_
       refine .indexAddr (.no rfl) rfl (j) t75 rfl t122 rfl rfl rfl (.d _ _) rfl rfl rfl (map_get (by omega)) rfl rfl ?_
       refine .load (.no rfl) rfl t122 rfl rfl (.d _) rfl rfl rfl rfl ?_
       refine .call (.no rfl) rfl [] [] (c_sIvOk ((e.ints ++ e.arrs).getD (j) default)) rfl rfl rfl rfl rfl (.cons (Reads.d _).gives (.cons (Reads.d _).gives .nil)) rfl rfl (fun h => absurd rfl h) (.own [51, 0] .nil) (.nil) rfl rfl rfl (by simp) rfl rfl rfl ?_
       refine .un (.no rfl) rfl rfl rfl rfl rfl ?_
       exact .fin () (.of (.cons rfl (.cons rfl (.cons rfl .nil))) .nil)
      intro _
      refine .cond (t := !(Iv.ok ((e.ints ++ e.arrs).getD (j) default))) rfl (fun c4 => ?_) (fun c4 => ?_)
      ·have c4 := c4
       try simp only [Bool.or_eq_true, Bool.or_eq_false_iff, Bool.and_eq_true, Bool.and_eq_false_iff, decide_eq_true_eq, decide_eq_false_iff_not, Bool.not_eq_true', Bool.not_eq_false', bne_iff_ne, beq_iff_eq, bne_eq_false_iff_eq, beq_eq_false_iff_ne, ne_eq, Bool.not_eq_eq_eq_not, Bool.not_true, Bool.not_false] at c4
       refine .seq ?_
       refine .reg (X := Unit) (fun ζ => .of [(4, .one (.d (.v (.bool (false)))))] []) [⟨[], some 4, [], []⟩] (fun k27 => ?_) ?_
       ·skip
        refine .assign (.no rfl) rfl rfl rfl rfl ?_
        exact .fin () (.of (.cons rfl .nil) .nil)
       intro _
       refine .ret ?_
       have e28 : (false) = (Decl.ok d && Env.okIn d e) := by simp only [c0, Env.okIn, c1, all_none (p := Iv.ok) (j := j) (by omega) c4]; simp
       have hc29 := eq1 (fun z1 => SV.one (.d (.v (.bool (z1))))) e28
       show _ ∧ _
       exact ⟨.inr rfl, .done ⟨_, [], [], _, .one (c := .d (.v (.bool (Decl.ok d && Env.okIn d e)))) (hc29) .nil, .cons (Reads.d _).gives .nil, nodupB_ok rfl, by simp, (by simp)⟩⟩
      ·have c4 := c4
       try simp only [Bool.or_eq_true, Bool.or_eq_false_iff, Bool.and_eq_true, Bool.and_eq_false_iff, decide_eq_true_eq, decide_eq_false_iff_not, Bool.not_eq_true', Bool.not_eq_false', bne_iff_ne, beq_iff_eq, bne_eq_false_iff_eq, beq_eq_false_iff_ne, ne_eq, Bool.not_eq_eq_eq_not, Bool.not_true, Bool.not_false] at c4
       refine .skip ?_
       refine .reg (X := Unit) (fun ζ => .of [(5, .one (.d (.sl false 122 2 (List.map Iv.c (e.ints ++ e.arrs))))), (6, .one (.d (.v (.int .i64 (IntKind.wrap .i64 ((j : Int) + 1))))))] []) [⟨[6], some 45, [], []⟩, ⟨[45], some 46, [], []⟩, ⟨[46], some 6, [], []⟩] (fun k30 => ?_) ?_
       ·skip
        refine .move (.no rfl) rfl rfl rfl rfl ?_
        refine .bin (.no rfl) rfl rfl rfl rfl rfl rfl ?_
        refine .assign (.no rfl) rfl rfl rfl rfl ?_
        exact .fin () (.of (.cons rfl (.cons rfl .nil)) .nil)
       intro _
       exact .here (j + 1) (.of (.cons rfl (.cons (svI (show (IntKind.wrap .i64 ((j : Int) + 1)) = (((j + 1) : Int)) by first | rfl | omega | exact wrap_le (by omega) (by omega) | (rw [wrap_le (by omega) (by omega)]; omega))) .nil)) .nil) ⟨(show (j + 1) ≤ (e.ints ++ e.arrs).length ∧ allTo (j + 1) (fun x => Iv.ok ((e.ints ++ e.arrs).getD x default)) = true by exact ⟨by omega, allTo_step hI.2 c4⟩), (show (e.ints ++ e.arrs).length - (j + 1) < (e.ints ++ e.arrs).length - j by omega)⟩
     ·have c3 := of_decide_eq_false c3
      refine .exit ?_
      refine .seq ?_
      refine .reg (X := Unit) (fun ζ => .of [(4, .one (.d (.v (.bool (true)))))] []) [⟨[], some 4, [], []⟩] (fun k31 => ?_) ?_
      ·skip
       refine .assign (.no rfl) rfl rfl rfl rfl ?_
       exact .fin () (.of (.cons rfl .nil) .nil)
      intro _
      refine .ret ?_
      have e32 : (true) = (Decl.ok d && Env.okIn d e) := by simp only [c0, Env.okIn, c1, all_done (p := Iv.ok) (j := j) (by omega) hI.2]; simp; omega
      have hc33 := eq1 (fun z1 => SV.one (.d (.v (.bool (z1))))) e32
      show _ ∧ _
      exact ⟨.inr rfl, .done ⟨_, [], [], _, .one (c := .d (.v (.bool (Decl.ok d && Env.okIn d e)))) (hc33) .nil, .cons (Reads.d _).gives .nil, nodupB_ok rfl, by simp, (by simp)⟩⟩
theorem c_l6Of (l : List Iv) (n : Nat) (hb : n ≤ l.length ∧ l.length ≤ 2097152) : Trip Tryz.prog 147 [(false, 1), (false, 1)] ([.sl false 122 2 (List.map Iv.c (l))] ++ [.v (.int .i64 ((n : Int)))]) [(true, 3)] [.v (.bool ((Env.mk true (l.take n) (l.drop n)).live)), .sl true 122 2 (List.map Iv.c ((Env.mk true (l.take n) (l.drop n)).ints)), .sl true 122 2 (List.map Iv.c ((Env.mk true (l.take n) (l.drop n)).arrs))] [] := by
 refine Trip.of Tryz.func147 (by decide) (c := _) rfl rfl (shB_ok rfl) (Nat.le_of_ble_eq_true rfl) rfl (AftOk.nil _) ?_
 refine .sat (t := 0) rfl (fun hs1 => ?_)
 have hs1l : l.length ≤ 9223372036854775807 := hs1.maplen
 refine .seq ?_
 refine .reg (X := Nat) (fun ζ => .of [(0, .one (.d (.sl false 122 2 (List.map Iv.c (l))))), (1, .one (.d (.v (.int .i64 ((n : Int)))))), (4, .one (.ptr [4] (ζ) 0))] [([4], (ζ, ζ, .box [.d (.v (.bool (false))), .d (.v (.slice none 0 0)), .d (.v (.slice none 0 0))]))]) [⟨[], some 4, [], [[4]]⟩] (fun k2 => ?_) ?_
 ·skip
  refine .alloc (.no rfl) rfl z77 rfl rfl rfl ?_
  exact .fin k2 (.of (.cons rfl (.cons rfl (.cons rfl .nil))) (.cons rfl .nil))
 intro g3
 refine .seq ?_
 refine .regD (X := Nat × Nat × Nat) (by kernel_rfl) (fun ζ => .of [(4, .one (.ptr [4] (g3) 0))] [([4], (g3, ζ.1, .box [.d (.v (.bool (true))), .ref [5] (ζ.2.1), .ref [10] (ζ.2.2)])), ([5], (ζ.2.1, ζ.2.1, .row 122 2 (List.map Iv.c (l.take n)))), ([10], (ζ.2.2, ζ.2.2, .row 122 2 (List.map Iv.c (l.drop n))))]) [⟨[], some 5, [], [[5]]⟩, ⟨[0], some 6, [], []⟩, ⟨[1], some 7, [], []⟩, ⟨[6, 7], some 8, [], []⟩, ⟨[5, 8], some 9, [[5]], [[5]]⟩, ⟨[], some 10, [], [[10]]⟩, ⟨[0], some 11, [], []⟩, ⟨[1], some 12, [], []⟩, ⟨[11, 12], some 13, [], []⟩, ⟨[10, 13], some 14, [[10]], [[10]]⟩, ⟨[9, 14], some 15, [], []⟩, ⟨[4, 15], none, [[4]], [[4]]⟩] (by kernel_rfl) (fun k4 => ?_) ?_
 ·skip
  refine .buildSlice (.no rfl) rfl (els := []) t75 rfl z122 rfl rfl rfl rfl rfl rfl rfl rfl (by simp [i122]) .nil rfl rfl rfl ?_
  refine .move (.no rfl) rfl rfl rfl rfl ?_
  refine .move (.no rfl) rfl rfl rfl rfl ?_
  refine .slice (.no rfl) rfl (lv := 0) (hv := n) (m := 0) t75 rfl t122 rfl rfl (.d _ _) rfl (by intro _ _ h; cases h) (by exact rfl) (by exact ⟨_, rfl⟩) (Nat.zero_le _) (le_map (by omega)) (cut_d0 _ _ _ _ _ _ _ _ _) rfl ?_
  refine .append (.no rfl) rfl (l3 := List.map Iv.c (l.take n)) t75 rfl z122 rfl rfl rfl rfl rfl rfl rfl rfl (.ref _ _ _ _ rfl) (.ro _ _) rfl (by simp [i122]; omega) (List.nil_append _) rfl rfl ?_
  refine .buildSlice (.no rfl) rfl (els := []) t75 rfl z122 rfl rfl rfl rfl rfl rfl rfl rfl (by simp [i122]) .nil rfl rfl rfl ?_
  refine .move (.no rfl) rfl rfl rfl rfl ?_
  refine .move (.no rfl) rfl rfl rfl rfl ?_
  refine .slice (.no rfl) rfl (lv := n) (hv := (List.map Iv.c (l)).length) (m := 0) t75 rfl t122 rfl rfl (.d _ _) rfl (by intro _ _ h; cases h) (by exact ⟨_, rfl⟩) (by exact rfl) (le_map (by omega)) (Nat.le_refl _) (cut_dn _ _ _ _ _ _ _ _ _) rfl ?_
  refine .append (.no rfl) rfl (l3 := List.map Iv.c (l.drop n)) t75 rfl z122 rfl rfl rfl rfl rfl rfl rfl rfl (.ref _ _ _ _ rfl) (.ro _ _) rfl (by simp [i122]; omega) (List.nil_append _) rfl rfl ?_
  refine .build (.no rfl) rfl z77 rfl p77 rfl rfl rfl rfl ?_
  refine .store (.no rfl) rfl t77 rfl rfl rfl rfl rfl rfl rfl rfl rfl ?_
  exact .fin (k4 + 1 + 1 + 1 + 1 + 1 + 1 + 1 + 1 + 1 + 1 + 1, k4 + 1 + 1 + 1 + 1, k4 + 1 + 1 + 1 + 1 + 1 + 1 + 1 + 1 + 1) (.of (.cons rfl .nil) (.cons rfl (.cons rfl (.cons rfl .nil))))
 rintro ⟨g5, g6, g7⟩
 refine .ret ?_
 have e8 : (true) = ((Env.mk true (l.take n) (l.drop n)).live) := by rfl
 have e9 : (l.take n) = ((Env.mk true (l.take n) (l.drop n)).ints) := by rfl
 have e10 : (l.drop n) = ((Env.mk true (l.take n) (l.drop n)).arrs) := by rfl
 have hc11 := eq1 (fun z1 => some (g3, g5, O.box [.d (.v (.bool (z1))), .ref [5] (g6), .ref [10] (g7)])) e8
 show _ ∧ _
 exact ⟨.inr rfl, .done ⟨_, [], [([5], (g6, g6, .row 122 2 (List.map Iv.c ((Env.mk true (l.take n) (l.drop n)).ints)))), ([10], (g7, g7, .row 122 2 (List.map Iv.c ((Env.mk true (l.take n) (l.drop n)).arrs))))], _, .cell (cells := [.d (.v (.bool ((Env.mk true (l.take n) (l.drop n)).live))), .ref [5] (g6), .ref [10] (g7)]) rfl hc11 t77 rfl rfl .nil, .cons (Reads.d _).gives (.cons (.ref (.head _)) (.cons (.ref (.tail _ (.head _))) .nil)), nodupB_ok rfl, by simp, (AllH.get (.cons (rowE (congrArg (List.map Iv.c) e9)) (.cons (rowE (congrArg (List.map Iv.c) e10)) .nil)))⟩⟩
theorem c_l6Join (a : Env) (b : Env) (hj : a.live = true → b.live = true → a.ints.length = b.ints.length ∧ a.arrs.length = b.arrs.length) (hb : a.ints.length ≤ 1048576 ∧ a.arrs.length ≤ 1048576 ∧ b.ints.length ≤ 1048576 ∧ b.arrs.length ≤ 1048576) : Trip Tryz.prog 145 [(true, 3), (true, 3)] (Env.c77 a ++ Env.c77 b) [(true, 3)] [.v (.bool ((Env.join a b).live)), .sl true 122 2 (List.map Iv.c ((Env.join a b).ints)), .sl true 122 2 (List.map Iv.c ((Env.join a b).arrs))] [] := by
 refine Trip.of Tryz.func145 (by decide) (c := _) rfl rfl (shB_ok rfl) (Nat.le_of_ble_eq_true rfl) rfl (AftOk.nil _) ?_
 refine .satA (t := 0) (i := 1) rfl rfl (fun hs1 => ?_)
 have hs1l : a.ints.length ≤ 9223372036854775807 := hs1.maplen
 refine .satA (t := 0) (i := 2) rfl rfl (fun hs2 => ?_)
 have hs2l : a.arrs.length ≤ 9223372036854775807 := hs2.maplen
 refine .satA (t := 1) (i := 1) rfl rfl (fun hs3 => ?_)
 have hs3l : b.ints.length ≤ 9223372036854775807 := hs3.maplen
 refine .satA (t := 1) (i := 2) rfl rfl (fun hs4 => ?_)
 have hs4l : b.arrs.length ≤ 9223372036854775807 := hs4.maplen
 refine .seq ?_
 refine .reg (X := Nat × Nat × Nat) (fun ζ => .of [(2, .one (.ptr [2] (ζ.1) 0)), (3, .one (.ptr [3] (ζ.2.1) 0)), (4, .one (.ptr [4] (ζ.2.2) 0))] [([2], (ζ.1, ζ.1, .box [.d (.v (.bool (a.live))), .d (.sl false 122 2 (List.map Iv.c (a.ints))), .d (.sl false 122 2 (List.map Iv.c (a.arrs)))])), ([3], (ζ.2.1, ζ.2.1, .box [.d (.v (.bool (b.live))), .d (.sl false 122 2 (List.map Iv.c (b.ints))), .d (.sl false 122 2 (List.map Iv.c (b.arrs)))])), ([4], (ζ.2.2, ζ.2.2, .box [.d (.v (.bool (false))), .d (.v (.slice none 0 0)), .d (.v (.slice none 0 0))]))]) [⟨[0], some 2, [], [[2]]⟩, ⟨[1], some 3, [], [[3]]⟩, ⟨[], some 4, [], [[4]]⟩] (fun k5 => ?_) ?_
 ·skip
  refine .box (.no rfl) rfl rfl rfl rfl rfl ?_
  refine .box (.no rfl) rfl rfl rfl rfl rfl ?_
  refine .alloc (.no rfl) rfl z77 rfl rfl rfl ?_
  exact .fin (k5, k5 + 1, k5 + 1 + 1) (.of (.cons rfl (.cons rfl (.cons rfl .nil))) (.cons rfl (.cons rfl (.cons rfl .nil))))
 rintro ⟨g6, g7, g8⟩
 refine .seq ?_
 refine .seq ?_
 refine .reg (X := Unit) (fun ζ => .of [(2, .one (.ptr [2] (g6) 0)), (3, .one (.ptr [3] (g7) 0)), (4, .one (.ptr [4] (g8) 0)), (11, .one (.d (.v (.bool (!a.live)))))] [([2], (g6, g6, .box [.d (.v (.bool (a.live))), .d (.sl false 122 2 (List.map Iv.c (a.ints))), .d (.sl false 122 2 (List.map Iv.c (a.arrs)))])), ([3], (g7, g7, .box [.d (.v (.bool (b.live))), .d (.sl false 122 2 (List.map Iv.c (b.ints))), .d (.sl false 122 2 (List.map Iv.c (b.arrs)))])), ([4], (g8, g8, .box [.d (.v (.bool (false))), .d (.v (.slice none 0 0)), .d (.v (.slice none 0 0))]))]) [⟨[2], some 9, [], []⟩, ⟨[9], some 10, [[2]], []⟩, ⟨[10], some 11, [], []⟩] (fun k9 => ?_) ?_
 ·skip
  refine .fieldAddrP (.no rfl) rfl t77 rfl rfl t4 rfl rfl rfl rfl ?_
  refine .load (.no rfl) rfl t4 rfl rfl (.ptr _ _ _ _ _ rfl) rfl rfl rfl rfl ?_
  refine .un (.no rfl) rfl rfl rfl rfl rfl ?_
  exact .fin () (.of (.cons rfl (.cons rfl (.cons rfl (.cons rfl .nil)))) (.cons rfl (.cons rfl (.cons rfl .nil))))
 intro _
 refine .cond (t := !a.live) rfl (fun c0 => ?_) (fun c0 => ?_)
 ·have c0 := c0
  try simp only [Bool.or_eq_true, Bool.or_eq_false_iff, Bool.and_eq_true, Bool.and_eq_false_iff, decide_eq_true_eq, decide_eq_false_iff_not, Bool.not_eq_true', Bool.not_eq_false', bne_iff_ne, beq_iff_eq, bne_eq_false_iff_eq, beq_eq_false_iff_ne, ne_eq, Bool.not_eq_eq_eq_not, Bool.not_true, Bool.not_false] at c0
  refine .seq ?_
  refine .reg (X := Nat × Nat) (fun ζ => .of [(4, .one (.ptr [4] (g8) 0))] [([4], (g8, ζ.1, .box [.d (.v (.bool (b.live))), .ref [13, 1] (ζ.2), .ref [13, 2] (ζ.2)])), ([13, 1], (ζ.2, ζ.2, .row 122 2 (List.map Iv.c (b.ints)))), ([13, 2], (ζ.2, ζ.2, .row 122 2 (List.map Iv.c (b.arrs))))]) [⟨[3], some 12, [[3]], []⟩, ⟨[12], some 13, [], [[13, 1], [13, 2]]⟩, ⟨[4, 13], none, [[4]], [[4]]⟩] (fun k10 => ?_) ?_
  ·skip
   refine .load (.no rfl) rfl t77 rfl rfl (.ptr _ _ _ _ _ rfl) rfl rfl rfl rfl ?_
   refine .call (.no rfl) rfl [] [] (c_l6Copy b (by first | omega | (rw [zip2To_len]; simp at hI c2 ⊢; omega))) rfl rfl rfl rfl rfl (.cons (Reads.d _).gives (.cons (Reads.d _).gives (.cons (Reads.d _).gives .nil))) rfl rfl (fun h => absurd rfl h) (.own [13, 0] (.own [13, 1] (.own [13, 2] .nil))) (.nil) rfl rfl rfl (by simp) rfl rfl rfl ?_
   refine .store (.no rfl) rfl t77 rfl rfl rfl rfl rfl rfl rfl rfl rfl ?_
   exact .fin (k10 + 1 + 1, k10 + 1) (.of (.cons rfl .nil) (.cons rfl (.cons rfl (.cons rfl .nil))))
  rintro ⟨g11, g12⟩
  refine .ret ?_
  have e13 : (b.live) = ((Env.join a b).live) := by simp [Env.join, c0]
  have e14 : (b.ints) = ((Env.join a b).ints) := by simp [Env.join, c0]
  have e15 : (b.arrs) = ((Env.join a b).arrs) := by simp [Env.join, c0]
  have hc16 := eq1 (fun z1 => some (g8, g11, O.box [.d (.v (.bool (z1))), .ref [13, 1] (g12), .ref [13, 2] (g12)])) e13
  show _ ∧ _
  exact ⟨.inr rfl, .done ⟨_, [], [([13, 1], (g12, g12, .row 122 2 (List.map Iv.c ((Env.join a b).ints)))), ([13, 2], (g12, g12, .row 122 2 (List.map Iv.c ((Env.join a b).arrs))))], _, .cell (cells := [.d (.v (.bool ((Env.join a b).live))), .ref [13, 1] (g12), .ref [13, 2] (g12)]) rfl hc16 t77 rfl rfl .nil, .cons (Reads.d _).gives (.cons (.ref (.head _)) (.cons (.ref (.tail _ (.head _))) .nil)), nodupB_ok rfl, by simp, (AllH.get (.cons (rowE (congrArg (List.map Iv.c) e14)) (.cons (rowE (congrArg (List.map Iv.c) e15)) .nil)))⟩⟩
 ·have c0 := c0
  try simp only [Bool.or_eq_true, Bool.or_eq_false_iff, Bool.and_eq_true, Bool.and_eq_false_iff, decide_eq_true_eq, decide_eq_false_iff_not, Bool.not_eq_true', Bool.not_eq_false', bne_iff_ne, beq_iff_eq, bne_eq_false_iff_eq, beq_eq_false_iff_ne, ne_eq, Bool.not_eq_eq_eq_not, Bool.not_true, Bool.not_false] at c0
  refine .skip ?_
  refine .seq ?_
  refine .seq ?_
  refine .reg (X := Unit) (fun ζ => .of [(2, .one (.ptr [2] (g6) 0)), (3, .one (.ptr [3] (g7) 0)), (4, .one (.ptr [4] (g8) 0)), (16, .one (.d (.v (.bool (!b.live)))))] [([2], (g6, g6, .box [.d (.v (.bool (a.live))), .d (.sl false 122 2 (List.map Iv.c (a.ints))), .d (.sl false 122 2 (List.map Iv.c (a.arrs)))])), ([3], (g7, g7, .box [.d (.v (.bool (b.live))), .d (.sl false 122 2 (List.map Iv.c (b.ints))), .d (.sl false 122 2 (List.map Iv.c (b.arrs)))])), ([4], (g8, g8, .box [.d (.v (.bool (false))), .d (.v (.slice none 0 0)), .d (.v (.slice none 0 0))]))]) [⟨[3], some 14, [], []⟩, ⟨[14], some 15, [[3]], []⟩, ⟨[15], some 16, [], []⟩] (fun k17 => ?_) ?_
  ·skip
   refine .fieldAddrP (.no rfl) rfl t77 rfl rfl t4 rfl rfl rfl rfl ?_
   refine .load (.no rfl) rfl t4 rfl rfl (.ptr _ _ _ _ _ rfl) rfl rfl rfl rfl ?_
   refine .un (.no rfl) rfl rfl rfl rfl rfl ?_
   exact .fin () (.of (.cons rfl (.cons rfl (.cons rfl (.cons rfl .nil)))) (.cons rfl (.cons rfl (.cons rfl .nil))))
  intro _
  refine .cond (t := !b.live) rfl (fun c1 => ?_) (fun c1 => ?_)
  ·have c1 := c1
   try simp only [Bool.or_eq_true, Bool.or_eq_false_iff, Bool.and_eq_true, Bool.and_eq_false_iff, decide_eq_true_eq, decide_eq_false_iff_not, Bool.not_eq_true', Bool.not_eq_false', bne_iff_ne, beq_iff_eq, bne_eq_false_iff_eq, beq_eq_false_iff_ne, ne_eq, Bool.not_eq_eq_eq_not, Bool.not_true, Bool.not_false] at c1
   refine .seq ?_
   refine .reg (X := Nat × Nat) (fun ζ => .of [(4, .one (.ptr [4] (g8) 0))] [([4], (g8, ζ.1, .box [.d (.v (.bool (a.live))), .ref [18, 1] (ζ.2), .ref [18, 2] (ζ.2)])), ([18, 1], (ζ.2, ζ.2, .row 122 2 (List.map Iv.c (a.ints)))), ([18, 2], (ζ.2, ζ.2, .row 122 2 (List.map Iv.c (a.arrs))))]) [⟨[2], some 17, [[2]], []⟩, ⟨[17], some 18, [], [[18, 1], [18, 2]]⟩, ⟨[4, 18], none, [[4]], [[4]]⟩] (fun k18 => ?_) ?_
   ·skip
    refine .load (.no rfl) rfl t77 rfl rfl (.ptr _ _ _ _ _ rfl) rfl rfl rfl rfl ?_
    refine .call (.no rfl) rfl [] [] (c_l6Copy a (by first | omega | (rw [zip2To_len]; simp at hI c2 ⊢; omega))) rfl rfl rfl rfl rfl (.cons (Reads.d _).gives (.cons (Reads.d _).gives (.cons (Reads.d _).gives .nil))) rfl rfl (fun h => absurd rfl h) (.own [18, 0] (.own [18, 1] (.own [18, 2] .nil))) (.nil) rfl rfl rfl (by simp) rfl rfl rfl ?_
    refine .store (.no rfl) rfl t77 rfl rfl rfl rfl rfl rfl rfl rfl rfl ?_
    exact .fin (k18 + 1 + 1, k18 + 1) (.of (.cons rfl .nil) (.cons rfl (.cons rfl (.cons rfl .nil))))
   rintro ⟨g19, g20⟩
   refine .ret ?_
   have e21 : (a.live) = ((Env.join a b).live) := by simp [Env.join, c0, c1]
   have e22 : (a.ints) = ((Env.join a b).ints) := by simp [Env.join, c0, c1]
   have e23 : (a.arrs) = ((Env.join a b).arrs) := by simp [Env.join, c0, c1]
   have hc24 := eq1 (fun z1 => some (g8, g19, O.box [.d (.v (.bool (z1))), .ref [18, 1] (g20), .ref [18, 2] (g20)])) e21
   show _ ∧ _
   exact ⟨.inr rfl, .done ⟨_, [], [([18, 1], (g20, g20, .row 122 2 (List.map Iv.c ((Env.join a b).ints)))), ([18, 2], (g20, g20, .row 122 2 (List.map Iv.c ((Env.join a b).arrs))))], _, .cell (cells := [.d (.v (.bool ((Env.join a b).live))), .ref [18, 1] (g20), .ref [18, 2] (g20)]) rfl hc24 t77 rfl rfl .nil, .cons (Reads.d _).gives (.cons (.ref (.head _)) (.cons (.ref (.tail _ (.head _))) .nil)), nodupB_ok rfl, by simp, (AllH.get (.cons (rowE (congrArg (List.map Iv.c) e22)) (.cons (rowE (congrArg (List.map Iv.c) e23)) .nil)))⟩⟩
  ·have c1 := c1
   try simp only [Bool.or_eq_true, Bool.or_eq_false_iff, Bool.and_eq_true, Bool.and_eq_false_iff, decide_eq_true_eq, decide_eq_false_iff_not, Bool.not_eq_true', Bool.not_eq_false', bne_iff_ne, beq_iff_eq, bne_eq_false_iff_eq, beq_eq_false_iff_ne, ne_eq, Bool.not_eq_eq_eq_not, Bool.not_true, Bool.not_false] at c1
   refine .skip ?_
   refine .seq ?_
   refine .reg (X := Unit) (fun ζ => .of [(2, .one (.ptr [2] (g6) 0)), (3, .one (.ptr [3] (g7) 0)), (4, .one (.ptr [4] (g8) 0)), (5, .one (.d (.sl false 122 2 (List.map Iv.c (a.ints ++ a.arrs)))))] [([2], (g6, g6, .box [.d (.v (.bool (a.live))), .d (.sl false 122 2 (List.map Iv.c (a.ints))), .d (.sl false 122 2 (List.map Iv.c (a.arrs)))])), ([3], (g7, g7, .box [.d (.v (.bool (b.live))), .d (.sl false 122 2 (List.map Iv.c (b.ints))), .d (.sl false 122 2 (List.map Iv.c (b.arrs)))])), ([4], (g8, g8, .box [.d (.v (.bool (false))), .d (.v (.slice none 0 0)), .d (.v (.slice none 0 0))]))]) [⟨[2], some 19, [[2]], []⟩, ⟨[19], some 20, [], []⟩, ⟨[20], some 5, [], []⟩] (fun k25 => ?_) ?_
   ·skip
    refine .load (.no rfl) rfl t77 rfl rfl (.ptr _ _ _ _ _ rfl) rfl rfl rfl rfl ?_
    refine .call (.no rfl) rfl [] [] (c_l6List a (by first | omega | (rw [zip2To_len]; simp at hI c2 ⊢; omega))) rfl rfl rfl rfl rfl (.cons (Reads.d _).gives (.cons (Reads.d _).gives (.cons (Reads.d _).gives .nil))) rfl rfl (fun h => absurd rfl h) (.frz [20, 0] (Frz.of_erase (erase_slo _ _ _ _ _ _ Iv.c_e)) .nil) (.nil) rfl rfl rfl (by simp) rfl rfl rfl ?_
    refine .assign (.no rfl) rfl rfl rfl rfl ?_
    exact .fin () (.of (.cons rfl (.cons rfl (.cons rfl (.cons rfl .nil)))) (.cons rfl (.cons rfl (.cons rfl .nil))))
   intro _
   refine .seq ?_
   refine .reg (X := Unit) (fun ζ => .of [(2, .one (.ptr [2] (g6) 0)), (4, .one (.ptr [4] (g8) 0)), (5, .one (.d (.sl false 122 2 (List.map Iv.c (a.ints ++ a.arrs))))), (6, .one (.d (.sl false 122 2 (List.map Iv.c (b.ints ++ b.arrs)))))] [([2], (g6, g6, .box [.d (.v (.bool (a.live))), .d (.sl false 122 2 (List.map Iv.c (a.ints))), .d (.sl false 122 2 (List.map Iv.c (a.arrs)))])), ([4], (g8, g8, .box [.d (.v (.bool (false))), .d (.v (.slice none 0 0)), .d (.v (.slice none 0 0))]))]) [⟨[3], some 21, [[3]], []⟩, ⟨[21], some 22, [], []⟩, ⟨[22], some 6, [], []⟩] (fun k26 => ?_) ?_
   ·skip
    refine .load (.no rfl) rfl t77 rfl rfl (.ptr _ _ _ _ _ rfl) rfl rfl rfl rfl ?_
    refine .call (.no rfl) rfl [] [] (c_l6List b (by first | omega | (rw [zip2To_len]; simp at hI c2 ⊢; omega))) rfl rfl rfl rfl rfl (.cons (Reads.d _).gives (.cons (Reads.d _).gives (.cons (Reads.d _).gives .nil))) rfl rfl (fun h => absurd rfl h) (.frz [22, 0] (Frz.of_erase (erase_slo _ _ _ _ _ _ Iv.c_e)) .nil) (.nil) rfl rfl rfl (by simp) rfl rfl rfl ?_
    refine .assign (.no rfl) rfl rfl rfl rfl ?_
    exact .fin () (.of (.cons rfl (.cons rfl (.cons rfl (.cons rfl .nil)))) (.cons rfl (.cons rfl .nil)))
   intro _
   refine .seq ?_
   refine .reg (X := Nat) (fun ζ => .of [(2, .one (.ptr [2] (g6) 0)), (4, .one (.ptr [4] (g8) 0)), (5, .one (.d (.sl false 122 2 (List.map Iv.c (a.ints ++ a.arrs))))), (6, .one (.d (.sl false 122 2 (List.map Iv.c (b.ints ++ b.arrs))))), (7, .one (.ref [23] (ζ)))] [([2], (g6, g6, .box [.d (.v (.bool (a.live))), .d (.sl false 122 2 (List.map Iv.c (a.ints))), .d (.sl false 122 2 (List.map Iv.c (a.arrs)))])), ([4], (g8, g8, .box [.d (.v (.bool (false))), .d (.v (.slice none 0 0)), .d (.v (.slice none 0 0))])), ([23], (ζ, ζ, .row 122 2 ([])))]) [⟨[], some 23, [], [[23]]⟩, ⟨[23], some 7, [], []⟩] (fun k27 => ?_) ?_
   ·skip
    refine .buildSlice (.no rfl) rfl (els := []) t75 rfl z122 rfl rfl rfl rfl rfl rfl rfl rfl (by simp [i122]) .nil rfl rfl rfl ?_
    refine .assign (.no rfl) rfl rfl rfl rfl ?_
    exact .fin k27 (.of (.cons rfl (.cons rfl (.cons rfl (.cons rfl (.cons rfl .nil))))) (.cons rfl (.cons rfl (.cons rfl .nil))))
   intro g28
   refine .seq ?_
   refine .seq ?_
   refine .reg (X := Unit) (fun ζ => .of [(2, .one (.ptr [2] (g6) 0)), (4, .one (.ptr [4] (g8) 0)), (5, .one (.d (.sl false 122 2 (List.map Iv.c (a.ints ++ a.arrs))))), (6, .one (.d (.sl false 122 2 (List.map Iv.c (b.ints ++ b.arrs))))), (7, .one (.ref [23] (g28))), (8, .one (.d (.v (.int .i64 (0)))))] [([2], (g6, g6, .box [.d (.v (.bool (a.live))), .d (.sl false 122 2 (List.map Iv.c (a.ints))), .d (.sl false 122 2 (List.map Iv.c (a.arrs)))])), ([4], (g8, g8, .box [.d (.v (.bool (false))), .d (.v (.slice none 0 0)), .d (.v (.slice none 0 0))])), ([23], (g28, g28, .row 122 2 ([])))]) [⟨[], some 8, [], []⟩] (fun k29 => ?_) ?_
   ·skip
    refine .assign (.no rfl) rfl rfl rfl rfl ?_
    exact .fin () (.of (.cons rfl (.cons rfl (.cons rfl (.cons rfl (.cons rfl (.cons rfl .nil)))))) (.cons rfl (.cons rfl (.cons rfl .nil))))
   intro _
   refine .block ?_
   refine .loop (X := Nat × Nat × Nat) (fun ζ => .of [(2, .one (.ptr [2] (g6) 0)), (4, .one (.ptr [4] (g8) 0)), (5, .one (.d (.sl false 122 2 (List.map Iv.c (a.ints ++ a.arrs))))), (6, .one (.d (.sl false 122 2 (List.map Iv.c (b.ints ++ b.arrs))))), (7, .one (.ref [23] (ζ.2.1))), (8, .one (.d (.v (.int .i64 ((ζ.1 : Int))))))] [([2], (g6, g6, .box [.d (.v (.bool (a.live))), .d (.sl false 122 2 (List.map Iv.c (a.ints))), .d (.sl false 122 2 (List.map Iv.c (a.arrs)))])), ([4], (g8, g8, .box [.d (.v (.bool (false))), .d (.v (.slice none 0 0)), .d (.v (.slice none 0 0))])), ([23], (ζ.2.1, ζ.2.2, .row 122 2 (List.map Iv.c (zip2To Iv.join (a.ints ++ a.arrs) (b.ints ++ b.arrs) ζ.1))))]) (fun ζ => ζ.1 ≤ (a.ints ++ a.arrs).length) (fun ζ => (a.ints ++ a.arrs).length - ζ.1) ?_ ?_
   ·skip
    exact .here (0, g28, g28) (.of (.cons rfl (.cons rfl (.cons rfl (.cons rfl (.cons rfl (.cons (svI (show (0) = ((0 : Int)) by first | rfl | omega | exact wrap_le (by omega) (by omega) | (rw [wrap_le (by omega) (by omega)]; omega))) .nil)))))) (.cons rfl (.cons rfl (.cons (rowE (show [] = List.map Iv.c (zip2To Iv.join (a.ints ++ a.arrs) (b.ints ++ b.arrs) 0) by first | rfl | exact congrArg _ (zip2To_step _ _ _ _))) .nil)))) (show 0 ≤ (a.ints ++ a.arrs).length by omega)
   ·rintro ⟨j, q30, q31⟩ hI
    have hI : j ≤ (a.ints ++ a.arrs).length := hI
    have hn9 : (a.ints ++ a.arrs).length ≤ 3145728 := by simp; omega
    have hn8 : (a.ints ++ a.arrs).length = (b.ints ++ b.arrs).length := by have := hj c0 c1; simp; omega
    have hn7 := zip2To_len Iv.join (a.ints ++ a.arrs) (b.ints ++ b.arrs) j
    refine .seq ?_
    refine .seq ?_
    refine .reg (X := Unit) (fun ζ => .of [(2, .one (.ptr [2] (g6) 0)), (4, .one (.ptr [4] (g8) 0)), (5, .one (.d (.sl false 122 2 (List.map Iv.c (a.ints ++ a.arrs))))), (6, .one (.d (.sl false 122 2 (List.map Iv.c (b.ints ++ b.arrs))))), (7, .one (.ref [23] (q30))), (8, .one (.d (.v (.int .i64 ((j : Int)))))), (27, .one (.d (.v (.bool (decide ((j : Int) < ((a.ints ++ a.arrs).length : Int)))))))] [([2], (g6, g6, .box [.d (.v (.bool (a.live))), .d (.sl false 122 2 (List.map Iv.c (a.ints))), .d (.sl false 122 2 (List.map Iv.c (a.arrs)))])), ([4], (g8, g8, .box [.d (.v (.bool (false))), .d (.v (.slice none 0 0)), .d (.v (.slice none 0 0))])), ([23], (q30, q31, .row 122 2 (List.map Iv.c (zip2To Iv.join (a.ints ++ a.arrs) (b.ints ++ b.arrs) j))))]) [⟨[8], some 24, [], []⟩, ⟨[5], some 25, [], []⟩, ⟨[25], some 26, [], []⟩, ⟨[24, 26], some 27, [], []⟩] (fun k32 => ?_) ?_
    ·skip
     refine .move (.no rfl) rfl rfl rfl rfl ?_
     refine .move (.no rfl) rfl rfl rfl rfl ?_
     refine .len (.no rfl) rfl (z := ((a.ints ++ a.arrs).length : Int)) t75 rfl rfl rfl (.d _ _) (map_len _ _) rfl ?_
     refine .bin (.no rfl) rfl rfl rfl rfl rfl rfl ?_
     exact .fin () (.of (.cons rfl (.cons rfl (.cons rfl (.cons rfl (.cons rfl (.cons rfl (.cons rfl .nil))))))) (.cons rfl (.cons rfl (.cons rfl .nil))))
    intro _
    refine .cond (t := decide ((j : Int) < ((a.ints ++ a.arrs).length : Int))) rfl (fun c2 => ?_) (fun c2 => ?_)
    ·have c2 := of_decide_eq_true c2
     refine .skip ?_
     refine .seq ?_
     refine .block ?_
     refine .regD (X := Nat) (by kernel_rfl) (fun ζ => .of [(2, .one (.ptr [2] (g6) 0)), (4, .one (.ptr [4] (g8) 0)), (5, .one (.d (.sl false 122 2 (List.map Iv.c (a.ints ++ a.arrs))))), (6, .one (.d (.sl false 122 2 (List.map Iv.c (b.ints ++ b.arrs))))), (7, .one (.ref [23] (ζ))), (8, .one (.d (.v (.int .i64 ((j : Int))))))] [([2], (g6, g6, .box [.d (.v (.bool (a.live))), .d (.sl false 122 2 (List.map Iv.c (a.ints))), .d (.sl false 122 2 (List.map Iv.c (a.arrs)))])), ([4], (g8, g8, .box [.d (.v (.bool (false))), .d (.v (.slice none 0 0)), .d (.v (.slice none 0 0))])), ([23], (ζ, ζ, .row 122 2 (List.map Iv.c (zip2To Iv.join (a.ints ++ a.arrs) (b.ints ++ b.arrs) j ++ [(Iv.join ((a.ints ++ a.arrs).getD (j) default) ((b.ints ++ b.arrs).getD (j) default))]))))]) [⟨[7], some 30, [], []⟩, ⟨[5], some 31, [], []⟩, ⟨[8], some 32, [], []⟩, ⟨[31, 32], some 33, [], []⟩, ⟨[33], some 34, [], []⟩, ⟨[6], some 35, [], []⟩, ⟨[8], some 36, [], []⟩, ⟨[35, 36], some 37, [], []⟩, ⟨[37], some 38, [], []⟩, ⟨[34, 38], some 39, [], []⟩, ⟨[39], some 40, [], [[40]]⟩, ⟨[30, 40], some 41, [[23], [40]], [[40], [23]]⟩, ⟨[41], some 7, [], []⟩] (by kernel_rfl) (fun k33 => ?_) ?_
     ·skip
      refine .move (.no rfl) rfl rfl rfl rfl ?_
      refine .move (.no rfl) rfl rfl rfl rfl ?_
      refine .move (.no rfl) rfl rfl rfl rfl ?_
      refine .indexAddr (.no rfl) rfl (j) t75 rfl t122 rfl rfl rfl (.d _ _) rfl rfl rfl (map_get (by omega)) rfl rfl ?_
      refine .load (.no rfl) rfl t122 rfl rfl (.d _) rfl rfl rfl rfl ?_
      refine .move (.no rfl) rfl rfl rfl rfl ?_
      refine .move (.no rfl) rfl rfl rfl rfl ?_
      refine .indexAddr (.no rfl) rfl (j) t75 rfl t122 rfl rfl rfl (.d _ _) rfl rfl rfl (map_get (by omega)) rfl rfl ?_
      refine .load (.no rfl) rfl t122 rfl rfl (.d _) rfl rfl rfl rfl ?_
      refine .call (.no rfl) rfl [] [] (c_l2Join ((a.ints ++ a.arrs).getD (j) default) ((b.ints ++ b.arrs).getD (j) default)) rfl rfl rfl rfl rfl (.cons (Reads.d _).gives (.cons (Reads.d _).gives (.cons (Reads.d _).gives (.cons (Reads.d _).gives .nil)))) rfl rfl (fun h => absurd rfl h) (.own [39, 0] (.own [39, 1] .nil)) (.nil) rfl rfl rfl (by simp) rfl rfl rfl ?_
      refine .buildSlice (.no rfl) rfl (els := [[.v (.int .i64 ((Iv.join ((a.ints ++ a.arrs).getD (j) default) ((b.ints ++ b.arrs).getD (j) default)).lo)), .v (.int .i64 ((Iv.join ((a.ints ++ a.arrs).getD (j) default) ((b.ints ++ b.arrs).getD (j) default)).hi))]]) t75 rfl z122 rfl rfl rfl rfl rfl rfl rfl rfl (by simp [i122]) (.cons _ _ _ _ _ _ (.d _) (.cons _ _ _ _ _ _ (.d _) .nil)) rfl rfl rfl ?_
      refine .append (.no rfl) rfl (l3 := List.map Iv.c (zip2To Iv.join (a.ints ++ a.arrs) (b.ints ++ b.arrs) j ++ [(Iv.join ((a.ints ++ a.arrs).getD (j) default) ((b.ints ++ b.arrs).getD (j) default))])) t75 rfl z122 rfl rfl rfl rfl rfl rfl rfl rfl (.ref _ _ _ _ rfl) (.take _ _ _ _ _ rfl) rfl (by simp [i122]; omega) (map_snoc _ _ _) rfl rfl ?_
      refine .assign (.no rfl) rfl rfl rfl rfl ?_
      exact .fin (k33 + 1 + 1 + 1 + 1 + 1 + 1 + 1 + 1 + 1 + 1 + 1) (.of (.cons rfl (.cons rfl (.cons rfl (.cons rfl (.cons rfl (.cons rfl .nil)))))) (.cons rfl (.cons rfl (.cons rfl .nil))))
     intro g34
     refine .reg (X := Unit) (fun ζ => .of [(2, .one (.ptr [2] (g6) 0)), (4, .one (.ptr [4] (g8) 0)), (5, .one (.d (.sl false 122 2 (List.map Iv.c (a.ints ++ a.arrs))))), (6, .one (.d (.sl false 122 2 (List.map Iv.c (b.ints ++ b.arrs))))), (7, .one (.ref [23] (g34))), (8, .one (.d (.v (.int .i64 (IntKind.wrap .i64 ((j : Int) + 1))))))] [([2], (g6, g6, .box [.d (.v (.bool (a.live))), .d (.sl false 122 2 (List.map Iv.c (a.ints))), .d (.sl false 122 2 (List.map Iv.c (a.arrs)))])), ([4], (g8, g8, .box [.d (.v (.bool (false))), .d (.v (.slice none 0 0)), .d (.v (.slice none 0 0))])), ([23], (g34, g34, .row 122 2 (List.map Iv.c (zip2To Iv.join (a.ints ++ a.arrs) (b.ints ++ b.arrs) j ++ [(Iv.join ((a.ints ++ a.arrs).getD (j) default) ((b.ints ++ b.arrs).getD (j) default))]))))]) [⟨[8], some 28, [], []⟩, ⟨[28], some 29, [], []⟩, ⟨[29], some 8, [], []⟩] (fun k35 => ?_) ?_
     ·skip
      refine .move (.no rfl) rfl rfl rfl rfl ?_
      refine .bin (.no rfl) rfl rfl rfl rfl rfl rfl ?_
      refine .assign (.no rfl) rfl rfl rfl rfl ?_
      exact .fin () (.of (.cons rfl (.cons rfl (.cons rfl (.cons rfl (.cons rfl (.cons rfl .nil)))))) (.cons rfl (.cons rfl (.cons rfl .nil))))
     intro _
     exact .here ((j + 1), g34, g34) (.of (.cons rfl (.cons rfl (.cons rfl (.cons rfl (.cons rfl (.cons (svI (show (IntKind.wrap .i64 ((j : Int) + 1)) = (((j + 1) : Int)) by first | rfl | omega | exact wrap_le (by omega) (by omega) | (rw [wrap_le (by omega) (by omega)]; omega))) .nil)))))) (.cons rfl (.cons rfl (.cons (rowE (show List.map Iv.c (zip2To Iv.join (a.ints ++ a.arrs) (b.ints ++ b.arrs) j ++ [(Iv.join ((a.ints ++ a.arrs).getD (j) default) ((b.ints ++ b.arrs).getD (j) default))]) = List.map Iv.c (zip2To Iv.join (a.ints ++ a.arrs) (b.ints ++ b.arrs) (j + 1)) by first | rfl | exact congrArg _ (zip2To_step _ _ _ _))) .nil)))) ⟨(show (j + 1) ≤ (a.ints ++ a.arrs).length by omega), (show (a.ints ++ a.arrs).length - (j + 1) < (a.ints ++ a.arrs).length - j by omega)⟩
    ·have c2 := of_decide_eq_false c2
     refine .exit ?_
     refine .seq ?_
     refine .reg (X := Nat × Nat) (fun ζ => .of [(4, .one (.ptr [4] (g8) 0))] [([4], (g8, ζ.1, .box [.d (.v (.bool ((Env.mk true ((zip2To Iv.join (a.ints ++ a.arrs) (b.ints ++ b.arrs) j).take a.ints.length) ((zip2To Iv.join (a.ints ++ a.arrs) (b.ints ++ b.arrs) j).drop a.ints.length)).live))), .ref [46, 1] (ζ.2), .ref [46, 2] (ζ.2)])), ([46, 1], (ζ.2, ζ.2, .row 122 2 (List.map Iv.c ((Env.mk true ((zip2To Iv.join (a.ints ++ a.arrs) (b.ints ++ b.arrs) j).take a.ints.length) ((zip2To Iv.join (a.ints ++ a.arrs) (b.ints ++ b.arrs) j).drop a.ints.length)).ints)))), ([46, 2], (ζ.2, ζ.2, .row 122 2 (List.map Iv.c ((Env.mk true ((zip2To Iv.join (a.ints ++ a.arrs) (b.ints ++ b.arrs) j).take a.ints.length) ((zip2To Iv.join (a.ints ++ a.arrs) (b.ints ++ b.arrs) j).drop a.ints.length)).arrs))))]) [⟨[7], some 42, [], []⟩, ⟨[2], some 43, [], []⟩, ⟨[43], some 44, [[2]], []⟩, ⟨[44], some 45, [], []⟩, ⟨[42, 45], some 46, [[23]], [[46, 1], [46, 2]]⟩, ⟨[4, 46], none, [[4]], [[4]]⟩] (fun k36 => ?_) ?_
     ·skip
      refine .move (.no rfl) rfl rfl rfl rfl ?_
      refine .fieldAddrP (.no rfl) rfl t77 rfl rfl t75 rfl rfl rfl rfl ?_
      refine .load (.no rfl) rfl t75 rfl rfl (.ptr _ _ _ _ _ rfl) rfl rfl rfl rfl ?_
      refine .len (.no rfl) rfl (z := (a.ints.length : Int)) t75 rfl rfl rfl (.d _ _) (map_len _ _) rfl ?_
      refine .call (.no rfl) rfl [[23]] [([23], (q30, q31, .row 122 2 (List.map Iv.c (zip2To Iv.join (a.ints ++ a.arrs) (b.ints ++ b.arrs) j))))] (c_l6Of (zip2To Iv.join (a.ints ++ a.arrs) (b.ints ++ b.arrs) j) a.ints.length (by first | omega | (rw [zip2To_len]; simp at hI c2 ⊢; omega))) rfl rfl rfl rfl rfl (.cons (Reads.ref (Frz.of_erase (erase_slo _ _ _ _ _ _ Iv.c_e)) (.head _) (.head _)).gives (.cons (Reads.d _).gives .nil)) rfl rfl (fun _ => (ownCons (Owned.v _) (ownCons (Owned.map _ _ _ _ Iv.c_o) (ownCons (Owned.map _ _ _ _ Iv.c_o) ownNil)))) (.own [46, 0] (.own [46, 1] (.own [46, 2] .nil))) (.nil) rfl rfl rfl (AllH.get (.cons rfl .nil)) rfl rfl rfl ?_
      refine .store (.no rfl) rfl t77 rfl rfl rfl rfl rfl rfl rfl rfl rfl ?_
      exact .fin (k36 + 1 + 1 + 1 + 1 + 1, k36 + 1 + 1 + 1 + 1) (.of (.cons rfl .nil) (.cons rfl (.cons rfl (.cons rfl .nil))))
     rintro ⟨g37, g38⟩
     refine .ret ?_
     have e39 : ((Env.mk true ((zip2To Iv.join (a.ints ++ a.arrs) (b.ints ++ b.arrs) j).take a.ints.length) ((zip2To Iv.join (a.ints ++ a.arrs) (b.ints ++ b.arrs) j).drop a.ints.length)).live) = ((Env.join a b).live) := by (have hj9 := hj c0 c1; first | (simp [Env.join, c0, c1]; done) | skip; simp only [Env.join, c0, c1, if_true]; first | (rw [zip2To_all Iv.join hI (by omega)]; exact zip2_take _ hj9.1) | (rw [zip2To_all Iv.join hI (by omega)]; exact zip2_drop _ hj9.1))
     have e40 : ((Env.mk true ((zip2To Iv.join (a.ints ++ a.arrs) (b.ints ++ b.arrs) j).take a.ints.length) ((zip2To Iv.join (a.ints ++ a.arrs) (b.ints ++ b.arrs) j).drop a.ints.length)).ints) = ((Env.join a b).ints) := by (have hj9 := hj c0 c1; first | (simp [Env.join, c0, c1]; done) | skip; simp only [Env.join, c0, c1, if_true]; first | (rw [zip2To_all Iv.join hI (by omega)]; exact zip2_take _ hj9.1) | (rw [zip2To_all Iv.join hI (by omega)]; exact zip2_drop _ hj9.1))
     have e41 : ((Env.mk true ((zip2To Iv.join (a.ints ++ a.arrs) (b.ints ++ b.arrs) j).take a.ints.length) ((zip2To Iv.join (a.ints ++ a.arrs) (b.ints ++ b.arrs) j).drop a.ints.length)).arrs) = ((Env.join a b).arrs) := by (have hj9 := hj c0 c1; first | (simp [Env.join, c0, c1]; done) | skip; simp only [Env.join, c0, c1, if_true]; first | (rw [zip2To_all Iv.join hI (by omega)]; exact zip2_take _ hj9.1) | (rw [zip2To_all Iv.join hI (by omega)]; exact zip2_drop _ hj9.1))
     have hc42 := eq1 (fun z1 => some (g8, g37, O.box [.d (.v (.bool (z1))), .ref [46, 1] (g38), .ref [46, 2] (g38)])) e39
     show _ ∧ _
     exact ⟨.inr rfl, .done ⟨_, [], [([46, 1], (g38, g38, .row 122 2 (List.map Iv.c ((Env.join a b).ints)))), ([46, 2], (g38, g38, .row 122 2 (List.map Iv.c ((Env.join a b).arrs))))], _, .cell (cells := [.d (.v (.bool ((Env.join a b).live))), .ref [46, 1] (g38), .ref [46, 2] (g38)]) rfl hc42 t77 rfl rfl .nil, .cons (Reads.d _).gives (.cons (.ref (.head _)) (.cons (.ref (.tail _ (.head _))) .nil)), nodupB_ok rfl, by simp, (AllH.get (.cons (rowE (congrArg (List.map Iv.c) e40)) (.cons (rowE (congrArg (List.map Iv.c) e41)) .nil)))⟩⟩
end Go.Proofs

namespace Go.Proofs
open Go Go.Proofs Go.Ev

def slc22 (x : List ByteArray) : List D := [.sl false 9 1 (List.map strc (x))]
theorem slc22_e (x : List ByteArray) : (slc22 x).map D.erase = slc22 x := by simp [slc22, erase_slo _ _ _ _ _ _ strc_e]
def slco22 (x : List ByteArray) : List D := [.sl true 9 1 (List.map strc (x))]
theorem slco22_e (x : List ByteArray) : (slco22 x).map D.erase = slc22 x := by simp [slco22, slc22, erase_slo _ _ _ _ _ _ strc_e]
theorem slco22_o (x : List ByteArray) : ∀ d ∈ slco22 x, Owned d := by simp [slco22, Owned.map _ _ _ _ strc_o]
def i182 : TI := ⟨.sl 22, 1, 24, [.slice none 0 0]⟩
theorem t182 : TyOk Tryz.prog 182 i182 := ⟨Tryz.underlying182, by kernel_rfl⟩
theorem z182 : ZOk Tryz.prog 182 i182 := ⟨t182, rfl⟩
theorem c_Grow (n : Nat) (hn : n ≤ 4194304) : Trip Tryz.prog 159 [(false, 1), (false, 1)] ([.v (.slice none 0 0)] ++ [.v (.int .i64 ((n : Int)))]) [(false, 1)] [.sl true 9 1 ([])] [] := by
 refine Trip.of Tryz.func159 (by decide) (c := _) rfl rfl (shB_ok rfl) (Nat.le_of_ble_eq_true rfl) rfl (AftOk.nil _) ?_
 refine .seq ?_
 refine .reg (X := Unit) (fun ζ => .of [(0, .one (.d (.v (.slice none 0 0)))), (1, .one (.d (.v (.int .i64 ((n : Int))))))] []) [⟨[], some 4, [], []⟩] (fun k1 => ?_) ?_
 ·skip
  refine .assign (.no rfl) rfl rfl rfl rfl ?_
  exact .fin () (.of (.cons rfl (.cons rfl .nil)) .nil)
 intro _
 refine .seq ?_
 refine .seq ?_
 refine .reg (X := Unit) (fun ζ => .of [(0, .one (.d (.v (.slice none 0 0)))), (1, .one (.d (.v (.int .i64 ((n : Int)))))), (6, .one (.d (.v (.bool (decide ((n : Int) < 0))))))] []) [⟨[1], some 5, [], []⟩, ⟨[5], some 6, [], []⟩] (fun k2 => ?_) ?_
 ·skip
  refine .move (.no rfl) rfl rfl rfl rfl ?_
  refine .bin (.no rfl) rfl rfl rfl rfl rfl rfl ?_
  exact .fin () (.of (.cons rfl (.cons rfl (.cons rfl .nil))) .nil)
 intro _
 refine .cond (t := decide ((n : Int) < 0)) rfl (fun c0 => ?_) (fun c0 => ?_)
 ·have c0 := of_decide_eq_true c0
  exfalso; omega
 ·have c0 := of_decide_eq_false c0
  refine .skip ?_
  refine .seq ?_
  refine .seq ?_
  refine .reg (X := Unit) (fun ζ => .of [(0, .one (.d (.v (.slice none 0 0)))), (1, .one (.d (.v (.int .i64 (IntKind.wrap .i64 ((n : Int) - 0))))))] []) [⟨[1], some 8, [], []⟩, ⟨[0], some 9, [], []⟩, ⟨[9], some 10, [], []⟩, ⟨[0], some 11, [], []⟩, ⟨[11], some 12, [], []⟩, ⟨[10, 12], some 13, [], []⟩, ⟨[8, 13], some 14, [], []⟩, ⟨[14], some 1, [], []⟩] (fun k3 => ?_) ?_
  ·skip
   refine .move (.no rfl) rfl rfl rfl rfl ?_
   refine .move (.no rfl) rfl rfl rfl rfl ?_
   refine .capNil (.no rfl) rfl t22 rfl rfl rfl rfl ?_
   refine .move (.no rfl) rfl rfl rfl rfl ?_
   refine .len (.no rfl) rfl (z := 0) t22 rfl rfl rfl (sz := 1) .nil rfl rfl ?_
   refine .bin (.no rfl) rfl rfl rfl rfl rfl rfl ?_
   refine .bin (.no rfl) rfl rfl rfl rfl rfl rfl ?_
   refine .assign (.no rfl) rfl rfl rfl rfl ?_
   exact .fin () (.of (.cons rfl (.cons rfl .nil)) .nil)
  intro _
  refine .seq ?_
  refine .reg (X := Unit) (fun ζ => .of [(0, .one (.d (.v (.slice none 0 0)))), (1, .one (.d (.v (.int .i64 (IntKind.wrap .i64 ((n : Int) - 0)))))), (16, .one (.d (.v (.bool (decide ((IntKind.wrap .i64 ((n : Int) - 0)) > 0))))))] []) [⟨[1], some 15, [], []⟩, ⟨[15], some 16, [], []⟩] (fun k4 => ?_) ?_
  ·skip
   refine .move (.no rfl) rfl rfl rfl rfl ?_
   refine .bin (.no rfl) rfl rfl rfl rfl rfl rfl ?_
   exact .fin () (.of (.cons rfl (.cons rfl (.cons rfl .nil))) .nil)
  intro _
  refine .cond (t := decide ((IntKind.wrap .i64 ((n : Int) - 0)) > 0)) rfl (fun c1 => ?_) (fun c1 => ?_)
  ·have c1 := of_decide_eq_true c1
   refine .reg (X := Nat) (fun ζ => .of [(0, .one (.cut [22] (ζ) (0)))] [([22], (ζ, ζ, .row 9 1 (List.map strc (List.replicate n .empty))))]) [⟨[0], some 17, [], []⟩, ⟨[0], some 18, [], []⟩, ⟨[18], some 19, [], []⟩, ⟨[17, 19], some 20, [], []⟩, ⟨[1], some 21, [], []⟩, ⟨[20, 21], some 22, [], [[22]]⟩, ⟨[0], some 23, [], []⟩, ⟨[23], some 24, [], []⟩, ⟨[22, 24], some 25, [[22]], []⟩, ⟨[25], some 0, [], []⟩] (fun k5 => ?_) ?_
   ·skip
    refine .move (.no rfl) rfl rfl rfl rfl ?_
    refine .move (.no rfl) rfl rfl rfl rfl ?_
    refine .capNil (.no rfl) rfl t22 rfl rfl rfl rfl ?_
    refine .sliceNil (.no rfl) rfl t22 rfl t9 rfl rfl (by exact rfl) (by exact ⟨_, rfl⟩) rfl ?_
    refine .move (.no rfl) rfl rfl rfl rfl ?_
    refine .growNil (.no rfl) rfl (n0 := n) (els := List.map strc (List.replicate n .empty)) t22 rfl t3 rfl z9 rfl rfl rfl rfl rfl rfl (by exact (wrap_le (by omega) (by omega)).trans (by omega)) (by (rw [wrap_le (by omega) (by omega)] at c1; omega)) (by simp [i9]; omega) (by omega) (rep_map _ _ _ rfl) rfl ?_
    refine .move (.no rfl) rfl rfl rfl rfl ?_
    refine .len (.no rfl) rfl (z := 0) t22 rfl rfl rfl (sz := 1) .nil rfl rfl ?_
    refine .slice (.no rfl) rfl (lv := 0) (hv := 0) (m := k5 + 1 + 1 + 1 + 1 + 1) t22 rfl t9 rfl rfl (.ref _ _ _ _ _ rfl) rfl (by intro _ _ h; cases h; exact ⟨_, .head _⟩) (by exact rfl) (by exact ⟨_, rfl⟩) (Nat.zero_le _) (Nat.zero_le _) rfl rfl ?_
    refine .assign (.no rfl) rfl rfl rfl rfl ?_
    exact .fin (k5 + 1 + 1 + 1 + 1 + 1) (.of (.cons rfl .nil) (.cons rfl .nil))
   intro g6
   refine .seq ?_
   refine .reg (X := Unit) (fun ζ => .of [(4, .one (.cut [22] (g6) (0)))] [([22], (g6, g6, .row 9 1 (List.map strc (List.replicate n .empty))))]) [⟨[0], some 26, [], []⟩, ⟨[26], some 4, [], []⟩] (fun k7 => ?_) ?_
   ·skip
    refine .move (.no rfl) rfl rfl rfl rfl ?_
    refine .assign (.no rfl) rfl rfl rfl rfl ?_
    exact .fin () (.of (.cons rfl .nil) (.cons rfl .nil))
   intro _
   refine .ret ?_
   show _ ∧ _
   exact ⟨.inr rfl, .done ⟨_, [], [([22], (g6, g6, .row 9 1 (List.map strc (List.replicate n .empty))))], _, .one rfl .nil, .cons (.cut0 (.head _)) .nil, nodupB_ok rfl, by simp, (AllH.get (.cons rfl .nil))⟩⟩
  ·have c1 := of_decide_eq_false c1
   refine .skip ?_
   refine .seq ?_
   refine .reg (X := Unit) (fun ζ => .of [(4, .one (.d (.v (.slice none 0 0))))] []) [⟨[0], some 26, [], []⟩, ⟨[26], some 4, [], []⟩] (fun k8 => ?_) ?_
   ·skip
    refine .move (.no rfl) rfl rfl rfl rfl ?_
    refine .assign (.no rfl) rfl rfl rfl rfl ?_
    exact .fin () (.of (.cons rfl .nil) .nil)
   intro _
   refine .ret ?_
   show _ ∧ _
   exact ⟨.inr rfl, .done ⟨_, [], [], _, .one rfl .nil, .cons (Gives.nil' (by first | rfl | simp_all)) .nil, nodupB_ok rfl, by simp, (by simp)⟩⟩
theorem c_Concat (l : List (List ByteArray)) (hb : lens l ≤ 4194304 ∧ l.length ≤ 1048576) : Trip Tryz.prog 128 [(false, 1)] ([.sl false 22 1 (List.map slc22 (l))]) [(false, 1)] [.sl true 9 1 (List.map strc (l.flatten))] [] := by
 refine Trip.of Tryz.func128 (by decide) (c := _) rfl rfl (shB_ok rfl) (Nat.le_of_ble_eq_true rfl) rfl (AftOk.nil _) ?_
 refine .sat (t := 0) rfl (fun hs1 => ?_)
 have hs1l : l.length ≤ 9223372036854775807 := hs1.maplen
 refine .seq ?_
 refine .reg (X := Unit) (fun ζ => .of [(0, .one (.d (.sl false 22 1 (List.map slc22 (l)))))] []) [⟨[], some 2, [], []⟩] (fun k2 => ?_) ?_
 ·skip
  refine .assign (.no rfl) rfl rfl rfl rfl ?_
  exact .fin () (.of (.cons rfl .nil) .nil)
 intro _
 refine .seq ?_
 refine .reg (X := Unit) (fun ζ => .of [(0, .one (.d (.sl false 22 1 (List.map slc22 (l))))), (3, .one (.d (.v (.int .i64 (0)))))] []) [⟨[], some 3, [], []⟩] (fun k3 => ?_) ?_
 ·skip
  refine .assign (.no rfl) rfl rfl rfl rfl ?_
  exact .fin () (.of (.cons rfl (.cons rfl .nil)) .nil)
 intro _
 refine .seq ?_
 refine .seq ?_
 refine .reg (X := Unit) (fun ζ => .of [(0, .one (.d (.sl false 22 1 (List.map slc22 (l))))), (3, .one (.d (.v (.int .i64 (0))))), (9, .one (.d (.sl false 22 1 (List.map slc22 (l))))), (10, .one (.d (.v (.int .i64 ((l.length : Int)))))), (11, .one (.d (.v (.int .i64 (0)))))] []) [⟨[0], some 9, [], []⟩, ⟨[9], some 10, [], []⟩, ⟨[], some 11, [], []⟩] (fun k4 => ?_) ?_
 ·skip
  refine .move (.no rfl) rfl rfl rfl rfl ?_
  refine .len (.no rfl) rfl (z := (l.length : Int)) t182 rfl rfl rfl (.d _ _) (map_len _ _) rfl ?_
  refine .move (.no rfl) rfl rfl rfl rfl ?_
  exact .fin () (.of (.cons rfl (.cons rfl (.cons rfl (.cons rfl (.cons rfl .nil))))) .nil)
 intro _
 refine .block ?_
 refine .loop (X := Nat) (fun ζ => .of [(0, .one (.d (.sl false 22 1 (List.map slc22 (l))))), (3, .one (.d (.v (.int .i64 ((lens (l.take ζ) : Int)))))), (9, .one (.d (.sl false 22 1 (List.map slc22 (l))))), (10, .one (.d (.v (.int .i64 ((l.length : Int)))))), (11, .one (.d (.v (.int .i64 ((ζ : Int))))))] []) (fun ζ => ζ ≤ l.length) (fun ζ => l.length - ζ) ?_ ?_
 ·skip
  exact .here 0 (.of (.cons rfl (.cons (svI (show (0) = ((lens (l.take 0) : Int)) by first | rfl | omega | exact wrap_le (by omega) (by omega) | (rw [wrap_le (by omega) (by omega)]; omega))) (.cons rfl (.cons rfl (.cons (svI (show (0) = ((0 : Int)) by first | rfl | omega | exact wrap_le (by omega) (by omega) | (rw [wrap_le (by omega) (by omega)]; omega))) .nil))))) .nil) (show 0 ≤ l.length by omega)
 ·rintro j hI
  have hI : j ≤ l.length := hI
  have hs9 := lens_take l j
  have hs8 := lens_le l (j + 1)
  have hs7 := lens_le l j
  refine .seq ?_
  refine .reg (X := Unit) (fun ζ => .of [(0, .one (.d (.sl false 22 1 (List.map slc22 (l))))), (3, .one (.d (.v (.int .i64 ((lens (l.take j) : Int)))))), (9, .one (.d (.sl false 22 1 (List.map slc22 (l))))), (10, .one (.d (.v (.int .i64 ((l.length : Int)))))), (11, .one (.d (.v (.int .i64 ((j : Int)))))), (12, .one (.d (.v (.bool (decide ((j : Int) < (l.length : Int)))))))] []) [⟨[11, 10], some 12, [], []⟩] (fun k5 => ?_) ?_
  ·skip
   refine .bin (.no rfl) rfl rfl rfl rfl rfl rfl ?_
   exact .fin () (.of (.cons rfl (.cons rfl (.cons rfl (.cons rfl (.cons rfl (.cons rfl .nil)))))) .nil)
  intro _
  refine .seq ?_
  refine .cond (t := decide ((j : Int) < (l.length : Int))) rfl (fun c0 => ?_) (fun c0 => ?_)
  ·have c0 := of_decide_eq_true c0
   refine .skip ?_
   refine .seq ?_
   refine .block ?_
   refine .seq ?_
   refine .reg (X := Unit) (fun ζ => .of [(0, .one (.d (.sl false 22 1 (List.map slc22 (l))))), (3, .one (.d (.v (.int .i64 ((lens (l.take j) : Int)))))), (5, .one (.d (.sl false 9 1 (List.map strc (l.getD j default))))), (9, .one (.d (.sl false 22 1 (List.map slc22 (l))))), (10, .one (.d (.v (.int .i64 ((l.length : Int)))))), (11, .one (.d (.v (.int .i64 ((j : Int))))))] []) [⟨[9, 11], some 13, [], []⟩, ⟨[13], some 14, [], []⟩, ⟨[14], some 5, [], []⟩] (fun k6 => ?_) ?_
   ·skip
    refine .indexAddr (.no rfl) rfl (j) t182 rfl t22 rfl rfl rfl (.d _ _) rfl rfl rfl (map_get (by omega)) rfl rfl ?_
    refine .load (.no rfl) rfl t22 rfl rfl (.d _) rfl rfl rfl rfl ?_
    refine .assign (.no rfl) rfl rfl rfl rfl ?_
    exact .fin () (.of (.cons rfl (.cons rfl (.cons rfl (.cons rfl (.cons rfl (.cons rfl .nil)))))) .nil)
   intro _
   refine .seq ?_
   refine .reg (X := Unit) (fun ζ => .of [(0, .one (.d (.sl false 22 1 (List.map slc22 (l))))), (3, .one (.d (.v (.int .i64 (IntKind.wrap .i64 ((lens (l.take j) : Int) + ((l.getD j default).length : Int))))))), (9, .one (.d (.sl false 22 1 (List.map slc22 (l))))), (10, .one (.d (.v (.int .i64 ((l.length : Int)))))), (11, .one (.d (.v (.int .i64 ((j : Int))))))] []) [⟨[3], some 15, [], []⟩, ⟨[5], some 16, [], []⟩, ⟨[16], some 17, [], []⟩, ⟨[15, 17], some 18, [], []⟩, ⟨[18], some 3, [], []⟩] (fun k7 => ?_) ?_
   ·skip
    refine .move (.no rfl) rfl rfl rfl rfl ?_
    refine .move (.no rfl) rfl rfl rfl rfl ?_
    refine .len (.no rfl) rfl (z := ((l.getD j default).length : Int)) t22 rfl rfl rfl (.d _ _) (map_len _ _) rfl ?_
    refine .bin (.no rfl) rfl rfl rfl rfl rfl rfl ?_
    refine .assign (.no rfl) rfl rfl rfl rfl ?_
    exact .fin () (.of (.cons rfl (.cons rfl (.cons rfl (.cons rfl (.cons rfl .nil))))) .nil)
   intro _
   refine .seq ?_
   refine .reg (X := Unit) (fun ζ => .of [(0, .one (.d (.sl false 22 1 (List.map slc22 (l))))), (3, .one (.d (.v (.int .i64 (IntKind.wrap .i64 ((lens (l.take j) : Int) + ((l.getD j default).length : Int))))))), (9, .one (.d (.sl false 22 1 (List.map slc22 (l))))), (10, .one (.d (.v (.int .i64 ((l.length : Int)))))), (11, .one (.d (.v (.int .i64 ((j : Int)))))), (20, .one (.d (.v (.bool (decide ((IntKind.wrap .i64 ((lens (l.take j) : Int) + ((l.getD j default).length : Int))) < 0))))))] []) [⟨[3], some 19, [], []⟩, ⟨[19], some 20, [], []⟩] (fun k8 => ?_) ?_
   ·skip
    refine .move (.no rfl) rfl rfl rfl rfl ?_
    refine .bin (.no rfl) rfl rfl rfl rfl rfl rfl ?_
    exact .fin () (.of (.cons rfl (.cons rfl (.cons rfl (.cons rfl (.cons rfl (.cons rfl .nil)))))) .nil)
   intro _
   refine .cond (t := decide ((IntKind.wrap .i64 ((lens (l.take j) : Int) + ((l.getD j default).length : Int))) < 0)) rfl (fun c1 => ?_) (fun c1 => ?_)
   ·have c1 := of_decide_eq_true c1
    exfalso; (rw [wrap_le (by omega) (by omega)] at c1; omega)
   ·have c1 := of_decide_eq_false c1
    refine .skip ?_
    refine .reg (X := Unit) (fun ζ => .of [(0, .one (.d (.sl false 22 1 (List.map slc22 (l))))), (3, .one (.d (.v (.int .i64 (IntKind.wrap .i64 ((lens (l.take j) : Int) + ((l.getD j default).length : Int))))))), (9, .one (.d (.sl false 22 1 (List.map slc22 (l))))), (10, .one (.d (.v (.int .i64 ((l.length : Int)))))), (11, .one (.d (.v (.int .i64 (IntKind.wrap .i64 ((j : Int) + 1))))))] []) [⟨[11], some 22, [], []⟩, ⟨[22], some 11, [], []⟩] (fun k9 => ?_) ?_
    ·skip
     refine .bin (.no rfl) rfl rfl rfl rfl rfl rfl ?_
     refine .move (.no rfl) rfl rfl rfl rfl ?_
     exact .fin () (.of (.cons rfl (.cons rfl (.cons rfl (.cons rfl (.cons rfl .nil))))) .nil)
    intro _
    exact .here (j + 1) (.of (.cons rfl (.cons (svI (show (IntKind.wrap .i64 ((lens (l.take j) : Int) + ((l.getD j default).length : Int))) = ((lens (l.take (j + 1)) : Int)) by first | rfl | omega | exact wrap_le (by omega) (by omega) | (rw [wrap_le (by omega) (by omega)]; omega))) (.cons rfl (.cons rfl (.cons (svI (show (IntKind.wrap .i64 ((j : Int) + 1)) = (((j + 1) : Int)) by first | rfl | omega | exact wrap_le (by omega) (by omega) | (rw [wrap_le (by omega) (by omega)]; omega))) .nil))))) .nil) ⟨(show (j + 1) ≤ l.length by omega), (show l.length - (j + 1) < l.length - j by omega)⟩
  ·have c0 := of_decide_eq_false c0
   refine .exit ?_
   refine .seq ?_
   refine .reg (X := Nat) (fun ζ => .of [(0, .one (.d (.sl false 22 1 (List.map slc22 (l))))), (6, .one (.ref [24, 0] (ζ)))] [([24, 0], (ζ, ζ, .row 9 1 ([])))]) [⟨[3], some 23, [], []⟩, ⟨[23], some 24, [], [[24, 0]]⟩, ⟨[24], some 6, [], []⟩] (fun k10 => ?_) ?_
   ·skip
    refine .move (.no rfl) rfl rfl rfl rfl ?_
    refine .call (.no rfl) rfl [] [] (c_Grow (lens (l.take j)) (by omega)) rfl rfl rfl rfl rfl (.cons (Reads.d _).gives (.cons (Reads.d _).gives .nil)) rfl rfl (fun h => absurd rfl h) (.own [24, 0] .nil) (.nil) rfl rfl rfl (by simp) rfl rfl rfl ?_
    refine .assign (.no rfl) rfl rfl rfl rfl ?_
    exact .fin (k10 + 1) (.of (.cons rfl (.cons rfl .nil)) (.cons rfl .nil))
   intro g11
   refine .seq ?_
   refine .seq ?_
   refine .reg (X := Unit) (fun ζ => .of [(6, .one (.ref [24, 0] (g11))), (25, .one (.d (.sl false 22 1 (List.map slc22 (l))))), (26, .one (.d (.v (.int .i64 ((l.length : Int)))))), (27, .one (.d (.v (.int .i64 (0)))))] [([24, 0], (g11, g11, .row 9 1 ([])))]) [⟨[0], some 25, [], []⟩, ⟨[25], some 26, [], []⟩, ⟨[], some 27, [], []⟩] (fun k12 => ?_) ?_
   ·skip
    refine .move (.no rfl) rfl rfl rfl rfl ?_
    refine .len (.no rfl) rfl (z := (l.length : Int)) t182 rfl rfl rfl (.d _ _) (map_len _ _) rfl ?_
    refine .move (.no rfl) rfl rfl rfl rfl ?_
    exact .fin () (.of (.cons rfl (.cons rfl (.cons rfl (.cons rfl .nil)))) (.cons rfl .nil))
   intro _
   refine .block ?_
   refine .loop (X := Nat × Nat × Nat) (fun ζ => .of [(6, .one (.ref [24, 0] (ζ.2.1))), (25, .one (.d (.sl false 22 1 (List.map slc22 (l))))), (26, .one (.d (.v (.int .i64 ((l.length : Int)))))), (27, .one (.d (.v (.int .i64 ((ζ.1 : Int))))))] [([24, 0], (ζ.2.1, ζ.2.2, .row 9 1 (List.map strc ((l.take ζ.1).flatten))))]) (fun ζ => ζ.1 ≤ l.length) (fun ζ => l.length - ζ.1) ?_ ?_
   ·skip
    exact .here (0, g11, g11) (.of (.cons rfl (.cons rfl (.cons rfl (.cons (svI (show (0) = ((0 : Int)) by first | rfl | omega | exact wrap_le (by omega) (by omega) | (rw [wrap_le (by omega) (by omega)]; omega))) .nil)))) (.cons (rowE (show [] = List.map strc ((l.take 0).flatten) by first | (simp; done) | exact congrArg _ (take_flatten _ _))) .nil)) (show 0 ≤ l.length by omega)
   ·rintro ⟨i, q13, q14⟩ hI
    have hI : i ≤ l.length := hI
    have hs9 := lens_take l i
    have hs8 := lens_le l (i + 1)
    have hs7 := lens_le l i
    refine .seq ?_
    refine .reg (X := Unit) (fun ζ => .of [(6, .one (.ref [24, 0] (q13))), (25, .one (.d (.sl false 22 1 (List.map slc22 (l))))), (26, .one (.d (.v (.int .i64 ((l.length : Int)))))), (27, .one (.d (.v (.int .i64 ((i : Int)))))), (28, .one (.d (.v (.bool (decide ((i : Int) < (l.length : Int)))))))] [([24, 0], (q13, q14, .row 9 1 (List.map strc ((l.take i).flatten))))]) [⟨[27, 26], some 28, [], []⟩] (fun k15 => ?_) ?_
    ·skip
     refine .bin (.no rfl) rfl rfl rfl rfl rfl rfl ?_
     exact .fin () (.of (.cons rfl (.cons rfl (.cons rfl (.cons rfl (.cons rfl .nil))))) (.cons rfl .nil))
    intro _
    refine .seq ?_
    refine .cond (t := decide ((i : Int) < (l.length : Int))) rfl (fun c2 => ?_) (fun c2 => ?_)
    ·have c2 := of_decide_eq_true c2
     refine .skip ?_
     refine .seq ?_
     refine .block ?_
     refine .seq ?_
     refine .reg (X := Unit) (fun ζ => .of [(6, .one (.ref [24, 0] (q13))), (8, .one (.d (.sl false 9 1 (List.map strc (l.getD i default))))), (25, .one (.d (.sl false 22 1 (List.map slc22 (l))))), (26, .one (.d (.v (.int .i64 ((l.length : Int)))))), (27, .one (.d (.v (.int .i64 ((i : Int))))))] [([24, 0], (q13, q14, .row 9 1 (List.map strc ((l.take i).flatten))))]) [⟨[25, 27], some 29, [], []⟩, ⟨[29], some 30, [], []⟩, ⟨[30], some 8, [], []⟩] (fun k16 => ?_) ?_
     ·skip
      refine .indexAddr (.no rfl) rfl (i) t182 rfl t22 rfl rfl rfl (.d _ _) rfl rfl rfl (map_get (by omega)) rfl rfl ?_
      refine .load (.no rfl) rfl t22 rfl rfl (.d _) rfl rfl rfl rfl ?_
      refine .assign (.no rfl) rfl rfl rfl rfl ?_
      exact .fin () (.of (.cons rfl (.cons rfl (.cons rfl (.cons rfl (.cons rfl .nil))))) (.cons rfl .nil))
     intro _
     refine .reg (X := Nat) (fun ζ => .of [(6, .one (.ref [24, 0] (ζ))), (25, .one (.d (.sl false 22 1 (List.map slc22 (l))))), (26, .one (.d (.v (.int .i64 ((l.length : Int)))))), (27, .one (.d (.v (.int .i64 ((i : Int))))))] [([24, 0], (ζ, ζ, .row 9 1 (List.map strc ((l.take i).flatten ++ l.getD i default))))]) [⟨[6], some 31, [], []⟩, ⟨[8], some 32, [], []⟩, ⟨[31, 32], some 33, [[24, 0]], [[24, 0]]⟩, ⟨[33], some 6, [], []⟩] (fun k17 => ?_) ?_
     ·skip
      refine .move (.no rfl) rfl rfl rfl rfl ?_
      refine .move (.no rfl) rfl rfl rfl rfl ?_
      refine .append (.no rfl) rfl (l3 := List.map strc ((l.take i).flatten ++ l.getD i default)) t22 rfl z9 rfl rfl rfl rfl rfl rfl rfl rfl (.ref _ _ _ _ rfl) (.ro _ _) rfl (by simp only [List.length_map, flatten_lens, i9]; omega) (map_app _ _ _) rfl rfl ?_
      refine .assign (.no rfl) rfl rfl rfl rfl ?_
      exact .fin (k17 + 1 + 1) (.of (.cons rfl (.cons rfl (.cons rfl (.cons rfl .nil)))) (.cons rfl .nil))
     intro g18
     refine .reg (X := Unit) (fun ζ => .of [(6, .one (.ref [24, 0] (g18))), (25, .one (.d (.sl false 22 1 (List.map slc22 (l))))), (26, .one (.d (.v (.int .i64 ((l.length : Int)))))), (27, .one (.d (.v (.int .i64 (IntKind.wrap .i64 ((i : Int) + 1))))))] [([24, 0], (g18, g18, .row 9 1 (List.map strc ((l.take i).flatten ++ l.getD i default))))]) [⟨[27], some 34, [], []⟩, ⟨[34], some 27, [], []⟩] (fun k19 => ?_) ?_
     ·skip
      refine .bin (.no rfl) rfl rfl rfl rfl rfl rfl ?_
      refine .move (.no rfl) rfl rfl rfl rfl ?_
      exact .fin () (.of (.cons rfl (.cons rfl (.cons rfl (.cons rfl .nil)))) (.cons rfl .nil))
     intro _
     exact .here ((i + 1), g18, g18) (.of (.cons rfl (.cons rfl (.cons rfl (.cons (svI (show (IntKind.wrap .i64 ((i : Int) + 1)) = (((i + 1) : Int)) by first | rfl | omega | exact wrap_le (by omega) (by omega) | (rw [wrap_le (by omega) (by omega)]; omega))) .nil)))) (.cons (rowE (show List.map strc ((l.take i).flatten ++ l.getD i default) = List.map strc ((l.take (i + 1)).flatten) by first | (simp; done) | exact congrArg _ (take_flatten _ _))) .nil)) ⟨(show (i + 1) ≤ l.length by omega), (show l.length - (i + 1) < l.length - i by omega)⟩
    ·have c2 := of_decide_eq_false c2
     refine .exit ?_
     refine .seq ?_
     refine .reg (X := Unit) (fun ζ => .of [(2, .one (.ref [24, 0] (q13)))] [([24, 0], (q13, q14, .row 9 1 (List.map strc ((l.take i).flatten))))]) [⟨[6], some 35, [], []⟩, ⟨[35], some 2, [], []⟩] (fun k20 => ?_) ?_
     ·skip
      refine .move (.no rfl) rfl rfl rfl rfl ?_
      refine .assign (.no rfl) rfl rfl rfl rfl ?_
      exact .fin () (.of (.cons rfl .nil) (.cons rfl .nil))
     intro _
     refine .ret ?_
     have e21 : ((l.take i).flatten) = (l.flatten) := by (rw [List.take_of_length_le (by omega)])
     show _ ∧ _
     exact ⟨.inr rfl, .done ⟨_, [], [([24, 0], (q13, q14, .row 9 1 (List.map strc (l.flatten))))], _, .one rfl .nil, .cons (.ref (.head _)) .nil, nodupB_ok rfl, by simp, (AllH.get (.cons (rowE (congrArg (List.map strc) e21)) .nil))⟩⟩
theorem c_names (d : Decl) (hb : d.vars.length ≤ 1048576 ∧ d.flags.length ≤ 1048576 ∧ d.arrays.length ≤ 1048576) : Trip Tryz.prog 97 [(true, 3)] (Decl.c38 d) [(false, 1)] [.sl true 9 1 (List.map strc (Decl.names d))] [] := by
 refine Trip.of Tryz.func97 (by decide) (c := _) rfl rfl (shB_ok rfl) (Nat.le_of_ble_eq_true rfl) rfl (AftOk.nil _) ?_
 refine .satA (t := 0) (i := 0) rfl rfl (fun hs1 => ?_)
 have hs1l : d.vars.length ≤ 9223372036854775807 := hs1.maplen
 refine .satA (t := 0) (i := 1) rfl rfl (fun hs2 => ?_)
 have hs2l : d.flags.length ≤ 9223372036854775807 := hs2.maplen
 refine .satA (t := 0) (i := 2) rfl rfl (fun hs3 => ?_)
 have hs3l : d.arrays.length ≤ 9223372036854775807 := hs3.maplen
 refine .seq ?_
 refine .reg (X := Nat) (fun ζ => .of [(1, .one (.ptr [1] (ζ) 0))] [([1], (ζ, ζ, .box [.d (.sl false 9 1 (List.map strc (d.vars))), .d (.sl false 9 1 (List.map strc (d.flags))), .d (.sl false 119 2 (List.map Arr.c (d.arrays)))]))]) [⟨[0], some 1, [], [[1]]⟩, ⟨[], some 2, [], []⟩] (fun k4 => ?_) ?_
 ·skip
  refine .box (.no rfl) rfl rfl rfl rfl rfl ?_
  refine .assign (.no rfl) rfl rfl rfl rfl ?_
  exact .fin k4 (.of (.cons rfl .nil) (.cons rfl .nil))
 intro g5
 refine .seq ?_
 refine .reg (X := Nat) (fun ζ => .of [(1, .one (.ptr [1] (g5) 0)), (3, .one (.ref [11, 0] (ζ)))] [([1], (g5, g5, .box [.d (.sl false 9 1 (List.map strc (d.vars))), .d (.sl false 9 1 (List.map strc (d.flags))), .d (.sl false 119 2 (List.map Arr.c (d.arrays)))])), ([11, 0], (ζ, ζ, .row 9 1 (List.map strc ([d.vars, d.flags].flatten))))]) [⟨[1], some 6, [], []⟩, ⟨[6], some 7, [[1]], []⟩, ⟨[1], some 8, [], []⟩, ⟨[8], some 9, [[1]], []⟩, ⟨[7, 9], some 10, [], [[10]]⟩, ⟨[10], some 11, [[10]], [[11, 0]]⟩, ⟨[11], some 3, [], []⟩] (fun k6 => ?_) ?_
 ·skip
  refine .fieldAddrP (.no rfl) rfl t38 rfl rfl t22 rfl rfl rfl rfl ?_
  refine .load (.no rfl) rfl t22 rfl rfl (.ptr _ _ _ _ _ rfl) rfl rfl rfl rfl ?_
  refine .fieldAddrP (.no rfl) rfl t38 rfl rfl t22 rfl rfl rfl rfl ?_
  refine .load (.no rfl) rfl t22 rfl rfl (.ptr _ _ _ _ _ rfl) rfl rfl rfl rfl ?_
  refine .buildSlice (.no rfl) rfl (els := [[.sl false 9 1 (List.map strc (d.vars))], [.sl false 9 1 (List.map strc (d.flags))]]) t182 rfl z22 rfl rfl rfl rfl rfl rfl rfl rfl (by simp [i22]) (.cons _ _ _ _ _ _ (.d _) (.cons _ _ _ _ _ _ (.d _) .nil)) rfl rfl rfl ?_
  refine .call (.no rfl) rfl [[10]] [([10], (k6 + 1 + 1 + 1 + 1, k6 + 1 + 1 + 1 + 1, .row 22 1 ([[.sl false 9 1 (List.map strc (d.vars))], [.sl false 9 1 (List.map strc (d.flags))]])))] (c_Concat [d.vars, d.flags] (by (simp [lens]; omega))) rfl rfl rfl rfl rfl (.cons (Reads.ref (Frz.of_erase (erase_slo true 22 1 slc22 slc22 ([d.vars, d.flags]) slc22_e)) (.head _) (.head _)).gives .nil) rfl rfl (fun _ => (ownCons (Owned.map _ _ _ _ strc_o) ownNil)) (.own [11, 0] .nil) (.nil) rfl rfl rfl (AllH.get (.cons rfl .nil)) rfl rfl rfl ?_
  refine .assign (.no rfl) rfl rfl rfl rfl ?_
  exact .fin (k6 + 1 + 1 + 1 + 1 + 1) (.of (.cons rfl (.cons rfl .nil)) (.cons rfl (.cons rfl .nil)))
 intro g7
 refine .seq ?_
 refine .seq ?_
 refine .reg (X := Unit) (fun ζ => .of [(3, .one (.ref [11, 0] (g7))), (13, .one (.d (.sl false 119 2 (List.map Arr.c (d.arrays))))), (14, .one (.d (.v (.int .i64 ((d.arrays.length : Int)))))), (15, .one (.d (.v (.int .i64 (0)))))] [([11, 0], (g7, g7, .row 9 1 (List.map strc ([d.vars, d.flags].flatten))))]) [⟨[1], some 12, [], []⟩, ⟨[12], some 13, [[1]], []⟩, ⟨[13], some 14, [], []⟩, ⟨[], some 15, [], []⟩] (fun k8 => ?_) ?_
 ·skip
  refine .fieldAddrP (.no rfl) rfl t38 rfl rfl t36 rfl rfl rfl rfl ?_
  refine .load (.no rfl) rfl t36 rfl rfl (.ptr _ _ _ _ _ rfl) rfl rfl rfl rfl ?_
  refine .len (.no rfl) rfl (z := (d.arrays.length : Int)) t36 rfl rfl rfl (.d _ _) (map_len _ _) rfl ?_
  refine .move (.no rfl) rfl rfl rfl rfl ?_
  exact .fin () (.of (.cons rfl (.cons rfl (.cons rfl (.cons rfl .nil)))) (.cons rfl .nil))
 intro _
 refine .block ?_
 refine .loop (X := Nat × Nat × Nat) (fun ζ => .of [(3, .one (.ref [11, 0] (ζ.2.1))), (13, .one (.d (.sl false 119 2 (List.map Arr.c (d.arrays))))), (14, .one (.d (.v (.int .i64 ((d.arrays.length : Int)))))), (15, .one (.d (.v (.int .i64 ((ζ.1 : Int))))))] [([11, 0], (ζ.2.1, ζ.2.2, .row 9 1 (List.map strc (d.vars ++ d.flags ++ (d.arrays.take ζ.1).map Arr.name))))]) (fun ζ => ζ.1 ≤ d.arrays.length) (fun ζ => d.arrays.length - ζ.1) ?_ ?_
 ·skip
  exact .here (0, g7, g7) (.of (.cons rfl (.cons rfl (.cons rfl (.cons (svI (show (0) = ((0 : Int)) by first | rfl | omega | exact wrap_le (by omega) (by omega) | (rw [wrap_le (by omega) (by omega)]; omega))) .nil)))) (.cons (rowE (show List.map strc ([d.vars, d.flags].flatten) = List.map strc (d.vars ++ d.flags ++ (d.arrays.take 0).map Arr.name) by first | (simp; done) | (rw [List.append_assoc (d.vars ++ d.flags), take_step (f := Arr.name) (by omega)]))) .nil)) (show 0 ≤ d.arrays.length by omega)
 ·rintro ⟨j, q9, q10⟩ hI
  have hI : j ≤ d.arrays.length := hI
  refine .seq ?_
  refine .reg (X := Unit) (fun ζ => .of [(3, .one (.ref [11, 0] (q9))), (13, .one (.d (.sl false 119 2 (List.map Arr.c (d.arrays))))), (14, .one (.d (.v (.int .i64 ((d.arrays.length : Int)))))), (15, .one (.d (.v (.int .i64 ((j : Int)))))), (16, .one (.d (.v (.bool (decide ((j : Int) < (d.arrays.length : Int)))))))] [([11, 0], (q9, q10, .row 9 1 (List.map strc (d.vars ++ d.flags ++ (d.arrays.take j).map Arr.name))))]) [⟨[15, 14], some 16, [], []⟩] (fun k11 => ?_) ?_
  ·skip
   refine .bin (.no rfl) rfl rfl rfl rfl rfl rfl ?_
   exact .fin () (.of (.cons rfl (.cons rfl (.cons rfl (.cons rfl (.cons rfl .nil))))) (.cons rfl .nil))
  intro _
  refine .seq ?_
  refine .cond (t := decide ((j : Int) < (d.arrays.length : Int))) rfl (fun c0 => ?_) (fun c0 => ?_)
  ·have c0 := of_decide_eq_true c0
   refine .skip ?_
   refine .seq ?_
   refine .block ?_
   refine .seq ?_
   refine .reg (X := Nat × Nat) (fun ζ => .of [(3, .one (.ref [11, 0] (q9))), (5, .one (.ptr [5] (ζ.1) 0)), (13, .one (.d (.sl false 119 2 (List.map Arr.c (d.arrays))))), (14, .one (.d (.v (.int .i64 ((d.arrays.length : Int)))))), (15, .one (.d (.v (.int .i64 ((j : Int))))))] [([5], (ζ.1, ζ.2, .box [.d (.v (.string ((d.arrays.getD j default).name))), .d (.v (.int .i64 ((d.arrays.getD j default).size)))])), ([11, 0], (q9, q10, .row 9 1 (List.map strc (d.vars ++ d.flags ++ (d.arrays.take j).map Arr.name))))]) [⟨[13, 15], some 17, [], []⟩, ⟨[17], some 18, [], []⟩, ⟨[], some 5, [], [[5]]⟩, ⟨[5, 18], none, [[5]], [[5]]⟩] (fun k12 => ?_) ?_
   ·skip
    refine .indexAddr (.no rfl) rfl (j) t36 rfl t119 rfl rfl rfl (.d _ _) rfl rfl rfl (map_get (by omega)) rfl rfl ?_
    refine .load (.no rfl) rfl t119 rfl rfl (.d _) rfl rfl rfl rfl ?_
    refine .alloc (.no rfl) rfl z119 rfl rfl rfl ?_
    refine .store (.no rfl) rfl t119 rfl rfl rfl rfl rfl rfl rfl rfl rfl ?_
    exact .fin (k12 + 1 + 1, k12 + 1 + 1 + 1) (.of (.cons rfl (.cons rfl (.cons rfl (.cons rfl (.cons rfl .nil))))) (.cons rfl (.cons rfl .nil)))
   rintro ⟨g13, g14⟩
   refine .reg (X := Nat) (fun ζ => .of [(3, .one (.ref [11, 0] (ζ))), (13, .one (.d (.sl false 119 2 (List.map Arr.c (d.arrays))))), (14, .one (.d (.v (.int .i64 ((d.arrays.length : Int)))))), (15, .one (.d (.v (.int .i64 ((j : Int))))))] [([11, 0], (ζ, ζ, .row 9 1 (List.map strc (d.vars ++ d.flags ++ (d.arrays.take j).map Arr.name ++ [(d.arrays.getD j default).name]))))]) [⟨[3], some 19, [], []⟩, ⟨[5], some 20, [], []⟩, ⟨[20], some 21, [[5]], []⟩, ⟨[21], some 22, [], [[22]]⟩, ⟨[19, 22], some 23, [[11, 0], [22]], [[22], [11, 0]]⟩, ⟨[23], some 3, [], []⟩] (fun k15 => ?_) ?_
   ·skip
    refine .move (.no rfl) rfl rfl rfl rfl ?_
    refine .fieldAddrP (.no rfl) rfl t119 rfl rfl t9 rfl rfl rfl rfl ?_
    refine .load (.no rfl) rfl t9 rfl rfl (.ptr _ _ _ _ _ rfl) rfl rfl rfl rfl ?_
    refine .buildSlice (.no rfl) rfl (els := [[.v (.string ((d.arrays.getD j default).name))]]) t22 rfl z9 rfl rfl rfl rfl rfl rfl rfl rfl (by simp [i9]) (.cons _ _ _ _ _ _ (.d _) .nil) rfl rfl rfl ?_
    refine .append (.no rfl) rfl (l3 := List.map strc (d.vars ++ d.flags ++ (d.arrays.take j).map Arr.name ++ [(d.arrays.getD j default).name])) t22 rfl z9 rfl rfl rfl rfl rfl rfl rfl rfl (.ref _ _ _ _ rfl) (.take _ _ _ _ _ rfl) rfl (by simp [i9]; omega) (map_snoc _ _ _) rfl rfl ?_
    refine .assign (.no rfl) rfl rfl rfl rfl ?_
    exact .fin (k15 + 1 + 1 + 1 + 1) (.of (.cons rfl (.cons rfl (.cons rfl (.cons rfl .nil)))) (.cons rfl .nil))
   intro g16
   refine .reg (X := Unit) (fun ζ => .of [(3, .one (.ref [11, 0] (g16))), (13, .one (.d (.sl false 119 2 (List.map Arr.c (d.arrays))))), (14, .one (.d (.v (.int .i64 ((d.arrays.length : Int)))))), (15, .one (.d (.v (.int .i64 (IntKind.wrap .i64 ((j : Int) + 1))))))] [([11, 0], (g16, g16, .row 9 1 (List.map strc (d.vars ++ d.flags ++ (d.arrays.take j).map Arr.name ++ [(d.arrays.getD j default).name]))))]) [⟨[15], some 24, [], []⟩, ⟨[24], some 15, [], []⟩] (fun k17 => ?_) ?_
   ·skip
    refine .bin (.no rfl) rfl rfl rfl rfl rfl rfl ?_
    refine .move (.no rfl) rfl rfl rfl rfl ?_
    exact .fin () (.of (.cons rfl (.cons rfl (.cons rfl (.cons rfl .nil)))) (.cons rfl .nil))
   intro _
   exact .here ((j + 1), g16, g16) (.of (.cons rfl (.cons rfl (.cons rfl (.cons (svI (show (IntKind.wrap .i64 ((j : Int) + 1)) = (((j + 1) : Int)) by first | rfl | omega | exact wrap_le (by omega) (by omega) | (rw [wrap_le (by omega) (by omega)]; omega))) .nil)))) (.cons (rowE (show List.map strc (d.vars ++ d.flags ++ (d.arrays.take j).map Arr.name ++ [(d.arrays.getD j default).name]) = List.map strc (d.vars ++ d.flags ++ (d.arrays.take (j + 1)).map Arr.name) by first | (simp; done) | (rw [List.append_assoc (d.vars ++ d.flags), take_step (f := Arr.name) (by omega)]))) .nil)) ⟨(show (j + 1) ≤ d.arrays.length by omega), (show d.arrays.length - (j + 1) < d.arrays.length - j by omega)⟩
  ·have c0 := of_decide_eq_false c0
   refine .exit ?_
   refine .seq ?_
   refine .reg (X := Unit) (fun ζ => .of [(2, .one (.ref [11, 0] (q9)))] [([11, 0], (q9, q10, .row 9 1 (List.map strc (d.vars ++ d.flags ++ (d.arrays.take j).map Arr.name))))]) [⟨[3], some 25, [], []⟩, ⟨[25], some 2, [], []⟩] (fun k18 => ?_) ?_
   ·skip
    refine .move (.no rfl) rfl rfl rfl rfl ?_
    refine .assign (.no rfl) rfl rfl rfl rfl ?_
    exact .fin () (.of (.cons rfl .nil) (.cons rfl .nil))
   intro _
   refine .ret ?_
   have e19 : (d.vars ++ d.flags ++ (d.arrays.take j).map Arr.name) = (Decl.names d) := by (simp only [Decl.names]; rw [List.take_of_length_le (by omega)])
   show _ ∧ _
   exact ⟨.inr rfl, .done ⟨_, [], [([11, 0], (q9, q10, .row 9 1 (List.map strc (Decl.names d))))], _, .one rfl .nil, .cons (.ref (.head _)) .nil, nodupB_ok rfl, by simp, (AllH.get (.cons (rowE (congrArg (List.map strc) e19)) .nil))⟩⟩
end Go.Proofs

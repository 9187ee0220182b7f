/- Contracts of the program's functions at this seat, printed by a program of ours and checked by Lean: each under the conditions of its own statement. -/
import Derived.Test.YtimohcldmffcoaaGreatDoorF2
set_option linter.all false
set_option linter.unnecessarySimpa false
set_option linter.unusedSectionVars false
set_option linter.unusedSimpArgs false
set_option linter.unusedVariables false
namespace Go.Proofs
open Go Go.Proofs Go.Ev

def i128 : TI := ⟨.fn, 1, 8, [.nilFunc]⟩
theorem t128 : TyOk Tryz.prog 128 i128 := ⟨⟨_, _, _, Tryz.underlying128⟩, by kernel_rfl⟩
theorem z128 : ZOk Tryz.prog 128 i128 := ⟨t128, rfl⟩
theorem c_sIvHas (a : Iv) (n : Int) : Trip Tryz.prog 81 [(true, 2), (false, 1)] (Iv.c a ++ [.v (.int .i64 (n))]) [(false, 1)] [.v (.bool (Iv.has a n))] [] := by
 refine Trip.of Tryz.func81 (by decide) (c := _) rfl rfl (shB_ok rfl) (Nat.le_of_ble_eq_true rfl) rfl (AftOk.nil _) ?_
 refine .seq ?_
 refine .reg (X := Nat) (fun ζ => .of [(1, .one (.d (.v (.int .i64 (n))))), (2, .one (.ptr [2] (ζ) 0))] [([2], (ζ, ζ, .box [.d (.v (.int .i64 (a.lo))), .d (.v (.int .i64 (a.hi)))]))]) [⟨[0], some 2, [], [[2]]⟩, ⟨[], some 4, [], []⟩] (fun k1 => ?_) ?_
 ·skip
  refine .box (.no rfl) rfl rfl rfl rfl rfl ?_
  refine .assign (.no rfl) rfl rfl rfl rfl ?_
  exact .fin k1 (.of (.cons rfl (.cons rfl .nil)) (.cons rfl .nil))
 intro g2
 refine .seq ?_
 refine .reg (X := Unit) (fun ζ => .of [(4, .one (.d (.v (.bool ((decide (a.lo ≤ n) && decide (n ≤ a.hi)))))))] []) [⟨[2], some 5, [], []⟩, ⟨[5], some 6, [[2]], []⟩, ⟨[1], some 7, [], []⟩, ⟨[6, 7], some 8, [], []⟩, ⟨[8], some 9, [], []⟩, ⟨[9, 1], some 10, [], []⟩, ⟨[9, 2], some 11, [], []⟩, ⟨[9, 11], some 12, [[2]], []⟩, ⟨[9, 10, 12], some 13, [], []⟩, ⟨[9, 13], some 14, [], []⟩, ⟨[14], some 4, [], []⟩] (fun k3 => ?_) ?_
 ·skip
  refine .fieldAddrP (.no rfl) rfl t122 rfl rfl t2 rfl rfl rfl rfl ?_
  refine .load (.no rfl) rfl t2 rfl rfl (.ptr _ _ _ _ _ rfl) rfl rfl rfl rfl ?_
  refine .move (.no rfl) rfl rfl rfl rfl ?_
  refine .bin (.no rfl) rfl rfl rfl rfl rfl rfl ?_
  refine .moveB (.no rfl) rfl rfl rfl rfl fun b4 g1_4 => ?_
  cases b4
  ·skip
   refine .off rfl rfl rfl rfl rfl rfl rfl ?_
   refine .off rfl rfl rfl rfl rfl rfl rfl ?_
   refine .off rfl rfl rfl rfl rfl rfl rfl ?_
   refine .off rfl rfl rfl rfl rfl rfl rfl ?_
   refine .pick (.no rfl) rfl rfl rfl rfl rfl ?_
   refine .assign (.no rfl) rfl rfl rfl rfl ?_
   exact .fin () (.of (.cons (svB (show (false) = ((decide (a.lo ≤ n) && decide (n ≤ a.hi))) by first | (simp only [g1_4, Bool.true_or, Bool.false_or, Bool.true_and, Bool.false_and, Bool.not_true, Bool.not_false]; done) | simp [g1_4])) .nil) .nil)
  ·skip
   refine .move (.on rfl rfl rfl rfl rfl) rfl rfl rfl rfl ?_
   refine .fieldAddrP (.on rfl rfl rfl rfl rfl) rfl t122 rfl rfl t2 rfl rfl rfl rfl ?_
   refine .load (.on rfl rfl rfl rfl rfl) rfl t2 rfl rfl (.ptr _ _ _ _ _ rfl) rfl rfl rfl rfl ?_
   refine .bin (.on rfl rfl rfl rfl rfl) rfl rfl rfl rfl rfl rfl ?_
   refine .pick (.no rfl) rfl rfl rfl rfl rfl ?_
   refine .assign (.no rfl) rfl rfl rfl rfl ?_
   exact .fin () (.of (.cons (svB (show (decide (n ≤ a.hi)) = ((decide (a.lo ≤ n) && decide (n ≤ a.hi))) by first | (simp only [g1_4, Bool.true_or, Bool.false_or, Bool.true_and, Bool.false_and, Bool.not_true, Bool.not_false]; done) | simp [g1_4])) .nil) .nil)
 intro _
 refine .ret ?_
 have e5 : ((decide (a.lo ≤ n) && decide (n ≤ a.hi))) = (Iv.has a n) := by (first | rfl | simp_all [Iv.has, inR])
 have hc6 := eq1 (fun z1 => SV.one (.d (.v (.bool (z1))))) e5
 show _ ∧ _
 exact ⟨.inr rfl, .done ⟨_, [], [], _, .one (c := .d (.v (.bool (Iv.has a n)))) (hc6) .nil, .cons (Reads.d _).gives .nil, nodupB_ok rfl, by simp, (by simp)⟩⟩
theorem c_has (a : Iv) (n : Int) : Trip Tryz.prog 88 [(true, 2), (false, 1)] (Iv.c a ++ [.v (.int .i64 (n))]) [(false, 1)] [.v (.bool (Iv.has a n))] [] := by
 refine Trip.of Tryz.func88 (by decide) (c := _) rfl rfl (shB_ok rfl) (Nat.le_of_ble_eq_true rfl) rfl (AftOk.nil _) ?_
 refine .seq ?_
 refine .reg (X := Nat) (fun ζ => .of [(1, .one (.d (.v (.int .i64 (n))))), (2, .one (.ptr [2] (ζ) 0))] [([2], (ζ, ζ, .box [.d (.v (.int .i64 (a.lo))), .d (.v (.int .i64 (a.hi)))]))]) [⟨[0], some 2, [], [[2]]⟩, ⟨[], some 4, [], []⟩] (fun k1 => ?_) ?_
 ·skip
  refine .box (.no rfl) rfl rfl rfl rfl rfl ?_
  refine .assign (.no rfl) rfl rfl rfl rfl ?_
  exact .fin k1 (.of (.cons rfl (.cons rfl .nil)) (.cons rfl .nil))
 intro g2
 refine .seq ?_
 refine .reg (X := Unit) (fun ζ => .of [(4, .one (.d (.v (.bool (inR n a.lo a.hi)))))] []) [⟨[1], some 5, [], []⟩, ⟨[2], some 6, [], []⟩, ⟨[6], some 7, [[2]], []⟩, ⟨[2], some 8, [], []⟩, ⟨[8], some 9, [[2]], []⟩, ⟨[5, 7, 9], some 10, [], []⟩, ⟨[10], some 4, [], []⟩] (fun k3 => ?_) ?_
 ·skip
  refine .move (.no rfl) rfl rfl rfl rfl ?_
  refine .fieldAddrP (.no rfl) rfl t122 rfl rfl t2 rfl rfl rfl rfl ?_
  refine .load (.no rfl) rfl t2 rfl rfl (.ptr _ _ _ _ _ rfl) rfl rfl rfl rfl ?_
  refine .fieldAddrP (.no rfl) rfl t122 rfl rfl t2 rfl rfl rfl rfl ?_
  refine .load (.no rfl) rfl t2 rfl rfl (.ptr _ _ _ _ _ rfl) rfl rfl rfl rfl ?_
  refine .call (.no rfl) rfl [] [] (c_within n a.lo a.hi) rfl rfl rfl rfl rfl (.cons (Reads.d _).gives (.cons (Reads.d _).gives (.cons (Reads.d _).gives .nil))) rfl rfl (fun h => absurd rfl h) (.own [10, 0] .nil) (.nil) rfl rfl rfl (by simp) rfl rfl rfl ?_
  refine .assign (.no rfl) rfl rfl rfl rfl ?_
  exact .fin () (.of (.cons rfl .nil) .nil)
 intro _
 refine .ret ?_
 have e4 : (inR n a.lo a.hi) = (Iv.has a n) := by rfl
 have hc5 := eq1 (fun z1 => SV.one (.d (.v (.bool (z1))))) e4
 show _ ∧ _
 exact ⟨.inr rfl, .done ⟨_, [], [], _, .one (c := .d (.v (.bool (Iv.has a n)))) (hc5) .nil, .cons (Reads.d _).gives .nil, nodupB_ok rfl, by simp, (by simp)⟩⟩
theorem c_IndexFuncN (l : List Int) (F_p : FuncId) (first_p : List (Bool × List D)) (caps_p : List D) (p : Int → Bool) (h_p : ∀ (x0 : Int), FnTrip Tryz.prog F_p first_p caps_p [(false, 1)] ([.v (.int .i64 (x0))]) [(false, 1)] [.v (.bool (p x0))]) : Trip Tryz.prog 158 [(false, 1), (false, 1)] ([.sl false 2 1 (List.map i64c (l))] ++ [.fn F_p first_p caps_p]) [(false, 1)] [.v (.int .i64 (idx p l))] [] := by
 refine Trip.of Tryz.func158 (by decide) (c := _) rfl rfl (shB_ok rfl) (Nat.le_of_ble_eq_true rfl) rfl (AftOk.nil _) ?_
 refine .sat (t := 0) rfl (fun hs1 => ?_)
 have hs1l : l.length ≤ 9223372036854775807 := hs1.maplen
 refine .seq ?_
 refine .reg (X := Unit) (fun ζ => .of [(0, .one (.d (.sl false 2 1 (List.map i64c (l))))), (1, .one (.d (.fn F_p first_p caps_p)))] []) [⟨[], some 4, [], []⟩] (fun k2 => ?_) ?_
 ·skip
  refine .assign (.no rfl) rfl rfl rfl rfl ?_
  exact .fin () (.of (.cons rfl (.cons rfl .nil)) .nil)
 intro _
 refine .seq ?_
 refine .seq ?_
 refine .reg (X := Unit) (fun ζ => .of [(0, .one (.d (.sl false 2 1 (List.map i64c (l))))), (1, .one (.d (.fn F_p first_p caps_p))), (7, .one (.d (.v (.int .i64 ((l.length : Int)))))), (8, .one (.d (.v (.int .i64 (0)))))] []) [⟨[0], some 6, [], []⟩, ⟨[6], some 7, [], []⟩, ⟨[], some 8, [], []⟩] (fun k3 => ?_) ?_
 ·skip
  refine .move (.no rfl) rfl rfl rfl rfl ?_
  refine .len (.no rfl) rfl (z := (l.length : Int)) t27 rfl rfl rfl (.d _ _) (map_len _ _) rfl ?_
  refine .move (.no rfl) rfl rfl rfl rfl ?_
  exact .fin () (.of (.cons rfl (.cons rfl (.cons rfl (.cons rfl .nil)))) .nil)
 intro _
 refine .block ?_
 refine .loop (X := Nat) (fun ζ => .of [(0, .one (.d (.sl false 2 1 (List.map i64c (l))))), (1, .one (.d (.fn F_p first_p caps_p))), (7, .one (.d (.v (.int .i64 ((l.length : Int)))))), (8, .one (.d (.v (.int .i64 ((ζ : Int))))))] []) (fun ζ => ζ ≤ l.length ∧ allTo ζ (fun i => !p (l.getD i default)) = true) (fun ζ => l.length - ζ) ?_ ?_
 ·skip
  exact .here 0 (.of (.cons rfl (.cons rfl (.cons rfl (.cons (svI (show (0) = ((0 : Int)) by first | rfl | omega | exact wrap_le (by omega) (by omega) | (rw [wrap_le (by omega) (by omega)]; omega))) .nil)))) .nil) (show 0 ≤ l.length ∧ allTo 0 (fun i => !p (l.getD i default)) = true by exact ⟨by omega, rfl⟩)
 ·rintro j hI
  have hI : j ≤ l.length ∧ allTo j (fun i => !p (l.getD i default)) = true := hI
  refine .seq ?_
  refine .reg (X := Unit) (fun ζ => .of [(0, .one (.d (.sl false 2 1 (List.map i64c (l))))), (1, .one (.d (.fn F_p first_p caps_p))), (7, .one (.d (.v (.int .i64 ((l.length : Int)))))), (8, .one (.d (.v (.int .i64 ((j : Int)))))), (9, .one (.d (.v (.bool (decide ((j : Int) < (l.length : Int)))))))] []) [⟨[8, 7], some 9, [], []⟩] (fun k4 => ?_) ?_
  ·skip
   refine .bin (.no rfl) rfl rfl rfl rfl rfl rfl ?_
   exact .fin () (.of (.cons rfl (.cons rfl (.cons rfl (.cons rfl (.cons rfl .nil))))) .nil)
  intro _
  refine .seq ?_
  refine .cond (t := decide ((j : Int) < (l.length : Int))) rfl (fun c0 => ?_) (fun c0 => ?_)
  ·have c0 := of_decide_eq_true c0
   refine .skip ?_
   refine .seq ?_
   refine .block ?_
   refine .seq ?_
   refine .reg (X := Unit) (fun ζ => .of [(0, .one (.d (.sl false 2 1 (List.map i64c (l))))), (1, .one (.d (.fn F_p first_p caps_p))), (5, .one (.d (.v (.int .i64 ((j : Int)))))), (7, .one (.d (.v (.int .i64 ((l.length : Int)))))), (8, .one (.d (.v (.int .i64 ((j : Int))))))] []) [⟨[8], some 10, [], []⟩, ⟨[10], some 5, [], []⟩] (fun k5 => ?_) ?_
   ·skip
    refine .move (.no rfl) rfl rfl rfl rfl ?_
    refine .assign (.no rfl) rfl rfl rfl rfl ?_
    exact .fin () (.of (.cons rfl (.cons rfl (.cons rfl (.cons rfl (.cons rfl .nil))))) .nil)
   intro _
   refine .seq ?_
   refine .reg (X := Unit) (fun ζ => .of [(0, .one (.d (.sl false 2 1 (List.map i64c (l))))), (1, .one (.d (.fn F_p first_p caps_p))), (5, .one (.d (.v (.int .i64 ((j : Int)))))), (7, .one (.d (.v (.int .i64 ((l.length : Int)))))), (8, .one (.d (.v (.int .i64 ((j : Int)))))), (16, .one (.d (.v (.bool (p (l.getD j default))))))] []) [⟨[1], some 11, [], []⟩, ⟨[0], some 12, [], []⟩, ⟨[5], some 13, [], []⟩, ⟨[12, 13], some 14, [], []⟩, ⟨[14], some 15, [], []⟩, ⟨[11, 15], some 16, [], []⟩] (fun k6 => ?_) ?_
   ·skip
    refine .move (.no rfl) rfl rfl rfl rfl ?_
    refine .move (.no rfl) rfl rfl rfl rfl ?_
    refine .move (.no rfl) rfl rfl rfl rfl ?_
    refine .indexAddr (.no rfl) rfl (j) t27 rfl t2 rfl rfl rfl (.d _ _) rfl rfl rfl (map_get (by omega)) rfl rfl ?_
    refine .load (.no rfl) rfl t2 rfl rfl (.d _) rfl rfl rfl rfl ?_
    refine .callF (.no rfl) rfl (ds := [.v (.int .i64 (l.getD j default))]) (h_p (l.getD j default)) rfl rfl rfl rfl (.own [16, 0] .nil) rfl rfl rfl rfl rfl rfl ?_
    exact .fin () (.of (.cons rfl (.cons rfl (.cons rfl (.cons rfl (.cons rfl (.cons rfl .nil)))))) .nil)
   intro _
   refine .cond (t := p (l.getD j default)) rfl (fun c1 => ?_) (fun c1 => ?_)
   ·have c1 := c1
    refine .seq ?_
    refine .reg (X := Unit) (fun ζ => .of [(4, .one (.d (.v (.int .i64 ((j : Int))))))] []) [⟨[5], some 17, [], []⟩, ⟨[17], some 4, [], []⟩] (fun k7 => ?_) ?_
    ·skip
     refine .move (.no rfl) rfl rfl rfl rfl ?_
     refine .assign (.no rfl) rfl rfl rfl rfl ?_
     exact .fin () (.of (.cons rfl .nil) .nil)
    intro _
    refine .ret ?_
    have e8 : ((j : Int)) = (idx p l) := by exact (idx_found (j := j) (by omega) hI.2 (by simpa using c1)).symm
    have hc9 := eq1 (fun z1 => SV.one (.d (.v (.int .i64 (z1))))) e8
    show _ ∧ _
    exact ⟨.inr rfl, .done ⟨_, [], [], _, .one (c := .d (.v (.int .i64 (idx p l)))) (hc9) .nil, .cons (Reads.d _).gives .nil, nodupB_ok rfl, by simp, (by simp)⟩⟩
   ·have c1 := c1
    refine .skip ?_
    refine .reg (X := Unit) (fun ζ => .of [(0, .one (.d (.sl false 2 1 (List.map i64c (l))))), (1, .one (.d (.fn F_p first_p caps_p))), (7, .one (.d (.v (.int .i64 ((l.length : Int)))))), (8, .one (.d (.v (.int .i64 (IntKind.wrap .i64 ((j : Int) + 1))))))] []) [⟨[8], some 18, [], []⟩, ⟨[18], some 8, [], []⟩] (fun k10 => ?_) ?_
    ·skip
     refine .bin (.no rfl) rfl rfl rfl rfl rfl rfl ?_
     refine .move (.no rfl) rfl rfl rfl rfl ?_
     exact .fin () (.of (.cons rfl (.cons rfl (.cons rfl (.cons rfl .nil)))) .nil)
    intro _
    exact .here (j + 1) (.of (.cons rfl (.cons rfl (.cons rfl (.cons (svI (show (IntKind.wrap .i64 ((j : Int) + 1)) = (((j + 1) : Int)) by first | rfl | omega | exact wrap_le (by omega) (by omega) | (rw [wrap_le (by omega) (by omega)]; omega))) .nil)))) .nil) ⟨(show (j + 1) ≤ l.length ∧ allTo (j + 1) (fun i => !p (l.getD i default)) = true by exact ⟨by omega, allTo_step hI.2 (by simpa using c1)⟩), (show l.length - (j + 1) < l.length - j by omega)⟩
  ·have c0 := of_decide_eq_false c0
   refine .exit ?_
   refine .seq ?_
   refine .reg (X := Unit) (fun ζ => .of [(4, .one (.d (.v (.int .i64 (-1)))))] []) [⟨[], some 4, [], []⟩] (fun k11 => ?_) ?_
   ·skip
    refine .assign (.no rfl) rfl rfl rfl rfl ?_
    exact .fin () (.of (.cons rfl .nil) .nil)
   intro _
   refine .ret ?_
   have e12 : (-1) = (idx p l) := by exact (idx_none (by omega) hI.2).symm
   have hc13 := eq1 (fun z1 => SV.one (.d (.v (.int .i64 (z1))))) e12
   show _ ∧ _
   exact ⟨.inr rfl, .done ⟨_, [], [], _, .one (c := .d (.v (.int .i64 (idx p l)))) (hc13) .nil, .cons (Reads.d _).gives .nil, nodupB_ok rfl, by simp, (by simp)⟩⟩
theorem c_ContainsFuncN (l : List Int) (F_p : FuncId) (first_p : List (Bool × List D)) (caps_p : List D) (p : Int → Bool) (h_p : ∀ (x0 : Int), FnTrip Tryz.prog F_p first_p caps_p [(false, 1)] ([.v (.int .i64 (x0))]) [(false, 1)] [.v (.bool (p x0))]) : Trip Tryz.prog 123 [(false, 1), (false, 1)] ([.sl false 2 1 (List.map i64c (l))] ++ [.fn F_p first_p caps_p]) [(false, 1)] [.v (.bool (l.any p))] [] := by
 refine Trip.of Tryz.func123 (by decide) (c := _) rfl rfl (shB_ok rfl) (Nat.le_of_ble_eq_true rfl) rfl (AftOk.nil _) ?_
 refine .sat (t := 0) rfl (fun hs1 => ?_)
 have hs1l : l.length ≤ 9223372036854775807 := hs1.maplen
 refine .seq ?_
 refine .reg (X := Unit) (fun ζ => .of [(0, .one (.d (.sl false 2 1 (List.map i64c (l))))), (1, .one (.d (.fn F_p first_p caps_p)))] []) [⟨[], some 4, [], []⟩] (fun k2 => ?_) ?_
 ·skip
  refine .assign (.no rfl) rfl rfl rfl rfl ?_
  exact .fin () (.of (.cons rfl (.cons rfl .nil)) .nil)
 intro _
 refine .seq ?_
 refine .reg (X := Unit) (fun ζ => .of [(4, .one (.d (.v (.bool (decide ((idx p l) ≥ 0))))))] []) [⟨[0], some 5, [], []⟩, ⟨[1], some 6, [], []⟩, ⟨[5, 6], some 7, [], []⟩, ⟨[7], some 8, [], []⟩, ⟨[8], some 4, [], []⟩] (fun k3 => ?_) ?_
 ·skip
  refine .move (.no rfl) rfl rfl rfl rfl ?_
  refine .move (.no rfl) rfl rfl rfl rfl ?_
  refine .call (.no rfl) rfl [] [] (c_IndexFuncN l F_p first_p caps_p p h_p) rfl rfl rfl rfl rfl (.cons (Reads.d _).gives (.cons (Reads.d _).gives .nil)) rfl rfl (fun h => absurd rfl h) (.own [7, 0] .nil) (.nil) rfl rfl rfl (by simp) rfl rfl rfl ?_
  refine .bin (.no rfl) rfl rfl rfl rfl rfl rfl ?_
  refine .assign (.no rfl) rfl rfl rfl rfl ?_
  exact .fin () (.of (.cons rfl .nil) .nil)
 intro _
 refine .ret ?_
 have e4 : (decide ((idx p l) ≥ 0)) = (l.any p) := by exact idx_any _ _
 have hc5 := eq1 (fun z1 => SV.one (.d (.v (.bool (z1))))) e4
 show _ ∧ _
 exact ⟨.inr rfl, .done ⟨_, [], [], _, .one (c := .d (.v (.bool (l.any p)))) (hc5) .nil, .cons (Reads.d _).gives .nil, nodupB_ok rfl, by simp, (by simp)⟩⟩
theorem c_areAll1N (x : Int) (F_p : FuncId) (first_p : List (Bool × List D)) (caps_p : List D) (p : Int → Bool) (h_p : ∀ (x0 : Int), FnTrip Tryz.prog F_p first_p caps_p [(false, 1)] ([.v (.int .i64 (x0))]) [(false, 1)] [.v (.bool (p x0))]) : Trip Tryz.prog 124 [(false, 1), (false, 1)] ([.v (.int .i64 (x))] ++ [.pt false [.fn F_p first_p caps_p]]) [(false, 1)] [.v (.bool (!p x))] [] := by
 refine Trip.of Tryz.func124 (by decide) (c := _) rfl rfl (shB_ok rfl) (Nat.le_of_ble_eq_true rfl) rfl (AftOk.nil _) ?_
 refine .seq ?_
 refine .reg (X := Unit) (fun ζ => .of [(0, .one (.d (.v (.int .i64 (x))))), (1, .one (.d (.pt false [.fn F_p first_p caps_p])))] []) [⟨[], some 3, [], []⟩] (fun k1 => ?_) ?_
 ·skip
  refine .assign (.no rfl) rfl rfl rfl rfl ?_
  exact .fin () (.of (.cons rfl (.cons rfl .nil)) .nil)
 intro _
 refine .seq ?_
 refine .reg (X := Unit) (fun ζ => .of [(3, .one (.d (.v (.bool (!(p x))))))] []) [⟨[1], some 4, [], []⟩, ⟨[0], some 5, [], []⟩, ⟨[4, 5], some 6, [], []⟩, ⟨[6], some 7, [], []⟩, ⟨[7], some 3, [], []⟩] (fun k2 => ?_) ?_
 ·skip
  refine .load (.no rfl) rfl t128 rfl rfl (.d _) rfl rfl rfl rfl ?_
  refine .move (.no rfl) rfl rfl rfl rfl ?_
  refine .callF (.no rfl) rfl (ds := [.v (.int .i64 (x))]) (h_p x) rfl rfl rfl rfl (.own [6, 0] .nil) rfl rfl rfl rfl rfl rfl ?_
  refine .un (.no rfl) rfl rfl rfl rfl rfl ?_
  refine .assign (.no rfl) rfl rfl rfl rfl ?_
  exact .fin () (.of (.cons rfl .nil) .nil)
 intro _
 refine .ret ?_
 have e3 : (!(p x)) = (!p x) := by rfl
 have hc4 := eq1 (fun z1 => SV.one (.d (.v (.bool (z1))))) e3
 show _ ∧ _
 exact ⟨.inr rfl, .done ⟨_, [], [], _, .one (c := .d (.v (.bool (!p x)))) (hc4) .nil, .cons (Reads.d _).gives .nil, nodupB_ok rfl, by simp, (by simp)⟩⟩
theorem c_areAllN (l : List Int) (F_p : FuncId) (first_p : List (Bool × List D)) (caps_p : List D) (p : Int → Bool) (h_p : ∀ (x0 : Int), FnTrip Tryz.prog F_p first_p caps_p [(false, 1)] ([.v (.int .i64 (x0))]) [(false, 1)] [.v (.bool (p x0))]) : Trip Tryz.prog 89 [(false, 1), (false, 1)] ([.sl false 2 1 (List.map i64c (l))] ++ [.fn F_p first_p caps_p]) [(false, 1)] [.v (.bool (l.all p))] [] := by
 refine Trip.of Tryz.func89 (by decide) (c := _) rfl rfl (shB_ok rfl) (Nat.le_of_ble_eq_true rfl) rfl (AftOk.nil _) ?_
 refine .sat (t := 0) rfl (fun hs1 => ?_)
 have hs1l : l.length ≤ 9223372036854775807 := hs1.maplen
 refine .seq ?_
 refine .reg (X := Nat) (fun ζ => .of [(0, .one (.d (.sl false 2 1 (List.map i64c (l))))), (3, .one (.ptr [3] (ζ) 0))] [([3], (ζ, ζ, .box [.d (.fn F_p first_p caps_p)]))]) [⟨[1], some 3, [], [[3]]⟩, ⟨[], some 4, [], []⟩] (fun k2 => ?_) ?_
 ·skip
  refine .box (.no rfl) rfl rfl rfl rfl rfl ?_
  refine .assign (.no rfl) rfl rfl rfl rfl ?_
  exact .fin k2 (.of (.cons rfl (.cons rfl .nil)) (.cons rfl .nil))
 intro g3
 refine .seq ?_
 refine .reg (X := Unit) (fun ζ => .of [(4, .one (.d (.v (.bool (!(l.any (fun x0 => !p x0)))))))] []) [⟨[0], some 5, [], []⟩, ⟨[3], some 6, [], []⟩, ⟨[5, 6], some 7, [[3]], []⟩, ⟨[7], some 8, [], []⟩, ⟨[8], some 4, [], []⟩] (fun k4 => ?_) ?_
 ·skip
  refine .move (.no rfl) rfl rfl rfl rfl ?_
  refine .makeFunc (.no rfl) rfl rfl rfl rfl rfl ?_
  refine .call (.no rfl) rfl [[3]] [([3], (g3, g3, .box [.d (.fn F_p first_p caps_p)]))] (c_ContainsFuncN l 124 [] [.pt false [.fn F_p first_p caps_p]] (fun x0 => !p x0) (fun x0 => c_areAll1N x0 F_p first_p caps_p p h_p)) rfl rfl rfl rfl rfl (.cons (Reads.d _).gives (.cons (Reads.clo0 (.cons (Reads.ptr0 (.head _) (.head _) (.cons (Reads.d _) .nil)) .nil)).gives .nil)) rfl rfl (fun _ => (ownCons (Owned.v _) ownNil)) (.own [7, 0] .nil) (.nil) rfl rfl rfl (AllH.get (.cons rfl .nil)) rfl rfl rfl ?_
  refine .un (.no rfl) rfl rfl rfl rfl rfl ?_
  refine .assign (.no rfl) rfl rfl rfl rfl ?_
  exact .fin () (.of (.cons rfl .nil) .nil)
 intro _
 refine .ret ?_
 have e5 : (!(l.any (fun x0 => !p x0))) = (l.all p) := by exact not_any _ _
 have hc6 := eq1 (fun z1 => SV.one (.d (.v (.bool (z1))))) e5
 show _ ∧ _
 exact ⟨.inr rfl, .done ⟨_, [], [], _, .one (c := .d (.v (.bool (l.all p)))) (hc6) .nil, .cons (Reads.d _).gives .nil, nodupB_ok rfl, by simp, (by simp)⟩⟩
theorem c_hasStore (e : Env) (s : Store) (hf : Fits e s) : Trip Tryz.prog 51 [(true, 3), (true, 3)] (Env.c77 e ++ Store.c42 s) [(false, 1)] [.v (.bool (Env.has e s))] [] := by
 refine Trip.of Tryz.func51 (by decide) (c := _) rfl rfl (shB_ok rfl) (Nat.le_of_ble_eq_true rfl) rfl (AftOk.nil _) ?_
 refine .satA (t := 0) (i := 1) rfl rfl (fun hs1 => ?_)
 have hs1l : e.ints.length ≤ 9223372036854775807 := hs1.maplen
 refine .satA (t := 0) (i := 2) rfl rfl (fun hs2 => ?_)
 have hs2l : e.arrs.length ≤ 9223372036854775807 := hs2.maplen
 refine .satA (t := 1) (i := 0) rfl rfl (fun hs3 => ?_)
 have hs3l : s.ints.length ≤ 9223372036854775807 := hs3.maplen
 refine .satA (t := 1) (i := 1) rfl rfl (fun hs4 => ?_)
 have hs4l : s.flags.length ≤ 9223372036854775807 := hs4.maplen
 refine .satA (t := 1) (i := 2) rfl rfl (fun hs5 => ?_)
 have hs5l : s.arrs.length ≤ 9223372036854775807 := hs5.maplen
 refine .seq ?_
 refine .reg (X := Nat × Nat) (fun ζ => .of [(2, .one (.ptr [2] (ζ.1) 0)), (3, .one (.ptr [3] (ζ.2) 0))] [([2], (ζ.1, ζ.1, .box [.d (.v (.bool (e.live))), .d (.sl false 122 2 (List.map Iv.c (e.ints))), .d (.sl false 122 2 (List.map Iv.c (e.arrs)))])), ([3], (ζ.2, ζ.2, .box [.d (.sl false 2 1 (List.map i64c (s.ints))), .d (.sl false 4 1 (List.map boolc (s.flags))), .d (.sl false 27 1 (List.map slc27 (s.arrs)))]))]) [⟨[0], some 2, [], [[2]]⟩, ⟨[1], some 3, [], [[3]]⟩, ⟨[], some 4, [], []⟩] (fun k6 => ?_) ?_
 ·skip
  refine .box (.no rfl) rfl rfl rfl rfl rfl ?_
  refine .box (.no rfl) rfl rfl rfl rfl rfl ?_
  refine .assign (.no rfl) rfl rfl rfl rfl ?_
  exact .fin (k6, k6 + 1) (.of (.cons rfl (.cons rfl .nil)) (.cons rfl (.cons rfl .nil)))
 rintro ⟨g7, g8⟩
 refine .seq ?_
 refine .seq ?_
 refine .reg (X := Unit) (fun ζ => .of [(2, .one (.ptr [2] (g7) 0)), (3, .one (.ptr [3] (g8) 0)), (11, .one (.d (.v (.bool (!e.live)))))] [([2], (g7, g7, .box [.d (.v (.bool (e.live))), .d (.sl false 122 2 (List.map Iv.c (e.ints))), .d (.sl false 122 2 (List.map Iv.c (e.arrs)))])), ([3], (g8, g8, .box [.d (.sl false 2 1 (List.map i64c (s.ints))), .d (.sl false 4 1 (List.map boolc (s.flags))), .d (.sl false 27 1 (List.map slc27 (s.arrs)))]))]) [⟨[2], some 9, [], []⟩, ⟨[9], some 10, [[2]], []⟩, ⟨[10], some 11, [], []⟩] (fun k9 => ?_) ?_
 ·skip
  refine .fieldAddrP (.no rfl) rfl t77 rfl rfl t4 rfl rfl rfl rfl ?_
  refine .load (.no rfl) rfl t4 rfl rfl (.ptr _ _ _ _ _ rfl) rfl rfl rfl rfl ?_
  refine .un (.no rfl) rfl rfl rfl rfl rfl ?_
  exact .fin () (.of (.cons rfl (.cons rfl (.cons rfl .nil))) (.cons rfl (.cons rfl .nil)))
 intro _
 refine .cond (t := !e.live) rfl (fun c0 => ?_) (fun c0 => ?_)
 ·have c0 := c0
  try simp only [Bool.or_eq_true, Bool.or_eq_false_iff, Bool.and_eq_true, Bool.and_eq_false_iff, decide_eq_true_eq, decide_eq_false_iff_not, Bool.not_eq_true', Bool.not_eq_false', bne_iff_ne, beq_iff_eq, bne_eq_false_iff_eq, beq_eq_false_iff_ne, ne_eq, Bool.not_eq_eq_eq_not, Bool.not_true, Bool.not_false] at c0
  refine .seq ?_
  refine .reg (X := Unit) (fun ζ => .of [(4, .one (.d (.v (.bool (false)))))] []) [⟨[], some 4, [], []⟩] (fun k10 => ?_) ?_
  ·skip
   refine .assign (.no rfl) rfl rfl rfl rfl ?_
   exact .fin () (.of (.cons rfl .nil) .nil)
  intro _
  refine .ret ?_
  have e11 : (false) = (Env.has e s) := by (rw [Env.has_dead c0])
  have hc12 := eq1 (fun z1 => SV.one (.d (.v (.bool (z1))))) e11
  show _ ∧ _
  exact ⟨.inr rfl, .done ⟨_, [], [], _, .one (c := .d (.v (.bool (Env.has e s)))) (hc12) .nil, .cons (Reads.d _).gives .nil, nodupB_ok rfl, by simp, (by simp)⟩⟩
 ·have c0 := c0
  try simp only [Bool.or_eq_true, Bool.or_eq_false_iff, Bool.and_eq_true, Bool.and_eq_false_iff, decide_eq_true_eq, decide_eq_false_iff_not, Bool.not_eq_true', Bool.not_eq_false', bne_iff_ne, beq_iff_eq, bne_eq_false_iff_eq, beq_eq_false_iff_ne, ne_eq, Bool.not_eq_eq_eq_not, Bool.not_true, Bool.not_false] at c0
  refine .skip ?_
  refine .seq ?_
  refine .seq ?_
  refine .reg (X := Unit) (fun ζ => .of [(2, .one (.ptr [2] (g7) 0)), (3, .one (.ptr [3] (g8) 0)), (13, .one (.d (.sl false 2 1 (List.map i64c (s.ints))))), (14, .one (.d (.v (.int .i64 ((s.ints.length : Int)))))), (15, .one (.d (.v (.int .i64 (0)))))] [([2], (g7, g7, .box [.d (.v (.bool (e.live))), .d (.sl false 122 2 (List.map Iv.c (e.ints))), .d (.sl false 122 2 (List.map Iv.c (e.arrs)))])), ([3], (g8, g8, .box [.d (.sl false 2 1 (List.map i64c (s.ints))), .d (.sl false 4 1 (List.map boolc (s.flags))), .d (.sl false 27 1 (List.map slc27 (s.arrs)))]))]) [⟨[3], some 12, [], []⟩, ⟨[12], some 13, [[3]], []⟩, ⟨[13], some 14, [], []⟩, ⟨[], some 15, [], []⟩] (fun k13 => ?_) ?_
  ·skip
   refine .fieldAddrP (.no rfl) rfl t42 rfl rfl t27 rfl rfl rfl rfl ?_
   refine .load (.no rfl) rfl t27 rfl rfl (.ptr _ _ _ _ _ rfl) rfl rfl rfl rfl ?_
   refine .len (.no rfl) rfl (z := (s.ints.length : Int)) t27 rfl rfl rfl (.d _ _) (map_len _ _) rfl ?_
   refine .move (.no rfl) rfl rfl rfl rfl ?_
   exact .fin () (.of (.cons rfl (.cons rfl (.cons rfl (.cons rfl (.cons rfl .nil))))) (.cons rfl (.cons rfl .nil)))
  intro _
  refine .block ?_
  refine .loop (X := Nat) (fun ζ => .of [(2, .one (.ptr [2] (g7) 0)), (3, .one (.ptr [3] (g8) 0)), (13, .one (.d (.sl false 2 1 (List.map i64c (s.ints))))), (14, .one (.d (.v (.int .i64 ((s.ints.length : Int)))))), (15, .one (.d (.v (.int .i64 ((ζ : Int))))))] [([2], (g7, g7, .box [.d (.v (.bool (e.live))), .d (.sl false 122 2 (List.map Iv.c (e.ints))), .d (.sl false 122 2 (List.map Iv.c (e.arrs)))])), ([3], (g8, g8, .box [.d (.sl false 2 1 (List.map i64c (s.ints))), .d (.sl false 4 1 (List.map boolc (s.flags))), .d (.sl false 27 1 (List.map slc27 (s.arrs)))]))]) (fun ζ => ζ ≤ s.ints.length ∧ allTo ζ (fun x => Iv.has (e.ints.getD x default) (s.ints.getD x default)) = true) (fun ζ => s.ints.length - ζ) ?_ ?_
  ·skip
   exact .here 0 (.of (.cons rfl (.cons rfl (.cons rfl (.cons rfl (.cons (svI (show (0) = ((0 : Int)) by first | rfl | omega | exact wrap_le (by omega) (by omega) | (rw [wrap_le (by omega) (by omega)]; omega))) .nil))))) (.cons rfl (.cons rfl .nil))) (show 0 ≤ s.ints.length ∧ allTo 0 (fun x => Iv.has (e.ints.getD x default) (s.ints.getD x default)) = true by exact ⟨by omega, rfl⟩)
  ·rintro j hI
   have hI : j ≤ s.ints.length ∧ allTo j (fun x => Iv.has (e.ints.getD x default) (s.ints.getD x default)) = true := hI
   have hj9 := hf c0
   refine .seq ?_
   refine .reg (X := Unit) (fun ζ => .of [(2, .one (.ptr [2] (g7) 0)), (3, .one (.ptr [3] (g8) 0)), (13, .one (.d (.sl false 2 1 (List.map i64c (s.ints))))), (14, .one (.d (.v (.int .i64 ((s.ints.length : Int)))))), (15, .one (.d (.v (.int .i64 ((j : Int)))))), (16, .one (.d (.v (.bool (decide ((j : Int) < (s.ints.length : Int)))))))] [([2], (g7, g7, .box [.d (.v (.bool (e.live))), .d (.sl false 122 2 (List.map Iv.c (e.ints))), .d (.sl false 122 2 (List.map Iv.c (e.arrs)))])), ([3], (g8, g8, .box [.d (.sl false 2 1 (List.map i64c (s.ints))), .d (.sl false 4 1 (List.map boolc (s.flags))), .d (.sl false 27 1 (List.map slc27 (s.arrs)))]))]) [⟨[15, 14], some 16, [], []⟩] (fun k14 => ?_) ?_
   ·skip
    refine .bin (.no rfl) rfl rfl rfl rfl rfl rfl ?_
    exact .fin () (.of (.cons rfl (.cons rfl (.cons rfl (.cons rfl (.cons rfl (.cons rfl .nil)))))) (.cons rfl (.cons rfl .nil)))
   intro _
   refine .seq ?_
   refine .cond (t := decide ((j : Int) < (s.ints.length : Int))) rfl (fun c1 => ?_) (fun c1 => ?_)
   ·have c1 := of_decide_eq_true c1
    refine .skip ?_
    refine .seq ?_
    refine .block ?_
    refine .seq ?_
    refine .reg (X := Unit) (fun ζ => .of [(2, .one (.ptr [2] (g7) 0)), (3, .one (.ptr [3] (g8) 0)), (5, .one (.d (.v (.int .i64 ((j : Int)))))), (6, .one (.d (.v (.int .i64 (s.ints.getD j default))))), (13, .one (.d (.sl false 2 1 (List.map i64c (s.ints))))), (14, .one (.d (.v (.int .i64 ((s.ints.length : Int)))))), (15, .one (.d (.v (.int .i64 ((j : Int))))))] [([2], (g7, g7, .box [.d (.v (.bool (e.live))), .d (.sl false 122 2 (List.map Iv.c (e.ints))), .d (.sl false 122 2 (List.map Iv.c (e.arrs)))])), ([3], (g8, g8, .box [.d (.sl false 2 1 (List.map i64c (s.ints))), .d (.sl false 4 1 (List.map boolc (s.flags))), .d (.sl false 27 1 (List.map slc27 (s.arrs)))]))]) [⟨[15], some 17, [], []⟩, ⟨[13, 15], some 18, [], []⟩, ⟨[18], some 19, [], []⟩, ⟨[17], some 5, [], []⟩, ⟨[19], some 6, [], []⟩] (fun k15 => ?_) ?_
    ·skip
     refine .move (.no rfl) rfl rfl rfl rfl ?_
     refine .indexAddr (.no rfl) rfl (j) t27 rfl t2 rfl rfl rfl (.d _ _) rfl rfl rfl (map_get (by omega)) rfl rfl ?_
     refine .load (.no rfl) rfl t2 rfl rfl (.d _) rfl rfl rfl rfl ?_
     refine .assign (.no rfl) rfl rfl rfl rfl ?_
     refine .assign (.no rfl) rfl rfl rfl rfl ?_
     exact .fin () (.of (.cons rfl (.cons rfl (.cons rfl (.cons rfl (.cons rfl (.cons rfl (.cons rfl .nil))))))) (.cons rfl (.cons rfl .nil)))
    intro _
    refine .seq ?_
    refine .reg (X := Unit) (fun ζ => .of [(2, .one (.ptr [2] (g7) 0)), (3, .one (.ptr [3] (g8) 0)), (13, .one (.d (.sl false 2 1 (List.map i64c (s.ints))))), (14, .one (.d (.v (.int .i64 ((s.ints.length : Int)))))), (15, .one (.d (.v (.int .i64 ((j : Int)))))), (27, .one (.d (.v (.bool (!(Iv.has (e.ints.getD j default) (s.ints.getD j default)))))))] [([2], (g7, g7, .box [.d (.v (.bool (e.live))), .d (.sl false 122 2 (List.map Iv.c (e.ints))), .d (.sl false 122 2 (List.map Iv.c (e.arrs)))])), ([3], (g8, g8, .box [.d (.sl false 2 1 (List.map i64c (s.ints))), .d (.sl false 4 1 (List.map boolc (s.flags))), .d (.sl false 27 1 (List.map slc27 (s.arrs)))]))]) [⟨[2], some 20, [], []⟩, ⟨[20], some 21, [[2]], []⟩, ⟨[5], some 22, [], []⟩, ⟨[21, 22], some 23, [], []⟩, ⟨[23], some 24, [], []⟩, ⟨[6], some 25, [], []⟩, ⟨[24, 25], some 26, [], []⟩, ⟨[26], some 27, [], []⟩] (fun k16 => ?_) ?_
    ·skip
     refine .fieldAddrP (.no rfl) rfl t77 rfl rfl t75 rfl rfl rfl rfl ?_
     refine .load (.no rfl) rfl t75 rfl rfl (.ptr _ _ _ _ _ rfl) rfl rfl rfl rfl ?_
     refine .move (.no rfl) rfl rfl rfl rfl ?_
     refine .indexAddr (.no rfl) rfl (j) t75 rfl t122 rfl rfl rfl (.d _ _) rfl rfl rfl (map_get (by omega)) rfl rfl ?_
     refine .load (.no rfl) rfl t122 rfl rfl (.d _) rfl rfl rfl rfl ?_
     refine .move (.no rfl) rfl rfl rfl rfl ?_
     refine .call (.no rfl) rfl [] [] (c_has (e.ints.getD j default) (s.ints.getD j default)) rfl rfl rfl rfl rfl (.cons (Reads.d _).gives (.cons (Reads.d _).gives (.cons (Reads.d _).gives .nil))) rfl rfl (fun h => absurd rfl h) (.own [26, 0] .nil) (.nil) rfl rfl rfl (by simp) rfl rfl rfl ?_
     refine .un (.no rfl) rfl rfl rfl rfl rfl ?_
     exact .fin () (.of (.cons rfl (.cons rfl (.cons rfl (.cons rfl (.cons rfl (.cons rfl .nil)))))) (.cons rfl (.cons rfl .nil)))
    intro _
    refine .cond (t := !(Iv.has (e.ints.getD j default) (s.ints.getD j default))) rfl (fun c2 => ?_) (fun c2 => ?_)
    ·have c2 := c2
     try simp only [Bool.or_eq_true, Bool.or_eq_false_iff, Bool.and_eq_true, Bool.and_eq_false_iff, decide_eq_true_eq, decide_eq_false_iff_not, Bool.not_eq_true', Bool.not_eq_false', bne_iff_ne, beq_iff_eq, bne_eq_false_iff_eq, beq_eq_false_iff_ne, ne_eq, Bool.not_eq_eq_eq_not, Bool.not_true, Bool.not_false] at c2
     refine .seq ?_
     refine .reg (X := Unit) (fun ζ => .of [(4, .one (.d (.v (.bool (false)))))] []) [⟨[], some 4, [], []⟩] (fun k17 => ?_) ?_
     ·skip
      refine .assign (.no rfl) rfl rfl rfl rfl ?_
      exact .fin () (.of (.cons rfl .nil) .nil)
     intro _
     refine .ret ?_
     have e18 : (false) = (Env.has e s) := by (rw [Env.has_int (j := j) (by omega) c2])
     have hc19 := eq1 (fun z1 => SV.one (.d (.v (.bool (z1))))) e18
     show _ ∧ _
     exact ⟨.inr rfl, .done ⟨_, [], [], _, .one (c := .d (.v (.bool (Env.has e s)))) (hc19) .nil, .cons (Reads.d _).gives .nil, nodupB_ok rfl, by simp, (by simp)⟩⟩
    ·have c2 := c2
     try simp only [Bool.or_eq_true, Bool.or_eq_false_iff, Bool.and_eq_true, Bool.and_eq_false_iff, decide_eq_true_eq, decide_eq_false_iff_not, Bool.not_eq_true', Bool.not_eq_false', bne_iff_ne, beq_iff_eq, bne_eq_false_iff_eq, beq_eq_false_iff_ne, ne_eq, Bool.not_eq_eq_eq_not, Bool.not_true, Bool.not_false] at c2
     refine .skip ?_
     refine .reg (X := Unit) (fun ζ => .of [(2, .one (.ptr [2] (g7) 0)), (3, .one (.ptr [3] (g8) 0)), (13, .one (.d (.sl false 2 1 (List.map i64c (s.ints))))), (14, .one (.d (.v (.int .i64 ((s.ints.length : Int)))))), (15, .one (.d (.v (.int .i64 (IntKind.wrap .i64 ((j : Int) + 1))))))] [([2], (g7, g7, .box [.d (.v (.bool (e.live))), .d (.sl false 122 2 (List.map Iv.c (e.ints))), .d (.sl false 122 2 (List.map Iv.c (e.arrs)))])), ([3], (g8, g8, .box [.d (.sl false 2 1 (List.map i64c (s.ints))), .d (.sl false 4 1 (List.map boolc (s.flags))), .d (.sl false 27 1 (List.map slc27 (s.arrs)))]))]) [⟨[15], some 28, [], []⟩, ⟨[28], some 15, [], []⟩] (fun k20 => ?_) ?_
     ·skip
      refine .bin (.no rfl) rfl rfl rfl rfl rfl rfl ?_
      refine .move (.no rfl) rfl rfl rfl rfl ?_
      exact .fin () (.of (.cons rfl (.cons rfl (.cons rfl (.cons rfl (.cons rfl .nil))))) (.cons rfl (.cons rfl .nil)))
     intro _
     exact .here (j + 1) (.of (.cons rfl (.cons rfl (.cons rfl (.cons rfl (.cons (svI (show (IntKind.wrap .i64 ((j : Int) + 1)) = (((j + 1) : Int)) by first | rfl | omega | exact wrap_le (by omega) (by omega) | (rw [wrap_le (by omega) (by omega)]; omega))) .nil))))) (.cons rfl (.cons rfl .nil))) ⟨(show (j + 1) ≤ s.ints.length ∧ allTo (j + 1) (fun x => Iv.has (e.ints.getD x default) (s.ints.getD x default)) = true by exact ⟨by omega, allTo_step hI.2 c2⟩), (show s.ints.length - (j + 1) < s.ints.length - j by omega)⟩
   ·have c1 := of_decide_eq_false c1
    refine .exit ?_
    refine .seq ?_
    refine .seq ?_
    refine .reg (X := Unit) (fun ζ => .of [(2, .one (.ptr [2] (g7) 0)), (30, .one (.d (.sl false 27 1 (List.map slc27 (s.arrs))))), (31, .one (.d (.v (.int .i64 ((s.arrs.length : Int)))))), (32, .one (.d (.v (.int .i64 (0)))))] [([2], (g7, g7, .box [.d (.v (.bool (e.live))), .d (.sl false 122 2 (List.map Iv.c (e.ints))), .d (.sl false 122 2 (List.map Iv.c (e.arrs)))]))]) [⟨[3], some 29, [], []⟩, ⟨[29], some 30, [[3]], []⟩, ⟨[30], some 31, [], []⟩, ⟨[], some 32, [], []⟩] (fun k21 => ?_) ?_
    ·skip
     refine .fieldAddrP (.no rfl) rfl t42 rfl rfl t29 rfl rfl rfl rfl ?_
     refine .load (.no rfl) rfl t29 rfl rfl (.ptr _ _ _ _ _ rfl) rfl rfl rfl rfl ?_
     refine .len (.no rfl) rfl (z := (s.arrs.length : Int)) t29 rfl rfl rfl (.d _ _) (map_len _ _) rfl ?_
     refine .move (.no rfl) rfl rfl rfl rfl ?_
     exact .fin () (.of (.cons rfl (.cons rfl (.cons rfl (.cons rfl .nil)))) (.cons rfl .nil))
    intro _
    refine .block ?_
    refine .loop (X := Nat) (fun ζ => .of [(2, .one (.ptr [2] (g7) 0)), (30, .one (.d (.sl false 27 1 (List.map slc27 (s.arrs))))), (31, .one (.d (.v (.int .i64 ((s.arrs.length : Int)))))), (32, .one (.d (.v (.int .i64 ((ζ : Int))))))] [([2], (g7, g7, .box [.d (.v (.bool (e.live))), .d (.sl false 122 2 (List.map Iv.c (e.ints))), .d (.sl false 122 2 (List.map Iv.c (e.arrs)))]))]) (fun ζ => ζ ≤ s.arrs.length ∧ allTo ζ (fun x => (s.arrs.getD x default).all (Iv.has (e.arrs.getD x default))) = true) (fun ζ => s.arrs.length - ζ) ?_ ?_
    ·skip
     exact .here 0 (.of (.cons rfl (.cons rfl (.cons rfl (.cons (svI (show (0) = ((0 : Int)) by first | rfl | omega | exact wrap_le (by omega) (by omega) | (rw [wrap_le (by omega) (by omega)]; omega))) .nil)))) (.cons rfl .nil)) (show 0 ≤ s.arrs.length ∧ allTo 0 (fun x => (s.arrs.getD x default).all (Iv.has (e.arrs.getD x default))) = true by exact ⟨by omega, rfl⟩)
    ·rintro i hI
     have hI : i ≤ s.arrs.length ∧ allTo i (fun x => (s.arrs.getD x default).all (Iv.has (e.arrs.getD x default))) = true := hI
     have hI0 := ‹j ≤ s.ints.length ∧ _›
     refine .seq ?_
     refine .reg (X := Unit) (fun ζ => .of [(2, .one (.ptr [2] (g7) 0)), (30, .one (.d (.sl false 27 1 (List.map slc27 (s.arrs))))), (31, .one (.d (.v (.int .i64 ((s.arrs.length : Int)))))), (32, .one (.d (.v (.int .i64 ((i : Int)))))), (33, .one (.d (.v (.bool (decide ((i : Int) < (s.arrs.length : Int)))))))] [([2], (g7, g7, .box [.d (.v (.bool (e.live))), .d (.sl false 122 2 (List.map Iv.c (e.ints))), .d (.sl false 122 2 (List.map Iv.c (e.arrs)))]))]) [⟨[32, 31], some 33, [], []⟩] (fun k22 => ?_) ?_
     ·skip
      refine .bin (.no rfl) rfl rfl rfl rfl rfl rfl ?_
      exact .fin () (.of (.cons rfl (.cons rfl (.cons rfl (.cons rfl (.cons rfl .nil))))) (.cons rfl .nil))
     intro _
     refine .seq ?_
     refine .cond (t := decide ((i : Int) < (s.arrs.length : Int))) rfl (fun c3 => ?_) (fun c3 => ?_)
     ·have c3 := of_decide_eq_true c3
      refine .skip ?_
      refine .seq ?_
      refine .block ?_
      refine .seq ?_
      refine .reg (X := Unit) (fun ζ => .of [(2, .one (.ptr [2] (g7) 0)), (7, .one (.d (.v (.int .i64 ((i : Int)))))), (8, .one (.d (.sl false 2 1 (List.map i64c (s.arrs.getD i default))))), (30, .one (.d (.sl false 27 1 (List.map slc27 (s.arrs))))), (31, .one (.d (.v (.int .i64 ((s.arrs.length : Int)))))), (32, .one (.d (.v (.int .i64 ((i : Int))))))] [([2], (g7, g7, .box [.d (.v (.bool (e.live))), .d (.sl false 122 2 (List.map Iv.c (e.ints))), .d (.sl false 122 2 (List.map Iv.c (e.arrs)))]))]) [⟨[32], some 34, [], []⟩, ⟨[30, 32], some 35, [], []⟩, ⟨[35], some 36, [], []⟩, ⟨[34], some 7, [], []⟩, ⟨[36], some 8, [], []⟩] (fun k23 => ?_) ?_
      ·skip
       refine .move (.no rfl) rfl rfl rfl rfl ?_
       refine .indexAddr (.no rfl) rfl (i) t29 rfl t27 rfl rfl rfl (.d _ _) rfl rfl rfl (map_get (by omega)) rfl rfl ?_
       refine .load (.no rfl) rfl t27 rfl rfl (.d _) rfl rfl rfl rfl ?_
       refine .assign (.no rfl) rfl rfl rfl rfl ?_
       refine .assign (.no rfl) rfl rfl rfl rfl ?_
       exact .fin () (.of (.cons rfl (.cons rfl (.cons rfl (.cons rfl (.cons rfl (.cons rfl .nil)))))) (.cons rfl .nil))
      intro _
      refine .seq ?_
      refine .reg (X := Unit) (fun ζ => .of [(2, .one (.ptr [2] (g7) 0)), (30, .one (.d (.sl false 27 1 (List.map slc27 (s.arrs))))), (31, .one (.d (.v (.int .i64 ((s.arrs.length : Int)))))), (32, .one (.d (.v (.int .i64 ((i : Int)))))), (45, .one (.d (.v (.bool (!((s.arrs.getD i default).all (fun x0 => Iv.has (e.arrs.getD i default) x0)))))))] [([2], (g7, g7, .box [.d (.v (.bool (e.live))), .d (.sl false 122 2 (List.map Iv.c (e.ints))), .d (.sl false 122 2 (List.map Iv.c (e.arrs)))]))]) [⟨[8], some 37, [], []⟩, ⟨[2], some 38, [], []⟩, ⟨[38], some 39, [[2]], []⟩, ⟨[7], some 40, [], []⟩, ⟨[39, 40], some 41, [], []⟩, ⟨[41], some 42, [], []⟩, ⟨[42], some 43, [], []⟩, ⟨[37, 43], some 44, [], []⟩, ⟨[44], some 45, [], []⟩] (fun k24 => ?_) ?_
      ·skip
       refine .move (.no rfl) rfl rfl rfl rfl ?_
       refine .fieldAddrP (.no rfl) rfl t77 rfl rfl t75 rfl rfl rfl rfl ?_
       refine .load (.no rfl) rfl t75 rfl rfl (.ptr _ _ _ _ _ rfl) rfl rfl rfl rfl ?_
       refine .move (.no rfl) rfl rfl rfl rfl ?_
       refine .indexAddr (.no rfl) rfl (i) t75 rfl t122 rfl rfl rfl (.d _ _) rfl rfl rfl (map_get (by omega)) rfl rfl ?_
       refine .load (.no rfl) rfl t122 rfl rfl (.d _) rfl rfl rfl rfl ?_
       refine .makeFunc (.no rfl) rfl rfl rfl rfl rfl ?_
       refine .call (.no rfl) rfl [] [] (c_areAllN (s.arrs.getD i default) 88 [(true, [.v (.int .i64 ((e.arrs.getD i default).lo)), .v (.int .i64 ((e.arrs.getD i default).hi))])] [] (fun x0 => Iv.has (e.arrs.getD i default) x0) (fun x0 => c_has (e.arrs.getD i default) x0)) rfl rfl rfl rfl rfl (.cons (Reads.d _).gives (.cons (Reads.clo1 (.cons (Reads.d _) (.cons (Reads.d _) .nil)) (.nil)).gives .nil)) rfl rfl (fun h => absurd rfl h) (.own [44, 0] .nil) (.nil) rfl rfl rfl (by simp) rfl rfl rfl ?_
       refine .un (.no rfl) rfl rfl rfl rfl rfl ?_
       exact .fin () (.of (.cons rfl (.cons rfl (.cons rfl (.cons rfl (.cons rfl .nil))))) (.cons rfl .nil))
      intro _
      refine .cond (t := !((s.arrs.getD i default).all (fun x0 => Iv.has (e.arrs.getD i default) x0))) rfl (fun c4 => ?_) (fun c4 => ?_)
      ·have c4 := c4
       try simp only [Bool.or_eq_true, Bool.or_eq_false_iff, Bool.and_eq_true, Bool.and_eq_false_iff, decide_eq_true_eq, decide_eq_false_iff_not, Bool.not_eq_true', Bool.not_eq_false', bne_iff_ne, beq_iff_eq, bne_eq_false_iff_eq, beq_eq_false_iff_ne, ne_eq, Bool.not_eq_eq_eq_not, Bool.not_true, Bool.not_false] at c4
       refine .seq ?_
       refine .reg (X := Unit) (fun ζ => .of [(4, .one (.d (.v (.bool (false)))))] []) [⟨[], some 4, [], []⟩] (fun k25 => ?_) ?_
       ·skip
        refine .assign (.no rfl) rfl rfl rfl rfl ?_
        exact .fin () (.of (.cons rfl .nil) .nil)
       intro _
       refine .ret ?_
       have e26 : (false) = (Env.has e s) := by (rw [Env.has_arr (j := i) (by omega) c4])
       have hc27 := eq1 (fun z1 => SV.one (.d (.v (.bool (z1))))) e26
       show _ ∧ _
       exact ⟨.inr rfl, .done ⟨_, [], [], _, .one (c := .d (.v (.bool (Env.has e s)))) (hc27) .nil, .cons (Reads.d _).gives .nil, nodupB_ok rfl, by simp, (by simp)⟩⟩
      ·have c4 := c4
       try simp only [Bool.or_eq_true, Bool.or_eq_false_iff, Bool.and_eq_true, Bool.and_eq_false_iff, decide_eq_true_eq, decide_eq_false_iff_not, Bool.not_eq_true', Bool.not_eq_false', bne_iff_ne, beq_iff_eq, bne_eq_false_iff_eq, beq_eq_false_iff_ne, ne_eq, Bool.not_eq_eq_eq_not, Bool.not_true, Bool.not_false] at c4
       refine .skip ?_
       refine .reg (X := Unit) (fun ζ => .of [(2, .one (.ptr [2] (g7) 0)), (30, .one (.d (.sl false 27 1 (List.map slc27 (s.arrs))))), (31, .one (.d (.v (.int .i64 ((s.arrs.length : Int)))))), (32, .one (.d (.v (.int .i64 (IntKind.wrap .i64 ((i : Int) + 1))))))] [([2], (g7, g7, .box [.d (.v (.bool (e.live))), .d (.sl false 122 2 (List.map Iv.c (e.ints))), .d (.sl false 122 2 (List.map Iv.c (e.arrs)))]))]) [⟨[32], some 46, [], []⟩, ⟨[46], some 32, [], []⟩] (fun k28 => ?_) ?_
       ·skip
        refine .bin (.no rfl) rfl rfl rfl rfl rfl rfl ?_
        refine .move (.no rfl) rfl rfl rfl rfl ?_
        exact .fin () (.of (.cons rfl (.cons rfl (.cons rfl (.cons rfl .nil)))) (.cons rfl .nil))
       intro _
       exact .here (i + 1) (.of (.cons rfl (.cons rfl (.cons rfl (.cons (svI (show (IntKind.wrap .i64 ((i : Int) + 1)) = (((i + 1) : Int)) by first | rfl | omega | exact wrap_le (by omega) (by omega) | (rw [wrap_le (by omega) (by omega)]; omega))) .nil)))) (.cons rfl .nil)) ⟨(show (i + 1) ≤ s.arrs.length ∧ allTo (i + 1) (fun x => (s.arrs.getD x default).all (Iv.has (e.arrs.getD x default))) = true by exact ⟨by omega, allTo_step hI.2 c4⟩), (show s.arrs.length - (i + 1) < s.arrs.length - i by omega)⟩
     ·have c3 := of_decide_eq_false c3
      refine .exit ?_
      refine .seq ?_
      refine .reg (X := Unit) (fun ζ => .of [(4, .one (.d (.v (.bool (true)))))] []) [⟨[], some 4, [], []⟩] (fun k29 => ?_) ?_
      ·skip
       refine .assign (.no rfl) rfl rfl rfl rfl ?_
       exact .fin () (.of (.cons rfl .nil) .nil)
      intro _
      refine .ret ?_
      have e30 : (true) = (Env.has e s) := by (rw [Env.has_done c0 (i := j) (by omega) hI0.2 (j := i) (by omega) hI.2])
      have hc31 := eq1 (fun z1 => SV.one (.d (.v (.bool (z1))))) e30
      show _ ∧ _
      exact ⟨.inr rfl, .done ⟨_, [], [], _, .one (c := .d (.v (.bool (Env.has e s)))) (hc31) .nil, .cons (Reads.d _).gives .nil, nodupB_ok rfl, by simp, (by simp)⟩⟩
theorem c_l6Has (e : Env) (s : Store) (hf : Fits e s) (hst : Store.small s) : Trip Tryz.prog 41 [(true, 3), (true, 3)] (Env.c77 e ++ Store.c42 s) [(false, 1)] [.v (.bool (Env.has e s))] [] := by
 refine Trip.of Tryz.func41 (by decide) (c := _) rfl rfl (shB_ok rfl) (Nat.le_of_ble_eq_true rfl) rfl (AftOk.nil _) ?_
 refine .satA (t := 0) (i := 1) rfl rfl (fun hs1 => ?_)
 have hs1l : e.ints.length ≤ 9223372036854775807 := hs1.maplen
 refine .satA (t := 0) (i := 2) rfl rfl (fun hs2 => ?_)
 have hs2l : e.arrs.length ≤ 9223372036854775807 := hs2.maplen
 refine .satA (t := 1) (i := 0) rfl rfl (fun hs3 => ?_)
 have hs3l : s.ints.length ≤ 9223372036854775807 := hs3.maplen
 refine .satA (t := 1) (i := 1) rfl rfl (fun hs4 => ?_)
 have hs4l : s.flags.length ≤ 9223372036854775807 := hs4.maplen
 refine .satA (t := 1) (i := 2) rfl rfl (fun hs5 => ?_)
 have hs5l : s.arrs.length ≤ 9223372036854775807 := hs5.maplen
 refine .seq ?_
 refine .reg (X := Nat × Nat) (fun ζ => .of [(2, .one (.ptr [2] (ζ.1) 0)), (3, .one (.ptr [3] (ζ.2) 0))] [([2], (ζ.1, ζ.1, .box [.d (.v (.bool (e.live))), .d (.sl false 122 2 (List.map Iv.c (e.ints))), .d (.sl false 122 2 (List.map Iv.c (e.arrs)))])), ([3], (ζ.2, ζ.2, .box [.d (.sl false 2 1 (List.map i64c (s.ints))), .d (.sl false 4 1 (List.map boolc (s.flags))), .d (.sl false 27 1 (List.map slc27 (s.arrs)))]))]) [⟨[0], some 2, [], [[2]]⟩, ⟨[1], some 3, [], [[3]]⟩, ⟨[], some 4, [], []⟩] (fun k6 => ?_) ?_
 ·skip
  refine .box (.no rfl) rfl rfl rfl rfl rfl ?_
  refine .box (.no rfl) rfl rfl rfl rfl rfl ?_
  refine .assign (.no rfl) rfl rfl rfl rfl ?_
  exact .fin (k6, k6 + 1) (.of (.cons rfl (.cons rfl .nil)) (.cons rfl (.cons rfl .nil)))
 rintro ⟨g7, g8⟩
 refine .seq ?_
 refine .seq ?_
 refine .reg (X := Unit) (fun ζ => .of [(2, .one (.ptr [2] (g7) 0)), (3, .one (.ptr [3] (g8) 0)), (10, .one (.d (.v (.bool (!e.live)))))] [([2], (g7, g7, .box [.d (.v (.bool (e.live))), .d (.sl false 122 2 (List.map Iv.c (e.ints))), .d (.sl false 122 2 (List.map Iv.c (e.arrs)))])), ([3], (g8, g8, .box [.d (.sl false 2 1 (List.map i64c (s.ints))), .d (.sl false 4 1 (List.map boolc (s.flags))), .d (.sl false 27 1 (List.map slc27 (s.arrs)))]))]) [⟨[2], some 8, [], []⟩, ⟨[8], some 9, [[2]], []⟩, ⟨[9], some 10, [], []⟩] (fun k9 => ?_) ?_
 ·skip
  refine .fieldAddrP (.no rfl) rfl t77 rfl rfl t4 rfl rfl rfl rfl ?_
  refine .load (.no rfl) rfl t4 rfl rfl (.ptr _ _ _ _ _ rfl) rfl rfl rfl rfl ?_
  refine .un (.no rfl) rfl rfl rfl rfl rfl ?_
  exact .fin () (.of (.cons rfl (.cons rfl (.cons rfl .nil))) (.cons rfl (.cons rfl .nil)))
 intro _
 refine .cond (t := !e.live) rfl (fun c0 => ?_) (fun c0 => ?_)
 ·have c0 := c0
  try simp only [Bool.or_eq_true, Bool.or_eq_false_iff, Bool.and_eq_true, Bool.and_eq_false_iff, decide_eq_true_eq, decide_eq_false_iff_not, Bool.not_eq_true', Bool.not_eq_false', bne_iff_ne, beq_iff_eq, bne_eq_false_iff_eq, beq_eq_false_iff_ne, ne_eq, Bool.not_eq_eq_eq_not, Bool.not_true, Bool.not_false] at c0
  refine .seq ?_
  refine .reg (X := Unit) (fun ζ => .of [(4, .one (.d (.v (.bool (false)))))] []) [⟨[], some 4, [], []⟩] (fun k10 => ?_) ?_
  ·skip
   refine .assign (.no rfl) rfl rfl rfl rfl ?_
   exact .fin () (.of (.cons rfl .nil) .nil)
  intro _
  refine .ret ?_
  have e11 : (false) = (Env.has e s) := by (rw [Env.has_dead c0])
  have hc12 := eq1 (fun z1 => SV.one (.d (.v (.bool (z1))))) e11
  show _ ∧ _
  exact ⟨.inr rfl, .done ⟨_, [], [], _, .one (c := .d (.v (.bool (Env.has e s)))) (hc12) .nil, .cons (Reads.d _).gives .nil, nodupB_ok rfl, by simp, (by simp)⟩⟩
 ·have c0 := c0
  try simp only [Bool.or_eq_true, Bool.or_eq_false_iff, Bool.and_eq_true, Bool.and_eq_false_iff, decide_eq_true_eq, decide_eq_false_iff_not, Bool.not_eq_true', Bool.not_eq_false', bne_iff_ne, beq_iff_eq, bne_eq_false_iff_eq, beq_eq_false_iff_ne, ne_eq, Bool.not_eq_eq_eq_not, Bool.not_true, Bool.not_false] at c0
  refine .skip ?_
  refine .seq ?_
  refine .seq ?_
  refine .reg (X := Unit) (fun ζ => .of [(2, .one (.ptr [2] (g7) 0)), (3, .one (.ptr [3] (g8) 0)), (5, .one (.d (.v (.int .i64 (0)))))] [([2], (g7, g7, .box [.d (.v (.bool (e.live))), .d (.sl false 122 2 (List.map Iv.c (e.ints))), .d (.sl false 122 2 (List.map Iv.c (e.arrs)))])), ([3], (g8, g8, .box [.d (.sl false 2 1 (List.map i64c (s.ints))), .d (.sl false 4 1 (List.map boolc (s.flags))), .d (.sl false 27 1 (List.map slc27 (s.arrs)))]))]) [⟨[], some 5, [], []⟩] (fun k13 => ?_) ?_
  ·skip
   refine .assign (.no rfl) rfl rfl rfl rfl ?_
   exact .fin () (.of (.cons rfl (.cons rfl (.cons rfl .nil))) (.cons rfl (.cons rfl .nil)))
  intro _
  refine .block ?_
  refine .loop (X := Nat) (fun ζ => .of [(2, .one (.ptr [2] (g7) 0)), (3, .one (.ptr [3] (g8) 0)), (5, .one (.d (.v (.int .i64 ((ζ : Int))))))] [([2], (g7, g7, .box [.d (.v (.bool (e.live))), .d (.sl false 122 2 (List.map Iv.c (e.ints))), .d (.sl false 122 2 (List.map Iv.c (e.arrs)))])), ([3], (g8, g8, .box [.d (.sl false 2 1 (List.map i64c (s.ints))), .d (.sl false 4 1 (List.map boolc (s.flags))), .d (.sl false 27 1 (List.map slc27 (s.arrs)))]))]) (fun ζ => ζ ≤ e.ints.length ∧ allTo ζ (fun x => Iv.has (e.ints.getD x default) (s.ints.getD x default)) = true) (fun ζ => e.ints.length - ζ) ?_ ?_
  ·skip
   exact .here 0 (.of (.cons rfl (.cons rfl (.cons (svI (show (0) = ((0 : Int)) by first | rfl | omega | exact wrap_le (by omega) (by omega) | (rw [wrap_le (by omega) (by omega)]; omega))) .nil))) (.cons rfl (.cons rfl .nil))) (show 0 ≤ e.ints.length ∧ allTo 0 (fun x => Iv.has (e.ints.getD x default) (s.ints.getD x default)) = true by exact ⟨by omega, rfl⟩)
  ·rintro j hI
   have hI : j ≤ e.ints.length ∧ allTo j (fun x => Iv.has (e.ints.getD x default) (s.ints.getD x default)) = true := hI
   have hj9 := hf c0
   refine .seq ?_
   refine .seq ?_
   refine .reg (X := Unit) (fun ζ => .of [(2, .one (.ptr [2] (g7) 0)), (3, .one (.ptr [3] (g8) 0)), (5, .one (.d (.v (.int .i64 ((j : Int)))))), (15, .one (.d (.v (.bool (decide ((j : Int) < (e.ints.length : Int)))))))] [([2], (g7, g7, .box [.d (.v (.bool (e.live))), .d (.sl false 122 2 (List.map Iv.c (e.ints))), .d (.sl false 122 2 (List.map Iv.c (e.arrs)))])), ([3], (g8, g8, .box [.d (.sl false 2 1 (List.map i64c (s.ints))), .d (.sl false 4 1 (List.map boolc (s.flags))), .d (.sl false 27 1 (List.map slc27 (s.arrs)))]))]) [⟨[5], some 11, [], []⟩, ⟨[2], some 12, [], []⟩, ⟨[12], some 13, [[2]], []⟩, ⟨[13], some 14, [], []⟩, ⟨[11, 14], some 15, [], []⟩] (fun k14 => ?_) ?_
   ·skip
    refine .move (.no rfl) rfl rfl rfl rfl ?_
    refine .fieldAddrP (.no rfl) rfl t77 rfl rfl t75 rfl rfl rfl rfl ?_
    refine .load (.no rfl) rfl t75 rfl rfl (.ptr _ _ _ _ _ rfl) rfl rfl rfl rfl ?_
    refine .len (.no rfl) rfl (z := (e.ints.length : Int)) t75 rfl rfl rfl (.d _ _) (map_len _ _) rfl ?_
    refine .bin (.no rfl) rfl rfl rfl rfl rfl rfl ?_
    exact .fin () (.of (.cons rfl (.cons rfl (.cons rfl (.cons rfl .nil)))) (.cons rfl (.cons rfl .nil)))
   intro _
   refine .cond (t := decide ((j : Int) < (e.ints.length : Int))) rfl (fun c1 => ?_) (fun c1 => ?_)
   ·have c1 := of_decide_eq_true c1
    refine .skip ?_
    refine .seq ?_
    refine .block ?_
    refine .seq ?_
    refine .regD (X := Unit) (by kernel_rfl) (fun ζ => .of [(2, .one (.ptr [2] (g7) 0)), (3, .one (.ptr [3] (g8) 0)), (5, .one (.d (.v (.int .i64 ((j : Int)))))), (29, .one (.d (.v (.bool (!(Iv.has (e.ints.getD j default) (s.ints.getD j default)))))))] [([2], (g7, g7, .box [.d (.v (.bool (e.live))), .d (.sl false 122 2 (List.map Iv.c (e.ints))), .d (.sl false 122 2 (List.map Iv.c (e.arrs)))])), ([3], (g8, g8, .box [.d (.sl false 2 1 (List.map i64c (s.ints))), .d (.sl false 4 1 (List.map boolc (s.flags))), .d (.sl false 27 1 (List.map slc27 (s.arrs)))]))]) [⟨[2], some 18, [], []⟩, ⟨[18], some 19, [[2]], []⟩, ⟨[5], some 20, [], []⟩, ⟨[19, 20], some 21, [], []⟩, ⟨[21], some 22, [], []⟩, ⟨[3], some 23, [], []⟩, ⟨[23], some 24, [[3]], []⟩, ⟨[5], some 25, [], []⟩, ⟨[24, 25], some 26, [], []⟩, ⟨[26], some 27, [], []⟩, ⟨[22, 27], some 28, [], []⟩, ⟨[28], some 29, [], []⟩] (by kernel_rfl) (fun k15 => ?_) ?_
    ·skip
     refine .fieldAddrP (.no rfl) rfl t77 rfl rfl t75 rfl rfl rfl rfl ?_
     refine .load (.no rfl) rfl t75 rfl rfl (.ptr _ _ _ _ _ rfl) rfl rfl rfl rfl ?_
     refine .move (.no rfl) rfl rfl rfl rfl ?_
     refine .indexAddr (.no rfl) rfl (j) t75 rfl t122 rfl rfl rfl (.d _ _) rfl rfl rfl (map_get (by omega)) rfl rfl ?_
     refine .load (.no rfl) rfl t122 rfl rfl (.d _) rfl rfl rfl rfl ?_
     refine .fieldAddrP (.no rfl) rfl t42 rfl rfl t27 rfl rfl rfl rfl ?_
     refine .load (.no rfl) rfl t27 rfl rfl (.ptr _ _ _ _ _ rfl) rfl rfl rfl rfl ?_
     refine .move (.no rfl) rfl rfl rfl rfl ?_
     refine .indexAddr (.no rfl) rfl (j) t27 rfl t2 rfl rfl rfl (.d _ _) rfl rfl rfl (map_get (by omega)) rfl rfl ?_
     refine .load (.no rfl) rfl t2 rfl rfl (.d _) rfl rfl rfl rfl ?_
     refine .call (.no rfl) rfl [] [] (c_sIvHas (e.ints.getD j default) (s.ints.getD j default)) rfl rfl rfl rfl rfl (.cons (Reads.d _).gives (.cons (Reads.d _).gives (.cons (Reads.d _).gives .nil))) rfl rfl (fun h => absurd rfl h) (.own [28, 0] .nil) (.nil) rfl rfl rfl (by simp) rfl rfl rfl ?_
     refine .un (.no rfl) rfl rfl rfl rfl rfl ?_
     exact .fin () (.of (.cons rfl (.cons rfl (.cons rfl (.cons rfl .nil)))) (.cons rfl (.cons rfl .nil)))
    intro _
    refine .cond (t := !(Iv.has (e.ints.getD j default) (s.ints.getD j default))) rfl (fun c2 => ?_) (fun c2 => ?_)
    ·have c2 := c2
     try simp only [Bool.or_eq_true, Bool.or_eq_false_iff, Bool.and_eq_true, Bool.and_eq_false_iff, decide_eq_true_eq, decide_eq_false_iff_not, Bool.not_eq_true', Bool.not_eq_false', bne_iff_ne, beq_iff_eq, bne_eq_false_iff_eq, beq_eq_false_iff_ne, ne_eq, Bool.not_eq_eq_eq_not, Bool.not_true, Bool.not_false] at c2
     refine .seq ?_
     refine .reg (X := Unit) (fun ζ => .of [(4, .one (.d (.v (.bool (false)))))] []) [⟨[], some 4, [], []⟩] (fun k16 => ?_) ?_
     ·skip
      refine .assign (.no rfl) rfl rfl rfl rfl ?_
      exact .fin () (.of (.cons rfl .nil) .nil)
     intro _
     refine .ret ?_
     have e17 : (false) = (Env.has e s) := by (rw [Env.has_int (j := j) (by omega) c2])
     have hc18 := eq1 (fun z1 => SV.one (.d (.v (.bool (z1))))) e17
     show _ ∧ _
     exact ⟨.inr rfl, .done ⟨_, [], [], _, .one (c := .d (.v (.bool (Env.has e s)))) (hc18) .nil, .cons (Reads.d _).gives .nil, nodupB_ok rfl, by simp, (by simp)⟩⟩
    ·have c2 := c2
     try simp only [Bool.or_eq_true, Bool.or_eq_false_iff, Bool.and_eq_true, Bool.and_eq_false_iff, decide_eq_true_eq, decide_eq_false_iff_not, Bool.not_eq_true', Bool.not_eq_false', bne_iff_ne, beq_iff_eq, bne_eq_false_iff_eq, beq_eq_false_iff_ne, ne_eq, Bool.not_eq_eq_eq_not, Bool.not_true, Bool.not_false] at c2
     refine .skip ?_
     refine .reg (X := Unit) (fun ζ => .of [(2, .one (.ptr [2] (g7) 0)), (3, .one (.ptr [3] (g8) 0)), (5, .one (.d (.v (.int .i64 (IntKind.wrap .i64 ((j : Int) + 1))))))] [([2], (g7, g7, .box [.d (.v (.bool (e.live))), .d (.sl false 122 2 (List.map Iv.c (e.ints))), .d (.sl false 122 2 (List.map Iv.c (e.arrs)))])), ([3], (g8, g8, .box [.d (.sl false 2 1 (List.map i64c (s.ints))), .d (.sl false 4 1 (List.map boolc (s.flags))), .d (.sl false 27 1 (List.map slc27 (s.arrs)))]))]) [⟨[5], some 16, [], []⟩, ⟨[16], some 17, [], []⟩, ⟨[17], some 5, [], []⟩] (fun k19 => ?_) ?_
     ·skip
      refine .move (.no rfl) rfl rfl rfl rfl ?_
      refine .bin (.no rfl) rfl rfl rfl rfl rfl rfl ?_
      refine .assign (.no rfl) rfl rfl rfl rfl ?_
      exact .fin () (.of (.cons rfl (.cons rfl (.cons rfl .nil))) (.cons rfl (.cons rfl .nil)))
     intro _
     exact .here (j + 1) (.of (.cons rfl (.cons rfl (.cons (svI (show (IntKind.wrap .i64 ((j : Int) + 1)) = (((j + 1) : Int)) by first | rfl | omega | exact wrap_le (by omega) (by omega) | (rw [wrap_le (by omega) (by omega)]; omega))) .nil))) (.cons rfl (.cons rfl .nil))) ⟨(show (j + 1) ≤ e.ints.length ∧ allTo (j + 1) (fun x => Iv.has (e.ints.getD x default) (s.ints.getD x default)) = true by exact ⟨by omega, allTo_step hI.2 c2⟩), (show e.ints.length - (j + 1) < e.ints.length - j by omega)⟩
   ·have c1 := of_decide_eq_false c1
    refine .exit ?_
    refine .seq ?_
    refine .seq ?_
    refine .reg (X := Unit) (fun ζ => .of [(2, .one (.ptr [2] (g7) 0)), (3, .one (.ptr [3] (g8) 0)), (6, .one (.d (.v (.int .i64 (0)))))] [([2], (g7, g7, .box [.d (.v (.bool (e.live))), .d (.sl false 122 2 (List.map Iv.c (e.ints))), .d (.sl false 122 2 (List.map Iv.c (e.arrs)))])), ([3], (g8, g8, .box [.d (.sl false 2 1 (List.map i64c (s.ints))), .d (.sl false 4 1 (List.map boolc (s.flags))), .d (.sl false 27 1 (List.map slc27 (s.arrs)))]))]) [⟨[], some 6, [], []⟩] (fun k20 => ?_) ?_
    ·skip
     refine .assign (.no rfl) rfl rfl rfl rfl ?_
     exact .fin () (.of (.cons rfl (.cons rfl (.cons rfl .nil))) (.cons rfl (.cons rfl .nil)))
    intro _
    refine .block ?_
    refine .loop (X := Nat) (fun ζ => .of [(2, .one (.ptr [2] (g7) 0)), (3, .one (.ptr [3] (g8) 0)), (6, .one (.d (.v (.int .i64 ((ζ : Int))))))] [([2], (g7, g7, .box [.d (.v (.bool (e.live))), .d (.sl false 122 2 (List.map Iv.c (e.ints))), .d (.sl false 122 2 (List.map Iv.c (e.arrs)))])), ([3], (g8, g8, .box [.d (.sl false 2 1 (List.map i64c (s.ints))), .d (.sl false 4 1 (List.map boolc (s.flags))), .d (.sl false 27 1 (List.map slc27 (s.arrs)))]))]) (fun ζ => ζ ≤ e.arrs.length ∧ allTo ζ (fun x => (s.arrs.getD x default).all (Iv.has (e.arrs.getD x default))) = true) (fun ζ => e.arrs.length - ζ) ?_ ?_
    ·skip
     exact .here 0 (.of (.cons rfl (.cons rfl (.cons (svI (show (0) = ((0 : Int)) by first | rfl | omega | exact wrap_le (by omega) (by omega) | (rw [wrap_le (by omega) (by omega)]; omega))) .nil))) (.cons rfl (.cons rfl .nil))) (show 0 ≤ e.arrs.length ∧ allTo 0 (fun x => (s.arrs.getD x default).all (Iv.has (e.arrs.getD x default))) = true by exact ⟨by omega, rfl⟩)
    ·rintro i hI
     have hI : i ≤ e.arrs.length ∧ allTo i (fun x => (s.arrs.getD x default).all (Iv.has (e.arrs.getD x default))) = true := hI
     have hI0 := ‹j ≤ e.ints.length ∧ _›
     refine .seq ?_
     refine .seq ?_
     refine .reg (X := Unit) (fun ζ => .of [(2, .one (.ptr [2] (g7) 0)), (3, .one (.ptr [3] (g8) 0)), (6, .one (.d (.v (.int .i64 ((i : Int)))))), (34, .one (.d (.v (.bool (decide ((i : Int) < (e.arrs.length : Int)))))))] [([2], (g7, g7, .box [.d (.v (.bool (e.live))), .d (.sl false 122 2 (List.map Iv.c (e.ints))), .d (.sl false 122 2 (List.map Iv.c (e.arrs)))])), ([3], (g8, g8, .box [.d (.sl false 2 1 (List.map i64c (s.ints))), .d (.sl false 4 1 (List.map boolc (s.flags))), .d (.sl false 27 1 (List.map slc27 (s.arrs)))]))]) [⟨[6], some 30, [], []⟩, ⟨[2], some 31, [], []⟩, ⟨[31], some 32, [[2]], []⟩, ⟨[32], some 33, [], []⟩, ⟨[30, 33], some 34, [], []⟩] (fun k21 => ?_) ?_
     ·skip
      refine .move (.no rfl) rfl rfl rfl rfl ?_
      refine .fieldAddrP (.no rfl) rfl t77 rfl rfl t75 rfl rfl rfl rfl ?_
      refine .load (.no rfl) rfl t75 rfl rfl (.ptr _ _ _ _ _ rfl) rfl rfl rfl rfl ?_
      refine .len (.no rfl) rfl (z := (e.arrs.length : Int)) t75 rfl rfl rfl (.d _ _) (map_len _ _) rfl ?_
      refine .bin (.no rfl) rfl rfl rfl rfl rfl rfl ?_
      exact .fin () (.of (.cons rfl (.cons rfl (.cons rfl (.cons rfl .nil)))) (.cons rfl (.cons rfl .nil)))
     intro _
     refine .cond (t := decide ((i : Int) < (e.arrs.length : Int))) rfl (fun c3 => ?_) (fun c3 => ?_)
     ·have c3 := of_decide_eq_true c3
      refine .skip ?_
      refine .seq ?_
      refine .block ?_
      refine .seq ?_
      refine .reg (X := Unit) (fun ζ => .of [(2, .one (.ptr [2] (g7) 0)), (3, .one (.ptr [3] (g8) 0)), (6, .one (.d (.v (.int .i64 ((i : Int)))))), (7, .one (.d (.v (.int .i64 (0)))))] [([2], (g7, g7, .box [.d (.v (.bool (e.live))), .d (.sl false 122 2 (List.map Iv.c (e.ints))), .d (.sl false 122 2 (List.map Iv.c (e.arrs)))])), ([3], (g8, g8, .box [.d (.sl false 2 1 (List.map i64c (s.ints))), .d (.sl false 4 1 (List.map boolc (s.flags))), .d (.sl false 27 1 (List.map slc27 (s.arrs)))]))]) [⟨[], some 7, [], []⟩] (fun k22 => ?_) ?_
      ·skip
       refine .assign (.no rfl) rfl rfl rfl rfl ?_
       exact .fin () (.of (.cons rfl (.cons rfl (.cons rfl (.cons rfl .nil)))) (.cons rfl (.cons rfl .nil)))
      intro _
      refine .block ?_
      refine .loop (X := Nat) (fun ζ => .of [(2, .one (.ptr [2] (g7) 0)), (3, .one (.ptr [3] (g8) 0)), (6, .one (.d (.v (.int .i64 ((i : Int)))))), (7, .one (.d (.v (.int .i64 ((ζ : Int))))))] [([2], (g7, g7, .box [.d (.v (.bool (e.live))), .d (.sl false 122 2 (List.map Iv.c (e.ints))), .d (.sl false 122 2 (List.map Iv.c (e.arrs)))])), ([3], (g8, g8, .box [.d (.sl false 2 1 (List.map i64c (s.ints))), .d (.sl false 4 1 (List.map boolc (s.flags))), .d (.sl false 27 1 (List.map slc27 (s.arrs)))]))]) (fun ζ => ζ ≤ (s.arrs.getD i default).length ∧ allTo ζ (fun x => Iv.has (e.arrs.getD i default) ((s.arrs.getD i default).getD x default)) = true) (fun ζ => (s.arrs.getD i default).length - ζ) ?_ ?_
      ·skip
       exact .here 0 (.of (.cons rfl (.cons rfl (.cons rfl (.cons (svI (show (0) = ((0 : Int)) by first | rfl | omega | exact wrap_le (by omega) (by omega) | (rw [wrap_le (by omega) (by omega)]; omega))) .nil)))) (.cons rfl (.cons rfl .nil))) (show 0 ≤ (s.arrs.getD i default).length ∧ allTo 0 (fun x => Iv.has (e.arrs.getD i default) ((s.arrs.getD i default).getD x default)) = true by exact ⟨by omega, rfl⟩)
      ·rintro q hI
       have hI : q ≤ (s.arrs.getD i default).length ∧ allTo q (fun x => Iv.has (e.arrs.getD i default) ((s.arrs.getD i default).getD x default)) = true := hI
       have hI1 := ‹i ≤ e.arrs.length ∧ _›
       have hS9 := hst.2.2.2 _ (getD_mem (a := s.arrs) (j := i) (by omega))
       refine .seq ?_
       refine .seq ?_
       refine .reg (X := Unit) (fun ζ => .of [(2, .one (.ptr [2] (g7) 0)), (3, .one (.ptr [3] (g8) 0)), (6, .one (.d (.v (.int .i64 ((i : Int)))))), (7, .one (.d (.v (.int .i64 ((q : Int)))))), (44, .one (.d (.v (.bool (decide ((q : Int) < ((s.arrs.getD i default).length : Int)))))))] [([2], (g7, g7, .box [.d (.v (.bool (e.live))), .d (.sl false 122 2 (List.map Iv.c (e.ints))), .d (.sl false 122 2 (List.map Iv.c (e.arrs)))])), ([3], (g8, g8, .box [.d (.sl false 2 1 (List.map i64c (s.ints))), .d (.sl false 4 1 (List.map boolc (s.flags))), .d (.sl false 27 1 (List.map slc27 (s.arrs)))]))]) [⟨[7], some 37, [], []⟩, ⟨[3], some 38, [], []⟩, ⟨[38], some 39, [[3]], []⟩, ⟨[6], some 40, [], []⟩, ⟨[39, 40], some 41, [], []⟩, ⟨[41], some 42, [], []⟩, ⟨[42], some 43, [], []⟩, ⟨[37, 43], some 44, [], []⟩] (fun k23 => ?_) ?_
       ·skip
        refine .move (.no rfl) rfl rfl rfl rfl ?_
        refine .fieldAddrP (.no rfl) rfl t42 rfl rfl t29 rfl rfl rfl rfl ?_
        refine .load (.no rfl) rfl t29 rfl rfl (.ptr _ _ _ _ _ rfl) rfl rfl rfl rfl ?_
        refine .move (.no rfl) rfl rfl rfl rfl ?_
        refine .indexAddr (.no rfl) rfl (i) t29 rfl t27 rfl rfl rfl (.d _ _) rfl rfl rfl (map_get (by omega)) rfl rfl ?_
        refine .load (.no rfl) rfl t27 rfl rfl (.d _) rfl rfl rfl rfl ?_
        refine .len (.no rfl) rfl (z := ((s.arrs.getD i default).length : Int)) t27 rfl rfl rfl (.d _ _) (map_len _ _) rfl ?_
        refine .bin (.no rfl) rfl rfl rfl rfl rfl rfl ?_
        exact .fin () (.of (.cons rfl (.cons rfl (.cons rfl (.cons rfl (.cons rfl .nil))))) (.cons rfl (.cons rfl .nil)))
       intro _
       refine .cond (t := decide ((q : Int) < ((s.arrs.getD i default).length : Int))) rfl (fun c4 => ?_) (fun c4 => ?_)
       ·have c4 := of_decide_eq_true c4
        refine .skip ?_
        refine .seq ?_
        refine .block ?_
        refine .seq ?_
        refine .regD (X := Unit) (by kernel_rfl) (fun ζ => .of [(2, .one (.ptr [2] (g7) 0)), (3, .one (.ptr [3] (g8) 0)), (6, .one (.d (.v (.int .i64 ((i : Int)))))), (7, .one (.d (.v (.int .i64 ((q : Int)))))), (61, .one (.d (.v (.bool (!(Iv.has (e.arrs.getD i default) ((s.arrs.getD i default).getD (q) default)))))))] [([2], (g7, g7, .box [.d (.v (.bool (e.live))), .d (.sl false 122 2 (List.map Iv.c (e.ints))), .d (.sl false 122 2 (List.map Iv.c (e.arrs)))])), ([3], (g8, g8, .box [.d (.sl false 2 1 (List.map i64c (s.ints))), .d (.sl false 4 1 (List.map boolc (s.flags))), .d (.sl false 27 1 (List.map slc27 (s.arrs)))]))]) [⟨[2], some 47, [], []⟩, ⟨[47], some 48, [[2]], []⟩, ⟨[6], some 49, [], []⟩, ⟨[48, 49], some 50, [], []⟩, ⟨[50], some 51, [], []⟩, ⟨[3], some 52, [], []⟩, ⟨[52], some 53, [[3]], []⟩, ⟨[6], some 54, [], []⟩, ⟨[53, 54], some 55, [], []⟩, ⟨[55], some 56, [], []⟩, ⟨[7], some 57, [], []⟩, ⟨[56, 57], some 58, [], []⟩, ⟨[58], some 59, [], []⟩, ⟨[51, 59], some 60, [], []⟩, ⟨[60], some 61, [], []⟩] (by kernel_rfl) (fun k24 => ?_) ?_
        ·skip
         refine .fieldAddrP (.no rfl) rfl t77 rfl rfl t75 rfl rfl rfl rfl ?_
         refine .load (.no rfl) rfl t75 rfl rfl (.ptr _ _ _ _ _ rfl) rfl rfl rfl rfl ?_
         refine .move (.no rfl) rfl rfl rfl rfl ?_
         refine .indexAddr (.no rfl) rfl (i) t75 rfl t122 rfl rfl rfl (.d _ _) rfl rfl rfl (map_get (by omega)) rfl rfl ?_
         refine .load (.no rfl) rfl t122 rfl rfl (.d _) rfl rfl rfl rfl ?_
         refine .fieldAddrP (.no rfl) rfl t42 rfl rfl t29 rfl rfl rfl rfl ?_
         refine .load (.no rfl) rfl t29 rfl rfl (.ptr _ _ _ _ _ rfl) rfl rfl rfl rfl ?_
         refine .move (.no rfl) rfl rfl rfl rfl ?_
         refine .indexAddr (.no rfl) rfl (i) t29 rfl t27 rfl rfl rfl (.d _ _) rfl rfl rfl (map_get (by omega)) rfl rfl ?_
         refine .load (.no rfl) rfl t27 rfl rfl (.d _) rfl rfl rfl rfl ?_
         refine .move (.no rfl) rfl rfl rfl rfl ?_
         refine .indexAddr (.no rfl) rfl (q) t27 rfl t2 rfl rfl rfl (.d _ _) rfl rfl rfl (map_get (by omega)) rfl rfl ?_
         refine .load (.no rfl) rfl t2 rfl rfl (.d _) rfl rfl rfl rfl ?_
         refine .call (.no rfl) rfl [] [] (c_sIvHas (e.arrs.getD i default) ((s.arrs.getD i default).getD (q) default)) rfl rfl rfl rfl rfl (.cons (Reads.d _).gives (.cons (Reads.d _).gives (.cons (Reads.d _).gives .nil))) rfl rfl (fun h => absurd rfl h) (.own [60, 0] .nil) (.nil) rfl rfl rfl (by simp) rfl rfl rfl ?_
         refine .un (.no rfl) rfl rfl rfl rfl rfl ?_
         exact .fin () (.of (.cons rfl (.cons rfl (.cons rfl (.cons rfl (.cons rfl .nil))))) (.cons rfl (.cons rfl .nil)))
        intro _
        refine .cond (t := !(Iv.has (e.arrs.getD i default) ((s.arrs.getD i default).getD (q) default))) rfl (fun c5 => ?_) (fun c5 => ?_)
        ·have c5 := c5
         try simp only [Bool.or_eq_true, Bool.or_eq_false_iff, Bool.and_eq_true, Bool.and_eq_false_iff, decide_eq_true_eq, decide_eq_false_iff_not, Bool.not_eq_true', Bool.not_eq_false', bne_iff_ne, beq_iff_eq, bne_eq_false_iff_eq, beq_eq_false_iff_ne, ne_eq, Bool.not_eq_eq_eq_not, Bool.not_true, Bool.not_false] at c5
         refine .seq ?_
         refine .reg (X := Unit) (fun ζ => .of [(4, .one (.d (.v (.bool (false)))))] []) [⟨[], some 4, [], []⟩] (fun k25 => ?_) ?_
         ·skip
          refine .assign (.no rfl) rfl rfl rfl rfl ?_
          exact .fin () (.of (.cons rfl .nil) .nil)
         intro _
         refine .ret ?_
         have e26 : (false) = (Env.has e s) := by (rw [Env.has_arr (j := i) (by omega) (all_none (j := q) (by omega) c5)])
         have hc27 := eq1 (fun z1 => SV.one (.d (.v (.bool (z1))))) e26
         show _ ∧ _
         exact ⟨.inr rfl, .done ⟨_, [], [], _, .one (c := .d (.v (.bool (Env.has e s)))) (hc27) .nil, .cons (Reads.d _).gives .nil, nodupB_ok rfl, by simp, (by simp)⟩⟩
        ·have c5 := c5
         try simp only [Bool.or_eq_true, Bool.or_eq_false_iff, Bool.and_eq_true, Bool.and_eq_false_iff, decide_eq_true_eq, decide_eq_false_iff_not, Bool.not_eq_true', Bool.not_eq_false', bne_iff_ne, beq_iff_eq, bne_eq_false_iff_eq, beq_eq_false_iff_ne, ne_eq, Bool.not_eq_eq_eq_not, Bool.not_true, Bool.not_false] at c5
         refine .skip ?_
         refine .reg (X := Unit) (fun ζ => .of [(2, .one (.ptr [2] (g7) 0)), (3, .one (.ptr [3] (g8) 0)), (6, .one (.d (.v (.int .i64 ((i : Int)))))), (7, .one (.d (.v (.int .i64 (IntKind.wrap .i64 ((q : Int) + 1))))))] [([2], (g7, g7, .box [.d (.v (.bool (e.live))), .d (.sl false 122 2 (List.map Iv.c (e.ints))), .d (.sl false 122 2 (List.map Iv.c (e.arrs)))])), ([3], (g8, g8, .box [.d (.sl false 2 1 (List.map i64c (s.ints))), .d (.sl false 4 1 (List.map boolc (s.flags))), .d (.sl false 27 1 (List.map slc27 (s.arrs)))]))]) [⟨[7], some 45, [], []⟩, ⟨[45], some 46, [], []⟩, ⟨[46], some 7, [], []⟩] (fun k28 => ?_) ?_
         ·skip
          refine .move (.no rfl) rfl rfl rfl rfl ?_
          refine .bin (.no rfl) rfl rfl rfl rfl rfl rfl ?_
          refine .assign (.no rfl) rfl rfl rfl rfl ?_
          exact .fin () (.of (.cons rfl (.cons rfl (.cons rfl (.cons rfl .nil)))) (.cons rfl (.cons rfl .nil)))
         intro _
         exact .here (q + 1) (.of (.cons rfl (.cons rfl (.cons rfl (.cons (svI (show (IntKind.wrap .i64 ((q : Int) + 1)) = (((q + 1) : Int)) by first | rfl | omega | exact wrap_le (by omega) (by omega) | (rw [wrap_le (by omega) (by omega)]; omega))) .nil)))) (.cons rfl (.cons rfl .nil))) ⟨(show (q + 1) ≤ (s.arrs.getD i default).length ∧ allTo (q + 1) (fun x => Iv.has (e.arrs.getD i default) ((s.arrs.getD i default).getD x default)) = true by exact ⟨by omega, allTo_step hI.2 c5⟩), (show (s.arrs.getD i default).length - (q + 1) < (s.arrs.getD i default).length - q by omega)⟩
       ·have c4 := of_decide_eq_false c4
        refine .exit ?_
        refine .reg (X := Unit) (fun ζ => .of [(2, .one (.ptr [2] (g7) 0)), (3, .one (.ptr [3] (g8) 0)), (6, .one (.d (.v (.int .i64 (IntKind.wrap .i64 ((i : Int) + 1))))))] [([2], (g7, g7, .box [.d (.v (.bool (e.live))), .d (.sl false 122 2 (List.map Iv.c (e.ints))), .d (.sl false 122 2 (List.map Iv.c (e.arrs)))])), ([3], (g8, g8, .box [.d (.sl false 2 1 (List.map i64c (s.ints))), .d (.sl false 4 1 (List.map boolc (s.flags))), .d (.sl false 27 1 (List.map slc27 (s.arrs)))]))]) [⟨[6], some 35, [], []⟩, ⟨[35], some 36, [], []⟩, ⟨[36], some 6, [], []⟩] (fun k29 => ?_) ?_
        ·skip
         refine .move (.no rfl) rfl rfl rfl rfl ?_
         refine .bin (.no rfl) rfl rfl rfl rfl rfl rfl ?_
         refine .assign (.no rfl) rfl rfl rfl rfl ?_
         exact .fin () (.of (.cons rfl (.cons rfl (.cons rfl .nil))) (.cons rfl (.cons rfl .nil)))
        intro _
        exact .here (i + 1) (.of (.cons rfl (.cons rfl (.cons (svI (show (IntKind.wrap .i64 ((i : Int) + 1)) = (((i + 1) : Int)) by first | rfl | omega | exact wrap_le (by omega) (by omega) | (rw [wrap_le (by omega) (by omega)]; omega))) .nil))) (.cons rfl (.cons rfl .nil))) ⟨(show (i + 1) ≤ e.arrs.length ∧ allTo (i + 1) (fun x => (s.arrs.getD x default).all (Iv.has (e.arrs.getD x default))) = true by exact ⟨by omega, allTo_step hI1.2 (all_done (j := q) (by omega) hI.2)⟩), (show e.arrs.length - (i + 1) < e.arrs.length - i by omega)⟩
     ·have c3 := of_decide_eq_false c3
      refine .exit ?_
      refine .seq ?_
      refine .reg (X := Unit) (fun ζ => .of [(4, .one (.d (.v (.bool (true)))))] []) [⟨[], some 4, [], []⟩] (fun k30 => ?_) ?_
      ·skip
       refine .assign (.no rfl) rfl rfl rfl rfl ?_
       exact .fin () (.of (.cons rfl .nil) .nil)
      intro _
      refine .ret ?_
      have e31 : (true) = (Env.has e s) := by (rw [Env.has_done c0 (i := j) (by omega) hI0.2 (j := i) (by omega) hI.2])
      have hc32 := eq1 (fun z1 => SV.one (.d (.v (.bool (z1))))) e31
      show _ ∧ _
      exact ⟨.inr rfl, .done ⟨_, [], [], _, .one (c := .d (.v (.bool (Env.has e s)))) (hc32) .nil, .cons (Reads.d _).gives .nil, nodupB_ok rfl, by simp, (by simp)⟩⟩
end Go.Proofs

namespace Go.Proofs
open Go Go.Proofs Go.Ev

def i124 : TI := ⟨.int .u64, 1, 8, [.int .u64 0]⟩
theorem t124 : TyOk Tryz.prog 124 i124 := ⟨Tryz.underlying124, by kernel_rfl⟩
theorem z124 : ZOk Tryz.prog 124 i124 := ⟨t124, rfl⟩
theorem c_l5One (b : Bool) : Trip Tryz.prog 82 [(false, 1)] ([.v (.bool (b))]) [(false, 1)] [.v (.int .i64 (truthN b))] [] := by
 refine Trip.of Tryz.func82 (by decide) (c := _) rfl rfl (shB_ok rfl) (Nat.le_of_ble_eq_true rfl) rfl (AftOk.nil _) ?_
 refine .seq ?_
 refine .reg (X := Unit) (fun ζ => .of [(0, .one (.d (.v (.bool (b)))))] []) [⟨[], some 2, [], []⟩] (fun k1 => ?_) ?_
 ·skip
  refine .assign (.no rfl) rfl rfl rfl rfl ?_
  exact .fin () (.of (.cons rfl .nil) .nil)
 intro _
 refine .seq ?_
 refine .seq ?_
 refine .reg (X := Unit) (fun ζ => .of [(3, .one (.d (.v (.bool (b)))))] []) [⟨[0], some 3, [], []⟩] (fun k2 => ?_) ?_
 ·skip
  refine .move (.no rfl) rfl rfl rfl rfl ?_
  exact .fin () (.of (.cons rfl .nil) .nil)
 intro _
 refine .cond (t := b) rfl (fun c0 => ?_) (fun c0 => ?_)
 ·have c0 := c0
  refine .seq ?_
  refine .reg (X := Unit) (fun ζ => .of [(2, .one (.d (.v (.int .i64 (1)))))] []) [⟨[], some 2, [], []⟩] (fun k3 => ?_) ?_
  ·skip
   refine .assign (.no rfl) rfl rfl rfl rfl ?_
   exact .fin () (.of (.cons rfl .nil) .nil)
  intro _
  refine .ret ?_
  have e4 : (1) = (truthN b) := by (rw [c0]; rfl)
  have hc5 := eq1 (fun z1 => SV.one (.d (.v (.int .i64 (z1))))) e4
  show _ ∧ _
  exact ⟨.inr rfl, .done ⟨_, [], [], _, .one (c := .d (.v (.int .i64 (truthN b)))) (hc5) .nil, .cons (Reads.d _).gives .nil, nodupB_ok rfl, by simp, (by simp)⟩⟩
 ·have c0 := c0
  refine .skip ?_
  refine .seq ?_
  refine .reg (X := Unit) (fun ζ => .of [(2, .one (.d (.v (.int .i64 (0)))))] []) [⟨[], some 2, [], []⟩] (fun k6 => ?_) ?_
  ·skip
   refine .assign (.no rfl) rfl rfl rfl rfl ?_
   exact .fin () (.of (.cons rfl .nil) .nil)
  intro _
  refine .ret ?_
  have e7 : (0) = (truthN b) := by (rw [c0]; rfl)
  have hc8 := eq1 (fun z1 => SV.one (.d (.v (.int .i64 (z1))))) e7
  show _ ∧ _
  exact ⟨.inr rfl, .done ⟨_, [], [], _, .one (c := .d (.v (.int .i64 (truthN b)))) (hc8) .nil, .cons (Reads.d _).gives .nil, nodupB_ok rfl, by simp, (by simp)⟩⟩
theorem c_truth (b : Bool) : Trip Tryz.prog 87 [(false, 1)] ([.v (.bool (b))]) [(false, 1)] [.v (.int .i64 (truthN b))] [] := by
 refine Trip.of Tryz.func87 (by decide) (c := _) rfl rfl (shB_ok rfl) (Nat.le_of_ble_eq_true rfl) rfl (AftOk.nil _) ?_
 refine .seq ?_
 refine .reg (X := Unit) (fun ζ => .of [(0, .one (.d (.v (.bool (b)))))] []) [⟨[], some 2, [], []⟩] (fun k1 => ?_) ?_
 ·skip
  refine .assign (.no rfl) rfl rfl rfl rfl ?_
  exact .fin () (.of (.cons rfl .nil) .nil)
 intro _
 refine .seq ?_
 refine .seq ?_
 refine .reg (X := Unit) (fun ζ => .of [(3, .one (.d (.v (.bool (b)))))] []) [⟨[0], some 3, [], []⟩] (fun k2 => ?_) ?_
 ·skip
  refine .move (.no rfl) rfl rfl rfl rfl ?_
  exact .fin () (.of (.cons rfl .nil) .nil)
 intro _
 refine .cond (t := b) rfl (fun c0 => ?_) (fun c0 => ?_)
 ·have c0 := c0
  refine .seq ?_
  refine .reg (X := Unit) (fun ζ => .of [(2, .one (.d (.v (.int .i64 (1)))))] []) [⟨[], some 2, [], []⟩] (fun k3 => ?_) ?_
  ·skip
   refine .assign (.no rfl) rfl rfl rfl rfl ?_
   exact .fin () (.of (.cons rfl .nil) .nil)
  intro _
  refine .ret ?_
  have e4 : (1) = (truthN b) := by (rw [c0]; rfl)
  have hc5 := eq1 (fun z1 => SV.one (.d (.v (.int .i64 (z1))))) e4
  show _ ∧ _
  exact ⟨.inr rfl, .done ⟨_, [], [], _, .one (c := .d (.v (.int .i64 (truthN b)))) (hc5) .nil, .cons (Reads.d _).gives .nil, nodupB_ok rfl, by simp, (by simp)⟩⟩
 ·have c0 := c0
  refine .skip ?_
  refine .seq ?_
  refine .reg (X := Unit) (fun ζ => .of [(2, .one (.d (.v (.int .i64 (0)))))] []) [⟨[], some 2, [], []⟩] (fun k6 => ?_) ?_
  ·skip
   refine .assign (.no rfl) rfl rfl rfl rfl ?_
   exact .fin () (.of (.cons rfl .nil) .nil)
  intro _
  refine .ret ?_
  have e7 : (0) = (truthN b) := by (rw [c0]; rfl)
  have hc8 := eq1 (fun z1 => SV.one (.d (.v (.int .i64 (z1))))) e7
  show _ ∧ _
  exact ⟨.inr rfl, .done ⟨_, [], [], _, .one (c := .d (.v (.int .i64 (truthN b)))) (hc8) .nil, .cons (Reads.d _).gives .nil, nodupB_ok rfl, by simp, (by simp)⟩⟩
theorem c_l8Leaf (s : Store) (hl : s.flags.length ≤ 3) : Trip Tryz.prog 42 [(true, 3)] (Store.c42 s) [(false, 1)] [.v (.int .i64 (leafN s.flags))] [] := by
 refine Trip.of Tryz.func42 (by decide) (c := _) rfl rfl (shB_ok rfl) (Nat.le_of_ble_eq_true rfl) rfl (AftOk.nil _) ?_
 refine .satA (t := 0) (i := 0) rfl rfl (fun hs1 => ?_)
 have hs1l : s.ints.length ≤ 9223372036854775807 := hs1.maplen
 refine .satA (t := 0) (i := 1) rfl rfl (fun hs2 => ?_)
 have hs2l : s.flags.length ≤ 9223372036854775807 := hs2.maplen
 refine .satA (t := 0) (i := 2) rfl rfl (fun hs3 => ?_)
 have hs3l : s.arrs.length ≤ 9223372036854775807 := hs3.maplen
 refine .seq ?_
 refine .reg (X := Nat) (fun ζ => .of [(1, .one (.ptr [1] (ζ) 0))] [([1], (ζ, ζ, .box [.d (.sl false 2 1 (List.map i64c (s.ints))), .d (.sl false 4 1 (List.map boolc (s.flags))), .d (.sl false 27 1 (List.map slc27 (s.arrs)))]))]) [⟨[0], some 1, [], [[1]]⟩, ⟨[], some 2, [], []⟩] (fun k4 => ?_) ?_
 ·skip
  refine .box (.no rfl) rfl rfl rfl rfl rfl ?_
  refine .assign (.no rfl) rfl rfl rfl rfl ?_
  exact .fin k4 (.of (.cons rfl .nil) (.cons rfl .nil))
 intro g5
 refine .seq ?_
 refine .reg (X := Unit) (fun ζ => .of [(1, .one (.ptr [1] (g5) 0)), (3, .one (.d (.v (.int .i64 (0)))))] [([1], (g5, g5, .box [.d (.sl false 2 1 (List.map i64c (s.ints))), .d (.sl false 4 1 (List.map boolc (s.flags))), .d (.sl false 27 1 (List.map slc27 (s.arrs)))]))]) [⟨[], some 3, [], []⟩] (fun k6 => ?_) ?_
 ·skip
  refine .assign (.no rfl) rfl rfl rfl rfl ?_
  exact .fin () (.of (.cons rfl (.cons rfl .nil)) (.cons rfl .nil))
 intro _
 refine .seq ?_
 refine .seq ?_
 refine .reg (X := Unit) (fun ζ => .of [(1, .one (.ptr [1] (g5) 0)), (3, .one (.d (.v (.int .i64 (0))))), (4, .one (.d (.v (.int .i64 (0)))))] [([1], (g5, g5, .box [.d (.sl false 2 1 (List.map i64c (s.ints))), .d (.sl false 4 1 (List.map boolc (s.flags))), .d (.sl false 27 1 (List.map slc27 (s.arrs)))]))]) [⟨[], some 4, [], []⟩] (fun k7 => ?_) ?_
 ·skip
  refine .assign (.no rfl) rfl rfl rfl rfl ?_
  exact .fin () (.of (.cons rfl (.cons rfl (.cons rfl .nil))) (.cons rfl .nil))
 intro _
 refine .block ?_
 refine .loop (X := Nat) (fun ζ => .of [(1, .one (.ptr [1] (g5) 0)), (3, .one (.d (.v (.int .i64 (leafTo s.flags ζ))))), (4, .one (.d (.v (.int .i64 ((ζ : Int))))))] [([1], (g5, g5, .box [.d (.sl false 2 1 (List.map i64c (s.ints))), .d (.sl false 4 1 (List.map boolc (s.flags))), .d (.sl false 27 1 (List.map slc27 (s.arrs)))]))]) (fun ζ => ζ ≤ s.flags.length) (fun ζ => s.flags.length - ζ) ?_ ?_
 ·skip
  exact .here 0 (.of (.cons rfl (.cons (svI (show (0) = (leafTo s.flags 0) by first | rfl | omega | exact leaf_add (by omega) | exact leaf_or (by omega) | exact wrap_le (by omega) (by omega) | (rw [wrap_le (by omega) (by omega)]; omega))) (.cons (svI (show (0) = ((0 : Int)) by first | rfl | omega | exact leaf_add (by omega) | exact leaf_or (by omega) | exact wrap_le (by omega) (by omega) | (rw [wrap_le (by omega) (by omega)]; omega))) .nil))) (.cons rfl .nil)) (show 0 ≤ s.flags.length by omega)
 ·rintro j hI
  have hI : j ≤ s.flags.length := hI
  refine .seq ?_
  refine .seq ?_
  refine .reg (X := Unit) (fun ζ => .of [(1, .one (.ptr [1] (g5) 0)), (3, .one (.d (.v (.int .i64 (leafTo s.flags j))))), (4, .one (.d (.v (.int .i64 ((j : Int)))))), (9, .one (.d (.v (.bool (decide ((j : Int) < (s.flags.length : Int)))))))] [([1], (g5, g5, .box [.d (.sl false 2 1 (List.map i64c (s.ints))), .d (.sl false 4 1 (List.map boolc (s.flags))), .d (.sl false 27 1 (List.map slc27 (s.arrs)))]))]) [⟨[4], some 5, [], []⟩, ⟨[1], some 6, [], []⟩, ⟨[6], some 7, [[1]], []⟩, ⟨[7], some 8, [], []⟩, ⟨[5, 8], some 9, [], []⟩] (fun k8 => ?_) ?_
  ·skip
   refine .move (.no rfl) rfl rfl rfl rfl ?_
   refine .fieldAddrP (.no rfl) rfl t42 rfl rfl t28 rfl rfl rfl rfl ?_
   refine .load (.no rfl) rfl t28 rfl rfl (.ptr _ _ _ _ _ rfl) rfl rfl rfl rfl ?_
   refine .len (.no rfl) rfl (z := (s.flags.length : Int)) t28 rfl rfl rfl (.d _ _) (map_len _ _) rfl ?_
   refine .bin (.no rfl) rfl rfl rfl rfl rfl rfl ?_
   exact .fin () (.of (.cons rfl (.cons rfl (.cons rfl (.cons rfl .nil)))) (.cons rfl .nil))
  intro _
  refine .cond (t := decide ((j : Int) < (s.flags.length : Int))) rfl (fun c0 => ?_) (fun c0 => ?_)
  ·have c0 := of_decide_eq_true c0
   refine .skip ?_
   refine .seq ?_
   refine .block ?_
   refine .reg (X := Unit) (fun ζ => .of [(1, .one (.ptr [1] (g5) 0)), (3, .one (.d (.v (.int .i64 (IntKind.wrap .i64 ((leafTo s.flags j) + (IntKind.wrap .i64 ((truthN (s.flags.getD j default)) * 2 ^ (min ((j : Int)).toNat (IntKind.bits .i64)))))))))), (4, .one (.d (.v (.int .i64 ((j : Int))))))] [([1], (g5, g5, .box [.d (.sl false 2 1 (List.map i64c (s.ints))), .d (.sl false 4 1 (List.map boolc (s.flags))), .d (.sl false 27 1 (List.map slc27 (s.arrs)))]))]) [⟨[3], some 12, [], []⟩, ⟨[1], some 13, [], []⟩, ⟨[13], some 14, [[1]], []⟩, ⟨[4], some 15, [], []⟩, ⟨[14, 15], some 16, [], []⟩, ⟨[16], some 17, [], []⟩, ⟨[17], some 18, [], []⟩, ⟨[4], some 19, [], []⟩, ⟨[19], some 20, [], []⟩, ⟨[18, 20], some 21, [], []⟩, ⟨[12, 21], some 22, [], []⟩, ⟨[22], some 3, [], []⟩] (fun k9 => ?_) ?_
   ·skip
    refine .move (.no rfl) rfl rfl rfl rfl ?_
    refine .fieldAddrP (.no rfl) rfl t42 rfl rfl t28 rfl rfl rfl rfl ?_
    refine .load (.no rfl) rfl t28 rfl rfl (.ptr _ _ _ _ _ rfl) rfl rfl rfl rfl ?_
    refine .move (.no rfl) rfl rfl rfl rfl ?_
    refine .indexAddr (.no rfl) rfl (j) t28 rfl t4 rfl rfl rfl (.d _ _) rfl rfl rfl (map_get (by omega)) rfl rfl ?_
    refine .load (.no rfl) rfl t4 rfl rfl (.d _) rfl rfl rfl rfl ?_
    refine .call (.no rfl) rfl [] [] (c_l5One (s.flags.getD j default)) rfl rfl rfl rfl rfl (.cons (Reads.d _).gives .nil) rfl rfl (fun h => absurd rfl h) (.own [18, 0] .nil) (.nil) rfl rfl rfl (by simp) rfl rfl rfl ?_
    refine .move (.no rfl) rfl rfl rfl rfl ?_
    refine .conv (.no rfl) rfl t3 t124 rfl rfl rfl rfl (wrap_u64 (by omega) (by omega)) rfl ?_
    refine .shl (.no rfl) rfl rfl rfl rfl (by omega) rfl rfl ?_
    refine .bin (.no rfl) rfl rfl rfl rfl rfl rfl ?_
    refine .assign (.no rfl) rfl rfl rfl rfl ?_
    exact .fin () (.of (.cons rfl (.cons rfl (.cons rfl .nil))) (.cons rfl .nil))
   intro _
   refine .reg (X := Unit) (fun ζ => .of [(1, .one (.ptr [1] (g5) 0)), (3, .one (.d (.v (.int .i64 (IntKind.wrap .i64 ((leafTo s.flags j) + (IntKind.wrap .i64 ((truthN (s.flags.getD j default)) * 2 ^ (min ((j : Int)).toNat (IntKind.bits .i64)))))))))), (4, .one (.d (.v (.int .i64 (IntKind.wrap .i64 ((j : Int) + 1))))))] [([1], (g5, g5, .box [.d (.sl false 2 1 (List.map i64c (s.ints))), .d (.sl false 4 1 (List.map boolc (s.flags))), .d (.sl false 27 1 (List.map slc27 (s.arrs)))]))]) [⟨[4], some 10, [], []⟩, ⟨[10], some 11, [], []⟩, ⟨[11], some 4, [], []⟩] (fun k10 => ?_) ?_
   ·skip
    refine .move (.no rfl) rfl rfl rfl rfl ?_
    refine .bin (.no rfl) rfl rfl rfl rfl rfl rfl ?_
    refine .assign (.no rfl) rfl rfl rfl rfl ?_
    exact .fin () (.of (.cons rfl (.cons rfl (.cons rfl .nil))) (.cons rfl .nil))
   intro _
   exact .here (j + 1) (.of (.cons rfl (.cons (svI (show (IntKind.wrap .i64 ((leafTo s.flags j) + (IntKind.wrap .i64 ((truthN (s.flags.getD j default)) * 2 ^ (min ((j : Int)).toNat (IntKind.bits .i64)))))) = (leafTo s.flags (j + 1)) by first | rfl | omega | exact leaf_add (by omega) | exact leaf_or (by omega) | exact wrap_le (by omega) (by omega) | (rw [wrap_le (by omega) (by omega)]; omega))) (.cons (svI (show (IntKind.wrap .i64 ((j : Int) + 1)) = (((j + 1) : Int)) by first | rfl | omega | exact leaf_add (by omega) | exact leaf_or (by omega) | exact wrap_le (by omega) (by omega) | (rw [wrap_le (by omega) (by omega)]; omega))) .nil))) (.cons rfl .nil)) ⟨(show (j + 1) ≤ s.flags.length by omega), (show s.flags.length - (j + 1) < s.flags.length - j by omega)⟩
  ·have c0 := of_decide_eq_false c0
   refine .exit ?_
   refine .seq ?_
   refine .reg (X := Unit) (fun ζ => .of [(2, .one (.d (.v (.int .i64 (leafTo s.flags j)))))] []) [⟨[3], some 23, [], []⟩, ⟨[23], some 2, [], []⟩] (fun k11 => ?_) ?_
   ·skip
    refine .move (.no rfl) rfl rfl rfl rfl ?_
    refine .assign (.no rfl) rfl rfl rfl rfl ?_
    exact .fin () (.of (.cons rfl .nil) .nil)
   intro _
   refine .ret ?_
   have e12 : (leafTo s.flags j) = (leafN s.flags) := by exact leafN_len (by omega) hI
   have hc13 := eq1 (fun z1 => SV.one (.d (.v (.int .i64 (z1))))) e12
   show _ ∧ _
   exact ⟨.inr rfl, .done ⟨_, [], [], _, .one (c := .d (.v (.int .i64 (leafN s.flags)))) (hc13) .nil, .cons (Reads.d _).gives .nil, nodupB_ok rfl, by simp, (by simp)⟩⟩
theorem c_leafOf (l : List Bool) (hl : l.length ≤ 3) : Trip Tryz.prog 50 [(false, 1)] ([.sl false 4 1 (List.map boolc (l))]) [(false, 1)] [.v (.int .i64 (leafN l))] [] := by
 refine Trip.of Tryz.func50 (by decide) (c := _) rfl rfl (shB_ok rfl) (Nat.le_of_ble_eq_true rfl) rfl (AftOk.nil _) ?_
 refine .sat (t := 0) rfl (fun hs1 => ?_)
 have hs1l : l.length ≤ 9223372036854775807 := hs1.maplen
 refine .seq ?_
 refine .reg (X := Unit) (fun ζ => .of [(0, .one (.d (.sl false 4 1 (List.map boolc (l)))))] []) [⟨[], some 2, [], []⟩] (fun k2 => ?_) ?_
 ·skip
  refine .assign (.no rfl) rfl rfl rfl rfl ?_
  exact .fin () (.of (.cons rfl .nil) .nil)
 intro _
 refine .seq ?_
 refine .reg (X := Unit) (fun ζ => .of [(0, .one (.d (.sl false 4 1 (List.map boolc (l))))), (3, .one (.d (.v (.int .i64 (0)))))] []) [⟨[], some 3, [], []⟩] (fun k3 => ?_) ?_
 ·skip
  refine .assign (.no rfl) rfl rfl rfl rfl ?_
  exact .fin () (.of (.cons rfl (.cons rfl .nil)) .nil)
 intro _
 refine .seq ?_
 refine .seq ?_
 refine .reg (X := Unit) (fun ζ => .of [(3, .one (.d (.v (.int .i64 (0))))), (6, .one (.d (.sl false 4 1 (List.map boolc (l))))), (7, .one (.d (.v (.int .i64 ((l.length : Int)))))), (8, .one (.d (.v (.int .i64 (0)))))] []) [⟨[0], some 6, [], []⟩, ⟨[6], some 7, [], []⟩, ⟨[], some 8, [], []⟩] (fun k4 => ?_) ?_
 ·skip
  refine .move (.no rfl) rfl rfl rfl rfl ?_
  refine .len (.no rfl) rfl (z := (l.length : Int)) t28 rfl rfl rfl (.d _ _) (map_len _ _) rfl ?_
  refine .move (.no rfl) rfl rfl rfl rfl ?_
  exact .fin () (.of (.cons rfl (.cons rfl (.cons rfl (.cons rfl .nil)))) .nil)
 intro _
 refine .block ?_
 refine .loop (X := Nat) (fun ζ => .of [(3, .one (.d (.v (.int .i64 (leafTo l ζ))))), (6, .one (.d (.sl false 4 1 (List.map boolc (l))))), (7, .one (.d (.v (.int .i64 ((l.length : Int)))))), (8, .one (.d (.v (.int .i64 ((ζ : Int))))))] []) (fun ζ => ζ ≤ l.length) (fun ζ => l.length - ζ) ?_ ?_
 ·skip
  exact .here 0 (.of (.cons (svI (show (0) = (leafTo l 0) by first | rfl | omega | exact leaf_add (by omega) | exact leaf_or (by omega) | exact wrap_le (by omega) (by omega) | (rw [wrap_le (by omega) (by omega)]; omega))) (.cons rfl (.cons rfl (.cons (svI (show (0) = ((0 : Int)) by first | rfl | omega | exact leaf_add (by omega) | exact leaf_or (by omega) | exact wrap_le (by omega) (by omega) | (rw [wrap_le (by omega) (by omega)]; omega))) .nil)))) .nil) (show 0 ≤ l.length by omega)
 ·rintro j hI
  have hI : j ≤ l.length := hI
  refine .seq ?_
  refine .reg (X := Unit) (fun ζ => .of [(3, .one (.d (.v (.int .i64 (leafTo l j))))), (6, .one (.d (.sl false 4 1 (List.map boolc (l))))), (7, .one (.d (.v (.int .i64 ((l.length : Int)))))), (8, .one (.d (.v (.int .i64 ((j : Int)))))), (9, .one (.d (.v (.bool (decide ((j : Int) < (l.length : Int)))))))] []) [⟨[8, 7], some 9, [], []⟩] (fun k5 => ?_) ?_
  ·skip
   refine .bin (.no rfl) rfl rfl rfl rfl rfl rfl ?_
   exact .fin () (.of (.cons rfl (.cons rfl (.cons rfl (.cons rfl (.cons rfl .nil))))) .nil)
  intro _
  refine .seq ?_
  refine .cond (t := decide ((j : Int) < (l.length : Int))) rfl (fun c0 => ?_) (fun c0 => ?_)
  ·have c0 := of_decide_eq_true c0
   refine .skip ?_
   refine .seq ?_
   refine .block ?_
   refine .seq ?_
   refine .reg (X := Unit) (fun ζ => .of [(3, .one (.d (.v (.int .i64 (leafTo l j))))), (4, .one (.d (.v (.int .i64 ((j : Int)))))), (5, .one (.d (.v (.bool (l.getD j default))))), (6, .one (.d (.sl false 4 1 (List.map boolc (l))))), (7, .one (.d (.v (.int .i64 ((l.length : Int)))))), (8, .one (.d (.v (.int .i64 ((j : Int))))))] []) [⟨[8], some 10, [], []⟩, ⟨[6, 8], some 11, [], []⟩, ⟨[11], some 12, [], []⟩, ⟨[10], some 4, [], []⟩, ⟨[12], some 5, [], []⟩] (fun k6 => ?_) ?_
   ·skip
    refine .move (.no rfl) rfl rfl rfl rfl ?_
    refine .indexAddr (.no rfl) rfl (j) t28 rfl t4 rfl rfl rfl (.d _ _) rfl rfl rfl (map_get (by omega)) rfl rfl ?_
    refine .load (.no rfl) rfl t4 rfl rfl (.d _) rfl rfl rfl rfl ?_
    refine .assign (.no rfl) rfl rfl rfl rfl ?_
    refine .assign (.no rfl) rfl rfl rfl rfl ?_
    exact .fin () (.of (.cons rfl (.cons rfl (.cons rfl (.cons rfl (.cons rfl (.cons rfl .nil)))))) .nil)
   intro _
   refine .reg (X := Unit) (fun ζ => .of [(3, .one (.d (.v (.int .i64 (IntKind.wrap .i64 ((BitVec.ofInt (IntKind.bits .i64) (leafTo l j) ||| BitVec.ofInt (IntKind.bits .i64) (IntKind.wrap .i64 ((truthN (l.getD j default)) * 2 ^ (min ((j : Int)).toNat (IntKind.bits .i64))))).toNat : Int)))))), (6, .one (.d (.sl false 4 1 (List.map boolc (l))))), (7, .one (.d (.v (.int .i64 ((l.length : Int)))))), (8, .one (.d (.v (.int .i64 ((j : Int))))))] []) [⟨[3], some 13, [], []⟩, ⟨[5], some 14, [], []⟩, ⟨[14], some 15, [], []⟩, ⟨[4], some 16, [], []⟩, ⟨[15, 16], some 17, [], []⟩, ⟨[13, 17], some 18, [], []⟩, ⟨[18], some 3, [], []⟩] (fun k7 => ?_) ?_
   ·skip
    refine .move (.no rfl) rfl rfl rfl rfl ?_
    refine .move (.no rfl) rfl rfl rfl rfl ?_
    refine .call (.no rfl) rfl [] [] (c_truth (l.getD j default)) rfl rfl rfl rfl rfl (.cons (Reads.d _).gives .nil) rfl rfl (fun h => absurd rfl h) (.own [15, 0] .nil) (.nil) rfl rfl rfl (by simp) rfl rfl rfl ?_
    refine .move (.no rfl) rfl rfl rfl rfl ?_
    refine .shl (.no rfl) rfl rfl rfl rfl (by omega) rfl rfl ?_
    refine .bin (.no rfl) rfl rfl rfl rfl rfl rfl ?_
    refine .assign (.no rfl) rfl rfl rfl rfl ?_
    exact .fin () (.of (.cons rfl (.cons rfl (.cons rfl (.cons rfl .nil)))) .nil)
   intro _
   refine .reg (X := Unit) (fun ζ => .of [(3, .one (.d (.v (.int .i64 (IntKind.wrap .i64 ((BitVec.ofInt (IntKind.bits .i64) (leafTo l j) ||| BitVec.ofInt (IntKind.bits .i64) (IntKind.wrap .i64 ((truthN (l.getD j default)) * 2 ^ (min ((j : Int)).toNat (IntKind.bits .i64))))).toNat : Int)))))), (6, .one (.d (.sl false 4 1 (List.map boolc (l))))), (7, .one (.d (.v (.int .i64 ((l.length : Int)))))), (8, .one (.d (.v (.int .i64 (IntKind.wrap .i64 ((j : Int) + 1))))))] []) [⟨[8], some 19, [], []⟩, ⟨[19], some 8, [], []⟩] (fun k8 => ?_) ?_
   ·skip
    refine .bin (.no rfl) rfl rfl rfl rfl rfl rfl ?_
    refine .move (.no rfl) rfl rfl rfl rfl ?_
    exact .fin () (.of (.cons rfl (.cons rfl (.cons rfl (.cons rfl .nil)))) .nil)
   intro _
   exact .here (j + 1) (.of (.cons (svI (show (IntKind.wrap .i64 ((BitVec.ofInt (IntKind.bits .i64) (leafTo l j) ||| BitVec.ofInt (IntKind.bits .i64) (IntKind.wrap .i64 ((truthN (l.getD j default)) * 2 ^ (min ((j : Int)).toNat (IntKind.bits .i64))))).toNat : Int)) = (leafTo l (j + 1)) by first | rfl | omega | exact leaf_add (by omega) | exact leaf_or (by omega) | exact wrap_le (by omega) (by omega) | (rw [wrap_le (by omega) (by omega)]; omega))) (.cons rfl (.cons rfl (.cons (svI (show (IntKind.wrap .i64 ((j : Int) + 1)) = (((j + 1) : Int)) by first | rfl | omega | exact leaf_add (by omega) | exact leaf_or (by omega) | exact wrap_le (by omega) (by omega) | (rw [wrap_le (by omega) (by omega)]; omega))) .nil)))) .nil) ⟨(show (j + 1) ≤ l.length by omega), (show l.length - (j + 1) < l.length - j by omega)⟩
  ·have c0 := of_decide_eq_false c0
   refine .exit ?_
   refine .seq ?_
   refine .reg (X := Unit) (fun ζ => .of [(2, .one (.d (.v (.int .i64 (leafTo l j)))))] []) [⟨[3], some 20, [], []⟩, ⟨[20], some 2, [], []⟩] (fun k9 => ?_) ?_
   ·skip
    refine .move (.no rfl) rfl rfl rfl rfl ?_
    refine .assign (.no rfl) rfl rfl rfl rfl ?_
    exact .fin () (.of (.cons rfl .nil) .nil)
   intro _
   refine .ret ?_
   have e10 : (leafTo l j) = (leafN l) := by exact leafN_len (by omega) hI
   have hc11 := eq1 (fun z1 => SV.one (.d (.v (.int .i64 (z1))))) e10
   show _ ∧ _
   exact ⟨.inr rfl, .done ⟨_, [], [], _, .one (c := .d (.v (.int .i64 (leafN l)))) (hc11) .nil, .cons (Reads.d _).gives .nil, nodupB_ok rfl, by simp, (by simp)⟩⟩
end Go.Proofs

namespace Go.Proofs
open Go Go.Proofs Go.Ev

def Store.c31 (x : Store) : List D := [.sl false 2 1 (List.map i64c (x.ints)), .sl false 4 1 (List.map boolc (x.flags)), .sl false 27 1 (List.map slc27 (x.arrs))]
theorem Store.c31_e (x : Store) : (Store.c31 x).map D.erase = Store.c31 x := by simp [Store.c31, D.erase_v, erase_slo _ _ _ _ _ _ i64c_e, erase_slo _ _ _ _ _ _ boolc_e, erase_slo _ _ _ _ _ _ slc27_e]
def Store.co31 (x : Store) : List D := [.sl true 2 1 (List.map i64c (x.ints)), .sl true 4 1 (List.map boolc (x.flags)), .sl true 27 1 (List.map slco27 (x.arrs))]
theorem Store.co31_e (x : Store) : (Store.co31 x).map D.erase = Store.c31 x := by simp [Store.co31, Store.c31, D.erase_v, erase_slo _ _ _ _ _ _ i64c_e, erase_slo _ _ _ _ _ _ boolc_e, erase_slo _ _ _ _ _ _ slco27_e]
theorem Store.co31_o (x : Store) : ∀ d ∈ Store.co31 x, Owned d := by simp [Store.co31, Owned.v, Owned.map _ _ _ _ i64c_o, Owned.map _ _ _ _ boolc_o, Owned.map _ _ _ _ slco27_o]
def i26 : TI := ⟨.sl 69, 1, 24, [.slice none 0 0]⟩
theorem t26 : TyOk Tryz.prog 26 i26 := ⟨Tryz.underlying26, by kernel_rfl⟩
theorem z26 : ZOk Tryz.prog 26 i26 := ⟨t26, rfl⟩
def i31 : TI := ⟨.st [(0, 27), (1, 28), (2, 29)], 3, 72, [.slice none 0 0, .slice none 0 0, .slice none 0 0]⟩
theorem t31 : TyOk Tryz.prog 31 i31 := ⟨⟨_, Tryz.underlying31, rfl⟩, by kernel_rfl⟩
theorem z31 : ZOk Tryz.prog 31 i31 := ⟨t31, rfl⟩
theorem p31 : Places Tryz.prog [(0, 27), (1, 28), (2, 29)] [(0, 1), (1, 1), (2, 1)] := by unfold Places; kernel_rfl
theorem c_szInt64S (a : List Int) (left : Int) (hl : 0 ≤ left ∧ left ≤ 1048576) : Trip Tryz.prog 36 [(false, 1), (false, 1)] ([.sl false 2 1 (List.map i64c (a))] ++ [.v (.int .i64 (left))]) [(false, 1)] [.v (.int .i64 (szPl a left))] [] := by
 refine Trip.of Tryz.func36 (by decide) (c := _) rfl rfl (shB_ok rfl) (Nat.le_of_ble_eq_true rfl) rfl (AftOk.nil _) ?_
 refine .sat (t := 0) rfl (fun hs1 => ?_)
 have hs1l : a.length ≤ 9223372036854775807 := hs1.maplen
 refine .seq ?_
 refine .reg (X := Unit) (fun ζ => .of [(0, .one (.d (.sl false 2 1 (List.map i64c (a))))), (1, .one (.d (.v (.int .i64 (left)))))] []) [⟨[], some 4, [], []⟩] (fun k2 => ?_) ?_
 ·skip
  refine .assign (.no rfl) rfl rfl rfl rfl ?_
  exact .fin () (.of (.cons rfl (.cons rfl .nil)) .nil)
 intro _
 refine .seq ?_
 refine .reg (X := Unit) (fun ζ => .of [(1, .one (.d (.v (.int .i64 (IntKind.wrap .i64 (left - (a.length : Int)))))))] []) [⟨[1], some 5, [], []⟩, ⟨[0], some 6, [], []⟩, ⟨[6], some 7, [], []⟩, ⟨[5, 7], some 8, [], []⟩, ⟨[8], some 1, [], []⟩] (fun k3 => ?_) ?_
 ·skip
  refine .move (.no rfl) rfl rfl rfl rfl ?_
  refine .move (.no rfl) rfl rfl rfl rfl ?_
  refine .len (.no rfl) rfl (z := (a.length : Int)) t27 rfl rfl rfl (.d _ _) (map_len _ _) rfl ?_
  refine .bin (.no rfl) rfl rfl rfl rfl rfl rfl ?_
  refine .assign (.no rfl) rfl rfl rfl rfl ?_
  exact .fin () (.of (.cons rfl .nil) .nil)
 intro _
 refine .seq ?_
 refine .seq ?_
 refine .reg (X := Unit) (fun ζ => .of [(1, .one (.d (.v (.int .i64 (IntKind.wrap .i64 (left - (a.length : Int))))))), (10, .one (.d (.v (.bool (decide ((IntKind.wrap .i64 (left - (a.length : Int))) < 0))))))] []) [⟨[1], some 9, [], []⟩, ⟨[9], some 10, [], []⟩] (fun k4 => ?_) ?_
 ·skip
  refine .move (.no rfl) rfl rfl rfl rfl ?_
  refine .bin (.no rfl) rfl rfl rfl rfl rfl rfl ?_
  exact .fin () (.of (.cons rfl (.cons rfl .nil)) .nil)
 intro _
 refine .cond (t := decide ((IntKind.wrap .i64 (left - (a.length : Int))) < 0)) rfl (fun c0 => ?_) (fun c0 => ?_)
 ·have c0 := of_decide_eq_true c0
  refine .seq ?_
  refine .reg (X := Unit) (fun ζ => .of [(4, .one (.d (.v (.int .i64 (-1)))))] []) [⟨[], some 4, [], []⟩] (fun k5 => ?_) ?_
  ·skip
   refine .assign (.no rfl) rfl rfl rfl rfl ?_
   exact .fin () (.of (.cons rfl .nil) .nil)
  intro _
  refine .ret ?_
  have e6 : (-1) = (szPl a left) := by (rw [wrap_le (by omega) (by omega)] at c0; simp only [szPl]; rw [if_pos c0])
  have hc7 := eq1 (fun z1 => SV.one (.d (.v (.int .i64 (z1))))) e6
  show _ ∧ _
  exact ⟨.inr rfl, .done ⟨_, [], [], _, .one (c := .d (.v (.int .i64 (szPl a left)))) (hc7) .nil, .cons (Reads.d _).gives .nil, nodupB_ok rfl, by simp, (by simp)⟩⟩
 ·have c0 := of_decide_eq_false c0
  refine .skip ?_
  refine .seq ?_
  refine .reg (X := Unit) (fun ζ => .of [(4, .one (.d (.v (.int .i64 (IntKind.wrap .i64 (left - (a.length : Int)))))))] []) [⟨[1], some 11, [], []⟩, ⟨[11], some 4, [], []⟩] (fun k8 => ?_) ?_
  ·skip
   refine .move (.no rfl) rfl rfl rfl rfl ?_
   refine .assign (.no rfl) rfl rfl rfl rfl ?_
   exact .fin () (.of (.cons rfl .nil) .nil)
  intro _
  refine .ret ?_
  have e9 : (IntKind.wrap .i64 (left - (a.length : Int))) = (szPl a left) := by (rw [wrap_le (by omega) (by omega)] at c0 ⊢; simp only [szPl]; rw [if_neg c0])
  have hc10 := eq1 (fun z1 => SV.one (.d (.v (.int .i64 (z1))))) e9
  show _ ∧ _
  exact ⟨.inr rfl, .done ⟨_, [], [], _, .one (c := .d (.v (.int .i64 (szPl a left)))) (hc10) .nil, .cons (Reads.d _).gives .nil, nodupB_ok rfl, by simp, (by simp)⟩⟩
theorem c_szBoolS (a : List Bool) (left : Int) (hl : 0 ≤ left ∧ left ≤ 1048576) : Trip Tryz.prog 37 [(false, 1), (false, 1)] ([.sl false 4 1 (List.map boolc (a))] ++ [.v (.int .i64 (left))]) [(false, 1)] [.v (.int .i64 (szPl a left))] [] := by
 refine Trip.of Tryz.func37 (by decide) (c := _) rfl rfl (shB_ok rfl) (Nat.le_of_ble_eq_true rfl) rfl (AftOk.nil _) ?_
 refine .sat (t := 0) rfl (fun hs1 => ?_)
 have hs1l : a.length ≤ 9223372036854775807 := hs1.maplen
 refine .seq ?_
 refine .reg (X := Unit) (fun ζ => .of [(0, .one (.d (.sl false 4 1 (List.map boolc (a))))), (1, .one (.d (.v (.int .i64 (left)))))] []) [⟨[], some 4, [], []⟩] (fun k2 => ?_) ?_
 ·skip
  refine .assign (.no rfl) rfl rfl rfl rfl ?_
  exact .fin () (.of (.cons rfl (.cons rfl .nil)) .nil)
 intro _
 refine .seq ?_
 refine .reg (X := Unit) (fun ζ => .of [(1, .one (.d (.v (.int .i64 (IntKind.wrap .i64 (left - (a.length : Int)))))))] []) [⟨[1], some 5, [], []⟩, ⟨[0], some 6, [], []⟩, ⟨[6], some 7, [], []⟩, ⟨[5, 7], some 8, [], []⟩, ⟨[8], some 1, [], []⟩] (fun k3 => ?_) ?_
 ·skip
  refine .move (.no rfl) rfl rfl rfl rfl ?_
  refine .move (.no rfl) rfl rfl rfl rfl ?_
  refine .len (.no rfl) rfl (z := (a.length : Int)) t28 rfl rfl rfl (.d _ _) (map_len _ _) rfl ?_
  refine .bin (.no rfl) rfl rfl rfl rfl rfl rfl ?_
  refine .assign (.no rfl) rfl rfl rfl rfl ?_
  exact .fin () (.of (.cons rfl .nil) .nil)
 intro _
 refine .seq ?_
 refine .seq ?_
 refine .reg (X := Unit) (fun ζ => .of [(1, .one (.d (.v (.int .i64 (IntKind.wrap .i64 (left - (a.length : Int))))))), (10, .one (.d (.v (.bool (decide ((IntKind.wrap .i64 (left - (a.length : Int))) < 0))))))] []) [⟨[1], some 9, [], []⟩, ⟨[9], some 10, [], []⟩] (fun k4 => ?_) ?_
 ·skip
  refine .move (.no rfl) rfl rfl rfl rfl ?_
  refine .bin (.no rfl) rfl rfl rfl rfl rfl rfl ?_
  exact .fin () (.of (.cons rfl (.cons rfl .nil)) .nil)
 intro _
 refine .cond (t := decide ((IntKind.wrap .i64 (left - (a.length : Int))) < 0)) rfl (fun c0 => ?_) (fun c0 => ?_)
 ·have c0 := of_decide_eq_true c0
  refine .seq ?_
  refine .reg (X := Unit) (fun ζ => .of [(4, .one (.d (.v (.int .i64 (-1)))))] []) [⟨[], some 4, [], []⟩] (fun k5 => ?_) ?_
  ·skip
   refine .assign (.no rfl) rfl rfl rfl rfl ?_
   exact .fin () (.of (.cons rfl .nil) .nil)
  intro _
  refine .ret ?_
  have e6 : (-1) = (szPl a left) := by (rw [wrap_le (by omega) (by omega)] at c0; simp only [szPl]; rw [if_pos c0])
  have hc7 := eq1 (fun z1 => SV.one (.d (.v (.int .i64 (z1))))) e6
  show _ ∧ _
  exact ⟨.inr rfl, .done ⟨_, [], [], _, .one (c := .d (.v (.int .i64 (szPl a left)))) (hc7) .nil, .cons (Reads.d _).gives .nil, nodupB_ok rfl, by simp, (by simp)⟩⟩
 ·have c0 := of_decide_eq_false c0
  refine .skip ?_
  refine .seq ?_
  refine .reg (X := Unit) (fun ζ => .of [(4, .one (.d (.v (.int .i64 (IntKind.wrap .i64 (left - (a.length : Int)))))))] []) [⟨[1], some 11, [], []⟩, ⟨[11], some 4, [], []⟩] (fun k8 => ?_) ?_
  ·skip
   refine .move (.no rfl) rfl rfl rfl rfl ?_
   refine .assign (.no rfl) rfl rfl rfl rfl ?_
   exact .fin () (.of (.cons rfl .nil) .nil)
  intro _
  refine .ret ?_
  have e9 : (IntKind.wrap .i64 (left - (a.length : Int))) = (szPl a left) := by (rw [wrap_le (by omega) (by omega)] at c0 ⊢; simp only [szPl]; rw [if_neg c0])
  have hc10 := eq1 (fun z1 => SV.one (.d (.v (.int .i64 (z1))))) e9
  show _ ∧ _
  exact ⟨.inr rfl, .done ⟨_, [], [], _, .one (c := .d (.v (.int .i64 (szPl a left)))) (hc10) .nil, .cons (Reads.d _).gives .nil, nodupB_ok rfl, by simp, (by simp)⟩⟩
theorem c_szEnvS (a : List Env) (left : Int) (hl : 0 ≤ left ∧ left ≤ 1048576) : Trip Tryz.prog 8 [(false, 1), (false, 1)] ([.sl false 69 3 (List.map Env.c69 (a))] ++ [.v (.int .i64 (left))]) [(false, 1)] [.v (.int .i64 (szEnvS a left))] [] := by
 refine Trip.of Tryz.func8 (by decide) (c := _) rfl rfl (shB_ok rfl) (Nat.le_of_ble_eq_true rfl) rfl (AftOk.nil _) ?_
 refine .sat (t := 0) rfl (fun hs1 => ?_)
 have hs1l : a.length ≤ 9223372036854775807 := hs1.maplen
 refine .seq ?_
 refine .reg (X := Unit) (fun ζ => .of [(0, .one (.d (.sl false 69 3 (List.map Env.c69 (a))))), (1, .one (.d (.v (.int .i64 (left)))))] []) [⟨[], some 4, [], []⟩] (fun k2 => ?_) ?_
 ·skip
  refine .assign (.no rfl) rfl rfl rfl rfl ?_
  exact .fin () (.of (.cons rfl (.cons rfl .nil)) .nil)
 intro _
 refine .seq ?_
 refine .reg (X := Unit) (fun ζ => .of [(0, .one (.d (.sl false 69 3 (List.map Env.c69 (a))))), (1, .one (.d (.v (.int .i64 (IntKind.wrap .i64 (left - (a.length : Int)))))))] []) [⟨[1], some 6, [], []⟩, ⟨[0], some 7, [], []⟩, ⟨[7], some 8, [], []⟩, ⟨[6, 8], some 9, [], []⟩, ⟨[9], some 1, [], []⟩] (fun k3 => ?_) ?_
 ·skip
  refine .move (.no rfl) rfl rfl rfl rfl ?_
  refine .move (.no rfl) rfl rfl rfl rfl ?_
  refine .len (.no rfl) rfl (z := (a.length : Int)) t26 rfl rfl rfl (.d _ _) (map_len _ _) rfl ?_
  refine .bin (.no rfl) rfl rfl rfl rfl rfl rfl ?_
  refine .assign (.no rfl) rfl rfl rfl rfl ?_
  exact .fin () (.of (.cons rfl (.cons rfl .nil)) .nil)
 intro _
 refine .seq ?_
 refine .seq ?_
 refine .reg (X := Unit) (fun ζ => .of [(0, .one (.d (.sl false 69 3 (List.map Env.c69 (a))))), (1, .one (.d (.v (.int .i64 (IntKind.wrap .i64 (left - (a.length : Int))))))), (11, .one (.d (.v (.bool (decide ((IntKind.wrap .i64 (left - (a.length : Int))) < 0))))))] []) [⟨[1], some 10, [], []⟩, ⟨[10], some 11, [], []⟩] (fun k4 => ?_) ?_
 ·skip
  refine .move (.no rfl) rfl rfl rfl rfl ?_
  refine .bin (.no rfl) rfl rfl rfl rfl rfl rfl ?_
  exact .fin () (.of (.cons rfl (.cons rfl (.cons rfl .nil))) .nil)
 intro _
 refine .cond (t := decide ((IntKind.wrap .i64 (left - (a.length : Int))) < 0)) rfl (fun c0 => ?_) (fun c0 => ?_)
 ·have c0 := of_decide_eq_true c0
  refine .seq ?_
  refine .reg (X := Unit) (fun ζ => .of [(4, .one (.d (.v (.int .i64 (-1)))))] []) [⟨[], some 4, [], []⟩] (fun k5 => ?_) ?_
  ·skip
   refine .assign (.no rfl) rfl rfl rfl rfl ?_
   exact .fin () (.of (.cons rfl .nil) .nil)
  intro _
  refine .ret ?_
  have e6 : (-1) = (szEnvS a left) := by (rw [wrap_le (by omega) (by omega)] at c0; simp only [szEnvS]; rw [if_pos c0])
  have hc7 := eq1 (fun z1 => SV.one (.d (.v (.int .i64 (z1))))) e6
  show _ ∧ _
  exact ⟨.inr rfl, .done ⟨_, [], [], _, .one (c := .d (.v (.int .i64 (szEnvS a left)))) (hc7) .nil, .cons (Reads.d _).gives .nil, nodupB_ok rfl, by simp, (by simp)⟩⟩
 ·have c0 := of_decide_eq_false c0
  refine .skip ?_
  refine .seq ?_
  refine .seq ?_
  refine .reg (X := Unit) (fun ζ => .of [(0, .one (.d (.sl false 69 3 (List.map Env.c69 (a))))), (1, .one (.d (.v (.int .i64 (IntKind.wrap .i64 (left - (a.length : Int))))))), (5, .one (.d (.v (.int .i64 (0)))))] []) [⟨[], some 5, [], []⟩] (fun k8 => ?_) ?_
  ·skip
   refine .assign (.no rfl) rfl rfl rfl rfl ?_
   exact .fin () (.of (.cons rfl (.cons rfl (.cons rfl .nil))) .nil)
  intro _
  refine .block ?_
  refine .loop (X := Nat × Int) (fun ζ => .of [(0, .one (.d (.sl false 69 3 (List.map Env.c69 (a))))), (1, .one (.d (.v (.int .i64 (ζ.2))))), (5, .one (.d (.v (.int .i64 ((ζ.1 : Int))))))] []) (fun ζ => ζ.1 ≤ a.length ∧ 0 ≤ ζ.2 ∧ ζ.2 ≤ 1048576 ∧ ¬ left - a.length < 0 ∧ szF szEnv ζ.2 (a.drop ζ.1) = szF szEnv (left - a.length) a) (fun ζ => a.length - ζ.1) ?_ ?_
  ·skip
   exact .here (0, (left - a.length)) (.of (.cons rfl (.cons (svI (show (IntKind.wrap .i64 (left - (a.length : Int))) = ((left - a.length)) by first | rfl | omega | exact wrap_le (by omega) (by omega) | (rw [wrap_le (by omega) (by omega)]; omega))) (.cons (svI (show (0) = ((0 : Int)) by first | rfl | omega | exact wrap_le (by omega) (by omega) | (rw [wrap_le (by omega) (by omega)]; omega))) .nil))) .nil) (show 0 ≤ a.length ∧ 0 ≤ (left - a.length) ∧ (left - a.length) ≤ 1048576 ∧ ¬ left - a.length < 0 ∧ szF szEnv (left - a.length) (a.drop 0) = szF szEnv (left - a.length) a by (rw [wrap_le (by omega) (by omega)] at c0; exact ⟨by omega, by omega, by omega, c0, by simp⟩))
  ·rintro ⟨j, v⟩ hI
   have hI : j ≤ a.length ∧ 0 ≤ v ∧ v ≤ 1048576 ∧ ¬ left - a.length < 0 ∧ szF szEnv v (a.drop j) = szF szEnv (left - a.length) a := hI
   refine .seq ?_
   refine .seq ?_
   refine .reg (X := Unit) (fun ζ => .of [(0, .one (.d (.sl false 69 3 (List.map Env.c69 (a))))), (1, .one (.d (.v (.int .i64 (v))))), (5, .one (.d (.v (.int .i64 ((j : Int)))))), (15, .one (.d (.v (.bool (decide ((j : Int) < (a.length : Int)))))))] []) [⟨[5], some 12, [], []⟩, ⟨[0], some 13, [], []⟩, ⟨[13], some 14, [], []⟩, ⟨[12, 14], some 15, [], []⟩] (fun k9 => ?_) ?_
   ·skip
    refine .move (.no rfl) rfl rfl rfl rfl ?_
    refine .move (.no rfl) rfl rfl rfl rfl ?_
    refine .len (.no rfl) rfl (z := (a.length : Int)) t26 rfl rfl rfl (.d _ _) (map_len _ _) rfl ?_
    refine .bin (.no rfl) rfl rfl rfl rfl rfl rfl ?_
    exact .fin () (.of (.cons rfl (.cons rfl (.cons rfl (.cons rfl .nil)))) .nil)
   intro _
   refine .cond (t := decide ((j : Int) < (a.length : Int))) rfl (fun c1 => ?_) (fun c1 => ?_)
   ·have c1 := of_decide_eq_true c1
    refine .skip ?_
    refine .seq ?_
    refine .block ?_
    refine .seq ?_
    refine .reg (X := Unit) (fun ζ => .of [(0, .one (.d (.sl false 69 3 (List.map Env.c69 (a))))), (1, .one (.d (.v (.int .i64 (szEnv (a.getD j default) v))))), (5, .one (.d (.v (.int .i64 ((j : Int))))))] []) [⟨[0], some 18, [], []⟩, ⟨[5], some 19, [], []⟩, ⟨[18, 19], some 20, [], []⟩, ⟨[20], some 21, [], []⟩, ⟨[1], some 22, [], []⟩, ⟨[21, 22], some 23, [], []⟩, ⟨[23], some 1, [], []⟩] (fun k10 => ?_) ?_
    ·skip
     refine .move (.no rfl) rfl rfl rfl rfl ?_
     refine .move (.no rfl) rfl rfl rfl rfl ?_
     refine .indexAddr (.no rfl) rfl (j) t26 rfl t69 rfl rfl rfl (.d _ _) rfl rfl rfl (map_get (by omega)) rfl rfl ?_
     refine .load (.no rfl) rfl t69 rfl rfl (.d _) rfl rfl rfl rfl ?_
     refine .move (.no rfl) rfl rfl rfl rfl ?_
     refine .call (.no rfl) rfl [] [] (c_szEnv (a.getD j default) v (by omega)) rfl rfl rfl rfl rfl (.cons (Reads.d _).gives (.cons (Reads.d _).gives (.cons (Reads.d _).gives (.cons (Reads.d _).gives .nil)))) rfl rfl (fun h => absurd rfl h) (.own [23, 0] .nil) (.nil) rfl rfl rfl (by simp) rfl rfl rfl ?_
     refine .assign (.no rfl) rfl rfl rfl rfl ?_
     exact .fin () (.of (.cons rfl (.cons rfl (.cons rfl .nil))) .nil)
    intro _
    refine .seq ?_
    refine .reg (X := Unit) (fun ζ => .of [(0, .one (.d (.sl false 69 3 (List.map Env.c69 (a))))), (1, .one (.d (.v (.int .i64 (szEnv (a.getD j default) v))))), (5, .one (.d (.v (.int .i64 ((j : Int)))))), (25, .one (.d (.v (.bool (decide ((szEnv (a.getD j default) v) < 0))))))] []) [⟨[1], some 24, [], []⟩, ⟨[24], some 25, [], []⟩] (fun k11 => ?_) ?_
    ·skip
     refine .move (.no rfl) rfl rfl rfl rfl ?_
     refine .bin (.no rfl) rfl rfl rfl rfl rfl rfl ?_
     exact .fin () (.of (.cons rfl (.cons rfl (.cons rfl (.cons rfl .nil)))) .nil)
    intro _
    refine .cond (t := decide ((szEnv (a.getD j default) v) < 0)) rfl (fun c2 => ?_) (fun c2 => ?_)
    ·have c2 := of_decide_eq_true c2
     refine .seq ?_
     refine .reg (X := Unit) (fun ζ => .of [(4, .one (.d (.v (.int .i64 (-1)))))] []) [⟨[], some 4, [], []⟩] (fun k12 => ?_) ?_
     ·skip
      refine .assign (.no rfl) rfl rfl rfl rfl ?_
      exact .fin () (.of (.cons rfl .nil) .nil)
     intro _
     refine .ret ?_
     have e13 : (-1) = (szEnvS a left) := by (simp only [szEnvS]; rw [if_neg hI.2.2.2.1, ← hI.2.2.2.2, szF_fail (by omega) c2])
     have hc14 := eq1 (fun z1 => SV.one (.d (.v (.int .i64 (z1))))) e13
     show _ ∧ _
     exact ⟨.inr rfl, .done ⟨_, [], [], _, .one (c := .d (.v (.int .i64 (szEnvS a left)))) (hc14) .nil, .cons (Reads.d _).gives .nil, nodupB_ok rfl, by simp, (by simp)⟩⟩
    ·have c2 := of_decide_eq_false c2
     refine .skip ?_
     refine .reg (X := Unit) (fun ζ => .of [(0, .one (.d (.sl false 69 3 (List.map Env.c69 (a))))), (1, .one (.d (.v (.int .i64 (szEnv (a.getD j default) v))))), (5, .one (.d (.v (.int .i64 (IntKind.wrap .i64 ((j : Int) + 1))))))] []) [⟨[5], some 16, [], []⟩, ⟨[16], some 17, [], []⟩, ⟨[17], some 5, [], []⟩] (fun k15 => ?_) ?_
     ·skip
      refine .move (.no rfl) rfl rfl rfl rfl ?_
      refine .bin (.no rfl) rfl rfl rfl rfl rfl rfl ?_
      refine .assign (.no rfl) rfl rfl rfl rfl ?_
      exact .fin () (.of (.cons rfl (.cons rfl (.cons rfl .nil))) .nil)
     intro _
     exact .here ((j + 1), (szEnv (a.getD j default) v)) (.of (.cons rfl (.cons (svI (show (szEnv (a.getD j default) v) = ((szEnv (a.getD j default) v)) by first | rfl | omega | exact wrap_le (by omega) (by omega) | (rw [wrap_le (by omega) (by omega)]; omega))) (.cons (svI (show (IntKind.wrap .i64 ((j : Int) + 1)) = (((j + 1) : Int)) by first | rfl | omega | exact wrap_le (by omega) (by omega) | (rw [wrap_le (by omega) (by omega)]; omega))) .nil))) .nil) ⟨(show (j + 1) ≤ a.length ∧ 0 ≤ (szEnv (a.getD j default) v) ∧ (szEnv (a.getD j default) v) ≤ 1048576 ∧ ¬ left - a.length < 0 ∧ szF szEnv (szEnv (a.getD j default) v) (a.drop (j + 1)) = szF szEnv (left - a.length) a by (have hx := szEnv_len ⟨hI.2.1, hI.2.2.1⟩ c2; exact ⟨by omega, by omega, by omega, hI.2.2.2.1, by rw [← hI.2.2.2.2]; exact (szF_step (by omega) c2).symm⟩)), (show a.length - (j + 1) < a.length - j by omega)⟩
   ·have c1 := of_decide_eq_false c1
    refine .exit ?_
    refine .seq ?_
    refine .reg (X := Unit) (fun ζ => .of [(4, .one (.d (.v (.int .i64 (v)))))] []) [⟨[1], some 26, [], []⟩, ⟨[26], some 4, [], []⟩] (fun k16 => ?_) ?_
    ·skip
     refine .move (.no rfl) rfl rfl rfl rfl ?_
     refine .assign (.no rfl) rfl rfl rfl rfl ?_
     exact .fin () (.of (.cons rfl .nil) .nil)
    intro _
    refine .ret ?_
    have e17 : (v) = (szEnvS a left) := by (simp only [szEnvS]; rw [if_neg hI.2.2.2.1, ← hI.2.2.2.2, szF_end (by omega)])
    have hc18 := eq1 (fun z1 => SV.one (.d (.v (.int .i64 (z1))))) e17
    show _ ∧ _
    exact ⟨.inr rfl, .done ⟨_, [], [], _, .one (c := .d (.v (.int .i64 (szEnvS a left)))) (hc18) .nil, .cons (Reads.d _).gives .nil, nodupB_ok rfl, by simp, (by simp)⟩⟩
theorem c_szInt64SS (a : List (List Int)) (left : Int) (hl : 0 ≤ left ∧ left ≤ 1048576) : Trip Tryz.prog 38 [(false, 1), (false, 1)] ([.sl false 27 1 (List.map slc27 (a))] ++ [.v (.int .i64 (left))]) [(false, 1)] [.v (.int .i64 (szSS a left))] [] := by
 refine Trip.of Tryz.func38 (by decide) (c := _) rfl rfl (shB_ok rfl) (Nat.le_of_ble_eq_true rfl) rfl (AftOk.nil _) ?_
 refine .sat (t := 0) rfl (fun hs1 => ?_)
 have hs1l : a.length ≤ 9223372036854775807 := hs1.maplen
 refine .seq ?_
 refine .reg (X := Unit) (fun ζ => .of [(0, .one (.d (.sl false 27 1 (List.map slc27 (a))))), (1, .one (.d (.v (.int .i64 (left)))))] []) [⟨[], some 4, [], []⟩] (fun k2 => ?_) ?_
 ·skip
  refine .assign (.no rfl) rfl rfl rfl rfl ?_
  exact .fin () (.of (.cons rfl (.cons rfl .nil)) .nil)
 intro _
 refine .seq ?_
 refine .reg (X := Unit) (fun ζ => .of [(0, .one (.d (.sl false 27 1 (List.map slc27 (a))))), (1, .one (.d (.v (.int .i64 (IntKind.wrap .i64 (left - (a.length : Int)))))))] []) [⟨[1], some 6, [], []⟩, ⟨[0], some 7, [], []⟩, ⟨[7], some 8, [], []⟩, ⟨[6, 8], some 9, [], []⟩, ⟨[9], some 1, [], []⟩] (fun k3 => ?_) ?_
 ·skip
  refine .move (.no rfl) rfl rfl rfl rfl ?_
  refine .move (.no rfl) rfl rfl rfl rfl ?_
  refine .len (.no rfl) rfl (z := (a.length : Int)) t29 rfl rfl rfl (.d _ _) (map_len _ _) rfl ?_
  refine .bin (.no rfl) rfl rfl rfl rfl rfl rfl ?_
  refine .assign (.no rfl) rfl rfl rfl rfl ?_
  exact .fin () (.of (.cons rfl (.cons rfl .nil)) .nil)
 intro _
 refine .seq ?_
 refine .seq ?_
 refine .reg (X := Unit) (fun ζ => .of [(0, .one (.d (.sl false 27 1 (List.map slc27 (a))))), (1, .one (.d (.v (.int .i64 (IntKind.wrap .i64 (left - (a.length : Int))))))), (11, .one (.d (.v (.bool (decide ((IntKind.wrap .i64 (left - (a.length : Int))) < 0))))))] []) [⟨[1], some 10, [], []⟩, ⟨[10], some 11, [], []⟩] (fun k4 => ?_) ?_
 ·skip
  refine .move (.no rfl) rfl rfl rfl rfl ?_
  refine .bin (.no rfl) rfl rfl rfl rfl rfl rfl ?_
  exact .fin () (.of (.cons rfl (.cons rfl (.cons rfl .nil))) .nil)
 intro _
 refine .cond (t := decide ((IntKind.wrap .i64 (left - (a.length : Int))) < 0)) rfl (fun c0 => ?_) (fun c0 => ?_)
 ·have c0 := of_decide_eq_true c0
  refine .seq ?_
  refine .reg (X := Unit) (fun ζ => .of [(4, .one (.d (.v (.int .i64 (-1)))))] []) [⟨[], some 4, [], []⟩] (fun k5 => ?_) ?_
  ·skip
   refine .assign (.no rfl) rfl rfl rfl rfl ?_
   exact .fin () (.of (.cons rfl .nil) .nil)
  intro _
  refine .ret ?_
  have e6 : (-1) = (szSS a left) := by (rw [wrap_le (by omega) (by omega)] at c0; simp only [szSS]; rw [if_pos c0])
  have hc7 := eq1 (fun z1 => SV.one (.d (.v (.int .i64 (z1))))) e6
  show _ ∧ _
  exact ⟨.inr rfl, .done ⟨_, [], [], _, .one (c := .d (.v (.int .i64 (szSS a left)))) (hc7) .nil, .cons (Reads.d _).gives .nil, nodupB_ok rfl, by simp, (by simp)⟩⟩
 ·have c0 := of_decide_eq_false c0
  refine .skip ?_
  refine .seq ?_
  refine .seq ?_
  refine .reg (X := Unit) (fun ζ => .of [(0, .one (.d (.sl false 27 1 (List.map slc27 (a))))), (1, .one (.d (.v (.int .i64 (IntKind.wrap .i64 (left - (a.length : Int))))))), (5, .one (.d (.v (.int .i64 (0)))))] []) [⟨[], some 5, [], []⟩] (fun k8 => ?_) ?_
  ·skip
   refine .assign (.no rfl) rfl rfl rfl rfl ?_
   exact .fin () (.of (.cons rfl (.cons rfl (.cons rfl .nil))) .nil)
  intro _
  refine .block ?_
  refine .loop (X := Nat × Int) (fun ζ => .of [(0, .one (.d (.sl false 27 1 (List.map slc27 (a))))), (1, .one (.d (.v (.int .i64 (ζ.2))))), (5, .one (.d (.v (.int .i64 ((ζ.1 : Int))))))] []) (fun ζ => ζ.1 ≤ a.length ∧ 0 ≤ ζ.2 ∧ ζ.2 ≤ 1048576 ∧ ¬ left - a.length < 0 ∧ szF szPl ζ.2 (a.drop ζ.1) = szF szPl (left - a.length) a) (fun ζ => a.length - ζ.1) ?_ ?_
  ·skip
   exact .here (0, (left - a.length)) (.of (.cons rfl (.cons (svI (show (IntKind.wrap .i64 (left - (a.length : Int))) = ((left - a.length)) by first | rfl | omega | exact wrap_le (by omega) (by omega) | (rw [wrap_le (by omega) (by omega)]; omega))) (.cons (svI (show (0) = ((0 : Int)) by first | rfl | omega | exact wrap_le (by omega) (by omega) | (rw [wrap_le (by omega) (by omega)]; omega))) .nil))) .nil) (show 0 ≤ a.length ∧ 0 ≤ (left - a.length) ∧ (left - a.length) ≤ 1048576 ∧ ¬ left - a.length < 0 ∧ szF szPl (left - a.length) (a.drop 0) = szF szPl (left - a.length) a by (rw [wrap_le (by omega) (by omega)] at c0; exact ⟨by omega, by omega, by omega, c0, by simp⟩))
  ·rintro ⟨j, v⟩ hI
   have hI : j ≤ a.length ∧ 0 ≤ v ∧ v ≤ 1048576 ∧ ¬ left - a.length < 0 ∧ szF szPl v (a.drop j) = szF szPl (left - a.length) a := hI
   refine .seq ?_
   refine .seq ?_
   refine .reg (X := Unit) (fun ζ => .of [(0, .one (.d (.sl false 27 1 (List.map slc27 (a))))), (1, .one (.d (.v (.int .i64 (v))))), (5, .one (.d (.v (.int .i64 ((j : Int)))))), (15, .one (.d (.v (.bool (decide ((j : Int) < (a.length : Int)))))))] []) [⟨[5], some 12, [], []⟩, ⟨[0], some 13, [], []⟩, ⟨[13], some 14, [], []⟩, ⟨[12, 14], some 15, [], []⟩] (fun k9 => ?_) ?_
   ·skip
    refine .move (.no rfl) rfl rfl rfl rfl ?_
    refine .move (.no rfl) rfl rfl rfl rfl ?_
    refine .len (.no rfl) rfl (z := (a.length : Int)) t29 rfl rfl rfl (.d _ _) (map_len _ _) rfl ?_
    refine .bin (.no rfl) rfl rfl rfl rfl rfl rfl ?_
    exact .fin () (.of (.cons rfl (.cons rfl (.cons rfl (.cons rfl .nil)))) .nil)
   intro _
   refine .cond (t := decide ((j : Int) < (a.length : Int))) rfl (fun c1 => ?_) (fun c1 => ?_)
   ·have c1 := of_decide_eq_true c1
    refine .skip ?_
    refine .seq ?_
    refine .block ?_
    refine .seq ?_
    refine .reg (X := Unit) (fun ζ => .of [(0, .one (.d (.sl false 27 1 (List.map slc27 (a))))), (1, .one (.d (.v (.int .i64 (szPl (a.getD j default) v))))), (5, .one (.d (.v (.int .i64 ((j : Int))))))] []) [⟨[0], some 18, [], []⟩, ⟨[5], some 19, [], []⟩, ⟨[18, 19], some 20, [], []⟩, ⟨[20], some 21, [], []⟩, ⟨[1], some 22, [], []⟩, ⟨[21, 22], some 23, [], []⟩, ⟨[23], some 1, [], []⟩] (fun k10 => ?_) ?_
    ·skip
     refine .move (.no rfl) rfl rfl rfl rfl ?_
     refine .move (.no rfl) rfl rfl rfl rfl ?_
     refine .indexAddr (.no rfl) rfl (j) t29 rfl t27 rfl rfl rfl (.d _ _) rfl rfl rfl (map_get (by omega)) rfl rfl ?_
     refine .load (.no rfl) rfl t27 rfl rfl (.d _) rfl rfl rfl rfl ?_
     refine .move (.no rfl) rfl rfl rfl rfl ?_
     refine .call (.no rfl) rfl [] [] (c_szInt64S (a.getD j default) v (by omega)) rfl rfl rfl rfl rfl (.cons (Reads.d _).gives (.cons (Reads.d _).gives .nil)) rfl rfl (fun h => absurd rfl h) (.own [23, 0] .nil) (.nil) rfl rfl rfl (by simp) rfl rfl rfl ?_
     refine .assign (.no rfl) rfl rfl rfl rfl ?_
     exact .fin () (.of (.cons rfl (.cons rfl (.cons rfl .nil))) .nil)
    intro _
    refine .seq ?_
    refine .reg (X := Unit) (fun ζ => .of [(0, .one (.d (.sl false 27 1 (List.map slc27 (a))))), (1, .one (.d (.v (.int .i64 (szPl (a.getD j default) v))))), (5, .one (.d (.v (.int .i64 ((j : Int)))))), (25, .one (.d (.v (.bool (decide ((szPl (a.getD j default) v) < 0))))))] []) [⟨[1], some 24, [], []⟩, ⟨[24], some 25, [], []⟩] (fun k11 => ?_) ?_
    ·skip
     refine .move (.no rfl) rfl rfl rfl rfl ?_
     refine .bin (.no rfl) rfl rfl rfl rfl rfl rfl ?_
     exact .fin () (.of (.cons rfl (.cons rfl (.cons rfl (.cons rfl .nil)))) .nil)
    intro _
    refine .cond (t := decide ((szPl (a.getD j default) v) < 0)) rfl (fun c2 => ?_) (fun c2 => ?_)
    ·have c2 := of_decide_eq_true c2
     refine .seq ?_
     refine .reg (X := Unit) (fun ζ => .of [(4, .one (.d (.v (.int .i64 (-1)))))] []) [⟨[], some 4, [], []⟩] (fun k12 => ?_) ?_
     ·skip
      refine .assign (.no rfl) rfl rfl rfl rfl ?_
      exact .fin () (.of (.cons rfl .nil) .nil)
     intro _
     refine .ret ?_
     have e13 : (-1) = (szSS a left) := by (simp only [szSS]; rw [if_neg hI.2.2.2.1, ← hI.2.2.2.2, szF_fail (by omega) c2])
     have hc14 := eq1 (fun z1 => SV.one (.d (.v (.int .i64 (z1))))) e13
     show _ ∧ _
     exact ⟨.inr rfl, .done ⟨_, [], [], _, .one (c := .d (.v (.int .i64 (szSS a left)))) (hc14) .nil, .cons (Reads.d _).gives .nil, nodupB_ok rfl, by simp, (by simp)⟩⟩
    ·have c2 := of_decide_eq_false c2
     refine .skip ?_
     refine .reg (X := Unit) (fun ζ => .of [(0, .one (.d (.sl false 27 1 (List.map slc27 (a))))), (1, .one (.d (.v (.int .i64 (szPl (a.getD j default) v))))), (5, .one (.d (.v (.int .i64 (IntKind.wrap .i64 ((j : Int) + 1))))))] []) [⟨[5], some 16, [], []⟩, ⟨[16], some 17, [], []⟩, ⟨[17], some 5, [], []⟩] (fun k15 => ?_) ?_
     ·skip
      refine .move (.no rfl) rfl rfl rfl rfl ?_
      refine .bin (.no rfl) rfl rfl rfl rfl rfl rfl ?_
      refine .assign (.no rfl) rfl rfl rfl rfl ?_
      exact .fin () (.of (.cons rfl (.cons rfl (.cons rfl .nil))) .nil)
     intro _
     exact .here ((j + 1), (szPl (a.getD j default) v)) (.of (.cons rfl (.cons (svI (show (szPl (a.getD j default) v) = ((szPl (a.getD j default) v)) by first | rfl | omega | exact wrap_le (by omega) (by omega) | (rw [wrap_le (by omega) (by omega)]; omega))) (.cons (svI (show (IntKind.wrap .i64 ((j : Int) + 1)) = (((j + 1) : Int)) by first | rfl | omega | exact wrap_le (by omega) (by omega) | (rw [wrap_le (by omega) (by omega)]; omega))) .nil))) .nil) ⟨(show (j + 1) ≤ a.length ∧ 0 ≤ (szPl (a.getD j default) v) ∧ (szPl (a.getD j default) v) ≤ 1048576 ∧ ¬ left - a.length < 0 ∧ szF szPl (szPl (a.getD j default) v) (a.drop (j + 1)) = szF szPl (left - a.length) a by (have hx := szPl_len c2; exact ⟨by omega, by omega, by omega, hI.2.2.2.1, by rw [← hI.2.2.2.2]; exact (szF_step (by omega) c2).symm⟩)), (show a.length - (j + 1) < a.length - j by omega)⟩
   ·have c1 := of_decide_eq_false c1
    refine .exit ?_
    refine .seq ?_
    refine .reg (X := Unit) (fun ζ => .of [(4, .one (.d (.v (.int .i64 (v)))))] []) [⟨[1], some 26, [], []⟩, ⟨[26], some 4, [], []⟩] (fun k16 => ?_) ?_
    ·skip
     refine .move (.no rfl) rfl rfl rfl rfl ?_
     refine .assign (.no rfl) rfl rfl rfl rfl ?_
     exact .fin () (.of (.cons rfl .nil) .nil)
    intro _
    refine .ret ?_
    have e17 : (v) = (szSS a left) := by (simp only [szSS]; rw [if_neg hI.2.2.2.1, ← hI.2.2.2.2, szF_end (by omega)])
    have hc18 := eq1 (fun z1 => SV.one (.d (.v (.int .i64 (z1))))) e17
    show _ ∧ _
    exact ⟨.inr rfl, .done ⟨_, [], [], _, .one (c := .d (.v (.int .i64 (szSS a left)))) (hc18) .nil, .cons (Reads.d _).gives .nil, nodupB_ok rfl, by simp, (by simp)⟩⟩
theorem c_szStore (a : Store) (left : Int) (hl : 0 ≤ left ∧ left ≤ 1048576) : Trip Tryz.prog 9 [(true, 3), (false, 1)] (Store.c31 a ++ [.v (.int .i64 (left))]) [(false, 1)] [.v (.int .i64 (szStore a left))] [] := by
 refine Trip.of Tryz.func9 (by decide) (c := _) rfl rfl (shB_ok rfl) (Nat.le_of_ble_eq_true rfl) rfl (AftOk.nil _) ?_
 refine .satA (t := 0) (i := 0) rfl rfl (fun hs1 => ?_)
 have hs1l : a.ints.length ≤ 9223372036854775807 := hs1.maplen
 refine .satA (t := 0) (i := 1) rfl rfl (fun hs2 => ?_)
 have hs2l : a.flags.length ≤ 9223372036854775807 := hs2.maplen
 refine .satA (t := 0) (i := 2) rfl rfl (fun hs3 => ?_)
 have hs3l : a.arrs.length ≤ 9223372036854775807 := hs3.maplen
 refine .seq ?_
 refine .reg (X := Nat) (fun ζ => .of [(1, .one (.d (.v (.int .i64 (left))))), (2, .one (.ptr [2] (ζ) 0))] [([2], (ζ, ζ, .box [.d (.sl false 2 1 (List.map i64c (a.ints))), .d (.sl false 4 1 (List.map boolc (a.flags))), .d (.sl false 27 1 (List.map slc27 (a.arrs)))]))]) [⟨[0], some 2, [], [[2]]⟩, ⟨[], some 4, [], []⟩] (fun k4 => ?_) ?_
 ·skip
  refine .box (.no rfl) rfl rfl rfl rfl rfl ?_
  refine .assign (.no rfl) rfl rfl rfl rfl ?_
  exact .fin k4 (.of (.cons rfl (.cons rfl .nil)) (.cons rfl .nil))
 intro g5
 refine .seq ?_
 refine .reg (X := Unit) (fun ζ => .of [(1, .one (.d (.v (.int .i64 (szPl a.ints left))))), (2, .one (.ptr [2] (g5) 0))] [([2], (g5, g5, .box [.d (.sl false 2 1 (List.map i64c (a.ints))), .d (.sl false 4 1 (List.map boolc (a.flags))), .d (.sl false 27 1 (List.map slc27 (a.arrs)))]))]) [⟨[2], some 5, [], []⟩, ⟨[5], some 6, [[2]], []⟩, ⟨[1], some 7, [], []⟩, ⟨[6, 7], some 8, [], []⟩, ⟨[8], some 1, [], []⟩] (fun k6 => ?_) ?_
 ·skip
  refine .fieldAddrP (.no rfl) rfl t31 rfl rfl t27 rfl rfl rfl rfl ?_
  refine .load (.no rfl) rfl t27 rfl rfl (.ptr _ _ _ _ _ rfl) rfl rfl rfl rfl ?_
  refine .move (.no rfl) rfl rfl rfl rfl ?_
  refine .call (.no rfl) rfl [] [] (c_szInt64S a.ints left (by first | assumption | exact ⟨by omega, szPl_le (by omega)⟩ | exact ⟨by omega, szPl_le ⟨by omega, szPl_le (by omega)⟩⟩)) rfl rfl rfl rfl rfl (.cons (Reads.d _).gives (.cons (Reads.d _).gives .nil)) rfl rfl (fun h => absurd rfl h) (.own [8, 0] .nil) (.nil) rfl rfl rfl (by simp) rfl rfl rfl ?_
  refine .assign (.no rfl) rfl rfl rfl rfl ?_
  exact .fin () (.of (.cons rfl (.cons rfl .nil)) (.cons rfl .nil))
 intro _
 refine .seq ?_
 refine .seq ?_
 refine .reg (X := Unit) (fun ζ => .of [(1, .one (.d (.v (.int .i64 (szPl a.ints left))))), (2, .one (.ptr [2] (g5) 0)), (10, .one (.d (.v (.bool (decide ((szPl a.ints left) < 0))))))] [([2], (g5, g5, .box [.d (.sl false 2 1 (List.map i64c (a.ints))), .d (.sl false 4 1 (List.map boolc (a.flags))), .d (.sl false 27 1 (List.map slc27 (a.arrs)))]))]) [⟨[1], some 9, [], []⟩, ⟨[9], some 10, [], []⟩] (fun k7 => ?_) ?_
 ·skip
  refine .move (.no rfl) rfl rfl rfl rfl ?_
  refine .bin (.no rfl) rfl rfl rfl rfl rfl rfl ?_
  exact .fin () (.of (.cons rfl (.cons rfl (.cons rfl .nil))) (.cons rfl .nil))
 intro _
 refine .cond (t := decide ((szPl a.ints left) < 0)) rfl (fun c0 => ?_) (fun c0 => ?_)
 ·have c0 := of_decide_eq_true c0
  refine .seq ?_
  refine .reg (X := Unit) (fun ζ => .of [(4, .one (.d (.v (.int .i64 (-1)))))] []) [⟨[], some 4, [], []⟩] (fun k8 => ?_) ?_
  ·skip
   refine .assign (.no rfl) rfl rfl rfl rfl ?_
   exact .fin () (.of (.cons rfl .nil) .nil)
  intro _
  refine .ret ?_
  have e9 : (-1) = (szStore a left) := by (simp only [szStore]; rw [if_pos c0])
  have hc10 := eq1 (fun z1 => SV.one (.d (.v (.int .i64 (z1))))) e9
  show _ ∧ _
  exact ⟨.inr rfl, .done ⟨_, [], [], _, .one (c := .d (.v (.int .i64 (szStore a left)))) (hc10) .nil, .cons (Reads.d _).gives .nil, nodupB_ok rfl, by simp, (by simp)⟩⟩
 ·have c0 := of_decide_eq_false c0
  refine .skip ?_
  refine .seq ?_
  refine .reg (X := Unit) (fun ζ => .of [(1, .one (.d (.v (.int .i64 (szPl a.flags (szPl a.ints left)))))), (2, .one (.ptr [2] (g5) 0))] [([2], (g5, g5, .box [.d (.sl false 2 1 (List.map i64c (a.ints))), .d (.sl false 4 1 (List.map boolc (a.flags))), .d (.sl false 27 1 (List.map slc27 (a.arrs)))]))]) [⟨[2], some 11, [], []⟩, ⟨[11], some 12, [[2]], []⟩, ⟨[1], some 13, [], []⟩, ⟨[12, 13], some 14, [], []⟩, ⟨[14], some 1, [], []⟩] (fun k11 => ?_) ?_
  ·skip
   refine .fieldAddrP (.no rfl) rfl t31 rfl rfl t28 rfl rfl rfl rfl ?_
   refine .load (.no rfl) rfl t28 rfl rfl (.ptr _ _ _ _ _ rfl) rfl rfl rfl rfl ?_
   refine .move (.no rfl) rfl rfl rfl rfl ?_
   refine .call (.no rfl) rfl [] [] (c_szBoolS a.flags (szPl a.ints left) (by first | assumption | exact ⟨by omega, szPl_le (by omega)⟩ | exact ⟨by omega, szPl_le ⟨by omega, szPl_le (by omega)⟩⟩)) rfl rfl rfl rfl rfl (.cons (Reads.d _).gives (.cons (Reads.d _).gives .nil)) rfl rfl (fun h => absurd rfl h) (.own [14, 0] .nil) (.nil) rfl rfl rfl (by simp) rfl rfl rfl ?_
   refine .assign (.no rfl) rfl rfl rfl rfl ?_
   exact .fin () (.of (.cons rfl (.cons rfl .nil)) (.cons rfl .nil))
  intro _
  refine .seq ?_
  refine .seq ?_
  refine .reg (X := Unit) (fun ζ => .of [(1, .one (.d (.v (.int .i64 (szPl a.flags (szPl a.ints left)))))), (2, .one (.ptr [2] (g5) 0)), (16, .one (.d (.v (.bool (decide ((szPl a.flags (szPl a.ints left)) < 0))))))] [([2], (g5, g5, .box [.d (.sl false 2 1 (List.map i64c (a.ints))), .d (.sl false 4 1 (List.map boolc (a.flags))), .d (.sl false 27 1 (List.map slc27 (a.arrs)))]))]) [⟨[1], some 15, [], []⟩, ⟨[15], some 16, [], []⟩] (fun k12 => ?_) ?_
  ·skip
   refine .move (.no rfl) rfl rfl rfl rfl ?_
   refine .bin (.no rfl) rfl rfl rfl rfl rfl rfl ?_
   exact .fin () (.of (.cons rfl (.cons rfl (.cons rfl .nil))) (.cons rfl .nil))
  intro _
  refine .cond (t := decide ((szPl a.flags (szPl a.ints left)) < 0)) rfl (fun c1 => ?_) (fun c1 => ?_)
  ·have c1 := of_decide_eq_true c1
   refine .seq ?_
   refine .reg (X := Unit) (fun ζ => .of [(4, .one (.d (.v (.int .i64 (-1)))))] []) [⟨[], some 4, [], []⟩] (fun k13 => ?_) ?_
   ·skip
    refine .assign (.no rfl) rfl rfl rfl rfl ?_
    exact .fin () (.of (.cons rfl .nil) .nil)
   intro _
   refine .ret ?_
   have e14 : (-1) = (szStore a left) := by (simp only [szStore]; rw [if_neg c0, if_pos c1])
   have hc15 := eq1 (fun z1 => SV.one (.d (.v (.int .i64 (z1))))) e14
   show _ ∧ _
   exact ⟨.inr rfl, .done ⟨_, [], [], _, .one (c := .d (.v (.int .i64 (szStore a left)))) (hc15) .nil, .cons (Reads.d _).gives .nil, nodupB_ok rfl, by simp, (by simp)⟩⟩
  ·have c1 := of_decide_eq_false c1
   refine .skip ?_
   refine .seq ?_
   refine .reg (X := Unit) (fun ζ => .of [(1, .one (.d (.v (.int .i64 (szSS a.arrs (szPl a.flags (szPl a.ints left)))))))] []) [⟨[2], some 17, [], []⟩, ⟨[17], some 18, [[2]], []⟩, ⟨[1], some 19, [], []⟩, ⟨[18, 19], some 20, [], []⟩, ⟨[20], some 1, [], []⟩] (fun k16 => ?_) ?_
   ·skip
    refine .fieldAddrP (.no rfl) rfl t31 rfl rfl t29 rfl rfl rfl rfl ?_
    refine .load (.no rfl) rfl t29 rfl rfl (.ptr _ _ _ _ _ rfl) rfl rfl rfl rfl ?_
    refine .move (.no rfl) rfl rfl rfl rfl ?_
    refine .call (.no rfl) rfl [] [] (c_szInt64SS a.arrs (szPl a.flags (szPl a.ints left)) (by first | assumption | exact ⟨by omega, szPl_le (by omega)⟩ | exact ⟨by omega, szPl_le ⟨by omega, szPl_le (by omega)⟩⟩)) rfl rfl rfl rfl rfl (.cons (Reads.d _).gives (.cons (Reads.d _).gives .nil)) rfl rfl (fun h => absurd rfl h) (.own [20, 0] .nil) (.nil) rfl rfl rfl (by simp) rfl rfl rfl ?_
    refine .assign (.no rfl) rfl rfl rfl rfl ?_
    exact .fin () (.of (.cons rfl .nil) .nil)
   intro _
   refine .seq ?_
   refine .seq ?_
   refine .reg (X := Unit) (fun ζ => .of [(1, .one (.d (.v (.int .i64 (szSS a.arrs (szPl a.flags (szPl a.ints left))))))), (22, .one (.d (.v (.bool (decide ((szSS a.arrs (szPl a.flags (szPl a.ints left))) < 0))))))] []) [⟨[1], some 21, [], []⟩, ⟨[21], some 22, [], []⟩] (fun k17 => ?_) ?_
   ·skip
    refine .move (.no rfl) rfl rfl rfl rfl ?_
    refine .bin (.no rfl) rfl rfl rfl rfl rfl rfl ?_
    exact .fin () (.of (.cons rfl (.cons rfl .nil)) .nil)
   intro _
   refine .cond (t := decide ((szSS a.arrs (szPl a.flags (szPl a.ints left))) < 0)) rfl (fun c2 => ?_) (fun c2 => ?_)
   ·have c2 := of_decide_eq_true c2
    refine .seq ?_
    refine .reg (X := Unit) (fun ζ => .of [(4, .one (.d (.v (.int .i64 (-1)))))] []) [⟨[], some 4, [], []⟩] (fun k18 => ?_) ?_
    ·skip
     refine .assign (.no rfl) rfl rfl rfl rfl ?_
     exact .fin () (.of (.cons rfl .nil) .nil)
    intro _
    refine .ret ?_
    have e19 : (-1) = (szStore a left) := by (simp only [szStore]; rw [if_neg c0, if_neg c1, if_pos c2])
    have hc20 := eq1 (fun z1 => SV.one (.d (.v (.int .i64 (z1))))) e19
    show _ ∧ _
    exact ⟨.inr rfl, .done ⟨_, [], [], _, .one (c := .d (.v (.int .i64 (szStore a left)))) (hc20) .nil, .cons (Reads.d _).gives .nil, nodupB_ok rfl, by simp, (by simp)⟩⟩
   ·have c2 := of_decide_eq_false c2
    refine .skip ?_
    refine .seq ?_
    refine .reg (X := Unit) (fun ζ => .of [(4, .one (.d (.v (.int .i64 (szSS a.arrs (szPl a.flags (szPl a.ints left)))))))] []) [⟨[1], some 23, [], []⟩, ⟨[23], some 4, [], []⟩] (fun k21 => ?_) ?_
    ·skip
     refine .move (.no rfl) rfl rfl rfl rfl ?_
     refine .assign (.no rfl) rfl rfl rfl rfl ?_
     exact .fin () (.of (.cons rfl .nil) .nil)
    intro _
    refine .ret ?_
    have e22 : (szSS a.arrs (szPl a.flags (szPl a.ints left))) = (szStore a left) := by (simp only [szStore]; rw [if_neg c0, if_neg c1, if_neg c2])
    have hc23 := eq1 (fun z1 => SV.one (.d (.v (.int .i64 (z1))))) e22
    show _ ∧ _
    exact ⟨.inr rfl, .done ⟨_, [], [], _, .one (c := .d (.v (.int .i64 (szStore a left)))) (hc23) .nil, .cons (Reads.d _).gives .nil, nodupB_ok rfl, by simp, (by simp)⟩⟩
end Go.Proofs

namespace Go.Proofs
open Go Go.Proofs Go.Ev

def i40 : TI := ⟨.sl 77, 1, 24, [.slice none 0 0]⟩
theorem t40 : TyOk Tryz.prog 40 i40 := ⟨Tryz.underlying40, by kernel_rfl⟩
theorem z40 : ZOk Tryz.prog 40 i40 := ⟨t40, rfl⟩
theorem c_toEnvS (a : List Env) (hb : a.length ≤ 1048576) (hx : ∀ x ∈ a, x.ints.length ≤ 1048576 ∧ x.arrs.length ≤ 1048576) : Trip Tryz.prog 12 [(false, 1)] ([.sl false 69 3 (List.map Env.c69 (a))]) [(false, 1)] [.sl true 77 3 (List.map Env.co77 (a))] [] := by
 refine Trip.of Tryz.func12 (by decide) (c := _) rfl rfl (shB_ok rfl) (Nat.le_of_ble_eq_true rfl) rfl (AftOk.nil _) ?_
 refine .sat (t := 0) rfl (fun hs1 => ?_)
 have hs1l : a.length ≤ 9223372036854775807 := hs1.maplen
 refine .seq ?_
 refine .reg (X := Unit) (fun ζ => .of [(0, .one (.d (.sl false 69 3 (List.map Env.c69 (a)))))] []) [⟨[], some 2, [], []⟩] (fun k2 => ?_) ?_
 ·skip
  refine .assign (.no rfl) rfl rfl rfl rfl ?_
  exact .fin () (.of (.cons rfl .nil) .nil)
 intro _
 refine .seq ?_
 refine .reg (X := Nat) (fun ζ => .of [(0, .one (.d (.sl false 69 3 (List.map Env.c69 (a))))), (3, .one (.ref [7] (ζ)))] [([7], (ζ, ζ, .row 77 3 (List.replicate a.length [.v (.bool (false)), .v (.slice none 0 0), .v (.slice none 0 0)])))]) [⟨[0], some 5, [], []⟩, ⟨[5], some 6, [], []⟩, ⟨[6, 6], some 7, [], [[7]]⟩, ⟨[7], some 3, [], []⟩] (fun k3 => ?_) ?_
 ·skip
  refine .move (.no rfl) rfl rfl rfl rfl ?_
  refine .len (.no rfl) rfl (z := (a.length : Int)) t26 rfl rfl rfl (.d _ _) (map_len _ _) rfl ?_
  refine .makeSlice (.no rfl) rfl (n0 := a.length) (els := List.replicate a.length [.v (.bool (false)), .v (.slice none 0 0), .v (.slice none 0 0)]) t40 rfl z77 rfl rfl rfl rfl rfl (by (simp [i77]; omega)) (by omega) rfl rfl ?_
  refine .assign (.no rfl) rfl rfl rfl rfl ?_
  exact .fin (k3 + 1 + 1) (.of (.cons rfl (.cons rfl .nil)) (.cons rfl .nil))
 intro g4
 refine .seq ?_
 refine .seq ?_
 refine .reg (X := Unit) (fun ζ => .of [(0, .one (.d (.sl false 69 3 (List.map Env.c69 (a))))), (3, .one (.ref [7] (g4))), (4, .one (.d (.v (.int .i64 (0)))))] [([7], (g4, g4, .row 77 3 (List.replicate a.length [.v (.bool (false)), .v (.slice none 0 0), .v (.slice none 0 0)])))]) [⟨[], some 4, [], []⟩] (fun k5 => ?_) ?_
 ·skip
  refine .assign (.no rfl) rfl rfl rfl rfl ?_
  exact .fin () (.of (.cons rfl (.cons rfl (.cons rfl .nil))) (.cons rfl .nil))
 intro _
 refine .block ?_
 refine .loop (X := Nat × Nat × Nat) (fun ζ => .of [(0, .one (.d (.sl false 69 3 (List.map Env.c69 (a))))), (3, .one (.ref [7] (ζ.2.1))), (4, .one (.d (.v (.int .i64 ((ζ.1 : Int))))))] [([7], (ζ.2.1, ζ.2.2, .row 77 3 (List.map Env.co77 (fillTo a (Env.mk false [] []) ζ.1))))]) (fun ζ => ζ.1 ≤ a.length) (fun ζ => a.length - ζ.1) ?_ ?_
 ·skip
  refine .rowAs [7] (x := [.v (.bool (false)), .v (.slice none 0 0), .v (.slice none 0 0)]) (x' := [.v (.bool (false)), .sl true 122 2 ([]), .sl true 122 2 ([])]) (els' := List.map Env.co77 (List.replicate a.length (Env.mk false [] []))) rfl rfl (.eq _ (.emp _ _ _ (.emp _ _ _ .nil))) (rep_map _ _ _ rfl) fun q8 => ?_
  exact .here (0, g4, q8) (.of (.cons rfl (.cons rfl (.cons (svI (show (0) = ((0 : Int)) by first | rfl | omega | exact wrap_le (by omega) (by omega) | (rw [wrap_le (by omega) (by omega)]; omega))) .nil))) (.cons (rowE (show List.map Env.co77 (List.replicate a.length (Env.mk false [] [])) = List.map Env.co77 (fillTo a (Env.mk false [] []) 0) by first | rfl | (rw [fillTo_zero]) | (rw [fillTo_step _ _ _ (by omega) rfl]))) .nil)) (show 0 ≤ a.length by omega)
 ·rintro ⟨j, q6, q7⟩ hI
  have hI : j ≤ a.length := hI
  refine .seq ?_
  refine .seq ?_
  refine .reg (X := Unit) (fun ζ => .of [(0, .one (.d (.sl false 69 3 (List.map Env.c69 (a))))), (3, .one (.ref [7] (q6))), (4, .one (.d (.v (.int .i64 ((j : Int)))))), (11, .one (.d (.v (.bool (decide ((j : Int) < (a.length : Int)))))))] [([7], (q6, q7, .row 77 3 (List.map Env.co77 (fillTo a (Env.mk false [] []) j))))]) [⟨[4], some 8, [], []⟩, ⟨[0], some 9, [], []⟩, ⟨[9], some 10, [], []⟩, ⟨[8, 10], some 11, [], []⟩] (fun k9 => ?_) ?_
  ·skip
   refine .move (.no rfl) rfl rfl rfl rfl ?_
   refine .move (.no rfl) rfl rfl rfl rfl ?_
   refine .len (.no rfl) rfl (z := (a.length : Int)) t26 rfl rfl rfl (.d _ _) (map_len _ _) rfl ?_
   refine .bin (.no rfl) rfl rfl rfl rfl rfl rfl ?_
   exact .fin () (.of (.cons rfl (.cons rfl (.cons rfl (.cons rfl .nil)))) (.cons rfl .nil))
  intro _
  refine .cond (t := decide ((j : Int) < (a.length : Int))) rfl (fun c0 => ?_) (fun c0 => ?_)
  ·have c0 := of_decide_eq_true c0
   refine .skip ?_
   refine .seq ?_
   refine .block ?_
   refine .reg (X := Nat) (fun ζ => .of [(0, .one (.d (.sl false 69 3 (List.map Env.c69 (a))))), (3, .one (.ref [7] (q6))), (4, .one (.d (.v (.int .i64 ((j : Int))))))] [([7], (q6, ζ, .row 77 3 (List.map Env.co77 ((fillTo a (Env.mk false [] []) j).set j (a.getD j default)))))]) [⟨[3], some 14, [], []⟩, ⟨[4], some 15, [], []⟩, ⟨[0], some 16, [], []⟩, ⟨[4], some 17, [], []⟩, ⟨[16, 17], some 18, [], []⟩, ⟨[18], some 19, [], []⟩, ⟨[19], some 20, [], [[20, 1], [20, 2]]⟩, ⟨[14, 15], some 21, [[7]], []⟩, ⟨[21, 20], none, [[7], [20, 1], [20, 2]], [[20, 1], [20, 2], [7]]⟩] (fun k10 => ?_) ?_
   ·skip
    refine .move (.no rfl) rfl rfl rfl rfl ?_
    refine .move (.no rfl) rfl rfl rfl rfl ?_
    refine .move (.no rfl) rfl rfl rfl rfl ?_
    refine .move (.no rfl) rfl rfl rfl rfl ?_
    refine .indexAddr (.no rfl) rfl (j) t26 rfl t69 rfl rfl rfl (.d _ _) rfl rfl rfl (map_get (by first | omega | (rw [fillTo_len]; omega))) rfl rfl ?_
    refine .load (.no rfl) rfl t69 rfl rfl (.d _) rfl rfl rfl rfl ?_
    refine .call (.no rfl) rfl [] [] (c_toEnv (a.getD j default) (by exact hx _ (getD_mem (by omega)))) rfl rfl rfl rfl rfl (.cons (Reads.d _).gives (.cons (Reads.d _).gives (.cons (Reads.d _).gives .nil))) rfl rfl (fun h => absurd rfl h) (.own [20, 0] (.own [20, 1] (.own [20, 2] .nil))) (.nil) rfl rfl rfl (by simp) rfl rfl rfl ?_
    refine .indexAddr (.no rfl) rfl (j) t40 rfl t77 rfl rfl rfl (.ref _ _ _ _ _ rfl) rfl rfl rfl (map_get (by first | omega | (rw [fillTo_len]; omega))) rfl rfl ?_
    refine .storeE (.no rfl) rfl (els' := List.map Env.co77 ((fillTo a (Env.mk false [] []) j).set j (a.getD j default))) t77 rfl rfl rfl rfl (map_get (by first | omega | (rw [fillTo_len]; omega))) rfl rfl (.cons _ _ _ _ _ _ (.d _) (.cons _ _ _ _ _ _ (.ref _ _ _ _ _ _ rfl) (.cons _ _ _ _ _ _ (.ref _ _ _ _ _ _ rfl) .nil))) rfl (Nat.le_of_ble_eq_true rfl) (set_map _ _ _ (a.getD j default) _ rfl) rfl rfl ?_
    exact .fin (k10 + 1 + 1 + 1 + 1 + 1 + 1 + 1 + 1) (.of (.cons rfl (.cons rfl (.cons rfl .nil))) (.cons rfl .nil))
   intro g11
   refine .reg (X := Unit) (fun ζ => .of [(0, .one (.d (.sl false 69 3 (List.map Env.c69 (a))))), (3, .one (.ref [7] (q6))), (4, .one (.d (.v (.int .i64 (IntKind.wrap .i64 ((j : Int) + 1))))))] [([7], (q6, g11, .row 77 3 (List.map Env.co77 ((fillTo a (Env.mk false [] []) j).set j (a.getD j default)))))]) [⟨[4], some 12, [], []⟩, ⟨[12], some 13, [], []⟩, ⟨[13], some 4, [], []⟩] (fun k12 => ?_) ?_
   ·skip
    refine .move (.no rfl) rfl rfl rfl rfl ?_
    refine .bin (.no rfl) rfl rfl rfl rfl rfl rfl ?_
    refine .assign (.no rfl) rfl rfl rfl rfl ?_
    exact .fin () (.of (.cons rfl (.cons rfl (.cons rfl .nil))) (.cons rfl .nil))
   intro _
   exact .here ((j + 1), q6, g11) (.of (.cons rfl (.cons rfl (.cons (svI (show (IntKind.wrap .i64 ((j : Int) + 1)) = (((j + 1) : Int)) by first | rfl | omega | exact wrap_le (by omega) (by omega) | (rw [wrap_le (by omega) (by omega)]; omega))) .nil))) (.cons (rowE (show List.map Env.co77 ((fillTo a (Env.mk false [] []) j).set j (a.getD j default)) = List.map Env.co77 (fillTo a (Env.mk false [] []) (j + 1)) by first | rfl | (rw [fillTo_zero]) | (rw [fillTo_step _ _ _ (by omega) rfl]))) .nil)) ⟨(show (j + 1) ≤ a.length by omega), (show a.length - (j + 1) < a.length - j by omega)⟩
  ·have c0 := of_decide_eq_false c0
   refine .exit ?_
   refine .seq ?_
   refine .reg (X := Unit) (fun ζ => .of [(2, .one (.ref [7] (q6)))] [([7], (q6, q7, .row 77 3 (List.map Env.co77 (fillTo a (Env.mk false [] []) j))))]) [⟨[3], some 22, [], []⟩, ⟨[22], some 2, [], []⟩] (fun k13 => ?_) ?_
   ·skip
    refine .move (.no rfl) rfl rfl rfl rfl ?_
    refine .assign (.no rfl) rfl rfl rfl rfl ?_
    exact .fin () (.of (.cons rfl .nil) (.cons rfl .nil))
   intro _
   refine .ret ?_
   have e14 : (fillTo a (Env.mk false [] []) j) = (a) := by (exact fillTo_all _ _ (by omega))
   show _ ∧ _
   exact ⟨.inr rfl, .done ⟨_, [], [([7], (q6, q7, .row 77 3 (List.map Env.co77 (a))))], _, .one rfl .nil, .cons (.ref (.head _)) .nil, nodupB_ok rfl, by simp, (AllH.get (.cons (rowE (congrArg (List.map Env.co77) e14)) .nil))⟩⟩
theorem c_toInt64SS (a : List (List Int)) (hb : a.length ≤ 1048576) (hx : ∀ x ∈ a, x.length ≤ 1048576) : Trip Tryz.prog 47 [(false, 1)] ([.sl false 27 1 (List.map slc27 (a))]) [(false, 1)] [.sl true 27 1 (List.map slco27 (a))] [] := by
 refine Trip.of Tryz.func47 (by decide) (c := _) rfl rfl (shB_ok rfl) (Nat.le_of_ble_eq_true rfl) rfl (AftOk.nil _) ?_
 refine .sat (t := 0) rfl (fun hs1 => ?_)
 have hs1l : a.length ≤ 9223372036854775807 := hs1.maplen
 refine .seq ?_
 refine .reg (X := Unit) (fun ζ => .of [(0, .one (.d (.sl false 27 1 (List.map slc27 (a)))))] []) [⟨[], some 2, [], []⟩] (fun k2 => ?_) ?_
 ·skip
  refine .assign (.no rfl) rfl rfl rfl rfl ?_
  exact .fin () (.of (.cons rfl .nil) .nil)
 intro _
 refine .seq ?_
 refine .reg (X := Nat) (fun ζ => .of [(0, .one (.d (.sl false 27 1 (List.map slc27 (a))))), (3, .one (.ref [7] (ζ)))] [([7], (ζ, ζ, .row 27 1 (List.replicate a.length [.v (.slice none 0 0)])))]) [⟨[0], some 5, [], []⟩, ⟨[5], some 6, [], []⟩, ⟨[6, 6], some 7, [], [[7]]⟩, ⟨[7], some 3, [], []⟩] (fun k3 => ?_) ?_
 ·skip
  refine .move (.no rfl) rfl rfl rfl rfl ?_
  refine .len (.no rfl) rfl (z := (a.length : Int)) t29 rfl rfl rfl (.d _ _) (map_len _ _) rfl ?_
  refine .makeSlice (.no rfl) rfl (n0 := a.length) (els := List.replicate a.length [.v (.slice none 0 0)]) t29 rfl z27 rfl rfl rfl rfl rfl (by (simp [i27]; omega)) (by omega) rfl rfl ?_
  refine .assign (.no rfl) rfl rfl rfl rfl ?_
  exact .fin (k3 + 1 + 1) (.of (.cons rfl (.cons rfl .nil)) (.cons rfl .nil))
 intro g4
 refine .seq ?_
 refine .seq ?_
 refine .reg (X := Unit) (fun ζ => .of [(0, .one (.d (.sl false 27 1 (List.map slc27 (a))))), (3, .one (.ref [7] (g4))), (4, .one (.d (.v (.int .i64 (0)))))] [([7], (g4, g4, .row 27 1 (List.replicate a.length [.v (.slice none 0 0)])))]) [⟨[], some 4, [], []⟩] (fun k5 => ?_) ?_
 ·skip
  refine .assign (.no rfl) rfl rfl rfl rfl ?_
  exact .fin () (.of (.cons rfl (.cons rfl (.cons rfl .nil))) (.cons rfl .nil))
 intro _
 refine .block ?_
 refine .loop (X := Nat × Nat × Nat) (fun ζ => .of [(0, .one (.d (.sl false 27 1 (List.map slc27 (a))))), (3, .one (.ref [7] (ζ.2.1))), (4, .one (.d (.v (.int .i64 ((ζ.1 : Int))))))] [([7], (ζ.2.1, ζ.2.2, .row 27 1 (List.map slco27 (fillTo a ([]) ζ.1))))]) (fun ζ => ζ.1 ≤ a.length) (fun ζ => a.length - ζ.1) ?_ ?_
 ·skip
  refine .rowAs [7] (x := [.v (.slice none 0 0)]) (x' := [.sl true 2 1 ([])]) (els' := List.map slco27 (List.replicate a.length [])) rfl rfl (.emp _ _ _ .nil) (rep_map _ _ _ rfl) fun q8 => ?_
  exact .here (0, g4, q8) (.of (.cons rfl (.cons rfl (.cons (svI (show (0) = ((0 : Int)) by first | rfl | omega | exact wrap_le (by omega) (by omega) | (rw [wrap_le (by omega) (by omega)]; omega))) .nil))) (.cons (rowE (show List.map slco27 (List.replicate a.length []) = List.map slco27 (fillTo a ([]) 0) by first | rfl | (rw [fillTo_zero]) | (rw [fillTo_step _ _ _ (by omega) rfl]))) .nil)) (show 0 ≤ a.length by omega)
 ·rintro ⟨j, q6, q7⟩ hI
  have hI : j ≤ a.length := hI
  refine .seq ?_
  refine .seq ?_
  refine .reg (X := Unit) (fun ζ => .of [(0, .one (.d (.sl false 27 1 (List.map slc27 (a))))), (3, .one (.ref [7] (q6))), (4, .one (.d (.v (.int .i64 ((j : Int)))))), (11, .one (.d (.v (.bool (decide ((j : Int) < (a.length : Int)))))))] [([7], (q6, q7, .row 27 1 (List.map slco27 (fillTo a ([]) j))))]) [⟨[4], some 8, [], []⟩, ⟨[0], some 9, [], []⟩, ⟨[9], some 10, [], []⟩, ⟨[8, 10], some 11, [], []⟩] (fun k9 => ?_) ?_
  ·skip
   refine .move (.no rfl) rfl rfl rfl rfl ?_
   refine .move (.no rfl) rfl rfl rfl rfl ?_
   refine .len (.no rfl) rfl (z := (a.length : Int)) t29 rfl rfl rfl (.d _ _) (map_len _ _) rfl ?_
   refine .bin (.no rfl) rfl rfl rfl rfl rfl rfl ?_
   exact .fin () (.of (.cons rfl (.cons rfl (.cons rfl (.cons rfl .nil)))) (.cons rfl .nil))
  intro _
  refine .cond (t := decide ((j : Int) < (a.length : Int))) rfl (fun c0 => ?_) (fun c0 => ?_)
  ·have c0 := of_decide_eq_true c0
   refine .skip ?_
   refine .seq ?_
   refine .block ?_
   refine .reg (X := Nat) (fun ζ => .of [(0, .one (.d (.sl false 27 1 (List.map slc27 (a))))), (3, .one (.ref [7] (q6))), (4, .one (.d (.v (.int .i64 ((j : Int))))))] [([7], (q6, ζ, .row 27 1 (List.map slco27 ((fillTo a ([]) j).set j (a.getD j default)))))]) [⟨[3], some 14, [], []⟩, ⟨[4], some 15, [], []⟩, ⟨[0], some 16, [], []⟩, ⟨[4], some 17, [], []⟩, ⟨[16, 17], some 18, [], []⟩, ⟨[18], some 19, [], []⟩, ⟨[19], some 20, [], [[20, 0]]⟩, ⟨[14, 15], some 21, [[7]], []⟩, ⟨[21, 20], none, [[7], [20, 0]], [[20, 0], [7]]⟩] (fun k10 => ?_) ?_
   ·skip
    refine .move (.no rfl) rfl rfl rfl rfl ?_
    refine .move (.no rfl) rfl rfl rfl rfl ?_
    refine .move (.no rfl) rfl rfl rfl rfl ?_
    refine .move (.no rfl) rfl rfl rfl rfl ?_
    refine .indexAddr (.no rfl) rfl (j) t29 rfl t27 rfl rfl rfl (.d _ _) rfl rfl rfl (map_get (by first | omega | (rw [fillTo_len]; omega))) rfl rfl ?_
    refine .load (.no rfl) rfl t27 rfl rfl (.d _) rfl rfl rfl rfl ?_
    refine .call (.no rfl) rfl [] [] (c_toInt64S (a.getD j default) (by exact hx _ (getD_mem (by omega)))) rfl rfl rfl rfl rfl (.cons (Reads.d _).gives .nil) rfl rfl (fun h => absurd rfl h) (.own [20, 0] .nil) (.nil) rfl rfl rfl (by simp) rfl rfl rfl ?_
    refine .indexAddr (.no rfl) rfl (j) t29 rfl t27 rfl rfl rfl (.ref _ _ _ _ _ rfl) rfl rfl rfl (map_get (by first | omega | (rw [fillTo_len]; omega))) rfl rfl ?_
    refine .storeE (.no rfl) rfl (els' := List.map slco27 ((fillTo a ([]) j).set j (a.getD j default))) t27 rfl rfl rfl rfl (map_get (by first | omega | (rw [fillTo_len]; omega))) rfl rfl (.cons _ _ _ _ _ _ (.ref _ _ _ _ _ _ rfl) .nil) rfl (Nat.le_of_ble_eq_true rfl) (set_map _ _ _ (a.getD j default) _ rfl) rfl rfl ?_
    exact .fin (k10 + 1 + 1 + 1 + 1 + 1 + 1 + 1 + 1) (.of (.cons rfl (.cons rfl (.cons rfl .nil))) (.cons rfl .nil))
   intro g11
   refine .reg (X := Unit) (fun ζ => .of [(0, .one (.d (.sl false 27 1 (List.map slc27 (a))))), (3, .one (.ref [7] (q6))), (4, .one (.d (.v (.int .i64 (IntKind.wrap .i64 ((j : Int) + 1))))))] [([7], (q6, g11, .row 27 1 (List.map slco27 ((fillTo a ([]) j).set j (a.getD j default)))))]) [⟨[4], some 12, [], []⟩, ⟨[12], some 13, [], []⟩, ⟨[13], some 4, [], []⟩] (fun k12 => ?_) ?_
   ·skip
    refine .move (.no rfl) rfl rfl rfl rfl ?_
    refine .bin (.no rfl) rfl rfl rfl rfl rfl rfl ?_
    refine .assign (.no rfl) rfl rfl rfl rfl ?_
    exact .fin () (.of (.cons rfl (.cons rfl (.cons rfl .nil))) (.cons rfl .nil))
   intro _
   exact .here ((j + 1), q6, g11) (.of (.cons rfl (.cons rfl (.cons (svI (show (IntKind.wrap .i64 ((j : Int) + 1)) = (((j + 1) : Int)) by first | rfl | omega | exact wrap_le (by omega) (by omega) | (rw [wrap_le (by omega) (by omega)]; omega))) .nil))) (.cons (rowE (show List.map slco27 ((fillTo a ([]) j).set j (a.getD j default)) = List.map slco27 (fillTo a ([]) (j + 1)) by first | rfl | (rw [fillTo_zero]) | (rw [fillTo_step _ _ _ (by omega) rfl]))) .nil)) ⟨(show (j + 1) ≤ a.length by omega), (show a.length - (j + 1) < a.length - j by omega)⟩
  ·have c0 := of_decide_eq_false c0
   refine .exit ?_
   refine .seq ?_
   refine .reg (X := Unit) (fun ζ => .of [(2, .one (.ref [7] (q6)))] [([7], (q6, q7, .row 27 1 (List.map slco27 (fillTo a ([]) j))))]) [⟨[3], some 22, [], []⟩, ⟨[22], some 2, [], []⟩] (fun k13 => ?_) ?_
   ·skip
    refine .move (.no rfl) rfl rfl rfl rfl ?_
    refine .assign (.no rfl) rfl rfl rfl rfl ?_
    exact .fin () (.of (.cons rfl .nil) (.cons rfl .nil))
   intro _
   refine .ret ?_
   have e14 : (fillTo a ([]) j) = (a) := by (exact fillTo_all _ _ (by omega))
   show _ ∧ _
   exact ⟨.inr rfl, .done ⟨_, [], [([7], (q6, q7, .row 27 1 (List.map slco27 (a))))], _, .one rfl .nil, .cons (.ref (.head _)) .nil, nodupB_ok rfl, by simp, (AllH.get (.cons (rowE (congrArg (List.map slco27) e14)) .nil))⟩⟩
theorem c_toBoolS (a : List Bool) (hb : a.length ≤ 1048576) : Trip Tryz.prog 46 [(false, 1)] ([.sl false 4 1 (List.map boolc (a))]) [(false, 1)] [.sl true 4 1 (List.map boolc (a))] [] := by
 refine Trip.of Tryz.func46 (by decide) (c := _) rfl rfl (shB_ok rfl) (Nat.le_of_ble_eq_true rfl) rfl (AftOk.nil _) ?_
 refine .sat (t := 0) rfl (fun hs1 => ?_)
 have hs1l : a.length ≤ 9223372036854775807 := hs1.maplen
 refine .seq ?_
 refine .reg (X := Unit) (fun ζ => .of [(0, .one (.d (.sl false 4 1 (List.map boolc (a)))))] []) [⟨[], some 2, [], []⟩] (fun k2 => ?_) ?_
 ·skip
  refine .assign (.no rfl) rfl rfl rfl rfl ?_
  exact .fin () (.of (.cons rfl .nil) .nil)
 intro _
 refine .seq ?_
 refine .reg (X := Nat) (fun ζ => .of [(0, .one (.d (.sl false 4 1 (List.map boolc (a))))), (3, .one (.ref [7] (ζ)))] [([7], (ζ, ζ, .row 4 1 (List.map boolc (List.replicate a.length false))))]) [⟨[0], some 5, [], []⟩, ⟨[5], some 6, [], []⟩, ⟨[6, 6], some 7, [], [[7]]⟩, ⟨[7], some 3, [], []⟩] (fun k3 => ?_) ?_
 ·skip
  refine .move (.no rfl) rfl rfl rfl rfl ?_
  refine .len (.no rfl) rfl (z := (a.length : Int)) t28 rfl rfl rfl (.d _ _) (map_len _ _) rfl ?_
  refine .makeSlice (.no rfl) rfl (n0 := a.length) (els := List.map boolc (List.replicate a.length false)) t28 rfl z4 rfl rfl rfl rfl rfl (by (simp [i4]; omega)) (by omega) (rep_map _ _ _ rfl) rfl ?_
  refine .assign (.no rfl) rfl rfl rfl rfl ?_
  exact .fin (k3 + 1 + 1) (.of (.cons rfl (.cons rfl .nil)) (.cons rfl .nil))
 intro g4
 refine .seq ?_
 refine .seq ?_
 refine .reg (X := Unit) (fun ζ => .of [(0, .one (.d (.sl false 4 1 (List.map boolc (a))))), (3, .one (.ref [7] (g4))), (4, .one (.d (.v (.int .i64 (0)))))] [([7], (g4, g4, .row 4 1 (List.map boolc (List.replicate a.length false))))]) [⟨[], some 4, [], []⟩] (fun k5 => ?_) ?_
 ·skip
  refine .assign (.no rfl) rfl rfl rfl rfl ?_
  exact .fin () (.of (.cons rfl (.cons rfl (.cons rfl .nil))) (.cons rfl .nil))
 intro _
 refine .block ?_
 refine .loop (X := Nat × Nat × Nat) (fun ζ => .of [(0, .one (.d (.sl false 4 1 (List.map boolc (a))))), (3, .one (.ref [7] (ζ.2.1))), (4, .one (.d (.v (.int .i64 ((ζ.1 : Int))))))] [([7], (ζ.2.1, ζ.2.2, .row 4 1 (List.map boolc (fillTo a (false) ζ.1))))]) (fun ζ => ζ.1 ≤ a.length) (fun ζ => a.length - ζ.1) ?_ ?_
 ·skip
  exact .here (0, g4, g4) (.of (.cons rfl (.cons rfl (.cons (svI (show (0) = ((0 : Int)) by first | rfl | omega | exact wrap_le (by omega) (by omega) | (rw [wrap_le (by omega) (by omega)]; omega))) .nil))) (.cons (rowE (show List.map boolc (List.replicate a.length false) = List.map boolc (fillTo a (false) 0) by first | rfl | (rw [fillTo_zero]) | (rw [fillTo_step _ _ _ (by omega) rfl]))) .nil)) (show 0 ≤ a.length by omega)
 ·rintro ⟨j, q6, q7⟩ hI
  have hI : j ≤ a.length := hI
  refine .seq ?_
  refine .seq ?_
  refine .reg (X := Unit) (fun ζ => .of [(0, .one (.d (.sl false 4 1 (List.map boolc (a))))), (3, .one (.ref [7] (q6))), (4, .one (.d (.v (.int .i64 ((j : Int)))))), (11, .one (.d (.v (.bool (decide ((j : Int) < (a.length : Int)))))))] [([7], (q6, q7, .row 4 1 (List.map boolc (fillTo a (false) j))))]) [⟨[4], some 8, [], []⟩, ⟨[0], some 9, [], []⟩, ⟨[9], some 10, [], []⟩, ⟨[8, 10], some 11, [], []⟩] (fun k8 => ?_) ?_
  ·skip
   refine .move (.no rfl) rfl rfl rfl rfl ?_
   refine .move (.no rfl) rfl rfl rfl rfl ?_
   refine .len (.no rfl) rfl (z := (a.length : Int)) t28 rfl rfl rfl (.d _ _) (map_len _ _) rfl ?_
   refine .bin (.no rfl) rfl rfl rfl rfl rfl rfl ?_
   exact .fin () (.of (.cons rfl (.cons rfl (.cons rfl (.cons rfl .nil)))) (.cons rfl .nil))
  intro _
  refine .cond (t := decide ((j : Int) < (a.length : Int))) rfl (fun c0 => ?_) (fun c0 => ?_)
  ·have c0 := of_decide_eq_true c0
   refine .skip ?_
   refine .seq ?_
   refine .block ?_
   refine .reg (X := Nat) (fun ζ => .of [(0, .one (.d (.sl false 4 1 (List.map boolc (a))))), (3, .one (.ref [7] (q6))), (4, .one (.d (.v (.int .i64 ((j : Int))))))] [([7], (q6, ζ, .row 4 1 (List.map boolc ((fillTo a (false) j).set j (a.getD j default)))))]) [⟨[3], some 14, [], []⟩, ⟨[4], some 15, [], []⟩, ⟨[0], some 16, [], []⟩, ⟨[4], some 17, [], []⟩, ⟨[16, 17], some 18, [], []⟩, ⟨[18], some 19, [], []⟩, ⟨[14, 15], some 20, [[7]], []⟩, ⟨[20, 19], none, [[7]], [[7]]⟩] (fun k9 => ?_) ?_
   ·skip
    refine .move (.no rfl) rfl rfl rfl rfl ?_
    refine .move (.no rfl) rfl rfl rfl rfl ?_
    refine .move (.no rfl) rfl rfl rfl rfl ?_
    refine .move (.no rfl) rfl rfl rfl rfl ?_
    refine .indexAddr (.no rfl) rfl (j) t28 rfl t4 rfl rfl rfl (.d _ _) rfl rfl rfl (map_get (by first | omega | (rw [fillTo_len]; omega))) rfl rfl ?_
    refine .load (.no rfl) rfl t4 rfl rfl (.d _) rfl rfl rfl rfl ?_
    refine .indexAddr (.no rfl) rfl (j) t28 rfl t4 rfl rfl rfl (.ref _ _ _ _ _ rfl) rfl rfl rfl (map_get (by first | omega | (rw [fillTo_len]; omega))) rfl rfl ?_
    refine .storeE (.no rfl) rfl (els' := List.map boolc ((fillTo a (false) j).set j (a.getD j default))) t4 rfl rfl rfl rfl (map_get (by first | omega | (rw [fillTo_len]; omega))) rfl rfl (.cons _ _ _ _ _ _ (.d _) .nil) rfl (Nat.le_of_ble_eq_true rfl) (set_map _ _ _ (a.getD j default) _ rfl) rfl rfl ?_
    exact .fin (k9 + 1 + 1 + 1 + 1 + 1 + 1 + 1) (.of (.cons rfl (.cons rfl (.cons rfl .nil))) (.cons rfl .nil))
   intro g10
   refine .reg (X := Unit) (fun ζ => .of [(0, .one (.d (.sl false 4 1 (List.map boolc (a))))), (3, .one (.ref [7] (q6))), (4, .one (.d (.v (.int .i64 (IntKind.wrap .i64 ((j : Int) + 1))))))] [([7], (q6, g10, .row 4 1 (List.map boolc ((fillTo a (false) j).set j (a.getD j default)))))]) [⟨[4], some 12, [], []⟩, ⟨[12], some 13, [], []⟩, ⟨[13], some 4, [], []⟩] (fun k11 => ?_) ?_
   ·skip
    refine .move (.no rfl) rfl rfl rfl rfl ?_
    refine .bin (.no rfl) rfl rfl rfl rfl rfl rfl ?_
    refine .assign (.no rfl) rfl rfl rfl rfl ?_
    exact .fin () (.of (.cons rfl (.cons rfl (.cons rfl .nil))) (.cons rfl .nil))
   intro _
   exact .here ((j + 1), q6, g10) (.of (.cons rfl (.cons rfl (.cons (svI (show (IntKind.wrap .i64 ((j : Int) + 1)) = (((j + 1) : Int)) by first | rfl | omega | exact wrap_le (by omega) (by omega) | (rw [wrap_le (by omega) (by omega)]; omega))) .nil))) (.cons (rowE (show List.map boolc ((fillTo a (false) j).set j (a.getD j default)) = List.map boolc (fillTo a (false) (j + 1)) by first | rfl | (rw [fillTo_zero]) | (rw [fillTo_step _ _ _ (by omega) rfl]))) .nil)) ⟨(show (j + 1) ≤ a.length by omega), (show a.length - (j + 1) < a.length - j by omega)⟩
  ·have c0 := of_decide_eq_false c0
   refine .exit ?_
   refine .seq ?_
   refine .reg (X := Unit) (fun ζ => .of [(2, .one (.ref [7] (q6)))] [([7], (q6, q7, .row 4 1 (List.map boolc (fillTo a (false) j))))]) [⟨[3], some 21, [], []⟩, ⟨[21], some 2, [], []⟩] (fun k12 => ?_) ?_
   ·skip
    refine .move (.no rfl) rfl rfl rfl rfl ?_
    refine .assign (.no rfl) rfl rfl rfl rfl ?_
    exact .fin () (.of (.cons rfl .nil) (.cons rfl .nil))
   intro _
   refine .ret ?_
   have e13 : (fillTo a (false) j) = (a) := by (exact fillTo_all _ _ (by omega))
   show _ ∧ _
   exact ⟨.inr rfl, .done ⟨_, [], [([7], (q6, q7, .row 4 1 (List.map boolc (a))))], _, .one rfl .nil, .cons (.ref (.head _)) .nil, nodupB_ok rfl, by simp, (AllH.get (.cons (rowE (congrArg (List.map boolc) e13)) .nil))⟩⟩
theorem c_toStore (a : Store) (hb : Store.small a) : Trip Tryz.prog 13 [(true, 3)] (Store.c31 a) [(true, 3)] [.sl true 2 1 (List.map i64c (a.ints)), .sl true 4 1 (List.map boolc (a.flags)), .sl true 27 1 (List.map slco27 (a.arrs))] [] := by
 refine Trip.of Tryz.func13 (by decide) (c := _) rfl rfl (shB_ok rfl) (Nat.le_of_ble_eq_true rfl) rfl (AftOk.nil _) ?_
 refine .satA (t := 0) (i := 0) rfl rfl (fun hs1 => ?_)
 have hs1l : a.ints.length ≤ 9223372036854775807 := hs1.maplen
 refine .satA (t := 0) (i := 1) rfl rfl (fun hs2 => ?_)
 have hs2l : a.flags.length ≤ 9223372036854775807 := hs2.maplen
 refine .satA (t := 0) (i := 2) rfl rfl (fun hs3 => ?_)
 have hs3l : a.arrs.length ≤ 9223372036854775807 := hs3.maplen
 refine .seq ?_
 refine .reg (X := Nat × Nat) (fun ζ => .of [(1, .one (.ptr [1] (ζ.1) 0)), (2, .one (.ptr [2] (ζ.2) 0))] [([1], (ζ.1, ζ.1, .box [.d (.sl false 2 1 (List.map i64c (a.ints))), .d (.sl false 4 1 (List.map boolc (a.flags))), .d (.sl false 27 1 (List.map slc27 (a.arrs)))])), ([2], (ζ.2, ζ.2, .box [.d (.v (.slice none 0 0)), .d (.v (.slice none 0 0)), .d (.v (.slice none 0 0))]))]) [⟨[0], some 1, [], [[1]]⟩, ⟨[], some 2, [], [[2]]⟩] (fun k4 => ?_) ?_
 ·skip
  refine .box (.no rfl) rfl rfl rfl rfl rfl ?_
  refine .alloc (.no rfl) rfl z42 rfl rfl rfl ?_
  exact .fin (k4, k4 + 1) (.of (.cons rfl (.cons rfl .nil)) (.cons rfl (.cons rfl .nil)))
 rintro ⟨g5, g6⟩
 refine .seq ?_
 refine .reg (X := Nat) (fun ζ => .of [(1, .one (.ptr [1] (g5) 0)), (2, .one (.ptr [2] (g6) 0)), (3, .one (.ptr [3] (ζ) 0))] [([1], (g5, g5, .box [.d (.sl false 2 1 (List.map i64c (a.ints))), .d (.sl false 4 1 (List.map boolc (a.flags))), .d (.sl false 27 1 (List.map slc27 (a.arrs)))])), ([2], (g6, g6, .box [.d (.v (.slice none 0 0)), .d (.v (.slice none 0 0)), .d (.v (.slice none 0 0))])), ([3], (ζ, ζ, .box [.d (.v (.slice none 0 0)), .d (.v (.slice none 0 0)), .d (.v (.slice none 0 0))]))]) [⟨[], some 3, [], [[3]]⟩] (fun k7 => ?_) ?_
 ·skip
  refine .alloc (.no rfl) rfl z42 rfl rfl rfl ?_
  exact .fin k7 (.of (.cons rfl (.cons rfl (.cons rfl .nil))) (.cons rfl (.cons rfl (.cons rfl .nil))))
 intro g8
 refine .seq ?_
 refine .reg (X := Nat × Nat) (fun ζ => .of [(1, .one (.ptr [1] (g5) 0)), (2, .one (.ptr [2] (g6) 0)), (3, .one (.ptr [3] (g8) 0))] [([1], (g5, g5, .box [.d (.sl false 2 1 (List.map i64c (a.ints))), .d (.sl false 4 1 (List.map boolc (a.flags))), .d (.sl false 27 1 (List.map slc27 (a.arrs)))])), ([2], (g6, g6, .box [.d (.v (.slice none 0 0)), .d (.v (.slice none 0 0)), .d (.v (.slice none 0 0))])), ([3], (g8, ζ.1, .box [.ref [6, 0] (ζ.2), .d (.v (.slice none 0 0)), .d (.v (.slice none 0 0))])), ([6, 0], (ζ.2, ζ.2, .row 2 1 (List.map i64c (a.ints))))]) [⟨[1], some 4, [], []⟩, ⟨[4], some 5, [[1]], []⟩, ⟨[5], some 6, [], [[6, 0]]⟩, ⟨[3], some 7, [], []⟩, ⟨[7, 6], none, [[3]], [[3]]⟩] (fun k9 => ?_) ?_
 ·skip
  refine .fieldAddrP (.no rfl) rfl t31 rfl rfl t27 rfl rfl rfl rfl ?_
  refine .load (.no rfl) rfl t27 rfl rfl (.ptr _ _ _ _ _ rfl) rfl rfl rfl rfl ?_
  refine .call (.no rfl) rfl [] [] (c_toInt64S a.ints (by first | exact hb.1 | exact hb.2.1 | exact hb.2.2.1 | exact hb.2.2.2)) rfl rfl rfl rfl rfl (.cons (Reads.d _).gives .nil) rfl rfl (fun h => absurd rfl h) (.own [6, 0] .nil) (.nil) rfl rfl rfl (by simp) rfl rfl rfl ?_
  refine .fieldAddrP (.no rfl) rfl t42 rfl rfl t27 rfl rfl rfl rfl ?_
  refine .store (.no rfl) rfl t27 rfl rfl rfl rfl rfl rfl rfl rfl rfl ?_
  exact .fin (k9 + 1 + 1 + 1 + 1, k9 + 1 + 1) (.of (.cons rfl (.cons rfl (.cons rfl .nil))) (.cons rfl (.cons rfl (.cons rfl (.cons rfl .nil)))))
 rintro ⟨g10, g11⟩
 refine .seq ?_
 refine .reg (X := Nat × Nat) (fun ζ => .of [(1, .one (.ptr [1] (g5) 0)), (2, .one (.ptr [2] (g6) 0)), (3, .one (.ptr [3] (g8) 0))] [([1], (g5, g5, .box [.d (.sl false 2 1 (List.map i64c (a.ints))), .d (.sl false 4 1 (List.map boolc (a.flags))), .d (.sl false 27 1 (List.map slc27 (a.arrs)))])), ([2], (g6, g6, .box [.d (.v (.slice none 0 0)), .d (.v (.slice none 0 0)), .d (.v (.slice none 0 0))])), ([3], (g8, ζ.1, .box [.ref [6, 0] (g11), .ref [10, 0] (ζ.2), .d (.v (.slice none 0 0))])), ([6, 0], (g11, g11, .row 2 1 (List.map i64c (a.ints)))), ([10, 0], (ζ.2, ζ.2, .row 4 1 (List.map boolc (a.flags))))]) [⟨[1], some 8, [], []⟩, ⟨[8], some 9, [[1]], []⟩, ⟨[9], some 10, [], [[10, 0]]⟩, ⟨[3], some 11, [], []⟩, ⟨[11, 10], none, [[3]], [[3]]⟩] (fun k12 => ?_) ?_
 ·skip
  refine .fieldAddrP (.no rfl) rfl t31 rfl rfl t28 rfl rfl rfl rfl ?_
  refine .load (.no rfl) rfl t28 rfl rfl (.ptr _ _ _ _ _ rfl) rfl rfl rfl rfl ?_
  refine .call (.no rfl) rfl [] [] (c_toBoolS a.flags (by first | exact hb.1 | exact hb.2.1 | exact hb.2.2.1 | exact hb.2.2.2)) rfl rfl rfl rfl rfl (.cons (Reads.d _).gives .nil) rfl rfl (fun h => absurd rfl h) (.own [10, 0] .nil) (.nil) rfl rfl rfl (by simp) rfl rfl rfl ?_
  refine .fieldAddrP (.no rfl) rfl t42 rfl rfl t28 rfl rfl rfl rfl ?_
  refine .store (.no rfl) rfl t28 rfl rfl rfl rfl rfl rfl rfl rfl rfl ?_
  exact .fin (k12 + 1 + 1 + 1 + 1, k12 + 1 + 1) (.of (.cons rfl (.cons rfl (.cons rfl .nil))) (.cons rfl (.cons rfl (.cons rfl (.cons rfl (.cons rfl .nil))))))
 rintro ⟨g13, g14⟩
 refine .seq ?_
 refine .reg (X := Nat × Nat) (fun ζ => .of [(2, .one (.ptr [2] (g6) 0)), (3, .one (.ptr [3] (g8) 0))] [([2], (g6, g6, .box [.d (.v (.slice none 0 0)), .d (.v (.slice none 0 0)), .d (.v (.slice none 0 0))])), ([3], (g8, ζ.1, .box [.ref [6, 0] (g11), .ref [10, 0] (g14), .ref [14, 0] (ζ.2)])), ([6, 0], (g11, g11, .row 2 1 (List.map i64c (a.ints)))), ([10, 0], (g14, g14, .row 4 1 (List.map boolc (a.flags)))), ([14, 0], (ζ.2, ζ.2, .row 27 1 (List.map slco27 (a.arrs))))]) [⟨[1], some 12, [], []⟩, ⟨[12], some 13, [[1]], []⟩, ⟨[13], some 14, [], [[14, 0]]⟩, ⟨[3], some 15, [], []⟩, ⟨[15, 14], none, [[3]], [[3]]⟩] (fun k15 => ?_) ?_
 ·skip
  refine .fieldAddrP (.no rfl) rfl t31 rfl rfl t29 rfl rfl rfl rfl ?_
  refine .load (.no rfl) rfl t29 rfl rfl (.ptr _ _ _ _ _ rfl) rfl rfl rfl rfl ?_
  refine .call (.no rfl) rfl [] [] (c_toInt64SS a.arrs (by first | exact hb.1 | exact hb.2.1 | exact hb.2.2.1 | exact hb.2.2.2) (by first | exact hb.1 | exact hb.2.1 | exact hb.2.2.1 | exact hb.2.2.2)) rfl rfl rfl rfl rfl (.cons (Reads.d _).gives .nil) rfl rfl (fun h => absurd rfl h) (.own [14, 0] .nil) (.nil) rfl rfl rfl (by simp) rfl rfl rfl ?_
  refine .fieldAddrP (.no rfl) rfl t42 rfl rfl t29 rfl rfl rfl rfl ?_
  refine .store (.no rfl) rfl t29 rfl rfl rfl rfl rfl rfl rfl rfl rfl ?_
  exact .fin (k15 + 1 + 1 + 1 + 1, k15 + 1 + 1) (.of (.cons rfl (.cons rfl .nil)) (.cons rfl (.cons rfl (.cons rfl (.cons rfl (.cons rfl .nil))))))
 rintro ⟨g16, g17⟩
 refine .seq ?_
 refine .reg (X := Nat) (fun ζ => .of [(2, .one (.ptr [2] (g6) 0))] [([2], (g6, ζ, .box [.ref [6, 0] (g11), .ref [10, 0] (g14), .ref [14, 0] (g17)])), ([6, 0], (g11, g11, .row 2 1 (List.map i64c (a.ints)))), ([10, 0], (g14, g14, .row 4 1 (List.map boolc (a.flags)))), ([14, 0], (g17, g17, .row 27 1 (List.map slco27 (a.arrs))))]) [⟨[3], some 16, [[3]], []⟩, ⟨[2, 16], none, [[2]], [[2]]⟩] (fun k18 => ?_) ?_
 ·skip
  refine .load (.no rfl) rfl t42 rfl rfl (.ptr _ _ _ _ _ rfl) rfl rfl rfl rfl ?_
  refine .store (.no rfl) rfl t42 rfl rfl rfl rfl rfl rfl rfl rfl rfl ?_
  exact .fin (k18 + 1) (.of (.cons rfl .nil) (.cons rfl (.cons rfl (.cons rfl (.cons rfl .nil)))))
 intro g19
 refine .ret ?_
 show _ ∧ _
 exact ⟨.inr rfl, .done ⟨_, [], [([6, 0], (g11, g11, .row 2 1 (List.map i64c (a.ints)))), ([10, 0], (g14, g14, .row 4 1 (List.map boolc (a.flags)))), ([14, 0], (g17, g17, .row 27 1 (List.map slco27 (a.arrs))))], _, .cell (cells := [.ref [6, 0] (g11), .ref [10, 0] (g14), .ref [14, 0] (g17)]) rfl rfl t42 rfl rfl .nil, .cons (.ref (.head _)) (.cons (.ref (.tail _ (.head _))) (.cons (.ref (.tail _ (.tail _ (.head _)))) .nil)), nodupB_ok rfl, by simp, (AllH.get (.cons rfl (.cons rfl (.cons rfl .nil))))⟩⟩
end Go.Proofs

namespace Go.Proofs
open Go Go.Proofs Go.Ev

theorem c_eqEnvS (a : List Env) (b : List Env) : Trip Tryz.prog 16 [(false, 1), (false, 1)] ([.sl false 77 3 (List.map Env.c77 (a))] ++ [.sl false 77 3 (List.map Env.c77 (b))]) [(false, 1)] [.v (.bool (all2 Env.same a b))] [] := by
 refine Trip.of Tryz.func16 (by decide) (c := _) rfl rfl (shB_ok rfl) (Nat.le_of_ble_eq_true rfl) rfl (AftOk.nil _) ?_
 refine .sat (t := 0) rfl (fun hs1 => ?_)
 have hs1l : a.length ≤ 9223372036854775807 := hs1.maplen
 refine .sat (t := 1) rfl (fun hs2 => ?_)
 have hs2l : b.length ≤ 9223372036854775807 := hs2.maplen
 refine .seq ?_
 refine .reg (X := Unit) (fun ζ => .of [(0, .one (.d (.sl false 77 3 (List.map Env.c77 (a))))), (1, .one (.d (.sl false 77 3 (List.map Env.c77 (b)))))] []) [⟨[], some 4, [], []⟩] (fun k3 => ?_) ?_
 ·skip
  refine .assign (.no rfl) rfl rfl rfl rfl ?_
  exact .fin () (.of (.cons rfl (.cons rfl .nil)) .nil)
 intro _
 refine .seq ?_
 refine .seq ?_
 refine .reg (X := Unit) (fun ζ => .of [(0, .one (.d (.sl false 77 3 (List.map Env.c77 (a))))), (1, .one (.d (.sl false 77 3 (List.map Env.c77 (b))))), (10, .one (.d (.v (.bool ((a.length : Int) != (b.length : Int))))))] []) [⟨[0], some 6, [], []⟩, ⟨[6], some 7, [], []⟩, ⟨[1], some 8, [], []⟩, ⟨[8], some 9, [], []⟩, ⟨[7, 9], some 10, [], []⟩] (fun k4 => ?_) ?_
 ·skip
  refine .move (.no rfl) rfl rfl rfl rfl ?_
  refine .len (.no rfl) rfl (z := (a.length : Int)) t40 rfl rfl rfl (.d _ _) (map_len _ _) rfl ?_
  refine .move (.no rfl) rfl rfl rfl rfl ?_
  refine .len (.no rfl) rfl (z := (b.length : Int)) t40 rfl rfl rfl (.d _ _) (map_len _ _) rfl ?_
  refine .bin (.no rfl) rfl rfl rfl rfl rfl rfl ?_
  exact .fin () (.of (.cons rfl (.cons rfl (.cons rfl .nil))) .nil)
 intro _
 refine .cond (t := (a.length : Int) != (b.length : Int)) rfl (fun c0 => ?_) (fun c0 => ?_)
 ·have c0 := (by simpa using c0 : ¬ ((a.length : Int) = (b.length : Int)))
  refine .seq ?_
  refine .reg (X := Unit) (fun ζ => .of [(4, .one (.d (.v (.bool (false)))))] []) [⟨[], some 4, [], []⟩] (fun k5 => ?_) ?_
  ·skip
   refine .assign (.no rfl) rfl rfl rfl rfl ?_
   exact .fin () (.of (.cons rfl .nil) .nil)
  intro _
  refine .ret ?_
  have e6 : (false) = (all2 Env.same a b) := by exact (all2_ne _ c0).symm
  have hc7 := eq1 (fun z1 => SV.one (.d (.v (.bool (z1))))) e6
  show _ ∧ _
  exact ⟨.inr rfl, .done ⟨_, [], [], _, .one (c := .d (.v (.bool (all2 Env.same a b)))) (hc7) .nil, .cons (Reads.d _).gives .nil, nodupB_ok rfl, by simp, (by simp)⟩⟩
 ·have c0 := (by simpa using c0 : (a.length : Int) = (b.length : Int))
  refine .skip ?_
  refine .seq ?_
  refine .seq ?_
  refine .reg (X := Unit) (fun ζ => .of [(0, .one (.d (.sl false 77 3 (List.map Env.c77 (a))))), (1, .one (.d (.sl false 77 3 (List.map Env.c77 (b))))), (5, .one (.d (.v (.int .i64 (0)))))] []) [⟨[], some 5, [], []⟩] (fun k8 => ?_) ?_
  ·skip
   refine .assign (.no rfl) rfl rfl rfl rfl ?_
   exact .fin () (.of (.cons rfl (.cons rfl (.cons rfl .nil))) .nil)
  intro _
  refine .block ?_
  refine .loop (X := Nat) (fun ζ => .of [(0, .one (.d (.sl false 77 3 (List.map Env.c77 (a))))), (1, .one (.d (.sl false 77 3 (List.map Env.c77 (b))))), (5, .one (.d (.v (.int .i64 ((ζ : Int))))))] []) (fun ζ => ζ ≤ a.length ∧ a.length = b.length ∧ allTo ζ (fun i => Env.same (a.getD i default) (b.getD i default)) = true) (fun ζ => a.length - ζ) ?_ ?_
  ·skip
   exact .here 0 (.of (.cons rfl (.cons rfl (.cons (svI (show (0) = ((0 : Int)) by first | rfl | omega | exact wrap_le (by omega) (by omega) | (rw [wrap_le (by omega) (by omega)]; omega))) .nil))) .nil) (show 0 ≤ a.length ∧ a.length = b.length ∧ allTo 0 (fun i => Env.same (a.getD i default) (b.getD i default)) = true by exact ⟨by omega, by omega, rfl⟩)
  ·rintro j hI
   have hI : j ≤ a.length ∧ a.length = b.length ∧ allTo j (fun i => Env.same (a.getD i default) (b.getD i default)) = true := hI
   refine .seq ?_
   refine .seq ?_
   refine .reg (X := Unit) (fun ζ => .of [(0, .one (.d (.sl false 77 3 (List.map Env.c77 (a))))), (1, .one (.d (.sl false 77 3 (List.map Env.c77 (b))))), (5, .one (.d (.v (.int .i64 ((j : Int)))))), (14, .one (.d (.v (.bool (decide ((j : Int) < (a.length : Int)))))))] []) [⟨[5], some 11, [], []⟩, ⟨[0], some 12, [], []⟩, ⟨[12], some 13, [], []⟩, ⟨[11, 13], some 14, [], []⟩] (fun k9 => ?_) ?_
   ·skip
    refine .move (.no rfl) rfl rfl rfl rfl ?_
    refine .move (.no rfl) rfl rfl rfl rfl ?_
    refine .len (.no rfl) rfl (z := (a.length : Int)) t40 rfl rfl rfl (.d _ _) (map_len _ _) rfl ?_
    refine .bin (.no rfl) rfl rfl rfl rfl rfl rfl ?_
    exact .fin () (.of (.cons rfl (.cons rfl (.cons rfl (.cons rfl .nil)))) .nil)
   intro _
   refine .cond (t := decide ((j : Int) < (a.length : Int))) rfl (fun c1 => ?_) (fun c1 => ?_)
   ·have c1 := of_decide_eq_true c1
    refine .skip ?_
    refine .seq ?_
    refine .block ?_
    refine .seq ?_
    refine .regD (X := Unit) (by kernel_rfl) (fun ζ => .of [(0, .one (.d (.sl false 77 3 (List.map Env.c77 (a))))), (1, .one (.d (.sl false 77 3 (List.map Env.c77 (b))))), (5, .one (.d (.v (.int .i64 ((j : Int)))))), (26, .one (.d (.v (.bool (!(Env.same (a.getD j default) (b.getD j default)))))))] []) [⟨[0], some 17, [], []⟩, ⟨[5], some 18, [], []⟩, ⟨[17, 18], some 19, [], []⟩, ⟨[19], some 20, [], []⟩, ⟨[1], some 21, [], []⟩, ⟨[5], some 22, [], []⟩, ⟨[21, 22], some 23, [], []⟩, ⟨[23], some 24, [], []⟩, ⟨[20, 24], some 25, [], []⟩, ⟨[25], some 26, [], []⟩] (by kernel_rfl) (fun k10 => ?_) ?_
    ·skip
     refine .move (.no rfl) rfl rfl rfl rfl ?_
     refine .move (.no rfl) rfl rfl rfl rfl ?_
     refine .indexAddr (.no rfl) rfl (j) t40 rfl t77 rfl rfl rfl (.d _ _) rfl rfl rfl (map_get (by omega)) rfl rfl ?_
     refine .load (.no rfl) rfl t77 rfl rfl (.d _) rfl rfl rfl rfl ?_
     refine .move (.no rfl) rfl rfl rfl rfl ?_
     refine .move (.no rfl) rfl rfl rfl rfl ?_
     refine .indexAddr (.no rfl) rfl (j) t40 rfl t77 rfl rfl rfl (.d _ _) rfl rfl rfl (map_get (by omega)) rfl rfl ?_
     refine .load (.no rfl) rfl t77 rfl rfl (.d _) rfl rfl rfl rfl ?_
     refine .call (.no rfl) rfl [] [] (c_eqEnv (a.getD j default) (b.getD j default)) rfl rfl rfl rfl rfl (.cons (Reads.d _).gives (.cons (Reads.d _).gives (.cons (Reads.d _).gives (.cons (Reads.d _).gives (.cons (Reads.d _).gives (.cons (Reads.d _).gives .nil)))))) rfl rfl (fun h => absurd rfl h) (.own [25, 0] .nil) (.nil) rfl rfl rfl (by simp) rfl rfl rfl ?_
     refine .un (.no rfl) rfl rfl rfl rfl rfl ?_
     exact .fin () (.of (.cons rfl (.cons rfl (.cons rfl (.cons rfl .nil)))) .nil)
    intro _
    refine .cond (t := !(Env.same (a.getD j default) (b.getD j default))) rfl (fun c2 => ?_) (fun c2 => ?_)
    ·have c2 := c2
     try simp only [Bool.or_eq_true, Bool.or_eq_false_iff, Bool.and_eq_true, Bool.and_eq_false_iff, decide_eq_true_eq, decide_eq_false_iff_not, Bool.not_eq_true', Bool.not_eq_false', bne_iff_ne, beq_iff_eq, bne_eq_false_iff_eq, beq_eq_false_iff_ne, ne_eq, Bool.not_eq_eq_eq_not, Bool.not_true, Bool.not_false] at c2
     refine .seq ?_
     refine .reg (X := Unit) (fun ζ => .of [(4, .one (.d (.v (.bool (false)))))] []) [⟨[], some 4, [], []⟩] (fun k11 => ?_) ?_
     ·skip
      refine .assign (.no rfl) rfl rfl rfl rfl ?_
      exact .fin () (.of (.cons rfl .nil) .nil)
     intro _
     refine .ret ?_
     have e12 : (false) = (all2 Env.same a b) := by exact (all2_fail _ (j := j) (by omega) (by simpa [] using c2)).symm
     have hc13 := eq1 (fun z1 => SV.one (.d (.v (.bool (z1))))) e12
     show _ ∧ _
     exact ⟨.inr rfl, .done ⟨_, [], [], _, .one (c := .d (.v (.bool (all2 Env.same a b)))) (hc13) .nil, .cons (Reads.d _).gives .nil, nodupB_ok rfl, by simp, (by simp)⟩⟩
    ·have c2 := c2
     try simp only [Bool.or_eq_true, Bool.or_eq_false_iff, Bool.and_eq_true, Bool.and_eq_false_iff, decide_eq_true_eq, decide_eq_false_iff_not, Bool.not_eq_true', Bool.not_eq_false', bne_iff_ne, beq_iff_eq, bne_eq_false_iff_eq, beq_eq_false_iff_ne, ne_eq, Bool.not_eq_eq_eq_not, Bool.not_true, Bool.not_false] at c2
     refine .skip ?_
     refine .reg (X := Unit) (fun ζ => .of [(0, .one (.d (.sl false 77 3 (List.map Env.c77 (a))))), (1, .one (.d (.sl false 77 3 (List.map Env.c77 (b))))), (5, .one (.d (.v (.int .i64 (IntKind.wrap .i64 ((j : Int) + 1))))))] []) [⟨[5], some 15, [], []⟩, ⟨[15], some 16, [], []⟩, ⟨[16], some 5, [], []⟩] (fun k14 => ?_) ?_
     ·skip
      refine .move (.no rfl) rfl rfl rfl rfl ?_
      refine .bin (.no rfl) rfl rfl rfl rfl rfl rfl ?_
      refine .assign (.no rfl) rfl rfl rfl rfl ?_
      exact .fin () (.of (.cons rfl (.cons rfl (.cons rfl .nil))) .nil)
     intro _
     exact .here (j + 1) (.of (.cons rfl (.cons rfl (.cons (svI (show (IntKind.wrap .i64 ((j : Int) + 1)) = (((j + 1) : Int)) by first | rfl | omega | exact wrap_le (by omega) (by omega) | (rw [wrap_le (by omega) (by omega)]; omega))) .nil))) .nil) ⟨(show (j + 1) ≤ a.length ∧ a.length = b.length ∧ allTo (j + 1) (fun i => Env.same (a.getD i default) (b.getD i default)) = true by exact ⟨by omega, by omega, allTo_step hI.2.2 (by simpa [] using c2)⟩), (show a.length - (j + 1) < a.length - j by omega)⟩
   ·have c1 := of_decide_eq_false c1
    refine .exit ?_
    refine .seq ?_
    refine .reg (X := Unit) (fun ζ => .of [(4, .one (.d (.v (.bool (true)))))] []) [⟨[], some 4, [], []⟩] (fun k15 => ?_) ?_
    ·skip
     refine .assign (.no rfl) rfl rfl rfl rfl ?_
     exact .fin () (.of (.cons rfl .nil) .nil)
    intro _
    refine .ret ?_
    have e16 : (true) = (all2 Env.same a b) := by (have hj : j = a.length := (by omega); subst hj; exact (all2_done _ hI.2.1 hI.2.2).symm)
    have hc17 := eq1 (fun z1 => SV.one (.d (.v (.bool (z1))))) e16
    show _ ∧ _
    exact ⟨.inr rfl, .done ⟨_, [], [], _, .one (c := .d (.v (.bool (all2 Env.same a b)))) (hc17) .nil, .cons (Reads.d _).gives .nil, nodupB_ok rfl, by simp, (by simp)⟩⟩
theorem c_eqBoolS (a : List Bool) (b : List Bool) : Trip Tryz.prog 55 [(false, 1), (false, 1)] ([.sl false 4 1 (List.map boolc (a))] ++ [.sl false 4 1 (List.map boolc (b))]) [(false, 1)] [.v (.bool (all2 boolEq a b))] [] := by
 refine Trip.of Tryz.func55 (by decide) (c := _) rfl rfl (shB_ok rfl) (Nat.le_of_ble_eq_true rfl) rfl (AftOk.nil _) ?_
 refine .sat (t := 0) rfl (fun hs1 => ?_)
 have hs1l : a.length ≤ 9223372036854775807 := hs1.maplen
 refine .sat (t := 1) rfl (fun hs2 => ?_)
 have hs2l : b.length ≤ 9223372036854775807 := hs2.maplen
 refine .seq ?_
 refine .reg (X := Unit) (fun ζ => .of [(0, .one (.d (.sl false 4 1 (List.map boolc (a))))), (1, .one (.d (.sl false 4 1 (List.map boolc (b)))))] []) [⟨[], some 4, [], []⟩] (fun k3 => ?_) ?_
 ·skip
  refine .assign (.no rfl) rfl rfl rfl rfl ?_
  exact .fin () (.of (.cons rfl (.cons rfl .nil)) .nil)
 intro _
 refine .seq ?_
 refine .seq ?_
 refine .reg (X := Unit) (fun ζ => .of [(0, .one (.d (.sl false 4 1 (List.map boolc (a))))), (1, .one (.d (.sl false 4 1 (List.map boolc (b))))), (10, .one (.d (.v (.bool ((a.length : Int) != (b.length : Int))))))] []) [⟨[0], some 6, [], []⟩, ⟨[6], some 7, [], []⟩, ⟨[1], some 8, [], []⟩, ⟨[8], some 9, [], []⟩, ⟨[7, 9], some 10, [], []⟩] (fun k4 => ?_) ?_
 ·skip
  refine .move (.no rfl) rfl rfl rfl rfl ?_
  refine .len (.no rfl) rfl (z := (a.length : Int)) t28 rfl rfl rfl (.d _ _) (map_len _ _) rfl ?_
  refine .move (.no rfl) rfl rfl rfl rfl ?_
  refine .len (.no rfl) rfl (z := (b.length : Int)) t28 rfl rfl rfl (.d _ _) (map_len _ _) rfl ?_
  refine .bin (.no rfl) rfl rfl rfl rfl rfl rfl ?_
  exact .fin () (.of (.cons rfl (.cons rfl (.cons rfl .nil))) .nil)
 intro _
 refine .cond (t := (a.length : Int) != (b.length : Int)) rfl (fun c0 => ?_) (fun c0 => ?_)
 ·have c0 := (by simpa using c0 : ¬ ((a.length : Int) = (b.length : Int)))
  refine .seq ?_
  refine .reg (X := Unit) (fun ζ => .of [(4, .one (.d (.v (.bool (false)))))] []) [⟨[], some 4, [], []⟩] (fun k5 => ?_) ?_
  ·skip
   refine .assign (.no rfl) rfl rfl rfl rfl ?_
   exact .fin () (.of (.cons rfl .nil) .nil)
  intro _
  refine .ret ?_
  have e6 : (false) = (all2 boolEq a b) := by exact (all2_ne _ c0).symm
  have hc7 := eq1 (fun z1 => SV.one (.d (.v (.bool (z1))))) e6
  show _ ∧ _
  exact ⟨.inr rfl, .done ⟨_, [], [], _, .one (c := .d (.v (.bool (all2 boolEq a b)))) (hc7) .nil, .cons (Reads.d _).gives .nil, nodupB_ok rfl, by simp, (by simp)⟩⟩
 ·have c0 := (by simpa using c0 : (a.length : Int) = (b.length : Int))
  refine .skip ?_
  refine .seq ?_
  refine .seq ?_
  refine .reg (X := Unit) (fun ζ => .of [(0, .one (.d (.sl false 4 1 (List.map boolc (a))))), (1, .one (.d (.sl false 4 1 (List.map boolc (b))))), (5, .one (.d (.v (.int .i64 (0)))))] []) [⟨[], some 5, [], []⟩] (fun k8 => ?_) ?_
  ·skip
   refine .assign (.no rfl) rfl rfl rfl rfl ?_
   exact .fin () (.of (.cons rfl (.cons rfl (.cons rfl .nil))) .nil)
  intro _
  refine .block ?_
  refine .loop (X := Nat) (fun ζ => .of [(0, .one (.d (.sl false 4 1 (List.map boolc (a))))), (1, .one (.d (.sl false 4 1 (List.map boolc (b))))), (5, .one (.d (.v (.int .i64 ((ζ : Int))))))] []) (fun ζ => ζ ≤ a.length ∧ a.length = b.length ∧ allTo ζ (fun i => boolEq (a.getD i default) (b.getD i default)) = true) (fun ζ => a.length - ζ) ?_ ?_
  ·skip
   exact .here 0 (.of (.cons rfl (.cons rfl (.cons (svI (show (0) = ((0 : Int)) by first | rfl | omega | exact wrap_le (by omega) (by omega) | (rw [wrap_le (by omega) (by omega)]; omega))) .nil))) .nil) (show 0 ≤ a.length ∧ a.length = b.length ∧ allTo 0 (fun i => boolEq (a.getD i default) (b.getD i default)) = true by exact ⟨by omega, by omega, rfl⟩)
  ·rintro j hI
   have hI : j ≤ a.length ∧ a.length = b.length ∧ allTo j (fun i => boolEq (a.getD i default) (b.getD i default)) = true := hI
   refine .seq ?_
   refine .seq ?_
   refine .reg (X := Unit) (fun ζ => .of [(0, .one (.d (.sl false 4 1 (List.map boolc (a))))), (1, .one (.d (.sl false 4 1 (List.map boolc (b))))), (5, .one (.d (.v (.int .i64 ((j : Int)))))), (14, .one (.d (.v (.bool (decide ((j : Int) < (a.length : Int)))))))] []) [⟨[5], some 11, [], []⟩, ⟨[0], some 12, [], []⟩, ⟨[12], some 13, [], []⟩, ⟨[11, 13], some 14, [], []⟩] (fun k9 => ?_) ?_
   ·skip
    refine .move (.no rfl) rfl rfl rfl rfl ?_
    refine .move (.no rfl) rfl rfl rfl rfl ?_
    refine .len (.no rfl) rfl (z := (a.length : Int)) t28 rfl rfl rfl (.d _ _) (map_len _ _) rfl ?_
    refine .bin (.no rfl) rfl rfl rfl rfl rfl rfl ?_
    exact .fin () (.of (.cons rfl (.cons rfl (.cons rfl (.cons rfl .nil)))) .nil)
   intro _
   refine .cond (t := decide ((j : Int) < (a.length : Int))) rfl (fun c1 => ?_) (fun c1 => ?_)
   ·have c1 := of_decide_eq_true c1
    refine .skip ?_
    refine .seq ?_
    refine .block ?_
    refine .seq ?_
    refine .regD (X := Unit) (by kernel_rfl) (fun ζ => .of [(0, .one (.d (.sl false 4 1 (List.map boolc (a))))), (1, .one (.d (.sl false 4 1 (List.map boolc (b))))), (5, .one (.d (.v (.int .i64 ((j : Int)))))), (25, .one (.d (.v (.bool ((a.getD j default) != (b.getD j default))))))] []) [⟨[0], some 17, [], []⟩, ⟨[5], some 18, [], []⟩, ⟨[17, 18], some 19, [], []⟩, ⟨[19], some 20, [], []⟩, ⟨[1], some 21, [], []⟩, ⟨[5], some 22, [], []⟩, ⟨[21, 22], some 23, [], []⟩, ⟨[23], some 24, [], []⟩, ⟨[20, 24], some 25, [], []⟩] (by kernel_rfl) (fun k10 => ?_) ?_
    ·skip
     refine .move (.no rfl) rfl rfl rfl rfl ?_
     refine .move (.no rfl) rfl rfl rfl rfl ?_
     refine .indexAddr (.no rfl) rfl (j) t28 rfl t4 rfl rfl rfl (.d _ _) rfl rfl rfl (map_get (by omega)) rfl rfl ?_
     refine .load (.no rfl) rfl t4 rfl rfl (.d _) rfl rfl rfl rfl ?_
     refine .move (.no rfl) rfl rfl rfl rfl ?_
     refine .move (.no rfl) rfl rfl rfl rfl ?_
     refine .indexAddr (.no rfl) rfl (j) t28 rfl t4 rfl rfl rfl (.d _ _) rfl rfl rfl (map_get (by omega)) rfl rfl ?_
     refine .load (.no rfl) rfl t4 rfl rfl (.d _) rfl rfl rfl rfl ?_
     refine .neB (.no rfl) rfl t4 rfl rfl rfl rfl rfl ?_
     exact .fin () (.of (.cons rfl (.cons rfl (.cons rfl (.cons rfl .nil)))) .nil)
    intro _
    refine .cond (t := (a.getD j default) != (b.getD j default)) rfl (fun c2 => ?_) (fun c2 => ?_)
    ·have c2 := (by simpa using c2 : ¬ ((a.getD j default) = (b.getD j default)))
     refine .seq ?_
     refine .reg (X := Unit) (fun ζ => .of [(4, .one (.d (.v (.bool (false)))))] []) [⟨[], some 4, [], []⟩] (fun k11 => ?_) ?_
     ·skip
      refine .assign (.no rfl) rfl rfl rfl rfl ?_
      exact .fin () (.of (.cons rfl .nil) .nil)
     intro _
     refine .ret ?_
     have e12 : (false) = (all2 boolEq a b) := by exact (all2_fail _ (j := j) (by omega) (by simpa [boolEq] using c2)).symm
     have hc13 := eq1 (fun z1 => SV.one (.d (.v (.bool (z1))))) e12
     show _ ∧ _
     exact ⟨.inr rfl, .done ⟨_, [], [], _, .one (c := .d (.v (.bool (all2 boolEq a b)))) (hc13) .nil, .cons (Reads.d _).gives .nil, nodupB_ok rfl, by simp, (by simp)⟩⟩
    ·have c2 := (by simpa using c2 : (a.getD j default) = (b.getD j default))
     refine .skip ?_
     refine .reg (X := Unit) (fun ζ => .of [(0, .one (.d (.sl false 4 1 (List.map boolc (a))))), (1, .one (.d (.sl false 4 1 (List.map boolc (b))))), (5, .one (.d (.v (.int .i64 (IntKind.wrap .i64 ((j : Int) + 1))))))] []) [⟨[5], some 15, [], []⟩, ⟨[15], some 16, [], []⟩, ⟨[16], some 5, [], []⟩] (fun k14 => ?_) ?_
     ·skip
      refine .move (.no rfl) rfl rfl rfl rfl ?_
      refine .bin (.no rfl) rfl rfl rfl rfl rfl rfl ?_
      refine .assign (.no rfl) rfl rfl rfl rfl ?_
      exact .fin () (.of (.cons rfl (.cons rfl (.cons rfl .nil))) .nil)
     intro _
     exact .here (j + 1) (.of (.cons rfl (.cons rfl (.cons (svI (show (IntKind.wrap .i64 ((j : Int) + 1)) = (((j + 1) : Int)) by first | rfl | omega | exact wrap_le (by omega) (by omega) | (rw [wrap_le (by omega) (by omega)]; omega))) .nil))) .nil) ⟨(show (j + 1) ≤ a.length ∧ a.length = b.length ∧ allTo (j + 1) (fun i => boolEq (a.getD i default) (b.getD i default)) = true by exact ⟨by omega, by omega, allTo_step hI.2.2 (by simpa [boolEq] using c2)⟩), (show a.length - (j + 1) < a.length - j by omega)⟩
   ·have c1 := of_decide_eq_false c1
    refine .exit ?_
    refine .seq ?_
    refine .reg (X := Unit) (fun ζ => .of [(4, .one (.d (.v (.bool (true)))))] []) [⟨[], some 4, [], []⟩] (fun k15 => ?_) ?_
    ·skip
     refine .assign (.no rfl) rfl rfl rfl rfl ?_
     exact .fin () (.of (.cons rfl .nil) .nil)
    intro _
    refine .ret ?_
    have e16 : (true) = (all2 boolEq a b) := by (have hj : j = a.length := (by omega); subst hj; exact (all2_done _ hI.2.1 hI.2.2).symm)
    have hc17 := eq1 (fun z1 => SV.one (.d (.v (.bool (z1))))) e16
    show _ ∧ _
    exact ⟨.inr rfl, .done ⟨_, [], [], _, .one (c := .d (.v (.bool (all2 boolEq a b)))) (hc17) .nil, .cons (Reads.d _).gives .nil, nodupB_ok rfl, by simp, (by simp)⟩⟩
theorem c_eqInt64SS (a : List (List Int)) (b : List (List Int)) : Trip Tryz.prog 56 [(false, 1), (false, 1)] ([.sl false 27 1 (List.map slc27 (a))] ++ [.sl false 27 1 (List.map slc27 (b))]) [(false, 1)] [.v (.bool (all2 (all2 intEq) a b))] [] := by
 refine Trip.of Tryz.func56 (by decide) (c := _) rfl rfl (shB_ok rfl) (Nat.le_of_ble_eq_true rfl) rfl (AftOk.nil _) ?_
 refine .sat (t := 0) rfl (fun hs1 => ?_)
 have hs1l : a.length ≤ 9223372036854775807 := hs1.maplen
 refine .sat (t := 1) rfl (fun hs2 => ?_)
 have hs2l : b.length ≤ 9223372036854775807 := hs2.maplen
 refine .seq ?_
 refine .reg (X := Unit) (fun ζ => .of [(0, .one (.d (.sl false 27 1 (List.map slc27 (a))))), (1, .one (.d (.sl false 27 1 (List.map slc27 (b)))))] []) [⟨[], some 4, [], []⟩] (fun k3 => ?_) ?_
 ·skip
  refine .assign (.no rfl) rfl rfl rfl rfl ?_
  exact .fin () (.of (.cons rfl (.cons rfl .nil)) .nil)
 intro _
 refine .seq ?_
 refine .seq ?_
 refine .reg (X := Unit) (fun ζ => .of [(0, .one (.d (.sl false 27 1 (List.map slc27 (a))))), (1, .one (.d (.sl false 27 1 (List.map slc27 (b))))), (10, .one (.d (.v (.bool ((a.length : Int) != (b.length : Int))))))] []) [⟨[0], some 6, [], []⟩, ⟨[6], some 7, [], []⟩, ⟨[1], some 8, [], []⟩, ⟨[8], some 9, [], []⟩, ⟨[7, 9], some 10, [], []⟩] (fun k4 => ?_) ?_
 ·skip
  refine .move (.no rfl) rfl rfl rfl rfl ?_
  refine .len (.no rfl) rfl (z := (a.length : Int)) t29 rfl rfl rfl (.d _ _) (map_len _ _) rfl ?_
  refine .move (.no rfl) rfl rfl rfl rfl ?_
  refine .len (.no rfl) rfl (z := (b.length : Int)) t29 rfl rfl rfl (.d _ _) (map_len _ _) rfl ?_
  refine .bin (.no rfl) rfl rfl rfl rfl rfl rfl ?_
  exact .fin () (.of (.cons rfl (.cons rfl (.cons rfl .nil))) .nil)
 intro _
 refine .cond (t := (a.length : Int) != (b.length : Int)) rfl (fun c0 => ?_) (fun c0 => ?_)
 ·have c0 := (by simpa using c0 : ¬ ((a.length : Int) = (b.length : Int)))
  refine .seq ?_
  refine .reg (X := Unit) (fun ζ => .of [(4, .one (.d (.v (.bool (false)))))] []) [⟨[], some 4, [], []⟩] (fun k5 => ?_) ?_
  ·skip
   refine .assign (.no rfl) rfl rfl rfl rfl ?_
   exact .fin () (.of (.cons rfl .nil) .nil)
  intro _
  refine .ret ?_
  have e6 : (false) = (all2 (all2 intEq) a b) := by exact (all2_ne _ c0).symm
  have hc7 := eq1 (fun z1 => SV.one (.d (.v (.bool (z1))))) e6
  show _ ∧ _
  exact ⟨.inr rfl, .done ⟨_, [], [], _, .one (c := .d (.v (.bool (all2 (all2 intEq) a b)))) (hc7) .nil, .cons (Reads.d _).gives .nil, nodupB_ok rfl, by simp, (by simp)⟩⟩
 ·have c0 := (by simpa using c0 : (a.length : Int) = (b.length : Int))
  refine .skip ?_
  refine .seq ?_
  refine .seq ?_
  refine .reg (X := Unit) (fun ζ => .of [(0, .one (.d (.sl false 27 1 (List.map slc27 (a))))), (1, .one (.d (.sl false 27 1 (List.map slc27 (b))))), (5, .one (.d (.v (.int .i64 (0)))))] []) [⟨[], some 5, [], []⟩] (fun k8 => ?_) ?_
  ·skip
   refine .assign (.no rfl) rfl rfl rfl rfl ?_
   exact .fin () (.of (.cons rfl (.cons rfl (.cons rfl .nil))) .nil)
  intro _
  refine .block ?_
  refine .loop (X := Nat) (fun ζ => .of [(0, .one (.d (.sl false 27 1 (List.map slc27 (a))))), (1, .one (.d (.sl false 27 1 (List.map slc27 (b))))), (5, .one (.d (.v (.int .i64 ((ζ : Int))))))] []) (fun ζ => ζ ≤ a.length ∧ a.length = b.length ∧ allTo ζ (fun i => (all2 intEq) (a.getD i default) (b.getD i default)) = true) (fun ζ => a.length - ζ) ?_ ?_
  ·skip
   exact .here 0 (.of (.cons rfl (.cons rfl (.cons (svI (show (0) = ((0 : Int)) by first | rfl | omega | exact wrap_le (by omega) (by omega) | (rw [wrap_le (by omega) (by omega)]; omega))) .nil))) .nil) (show 0 ≤ a.length ∧ a.length = b.length ∧ allTo 0 (fun i => (all2 intEq) (a.getD i default) (b.getD i default)) = true by exact ⟨by omega, by omega, rfl⟩)
  ·rintro j hI
   have hI : j ≤ a.length ∧ a.length = b.length ∧ allTo j (fun i => (all2 intEq) (a.getD i default) (b.getD i default)) = true := hI
   refine .seq ?_
   refine .seq ?_
   refine .reg (X := Unit) (fun ζ => .of [(0, .one (.d (.sl false 27 1 (List.map slc27 (a))))), (1, .one (.d (.sl false 27 1 (List.map slc27 (b))))), (5, .one (.d (.v (.int .i64 ((j : Int)))))), (14, .one (.d (.v (.bool (decide ((j : Int) < (a.length : Int)))))))] []) [⟨[5], some 11, [], []⟩, ⟨[0], some 12, [], []⟩, ⟨[12], some 13, [], []⟩, ⟨[11, 13], some 14, [], []⟩] (fun k9 => ?_) ?_
   ·skip
    refine .move (.no rfl) rfl rfl rfl rfl ?_
    refine .move (.no rfl) rfl rfl rfl rfl ?_
    refine .len (.no rfl) rfl (z := (a.length : Int)) t29 rfl rfl rfl (.d _ _) (map_len _ _) rfl ?_
    refine .bin (.no rfl) rfl rfl rfl rfl rfl rfl ?_
    exact .fin () (.of (.cons rfl (.cons rfl (.cons rfl (.cons rfl .nil)))) .nil)
   intro _
   refine .cond (t := decide ((j : Int) < (a.length : Int))) rfl (fun c1 => ?_) (fun c1 => ?_)
   ·have c1 := of_decide_eq_true c1
    refine .skip ?_
    refine .seq ?_
    refine .block ?_
    refine .seq ?_
    refine .regD (X := Unit) (by kernel_rfl) (fun ζ => .of [(0, .one (.d (.sl false 27 1 (List.map slc27 (a))))), (1, .one (.d (.sl false 27 1 (List.map slc27 (b))))), (5, .one (.d (.v (.int .i64 ((j : Int)))))), (26, .one (.d (.v (.bool (!(all2 intEq (a.getD j default) (b.getD j default)))))))] []) [⟨[0], some 17, [], []⟩, ⟨[5], some 18, [], []⟩, ⟨[17, 18], some 19, [], []⟩, ⟨[19], some 20, [], []⟩, ⟨[1], some 21, [], []⟩, ⟨[5], some 22, [], []⟩, ⟨[21, 22], some 23, [], []⟩, ⟨[23], some 24, [], []⟩, ⟨[20, 24], some 25, [], []⟩, ⟨[25], some 26, [], []⟩] (by kernel_rfl) (fun k10 => ?_) ?_
    ·skip
     refine .move (.no rfl) rfl rfl rfl rfl ?_
     refine .move (.no rfl) rfl rfl rfl rfl ?_
     refine .indexAddr (.no rfl) rfl (j) t29 rfl t27 rfl rfl rfl (.d _ _) rfl rfl rfl (map_get (by omega)) rfl rfl ?_
     refine .load (.no rfl) rfl t27 rfl rfl (.d _) rfl rfl rfl rfl ?_
     refine .move (.no rfl) rfl rfl rfl rfl ?_
     refine .move (.no rfl) rfl rfl rfl rfl ?_
     refine .indexAddr (.no rfl) rfl (j) t29 rfl t27 rfl rfl rfl (.d _ _) rfl rfl rfl (map_get (by omega)) rfl rfl ?_
     refine .load (.no rfl) rfl t27 rfl rfl (.d _) rfl rfl rfl rfl ?_
     refine .call (.no rfl) rfl [] [] (c_eqInt64S (a.getD j default) (b.getD j default)) rfl rfl rfl rfl rfl (.cons (Reads.d _).gives (.cons (Reads.d _).gives .nil)) rfl rfl (fun h => absurd rfl h) (.own [25, 0] .nil) (.nil) rfl rfl rfl (by simp) rfl rfl rfl ?_
     refine .un (.no rfl) rfl rfl rfl rfl rfl ?_
     exact .fin () (.of (.cons rfl (.cons rfl (.cons rfl (.cons rfl .nil)))) .nil)
    intro _
    refine .cond (t := !(all2 intEq (a.getD j default) (b.getD j default))) rfl (fun c2 => ?_) (fun c2 => ?_)
    ·have c2 := c2
     try simp only [Bool.or_eq_true, Bool.or_eq_false_iff, Bool.and_eq_true, Bool.and_eq_false_iff, decide_eq_true_eq, decide_eq_false_iff_not, Bool.not_eq_true', Bool.not_eq_false', bne_iff_ne, beq_iff_eq, bne_eq_false_iff_eq, beq_eq_false_iff_ne, ne_eq, Bool.not_eq_eq_eq_not, Bool.not_true, Bool.not_false] at c2
     refine .seq ?_
     refine .reg (X := Unit) (fun ζ => .of [(4, .one (.d (.v (.bool (false)))))] []) [⟨[], some 4, [], []⟩] (fun k11 => ?_) ?_
     ·skip
      refine .assign (.no rfl) rfl rfl rfl rfl ?_
      exact .fin () (.of (.cons rfl .nil) .nil)
     intro _
     refine .ret ?_
     have e12 : (false) = (all2 (all2 intEq) a b) := by exact (all2_fail _ (j := j) (by omega) (by simpa [] using c2)).symm
     have hc13 := eq1 (fun z1 => SV.one (.d (.v (.bool (z1))))) e12
     show _ ∧ _
     exact ⟨.inr rfl, .done ⟨_, [], [], _, .one (c := .d (.v (.bool (all2 (all2 intEq) a b)))) (hc13) .nil, .cons (Reads.d _).gives .nil, nodupB_ok rfl, by simp, (by simp)⟩⟩
    ·have c2 := c2
     try simp only [Bool.or_eq_true, Bool.or_eq_false_iff, Bool.and_eq_true, Bool.and_eq_false_iff, decide_eq_true_eq, decide_eq_false_iff_not, Bool.not_eq_true', Bool.not_eq_false', bne_iff_ne, beq_iff_eq, bne_eq_false_iff_eq, beq_eq_false_iff_ne, ne_eq, Bool.not_eq_eq_eq_not, Bool.not_true, Bool.not_false] at c2
     refine .skip ?_
     refine .reg (X := Unit) (fun ζ => .of [(0, .one (.d (.sl false 27 1 (List.map slc27 (a))))), (1, .one (.d (.sl false 27 1 (List.map slc27 (b))))), (5, .one (.d (.v (.int .i64 (IntKind.wrap .i64 ((j : Int) + 1))))))] []) [⟨[5], some 15, [], []⟩, ⟨[15], some 16, [], []⟩, ⟨[16], some 5, [], []⟩] (fun k14 => ?_) ?_
     ·skip
      refine .move (.no rfl) rfl rfl rfl rfl ?_
      refine .bin (.no rfl) rfl rfl rfl rfl rfl rfl ?_
      refine .assign (.no rfl) rfl rfl rfl rfl ?_
      exact .fin () (.of (.cons rfl (.cons rfl (.cons rfl .nil))) .nil)
     intro _
     exact .here (j + 1) (.of (.cons rfl (.cons rfl (.cons (svI (show (IntKind.wrap .i64 ((j : Int) + 1)) = (((j + 1) : Int)) by first | rfl | omega | exact wrap_le (by omega) (by omega) | (rw [wrap_le (by omega) (by omega)]; omega))) .nil))) .nil) ⟨(show (j + 1) ≤ a.length ∧ a.length = b.length ∧ allTo (j + 1) (fun i => (all2 intEq) (a.getD i default) (b.getD i default)) = true by exact ⟨by omega, by omega, allTo_step hI.2.2 (by simpa [] using c2)⟩), (show a.length - (j + 1) < a.length - j by omega)⟩
   ·have c1 := of_decide_eq_false c1
    refine .exit ?_
    refine .seq ?_
    refine .reg (X := Unit) (fun ζ => .of [(4, .one (.d (.v (.bool (true)))))] []) [⟨[], some 4, [], []⟩] (fun k15 => ?_) ?_
    ·skip
     refine .assign (.no rfl) rfl rfl rfl rfl ?_
     exact .fin () (.of (.cons rfl .nil) .nil)
    intro _
    refine .ret ?_
    have e16 : (true) = (all2 (all2 intEq) a b) := by (have hj : j = a.length := (by omega); subst hj; exact (all2_done _ hI.2.1 hI.2.2).symm)
    have hc17 := eq1 (fun z1 => SV.one (.d (.v (.bool (z1))))) e16
    show _ ∧ _
    exact ⟨.inr rfl, .done ⟨_, [], [], _, .one (c := .d (.v (.bool (all2 (all2 intEq) a b)))) (hc17) .nil, .cons (Reads.d _).gives .nil, nodupB_ok rfl, by simp, (by simp)⟩⟩
theorem c_eqStore (a : Store) (b : Store) : Trip Tryz.prog 17 [(true, 3), (true, 3)] (Store.c42 a ++ Store.c42 b) [(false, 1)] [.v (.bool (Store.same a b))] [] := by
 refine Trip.of Tryz.func17 (by decide) (c := _) rfl rfl (shB_ok rfl) (Nat.le_of_ble_eq_true rfl) rfl (AftOk.nil _) ?_
 refine .satA (t := 0) (i := 0) rfl rfl (fun hs1 => ?_)
 have hs1l : a.ints.length ≤ 9223372036854775807 := hs1.maplen
 refine .satA (t := 0) (i := 1) rfl rfl (fun hs2 => ?_)
 have hs2l : a.flags.length ≤ 9223372036854775807 := hs2.maplen
 refine .satA (t := 0) (i := 2) rfl rfl (fun hs3 => ?_)
 have hs3l : a.arrs.length ≤ 9223372036854775807 := hs3.maplen
 refine .satA (t := 1) (i := 0) rfl rfl (fun hs4 => ?_)
 have hs4l : b.ints.length ≤ 9223372036854775807 := hs4.maplen
 refine .satA (t := 1) (i := 1) rfl rfl (fun hs5 => ?_)
 have hs5l : b.flags.length ≤ 9223372036854775807 := hs5.maplen
 refine .satA (t := 1) (i := 2) rfl rfl (fun hs6 => ?_)
 have hs6l : b.arrs.length ≤ 9223372036854775807 := hs6.maplen
 refine .seq ?_
 refine .reg (X := Nat × Nat) (fun ζ => .of [(2, .one (.ptr [2] (ζ.1) 0)), (3, .one (.ptr [3] (ζ.2) 0))] [([2], (ζ.1, ζ.1, .box [.d (.sl false 2 1 (List.map i64c (a.ints))), .d (.sl false 4 1 (List.map boolc (a.flags))), .d (.sl false 27 1 (List.map slc27 (a.arrs)))])), ([3], (ζ.2, ζ.2, .box [.d (.sl false 2 1 (List.map i64c (b.ints))), .d (.sl false 4 1 (List.map boolc (b.flags))), .d (.sl false 27 1 (List.map slc27 (b.arrs)))]))]) [⟨[0], some 2, [], [[2]]⟩, ⟨[1], some 3, [], [[3]]⟩, ⟨[], some 4, [], []⟩] (fun k7 => ?_) ?_
 ·skip
  refine .box (.no rfl) rfl rfl rfl rfl rfl ?_
  refine .box (.no rfl) rfl rfl rfl rfl rfl ?_
  refine .assign (.no rfl) rfl rfl rfl rfl ?_
  exact .fin (k7, k7 + 1) (.of (.cons rfl (.cons rfl .nil)) (.cons rfl (.cons rfl .nil)))
 rintro ⟨g8, g9⟩
 refine .seq ?_
 refine .seq ?_
 refine .reg (X := Unit) (fun ζ => .of [(2, .one (.ptr [2] (g8) 0)), (3, .one (.ptr [3] (g9) 0)), (10, .one (.d (.v (.bool (!(all2 intEq a.ints b.ints))))))] [([2], (g8, g8, .box [.d (.sl false 2 1 (List.map i64c (a.ints))), .d (.sl false 4 1 (List.map boolc (a.flags))), .d (.sl false 27 1 (List.map slc27 (a.arrs)))])), ([3], (g9, g9, .box [.d (.sl false 2 1 (List.map i64c (b.ints))), .d (.sl false 4 1 (List.map boolc (b.flags))), .d (.sl false 27 1 (List.map slc27 (b.arrs)))]))]) [⟨[2], some 5, [], []⟩, ⟨[5], some 6, [[2]], []⟩, ⟨[3], some 7, [], []⟩, ⟨[7], some 8, [[3]], []⟩, ⟨[6, 8], some 9, [], []⟩, ⟨[9], some 10, [], []⟩] (fun k10 => ?_) ?_
 ·skip
  refine .fieldAddrP (.no rfl) rfl t42 rfl rfl t27 rfl rfl rfl rfl ?_
  refine .load (.no rfl) rfl t27 rfl rfl (.ptr _ _ _ _ _ rfl) rfl rfl rfl rfl ?_
  refine .fieldAddrP (.no rfl) rfl t42 rfl rfl t27 rfl rfl rfl rfl ?_
  refine .load (.no rfl) rfl t27 rfl rfl (.ptr _ _ _ _ _ rfl) rfl rfl rfl rfl ?_
  refine .call (.no rfl) rfl [] [] (c_eqInt64S a.ints b.ints) rfl rfl rfl rfl rfl (.cons (Reads.d _).gives (.cons (Reads.d _).gives .nil)) rfl rfl (fun h => absurd rfl h) (.own [9, 0] .nil) (.nil) rfl rfl rfl (by simp) rfl rfl rfl ?_
  refine .un (.no rfl) rfl rfl rfl rfl rfl ?_
  exact .fin () (.of (.cons rfl (.cons rfl (.cons rfl .nil))) (.cons rfl (.cons rfl .nil)))
 intro _
 refine .cond (t := !(all2 intEq a.ints b.ints)) rfl (fun c0 => ?_) (fun c0 => ?_)
 ·have c0 := c0
  try simp only [Bool.or_eq_true, Bool.or_eq_false_iff, Bool.and_eq_true, Bool.and_eq_false_iff, decide_eq_true_eq, decide_eq_false_iff_not, Bool.not_eq_true', Bool.not_eq_false', bne_iff_ne, beq_iff_eq, bne_eq_false_iff_eq, beq_eq_false_iff_ne, ne_eq, Bool.not_eq_eq_eq_not, Bool.not_true, Bool.not_false] at c0
  refine .seq ?_
  refine .reg (X := Unit) (fun ζ => .of [(4, .one (.d (.v (.bool (false)))))] []) [⟨[], some 4, [], []⟩] (fun k11 => ?_) ?_
  ·skip
   refine .assign (.no rfl) rfl rfl rfl rfl ?_
   exact .fin () (.of (.cons rfl .nil) .nil)
  intro _
  refine .ret ?_
  have e12 : (false) = (Store.same a b) := by (simp_all [Store.same])
  have hc13 := eq1 (fun z1 => SV.one (.d (.v (.bool (z1))))) e12
  show _ ∧ _
  exact ⟨.inr rfl, .done ⟨_, [], [], _, .one (c := .d (.v (.bool (Store.same a b)))) (hc13) .nil, .cons (Reads.d _).gives .nil, nodupB_ok rfl, by simp, (by simp)⟩⟩
 ·have c0 := c0
  try simp only [Bool.or_eq_true, Bool.or_eq_false_iff, Bool.and_eq_true, Bool.and_eq_false_iff, decide_eq_true_eq, decide_eq_false_iff_not, Bool.not_eq_true', Bool.not_eq_false', bne_iff_ne, beq_iff_eq, bne_eq_false_iff_eq, beq_eq_false_iff_ne, ne_eq, Bool.not_eq_eq_eq_not, Bool.not_true, Bool.not_false] at c0
  refine .skip ?_
  refine .seq ?_
  refine .seq ?_
  refine .reg (X := Unit) (fun ζ => .of [(2, .one (.ptr [2] (g8) 0)), (3, .one (.ptr [3] (g9) 0)), (16, .one (.d (.v (.bool (!(all2 boolEq a.flags b.flags))))))] [([2], (g8, g8, .box [.d (.sl false 2 1 (List.map i64c (a.ints))), .d (.sl false 4 1 (List.map boolc (a.flags))), .d (.sl false 27 1 (List.map slc27 (a.arrs)))])), ([3], (g9, g9, .box [.d (.sl false 2 1 (List.map i64c (b.ints))), .d (.sl false 4 1 (List.map boolc (b.flags))), .d (.sl false 27 1 (List.map slc27 (b.arrs)))]))]) [⟨[2], some 11, [], []⟩, ⟨[11], some 12, [[2]], []⟩, ⟨[3], some 13, [], []⟩, ⟨[13], some 14, [[3]], []⟩, ⟨[12, 14], some 15, [], []⟩, ⟨[15], some 16, [], []⟩] (fun k14 => ?_) ?_
  ·skip
   refine .fieldAddrP (.no rfl) rfl t42 rfl rfl t28 rfl rfl rfl rfl ?_
   refine .load (.no rfl) rfl t28 rfl rfl (.ptr _ _ _ _ _ rfl) rfl rfl rfl rfl ?_
   refine .fieldAddrP (.no rfl) rfl t42 rfl rfl t28 rfl rfl rfl rfl ?_
   refine .load (.no rfl) rfl t28 rfl rfl (.ptr _ _ _ _ _ rfl) rfl rfl rfl rfl ?_
   refine .call (.no rfl) rfl [] [] (c_eqBoolS a.flags b.flags) rfl rfl rfl rfl rfl (.cons (Reads.d _).gives (.cons (Reads.d _).gives .nil)) rfl rfl (fun h => absurd rfl h) (.own [15, 0] .nil) (.nil) rfl rfl rfl (by simp) rfl rfl rfl ?_
   refine .un (.no rfl) rfl rfl rfl rfl rfl ?_
   exact .fin () (.of (.cons rfl (.cons rfl (.cons rfl .nil))) (.cons rfl (.cons rfl .nil)))
  intro _
  refine .cond (t := !(all2 boolEq a.flags b.flags)) rfl (fun c1 => ?_) (fun c1 => ?_)
  ·have c1 := c1
   try simp only [Bool.or_eq_true, Bool.or_eq_false_iff, Bool.and_eq_true, Bool.and_eq_false_iff, decide_eq_true_eq, decide_eq_false_iff_not, Bool.not_eq_true', Bool.not_eq_false', bne_iff_ne, beq_iff_eq, bne_eq_false_iff_eq, beq_eq_false_iff_ne, ne_eq, Bool.not_eq_eq_eq_not, Bool.not_true, Bool.not_false] at c1
   refine .seq ?_
   refine .reg (X := Unit) (fun ζ => .of [(4, .one (.d (.v (.bool (false)))))] []) [⟨[], some 4, [], []⟩] (fun k15 => ?_) ?_
   ·skip
    refine .assign (.no rfl) rfl rfl rfl rfl ?_
    exact .fin () (.of (.cons rfl .nil) .nil)
   intro _
   refine .ret ?_
   have e16 : (false) = (Store.same a b) := by (simp_all [Store.same])
   have hc17 := eq1 (fun z1 => SV.one (.d (.v (.bool (z1))))) e16
   show _ ∧ _
   exact ⟨.inr rfl, .done ⟨_, [], [], _, .one (c := .d (.v (.bool (Store.same a b)))) (hc17) .nil, .cons (Reads.d _).gives .nil, nodupB_ok rfl, by simp, (by simp)⟩⟩
  ·have c1 := c1
   try simp only [Bool.or_eq_true, Bool.or_eq_false_iff, Bool.and_eq_true, Bool.and_eq_false_iff, decide_eq_true_eq, decide_eq_false_iff_not, Bool.not_eq_true', Bool.not_eq_false', bne_iff_ne, beq_iff_eq, bne_eq_false_iff_eq, beq_eq_false_iff_ne, ne_eq, Bool.not_eq_eq_eq_not, Bool.not_true, Bool.not_false] at c1
   refine .skip ?_
   refine .seq ?_
   refine .seq ?_
   refine .reg (X := Unit) (fun ζ => .of [(22, .one (.d (.v (.bool (!(all2 (all2 intEq) a.arrs b.arrs))))))] []) [⟨[2], some 17, [], []⟩, ⟨[17], some 18, [[2]], []⟩, ⟨[3], some 19, [], []⟩, ⟨[19], some 20, [[3]], []⟩, ⟨[18, 20], some 21, [], []⟩, ⟨[21], some 22, [], []⟩] (fun k18 => ?_) ?_
   ·skip
    refine .fieldAddrP (.no rfl) rfl t42 rfl rfl t29 rfl rfl rfl rfl ?_
    refine .load (.no rfl) rfl t29 rfl rfl (.ptr _ _ _ _ _ rfl) rfl rfl rfl rfl ?_
    refine .fieldAddrP (.no rfl) rfl t42 rfl rfl t29 rfl rfl rfl rfl ?_
    refine .load (.no rfl) rfl t29 rfl rfl (.ptr _ _ _ _ _ rfl) rfl rfl rfl rfl ?_
    refine .call (.no rfl) rfl [] [] (c_eqInt64SS a.arrs b.arrs) rfl rfl rfl rfl rfl (.cons (Reads.d _).gives (.cons (Reads.d _).gives .nil)) rfl rfl (fun h => absurd rfl h) (.own [21, 0] .nil) (.nil) rfl rfl rfl (by simp) rfl rfl rfl ?_
    refine .un (.no rfl) rfl rfl rfl rfl rfl ?_
    exact .fin () (.of (.cons rfl .nil) .nil)
   intro _
   refine .cond (t := !(all2 (all2 intEq) a.arrs b.arrs)) rfl (fun c2 => ?_) (fun c2 => ?_)
   ·have c2 := c2
    try simp only [Bool.or_eq_true, Bool.or_eq_false_iff, Bool.and_eq_true, Bool.and_eq_false_iff, decide_eq_true_eq, decide_eq_false_iff_not, Bool.not_eq_true', Bool.not_eq_false', bne_iff_ne, beq_iff_eq, bne_eq_false_iff_eq, beq_eq_false_iff_ne, ne_eq, Bool.not_eq_eq_eq_not, Bool.not_true, Bool.not_false] at c2
    refine .seq ?_
    refine .reg (X := Unit) (fun ζ => .of [(4, .one (.d (.v (.bool (false)))))] []) [⟨[], some 4, [], []⟩] (fun k19 => ?_) ?_
    ·skip
     refine .assign (.no rfl) rfl rfl rfl rfl ?_
     exact .fin () (.of (.cons rfl .nil) .nil)
    intro _
    refine .ret ?_
    have e20 : (false) = (Store.same a b) := by (simp_all [Store.same])
    have hc21 := eq1 (fun z1 => SV.one (.d (.v (.bool (z1))))) e20
    show _ ∧ _
    exact ⟨.inr rfl, .done ⟨_, [], [], _, .one (c := .d (.v (.bool (Store.same a b)))) (hc21) .nil, .cons (Reads.d _).gives .nil, nodupB_ok rfl, by simp, (by simp)⟩⟩
   ·have c2 := c2
    try simp only [Bool.or_eq_true, Bool.or_eq_false_iff, Bool.and_eq_true, Bool.and_eq_false_iff, decide_eq_true_eq, decide_eq_false_iff_not, Bool.not_eq_true', Bool.not_eq_false', bne_iff_ne, beq_iff_eq, bne_eq_false_iff_eq, beq_eq_false_iff_ne, ne_eq, Bool.not_eq_eq_eq_not, Bool.not_true, Bool.not_false] at c2
    refine .skip ?_
    refine .seq ?_
    refine .reg (X := Unit) (fun ζ => .of [(4, .one (.d (.v (.bool (true)))))] []) [⟨[], some 4, [], []⟩] (fun k22 => ?_) ?_
    ·skip
     refine .assign (.no rfl) rfl rfl rfl rfl ?_
     exact .fin () (.of (.cons rfl .nil) .nil)
    intro _
    refine .ret ?_
    have e23 : (true) = (Store.same a b) := by (simp_all [Store.same])
    have hc24 := eq1 (fun z1 => SV.one (.d (.v (.bool (z1))))) e23
    show _ ∧ _
    exact ⟨.inr rfl, .done ⟨_, [], [], _, .one (c := .d (.v (.bool (Store.same a b)))) (hc24) .nil, .cons (Reads.d _).gives .nil, nodupB_ok rfl, by simp, (by simp)⟩⟩
end Go.Proofs

namespace Go.Proofs
open Go Go.Proofs Go.Ev

def i160 : TI := ⟨.fn, 1, 8, [.nilFunc]⟩
theorem t160 : TyOk Tryz.prog 160 i160 := ⟨⟨_, _, _, Tryz.underlying160⟩, by kernel_rfl⟩
theorem z160 : ZOk Tryz.prog 160 i160 := ⟨t160, rfl⟩
theorem c_l8Size (d : Decl) : Trip Tryz.prog 79 [(true, 3)] (Decl.c38 d) [(false, 1)] [.v (.int .i64 (leavesOf d))] [] := by
 refine Trip.of Tryz.func79 (by decide) (c := _) rfl rfl (shB_ok rfl) (Nat.le_of_ble_eq_true rfl) rfl (AftOk.nil _) ?_
 refine .satA (t := 0) (i := 0) rfl rfl (fun hs1 => ?_)
 have hs1l : d.vars.length ≤ 9223372036854775807 := hs1.maplen
 refine .satA (t := 0) (i := 1) rfl rfl (fun hs2 => ?_)
 have hs2l : d.flags.length ≤ 9223372036854775807 := hs2.maplen
 refine .satA (t := 0) (i := 2) rfl rfl (fun hs3 => ?_)
 have hs3l : d.arrays.length ≤ 9223372036854775807 := hs3.maplen
 refine .seq ?_
 refine .reg (X := Nat) (fun ζ => .of [(1, .one (.ptr [1] (ζ) 0))] [([1], (ζ, ζ, .box [.d (.sl false 9 1 (List.map strc (d.vars))), .d (.sl false 9 1 (List.map strc (d.flags))), .d (.sl false 119 2 (List.map Arr.c (d.arrays)))]))]) [⟨[0], some 1, [], [[1]]⟩, ⟨[], some 2, [], []⟩] (fun k4 => ?_) ?_
 ·skip
  refine .box (.no rfl) rfl rfl rfl rfl rfl ?_
  refine .assign (.no rfl) rfl rfl rfl rfl ?_
  exact .fin k4 (.of (.cons rfl .nil) (.cons rfl .nil))
 intro g5
 refine .seq ?_
 refine .reg (X := Unit) (fun ζ => .of [(2, .one (.d (.v (.int .i64 (IntKind.wrap .i64 (1 * 2 ^ (min ((d.flags.length : Int)).toNat (IntKind.bits .i64))))))))] []) [⟨[1], some 3, [], []⟩, ⟨[3], some 4, [[1]], []⟩, ⟨[4], some 5, [], []⟩, ⟨[5], some 6, [], []⟩, ⟨[6], some 7, [], []⟩, ⟨[7], some 2, [], []⟩] (fun k6 => ?_) ?_
 ·skip
  refine .fieldAddrP (.no rfl) rfl t38 rfl rfl t22 rfl rfl rfl rfl ?_
  refine .load (.no rfl) rfl t22 rfl rfl (.ptr _ _ _ _ _ rfl) rfl rfl rfl rfl ?_
  refine .len (.no rfl) rfl (z := (d.flags.length : Int)) t22 rfl rfl rfl (.d _ _) (map_len _ _) rfl ?_
  refine .conv (.no rfl) rfl t3 t124 rfl rfl rfl rfl (wrap_u64 (by omega) (by omega)) rfl ?_
  refine .shl (.no rfl) rfl rfl rfl rfl (by omega) rfl rfl ?_
  refine .assign (.no rfl) rfl rfl rfl rfl ?_
  exact .fin () (.of (.cons rfl .nil) .nil)
 intro _
 refine .ret ?_
 have e7 : (IntKind.wrap .i64 (1 * 2 ^ (min ((d.flags.length : Int)).toNat (IntKind.bits .i64)))) = (leavesOf d) := by rfl
 have hc8 := eq1 (fun z1 => SV.one (.d (.v (.int .i64 (z1))))) e7
 show _ ∧ _
 exact ⟨.inr rfl, .done ⟨_, [], [], _, .one (c := .d (.v (.int .i64 (leavesOf d)))) (hc8) .nil, .cons (Reads.d _).gives .nil, nodupB_ok rfl, by simp, (by simp)⟩⟩
theorem c_leaves (d : Decl) : Trip Tryz.prog 120 [(true, 3)] (Decl.c38 d) [(false, 1)] [.v (.int .i64 (leavesOf d))] [] := by
 refine Trip.of Tryz.func120 (by decide) (c := _) rfl rfl (shB_ok rfl) (Nat.le_of_ble_eq_true rfl) rfl (AftOk.nil _) ?_
 refine .satA (t := 0) (i := 0) rfl rfl (fun hs1 => ?_)
 have hs1l : d.vars.length ≤ 9223372036854775807 := hs1.maplen
 refine .satA (t := 0) (i := 1) rfl rfl (fun hs2 => ?_)
 have hs2l : d.flags.length ≤ 9223372036854775807 := hs2.maplen
 refine .satA (t := 0) (i := 2) rfl rfl (fun hs3 => ?_)
 have hs3l : d.arrays.length ≤ 9223372036854775807 := hs3.maplen
 refine .seq ?_
 refine .reg (X := Nat) (fun ζ => .of [(1, .one (.ptr [1] (ζ) 0))] [([1], (ζ, ζ, .box [.d (.sl false 9 1 (List.map strc (d.vars))), .d (.sl false 9 1 (List.map strc (d.flags))), .d (.sl false 119 2 (List.map Arr.c (d.arrays)))]))]) [⟨[0], some 1, [], [[1]]⟩, ⟨[], some 2, [], []⟩] (fun k4 => ?_) ?_
 ·skip
  refine .box (.no rfl) rfl rfl rfl rfl rfl ?_
  refine .assign (.no rfl) rfl rfl rfl rfl ?_
  exact .fin k4 (.of (.cons rfl .nil) (.cons rfl .nil))
 intro g5
 refine .seq ?_
 refine .reg (X := Unit) (fun ζ => .of [(2, .one (.d (.v (.int .i64 (IntKind.wrap .i64 (1 * 2 ^ (min ((d.flags.length : Int)).toNat (IntKind.bits .i64))))))))] []) [⟨[1], some 3, [], []⟩, ⟨[3], some 4, [[1]], []⟩, ⟨[4], some 5, [], []⟩, ⟨[5], some 6, [], []⟩, ⟨[6], some 2, [], []⟩] (fun k6 => ?_) ?_
 ·skip
  refine .fieldAddrP (.no rfl) rfl t38 rfl rfl t22 rfl rfl rfl rfl ?_
  refine .load (.no rfl) rfl t22 rfl rfl (.ptr _ _ _ _ _ rfl) rfl rfl rfl rfl ?_
  refine .len (.no rfl) rfl (z := (d.flags.length : Int)) t22 rfl rfl rfl (.d _ _) (map_len _ _) rfl ?_
  refine .shl (.no rfl) rfl rfl rfl rfl (by omega) rfl rfl ?_
  refine .assign (.no rfl) rfl rfl rfl rfl ?_
  exact .fin () (.of (.cons rfl .nil) .nil)
 intro _
 refine .ret ?_
 have e7 : (IntKind.wrap .i64 (1 * 2 ^ (min ((d.flags.length : Int)).toNat (IntKind.bits .i64)))) = (leavesOf d) := by rfl
 have hc8 := eq1 (fun z1 => SV.one (.d (.v (.int .i64 (z1))))) e7
 show _ ∧ _
 exact ⟨.inr rfl, .done ⟨_, [], [], _, .one (c := .d (.v (.int .i64 (leavesOf d)))) (hc8) .nil, .cons (Reads.d _).gives .nil, nodupB_ok rfl, by simp, (by simp)⟩⟩
theorem c_sizeE (l : List Env) : Trip Tryz.prog 119 [(false, 1)] ([.sl false 77 3 (List.map Env.c77 (l))]) [(false, 1)] [.v (.int .i64 ((l.length : Int)))] [] := by
 refine Trip.of Tryz.func119 (by decide) (c := _) rfl rfl (shB_ok rfl) (Nat.le_of_ble_eq_true rfl) rfl (AftOk.nil _) ?_
 refine .sat (t := 0) rfl (fun hs1 => ?_)
 have hs1l : l.length ≤ 9223372036854775807 := hs1.maplen
 refine .seq ?_
 refine .reg (X := Unit) (fun ζ => .of [(0, .one (.d (.sl false 77 3 (List.map Env.c77 (l)))))] []) [⟨[], some 2, [], []⟩] (fun k2 => ?_) ?_
 ·skip
  refine .assign (.no rfl) rfl rfl rfl rfl ?_
  exact .fin () (.of (.cons rfl .nil) .nil)
 intro _
 refine .seq ?_
 refine .reg (X := Unit) (fun ζ => .of [(2, .one (.d (.v (.int .i64 ((l.length : Int))))))] []) [⟨[0], some 3, [], []⟩, ⟨[3], some 4, [], []⟩, ⟨[4], some 2, [], []⟩] (fun k3 => ?_) ?_
 ·skip
  refine .move (.no rfl) rfl rfl rfl rfl ?_
  refine .len (.no rfl) rfl (z := (l.length : Int)) t40 rfl rfl rfl (.d _ _) (map_len _ _) rfl ?_
  refine .assign (.no rfl) rfl rfl rfl rfl ?_
  exact .fin () (.of (.cons rfl .nil) .nil)
 intro _
 refine .ret ?_
 show _ ∧ _
 exact ⟨.inr rfl, .done ⟨_, [], [], _, .one rfl .nil, .cons (Reads.d _).gives .nil, nodupB_ok rfl, by simp, (by simp)⟩⟩
theorem c_IndexFuncE (l : List Env) (F_p : FuncId) (first_p : List (Bool × List D)) (caps_p : List D) (p : Env → Bool) (h_p : ∀ (x0 : Env), FnTrip Tryz.prog F_p first_p caps_p [(true, 3)] (Env.c77 x0) [(false, 1)] [.v (.bool (p x0))]) : Trip Tryz.prog 167 [(false, 1), (false, 1)] ([.sl false 77 3 (List.map Env.c77 (l))] ++ [.fn F_p first_p caps_p]) [(false, 1)] [.v (.int .i64 (idx p l))] [] := by
 refine Trip.of Tryz.func167 (by decide) (c := _) rfl rfl (shB_ok rfl) (Nat.le_of_ble_eq_true rfl) rfl (AftOk.nil _) ?_
 refine .sat (t := 0) rfl (fun hs1 => ?_)
 have hs1l : l.length ≤ 9223372036854775807 := hs1.maplen
 refine .seq ?_
 refine .reg (X := Unit) (fun ζ => .of [(0, .one (.d (.sl false 77 3 (List.map Env.c77 (l))))), (1, .one (.d (.fn F_p first_p caps_p)))] []) [⟨[], some 4, [], []⟩] (fun k2 => ?_) ?_
 ·skip
  refine .assign (.no rfl) rfl rfl rfl rfl ?_
  exact .fin () (.of (.cons rfl (.cons rfl .nil)) .nil)
 intro _
 refine .seq ?_
 refine .seq ?_
 refine .reg (X := Unit) (fun ζ => .of [(0, .one (.d (.sl false 77 3 (List.map Env.c77 (l))))), (1, .one (.d (.fn F_p first_p caps_p))), (7, .one (.d (.v (.int .i64 ((l.length : Int)))))), (8, .one (.d (.v (.int .i64 (0)))))] []) [⟨[0], some 6, [], []⟩, ⟨[6], some 7, [], []⟩, ⟨[], some 8, [], []⟩] (fun k3 => ?_) ?_
 ·skip
  refine .move (.no rfl) rfl rfl rfl rfl ?_
  refine .len (.no rfl) rfl (z := (l.length : Int)) t40 rfl rfl rfl (.d _ _) (map_len _ _) rfl ?_
  refine .move (.no rfl) rfl rfl rfl rfl ?_
  exact .fin () (.of (.cons rfl (.cons rfl (.cons rfl (.cons rfl .nil)))) .nil)
 intro _
 refine .block ?_
 refine .loop (X := Nat) (fun ζ => .of [(0, .one (.d (.sl false 77 3 (List.map Env.c77 (l))))), (1, .one (.d (.fn F_p first_p caps_p))), (7, .one (.d (.v (.int .i64 ((l.length : Int)))))), (8, .one (.d (.v (.int .i64 ((ζ : Int))))))] []) (fun ζ => ζ ≤ l.length ∧ allTo ζ (fun i => !p (l.getD i default)) = true) (fun ζ => l.length - ζ) ?_ ?_
 ·skip
  exact .here 0 (.of (.cons rfl (.cons rfl (.cons rfl (.cons (svI (show (0) = ((0 : Int)) by first | rfl | omega | exact wrap_le (by omega) (by omega) | (rw [wrap_le (by omega) (by omega)]; omega))) .nil)))) .nil) (show 0 ≤ l.length ∧ allTo 0 (fun i => !p (l.getD i default)) = true by exact ⟨by omega, rfl⟩)
 ·rintro j hI
  have hI : j ≤ l.length ∧ allTo j (fun i => !p (l.getD i default)) = true := hI
  refine .seq ?_
  refine .reg (X := Unit) (fun ζ => .of [(0, .one (.d (.sl false 77 3 (List.map Env.c77 (l))))), (1, .one (.d (.fn F_p first_p caps_p))), (7, .one (.d (.v (.int .i64 ((l.length : Int)))))), (8, .one (.d (.v (.int .i64 ((j : Int)))))), (9, .one (.d (.v (.bool (decide ((j : Int) < (l.length : Int)))))))] []) [⟨[8, 7], some 9, [], []⟩] (fun k4 => ?_) ?_
  ·skip
   refine .bin (.no rfl) rfl rfl rfl rfl rfl rfl ?_
   exact .fin () (.of (.cons rfl (.cons rfl (.cons rfl (.cons rfl (.cons rfl .nil))))) .nil)
  intro _
  refine .seq ?_
  refine .cond (t := decide ((j : Int) < (l.length : Int))) rfl (fun c0 => ?_) (fun c0 => ?_)
  ·have c0 := of_decide_eq_true c0
   refine .skip ?_
   refine .seq ?_
   refine .block ?_
   refine .seq ?_
   refine .reg (X := Unit) (fun ζ => .of [(0, .one (.d (.sl false 77 3 (List.map Env.c77 (l))))), (1, .one (.d (.fn F_p first_p caps_p))), (5, .one (.d (.v (.int .i64 ((j : Int)))))), (7, .one (.d (.v (.int .i64 ((l.length : Int)))))), (8, .one (.d (.v (.int .i64 ((j : Int))))))] []) [⟨[8], some 10, [], []⟩, ⟨[10], some 5, [], []⟩] (fun k5 => ?_) ?_
   ·skip
    refine .move (.no rfl) rfl rfl rfl rfl ?_
    refine .assign (.no rfl) rfl rfl rfl rfl ?_
    exact .fin () (.of (.cons rfl (.cons rfl (.cons rfl (.cons rfl (.cons rfl .nil))))) .nil)
   intro _
   refine .seq ?_
   refine .reg (X := Unit) (fun ζ => .of [(0, .one (.d (.sl false 77 3 (List.map Env.c77 (l))))), (1, .one (.d (.fn F_p first_p caps_p))), (5, .one (.d (.v (.int .i64 ((j : Int)))))), (7, .one (.d (.v (.int .i64 ((l.length : Int)))))), (8, .one (.d (.v (.int .i64 ((j : Int)))))), (16, .one (.d (.v (.bool (p (l.getD j default))))))] []) [⟨[1], some 11, [], []⟩, ⟨[0], some 12, [], []⟩, ⟨[5], some 13, [], []⟩, ⟨[12, 13], some 14, [], []⟩, ⟨[14], some 15, [], []⟩, ⟨[11, 15], some 16, [], []⟩] (fun k6 => ?_) ?_
   ·skip
    refine .move (.no rfl) rfl rfl rfl rfl ?_
    refine .move (.no rfl) rfl rfl rfl rfl ?_
    refine .move (.no rfl) rfl rfl rfl rfl ?_
    refine .indexAddr (.no rfl) rfl (j) t40 rfl t77 rfl rfl rfl (.d _ _) rfl rfl rfl (map_get (by omega)) rfl rfl ?_
    refine .load (.no rfl) rfl t77 rfl rfl (.d _) rfl rfl rfl rfl ?_
    refine .callF (.no rfl) rfl (ds := [.v (.bool ((l.getD j default).live)), .sl false 122 2 (List.map Iv.c ((l.getD j default).ints)), .sl false 122 2 (List.map Iv.c ((l.getD j default).arrs))]) (h_p (l.getD j default)) rfl rfl rfl rfl (.own [16, 0] .nil) rfl rfl rfl rfl rfl rfl ?_
    exact .fin () (.of (.cons rfl (.cons rfl (.cons rfl (.cons rfl (.cons rfl (.cons rfl .nil)))))) .nil)
   intro _
   refine .cond (t := p (l.getD j default)) rfl (fun c1 => ?_) (fun c1 => ?_)
   ·have c1 := c1
    refine .seq ?_
    refine .reg (X := Unit) (fun ζ => .of [(4, .one (.d (.v (.int .i64 ((j : Int))))))] []) [⟨[5], some 17, [], []⟩, ⟨[17], some 4, [], []⟩] (fun k7 => ?_) ?_
    ·skip
     refine .move (.no rfl) rfl rfl rfl rfl ?_
     refine .assign (.no rfl) rfl rfl rfl rfl ?_
     exact .fin () (.of (.cons rfl .nil) .nil)
    intro _
    refine .ret ?_
    have e8 : ((j : Int)) = (idx p l) := by exact (idx_found (j := j) (by omega) hI.2 (by simpa using c1)).symm
    have hc9 := eq1 (fun z1 => SV.one (.d (.v (.int .i64 (z1))))) e8
    show _ ∧ _
    exact ⟨.inr rfl, .done ⟨_, [], [], _, .one (c := .d (.v (.int .i64 (idx p l)))) (hc9) .nil, .cons (Reads.d _).gives .nil, nodupB_ok rfl, by simp, (by simp)⟩⟩
   ·have c1 := c1
    refine .skip ?_
    refine .reg (X := Unit) (fun ζ => .of [(0, .one (.d (.sl false 77 3 (List.map Env.c77 (l))))), (1, .one (.d (.fn F_p first_p caps_p))), (7, .one (.d (.v (.int .i64 ((l.length : Int)))))), (8, .one (.d (.v (.int .i64 (IntKind.wrap .i64 ((j : Int) + 1))))))] []) [⟨[8], some 18, [], []⟩, ⟨[18], some 8, [], []⟩] (fun k10 => ?_) ?_
    ·skip
     refine .bin (.no rfl) rfl rfl rfl rfl rfl rfl ?_
     refine .move (.no rfl) rfl rfl rfl rfl ?_
     exact .fin () (.of (.cons rfl (.cons rfl (.cons rfl (.cons rfl .nil)))) .nil)
    intro _
    exact .here (j + 1) (.of (.cons rfl (.cons rfl (.cons rfl (.cons (svI (show (IntKind.wrap .i64 ((j : Int) + 1)) = (((j + 1) : Int)) by first | rfl | omega | exact wrap_le (by omega) (by omega) | (rw [wrap_le (by omega) (by omega)]; omega))) .nil)))) .nil) ⟨(show (j + 1) ≤ l.length ∧ allTo (j + 1) (fun i => !p (l.getD i default)) = true by exact ⟨by omega, allTo_step hI.2 (by simpa using c1)⟩), (show l.length - (j + 1) < l.length - j by omega)⟩
  ·have c0 := of_decide_eq_false c0
   refine .exit ?_
   refine .seq ?_
   refine .reg (X := Unit) (fun ζ => .of [(4, .one (.d (.v (.int .i64 (-1)))))] []) [⟨[], some 4, [], []⟩] (fun k11 => ?_) ?_
   ·skip
    refine .assign (.no rfl) rfl rfl rfl rfl ?_
    exact .fin () (.of (.cons rfl .nil) .nil)
   intro _
   refine .ret ?_
   have e12 : (-1) = (idx p l) := by exact (idx_none (by omega) hI.2).symm
   have hc13 := eq1 (fun z1 => SV.one (.d (.v (.int .i64 (z1))))) e12
   show _ ∧ _
   exact ⟨.inr rfl, .done ⟨_, [], [], _, .one (c := .d (.v (.int .i64 (idx p l)))) (hc13) .nil, .cons (Reads.d _).gives .nil, nodupB_ok rfl, by simp, (by simp)⟩⟩
theorem c_ContainsFuncE (l : List Env) (F_p : FuncId) (first_p : List (Bool × List D)) (caps_p : List D) (p : Env → Bool) (h_p : ∀ (x0 : Env), FnTrip Tryz.prog F_p first_p caps_p [(true, 3)] (Env.c77 x0) [(false, 1)] [.v (.bool (p x0))]) : Trip Tryz.prog 142 [(false, 1), (false, 1)] ([.sl false 77 3 (List.map Env.c77 (l))] ++ [.fn F_p first_p caps_p]) [(false, 1)] [.v (.bool (l.any p))] [] := by
 refine Trip.of Tryz.func142 (by decide) (c := _) rfl rfl (shB_ok rfl) (Nat.le_of_ble_eq_true rfl) rfl (AftOk.nil _) ?_
 refine .sat (t := 0) rfl (fun hs1 => ?_)
 have hs1l : l.length ≤ 9223372036854775807 := hs1.maplen
 refine .seq ?_
 refine .reg (X := Unit) (fun ζ => .of [(0, .one (.d (.sl false 77 3 (List.map Env.c77 (l))))), (1, .one (.d (.fn F_p first_p caps_p)))] []) [⟨[], some 4, [], []⟩] (fun k2 => ?_) ?_
 ·skip
  refine .assign (.no rfl) rfl rfl rfl rfl ?_
  exact .fin () (.of (.cons rfl (.cons rfl .nil)) .nil)
 intro _
 refine .seq ?_
 refine .reg (X := Unit) (fun ζ => .of [(4, .one (.d (.v (.bool (decide ((idx p l) ≥ 0))))))] []) [⟨[0], some 5, [], []⟩, ⟨[1], some 6, [], []⟩, ⟨[5, 6], some 7, [], []⟩, ⟨[7], some 8, [], []⟩, ⟨[8], some 4, [], []⟩] (fun k3 => ?_) ?_
 ·skip
  refine .move (.no rfl) rfl rfl rfl rfl ?_
  refine .move (.no rfl) rfl rfl rfl rfl ?_
  refine .call (.no rfl) rfl [] [] (c_IndexFuncE l F_p first_p caps_p p h_p) rfl rfl rfl rfl rfl (.cons (Reads.d _).gives (.cons (Reads.d _).gives .nil)) rfl rfl (fun h => absurd rfl h) (.own [7, 0] .nil) (.nil) rfl rfl rfl (by simp) rfl rfl rfl ?_
  refine .bin (.no rfl) rfl rfl rfl rfl rfl rfl ?_
  refine .assign (.no rfl) rfl rfl rfl rfl ?_
  exact .fin () (.of (.cons rfl .nil) .nil)
 intro _
 refine .ret ?_
 have e4 : (decide ((idx p l) ≥ 0)) = (l.any p) := by exact idx_any _ _
 have hc5 := eq1 (fun z1 => SV.one (.d (.v (.bool (z1))))) e4
 show _ ∧ _
 exact ⟨.inr rfl, .done ⟨_, [], [], _, .one (c := .d (.v (.bool (l.any p)))) (hc5) .nil, .cons (Reads.d _).gives .nil, nodupB_ok rfl, by simp, (by simp)⟩⟩
theorem c_areAll1E (x : Env) (F_p : FuncId) (first_p : List (Bool × List D)) (caps_p : List D) (p : Env → Bool) (h_p : ∀ (x0 : Env), FnTrip Tryz.prog F_p first_p caps_p [(true, 3)] (Env.c77 x0) [(false, 1)] [.v (.bool (p x0))]) : Trip Tryz.prog 155 [(true, 3), (false, 1)] (Env.c77 x ++ [.pt false [.fn F_p first_p caps_p]]) [(false, 1)] [.v (.bool (!p x))] [] := by
 refine Trip.of Tryz.func155 (by decide) (c := _) rfl rfl (shB_ok rfl) (Nat.le_of_ble_eq_true rfl) rfl (AftOk.nil _) ?_
 refine .satA (t := 0) (i := 1) rfl rfl (fun hs1 => ?_)
 have hs1l : x.ints.length ≤ 9223372036854775807 := hs1.maplen
 refine .satA (t := 0) (i := 2) rfl rfl (fun hs2 => ?_)
 have hs2l : x.arrs.length ≤ 9223372036854775807 := hs2.maplen
 refine .seq ?_
 refine .reg (X := Nat) (fun ζ => .of [(1, .one (.d (.pt false [.fn F_p first_p caps_p]))), (2, .one (.ptr [2] (ζ) 0))] [([2], (ζ, ζ, .box [.d (.v (.bool (x.live))), .d (.sl false 122 2 (List.map Iv.c (x.ints))), .d (.sl false 122 2 (List.map Iv.c (x.arrs)))]))]) [⟨[0], some 2, [], [[2]]⟩, ⟨[], some 3, [], []⟩] (fun k3 => ?_) ?_
 ·skip
  refine .box (.no rfl) rfl rfl rfl rfl rfl ?_
  refine .assign (.no rfl) rfl rfl rfl rfl ?_
  exact .fin k3 (.of (.cons rfl (.cons rfl .nil)) (.cons rfl .nil))
 intro g4
 refine .seq ?_
 refine .reg (X := Unit) (fun ζ => .of [(3, .one (.d (.v (.bool (!(p x))))))] []) [⟨[1], some 4, [], []⟩, ⟨[2], some 5, [[2]], []⟩, ⟨[4, 5], some 6, [], []⟩, ⟨[6], some 7, [], []⟩, ⟨[7], some 3, [], []⟩] (fun k5 => ?_) ?_
 ·skip
  refine .load (.no rfl) rfl t160 rfl rfl (.d _) rfl rfl rfl rfl ?_
  refine .load (.no rfl) rfl t77 rfl rfl (.ptr _ _ _ _ _ rfl) rfl rfl rfl rfl ?_
  refine .callF (.no rfl) rfl (ds := [.v (.bool (x.live)), .sl false 122 2 (List.map Iv.c (x.ints)), .sl false 122 2 (List.map Iv.c (x.arrs))]) (h_p x) rfl rfl rfl rfl (.own [6, 0] .nil) rfl rfl rfl rfl rfl rfl ?_
  refine .un (.no rfl) rfl rfl rfl rfl rfl ?_
  refine .assign (.no rfl) rfl rfl rfl rfl ?_
  exact .fin () (.of (.cons rfl .nil) .nil)
 intro _
 refine .ret ?_
 have e6 : (!(p x)) = (!p x) := by rfl
 have hc7 := eq1 (fun z1 => SV.one (.d (.v (.bool (z1))))) e6
 show _ ∧ _
 exact ⟨.inr rfl, .done ⟨_, [], [], _, .one (c := .d (.v (.bool (!p x)))) (hc7) .nil, .cons (Reads.d _).gives .nil, nodupB_ok rfl, by simp, (by simp)⟩⟩
theorem c_areAllE (l : List Env) (F_p : FuncId) (first_p : List (Bool × List D)) (caps_p : List D) (p : Env → Bool) (h_p : ∀ (x0 : Env), FnTrip Tryz.prog F_p first_p caps_p [(true, 3)] (Env.c77 x0) [(false, 1)] [.v (.bool (p x0))]) : Trip Tryz.prog 121 [(false, 1), (false, 1)] ([.sl false 77 3 (List.map Env.c77 (l))] ++ [.fn F_p first_p caps_p]) [(false, 1)] [.v (.bool (l.all p))] [] := by
 refine Trip.of Tryz.func121 (by decide) (c := _) rfl rfl (shB_ok rfl) (Nat.le_of_ble_eq_true rfl) rfl (AftOk.nil _) ?_
 refine .sat (t := 0) rfl (fun hs1 => ?_)
 have hs1l : l.length ≤ 9223372036854775807 := hs1.maplen
 refine .seq ?_
 refine .reg (X := Nat) (fun ζ => .of [(0, .one (.d (.sl false 77 3 (List.map Env.c77 (l))))), (3, .one (.ptr [3] (ζ) 0))] [([3], (ζ, ζ, .box [.d (.fn F_p first_p caps_p)]))]) [⟨[1], some 3, [], [[3]]⟩, ⟨[], some 4, [], []⟩] (fun k2 => ?_) ?_
 ·skip
  refine .box (.no rfl) rfl rfl rfl rfl rfl ?_
  refine .assign (.no rfl) rfl rfl rfl rfl ?_
  exact .fin k2 (.of (.cons rfl (.cons rfl .nil)) (.cons rfl .nil))
 intro g3
 refine .seq ?_
 refine .reg (X := Unit) (fun ζ => .of [(4, .one (.d (.v (.bool (!(l.any (fun x0 => !p x0)))))))] []) [⟨[0], some 5, [], []⟩, ⟨[3], some 6, [], []⟩, ⟨[5, 6], some 7, [[3]], []⟩, ⟨[7], some 8, [], []⟩, ⟨[8], some 4, [], []⟩] (fun k4 => ?_) ?_
 ·skip
  refine .move (.no rfl) rfl rfl rfl rfl ?_
  refine .makeFunc (.no rfl) rfl rfl rfl rfl rfl ?_
  refine .call (.no rfl) rfl [[3]] [([3], (g3, g3, .box [.d (.fn F_p first_p caps_p)]))] (c_ContainsFuncE l 155 [] [.pt false [.fn F_p first_p caps_p]] (fun x0 => !p x0) (fun x0 => c_areAll1E x0 F_p first_p caps_p p h_p)) rfl rfl rfl rfl rfl (.cons (Reads.d _).gives (.cons (Reads.clo0 (.cons (Reads.ptr0 (.head _) (.head _) (.cons (Reads.d _) .nil)) .nil)).gives .nil)) rfl rfl (fun _ => (ownCons (Owned.v _) ownNil)) (.own [7, 0] .nil) (.nil) rfl rfl rfl (AllH.get (.cons rfl .nil)) rfl rfl rfl ?_
  refine .un (.no rfl) rfl rfl rfl rfl rfl ?_
  refine .assign (.no rfl) rfl rfl rfl rfl ?_
  exact .fin () (.of (.cons rfl .nil) .nil)
 intro _
 refine .ret ?_
 have e5 : (!(l.any (fun x0 => !p x0))) = (l.all p) := by exact not_any _ _
 have hc6 := eq1 (fun z1 => SV.one (.d (.v (.bool (z1))))) e5
 show _ ∧ _
 exact ⟨.inr rfl, .done ⟨_, [], [], _, .one (c := .d (.v (.bool (l.all p)))) (hc6) .nil, .cons (Reads.d _).gives .nil, nodupB_ok rfl, by simp, (by simp)⟩⟩
end Go.Proofs

namespace Go.Proofs
open Go Go.Proofs Go.Ev

theorem c_sTableOk (d : Decl) (t : List Env) (hs : ∀ x ∈ Decl.names d, x.size ≤ 9223372036854775807) (hd : d.vars.length ≤ 1048576 ∧ d.flags.length ≤ 1048576 ∧ d.arrays.length ≤ 1048576) (hx : ∀ x ∈ t, x.ints.length ≤ 1048576 ∧ x.arrs.length ≤ 1048576) : Trip Tryz.prog 39 [(true, 3), (false, 1)] (Decl.c38 d ++ [.sl false 77 3 (List.map Env.c77 (t))]) [(false, 1)] [.v (.bool (Table.ok d t))] [] := by
 refine Trip.of Tryz.func39 (by decide) (c := _) rfl rfl (shB_ok rfl) (Nat.le_of_ble_eq_true rfl) rfl (AftOk.nil _) ?_
 refine .satA (t := 0) (i := 0) rfl rfl (fun hs1 => ?_)
 have hs1l : d.vars.length ≤ 9223372036854775807 := hs1.maplen
 refine .satA (t := 0) (i := 1) rfl rfl (fun hs2 => ?_)
 have hs2l : d.flags.length ≤ 9223372036854775807 := hs2.maplen
 refine .satA (t := 0) (i := 2) rfl rfl (fun hs3 => ?_)
 have hs3l : d.arrays.length ≤ 9223372036854775807 := hs3.maplen
 refine .sat (t := 1) rfl (fun hs4 => ?_)
 have hs4l : t.length ≤ 9223372036854775807 := hs4.maplen
 refine .seq ?_
 refine .reg (X := Nat) (fun ζ => .of [(1, .one (.d (.sl false 77 3 (List.map Env.c77 (t))))), (2, .one (.ptr [2] (ζ) 0))] [([2], (ζ, ζ, .box [.d (.sl false 9 1 (List.map strc (d.vars))), .d (.sl false 9 1 (List.map strc (d.flags))), .d (.sl false 119 2 (List.map Arr.c (d.arrays)))]))]) [⟨[0], some 2, [], [[2]]⟩, ⟨[], some 4, [], []⟩] (fun k5 => ?_) ?_
 ·skip
  refine .box (.no rfl) rfl rfl rfl rfl rfl ?_
  refine .assign (.no rfl) rfl rfl rfl rfl ?_
  exact .fin k5 (.of (.cons rfl (.cons rfl .nil)) (.cons rfl .nil))
 intro g6
 refine .seq ?_
 refine .seq ?_
 refine .reg (X := Unit) (fun ζ => .of [(1, .one (.d (.sl false 77 3 (List.map Env.c77 (t))))), (2, .one (.ptr [2] (g6) 0)), (15, .one (.d (.v (.bool ((!(Decl.ok d) || (t.length : Int) != (leavesOf d)))))))] [([2], (g6, g6, .box [.d (.sl false 9 1 (List.map strc (d.vars))), .d (.sl false 9 1 (List.map strc (d.flags))), .d (.sl false 119 2 (List.map Arr.c (d.arrays)))]))]) [⟨[2], some 6, [[2]], []⟩, ⟨[6], some 7, [], []⟩, ⟨[7], some 8, [], []⟩, ⟨[8], some 9, [], []⟩, ⟨[9, 1], some 10, [], []⟩, ⟨[9, 10], some 11, [], []⟩, ⟨[9, 2], some 12, [[2]], []⟩, ⟨[9, 12], some 13, [], []⟩, ⟨[9, 11, 13], some 14, [], []⟩, ⟨[9, 14], some 15, [], []⟩] (fun k7 => ?_) ?_
 ·skip
  refine .load (.no rfl) rfl t38 rfl rfl (.ptr _ _ _ _ _ rfl) rfl rfl rfl rfl ?_
  refine .call (.no rfl) rfl [] [] (c_sDeclOk d (by first | assumption | exact hx _ (getD_mem (by omega))) (by first | assumption | exact hx _ (getD_mem (by omega)))) rfl rfl rfl rfl rfl (.cons (Reads.d _).gives (.cons (Reads.d _).gives (.cons (Reads.d _).gives .nil))) rfl rfl (fun h => absurd rfl h) (.own [7, 0] .nil) (.nil) rfl rfl rfl (by simp) rfl rfl rfl ?_
  refine .un (.no rfl) rfl rfl rfl rfl rfl ?_
  refine .moveB (.no rfl) rfl rfl rfl rfl fun b8 g1_3 => ?_
  cases b8
  ·skip
   refine .move (.on rfl rfl rfl rfl rfl) rfl rfl rfl rfl ?_
   refine .len (.on rfl rfl rfl rfl rfl) rfl (z := (t.length : Int)) t40 rfl rfl rfl (.d _ _) (map_len _ _) rfl ?_
   refine .load (.on rfl rfl rfl rfl rfl) rfl t38 rfl rfl (.ptr _ _ _ _ _ rfl) rfl rfl rfl rfl ?_
   refine .call (.on rfl rfl rfl rfl rfl) rfl [] [] (c_l8Size d) rfl rfl rfl rfl rfl (.cons (Reads.d _).gives (.cons (Reads.d _).gives (.cons (Reads.d _).gives .nil))) rfl rfl (fun h => absurd rfl h) (.own [13, 0] .nil) (.nil) rfl rfl rfl (by simp) rfl rfl rfl ?_
   refine .bin (.on rfl rfl rfl rfl rfl) rfl rfl rfl rfl rfl rfl ?_
   refine .pick (.no rfl) rfl rfl rfl rfl rfl ?_
   exact .fin () (.of (.cons rfl (.cons rfl (.cons (svB (show ((t.length : Int) != (leavesOf d)) = ((!(Decl.ok d) || (t.length : Int) != (leavesOf d))) by first | (simp only [g1_3, Bool.true_or, Bool.false_or, Bool.true_and, Bool.false_and, Bool.not_true, Bool.not_false]; done) | simp [g1_3])) .nil))) (.cons rfl .nil))
  ·skip
   refine .off rfl rfl rfl rfl rfl rfl rfl ?_
   refine .off rfl rfl rfl rfl rfl rfl rfl ?_
   refine .off rfl rfl rfl rfl rfl rfl rfl ?_
   refine .off rfl rfl rfl rfl rfl rfl rfl ?_
   refine .off rfl rfl rfl rfl rfl rfl rfl ?_
   refine .pick (.no rfl) rfl rfl rfl rfl rfl ?_
   exact .fin () (.of (.cons rfl (.cons rfl (.cons (svB (show (true) = ((!(Decl.ok d) || (t.length : Int) != (leavesOf d))) by first | (simp only [g1_3, Bool.true_or, Bool.false_or, Bool.true_and, Bool.false_and, Bool.not_true, Bool.not_false]; done) | simp [g1_3])) .nil))) (.cons rfl .nil))
 intro _
 refine .cond (t := (!(Decl.ok d) || (t.length : Int) != (leavesOf d))) rfl (fun c0 => ?_) (fun c0 => ?_)
 ·have c0 := c0
  try simp only [Bool.or_eq_true, Bool.or_eq_false_iff, Bool.and_eq_true, Bool.and_eq_false_iff, decide_eq_true_eq, decide_eq_false_iff_not, Bool.not_eq_true', Bool.not_eq_false', bne_iff_ne, beq_iff_eq, bne_eq_false_iff_eq, beq_eq_false_iff_ne, ne_eq, Bool.not_eq_eq_eq_not, Bool.not_true, Bool.not_false] at c0
  refine .seq ?_
  refine .reg (X := Unit) (fun ζ => .of [(4, .one (.d (.v (.bool (false)))))] []) [⟨[], some 4, [], []⟩] (fun k9 => ?_) ?_
  ·skip
   refine .assign (.no rfl) rfl rfl rfl rfl ?_
   exact .fin () (.of (.cons rfl .nil) .nil)
  intro _
  refine .ret ?_
  have e10 : (false) = (Table.ok d t) := by (unfold Table.ok Table.isIn; rcases c0 with h | h <;> simp [h])
  have hc11 := eq1 (fun z1 => SV.one (.d (.v (.bool (z1))))) e10
  show _ ∧ _
  exact ⟨.inr rfl, .done ⟨_, [], [], _, .one (c := .d (.v (.bool (Table.ok d t)))) (hc11) .nil, .cons (Reads.d _).gives .nil, nodupB_ok rfl, by simp, (by simp)⟩⟩
 ·have c0 := c0
  try simp only [Bool.or_eq_true, Bool.or_eq_false_iff, Bool.and_eq_true, Bool.and_eq_false_iff, decide_eq_true_eq, decide_eq_false_iff_not, Bool.not_eq_true', Bool.not_eq_false', bne_iff_ne, beq_iff_eq, bne_eq_false_iff_eq, beq_eq_false_iff_ne, ne_eq, Bool.not_eq_eq_eq_not, Bool.not_true, Bool.not_false] at c0
  refine .skip ?_
  refine .seq ?_
  refine .seq ?_
  refine .reg (X := Unit) (fun ζ => .of [(1, .one (.d (.sl false 77 3 (List.map Env.c77 (t))))), (2, .one (.ptr [2] (g6) 0)), (5, .one (.d (.v (.int .i64 (0)))))] [([2], (g6, g6, .box [.d (.sl false 9 1 (List.map strc (d.vars))), .d (.sl false 9 1 (List.map strc (d.flags))), .d (.sl false 119 2 (List.map Arr.c (d.arrays)))]))]) [⟨[], some 5, [], []⟩] (fun k12 => ?_) ?_
  ·skip
   refine .assign (.no rfl) rfl rfl rfl rfl ?_
   exact .fin () (.of (.cons rfl (.cons rfl (.cons rfl .nil))) (.cons rfl .nil))
  intro _
  refine .block ?_
  refine .loop (X := Nat) (fun ζ => .of [(1, .one (.d (.sl false 77 3 (List.map Env.c77 (t))))), (2, .one (.ptr [2] (g6) 0)), (5, .one (.d (.v (.int .i64 ((ζ : Int))))))] [([2], (g6, g6, .box [.d (.sl false 9 1 (List.map strc (d.vars))), .d (.sl false 9 1 (List.map strc (d.flags))), .d (.sl false 119 2 (List.map Arr.c (d.arrays)))]))]) (fun ζ => ζ ≤ t.length ∧ allTo ζ (fun i => Env.okIn d (t.getD i default)) = true) (fun ζ => t.length - ζ) ?_ ?_
  ·skip
   exact .here 0 (.of (.cons rfl (.cons rfl (.cons (svI (show (0) = ((0 : Int)) by first | rfl | omega | exact wrap_le (by omega) (by omega) | (rw [wrap_le (by omega) (by omega)]; omega))) .nil))) (.cons rfl .nil)) (show 0 ≤ t.length ∧ allTo 0 (fun i => Env.okIn d (t.getD i default)) = true by exact ⟨by omega, rfl⟩)
  ·rintro j hI
   have hI : j ≤ t.length ∧ allTo j (fun i => Env.okIn d (t.getD i default)) = true := hI
   refine .seq ?_
   refine .seq ?_
   refine .reg (X := Unit) (fun ζ => .of [(1, .one (.d (.sl false 77 3 (List.map Env.c77 (t))))), (2, .one (.ptr [2] (g6) 0)), (5, .one (.d (.v (.int .i64 ((j : Int)))))), (19, .one (.d (.v (.bool (decide ((j : Int) < (t.length : Int)))))))] [([2], (g6, g6, .box [.d (.sl false 9 1 (List.map strc (d.vars))), .d (.sl false 9 1 (List.map strc (d.flags))), .d (.sl false 119 2 (List.map Arr.c (d.arrays)))]))]) [⟨[5], some 16, [], []⟩, ⟨[1], some 17, [], []⟩, ⟨[17], some 18, [], []⟩, ⟨[16, 18], some 19, [], []⟩] (fun k13 => ?_) ?_
   ·skip
    refine .move (.no rfl) rfl rfl rfl rfl ?_
    refine .move (.no rfl) rfl rfl rfl rfl ?_
    refine .len (.no rfl) rfl (z := (t.length : Int)) t40 rfl rfl rfl (.d _ _) (map_len _ _) rfl ?_
    refine .bin (.no rfl) rfl rfl rfl rfl rfl rfl ?_
    exact .fin () (.of (.cons rfl (.cons rfl (.cons rfl (.cons rfl .nil)))) (.cons rfl .nil))
   intro _
   refine .cond (t := decide ((j : Int) < (t.length : Int))) rfl (fun c1 => ?_) (fun c1 => ?_)
   ·have c1 := of_decide_eq_true c1
    refine .skip ?_
    refine .seq ?_
    refine .block ?_
    refine .seq ?_
    refine .regD (X := Unit) (by kernel_rfl) (fun ζ => .of [(1, .one (.d (.sl false 77 3 (List.map Env.c77 (t))))), (2, .one (.ptr [2] (g6) 0)), (5, .one (.d (.v (.int .i64 ((j : Int)))))), (28, .one (.d (.v (.bool (!(Decl.ok d && Env.okIn d (t.getD j default)))))))] [([2], (g6, g6, .box [.d (.sl false 9 1 (List.map strc (d.vars))), .d (.sl false 9 1 (List.map strc (d.flags))), .d (.sl false 119 2 (List.map Arr.c (d.arrays)))]))]) [⟨[2], some 22, [[2]], []⟩, ⟨[1], some 23, [], []⟩, ⟨[5], some 24, [], []⟩, ⟨[23, 24], some 25, [], []⟩, ⟨[25], some 26, [], []⟩, ⟨[22, 26], some 27, [], []⟩, ⟨[27], some 28, [], []⟩] (by kernel_rfl) (fun k14 => ?_) ?_
    ·skip
     refine .load (.no rfl) rfl t38 rfl rfl (.ptr _ _ _ _ _ rfl) rfl rfl rfl rfl ?_
     refine .move (.no rfl) rfl rfl rfl rfl ?_
     refine .move (.no rfl) rfl rfl rfl rfl ?_
     refine .indexAddr (.no rfl) rfl (j) t40 rfl t77 rfl rfl rfl (.d _ _) rfl rfl rfl (map_get (by omega)) rfl rfl ?_
     refine .load (.no rfl) rfl t77 rfl rfl (.d _) rfl rfl rfl rfl ?_
     refine .call (.no rfl) rfl [] [] (c_sEnvOk d (t.getD j default) (by first | assumption | exact hx _ (getD_mem (by omega))) (by first | assumption | exact hx _ (getD_mem (by omega))) (by first | assumption | exact hx _ (getD_mem (by omega)))) rfl rfl rfl rfl rfl (.cons (Reads.d _).gives (.cons (Reads.d _).gives (.cons (Reads.d _).gives (.cons (Reads.d _).gives (.cons (Reads.d _).gives (.cons (Reads.d _).gives .nil)))))) rfl rfl (fun h => absurd rfl h) (.own [27, 0] .nil) (.nil) rfl rfl rfl (by simp) rfl rfl rfl ?_
     refine .un (.no rfl) rfl rfl rfl rfl rfl ?_
     exact .fin () (.of (.cons rfl (.cons rfl (.cons rfl (.cons rfl .nil)))) (.cons rfl .nil))
    intro _
    refine .cond (t := !(Decl.ok d && Env.okIn d (t.getD j default))) rfl (fun c2 => ?_) (fun c2 => ?_)
    ·have c2 := c2
     try simp only [Bool.or_eq_true, Bool.or_eq_false_iff, Bool.and_eq_true, Bool.and_eq_false_iff, decide_eq_true_eq, decide_eq_false_iff_not, Bool.not_eq_true', Bool.not_eq_false', bne_iff_ne, beq_iff_eq, bne_eq_false_iff_eq, beq_eq_false_iff_ne, ne_eq, Bool.not_eq_eq_eq_not, Bool.not_true, Bool.not_false] at c2
     refine .seq ?_
     refine .reg (X := Unit) (fun ζ => .of [(4, .one (.d (.v (.bool (false)))))] []) [⟨[], some 4, [], []⟩] (fun k15 => ?_) ?_
     ·skip
      refine .assign (.no rfl) rfl rfl rfl rfl ?_
      exact .fin () (.of (.cons rfl .nil) .nil)
     intro _
     refine .ret ?_
     have e16 : (false) = (Table.ok d t) := by (unfold Table.ok Table.isIn; rw [all_none (p := Env.okIn d) (j := j) (by omega) (by rcases c2 with h | h <;> first | exact h | (rw [c0.1] at h; exact absurd h (by decide))), Bool.and_false, Bool.and_false])
     have hc17 := eq1 (fun z1 => SV.one (.d (.v (.bool (z1))))) e16
     show _ ∧ _
     exact ⟨.inr rfl, .done ⟨_, [], [], _, .one (c := .d (.v (.bool (Table.ok d t)))) (hc17) .nil, .cons (Reads.d _).gives .nil, nodupB_ok rfl, by simp, (by simp)⟩⟩
    ·have c2 := c2
     try simp only [Bool.or_eq_true, Bool.or_eq_false_iff, Bool.and_eq_true, Bool.and_eq_false_iff, decide_eq_true_eq, decide_eq_false_iff_not, Bool.not_eq_true', Bool.not_eq_false', bne_iff_ne, beq_iff_eq, bne_eq_false_iff_eq, beq_eq_false_iff_ne, ne_eq, Bool.not_eq_eq_eq_not, Bool.not_true, Bool.not_false] at c2
     refine .skip ?_
     refine .reg (X := Unit) (fun ζ => .of [(1, .one (.d (.sl false 77 3 (List.map Env.c77 (t))))), (2, .one (.ptr [2] (g6) 0)), (5, .one (.d (.v (.int .i64 (IntKind.wrap .i64 ((j : Int) + 1))))))] [([2], (g6, g6, .box [.d (.sl false 9 1 (List.map strc (d.vars))), .d (.sl false 9 1 (List.map strc (d.flags))), .d (.sl false 119 2 (List.map Arr.c (d.arrays)))]))]) [⟨[5], some 20, [], []⟩, ⟨[20], some 21, [], []⟩, ⟨[21], some 5, [], []⟩] (fun k18 => ?_) ?_
     ·skip
      refine .move (.no rfl) rfl rfl rfl rfl ?_
      refine .bin (.no rfl) rfl rfl rfl rfl rfl rfl ?_
      refine .assign (.no rfl) rfl rfl rfl rfl ?_
      exact .fin () (.of (.cons rfl (.cons rfl (.cons rfl .nil))) (.cons rfl .nil))
     intro _
     exact .here (j + 1) (.of (.cons rfl (.cons rfl (.cons (svI (show (IntKind.wrap .i64 ((j : Int) + 1)) = (((j + 1) : Int)) by first | rfl | omega | exact wrap_le (by omega) (by omega) | (rw [wrap_le (by omega) (by omega)]; omega))) .nil))) (.cons rfl .nil)) ⟨(show (j + 1) ≤ t.length ∧ allTo (j + 1) (fun i => Env.okIn d (t.getD i default)) = true by exact ⟨by omega, allTo_step hI.2 c2.2⟩), (show t.length - (j + 1) < t.length - j by omega)⟩
   ·have c1 := of_decide_eq_false c1
    refine .exit ?_
    refine .seq ?_
    refine .reg (X := Unit) (fun ζ => .of [(4, .one (.d (.v (.bool (true)))))] []) [⟨[], some 4, [], []⟩] (fun k19 => ?_) ?_
    ·skip
     refine .assign (.no rfl) rfl rfl rfl rfl ?_
     exact .fin () (.of (.cons rfl .nil) .nil)
    intro _
    refine .ret ?_
    have e20 : (true) = (Table.ok d t) := by (unfold Table.ok Table.isIn; rw [c0.1, all_done (p := Env.okIn d) (j := j) (by omega) hI.2]; simp [c0.2])
    have hc21 := eq1 (fun z1 => SV.one (.d (.v (.bool (z1))))) e20
    show _ ∧ _
    exact ⟨.inr rfl, .done ⟨_, [], [], _, .one (c := .d (.v (.bool (Table.ok d t)))) (hc21) .nil, .cons (Reads.d _).gives .nil, nodupB_ok rfl, by simp, (by simp)⟩⟩
end Go.Proofs

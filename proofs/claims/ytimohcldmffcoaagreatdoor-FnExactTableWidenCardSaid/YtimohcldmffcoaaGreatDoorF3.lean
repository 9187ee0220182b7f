/- Contracts of the program's functions at this seat, printed by a program of ours and checked by Lean: each under the conditions of its own statement. -/
import Derived.Test.YtimohcldmffcoaaGreatDoorF2
set_option linter.all false
set_option linter.unnecessarySimpa false
set_option linter.unusedSectionVars false
set_option linter.unusedSimpArgs false
set_option linter.unusedVariables false
namespace Go.Proofs
open Go Go.Proofs Go.Ev

def i141 : TI := ⟨.fn, 1, 8, [.nilFunc]⟩
theorem t141 : TyOk Tryz.prog 141 i141 := ⟨⟨_, _, _, Tryz.underlying141⟩, by kernel_rfl⟩
theorem z141 : ZOk Tryz.prog 141 i141 := ⟨t141, rfl⟩
def i154 : TI := ⟨.fn, 1, 8, [.nilFunc]⟩
theorem t154 : TyOk Tryz.prog 154 i154 := ⟨⟨_, _, _, Tryz.underlying154⟩, by kernel_rfl⟩
theorem z154 : ZOk Tryz.prog 154 i154 := ⟨t154, rfl⟩
theorem c_IvOk (a : Iv) : Trip Tryz.prog 157 [(true, 2)] (Iv.c a) [(false, 1)] [.v (.bool (Iv.ok a))] [] := by
 refine Trip.of Tryz.func157 (by decide) (c := _) rfl rfl (shB_ok rfl) (Nat.le_of_ble_eq_true rfl) rfl (AftOk.nil _) ?_
 refine .seq ?_
 refine .reg (X := Nat) (fun ζ => .of [(1, .one (.ptr [1] (ζ) 0))] [([1], (ζ, ζ, .box [.d (.v (.int .i64 (a.lo))), .d (.v (.int .i64 (a.hi)))]))]) [⟨[0], some 1, [], [[1]]⟩, ⟨[], some 2, [], []⟩] (fun k1 => ?_) ?_
 ·skip
  refine .box (.no rfl) rfl rfl rfl rfl rfl ?_
  refine .assign (.no rfl) rfl rfl rfl rfl ?_
  exact .fin k1 (.of (.cons rfl .nil) (.cons rfl .nil))
 intro g2
 refine .seq ?_
 refine .reg (X := Unit) (fun ζ => .of [(2, .one (.d (.v (.bool (decide (a.lo ≤ a.hi))))))] []) [⟨[1], some 3, [], []⟩, ⟨[3], some 4, [[1]], []⟩, ⟨[1], some 5, [], []⟩, ⟨[5], some 6, [[1]], []⟩, ⟨[4, 6], some 7, [], []⟩, ⟨[7], some 2, [], []⟩] (fun k3 => ?_) ?_
 ·skip
  refine .fieldAddrP (.no rfl) rfl t122 rfl rfl t2 rfl rfl rfl rfl ?_
  refine .load (.no rfl) rfl t2 rfl rfl (.ptr _ _ _ _ _ rfl) rfl rfl rfl rfl ?_
  refine .fieldAddrP (.no rfl) rfl t122 rfl rfl t2 rfl rfl rfl rfl ?_
  refine .load (.no rfl) rfl t2 rfl rfl (.ptr _ _ _ _ _ rfl) rfl rfl rfl rfl ?_
  refine .bin (.no rfl) rfl rfl rfl rfl rfl rfl ?_
  refine .assign (.no rfl) rfl rfl rfl rfl ?_
  exact .fin () (.of (.cons rfl .nil) .nil)
 intro _
 refine .ret ?_
 have e4 : (decide (a.lo ≤ a.hi)) = (Iv.ok a) := by rfl
 have hc5 := eq1 (fun z1 => SV.one (.d (.v (.bool (z1))))) e4
 show _ ∧ _
 exact ⟨.inr rfl, .done ⟨_, [], [], _, .one (c := .d (.v (.bool (Iv.ok a)))) (hc5) .nil, .cons (Reads.d _).gives .nil, nodupB_ok rfl, by simp, (by simp)⟩⟩
theorem c_IndexFuncA (l : List Arr) (F_p : FuncId) (first_p : List (Bool × List D)) (caps_p : List D) (p : Arr → Bool) (h_p : ∀ (x0 : Arr), FnTrip Tryz.prog F_p first_p caps_p [(true, 2)] (Arr.c x0) [(false, 1)] [.v (.bool (p x0))]) : Trip Tryz.prog 161 [(false, 1), (false, 1)] ([.sl false 119 2 (List.map Arr.c (l))] ++ [.fn F_p first_p caps_p]) [(false, 1)] [.v (.int .i64 (idx p l))] [] := by
 refine Trip.of Tryz.func161 (by decide) (c := _) rfl rfl (shB_ok rfl) (Nat.le_of_ble_eq_true rfl) rfl (AftOk.nil _) ?_
 refine .sat (t := 0) rfl (fun hs1 => ?_)
 have hs1l : l.length ≤ 9223372036854775807 := hs1.maplen
 refine .seq ?_
 refine .reg (X := Unit) (fun ζ => .of [(0, .one (.d (.sl false 119 2 (List.map Arr.c (l))))), (1, .one (.d (.fn F_p first_p caps_p)))] []) [⟨[], some 4, [], []⟩] (fun k2 => ?_) ?_
 ·skip
  refine .assign (.no rfl) rfl rfl rfl rfl ?_
  exact .fin () (.of (.cons rfl (.cons rfl .nil)) .nil)
 intro _
 refine .seq ?_
 refine .seq ?_
 refine .reg (X := Unit) (fun ζ => .of [(0, .one (.d (.sl false 119 2 (List.map Arr.c (l))))), (1, .one (.d (.fn F_p first_p caps_p))), (7, .one (.d (.v (.int .i64 ((l.length : Int)))))), (8, .one (.d (.v (.int .i64 (0)))))] []) [⟨[0], some 6, [], []⟩, ⟨[6], some 7, [], []⟩, ⟨[], some 8, [], []⟩] (fun k3 => ?_) ?_
 ·skip
  refine .move (.no rfl) rfl rfl rfl rfl ?_
  refine .len (.no rfl) rfl (z := (l.length : Int)) t36 rfl rfl rfl (.d _ _) (map_len _ _) rfl ?_
  refine .move (.no rfl) rfl rfl rfl rfl ?_
  exact .fin () (.of (.cons rfl (.cons rfl (.cons rfl (.cons rfl .nil)))) .nil)
 intro _
 refine .block ?_
 refine .loop (X := Nat) (fun ζ => .of [(0, .one (.d (.sl false 119 2 (List.map Arr.c (l))))), (1, .one (.d (.fn F_p first_p caps_p))), (7, .one (.d (.v (.int .i64 ((l.length : Int)))))), (8, .one (.d (.v (.int .i64 ((ζ : Int))))))] []) (fun ζ => ζ ≤ l.length ∧ allTo ζ (fun i => !p (l.getD i default)) = true) (fun ζ => l.length - ζ) ?_ ?_
 ·skip
  exact .here 0 (.of (.cons rfl (.cons rfl (.cons rfl (.cons (svI (show (0) = ((0 : Int)) by first | rfl | omega | exact wrap_le (by omega) (by omega) | (rw [wrap_le (by omega) (by omega)]; omega))) .nil)))) .nil) (show 0 ≤ l.length ∧ allTo 0 (fun i => !p (l.getD i default)) = true by exact ⟨by omega, rfl⟩)
 ·rintro j hI
  have hI : j ≤ l.length ∧ allTo j (fun i => !p (l.getD i default)) = true := hI
  refine .seq ?_
  refine .reg (X := Unit) (fun ζ => .of [(0, .one (.d (.sl false 119 2 (List.map Arr.c (l))))), (1, .one (.d (.fn F_p first_p caps_p))), (7, .one (.d (.v (.int .i64 ((l.length : Int)))))), (8, .one (.d (.v (.int .i64 ((j : Int)))))), (9, .one (.d (.v (.bool (decide ((j : Int) < (l.length : Int)))))))] []) [⟨[8, 7], some 9, [], []⟩] (fun k4 => ?_) ?_
  ·skip
   refine .bin (.no rfl) rfl rfl rfl rfl rfl rfl ?_
   exact .fin () (.of (.cons rfl (.cons rfl (.cons rfl (.cons rfl (.cons rfl .nil))))) .nil)
  intro _
  refine .seq ?_
  refine .cond (t := decide ((j : Int) < (l.length : Int))) rfl (fun c0 => ?_) (fun c0 => ?_)
  ·have c0 := of_decide_eq_true c0
   refine .skip ?_
   refine .seq ?_
   refine .block ?_
   refine .seq ?_
   refine .reg (X := Unit) (fun ζ => .of [(0, .one (.d (.sl false 119 2 (List.map Arr.c (l))))), (1, .one (.d (.fn F_p first_p caps_p))), (5, .one (.d (.v (.int .i64 ((j : Int)))))), (7, .one (.d (.v (.int .i64 ((l.length : Int)))))), (8, .one (.d (.v (.int .i64 ((j : Int))))))] []) [⟨[8], some 10, [], []⟩, ⟨[10], some 5, [], []⟩] (fun k5 => ?_) ?_
   ·skip
    refine .move (.no rfl) rfl rfl rfl rfl ?_
    refine .assign (.no rfl) rfl rfl rfl rfl ?_
    exact .fin () (.of (.cons rfl (.cons rfl (.cons rfl (.cons rfl (.cons rfl .nil))))) .nil)
   intro _
   refine .seq ?_
   refine .reg (X := Unit) (fun ζ => .of [(0, .one (.d (.sl false 119 2 (List.map Arr.c (l))))), (1, .one (.d (.fn F_p first_p caps_p))), (5, .one (.d (.v (.int .i64 ((j : Int)))))), (7, .one (.d (.v (.int .i64 ((l.length : Int)))))), (8, .one (.d (.v (.int .i64 ((j : Int)))))), (16, .one (.d (.v (.bool (p (l.getD j default))))))] []) [⟨[1], some 11, [], []⟩, ⟨[0], some 12, [], []⟩, ⟨[5], some 13, [], []⟩, ⟨[12, 13], some 14, [], []⟩, ⟨[14], some 15, [], []⟩, ⟨[11, 15], some 16, [], []⟩] (fun k6 => ?_) ?_
   ·skip
    refine .move (.no rfl) rfl rfl rfl rfl ?_
    refine .move (.no rfl) rfl rfl rfl rfl ?_
    refine .move (.no rfl) rfl rfl rfl rfl ?_
    refine .indexAddr (.no rfl) rfl (j) t36 rfl t119 rfl rfl rfl (.d _ _) rfl rfl rfl (map_get (by omega)) rfl rfl ?_
    refine .load (.no rfl) rfl t119 rfl rfl (.d _) rfl rfl rfl rfl ?_
    refine .callF (.no rfl) rfl (ds := [.v (.string ((l.getD j default).name)), .v (.int .i64 ((l.getD j default).size))]) (h_p (l.getD j default)) rfl rfl rfl rfl (.own [16, 0] .nil) rfl rfl rfl rfl rfl rfl ?_
    exact .fin () (.of (.cons rfl (.cons rfl (.cons rfl (.cons rfl (.cons rfl (.cons rfl .nil)))))) .nil)
   intro _
   refine .cond (t := p (l.getD j default)) rfl (fun c1 => ?_) (fun c1 => ?_)
   ·have c1 := c1
    refine .seq ?_
    refine .reg (X := Unit) (fun ζ => .of [(4, .one (.d (.v (.int .i64 ((j : Int))))))] []) [⟨[5], some 17, [], []⟩, ⟨[17], some 4, [], []⟩] (fun k7 => ?_) ?_
    ·skip
     refine .move (.no rfl) rfl rfl rfl rfl ?_
     refine .assign (.no rfl) rfl rfl rfl rfl ?_
     exact .fin () (.of (.cons rfl .nil) .nil)
    intro _
    refine .ret ?_
    have e8 : ((j : Int)) = (idx p l) := by exact (idx_found (j := j) (by omega) hI.2 (by simpa using c1)).symm
    have hc9 := eq1 (fun z1 => SV.one (.d (.v (.int .i64 (z1))))) e8
    show _ ∧ _
    exact ⟨.inr rfl, .done ⟨_, [], [], _, .one (c := .d (.v (.int .i64 (idx p l)))) (hc9) .nil, .cons (Reads.d _).gives .nil, nodupB_ok rfl, by simp, (by simp)⟩⟩
   ·have c1 := c1
    refine .skip ?_
    refine .reg (X := Unit) (fun ζ => .of [(0, .one (.d (.sl false 119 2 (List.map Arr.c (l))))), (1, .one (.d (.fn F_p first_p caps_p))), (7, .one (.d (.v (.int .i64 ((l.length : Int)))))), (8, .one (.d (.v (.int .i64 (IntKind.wrap .i64 ((j : Int) + 1))))))] []) [⟨[8], some 18, [], []⟩, ⟨[18], some 8, [], []⟩] (fun k10 => ?_) ?_
    ·skip
     refine .bin (.no rfl) rfl rfl rfl rfl rfl rfl ?_
     refine .move (.no rfl) rfl rfl rfl rfl ?_
     exact .fin () (.of (.cons rfl (.cons rfl (.cons rfl (.cons rfl .nil)))) .nil)
    intro _
    exact .here (j + 1) (.of (.cons rfl (.cons rfl (.cons rfl (.cons (svI (show (IntKind.wrap .i64 ((j : Int) + 1)) = (((j + 1) : Int)) by first | rfl | omega | exact wrap_le (by omega) (by omega) | (rw [wrap_le (by omega) (by omega)]; omega))) .nil)))) .nil) ⟨(show (j + 1) ≤ l.length ∧ allTo (j + 1) (fun i => !p (l.getD i default)) = true by exact ⟨by omega, allTo_step hI.2 (by simpa using c1)⟩), (show l.length - (j + 1) < l.length - j by omega)⟩
  ·have c0 := of_decide_eq_false c0
   refine .exit ?_
   refine .seq ?_
   refine .reg (X := Unit) (fun ζ => .of [(4, .one (.d (.v (.int .i64 (-1)))))] []) [⟨[], some 4, [], []⟩] (fun k11 => ?_) ?_
   ·skip
    refine .assign (.no rfl) rfl rfl rfl rfl ?_
    exact .fin () (.of (.cons rfl .nil) .nil)
   intro _
   refine .ret ?_
   have e12 : (-1) = (idx p l) := by exact (idx_none (by omega) hI.2).symm
   have hc13 := eq1 (fun z1 => SV.one (.d (.v (.int .i64 (z1))))) e12
   show _ ∧ _
   exact ⟨.inr rfl, .done ⟨_, [], [], _, .one (c := .d (.v (.int .i64 (idx p l)))) (hc13) .nil, .cons (Reads.d _).gives .nil, nodupB_ok rfl, by simp, (by simp)⟩⟩
theorem c_ContainsFuncA (l : List Arr) (F_p : FuncId) (first_p : List (Bool × List D)) (caps_p : List D) (p : Arr → Bool) (h_p : ∀ (x0 : Arr), FnTrip Tryz.prog F_p first_p caps_p [(true, 2)] (Arr.c x0) [(false, 1)] [.v (.bool (p x0))]) : Trip Tryz.prog 132 [(false, 1), (false, 1)] ([.sl false 119 2 (List.map Arr.c (l))] ++ [.fn F_p first_p caps_p]) [(false, 1)] [.v (.bool (l.any p))] [] := by
 refine Trip.of Tryz.func132 (by decide) (c := _) rfl rfl (shB_ok rfl) (Nat.le_of_ble_eq_true rfl) rfl (AftOk.nil _) ?_
 refine .sat (t := 0) rfl (fun hs1 => ?_)
 have hs1l : l.length ≤ 9223372036854775807 := hs1.maplen
 refine .seq ?_
 refine .reg (X := Unit) (fun ζ => .of [(0, .one (.d (.sl false 119 2 (List.map Arr.c (l))))), (1, .one (.d (.fn F_p first_p caps_p)))] []) [⟨[], some 4, [], []⟩] (fun k2 => ?_) ?_
 ·skip
  refine .assign (.no rfl) rfl rfl rfl rfl ?_
  exact .fin () (.of (.cons rfl (.cons rfl .nil)) .nil)
 intro _
 refine .seq ?_
 refine .reg (X := Unit) (fun ζ => .of [(4, .one (.d (.v (.bool (decide ((idx p l) ≥ 0))))))] []) [⟨[0], some 5, [], []⟩, ⟨[1], some 6, [], []⟩, ⟨[5, 6], some 7, [], []⟩, ⟨[7], some 8, [], []⟩, ⟨[8], some 4, [], []⟩] (fun k3 => ?_) ?_
 ·skip
  refine .move (.no rfl) rfl rfl rfl rfl ?_
  refine .move (.no rfl) rfl rfl rfl rfl ?_
  refine .call (.no rfl) rfl [] [] (c_IndexFuncA l F_p first_p caps_p p h_p) rfl rfl rfl rfl rfl (.cons (Reads.d _).gives (.cons (Reads.d _).gives .nil)) rfl rfl (fun h => absurd rfl h) (.own [7, 0] .nil) (.nil) rfl rfl rfl (by simp) rfl rfl rfl ?_
  refine .bin (.no rfl) rfl rfl rfl rfl rfl rfl ?_
  refine .assign (.no rfl) rfl rfl rfl rfl ?_
  exact .fin () (.of (.cons rfl .nil) .nil)
 intro _
 refine .ret ?_
 have e4 : (decide ((idx p l) ≥ 0)) = (l.any p) := by exact idx_any _ _
 have hc5 := eq1 (fun z1 => SV.one (.d (.v (.bool (z1))))) e4
 show _ ∧ _
 exact ⟨.inr rfl, .done ⟨_, [], [], _, .one (c := .d (.v (.bool (l.any p)))) (hc5) .nil, .cons (Reads.d _).gives .nil, nodupB_ok rfl, by simp, (by simp)⟩⟩
theorem c_areAll1A (x : Arr) (F_p : FuncId) (first_p : List (Bool × List D)) (caps_p : List D) (p : Arr → Bool) (h_p : ∀ (x0 : Arr), FnTrip Tryz.prog F_p first_p caps_p [(true, 2)] (Arr.c x0) [(false, 1)] [.v (.bool (p x0))]) : Trip Tryz.prog 133 [(true, 2), (false, 1)] (Arr.c x ++ [.pt false [.fn F_p first_p caps_p]]) [(false, 1)] [.v (.bool (!p x))] [] := by
 refine Trip.of Tryz.func133 (by decide) (c := _) rfl rfl (shB_ok rfl) (Nat.le_of_ble_eq_true rfl) rfl (AftOk.nil _) ?_
 refine .seq ?_
 refine .reg (X := Nat) (fun ζ => .of [(1, .one (.d (.pt false [.fn F_p first_p caps_p]))), (2, .one (.ptr [2] (ζ) 0))] [([2], (ζ, ζ, .box [.d (.v (.string (x.name))), .d (.v (.int .i64 (x.size)))]))]) [⟨[0], some 2, [], [[2]]⟩, ⟨[], some 3, [], []⟩] (fun k1 => ?_) ?_
 ·skip
  refine .box (.no rfl) rfl rfl rfl rfl rfl ?_
  refine .assign (.no rfl) rfl rfl rfl rfl ?_
  exact .fin k1 (.of (.cons rfl (.cons rfl .nil)) (.cons rfl .nil))
 intro g2
 refine .seq ?_
 refine .reg (X := Unit) (fun ζ => .of [(3, .one (.d (.v (.bool (!(p x))))))] []) [⟨[1], some 4, [], []⟩, ⟨[2], some 5, [[2]], []⟩, ⟨[4, 5], some 6, [], []⟩, ⟨[6], some 7, [], []⟩, ⟨[7], some 3, [], []⟩] (fun k3 => ?_) ?_
 ·skip
  refine .load (.no rfl) rfl t141 rfl rfl (.d _) rfl rfl rfl rfl ?_
  refine .load (.no rfl) rfl t119 rfl rfl (.ptr _ _ _ _ _ rfl) rfl rfl rfl rfl ?_
  refine .callF (.no rfl) rfl (ds := [.v (.string (x.name)), .v (.int .i64 (x.size))]) (h_p x) rfl rfl rfl rfl (.own [6, 0] .nil) rfl rfl rfl rfl rfl rfl ?_
  refine .un (.no rfl) rfl rfl rfl rfl rfl ?_
  refine .assign (.no rfl) rfl rfl rfl rfl ?_
  exact .fin () (.of (.cons rfl .nil) .nil)
 intro _
 refine .ret ?_
 have e4 : (!(p x)) = (!p x) := by rfl
 have hc5 := eq1 (fun z1 => SV.one (.d (.v (.bool (z1))))) e4
 show _ ∧ _
 exact ⟨.inr rfl, .done ⟨_, [], [], _, .one (c := .d (.v (.bool (!p x)))) (hc5) .nil, .cons (Reads.d _).gives .nil, nodupB_ok rfl, by simp, (by simp)⟩⟩
theorem c_areAllA (l : List Arr) (F_p : FuncId) (first_p : List (Bool × List D)) (caps_p : List D) (p : Arr → Bool) (h_p : ∀ (x0 : Arr), FnTrip Tryz.prog F_p first_p caps_p [(true, 2)] (Arr.c x0) [(false, 1)] [.v (.bool (p x0))]) : Trip Tryz.prog 102 [(false, 1), (false, 1)] ([.sl false 119 2 (List.map Arr.c (l))] ++ [.fn F_p first_p caps_p]) [(false, 1)] [.v (.bool (l.all p))] [] := by
 refine Trip.of Tryz.func102 (by decide) (c := _) rfl rfl (shB_ok rfl) (Nat.le_of_ble_eq_true rfl) rfl (AftOk.nil _) ?_
 refine .sat (t := 0) rfl (fun hs1 => ?_)
 have hs1l : l.length ≤ 9223372036854775807 := hs1.maplen
 refine .seq ?_
 refine .reg (X := Nat) (fun ζ => .of [(0, .one (.d (.sl false 119 2 (List.map Arr.c (l))))), (3, .one (.ptr [3] (ζ) 0))] [([3], (ζ, ζ, .box [.d (.fn F_p first_p caps_p)]))]) [⟨[1], some 3, [], [[3]]⟩, ⟨[], some 4, [], []⟩] (fun k2 => ?_) ?_
 ·skip
  refine .box (.no rfl) rfl rfl rfl rfl rfl ?_
  refine .assign (.no rfl) rfl rfl rfl rfl ?_
  exact .fin k2 (.of (.cons rfl (.cons rfl .nil)) (.cons rfl .nil))
 intro g3
 refine .seq ?_
 refine .reg (X := Unit) (fun ζ => .of [(4, .one (.d (.v (.bool (!(l.any (fun x0 => !p x0)))))))] []) [⟨[0], some 5, [], []⟩, ⟨[3], some 6, [], []⟩, ⟨[5, 6], some 7, [[3]], []⟩, ⟨[7], some 8, [], []⟩, ⟨[8], some 4, [], []⟩] (fun k4 => ?_) ?_
 ·skip
  refine .move (.no rfl) rfl rfl rfl rfl ?_
  refine .makeFunc (.no rfl) rfl rfl rfl rfl rfl ?_
  refine .call (.no rfl) rfl [[3]] [([3], (g3, g3, .box [.d (.fn F_p first_p caps_p)]))] (c_ContainsFuncA l 133 [] [.pt false [.fn F_p first_p caps_p]] (fun x0 => !p x0) (fun x0 => c_areAll1A x0 F_p first_p caps_p p h_p)) rfl rfl rfl rfl rfl (.cons (Reads.d _).gives (.cons (Reads.clo0 (.cons (Reads.ptr0 (.head _) (.head _) (.cons (Reads.d _) .nil)) .nil)).gives .nil)) rfl rfl (fun _ => (ownCons (Owned.v _) ownNil)) (.own [7, 0] .nil) (.nil) rfl rfl rfl (AllH.get (.cons rfl .nil)) rfl rfl rfl ?_
  refine .un (.no rfl) rfl rfl rfl rfl rfl ?_
  refine .assign (.no rfl) rfl rfl rfl rfl ?_
  exact .fin () (.of (.cons rfl .nil) .nil)
 intro _
 refine .ret ?_
 have e5 : (!(l.any (fun x0 => !p x0))) = (l.all p) := by exact not_any _ _
 have hc6 := eq1 (fun z1 => SV.one (.d (.v (.bool (z1))))) e5
 show _ ∧ _
 exact ⟨.inr rfl, .done ⟨_, [], [], _, .one (c := .d (.v (.bool (l.all p)))) (hc6) .nil, .cons (Reads.d _).gives .nil, nodupB_ok rfl, by simp, (by simp)⟩⟩
theorem c_IndexFuncI (l : List Iv) (F_p : FuncId) (first_p : List (Bool × List D)) (caps_p : List D) (p : Iv → Bool) (h_p : ∀ (x0 : Iv), FnTrip Tryz.prog F_p first_p caps_p [(true, 2)] (Iv.c x0) [(false, 1)] [.v (.bool (p x0))]) : Trip Tryz.prog 179 [(false, 1), (false, 1)] ([.sl false 122 2 (List.map Iv.c (l))] ++ [.fn F_p first_p caps_p]) [(false, 1)] [.v (.int .i64 (idx p l))] [] := by
 refine Trip.of Tryz.func179 (by decide) (c := _) rfl rfl (shB_ok rfl) (Nat.le_of_ble_eq_true rfl) rfl (AftOk.nil _) ?_
 refine .sat (t := 0) rfl (fun hs1 => ?_)
 have hs1l : l.length ≤ 9223372036854775807 := hs1.maplen
 refine .seq ?_
 refine .reg (X := Unit) (fun ζ => .of [(0, .one (.d (.sl false 122 2 (List.map Iv.c (l))))), (1, .one (.d (.fn F_p first_p caps_p)))] []) [⟨[], some 4, [], []⟩] (fun k2 => ?_) ?_
 ·skip
  refine .assign (.no rfl) rfl rfl rfl rfl ?_
  exact .fin () (.of (.cons rfl (.cons rfl .nil)) .nil)
 intro _
 refine .seq ?_
 refine .seq ?_
 refine .reg (X := Unit) (fun ζ => .of [(0, .one (.d (.sl false 122 2 (List.map Iv.c (l))))), (1, .one (.d (.fn F_p first_p caps_p))), (7, .one (.d (.v (.int .i64 ((l.length : Int)))))), (8, .one (.d (.v (.int .i64 (0)))))] []) [⟨[0], some 6, [], []⟩, ⟨[6], some 7, [], []⟩, ⟨[], some 8, [], []⟩] (fun k3 => ?_) ?_
 ·skip
  refine .move (.no rfl) rfl rfl rfl rfl ?_
  refine .len (.no rfl) rfl (z := (l.length : Int)) t75 rfl rfl rfl (.d _ _) (map_len _ _) rfl ?_
  refine .move (.no rfl) rfl rfl rfl rfl ?_
  exact .fin () (.of (.cons rfl (.cons rfl (.cons rfl (.cons rfl .nil)))) .nil)
 intro _
 refine .block ?_
 refine .loop (X := Nat) (fun ζ => .of [(0, .one (.d (.sl false 122 2 (List.map Iv.c (l))))), (1, .one (.d (.fn F_p first_p caps_p))), (7, .one (.d (.v (.int .i64 ((l.length : Int)))))), (8, .one (.d (.v (.int .i64 ((ζ : Int))))))] []) (fun ζ => ζ ≤ l.length ∧ allTo ζ (fun i => !p (l.getD i default)) = true) (fun ζ => l.length - ζ) ?_ ?_
 ·skip
  exact .here 0 (.of (.cons rfl (.cons rfl (.cons rfl (.cons (svI (show (0) = ((0 : Int)) by first | rfl | omega | exact wrap_le (by omega) (by omega) | (rw [wrap_le (by omega) (by omega)]; omega))) .nil)))) .nil) (show 0 ≤ l.length ∧ allTo 0 (fun i => !p (l.getD i default)) = true by exact ⟨by omega, rfl⟩)
 ·rintro j hI
  have hI : j ≤ l.length ∧ allTo j (fun i => !p (l.getD i default)) = true := hI
  refine .seq ?_
  refine .reg (X := Unit) (fun ζ => .of [(0, .one (.d (.sl false 122 2 (List.map Iv.c (l))))), (1, .one (.d (.fn F_p first_p caps_p))), (7, .one (.d (.v (.int .i64 ((l.length : Int)))))), (8, .one (.d (.v (.int .i64 ((j : Int)))))), (9, .one (.d (.v (.bool (decide ((j : Int) < (l.length : Int)))))))] []) [⟨[8, 7], some 9, [], []⟩] (fun k4 => ?_) ?_
  ·skip
   refine .bin (.no rfl) rfl rfl rfl rfl rfl rfl ?_
   exact .fin () (.of (.cons rfl (.cons rfl (.cons rfl (.cons rfl (.cons rfl .nil))))) .nil)
  intro _
  refine .seq ?_
  refine .cond (t := decide ((j : Int) < (l.length : Int))) rfl (fun c0 => ?_) (fun c0 => ?_)
  ·have c0 := of_decide_eq_true c0
   refine .skip ?_
   refine .seq ?_
   refine .block ?_
   refine .seq ?_
   refine .reg (X := Unit) (fun ζ => .of [(0, .one (.d (.sl false 122 2 (List.map Iv.c (l))))), (1, .one (.d (.fn F_p first_p caps_p))), (5, .one (.d (.v (.int .i64 ((j : Int)))))), (7, .one (.d (.v (.int .i64 ((l.length : Int)))))), (8, .one (.d (.v (.int .i64 ((j : Int))))))] []) [⟨[8], some 10, [], []⟩, ⟨[10], some 5, [], []⟩] (fun k5 => ?_) ?_
   ·skip
    refine .move (.no rfl) rfl rfl rfl rfl ?_
    refine .assign (.no rfl) rfl rfl rfl rfl ?_
    exact .fin () (.of (.cons rfl (.cons rfl (.cons rfl (.cons rfl (.cons rfl .nil))))) .nil)
   intro _
   refine .seq ?_
   refine .reg (X := Unit) (fun ζ => .of [(0, .one (.d (.sl false 122 2 (List.map Iv.c (l))))), (1, .one (.d (.fn F_p first_p caps_p))), (5, .one (.d (.v (.int .i64 ((j : Int)))))), (7, .one (.d (.v (.int .i64 ((l.length : Int)))))), (8, .one (.d (.v (.int .i64 ((j : Int)))))), (16, .one (.d (.v (.bool (p (l.getD j default))))))] []) [⟨[1], some 11, [], []⟩, ⟨[0], some 12, [], []⟩, ⟨[5], some 13, [], []⟩, ⟨[12, 13], some 14, [], []⟩, ⟨[14], some 15, [], []⟩, ⟨[11, 15], some 16, [], []⟩] (fun k6 => ?_) ?_
   ·skip
    refine .move (.no rfl) rfl rfl rfl rfl ?_
    refine .move (.no rfl) rfl rfl rfl rfl ?_
    refine .move (.no rfl) rfl rfl rfl rfl ?_
    refine .indexAddr (.no rfl) rfl (j) t75 rfl t122 rfl rfl rfl (.d _ _) rfl rfl rfl (map_get (by omega)) rfl rfl ?_
    refine .load (.no rfl) rfl t122 rfl rfl (.d _) rfl rfl rfl rfl ?_
    refine .callF (.no rfl) rfl (ds := [.v (.int .i64 ((l.getD j default).lo)), .v (.int .i64 ((l.getD j default).hi))]) (h_p (l.getD j default)) rfl rfl rfl rfl (.own [16, 0] .nil) rfl rfl rfl rfl rfl rfl ?_
    exact .fin () (.of (.cons rfl (.cons rfl (.cons rfl (.cons rfl (.cons rfl (.cons rfl .nil)))))) .nil)
   intro _
   refine .cond (t := p (l.getD j default)) rfl (fun c1 => ?_) (fun c1 => ?_)
   ·have c1 := c1
    refine .seq ?_
    refine .reg (X := Unit) (fun ζ => .of [(4, .one (.d (.v (.int .i64 ((j : Int))))))] []) [⟨[5], some 17, [], []⟩, ⟨[17], some 4, [], []⟩] (fun k7 => ?_) ?_
    ·skip
     refine .move (.no rfl) rfl rfl rfl rfl ?_
     refine .assign (.no rfl) rfl rfl rfl rfl ?_
     exact .fin () (.of (.cons rfl .nil) .nil)
    intro _
    refine .ret ?_
    have e8 : ((j : Int)) = (idx p l) := by exact (idx_found (j := j) (by omega) hI.2 (by simpa using c1)).symm
    have hc9 := eq1 (fun z1 => SV.one (.d (.v (.int .i64 (z1))))) e8
    show _ ∧ _
    exact ⟨.inr rfl, .done ⟨_, [], [], _, .one (c := .d (.v (.int .i64 (idx p l)))) (hc9) .nil, .cons (Reads.d _).gives .nil, nodupB_ok rfl, by simp, (by simp)⟩⟩
   ·have c1 := c1
    refine .skip ?_
    refine .reg (X := Unit) (fun ζ => .of [(0, .one (.d (.sl false 122 2 (List.map Iv.c (l))))), (1, .one (.d (.fn F_p first_p caps_p))), (7, .one (.d (.v (.int .i64 ((l.length : Int)))))), (8, .one (.d (.v (.int .i64 (IntKind.wrap .i64 ((j : Int) + 1))))))] []) [⟨[8], some 18, [], []⟩, ⟨[18], some 8, [], []⟩] (fun k10 => ?_) ?_
    ·skip
     refine .bin (.no rfl) rfl rfl rfl rfl rfl rfl ?_
     refine .move (.no rfl) rfl rfl rfl rfl ?_
     exact .fin () (.of (.cons rfl (.cons rfl (.cons rfl (.cons rfl .nil)))) .nil)
    intro _
    exact .here (j + 1) (.of (.cons rfl (.cons rfl (.cons rfl (.cons (svI (show (IntKind.wrap .i64 ((j : Int) + 1)) = (((j + 1) : Int)) by first | rfl | omega | exact wrap_le (by omega) (by omega) | (rw [wrap_le (by omega) (by omega)]; omega))) .nil)))) .nil) ⟨(show (j + 1) ≤ l.length ∧ allTo (j + 1) (fun i => !p (l.getD i default)) = true by exact ⟨by omega, allTo_step hI.2 (by simpa using c1)⟩), (show l.length - (j + 1) < l.length - j by omega)⟩
  ·have c0 := of_decide_eq_false c0
   refine .exit ?_
   refine .seq ?_
   refine .reg (X := Unit) (fun ζ => .of [(4, .one (.d (.v (.int .i64 (-1)))))] []) [⟨[], some 4, [], []⟩] (fun k11 => ?_) ?_
   ·skip
    refine .assign (.no rfl) rfl rfl rfl rfl ?_
    exact .fin () (.of (.cons rfl .nil) .nil)
   intro _
   refine .ret ?_
   have e12 : (-1) = (idx p l) := by exact (idx_none (by omega) hI.2).symm
   have hc13 := eq1 (fun z1 => SV.one (.d (.v (.int .i64 (z1))))) e12
   show _ ∧ _
   exact ⟨.inr rfl, .done ⟨_, [], [], _, .one (c := .d (.v (.int .i64 (idx p l)))) (hc13) .nil, .cons (Reads.d _).gives .nil, nodupB_ok rfl, by simp, (by simp)⟩⟩
theorem c_ContainsFuncI (l : List Iv) (F_p : FuncId) (first_p : List (Bool × List D)) (caps_p : List D) (p : Iv → Bool) (h_p : ∀ (x0 : Iv), FnTrip Tryz.prog F_p first_p caps_p [(true, 2)] (Iv.c x0) [(false, 1)] [.v (.bool (p x0))]) : Trip Tryz.prog 173 [(false, 1), (false, 1)] ([.sl false 122 2 (List.map Iv.c (l))] ++ [.fn F_p first_p caps_p]) [(false, 1)] [.v (.bool (l.any p))] [] := by
 refine Trip.of Tryz.func173 (by decide) (c := _) rfl rfl (shB_ok rfl) (Nat.le_of_ble_eq_true rfl) rfl (AftOk.nil _) ?_
 refine .sat (t := 0) rfl (fun hs1 => ?_)
 have hs1l : l.length ≤ 9223372036854775807 := hs1.maplen
 refine .seq ?_
 refine .reg (X := Unit) (fun ζ => .of [(0, .one (.d (.sl false 122 2 (List.map Iv.c (l))))), (1, .one (.d (.fn F_p first_p caps_p)))] []) [⟨[], some 4, [], []⟩] (fun k2 => ?_) ?_
 ·skip
  refine .assign (.no rfl) rfl rfl rfl rfl ?_
  exact .fin () (.of (.cons rfl (.cons rfl .nil)) .nil)
 intro _
 refine .seq ?_
 refine .reg (X := Unit) (fun ζ => .of [(4, .one (.d (.v (.bool (decide ((idx p l) ≥ 0))))))] []) [⟨[0], some 5, [], []⟩, ⟨[1], some 6, [], []⟩, ⟨[5, 6], some 7, [], []⟩, ⟨[7], some 8, [], []⟩, ⟨[8], some 4, [], []⟩] (fun k3 => ?_) ?_
 ·skip
  refine .move (.no rfl) rfl rfl rfl rfl ?_
  refine .move (.no rfl) rfl rfl rfl rfl ?_
  refine .call (.no rfl) rfl [] [] (c_IndexFuncI l F_p first_p caps_p p h_p) rfl rfl rfl rfl rfl (.cons (Reads.d _).gives (.cons (Reads.d _).gives .nil)) rfl rfl (fun h => absurd rfl h) (.own [7, 0] .nil) (.nil) rfl rfl rfl (by simp) rfl rfl rfl ?_
  refine .bin (.no rfl) rfl rfl rfl rfl rfl rfl ?_
  refine .assign (.no rfl) rfl rfl rfl rfl ?_
  exact .fin () (.of (.cons rfl .nil) .nil)
 intro _
 refine .ret ?_
 have e4 : (decide ((idx p l) ≥ 0)) = (l.any p) := by exact idx_any _ _
 have hc5 := eq1 (fun z1 => SV.one (.d (.v (.bool (z1))))) e4
 show _ ∧ _
 exact ⟨.inr rfl, .done ⟨_, [], [], _, .one (c := .d (.v (.bool (l.any p)))) (hc5) .nil, .cons (Reads.d _).gives .nil, nodupB_ok rfl, by simp, (by simp)⟩⟩
theorem c_areAll1I (x : Iv) (F_p : FuncId) (first_p : List (Bool × List D)) (caps_p : List D) (p : Iv → Bool) (h_p : ∀ (x0 : Iv), FnTrip Tryz.prog F_p first_p caps_p [(true, 2)] (Iv.c x0) [(false, 1)] [.v (.bool (p x0))]) : Trip Tryz.prog 174 [(true, 2), (false, 1)] (Iv.c x ++ [.pt false [.fn F_p first_p caps_p]]) [(false, 1)] [.v (.bool (!p x))] [] := by
 refine Trip.of Tryz.func174 (by decide) (c := _) rfl rfl (shB_ok rfl) (Nat.le_of_ble_eq_true rfl) rfl (AftOk.nil _) ?_
 refine .seq ?_
 refine .reg (X := Nat) (fun ζ => .of [(1, .one (.d (.pt false [.fn F_p first_p caps_p]))), (2, .one (.ptr [2] (ζ) 0))] [([2], (ζ, ζ, .box [.d (.v (.int .i64 (x.lo))), .d (.v (.int .i64 (x.hi)))]))]) [⟨[0], some 2, [], [[2]]⟩, ⟨[], some 3, [], []⟩] (fun k1 => ?_) ?_
 ·skip
  refine .box (.no rfl) rfl rfl rfl rfl rfl ?_
  refine .assign (.no rfl) rfl rfl rfl rfl ?_
  exact .fin k1 (.of (.cons rfl (.cons rfl .nil)) (.cons rfl .nil))
 intro g2
 refine .seq ?_
 refine .reg (X := Unit) (fun ζ => .of [(3, .one (.d (.v (.bool (!(p x))))))] []) [⟨[1], some 4, [], []⟩, ⟨[2], some 5, [[2]], []⟩, ⟨[4, 5], some 6, [], []⟩, ⟨[6], some 7, [], []⟩, ⟨[7], some 3, [], []⟩] (fun k3 => ?_) ?_
 ·skip
  refine .load (.no rfl) rfl t154 rfl rfl (.d _) rfl rfl rfl rfl ?_
  refine .load (.no rfl) rfl t122 rfl rfl (.ptr _ _ _ _ _ rfl) rfl rfl rfl rfl ?_
  refine .callF (.no rfl) rfl (ds := [.v (.int .i64 (x.lo)), .v (.int .i64 (x.hi))]) (h_p x) rfl rfl rfl rfl (.own [6, 0] .nil) rfl rfl rfl rfl rfl rfl ?_
  refine .un (.no rfl) rfl rfl rfl rfl rfl ?_
  refine .assign (.no rfl) rfl rfl rfl rfl ?_
  exact .fin () (.of (.cons rfl .nil) .nil)
 intro _
 refine .ret ?_
 have e4 : (!(p x)) = (!p x) := by rfl
 have hc5 := eq1 (fun z1 => SV.one (.d (.v (.bool (z1))))) e4
 show _ ∧ _
 exact ⟨.inr rfl, .done ⟨_, [], [], _, .one (c := .d (.v (.bool (!p x)))) (hc5) .nil, .cons (Reads.d _).gives .nil, nodupB_ok rfl, by simp, (by simp)⟩⟩
theorem c_areAllI (l : List Iv) (F_p : FuncId) (first_p : List (Bool × List D)) (caps_p : List D) (p : Iv → Bool) (h_p : ∀ (x0 : Iv), FnTrip Tryz.prog F_p first_p caps_p [(true, 2)] (Iv.c x0) [(false, 1)] [.v (.bool (p x0))]) : Trip Tryz.prog 156 [(false, 1), (false, 1)] ([.sl false 122 2 (List.map Iv.c (l))] ++ [.fn F_p first_p caps_p]) [(false, 1)] [.v (.bool (l.all p))] [] := by
 refine Trip.of Tryz.func156 (by decide) (c := _) rfl rfl (shB_ok rfl) (Nat.le_of_ble_eq_true rfl) rfl (AftOk.nil _) ?_
 refine .sat (t := 0) rfl (fun hs1 => ?_)
 have hs1l : l.length ≤ 9223372036854775807 := hs1.maplen
 refine .seq ?_
 refine .reg (X := Nat) (fun ζ => .of [(0, .one (.d (.sl false 122 2 (List.map Iv.c (l))))), (3, .one (.ptr [3] (ζ) 0))] [([3], (ζ, ζ, .box [.d (.fn F_p first_p caps_p)]))]) [⟨[1], some 3, [], [[3]]⟩, ⟨[], some 4, [], []⟩] (fun k2 => ?_) ?_
 ·skip
  refine .box (.no rfl) rfl rfl rfl rfl rfl ?_
  refine .assign (.no rfl) rfl rfl rfl rfl ?_
  exact .fin k2 (.of (.cons rfl (.cons rfl .nil)) (.cons rfl .nil))
 intro g3
 refine .seq ?_
 refine .reg (X := Unit) (fun ζ => .of [(4, .one (.d (.v (.bool (!(l.any (fun x0 => !p x0)))))))] []) [⟨[0], some 5, [], []⟩, ⟨[3], some 6, [], []⟩, ⟨[5, 6], some 7, [[3]], []⟩, ⟨[7], some 8, [], []⟩, ⟨[8], some 4, [], []⟩] (fun k4 => ?_) ?_
 ·skip
  refine .move (.no rfl) rfl rfl rfl rfl ?_
  refine .makeFunc (.no rfl) rfl rfl rfl rfl rfl ?_
  refine .call (.no rfl) rfl [[3]] [([3], (g3, g3, .box [.d (.fn F_p first_p caps_p)]))] (c_ContainsFuncI l 174 [] [.pt false [.fn F_p first_p caps_p]] (fun x0 => !p x0) (fun x0 => c_areAll1I x0 F_p first_p caps_p p h_p)) rfl rfl rfl rfl rfl (.cons (Reads.d _).gives (.cons (Reads.clo0 (.cons (Reads.ptr0 (.head _) (.head _) (.cons (Reads.d _) .nil)) .nil)).gives .nil)) rfl rfl (fun _ => (ownCons (Owned.v _) ownNil)) (.own [7, 0] .nil) (.nil) rfl rfl rfl (AllH.get (.cons rfl .nil)) rfl rfl rfl ?_
  refine .un (.no rfl) rfl rfl rfl rfl rfl ?_
  refine .assign (.no rfl) rfl rfl rfl rfl ?_
  exact .fin () (.of (.cons rfl .nil) .nil)
 intro _
 refine .ret ?_
 have e5 : (!(l.any (fun x0 => !p x0))) = (l.all p) := by exact not_any _ _
 have hc6 := eq1 (fun z1 => SV.one (.d (.v (.bool (z1))))) e5
 show _ ∧ _
 exact ⟨.inr rfl, .done ⟨_, [], [], _, .one (c := .d (.v (.bool (l.all p)))) (hc6) .nil, .cons (Reads.d _).gives .nil, nodupB_ok rfl, by simp, (by simp)⟩⟩
theorem c_isLetter (c : Int) : Trip Tryz.prog 129 [(false, 1)] ([.v (.int .u8 (c))]) [(false, 1)] [.v (.bool (decide (c ≥ 97) && decide (c ≤ 122)))] [] := by
 refine Trip.of Tryz.func129 (by decide) (c := _) rfl rfl (shB_ok rfl) (Nat.le_of_ble_eq_true rfl) rfl (AftOk.nil _) ?_
 refine .seq ?_
 refine .reg (X := Unit) (fun ζ => .of [(0, .one (.d (.v (.int .u8 (c)))))] []) [⟨[], some 2, [], []⟩] (fun k1 => ?_) ?_
 ·skip
  refine .assign (.no rfl) rfl rfl rfl rfl ?_
  exact .fin () (.of (.cons rfl .nil) .nil)
 intro _
 refine .seq ?_
 refine .reg (X := Unit) (fun ζ => .of [(2, .one (.d (.v (.bool ((decide (c ≥ 97) && decide (c ≤ 122)))))))] []) [⟨[0], some 3, [], []⟩, ⟨[3], some 4, [], []⟩, ⟨[4], some 5, [], []⟩, ⟨[5, 0], some 6, [], []⟩, ⟨[5, 6], some 7, [], []⟩, ⟨[5, 7], some 8, [], []⟩, ⟨[8], some 2, [], []⟩] (fun k2 => ?_) ?_
 ·skip
  refine .move (.no rfl) rfl rfl rfl rfl ?_
  refine .bin (.no rfl) rfl rfl rfl rfl rfl rfl ?_
  refine .moveB (.no rfl) rfl rfl rfl rfl fun b3 g1_2 => ?_
  cases b3
  ·skip
   refine .off rfl rfl rfl rfl rfl rfl rfl ?_
   refine .off rfl rfl rfl rfl rfl rfl rfl ?_
   refine .pick (.no rfl) rfl rfl rfl rfl rfl ?_
   refine .assign (.no rfl) rfl rfl rfl rfl ?_
   exact .fin () (.of (.cons (svB (show (false) = ((decide (c ≥ 97) && decide (c ≤ 122))) by first | (simp only [g1_2, Bool.true_or, Bool.false_or, Bool.true_and, Bool.false_and, Bool.not_true, Bool.not_false]; done) | simp [g1_2])) .nil) .nil)
  ·skip
   refine .move (.on rfl rfl rfl rfl rfl) rfl rfl rfl rfl ?_
   refine .bin (.on rfl rfl rfl rfl rfl) rfl rfl rfl rfl rfl rfl ?_
   refine .pick (.no rfl) rfl rfl rfl rfl rfl ?_
   refine .assign (.no rfl) rfl rfl rfl rfl ?_
   exact .fin () (.of (.cons (svB (show (decide (c ≤ 122)) = ((decide (c ≥ 97) && decide (c ≤ 122))) by first | (simp only [g1_2, Bool.true_or, Bool.false_or, Bool.true_and, Bool.false_and, Bool.not_true, Bool.not_false]; done) | simp [g1_2])) .nil) .nil)
 intro _
 refine .ret ?_
 have e4 : ((decide (c ≥ 97) && decide (c ≤ 122))) = (decide (c ≥ 97) && decide (c ≤ 122)) := by rfl
 have hc5 := eq1 (fun z1 => SV.one (.d (.v (.bool (z1))))) e4
 show _ ∧ _
 exact ⟨.inr rfl, .done ⟨_, [], [], _, .one (c := .d (.v (.bool (decide (c ≥ 97) && decide (c ≤ 122))))) (hc5) .nil, .cons (Reads.d _).gives .nil, nodupB_ok rfl, by simp, (by simp)⟩⟩
theorem c_within (n : Int) (lo : Int) (hi : Int) : Trip Tryz.prog 101 [(false, 1), (false, 1), (false, 1)] ([.v (.int .i64 (n))] ++ [.v (.int .i64 (lo))] ++ [.v (.int .i64 (hi))]) [(false, 1)] [.v (.bool (inR n lo hi))] [] := by
 refine Trip.of Tryz.func101 (by decide) (c := _) rfl rfl (shB_ok rfl) (Nat.le_of_ble_eq_true rfl) rfl (AftOk.nil _) ?_
 refine .seq ?_
 refine .reg (X := Unit) (fun ζ => .of [(0, .one (.d (.v (.int .i64 (n))))), (1, .one (.d (.v (.int .i64 (lo))))), (2, .one (.d (.v (.int .i64 (hi)))))] []) [⟨[], some 6, [], []⟩] (fun k1 => ?_) ?_
 ·skip
  refine .assign (.no rfl) rfl rfl rfl rfl ?_
  exact .fin () (.of (.cons rfl (.cons rfl (.cons rfl .nil))) .nil)
 intro _
 refine .seq ?_
 refine .reg (X := Unit) (fun ζ => .of [(6, .one (.d (.v (.bool ((decide (lo ≤ n) && decide (n ≤ hi)))))))] []) [⟨[1], some 7, [], []⟩, ⟨[0], some 8, [], []⟩, ⟨[7, 8], some 9, [], []⟩, ⟨[9], some 10, [], []⟩, ⟨[10, 0], some 11, [], []⟩, ⟨[10, 2], some 12, [], []⟩, ⟨[10, 11, 12], some 13, [], []⟩, ⟨[10, 13], some 14, [], []⟩, ⟨[14], some 6, [], []⟩] (fun k2 => ?_) ?_
 ·skip
  refine .move (.no rfl) rfl rfl rfl rfl ?_
  refine .move (.no rfl) rfl rfl rfl rfl ?_
  refine .bin (.no rfl) rfl rfl rfl rfl rfl rfl ?_
  refine .moveB (.no rfl) rfl rfl rfl rfl fun b3 g1_3 => ?_
  cases b3
  ·skip
   refine .off rfl rfl rfl rfl rfl rfl rfl ?_
   refine .off rfl rfl rfl rfl rfl rfl rfl ?_
   refine .off rfl rfl rfl rfl rfl rfl rfl ?_
   refine .pick (.no rfl) rfl rfl rfl rfl rfl ?_
   refine .assign (.no rfl) rfl rfl rfl rfl ?_
   exact .fin () (.of (.cons (svB (show (false) = ((decide (lo ≤ n) && decide (n ≤ hi))) by first | (simp only [g1_3, Bool.true_or, Bool.false_or, Bool.true_and, Bool.false_and, Bool.not_true, Bool.not_false]; done) | simp [g1_3])) .nil) .nil)
  ·skip
   refine .move (.on rfl rfl rfl rfl rfl) rfl rfl rfl rfl ?_
   refine .move (.on rfl rfl rfl rfl rfl) rfl rfl rfl rfl ?_
   refine .bin (.on rfl rfl rfl rfl rfl) rfl rfl rfl rfl rfl rfl ?_
   refine .pick (.no rfl) rfl rfl rfl rfl rfl ?_
   refine .assign (.no rfl) rfl rfl rfl rfl ?_
   exact .fin () (.of (.cons (svB (show (decide (n ≤ hi)) = ((decide (lo ≤ n) && decide (n ≤ hi))) by first | (simp only [g1_3, Bool.true_or, Bool.false_or, Bool.true_and, Bool.false_and, Bool.not_true, Bool.not_false]; done) | simp [g1_3])) .nil) .nil)
 intro _
 refine .ret ?_
 have e4 : ((decide (lo ≤ n) && decide (n ≤ hi))) = (inR n lo hi) := by rfl
 have hc5 := eq1 (fun z1 => SV.one (.d (.v (.bool (z1))))) e4
 show _ ∧ _
 exact ⟨.inr rfl, .done ⟨_, [], [], _, .one (c := .d (.v (.bool (inR n lo hi)))) (hc5) .nil, .cons (Reads.d _).gives .nil, nodupB_ok rfl, by simp, (by simp)⟩⟩
theorem c_IndexS (l : List ByteArray) (s : ByteArray) : Trip Tryz.prog 131 [(false, 1), (false, 1)] ([.sl false 9 1 (List.map strc (l))] ++ [.v (.string (s))]) [(false, 1)] [.v (.int .i64 (idx (fun x => strEq s x) l))] [] := by
 refine Trip.of Tryz.func131 (by decide) (c := _) rfl rfl (shB_ok rfl) (Nat.le_of_ble_eq_true rfl) rfl (AftOk.nil _) ?_
 refine .sat (t := 0) rfl (fun hs1 => ?_)
 have hs1l : l.length ≤ 9223372036854775807 := hs1.maplen
 refine .seq ?_
 refine .reg (X := Unit) (fun ζ => .of [(0, .one (.d (.sl false 9 1 (List.map strc (l))))), (1, .one (.d (.v (.string (s)))))] []) [⟨[], some 4, [], []⟩] (fun k2 => ?_) ?_
 ·skip
  refine .assign (.no rfl) rfl rfl rfl rfl ?_
  exact .fin () (.of (.cons rfl (.cons rfl .nil)) .nil)
 intro _
 refine .seq ?_
 refine .seq ?_
 refine .reg (X := Unit) (fun ζ => .of [(0, .one (.d (.sl false 9 1 (List.map strc (l))))), (1, .one (.d (.v (.string (s))))), (7, .one (.d (.v (.int .i64 ((l.length : Int)))))), (8, .one (.d (.v (.int .i64 (0)))))] []) [⟨[0], some 6, [], []⟩, ⟨[6], some 7, [], []⟩, ⟨[], some 8, [], []⟩] (fun k3 => ?_) ?_
 ·skip
  refine .move (.no rfl) rfl rfl rfl rfl ?_
  refine .len (.no rfl) rfl (z := (l.length : Int)) t22 rfl rfl rfl (.d _ _) (map_len _ _) rfl ?_
  refine .move (.no rfl) rfl rfl rfl rfl ?_
  exact .fin () (.of (.cons rfl (.cons rfl (.cons rfl (.cons rfl .nil)))) .nil)
 intro _
 refine .block ?_
 refine .loop (X := Nat) (fun ζ => .of [(0, .one (.d (.sl false 9 1 (List.map strc (l))))), (1, .one (.d (.v (.string (s))))), (7, .one (.d (.v (.int .i64 ((l.length : Int)))))), (8, .one (.d (.v (.int .i64 ((ζ : Int))))))] []) (fun ζ => ζ ≤ l.length ∧ allTo ζ (fun i => !strEq s (l.getD i default)) = true) (fun ζ => l.length - ζ) ?_ ?_
 ·skip
  exact .here 0 (.of (.cons rfl (.cons rfl (.cons rfl (.cons (svI (show (0) = ((0 : Int)) by first | rfl | omega | exact wrap_le (by omega) (by omega) | (rw [wrap_le (by omega) (by omega)]; omega))) .nil)))) .nil) (show 0 ≤ l.length ∧ allTo 0 (fun i => !strEq s (l.getD i default)) = true by exact ⟨by omega, rfl⟩)
 ·rintro j hI
  have hI : j ≤ l.length ∧ allTo j (fun i => !strEq s (l.getD i default)) = true := hI
  refine .seq ?_
  refine .reg (X := Unit) (fun ζ => .of [(0, .one (.d (.sl false 9 1 (List.map strc (l))))), (1, .one (.d (.v (.string (s))))), (7, .one (.d (.v (.int .i64 ((l.length : Int)))))), (8, .one (.d (.v (.int .i64 ((j : Int)))))), (9, .one (.d (.v (.bool (decide ((j : Int) < (l.length : Int)))))))] []) [⟨[8, 7], some 9, [], []⟩] (fun k4 => ?_) ?_
  ·skip
   refine .bin (.no rfl) rfl rfl rfl rfl rfl rfl ?_
   exact .fin () (.of (.cons rfl (.cons rfl (.cons rfl (.cons rfl (.cons rfl .nil))))) .nil)
  intro _
  refine .seq ?_
  refine .cond (t := decide ((j : Int) < (l.length : Int))) rfl (fun c0 => ?_) (fun c0 => ?_)
  ·have c0 := of_decide_eq_true c0
   refine .skip ?_
   refine .seq ?_
   refine .block ?_
   refine .seq ?_
   refine .reg (X := Unit) (fun ζ => .of [(0, .one (.d (.sl false 9 1 (List.map strc (l))))), (1, .one (.d (.v (.string (s))))), (5, .one (.d (.v (.int .i64 ((j : Int)))))), (7, .one (.d (.v (.int .i64 ((l.length : Int)))))), (8, .one (.d (.v (.int .i64 ((j : Int))))))] []) [⟨[8], some 10, [], []⟩, ⟨[10], some 5, [], []⟩] (fun k5 => ?_) ?_
   ·skip
    refine .move (.no rfl) rfl rfl rfl rfl ?_
    refine .assign (.no rfl) rfl rfl rfl rfl ?_
    exact .fin () (.of (.cons rfl (.cons rfl (.cons rfl (.cons rfl (.cons rfl .nil))))) .nil)
   intro _
   refine .seq ?_
   refine .reg (X := Unit) (fun ζ => .of [(0, .one (.d (.sl false 9 1 (List.map strc (l))))), (1, .one (.d (.v (.string (s))))), (5, .one (.d (.v (.int .i64 ((j : Int)))))), (7, .one (.d (.v (.int .i64 ((l.length : Int)))))), (8, .one (.d (.v (.int .i64 ((j : Int)))))), (16, .one (.d (.v (.bool (s.toList == (l.getD j default).toList)))))] []) [⟨[1], some 11, [], []⟩, ⟨[0], some 12, [], []⟩, ⟨[5], some 13, [], []⟩, ⟨[12, 13], some 14, [], []⟩, ⟨[14], some 15, [], []⟩, ⟨[11, 15], some 16, [], []⟩] (fun k6 => ?_) ?_
   ·skip
    refine .move (.no rfl) rfl rfl rfl rfl ?_
    refine .move (.no rfl) rfl rfl rfl rfl ?_
    refine .move (.no rfl) rfl rfl rfl rfl ?_
    refine .indexAddr (.no rfl) rfl (j) t22 rfl t9 rfl rfl rfl (.d _ _) rfl rfl rfl (map_get (by omega)) rfl rfl ?_
    refine .load (.no rfl) rfl t9 rfl rfl (.d _) rfl rfl rfl rfl ?_
    refine .bin (.no rfl) rfl rfl rfl rfl rfl rfl ?_
    exact .fin () (.of (.cons rfl (.cons rfl (.cons rfl (.cons rfl (.cons rfl (.cons rfl .nil)))))) .nil)
   intro _
   refine .cond (t := s.toList == (l.getD j default).toList) rfl (fun c1 => ?_) (fun c1 => ?_)
   ·have c1 := c1
    refine .seq ?_
    refine .reg (X := Unit) (fun ζ => .of [(4, .one (.d (.v (.int .i64 ((j : Int))))))] []) [⟨[5], some 17, [], []⟩, ⟨[17], some 4, [], []⟩] (fun k7 => ?_) ?_
    ·skip
     refine .move (.no rfl) rfl rfl rfl rfl ?_
     refine .assign (.no rfl) rfl rfl rfl rfl ?_
     exact .fin () (.of (.cons rfl .nil) .nil)
    intro _
    refine .ret ?_
    have e8 : ((j : Int)) = (idx (fun x => strEq s x) l) := by exact (idx_found (p := fun x => strEq s x) (by omega) hI.2 c1).symm
    have hc9 := eq1 (fun z1 => SV.one (.d (.v (.int .i64 (z1))))) e8
    show _ ∧ _
    exact ⟨.inr rfl, .done ⟨_, [], [], _, .one (c := .d (.v (.int .i64 (idx (fun x => strEq s x) l)))) (hc9) .nil, .cons (Reads.d _).gives .nil, nodupB_ok rfl, by simp, (by simp)⟩⟩
   ·have c1 := c1
    refine .skip ?_
    refine .reg (X := Unit) (fun ζ => .of [(0, .one (.d (.sl false 9 1 (List.map strc (l))))), (1, .one (.d (.v (.string (s))))), (7, .one (.d (.v (.int .i64 ((l.length : Int)))))), (8, .one (.d (.v (.int .i64 (IntKind.wrap .i64 ((j : Int) + 1))))))] []) [⟨[8], some 18, [], []⟩, ⟨[18], some 8, [], []⟩] (fun k10 => ?_) ?_
    ·skip
     refine .bin (.no rfl) rfl rfl rfl rfl rfl rfl ?_
     refine .move (.no rfl) rfl rfl rfl rfl ?_
     exact .fin () (.of (.cons rfl (.cons rfl (.cons rfl (.cons rfl .nil)))) .nil)
    intro _
    exact .here (j + 1) (.of (.cons rfl (.cons rfl (.cons rfl (.cons (svI (show (IntKind.wrap .i64 ((j : Int) + 1)) = (((j + 1) : Int)) by first | rfl | omega | exact wrap_le (by omega) (by omega) | (rw [wrap_le (by omega) (by omega)]; omega))) .nil)))) .nil) ⟨(show (j + 1) ≤ l.length ∧ allTo (j + 1) (fun i => !strEq s (l.getD i default)) = true by exact ⟨by omega, allTo_step hI.2 (by rw [show strEq s (l.getD j default) = false from c1]; rfl)⟩), (show l.length - (j + 1) < l.length - j by omega)⟩
  ·have c0 := of_decide_eq_false c0
   refine .exit ?_
   refine .seq ?_
   refine .reg (X := Unit) (fun ζ => .of [(4, .one (.d (.v (.int .i64 (-1)))))] []) [⟨[], some 4, [], []⟩] (fun k11 => ?_) ?_
   ·skip
    refine .assign (.no rfl) rfl rfl rfl rfl ?_
    exact .fin () (.of (.cons rfl .nil) .nil)
   intro _
   refine .ret ?_
   have e12 : (-1) = (idx (fun x => strEq s x) l) := by exact (idx_none (p := fun x => strEq s x) (by omega) hI.2).symm
   have hc13 := eq1 (fun z1 => SV.one (.d (.v (.int .i64 (z1))))) e12
   show _ ∧ _
   exact ⟨.inr rfl, .done ⟨_, [], [], _, .one (c := .d (.v (.int .i64 (idx (fun x => strEq s x) l)))) (hc13) .nil, .cons (Reads.d _).gives .nil, nodupB_ok rfl, by simp, (by simp)⟩⟩
theorem c_ContainsS (l : List ByteArray) (s : ByteArray) : Trip Tryz.prog 99 [(false, 1), (false, 1)] ([.sl false 9 1 (List.map strc (l))] ++ [.v (.string (s))]) [(false, 1)] [.v (.bool (l.any fun x => strEq s x))] [] := by
 refine Trip.of Tryz.func99 (by decide) (c := _) rfl rfl (shB_ok rfl) (Nat.le_of_ble_eq_true rfl) rfl (AftOk.nil _) ?_
 refine .sat (t := 0) rfl (fun hs1 => ?_)
 have hs1l : l.length ≤ 9223372036854775807 := hs1.maplen
 refine .seq ?_
 refine .reg (X := Unit) (fun ζ => .of [(0, .one (.d (.sl false 9 1 (List.map strc (l))))), (1, .one (.d (.v (.string (s)))))] []) [⟨[], some 4, [], []⟩] (fun k2 => ?_) ?_
 ·skip
  refine .assign (.no rfl) rfl rfl rfl rfl ?_
  exact .fin () (.of (.cons rfl (.cons rfl .nil)) .nil)
 intro _
 refine .seq ?_
 refine .reg (X := Unit) (fun ζ => .of [(4, .one (.d (.v (.bool (decide ((idx (fun x => strEq s x) l) ≥ 0))))))] []) [⟨[0], some 5, [], []⟩, ⟨[1], some 6, [], []⟩, ⟨[5, 6], some 7, [], []⟩, ⟨[7], some 8, [], []⟩, ⟨[8], some 4, [], []⟩] (fun k3 => ?_) ?_
 ·skip
  refine .move (.no rfl) rfl rfl rfl rfl ?_
  refine .move (.no rfl) rfl rfl rfl rfl ?_
  refine .call (.no rfl) rfl [] [] (c_IndexS l s) rfl rfl rfl rfl rfl (.cons (Reads.d _).gives (.cons (Reads.d _).gives .nil)) rfl rfl (fun h => absurd rfl h) (.own [7, 0] .nil) (.nil) rfl rfl rfl (by simp) rfl rfl rfl ?_
  refine .bin (.no rfl) rfl rfl rfl rfl rfl rfl ?_
  refine .assign (.no rfl) rfl rfl rfl rfl ?_
  exact .fin () (.of (.cons rfl .nil) .nil)
 intro _
 refine .ret ?_
 have e4 : (decide ((idx (fun x => strEq s x) l) ≥ 0)) = (l.any fun x => strEq s x) := by exact idx_any _ _
 have hc5 := eq1 (fun z1 => SV.one (.d (.v (.bool (z1))))) e4
 show _ ∧ _
 exact ⟨.inr rfl, .done ⟨_, [], [], _, .one (c := .d (.v (.bool (l.any fun x => strEq s x)))) (hc5) .nil, .cons (Reads.d _).gives .nil, nodupB_ok rfl, by simp, (by simp)⟩⟩
theorem asciiTab {W : World} {Z : Nat → Prop} (h : Laid W Z) : ∀ c : Nat, c < 256 → W.cell? ⟨0, c, none⟩ = some (.int .u8 (if Lib.isSp (UInt8.ofNat c) then 1 else 0)) := fun c hc => by
  obtain ⟨_, h2⟩ := h _ (List.mem_singleton.2 rfl)
  obtain ⟨v, h3, h4⟩ := h2 c (.v (.int .u8 (if Lib.isSp (UInt8.ofNat c) then 1 else 0))) (by simp [hc])
  cases h4; exact h3
def words : ByteArray := (⟨#[118, 97, 114, 32, 102, 108, 97, 103, 32, 97, 114, 114, 97, 121, 32, 105, 102, 32, 102, 111, 114, 107, 32, 101, 108, 115, 101, 32, 101, 110, 100, 32, 119, 104, 105, 108, 101, 32, 117, 110, 114, 111, 108, 108, 32, 97, 115, 115, 101, 114, 116, 32, 97, 115, 115, 117, 109, 101, 32, 105, 110, 112, 117, 116, 32, 115, 112, 108, 105, 116, 32, 109, 101, 114, 103, 101, 32, 116, 114, 117, 101, 32, 102, 97, 108, 115, 101]⟩ : ByteArray)
theorem words_ascii : ∀ (j : Nat) b, words.data.toList[j]? = some b → b.toNat < 128 := fun j b h => by
  have h1 : (words.data.toList.all fun b => decide (b.toNat < 128)) = true := by kernel_rfl
  exact of_decide_eq_true (List.all_eq_true.1 h1 b (List.mem_of_getElem? h))
theorem words_fields : Lib.fields words.data.toList = keys.map fun k => k.data.toList := by kernel_rfl
theorem c_Fields : Trip Tryz.prog 160 [(false, 1)] ([.v (.string (⟨#[118, 97, 114, 32, 102, 108, 97, 103, 32, 97, 114, 114, 97, 121, 32, 105, 102, 32, 102, 111, 114, 107, 32, 101, 108, 115, 101, 32, 101, 110, 100, 32, 119, 104, 105, 108, 101, 32, 117, 110, 114, 111, 108, 108, 32, 97, 115, 115, 101, 114, 116, 32, 97, 115, 115, 117, 109, 101, 32, 105, 110, 112, 117, 116, 32, 115, 112, 108, 105, 116, 32, 109, 101, 114, 103, 101, 32, 116, 114, 117, 101, 32, 102, 97, 108, 115, 101]⟩ : ByteArray))]) [(false, 1)] [.sl true 9 1 (List.map strc (keys))] [] := by
  have h := Trip.row1 (P := Tryz.prog) (f := 160) (x := .string words) (cs := keys.map .string) (e := 9) ⟨_, Tryz.func160, by decide, by decide⟩ rfl (by intro v hv; obtain ⟨s, _, rfl⟩ := List.mem_map.1 hv; rfl) (by decide) fun W Z hL _ =>
    (Any.strings_Fields_core Tryz.lays157 (by kernel_rfl) words W (by decide) words_ascii (asciiTab hL)).mono fun e w' ⟨h1, h2⟩ => by
      rw [words_fields] at h1 h2
      exact ⟨h1, h2⟩
  exact h
theorem c_isWord (s : ByteArray) : Trip Tryz.prog 130 [(false, 1)] ([.v (.string (s))]) [(false, 1)] [.v (.bool (isKey s))] [] := by
 refine Trip.of Tryz.func130 (by decide) (c := _) rfl rfl (shB_ok rfl) (Nat.le_of_ble_eq_true rfl) rfl (AftOk.nil _) ?_
 refine .seq ?_
 refine .reg (X := Unit) (fun ζ => .of [(0, .one (.d (.v (.string (s)))))] []) [⟨[], some 2, [], []⟩] (fun k1 => ?_) ?_
 ·skip
  refine .assign (.no rfl) rfl rfl rfl rfl ?_
  exact .fin () (.of (.cons rfl .nil) .nil)
 intro _
 refine .seq ?_
 refine .reg (X := Unit) (fun ζ => .of [(2, .one (.d (.v (.bool (keys.any fun x => strEq s x)))))] []) [⟨[], some 3, [], []⟩, ⟨[0], some 4, [], []⟩, ⟨[3, 4], some 5, [], []⟩, ⟨[5], some 2, [], []⟩] (fun k2 => ?_) ?_
 ·skip
  refine .call (.no rfl) rfl [] [] (c_Fields ) rfl rfl rfl rfl rfl (.cons (Reads.d _).gives .nil) rfl rfl (fun h => absurd rfl h) (.frz [3, 0] (Frz.of_erase (erase_slo _ _ _ _ _ _ strc_e)) .nil) (.nil) rfl rfl rfl (by simp) rfl rfl rfl ?_
  refine .move (.no rfl) rfl rfl rfl rfl ?_
  refine .call (.no rfl) rfl [] [] (c_ContainsS keys s) rfl rfl rfl rfl rfl (.cons (Reads.d _).gives (.cons (Reads.d _).gives .nil)) rfl rfl (fun h => absurd rfl h) (.own [5, 0] .nil) (.nil) rfl rfl rfl (by simp) rfl rfl rfl ?_
  refine .assign (.no rfl) rfl rfl rfl rfl ?_
  exact .fin () (.of (.cons rfl .nil) .nil)
 intro _
 refine .ret ?_
 have e3 : (keys.any fun x => strEq s x) = (isKey s) := by exact isKey_eq s
 have hc4 := eq1 (fun z1 => SV.one (.d (.v (.bool (z1))))) e3
 show _ ∧ _
 exact ⟨.inr rfl, .done ⟨_, [], [], _, .one (c := .d (.v (.bool (isKey s)))) (hc4) .nil, .cons (Reads.d _).gives .nil, nodupB_ok rfl, by simp, (by simp)⟩⟩
theorem c_isName (s : ByteArray) (hs : s.size ≤ 9223372036854775807) : Trip Tryz.prog 98 [(false, 1)] ([.v (.string (s))]) [(false, 1)] [.v (.bool (nmOk s))] [] := by
 refine Trip.of Tryz.func98 (by decide) (c := _) rfl rfl (shB_ok rfl) (Nat.le_of_ble_eq_true rfl) rfl (AftOk.nil _) ?_
 refine .seq ?_
 refine .reg (X := Unit) (fun ζ => .of [(0, .one (.d (.v (.string (s)))))] []) [⟨[], some 2, [], []⟩] (fun k1 => ?_) ?_
 ·skip
  refine .assign (.no rfl) rfl rfl rfl rfl ?_
  exact .fin () (.of (.cons rfl .nil) .nil)
 intro _
 refine .seq ?_
 refine .seq ?_
 refine .reg (X := Unit) (fun ζ => .of [(0, .one (.d (.v (.string (s))))), (5, .one (.d (.v (.int .i64 ((s.size : Int)))))), (6, .one (.d (.v (.int .i64 (0)))))] []) [⟨[0], some 4, [], []⟩, ⟨[4], some 5, [], []⟩, ⟨[], some 6, [], []⟩] (fun k2 => ?_) ?_
 ·skip
  refine .move (.no rfl) rfl rfl rfl rfl ?_
  refine .lenStr (.no rfl) rfl t9 rfl rfl rfl rfl rfl ?_
  refine .move (.no rfl) rfl rfl rfl rfl ?_
  exact .fin () (.of (.cons rfl (.cons rfl (.cons rfl .nil))) .nil)
 intro _
 refine .block ?_
 refine .loop (X := Nat) (fun ζ => .of [(0, .one (.d (.v (.string (s))))), (5, .one (.d (.v (.int .i64 ((s.size : Int)))))), (6, .one (.d (.v (.int .i64 ((ζ : Int))))))] []) (fun ζ => ζ ≤ s.size ∧ allTo ζ (fun i => decide (97 ≤ byteAt s i ∧ byteAt s i ≤ 122)) = true) (fun ζ => s.size - ζ) ?_ ?_
 ·skip
  exact .here 0 (.of (.cons rfl (.cons rfl (.cons (svI (show (0) = ((0 : Int)) by first | rfl | omega | exact wrap_le (by omega) (by omega) | (rw [wrap_le (by omega) (by omega)]; omega))) .nil))) .nil) (show 0 ≤ s.size ∧ allTo 0 (fun i => decide (97 ≤ byteAt s i ∧ byteAt s i ≤ 122)) = true by exact ⟨by omega, rfl⟩)
 ·rintro j hI
  have hI : j ≤ s.size ∧ allTo j (fun i => decide (97 ≤ byteAt s i ∧ byteAt s i ≤ 122)) = true := hI
  refine .seq ?_
  refine .reg (X := Unit) (fun ζ => .of [(0, .one (.d (.v (.string (s))))), (5, .one (.d (.v (.int .i64 ((s.size : Int)))))), (6, .one (.d (.v (.int .i64 ((j : Int)))))), (7, .one (.d (.v (.bool (decide ((j : Int) < (s.size : Int)))))))] []) [⟨[6, 5], some 7, [], []⟩] (fun k3 => ?_) ?_
  ·skip
   refine .bin (.no rfl) rfl rfl rfl rfl rfl rfl ?_
   exact .fin () (.of (.cons rfl (.cons rfl (.cons rfl (.cons rfl .nil)))) .nil)
  intro _
  refine .seq ?_
  refine .cond (t := decide ((j : Int) < (s.size : Int))) rfl (fun c0 => ?_) (fun c0 => ?_)
  ·have c0 := of_decide_eq_true c0
   refine .skip ?_
   refine .seq ?_
   refine .block ?_
   refine .seq ?_
   refine .reg (X := Unit) (fun ζ => .of [(0, .one (.d (.v (.string (s))))), (3, .one (.d (.v (.int .i64 ((j : Int)))))), (5, .one (.d (.v (.int .i64 ((s.size : Int)))))), (6, .one (.d (.v (.int .i64 ((j : Int))))))] []) [⟨[6], some 8, [], []⟩, ⟨[8], some 3, [], []⟩] (fun k4 => ?_) ?_
   ·skip
    refine .move (.no rfl) rfl rfl rfl rfl ?_
    refine .assign (.no rfl) rfl rfl rfl rfl ?_
    exact .fin () (.of (.cons rfl (.cons rfl (.cons rfl (.cons rfl .nil)))) .nil)
   intro _
   refine .seq ?_
   refine .reg (X := Unit) (fun ζ => .of [(0, .one (.d (.v (.string (s))))), (5, .one (.d (.v (.int .i64 ((s.size : Int)))))), (6, .one (.d (.v (.int .i64 ((j : Int)))))), (13, .one (.d (.v (.bool (!(decide ((byteAt s j) ≥ 97) && decide ((byteAt s j) ≤ 122)))))))] []) [⟨[0], some 9, [], []⟩, ⟨[3], some 10, [], []⟩, ⟨[9, 10], some 11, [], []⟩, ⟨[11], some 12, [], []⟩, ⟨[12], some 13, [], []⟩] (fun k5 => ?_) ?_
   ·skip
    refine .move (.no rfl) rfl rfl rfl rfl ?_
    refine .move (.no rfl) rfl rfl rfl rfl ?_
    refine .indexStr (.no rfl) rfl (z := byteAt s j) (j) t9 rfl rfl rfl rfl rfl (b8_get (by omega)) rfl rfl ?_
    refine .call (.no rfl) rfl [] [] (c_isLetter (byteAt s j)) rfl rfl rfl rfl rfl (.cons (Reads.d _).gives .nil) rfl rfl (fun h => absurd rfl h) (.own [12, 0] .nil) (.nil) rfl rfl rfl (by simp) rfl rfl rfl ?_
    refine .un (.no rfl) rfl rfl rfl rfl rfl ?_
    exact .fin () (.of (.cons rfl (.cons rfl (.cons rfl (.cons rfl .nil)))) .nil)
   intro _
   refine .cond (t := !(decide ((byteAt s j) ≥ 97) && decide ((byteAt s j) ≤ 122))) rfl (fun c1 => ?_) (fun c1 => ?_)
   ·have c1 := c1
    try simp only [Bool.or_eq_true, Bool.or_eq_false_iff, Bool.and_eq_true, Bool.and_eq_false_iff, decide_eq_true_eq, decide_eq_false_iff_not, Bool.not_eq_true', Bool.not_eq_false', bne_iff_ne, beq_iff_eq, bne_eq_false_iff_eq, beq_eq_false_iff_ne, ne_eq, Bool.not_eq_eq_eq_not, Bool.not_true, Bool.not_false] at c1
    refine .seq ?_
    refine .reg (X := Unit) (fun ζ => .of [(2, .one (.d (.v (.bool (false)))))] []) [⟨[], some 2, [], []⟩] (fun k6 => ?_) ?_
    ·skip
     refine .assign (.no rfl) rfl rfl rfl rfl ?_
     exact .fin () (.of (.cons rfl .nil) .nil)
    intro _
    refine .ret ?_
    have e7 : (false) = (nmOk s) := by (simp only [nmOk, letters]; rw [allTo_fail (j := j) (by omega) (by simp only [decide_eq_false_iff_not]; omega)]; rfl)
    have hc8 := eq1 (fun z1 => SV.one (.d (.v (.bool (z1))))) e7
    show _ ∧ _
    exact ⟨.inr rfl, .done ⟨_, [], [], _, .one (c := .d (.v (.bool (nmOk s)))) (hc8) .nil, .cons (Reads.d _).gives .nil, nodupB_ok rfl, by simp, (by simp)⟩⟩
   ·have c1 := c1
    try simp only [Bool.or_eq_true, Bool.or_eq_false_iff, Bool.and_eq_true, Bool.and_eq_false_iff, decide_eq_true_eq, decide_eq_false_iff_not, Bool.not_eq_true', Bool.not_eq_false', bne_iff_ne, beq_iff_eq, bne_eq_false_iff_eq, beq_eq_false_iff_ne, ne_eq, Bool.not_eq_eq_eq_not, Bool.not_true, Bool.not_false] at c1
    refine .skip ?_
    refine .reg (X := Unit) (fun ζ => .of [(0, .one (.d (.v (.string (s))))), (5, .one (.d (.v (.int .i64 ((s.size : Int)))))), (6, .one (.d (.v (.int .i64 (IntKind.wrap .i64 ((j : Int) + 1))))))] []) [⟨[6], some 14, [], []⟩, ⟨[14], some 6, [], []⟩] (fun k9 => ?_) ?_
    ·skip
     refine .bin (.no rfl) rfl rfl rfl rfl rfl rfl ?_
     refine .move (.no rfl) rfl rfl rfl rfl ?_
     exact .fin () (.of (.cons rfl (.cons rfl (.cons rfl .nil))) .nil)
    intro _
    exact .here (j + 1) (.of (.cons rfl (.cons rfl (.cons (svI (show (IntKind.wrap .i64 ((j : Int) + 1)) = (((j + 1) : Int)) by first | rfl | omega | exact wrap_le (by omega) (by omega) | (rw [wrap_le (by omega) (by omega)]; omega))) .nil))) .nil) ⟨(show (j + 1) ≤ s.size ∧ allTo (j + 1) (fun i => decide (97 ≤ byteAt s i ∧ byteAt s i ≤ 122)) = true by exact ⟨by omega, allTo_step hI.2 (by simp only [decide_eq_true_eq]; omega)⟩), (show s.size - (j + 1) < s.size - j by omega)⟩
  ·have c0 := of_decide_eq_false c0
   refine .exit ?_
   refine .seq ?_
   refine .reg (X := Unit) (fun ζ => .of [(2, .one (.d (.v (.bool ((inR (s.size : Int) 1 8 && !(isKey s)))))))] []) [⟨[0], some 15, [], []⟩, ⟨[15], some 16, [], []⟩, ⟨[16], some 17, [], []⟩, ⟨[17], some 18, [], []⟩, ⟨[18, 0], some 19, [], []⟩, ⟨[18, 19], some 20, [], []⟩, ⟨[18, 20], some 21, [], []⟩, ⟨[18, 21], some 22, [], []⟩, ⟨[22], some 2, [], []⟩] (fun k10 => ?_) ?_
   ·skip
    refine .move (.no rfl) rfl rfl rfl rfl ?_
    refine .lenStr (.no rfl) rfl t9 rfl rfl rfl rfl rfl ?_
    refine .call (.no rfl) rfl [] [] (c_within (s.size : Int) 1 8) rfl rfl rfl rfl rfl (.cons (Reads.d _).gives (.cons (Reads.d _).gives (.cons (Reads.d _).gives .nil))) rfl rfl (fun h => absurd rfl h) (.own [17, 0] .nil) (.nil) rfl rfl rfl (by simp) rfl rfl rfl ?_
    refine .moveB (.no rfl) rfl rfl rfl rfl fun b11 g7_3 => ?_
    cases b11
    ·skip
     refine .off rfl rfl rfl rfl rfl rfl rfl ?_
     refine .off rfl rfl rfl rfl rfl rfl rfl ?_
     refine .off rfl rfl rfl rfl rfl rfl rfl ?_
     refine .pick (.no rfl) rfl rfl rfl rfl rfl ?_
     refine .assign (.no rfl) rfl rfl rfl rfl ?_
     exact .fin () (.of (.cons (svB (show (false) = ((inR (s.size : Int) 1 8 && !(isKey s))) by first | (simp only [g7_3, Bool.true_or, Bool.false_or, Bool.true_and, Bool.false_and, Bool.not_true, Bool.not_false]; done) | simp [g7_3])) .nil) .nil)
    ·skip
     refine .move (.on rfl rfl rfl rfl rfl) rfl rfl rfl rfl ?_
     refine .call (.on rfl rfl rfl rfl rfl) rfl [] [] (c_isWord s) rfl rfl rfl rfl rfl (.cons (Reads.d _).gives .nil) rfl rfl (fun h => absurd rfl h) (.own [20, 0] .nil) (.nil) rfl rfl rfl (by simp) rfl rfl rfl ?_
     refine .un (.on rfl rfl rfl rfl rfl) rfl rfl rfl rfl rfl ?_
     refine .pick (.no rfl) rfl rfl rfl rfl rfl ?_
     refine .assign (.no rfl) rfl rfl rfl rfl ?_
     exact .fin () (.of (.cons (svB (show (!(isKey s)) = ((inR (s.size : Int) 1 8 && !(isKey s))) by first | (simp only [g7_3, Bool.true_or, Bool.false_or, Bool.true_and, Bool.false_and, Bool.not_true, Bool.not_false]; done) | simp [g7_3])) .nil) .nil)
   intro _
   refine .ret ?_
   have e12 : ((inR (s.size : Int) 1 8 && !(isKey s))) = (nmOk s) := by (have hj : j = s.size := (by omega); subst hj; simp only [nmOk, letters]; rw [hI.2]; rfl)
   have hc13 := eq1 (fun z1 => SV.one (.d (.v (.bool (z1))))) e12
   show _ ∧ _
   exact ⟨.inr rfl, .done ⟨_, [], [], _, .one (c := .d (.v (.bool (nmOk s)))) (hc13) .nil, .cons (Reads.d _).gives .nil, nodupB_ok rfl, by simp, (by simp)⟩⟩
theorem c_isRight1 (a : Arr) : Trip Tryz.prog 100 [(true, 2)] (Arr.c a) [(false, 1)] [.v (.bool (inR a.size 1 16))] [] := by
 refine Trip.of Tryz.func100 (by decide) (c := _) rfl rfl (shB_ok rfl) (Nat.le_of_ble_eq_true rfl) rfl (AftOk.nil _) ?_
 refine .seq ?_
 refine .reg (X := Nat) (fun ζ => .of [(1, .one (.ptr [1] (ζ) 0))] [([1], (ζ, ζ, .box [.d (.v (.string (a.name))), .d (.v (.int .i64 (a.size)))]))]) [⟨[0], some 1, [], [[1]]⟩, ⟨[], some 2, [], []⟩] (fun k1 => ?_) ?_
 ·skip
  refine .box (.no rfl) rfl rfl rfl rfl rfl ?_
  refine .assign (.no rfl) rfl rfl rfl rfl ?_
  exact .fin k1 (.of (.cons rfl .nil) (.cons rfl .nil))
 intro g2
 refine .seq ?_
 refine .reg (X := Unit) (fun ζ => .of [(2, .one (.d (.v (.bool (inR a.size 1 16)))))] []) [⟨[1], some 3, [], []⟩, ⟨[3], some 4, [[1]], []⟩, ⟨[4], some 5, [], []⟩, ⟨[5], some 2, [], []⟩] (fun k3 => ?_) ?_
 ·skip
  refine .fieldAddrP (.no rfl) rfl t119 rfl rfl t2 rfl rfl rfl rfl ?_
  refine .load (.no rfl) rfl t2 rfl rfl (.ptr _ _ _ _ _ rfl) rfl rfl rfl rfl ?_
  refine .call (.no rfl) rfl [] [] (c_within a.size 1 16) rfl rfl rfl rfl rfl (.cons (Reads.d _).gives (.cons (Reads.d _).gives (.cons (Reads.d _).gives .nil))) rfl rfl (fun h => absurd rfl h) (.own [5, 0] .nil) (.nil) rfl rfl rfl (by simp) rfl rfl rfl ?_
  refine .assign (.no rfl) rfl rfl rfl rfl ?_
  exact .fin () (.of (.cons rfl .nil) .nil)
 intro _
 refine .ret ?_
 show _ ∧ _
 exact ⟨.inr rfl, .done ⟨_, [], [], _, .one rfl .nil, .cons (Reads.d _).gives .nil, nodupB_ok rfl, by simp, (by simp)⟩⟩
theorem c_isRight (d : Decl) (hs : ∀ x ∈ Decl.names d, x.size ≤ 9223372036854775807) (hb : d.vars.length ≤ 1048576 ∧ d.flags.length ≤ 1048576 ∧ d.arrays.length ≤ 1048576) : Trip Tryz.prog 63 [(true, 3)] (Decl.c38 d) [(false, 1)] [.v (.bool (Decl.ok d))] [] := by
 refine Trip.of Tryz.func63 (by decide) (c := _) rfl rfl (shB_ok rfl) (Nat.le_of_ble_eq_true rfl) rfl (AftOk.nil _) ?_
 refine .satA (t := 0) (i := 0) rfl rfl (fun hs1 => ?_)
 have hs1l : d.vars.length ≤ 9223372036854775807 := hs1.maplen
 refine .satA (t := 0) (i := 1) rfl rfl (fun hs2 => ?_)
 have hs2l : d.flags.length ≤ 9223372036854775807 := hs2.maplen
 refine .satA (t := 0) (i := 2) rfl rfl (fun hs3 => ?_)
 have hs3l : d.arrays.length ≤ 9223372036854775807 := hs3.maplen
 refine .seq ?_
 refine .reg (X := Nat) (fun ζ => .of [(1, .one (.ptr [1] (ζ) 0))] [([1], (ζ, ζ, .box [.d (.sl false 9 1 (List.map strc (d.vars))), .d (.sl false 9 1 (List.map strc (d.flags))), .d (.sl false 119 2 (List.map Arr.c (d.arrays)))]))]) [⟨[0], some 1, [], [[1]]⟩, ⟨[], some 2, [], []⟩] (fun k4 => ?_) ?_
 ·skip
  refine .box (.no rfl) rfl rfl rfl rfl rfl ?_
  refine .assign (.no rfl) rfl rfl rfl rfl ?_
  exact .fin k4 (.of (.cons rfl .nil) (.cons rfl .nil))
 intro g5
 refine .seq ?_
 refine .reg (X := Unit) (fun ζ => .of [(1, .one (.ptr [1] (g5) 0)), (3, .one (.d (.sl false 9 1 (List.map strc (Decl.names d)))))] [([1], (g5, g5, .box [.d (.sl false 9 1 (List.map strc (d.vars))), .d (.sl false 9 1 (List.map strc (d.flags))), .d (.sl false 119 2 (List.map Arr.c (d.arrays)))]))]) [⟨[1], some 7, [[1]], []⟩, ⟨[7], some 8, [], []⟩, ⟨[8], some 3, [], []⟩] (fun k6 => ?_) ?_
 ·skip
  refine .load (.no rfl) rfl t38 rfl rfl (.ptr _ _ _ _ _ rfl) rfl rfl rfl rfl ?_
  refine .call (.no rfl) rfl [] [] (c_names d (by first | assumption | omega | exact hs _ (getD_mem (by omega)))) rfl rfl rfl rfl rfl (.cons (Reads.d _).gives (.cons (Reads.d _).gives (.cons (Reads.d _).gives .nil))) rfl rfl (fun h => absurd rfl h) (.frz [8, 0] (Frz.of_erase (erase_slo _ _ _ _ _ _ strc_e)) .nil) (.nil) rfl rfl rfl (by simp) rfl rfl rfl ?_
  refine .assign (.no rfl) rfl rfl rfl rfl ?_
  exact .fin () (.of (.cons rfl (.cons rfl .nil)) (.cons rfl .nil))
 intro _
 refine .seq ?_
 refine .seq ?_
 refine .reg (X := Unit) (fun ζ => .of [(1, .one (.ptr [1] (g5) 0)), (3, .one (.d (.sl false 9 1 (List.map strc (Decl.names d))))), (9, .one (.d (.sl false 9 1 (List.map strc (Decl.names d))))), (10, .one (.d (.v (.int .i64 (((Decl.names d).length : Int)))))), (11, .one (.d (.v (.int .i64 (0)))))] [([1], (g5, g5, .box [.d (.sl false 9 1 (List.map strc (d.vars))), .d (.sl false 9 1 (List.map strc (d.flags))), .d (.sl false 119 2 (List.map Arr.c (d.arrays)))]))]) [⟨[3], some 9, [], []⟩, ⟨[9], some 10, [], []⟩, ⟨[], some 11, [], []⟩] (fun k7 => ?_) ?_
 ·skip
  refine .move (.no rfl) rfl rfl rfl rfl ?_
  refine .len (.no rfl) rfl (z := ((Decl.names d).length : Int)) t22 rfl rfl rfl (.d _ _) (map_len _ _) rfl ?_
  refine .move (.no rfl) rfl rfl rfl rfl ?_
  exact .fin () (.of (.cons rfl (.cons rfl (.cons rfl (.cons rfl (.cons rfl .nil))))) (.cons rfl .nil))
 intro _
 refine .block ?_
 refine .loop (X := Nat) (fun ζ => .of [(1, .one (.ptr [1] (g5) 0)), (3, .one (.d (.sl false 9 1 (List.map strc (Decl.names d))))), (9, .one (.d (.sl false 9 1 (List.map strc (Decl.names d))))), (10, .one (.d (.v (.int .i64 (((Decl.names d).length : Int)))))), (11, .one (.d (.v (.int .i64 ((ζ : Int))))))] [([1], (g5, g5, .box [.d (.sl false 9 1 (List.map strc (d.vars))), .d (.sl false 9 1 (List.map strc (d.flags))), .d (.sl false 119 2 (List.map Arr.c (d.arrays)))]))]) (fun ζ => ζ ≤ (Decl.names d).length ∧ allTo ζ (nameOk (Decl.names d)) = true) (fun ζ => (Decl.names d).length - ζ) ?_ ?_
 ·skip
  exact .here 0 (.of (.cons rfl (.cons rfl (.cons rfl (.cons rfl (.cons (svI (show (0) = ((0 : Int)) by first | rfl | omega | exact wrap_le (by omega) (by omega) | (rw [wrap_le (by omega) (by omega)]; omega))) .nil))))) (.cons rfl .nil)) (show 0 ≤ (Decl.names d).length ∧ allTo 0 (nameOk (Decl.names d)) = true by exact ⟨by omega, rfl⟩)
 ·rintro j hI
  have hI : j ≤ (Decl.names d).length ∧ allTo j (nameOk (Decl.names d)) = true := hI
  have hn9 : (Decl.names d).length ≤ 3145728 := by simp [Decl.names]; omega
  refine .seq ?_
  refine .reg (X := Unit) (fun ζ => .of [(1, .one (.ptr [1] (g5) 0)), (3, .one (.d (.sl false 9 1 (List.map strc (Decl.names d))))), (9, .one (.d (.sl false 9 1 (List.map strc (Decl.names d))))), (10, .one (.d (.v (.int .i64 (((Decl.names d).length : Int)))))), (11, .one (.d (.v (.int .i64 ((j : Int)))))), (12, .one (.d (.v (.bool (decide ((j : Int) < ((Decl.names d).length : Int)))))))] [([1], (g5, g5, .box [.d (.sl false 9 1 (List.map strc (d.vars))), .d (.sl false 9 1 (List.map strc (d.flags))), .d (.sl false 119 2 (List.map Arr.c (d.arrays)))]))]) [⟨[11, 10], some 12, [], []⟩] (fun k8 => ?_) ?_
  ·skip
   refine .bin (.no rfl) rfl rfl rfl rfl rfl rfl ?_
   exact .fin () (.of (.cons rfl (.cons rfl (.cons rfl (.cons rfl (.cons rfl (.cons rfl .nil)))))) (.cons rfl .nil))
  intro _
  refine .seq ?_
  refine .cond (t := decide ((j : Int) < ((Decl.names d).length : Int))) rfl (fun c0 => ?_) (fun c0 => ?_)
  ·have c0 := of_decide_eq_true c0
   refine .skip ?_
   refine .seq ?_
   refine .block ?_
   refine .seq ?_
   refine .reg (X := Unit) (fun ζ => .of [(1, .one (.ptr [1] (g5) 0)), (3, .one (.d (.sl false 9 1 (List.map strc (Decl.names d))))), (4, .one (.d (.v (.int .i64 ((j : Int)))))), (5, .one (.d (.v (.string ((Decl.names d).getD (j) default))))), (9, .one (.d (.sl false 9 1 (List.map strc (Decl.names d))))), (10, .one (.d (.v (.int .i64 (((Decl.names d).length : Int)))))), (11, .one (.d (.v (.int .i64 ((j : Int))))))] [([1], (g5, g5, .box [.d (.sl false 9 1 (List.map strc (d.vars))), .d (.sl false 9 1 (List.map strc (d.flags))), .d (.sl false 119 2 (List.map Arr.c (d.arrays)))]))]) [⟨[11], some 13, [], []⟩, ⟨[9, 11], some 14, [], []⟩, ⟨[14], some 15, [], []⟩, ⟨[13], some 4, [], []⟩, ⟨[15], some 5, [], []⟩] (fun k9 => ?_) ?_
   ·skip
    refine .move (.no rfl) rfl rfl rfl rfl ?_
    refine .indexAddr (.no rfl) rfl (j) t22 rfl t9 rfl rfl rfl (.d _ _) rfl rfl rfl (map_get (by omega)) rfl rfl ?_
    refine .load (.no rfl) rfl t9 rfl rfl (.d _) rfl rfl rfl rfl ?_
    refine .assign (.no rfl) rfl rfl rfl rfl ?_
    refine .assign (.no rfl) rfl rfl rfl rfl ?_
    exact .fin () (.of (.cons rfl (.cons rfl (.cons rfl (.cons rfl (.cons rfl (.cons rfl (.cons rfl .nil))))))) (.cons rfl .nil))
   intro _
   refine .seq ?_
   refine .reg (X := Unit) (fun ζ => .of [(1, .one (.ptr [1] (g5) 0)), (3, .one (.d (.sl false 9 1 (List.map strc (Decl.names d))))), (9, .one (.d (.sl false 9 1 (List.map strc (Decl.names d))))), (10, .one (.d (.v (.int .i64 (((Decl.names d).length : Int)))))), (11, .one (.d (.v (.int .i64 ((j : Int)))))), (25, .one (.d (.v (.bool ((!(nmOk ((Decl.names d).getD (j) default)) || ((Decl.names d).take j).any fun x => strEq ((Decl.names d).getD (j) default) x))))))] [([1], (g5, g5, .box [.d (.sl false 9 1 (List.map strc (d.vars))), .d (.sl false 9 1 (List.map strc (d.flags))), .d (.sl false 119 2 (List.map Arr.c (d.arrays)))]))]) [⟨[5], some 16, [], []⟩, ⟨[16], some 17, [], []⟩, ⟨[17], some 18, [], []⟩, ⟨[18], some 19, [], []⟩, ⟨[19, 3], some 20, [], []⟩, ⟨[19, 4], some 21, [], []⟩, ⟨[19, 20, 21], some 22, [], []⟩, ⟨[19, 5], some 23, [], []⟩, ⟨[19, 22, 23], some 24, [], []⟩, ⟨[19, 24], some 25, [], []⟩] (fun k10 => ?_) ?_
   ·skip
    refine .move (.no rfl) rfl rfl rfl rfl ?_
    refine .call (.no rfl) rfl [] [] (c_isName ((Decl.names d).getD (j) default) (by first | assumption | omega | exact hs _ (getD_mem (by omega)))) rfl rfl rfl rfl rfl (.cons (Reads.d _).gives .nil) rfl rfl (fun h => absurd rfl h) (.own [17, 0] .nil) (.nil) rfl rfl rfl (by simp) rfl rfl rfl ?_
    refine .un (.no rfl) rfl rfl rfl rfl rfl ?_
    refine .moveB (.no rfl) rfl rfl rfl rfl fun b11 g5_3 => ?_
    cases b11
    ·skip
     refine .move (.on rfl rfl rfl rfl rfl) rfl rfl rfl rfl ?_
     refine .move (.on rfl rfl rfl rfl rfl) rfl rfl rfl rfl ?_
     refine .slice (.on rfl rfl rfl rfl rfl) rfl (lv := 0) (hv := j) (m := 0) t22 rfl t9 rfl rfl (.d _ _) rfl (by intro _ _ h; cases h) (by exact rfl) (by exact ⟨_, rfl⟩) (Nat.zero_le _) (le_map (by omega)) (cut_d0 _ _ _ _ _ _ _ _ _) rfl ?_
     refine .move (.on rfl rfl rfl rfl rfl) rfl rfl rfl rfl ?_
     refine .call (.on rfl rfl rfl rfl rfl) rfl [] [] (c_ContainsS ((Decl.names d).take j) ((Decl.names d).getD (j) default)) rfl rfl rfl rfl rfl (.cons (Reads.d _).gives (.cons (Reads.d _).gives .nil)) rfl rfl (fun h => absurd rfl h) (.own [24, 0] .nil) (.nil) rfl rfl rfl (by simp) rfl rfl rfl ?_
     refine .pick (.no rfl) rfl rfl rfl rfl rfl ?_
     exact .fin () (.of (.cons rfl (.cons rfl (.cons rfl (.cons rfl (.cons rfl (.cons (svB (show (((Decl.names d).take j).any fun x => strEq ((Decl.names d).getD (j) default) x) = ((!(nmOk ((Decl.names d).getD (j) default)) || ((Decl.names d).take j).any fun x => strEq ((Decl.names d).getD (j) default) x)) by first | (simp only [g5_3, Bool.true_or, Bool.false_or, Bool.true_and, Bool.false_and, Bool.not_true, Bool.not_false]; done) | simp [g5_3])) .nil)))))) (.cons rfl .nil))
    ·skip
     refine .off rfl rfl rfl rfl rfl rfl rfl ?_
     refine .off rfl rfl rfl rfl rfl rfl rfl ?_
     refine .off rfl rfl rfl rfl rfl rfl rfl ?_
     refine .off rfl rfl rfl rfl rfl rfl rfl ?_
     refine .off rfl rfl rfl rfl rfl rfl rfl ?_
     refine .pick (.no rfl) rfl rfl rfl rfl rfl ?_
     exact .fin () (.of (.cons rfl (.cons rfl (.cons rfl (.cons rfl (.cons rfl (.cons (svB (show (true) = ((!(nmOk ((Decl.names d).getD (j) default)) || ((Decl.names d).take j).any fun x => strEq ((Decl.names d).getD (j) default) x)) by first | (simp only [g5_3, Bool.true_or, Bool.false_or, Bool.true_and, Bool.false_and, Bool.not_true, Bool.not_false]; done) | simp [g5_3])) .nil)))))) (.cons rfl .nil))
   intro _
   refine .cond (t := (!(nmOk ((Decl.names d).getD (j) default)) || ((Decl.names d).take j).any fun x => strEq ((Decl.names d).getD (j) default) x)) rfl (fun c1 => ?_) (fun c1 => ?_)
   ·have c1 := c1
    try simp only [Bool.or_eq_true, Bool.or_eq_false_iff, Bool.and_eq_true, Bool.and_eq_false_iff, decide_eq_true_eq, decide_eq_false_iff_not, Bool.not_eq_true', Bool.not_eq_false', bne_iff_ne, beq_iff_eq, bne_eq_false_iff_eq, beq_eq_false_iff_ne, ne_eq, Bool.not_eq_eq_eq_not, Bool.not_true, Bool.not_false] at c1
    refine .seq ?_
    refine .reg (X := Unit) (fun ζ => .of [(2, .one (.d (.v (.bool (false)))))] []) [⟨[], some 2, [], []⟩] (fun k12 => ?_) ?_
    ·skip
     refine .assign (.no rfl) rfl rfl rfl rfl ?_
     exact .fin () (.of (.cons rfl .nil) .nil)
    intro _
    refine .ret ?_
    have e13 : (false) = (Decl.ok d) := by exact (Decl.ok_name2 (j := j) (by omega) c1).symm
    have hc14 := eq1 (fun z1 => SV.one (.d (.v (.bool (z1))))) e13
    show _ ∧ _
    exact ⟨.inr rfl, .done ⟨_, [], [], _, .one (c := .d (.v (.bool (Decl.ok d)))) (hc14) .nil, .cons (Reads.d _).gives .nil, nodupB_ok rfl, by simp, (by simp)⟩⟩
   ·have c1 := c1
    try simp only [Bool.or_eq_true, Bool.or_eq_false_iff, Bool.and_eq_true, Bool.and_eq_false_iff, decide_eq_true_eq, decide_eq_false_iff_not, Bool.not_eq_true', Bool.not_eq_false', bne_iff_ne, beq_iff_eq, bne_eq_false_iff_eq, beq_eq_false_iff_ne, ne_eq, Bool.not_eq_eq_eq_not, Bool.not_true, Bool.not_false] at c1
    refine .skip ?_
    refine .reg (X := Unit) (fun ζ => .of [(1, .one (.ptr [1] (g5) 0)), (3, .one (.d (.sl false 9 1 (List.map strc (Decl.names d))))), (9, .one (.d (.sl false 9 1 (List.map strc (Decl.names d))))), (10, .one (.d (.v (.int .i64 (((Decl.names d).length : Int)))))), (11, .one (.d (.v (.int .i64 (IntKind.wrap .i64 ((j : Int) + 1))))))] [([1], (g5, g5, .box [.d (.sl false 9 1 (List.map strc (d.vars))), .d (.sl false 9 1 (List.map strc (d.flags))), .d (.sl false 119 2 (List.map Arr.c (d.arrays)))]))]) [⟨[11], some 26, [], []⟩, ⟨[26], some 11, [], []⟩] (fun k15 => ?_) ?_
    ·skip
     refine .bin (.no rfl) rfl rfl rfl rfl rfl rfl ?_
     refine .move (.no rfl) rfl rfl rfl rfl ?_
     exact .fin () (.of (.cons rfl (.cons rfl (.cons rfl (.cons rfl (.cons rfl .nil))))) (.cons rfl .nil))
    intro _
    exact .here (j + 1) (.of (.cons rfl (.cons rfl (.cons rfl (.cons rfl (.cons (svI (show (IntKind.wrap .i64 ((j : Int) + 1)) = (((j + 1) : Int)) by first | rfl | omega | exact wrap_le (by omega) (by omega) | (rw [wrap_le (by omega) (by omega)]; omega))) .nil))))) (.cons rfl .nil)) ⟨(show (j + 1) ≤ (Decl.names d).length ∧ allTo (j + 1) (nameOk (Decl.names d)) = true by exact ⟨by omega, allTo_step hI.2 (nameOk_of2 c1)⟩), (show (Decl.names d).length - (j + 1) < (Decl.names d).length - j by omega)⟩
  ·have c0 := of_decide_eq_false c0
   refine .exit ?_
   refine .seq ?_
   refine .reg (X := Unit) (fun ζ => .of [(1, .one (.ptr [1] (g5) 0)), (6, .one (.d (.fn 100 [] [])))] [([1], (g5, g5, .box [.d (.sl false 9 1 (List.map strc (d.vars))), .d (.sl false 9 1 (List.map strc (d.flags))), .d (.sl false 119 2 (List.map Arr.c (d.arrays)))]))]) [⟨[], some 6, [], []⟩] (fun k16 => ?_) ?_
   ·skip
    refine .assign (.no rfl) rfl rfl rfl rfl ?_
    exact .fin () (.of (.cons rfl (.cons rfl .nil)) (.cons rfl .nil))
   intro _
   refine .seq ?_
   refine .reg (X := Unit) (fun ζ => .of [(2, .one (.d (.v (.bool ((((decide ((d.vars.length : Int) ≤ 5) && decide ((d.flags.length : Int) ≤ 3)) && decide ((d.arrays.length : Int) ≤ 2)) && d.arrays.all (fun x0 => inR x0.size 1 16)))))))] []) [⟨[1], some 27, [], []⟩, ⟨[27], some 28, [[1]], []⟩, ⟨[28], some 29, [], []⟩, ⟨[29], some 30, [], []⟩, ⟨[30], some 31, [], []⟩, ⟨[31, 1], some 32, [], []⟩, ⟨[31, 32], some 33, [[1]], []⟩, ⟨[31, 33], some 34, [], []⟩, ⟨[31, 34], some 35, [], []⟩, ⟨[31, 35], some 36, [], []⟩, ⟨[36], some 37, [], []⟩, ⟨[37, 1], some 38, [], []⟩, ⟨[37, 38], some 39, [[1]], []⟩, ⟨[37, 39], some 40, [], []⟩, ⟨[37, 40], some 41, [], []⟩, ⟨[37, 41], some 42, [], []⟩, ⟨[42], some 43, [], []⟩, ⟨[43, 1], some 44, [], []⟩, ⟨[43, 44], some 45, [[1]], []⟩, ⟨[43, 6], some 46, [], []⟩, ⟨[43, 45, 46], some 47, [], []⟩, ⟨[43, 47], some 48, [], []⟩, ⟨[48], some 2, [], []⟩] (fun k17 => ?_) ?_
   ·skip
    refine .fieldAddrP (.no rfl) rfl t38 rfl rfl t22 rfl rfl rfl rfl ?_
    refine .load (.no rfl) rfl t22 rfl rfl (.ptr _ _ _ _ _ rfl) rfl rfl rfl rfl ?_
    refine .len (.no rfl) rfl (z := (d.vars.length : Int)) t22 rfl rfl rfl (.d _ _) (map_len _ _) rfl ?_
    refine .bin (.no rfl) rfl rfl rfl rfl rfl rfl ?_
    refine .moveB (.no rfl) rfl rfl rfl rfl fun b18 g9_4 => ?_
    cases b18
    ·skip
     refine .off rfl rfl rfl rfl rfl rfl rfl ?_
     refine .off rfl rfl rfl rfl rfl rfl rfl ?_
     refine .off rfl rfl rfl rfl rfl rfl rfl ?_
     refine .off rfl rfl rfl rfl rfl rfl rfl ?_
     refine .pick (.no rfl) rfl rfl rfl rfl rfl ?_
     refine .move (.no rfl) rfl rfl rfl rfl ?_
     refine .off rfl rfl rfl rfl rfl rfl rfl ?_
     refine .off rfl rfl rfl rfl rfl rfl rfl ?_
     refine .off rfl rfl rfl rfl rfl rfl rfl ?_
     refine .off rfl rfl rfl rfl rfl rfl rfl ?_
     refine .pick (.no rfl) rfl rfl rfl rfl rfl ?_
     refine .move (.no rfl) rfl rfl rfl rfl ?_
     refine .off rfl rfl rfl rfl rfl rfl rfl ?_
     refine .off rfl rfl rfl rfl rfl rfl rfl ?_
     refine .off rfl rfl rfl rfl rfl rfl rfl ?_
     refine .off rfl rfl rfl rfl rfl rfl rfl ?_
     refine .pick (.no rfl) rfl rfl rfl rfl rfl ?_
     refine .assign (.no rfl) rfl rfl rfl rfl ?_
     exact .fin () (.of (.cons (svB (show (false) = ((((decide ((d.vars.length : Int) ≤ 5) && decide ((d.flags.length : Int) ≤ 3)) && decide ((d.arrays.length : Int) ≤ 2)) && d.arrays.all (fun x0 => inR x0.size 1 16))) by first | (simp only [g9_4, Bool.true_or, Bool.false_or, Bool.true_and, Bool.false_and, Bool.not_true, Bool.not_false]; done) | simp [g9_4])) .nil) .nil)
    ·skip
     refine .fieldAddrP (.on rfl rfl rfl rfl rfl) rfl t38 rfl rfl t22 rfl rfl rfl rfl ?_
     refine .load (.on rfl rfl rfl rfl rfl) rfl t22 rfl rfl (.ptr _ _ _ _ _ rfl) rfl rfl rfl rfl ?_
     refine .len (.on rfl rfl rfl rfl rfl) rfl (z := (d.flags.length : Int)) t22 rfl rfl rfl (.d _ _) (map_len _ _) rfl ?_
     refine .bin (.on rfl rfl rfl rfl rfl) rfl rfl rfl rfl rfl rfl ?_
     refine .pick (.no rfl) rfl rfl rfl rfl rfl ?_
     refine .moveB (.no rfl) rfl rfl rfl rfl fun b19 g9_10 => ?_
     cases b19
     ·skip
      refine .off rfl rfl rfl rfl rfl rfl rfl ?_
      refine .off rfl rfl rfl rfl rfl rfl rfl ?_
      refine .off rfl rfl rfl rfl rfl rfl rfl ?_
      refine .off rfl rfl rfl rfl rfl rfl rfl ?_
      refine .pick (.no rfl) rfl rfl rfl rfl rfl ?_
      refine .move (.no rfl) rfl rfl rfl rfl ?_
      refine .off rfl rfl rfl rfl rfl rfl rfl ?_
      refine .off rfl rfl rfl rfl rfl rfl rfl ?_
      refine .off rfl rfl rfl rfl rfl rfl rfl ?_
      refine .off rfl rfl rfl rfl rfl rfl rfl ?_
      refine .pick (.no rfl) rfl rfl rfl rfl rfl ?_
      refine .assign (.no rfl) rfl rfl rfl rfl ?_
      exact .fin () (.of (.cons (svB (show (false) = ((((decide ((d.vars.length : Int) ≤ 5) && decide ((d.flags.length : Int) ≤ 3)) && decide ((d.arrays.length : Int) ≤ 2)) && d.arrays.all (fun x0 => inR x0.size 1 16))) by first | (simp only [g9_4, g9_10, Bool.true_or, Bool.false_or, Bool.true_and, Bool.false_and, Bool.not_true, Bool.not_false]; done) | simp [g9_4, g9_10])) .nil) .nil)
     ·skip
      refine .fieldAddrP (.on rfl rfl rfl rfl rfl) rfl t38 rfl rfl t36 rfl rfl rfl rfl ?_
      refine .load (.on rfl rfl rfl rfl rfl) rfl t36 rfl rfl (.ptr _ _ _ _ _ rfl) rfl rfl rfl rfl ?_
      refine .len (.on rfl rfl rfl rfl rfl) rfl (z := (d.arrays.length : Int)) t36 rfl rfl rfl (.d _ _) (map_len _ _) rfl ?_
      refine .bin (.on rfl rfl rfl rfl rfl) rfl rfl rfl rfl rfl rfl ?_
      refine .pick (.no rfl) rfl rfl rfl rfl rfl ?_
      refine .moveB (.no rfl) rfl rfl rfl rfl fun b20 g9_16 => ?_
      cases b20
      ·skip
       refine .off rfl rfl rfl rfl rfl rfl rfl ?_
       refine .off rfl rfl rfl rfl rfl rfl rfl ?_
       refine .off rfl rfl rfl rfl rfl rfl rfl ?_
       refine .off rfl rfl rfl rfl rfl rfl rfl ?_
       refine .pick (.no rfl) rfl rfl rfl rfl rfl ?_
       refine .assign (.no rfl) rfl rfl rfl rfl ?_
       exact .fin () (.of (.cons (svB (show (false) = ((((decide ((d.vars.length : Int) ≤ 5) && decide ((d.flags.length : Int) ≤ 3)) && decide ((d.arrays.length : Int) ≤ 2)) && d.arrays.all (fun x0 => inR x0.size 1 16))) by first | (simp only [g9_4, g9_10, g9_16, Bool.true_or, Bool.false_or, Bool.true_and, Bool.false_and, Bool.not_true, Bool.not_false]; done) | simp [g9_4, g9_10, g9_16])) .nil) .nil)
      ·skip
       refine .fieldAddrP (.on rfl rfl rfl rfl rfl) rfl t38 rfl rfl t36 rfl rfl rfl rfl ?_
       refine .load (.on rfl rfl rfl rfl rfl) rfl t36 rfl rfl (.ptr _ _ _ _ _ rfl) rfl rfl rfl rfl ?_
       refine .move (.on rfl rfl rfl rfl rfl) rfl rfl rfl rfl ?_
       refine .call (.on rfl rfl rfl rfl rfl) rfl [] [] (c_areAllA d.arrays 100 [] [] (fun x0 => inR x0.size 1 16) (fun x0 => c_isRight1 x0)) rfl rfl rfl rfl rfl (.cons (Reads.d _).gives (.cons (Reads.d _).gives .nil)) rfl rfl (fun h => absurd rfl h) (.own [47, 0] .nil) (.nil) rfl rfl rfl (by simp) rfl rfl rfl ?_
       refine .pick (.no rfl) rfl rfl rfl rfl rfl ?_
       refine .assign (.no rfl) rfl rfl rfl rfl ?_
       exact .fin () (.of (.cons (svB (show (d.arrays.all (fun x0 => inR x0.size 1 16)) = ((((decide ((d.vars.length : Int) ≤ 5) && decide ((d.flags.length : Int) ≤ 3)) && decide ((d.arrays.length : Int) ≤ 2)) && d.arrays.all (fun x0 => inR x0.size 1 16))) by first | (simp only [g9_4, g9_10, g9_16, Bool.true_or, Bool.false_or, Bool.true_and, Bool.false_and, Bool.not_true, Bool.not_false]; done) | simp [g9_4, g9_10, g9_16])) .nil) .nil)
   intro _
   refine .ret ?_
   have e21 : ((((decide ((d.vars.length : Int) ≤ 5) && decide ((d.flags.length : Int) ≤ 3)) && decide ((d.arrays.length : Int) ≤ 2)) && d.arrays.all (fun x0 => inR x0.size 1 16))) = (Decl.ok d) := by exact Decl.ok_right (j := j) (by omega) hI.2
   have hc22 := eq1 (fun z1 => SV.one (.d (.v (.bool (z1))))) e21
   show _ ∧ _
   exact ⟨.inr rfl, .done ⟨_, [], [], _, .one (c := .d (.v (.bool (Decl.ok d)))) (hc22) .nil, .cons (Reads.d _).gives .nil, nodupB_ok rfl, by simp, (by simp)⟩⟩
theorem c_isEnv (d : Decl) (e : Env) : Trip Tryz.prog 122 [(true, 3), (true, 3)] (Decl.c38 d ++ Env.c77 e) [(false, 1)] [.v (.bool (Env.okIn d e))] [] := by
 refine Trip.of Tryz.func122 (by decide) (c := _) rfl rfl (shB_ok rfl) (Nat.le_of_ble_eq_true rfl) rfl (AftOk.nil _) ?_
 refine .satA (t := 0) (i := 0) rfl rfl (fun hs1 => ?_)
 have hs1l : d.vars.length ≤ 9223372036854775807 := hs1.maplen
 refine .satA (t := 0) (i := 1) rfl rfl (fun hs2 => ?_)
 have hs2l : d.flags.length ≤ 9223372036854775807 := hs2.maplen
 refine .satA (t := 0) (i := 2) rfl rfl (fun hs3 => ?_)
 have hs3l : d.arrays.length ≤ 9223372036854775807 := hs3.maplen
 refine .satA (t := 1) (i := 1) rfl rfl (fun hs4 => ?_)
 have hs4l : e.ints.length ≤ 9223372036854775807 := hs4.maplen
 refine .satA (t := 1) (i := 2) rfl rfl (fun hs5 => ?_)
 have hs5l : e.arrs.length ≤ 9223372036854775807 := hs5.maplen
 refine .seq ?_
 refine .reg (X := Nat × Nat) (fun ζ => .of [(2, .one (.ptr [2] (ζ.1) 0)), (3, .one (.ptr [3] (ζ.2) 0))] [([2], (ζ.1, ζ.1, .box [.d (.sl false 9 1 (List.map strc (d.vars))), .d (.sl false 9 1 (List.map strc (d.flags))), .d (.sl false 119 2 (List.map Arr.c (d.arrays)))])), ([3], (ζ.2, ζ.2, .box [.d (.v (.bool (e.live))), .d (.sl false 122 2 (List.map Iv.c (e.ints))), .d (.sl false 122 2 (List.map Iv.c (e.arrs)))]))]) [⟨[0], some 2, [], [[2]]⟩, ⟨[1], some 3, [], [[3]]⟩, ⟨[], some 4, [], []⟩] (fun k6 => ?_) ?_
 ·skip
  refine .box (.no rfl) rfl rfl rfl rfl rfl ?_
  refine .box (.no rfl) rfl rfl rfl rfl rfl ?_
  refine .assign (.no rfl) rfl rfl rfl rfl ?_
  exact .fin (k6, k6 + 1) (.of (.cons rfl (.cons rfl .nil)) (.cons rfl (.cons rfl .nil)))
 rintro ⟨g7, g8⟩
 refine .seq ?_
 refine .seq ?_
 refine .reg (X := Unit) (fun ζ => .of [(2, .one (.ptr [2] (g7) 0)), (3, .one (.ptr [3] (g8) 0)), (7, .one (.d (.v (.bool (!e.live)))))] [([2], (g7, g7, .box [.d (.sl false 9 1 (List.map strc (d.vars))), .d (.sl false 9 1 (List.map strc (d.flags))), .d (.sl false 119 2 (List.map Arr.c (d.arrays)))])), ([3], (g8, g8, .box [.d (.v (.bool (e.live))), .d (.sl false 122 2 (List.map Iv.c (e.ints))), .d (.sl false 122 2 (List.map Iv.c (e.arrs)))]))]) [⟨[3], some 5, [], []⟩, ⟨[5], some 6, [[3]], []⟩, ⟨[6], some 7, [], []⟩] (fun k9 => ?_) ?_
 ·skip
  refine .fieldAddrP (.no rfl) rfl t77 rfl rfl t4 rfl rfl rfl rfl ?_
  refine .load (.no rfl) rfl t4 rfl rfl (.ptr _ _ _ _ _ rfl) rfl rfl rfl rfl ?_
  refine .un (.no rfl) rfl rfl rfl rfl rfl ?_
  exact .fin () (.of (.cons rfl (.cons rfl (.cons rfl .nil))) (.cons rfl (.cons rfl .nil)))
 intro _
 refine .cond (t := !e.live) rfl (fun c0 => ?_) (fun c0 => ?_)
 ·have c0 := c0
  try simp only [Bool.or_eq_true, Bool.or_eq_false_iff, Bool.and_eq_true, Bool.and_eq_false_iff, decide_eq_true_eq, decide_eq_false_iff_not, Bool.not_eq_true', Bool.not_eq_false', bne_iff_ne, beq_iff_eq, bne_eq_false_iff_eq, beq_eq_false_iff_ne, ne_eq, Bool.not_eq_eq_eq_not, Bool.not_true, Bool.not_false] at c0
  refine .seq ?_
  refine .reg (X := Unit) (fun ζ => .of [(4, .one (.d (.v (.bool (((e.ints.length : Int) == 0 && (e.arrs.length : Int) == 0))))))] []) [⟨[3], some 8, [], []⟩, ⟨[8], some 9, [[3]], []⟩, ⟨[9], some 10, [], []⟩, ⟨[10], some 11, [], []⟩, ⟨[11], some 12, [], []⟩, ⟨[12, 3], some 13, [], []⟩, ⟨[12, 13], some 14, [[3]], []⟩, ⟨[12, 14], some 15, [], []⟩, ⟨[12, 15], some 16, [], []⟩, ⟨[12, 16], some 17, [], []⟩, ⟨[17], some 4, [], []⟩] (fun k10 => ?_) ?_
  ·skip
   refine .fieldAddrP (.no rfl) rfl t77 rfl rfl t75 rfl rfl rfl rfl ?_
   refine .load (.no rfl) rfl t75 rfl rfl (.ptr _ _ _ _ _ rfl) rfl rfl rfl rfl ?_
   refine .len (.no rfl) rfl (z := (e.ints.length : Int)) t75 rfl rfl rfl (.d _ _) (map_len _ _) rfl ?_
   refine .bin (.no rfl) rfl rfl rfl rfl rfl rfl ?_
   refine .moveB (.no rfl) rfl rfl rfl rfl fun b11 g2_4 => ?_
   cases b11
   ·skip
    refine .off rfl rfl rfl rfl rfl rfl rfl ?_
    refine .off rfl rfl rfl rfl rfl rfl rfl ?_
    refine .off rfl rfl rfl rfl rfl rfl rfl ?_
    refine .off rfl rfl rfl rfl rfl rfl rfl ?_
    refine .pick (.no rfl) rfl rfl rfl rfl rfl ?_
    refine .assign (.no rfl) rfl rfl rfl rfl ?_
    exact .fin () (.of (.cons (svB (show (false) = (((e.ints.length : Int) == 0 && (e.arrs.length : Int) == 0)) by first | (simp only [g2_4, Bool.true_or, Bool.false_or, Bool.true_and, Bool.false_and, Bool.not_true, Bool.not_false]; done) | simp [g2_4])) .nil) .nil)
   ·skip
    refine .fieldAddrP (.on rfl rfl rfl rfl rfl) rfl t77 rfl rfl t75 rfl rfl rfl rfl ?_
    refine .load (.on rfl rfl rfl rfl rfl) rfl t75 rfl rfl (.ptr _ _ _ _ _ rfl) rfl rfl rfl rfl ?_
    refine .len (.on rfl rfl rfl rfl rfl) rfl (z := (e.arrs.length : Int)) t75 rfl rfl rfl (.d _ _) (map_len _ _) rfl ?_
    refine .bin (.on rfl rfl rfl rfl rfl) rfl rfl rfl rfl rfl rfl ?_
    refine .pick (.no rfl) rfl rfl rfl rfl rfl ?_
    refine .assign (.no rfl) rfl rfl rfl rfl ?_
    exact .fin () (.of (.cons (svB (show ((e.arrs.length : Int) == 0) = (((e.ints.length : Int) == 0 && (e.arrs.length : Int) == 0)) by first | (simp only [g2_4, Bool.true_or, Bool.false_or, Bool.true_and, Bool.false_and, Bool.not_true, Bool.not_false]; done) | simp [g2_4])) .nil) .nil)
  intro _
  refine .ret ?_
  have e12 : (((e.ints.length : Int) == 0 && (e.arrs.length : Int) == 0)) = (Env.okIn d e) := by simp [Env.okIn, c0, Bool.and_assoc]
  have hc13 := eq1 (fun z1 => SV.one (.d (.v (.bool (z1))))) e12
  show _ ∧ _
  exact ⟨.inr rfl, .done ⟨_, [], [], _, .one (c := .d (.v (.bool (Env.okIn d e)))) (hc13) .nil, .cons (Reads.d _).gives .nil, nodupB_ok rfl, by simp, (by simp)⟩⟩
 ·have c0 := c0
  try simp only [Bool.or_eq_true, Bool.or_eq_false_iff, Bool.and_eq_true, Bool.and_eq_false_iff, decide_eq_true_eq, decide_eq_false_iff_not, Bool.not_eq_true', Bool.not_eq_false', bne_iff_ne, beq_iff_eq, bne_eq_false_iff_eq, beq_eq_false_iff_ne, ne_eq, Bool.not_eq_eq_eq_not, Bool.not_true, Bool.not_false] at c0
  refine .skip ?_
  refine .seq ?_
  refine .reg (X := Unit) (fun ζ => .of [(4, .one (.d (.v (.bool (((((e.ints.length : Int) == (d.vars.length : Int) && (e.arrs.length : Int) == (d.arrays.length : Int)) && e.ints.all (fun x0 => Iv.ok x0)) && e.arrs.all (fun x0 => Iv.ok x0)))))))] []) [⟨[3], some 18, [], []⟩, ⟨[18], some 19, [[3]], []⟩, ⟨[19], some 20, [], []⟩, ⟨[2], some 21, [], []⟩, ⟨[21], some 22, [[2]], []⟩, ⟨[22], some 23, [], []⟩, ⟨[20, 23], some 24, [], []⟩, ⟨[24], some 25, [], []⟩, ⟨[25, 3], some 26, [], []⟩, ⟨[25, 26], some 27, [[3]], []⟩, ⟨[25, 27], some 28, [], []⟩, ⟨[25, 2], some 29, [], []⟩, ⟨[25, 29], some 30, [[2]], []⟩, ⟨[25, 30], some 31, [], []⟩, ⟨[25, 28, 31], some 32, [], []⟩, ⟨[25, 32], some 33, [], []⟩, ⟨[33], some 34, [], []⟩, ⟨[34, 3], some 35, [], []⟩, ⟨[34, 35], some 36, [[3]], []⟩, ⟨[34, 36], some 37, [], []⟩, ⟨[34, 37], some 38, [], []⟩, ⟨[38], some 39, [], []⟩, ⟨[39, 3], some 40, [], []⟩, ⟨[39, 40], some 41, [[3]], []⟩, ⟨[39, 41], some 42, [], []⟩, ⟨[39, 42], some 43, [], []⟩, ⟨[43], some 4, [], []⟩] (fun k14 => ?_) ?_
  ·skip
   refine .fieldAddrP (.no rfl) rfl t77 rfl rfl t75 rfl rfl rfl rfl ?_
   refine .load (.no rfl) rfl t75 rfl rfl (.ptr _ _ _ _ _ rfl) rfl rfl rfl rfl ?_
   refine .len (.no rfl) rfl (z := (e.ints.length : Int)) t75 rfl rfl rfl (.d _ _) (map_len _ _) rfl ?_
   refine .fieldAddrP (.no rfl) rfl t38 rfl rfl t22 rfl rfl rfl rfl ?_
   refine .load (.no rfl) rfl t22 rfl rfl (.ptr _ _ _ _ _ rfl) rfl rfl rfl rfl ?_
   refine .len (.no rfl) rfl (z := (d.vars.length : Int)) t22 rfl rfl rfl (.d _ _) (map_len _ _) rfl ?_
   refine .bin (.no rfl) rfl rfl rfl rfl rfl rfl ?_
   refine .moveB (.no rfl) rfl rfl rfl rfl fun b15 g3_7 => ?_
   cases b15
   ·skip
    refine .off rfl rfl rfl rfl rfl rfl rfl ?_
    refine .off rfl rfl rfl rfl rfl rfl rfl ?_
    refine .off rfl rfl rfl rfl rfl rfl rfl ?_
    refine .off rfl rfl rfl rfl rfl rfl rfl ?_
    refine .off rfl rfl rfl rfl rfl rfl rfl ?_
    refine .off rfl rfl rfl rfl rfl rfl rfl ?_
    refine .off rfl rfl rfl rfl rfl rfl rfl ?_
    refine .pick (.no rfl) rfl rfl rfl rfl rfl ?_
    refine .move (.no rfl) rfl rfl rfl rfl ?_
    refine .off rfl rfl rfl rfl rfl rfl rfl ?_
    refine .off rfl rfl rfl rfl rfl rfl rfl ?_
    refine .off rfl rfl rfl rfl rfl rfl rfl ?_
    refine .pick (.no rfl) rfl rfl rfl rfl rfl ?_
    refine .move (.no rfl) rfl rfl rfl rfl ?_
    refine .off rfl rfl rfl rfl rfl rfl rfl ?_
    refine .off rfl rfl rfl rfl rfl rfl rfl ?_
    refine .off rfl rfl rfl rfl rfl rfl rfl ?_
    refine .pick (.no rfl) rfl rfl rfl rfl rfl ?_
    refine .assign (.no rfl) rfl rfl rfl rfl ?_
    exact .fin () (.of (.cons (svB (show (false) = (((((e.ints.length : Int) == (d.vars.length : Int) && (e.arrs.length : Int) == (d.arrays.length : Int)) && e.ints.all (fun x0 => Iv.ok x0)) && e.arrs.all (fun x0 => Iv.ok x0))) by first | (simp only [g3_7, Bool.true_or, Bool.false_or, Bool.true_and, Bool.false_and, Bool.not_true, Bool.not_false]; done) | simp [g3_7])) .nil) .nil)
   ·skip
    refine .fieldAddrP (.on rfl rfl rfl rfl rfl) rfl t77 rfl rfl t75 rfl rfl rfl rfl ?_
    refine .load (.on rfl rfl rfl rfl rfl) rfl t75 rfl rfl (.ptr _ _ _ _ _ rfl) rfl rfl rfl rfl ?_
    refine .len (.on rfl rfl rfl rfl rfl) rfl (z := (e.arrs.length : Int)) t75 rfl rfl rfl (.d _ _) (map_len _ _) rfl ?_
    refine .fieldAddrP (.on rfl rfl rfl rfl rfl) rfl t38 rfl rfl t36 rfl rfl rfl rfl ?_
    refine .load (.on rfl rfl rfl rfl rfl) rfl t36 rfl rfl (.ptr _ _ _ _ _ rfl) rfl rfl rfl rfl ?_
    refine .len (.on rfl rfl rfl rfl rfl) rfl (z := (d.arrays.length : Int)) t36 rfl rfl rfl (.d _ _) (map_len _ _) rfl ?_
    refine .bin (.on rfl rfl rfl rfl rfl) rfl rfl rfl rfl rfl rfl ?_
    refine .pick (.no rfl) rfl rfl rfl rfl rfl ?_
    refine .moveB (.no rfl) rfl rfl rfl rfl fun b16 g3_16 => ?_
    cases b16
    ·skip
     refine .off rfl rfl rfl rfl rfl rfl rfl ?_
     refine .off rfl rfl rfl rfl rfl rfl rfl ?_
     refine .off rfl rfl rfl rfl rfl rfl rfl ?_
     refine .pick (.no rfl) rfl rfl rfl rfl rfl ?_
     refine .move (.no rfl) rfl rfl rfl rfl ?_
     refine .off rfl rfl rfl rfl rfl rfl rfl ?_
     refine .off rfl rfl rfl rfl rfl rfl rfl ?_
     refine .off rfl rfl rfl rfl rfl rfl rfl ?_
     refine .pick (.no rfl) rfl rfl rfl rfl rfl ?_
     refine .assign (.no rfl) rfl rfl rfl rfl ?_
     exact .fin () (.of (.cons (svB (show (false) = (((((e.ints.length : Int) == (d.vars.length : Int) && (e.arrs.length : Int) == (d.arrays.length : Int)) && e.ints.all (fun x0 => Iv.ok x0)) && e.arrs.all (fun x0 => Iv.ok x0))) by first | (simp only [g3_7, g3_16, Bool.true_or, Bool.false_or, Bool.true_and, Bool.false_and, Bool.not_true, Bool.not_false]; done) | simp [g3_7, g3_16])) .nil) .nil)
    ·skip
     refine .fieldAddrP (.on rfl rfl rfl rfl rfl) rfl t77 rfl rfl t75 rfl rfl rfl rfl ?_
     refine .load (.on rfl rfl rfl rfl rfl) rfl t75 rfl rfl (.ptr _ _ _ _ _ rfl) rfl rfl rfl rfl ?_
     refine .call (.on rfl rfl rfl rfl rfl) rfl [] [] (c_areAllI e.ints 157 [] [] (fun x0 => Iv.ok x0) (fun x0 => c_IvOk x0)) rfl rfl rfl rfl rfl (.cons (Reads.d _).gives (.cons (Reads.d _).gives .nil)) rfl rfl (fun h => absurd rfl h) (.own [37, 0] .nil) (.nil) rfl rfl rfl (by simp) rfl rfl rfl ?_
     refine .pick (.no rfl) rfl rfl rfl rfl rfl ?_
     refine .moveB (.no rfl) rfl rfl rfl rfl fun b17 g3_21 => ?_
     cases b17
     ·skip
      refine .off rfl rfl rfl rfl rfl rfl rfl ?_
      refine .off rfl rfl rfl rfl rfl rfl rfl ?_
      refine .off rfl rfl rfl rfl rfl rfl rfl ?_
      refine .pick (.no rfl) rfl rfl rfl rfl rfl ?_
      refine .assign (.no rfl) rfl rfl rfl rfl ?_
      exact .fin () (.of (.cons (svB (show (false) = (((((e.ints.length : Int) == (d.vars.length : Int) && (e.arrs.length : Int) == (d.arrays.length : Int)) && e.ints.all (fun x0 => Iv.ok x0)) && e.arrs.all (fun x0 => Iv.ok x0))) by first | (simp only [g3_7, g3_16, g3_21, Bool.true_or, Bool.false_or, Bool.true_and, Bool.false_and, Bool.not_true, Bool.not_false]; done) | simp [g3_7, g3_16, g3_21])) .nil) .nil)
     ·skip
      refine .fieldAddrP (.on rfl rfl rfl rfl rfl) rfl t77 rfl rfl t75 rfl rfl rfl rfl ?_
      refine .load (.on rfl rfl rfl rfl rfl) rfl t75 rfl rfl (.ptr _ _ _ _ _ rfl) rfl rfl rfl rfl ?_
      refine .call (.on rfl rfl rfl rfl rfl) rfl [] [] (c_areAllI e.arrs 157 [] [] (fun x0 => Iv.ok x0) (fun x0 => c_IvOk x0)) rfl rfl rfl rfl rfl (.cons (Reads.d _).gives (.cons (Reads.d _).gives .nil)) rfl rfl (fun h => absurd rfl h) (.own [42, 0] .nil) (.nil) rfl rfl rfl (by simp) rfl rfl rfl ?_
      refine .pick (.no rfl) rfl rfl rfl rfl rfl ?_
      refine .assign (.no rfl) rfl rfl rfl rfl ?_
      exact .fin () (.of (.cons (svB (show (e.arrs.all (fun x0 => Iv.ok x0)) = (((((e.ints.length : Int) == (d.vars.length : Int) && (e.arrs.length : Int) == (d.arrays.length : Int)) && e.ints.all (fun x0 => Iv.ok x0)) && e.arrs.all (fun x0 => Iv.ok x0))) by first | (simp only [g3_7, g3_16, g3_21, Bool.true_or, Bool.false_or, Bool.true_and, Bool.false_and, Bool.not_true, Bool.not_false]; done) | simp [g3_7, g3_16, g3_21])) .nil) .nil)
  intro _
  refine .ret ?_
  have e18 : (((((e.ints.length : Int) == (d.vars.length : Int) && (e.arrs.length : Int) == (d.arrays.length : Int)) && e.ints.all (fun x0 => Iv.ok x0)) && e.arrs.all (fun x0 => Iv.ok x0))) = (Env.okIn d e) := by simp [Env.okIn, c0, Bool.and_assoc]
  have hc19 := eq1 (fun z1 => SV.one (.d (.v (.bool (z1))))) e18
  show _ ∧ _
  exact ⟨.inr rfl, .done ⟨_, [], [], _, .one (c := .d (.v (.bool (Env.okIn d e)))) (hc19) .nil, .cons (Reads.d _).gives .nil, nodupB_ok rfl, by simp, (by simp)⟩⟩
end Go.Proofs

namespace Go.Proofs
open Go Go.Proofs Go.Ev

theorem c_CloneI (l : List Iv) (hb : l.length ≤ 2097152) : Trip Tryz.prog 170 [(false, 1)] ([.sl false 122 2 (List.map Iv.c (l))]) [(false, 1)] [.sl true 122 2 (List.map Iv.c (l))] [] := by
 refine Trip.of Tryz.func170 (by decide) (c := _) rfl rfl (shB_ok rfl) (Nat.le_of_ble_eq_true rfl) rfl (AftOk.nil _) ?_
 refine .sat (t := 0) rfl (fun hs1 => ?_)
 have hs1l : l.length ≤ 9223372036854775807 := hs1.maplen
 refine .seq ?_
 refine .reg (X := Unit) (fun ζ => .of [(0, .one (.d (.sl false 122 2 (List.map Iv.c (l)))))] []) [⟨[], some 2, [], []⟩] (fun k2 => ?_) ?_
 ·skip
  refine .assign (.no rfl) rfl rfl rfl rfl ?_
  exact .fin () (.of (.cons rfl .nil) .nil)
 intro _
 refine .seq ?_
 refine .seq ?_
 refine .nilEq t75 rfl rfl rfl rfl rfl rfl rfl rfl rfl rfl rfl (fun b3 hb3 => ?_)
 refine .cond (t := b3) rfl (fun c0 => ?_) (fun c0 => ?_)
 ·have c0 := c0
  refine .seq ?_
  refine .reg (X := Unit) (fun ζ => .of [(2, .one (.d (.v (.slice none 0 0))))] []) [⟨[], some 2, [], []⟩] (fun k4 => ?_) ?_
  ·skip
   refine .assign (.no rfl) rfl rfl rfl rfl ?_
   exact .fin () (.of (.cons rfl .nil) .nil)
  intro _
  refine .ret ?_
  show _ ∧ _
  exact ⟨.inr rfl, .done ⟨_, [], [], _, .one rfl .nil, .cons (Gives.nil' (by first | rfl | simp_all)) .nil, nodupB_ok rfl, by simp, (by simp)⟩⟩
 ·have c0 := c0
  refine .skip ?_
  refine .seq ?_
  refine .reg (X := Nat) (fun ζ => .of [(2, .one (.ref [5] (ζ)))] [([5], (ζ, ζ, .row 122 2 (List.map Iv.c (l))))]) [⟨[], some 5, [], [[5]]⟩, ⟨[0], some 6, [], []⟩, ⟨[5, 6], some 7, [[5]], [[5]]⟩, ⟨[7], some 2, [], []⟩] (fun k5 => ?_) ?_
  ·skip
   refine .buildSlice (.no rfl) rfl (els := []) t75 rfl z122 rfl rfl rfl rfl rfl rfl rfl rfl (by simp [i122]) .nil rfl rfl rfl ?_
   refine .move (.no rfl) rfl rfl rfl rfl ?_
   refine .append (.no rfl) rfl (l3 := List.map Iv.c (l)) t75 rfl z122 rfl rfl rfl rfl rfl rfl rfl rfl (.ref _ _ _ _ rfl) (.ro _ _) rfl (by simp [i122]; omega) (List.nil_append _) rfl rfl ?_
   refine .assign (.no rfl) rfl rfl rfl rfl ?_
   exact .fin (k5 + 1 + 1) (.of (.cons rfl .nil) (.cons rfl .nil))
  intro g6
  refine .ret ?_
  show _ ∧ _
  exact ⟨.inr rfl, .done ⟨_, [], [([5], (g6, g6, .row 122 2 (List.map Iv.c (l))))], _, .one rfl .nil, .cons (.ref (.head _)) .nil, nodupB_ok rfl, by simp, (AllH.get (.cons rfl .nil))⟩⟩
theorem c_own (e : Env) (hb : e.ints.length ≤ 1048576 ∧ e.arrs.length ≤ 1048576) : Trip Tryz.prog 148 [(true, 3)] (Env.c77 e) [(true, 3)] [.v (.bool (e.live)), .sl true 122 2 (List.map Iv.c (e.ints)), .sl true 122 2 (List.map Iv.c (e.arrs))] [] := by
 refine Trip.of Tryz.func148 (by decide) (c := _) rfl rfl (shB_ok rfl) (Nat.le_of_ble_eq_true rfl) rfl (AftOk.nil _) ?_
 refine .satA (t := 0) (i := 1) rfl rfl (fun hs1 => ?_)
 have hs1l : e.ints.length ≤ 9223372036854775807 := hs1.maplen
 refine .satA (t := 0) (i := 2) rfl rfl (fun hs2 => ?_)
 have hs2l : e.arrs.length ≤ 9223372036854775807 := hs2.maplen
 refine .seq ?_
 refine .reg (X := Nat × Nat) (fun ζ => .of [(1, .one (.ptr [1] (ζ.1) 0)), (2, .one (.ptr [2] (ζ.2) 0))] [([1], (ζ.1, ζ.1, .box [.d (.v (.bool (e.live))), .d (.sl false 122 2 (List.map Iv.c (e.ints))), .d (.sl false 122 2 (List.map Iv.c (e.arrs)))])), ([2], (ζ.2, ζ.2, .box [.d (.v (.bool (false))), .d (.v (.slice none 0 0)), .d (.v (.slice none 0 0))]))]) [⟨[0], some 1, [], [[1]]⟩, ⟨[], some 2, [], [[2]]⟩] (fun k3 => ?_) ?_
 ·skip
  refine .box (.no rfl) rfl rfl rfl rfl rfl ?_
  refine .alloc (.no rfl) rfl z77 rfl rfl rfl ?_
  exact .fin (k3, k3 + 1) (.of (.cons rfl (.cons rfl .nil)) (.cons rfl (.cons rfl .nil)))
 rintro ⟨g4, g5⟩
 refine .seq ?_
 refine .regD (X := Nat × Nat × Nat) (by kernel_rfl) (fun ζ => .of [(1, .one (.ptr [1] (g4) 0)), (2, .one (.ptr [2] (g5) 0))] [([1], (g4, ζ.1, .box [.d (.v (.bool (e.live))), .ref [5, 0] (ζ.2.1), .ref [8, 0] (ζ.2.2)])), ([2], (g5, g5, .box [.d (.v (.bool (false))), .d (.v (.slice none 0 0)), .d (.v (.slice none 0 0))])), ([5, 0], (ζ.2.1, ζ.2.1, .row 122 2 (List.map Iv.c (e.ints)))), ([8, 0], (ζ.2.2, ζ.2.2, .row 122 2 (List.map Iv.c (e.arrs))))]) [⟨[1], some 3, [], []⟩, ⟨[3], some 4, [[1]], []⟩, ⟨[4], some 5, [], [[5, 0]]⟩, ⟨[1], some 6, [], []⟩, ⟨[6], some 7, [[1]], []⟩, ⟨[7], some 8, [], [[8, 0]]⟩, ⟨[1], some 9, [], []⟩, ⟨[9, 5], none, [[1]], [[1]]⟩, ⟨[1], some 10, [], []⟩, ⟨[10, 8], none, [[1]], [[1]]⟩] (by kernel_rfl) (fun k6 => ?_) ?_
 ·skip
  refine .fieldAddrP (.no rfl) rfl t77 rfl rfl t75 rfl rfl rfl rfl ?_
  refine .load (.no rfl) rfl t75 rfl rfl (.ptr _ _ _ _ _ rfl) rfl rfl rfl rfl ?_
  refine .call (.no rfl) rfl [] [] (c_CloneI e.ints (by omega)) rfl rfl rfl rfl rfl (.cons (Reads.d _).gives .nil) rfl rfl (fun h => absurd rfl h) (.own [5, 0] .nil) (.nil) rfl rfl rfl (by simp) rfl rfl rfl ?_
  refine .fieldAddrP (.no rfl) rfl t77 rfl rfl t75 rfl rfl rfl rfl ?_
  refine .load (.no rfl) rfl t75 rfl rfl (.ptr _ _ _ _ _ rfl) rfl rfl rfl rfl ?_
  refine .call (.no rfl) rfl [] [] (c_CloneI e.arrs (by omega)) rfl rfl rfl rfl rfl (.cons (Reads.d _).gives .nil) rfl rfl (fun h => absurd rfl h) (.own [8, 0] .nil) (.nil) rfl rfl rfl (by simp) rfl rfl rfl ?_
  refine .fieldAddrP (.no rfl) rfl t77 rfl rfl t75 rfl rfl rfl rfl ?_
  refine .store (.no rfl) rfl t75 rfl rfl rfl rfl rfl rfl rfl rfl rfl ?_
  refine .fieldAddrP (.no rfl) rfl t77 rfl rfl t75 rfl rfl rfl rfl ?_
  refine .store (.no rfl) rfl t75 rfl rfl rfl rfl rfl rfl rfl rfl rfl ?_
  exact .fin (k6 + 1 + 1 + 1 + 1 + 1 + 1 + 1 + 1 + 1, k6 + 1 + 1, k6 + 1 + 1 + 1 + 1 + 1) (.of (.cons rfl (.cons rfl .nil)) (.cons rfl (.cons rfl (.cons rfl (.cons rfl .nil)))))
 rintro ⟨g7, g8, g9⟩
 refine .seq ?_
 refine .reg (X := Nat) (fun ζ => .of [(2, .one (.ptr [2] (g5) 0))] [([2], (g5, ζ, .box [.d (.v (.bool (e.live))), .ref [5, 0] (g8), .ref [8, 0] (g9)])), ([5, 0], (g8, g8, .row 122 2 (List.map Iv.c (e.ints)))), ([8, 0], (g9, g9, .row 122 2 (List.map Iv.c (e.arrs))))]) [⟨[1], some 11, [[1]], []⟩, ⟨[2, 11], none, [[2]], [[2]]⟩] (fun k10 => ?_) ?_
 ·skip
  refine .load (.no rfl) rfl t77 rfl rfl (.ptr _ _ _ _ _ rfl) rfl rfl rfl rfl ?_
  refine .store (.no rfl) rfl t77 rfl rfl rfl rfl rfl rfl rfl rfl rfl ?_
  exact .fin (k10 + 1) (.of (.cons rfl .nil) (.cons rfl (.cons rfl (.cons rfl .nil))))
 intro g11
 refine .ret ?_
 show _ ∧ _
 exact ⟨.inr rfl, .done ⟨_, [], [([5, 0], (g8, g8, .row 122 2 (List.map Iv.c (e.ints)))), ([8, 0], (g9, g9, .row 122 2 (List.map Iv.c (e.arrs))))], _, .cell (cells := [.d (.v (.bool (e.live))), .ref [5, 0] (g8), .ref [8, 0] (g9)]) rfl rfl t77 rfl rfl .nil, .cons (Reads.d _).gives (.cons (.ref (.head _)) (.cons (.ref (.tail _ (.head _))) .nil)), nodupB_ok rfl, by simp, (AllH.get (.cons rfl (.cons rfl .nil)))⟩⟩
theorem c_joined (a : List Iv) (b : List Iv) (F_f : FuncId) (first_f : List (Bool × List D)) (caps_f : List D) (f : Iv → Iv → Iv) (h_f : ∀ (x0 : Iv) (x1 : Iv), FnTrip Tryz.prog F_f first_f caps_f [(true, 2), (true, 2)] (Iv.c x0 ++ Iv.c x1) [(true, 2)] [.v (.int .i64 ((f x0 x1).lo)), .v (.int .i64 ((f x0 x1).hi))]) (hl : a.length = b.length ∧ a.length ≤ 2097152) : Trip Tryz.prog 149 [(false, 1), (false, 1), (false, 1)] ([.sl false 122 2 (List.map Iv.c (a))] ++ [.sl false 122 2 (List.map Iv.c (b))] ++ [.fn F_f first_f caps_f]) [(false, 1)] [.sl true 122 2 (List.map Iv.c (zip2 f a b))] [] := by
 refine Trip.of Tryz.func149 (by decide) (c := _) rfl rfl (shB_ok rfl) (Nat.le_of_ble_eq_true rfl) rfl (AftOk.nil _) ?_
 refine .sat (t := 0) rfl (fun hs1 => ?_)
 have hs1l : a.length ≤ 9223372036854775807 := hs1.maplen
 refine .sat (t := 1) rfl (fun hs2 => ?_)
 have hs2l : b.length ≤ 9223372036854775807 := hs2.maplen
 refine .seq ?_
 refine .reg (X := Unit) (fun ζ => .of [(0, .one (.d (.sl false 122 2 (List.map Iv.c (a))))), (1, .one (.d (.sl false 122 2 (List.map Iv.c (b))))), (2, .one (.d (.fn F_f first_f caps_f)))] []) [⟨[], some 6, [], []⟩] (fun k3 => ?_) ?_
 ·skip
  refine .assign (.no rfl) rfl rfl rfl rfl ?_
  exact .fin () (.of (.cons rfl (.cons rfl (.cons rfl .nil))) .nil)
 intro _
 refine .seq ?_
 refine .reg (X := Unit) (fun ζ => .of [(0, .one (.d (.sl false 122 2 (List.map Iv.c (a))))), (1, .one (.d (.sl false 122 2 (List.map Iv.c (b))))), (2, .one (.d (.fn F_f first_f caps_f))), (7, .one (.d (.v (.slice none 0 0))))] []) [⟨[], some 7, [], []⟩] (fun k4 => ?_) ?_
 ·skip
  refine .assign (.no rfl) rfl rfl rfl rfl ?_
  exact .fin () (.of (.cons rfl (.cons rfl (.cons rfl (.cons rfl .nil)))) .nil)
 intro _
 refine .seq ?_
 refine .seq ?_
 refine .reg (X := Unit) (fun ζ => .of [(1, .one (.d (.sl false 122 2 (List.map Iv.c (b))))), (2, .one (.d (.fn F_f first_f caps_f))), (7, .one (.d (.v (.slice none 0 0)))), (10, .one (.d (.sl false 122 2 (List.map Iv.c (a))))), (11, .one (.d (.v (.int .i64 ((a.length : Int)))))), (12, .one (.d (.v (.int .i64 (0)))))] []) [⟨[0], some 10, [], []⟩, ⟨[10], some 11, [], []⟩, ⟨[], some 12, [], []⟩] (fun k5 => ?_) ?_
 ·skip
  refine .move (.no rfl) rfl rfl rfl rfl ?_
  refine .len (.no rfl) rfl (z := (a.length : Int)) t75 rfl rfl rfl (.d _ _) (map_len _ _) rfl ?_
  refine .move (.no rfl) rfl rfl rfl rfl ?_
  exact .fin () (.of (.cons rfl (.cons rfl (.cons rfl (.cons rfl (.cons rfl (.cons rfl .nil)))))) .nil)
 intro _
 refine .block ?_
 refine .loop (X := Nat × Nat × Nat) (fun ζ => .of [(1, .one (.d (.sl false 122 2 (List.map Iv.c (b))))), (2, .one (.d (.fn F_f first_f caps_f))), (7, .one (.ref [26] (ζ.2.1))), (10, .one (.d (.sl false 122 2 (List.map Iv.c (a))))), (11, .one (.d (.v (.int .i64 ((a.length : Int)))))), (12, .one (.d (.v (.int .i64 ((ζ.1 : Int))))))] [([26], (ζ.2.1, ζ.2.2, .row 122 2 (List.map Iv.c (zip2To f a b ζ.1))))]) (fun ζ => ζ.1 ≤ a.length) (fun ζ => a.length - ζ.1) ?_ ?_
 ·skip
  refine .nilRow 7 [26] 122 2 rfl fun k8 => ?_
  exact .here (0, k8, k8) (.of (.cons rfl (.cons rfl (.cons rfl (.cons rfl (.cons rfl (.cons (svI (show (0) = ((0 : Int)) by first | rfl | omega | exact wrap_le (by omega) (by omega) | (rw [wrap_le (by omega) (by omega)]; omega))) .nil)))))) (.cons (rowE (show [] = List.map Iv.c (zip2To f a b 0) by first | rfl | exact congrArg _ (zip2To_step _ _ _ _))) .nil)) (show 0 ≤ a.length by omega)
 ·rintro ⟨j, q6, q7⟩ hI
  have hI : j ≤ a.length := hI
  refine .seq ?_
  refine .reg (X := Unit) (fun ζ => .of [(1, .one (.d (.sl false 122 2 (List.map Iv.c (b))))), (2, .one (.d (.fn F_f first_f caps_f))), (7, .one (.ref [26] (q6))), (10, .one (.d (.sl false 122 2 (List.map Iv.c (a))))), (11, .one (.d (.v (.int .i64 ((a.length : Int)))))), (12, .one (.d (.v (.int .i64 ((j : Int)))))), (13, .one (.d (.v (.bool (decide ((j : Int) < (a.length : Int)))))))] [([26], (q6, q7, .row 122 2 (List.map Iv.c (zip2To f a b j))))]) [⟨[12, 11], some 13, [], []⟩] (fun k9 => ?_) ?_
  ·skip
   refine .bin (.no rfl) rfl rfl rfl rfl rfl rfl ?_
   exact .fin () (.of (.cons rfl (.cons rfl (.cons rfl (.cons rfl (.cons rfl (.cons rfl (.cons rfl .nil))))))) (.cons rfl .nil))
  intro _
  refine .seq ?_
  refine .cond (t := decide ((j : Int) < (a.length : Int))) rfl (fun c0 => ?_) (fun c0 => ?_)
  ·have c0 := of_decide_eq_true c0
   refine .skip ?_
   refine .seq ?_
   refine .block ?_
   refine .seq ?_
   refine .reg (X := Nat × Nat) (fun ζ => .of [(1, .one (.d (.sl false 122 2 (List.map Iv.c (b))))), (2, .one (.d (.fn F_f first_f caps_f))), (7, .one (.ref [26] (q6))), (8, .one (.d (.v (.int .i64 ((j : Int)))))), (9, .one (.ptr [9] (ζ.1) 0)), (10, .one (.d (.sl false 122 2 (List.map Iv.c (a))))), (11, .one (.d (.v (.int .i64 ((a.length : Int)))))), (12, .one (.d (.v (.int .i64 ((j : Int))))))] [([9], (ζ.1, ζ.2, .box [.d (.v (.int .i64 ((a.getD j default).lo))), .d (.v (.int .i64 ((a.getD j default).hi)))])), ([26], (q6, q7, .row 122 2 (List.map Iv.c (zip2To f a b j))))]) [⟨[12], some 14, [], []⟩, ⟨[10, 12], some 15, [], []⟩, ⟨[15], some 16, [], []⟩, ⟨[], some 9, [], [[9]]⟩, ⟨[14], some 8, [], []⟩, ⟨[9, 16], none, [[9]], [[9]]⟩] (fun k10 => ?_) ?_
   ·skip
    refine .move (.no rfl) rfl rfl rfl rfl ?_
    refine .indexAddr (.no rfl) rfl (j) t75 rfl t122 rfl rfl rfl (.d _ _) rfl rfl rfl (map_get (by omega)) rfl rfl ?_
    refine .load (.no rfl) rfl t122 rfl rfl (.d _) rfl rfl rfl rfl ?_
    refine .alloc (.no rfl) rfl z122 rfl rfl rfl ?_
    refine .assign (.no rfl) rfl rfl rfl rfl ?_
    refine .store (.no rfl) rfl t122 rfl rfl rfl rfl rfl rfl rfl rfl rfl ?_
    exact .fin (k10 + 1 + 1 + 1, k10 + 1 + 1 + 1 + 1 + 1) (.of (.cons rfl (.cons rfl (.cons rfl (.cons rfl (.cons rfl (.cons rfl (.cons rfl (.cons rfl .nil)))))))) (.cons rfl (.cons rfl .nil)))
   rintro ⟨g11, g12⟩
   refine .regD (X := Nat) (by kernel_rfl) (fun ζ => .of [(1, .one (.d (.sl false 122 2 (List.map Iv.c (b))))), (2, .one (.d (.fn F_f first_f caps_f))), (7, .one (.ref [26] (ζ))), (10, .one (.d (.sl false 122 2 (List.map Iv.c (a))))), (11, .one (.d (.v (.int .i64 ((a.length : Int)))))), (12, .one (.d (.v (.int .i64 ((j : Int))))))] [([26], (ζ, ζ, .row 122 2 (List.map Iv.c (zip2To f a b j ++ [(f (a.getD j default) (b.getD j default))]))))]) [⟨[7], some 17, [], []⟩, ⟨[2], some 18, [], []⟩, ⟨[9], some 19, [[9]], []⟩, ⟨[1], some 20, [], []⟩, ⟨[8], some 21, [], []⟩, ⟨[20, 21], some 22, [], []⟩, ⟨[22], some 23, [], []⟩, ⟨[18, 19, 23], some 24, [], []⟩, ⟨[24], some 25, [], [[25]]⟩, ⟨[17, 25], some 26, [[26], [25]], [[25], [26]]⟩, ⟨[26], some 7, [], []⟩] (by kernel_rfl) (fun k13 => ?_) ?_
   ·skip
    refine .move (.no rfl) rfl rfl rfl rfl ?_
    refine .move (.no rfl) rfl rfl rfl rfl ?_
    refine .load (.no rfl) rfl t122 rfl rfl (.ptr _ _ _ _ _ rfl) rfl rfl rfl rfl ?_
    refine .move (.no rfl) rfl rfl rfl rfl ?_
    refine .move (.no rfl) rfl rfl rfl rfl ?_
    refine .indexAddr (.no rfl) rfl (j) t75 rfl t122 rfl rfl rfl (.d _ _) rfl rfl rfl (map_get (by omega)) rfl rfl ?_
    refine .load (.no rfl) rfl t122 rfl rfl (.d _) rfl rfl rfl rfl ?_
    refine .callF (.no rfl) rfl (ds := [.v (.int .i64 ((a.getD j default).lo)), .v (.int .i64 ((a.getD j default).hi)), .v (.int .i64 ((b.getD j default).lo)), .v (.int .i64 ((b.getD j default).hi))]) (h_f (a.getD j default) (b.getD j default)) rfl rfl rfl rfl (.own [24, 0] (.own [24, 1] .nil)) rfl rfl rfl rfl rfl rfl ?_
    refine .buildSlice (.no rfl) rfl (els := [[.v (.int .i64 ((f (a.getD j default) (b.getD j default)).lo)), .v (.int .i64 ((f (a.getD j default) (b.getD j default)).hi))]]) t75 rfl z122 rfl rfl rfl rfl rfl rfl rfl rfl (by simp [i122]) (.cons _ _ _ _ _ _ (.d _) (.cons _ _ _ _ _ _ (.d _) .nil)) rfl rfl rfl ?_
    refine .append (.no rfl) rfl (l3 := List.map Iv.c (zip2To f a b j ++ [(f (a.getD j default) (b.getD j default))])) t75 rfl z122 rfl rfl rfl rfl rfl rfl rfl rfl (.ref _ _ _ _ rfl) (.take _ _ _ _ _ rfl) rfl (by simp only [List.length_map, zip2To_len, i122]; simp; omega) (map_snoc _ _ _) rfl rfl ?_
    refine .assign (.no rfl) rfl rfl rfl rfl ?_
    exact .fin (k13 + 1 + 1 + 1 + 1 + 1 + 1 + 1 + 1 + 1) (.of (.cons rfl (.cons rfl (.cons rfl (.cons rfl (.cons rfl (.cons rfl .nil)))))) (.cons rfl .nil))
   intro g14
   refine .reg (X := Unit) (fun ζ => .of [(1, .one (.d (.sl false 122 2 (List.map Iv.c (b))))), (2, .one (.d (.fn F_f first_f caps_f))), (7, .one (.ref [26] (g14))), (10, .one (.d (.sl false 122 2 (List.map Iv.c (a))))), (11, .one (.d (.v (.int .i64 ((a.length : Int)))))), (12, .one (.d (.v (.int .i64 (IntKind.wrap .i64 ((j : Int) + 1))))))] [([26], (g14, g14, .row 122 2 (List.map Iv.c (zip2To f a b j ++ [(f (a.getD j default) (b.getD j default))]))))]) [⟨[12], some 27, [], []⟩, ⟨[27], some 12, [], []⟩] (fun k15 => ?_) ?_
   ·skip
    refine .bin (.no rfl) rfl rfl rfl rfl rfl rfl ?_
    refine .move (.no rfl) rfl rfl rfl rfl ?_
    exact .fin () (.of (.cons rfl (.cons rfl (.cons rfl (.cons rfl (.cons rfl (.cons rfl .nil)))))) (.cons rfl .nil))
   intro _
   exact .here ((j + 1), g14, g14) (.of (.cons rfl (.cons rfl (.cons rfl (.cons rfl (.cons rfl (.cons (svI (show (IntKind.wrap .i64 ((j : Int) + 1)) = (((j + 1) : Int)) by first | rfl | omega | exact wrap_le (by omega) (by omega) | (rw [wrap_le (by omega) (by omega)]; omega))) .nil)))))) (.cons (rowE (show List.map Iv.c (zip2To f a b j ++ [(f (a.getD j default) (b.getD j default))]) = List.map Iv.c (zip2To f a b (j + 1)) by first | rfl | exact congrArg _ (zip2To_step _ _ _ _))) .nil)) ⟨(show (j + 1) ≤ a.length by omega), (show a.length - (j + 1) < a.length - j by omega)⟩
  ·have c0 := of_decide_eq_false c0
   refine .exit ?_
   refine .seq ?_
   refine .reg (X := Unit) (fun ζ => .of [(6, .one (.ref [26] (q6)))] [([26], (q6, q7, .row 122 2 (List.map Iv.c (zip2To f a b j))))]) [⟨[7], some 28, [], []⟩, ⟨[28], some 6, [], []⟩] (fun k16 => ?_) ?_
   ·skip
    refine .move (.no rfl) rfl rfl rfl rfl ?_
    refine .assign (.no rfl) rfl rfl rfl rfl ?_
    exact .fin () (.of (.cons rfl .nil) (.cons rfl .nil))
   intro _
   refine .ret ?_
   have e17 : (zip2To f a b j) = (zip2 f a b) := by exact zip2To_all _ hI (by omega)
   show _ ∧ _
   exact ⟨.inr rfl, .done ⟨_, [], [([26], (q6, q7, .row 122 2 (List.map Iv.c (zip2 f a b))))], _, .one rfl .nil, .cons (.ref (.head _)) .nil, nodupB_ok rfl, by simp, (AllH.get (.cons (rowE (congrArg (List.map Iv.c) e17)) .nil))⟩⟩
theorem c_with (e : Env) (b : Env) (F_f : FuncId) (first_f : List (Bool × List D)) (caps_f : List D) (f : Iv → Iv → Iv) (h_f : ∀ (x0 : Iv) (x1 : Iv), FnTrip Tryz.prog F_f first_f caps_f [(true, 2), (true, 2)] (Iv.c x0 ++ Iv.c x1) [(true, 2)] [.v (.int .i64 ((f x0 x1).lo)), .v (.int .i64 ((f x0 x1).hi))]) (hj : e.live = true → b.live = true → e.ints.length = b.ints.length ∧ e.arrs.length = b.arrs.length) (hb : e.ints.length ≤ 1048576 ∧ e.arrs.length ≤ 1048576 ∧ b.ints.length ≤ 1048576 ∧ b.arrs.length ≤ 1048576) : Trip Tryz.prog 108 [(true, 3), (true, 3), (false, 1)] (Env.c77 e ++ Env.c77 b ++ [.fn F_f first_f caps_f]) [(true, 3)] [.v (.bool ((Env.joinW f e b).live)), .sl true 122 2 (List.map Iv.c ((Env.joinW f e b).ints)), .sl true 122 2 (List.map Iv.c ((Env.joinW f e b).arrs))] [] := by
 refine Trip.of Tryz.func108 (by decide) (c := _) rfl rfl (shB_ok rfl) (Nat.le_of_ble_eq_true rfl) rfl (AftOk.nil _) ?_
 refine .satA (t := 0) (i := 1) rfl rfl (fun hs1 => ?_)
 have hs1l : e.ints.length ≤ 9223372036854775807 := hs1.maplen
 refine .satA (t := 0) (i := 2) rfl rfl (fun hs2 => ?_)
 have hs2l : e.arrs.length ≤ 9223372036854775807 := hs2.maplen
 refine .satA (t := 1) (i := 1) rfl rfl (fun hs3 => ?_)
 have hs3l : b.ints.length ≤ 9223372036854775807 := hs3.maplen
 refine .satA (t := 1) (i := 2) rfl rfl (fun hs4 => ?_)
 have hs4l : b.arrs.length ≤ 9223372036854775807 := hs4.maplen
 refine .seq ?_
 refine .reg (X := Nat × Nat × Nat) (fun ζ => .of [(2, .one (.d (.fn F_f first_f caps_f))), (3, .one (.ptr [3] (ζ.1) 0)), (4, .one (.ptr [4] (ζ.2.1) 0)), (6, .one (.ptr [6] (ζ.2.2) 0))] [([3], (ζ.1, ζ.1, .box [.d (.v (.bool (e.live))), .d (.sl false 122 2 (List.map Iv.c (e.ints))), .d (.sl false 122 2 (List.map Iv.c (e.arrs)))])), ([4], (ζ.2.1, ζ.2.1, .box [.d (.v (.bool (b.live))), .d (.sl false 122 2 (List.map Iv.c (b.ints))), .d (.sl false 122 2 (List.map Iv.c (b.arrs)))])), ([6], (ζ.2.2, ζ.2.2, .box [.d (.v (.bool (false))), .d (.v (.slice none 0 0)), .d (.v (.slice none 0 0))]))]) [⟨[0], some 3, [], [[3]]⟩, ⟨[1], some 4, [], [[4]]⟩, ⟨[], some 6, [], [[6]]⟩] (fun k5 => ?_) ?_
 ·skip
  refine .box (.no rfl) rfl rfl rfl rfl rfl ?_
  refine .box (.no rfl) rfl rfl rfl rfl rfl ?_
  refine .alloc (.no rfl) rfl z77 rfl rfl rfl ?_
  exact .fin (k5, k5 + 1, k5 + 1 + 1) (.of (.cons rfl (.cons rfl (.cons rfl (.cons rfl .nil)))) (.cons rfl (.cons rfl (.cons rfl .nil))))
 rintro ⟨g6, g7, g8⟩
 refine .seq ?_
 refine .block ?_
 refine .seq ?_
 refine .reg (X := Unit) (fun ζ => .of [(2, .one (.d (.fn F_f first_f caps_f))), (3, .one (.ptr [3] (g6) 0)), (4, .one (.ptr [4] (g7) 0)), (6, .one (.ptr [6] (g8) 0)), (7, .one (.d (.v (.bool (!e.live)))))] [([3], (g6, g6, .box [.d (.v (.bool (e.live))), .d (.sl false 122 2 (List.map Iv.c (e.ints))), .d (.sl false 122 2 (List.map Iv.c (e.arrs)))])), ([4], (g7, g7, .box [.d (.v (.bool (b.live))), .d (.sl false 122 2 (List.map Iv.c (b.ints))), .d (.sl false 122 2 (List.map Iv.c (b.arrs)))])), ([6], (g8, g8, .box [.d (.v (.bool (false))), .d (.v (.slice none 0 0)), .d (.v (.slice none 0 0))]))]) [⟨[3], some 8, [], []⟩, ⟨[8], some 9, [[3]], []⟩, ⟨[9], some 10, [], []⟩, ⟨[10], some 7, [], []⟩] (fun k9 => ?_) ?_
 ·skip
  refine .fieldAddrP (.no rfl) rfl t77 rfl rfl t4 rfl rfl rfl rfl ?_
  refine .load (.no rfl) rfl t4 rfl rfl (.ptr _ _ _ _ _ rfl) rfl rfl rfl rfl ?_
  refine .un (.no rfl) rfl rfl rfl rfl rfl ?_
  refine .assign (.no rfl) rfl rfl rfl rfl ?_
  exact .fin () (.of (.cons rfl (.cons rfl (.cons rfl (.cons rfl (.cons rfl .nil))))) (.cons rfl (.cons rfl (.cons rfl .nil))))
 intro _
 refine .cond (t := !e.live) rfl (fun c0 => ?_) (fun c0 => ?_)
 ·have c0 := c0
  try simp only [Bool.or_eq_true, Bool.or_eq_false_iff, Bool.and_eq_true, Bool.and_eq_false_iff, decide_eq_true_eq, decide_eq_false_iff_not, Bool.not_eq_true', Bool.not_eq_false', bne_iff_ne, beq_iff_eq, bne_eq_false_iff_eq, beq_eq_false_iff_ne, ne_eq, Bool.not_eq_eq_eq_not, Bool.not_true, Bool.not_false] at c0
  refine .seq ?_
  refine .reg (X := Nat × Nat) (fun ζ => .of [(6, .one (.ptr [6] (g8) 0))] [([6], (g8, ζ.1, .box [.d (.v (.bool (b.live))), .ref [12, 1] (ζ.2), .ref [12, 2] (ζ.2)])), ([12, 1], (ζ.2, ζ.2, .row 122 2 (List.map Iv.c (b.ints)))), ([12, 2], (ζ.2, ζ.2, .row 122 2 (List.map Iv.c (b.arrs))))]) [⟨[4], some 11, [[4]], []⟩, ⟨[11], some 12, [], [[12, 1], [12, 2]]⟩, ⟨[6, 12], none, [[6]], [[6]]⟩] (fun k10 => ?_) ?_
  ·skip
   refine .load (.no rfl) rfl t77 rfl rfl (.ptr _ _ _ _ _ rfl) rfl rfl rfl rfl ?_
   refine .call (.no rfl) rfl [] [] (c_own b (by first | omega | (have hj9 := hj c0 c1; omega))) rfl rfl rfl rfl rfl (.cons (Reads.d _).gives (.cons (Reads.d _).gives (.cons (Reads.d _).gives .nil))) rfl rfl (fun h => absurd rfl h) (.own [12, 0] (.own [12, 1] (.own [12, 2] .nil))) (.nil) rfl rfl rfl (by simp) rfl rfl rfl ?_
   refine .store (.no rfl) rfl t77 rfl rfl rfl rfl rfl rfl rfl rfl rfl ?_
   exact .fin (k10 + 1 + 1, k10 + 1) (.of (.cons rfl .nil) (.cons rfl (.cons rfl (.cons rfl .nil))))
  rintro ⟨g11, g12⟩
  refine .ret ?_
  have e13 : (b.live) = ((Env.joinW f e b).live) := by simp [Env.joinW, c0]
  have e14 : (b.ints) = ((Env.joinW f e b).ints) := by simp [Env.joinW, c0]
  have e15 : (b.arrs) = ((Env.joinW f e b).arrs) := by simp [Env.joinW, c0]
  have hc16 := eq1 (fun z1 => some (g8, g11, O.box [.d (.v (.bool (z1))), .ref [12, 1] (g12), .ref [12, 2] (g12)])) e13
  show _ ∧ _
  exact ⟨.inr rfl, .done ⟨_, [], [([12, 1], (g12, g12, .row 122 2 (List.map Iv.c ((Env.joinW f e b).ints)))), ([12, 2], (g12, g12, .row 122 2 (List.map Iv.c ((Env.joinW f e b).arrs))))], _, .cell (cells := [.d (.v (.bool ((Env.joinW f e b).live))), .ref [12, 1] (g12), .ref [12, 2] (g12)]) rfl hc16 t77 rfl rfl .nil, .cons (Reads.d _).gives (.cons (.ref (.head _)) (.cons (.ref (.tail _ (.head _))) .nil)), nodupB_ok rfl, by simp, (AllH.get (.cons (rowE (congrArg (List.map Iv.c) e14)) (.cons (rowE (congrArg (List.map Iv.c) e15)) .nil)))⟩⟩
 ·have c0 := c0
  try simp only [Bool.or_eq_true, Bool.or_eq_false_iff, Bool.and_eq_true, Bool.and_eq_false_iff, decide_eq_true_eq, decide_eq_false_iff_not, Bool.not_eq_true', Bool.not_eq_false', bne_iff_ne, beq_iff_eq, bne_eq_false_iff_eq, beq_eq_false_iff_ne, ne_eq, Bool.not_eq_eq_eq_not, Bool.not_true, Bool.not_false] at c0
  refine .seq ?_
  refine .reg (X := Unit) (fun ζ => .of [(2, .one (.d (.fn F_f first_f caps_f))), (3, .one (.ptr [3] (g6) 0)), (4, .one (.ptr [4] (g7) 0)), (6, .one (.ptr [6] (g8) 0)), (13, .one (.d (.v (.bool (!b.live)))))] [([3], (g6, g6, .box [.d (.v (.bool (e.live))), .d (.sl false 122 2 (List.map Iv.c (e.ints))), .d (.sl false 122 2 (List.map Iv.c (e.arrs)))])), ([4], (g7, g7, .box [.d (.v (.bool (b.live))), .d (.sl false 122 2 (List.map Iv.c (b.ints))), .d (.sl false 122 2 (List.map Iv.c (b.arrs)))])), ([6], (g8, g8, .box [.d (.v (.bool (false))), .d (.v (.slice none 0 0)), .d (.v (.slice none 0 0))]))]) [⟨[4], some 14, [], []⟩, ⟨[14], some 15, [[4]], []⟩, ⟨[15], some 16, [], []⟩, ⟨[16], some 13, [], []⟩] (fun k17 => ?_) ?_
  ·skip
   refine .fieldAddrP (.no rfl) rfl t77 rfl rfl t4 rfl rfl rfl rfl ?_
   refine .load (.no rfl) rfl t4 rfl rfl (.ptr _ _ _ _ _ rfl) rfl rfl rfl rfl ?_
   refine .un (.no rfl) rfl rfl rfl rfl rfl ?_
   refine .assign (.no rfl) rfl rfl rfl rfl ?_
   exact .fin () (.of (.cons rfl (.cons rfl (.cons rfl (.cons rfl (.cons rfl .nil))))) (.cons rfl (.cons rfl (.cons rfl .nil))))
  intro _
  refine .cond (t := !b.live) rfl (fun c1 => ?_) (fun c1 => ?_)
  ·have c1 := c1
   try simp only [Bool.or_eq_true, Bool.or_eq_false_iff, Bool.and_eq_true, Bool.and_eq_false_iff, decide_eq_true_eq, decide_eq_false_iff_not, Bool.not_eq_true', Bool.not_eq_false', bne_iff_ne, beq_iff_eq, bne_eq_false_iff_eq, beq_eq_false_iff_ne, ne_eq, Bool.not_eq_eq_eq_not, Bool.not_true, Bool.not_false] at c1
   refine .seq ?_
   refine .reg (X := Nat × Nat) (fun ζ => .of [(6, .one (.ptr [6] (g8) 0))] [([6], (g8, ζ.1, .box [.d (.v (.bool (e.live))), .ref [18, 1] (ζ.2), .ref [18, 2] (ζ.2)])), ([18, 1], (ζ.2, ζ.2, .row 122 2 (List.map Iv.c (e.ints)))), ([18, 2], (ζ.2, ζ.2, .row 122 2 (List.map Iv.c (e.arrs))))]) [⟨[3], some 17, [[3]], []⟩, ⟨[17], some 18, [], [[18, 1], [18, 2]]⟩, ⟨[6, 18], none, [[6]], [[6]]⟩] (fun k18 => ?_) ?_
   ·skip
    refine .load (.no rfl) rfl t77 rfl rfl (.ptr _ _ _ _ _ rfl) rfl rfl rfl rfl ?_
    refine .call (.no rfl) rfl [] [] (c_own e (by first | omega | (have hj9 := hj c0 c1; omega))) rfl rfl rfl rfl rfl (.cons (Reads.d _).gives (.cons (Reads.d _).gives (.cons (Reads.d _).gives .nil))) rfl rfl (fun h => absurd rfl h) (.own [18, 0] (.own [18, 1] (.own [18, 2] .nil))) (.nil) rfl rfl rfl (by simp) rfl rfl rfl ?_
    refine .store (.no rfl) rfl t77 rfl rfl rfl rfl rfl rfl rfl rfl rfl ?_
    exact .fin (k18 + 1 + 1, k18 + 1) (.of (.cons rfl .nil) (.cons rfl (.cons rfl (.cons rfl .nil))))
   rintro ⟨g19, g20⟩
   refine .ret ?_
   have e21 : (e.live) = ((Env.joinW f e b).live) := by simp [Env.joinW, c0, c1]
   have e22 : (e.ints) = ((Env.joinW f e b).ints) := by simp [Env.joinW, c0, c1]
   have e23 : (e.arrs) = ((Env.joinW f e b).arrs) := by simp [Env.joinW, c0, c1]
   have hc24 := eq1 (fun z1 => some (g8, g19, O.box [.d (.v (.bool (z1))), .ref [18, 1] (g20), .ref [18, 2] (g20)])) e21
   show _ ∧ _
   exact ⟨.inr rfl, .done ⟨_, [], [([18, 1], (g20, g20, .row 122 2 (List.map Iv.c ((Env.joinW f e b).ints)))), ([18, 2], (g20, g20, .row 122 2 (List.map Iv.c ((Env.joinW f e b).arrs))))], _, .cell (cells := [.d (.v (.bool ((Env.joinW f e b).live))), .ref [18, 1] (g20), .ref [18, 2] (g20)]) rfl hc24 t77 rfl rfl .nil, .cons (Reads.d _).gives (.cons (.ref (.head _)) (.cons (.ref (.tail _ (.head _))) .nil)), nodupB_ok rfl, by simp, (AllH.get (.cons (rowE (congrArg (List.map Iv.c) e22)) (.cons (rowE (congrArg (List.map Iv.c) e23)) .nil)))⟩⟩
  ·have c1 := c1
   try simp only [Bool.or_eq_true, Bool.or_eq_false_iff, Bool.and_eq_true, Bool.and_eq_false_iff, decide_eq_true_eq, decide_eq_false_iff_not, Bool.not_eq_true', Bool.not_eq_false', bne_iff_ne, beq_iff_eq, bne_eq_false_iff_eq, beq_eq_false_iff_ne, ne_eq, Bool.not_eq_eq_eq_not, Bool.not_true, Bool.not_false] at c1
   refine .skip ?_
   refine .seq ?_
   refine .regD (X := Nat × Nat × Nat) (by kernel_rfl) (fun ζ => .of [(6, .one (.ptr [6] (g8) 0))] [([6], (g8, ζ.1, .box [.d (.v (.bool (true))), .ref [24, 0] (ζ.2.1), .ref [30, 0] (ζ.2.2)])), ([24, 0], (ζ.2.1, ζ.2.1, .row 122 2 (List.map Iv.c (zip2 f e.ints b.ints)))), ([30, 0], (ζ.2.2, ζ.2.2, .row 122 2 (List.map Iv.c (zip2 f e.arrs b.arrs))))]) [⟨[3], some 19, [], []⟩, ⟨[19], some 20, [[3]], []⟩, ⟨[4], some 21, [], []⟩, ⟨[21], some 22, [[4]], []⟩, ⟨[2], some 23, [], []⟩, ⟨[20, 22, 23], some 24, [], [[24, 0]]⟩, ⟨[3], some 25, [], []⟩, ⟨[25], some 26, [[3]], []⟩, ⟨[4], some 27, [], []⟩, ⟨[27], some 28, [[4]], []⟩, ⟨[2], some 29, [], []⟩, ⟨[26, 28, 29], some 30, [], [[30, 0]]⟩, ⟨[24, 30], some 31, [], []⟩, ⟨[6, 31], none, [[6]], [[6]]⟩] (by kernel_rfl) (fun k25 => ?_) ?_
   ·skip
    refine .fieldAddrP (.no rfl) rfl t77 rfl rfl t75 rfl rfl rfl rfl ?_
    refine .load (.no rfl) rfl t75 rfl rfl (.ptr _ _ _ _ _ rfl) rfl rfl rfl rfl ?_
    refine .fieldAddrP (.no rfl) rfl t77 rfl rfl t75 rfl rfl rfl rfl ?_
    refine .load (.no rfl) rfl t75 rfl rfl (.ptr _ _ _ _ _ rfl) rfl rfl rfl rfl ?_
    refine .move (.no rfl) rfl rfl rfl rfl ?_
    refine .call (.no rfl) rfl [] [] (c_joined e.ints b.ints F_f first_f caps_f f h_f (by first | omega | (have hj9 := hj c0 c1; omega))) rfl rfl rfl rfl rfl (.cons (Reads.d _).gives (.cons (Reads.d _).gives (.cons (Reads.d _).gives .nil))) rfl rfl (fun h => absurd rfl h) (.own [24, 0] .nil) (.nil) rfl rfl rfl (by simp) rfl rfl rfl ?_
    refine .fieldAddrP (.no rfl) rfl t77 rfl rfl t75 rfl rfl rfl rfl ?_
    refine .load (.no rfl) rfl t75 rfl rfl (.ptr _ _ _ _ _ rfl) rfl rfl rfl rfl ?_
    refine .fieldAddrP (.no rfl) rfl t77 rfl rfl t75 rfl rfl rfl rfl ?_
    refine .load (.no rfl) rfl t75 rfl rfl (.ptr _ _ _ _ _ rfl) rfl rfl rfl rfl ?_
    refine .move (.no rfl) rfl rfl rfl rfl ?_
    refine .call (.no rfl) rfl [] [] (c_joined e.arrs b.arrs F_f first_f caps_f f h_f (by first | omega | (have hj9 := hj c0 c1; omega))) rfl rfl rfl rfl rfl (.cons (Reads.d _).gives (.cons (Reads.d _).gives (.cons (Reads.d _).gives .nil))) rfl rfl (fun h => absurd rfl h) (.own [30, 0] .nil) (.nil) rfl rfl rfl (by simp) rfl rfl rfl ?_
    refine .build (.no rfl) rfl z77 rfl p77 rfl rfl rfl rfl ?_
    refine .store (.no rfl) rfl t77 rfl rfl rfl rfl rfl rfl rfl rfl rfl ?_
    exact .fin (k25 + 1 + 1 + 1 + 1 + 1 + 1 + 1 + 1 + 1 + 1 + 1 + 1 + 1, k25 + 1 + 1 + 1 + 1 + 1, k25 + 1 + 1 + 1 + 1 + 1 + 1 + 1 + 1 + 1 + 1 + 1) (.of (.cons rfl .nil) (.cons rfl (.cons rfl (.cons rfl .nil))))
   rintro ⟨g26, g27, g28⟩
   refine .ret ?_
   have e29 : (true) = ((Env.joinW f e b).live) := by simp [Env.joinW, c0, c1]
   have e30 : (zip2 f e.ints b.ints) = ((Env.joinW f e b).ints) := by simp [Env.joinW, c0, c1]
   have e31 : (zip2 f e.arrs b.arrs) = ((Env.joinW f e b).arrs) := by simp [Env.joinW, c0, c1]
   have hc32 := eq1 (fun z1 => some (g8, g26, O.box [.d (.v (.bool (z1))), .ref [24, 0] (g27), .ref [30, 0] (g28)])) e29
   show _ ∧ _
   exact ⟨.inr rfl, .done ⟨_, [], [([24, 0], (g27, g27, .row 122 2 (List.map Iv.c ((Env.joinW f e b).ints)))), ([30, 0], (g28, g28, .row 122 2 (List.map Iv.c ((Env.joinW f e b).arrs))))], _, .cell (cells := [.d (.v (.bool ((Env.joinW f e b).live))), .ref [24, 0] (g27), .ref [30, 0] (g28)]) rfl hc32 t77 rfl rfl .nil, .cons (Reads.d _).gives (.cons (.ref (.head _)) (.cons (.ref (.tail _ (.head _))) .nil)), nodupB_ok rfl, by simp, (AllH.get (.cons (rowE (congrArg (List.map Iv.c) e30)) (.cons (rowE (congrArg (List.map Iv.c) e31)) .nil)))⟩⟩
theorem c_areIvs (a : Iv) (b : Iv) : Trip Tryz.prog 150 [(true, 2), (true, 2)] (Iv.c a ++ Iv.c b) [(false, 1)] [.v (.bool (Iv.ok a && Iv.ok b))] [] := by
 refine Trip.of Tryz.func150 (by decide) (c := _) rfl rfl (shB_ok rfl) (Nat.le_of_ble_eq_true rfl) rfl (AftOk.nil _) ?_
 refine .seq ?_
 refine .reg (X := Nat × Nat) (fun ζ => .of [(2, .one (.ptr [2] (ζ.1) 0)), (3, .one (.ptr [3] (ζ.2) 0))] [([2], (ζ.1, ζ.1, .box [.d (.v (.int .i64 (a.lo))), .d (.v (.int .i64 (a.hi)))])), ([3], (ζ.2, ζ.2, .box [.d (.v (.int .i64 (b.lo))), .d (.v (.int .i64 (b.hi)))]))]) [⟨[0], some 2, [], [[2]]⟩, ⟨[1], some 3, [], [[3]]⟩, ⟨[], some 4, [], []⟩] (fun k1 => ?_) ?_
 ·skip
  refine .box (.no rfl) rfl rfl rfl rfl rfl ?_
  refine .box (.no rfl) rfl rfl rfl rfl rfl ?_
  refine .assign (.no rfl) rfl rfl rfl rfl ?_
  exact .fin (k1, k1 + 1) (.of (.cons rfl (.cons rfl .nil)) (.cons rfl (.cons rfl .nil)))
 rintro ⟨g2, g3⟩
 refine .seq ?_
 refine .reg (X := Unit) (fun ζ => .of [(4, .one (.d (.v (.bool ((Iv.ok a && Iv.ok b))))))] []) [⟨[2], some 5, [[2]], []⟩, ⟨[5], some 6, [], []⟩, ⟨[6], some 7, [], []⟩, ⟨[7, 3], some 8, [[3]], []⟩, ⟨[7, 8], some 9, [], []⟩, ⟨[7, 9], some 10, [], []⟩, ⟨[10], some 4, [], []⟩] (fun k4 => ?_) ?_
 ·skip
  refine .load (.no rfl) rfl t122 rfl rfl (.ptr _ _ _ _ _ rfl) rfl rfl rfl rfl ?_
  refine .call (.no rfl) rfl [] [] (c_IvOk a) rfl rfl rfl rfl rfl (.cons (Reads.d _).gives (.cons (Reads.d _).gives .nil)) rfl rfl (fun h => absurd rfl h) (.own [6, 0] .nil) (.nil) rfl rfl rfl (by simp) rfl rfl rfl ?_
  refine .moveB (.no rfl) rfl rfl rfl rfl fun b5 g1_2 => ?_
  cases b5
  ·skip
   refine .off rfl rfl rfl rfl rfl rfl rfl ?_
   refine .off rfl rfl rfl rfl rfl rfl rfl ?_
   refine .pick (.no rfl) rfl rfl rfl rfl rfl ?_
   refine .assign (.no rfl) rfl rfl rfl rfl ?_
   exact .fin () (.of (.cons (svB (show (false) = ((Iv.ok a && Iv.ok b)) by first | (simp only [g1_2, Bool.true_or, Bool.false_or, Bool.true_and, Bool.false_and, Bool.not_true, Bool.not_false]; done) | simp [g1_2])) .nil) .nil)
  ·skip
   refine .load (.on rfl rfl rfl rfl rfl) rfl t122 rfl rfl (.ptr _ _ _ _ _ rfl) rfl rfl rfl rfl ?_
   refine .call (.on rfl rfl rfl rfl rfl) rfl [] [] (c_IvOk b) rfl rfl rfl rfl rfl (.cons (Reads.d _).gives (.cons (Reads.d _).gives .nil)) rfl rfl (fun h => absurd rfl h) (.own [9, 0] .nil) (.nil) rfl rfl rfl (by simp) rfl rfl rfl ?_
   refine .pick (.no rfl) rfl rfl rfl rfl rfl ?_
   refine .assign (.no rfl) rfl rfl rfl rfl ?_
   exact .fin () (.of (.cons (svB (show (Iv.ok b) = ((Iv.ok a && Iv.ok b)) by first | (simp only [g1_2, Bool.true_or, Bool.false_or, Bool.true_and, Bool.false_and, Bool.not_true, Bool.not_false]; done) | simp [g1_2])) .nil) .nil)
 intro _
 refine .ret ?_
 have e6 : ((Iv.ok a && Iv.ok b)) = (Iv.ok a && Iv.ok b) := by rfl
 have hc7 := eq1 (fun z1 => SV.one (.d (.v (.bool (z1))))) e6
 show _ ∧ _
 exact ⟨.inr rfl, .done ⟨_, [], [], _, .one (c := .d (.v (.bool (Iv.ok a && Iv.ok b)))) (hc7) .nil, .cons (Reads.d _).gives .nil, nodupB_ok rfl, by simp, (by simp)⟩⟩
end Go.Proofs

namespace Go.Proofs
open Go Go.Proofs Go.Ev

theorem c_sIvWiden (a : Iv) (b : Iv) (l : List Int) : Trip Tryz.prog 146 [(true, 2), (true, 2), (false, 1)] (Iv.c a ++ Iv.c b ++ [.sl false 2 1 (List.map i64c (l))]) [(true, 2)] [.v (.int .i64 ((Iv.widenOk l a b).lo)), .v (.int .i64 ((Iv.widenOk l a b).hi))] [] := by
 refine Trip.of Tryz.func146 (by decide) (c := _) rfl rfl (shB_ok rfl) (Nat.le_of_ble_eq_true rfl) rfl (AftOk.nil _) ?_
 refine .sat (t := 2) rfl (fun hs1 => ?_)
 have hs1l : l.length ≤ 9223372036854775807 := hs1.maplen
 refine .seq ?_
 refine .reg (X := Nat × Nat × Nat) (fun ζ => .of [(2, .one (.d (.sl false 2 1 (List.map i64c (l))))), (3, .one (.ptr [3] (ζ.1) 0)), (4, .one (.ptr [4] (ζ.2.1) 0)), (6, .one (.ptr [6] (ζ.2.2) 0))] [([3], (ζ.1, ζ.1, .box [.d (.v (.int .i64 (a.lo))), .d (.v (.int .i64 (a.hi)))])), ([4], (ζ.2.1, ζ.2.1, .box [.d (.v (.int .i64 (b.lo))), .d (.v (.int .i64 (b.hi)))])), ([6], (ζ.2.2, ζ.2.2, .box [.d (.v (.int .i64 (0))), .d (.v (.int .i64 (0)))]))]) [⟨[0], some 3, [], [[3]]⟩, ⟨[1], some 4, [], [[4]]⟩, ⟨[], some 6, [], [[6]]⟩] (fun k2 => ?_) ?_
 ·skip
  refine .box (.no rfl) rfl rfl rfl rfl rfl ?_
  refine .box (.no rfl) rfl rfl rfl rfl rfl ?_
  refine .alloc (.no rfl) rfl z122 rfl rfl rfl ?_
  exact .fin (k2, k2 + 1, k2 + 1 + 1) (.of (.cons rfl (.cons rfl (.cons rfl (.cons rfl .nil)))) (.cons rfl (.cons rfl (.cons rfl .nil))))
 rintro ⟨g3, g4, g5⟩
 refine .seq ?_
 refine .seq ?_
 refine .reg (X := Unit) (fun ζ => .of [(2, .one (.d (.sl false 2 1 (List.map i64c (l))))), (3, .one (.ptr [3] (g3) 0)), (4, .one (.ptr [4] (g4) 0)), (6, .one (.ptr [6] (g5) 0)), (22, .one (.d (.v (.bool (((!(Iv.ok a) || !(Iv.ok b)) || decide ((l.length : Int) > 100)))))))] [([3], (g3, g3, .box [.d (.v (.int .i64 (a.lo))), .d (.v (.int .i64 (a.hi)))])), ([4], (g4, g4, .box [.d (.v (.int .i64 (b.lo))), .d (.v (.int .i64 (b.hi)))])), ([6], (g5, g5, .box [.d (.v (.int .i64 (0))), .d (.v (.int .i64 (0)))]))]) [⟨[3], some 10, [[3]], []⟩, ⟨[10], some 11, [], []⟩, ⟨[11], some 12, [], []⟩, ⟨[12], some 13, [], []⟩, ⟨[13, 4], some 14, [[4]], []⟩, ⟨[13, 14], some 15, [], []⟩, ⟨[13, 15], some 16, [], []⟩, ⟨[13, 16], some 17, [], []⟩, ⟨[17], some 18, [], []⟩, ⟨[18, 2], some 19, [], []⟩, ⟨[18, 19], some 20, [], []⟩, ⟨[18, 20], some 21, [], []⟩, ⟨[18, 21], some 22, [], []⟩] (fun k6 => ?_) ?_
 ·skip
  refine .load (.no rfl) rfl t122 rfl rfl (.ptr _ _ _ _ _ rfl) rfl rfl rfl rfl ?_
  refine .call (.no rfl) rfl [] [] (c_sIvOk a) rfl rfl rfl rfl rfl (.cons (Reads.d _).gives (.cons (Reads.d _).gives .nil)) rfl rfl (fun h => absurd rfl h) (.own [11, 0] .nil) (.nil) rfl rfl rfl (by simp) rfl rfl rfl ?_
  refine .un (.no rfl) rfl rfl rfl rfl rfl ?_
  refine .moveB (.no rfl) rfl rfl rfl rfl fun b7 g1_3 => ?_
  cases b7
  ·skip
   refine .load (.on rfl rfl rfl rfl rfl) rfl t122 rfl rfl (.ptr _ _ _ _ _ rfl) rfl rfl rfl rfl ?_
   refine .call (.on rfl rfl rfl rfl rfl) rfl [] [] (c_sIvOk b) rfl rfl rfl rfl rfl (.cons (Reads.d _).gives (.cons (Reads.d _).gives .nil)) rfl rfl (fun h => absurd rfl h) (.own [15, 0] .nil) (.nil) rfl rfl rfl (by simp) rfl rfl rfl ?_
   refine .un (.on rfl rfl rfl rfl rfl) rfl rfl rfl rfl rfl ?_
   refine .pick (.no rfl) rfl rfl rfl rfl rfl ?_
   refine .moveB (.no rfl) rfl rfl rfl rfl fun b8 g1_8 => ?_
   cases b8
   ·skip
    refine .move (.on rfl rfl rfl rfl rfl) rfl rfl rfl rfl ?_
    refine .len (.on rfl rfl rfl rfl rfl) rfl (z := (l.length : Int)) t27 rfl rfl rfl (.d _ _) (map_len _ _) rfl ?_
    refine .bin (.on rfl rfl rfl rfl rfl) rfl rfl rfl rfl rfl rfl ?_
    refine .pick (.no rfl) rfl rfl rfl rfl rfl ?_
    exact .fin () (.of (.cons rfl (.cons rfl (.cons rfl (.cons rfl (.cons (svB (show (decide ((l.length : Int) > 100)) = (((!(Iv.ok a) || !(Iv.ok b)) || decide ((l.length : Int) > 100))) by first | (simp only [g1_3, g1_8, Bool.true_or, Bool.false_or, Bool.true_and, Bool.false_and, Bool.not_true, Bool.not_false]; done) | simp [g1_3, g1_8])) .nil))))) (.cons rfl (.cons rfl (.cons rfl .nil))))
   ·skip
    refine .off rfl rfl rfl rfl rfl rfl rfl ?_
    refine .off rfl rfl rfl rfl rfl rfl rfl ?_
    refine .off rfl rfl rfl rfl rfl rfl rfl ?_
    refine .pick (.no rfl) rfl rfl rfl rfl rfl ?_
    exact .fin () (.of (.cons rfl (.cons rfl (.cons rfl (.cons rfl (.cons (svB (show (true) = (((!(Iv.ok a) || !(Iv.ok b)) || decide ((l.length : Int) > 100))) by first | (simp only [g1_3, g1_8, Bool.true_or, Bool.false_or, Bool.true_and, Bool.false_and, Bool.not_true, Bool.not_false]; done) | simp [g1_3, g1_8])) .nil))))) (.cons rfl (.cons rfl (.cons rfl .nil))))
  ·skip
   refine .off rfl rfl rfl rfl rfl rfl rfl ?_
   refine .off rfl rfl rfl rfl rfl rfl rfl ?_
   refine .off rfl rfl rfl rfl rfl rfl rfl ?_
   refine .pick (.no rfl) rfl rfl rfl rfl rfl ?_
   refine .move (.no rfl) rfl rfl rfl rfl ?_
   refine .off rfl rfl rfl rfl rfl rfl rfl ?_
   refine .off rfl rfl rfl rfl rfl rfl rfl ?_
   refine .off rfl rfl rfl rfl rfl rfl rfl ?_
   refine .pick (.no rfl) rfl rfl rfl rfl rfl ?_
   exact .fin () (.of (.cons rfl (.cons rfl (.cons rfl (.cons rfl (.cons (svB (show (true) = (((!(Iv.ok a) || !(Iv.ok b)) || decide ((l.length : Int) > 100))) by first | (simp only [g1_3, Bool.true_or, Bool.false_or, Bool.true_and, Bool.false_and, Bool.not_true, Bool.not_false]; done) | simp [g1_3])) .nil))))) (.cons rfl (.cons rfl (.cons rfl .nil))))
 intro _
 refine .cond (t := ((!(Iv.ok a) || !(Iv.ok b)) || decide ((l.length : Int) > 100))) rfl (fun c0 => ?_) (fun c0 => ?_)
 ·have c0 := c0
  try simp only [Bool.or_eq_true, Bool.or_eq_false_iff, Bool.and_eq_true, Bool.and_eq_false_iff, decide_eq_true_eq, decide_eq_false_iff_not, Bool.not_eq_true', Bool.not_eq_false', bne_iff_ne, beq_iff_eq, bne_eq_false_iff_eq, beq_eq_false_iff_ne, ne_eq, Bool.not_eq_eq_eq_not, Bool.not_true, Bool.not_false] at c0
  refine .seq ?_
  refine .reg (X := Nat) (fun ζ => .of [(6, .one (.ptr [6] (g5) 0))] [([6], (g5, ζ, .box [.d (.v (.int .i64 (0))), .d (.v (.int .i64 (0)))]))]) [⟨[], some 23, [], []⟩, ⟨[6, 23], none, [[6]], [[6]]⟩] (fun k9 => ?_) ?_
  ·skip
   refine .build (.no rfl) rfl z122 rfl p122 rfl rfl rfl rfl ?_
   refine .store (.no rfl) rfl t122 rfl rfl rfl rfl rfl rfl rfl rfl rfl ?_
   exact .fin (k9 + 1) (.of (.cons rfl .nil) (.cons rfl .nil))
  intro g10
  refine .ret ?_
  have e11 : (0) = ((Iv.widenOk l a b).lo) := by (rw [Iv.widenOk_no c0])
  have e12 : (0) = ((Iv.widenOk l a b).hi) := by (rw [Iv.widenOk_no c0])
  have hc13 := eq2 (fun z1 z2 => some (g5, g10, O.box [.d (.v (.int .i64 (z1))), .d (.v (.int .i64 (z2)))])) e11 e12
  show _ ∧ _
  exact ⟨.inr rfl, .done ⟨_, [], [], _, .cell (cells := [.d (.v (.int .i64 ((Iv.widenOk l a b).lo))), .d (.v (.int .i64 ((Iv.widenOk l a b).hi)))]) rfl hc13 t122 rfl rfl .nil, .cons (Reads.d _).gives (.cons (Reads.d _).gives .nil), nodupB_ok rfl, by simp, (by simp)⟩⟩
 ·have c0 := c0
  try simp only [Bool.or_eq_true, Bool.or_eq_false_iff, Bool.and_eq_true, Bool.and_eq_false_iff, decide_eq_true_eq, decide_eq_false_iff_not, Bool.not_eq_true', Bool.not_eq_false', bne_iff_ne, beq_iff_eq, bne_eq_false_iff_eq, beq_eq_false_iff_ne, ne_eq, Bool.not_eq_eq_eq_not, Bool.not_true, Bool.not_false] at c0
  refine .skip ?_
  refine .seq ?_
  refine .reg (X := Nat × Nat) (fun ζ => .of [(2, .one (.d (.sl false 2 1 (List.map i64c (l))))), (3, .one (.ptr [3] (g3) 0)), (4, .one (.ptr [4] (g4) 0)), (6, .one (.ptr [6] (g5) 0)), (7, .one (.ptr [7] (ζ.1) 0))] [([3], (g3, g3, .box [.d (.v (.int .i64 (a.lo))), .d (.v (.int .i64 (a.hi)))])), ([4], (g4, g4, .box [.d (.v (.int .i64 (b.lo))), .d (.v (.int .i64 (b.hi)))])), ([6], (g5, g5, .box [.d (.v (.int .i64 (0))), .d (.v (.int .i64 (0)))])), ([7], (ζ.1, ζ.2, .box [.d (.v (.int .i64 (a.lo))), .d (.v (.int .i64 (a.hi)))]))]) [⟨[3], some 24, [[3]], []⟩, ⟨[], some 7, [], [[7]]⟩, ⟨[7, 24], none, [[7]], [[7]]⟩] (fun k14 => ?_) ?_
  ·skip
   refine .load (.no rfl) rfl t122 rfl rfl (.ptr _ _ _ _ _ rfl) rfl rfl rfl rfl ?_
   refine .alloc (.no rfl) rfl z122 rfl rfl rfl ?_
   refine .store (.no rfl) rfl t122 rfl rfl rfl rfl rfl rfl rfl rfl rfl ?_
   exact .fin (k14 + 1, k14 + 1 + 1) (.of (.cons rfl (.cons rfl (.cons rfl (.cons rfl (.cons rfl .nil))))) (.cons rfl (.cons rfl (.cons rfl (.cons rfl .nil)))))
  rintro ⟨g15, g16⟩
  refine .seq ?_
  refine .seq ?_
  refine .reg (X := Unit) (fun ζ => .of [(2, .one (.d (.sl false 2 1 (List.map i64c (l))))), (3, .one (.ptr [3] (g3) 0)), (4, .one (.ptr [4] (g4) 0)), (6, .one (.ptr [6] (g5) 0)), (7, .one (.ptr [7] (g15) 0)), (29, .one (.d (.v (.bool (decide (b.lo < a.lo))))))] [([3], (g3, g3, .box [.d (.v (.int .i64 (a.lo))), .d (.v (.int .i64 (a.hi)))])), ([4], (g4, g4, .box [.d (.v (.int .i64 (b.lo))), .d (.v (.int .i64 (b.hi)))])), ([6], (g5, g5, .box [.d (.v (.int .i64 (0))), .d (.v (.int .i64 (0)))])), ([7], (g15, g16, .box [.d (.v (.int .i64 (a.lo))), .d (.v (.int .i64 (a.hi)))]))]) [⟨[4], some 25, [], []⟩, ⟨[25], some 26, [[4]], []⟩, ⟨[3], some 27, [], []⟩, ⟨[27], some 28, [[3]], []⟩, ⟨[26, 28], some 29, [], []⟩] (fun k17 => ?_) ?_
  ·skip
   refine .fieldAddrP (.no rfl) rfl t122 rfl rfl t2 rfl rfl rfl rfl ?_
   refine .load (.no rfl) rfl t2 rfl rfl (.ptr _ _ _ _ _ rfl) rfl rfl rfl rfl ?_
   refine .fieldAddrP (.no rfl) rfl t122 rfl rfl t2 rfl rfl rfl rfl ?_
   refine .load (.no rfl) rfl t2 rfl rfl (.ptr _ _ _ _ _ rfl) rfl rfl rfl rfl ?_
   refine .bin (.no rfl) rfl rfl rfl rfl rfl rfl ?_
   exact .fin () (.of (.cons rfl (.cons rfl (.cons rfl (.cons rfl (.cons rfl (.cons rfl .nil)))))) (.cons rfl (.cons rfl (.cons rfl (.cons rfl .nil)))))
  intro _
  refine .cond (t := decide (b.lo < a.lo)) rfl (fun c1 => ?_) (fun c1 => ?_)
  ·have c1 := of_decide_eq_true c1
   refine .seq ?_
   refine .reg (X := Nat) (fun ζ => .of [(2, .one (.d (.sl false 2 1 (List.map i64c (l))))), (3, .one (.ptr [3] (g3) 0)), (4, .one (.ptr [4] (g4) 0)), (6, .one (.ptr [6] (g5) 0)), (7, .one (.ptr [7] (g15) 0))] [([3], (g3, g3, .box [.d (.v (.int .i64 (a.lo))), .d (.v (.int .i64 (a.hi)))])), ([4], (g4, g4, .box [.d (.v (.int .i64 (b.lo))), .d (.v (.int .i64 (b.hi)))])), ([6], (g5, g5, .box [.d (.v (.int .i64 (0))), .d (.v (.int .i64 (0)))])), ([7], (g15, ζ, .box [.d (.v (.int .i64 (-9223372036854775808))), .d (.v (.int .i64 (a.hi)))]))]) [⟨[7], some 30, [], []⟩, ⟨[30], none, [[7]], [[7]]⟩] (fun k18 => ?_) ?_
   ·skip
    refine .fieldAddrP (.no rfl) rfl t122 rfl rfl t2 rfl rfl rfl rfl ?_
    refine .store (.no rfl) rfl t2 rfl rfl rfl rfl rfl rfl rfl rfl rfl ?_
    exact .fin (k18 + 1) (.of (.cons rfl (.cons rfl (.cons rfl (.cons rfl (.cons rfl .nil))))) (.cons rfl (.cons rfl (.cons rfl (.cons rfl .nil)))))
   intro g19
   refine .seq ?_
   refine .reg (X := Unit) (fun ζ => .of [(2, .one (.d (.sl false 2 1 (List.map i64c (l))))), (3, .one (.ptr [3] (g3) 0)), (4, .one (.ptr [4] (g4) 0)), (6, .one (.ptr [6] (g5) 0)), (7, .one (.ptr [7] (g15) 0)), (8, .one (.d (.v (.int .i64 (0)))))] [([3], (g3, g3, .box [.d (.v (.int .i64 (a.lo))), .d (.v (.int .i64 (a.hi)))])), ([4], (g4, g4, .box [.d (.v (.int .i64 (b.lo))), .d (.v (.int .i64 (b.hi)))])), ([6], (g5, g5, .box [.d (.v (.int .i64 (0))), .d (.v (.int .i64 (0)))])), ([7], (g15, g19, .box [.d (.v (.int .i64 (-9223372036854775808))), .d (.v (.int .i64 (a.hi)))]))]) [⟨[], some 8, [], []⟩] (fun k20 => ?_) ?_
   ·skip
    refine .assign (.no rfl) rfl rfl rfl rfl ?_
    exact .fin () (.of (.cons rfl (.cons rfl (.cons rfl (.cons rfl (.cons rfl (.cons rfl .nil)))))) (.cons rfl (.cons rfl (.cons rfl (.cons rfl .nil)))))
   intro _
   refine .block ?_
   refine .loop (X := Nat × Nat) (fun ζ => .of [(2, .one (.d (.sl false 2 1 (List.map i64c (l))))), (3, .one (.ptr [3] (g3) 0)), (4, .one (.ptr [4] (g4) 0)), (6, .one (.ptr [6] (g5) 0)), (7, .one (.ptr [7] (g15) 0)), (8, .one (.d (.v (.int .i64 ((ζ.1 : Int))))))] [([3], (g3, g3, .box [.d (.v (.int .i64 (a.lo))), .d (.v (.int .i64 (a.hi)))])), ([4], (g4, g4, .box [.d (.v (.int .i64 (b.lo))), .d (.v (.int .i64 (b.hi)))])), ([6], (g5, g5, .box [.d (.v (.int .i64 (0))), .d (.v (.int .i64 (0)))])), ([7], (g15, ζ.2, .box [.d (.v (.int .i64 (widenLo b.lo (l.take ζ.1) (-9223372036854775808)))), .d (.v (.int .i64 (a.hi)))]))]) (fun ζ => ζ.1 ≤ l.length) (fun ζ => l.length - ζ.1) ?_ ?_
   ·skip
    exact .here (0, g19) (.of (.cons rfl (.cons rfl (.cons rfl (.cons rfl (.cons rfl (.cons (svI (show (0) = ((0 : Int)) by first | rfl | omega | exact wrap_le (by omega) (by omega) | (rw [wrap_le (by omega) (by omega)]; omega))) .nil)))))) (.cons rfl (.cons rfl (.cons rfl (.cons (eq1 (fun z1 => some (g15, g19, O.box [.d (.v (.int .i64 (z1))), .d (.v (.int .i64 (a.hi)))])) (show (-9223372036854775808) = (widenLo b.lo (l.take 0) (-9223372036854775808)) by first | rfl | (exact widenLo_yes (by omega) c3) | (exact widenLo_no (by omega) c3) | (exact widenHi_yes (by omega) c6) | (exact widenHi_no (by omega) c6))) .nil))))) (show 0 ≤ l.length by omega)
   ·rintro ⟨j, q21⟩ hI
    have hI : j ≤ l.length := hI
    have hl9 : l.length ≤ 100 := by omega
    refine .seq ?_
    refine .seq ?_
    refine .reg (X := Unit) (fun ζ => .of [(2, .one (.d (.sl false 2 1 (List.map i64c (l))))), (3, .one (.ptr [3] (g3) 0)), (4, .one (.ptr [4] (g4) 0)), (6, .one (.ptr [6] (g5) 0)), (7, .one (.ptr [7] (g15) 0)), (8, .one (.d (.v (.int .i64 ((j : Int)))))), (34, .one (.d (.v (.bool (decide ((j : Int) < (l.length : Int)))))))] [([3], (g3, g3, .box [.d (.v (.int .i64 (a.lo))), .d (.v (.int .i64 (a.hi)))])), ([4], (g4, g4, .box [.d (.v (.int .i64 (b.lo))), .d (.v (.int .i64 (b.hi)))])), ([6], (g5, g5, .box [.d (.v (.int .i64 (0))), .d (.v (.int .i64 (0)))])), ([7], (g15, q21, .box [.d (.v (.int .i64 (widenLo b.lo (l.take j) (-9223372036854775808)))), .d (.v (.int .i64 (a.hi)))]))]) [⟨[8], some 31, [], []⟩, ⟨[2], some 32, [], []⟩, ⟨[32], some 33, [], []⟩, ⟨[31, 33], some 34, [], []⟩] (fun k22 => ?_) ?_
    ·skip
     refine .move (.no rfl) rfl rfl rfl rfl ?_
     refine .move (.no rfl) rfl rfl rfl rfl ?_
     refine .len (.no rfl) rfl (z := (l.length : Int)) t27 rfl rfl rfl (.d _ _) (map_len _ _) rfl ?_
     refine .bin (.no rfl) rfl rfl rfl rfl rfl rfl ?_
     exact .fin () (.of (.cons rfl (.cons rfl (.cons rfl (.cons rfl (.cons rfl (.cons rfl (.cons rfl .nil))))))) (.cons rfl (.cons rfl (.cons rfl (.cons rfl .nil)))))
    intro _
    refine .cond (t := decide ((j : Int) < (l.length : Int))) rfl (fun c2 => ?_) (fun c2 => ?_)
    ·have c2 := of_decide_eq_true c2
     refine .skip ?_
     refine .seq ?_
     refine .block ?_
     refine .seq ?_
     refine .regD (X := Unit) (by kernel_rfl) (fun ζ => .of [(2, .one (.d (.sl false 2 1 (List.map i64c (l))))), (3, .one (.ptr [3] (g3) 0)), (4, .one (.ptr [4] (g4) 0)), (6, .one (.ptr [6] (g5) 0)), (7, .one (.ptr [7] (g15) 0)), (8, .one (.d (.v (.int .i64 ((j : Int)))))), (43, .one (.d (.v (.bool (decide ((l.getD j default) ≤ b.lo))))))] [([3], (g3, g3, .box [.d (.v (.int .i64 (a.lo))), .d (.v (.int .i64 (a.hi)))])), ([4], (g4, g4, .box [.d (.v (.int .i64 (b.lo))), .d (.v (.int .i64 (b.hi)))])), ([6], (g5, g5, .box [.d (.v (.int .i64 (0))), .d (.v (.int .i64 (0)))])), ([7], (g15, q21, .box [.d (.v (.int .i64 (widenLo b.lo (l.take j) (-9223372036854775808)))), .d (.v (.int .i64 (a.hi)))]))]) [⟨[2], some 37, [], []⟩, ⟨[8], some 38, [], []⟩, ⟨[37, 38], some 39, [], []⟩, ⟨[39], some 40, [], []⟩, ⟨[4], some 41, [], []⟩, ⟨[41], some 42, [[4]], []⟩, ⟨[40, 42], some 43, [], []⟩] (by kernel_rfl) (fun k23 => ?_) ?_
     ·skip
      refine .move (.no rfl) rfl rfl rfl rfl ?_
      refine .move (.no rfl) rfl rfl rfl rfl ?_
      refine .indexAddr (.no rfl) rfl (j) t27 rfl t2 rfl rfl rfl (.d _ _) rfl rfl rfl (map_get (by omega)) rfl rfl ?_
      refine .load (.no rfl) rfl t2 rfl rfl (.d _) rfl rfl rfl rfl ?_
      refine .fieldAddrP (.no rfl) rfl t122 rfl rfl t2 rfl rfl rfl rfl ?_
      refine .load (.no rfl) rfl t2 rfl rfl (.ptr _ _ _ _ _ rfl) rfl rfl rfl rfl ?_
      refine .bin (.no rfl) rfl rfl rfl rfl rfl rfl ?_
      exact .fin () (.of (.cons rfl (.cons rfl (.cons rfl (.cons rfl (.cons rfl (.cons rfl (.cons rfl .nil))))))) (.cons rfl (.cons rfl (.cons rfl (.cons rfl .nil)))))
     intro _
     refine .cond (t := decide ((l.getD j default) ≤ b.lo)) rfl (fun c3 => ?_) (fun c3 => ?_)
     ·have c3 := of_decide_eq_true c3
      refine .regD (X := Nat) (by kernel_rfl) (fun ζ => .of [(2, .one (.d (.sl false 2 1 (List.map i64c (l))))), (3, .one (.ptr [3] (g3) 0)), (4, .one (.ptr [4] (g4) 0)), (6, .one (.ptr [6] (g5) 0)), (7, .one (.ptr [7] (g15) 0)), (8, .one (.d (.v (.int .i64 ((j : Int))))))] [([3], (g3, g3, .box [.d (.v (.int .i64 (a.lo))), .d (.v (.int .i64 (a.hi)))])), ([4], (g4, g4, .box [.d (.v (.int .i64 (b.lo))), .d (.v (.int .i64 (b.hi)))])), ([6], (g5, g5, .box [.d (.v (.int .i64 (0))), .d (.v (.int .i64 (0)))])), ([7], (g15, ζ, .box [.d (.v (.int .i64 (max (widenLo b.lo (l.take j) (-9223372036854775808)) (l.getD j default)))), .d (.v (.int .i64 (a.hi)))]))]) [⟨[7], some 44, [], []⟩, ⟨[44], some 45, [[7]], []⟩, ⟨[2], some 46, [], []⟩, ⟨[8], some 47, [], []⟩, ⟨[46, 47], some 48, [], []⟩, ⟨[48], some 49, [], []⟩, ⟨[45, 49], some 50, [], []⟩, ⟨[7], some 51, [], []⟩, ⟨[51, 50], none, [[7]], [[7]]⟩] (by kernel_rfl) (fun k24 => ?_) ?_
      ·skip
       refine .fieldAddrP (.no rfl) rfl t122 rfl rfl t2 rfl rfl rfl rfl ?_
       refine .load (.no rfl) rfl t2 rfl rfl (.ptr _ _ _ _ _ rfl) rfl rfl rfl rfl ?_
       refine .move (.no rfl) rfl rfl rfl rfl ?_
       refine .move (.no rfl) rfl rfl rfl rfl ?_
       refine .indexAddr (.no rfl) rfl (j) t27 rfl t2 rfl rfl rfl (.d _ _) rfl rfl rfl (map_get (by omega)) rfl rfl ?_
       refine .load (.no rfl) rfl t2 rfl rfl (.d _) rfl rfl rfl rfl ?_
       refine .max (.no rfl) rfl rfl rfl rfl (max_of _ _) rfl ?_
       refine .fieldAddrP (.no rfl) rfl t122 rfl rfl t2 rfl rfl rfl rfl ?_
       refine .store (.no rfl) rfl t2 rfl rfl rfl rfl rfl rfl rfl rfl rfl ?_
       exact .fin (k24 + 1 + 1 + 1 + 1 + 1 + 1 + 1 + 1) (.of (.cons rfl (.cons rfl (.cons rfl (.cons rfl (.cons rfl (.cons rfl .nil)))))) (.cons rfl (.cons rfl (.cons rfl (.cons rfl .nil)))))
      intro g25
      refine .reg (X := Unit) (fun ζ => .of [(2, .one (.d (.sl false 2 1 (List.map i64c (l))))), (3, .one (.ptr [3] (g3) 0)), (4, .one (.ptr [4] (g4) 0)), (6, .one (.ptr [6] (g5) 0)), (7, .one (.ptr [7] (g15) 0)), (8, .one (.d (.v (.int .i64 (IntKind.wrap .i64 ((j : Int) + 1))))))] [([3], (g3, g3, .box [.d (.v (.int .i64 (a.lo))), .d (.v (.int .i64 (a.hi)))])), ([4], (g4, g4, .box [.d (.v (.int .i64 (b.lo))), .d (.v (.int .i64 (b.hi)))])), ([6], (g5, g5, .box [.d (.v (.int .i64 (0))), .d (.v (.int .i64 (0)))])), ([7], (g15, g25, .box [.d (.v (.int .i64 (max (widenLo b.lo (l.take j) (-9223372036854775808)) (l.getD j default)))), .d (.v (.int .i64 (a.hi)))]))]) [⟨[8], some 35, [], []⟩, ⟨[35], some 36, [], []⟩, ⟨[36], some 8, [], []⟩] (fun k26 => ?_) ?_
      ·skip
       refine .move (.no rfl) rfl rfl rfl rfl ?_
       refine .bin (.no rfl) rfl rfl rfl rfl rfl rfl ?_
       refine .assign (.no rfl) rfl rfl rfl rfl ?_
       exact .fin () (.of (.cons rfl (.cons rfl (.cons rfl (.cons rfl (.cons rfl (.cons rfl .nil)))))) (.cons rfl (.cons rfl (.cons rfl (.cons rfl .nil)))))
      intro _
      exact .here ((j + 1), g25) (.of (.cons rfl (.cons rfl (.cons rfl (.cons rfl (.cons rfl (.cons (svI (show (IntKind.wrap .i64 ((j : Int) + 1)) = (((j + 1) : Int)) by first | rfl | omega | exact wrap_le (by omega) (by omega) | (rw [wrap_le (by omega) (by omega)]; omega))) .nil)))))) (.cons rfl (.cons rfl (.cons rfl (.cons (eq1 (fun z1 => some (g15, g25, O.box [.d (.v (.int .i64 (z1))), .d (.v (.int .i64 (a.hi)))])) (show (max (widenLo b.lo (l.take j) (-9223372036854775808)) (l.getD j default)) = (widenLo b.lo (l.take (j + 1)) (-9223372036854775808)) by first | rfl | (exact widenLo_yes (by omega) c3) | (exact widenLo_no (by omega) c3) | (exact widenHi_yes (by omega) c6) | (exact widenHi_no (by omega) c6))) .nil))))) ⟨(show (j + 1) ≤ l.length by omega), (show l.length - (j + 1) < l.length - j by omega)⟩
     ·have c3 := of_decide_eq_false c3
      refine .skip ?_
      refine .reg (X := Unit) (fun ζ => .of [(2, .one (.d (.sl false 2 1 (List.map i64c (l))))), (3, .one (.ptr [3] (g3) 0)), (4, .one (.ptr [4] (g4) 0)), (6, .one (.ptr [6] (g5) 0)), (7, .one (.ptr [7] (g15) 0)), (8, .one (.d (.v (.int .i64 (IntKind.wrap .i64 ((j : Int) + 1))))))] [([3], (g3, g3, .box [.d (.v (.int .i64 (a.lo))), .d (.v (.int .i64 (a.hi)))])), ([4], (g4, g4, .box [.d (.v (.int .i64 (b.lo))), .d (.v (.int .i64 (b.hi)))])), ([6], (g5, g5, .box [.d (.v (.int .i64 (0))), .d (.v (.int .i64 (0)))])), ([7], (g15, q21, .box [.d (.v (.int .i64 (widenLo b.lo (l.take j) (-9223372036854775808)))), .d (.v (.int .i64 (a.hi)))]))]) [⟨[8], some 35, [], []⟩, ⟨[35], some 36, [], []⟩, ⟨[36], some 8, [], []⟩] (fun k27 => ?_) ?_
      ·skip
       refine .move (.no rfl) rfl rfl rfl rfl ?_
       refine .bin (.no rfl) rfl rfl rfl rfl rfl rfl ?_
       refine .assign (.no rfl) rfl rfl rfl rfl ?_
       exact .fin () (.of (.cons rfl (.cons rfl (.cons rfl (.cons rfl (.cons rfl (.cons rfl .nil)))))) (.cons rfl (.cons rfl (.cons rfl (.cons rfl .nil)))))
      intro _
      exact .here ((j + 1), q21) (.of (.cons rfl (.cons rfl (.cons rfl (.cons rfl (.cons rfl (.cons (svI (show (IntKind.wrap .i64 ((j : Int) + 1)) = (((j + 1) : Int)) by first | rfl | omega | exact wrap_le (by omega) (by omega) | (rw [wrap_le (by omega) (by omega)]; omega))) .nil)))))) (.cons rfl (.cons rfl (.cons rfl (.cons (eq1 (fun z1 => some (g15, q21, O.box [.d (.v (.int .i64 (z1))), .d (.v (.int .i64 (a.hi)))])) (show (widenLo b.lo (l.take j) (-9223372036854775808)) = (widenLo b.lo (l.take (j + 1)) (-9223372036854775808)) by first | rfl | (exact widenLo_yes (by omega) c3) | (exact widenLo_no (by omega) c3) | (exact widenHi_yes (by omega) c6) | (exact widenHi_no (by omega) c6))) .nil))))) ⟨(show (j + 1) ≤ l.length by omega), (show l.length - (j + 1) < l.length - j by omega)⟩
    ·have c2 := of_decide_eq_false c2
     refine .exit ?_
     refine .seq ?_
     refine .seq ?_
     refine .reg (X := Unit) (fun ζ => .of [(2, .one (.d (.sl false 2 1 (List.map i64c (l))))), (4, .one (.ptr [4] (g4) 0)), (6, .one (.ptr [6] (g5) 0)), (7, .one (.ptr [7] (g15) 0)), (56, .one (.d (.v (.bool (decide (b.hi > a.hi))))))] [([4], (g4, g4, .box [.d (.v (.int .i64 (b.lo))), .d (.v (.int .i64 (b.hi)))])), ([6], (g5, g5, .box [.d (.v (.int .i64 (0))), .d (.v (.int .i64 (0)))])), ([7], (g15, q21, .box [.d (.v (.int .i64 (widenLo b.lo (l.take j) (-9223372036854775808)))), .d (.v (.int .i64 (a.hi)))]))]) [⟨[4], some 52, [], []⟩, ⟨[52], some 53, [[4]], []⟩, ⟨[3], some 54, [], []⟩, ⟨[54], some 55, [[3]], []⟩, ⟨[53, 55], some 56, [], []⟩] (fun k28 => ?_) ?_
     ·skip
      refine .fieldAddrP (.no rfl) rfl t122 rfl rfl t2 rfl rfl rfl rfl ?_
      refine .load (.no rfl) rfl t2 rfl rfl (.ptr _ _ _ _ _ rfl) rfl rfl rfl rfl ?_
      refine .fieldAddrP (.no rfl) rfl t122 rfl rfl t2 rfl rfl rfl rfl ?_
      refine .load (.no rfl) rfl t2 rfl rfl (.ptr _ _ _ _ _ rfl) rfl rfl rfl rfl ?_
      refine .bin (.no rfl) rfl rfl rfl rfl rfl rfl ?_
      exact .fin () (.of (.cons rfl (.cons rfl (.cons rfl (.cons rfl (.cons rfl .nil))))) (.cons rfl (.cons rfl (.cons rfl .nil))))
     intro _
     refine .cond (t := decide (b.hi > a.hi)) rfl (fun c4 => ?_) (fun c4 => ?_)
     ·have c4 := of_decide_eq_true c4
      refine .seq ?_
      refine .reg (X := Nat) (fun ζ => .of [(2, .one (.d (.sl false 2 1 (List.map i64c (l))))), (4, .one (.ptr [4] (g4) 0)), (6, .one (.ptr [6] (g5) 0)), (7, .one (.ptr [7] (g15) 0))] [([4], (g4, g4, .box [.d (.v (.int .i64 (b.lo))), .d (.v (.int .i64 (b.hi)))])), ([6], (g5, g5, .box [.d (.v (.int .i64 (0))), .d (.v (.int .i64 (0)))])), ([7], (g15, ζ, .box [.d (.v (.int .i64 (widenLo b.lo (l.take j) (-9223372036854775808)))), .d (.v (.int .i64 (9223372036854775807)))]))]) [⟨[7], some 57, [], []⟩, ⟨[57], none, [[7]], [[7]]⟩] (fun k29 => ?_) ?_
      ·skip
       refine .fieldAddrP (.no rfl) rfl t122 rfl rfl t2 rfl rfl rfl rfl ?_
       refine .store (.no rfl) rfl t2 rfl rfl rfl rfl rfl rfl rfl rfl rfl ?_
       exact .fin (k29 + 1) (.of (.cons rfl (.cons rfl (.cons rfl (.cons rfl .nil)))) (.cons rfl (.cons rfl (.cons rfl .nil))))
      intro g30
      refine .seq ?_
      refine .reg (X := Unit) (fun ζ => .of [(2, .one (.d (.sl false 2 1 (List.map i64c (l))))), (4, .one (.ptr [4] (g4) 0)), (6, .one (.ptr [6] (g5) 0)), (7, .one (.ptr [7] (g15) 0)), (9, .one (.d (.v (.int .i64 (0)))))] [([4], (g4, g4, .box [.d (.v (.int .i64 (b.lo))), .d (.v (.int .i64 (b.hi)))])), ([6], (g5, g5, .box [.d (.v (.int .i64 (0))), .d (.v (.int .i64 (0)))])), ([7], (g15, g30, .box [.d (.v (.int .i64 (widenLo b.lo (l.take j) (-9223372036854775808)))), .d (.v (.int .i64 (9223372036854775807)))]))]) [⟨[], some 9, [], []⟩] (fun k31 => ?_) ?_
      ·skip
       refine .assign (.no rfl) rfl rfl rfl rfl ?_
       exact .fin () (.of (.cons rfl (.cons rfl (.cons rfl (.cons rfl (.cons rfl .nil))))) (.cons rfl (.cons rfl (.cons rfl .nil))))
      intro _
      refine .block ?_
      refine .loop (X := Nat × Nat) (fun ζ => .of [(2, .one (.d (.sl false 2 1 (List.map i64c (l))))), (4, .one (.ptr [4] (g4) 0)), (6, .one (.ptr [6] (g5) 0)), (7, .one (.ptr [7] (g15) 0)), (9, .one (.d (.v (.int .i64 ((ζ.1 : Int))))))] [([4], (g4, g4, .box [.d (.v (.int .i64 (b.lo))), .d (.v (.int .i64 (b.hi)))])), ([6], (g5, g5, .box [.d (.v (.int .i64 (0))), .d (.v (.int .i64 (0)))])), ([7], (g15, ζ.2, .box [.d (.v (.int .i64 (widenLo b.lo (l.take j) (-9223372036854775808)))), .d (.v (.int .i64 (widenHi b.hi (l.take ζ.1) 9223372036854775807)))]))]) (fun ζ => ζ.1 ≤ l.length) (fun ζ => l.length - ζ.1) ?_ ?_
      ·skip
       exact .here (0, g30) (.of (.cons rfl (.cons rfl (.cons rfl (.cons rfl (.cons (svI (show (0) = ((0 : Int)) by first | rfl | omega | exact wrap_le (by omega) (by omega) | (rw [wrap_le (by omega) (by omega)]; omega))) .nil))))) (.cons rfl (.cons rfl (.cons (eq1 (fun z1 => some (g15, g30, O.box [.d (.v (.int .i64 (widenLo b.lo (l.take j) (-9223372036854775808)))), .d (.v (.int .i64 (z1)))])) (show (9223372036854775807) = (widenHi b.hi (l.take 0) 9223372036854775807) by first | rfl | (exact widenLo_yes (by omega) c3) | (exact widenLo_no (by omega) c3) | (exact widenHi_yes (by omega) c6) | (exact widenHi_no (by omega) c6))) .nil)))) (show 0 ≤ l.length by omega)
      ·rintro ⟨i, q32⟩ hI
       have hI : i ≤ l.length := hI
       have hl9 : l.length ≤ 100 := by omega
       have hj9 := ‹j ≤ l.length›
       refine .seq ?_
       refine .seq ?_
       refine .reg (X := Unit) (fun ζ => .of [(2, .one (.d (.sl false 2 1 (List.map i64c (l))))), (4, .one (.ptr [4] (g4) 0)), (6, .one (.ptr [6] (g5) 0)), (7, .one (.ptr [7] (g15) 0)), (9, .one (.d (.v (.int .i64 ((i : Int)))))), (61, .one (.d (.v (.bool (decide ((i : Int) < (l.length : Int)))))))] [([4], (g4, g4, .box [.d (.v (.int .i64 (b.lo))), .d (.v (.int .i64 (b.hi)))])), ([6], (g5, g5, .box [.d (.v (.int .i64 (0))), .d (.v (.int .i64 (0)))])), ([7], (g15, q32, .box [.d (.v (.int .i64 (widenLo b.lo (l.take j) (-9223372036854775808)))), .d (.v (.int .i64 (widenHi b.hi (l.take i) 9223372036854775807)))]))]) [⟨[9], some 58, [], []⟩, ⟨[2], some 59, [], []⟩, ⟨[59], some 60, [], []⟩, ⟨[58, 60], some 61, [], []⟩] (fun k33 => ?_) ?_
       ·skip
        refine .move (.no rfl) rfl rfl rfl rfl ?_
        refine .move (.no rfl) rfl rfl rfl rfl ?_
        refine .len (.no rfl) rfl (z := (l.length : Int)) t27 rfl rfl rfl (.d _ _) (map_len _ _) rfl ?_
        refine .bin (.no rfl) rfl rfl rfl rfl rfl rfl ?_
        exact .fin () (.of (.cons rfl (.cons rfl (.cons rfl (.cons rfl (.cons rfl (.cons rfl .nil)))))) (.cons rfl (.cons rfl (.cons rfl .nil))))
       intro _
       refine .cond (t := decide ((i : Int) < (l.length : Int))) rfl (fun c5 => ?_) (fun c5 => ?_)
       ·have c5 := of_decide_eq_true c5
        refine .skip ?_
        refine .seq ?_
        refine .block ?_
        refine .seq ?_
        refine .regD (X := Unit) (by kernel_rfl) (fun ζ => .of [(2, .one (.d (.sl false 2 1 (List.map i64c (l))))), (4, .one (.ptr [4] (g4) 0)), (6, .one (.ptr [6] (g5) 0)), (7, .one (.ptr [7] (g15) 0)), (9, .one (.d (.v (.int .i64 ((i : Int)))))), (70, .one (.d (.v (.bool (decide ((l.getD i default) ≥ b.hi))))))] [([4], (g4, g4, .box [.d (.v (.int .i64 (b.lo))), .d (.v (.int .i64 (b.hi)))])), ([6], (g5, g5, .box [.d (.v (.int .i64 (0))), .d (.v (.int .i64 (0)))])), ([7], (g15, q32, .box [.d (.v (.int .i64 (widenLo b.lo (l.take j) (-9223372036854775808)))), .d (.v (.int .i64 (widenHi b.hi (l.take i) 9223372036854775807)))]))]) [⟨[2], some 64, [], []⟩, ⟨[9], some 65, [], []⟩, ⟨[64, 65], some 66, [], []⟩, ⟨[66], some 67, [], []⟩, ⟨[4], some 68, [], []⟩, ⟨[68], some 69, [[4]], []⟩, ⟨[67, 69], some 70, [], []⟩] (by kernel_rfl) (fun k34 => ?_) ?_
        ·skip
         refine .move (.no rfl) rfl rfl rfl rfl ?_
         refine .move (.no rfl) rfl rfl rfl rfl ?_
         refine .indexAddr (.no rfl) rfl (i) t27 rfl t2 rfl rfl rfl (.d _ _) rfl rfl rfl (map_get (by omega)) rfl rfl ?_
         refine .load (.no rfl) rfl t2 rfl rfl (.d _) rfl rfl rfl rfl ?_
         refine .fieldAddrP (.no rfl) rfl t122 rfl rfl t2 rfl rfl rfl rfl ?_
         refine .load (.no rfl) rfl t2 rfl rfl (.ptr _ _ _ _ _ rfl) rfl rfl rfl rfl ?_
         refine .bin (.no rfl) rfl rfl rfl rfl rfl rfl ?_
         exact .fin () (.of (.cons rfl (.cons rfl (.cons rfl (.cons rfl (.cons rfl (.cons rfl .nil)))))) (.cons rfl (.cons rfl (.cons rfl .nil))))
        intro _
        refine .cond (t := decide ((l.getD i default) ≥ b.hi)) rfl (fun c6 => ?_) (fun c6 => ?_)
        ·have c6 := of_decide_eq_true c6
         refine .regD (X := Nat) (by kernel_rfl) (fun ζ => .of [(2, .one (.d (.sl false 2 1 (List.map i64c (l))))), (4, .one (.ptr [4] (g4) 0)), (6, .one (.ptr [6] (g5) 0)), (7, .one (.ptr [7] (g15) 0)), (9, .one (.d (.v (.int .i64 ((i : Int))))))] [([4], (g4, g4, .box [.d (.v (.int .i64 (b.lo))), .d (.v (.int .i64 (b.hi)))])), ([6], (g5, g5, .box [.d (.v (.int .i64 (0))), .d (.v (.int .i64 (0)))])), ([7], (g15, ζ, .box [.d (.v (.int .i64 (widenLo b.lo (l.take j) (-9223372036854775808)))), .d (.v (.int .i64 (min (widenHi b.hi (l.take i) 9223372036854775807) (l.getD i default))))]))]) [⟨[7], some 71, [], []⟩, ⟨[71], some 72, [[7]], []⟩, ⟨[2], some 73, [], []⟩, ⟨[9], some 74, [], []⟩, ⟨[73, 74], some 75, [], []⟩, ⟨[75], some 76, [], []⟩, ⟨[72, 76], some 77, [], []⟩, ⟨[7], some 78, [], []⟩, ⟨[78, 77], none, [[7]], [[7]]⟩] (by kernel_rfl) (fun k35 => ?_) ?_
         ·skip
          refine .fieldAddrP (.no rfl) rfl t122 rfl rfl t2 rfl rfl rfl rfl ?_
          refine .load (.no rfl) rfl t2 rfl rfl (.ptr _ _ _ _ _ rfl) rfl rfl rfl rfl ?_
          refine .move (.no rfl) rfl rfl rfl rfl ?_
          refine .move (.no rfl) rfl rfl rfl rfl ?_
          refine .indexAddr (.no rfl) rfl (i) t27 rfl t2 rfl rfl rfl (.d _ _) rfl rfl rfl (map_get (by omega)) rfl rfl ?_
          refine .load (.no rfl) rfl t2 rfl rfl (.d _) rfl rfl rfl rfl ?_
          refine .min (.no rfl) rfl rfl rfl rfl (min_of _ _) rfl ?_
          refine .fieldAddrP (.no rfl) rfl t122 rfl rfl t2 rfl rfl rfl rfl ?_
          refine .store (.no rfl) rfl t2 rfl rfl rfl rfl rfl rfl rfl rfl rfl ?_
          exact .fin (k35 + 1 + 1 + 1 + 1 + 1 + 1 + 1 + 1) (.of (.cons rfl (.cons rfl (.cons rfl (.cons rfl (.cons rfl .nil))))) (.cons rfl (.cons rfl (.cons rfl .nil))))
         intro g36
         refine .reg (X := Unit) (fun ζ => .of [(2, .one (.d (.sl false 2 1 (List.map i64c (l))))), (4, .one (.ptr [4] (g4) 0)), (6, .one (.ptr [6] (g5) 0)), (7, .one (.ptr [7] (g15) 0)), (9, .one (.d (.v (.int .i64 (IntKind.wrap .i64 ((i : Int) + 1))))))] [([4], (g4, g4, .box [.d (.v (.int .i64 (b.lo))), .d (.v (.int .i64 (b.hi)))])), ([6], (g5, g5, .box [.d (.v (.int .i64 (0))), .d (.v (.int .i64 (0)))])), ([7], (g15, g36, .box [.d (.v (.int .i64 (widenLo b.lo (l.take j) (-9223372036854775808)))), .d (.v (.int .i64 (min (widenHi b.hi (l.take i) 9223372036854775807) (l.getD i default))))]))]) [⟨[9], some 62, [], []⟩, ⟨[62], some 63, [], []⟩, ⟨[63], some 9, [], []⟩] (fun k37 => ?_) ?_
         ·skip
          refine .move (.no rfl) rfl rfl rfl rfl ?_
          refine .bin (.no rfl) rfl rfl rfl rfl rfl rfl ?_
          refine .assign (.no rfl) rfl rfl rfl rfl ?_
          exact .fin () (.of (.cons rfl (.cons rfl (.cons rfl (.cons rfl (.cons rfl .nil))))) (.cons rfl (.cons rfl (.cons rfl .nil))))
         intro _
         exact .here ((i + 1), g36) (.of (.cons rfl (.cons rfl (.cons rfl (.cons rfl (.cons (svI (show (IntKind.wrap .i64 ((i : Int) + 1)) = (((i + 1) : Int)) by first | rfl | omega | exact wrap_le (by omega) (by omega) | (rw [wrap_le (by omega) (by omega)]; omega))) .nil))))) (.cons rfl (.cons rfl (.cons (eq1 (fun z1 => some (g15, g36, O.box [.d (.v (.int .i64 (widenLo b.lo (l.take j) (-9223372036854775808)))), .d (.v (.int .i64 (z1)))])) (show (min (widenHi b.hi (l.take i) 9223372036854775807) (l.getD i default)) = (widenHi b.hi (l.take (i + 1)) 9223372036854775807) by first | rfl | (exact widenLo_yes (by omega) c3) | (exact widenLo_no (by omega) c3) | (exact widenHi_yes (by omega) c6) | (exact widenHi_no (by omega) c6))) .nil)))) ⟨(show (i + 1) ≤ l.length by omega), (show l.length - (i + 1) < l.length - i by omega)⟩
        ·have c6 := of_decide_eq_false c6
         refine .skip ?_
         refine .reg (X := Unit) (fun ζ => .of [(2, .one (.d (.sl false 2 1 (List.map i64c (l))))), (4, .one (.ptr [4] (g4) 0)), (6, .one (.ptr [6] (g5) 0)), (7, .one (.ptr [7] (g15) 0)), (9, .one (.d (.v (.int .i64 (IntKind.wrap .i64 ((i : Int) + 1))))))] [([4], (g4, g4, .box [.d (.v (.int .i64 (b.lo))), .d (.v (.int .i64 (b.hi)))])), ([6], (g5, g5, .box [.d (.v (.int .i64 (0))), .d (.v (.int .i64 (0)))])), ([7], (g15, q32, .box [.d (.v (.int .i64 (widenLo b.lo (l.take j) (-9223372036854775808)))), .d (.v (.int .i64 (widenHi b.hi (l.take i) 9223372036854775807)))]))]) [⟨[9], some 62, [], []⟩, ⟨[62], some 63, [], []⟩, ⟨[63], some 9, [], []⟩] (fun k38 => ?_) ?_
         ·skip
          refine .move (.no rfl) rfl rfl rfl rfl ?_
          refine .bin (.no rfl) rfl rfl rfl rfl rfl rfl ?_
          refine .assign (.no rfl) rfl rfl rfl rfl ?_
          exact .fin () (.of (.cons rfl (.cons rfl (.cons rfl (.cons rfl (.cons rfl .nil))))) (.cons rfl (.cons rfl (.cons rfl .nil))))
         intro _
         exact .here ((i + 1), q32) (.of (.cons rfl (.cons rfl (.cons rfl (.cons rfl (.cons (svI (show (IntKind.wrap .i64 ((i : Int) + 1)) = (((i + 1) : Int)) by first | rfl | omega | exact wrap_le (by omega) (by omega) | (rw [wrap_le (by omega) (by omega)]; omega))) .nil))))) (.cons rfl (.cons rfl (.cons (eq1 (fun z1 => some (g15, q32, O.box [.d (.v (.int .i64 (widenLo b.lo (l.take j) (-9223372036854775808)))), .d (.v (.int .i64 (z1)))])) (show (widenHi b.hi (l.take i) 9223372036854775807) = (widenHi b.hi (l.take (i + 1)) 9223372036854775807) by first | rfl | (exact widenLo_yes (by omega) c3) | (exact widenLo_no (by omega) c3) | (exact widenHi_yes (by omega) c6) | (exact widenHi_no (by omega) c6))) .nil)))) ⟨(show (i + 1) ≤ l.length by omega), (show l.length - (i + 1) < l.length - i by omega)⟩
       ·have c5 := of_decide_eq_false c5
        refine .exit ?_
        refine .seq ?_
        refine .reg (X := Nat) (fun ζ => .of [(6, .one (.ptr [6] (g5) 0))] [([6], (g5, ζ, .box [.d (.v (.int .i64 (widenLo b.lo (l.take j) (-9223372036854775808)))), .d (.v (.int .i64 (widenHi b.hi (l.take i) 9223372036854775807)))]))]) [⟨[7], some 79, [[7]], []⟩, ⟨[6, 79], none, [[6]], [[6]]⟩] (fun k39 => ?_) ?_
        ·skip
         refine .load (.no rfl) rfl t122 rfl rfl (.ptr _ _ _ _ _ rfl) rfl rfl rfl rfl ?_
         refine .store (.no rfl) rfl t122 rfl rfl rfl rfl rfl rfl rfl rfl rfl ?_
         exact .fin (k39 + 1) (.of (.cons rfl .nil) (.cons rfl .nil))
        intro g40
        refine .ret ?_
        have e41 : (widenLo b.lo (l.take j) (-9223372036854775808)) = ((Iv.widenOk l a b).lo) := by (rw [Iv.widenOk_yes c0]; simp only [Iv.widen]; first | (rw [List.take_of_length_le (by omega), if_pos c1]; done) | (rw [List.take_of_length_le (by omega), if_pos c4]; done))
        have e42 : (widenHi b.hi (l.take i) 9223372036854775807) = ((Iv.widenOk l a b).hi) := by (rw [Iv.widenOk_yes c0]; simp only [Iv.widen]; first | (rw [List.take_of_length_le (by omega), if_pos c1]; done) | (rw [List.take_of_length_le (by omega), if_pos c4]; done))
        have hc43 := eq2 (fun z1 z2 => some (g5, g40, O.box [.d (.v (.int .i64 (z1))), .d (.v (.int .i64 (z2)))])) e41 e42
        show _ ∧ _
        exact ⟨.inr rfl, .done ⟨_, [], [], _, .cell (cells := [.d (.v (.int .i64 ((Iv.widenOk l a b).lo))), .d (.v (.int .i64 ((Iv.widenOk l a b).hi)))]) rfl hc43 t122 rfl rfl .nil, .cons (Reads.d _).gives (.cons (Reads.d _).gives .nil), nodupB_ok rfl, by simp, (by simp)⟩⟩
     ·have c4 := of_decide_eq_false c4
      refine .skip ?_
      refine .seq ?_
      refine .reg (X := Nat) (fun ζ => .of [(6, .one (.ptr [6] (g5) 0))] [([6], (g5, ζ, .box [.d (.v (.int .i64 (widenLo b.lo (l.take j) (-9223372036854775808)))), .d (.v (.int .i64 (a.hi)))]))]) [⟨[7], some 79, [[7]], []⟩, ⟨[6, 79], none, [[6]], [[6]]⟩] (fun k44 => ?_) ?_
      ·skip
       refine .load (.no rfl) rfl t122 rfl rfl (.ptr _ _ _ _ _ rfl) rfl rfl rfl rfl ?_
       refine .store (.no rfl) rfl t122 rfl rfl rfl rfl rfl rfl rfl rfl rfl ?_
       exact .fin (k44 + 1) (.of (.cons rfl .nil) (.cons rfl .nil))
      intro g45
      refine .ret ?_
      have e46 : (widenLo b.lo (l.take j) (-9223372036854775808)) = ((Iv.widenOk l a b).lo) := by (rw [Iv.widenOk_yes c0]; simp only [Iv.widen]; first | (rw [List.take_of_length_le (by omega), if_pos c1]; done) | (rw [if_neg c4]; done))
      have e47 : (a.hi) = ((Iv.widenOk l a b).hi) := by (rw [Iv.widenOk_yes c0]; simp only [Iv.widen]; first | (rw [List.take_of_length_le (by omega), if_pos c1]; done) | (rw [if_neg c4]; done))
      have hc48 := eq2 (fun z1 z2 => some (g5, g45, O.box [.d (.v (.int .i64 (z1))), .d (.v (.int .i64 (z2)))])) e46 e47
      show _ ∧ _
      exact ⟨.inr rfl, .done ⟨_, [], [], _, .cell (cells := [.d (.v (.int .i64 ((Iv.widenOk l a b).lo))), .d (.v (.int .i64 ((Iv.widenOk l a b).hi)))]) rfl hc48 t122 rfl rfl .nil, .cons (Reads.d _).gives (.cons (Reads.d _).gives .nil), nodupB_ok rfl, by simp, (by simp)⟩⟩
  ·have c1 := of_decide_eq_false c1
   refine .skip ?_
   refine .seq ?_
   refine .seq ?_
   refine .reg (X := Unit) (fun ζ => .of [(2, .one (.d (.sl false 2 1 (List.map i64c (l))))), (4, .one (.ptr [4] (g4) 0)), (6, .one (.ptr [6] (g5) 0)), (7, .one (.ptr [7] (g15) 0)), (56, .one (.d (.v (.bool (decide (b.hi > a.hi))))))] [([4], (g4, g4, .box [.d (.v (.int .i64 (b.lo))), .d (.v (.int .i64 (b.hi)))])), ([6], (g5, g5, .box [.d (.v (.int .i64 (0))), .d (.v (.int .i64 (0)))])), ([7], (g15, g16, .box [.d (.v (.int .i64 (a.lo))), .d (.v (.int .i64 (a.hi)))]))]) [⟨[4], some 52, [], []⟩, ⟨[52], some 53, [[4]], []⟩, ⟨[3], some 54, [], []⟩, ⟨[54], some 55, [[3]], []⟩, ⟨[53, 55], some 56, [], []⟩] (fun k49 => ?_) ?_
   ·skip
    refine .fieldAddrP (.no rfl) rfl t122 rfl rfl t2 rfl rfl rfl rfl ?_
    refine .load (.no rfl) rfl t2 rfl rfl (.ptr _ _ _ _ _ rfl) rfl rfl rfl rfl ?_
    refine .fieldAddrP (.no rfl) rfl t122 rfl rfl t2 rfl rfl rfl rfl ?_
    refine .load (.no rfl) rfl t2 rfl rfl (.ptr _ _ _ _ _ rfl) rfl rfl rfl rfl ?_
    refine .bin (.no rfl) rfl rfl rfl rfl rfl rfl ?_
    exact .fin () (.of (.cons rfl (.cons rfl (.cons rfl (.cons rfl (.cons rfl .nil))))) (.cons rfl (.cons rfl (.cons rfl .nil))))
   intro _
   refine .cond (t := decide (b.hi > a.hi)) rfl (fun c4 => ?_) (fun c4 => ?_)
   ·have c4 := of_decide_eq_true c4
    refine .seq ?_
    refine .reg (X := Nat) (fun ζ => .of [(2, .one (.d (.sl false 2 1 (List.map i64c (l))))), (4, .one (.ptr [4] (g4) 0)), (6, .one (.ptr [6] (g5) 0)), (7, .one (.ptr [7] (g15) 0))] [([4], (g4, g4, .box [.d (.v (.int .i64 (b.lo))), .d (.v (.int .i64 (b.hi)))])), ([6], (g5, g5, .box [.d (.v (.int .i64 (0))), .d (.v (.int .i64 (0)))])), ([7], (g15, ζ, .box [.d (.v (.int .i64 (a.lo))), .d (.v (.int .i64 (9223372036854775807)))]))]) [⟨[7], some 57, [], []⟩, ⟨[57], none, [[7]], [[7]]⟩] (fun k50 => ?_) ?_
    ·skip
     refine .fieldAddrP (.no rfl) rfl t122 rfl rfl t2 rfl rfl rfl rfl ?_
     refine .store (.no rfl) rfl t2 rfl rfl rfl rfl rfl rfl rfl rfl rfl ?_
     exact .fin (k50 + 1) (.of (.cons rfl (.cons rfl (.cons rfl (.cons rfl .nil)))) (.cons rfl (.cons rfl (.cons rfl .nil))))
    intro g51
    refine .seq ?_
    refine .reg (X := Unit) (fun ζ => .of [(2, .one (.d (.sl false 2 1 (List.map i64c (l))))), (4, .one (.ptr [4] (g4) 0)), (6, .one (.ptr [6] (g5) 0)), (7, .one (.ptr [7] (g15) 0)), (9, .one (.d (.v (.int .i64 (0)))))] [([4], (g4, g4, .box [.d (.v (.int .i64 (b.lo))), .d (.v (.int .i64 (b.hi)))])), ([6], (g5, g5, .box [.d (.v (.int .i64 (0))), .d (.v (.int .i64 (0)))])), ([7], (g15, g51, .box [.d (.v (.int .i64 (a.lo))), .d (.v (.int .i64 (9223372036854775807)))]))]) [⟨[], some 9, [], []⟩] (fun k52 => ?_) ?_
    ·skip
     refine .assign (.no rfl) rfl rfl rfl rfl ?_
     exact .fin () (.of (.cons rfl (.cons rfl (.cons rfl (.cons rfl (.cons rfl .nil))))) (.cons rfl (.cons rfl (.cons rfl .nil))))
    intro _
    refine .block ?_
    refine .loop (X := Nat × Nat) (fun ζ => .of [(2, .one (.d (.sl false 2 1 (List.map i64c (l))))), (4, .one (.ptr [4] (g4) 0)), (6, .one (.ptr [6] (g5) 0)), (7, .one (.ptr [7] (g15) 0)), (9, .one (.d (.v (.int .i64 ((ζ.1 : Int))))))] [([4], (g4, g4, .box [.d (.v (.int .i64 (b.lo))), .d (.v (.int .i64 (b.hi)))])), ([6], (g5, g5, .box [.d (.v (.int .i64 (0))), .d (.v (.int .i64 (0)))])), ([7], (g15, ζ.2, .box [.d (.v (.int .i64 (a.lo))), .d (.v (.int .i64 (widenHi b.hi (l.take ζ.1) 9223372036854775807)))]))]) (fun ζ => ζ.1 ≤ l.length) (fun ζ => l.length - ζ.1) ?_ ?_
    ·skip
     exact .here (0, g51) (.of (.cons rfl (.cons rfl (.cons rfl (.cons rfl (.cons (svI (show (0) = ((0 : Int)) by first | rfl | omega | exact wrap_le (by omega) (by omega) | (rw [wrap_le (by omega) (by omega)]; omega))) .nil))))) (.cons rfl (.cons rfl (.cons (eq1 (fun z1 => some (g15, g51, O.box [.d (.v (.int .i64 (a.lo))), .d (.v (.int .i64 (z1)))])) (show (9223372036854775807) = (widenHi b.hi (l.take 0) 9223372036854775807) by first | rfl | (exact widenLo_yes (by omega) c3) | (exact widenLo_no (by omega) c3) | (exact widenHi_yes (by omega) c6) | (exact widenHi_no (by omega) c6))) .nil)))) (show 0 ≤ l.length by omega)
    ·rintro ⟨i, q53⟩ hI
     have hI : i ≤ l.length := hI
     have hl9 : l.length ≤ 100 := by omega
     refine .seq ?_
     refine .seq ?_
     refine .reg (X := Unit) (fun ζ => .of [(2, .one (.d (.sl false 2 1 (List.map i64c (l))))), (4, .one (.ptr [4] (g4) 0)), (6, .one (.ptr [6] (g5) 0)), (7, .one (.ptr [7] (g15) 0)), (9, .one (.d (.v (.int .i64 ((i : Int)))))), (61, .one (.d (.v (.bool (decide ((i : Int) < (l.length : Int)))))))] [([4], (g4, g4, .box [.d (.v (.int .i64 (b.lo))), .d (.v (.int .i64 (b.hi)))])), ([6], (g5, g5, .box [.d (.v (.int .i64 (0))), .d (.v (.int .i64 (0)))])), ([7], (g15, q53, .box [.d (.v (.int .i64 (a.lo))), .d (.v (.int .i64 (widenHi b.hi (l.take i) 9223372036854775807)))]))]) [⟨[9], some 58, [], []⟩, ⟨[2], some 59, [], []⟩, ⟨[59], some 60, [], []⟩, ⟨[58, 60], some 61, [], []⟩] (fun k54 => ?_) ?_
     ·skip
      refine .move (.no rfl) rfl rfl rfl rfl ?_
      refine .move (.no rfl) rfl rfl rfl rfl ?_
      refine .len (.no rfl) rfl (z := (l.length : Int)) t27 rfl rfl rfl (.d _ _) (map_len _ _) rfl ?_
      refine .bin (.no rfl) rfl rfl rfl rfl rfl rfl ?_
      exact .fin () (.of (.cons rfl (.cons rfl (.cons rfl (.cons rfl (.cons rfl (.cons rfl .nil)))))) (.cons rfl (.cons rfl (.cons rfl .nil))))
     intro _
     refine .cond (t := decide ((i : Int) < (l.length : Int))) rfl (fun c5 => ?_) (fun c5 => ?_)
     ·have c5 := of_decide_eq_true c5
      refine .skip ?_
      refine .seq ?_
      refine .block ?_
      refine .seq ?_
      refine .regD (X := Unit) (by kernel_rfl) (fun ζ => .of [(2, .one (.d (.sl false 2 1 (List.map i64c (l))))), (4, .one (.ptr [4] (g4) 0)), (6, .one (.ptr [6] (g5) 0)), (7, .one (.ptr [7] (g15) 0)), (9, .one (.d (.v (.int .i64 ((i : Int)))))), (70, .one (.d (.v (.bool (decide ((l.getD i default) ≥ b.hi))))))] [([4], (g4, g4, .box [.d (.v (.int .i64 (b.lo))), .d (.v (.int .i64 (b.hi)))])), ([6], (g5, g5, .box [.d (.v (.int .i64 (0))), .d (.v (.int .i64 (0)))])), ([7], (g15, q53, .box [.d (.v (.int .i64 (a.lo))), .d (.v (.int .i64 (widenHi b.hi (l.take i) 9223372036854775807)))]))]) [⟨[2], some 64, [], []⟩, ⟨[9], some 65, [], []⟩, ⟨[64, 65], some 66, [], []⟩, ⟨[66], some 67, [], []⟩, ⟨[4], some 68, [], []⟩, ⟨[68], some 69, [[4]], []⟩, ⟨[67, 69], some 70, [], []⟩] (by kernel_rfl) (fun k55 => ?_) ?_
      ·skip
       refine .move (.no rfl) rfl rfl rfl rfl ?_
       refine .move (.no rfl) rfl rfl rfl rfl ?_
       refine .indexAddr (.no rfl) rfl (i) t27 rfl t2 rfl rfl rfl (.d _ _) rfl rfl rfl (map_get (by omega)) rfl rfl ?_
       refine .load (.no rfl) rfl t2 rfl rfl (.d _) rfl rfl rfl rfl ?_
       refine .fieldAddrP (.no rfl) rfl t122 rfl rfl t2 rfl rfl rfl rfl ?_
       refine .load (.no rfl) rfl t2 rfl rfl (.ptr _ _ _ _ _ rfl) rfl rfl rfl rfl ?_
       refine .bin (.no rfl) rfl rfl rfl rfl rfl rfl ?_
       exact .fin () (.of (.cons rfl (.cons rfl (.cons rfl (.cons rfl (.cons rfl (.cons rfl .nil)))))) (.cons rfl (.cons rfl (.cons rfl .nil))))
      intro _
      refine .cond (t := decide ((l.getD i default) ≥ b.hi)) rfl (fun c6 => ?_) (fun c6 => ?_)
      ·have c6 := of_decide_eq_true c6
       refine .regD (X := Nat) (by kernel_rfl) (fun ζ => .of [(2, .one (.d (.sl false 2 1 (List.map i64c (l))))), (4, .one (.ptr [4] (g4) 0)), (6, .one (.ptr [6] (g5) 0)), (7, .one (.ptr [7] (g15) 0)), (9, .one (.d (.v (.int .i64 ((i : Int))))))] [([4], (g4, g4, .box [.d (.v (.int .i64 (b.lo))), .d (.v (.int .i64 (b.hi)))])), ([6], (g5, g5, .box [.d (.v (.int .i64 (0))), .d (.v (.int .i64 (0)))])), ([7], (g15, ζ, .box [.d (.v (.int .i64 (a.lo))), .d (.v (.int .i64 (min (widenHi b.hi (l.take i) 9223372036854775807) (l.getD i default))))]))]) [⟨[7], some 71, [], []⟩, ⟨[71], some 72, [[7]], []⟩, ⟨[2], some 73, [], []⟩, ⟨[9], some 74, [], []⟩, ⟨[73, 74], some 75, [], []⟩, ⟨[75], some 76, [], []⟩, ⟨[72, 76], some 77, [], []⟩, ⟨[7], some 78, [], []⟩, ⟨[78, 77], none, [[7]], [[7]]⟩] (by kernel_rfl) (fun k56 => ?_) ?_
       ·skip
        refine .fieldAddrP (.no rfl) rfl t122 rfl rfl t2 rfl rfl rfl rfl ?_
        refine .load (.no rfl) rfl t2 rfl rfl (.ptr _ _ _ _ _ rfl) rfl rfl rfl rfl ?_
        refine .move (.no rfl) rfl rfl rfl rfl ?_
        refine .move (.no rfl) rfl rfl rfl rfl ?_
        refine .indexAddr (.no rfl) rfl (i) t27 rfl t2 rfl rfl rfl (.d _ _) rfl rfl rfl (map_get (by omega)) rfl rfl ?_
        refine .load (.no rfl) rfl t2 rfl rfl (.d _) rfl rfl rfl rfl ?_
        refine .min (.no rfl) rfl rfl rfl rfl (min_of _ _) rfl ?_
        refine .fieldAddrP (.no rfl) rfl t122 rfl rfl t2 rfl rfl rfl rfl ?_
        refine .store (.no rfl) rfl t2 rfl rfl rfl rfl rfl rfl rfl rfl rfl ?_
        exact .fin (k56 + 1 + 1 + 1 + 1 + 1 + 1 + 1 + 1) (.of (.cons rfl (.cons rfl (.cons rfl (.cons rfl (.cons rfl .nil))))) (.cons rfl (.cons rfl (.cons rfl .nil))))
       intro g57
       refine .reg (X := Unit) (fun ζ => .of [(2, .one (.d (.sl false 2 1 (List.map i64c (l))))), (4, .one (.ptr [4] (g4) 0)), (6, .one (.ptr [6] (g5) 0)), (7, .one (.ptr [7] (g15) 0)), (9, .one (.d (.v (.int .i64 (IntKind.wrap .i64 ((i : Int) + 1))))))] [([4], (g4, g4, .box [.d (.v (.int .i64 (b.lo))), .d (.v (.int .i64 (b.hi)))])), ([6], (g5, g5, .box [.d (.v (.int .i64 (0))), .d (.v (.int .i64 (0)))])), ([7], (g15, g57, .box [.d (.v (.int .i64 (a.lo))), .d (.v (.int .i64 (min (widenHi b.hi (l.take i) 9223372036854775807) (l.getD i default))))]))]) [⟨[9], some 62, [], []⟩, ⟨[62], some 63, [], []⟩, ⟨[63], some 9, [], []⟩] (fun k58 => ?_) ?_
       ·skip
        refine .move (.no rfl) rfl rfl rfl rfl ?_
        refine .bin (.no rfl) rfl rfl rfl rfl rfl rfl ?_
        refine .assign (.no rfl) rfl rfl rfl rfl ?_
        exact .fin () (.of (.cons rfl (.cons rfl (.cons rfl (.cons rfl (.cons rfl .nil))))) (.cons rfl (.cons rfl (.cons rfl .nil))))
       intro _
       exact .here ((i + 1), g57) (.of (.cons rfl (.cons rfl (.cons rfl (.cons rfl (.cons (svI (show (IntKind.wrap .i64 ((i : Int) + 1)) = (((i + 1) : Int)) by first | rfl | omega | exact wrap_le (by omega) (by omega) | (rw [wrap_le (by omega) (by omega)]; omega))) .nil))))) (.cons rfl (.cons rfl (.cons (eq1 (fun z1 => some (g15, g57, O.box [.d (.v (.int .i64 (a.lo))), .d (.v (.int .i64 (z1)))])) (show (min (widenHi b.hi (l.take i) 9223372036854775807) (l.getD i default)) = (widenHi b.hi (l.take (i + 1)) 9223372036854775807) by first | rfl | (exact widenLo_yes (by omega) c3) | (exact widenLo_no (by omega) c3) | (exact widenHi_yes (by omega) c6) | (exact widenHi_no (by omega) c6))) .nil)))) ⟨(show (i + 1) ≤ l.length by omega), (show l.length - (i + 1) < l.length - i by omega)⟩
      ·have c6 := of_decide_eq_false c6
       refine .skip ?_
       refine .reg (X := Unit) (fun ζ => .of [(2, .one (.d (.sl false 2 1 (List.map i64c (l))))), (4, .one (.ptr [4] (g4) 0)), (6, .one (.ptr [6] (g5) 0)), (7, .one (.ptr [7] (g15) 0)), (9, .one (.d (.v (.int .i64 (IntKind.wrap .i64 ((i : Int) + 1))))))] [([4], (g4, g4, .box [.d (.v (.int .i64 (b.lo))), .d (.v (.int .i64 (b.hi)))])), ([6], (g5, g5, .box [.d (.v (.int .i64 (0))), .d (.v (.int .i64 (0)))])), ([7], (g15, q53, .box [.d (.v (.int .i64 (a.lo))), .d (.v (.int .i64 (widenHi b.hi (l.take i) 9223372036854775807)))]))]) [⟨[9], some 62, [], []⟩, ⟨[62], some 63, [], []⟩, ⟨[63], some 9, [], []⟩] (fun k59 => ?_) ?_
       ·skip
        refine .move (.no rfl) rfl rfl rfl rfl ?_
        refine .bin (.no rfl) rfl rfl rfl rfl rfl rfl ?_
        refine .assign (.no rfl) rfl rfl rfl rfl ?_
        exact .fin () (.of (.cons rfl (.cons rfl (.cons rfl (.cons rfl (.cons rfl .nil))))) (.cons rfl (.cons rfl (.cons rfl .nil))))
       intro _
       exact .here ((i + 1), q53) (.of (.cons rfl (.cons rfl (.cons rfl (.cons rfl (.cons (svI (show (IntKind.wrap .i64 ((i : Int) + 1)) = (((i + 1) : Int)) by first | rfl | omega | exact wrap_le (by omega) (by omega) | (rw [wrap_le (by omega) (by omega)]; omega))) .nil))))) (.cons rfl (.cons rfl (.cons (eq1 (fun z1 => some (g15, q53, O.box [.d (.v (.int .i64 (a.lo))), .d (.v (.int .i64 (z1)))])) (show (widenHi b.hi (l.take i) 9223372036854775807) = (widenHi b.hi (l.take (i + 1)) 9223372036854775807) by first | rfl | (exact widenLo_yes (by omega) c3) | (exact widenLo_no (by omega) c3) | (exact widenHi_yes (by omega) c6) | (exact widenHi_no (by omega) c6))) .nil)))) ⟨(show (i + 1) ≤ l.length by omega), (show l.length - (i + 1) < l.length - i by omega)⟩
     ·have c5 := of_decide_eq_false c5
      refine .exit ?_
      refine .seq ?_
      refine .reg (X := Nat) (fun ζ => .of [(6, .one (.ptr [6] (g5) 0))] [([6], (g5, ζ, .box [.d (.v (.int .i64 (a.lo))), .d (.v (.int .i64 (widenHi b.hi (l.take i) 9223372036854775807)))]))]) [⟨[7], some 79, [[7]], []⟩, ⟨[6, 79], none, [[6]], [[6]]⟩] (fun k60 => ?_) ?_
      ·skip
       refine .load (.no rfl) rfl t122 rfl rfl (.ptr _ _ _ _ _ rfl) rfl rfl rfl rfl ?_
       refine .store (.no rfl) rfl t122 rfl rfl rfl rfl rfl rfl rfl rfl rfl ?_
       exact .fin (k60 + 1) (.of (.cons rfl .nil) (.cons rfl .nil))
      intro g61
      refine .ret ?_
      have e62 : (a.lo) = ((Iv.widenOk l a b).lo) := by (rw [Iv.widenOk_yes c0]; simp only [Iv.widen]; first | (rw [if_neg c1]; done) | (rw [List.take_of_length_le (by omega), if_pos c4]; done))
      have e63 : (widenHi b.hi (l.take i) 9223372036854775807) = ((Iv.widenOk l a b).hi) := by (rw [Iv.widenOk_yes c0]; simp only [Iv.widen]; first | (rw [if_neg c1]; done) | (rw [List.take_of_length_le (by omega), if_pos c4]; done))
      have hc64 := eq2 (fun z1 z2 => some (g5, g61, O.box [.d (.v (.int .i64 (z1))), .d (.v (.int .i64 (z2)))])) e62 e63
      show _ ∧ _
      exact ⟨.inr rfl, .done ⟨_, [], [], _, .cell (cells := [.d (.v (.int .i64 ((Iv.widenOk l a b).lo))), .d (.v (.int .i64 ((Iv.widenOk l a b).hi)))]) rfl hc64 t122 rfl rfl .nil, .cons (Reads.d _).gives (.cons (Reads.d _).gives .nil), nodupB_ok rfl, by simp, (by simp)⟩⟩
   ·have c4 := of_decide_eq_false c4
    refine .skip ?_
    refine .seq ?_
    refine .reg (X := Nat) (fun ζ => .of [(6, .one (.ptr [6] (g5) 0))] [([6], (g5, ζ, .box [.d (.v (.int .i64 (a.lo))), .d (.v (.int .i64 (a.hi)))]))]) [⟨[7], some 79, [[7]], []⟩, ⟨[6, 79], none, [[6]], [[6]]⟩] (fun k65 => ?_) ?_
    ·skip
     refine .load (.no rfl) rfl t122 rfl rfl (.ptr _ _ _ _ _ rfl) rfl rfl rfl rfl ?_
     refine .store (.no rfl) rfl t122 rfl rfl rfl rfl rfl rfl rfl rfl rfl ?_
     exact .fin (k65 + 1) (.of (.cons rfl .nil) (.cons rfl .nil))
    intro g66
    refine .ret ?_
    have e67 : (a.lo) = ((Iv.widenOk l a b).lo) := by (rw [Iv.widenOk_yes c0]; simp only [Iv.widen]; first | (rw [if_neg c1]; done) | (rw [if_neg c4]; done))
    have e68 : (a.hi) = ((Iv.widenOk l a b).hi) := by (rw [Iv.widenOk_yes c0]; simp only [Iv.widen]; first | (rw [if_neg c1]; done) | (rw [if_neg c4]; done))
    have hc69 := eq2 (fun z1 z2 => some (g5, g66, O.box [.d (.v (.int .i64 (z1))), .d (.v (.int .i64 (z2)))])) e67 e68
    show _ ∧ _
    exact ⟨.inr rfl, .done ⟨_, [], [], _, .cell (cells := [.d (.v (.int .i64 ((Iv.widenOk l a b).lo))), .d (.v (.int .i64 ((Iv.widenOk l a b).hi)))]) rfl hc69 t122 rfl rfl .nil, .cons (Reads.d _).gives (.cons (Reads.d _).gives .nil), nodupB_ok rfl, by simp, (by simp)⟩⟩
theorem c_IvWiden (a : Iv) (b : Iv) (l : List Int) : Trip Tryz.prog 110 [(true, 2), (true, 2), (false, 1)] (Iv.c a ++ Iv.c b ++ [.sl false 2 1 (List.map i64c (l))]) [(true, 2)] [.v (.int .i64 ((Iv.widenOk l a b).lo)), .v (.int .i64 ((Iv.widenOk l a b).hi))] [] := by
 refine Trip.of Tryz.func110 (by decide) (c := _) rfl rfl (shB_ok rfl) (Nat.le_of_ble_eq_true rfl) rfl (AftOk.nil _) ?_
 refine .sat (t := 2) rfl (fun hs1 => ?_)
 have hs1l : l.length ≤ 9223372036854775807 := hs1.maplen
 refine .seq ?_
 refine .reg (X := Nat × Nat × Nat) (fun ζ => .of [(2, .one (.d (.sl false 2 1 (List.map i64c (l))))), (3, .one (.ptr [3] (ζ.1) 0)), (4, .one (.ptr [4] (ζ.2.1) 0)), (6, .one (.ptr [6] (ζ.2.2) 0))] [([3], (ζ.1, ζ.1, .box [.d (.v (.int .i64 (a.lo))), .d (.v (.int .i64 (a.hi)))])), ([4], (ζ.2.1, ζ.2.1, .box [.d (.v (.int .i64 (b.lo))), .d (.v (.int .i64 (b.hi)))])), ([6], (ζ.2.2, ζ.2.2, .box [.d (.v (.int .i64 (0))), .d (.v (.int .i64 (0)))]))]) [⟨[0], some 3, [], [[3]]⟩, ⟨[1], some 4, [], [[4]]⟩, ⟨[], some 6, [], [[6]]⟩] (fun k2 => ?_) ?_
 ·skip
  refine .box (.no rfl) rfl rfl rfl rfl rfl ?_
  refine .box (.no rfl) rfl rfl rfl rfl rfl ?_
  refine .alloc (.no rfl) rfl z122 rfl rfl rfl ?_
  exact .fin (k2, k2 + 1, k2 + 1 + 1) (.of (.cons rfl (.cons rfl (.cons rfl (.cons rfl .nil)))) (.cons rfl (.cons rfl (.cons rfl .nil))))
 rintro ⟨g3, g4, g5⟩
 refine .seq ?_
 refine .seq ?_
 refine .reg (X := Unit) (fun ζ => .of [(2, .one (.d (.sl false 2 1 (List.map i64c (l))))), (3, .one (.ptr [3] (g3) 0)), (4, .one (.ptr [4] (g4) 0)), (6, .one (.ptr [6] (g5) 0)), (20, .one (.d (.v (.bool ((!(Iv.ok a && Iv.ok b) || decide ((l.length : Int) > 100)))))))] [([3], (g3, g3, .box [.d (.v (.int .i64 (a.lo))), .d (.v (.int .i64 (a.hi)))])), ([4], (g4, g4, .box [.d (.v (.int .i64 (b.lo))), .d (.v (.int .i64 (b.hi)))])), ([6], (g5, g5, .box [.d (.v (.int .i64 (0))), .d (.v (.int .i64 (0)))]))]) [⟨[3], some 12, [[3]], []⟩, ⟨[4], some 13, [[4]], []⟩, ⟨[12, 13], some 14, [], []⟩, ⟨[14], some 15, [], []⟩, ⟨[15], some 16, [], []⟩, ⟨[16, 2], some 17, [], []⟩, ⟨[16, 17], some 18, [], []⟩, ⟨[16, 18], some 19, [], []⟩, ⟨[16, 19], some 20, [], []⟩] (fun k6 => ?_) ?_
 ·skip
  refine .load (.no rfl) rfl t122 rfl rfl (.ptr _ _ _ _ _ rfl) rfl rfl rfl rfl ?_
  refine .load (.no rfl) rfl t122 rfl rfl (.ptr _ _ _ _ _ rfl) rfl rfl rfl rfl ?_
  refine .call (.no rfl) rfl [] [] (c_areIvs a b) rfl rfl rfl rfl rfl (.cons (Reads.d _).gives (.cons (Reads.d _).gives (.cons (Reads.d _).gives (.cons (Reads.d _).gives .nil)))) rfl rfl (fun h => absurd rfl h) (.own [14, 0] .nil) (.nil) rfl rfl rfl (by simp) rfl rfl rfl ?_
  refine .un (.no rfl) rfl rfl rfl rfl rfl ?_
  refine .moveB (.no rfl) rfl rfl rfl rfl fun b7 g1_4 => ?_
  cases b7
  ·skip
   refine .move (.on rfl rfl rfl rfl rfl) rfl rfl rfl rfl ?_
   refine .len (.on rfl rfl rfl rfl rfl) rfl (z := (l.length : Int)) t27 rfl rfl rfl (.d _ _) (map_len _ _) rfl ?_
   refine .bin (.on rfl rfl rfl rfl rfl) rfl rfl rfl rfl rfl rfl ?_
   refine .pick (.no rfl) rfl rfl rfl rfl rfl ?_
   exact .fin () (.of (.cons rfl (.cons rfl (.cons rfl (.cons rfl (.cons (svB (show (decide ((l.length : Int) > 100)) = ((!(Iv.ok a && Iv.ok b) || decide ((l.length : Int) > 100))) by first | (simp only [g1_4, Bool.true_or, Bool.false_or, Bool.true_and, Bool.false_and, Bool.not_true, Bool.not_false]; done) | simp [g1_4])) .nil))))) (.cons rfl (.cons rfl (.cons rfl .nil))))
  ·skip
   refine .off rfl rfl rfl rfl rfl rfl rfl ?_
   refine .off rfl rfl rfl rfl rfl rfl rfl ?_
   refine .off rfl rfl rfl rfl rfl rfl rfl ?_
   refine .pick (.no rfl) rfl rfl rfl rfl rfl ?_
   exact .fin () (.of (.cons rfl (.cons rfl (.cons rfl (.cons rfl (.cons (svB (show (true) = ((!(Iv.ok a && Iv.ok b) || decide ((l.length : Int) > 100))) by first | (simp only [g1_4, Bool.true_or, Bool.false_or, Bool.true_and, Bool.false_and, Bool.not_true, Bool.not_false]; done) | simp [g1_4])) .nil))))) (.cons rfl (.cons rfl (.cons rfl .nil))))
 intro _
 refine .cond (t := (!(Iv.ok a && Iv.ok b) || decide ((l.length : Int) > 100))) rfl (fun c0 => ?_) (fun c0 => ?_)
 ·have c0 := c0
  try simp only [Bool.or_eq_true, Bool.or_eq_false_iff, Bool.and_eq_true, Bool.and_eq_false_iff, decide_eq_true_eq, decide_eq_false_iff_not, Bool.not_eq_true', Bool.not_eq_false', bne_iff_ne, beq_iff_eq, bne_eq_false_iff_eq, beq_eq_false_iff_ne, ne_eq, Bool.not_eq_eq_eq_not, Bool.not_true, Bool.not_false] at c0
  refine .seq ?_
  refine .reg (X := Nat) (fun ζ => .of [(6, .one (.ptr [6] (g5) 0))] [([6], (g5, ζ, .box [.d (.v (.int .i64 (0))), .d (.v (.int .i64 (0)))]))]) [⟨[], some 21, [], []⟩, ⟨[6, 21], none, [[6]], [[6]]⟩] (fun k8 => ?_) ?_
  ·skip
   refine .build (.no rfl) rfl z122 rfl p122 rfl rfl rfl rfl ?_
   refine .store (.no rfl) rfl t122 rfl rfl rfl rfl rfl rfl rfl rfl rfl ?_
   exact .fin (k8 + 1) (.of (.cons rfl .nil) (.cons rfl .nil))
  intro g9
  refine .ret ?_
  have e10 : (0) = ((Iv.widenOk l a b).lo) := by (rw [Iv.widenOk_no c0])
  have e11 : (0) = ((Iv.widenOk l a b).hi) := by (rw [Iv.widenOk_no c0])
  have hc12 := eq2 (fun z1 z2 => some (g5, g9, O.box [.d (.v (.int .i64 (z1))), .d (.v (.int .i64 (z2)))])) e10 e11
  show _ ∧ _
  exact ⟨.inr rfl, .done ⟨_, [], [], _, .cell (cells := [.d (.v (.int .i64 ((Iv.widenOk l a b).lo))), .d (.v (.int .i64 ((Iv.widenOk l a b).hi)))]) rfl hc12 t122 rfl rfl .nil, .cons (Reads.d _).gives (.cons (Reads.d _).gives .nil), nodupB_ok rfl, by simp, (by simp)⟩⟩
 ·have c0 := c0
  try simp only [Bool.or_eq_true, Bool.or_eq_false_iff, Bool.and_eq_true, Bool.and_eq_false_iff, decide_eq_true_eq, decide_eq_false_iff_not, Bool.not_eq_true', Bool.not_eq_false', bne_iff_ne, beq_iff_eq, bne_eq_false_iff_eq, beq_eq_false_iff_ne, ne_eq, Bool.not_eq_eq_eq_not, Bool.not_true, Bool.not_false] at c0
  refine .skip ?_
  refine .seq ?_
  refine .reg (X := Nat × Nat) (fun ζ => .of [(2, .one (.d (.sl false 2 1 (List.map i64c (l))))), (3, .one (.ptr [3] (g3) 0)), (4, .one (.ptr [4] (g4) 0)), (6, .one (.ptr [6] (g5) 0)), (7, .one (.ptr [7] (ζ.1) 0))] [([3], (g3, g3, .box [.d (.v (.int .i64 (a.lo))), .d (.v (.int .i64 (a.hi)))])), ([4], (g4, g4, .box [.d (.v (.int .i64 (b.lo))), .d (.v (.int .i64 (b.hi)))])), ([6], (g5, g5, .box [.d (.v (.int .i64 (0))), .d (.v (.int .i64 (0)))])), ([7], (ζ.1, ζ.2, .box [.d (.v (.int .i64 (a.lo))), .d (.v (.int .i64 (a.hi)))]))]) [⟨[3], some 22, [[3]], []⟩, ⟨[], some 7, [], [[7]]⟩, ⟨[7, 22], none, [[7]], [[7]]⟩] (fun k13 => ?_) ?_
  ·skip
   refine .load (.no rfl) rfl t122 rfl rfl (.ptr _ _ _ _ _ rfl) rfl rfl rfl rfl ?_
   refine .alloc (.no rfl) rfl z122 rfl rfl rfl ?_
   refine .store (.no rfl) rfl t122 rfl rfl rfl rfl rfl rfl rfl rfl rfl ?_
   exact .fin (k13 + 1, k13 + 1 + 1) (.of (.cons rfl (.cons rfl (.cons rfl (.cons rfl (.cons rfl .nil))))) (.cons rfl (.cons rfl (.cons rfl (.cons rfl .nil)))))
  rintro ⟨g14, g15⟩
  refine .seq ?_
  refine .seq ?_
  refine .reg (X := Unit) (fun ζ => .of [(2, .one (.d (.sl false 2 1 (List.map i64c (l))))), (3, .one (.ptr [3] (g3) 0)), (4, .one (.ptr [4] (g4) 0)), (6, .one (.ptr [6] (g5) 0)), (7, .one (.ptr [7] (g14) 0)), (27, .one (.d (.v (.bool (decide (b.lo < a.lo))))))] [([3], (g3, g3, .box [.d (.v (.int .i64 (a.lo))), .d (.v (.int .i64 (a.hi)))])), ([4], (g4, g4, .box [.d (.v (.int .i64 (b.lo))), .d (.v (.int .i64 (b.hi)))])), ([6], (g5, g5, .box [.d (.v (.int .i64 (0))), .d (.v (.int .i64 (0)))])), ([7], (g14, g15, .box [.d (.v (.int .i64 (a.lo))), .d (.v (.int .i64 (a.hi)))]))]) [⟨[4], some 23, [], []⟩, ⟨[23], some 24, [[4]], []⟩, ⟨[3], some 25, [], []⟩, ⟨[25], some 26, [[3]], []⟩, ⟨[24, 26], some 27, [], []⟩] (fun k16 => ?_) ?_
  ·skip
   refine .fieldAddrP (.no rfl) rfl t122 rfl rfl t2 rfl rfl rfl rfl ?_
   refine .load (.no rfl) rfl t2 rfl rfl (.ptr _ _ _ _ _ rfl) rfl rfl rfl rfl ?_
   refine .fieldAddrP (.no rfl) rfl t122 rfl rfl t2 rfl rfl rfl rfl ?_
   refine .load (.no rfl) rfl t2 rfl rfl (.ptr _ _ _ _ _ rfl) rfl rfl rfl rfl ?_
   refine .bin (.no rfl) rfl rfl rfl rfl rfl rfl ?_
   exact .fin () (.of (.cons rfl (.cons rfl (.cons rfl (.cons rfl (.cons rfl (.cons rfl .nil)))))) (.cons rfl (.cons rfl (.cons rfl (.cons rfl .nil)))))
  intro _
  refine .cond (t := decide (b.lo < a.lo)) rfl (fun c1 => ?_) (fun c1 => ?_)
  ·have c1 := of_decide_eq_true c1
   refine .seq ?_
   refine .reg (X := Nat) (fun ζ => .of [(2, .one (.d (.sl false 2 1 (List.map i64c (l))))), (3, .one (.ptr [3] (g3) 0)), (4, .one (.ptr [4] (g4) 0)), (6, .one (.ptr [6] (g5) 0)), (7, .one (.ptr [7] (g14) 0))] [([3], (g3, g3, .box [.d (.v (.int .i64 (a.lo))), .d (.v (.int .i64 (a.hi)))])), ([4], (g4, g4, .box [.d (.v (.int .i64 (b.lo))), .d (.v (.int .i64 (b.hi)))])), ([6], (g5, g5, .box [.d (.v (.int .i64 (0))), .d (.v (.int .i64 (0)))])), ([7], (g14, ζ, .box [.d (.v (.int .i64 (-9223372036854775808))), .d (.v (.int .i64 (a.hi)))]))]) [⟨[7], some 28, [], []⟩, ⟨[28], none, [[7]], [[7]]⟩] (fun k17 => ?_) ?_
   ·skip
    refine .fieldAddrP (.no rfl) rfl t122 rfl rfl t2 rfl rfl rfl rfl ?_
    refine .store (.no rfl) rfl t2 rfl rfl rfl rfl rfl rfl rfl rfl rfl ?_
    exact .fin (k17 + 1) (.of (.cons rfl (.cons rfl (.cons rfl (.cons rfl (.cons rfl .nil))))) (.cons rfl (.cons rfl (.cons rfl (.cons rfl .nil)))))
   intro g18
   refine .seq ?_
   refine .reg (X := Unit) (fun ζ => .of [(2, .one (.d (.sl false 2 1 (List.map i64c (l))))), (3, .one (.ptr [3] (g3) 0)), (4, .one (.ptr [4] (g4) 0)), (6, .one (.ptr [6] (g5) 0)), (7, .one (.ptr [7] (g14) 0)), (29, .one (.d (.sl false 2 1 (List.map i64c (l))))), (30, .one (.d (.v (.int .i64 ((l.length : Int)))))), (31, .one (.d (.v (.int .i64 (0)))))] [([3], (g3, g3, .box [.d (.v (.int .i64 (a.lo))), .d (.v (.int .i64 (a.hi)))])), ([4], (g4, g4, .box [.d (.v (.int .i64 (b.lo))), .d (.v (.int .i64 (b.hi)))])), ([6], (g5, g5, .box [.d (.v (.int .i64 (0))), .d (.v (.int .i64 (0)))])), ([7], (g14, g18, .box [.d (.v (.int .i64 (-9223372036854775808))), .d (.v (.int .i64 (a.hi)))]))]) [⟨[2], some 29, [], []⟩, ⟨[29], some 30, [], []⟩, ⟨[], some 31, [], []⟩] (fun k19 => ?_) ?_
   ·skip
    refine .move (.no rfl) rfl rfl rfl rfl ?_
    refine .len (.no rfl) rfl (z := (l.length : Int)) t27 rfl rfl rfl (.d _ _) (map_len _ _) rfl ?_
    refine .move (.no rfl) rfl rfl rfl rfl ?_
    exact .fin () (.of (.cons rfl (.cons rfl (.cons rfl (.cons rfl (.cons rfl (.cons rfl (.cons rfl (.cons rfl .nil)))))))) (.cons rfl (.cons rfl (.cons rfl (.cons rfl .nil)))))
   intro _
   refine .block ?_
   refine .loop (X := Nat × Nat) (fun ζ => .of [(2, .one (.d (.sl false 2 1 (List.map i64c (l))))), (3, .one (.ptr [3] (g3) 0)), (4, .one (.ptr [4] (g4) 0)), (6, .one (.ptr [6] (g5) 0)), (7, .one (.ptr [7] (g14) 0)), (29, .one (.d (.sl false 2 1 (List.map i64c (l))))), (30, .one (.d (.v (.int .i64 ((l.length : Int)))))), (31, .one (.d (.v (.int .i64 ((ζ.1 : Int))))))] [([3], (g3, g3, .box [.d (.v (.int .i64 (a.lo))), .d (.v (.int .i64 (a.hi)))])), ([4], (g4, g4, .box [.d (.v (.int .i64 (b.lo))), .d (.v (.int .i64 (b.hi)))])), ([6], (g5, g5, .box [.d (.v (.int .i64 (0))), .d (.v (.int .i64 (0)))])), ([7], (g14, ζ.2, .box [.d (.v (.int .i64 (widenLo b.lo (l.take ζ.1) (-9223372036854775808)))), .d (.v (.int .i64 (a.hi)))]))]) (fun ζ => ζ.1 ≤ l.length) (fun ζ => l.length - ζ.1) ?_ ?_
   ·skip
    exact .here (0, g18) (.of (.cons rfl (.cons rfl (.cons rfl (.cons rfl (.cons rfl (.cons rfl (.cons rfl (.cons (svI (show (0) = ((0 : Int)) by first | rfl | omega | exact wrap_le (by omega) (by omega) | (rw [wrap_le (by omega) (by omega)]; omega))) .nil)))))))) (.cons rfl (.cons rfl (.cons rfl (.cons (eq1 (fun z1 => some (g14, g18, O.box [.d (.v (.int .i64 (z1))), .d (.v (.int .i64 (a.hi)))])) (show (-9223372036854775808) = (widenLo b.lo (l.take 0) (-9223372036854775808)) by first | rfl | (exact widenLo_yes (by omega) c3) | (exact widenLo_no (by omega) c3) | (exact widenHi_yes (by omega) c6) | (exact widenHi_no (by omega) c6))) .nil))))) (show 0 ≤ l.length by omega)
   ·rintro ⟨j, q20⟩ hI
    have hI : j ≤ l.length := hI
    have hl9 : l.length ≤ 100 := by omega
    refine .seq ?_
    refine .reg (X := Unit) (fun ζ => .of [(2, .one (.d (.sl false 2 1 (List.map i64c (l))))), (3, .one (.ptr [3] (g3) 0)), (4, .one (.ptr [4] (g4) 0)), (6, .one (.ptr [6] (g5) 0)), (7, .one (.ptr [7] (g14) 0)), (29, .one (.d (.sl false 2 1 (List.map i64c (l))))), (30, .one (.d (.v (.int .i64 ((l.length : Int)))))), (31, .one (.d (.v (.int .i64 ((j : Int)))))), (32, .one (.d (.v (.bool (decide ((j : Int) < (l.length : Int)))))))] [([3], (g3, g3, .box [.d (.v (.int .i64 (a.lo))), .d (.v (.int .i64 (a.hi)))])), ([4], (g4, g4, .box [.d (.v (.int .i64 (b.lo))), .d (.v (.int .i64 (b.hi)))])), ([6], (g5, g5, .box [.d (.v (.int .i64 (0))), .d (.v (.int .i64 (0)))])), ([7], (g14, q20, .box [.d (.v (.int .i64 (widenLo b.lo (l.take j) (-9223372036854775808)))), .d (.v (.int .i64 (a.hi)))]))]) [⟨[31, 30], some 32, [], []⟩] (fun k21 => ?_) ?_
    ·skip
     refine .bin (.no rfl) rfl rfl rfl rfl rfl rfl ?_
     exact .fin () (.of (.cons rfl (.cons rfl (.cons rfl (.cons rfl (.cons rfl (.cons rfl (.cons rfl (.cons rfl (.cons rfl .nil))))))))) (.cons rfl (.cons rfl (.cons rfl (.cons rfl .nil)))))
    intro _
    refine .seq ?_
    refine .cond (t := decide ((j : Int) < (l.length : Int))) rfl (fun c2 => ?_) (fun c2 => ?_)
    ·have c2 := of_decide_eq_true c2
     refine .skip ?_
     refine .seq ?_
     refine .block ?_
     refine .seq ?_
     refine .reg (X := Unit) (fun ζ => .of [(2, .one (.d (.sl false 2 1 (List.map i64c (l))))), (3, .one (.ptr [3] (g3) 0)), (4, .one (.ptr [4] (g4) 0)), (6, .one (.ptr [6] (g5) 0)), (7, .one (.ptr [7] (g14) 0)), (9, .one (.d (.v (.int .i64 (l.getD j default))))), (29, .one (.d (.sl false 2 1 (List.map i64c (l))))), (30, .one (.d (.v (.int .i64 ((l.length : Int)))))), (31, .one (.d (.v (.int .i64 ((j : Int))))))] [([3], (g3, g3, .box [.d (.v (.int .i64 (a.lo))), .d (.v (.int .i64 (a.hi)))])), ([4], (g4, g4, .box [.d (.v (.int .i64 (b.lo))), .d (.v (.int .i64 (b.hi)))])), ([6], (g5, g5, .box [.d (.v (.int .i64 (0))), .d (.v (.int .i64 (0)))])), ([7], (g14, q20, .box [.d (.v (.int .i64 (widenLo b.lo (l.take j) (-9223372036854775808)))), .d (.v (.int .i64 (a.hi)))]))]) [⟨[29, 31], some 33, [], []⟩, ⟨[33], some 34, [], []⟩, ⟨[34], some 9, [], []⟩] (fun k22 => ?_) ?_
     ·skip
      refine .indexAddr (.no rfl) rfl (j) t27 rfl t2 rfl rfl rfl (.d _ _) rfl rfl rfl (map_get (by omega)) rfl rfl ?_
      refine .load (.no rfl) rfl t2 rfl rfl (.d _) rfl rfl rfl rfl ?_
      refine .assign (.no rfl) rfl rfl rfl rfl ?_
      exact .fin () (.of (.cons rfl (.cons rfl (.cons rfl (.cons rfl (.cons rfl (.cons rfl (.cons rfl (.cons rfl (.cons rfl .nil))))))))) (.cons rfl (.cons rfl (.cons rfl (.cons rfl .nil)))))
     intro _
     refine .seq ?_
     refine .reg (X := Unit) (fun ζ => .of [(2, .one (.d (.sl false 2 1 (List.map i64c (l))))), (3, .one (.ptr [3] (g3) 0)), (4, .one (.ptr [4] (g4) 0)), (6, .one (.ptr [6] (g5) 0)), (7, .one (.ptr [7] (g14) 0)), (9, .one (.d (.v (.int .i64 (l.getD j default))))), (29, .one (.d (.sl false 2 1 (List.map i64c (l))))), (30, .one (.d (.v (.int .i64 ((l.length : Int)))))), (31, .one (.d (.v (.int .i64 ((j : Int)))))), (38, .one (.d (.v (.bool (decide ((l.getD j default) ≤ b.lo))))))] [([3], (g3, g3, .box [.d (.v (.int .i64 (a.lo))), .d (.v (.int .i64 (a.hi)))])), ([4], (g4, g4, .box [.d (.v (.int .i64 (b.lo))), .d (.v (.int .i64 (b.hi)))])), ([6], (g5, g5, .box [.d (.v (.int .i64 (0))), .d (.v (.int .i64 (0)))])), ([7], (g14, q20, .box [.d (.v (.int .i64 (widenLo b.lo (l.take j) (-9223372036854775808)))), .d (.v (.int .i64 (a.hi)))]))]) [⟨[9], some 35, [], []⟩, ⟨[4], some 36, [], []⟩, ⟨[36], some 37, [[4]], []⟩, ⟨[35, 37], some 38, [], []⟩] (fun k23 => ?_) ?_
     ·skip
      refine .move (.no rfl) rfl rfl rfl rfl ?_
      refine .fieldAddrP (.no rfl) rfl t122 rfl rfl t2 rfl rfl rfl rfl ?_
      refine .load (.no rfl) rfl t2 rfl rfl (.ptr _ _ _ _ _ rfl) rfl rfl rfl rfl ?_
      refine .bin (.no rfl) rfl rfl rfl rfl rfl rfl ?_
      exact .fin () (.of (.cons rfl (.cons rfl (.cons rfl (.cons rfl (.cons rfl (.cons rfl (.cons rfl (.cons rfl (.cons rfl (.cons rfl .nil)))))))))) (.cons rfl (.cons rfl (.cons rfl (.cons rfl .nil)))))
     intro _
     refine .cond (t := decide ((l.getD j default) ≤ b.lo)) rfl (fun c3 => ?_) (fun c3 => ?_)
     ·have c3 := of_decide_eq_true c3
      refine .reg (X := Nat) (fun ζ => .of [(2, .one (.d (.sl false 2 1 (List.map i64c (l))))), (3, .one (.ptr [3] (g3) 0)), (4, .one (.ptr [4] (g4) 0)), (6, .one (.ptr [6] (g5) 0)), (7, .one (.ptr [7] (g14) 0)), (29, .one (.d (.sl false 2 1 (List.map i64c (l))))), (30, .one (.d (.v (.int .i64 ((l.length : Int)))))), (31, .one (.d (.v (.int .i64 ((j : Int))))))] [([3], (g3, g3, .box [.d (.v (.int .i64 (a.lo))), .d (.v (.int .i64 (a.hi)))])), ([4], (g4, g4, .box [.d (.v (.int .i64 (b.lo))), .d (.v (.int .i64 (b.hi)))])), ([6], (g5, g5, .box [.d (.v (.int .i64 (0))), .d (.v (.int .i64 (0)))])), ([7], (g14, ζ, .box [.d (.v (.int .i64 (max (widenLo b.lo (l.take j) (-9223372036854775808)) (l.getD j default)))), .d (.v (.int .i64 (a.hi)))]))]) [⟨[7], some 39, [], []⟩, ⟨[39], some 40, [[7]], []⟩, ⟨[9], some 41, [], []⟩, ⟨[40, 41], some 42, [], []⟩, ⟨[7], some 43, [], []⟩, ⟨[43, 42], none, [[7]], [[7]]⟩] (fun k24 => ?_) ?_
      ·skip
       refine .fieldAddrP (.no rfl) rfl t122 rfl rfl t2 rfl rfl rfl rfl ?_
       refine .load (.no rfl) rfl t2 rfl rfl (.ptr _ _ _ _ _ rfl) rfl rfl rfl rfl ?_
       refine .move (.no rfl) rfl rfl rfl rfl ?_
       refine .max (.no rfl) rfl rfl rfl rfl (max_of _ _) rfl ?_
       refine .fieldAddrP (.no rfl) rfl t122 rfl rfl t2 rfl rfl rfl rfl ?_
       refine .store (.no rfl) rfl t2 rfl rfl rfl rfl rfl rfl rfl rfl rfl ?_
       exact .fin (k24 + 1 + 1 + 1 + 1 + 1) (.of (.cons rfl (.cons rfl (.cons rfl (.cons rfl (.cons rfl (.cons rfl (.cons rfl (.cons rfl .nil)))))))) (.cons rfl (.cons rfl (.cons rfl (.cons rfl .nil)))))
      intro g25
      refine .reg (X := Unit) (fun ζ => .of [(2, .one (.d (.sl false 2 1 (List.map i64c (l))))), (3, .one (.ptr [3] (g3) 0)), (4, .one (.ptr [4] (g4) 0)), (6, .one (.ptr [6] (g5) 0)), (7, .one (.ptr [7] (g14) 0)), (29, .one (.d (.sl false 2 1 (List.map i64c (l))))), (30, .one (.d (.v (.int .i64 ((l.length : Int)))))), (31, .one (.d (.v (.int .i64 (IntKind.wrap .i64 ((j : Int) + 1))))))] [([3], (g3, g3, .box [.d (.v (.int .i64 (a.lo))), .d (.v (.int .i64 (a.hi)))])), ([4], (g4, g4, .box [.d (.v (.int .i64 (b.lo))), .d (.v (.int .i64 (b.hi)))])), ([6], (g5, g5, .box [.d (.v (.int .i64 (0))), .d (.v (.int .i64 (0)))])), ([7], (g14, g25, .box [.d (.v (.int .i64 (max (widenLo b.lo (l.take j) (-9223372036854775808)) (l.getD j default)))), .d (.v (.int .i64 (a.hi)))]))]) [⟨[31], some 44, [], []⟩, ⟨[44], some 31, [], []⟩] (fun k26 => ?_) ?_
      ·skip
       refine .bin (.no rfl) rfl rfl rfl rfl rfl rfl ?_
       refine .move (.no rfl) rfl rfl rfl rfl ?_
       exact .fin () (.of (.cons rfl (.cons rfl (.cons rfl (.cons rfl (.cons rfl (.cons rfl (.cons rfl (.cons rfl .nil)))))))) (.cons rfl (.cons rfl (.cons rfl (.cons rfl .nil)))))
      intro _
      exact .here ((j + 1), g25) (.of (.cons rfl (.cons rfl (.cons rfl (.cons rfl (.cons rfl (.cons rfl (.cons rfl (.cons (svI (show (IntKind.wrap .i64 ((j : Int) + 1)) = (((j + 1) : Int)) by first | rfl | omega | exact wrap_le (by omega) (by omega) | (rw [wrap_le (by omega) (by omega)]; omega))) .nil)))))))) (.cons rfl (.cons rfl (.cons rfl (.cons (eq1 (fun z1 => some (g14, g25, O.box [.d (.v (.int .i64 (z1))), .d (.v (.int .i64 (a.hi)))])) (show (max (widenLo b.lo (l.take j) (-9223372036854775808)) (l.getD j default)) = (widenLo b.lo (l.take (j + 1)) (-9223372036854775808)) by first | rfl | (exact widenLo_yes (by omega) c3) | (exact widenLo_no (by omega) c3) | (exact widenHi_yes (by omega) c6) | (exact widenHi_no (by omega) c6))) .nil))))) ⟨(show (j + 1) ≤ l.length by omega), (show l.length - (j + 1) < l.length - j by omega)⟩
     ·have c3 := of_decide_eq_false c3
      refine .skip ?_
      refine .reg (X := Unit) (fun ζ => .of [(2, .one (.d (.sl false 2 1 (List.map i64c (l))))), (3, .one (.ptr [3] (g3) 0)), (4, .one (.ptr [4] (g4) 0)), (6, .one (.ptr [6] (g5) 0)), (7, .one (.ptr [7] (g14) 0)), (29, .one (.d (.sl false 2 1 (List.map i64c (l))))), (30, .one (.d (.v (.int .i64 ((l.length : Int)))))), (31, .one (.d (.v (.int .i64 (IntKind.wrap .i64 ((j : Int) + 1))))))] [([3], (g3, g3, .box [.d (.v (.int .i64 (a.lo))), .d (.v (.int .i64 (a.hi)))])), ([4], (g4, g4, .box [.d (.v (.int .i64 (b.lo))), .d (.v (.int .i64 (b.hi)))])), ([6], (g5, g5, .box [.d (.v (.int .i64 (0))), .d (.v (.int .i64 (0)))])), ([7], (g14, q20, .box [.d (.v (.int .i64 (widenLo b.lo (l.take j) (-9223372036854775808)))), .d (.v (.int .i64 (a.hi)))]))]) [⟨[31], some 44, [], []⟩, ⟨[44], some 31, [], []⟩] (fun k27 => ?_) ?_
      ·skip
       refine .bin (.no rfl) rfl rfl rfl rfl rfl rfl ?_
       refine .move (.no rfl) rfl rfl rfl rfl ?_
       exact .fin () (.of (.cons rfl (.cons rfl (.cons rfl (.cons rfl (.cons rfl (.cons rfl (.cons rfl (.cons rfl .nil)))))))) (.cons rfl (.cons rfl (.cons rfl (.cons rfl .nil)))))
      intro _
      exact .here ((j + 1), q20) (.of (.cons rfl (.cons rfl (.cons rfl (.cons rfl (.cons rfl (.cons rfl (.cons rfl (.cons (svI (show (IntKind.wrap .i64 ((j : Int) + 1)) = (((j + 1) : Int)) by first | rfl | omega | exact wrap_le (by omega) (by omega) | (rw [wrap_le (by omega) (by omega)]; omega))) .nil)))))))) (.cons rfl (.cons rfl (.cons rfl (.cons (eq1 (fun z1 => some (g14, q20, O.box [.d (.v (.int .i64 (z1))), .d (.v (.int .i64 (a.hi)))])) (show (widenLo b.lo (l.take j) (-9223372036854775808)) = (widenLo b.lo (l.take (j + 1)) (-9223372036854775808)) by first | rfl | (exact widenLo_yes (by omega) c3) | (exact widenLo_no (by omega) c3) | (exact widenHi_yes (by omega) c6) | (exact widenHi_no (by omega) c6))) .nil))))) ⟨(show (j + 1) ≤ l.length by omega), (show l.length - (j + 1) < l.length - j by omega)⟩
    ·have c2 := of_decide_eq_false c2
     refine .exit ?_
     refine .seq ?_
     refine .seq ?_
     refine .reg (X := Unit) (fun ζ => .of [(2, .one (.d (.sl false 2 1 (List.map i64c (l))))), (4, .one (.ptr [4] (g4) 0)), (6, .one (.ptr [6] (g5) 0)), (7, .one (.ptr [7] (g14) 0)), (49, .one (.d (.v (.bool (decide (b.hi > a.hi))))))] [([4], (g4, g4, .box [.d (.v (.int .i64 (b.lo))), .d (.v (.int .i64 (b.hi)))])), ([6], (g5, g5, .box [.d (.v (.int .i64 (0))), .d (.v (.int .i64 (0)))])), ([7], (g14, q20, .box [.d (.v (.int .i64 (widenLo b.lo (l.take j) (-9223372036854775808)))), .d (.v (.int .i64 (a.hi)))]))]) [⟨[4], some 45, [], []⟩, ⟨[45], some 46, [[4]], []⟩, ⟨[3], some 47, [], []⟩, ⟨[47], some 48, [[3]], []⟩, ⟨[46, 48], some 49, [], []⟩] (fun k28 => ?_) ?_
     ·skip
      refine .fieldAddrP (.no rfl) rfl t122 rfl rfl t2 rfl rfl rfl rfl ?_
      refine .load (.no rfl) rfl t2 rfl rfl (.ptr _ _ _ _ _ rfl) rfl rfl rfl rfl ?_
      refine .fieldAddrP (.no rfl) rfl t122 rfl rfl t2 rfl rfl rfl rfl ?_
      refine .load (.no rfl) rfl t2 rfl rfl (.ptr _ _ _ _ _ rfl) rfl rfl rfl rfl ?_
      refine .bin (.no rfl) rfl rfl rfl rfl rfl rfl ?_
      exact .fin () (.of (.cons rfl (.cons rfl (.cons rfl (.cons rfl (.cons rfl .nil))))) (.cons rfl (.cons rfl (.cons rfl .nil))))
     intro _
     refine .cond (t := decide (b.hi > a.hi)) rfl (fun c4 => ?_) (fun c4 => ?_)
     ·have c4 := of_decide_eq_true c4
      refine .seq ?_
      refine .reg (X := Nat) (fun ζ => .of [(2, .one (.d (.sl false 2 1 (List.map i64c (l))))), (4, .one (.ptr [4] (g4) 0)), (6, .one (.ptr [6] (g5) 0)), (7, .one (.ptr [7] (g14) 0))] [([4], (g4, g4, .box [.d (.v (.int .i64 (b.lo))), .d (.v (.int .i64 (b.hi)))])), ([6], (g5, g5, .box [.d (.v (.int .i64 (0))), .d (.v (.int .i64 (0)))])), ([7], (g14, ζ, .box [.d (.v (.int .i64 (widenLo b.lo (l.take j) (-9223372036854775808)))), .d (.v (.int .i64 (9223372036854775807)))]))]) [⟨[7], some 50, [], []⟩, ⟨[50], none, [[7]], [[7]]⟩] (fun k29 => ?_) ?_
      ·skip
       refine .fieldAddrP (.no rfl) rfl t122 rfl rfl t2 rfl rfl rfl rfl ?_
       refine .store (.no rfl) rfl t2 rfl rfl rfl rfl rfl rfl rfl rfl rfl ?_
       exact .fin (k29 + 1) (.of (.cons rfl (.cons rfl (.cons rfl (.cons rfl .nil)))) (.cons rfl (.cons rfl (.cons rfl .nil))))
      intro g30
      refine .seq ?_
      refine .reg (X := Unit) (fun ζ => .of [(4, .one (.ptr [4] (g4) 0)), (6, .one (.ptr [6] (g5) 0)), (7, .one (.ptr [7] (g14) 0)), (51, .one (.d (.sl false 2 1 (List.map i64c (l))))), (52, .one (.d (.v (.int .i64 ((l.length : Int)))))), (53, .one (.d (.v (.int .i64 (0)))))] [([4], (g4, g4, .box [.d (.v (.int .i64 (b.lo))), .d (.v (.int .i64 (b.hi)))])), ([6], (g5, g5, .box [.d (.v (.int .i64 (0))), .d (.v (.int .i64 (0)))])), ([7], (g14, g30, .box [.d (.v (.int .i64 (widenLo b.lo (l.take j) (-9223372036854775808)))), .d (.v (.int .i64 (9223372036854775807)))]))]) [⟨[2], some 51, [], []⟩, ⟨[51], some 52, [], []⟩, ⟨[], some 53, [], []⟩] (fun k31 => ?_) ?_
      ·skip
       refine .move (.no rfl) rfl rfl rfl rfl ?_
       refine .len (.no rfl) rfl (z := (l.length : Int)) t27 rfl rfl rfl (.d _ _) (map_len _ _) rfl ?_
       refine .move (.no rfl) rfl rfl rfl rfl ?_
       exact .fin () (.of (.cons rfl (.cons rfl (.cons rfl (.cons rfl (.cons rfl (.cons rfl .nil)))))) (.cons rfl (.cons rfl (.cons rfl .nil))))
      intro _
      refine .block ?_
      refine .loop (X := Nat × Nat) (fun ζ => .of [(4, .one (.ptr [4] (g4) 0)), (6, .one (.ptr [6] (g5) 0)), (7, .one (.ptr [7] (g14) 0)), (51, .one (.d (.sl false 2 1 (List.map i64c (l))))), (52, .one (.d (.v (.int .i64 ((l.length : Int)))))), (53, .one (.d (.v (.int .i64 ((ζ.1 : Int))))))] [([4], (g4, g4, .box [.d (.v (.int .i64 (b.lo))), .d (.v (.int .i64 (b.hi)))])), ([6], (g5, g5, .box [.d (.v (.int .i64 (0))), .d (.v (.int .i64 (0)))])), ([7], (g14, ζ.2, .box [.d (.v (.int .i64 (widenLo b.lo (l.take j) (-9223372036854775808)))), .d (.v (.int .i64 (widenHi b.hi (l.take ζ.1) 9223372036854775807)))]))]) (fun ζ => ζ.1 ≤ l.length) (fun ζ => l.length - ζ.1) ?_ ?_
      ·skip
       exact .here (0, g30) (.of (.cons rfl (.cons rfl (.cons rfl (.cons rfl (.cons rfl (.cons (svI (show (0) = ((0 : Int)) by first | rfl | omega | exact wrap_le (by omega) (by omega) | (rw [wrap_le (by omega) (by omega)]; omega))) .nil)))))) (.cons rfl (.cons rfl (.cons (eq1 (fun z1 => some (g14, g30, O.box [.d (.v (.int .i64 (widenLo b.lo (l.take j) (-9223372036854775808)))), .d (.v (.int .i64 (z1)))])) (show (9223372036854775807) = (widenHi b.hi (l.take 0) 9223372036854775807) by first | rfl | (exact widenLo_yes (by omega) c3) | (exact widenLo_no (by omega) c3) | (exact widenHi_yes (by omega) c6) | (exact widenHi_no (by omega) c6))) .nil)))) (show 0 ≤ l.length by omega)
      ·rintro ⟨i, q32⟩ hI
       have hI : i ≤ l.length := hI
       have hl9 : l.length ≤ 100 := by omega
       have hj9 := ‹j ≤ l.length›
       refine .seq ?_
       refine .reg (X := Unit) (fun ζ => .of [(4, .one (.ptr [4] (g4) 0)), (6, .one (.ptr [6] (g5) 0)), (7, .one (.ptr [7] (g14) 0)), (51, .one (.d (.sl false 2 1 (List.map i64c (l))))), (52, .one (.d (.v (.int .i64 ((l.length : Int)))))), (53, .one (.d (.v (.int .i64 ((i : Int)))))), (54, .one (.d (.v (.bool (decide ((i : Int) < (l.length : Int)))))))] [([4], (g4, g4, .box [.d (.v (.int .i64 (b.lo))), .d (.v (.int .i64 (b.hi)))])), ([6], (g5, g5, .box [.d (.v (.int .i64 (0))), .d (.v (.int .i64 (0)))])), ([7], (g14, q32, .box [.d (.v (.int .i64 (widenLo b.lo (l.take j) (-9223372036854775808)))), .d (.v (.int .i64 (widenHi b.hi (l.take i) 9223372036854775807)))]))]) [⟨[53, 52], some 54, [], []⟩] (fun k33 => ?_) ?_
       ·skip
        refine .bin (.no rfl) rfl rfl rfl rfl rfl rfl ?_
        exact .fin () (.of (.cons rfl (.cons rfl (.cons rfl (.cons rfl (.cons rfl (.cons rfl (.cons rfl .nil))))))) (.cons rfl (.cons rfl (.cons rfl .nil))))
       intro _
       refine .seq ?_
       refine .cond (t := decide ((i : Int) < (l.length : Int))) rfl (fun c5 => ?_) (fun c5 => ?_)
       ·have c5 := of_decide_eq_true c5
        refine .skip ?_
        refine .seq ?_
        refine .block ?_
        refine .seq ?_
        refine .reg (X := Unit) (fun ζ => .of [(4, .one (.ptr [4] (g4) 0)), (6, .one (.ptr [6] (g5) 0)), (7, .one (.ptr [7] (g14) 0)), (11, .one (.d (.v (.int .i64 (l.getD i default))))), (51, .one (.d (.sl false 2 1 (List.map i64c (l))))), (52, .one (.d (.v (.int .i64 ((l.length : Int)))))), (53, .one (.d (.v (.int .i64 ((i : Int))))))] [([4], (g4, g4, .box [.d (.v (.int .i64 (b.lo))), .d (.v (.int .i64 (b.hi)))])), ([6], (g5, g5, .box [.d (.v (.int .i64 (0))), .d (.v (.int .i64 (0)))])), ([7], (g14, q32, .box [.d (.v (.int .i64 (widenLo b.lo (l.take j) (-9223372036854775808)))), .d (.v (.int .i64 (widenHi b.hi (l.take i) 9223372036854775807)))]))]) [⟨[51, 53], some 55, [], []⟩, ⟨[55], some 56, [], []⟩, ⟨[56], some 11, [], []⟩] (fun k34 => ?_) ?_
        ·skip
         refine .indexAddr (.no rfl) rfl (i) t27 rfl t2 rfl rfl rfl (.d _ _) rfl rfl rfl (map_get (by omega)) rfl rfl ?_
         refine .load (.no rfl) rfl t2 rfl rfl (.d _) rfl rfl rfl rfl ?_
         refine .assign (.no rfl) rfl rfl rfl rfl ?_
         exact .fin () (.of (.cons rfl (.cons rfl (.cons rfl (.cons rfl (.cons rfl (.cons rfl (.cons rfl .nil))))))) (.cons rfl (.cons rfl (.cons rfl .nil))))
        intro _
        refine .seq ?_
        refine .reg (X := Unit) (fun ζ => .of [(4, .one (.ptr [4] (g4) 0)), (6, .one (.ptr [6] (g5) 0)), (7, .one (.ptr [7] (g14) 0)), (11, .one (.d (.v (.int .i64 (l.getD i default))))), (51, .one (.d (.sl false 2 1 (List.map i64c (l))))), (52, .one (.d (.v (.int .i64 ((l.length : Int)))))), (53, .one (.d (.v (.int .i64 ((i : Int)))))), (60, .one (.d (.v (.bool (decide ((l.getD i default) ≥ b.hi))))))] [([4], (g4, g4, .box [.d (.v (.int .i64 (b.lo))), .d (.v (.int .i64 (b.hi)))])), ([6], (g5, g5, .box [.d (.v (.int .i64 (0))), .d (.v (.int .i64 (0)))])), ([7], (g14, q32, .box [.d (.v (.int .i64 (widenLo b.lo (l.take j) (-9223372036854775808)))), .d (.v (.int .i64 (widenHi b.hi (l.take i) 9223372036854775807)))]))]) [⟨[11], some 57, [], []⟩, ⟨[4], some 58, [], []⟩, ⟨[58], some 59, [[4]], []⟩, ⟨[57, 59], some 60, [], []⟩] (fun k35 => ?_) ?_
        ·skip
         refine .move (.no rfl) rfl rfl rfl rfl ?_
         refine .fieldAddrP (.no rfl) rfl t122 rfl rfl t2 rfl rfl rfl rfl ?_
         refine .load (.no rfl) rfl t2 rfl rfl (.ptr _ _ _ _ _ rfl) rfl rfl rfl rfl ?_
         refine .bin (.no rfl) rfl rfl rfl rfl rfl rfl ?_
         exact .fin () (.of (.cons rfl (.cons rfl (.cons rfl (.cons rfl (.cons rfl (.cons rfl (.cons rfl (.cons rfl .nil)))))))) (.cons rfl (.cons rfl (.cons rfl .nil))))
        intro _
        refine .cond (t := decide ((l.getD i default) ≥ b.hi)) rfl (fun c6 => ?_) (fun c6 => ?_)
        ·have c6 := of_decide_eq_true c6
         refine .reg (X := Nat) (fun ζ => .of [(4, .one (.ptr [4] (g4) 0)), (6, .one (.ptr [6] (g5) 0)), (7, .one (.ptr [7] (g14) 0)), (51, .one (.d (.sl false 2 1 (List.map i64c (l))))), (52, .one (.d (.v (.int .i64 ((l.length : Int)))))), (53, .one (.d (.v (.int .i64 ((i : Int))))))] [([4], (g4, g4, .box [.d (.v (.int .i64 (b.lo))), .d (.v (.int .i64 (b.hi)))])), ([6], (g5, g5, .box [.d (.v (.int .i64 (0))), .d (.v (.int .i64 (0)))])), ([7], (g14, ζ, .box [.d (.v (.int .i64 (widenLo b.lo (l.take j) (-9223372036854775808)))), .d (.v (.int .i64 (min (widenHi b.hi (l.take i) 9223372036854775807) (l.getD i default))))]))]) [⟨[7], some 61, [], []⟩, ⟨[61], some 62, [[7]], []⟩, ⟨[11], some 63, [], []⟩, ⟨[62, 63], some 64, [], []⟩, ⟨[7], some 65, [], []⟩, ⟨[65, 64], none, [[7]], [[7]]⟩] (fun k36 => ?_) ?_
         ·skip
          refine .fieldAddrP (.no rfl) rfl t122 rfl rfl t2 rfl rfl rfl rfl ?_
          refine .load (.no rfl) rfl t2 rfl rfl (.ptr _ _ _ _ _ rfl) rfl rfl rfl rfl ?_
          refine .move (.no rfl) rfl rfl rfl rfl ?_
          refine .min (.no rfl) rfl rfl rfl rfl (min_of _ _) rfl ?_
          refine .fieldAddrP (.no rfl) rfl t122 rfl rfl t2 rfl rfl rfl rfl ?_
          refine .store (.no rfl) rfl t2 rfl rfl rfl rfl rfl rfl rfl rfl rfl ?_
          exact .fin (k36 + 1 + 1 + 1 + 1 + 1) (.of (.cons rfl (.cons rfl (.cons rfl (.cons rfl (.cons rfl (.cons rfl .nil)))))) (.cons rfl (.cons rfl (.cons rfl .nil))))
         intro g37
         refine .reg (X := Unit) (fun ζ => .of [(4, .one (.ptr [4] (g4) 0)), (6, .one (.ptr [6] (g5) 0)), (7, .one (.ptr [7] (g14) 0)), (51, .one (.d (.sl false 2 1 (List.map i64c (l))))), (52, .one (.d (.v (.int .i64 ((l.length : Int)))))), (53, .one (.d (.v (.int .i64 (IntKind.wrap .i64 ((i : Int) + 1))))))] [([4], (g4, g4, .box [.d (.v (.int .i64 (b.lo))), .d (.v (.int .i64 (b.hi)))])), ([6], (g5, g5, .box [.d (.v (.int .i64 (0))), .d (.v (.int .i64 (0)))])), ([7], (g14, g37, .box [.d (.v (.int .i64 (widenLo b.lo (l.take j) (-9223372036854775808)))), .d (.v (.int .i64 (min (widenHi b.hi (l.take i) 9223372036854775807) (l.getD i default))))]))]) [⟨[53], some 66, [], []⟩, ⟨[66], some 53, [], []⟩] (fun k38 => ?_) ?_
         ·skip
          refine .bin (.no rfl) rfl rfl rfl rfl rfl rfl ?_
          refine .move (.no rfl) rfl rfl rfl rfl ?_
          exact .fin () (.of (.cons rfl (.cons rfl (.cons rfl (.cons rfl (.cons rfl (.cons rfl .nil)))))) (.cons rfl (.cons rfl (.cons rfl .nil))))
         intro _
         exact .here ((i + 1), g37) (.of (.cons rfl (.cons rfl (.cons rfl (.cons rfl (.cons rfl (.cons (svI (show (IntKind.wrap .i64 ((i : Int) + 1)) = (((i + 1) : Int)) by first | rfl | omega | exact wrap_le (by omega) (by omega) | (rw [wrap_le (by omega) (by omega)]; omega))) .nil)))))) (.cons rfl (.cons rfl (.cons (eq1 (fun z1 => some (g14, g37, O.box [.d (.v (.int .i64 (widenLo b.lo (l.take j) (-9223372036854775808)))), .d (.v (.int .i64 (z1)))])) (show (min (widenHi b.hi (l.take i) 9223372036854775807) (l.getD i default)) = (widenHi b.hi (l.take (i + 1)) 9223372036854775807) by first | rfl | (exact widenLo_yes (by omega) c3) | (exact widenLo_no (by omega) c3) | (exact widenHi_yes (by omega) c6) | (exact widenHi_no (by omega) c6))) .nil)))) ⟨(show (i + 1) ≤ l.length by omega), (show l.length - (i + 1) < l.length - i by omega)⟩
        ·have c6 := of_decide_eq_false c6
         refine .skip ?_
         refine .reg (X := Unit) (fun ζ => .of [(4, .one (.ptr [4] (g4) 0)), (6, .one (.ptr [6] (g5) 0)), (7, .one (.ptr [7] (g14) 0)), (51, .one (.d (.sl false 2 1 (List.map i64c (l))))), (52, .one (.d (.v (.int .i64 ((l.length : Int)))))), (53, .one (.d (.v (.int .i64 (IntKind.wrap .i64 ((i : Int) + 1))))))] [([4], (g4, g4, .box [.d (.v (.int .i64 (b.lo))), .d (.v (.int .i64 (b.hi)))])), ([6], (g5, g5, .box [.d (.v (.int .i64 (0))), .d (.v (.int .i64 (0)))])), ([7], (g14, q32, .box [.d (.v (.int .i64 (widenLo b.lo (l.take j) (-9223372036854775808)))), .d (.v (.int .i64 (widenHi b.hi (l.take i) 9223372036854775807)))]))]) [⟨[53], some 66, [], []⟩, ⟨[66], some 53, [], []⟩] (fun k39 => ?_) ?_
         ·skip
          refine .bin (.no rfl) rfl rfl rfl rfl rfl rfl ?_
          refine .move (.no rfl) rfl rfl rfl rfl ?_
          exact .fin () (.of (.cons rfl (.cons rfl (.cons rfl (.cons rfl (.cons rfl (.cons rfl .nil)))))) (.cons rfl (.cons rfl (.cons rfl .nil))))
         intro _
         exact .here ((i + 1), q32) (.of (.cons rfl (.cons rfl (.cons rfl (.cons rfl (.cons rfl (.cons (svI (show (IntKind.wrap .i64 ((i : Int) + 1)) = (((i + 1) : Int)) by first | rfl | omega | exact wrap_le (by omega) (by omega) | (rw [wrap_le (by omega) (by omega)]; omega))) .nil)))))) (.cons rfl (.cons rfl (.cons (eq1 (fun z1 => some (g14, q32, O.box [.d (.v (.int .i64 (widenLo b.lo (l.take j) (-9223372036854775808)))), .d (.v (.int .i64 (z1)))])) (show (widenHi b.hi (l.take i) 9223372036854775807) = (widenHi b.hi (l.take (i + 1)) 9223372036854775807) by first | rfl | (exact widenLo_yes (by omega) c3) | (exact widenLo_no (by omega) c3) | (exact widenHi_yes (by omega) c6) | (exact widenHi_no (by omega) c6))) .nil)))) ⟨(show (i + 1) ≤ l.length by omega), (show l.length - (i + 1) < l.length - i by omega)⟩
       ·have c5 := of_decide_eq_false c5
        refine .exit ?_
        refine .seq ?_
        refine .reg (X := Nat) (fun ζ => .of [(6, .one (.ptr [6] (g5) 0))] [([6], (g5, ζ, .box [.d (.v (.int .i64 (widenLo b.lo (l.take j) (-9223372036854775808)))), .d (.v (.int .i64 (widenHi b.hi (l.take i) 9223372036854775807)))]))]) [⟨[7], some 67, [[7]], []⟩, ⟨[6, 67], none, [[6]], [[6]]⟩] (fun k40 => ?_) ?_
        ·skip
         refine .load (.no rfl) rfl t122 rfl rfl (.ptr _ _ _ _ _ rfl) rfl rfl rfl rfl ?_
         refine .store (.no rfl) rfl t122 rfl rfl rfl rfl rfl rfl rfl rfl rfl ?_
         exact .fin (k40 + 1) (.of (.cons rfl .nil) (.cons rfl .nil))
        intro g41
        refine .ret ?_
        have e42 : (widenLo b.lo (l.take j) (-9223372036854775808)) = ((Iv.widenOk l a b).lo) := by (rw [Iv.widenOk_yes c0]; simp only [Iv.widen]; first | (rw [List.take_of_length_le (by omega), if_pos c1]; done) | (rw [List.take_of_length_le (by omega), if_pos c4]; done))
        have e43 : (widenHi b.hi (l.take i) 9223372036854775807) = ((Iv.widenOk l a b).hi) := by (rw [Iv.widenOk_yes c0]; simp only [Iv.widen]; first | (rw [List.take_of_length_le (by omega), if_pos c1]; done) | (rw [List.take_of_length_le (by omega), if_pos c4]; done))
        have hc44 := eq2 (fun z1 z2 => some (g5, g41, O.box [.d (.v (.int .i64 (z1))), .d (.v (.int .i64 (z2)))])) e42 e43
        show _ ∧ _
        exact ⟨.inr rfl, .done ⟨_, [], [], _, .cell (cells := [.d (.v (.int .i64 ((Iv.widenOk l a b).lo))), .d (.v (.int .i64 ((Iv.widenOk l a b).hi)))]) rfl hc44 t122 rfl rfl .nil, .cons (Reads.d _).gives (.cons (Reads.d _).gives .nil), nodupB_ok rfl, by simp, (by simp)⟩⟩
     ·have c4 := of_decide_eq_false c4
      refine .skip ?_
      refine .seq ?_
      refine .reg (X := Nat) (fun ζ => .of [(6, .one (.ptr [6] (g5) 0))] [([6], (g5, ζ, .box [.d (.v (.int .i64 (widenLo b.lo (l.take j) (-9223372036854775808)))), .d (.v (.int .i64 (a.hi)))]))]) [⟨[7], some 67, [[7]], []⟩, ⟨[6, 67], none, [[6]], [[6]]⟩] (fun k45 => ?_) ?_
      ·skip
       refine .load (.no rfl) rfl t122 rfl rfl (.ptr _ _ _ _ _ rfl) rfl rfl rfl rfl ?_
       refine .store (.no rfl) rfl t122 rfl rfl rfl rfl rfl rfl rfl rfl rfl ?_
       exact .fin (k45 + 1) (.of (.cons rfl .nil) (.cons rfl .nil))
      intro g46
      refine .ret ?_
      have e47 : (widenLo b.lo (l.take j) (-9223372036854775808)) = ((Iv.widenOk l a b).lo) := by (rw [Iv.widenOk_yes c0]; simp only [Iv.widen]; first | (rw [List.take_of_length_le (by omega), if_pos c1]; done) | (rw [if_neg c4]; done))
      have e48 : (a.hi) = ((Iv.widenOk l a b).hi) := by (rw [Iv.widenOk_yes c0]; simp only [Iv.widen]; first | (rw [List.take_of_length_le (by omega), if_pos c1]; done) | (rw [if_neg c4]; done))
      have hc49 := eq2 (fun z1 z2 => some (g5, g46, O.box [.d (.v (.int .i64 (z1))), .d (.v (.int .i64 (z2)))])) e47 e48
      show _ ∧ _
      exact ⟨.inr rfl, .done ⟨_, [], [], _, .cell (cells := [.d (.v (.int .i64 ((Iv.widenOk l a b).lo))), .d (.v (.int .i64 ((Iv.widenOk l a b).hi)))]) rfl hc49 t122 rfl rfl .nil, .cons (Reads.d _).gives (.cons (Reads.d _).gives .nil), nodupB_ok rfl, by simp, (by simp)⟩⟩
  ·have c1 := of_decide_eq_false c1
   refine .skip ?_
   refine .seq ?_
   refine .seq ?_
   refine .reg (X := Unit) (fun ζ => .of [(2, .one (.d (.sl false 2 1 (List.map i64c (l))))), (4, .one (.ptr [4] (g4) 0)), (6, .one (.ptr [6] (g5) 0)), (7, .one (.ptr [7] (g14) 0)), (49, .one (.d (.v (.bool (decide (b.hi > a.hi))))))] [([4], (g4, g4, .box [.d (.v (.int .i64 (b.lo))), .d (.v (.int .i64 (b.hi)))])), ([6], (g5, g5, .box [.d (.v (.int .i64 (0))), .d (.v (.int .i64 (0)))])), ([7], (g14, g15, .box [.d (.v (.int .i64 (a.lo))), .d (.v (.int .i64 (a.hi)))]))]) [⟨[4], some 45, [], []⟩, ⟨[45], some 46, [[4]], []⟩, ⟨[3], some 47, [], []⟩, ⟨[47], some 48, [[3]], []⟩, ⟨[46, 48], some 49, [], []⟩] (fun k50 => ?_) ?_
   ·skip
    refine .fieldAddrP (.no rfl) rfl t122 rfl rfl t2 rfl rfl rfl rfl ?_
    refine .load (.no rfl) rfl t2 rfl rfl (.ptr _ _ _ _ _ rfl) rfl rfl rfl rfl ?_
    refine .fieldAddrP (.no rfl) rfl t122 rfl rfl t2 rfl rfl rfl rfl ?_
    refine .load (.no rfl) rfl t2 rfl rfl (.ptr _ _ _ _ _ rfl) rfl rfl rfl rfl ?_
    refine .bin (.no rfl) rfl rfl rfl rfl rfl rfl ?_
    exact .fin () (.of (.cons rfl (.cons rfl (.cons rfl (.cons rfl (.cons rfl .nil))))) (.cons rfl (.cons rfl (.cons rfl .nil))))
   intro _
   refine .cond (t := decide (b.hi > a.hi)) rfl (fun c4 => ?_) (fun c4 => ?_)
   ·have c4 := of_decide_eq_true c4
    refine .seq ?_
    refine .reg (X := Nat) (fun ζ => .of [(2, .one (.d (.sl false 2 1 (List.map i64c (l))))), (4, .one (.ptr [4] (g4) 0)), (6, .one (.ptr [6] (g5) 0)), (7, .one (.ptr [7] (g14) 0))] [([4], (g4, g4, .box [.d (.v (.int .i64 (b.lo))), .d (.v (.int .i64 (b.hi)))])), ([6], (g5, g5, .box [.d (.v (.int .i64 (0))), .d (.v (.int .i64 (0)))])), ([7], (g14, ζ, .box [.d (.v (.int .i64 (a.lo))), .d (.v (.int .i64 (9223372036854775807)))]))]) [⟨[7], some 50, [], []⟩, ⟨[50], none, [[7]], [[7]]⟩] (fun k51 => ?_) ?_
    ·skip
     refine .fieldAddrP (.no rfl) rfl t122 rfl rfl t2 rfl rfl rfl rfl ?_
     refine .store (.no rfl) rfl t2 rfl rfl rfl rfl rfl rfl rfl rfl rfl ?_
     exact .fin (k51 + 1) (.of (.cons rfl (.cons rfl (.cons rfl (.cons rfl .nil)))) (.cons rfl (.cons rfl (.cons rfl .nil))))
    intro g52
    refine .seq ?_
    refine .reg (X := Unit) (fun ζ => .of [(4, .one (.ptr [4] (g4) 0)), (6, .one (.ptr [6] (g5) 0)), (7, .one (.ptr [7] (g14) 0)), (51, .one (.d (.sl false 2 1 (List.map i64c (l))))), (52, .one (.d (.v (.int .i64 ((l.length : Int)))))), (53, .one (.d (.v (.int .i64 (0)))))] [([4], (g4, g4, .box [.d (.v (.int .i64 (b.lo))), .d (.v (.int .i64 (b.hi)))])), ([6], (g5, g5, .box [.d (.v (.int .i64 (0))), .d (.v (.int .i64 (0)))])), ([7], (g14, g52, .box [.d (.v (.int .i64 (a.lo))), .d (.v (.int .i64 (9223372036854775807)))]))]) [⟨[2], some 51, [], []⟩, ⟨[51], some 52, [], []⟩, ⟨[], some 53, [], []⟩] (fun k53 => ?_) ?_
    ·skip
     refine .move (.no rfl) rfl rfl rfl rfl ?_
     refine .len (.no rfl) rfl (z := (l.length : Int)) t27 rfl rfl rfl (.d _ _) (map_len _ _) rfl ?_
     refine .move (.no rfl) rfl rfl rfl rfl ?_
     exact .fin () (.of (.cons rfl (.cons rfl (.cons rfl (.cons rfl (.cons rfl (.cons rfl .nil)))))) (.cons rfl (.cons rfl (.cons rfl .nil))))
    intro _
    refine .block ?_
    refine .loop (X := Nat × Nat) (fun ζ => .of [(4, .one (.ptr [4] (g4) 0)), (6, .one (.ptr [6] (g5) 0)), (7, .one (.ptr [7] (g14) 0)), (51, .one (.d (.sl false 2 1 (List.map i64c (l))))), (52, .one (.d (.v (.int .i64 ((l.length : Int)))))), (53, .one (.d (.v (.int .i64 ((ζ.1 : Int))))))] [([4], (g4, g4, .box [.d (.v (.int .i64 (b.lo))), .d (.v (.int .i64 (b.hi)))])), ([6], (g5, g5, .box [.d (.v (.int .i64 (0))), .d (.v (.int .i64 (0)))])), ([7], (g14, ζ.2, .box [.d (.v (.int .i64 (a.lo))), .d (.v (.int .i64 (widenHi b.hi (l.take ζ.1) 9223372036854775807)))]))]) (fun ζ => ζ.1 ≤ l.length) (fun ζ => l.length - ζ.1) ?_ ?_
    ·skip
     exact .here (0, g52) (.of (.cons rfl (.cons rfl (.cons rfl (.cons rfl (.cons rfl (.cons (svI (show (0) = ((0 : Int)) by first | rfl | omega | exact wrap_le (by omega) (by omega) | (rw [wrap_le (by omega) (by omega)]; omega))) .nil)))))) (.cons rfl (.cons rfl (.cons (eq1 (fun z1 => some (g14, g52, O.box [.d (.v (.int .i64 (a.lo))), .d (.v (.int .i64 (z1)))])) (show (9223372036854775807) = (widenHi b.hi (l.take 0) 9223372036854775807) by first | rfl | (exact widenLo_yes (by omega) c3) | (exact widenLo_no (by omega) c3) | (exact widenHi_yes (by omega) c6) | (exact widenHi_no (by omega) c6))) .nil)))) (show 0 ≤ l.length by omega)
    ·rintro ⟨i, q54⟩ hI
     have hI : i ≤ l.length := hI
     have hl9 : l.length ≤ 100 := by omega
     refine .seq ?_
     refine .reg (X := Unit) (fun ζ => .of [(4, .one (.ptr [4] (g4) 0)), (6, .one (.ptr [6] (g5) 0)), (7, .one (.ptr [7] (g14) 0)), (51, .one (.d (.sl false 2 1 (List.map i64c (l))))), (52, .one (.d (.v (.int .i64 ((l.length : Int)))))), (53, .one (.d (.v (.int .i64 ((i : Int)))))), (54, .one (.d (.v (.bool (decide ((i : Int) < (l.length : Int)))))))] [([4], (g4, g4, .box [.d (.v (.int .i64 (b.lo))), .d (.v (.int .i64 (b.hi)))])), ([6], (g5, g5, .box [.d (.v (.int .i64 (0))), .d (.v (.int .i64 (0)))])), ([7], (g14, q54, .box [.d (.v (.int .i64 (a.lo))), .d (.v (.int .i64 (widenHi b.hi (l.take i) 9223372036854775807)))]))]) [⟨[53, 52], some 54, [], []⟩] (fun k55 => ?_) ?_
     ·skip
      refine .bin (.no rfl) rfl rfl rfl rfl rfl rfl ?_
      exact .fin () (.of (.cons rfl (.cons rfl (.cons rfl (.cons rfl (.cons rfl (.cons rfl (.cons rfl .nil))))))) (.cons rfl (.cons rfl (.cons rfl .nil))))
     intro _
     refine .seq ?_
     refine .cond (t := decide ((i : Int) < (l.length : Int))) rfl (fun c5 => ?_) (fun c5 => ?_)
     ·have c5 := of_decide_eq_true c5
      refine .skip ?_
      refine .seq ?_
      refine .block ?_
      refine .seq ?_
      refine .reg (X := Unit) (fun ζ => .of [(4, .one (.ptr [4] (g4) 0)), (6, .one (.ptr [6] (g5) 0)), (7, .one (.ptr [7] (g14) 0)), (11, .one (.d (.v (.int .i64 (l.getD i default))))), (51, .one (.d (.sl false 2 1 (List.map i64c (l))))), (52, .one (.d (.v (.int .i64 ((l.length : Int)))))), (53, .one (.d (.v (.int .i64 ((i : Int))))))] [([4], (g4, g4, .box [.d (.v (.int .i64 (b.lo))), .d (.v (.int .i64 (b.hi)))])), ([6], (g5, g5, .box [.d (.v (.int .i64 (0))), .d (.v (.int .i64 (0)))])), ([7], (g14, q54, .box [.d (.v (.int .i64 (a.lo))), .d (.v (.int .i64 (widenHi b.hi (l.take i) 9223372036854775807)))]))]) [⟨[51, 53], some 55, [], []⟩, ⟨[55], some 56, [], []⟩, ⟨[56], some 11, [], []⟩] (fun k56 => ?_) ?_
      ·skip
       refine .indexAddr (.no rfl) rfl (i) t27 rfl t2 rfl rfl rfl (.d _ _) rfl rfl rfl (map_get (by omega)) rfl rfl ?_
       refine .load (.no rfl) rfl t2 rfl rfl (.d _) rfl rfl rfl rfl ?_
       refine .assign (.no rfl) rfl rfl rfl rfl ?_
       exact .fin () (.of (.cons rfl (.cons rfl (.cons rfl (.cons rfl (.cons rfl (.cons rfl (.cons rfl .nil))))))) (.cons rfl (.cons rfl (.cons rfl .nil))))
      intro _
      refine .seq ?_
      refine .reg (X := Unit) (fun ζ => .of [(4, .one (.ptr [4] (g4) 0)), (6, .one (.ptr [6] (g5) 0)), (7, .one (.ptr [7] (g14) 0)), (11, .one (.d (.v (.int .i64 (l.getD i default))))), (51, .one (.d (.sl false 2 1 (List.map i64c (l))))), (52, .one (.d (.v (.int .i64 ((l.length : Int)))))), (53, .one (.d (.v (.int .i64 ((i : Int)))))), (60, .one (.d (.v (.bool (decide ((l.getD i default) ≥ b.hi))))))] [([4], (g4, g4, .box [.d (.v (.int .i64 (b.lo))), .d (.v (.int .i64 (b.hi)))])), ([6], (g5, g5, .box [.d (.v (.int .i64 (0))), .d (.v (.int .i64 (0)))])), ([7], (g14, q54, .box [.d (.v (.int .i64 (a.lo))), .d (.v (.int .i64 (widenHi b.hi (l.take i) 9223372036854775807)))]))]) [⟨[11], some 57, [], []⟩, ⟨[4], some 58, [], []⟩, ⟨[58], some 59, [[4]], []⟩, ⟨[57, 59], some 60, [], []⟩] (fun k57 => ?_) ?_
      ·skip
       refine .move (.no rfl) rfl rfl rfl rfl ?_
       refine .fieldAddrP (.no rfl) rfl t122 rfl rfl t2 rfl rfl rfl rfl ?_
       refine .load (.no rfl) rfl t2 rfl rfl (.ptr _ _ _ _ _ rfl) rfl rfl rfl rfl ?_
       refine .bin (.no rfl) rfl rfl rfl rfl rfl rfl ?_
       exact .fin () (.of (.cons rfl (.cons rfl (.cons rfl (.cons rfl (.cons rfl (.cons rfl (.cons rfl (.cons rfl .nil)))))))) (.cons rfl (.cons rfl (.cons rfl .nil))))
      intro _
      refine .cond (t := decide ((l.getD i default) ≥ b.hi)) rfl (fun c6 => ?_) (fun c6 => ?_)
      ·have c6 := of_decide_eq_true c6
       refine .reg (X := Nat) (fun ζ => .of [(4, .one (.ptr [4] (g4) 0)), (6, .one (.ptr [6] (g5) 0)), (7, .one (.ptr [7] (g14) 0)), (51, .one (.d (.sl false 2 1 (List.map i64c (l))))), (52, .one (.d (.v (.int .i64 ((l.length : Int)))))), (53, .one (.d (.v (.int .i64 ((i : Int))))))] [([4], (g4, g4, .box [.d (.v (.int .i64 (b.lo))), .d (.v (.int .i64 (b.hi)))])), ([6], (g5, g5, .box [.d (.v (.int .i64 (0))), .d (.v (.int .i64 (0)))])), ([7], (g14, ζ, .box [.d (.v (.int .i64 (a.lo))), .d (.v (.int .i64 (min (widenHi b.hi (l.take i) 9223372036854775807) (l.getD i default))))]))]) [⟨[7], some 61, [], []⟩, ⟨[61], some 62, [[7]], []⟩, ⟨[11], some 63, [], []⟩, ⟨[62, 63], some 64, [], []⟩, ⟨[7], some 65, [], []⟩, ⟨[65, 64], none, [[7]], [[7]]⟩] (fun k58 => ?_) ?_
       ·skip
        refine .fieldAddrP (.no rfl) rfl t122 rfl rfl t2 rfl rfl rfl rfl ?_
        refine .load (.no rfl) rfl t2 rfl rfl (.ptr _ _ _ _ _ rfl) rfl rfl rfl rfl ?_
        refine .move (.no rfl) rfl rfl rfl rfl ?_
        refine .min (.no rfl) rfl rfl rfl rfl (min_of _ _) rfl ?_
        refine .fieldAddrP (.no rfl) rfl t122 rfl rfl t2 rfl rfl rfl rfl ?_
        refine .store (.no rfl) rfl t2 rfl rfl rfl rfl rfl rfl rfl rfl rfl ?_
        exact .fin (k58 + 1 + 1 + 1 + 1 + 1) (.of (.cons rfl (.cons rfl (.cons rfl (.cons rfl (.cons rfl (.cons rfl .nil)))))) (.cons rfl (.cons rfl (.cons rfl .nil))))
       intro g59
       refine .reg (X := Unit) (fun ζ => .of [(4, .one (.ptr [4] (g4) 0)), (6, .one (.ptr [6] (g5) 0)), (7, .one (.ptr [7] (g14) 0)), (51, .one (.d (.sl false 2 1 (List.map i64c (l))))), (52, .one (.d (.v (.int .i64 ((l.length : Int)))))), (53, .one (.d (.v (.int .i64 (IntKind.wrap .i64 ((i : Int) + 1))))))] [([4], (g4, g4, .box [.d (.v (.int .i64 (b.lo))), .d (.v (.int .i64 (b.hi)))])), ([6], (g5, g5, .box [.d (.v (.int .i64 (0))), .d (.v (.int .i64 (0)))])), ([7], (g14, g59, .box [.d (.v (.int .i64 (a.lo))), .d (.v (.int .i64 (min (widenHi b.hi (l.take i) 9223372036854775807) (l.getD i default))))]))]) [⟨[53], some 66, [], []⟩, ⟨[66], some 53, [], []⟩] (fun k60 => ?_) ?_
       ·skip
        refine .bin (.no rfl) rfl rfl rfl rfl rfl rfl ?_
        refine .move (.no rfl) rfl rfl rfl rfl ?_
        exact .fin () (.of (.cons rfl (.cons rfl (.cons rfl (.cons rfl (.cons rfl (.cons rfl .nil)))))) (.cons rfl (.cons rfl (.cons rfl .nil))))
       intro _
       exact .here ((i + 1), g59) (.of (.cons rfl (.cons rfl (.cons rfl (.cons rfl (.cons rfl (.cons (svI (show (IntKind.wrap .i64 ((i : Int) + 1)) = (((i + 1) : Int)) by first | rfl | omega | exact wrap_le (by omega) (by omega) | (rw [wrap_le (by omega) (by omega)]; omega))) .nil)))))) (.cons rfl (.cons rfl (.cons (eq1 (fun z1 => some (g14, g59, O.box [.d (.v (.int .i64 (a.lo))), .d (.v (.int .i64 (z1)))])) (show (min (widenHi b.hi (l.take i) 9223372036854775807) (l.getD i default)) = (widenHi b.hi (l.take (i + 1)) 9223372036854775807) by first | rfl | (exact widenLo_yes (by omega) c3) | (exact widenLo_no (by omega) c3) | (exact widenHi_yes (by omega) c6) | (exact widenHi_no (by omega) c6))) .nil)))) ⟨(show (i + 1) ≤ l.length by omega), (show l.length - (i + 1) < l.length - i by omega)⟩
      ·have c6 := of_decide_eq_false c6
       refine .skip ?_
       refine .reg (X := Unit) (fun ζ => .of [(4, .one (.ptr [4] (g4) 0)), (6, .one (.ptr [6] (g5) 0)), (7, .one (.ptr [7] (g14) 0)), (51, .one (.d (.sl false 2 1 (List.map i64c (l))))), (52, .one (.d (.v (.int .i64 ((l.length : Int)))))), (53, .one (.d (.v (.int .i64 (IntKind.wrap .i64 ((i : Int) + 1))))))] [([4], (g4, g4, .box [.d (.v (.int .i64 (b.lo))), .d (.v (.int .i64 (b.hi)))])), ([6], (g5, g5, .box [.d (.v (.int .i64 (0))), .d (.v (.int .i64 (0)))])), ([7], (g14, q54, .box [.d (.v (.int .i64 (a.lo))), .d (.v (.int .i64 (widenHi b.hi (l.take i) 9223372036854775807)))]))]) [⟨[53], some 66, [], []⟩, ⟨[66], some 53, [], []⟩] (fun k61 => ?_) ?_
       ·skip
        refine .bin (.no rfl) rfl rfl rfl rfl rfl rfl ?_
        refine .move (.no rfl) rfl rfl rfl rfl ?_
        exact .fin () (.of (.cons rfl (.cons rfl (.cons rfl (.cons rfl (.cons rfl (.cons rfl .nil)))))) (.cons rfl (.cons rfl (.cons rfl .nil))))
       intro _
       exact .here ((i + 1), q54) (.of (.cons rfl (.cons rfl (.cons rfl (.cons rfl (.cons rfl (.cons (svI (show (IntKind.wrap .i64 ((i : Int) + 1)) = (((i + 1) : Int)) by first | rfl | omega | exact wrap_le (by omega) (by omega) | (rw [wrap_le (by omega) (by omega)]; omega))) .nil)))))) (.cons rfl (.cons rfl (.cons (eq1 (fun z1 => some (g14, q54, O.box [.d (.v (.int .i64 (a.lo))), .d (.v (.int .i64 (z1)))])) (show (widenHi b.hi (l.take i) 9223372036854775807) = (widenHi b.hi (l.take (i + 1)) 9223372036854775807) by first | rfl | (exact widenLo_yes (by omega) c3) | (exact widenLo_no (by omega) c3) | (exact widenHi_yes (by omega) c6) | (exact widenHi_no (by omega) c6))) .nil)))) ⟨(show (i + 1) ≤ l.length by omega), (show l.length - (i + 1) < l.length - i by omega)⟩
     ·have c5 := of_decide_eq_false c5
      refine .exit ?_
      refine .seq ?_
      refine .reg (X := Nat) (fun ζ => .of [(6, .one (.ptr [6] (g5) 0))] [([6], (g5, ζ, .box [.d (.v (.int .i64 (a.lo))), .d (.v (.int .i64 (widenHi b.hi (l.take i) 9223372036854775807)))]))]) [⟨[7], some 67, [[7]], []⟩, ⟨[6, 67], none, [[6]], [[6]]⟩] (fun k62 => ?_) ?_
      ·skip
       refine .load (.no rfl) rfl t122 rfl rfl (.ptr _ _ _ _ _ rfl) rfl rfl rfl rfl ?_
       refine .store (.no rfl) rfl t122 rfl rfl rfl rfl rfl rfl rfl rfl rfl ?_
       exact .fin (k62 + 1) (.of (.cons rfl .nil) (.cons rfl .nil))
      intro g63
      refine .ret ?_
      have e64 : (a.lo) = ((Iv.widenOk l a b).lo) := by (rw [Iv.widenOk_yes c0]; simp only [Iv.widen]; first | (rw [if_neg c1]; done) | (rw [List.take_of_length_le (by omega), if_pos c4]; done))
      have e65 : (widenHi b.hi (l.take i) 9223372036854775807) = ((Iv.widenOk l a b).hi) := by (rw [Iv.widenOk_yes c0]; simp only [Iv.widen]; first | (rw [if_neg c1]; done) | (rw [List.take_of_length_le (by omega), if_pos c4]; done))
      have hc66 := eq2 (fun z1 z2 => some (g5, g63, O.box [.d (.v (.int .i64 (z1))), .d (.v (.int .i64 (z2)))])) e64 e65
      show _ ∧ _
      exact ⟨.inr rfl, .done ⟨_, [], [], _, .cell (cells := [.d (.v (.int .i64 ((Iv.widenOk l a b).lo))), .d (.v (.int .i64 ((Iv.widenOk l a b).hi)))]) rfl hc66 t122 rfl rfl .nil, .cons (Reads.d _).gives (.cons (Reads.d _).gives .nil), nodupB_ok rfl, by simp, (by simp)⟩⟩
   ·have c4 := of_decide_eq_false c4
    refine .skip ?_
    refine .seq ?_
    refine .reg (X := Nat) (fun ζ => .of [(6, .one (.ptr [6] (g5) 0))] [([6], (g5, ζ, .box [.d (.v (.int .i64 (a.lo))), .d (.v (.int .i64 (a.hi)))]))]) [⟨[7], some 67, [[7]], []⟩, ⟨[6, 67], none, [[6]], [[6]]⟩] (fun k67 => ?_) ?_
    ·skip
     refine .load (.no rfl) rfl t122 rfl rfl (.ptr _ _ _ _ _ rfl) rfl rfl rfl rfl ?_
     refine .store (.no rfl) rfl t122 rfl rfl rfl rfl rfl rfl rfl rfl rfl ?_
     exact .fin (k67 + 1) (.of (.cons rfl .nil) (.cons rfl .nil))
    intro g68
    refine .ret ?_
    have e69 : (a.lo) = ((Iv.widenOk l a b).lo) := by (rw [Iv.widenOk_yes c0]; simp only [Iv.widen]; first | (rw [if_neg c1]; done) | (rw [if_neg c4]; done))
    have e70 : (a.hi) = ((Iv.widenOk l a b).hi) := by (rw [Iv.widenOk_yes c0]; simp only [Iv.widen]; first | (rw [if_neg c1]; done) | (rw [if_neg c4]; done))
    have hc71 := eq2 (fun z1 z2 => some (g5, g68, O.box [.d (.v (.int .i64 (z1))), .d (.v (.int .i64 (z2)))])) e69 e70
    show _ ∧ _
    exact ⟨.inr rfl, .done ⟨_, [], [], _, .cell (cells := [.d (.v (.int .i64 ((Iv.widenOk l a b).lo))), .d (.v (.int .i64 ((Iv.widenOk l a b).hi)))]) rfl hc71 t122 rfl rfl .nil, .cons (Reads.d _).gives (.cons (Reads.d _).gives .nil), nodupB_ok rfl, by simp, (by simp)⟩⟩
end Go.Proofs

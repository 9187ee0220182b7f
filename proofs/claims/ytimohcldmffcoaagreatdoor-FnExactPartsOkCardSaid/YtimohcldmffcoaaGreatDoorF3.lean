/- Contracts of the program's functions at this seat, printed by a program of ours and checked by Lean: each under the conditions of its own statement. -/
import Derived.Test.YtimohcldmffcoaaGreatDoorF2
set_option linter.all false
set_option linter.unnecessarySimpa false
set_option linter.unusedSectionVars false
set_option linter.unusedSimpArgs false
set_option linter.unusedVariables false
namespace Go.Proofs
open Go Go.Proofs Go.Ev

theorem c_eqEnvS (a : List Env) (b : List Env) : Trip Tryz.prog 16 [(false, 1), (false, 1)] ([.sl false 77 3 (List.map Env.c77 (a))] ++ [.sl false 77 3 (List.map Env.c77 (b))]) [(false, 1)] [.v (.bool (all2 Env.same a b))] [] := by
 refine Trip.of Tryz.func16 (by decide) (c := _) rfl rfl (shB_ok rfl) (Nat.le_of_ble_eq_true rfl) rfl (AftOk.nil _) ?_
 refine .sat (t := 0) rfl (fun hs1 => ?_)
 have hs1l : a.length ≤ 9223372036854775807 := hs1.maplen
 refine .sat (t := 1) rfl (fun hs2 => ?_)
 have hs2l : b.length ≤ 9223372036854775807 := hs2.maplen
 refine .seq ?_
 refine .reg (X := Unit) (fun ζ => .of [(0, .one (.d (.sl false 77 3 (List.map Env.c77 (a))))), (1, .one (.d (.sl false 77 3 (List.map Env.c77 (b)))))] []) [⟨[], some 4, [], []⟩] (fun k3 => ?_) ?_
 ·skip
  refine .assign (.no rfl) rfl rfl rfl rfl ?_
  exact .fin () (.of (.cons rfl (.cons rfl .nil)) .nil)
 intro _
 refine .seq ?_
 refine .seq ?_
 refine .reg (X := Unit) (fun ζ => .of [(0, .one (.d (.sl false 77 3 (List.map Env.c77 (a))))), (1, .one (.d (.sl false 77 3 (List.map Env.c77 (b))))), (10, .one (.d (.v (.bool ((a.length : Int) != (b.length : Int))))))] []) [⟨[0], some 6, [], []⟩, ⟨[6], some 7, [], []⟩, ⟨[1], some 8, [], []⟩, ⟨[8], some 9, [], []⟩, ⟨[7, 9], some 10, [], []⟩] (fun k4 => ?_) ?_
 ·skip
  refine .move (.no rfl) rfl rfl rfl rfl ?_
  refine .len (.no rfl) rfl (z := (a.length : Int)) t40 rfl rfl rfl (.d _ _) (map_len _ _) rfl ?_
  refine .move (.no rfl) rfl rfl rfl rfl ?_
  refine .len (.no rfl) rfl (z := (b.length : Int)) t40 rfl rfl rfl (.d _ _) (map_len _ _) rfl ?_
  refine .bin (.no rfl) rfl rfl rfl rfl rfl rfl ?_
  exact .fin () (.of (.cons rfl (.cons rfl (.cons rfl .nil))) .nil)
 intro _
 refine .cond (t := (a.length : Int) != (b.length : Int)) rfl (fun c0 => ?_) (fun c0 => ?_)
 ·have c0 := (by simpa using c0 : ¬ ((a.length : Int) = (b.length : Int)))
  refine .seq ?_
  refine .reg (X := Unit) (fun ζ => .of [(4, .one (.d (.v (.bool (false)))))] []) [⟨[], some 4, [], []⟩] (fun k5 => ?_) ?_
  ·skip
   refine .assign (.no rfl) rfl rfl rfl rfl ?_
   exact .fin () (.of (.cons rfl .nil) .nil)
  intro _
  refine .ret ?_
  have e6 : (false) = (all2 Env.same a b) := by exact (all2_ne _ c0).symm
  have hc7 := eq1 (fun z1 => SV.one (.d (.v (.bool (z1))))) e6
  show _ ∧ _
  exact ⟨.inr rfl, .done ⟨_, [], [], _, .one (c := .d (.v (.bool (all2 Env.same a b)))) (hc7) .nil, .cons (Reads.d _).gives .nil, nodupB_ok rfl, by simp, (by simp)⟩⟩
 ·have c0 := (by simpa using c0 : (a.length : Int) = (b.length : Int))
  refine .skip ?_
  refine .seq ?_
  refine .seq ?_
  refine .reg (X := Unit) (fun ζ => .of [(0, .one (.d (.sl false 77 3 (List.map Env.c77 (a))))), (1, .one (.d (.sl false 77 3 (List.map Env.c77 (b))))), (5, .one (.d (.v (.int .i64 (0)))))] []) [⟨[], some 5, [], []⟩] (fun k8 => ?_) ?_
  ·skip
   refine .assign (.no rfl) rfl rfl rfl rfl ?_
   exact .fin () (.of (.cons rfl (.cons rfl (.cons rfl .nil))) .nil)
  intro _
  refine .block ?_
  refine .loop (X := Nat) (fun ζ => .of [(0, .one (.d (.sl false 77 3 (List.map Env.c77 (a))))), (1, .one (.d (.sl false 77 3 (List.map Env.c77 (b))))), (5, .one (.d (.v (.int .i64 ((ζ : Int))))))] []) (fun ζ => ζ ≤ a.length ∧ a.length = b.length ∧ allTo ζ (fun i => Env.same (a.getD i default) (b.getD i default)) = true) (fun ζ => a.length - ζ) ?_ ?_
  ·skip
   exact .here 0 (.of (.cons rfl (.cons rfl (.cons (svI (show (0) = ((0 : Int)) by first | rfl | omega | exact wrap_le (by omega) (by omega) | (rw [wrap_le (by omega) (by omega)]; omega))) .nil))) .nil) (show 0 ≤ a.length ∧ a.length = b.length ∧ allTo 0 (fun i => Env.same (a.getD i default) (b.getD i default)) = true by exact ⟨by omega, by omega, rfl⟩)
  ·rintro j hI
   have hI : j ≤ a.length ∧ a.length = b.length ∧ allTo j (fun i => Env.same (a.getD i default) (b.getD i default)) = true := hI
   refine .seq ?_
   refine .seq ?_
   refine .reg (X := Unit) (fun ζ => .of [(0, .one (.d (.sl false 77 3 (List.map Env.c77 (a))))), (1, .one (.d (.sl false 77 3 (List.map Env.c77 (b))))), (5, .one (.d (.v (.int .i64 ((j : Int)))))), (14, .one (.d (.v (.bool (decide ((j : Int) < (a.length : Int)))))))] []) [⟨[5], some 11, [], []⟩, ⟨[0], some 12, [], []⟩, ⟨[12], some 13, [], []⟩, ⟨[11, 13], some 14, [], []⟩] (fun k9 => ?_) ?_
   ·skip
    refine .move (.no rfl) rfl rfl rfl rfl ?_
    refine .move (.no rfl) rfl rfl rfl rfl ?_
    refine .len (.no rfl) rfl (z := (a.length : Int)) t40 rfl rfl rfl (.d _ _) (map_len _ _) rfl ?_
    refine .bin (.no rfl) rfl rfl rfl rfl rfl rfl ?_
    exact .fin () (.of (.cons rfl (.cons rfl (.cons rfl (.cons rfl .nil)))) .nil)
   intro _
   refine .cond (t := decide ((j : Int) < (a.length : Int))) rfl (fun c1 => ?_) (fun c1 => ?_)
   ·have c1 := of_decide_eq_true c1
    refine .skip ?_
    refine .seq ?_
    refine .block ?_
    refine .seq ?_
    refine .regD (X := Unit) (by kernel_rfl) (fun ζ => .of [(0, .one (.d (.sl false 77 3 (List.map Env.c77 (a))))), (1, .one (.d (.sl false 77 3 (List.map Env.c77 (b))))), (5, .one (.d (.v (.int .i64 ((j : Int)))))), (26, .one (.d (.v (.bool (!(Env.same (a.getD j default) (b.getD j default)))))))] []) [⟨[0], some 17, [], []⟩, ⟨[5], some 18, [], []⟩, ⟨[17, 18], some 19, [], []⟩, ⟨[19], some 20, [], []⟩, ⟨[1], some 21, [], []⟩, ⟨[5], some 22, [], []⟩, ⟨[21, 22], some 23, [], []⟩, ⟨[23], some 24, [], []⟩, ⟨[20, 24], some 25, [], []⟩, ⟨[25], some 26, [], []⟩] (by kernel_rfl) (fun k10 => ?_) ?_
    ·skip
     refine .move (.no rfl) rfl rfl rfl rfl ?_
     refine .move (.no rfl) rfl rfl rfl rfl ?_
     refine .indexAddr (.no rfl) rfl (j) t40 rfl t77 rfl rfl rfl (.d _ _) rfl rfl rfl (map_get (by omega)) rfl rfl ?_
     refine .load (.no rfl) rfl t77 rfl rfl (.d _) rfl rfl rfl rfl ?_
     refine .move (.no rfl) rfl rfl rfl rfl ?_
     refine .move (.no rfl) rfl rfl rfl rfl ?_
     refine .indexAddr (.no rfl) rfl (j) t40 rfl t77 rfl rfl rfl (.d _ _) rfl rfl rfl (map_get (by omega)) rfl rfl ?_
     refine .load (.no rfl) rfl t77 rfl rfl (.d _) rfl rfl rfl rfl ?_
     refine .call (.no rfl) rfl [] [] (c_eqEnv (a.getD j default) (b.getD j default)) rfl rfl rfl rfl rfl (.cons (Reads.d _).gives (.cons (Reads.d _).gives (.cons (Reads.d _).gives (.cons (Reads.d _).gives (.cons (Reads.d _).gives (.cons (Reads.d _).gives .nil)))))) rfl rfl (fun h => absurd rfl h) (.own [25, 0] .nil) (.nil) rfl rfl rfl (by simp) rfl rfl rfl ?_
     refine .un (.no rfl) rfl rfl rfl rfl rfl ?_
     exact .fin () (.of (.cons rfl (.cons rfl (.cons rfl (.cons rfl .nil)))) .nil)
    intro _
    refine .cond (t := !(Env.same (a.getD j default) (b.getD j default))) rfl (fun c2 => ?_) (fun c2 => ?_)
    ·have c2 := c2
     try simp only [Bool.or_eq_true, Bool.or_eq_false_iff, Bool.and_eq_true, Bool.and_eq_false_iff, decide_eq_true_eq, decide_eq_false_iff_not, Bool.not_eq_true', Bool.not_eq_false', bne_iff_ne, beq_iff_eq, bne_eq_false_iff_eq, beq_eq_false_iff_ne, ne_eq, Bool.not_eq_eq_eq_not, Bool.not_true, Bool.not_false] at c2
     refine .seq ?_
     refine .reg (X := Unit) (fun ζ => .of [(4, .one (.d (.v (.bool (false)))))] []) [⟨[], some 4, [], []⟩] (fun k11 => ?_) ?_
     ·skip
      refine .assign (.no rfl) rfl rfl rfl rfl ?_
      exact .fin () (.of (.cons rfl .nil) .nil)
     intro _
     refine .ret ?_
     have e12 : (false) = (all2 Env.same a b) := by exact (all2_fail _ (j := j) (by omega) (by simpa [] using c2)).symm
     have hc13 := eq1 (fun z1 => SV.one (.d (.v (.bool (z1))))) e12
     show _ ∧ _
     exact ⟨.inr rfl, .done ⟨_, [], [], _, .one (c := .d (.v (.bool (all2 Env.same a b)))) (hc13) .nil, .cons (Reads.d _).gives .nil, nodupB_ok rfl, by simp, (by simp)⟩⟩
    ·have c2 := c2
     try simp only [Bool.or_eq_true, Bool.or_eq_false_iff, Bool.and_eq_true, Bool.and_eq_false_iff, decide_eq_true_eq, decide_eq_false_iff_not, Bool.not_eq_true', Bool.not_eq_false', bne_iff_ne, beq_iff_eq, bne_eq_false_iff_eq, beq_eq_false_iff_ne, ne_eq, Bool.not_eq_eq_eq_not, Bool.not_true, Bool.not_false] at c2
     refine .skip ?_
     refine .reg (X := Unit) (fun ζ => .of [(0, .one (.d (.sl false 77 3 (List.map Env.c77 (a))))), (1, .one (.d (.sl false 77 3 (List.map Env.c77 (b))))), (5, .one (.d (.v (.int .i64 (IntKind.wrap .i64 ((j : Int) + 1))))))] []) [⟨[5], some 15, [], []⟩, ⟨[15], some 16, [], []⟩, ⟨[16], some 5, [], []⟩] (fun k14 => ?_) ?_
     ·skip
      refine .move (.no rfl) rfl rfl rfl rfl ?_
      refine .bin (.no rfl) rfl rfl rfl rfl rfl rfl ?_
      refine .assign (.no rfl) rfl rfl rfl rfl ?_
      exact .fin () (.of (.cons rfl (.cons rfl (.cons rfl .nil))) .nil)
     intro _
     exact .here (j + 1) (.of (.cons rfl (.cons rfl (.cons (svI (show (IntKind.wrap .i64 ((j : Int) + 1)) = (((j + 1) : Int)) by first | rfl | omega | exact wrap_le (by omega) (by omega) | (rw [wrap_le (by omega) (by omega)]; omega))) .nil))) .nil) ⟨(show (j + 1) ≤ a.length ∧ a.length = b.length ∧ allTo (j + 1) (fun i => Env.same (a.getD i default) (b.getD i default)) = true by exact ⟨by omega, by omega, allTo_step hI.2.2 (by simpa [] using c2)⟩), (show a.length - (j + 1) < a.length - j by omega)⟩
   ·have c1 := of_decide_eq_false c1
    refine .exit ?_
    refine .seq ?_
    refine .reg (X := Unit) (fun ζ => .of [(4, .one (.d (.v (.bool (true)))))] []) [⟨[], some 4, [], []⟩] (fun k15 => ?_) ?_
    ·skip
     refine .assign (.no rfl) rfl rfl rfl rfl ?_
     exact .fin () (.of (.cons rfl .nil) .nil)
    intro _
    refine .ret ?_
    have e16 : (true) = (all2 Env.same a b) := by (have hj : j = a.length := (by omega); subst hj; exact (all2_done _ hI.2.1 hI.2.2).symm)
    have hc17 := eq1 (fun z1 => SV.one (.d (.v (.bool (z1))))) e16
    show _ ∧ _
    exact ⟨.inr rfl, .done ⟨_, [], [], _, .one (c := .d (.v (.bool (all2 Env.same a b)))) (hc17) .nil, .cons (Reads.d _).gives .nil, nodupB_ok rfl, by simp, (by simp)⟩⟩
theorem c_eqEntry (a : Entry) (b : Entry) : Trip Tryz.prog 144 [(true, 2), (true, 2)] (Entry.c a ++ Entry.c b) [(false, 1)] [.v (.bool (Entry.same a b))] [] := by
 refine Trip.of Tryz.func144 (by decide) (c := _) rfl rfl (shB_ok rfl) (Nat.le_of_ble_eq_true rfl) rfl (AftOk.nil _) ?_
 refine .seq ?_
 refine .reg (X := Nat × Nat) (fun ζ => .of [(2, .one (.ptr [2] (ζ.1) 0)), (3, .one (.ptr [3] (ζ.2) 0))] [([2], (ζ.1, ζ.1, .box [.d (.v (.int .i64 (a.line))), .d (.v (.int .i64 (a.pick)))])), ([3], (ζ.2, ζ.2, .box [.d (.v (.int .i64 (b.line))), .d (.v (.int .i64 (b.pick)))]))]) [⟨[0], some 2, [], [[2]]⟩, ⟨[1], some 3, [], [[3]]⟩, ⟨[], some 4, [], []⟩] (fun k1 => ?_) ?_
 ·skip
  refine .box (.no rfl) rfl rfl rfl rfl rfl ?_
  refine .box (.no rfl) rfl rfl rfl rfl rfl ?_
  refine .assign (.no rfl) rfl rfl rfl rfl ?_
  exact .fin (k1, k1 + 1) (.of (.cons rfl (.cons rfl .nil)) (.cons rfl (.cons rfl .nil)))
 rintro ⟨g2, g3⟩
 refine .seq ?_
 refine .seq ?_
 refine .reg (X := Unit) (fun ζ => .of [(2, .one (.ptr [2] (g2) 0)), (3, .one (.ptr [3] (g3) 0)), (9, .one (.d (.v (.bool (a.line != b.line)))))] [([2], (g2, g2, .box [.d (.v (.int .i64 (a.line))), .d (.v (.int .i64 (a.pick)))])), ([3], (g3, g3, .box [.d (.v (.int .i64 (b.line))), .d (.v (.int .i64 (b.pick)))]))]) [⟨[2], some 5, [], []⟩, ⟨[5], some 6, [[2]], []⟩, ⟨[3], some 7, [], []⟩, ⟨[7], some 8, [[3]], []⟩, ⟨[6, 8], some 9, [], []⟩] (fun k4 => ?_) ?_
 ·skip
  refine .fieldAddrP (.no rfl) rfl t137 rfl rfl t2 rfl rfl rfl rfl ?_
  refine .load (.no rfl) rfl t2 rfl rfl (.ptr _ _ _ _ _ rfl) rfl rfl rfl rfl ?_
  refine .fieldAddrP (.no rfl) rfl t137 rfl rfl t2 rfl rfl rfl rfl ?_
  refine .load (.no rfl) rfl t2 rfl rfl (.ptr _ _ _ _ _ rfl) rfl rfl rfl rfl ?_
  refine .bin (.no rfl) rfl rfl rfl rfl rfl rfl ?_
  exact .fin () (.of (.cons rfl (.cons rfl (.cons rfl .nil))) (.cons rfl (.cons rfl .nil)))
 intro _
 refine .cond (t := a.line != b.line) rfl (fun c0 => ?_) (fun c0 => ?_)
 ·have c0 := (by simpa using c0 : ¬ (a.line = b.line))
  refine .seq ?_
  refine .reg (X := Unit) (fun ζ => .of [(4, .one (.d (.v (.bool (false)))))] []) [⟨[], some 4, [], []⟩] (fun k5 => ?_) ?_
  ·skip
   refine .assign (.no rfl) rfl rfl rfl rfl ?_
   exact .fin () (.of (.cons rfl .nil) .nil)
  intro _
  refine .ret ?_
  have e6 : (false) = (Entry.same a b) := by (simp_all [Entry.same])
  have hc7 := eq1 (fun z1 => SV.one (.d (.v (.bool (z1))))) e6
  show _ ∧ _
  exact ⟨.inr rfl, .done ⟨_, [], [], _, .one (c := .d (.v (.bool (Entry.same a b)))) (hc7) .nil, .cons (Reads.d _).gives .nil, nodupB_ok rfl, by simp, (by simp)⟩⟩
 ·have c0 := (by simpa using c0 : a.line = b.line)
  refine .skip ?_
  refine .seq ?_
  refine .seq ?_
  refine .reg (X := Unit) (fun ζ => .of [(14, .one (.d (.v (.bool (a.pick != b.pick)))))] []) [⟨[2], some 10, [], []⟩, ⟨[10], some 11, [[2]], []⟩, ⟨[3], some 12, [], []⟩, ⟨[12], some 13, [[3]], []⟩, ⟨[11, 13], some 14, [], []⟩] (fun k8 => ?_) ?_
  ·skip
   refine .fieldAddrP (.no rfl) rfl t137 rfl rfl t2 rfl rfl rfl rfl ?_
   refine .load (.no rfl) rfl t2 rfl rfl (.ptr _ _ _ _ _ rfl) rfl rfl rfl rfl ?_
   refine .fieldAddrP (.no rfl) rfl t137 rfl rfl t2 rfl rfl rfl rfl ?_
   refine .load (.no rfl) rfl t2 rfl rfl (.ptr _ _ _ _ _ rfl) rfl rfl rfl rfl ?_
   refine .bin (.no rfl) rfl rfl rfl rfl rfl rfl ?_
   exact .fin () (.of (.cons rfl .nil) .nil)
  intro _
  refine .cond (t := a.pick != b.pick) rfl (fun c1 => ?_) (fun c1 => ?_)
  ·have c1 := (by simpa using c1 : ¬ (a.pick = b.pick))
   refine .seq ?_
   refine .reg (X := Unit) (fun ζ => .of [(4, .one (.d (.v (.bool (false)))))] []) [⟨[], some 4, [], []⟩] (fun k9 => ?_) ?_
   ·skip
    refine .assign (.no rfl) rfl rfl rfl rfl ?_
    exact .fin () (.of (.cons rfl .nil) .nil)
   intro _
   refine .ret ?_
   have e10 : (false) = (Entry.same a b) := by (simp_all [Entry.same])
   have hc11 := eq1 (fun z1 => SV.one (.d (.v (.bool (z1))))) e10
   show _ ∧ _
   exact ⟨.inr rfl, .done ⟨_, [], [], _, .one (c := .d (.v (.bool (Entry.same a b)))) (hc11) .nil, .cons (Reads.d _).gives .nil, nodupB_ok rfl, by simp, (by simp)⟩⟩
  ·have c1 := (by simpa using c1 : a.pick = b.pick)
   refine .skip ?_
   refine .seq ?_
   refine .reg (X := Unit) (fun ζ => .of [(4, .one (.d (.v (.bool (true)))))] []) [⟨[], some 4, [], []⟩] (fun k12 => ?_) ?_
   ·skip
    refine .assign (.no rfl) rfl rfl rfl rfl ?_
    exact .fin () (.of (.cons rfl .nil) .nil)
   intro _
   refine .ret ?_
   have e13 : (true) = (Entry.same a b) := by (simp_all [Entry.same])
   have hc14 := eq1 (fun z1 => SV.one (.d (.v (.bool (z1))))) e13
   show _ ∧ _
   exact ⟨.inr rfl, .done ⟨_, [], [], _, .one (c := .d (.v (.bool (Entry.same a b)))) (hc14) .nil, .cons (Reads.d _).gives .nil, nodupB_ok rfl, by simp, (by simp)⟩⟩
theorem c_eqEntryS (a : List Entry) (b : List Entry) : Trip Tryz.prog 106 [(false, 1), (false, 1)] ([.sl false 137 2 (List.map Entry.c (a))] ++ [.sl false 137 2 (List.map Entry.c (b))]) [(false, 1)] [.v (.bool (all2 Entry.same a b))] [] := by
 refine Trip.of Tryz.func106 (by decide) (c := _) rfl rfl (shB_ok rfl) (Nat.le_of_ble_eq_true rfl) rfl (AftOk.nil _) ?_
 refine .sat (t := 0) rfl (fun hs1 => ?_)
 have hs1l : a.length ≤ 9223372036854775807 := hs1.maplen
 refine .sat (t := 1) rfl (fun hs2 => ?_)
 have hs2l : b.length ≤ 9223372036854775807 := hs2.maplen
 refine .seq ?_
 refine .reg (X := Unit) (fun ζ => .of [(0, .one (.d (.sl false 137 2 (List.map Entry.c (a))))), (1, .one (.d (.sl false 137 2 (List.map Entry.c (b)))))] []) [⟨[], some 4, [], []⟩] (fun k3 => ?_) ?_
 ·skip
  refine .assign (.no rfl) rfl rfl rfl rfl ?_
  exact .fin () (.of (.cons rfl (.cons rfl .nil)) .nil)
 intro _
 refine .seq ?_
 refine .seq ?_
 refine .reg (X := Unit) (fun ζ => .of [(0, .one (.d (.sl false 137 2 (List.map Entry.c (a))))), (1, .one (.d (.sl false 137 2 (List.map Entry.c (b))))), (10, .one (.d (.v (.bool ((a.length : Int) != (b.length : Int))))))] []) [⟨[0], some 6, [], []⟩, ⟨[6], some 7, [], []⟩, ⟨[1], some 8, [], []⟩, ⟨[8], some 9, [], []⟩, ⟨[7, 9], some 10, [], []⟩] (fun k4 => ?_) ?_
 ·skip
  refine .move (.no rfl) rfl rfl rfl rfl ?_
  refine .len (.no rfl) rfl (z := (a.length : Int)) t97 rfl rfl rfl (.d _ _) (map_len _ _) rfl ?_
  refine .move (.no rfl) rfl rfl rfl rfl ?_
  refine .len (.no rfl) rfl (z := (b.length : Int)) t97 rfl rfl rfl (.d _ _) (map_len _ _) rfl ?_
  refine .bin (.no rfl) rfl rfl rfl rfl rfl rfl ?_
  exact .fin () (.of (.cons rfl (.cons rfl (.cons rfl .nil))) .nil)
 intro _
 refine .cond (t := (a.length : Int) != (b.length : Int)) rfl (fun c0 => ?_) (fun c0 => ?_)
 ·have c0 := (by simpa using c0 : ¬ ((a.length : Int) = (b.length : Int)))
  refine .seq ?_
  refine .reg (X := Unit) (fun ζ => .of [(4, .one (.d (.v (.bool (false)))))] []) [⟨[], some 4, [], []⟩] (fun k5 => ?_) ?_
  ·skip
   refine .assign (.no rfl) rfl rfl rfl rfl ?_
   exact .fin () (.of (.cons rfl .nil) .nil)
  intro _
  refine .ret ?_
  have e6 : (false) = (all2 Entry.same a b) := by exact (all2_ne _ c0).symm
  have hc7 := eq1 (fun z1 => SV.one (.d (.v (.bool (z1))))) e6
  show _ ∧ _
  exact ⟨.inr rfl, .done ⟨_, [], [], _, .one (c := .d (.v (.bool (all2 Entry.same a b)))) (hc7) .nil, .cons (Reads.d _).gives .nil, nodupB_ok rfl, by simp, (by simp)⟩⟩
 ·have c0 := (by simpa using c0 : (a.length : Int) = (b.length : Int))
  refine .skip ?_
  refine .seq ?_
  refine .seq ?_
  refine .reg (X := Unit) (fun ζ => .of [(0, .one (.d (.sl false 137 2 (List.map Entry.c (a))))), (1, .one (.d (.sl false 137 2 (List.map Entry.c (b))))), (5, .one (.d (.v (.int .i64 (0)))))] []) [⟨[], some 5, [], []⟩] (fun k8 => ?_) ?_
  ·skip
   refine .assign (.no rfl) rfl rfl rfl rfl ?_
   exact .fin () (.of (.cons rfl (.cons rfl (.cons rfl .nil))) .nil)
  intro _
  refine .block ?_
  refine .loop (X := Nat) (fun ζ => .of [(0, .one (.d (.sl false 137 2 (List.map Entry.c (a))))), (1, .one (.d (.sl false 137 2 (List.map Entry.c (b))))), (5, .one (.d (.v (.int .i64 ((ζ : Int))))))] []) (fun ζ => ζ ≤ a.length ∧ a.length = b.length ∧ allTo ζ (fun i => Entry.same (a.getD i default) (b.getD i default)) = true) (fun ζ => a.length - ζ) ?_ ?_
  ·skip
   exact .here 0 (.of (.cons rfl (.cons rfl (.cons (svI (show (0) = ((0 : Int)) by first | rfl | omega | exact wrap_le (by omega) (by omega) | (rw [wrap_le (by omega) (by omega)]; omega))) .nil))) .nil) (show 0 ≤ a.length ∧ a.length = b.length ∧ allTo 0 (fun i => Entry.same (a.getD i default) (b.getD i default)) = true by exact ⟨by omega, by omega, rfl⟩)
  ·rintro j hI
   have hI : j ≤ a.length ∧ a.length = b.length ∧ allTo j (fun i => Entry.same (a.getD i default) (b.getD i default)) = true := hI
   refine .seq ?_
   refine .seq ?_
   refine .reg (X := Unit) (fun ζ => .of [(0, .one (.d (.sl false 137 2 (List.map Entry.c (a))))), (1, .one (.d (.sl false 137 2 (List.map Entry.c (b))))), (5, .one (.d (.v (.int .i64 ((j : Int)))))), (14, .one (.d (.v (.bool (decide ((j : Int) < (a.length : Int)))))))] []) [⟨[5], some 11, [], []⟩, ⟨[0], some 12, [], []⟩, ⟨[12], some 13, [], []⟩, ⟨[11, 13], some 14, [], []⟩] (fun k9 => ?_) ?_
   ·skip
    refine .move (.no rfl) rfl rfl rfl rfl ?_
    refine .move (.no rfl) rfl rfl rfl rfl ?_
    refine .len (.no rfl) rfl (z := (a.length : Int)) t97 rfl rfl rfl (.d _ _) (map_len _ _) rfl ?_
    refine .bin (.no rfl) rfl rfl rfl rfl rfl rfl ?_
    exact .fin () (.of (.cons rfl (.cons rfl (.cons rfl (.cons rfl .nil)))) .nil)
   intro _
   refine .cond (t := decide ((j : Int) < (a.length : Int))) rfl (fun c1 => ?_) (fun c1 => ?_)
   ·have c1 := of_decide_eq_true c1
    refine .skip ?_
    refine .seq ?_
    refine .block ?_
    refine .seq ?_
    refine .regD (X := Unit) (by kernel_rfl) (fun ζ => .of [(0, .one (.d (.sl false 137 2 (List.map Entry.c (a))))), (1, .one (.d (.sl false 137 2 (List.map Entry.c (b))))), (5, .one (.d (.v (.int .i64 ((j : Int)))))), (26, .one (.d (.v (.bool (!(Entry.same (a.getD j default) (b.getD j default)))))))] []) [⟨[0], some 17, [], []⟩, ⟨[5], some 18, [], []⟩, ⟨[17, 18], some 19, [], []⟩, ⟨[19], some 20, [], []⟩, ⟨[1], some 21, [], []⟩, ⟨[5], some 22, [], []⟩, ⟨[21, 22], some 23, [], []⟩, ⟨[23], some 24, [], []⟩, ⟨[20, 24], some 25, [], []⟩, ⟨[25], some 26, [], []⟩] (by kernel_rfl) (fun k10 => ?_) ?_
    ·skip
     refine .move (.no rfl) rfl rfl rfl rfl ?_
     refine .move (.no rfl) rfl rfl rfl rfl ?_
     refine .indexAddr (.no rfl) rfl (j) t97 rfl t137 rfl rfl rfl (.d _ _) rfl rfl rfl (map_get (by omega)) rfl rfl ?_
     refine .load (.no rfl) rfl t137 rfl rfl (.d _) rfl rfl rfl rfl ?_
     refine .move (.no rfl) rfl rfl rfl rfl ?_
     refine .move (.no rfl) rfl rfl rfl rfl ?_
     refine .indexAddr (.no rfl) rfl (j) t97 rfl t137 rfl rfl rfl (.d _ _) rfl rfl rfl (map_get (by omega)) rfl rfl ?_
     refine .load (.no rfl) rfl t137 rfl rfl (.d _) rfl rfl rfl rfl ?_
     refine .call (.no rfl) rfl [] [] (c_eqEntry (a.getD j default) (b.getD j default)) rfl rfl rfl rfl rfl (.cons (Reads.d _).gives (.cons (Reads.d _).gives (.cons (Reads.d _).gives (.cons (Reads.d _).gives .nil)))) rfl rfl (fun h => absurd rfl h) (.own [25, 0] .nil) (.nil) rfl rfl rfl (by simp) rfl rfl rfl ?_
     refine .un (.no rfl) rfl rfl rfl rfl rfl ?_
     exact .fin () (.of (.cons rfl (.cons rfl (.cons rfl (.cons rfl .nil)))) .nil)
    intro _
    refine .cond (t := !(Entry.same (a.getD j default) (b.getD j default))) rfl (fun c2 => ?_) (fun c2 => ?_)
    ·have c2 := c2
     try simp only [Bool.or_eq_true, Bool.or_eq_false_iff, Bool.and_eq_true, Bool.and_eq_false_iff, decide_eq_true_eq, decide_eq_false_iff_not, Bool.not_eq_true', Bool.not_eq_false', bne_iff_ne, beq_iff_eq, bne_eq_false_iff_eq, beq_eq_false_iff_ne, ne_eq, Bool.not_eq_eq_eq_not, Bool.not_true, Bool.not_false] at c2
     refine .seq ?_
     refine .reg (X := Unit) (fun ζ => .of [(4, .one (.d (.v (.bool (false)))))] []) [⟨[], some 4, [], []⟩] (fun k11 => ?_) ?_
     ·skip
      refine .assign (.no rfl) rfl rfl rfl rfl ?_
      exact .fin () (.of (.cons rfl .nil) .nil)
     intro _
     refine .ret ?_
     have e12 : (false) = (all2 Entry.same a b) := by exact (all2_fail _ (j := j) (by omega) (by simpa [] using c2)).symm
     have hc13 := eq1 (fun z1 => SV.one (.d (.v (.bool (z1))))) e12
     show _ ∧ _
     exact ⟨.inr rfl, .done ⟨_, [], [], _, .one (c := .d (.v (.bool (all2 Entry.same a b)))) (hc13) .nil, .cons (Reads.d _).gives .nil, nodupB_ok rfl, by simp, (by simp)⟩⟩
    ·have c2 := c2
     try simp only [Bool.or_eq_true, Bool.or_eq_false_iff, Bool.and_eq_true, Bool.and_eq_false_iff, decide_eq_true_eq, decide_eq_false_iff_not, Bool.not_eq_true', Bool.not_eq_false', bne_iff_ne, beq_iff_eq, bne_eq_false_iff_eq, beq_eq_false_iff_ne, ne_eq, Bool.not_eq_eq_eq_not, Bool.not_true, Bool.not_false] at c2
     refine .skip ?_
     refine .reg (X := Unit) (fun ζ => .of [(0, .one (.d (.sl false 137 2 (List.map Entry.c (a))))), (1, .one (.d (.sl false 137 2 (List.map Entry.c (b))))), (5, .one (.d (.v (.int .i64 (IntKind.wrap .i64 ((j : Int) + 1))))))] []) [⟨[5], some 15, [], []⟩, ⟨[15], some 16, [], []⟩, ⟨[16], some 5, [], []⟩] (fun k14 => ?_) ?_
     ·skip
      refine .move (.no rfl) rfl rfl rfl rfl ?_
      refine .bin (.no rfl) rfl rfl rfl rfl rfl rfl ?_
      refine .assign (.no rfl) rfl rfl rfl rfl ?_
      exact .fin () (.of (.cons rfl (.cons rfl (.cons rfl .nil))) .nil)
     intro _
     exact .here (j + 1) (.of (.cons rfl (.cons rfl (.cons (svI (show (IntKind.wrap .i64 ((j : Int) + 1)) = (((j + 1) : Int)) by first | rfl | omega | exact wrap_le (by omega) (by omega) | (rw [wrap_le (by omega) (by omega)]; omega))) .nil))) .nil) ⟨(show (j + 1) ≤ a.length ∧ a.length = b.length ∧ allTo (j + 1) (fun i => Entry.same (a.getD i default) (b.getD i default)) = true by exact ⟨by omega, by omega, allTo_step hI.2.2 (by simpa [] using c2)⟩), (show a.length - (j + 1) < a.length - j by omega)⟩
   ·have c1 := of_decide_eq_false c1
    refine .exit ?_
    refine .seq ?_
    refine .reg (X := Unit) (fun ζ => .of [(4, .one (.d (.v (.bool (true)))))] []) [⟨[], some 4, [], []⟩] (fun k15 => ?_) ?_
    ·skip
     refine .assign (.no rfl) rfl rfl rfl rfl ?_
     exact .fin () (.of (.cons rfl .nil) .nil)
    intro _
    refine .ret ?_
    have e16 : (true) = (all2 Entry.same a b) := by (have hj : j = a.length := (by omega); subst hj; exact (all2_done _ hI.2.1 hI.2.2).symm)
    have hc17 := eq1 (fun z1 => SV.one (.d (.v (.bool (z1))))) e16
    show _ ∧ _
    exact ⟨.inr rfl, .done ⟨_, [], [], _, .one (c := .d (.v (.bool (all2 Entry.same a b)))) (hc17) .nil, .cons (Reads.d _).gives .nil, nodupB_ok rfl, by simp, (by simp)⟩⟩
theorem c_eqPart (a : Part) (b : Part) : Trip Tryz.prog 65 [(true, 2), (true, 2)] (Part.c99 a ++ Part.c99 b) [(false, 1)] [.v (.bool (Part.same a b))] [] := by
 refine Trip.of Tryz.func65 (by decide) (c := _) rfl rfl (shB_ok rfl) (Nat.le_of_ble_eq_true rfl) rfl (AftOk.nil _) ?_
 refine .satA (t := 0) (i := 0) rfl rfl (fun hs1 => ?_)
 have hs1l : a.token.length ≤ 9223372036854775807 := hs1.maplen
 refine .satA (t := 0) (i := 1) rfl rfl (fun hs2 => ?_)
 have hs2l : a.table.length ≤ 9223372036854775807 := hs2.maplen
 refine .satA (t := 1) (i := 0) rfl rfl (fun hs3 => ?_)
 have hs3l : b.token.length ≤ 9223372036854775807 := hs3.maplen
 refine .satA (t := 1) (i := 1) rfl rfl (fun hs4 => ?_)
 have hs4l : b.table.length ≤ 9223372036854775807 := hs4.maplen
 refine .seq ?_
 refine .reg (X := Nat × Nat) (fun ζ => .of [(2, .one (.ptr [2] (ζ.1) 0)), (3, .one (.ptr [3] (ζ.2) 0))] [([2], (ζ.1, ζ.1, .box [.d (.sl false 137 2 (List.map Entry.c (a.token))), .d (.sl false 77 3 (List.map Env.c77 (a.table)))])), ([3], (ζ.2, ζ.2, .box [.d (.sl false 137 2 (List.map Entry.c (b.token))), .d (.sl false 77 3 (List.map Env.c77 (b.table)))]))]) [⟨[0], some 2, [], [[2]]⟩, ⟨[1], some 3, [], [[3]]⟩, ⟨[], some 4, [], []⟩] (fun k5 => ?_) ?_
 ·skip
  refine .box (.no rfl) rfl rfl rfl rfl rfl ?_
  refine .box (.no rfl) rfl rfl rfl rfl rfl ?_
  refine .assign (.no rfl) rfl rfl rfl rfl ?_
  exact .fin (k5, k5 + 1) (.of (.cons rfl (.cons rfl .nil)) (.cons rfl (.cons rfl .nil)))
 rintro ⟨g6, g7⟩
 refine .seq ?_
 refine .seq ?_
 refine .reg (X := Unit) (fun ζ => .of [(2, .one (.ptr [2] (g6) 0)), (3, .one (.ptr [3] (g7) 0)), (10, .one (.d (.v (.bool (!(all2 Entry.same a.token b.token))))))] [([2], (g6, g6, .box [.d (.sl false 137 2 (List.map Entry.c (a.token))), .d (.sl false 77 3 (List.map Env.c77 (a.table)))])), ([3], (g7, g7, .box [.d (.sl false 137 2 (List.map Entry.c (b.token))), .d (.sl false 77 3 (List.map Env.c77 (b.table)))]))]) [⟨[2], some 5, [], []⟩, ⟨[5], some 6, [[2]], []⟩, ⟨[3], some 7, [], []⟩, ⟨[7], some 8, [[3]], []⟩, ⟨[6, 8], some 9, [], []⟩, ⟨[9], some 10, [], []⟩] (fun k8 => ?_) ?_
 ·skip
  refine .fieldAddrP (.no rfl) rfl t99 rfl rfl t97 rfl rfl rfl rfl ?_
  refine .load (.no rfl) rfl t97 rfl rfl (.ptr _ _ _ _ _ rfl) rfl rfl rfl rfl ?_
  refine .fieldAddrP (.no rfl) rfl t99 rfl rfl t97 rfl rfl rfl rfl ?_
  refine .load (.no rfl) rfl t97 rfl rfl (.ptr _ _ _ _ _ rfl) rfl rfl rfl rfl ?_
  refine .call (.no rfl) rfl [] [] (c_eqEntryS a.token b.token) rfl rfl rfl rfl rfl (.cons (Reads.d _).gives (.cons (Reads.d _).gives .nil)) rfl rfl (fun h => absurd rfl h) (.own [9, 0] .nil) (.nil) rfl rfl rfl (by simp) rfl rfl rfl ?_
  refine .un (.no rfl) rfl rfl rfl rfl rfl ?_
  exact .fin () (.of (.cons rfl (.cons rfl (.cons rfl .nil))) (.cons rfl (.cons rfl .nil)))
 intro _
 refine .cond (t := !(all2 Entry.same a.token b.token)) rfl (fun c0 => ?_) (fun c0 => ?_)
 ·have c0 := c0
  try simp only [Bool.or_eq_true, Bool.or_eq_false_iff, Bool.and_eq_true, Bool.and_eq_false_iff, decide_eq_true_eq, decide_eq_false_iff_not, Bool.not_eq_true', Bool.not_eq_false', bne_iff_ne, beq_iff_eq, bne_eq_false_iff_eq, beq_eq_false_iff_ne, ne_eq, Bool.not_eq_eq_eq_not, Bool.not_true, Bool.not_false] at c0
  refine .seq ?_
  refine .reg (X := Unit) (fun ζ => .of [(4, .one (.d (.v (.bool (false)))))] []) [⟨[], some 4, [], []⟩] (fun k9 => ?_) ?_
  ·skip
   refine .assign (.no rfl) rfl rfl rfl rfl ?_
   exact .fin () (.of (.cons rfl .nil) .nil)
  intro _
  refine .ret ?_
  have e10 : (false) = (Part.same a b) := by (simp_all [Part.same])
  have hc11 := eq1 (fun z1 => SV.one (.d (.v (.bool (z1))))) e10
  show _ ∧ _
  exact ⟨.inr rfl, .done ⟨_, [], [], _, .one (c := .d (.v (.bool (Part.same a b)))) (hc11) .nil, .cons (Reads.d _).gives .nil, nodupB_ok rfl, by simp, (by simp)⟩⟩
 ·have c0 := c0
  try simp only [Bool.or_eq_true, Bool.or_eq_false_iff, Bool.and_eq_true, Bool.and_eq_false_iff, decide_eq_true_eq, decide_eq_false_iff_not, Bool.not_eq_true', Bool.not_eq_false', bne_iff_ne, beq_iff_eq, bne_eq_false_iff_eq, beq_eq_false_iff_ne, ne_eq, Bool.not_eq_eq_eq_not, Bool.not_true, Bool.not_false] at c0
  refine .skip ?_
  refine .seq ?_
  refine .seq ?_
  refine .reg (X := Unit) (fun ζ => .of [(16, .one (.d (.v (.bool (!(all2 Env.same a.table b.table))))))] []) [⟨[2], some 11, [], []⟩, ⟨[11], some 12, [[2]], []⟩, ⟨[3], some 13, [], []⟩, ⟨[13], some 14, [[3]], []⟩, ⟨[12, 14], some 15, [], []⟩, ⟨[15], some 16, [], []⟩] (fun k12 => ?_) ?_
  ·skip
   refine .fieldAddrP (.no rfl) rfl t99 rfl rfl t40 rfl rfl rfl rfl ?_
   refine .load (.no rfl) rfl t40 rfl rfl (.ptr _ _ _ _ _ rfl) rfl rfl rfl rfl ?_
   refine .fieldAddrP (.no rfl) rfl t99 rfl rfl t40 rfl rfl rfl rfl ?_
   refine .load (.no rfl) rfl t40 rfl rfl (.ptr _ _ _ _ _ rfl) rfl rfl rfl rfl ?_
   refine .call (.no rfl) rfl [] [] (c_eqEnvS a.table b.table) rfl rfl rfl rfl rfl (.cons (Reads.d _).gives (.cons (Reads.d _).gives .nil)) rfl rfl (fun h => absurd rfl h) (.own [15, 0] .nil) (.nil) rfl rfl rfl (by simp) rfl rfl rfl ?_
   refine .un (.no rfl) rfl rfl rfl rfl rfl ?_
   exact .fin () (.of (.cons rfl .nil) .nil)
  intro _
  refine .cond (t := !(all2 Env.same a.table b.table)) rfl (fun c1 => ?_) (fun c1 => ?_)
  ·have c1 := c1
   try simp only [Bool.or_eq_true, Bool.or_eq_false_iff, Bool.and_eq_true, Bool.and_eq_false_iff, decide_eq_true_eq, decide_eq_false_iff_not, Bool.not_eq_true', Bool.not_eq_false', bne_iff_ne, beq_iff_eq, bne_eq_false_iff_eq, beq_eq_false_iff_ne, ne_eq, Bool.not_eq_eq_eq_not, Bool.not_true, Bool.not_false] at c1
   refine .seq ?_
   refine .reg (X := Unit) (fun ζ => .of [(4, .one (.d (.v (.bool (false)))))] []) [⟨[], some 4, [], []⟩] (fun k13 => ?_) ?_
   ·skip
    refine .assign (.no rfl) rfl rfl rfl rfl ?_
    exact .fin () (.of (.cons rfl .nil) .nil)
   intro _
   refine .ret ?_
   have e14 : (false) = (Part.same a b) := by (simp_all [Part.same])
   have hc15 := eq1 (fun z1 => SV.one (.d (.v (.bool (z1))))) e14
   show _ ∧ _
   exact ⟨.inr rfl, .done ⟨_, [], [], _, .one (c := .d (.v (.bool (Part.same a b)))) (hc15) .nil, .cons (Reads.d _).gives .nil, nodupB_ok rfl, by simp, (by simp)⟩⟩
  ·have c1 := c1
   try simp only [Bool.or_eq_true, Bool.or_eq_false_iff, Bool.and_eq_true, Bool.and_eq_false_iff, decide_eq_true_eq, decide_eq_false_iff_not, Bool.not_eq_true', Bool.not_eq_false', bne_iff_ne, beq_iff_eq, bne_eq_false_iff_eq, beq_eq_false_iff_ne, ne_eq, Bool.not_eq_eq_eq_not, Bool.not_true, Bool.not_false] at c1
   refine .skip ?_
   refine .seq ?_
   refine .reg (X := Unit) (fun ζ => .of [(4, .one (.d (.v (.bool (true)))))] []) [⟨[], some 4, [], []⟩] (fun k16 => ?_) ?_
   ·skip
    refine .assign (.no rfl) rfl rfl rfl rfl ?_
    exact .fin () (.of (.cons rfl .nil) .nil)
   intro _
   refine .ret ?_
   have e17 : (true) = (Part.same a b) := by (simp_all [Part.same])
   have hc18 := eq1 (fun z1 => SV.one (.d (.v (.bool (z1))))) e17
   show _ ∧ _
   exact ⟨.inr rfl, .done ⟨_, [], [], _, .one (c := .d (.v (.bool (Part.same a b)))) (hc18) .nil, .cons (Reads.d _).gives .nil, nodupB_ok rfl, by simp, (by simp)⟩⟩
theorem c_eqPartS (a : List Part) (b : List Part) : Trip Tryz.prog 22 [(false, 1), (false, 1)] ([.sl false 99 2 (List.map Part.c99 (a))] ++ [.sl false 99 2 (List.map Part.c99 (b))]) [(false, 1)] [.v (.bool (all2 Part.same a b))] [] := by
 refine Trip.of Tryz.func22 (by decide) (c := _) rfl rfl (shB_ok rfl) (Nat.le_of_ble_eq_true rfl) rfl (AftOk.nil _) ?_
 refine .sat (t := 0) rfl (fun hs1 => ?_)
 have hs1l : a.length ≤ 9223372036854775807 := hs1.maplen
 refine .sat (t := 1) rfl (fun hs2 => ?_)
 have hs2l : b.length ≤ 9223372036854775807 := hs2.maplen
 refine .seq ?_
 refine .reg (X := Unit) (fun ζ => .of [(0, .one (.d (.sl false 99 2 (List.map Part.c99 (a))))), (1, .one (.d (.sl false 99 2 (List.map Part.c99 (b)))))] []) [⟨[], some 4, [], []⟩] (fun k3 => ?_) ?_
 ·skip
  refine .assign (.no rfl) rfl rfl rfl rfl ?_
  exact .fin () (.of (.cons rfl (.cons rfl .nil)) .nil)
 intro _
 refine .seq ?_
 refine .seq ?_
 refine .reg (X := Unit) (fun ζ => .of [(0, .one (.d (.sl false 99 2 (List.map Part.c99 (a))))), (1, .one (.d (.sl false 99 2 (List.map Part.c99 (b))))), (10, .one (.d (.v (.bool ((a.length : Int) != (b.length : Int))))))] []) [⟨[0], some 6, [], []⟩, ⟨[6], some 7, [], []⟩, ⟨[1], some 8, [], []⟩, ⟨[8], some 9, [], []⟩, ⟨[7, 9], some 10, [], []⟩] (fun k4 => ?_) ?_
 ·skip
  refine .move (.no rfl) rfl rfl rfl rfl ?_
  refine .len (.no rfl) rfl (z := (a.length : Int)) t51 rfl rfl rfl (.d _ _) (map_len _ _) rfl ?_
  refine .move (.no rfl) rfl rfl rfl rfl ?_
  refine .len (.no rfl) rfl (z := (b.length : Int)) t51 rfl rfl rfl (.d _ _) (map_len _ _) rfl ?_
  refine .bin (.no rfl) rfl rfl rfl rfl rfl rfl ?_
  exact .fin () (.of (.cons rfl (.cons rfl (.cons rfl .nil))) .nil)
 intro _
 refine .cond (t := (a.length : Int) != (b.length : Int)) rfl (fun c0 => ?_) (fun c0 => ?_)
 ·have c0 := (by simpa using c0 : ¬ ((a.length : Int) = (b.length : Int)))
  refine .seq ?_
  refine .reg (X := Unit) (fun ζ => .of [(4, .one (.d (.v (.bool (false)))))] []) [⟨[], some 4, [], []⟩] (fun k5 => ?_) ?_
  ·skip
   refine .assign (.no rfl) rfl rfl rfl rfl ?_
   exact .fin () (.of (.cons rfl .nil) .nil)
  intro _
  refine .ret ?_
  have e6 : (false) = (all2 Part.same a b) := by exact (all2_ne _ c0).symm
  have hc7 := eq1 (fun z1 => SV.one (.d (.v (.bool (z1))))) e6
  show _ ∧ _
  exact ⟨.inr rfl, .done ⟨_, [], [], _, .one (c := .d (.v (.bool (all2 Part.same a b)))) (hc7) .nil, .cons (Reads.d _).gives .nil, nodupB_ok rfl, by simp, (by simp)⟩⟩
 ·have c0 := (by simpa using c0 : (a.length : Int) = (b.length : Int))
  refine .skip ?_
  refine .seq ?_
  refine .seq ?_
  refine .reg (X := Unit) (fun ζ => .of [(0, .one (.d (.sl false 99 2 (List.map Part.c99 (a))))), (1, .one (.d (.sl false 99 2 (List.map Part.c99 (b))))), (5, .one (.d (.v (.int .i64 (0)))))] []) [⟨[], some 5, [], []⟩] (fun k8 => ?_) ?_
  ·skip
   refine .assign (.no rfl) rfl rfl rfl rfl ?_
   exact .fin () (.of (.cons rfl (.cons rfl (.cons rfl .nil))) .nil)
  intro _
  refine .block ?_
  refine .loop (X := Nat) (fun ζ => .of [(0, .one (.d (.sl false 99 2 (List.map Part.c99 (a))))), (1, .one (.d (.sl false 99 2 (List.map Part.c99 (b))))), (5, .one (.d (.v (.int .i64 ((ζ : Int))))))] []) (fun ζ => ζ ≤ a.length ∧ a.length = b.length ∧ allTo ζ (fun i => Part.same (a.getD i default) (b.getD i default)) = true) (fun ζ => a.length - ζ) ?_ ?_
  ·skip
   exact .here 0 (.of (.cons rfl (.cons rfl (.cons (svI (show (0) = ((0 : Int)) by first | rfl | omega | exact wrap_le (by omega) (by omega) | (rw [wrap_le (by omega) (by omega)]; omega))) .nil))) .nil) (show 0 ≤ a.length ∧ a.length = b.length ∧ allTo 0 (fun i => Part.same (a.getD i default) (b.getD i default)) = true by exact ⟨by omega, by omega, rfl⟩)
  ·rintro j hI
   have hI : j ≤ a.length ∧ a.length = b.length ∧ allTo j (fun i => Part.same (a.getD i default) (b.getD i default)) = true := hI
   refine .seq ?_
   refine .seq ?_
   refine .reg (X := Unit) (fun ζ => .of [(0, .one (.d (.sl false 99 2 (List.map Part.c99 (a))))), (1, .one (.d (.sl false 99 2 (List.map Part.c99 (b))))), (5, .one (.d (.v (.int .i64 ((j : Int)))))), (14, .one (.d (.v (.bool (decide ((j : Int) < (a.length : Int)))))))] []) [⟨[5], some 11, [], []⟩, ⟨[0], some 12, [], []⟩, ⟨[12], some 13, [], []⟩, ⟨[11, 13], some 14, [], []⟩] (fun k9 => ?_) ?_
   ·skip
    refine .move (.no rfl) rfl rfl rfl rfl ?_
    refine .move (.no rfl) rfl rfl rfl rfl ?_
    refine .len (.no rfl) rfl (z := (a.length : Int)) t51 rfl rfl rfl (.d _ _) (map_len _ _) rfl ?_
    refine .bin (.no rfl) rfl rfl rfl rfl rfl rfl ?_
    exact .fin () (.of (.cons rfl (.cons rfl (.cons rfl (.cons rfl .nil)))) .nil)
   intro _
   refine .cond (t := decide ((j : Int) < (a.length : Int))) rfl (fun c1 => ?_) (fun c1 => ?_)
   ·have c1 := of_decide_eq_true c1
    refine .skip ?_
    refine .seq ?_
    refine .block ?_
    refine .seq ?_
    refine .regD (X := Unit) (by kernel_rfl) (fun ζ => .of [(0, .one (.d (.sl false 99 2 (List.map Part.c99 (a))))), (1, .one (.d (.sl false 99 2 (List.map Part.c99 (b))))), (5, .one (.d (.v (.int .i64 ((j : Int)))))), (26, .one (.d (.v (.bool (!(Part.same (a.getD j default) (b.getD j default)))))))] []) [⟨[0], some 17, [], []⟩, ⟨[5], some 18, [], []⟩, ⟨[17, 18], some 19, [], []⟩, ⟨[19], some 20, [], []⟩, ⟨[1], some 21, [], []⟩, ⟨[5], some 22, [], []⟩, ⟨[21, 22], some 23, [], []⟩, ⟨[23], some 24, [], []⟩, ⟨[20, 24], some 25, [], []⟩, ⟨[25], some 26, [], []⟩] (by kernel_rfl) (fun k10 => ?_) ?_
    ·skip
     refine .move (.no rfl) rfl rfl rfl rfl ?_
     refine .move (.no rfl) rfl rfl rfl rfl ?_
     refine .indexAddr (.no rfl) rfl (j) t51 rfl t99 rfl rfl rfl (.d _ _) rfl rfl rfl (map_get (by omega)) rfl rfl ?_
     refine .load (.no rfl) rfl t99 rfl rfl (.d _) rfl rfl rfl rfl ?_
     refine .move (.no rfl) rfl rfl rfl rfl ?_
     refine .move (.no rfl) rfl rfl rfl rfl ?_
     refine .indexAddr (.no rfl) rfl (j) t51 rfl t99 rfl rfl rfl (.d _ _) rfl rfl rfl (map_get (by omega)) rfl rfl ?_
     refine .load (.no rfl) rfl t99 rfl rfl (.d _) rfl rfl rfl rfl ?_
     refine .call (.no rfl) rfl [] [] (c_eqPart (a.getD j default) (b.getD j default)) rfl rfl rfl rfl rfl (.cons (Reads.d _).gives (.cons (Reads.d _).gives (.cons (Reads.d _).gives (.cons (Reads.d _).gives .nil)))) rfl rfl (fun h => absurd rfl h) (.own [25, 0] .nil) (.nil) rfl rfl rfl (by simp) rfl rfl rfl ?_
     refine .un (.no rfl) rfl rfl rfl rfl rfl ?_
     exact .fin () (.of (.cons rfl (.cons rfl (.cons rfl (.cons rfl .nil)))) .nil)
    intro _
    refine .cond (t := !(Part.same (a.getD j default) (b.getD j default))) rfl (fun c2 => ?_) (fun c2 => ?_)
    ·have c2 := c2
     try simp only [Bool.or_eq_true, Bool.or_eq_false_iff, Bool.and_eq_true, Bool.and_eq_false_iff, decide_eq_true_eq, decide_eq_false_iff_not, Bool.not_eq_true', Bool.not_eq_false', bne_iff_ne, beq_iff_eq, bne_eq_false_iff_eq, beq_eq_false_iff_ne, ne_eq, Bool.not_eq_eq_eq_not, Bool.not_true, Bool.not_false] at c2
     refine .seq ?_
     refine .reg (X := Unit) (fun ζ => .of [(4, .one (.d (.v (.bool (false)))))] []) [⟨[], some 4, [], []⟩] (fun k11 => ?_) ?_
     ·skip
      refine .assign (.no rfl) rfl rfl rfl rfl ?_
      exact .fin () (.of (.cons rfl .nil) .nil)
     intro _
     refine .ret ?_
     have e12 : (false) = (all2 Part.same a b) := by exact (all2_fail _ (j := j) (by omega) (by simpa [] using c2)).symm
     have hc13 := eq1 (fun z1 => SV.one (.d (.v (.bool (z1))))) e12
     show _ ∧ _
     exact ⟨.inr rfl, .done ⟨_, [], [], _, .one (c := .d (.v (.bool (all2 Part.same a b)))) (hc13) .nil, .cons (Reads.d _).gives .nil, nodupB_ok rfl, by simp, (by simp)⟩⟩
    ·have c2 := c2
     try simp only [Bool.or_eq_true, Bool.or_eq_false_iff, Bool.and_eq_true, Bool.and_eq_false_iff, decide_eq_true_eq, decide_eq_false_iff_not, Bool.not_eq_true', Bool.not_eq_false', bne_iff_ne, beq_iff_eq, bne_eq_false_iff_eq, beq_eq_false_iff_ne, ne_eq, Bool.not_eq_eq_eq_not, Bool.not_true, Bool.not_false] at c2
     refine .skip ?_
     refine .reg (X := Unit) (fun ζ => .of [(0, .one (.d (.sl false 99 2 (List.map Part.c99 (a))))), (1, .one (.d (.sl false 99 2 (List.map Part.c99 (b))))), (5, .one (.d (.v (.int .i64 (IntKind.wrap .i64 ((j : Int) + 1))))))] []) [⟨[5], some 15, [], []⟩, ⟨[15], some 16, [], []⟩, ⟨[16], some 5, [], []⟩] (fun k14 => ?_) ?_
     ·skip
      refine .move (.no rfl) rfl rfl rfl rfl ?_
      refine .bin (.no rfl) rfl rfl rfl rfl rfl rfl ?_
      refine .assign (.no rfl) rfl rfl rfl rfl ?_
      exact .fin () (.of (.cons rfl (.cons rfl (.cons rfl .nil))) .nil)
     intro _
     exact .here (j + 1) (.of (.cons rfl (.cons rfl (.cons (svI (show (IntKind.wrap .i64 ((j : Int) + 1)) = (((j + 1) : Int)) by first | rfl | omega | exact wrap_le (by omega) (by omega) | (rw [wrap_le (by omega) (by omega)]; omega))) .nil))) .nil) ⟨(show (j + 1) ≤ a.length ∧ a.length = b.length ∧ allTo (j + 1) (fun i => Part.same (a.getD i default) (b.getD i default)) = true by exact ⟨by omega, by omega, allTo_step hI.2.2 (by simpa [] using c2)⟩), (show a.length - (j + 1) < a.length - j by omega)⟩
   ·have c1 := of_decide_eq_false c1
    refine .exit ?_
    refine .seq ?_
    refine .reg (X := Unit) (fun ζ => .of [(4, .one (.d (.v (.bool (true)))))] []) [⟨[], some 4, [], []⟩] (fun k15 => ?_) ?_
    ·skip
     refine .assign (.no rfl) rfl rfl rfl rfl ?_
     exact .fin () (.of (.cons rfl .nil) .nil)
    intro _
    refine .ret ?_
    have e16 : (true) = (all2 Part.same a b) := by (have hj : j = a.length := (by omega); subst hj; exact (all2_done _ hI.2.1 hI.2.2).symm)
    have hc17 := eq1 (fun z1 => SV.one (.d (.v (.bool (z1))))) e16
    show _ ∧ _
    exact ⟨.inr rfl, .done ⟨_, [], [], _, .one (c := .d (.v (.bool (all2 Part.same a b)))) (hc17) .nil, .cons (Reads.d _).gives .nil, nodupB_ok rfl, by simp, (by simp)⟩⟩
end Go.Proofs

namespace Go.Proofs
open Go Go.Proofs Go.Ev

def i124 : TI := ⟨.int .u64, 1, 8, [.int .u64 0]⟩
theorem t124 : TyOk Tryz.prog 124 i124 := ⟨Tryz.underlying124, by kernel_rfl⟩
theorem z124 : ZOk Tryz.prog 124 i124 := ⟨t124, rfl⟩
def i160 : TI := ⟨.fn, 1, 8, [.nilFunc]⟩
theorem t160 : TyOk Tryz.prog 160 i160 := ⟨⟨_, _, _, Tryz.underlying160⟩, by kernel_rfl⟩
theorem z160 : ZOk Tryz.prog 160 i160 := ⟨t160, rfl⟩
theorem c_l8Size (d : Decl) : Trip Tryz.prog 79 [(true, 3)] (Decl.c38 d) [(false, 1)] [.v (.int .i64 (leavesOf d))] [] := by
 refine Trip.of Tryz.func79 (by decide) (c := _) rfl rfl (shB_ok rfl) (Nat.le_of_ble_eq_true rfl) rfl (AftOk.nil _) ?_
 refine .satA (t := 0) (i := 0) rfl rfl (fun hs1 => ?_)
 have hs1l : d.vars.length ≤ 9223372036854775807 := hs1.maplen
 refine .satA (t := 0) (i := 1) rfl rfl (fun hs2 => ?_)
 have hs2l : d.flags.length ≤ 9223372036854775807 := hs2.maplen
 refine .satA (t := 0) (i := 2) rfl rfl (fun hs3 => ?_)
 have hs3l : d.arrays.length ≤ 9223372036854775807 := hs3.maplen
 refine .seq ?_
 refine .reg (X := Nat) (fun ζ => .of [(1, .one (.ptr [1] (ζ) 0))] [([1], (ζ, ζ, .box [.d (.sl false 9 1 (List.map strc (d.vars))), .d (.sl false 9 1 (List.map strc (d.flags))), .d (.sl false 119 2 (List.map Arr.c (d.arrays)))]))]) [⟨[0], some 1, [], [[1]]⟩, ⟨[], some 2, [], []⟩] (fun k4 => ?_) ?_
 ·skip
  refine .box (.no rfl) rfl rfl rfl rfl rfl ?_
  refine .assign (.no rfl) rfl rfl rfl rfl ?_
  exact .fin k4 (.of (.cons rfl .nil) (.cons rfl .nil))
 intro g5
 refine .seq ?_
 refine .reg (X := Unit) (fun ζ => .of [(2, .one (.d (.v (.int .i64 (IntKind.wrap .i64 (1 * 2 ^ (min ((d.flags.length : Int)).toNat (IntKind.bits .i64))))))))] []) [⟨[1], some 3, [], []⟩, ⟨[3], some 4, [[1]], []⟩, ⟨[4], some 5, [], []⟩, ⟨[5], some 6, [], []⟩, ⟨[6], some 7, [], []⟩, ⟨[7], some 2, [], []⟩] (fun k6 => ?_) ?_
 ·skip
  refine .fieldAddrP (.no rfl) rfl t38 rfl rfl t22 rfl rfl rfl rfl ?_
  refine .load (.no rfl) rfl t22 rfl rfl (.ptr _ _ _ _ _ rfl) rfl rfl rfl rfl ?_
  refine .len (.no rfl) rfl (z := (d.flags.length : Int)) t22 rfl rfl rfl (.d _ _) (map_len _ _) rfl ?_
  refine .conv (.no rfl) rfl t3 t124 rfl rfl rfl rfl (wrap_u64 (by omega) (by omega)) rfl ?_
  refine .shl (.no rfl) rfl rfl rfl rfl (by omega) rfl rfl ?_
  refine .assign (.no rfl) rfl rfl rfl rfl ?_
  exact .fin () (.of (.cons rfl .nil) .nil)
 intro _
 refine .ret ?_
 have e7 : (IntKind.wrap .i64 (1 * 2 ^ (min ((d.flags.length : Int)).toNat (IntKind.bits .i64)))) = (leavesOf d) := by rfl
 have hc8 := eq1 (fun z1 => SV.one (.d (.v (.int .i64 (z1))))) e7
 show _ ∧ _
 exact ⟨.inr rfl, .done ⟨_, [], [], _, .one (c := .d (.v (.int .i64 (leavesOf d)))) (hc8) .nil, .cons (Reads.d _).gives .nil, nodupB_ok rfl, by simp, (by simp)⟩⟩
theorem c_leaves (d : Decl) : Trip Tryz.prog 120 [(true, 3)] (Decl.c38 d) [(false, 1)] [.v (.int .i64 (leavesOf d))] [] := by
 refine Trip.of Tryz.func120 (by decide) (c := _) rfl rfl (shB_ok rfl) (Nat.le_of_ble_eq_true rfl) rfl (AftOk.nil _) ?_
 refine .satA (t := 0) (i := 0) rfl rfl (fun hs1 => ?_)
 have hs1l : d.vars.length ≤ 9223372036854775807 := hs1.maplen
 refine .satA (t := 0) (i := 1) rfl rfl (fun hs2 => ?_)
 have hs2l : d.flags.length ≤ 9223372036854775807 := hs2.maplen
 refine .satA (t := 0) (i := 2) rfl rfl (fun hs3 => ?_)
 have hs3l : d.arrays.length ≤ 9223372036854775807 := hs3.maplen
 refine .seq ?_
 refine .reg (X := Nat) (fun ζ => .of [(1, .one (.ptr [1] (ζ) 0))] [([1], (ζ, ζ, .box [.d (.sl false 9 1 (List.map strc (d.vars))), .d (.sl false 9 1 (List.map strc (d.flags))), .d (.sl false 119 2 (List.map Arr.c (d.arrays)))]))]) [⟨[0], some 1, [], [[1]]⟩, ⟨[], some 2, [], []⟩] (fun k4 => ?_) ?_
 ·skip
  refine .box (.no rfl) rfl rfl rfl rfl rfl ?_
  refine .assign (.no rfl) rfl rfl rfl rfl ?_
  exact .fin k4 (.of (.cons rfl .nil) (.cons rfl .nil))
 intro g5
 refine .seq ?_
 refine .reg (X := Unit) (fun ζ => .of [(2, .one (.d (.v (.int .i64 (IntKind.wrap .i64 (1 * 2 ^ (min ((d.flags.length : Int)).toNat (IntKind.bits .i64))))))))] []) [⟨[1], some 3, [], []⟩, ⟨[3], some 4, [[1]], []⟩, ⟨[4], some 5, [], []⟩, ⟨[5], some 6, [], []⟩, ⟨[6], some 2, [], []⟩] (fun k6 => ?_) ?_
 ·skip
  refine .fieldAddrP (.no rfl) rfl t38 rfl rfl t22 rfl rfl rfl rfl ?_
  refine .load (.no rfl) rfl t22 rfl rfl (.ptr _ _ _ _ _ rfl) rfl rfl rfl rfl ?_
  refine .len (.no rfl) rfl (z := (d.flags.length : Int)) t22 rfl rfl rfl (.d _ _) (map_len _ _) rfl ?_
  refine .shl (.no rfl) rfl rfl rfl rfl (by omega) rfl rfl ?_
  refine .assign (.no rfl) rfl rfl rfl rfl ?_
  exact .fin () (.of (.cons rfl .nil) .nil)
 intro _
 refine .ret ?_
 have e7 : (IntKind.wrap .i64 (1 * 2 ^ (min ((d.flags.length : Int)).toNat (IntKind.bits .i64)))) = (leavesOf d) := by rfl
 have hc8 := eq1 (fun z1 => SV.one (.d (.v (.int .i64 (z1))))) e7
 show _ ∧ _
 exact ⟨.inr rfl, .done ⟨_, [], [], _, .one (c := .d (.v (.int .i64 (leavesOf d)))) (hc8) .nil, .cons (Reads.d _).gives .nil, nodupB_ok rfl, by simp, (by simp)⟩⟩
theorem c_sizeE (l : List Env) : Trip Tryz.prog 119 [(false, 1)] ([.sl false 77 3 (List.map Env.c77 (l))]) [(false, 1)] [.v (.int .i64 ((l.length : Int)))] [] := by
 refine Trip.of Tryz.func119 (by decide) (c := _) rfl rfl (shB_ok rfl) (Nat.le_of_ble_eq_true rfl) rfl (AftOk.nil _) ?_
 refine .sat (t := 0) rfl (fun hs1 => ?_)
 have hs1l : l.length ≤ 9223372036854775807 := hs1.maplen
 refine .seq ?_
 refine .reg (X := Unit) (fun ζ => .of [(0, .one (.d (.sl false 77 3 (List.map Env.c77 (l)))))] []) [⟨[], some 2, [], []⟩] (fun k2 => ?_) ?_
 ·skip
  refine .assign (.no rfl) rfl rfl rfl rfl ?_
  exact .fin () (.of (.cons rfl .nil) .nil)
 intro _
 refine .seq ?_
 refine .reg (X := Unit) (fun ζ => .of [(2, .one (.d (.v (.int .i64 ((l.length : Int))))))] []) [⟨[0], some 3, [], []⟩, ⟨[3], some 4, [], []⟩, ⟨[4], some 2, [], []⟩] (fun k3 => ?_) ?_
 ·skip
  refine .move (.no rfl) rfl rfl rfl rfl ?_
  refine .len (.no rfl) rfl (z := (l.length : Int)) t40 rfl rfl rfl (.d _ _) (map_len _ _) rfl ?_
  refine .assign (.no rfl) rfl rfl rfl rfl ?_
  exact .fin () (.of (.cons rfl .nil) .nil)
 intro _
 refine .ret ?_
 show _ ∧ _
 exact ⟨.inr rfl, .done ⟨_, [], [], _, .one rfl .nil, .cons (Reads.d _).gives .nil, nodupB_ok rfl, by simp, (by simp)⟩⟩
theorem c_IndexFuncE (l : List Env) (F_p : FuncId) (first_p : List (Bool × List D)) (caps_p : List D) (p : Env → Bool) (h_p : ∀ (x0 : Env), FnTrip Tryz.prog F_p first_p caps_p [(true, 3)] (Env.c77 x0) [(false, 1)] [.v (.bool (p x0))]) : Trip Tryz.prog 167 [(false, 1), (false, 1)] ([.sl false 77 3 (List.map Env.c77 (l))] ++ [.fn F_p first_p caps_p]) [(false, 1)] [.v (.int .i64 (idx p l))] [] := by
 refine Trip.of Tryz.func167 (by decide) (c := _) rfl rfl (shB_ok rfl) (Nat.le_of_ble_eq_true rfl) rfl (AftOk.nil _) ?_
 refine .sat (t := 0) rfl (fun hs1 => ?_)
 have hs1l : l.length ≤ 9223372036854775807 := hs1.maplen
 refine .seq ?_
 refine .reg (X := Unit) (fun ζ => .of [(0, .one (.d (.sl false 77 3 (List.map Env.c77 (l))))), (1, .one (.d (.fn F_p first_p caps_p)))] []) [⟨[], some 4, [], []⟩] (fun k2 => ?_) ?_
 ·skip
  refine .assign (.no rfl) rfl rfl rfl rfl ?_
  exact .fin () (.of (.cons rfl (.cons rfl .nil)) .nil)
 intro _
 refine .seq ?_
 refine .seq ?_
 refine .reg (X := Unit) (fun ζ => .of [(0, .one (.d (.sl false 77 3 (List.map Env.c77 (l))))), (1, .one (.d (.fn F_p first_p caps_p))), (7, .one (.d (.v (.int .i64 ((l.length : Int)))))), (8, .one (.d (.v (.int .i64 (0)))))] []) [⟨[0], some 6, [], []⟩, ⟨[6], some 7, [], []⟩, ⟨[], some 8, [], []⟩] (fun k3 => ?_) ?_
 ·skip
  refine .move (.no rfl) rfl rfl rfl rfl ?_
  refine .len (.no rfl) rfl (z := (l.length : Int)) t40 rfl rfl rfl (.d _ _) (map_len _ _) rfl ?_
  refine .move (.no rfl) rfl rfl rfl rfl ?_
  exact .fin () (.of (.cons rfl (.cons rfl (.cons rfl (.cons rfl .nil)))) .nil)
 intro _
 refine .block ?_
 refine .loop (X := Nat) (fun ζ => .of [(0, .one (.d (.sl false 77 3 (List.map Env.c77 (l))))), (1, .one (.d (.fn F_p first_p caps_p))), (7, .one (.d (.v (.int .i64 ((l.length : Int)))))), (8, .one (.d (.v (.int .i64 ((ζ : Int))))))] []) (fun ζ => ζ ≤ l.length ∧ allTo ζ (fun i => !p (l.getD i default)) = true) (fun ζ => l.length - ζ) ?_ ?_
 ·skip
  exact .here 0 (.of (.cons rfl (.cons rfl (.cons rfl (.cons (svI (show (0) = ((0 : Int)) by first | rfl | omega | exact wrap_le (by omega) (by omega) | (rw [wrap_le (by omega) (by omega)]; omega))) .nil)))) .nil) (show 0 ≤ l.length ∧ allTo 0 (fun i => !p (l.getD i default)) = true by exact ⟨by omega, rfl⟩)
 ·rintro j hI
  have hI : j ≤ l.length ∧ allTo j (fun i => !p (l.getD i default)) = true := hI
  refine .seq ?_
  refine .reg (X := Unit) (fun ζ => .of [(0, .one (.d (.sl false 77 3 (List.map Env.c77 (l))))), (1, .one (.d (.fn F_p first_p caps_p))), (7, .one (.d (.v (.int .i64 ((l.length : Int)))))), (8, .one (.d (.v (.int .i64 ((j : Int)))))), (9, .one (.d (.v (.bool (decide ((j : Int) < (l.length : Int)))))))] []) [⟨[8, 7], some 9, [], []⟩] (fun k4 => ?_) ?_
  ·skip
   refine .bin (.no rfl) rfl rfl rfl rfl rfl rfl ?_
   exact .fin () (.of (.cons rfl (.cons rfl (.cons rfl (.cons rfl (.cons rfl .nil))))) .nil)
  intro _
  refine .seq ?_
  refine .cond (t := decide ((j : Int) < (l.length : Int))) rfl (fun c0 => ?_) (fun c0 => ?_)
  ·have c0 := of_decide_eq_true c0
   refine .skip ?_
   refine .seq ?_
   refine .block ?_
   refine .seq ?_
   refine .reg (X := Unit) (fun ζ => .of [(0, .one (.d (.sl false 77 3 (List.map Env.c77 (l))))), (1, .one (.d (.fn F_p first_p caps_p))), (5, .one (.d (.v (.int .i64 ((j : Int)))))), (7, .one (.d (.v (.int .i64 ((l.length : Int)))))), (8, .one (.d (.v (.int .i64 ((j : Int))))))] []) [⟨[8], some 10, [], []⟩, ⟨[10], some 5, [], []⟩] (fun k5 => ?_) ?_
   ·skip
    refine .move (.no rfl) rfl rfl rfl rfl ?_
    refine .assign (.no rfl) rfl rfl rfl rfl ?_
    exact .fin () (.of (.cons rfl (.cons rfl (.cons rfl (.cons rfl (.cons rfl .nil))))) .nil)
   intro _
   refine .seq ?_
   refine .reg (X := Unit) (fun ζ => .of [(0, .one (.d (.sl false 77 3 (List.map Env.c77 (l))))), (1, .one (.d (.fn F_p first_p caps_p))), (5, .one (.d (.v (.int .i64 ((j : Int)))))), (7, .one (.d (.v (.int .i64 ((l.length : Int)))))), (8, .one (.d (.v (.int .i64 ((j : Int)))))), (16, .one (.d (.v (.bool (p (l.getD j default))))))] []) [⟨[1], some 11, [], []⟩, ⟨[0], some 12, [], []⟩, ⟨[5], some 13, [], []⟩, ⟨[12, 13], some 14, [], []⟩, ⟨[14], some 15, [], []⟩, ⟨[11, 15], some 16, [], []⟩] (fun k6 => ?_) ?_
   ·skip
    refine .move (.no rfl) rfl rfl rfl rfl ?_
    refine .move (.no rfl) rfl rfl rfl rfl ?_
    refine .move (.no rfl) rfl rfl rfl rfl ?_
    refine .indexAddr (.no rfl) rfl (j) t40 rfl t77 rfl rfl rfl (.d _ _) rfl rfl rfl (map_get (by omega)) rfl rfl ?_
    refine .load (.no rfl) rfl t77 rfl rfl (.d _) rfl rfl rfl rfl ?_
    refine .callF (.no rfl) rfl (ds := [.v (.bool ((l.getD j default).live)), .sl false 122 2 (List.map Iv.c ((l.getD j default).ints)), .sl false 122 2 (List.map Iv.c ((l.getD j default).arrs))]) (h_p (l.getD j default)) rfl rfl rfl rfl (.own [16, 0] .nil) rfl rfl rfl rfl rfl rfl ?_
    exact .fin () (.of (.cons rfl (.cons rfl (.cons rfl (.cons rfl (.cons rfl (.cons rfl .nil)))))) .nil)
   intro _
   refine .cond (t := p (l.getD j default)) rfl (fun c1 => ?_) (fun c1 => ?_)
   ·have c1 := c1
    refine .seq ?_
    refine .reg (X := Unit) (fun ζ => .of [(4, .one (.d (.v (.int .i64 ((j : Int))))))] []) [⟨[5], some 17, [], []⟩, ⟨[17], some 4, [], []⟩] (fun k7 => ?_) ?_
    ·skip
     refine .move (.no rfl) rfl rfl rfl rfl ?_
     refine .assign (.no rfl) rfl rfl rfl rfl ?_
     exact .fin () (.of (.cons rfl .nil) .nil)
    intro _
    refine .ret ?_
    have e8 : ((j : Int)) = (idx p l) := by exact (idx_found (j := j) (by omega) hI.2 (by simpa using c1)).symm
    have hc9 := eq1 (fun z1 => SV.one (.d (.v (.int .i64 (z1))))) e8
    show _ ∧ _
    exact ⟨.inr rfl, .done ⟨_, [], [], _, .one (c := .d (.v (.int .i64 (idx p l)))) (hc9) .nil, .cons (Reads.d _).gives .nil, nodupB_ok rfl, by simp, (by simp)⟩⟩
   ·have c1 := c1
    refine .skip ?_
    refine .reg (X := Unit) (fun ζ => .of [(0, .one (.d (.sl false 77 3 (List.map Env.c77 (l))))), (1, .one (.d (.fn F_p first_p caps_p))), (7, .one (.d (.v (.int .i64 ((l.length : Int)))))), (8, .one (.d (.v (.int .i64 (IntKind.wrap .i64 ((j : Int) + 1))))))] []) [⟨[8], some 18, [], []⟩, ⟨[18], some 8, [], []⟩] (fun k10 => ?_) ?_
    ·skip
     refine .bin (.no rfl) rfl rfl rfl rfl rfl rfl ?_
     refine .move (.no rfl) rfl rfl rfl rfl ?_
     exact .fin () (.of (.cons rfl (.cons rfl (.cons rfl (.cons rfl .nil)))) .nil)
    intro _
    exact .here (j + 1) (.of (.cons rfl (.cons rfl (.cons rfl (.cons (svI (show (IntKind.wrap .i64 ((j : Int) + 1)) = (((j + 1) : Int)) by first | rfl | omega | exact wrap_le (by omega) (by omega) | (rw [wrap_le (by omega) (by omega)]; omega))) .nil)))) .nil) ⟨(show (j + 1) ≤ l.length ∧ allTo (j + 1) (fun i => !p (l.getD i default)) = true by exact ⟨by omega, allTo_step hI.2 (by simpa using c1)⟩), (show l.length - (j + 1) < l.length - j by omega)⟩
  ·have c0 := of_decide_eq_false c0
   refine .exit ?_
   refine .seq ?_
   refine .reg (X := Unit) (fun ζ => .of [(4, .one (.d (.v (.int .i64 (-1)))))] []) [⟨[], some 4, [], []⟩] (fun k11 => ?_) ?_
   ·skip
    refine .assign (.no rfl) rfl rfl rfl rfl ?_
    exact .fin () (.of (.cons rfl .nil) .nil)
   intro _
   refine .ret ?_
   have e12 : (-1) = (idx p l) := by exact (idx_none (by omega) hI.2).symm
   have hc13 := eq1 (fun z1 => SV.one (.d (.v (.int .i64 (z1))))) e12
   show _ ∧ _
   exact ⟨.inr rfl, .done ⟨_, [], [], _, .one (c := .d (.v (.int .i64 (idx p l)))) (hc13) .nil, .cons (Reads.d _).gives .nil, nodupB_ok rfl, by simp, (by simp)⟩⟩
theorem c_ContainsFuncE (l : List Env) (F_p : FuncId) (first_p : List (Bool × List D)) (caps_p : List D) (p : Env → Bool) (h_p : ∀ (x0 : Env), FnTrip Tryz.prog F_p first_p caps_p [(true, 3)] (Env.c77 x0) [(false, 1)] [.v (.bool (p x0))]) : Trip Tryz.prog 142 [(false, 1), (false, 1)] ([.sl false 77 3 (List.map Env.c77 (l))] ++ [.fn F_p first_p caps_p]) [(false, 1)] [.v (.bool (l.any p))] [] := by
 refine Trip.of Tryz.func142 (by decide) (c := _) rfl rfl (shB_ok rfl) (Nat.le_of_ble_eq_true rfl) rfl (AftOk.nil _) ?_
 refine .sat (t := 0) rfl (fun hs1 => ?_)
 have hs1l : l.length ≤ 9223372036854775807 := hs1.maplen
 refine .seq ?_
 refine .reg (X := Unit) (fun ζ => .of [(0, .one (.d (.sl false 77 3 (List.map Env.c77 (l))))), (1, .one (.d (.fn F_p first_p caps_p)))] []) [⟨[], some 4, [], []⟩] (fun k2 => ?_) ?_
 ·skip
  refine .assign (.no rfl) rfl rfl rfl rfl ?_
  exact .fin () (.of (.cons rfl (.cons rfl .nil)) .nil)
 intro _
 refine .seq ?_
 refine .reg (X := Unit) (fun ζ => .of [(4, .one (.d (.v (.bool (decide ((idx p l) ≥ 0))))))] []) [⟨[0], some 5, [], []⟩, ⟨[1], some 6, [], []⟩, ⟨[5, 6], some 7, [], []⟩, ⟨[7], some 8, [], []⟩, ⟨[8], some 4, [], []⟩] (fun k3 => ?_) ?_
 ·skip
  refine .move (.no rfl) rfl rfl rfl rfl ?_
  refine .move (.no rfl) rfl rfl rfl rfl ?_
  refine .call (.no rfl) rfl [] [] (c_IndexFuncE l F_p first_p caps_p p h_p) rfl rfl rfl rfl rfl (.cons (Reads.d _).gives (.cons (Reads.d _).gives .nil)) rfl rfl (fun h => absurd rfl h) (.own [7, 0] .nil) (.nil) rfl rfl rfl (by simp) rfl rfl rfl ?_
  refine .bin (.no rfl) rfl rfl rfl rfl rfl rfl ?_
  refine .assign (.no rfl) rfl rfl rfl rfl ?_
  exact .fin () (.of (.cons rfl .nil) .nil)
 intro _
 refine .ret ?_
 have e4 : (decide ((idx p l) ≥ 0)) = (l.any p) := by exact idx_any _ _
 have hc5 := eq1 (fun z1 => SV.one (.d (.v (.bool (z1))))) e4
 show _ ∧ _
 exact ⟨.inr rfl, .done ⟨_, [], [], _, .one (c := .d (.v (.bool (l.any p)))) (hc5) .nil, .cons (Reads.d _).gives .nil, nodupB_ok rfl, by simp, (by simp)⟩⟩
theorem c_areAll1E (x : Env) (F_p : FuncId) (first_p : List (Bool × List D)) (caps_p : List D) (p : Env → Bool) (h_p : ∀ (x0 : Env), FnTrip Tryz.prog F_p first_p caps_p [(true, 3)] (Env.c77 x0) [(false, 1)] [.v (.bool (p x0))]) : Trip Tryz.prog 155 [(true, 3), (false, 1)] (Env.c77 x ++ [.pt false [.fn F_p first_p caps_p]]) [(false, 1)] [.v (.bool (!p x))] [] := by
 refine Trip.of Tryz.func155 (by decide) (c := _) rfl rfl (shB_ok rfl) (Nat.le_of_ble_eq_true rfl) rfl (AftOk.nil _) ?_
 refine .satA (t := 0) (i := 1) rfl rfl (fun hs1 => ?_)
 have hs1l : x.ints.length ≤ 9223372036854775807 := hs1.maplen
 refine .satA (t := 0) (i := 2) rfl rfl (fun hs2 => ?_)
 have hs2l : x.arrs.length ≤ 9223372036854775807 := hs2.maplen
 refine .seq ?_
 refine .reg (X := Nat) (fun ζ => .of [(1, .one (.d (.pt false [.fn F_p first_p caps_p]))), (2, .one (.ptr [2] (ζ) 0))] [([2], (ζ, ζ, .box [.d (.v (.bool (x.live))), .d (.sl false 122 2 (List.map Iv.c (x.ints))), .d (.sl false 122 2 (List.map Iv.c (x.arrs)))]))]) [⟨[0], some 2, [], [[2]]⟩, ⟨[], some 3, [], []⟩] (fun k3 => ?_) ?_
 ·skip
  refine .box (.no rfl) rfl rfl rfl rfl rfl ?_
  refine .assign (.no rfl) rfl rfl rfl rfl ?_
  exact .fin k3 (.of (.cons rfl (.cons rfl .nil)) (.cons rfl .nil))
 intro g4
 refine .seq ?_
 refine .reg (X := Unit) (fun ζ => .of [(3, .one (.d (.v (.bool (!(p x))))))] []) [⟨[1], some 4, [], []⟩, ⟨[2], some 5, [[2]], []⟩, ⟨[4, 5], some 6, [], []⟩, ⟨[6], some 7, [], []⟩, ⟨[7], some 3, [], []⟩] (fun k5 => ?_) ?_
 ·skip
  refine .load (.no rfl) rfl t160 rfl rfl (.d _) rfl rfl rfl rfl ?_
  refine .load (.no rfl) rfl t77 rfl rfl (.ptr _ _ _ _ _ rfl) rfl rfl rfl rfl ?_
  refine .callF (.no rfl) rfl (ds := [.v (.bool (x.live)), .sl false 122 2 (List.map Iv.c (x.ints)), .sl false 122 2 (List.map Iv.c (x.arrs))]) (h_p x) rfl rfl rfl rfl (.own [6, 0] .nil) rfl rfl rfl rfl rfl rfl ?_
  refine .un (.no rfl) rfl rfl rfl rfl rfl ?_
  refine .assign (.no rfl) rfl rfl rfl rfl ?_
  exact .fin () (.of (.cons rfl .nil) .nil)
 intro _
 refine .ret ?_
 have e6 : (!(p x)) = (!p x) := by rfl
 have hc7 := eq1 (fun z1 => SV.one (.d (.v (.bool (z1))))) e6
 show _ ∧ _
 exact ⟨.inr rfl, .done ⟨_, [], [], _, .one (c := .d (.v (.bool (!p x)))) (hc7) .nil, .cons (Reads.d _).gives .nil, nodupB_ok rfl, by simp, (by simp)⟩⟩
theorem c_areAllE (l : List Env) (F_p : FuncId) (first_p : List (Bool × List D)) (caps_p : List D) (p : Env → Bool) (h_p : ∀ (x0 : Env), FnTrip Tryz.prog F_p first_p caps_p [(true, 3)] (Env.c77 x0) [(false, 1)] [.v (.bool (p x0))]) : Trip Tryz.prog 121 [(false, 1), (false, 1)] ([.sl false 77 3 (List.map Env.c77 (l))] ++ [.fn F_p first_p caps_p]) [(false, 1)] [.v (.bool (l.all p))] [] := by
 refine Trip.of Tryz.func121 (by decide) (c := _) rfl rfl (shB_ok rfl) (Nat.le_of_ble_eq_true rfl) rfl (AftOk.nil _) ?_
 refine .sat (t := 0) rfl (fun hs1 => ?_)
 have hs1l : l.length ≤ 9223372036854775807 := hs1.maplen
 refine .seq ?_
 refine .reg (X := Nat) (fun ζ => .of [(0, .one (.d (.sl false 77 3 (List.map Env.c77 (l))))), (3, .one (.ptr [3] (ζ) 0))] [([3], (ζ, ζ, .box [.d (.fn F_p first_p caps_p)]))]) [⟨[1], some 3, [], [[3]]⟩, ⟨[], some 4, [], []⟩] (fun k2 => ?_) ?_
 ·skip
  refine .box (.no rfl) rfl rfl rfl rfl rfl ?_
  refine .assign (.no rfl) rfl rfl rfl rfl ?_
  exact .fin k2 (.of (.cons rfl (.cons rfl .nil)) (.cons rfl .nil))
 intro g3
 refine .seq ?_
 refine .reg (X := Unit) (fun ζ => .of [(4, .one (.d (.v (.bool (!(l.any (fun x0 => !p x0)))))))] []) [⟨[0], some 5, [], []⟩, ⟨[3], some 6, [], []⟩, ⟨[5, 6], some 7, [[3]], []⟩, ⟨[7], some 8, [], []⟩, ⟨[8], some 4, [], []⟩] (fun k4 => ?_) ?_
 ·skip
  refine .move (.no rfl) rfl rfl rfl rfl ?_
  refine .makeFunc (.no rfl) rfl rfl rfl rfl rfl ?_
  refine .call (.no rfl) rfl [[3]] [([3], (g3, g3, .box [.d (.fn F_p first_p caps_p)]))] (c_ContainsFuncE l 155 [] [.pt false [.fn F_p first_p caps_p]] (fun x0 => !p x0) (fun x0 => c_areAll1E x0 F_p first_p caps_p p h_p)) rfl rfl rfl rfl rfl (.cons (Reads.d _).gives (.cons (Reads.clo0 (.cons (Reads.ptr0 (.head _) (.head _) (.cons (Reads.d _) .nil)) .nil)).gives .nil)) rfl rfl (fun _ => (ownCons (Owned.v _) ownNil)) (.own [7, 0] .nil) (.nil) rfl rfl rfl (AllH.get (.cons rfl .nil)) rfl rfl rfl ?_
  refine .un (.no rfl) rfl rfl rfl rfl rfl ?_
  refine .assign (.no rfl) rfl rfl rfl rfl ?_
  exact .fin () (.of (.cons rfl .nil) .nil)
 intro _
 refine .ret ?_
 have e5 : (!(l.any (fun x0 => !p x0))) = (l.all p) := by exact not_any _ _
 have hc6 := eq1 (fun z1 => SV.one (.d (.v (.bool (z1))))) e5
 show _ ∧ _
 exact ⟨.inr rfl, .done ⟨_, [], [], _, .one (c := .d (.v (.bool (l.all p)))) (hc6) .nil, .cons (Reads.d _).gives .nil, nodupB_ok rfl, by simp, (by simp)⟩⟩
end Go.Proofs

namespace Go.Proofs
open Go Go.Proofs Go.Ev

theorem c_sTableOk (d : Decl) (t : List Env) (hs : ∀ x ∈ Decl.names d, x.size ≤ 9223372036854775807) (hd : d.vars.length ≤ 1048576 ∧ d.flags.length ≤ 1048576 ∧ d.arrays.length ≤ 1048576) (hx : ∀ x ∈ t, x.ints.length ≤ 1048576 ∧ x.arrs.length ≤ 1048576) : Trip Tryz.prog 39 [(true, 3), (false, 1)] (Decl.c38 d ++ [.sl false 77 3 (List.map Env.c77 (t))]) [(false, 1)] [.v (.bool (Table.ok d t))] [] := by
 refine Trip.of Tryz.func39 (by decide) (c := _) rfl rfl (shB_ok rfl) (Nat.le_of_ble_eq_true rfl) rfl (AftOk.nil _) ?_
 refine .satA (t := 0) (i := 0) rfl rfl (fun hs1 => ?_)
 have hs1l : d.vars.length ≤ 9223372036854775807 := hs1.maplen
 refine .satA (t := 0) (i := 1) rfl rfl (fun hs2 => ?_)
 have hs2l : d.flags.length ≤ 9223372036854775807 := hs2.maplen
 refine .satA (t := 0) (i := 2) rfl rfl (fun hs3 => ?_)
 have hs3l : d.arrays.length ≤ 9223372036854775807 := hs3.maplen
 refine .sat (t := 1) rfl (fun hs4 => ?_)
 have hs4l : t.length ≤ 9223372036854775807 := hs4.maplen
 refine .seq ?_
 refine .reg (X := Nat) (fun ζ => .of [(1, .one (.d (.sl false 77 3 (List.map Env.c77 (t))))), (2, .one (.ptr [2] (ζ) 0))] [([2], (ζ, ζ, .box [.d (.sl false 9 1 (List.map strc (d.vars))), .d (.sl false 9 1 (List.map strc (d.flags))), .d (.sl false 119 2 (List.map Arr.c (d.arrays)))]))]) [⟨[0], some 2, [], [[2]]⟩, ⟨[], some 4, [], []⟩] (fun k5 => ?_) ?_
 ·skip
  refine .box (.no rfl) rfl rfl rfl rfl rfl ?_
  refine .assign (.no rfl) rfl rfl rfl rfl ?_
  exact .fin k5 (.of (.cons rfl (.cons rfl .nil)) (.cons rfl .nil))
 intro g6
 refine .seq ?_
 refine .seq ?_
 refine .reg (X := Unit) (fun ζ => .of [(1, .one (.d (.sl false 77 3 (List.map Env.c77 (t))))), (2, .one (.ptr [2] (g6) 0)), (15, .one (.d (.v (.bool ((!(Decl.ok d) || (t.length : Int) != (leavesOf d)))))))] [([2], (g6, g6, .box [.d (.sl false 9 1 (List.map strc (d.vars))), .d (.sl false 9 1 (List.map strc (d.flags))), .d (.sl false 119 2 (List.map Arr.c (d.arrays)))]))]) [⟨[2], some 6, [[2]], []⟩, ⟨[6], some 7, [], []⟩, ⟨[7], some 8, [], []⟩, ⟨[8], some 9, [], []⟩, ⟨[9, 1], some 10, [], []⟩, ⟨[9, 10], some 11, [], []⟩, ⟨[9, 2], some 12, [[2]], []⟩, ⟨[9, 12], some 13, [], []⟩, ⟨[9, 11, 13], some 14, [], []⟩, ⟨[9, 14], some 15, [], []⟩] (fun k7 => ?_) ?_
 ·skip
  refine .load (.no rfl) rfl t38 rfl rfl (.ptr _ _ _ _ _ rfl) rfl rfl rfl rfl ?_
  refine .call (.no rfl) rfl [] [] (c_sDeclOk d (by first | assumption | exact hx _ (getD_mem (by omega))) (by first | assumption | exact hx _ (getD_mem (by omega)))) rfl rfl rfl rfl rfl (.cons (Reads.d _).gives (.cons (Reads.d _).gives (.cons (Reads.d _).gives .nil))) rfl rfl (fun h => absurd rfl h) (.own [7, 0] .nil) (.nil) rfl rfl rfl (by simp) rfl rfl rfl ?_
  refine .un (.no rfl) rfl rfl rfl rfl rfl ?_
  refine .moveB (.no rfl) rfl rfl rfl rfl fun b8 g1_3 => ?_
  cases b8
  ·skip
   refine .move (.on rfl rfl rfl rfl rfl) rfl rfl rfl rfl ?_
   refine .len (.on rfl rfl rfl rfl rfl) rfl (z := (t.length : Int)) t40 rfl rfl rfl (.d _ _) (map_len _ _) rfl ?_
   refine .load (.on rfl rfl rfl rfl rfl) rfl t38 rfl rfl (.ptr _ _ _ _ _ rfl) rfl rfl rfl rfl ?_
   refine .call (.on rfl rfl rfl rfl rfl) rfl [] [] (c_l8Size d) rfl rfl rfl rfl rfl (.cons (Reads.d _).gives (.cons (Reads.d _).gives (.cons (Reads.d _).gives .nil))) rfl rfl (fun h => absurd rfl h) (.own [13, 0] .nil) (.nil) rfl rfl rfl (by simp) rfl rfl rfl ?_
   refine .bin (.on rfl rfl rfl rfl rfl) rfl rfl rfl rfl rfl rfl ?_
   refine .pick (.no rfl) rfl rfl rfl rfl rfl ?_
   exact .fin () (.of (.cons rfl (.cons rfl (.cons (svB (show ((t.length : Int) != (leavesOf d)) = ((!(Decl.ok d) || (t.length : Int) != (leavesOf d))) by first | (simp only [g1_3, Bool.true_or, Bool.false_or, Bool.true_and, Bool.false_and, Bool.not_true, Bool.not_false]; done) | simp [g1_3])) .nil))) (.cons rfl .nil))
  ·skip
   refine .off rfl rfl rfl rfl rfl rfl rfl ?_
   refine .off rfl rfl rfl rfl rfl rfl rfl ?_
   refine .off rfl rfl rfl rfl rfl rfl rfl ?_
   refine .off rfl rfl rfl rfl rfl rfl rfl ?_
   refine .off rfl rfl rfl rfl rfl rfl rfl ?_
   refine .pick (.no rfl) rfl rfl rfl rfl rfl ?_
   exact .fin () (.of (.cons rfl (.cons rfl (.cons (svB (show (true) = ((!(Decl.ok d) || (t.length : Int) != (leavesOf d))) by first | (simp only [g1_3, Bool.true_or, Bool.false_or, Bool.true_and, Bool.false_and, Bool.not_true, Bool.not_false]; done) | simp [g1_3])) .nil))) (.cons rfl .nil))
 intro _
 refine .cond (t := (!(Decl.ok d) || (t.length : Int) != (leavesOf d))) rfl (fun c0 => ?_) (fun c0 => ?_)
 ·have c0 := c0
  try simp only [Bool.or_eq_true, Bool.or_eq_false_iff, Bool.and_eq_true, Bool.and_eq_false_iff, decide_eq_true_eq, decide_eq_false_iff_not, Bool.not_eq_true', Bool.not_eq_false', bne_iff_ne, beq_iff_eq, bne_eq_false_iff_eq, beq_eq_false_iff_ne, ne_eq, Bool.not_eq_eq_eq_not, Bool.not_true, Bool.not_false] at c0
  refine .seq ?_
  refine .reg (X := Unit) (fun ζ => .of [(4, .one (.d (.v (.bool (false)))))] []) [⟨[], some 4, [], []⟩] (fun k9 => ?_) ?_
  ·skip
   refine .assign (.no rfl) rfl rfl rfl rfl ?_
   exact .fin () (.of (.cons rfl .nil) .nil)
  intro _
  refine .ret ?_
  have e10 : (false) = (Table.ok d t) := by (unfold Table.ok Table.isIn; rcases c0 with h | h <;> simp [h])
  have hc11 := eq1 (fun z1 => SV.one (.d (.v (.bool (z1))))) e10
  show _ ∧ _
  exact ⟨.inr rfl, .done ⟨_, [], [], _, .one (c := .d (.v (.bool (Table.ok d t)))) (hc11) .nil, .cons (Reads.d _).gives .nil, nodupB_ok rfl, by simp, (by simp)⟩⟩
 ·have c0 := c0
  try simp only [Bool.or_eq_true, Bool.or_eq_false_iff, Bool.and_eq_true, Bool.and_eq_false_iff, decide_eq_true_eq, decide_eq_false_iff_not, Bool.not_eq_true', Bool.not_eq_false', bne_iff_ne, beq_iff_eq, bne_eq_false_iff_eq, beq_eq_false_iff_ne, ne_eq, Bool.not_eq_eq_eq_not, Bool.not_true, Bool.not_false] at c0
  refine .skip ?_
  refine .seq ?_
  refine .seq ?_
  refine .reg (X := Unit) (fun ζ => .of [(1, .one (.d (.sl false 77 3 (List.map Env.c77 (t))))), (2, .one (.ptr [2] (g6) 0)), (5, .one (.d (.v (.int .i64 (0)))))] [([2], (g6, g6, .box [.d (.sl false 9 1 (List.map strc (d.vars))), .d (.sl false 9 1 (List.map strc (d.flags))), .d (.sl false 119 2 (List.map Arr.c (d.arrays)))]))]) [⟨[], some 5, [], []⟩] (fun k12 => ?_) ?_
  ·skip
   refine .assign (.no rfl) rfl rfl rfl rfl ?_
   exact .fin () (.of (.cons rfl (.cons rfl (.cons rfl .nil))) (.cons rfl .nil))
  intro _
  refine .block ?_
  refine .loop (X := Nat) (fun ζ => .of [(1, .one (.d (.sl false 77 3 (List.map Env.c77 (t))))), (2, .one (.ptr [2] (g6) 0)), (5, .one (.d (.v (.int .i64 ((ζ : Int))))))] [([2], (g6, g6, .box [.d (.sl false 9 1 (List.map strc (d.vars))), .d (.sl false 9 1 (List.map strc (d.flags))), .d (.sl false 119 2 (List.map Arr.c (d.arrays)))]))]) (fun ζ => ζ ≤ t.length ∧ allTo ζ (fun i => Env.okIn d (t.getD i default)) = true) (fun ζ => t.length - ζ) ?_ ?_
  ·skip
   exact .here 0 (.of (.cons rfl (.cons rfl (.cons (svI (show (0) = ((0 : Int)) by first | rfl | omega | exact wrap_le (by omega) (by omega) | (rw [wrap_le (by omega) (by omega)]; omega))) .nil))) (.cons rfl .nil)) (show 0 ≤ t.length ∧ allTo 0 (fun i => Env.okIn d (t.getD i default)) = true by exact ⟨by omega, rfl⟩)
  ·rintro j hI
   have hI : j ≤ t.length ∧ allTo j (fun i => Env.okIn d (t.getD i default)) = true := hI
   refine .seq ?_
   refine .seq ?_
   refine .reg (X := Unit) (fun ζ => .of [(1, .one (.d (.sl false 77 3 (List.map Env.c77 (t))))), (2, .one (.ptr [2] (g6) 0)), (5, .one (.d (.v (.int .i64 ((j : Int)))))), (19, .one (.d (.v (.bool (decide ((j : Int) < (t.length : Int)))))))] [([2], (g6, g6, .box [.d (.sl false 9 1 (List.map strc (d.vars))), .d (.sl false 9 1 (List.map strc (d.flags))), .d (.sl false 119 2 (List.map Arr.c (d.arrays)))]))]) [⟨[5], some 16, [], []⟩, ⟨[1], some 17, [], []⟩, ⟨[17], some 18, [], []⟩, ⟨[16, 18], some 19, [], []⟩] (fun k13 => ?_) ?_
   ·skip
    refine .move (.no rfl) rfl rfl rfl rfl ?_
    refine .move (.no rfl) rfl rfl rfl rfl ?_
    refine .len (.no rfl) rfl (z := (t.length : Int)) t40 rfl rfl rfl (.d _ _) (map_len _ _) rfl ?_
    refine .bin (.no rfl) rfl rfl rfl rfl rfl rfl ?_
    exact .fin () (.of (.cons rfl (.cons rfl (.cons rfl (.cons rfl .nil)))) (.cons rfl .nil))
   intro _
   refine .cond (t := decide ((j : Int) < (t.length : Int))) rfl (fun c1 => ?_) (fun c1 => ?_)
   ·have c1 := of_decide_eq_true c1
    refine .skip ?_
    refine .seq ?_
    refine .block ?_
    refine .seq ?_
    refine .regD (X := Unit) (by kernel_rfl) (fun ζ => .of [(1, .one (.d (.sl false 77 3 (List.map Env.c77 (t))))), (2, .one (.ptr [2] (g6) 0)), (5, .one (.d (.v (.int .i64 ((j : Int)))))), (28, .one (.d (.v (.bool (!(Decl.ok d && Env.okIn d (t.getD j default)))))))] [([2], (g6, g6, .box [.d (.sl false 9 1 (List.map strc (d.vars))), .d (.sl false 9 1 (List.map strc (d.flags))), .d (.sl false 119 2 (List.map Arr.c (d.arrays)))]))]) [⟨[2], some 22, [[2]], []⟩, ⟨[1], some 23, [], []⟩, ⟨[5], some 24, [], []⟩, ⟨[23, 24], some 25, [], []⟩, ⟨[25], some 26, [], []⟩, ⟨[22, 26], some 27, [], []⟩, ⟨[27], some 28, [], []⟩] (by kernel_rfl) (fun k14 => ?_) ?_
    ·skip
     refine .load (.no rfl) rfl t38 rfl rfl (.ptr _ _ _ _ _ rfl) rfl rfl rfl rfl ?_
     refine .move (.no rfl) rfl rfl rfl rfl ?_
     refine .move (.no rfl) rfl rfl rfl rfl ?_
     refine .indexAddr (.no rfl) rfl (j) t40 rfl t77 rfl rfl rfl (.d _ _) rfl rfl rfl (map_get (by omega)) rfl rfl ?_
     refine .load (.no rfl) rfl t77 rfl rfl (.d _) rfl rfl rfl rfl ?_
     refine .call (.no rfl) rfl [] [] (c_sEnvOk d (t.getD j default) (by first | assumption | exact hx _ (getD_mem (by omega))) (by first | assumption | exact hx _ (getD_mem (by omega))) (by first | assumption | exact hx _ (getD_mem (by omega)))) rfl rfl rfl rfl rfl (.cons (Reads.d _).gives (.cons (Reads.d _).gives (.cons (Reads.d _).gives (.cons (Reads.d _).gives (.cons (Reads.d _).gives (.cons (Reads.d _).gives .nil)))))) rfl rfl (fun h => absurd rfl h) (.own [27, 0] .nil) (.nil) rfl rfl rfl (by simp) rfl rfl rfl ?_
     refine .un (.no rfl) rfl rfl rfl rfl rfl ?_
     exact .fin () (.of (.cons rfl (.cons rfl (.cons rfl (.cons rfl .nil)))) (.cons rfl .nil))
    intro _
    refine .cond (t := !(Decl.ok d && Env.okIn d (t.getD j default))) rfl (fun c2 => ?_) (fun c2 => ?_)
    ·have c2 := c2
     try simp only [Bool.or_eq_true, Bool.or_eq_false_iff, Bool.and_eq_true, Bool.and_eq_false_iff, decide_eq_true_eq, decide_eq_false_iff_not, Bool.not_eq_true', Bool.not_eq_false', bne_iff_ne, beq_iff_eq, bne_eq_false_iff_eq, beq_eq_false_iff_ne, ne_eq, Bool.not_eq_eq_eq_not, Bool.not_true, Bool.not_false] at c2
     refine .seq ?_
     refine .reg (X := Unit) (fun ζ => .of [(4, .one (.d (.v (.bool (false)))))] []) [⟨[], some 4, [], []⟩] (fun k15 => ?_) ?_
     ·skip
      refine .assign (.no rfl) rfl rfl rfl rfl ?_
      exact .fin () (.of (.cons rfl .nil) .nil)
     intro _
     refine .ret ?_
     have e16 : (false) = (Table.ok d t) := by (unfold Table.ok Table.isIn; rw [all_none (p := Env.okIn d) (j := j) (by omega) (by rcases c2 with h | h <;> first | exact h | (rw [c0.1] at h; exact absurd h (by decide))), Bool.and_false, Bool.and_false])
     have hc17 := eq1 (fun z1 => SV.one (.d (.v (.bool (z1))))) e16
     show _ ∧ _
     exact ⟨.inr rfl, .done ⟨_, [], [], _, .one (c := .d (.v (.bool (Table.ok d t)))) (hc17) .nil, .cons (Reads.d _).gives .nil, nodupB_ok rfl, by simp, (by simp)⟩⟩
    ·have c2 := c2
     try simp only [Bool.or_eq_true, Bool.or_eq_false_iff, Bool.and_eq_true, Bool.and_eq_false_iff, decide_eq_true_eq, decide_eq_false_iff_not, Bool.not_eq_true', Bool.not_eq_false', bne_iff_ne, beq_iff_eq, bne_eq_false_iff_eq, beq_eq_false_iff_ne, ne_eq, Bool.not_eq_eq_eq_not, Bool.not_true, Bool.not_false] at c2
     refine .skip ?_
     refine .reg (X := Unit) (fun ζ => .of [(1, .one (.d (.sl false 77 3 (List.map Env.c77 (t))))), (2, .one (.ptr [2] (g6) 0)), (5, .one (.d (.v (.int .i64 (IntKind.wrap .i64 ((j : Int) + 1))))))] [([2], (g6, g6, .box [.d (.sl false 9 1 (List.map strc (d.vars))), .d (.sl false 9 1 (List.map strc (d.flags))), .d (.sl false 119 2 (List.map Arr.c (d.arrays)))]))]) [⟨[5], some 20, [], []⟩, ⟨[20], some 21, [], []⟩, ⟨[21], some 5, [], []⟩] (fun k18 => ?_) ?_
     ·skip
      refine .move (.no rfl) rfl rfl rfl rfl ?_
      refine .bin (.no rfl) rfl rfl rfl rfl rfl rfl ?_
      refine .assign (.no rfl) rfl rfl rfl rfl ?_
      exact .fin () (.of (.cons rfl (.cons rfl (.cons rfl .nil))) (.cons rfl .nil))
     intro _
     exact .here (j + 1) (.of (.cons rfl (.cons rfl (.cons (svI (show (IntKind.wrap .i64 ((j : Int) + 1)) = (((j + 1) : Int)) by first | rfl | omega | exact wrap_le (by omega) (by omega) | (rw [wrap_le (by omega) (by omega)]; omega))) .nil))) (.cons rfl .nil)) ⟨(show (j + 1) ≤ t.length ∧ allTo (j + 1) (fun i => Env.okIn d (t.getD i default)) = true by exact ⟨by omega, allTo_step hI.2 c2.2⟩), (show t.length - (j + 1) < t.length - j by omega)⟩
   ·have c1 := of_decide_eq_false c1
    refine .exit ?_
    refine .seq ?_
    refine .reg (X := Unit) (fun ζ => .of [(4, .one (.d (.v (.bool (true)))))] []) [⟨[], some 4, [], []⟩] (fun k19 => ?_) ?_
    ·skip
     refine .assign (.no rfl) rfl rfl rfl rfl ?_
     exact .fin () (.of (.cons rfl .nil) .nil)
    intro _
    refine .ret ?_
    have e20 : (true) = (Table.ok d t) := by (unfold Table.ok Table.isIn; rw [c0.1, all_done (p := Env.okIn d) (j := j) (by omega) hI.2]; simp [c0.2])
    have hc21 := eq1 (fun z1 => SV.one (.d (.v (.bool (z1))))) e20
    show _ ∧ _
    exact ⟨.inr rfl, .done ⟨_, [], [], _, .one (c := .d (.v (.bool (Table.ok d t)))) (hc21) .nil, .cons (Reads.d _).gives .nil, nodupB_ok rfl, by simp, (by simp)⟩⟩
end Go.Proofs

namespace Go.Proofs
open Go Go.Proofs Go.Ev

theorem c_isTable (d : Decl) (t : List Env) : Trip Tryz.prog 85 [(true, 3), (false, 1)] (Decl.c38 d ++ [.sl false 77 3 (List.map Env.c77 (t))]) [(false, 1)] [.v (.bool (Table.isIn d t))] [] := by
 refine Trip.of Tryz.func85 (by decide) (c := _) rfl rfl (shB_ok rfl) (Nat.le_of_ble_eq_true rfl) rfl (AftOk.nil _) ?_
 refine .satA (t := 0) (i := 0) rfl rfl (fun hs1 => ?_)
 have hs1l : d.vars.length ≤ 9223372036854775807 := hs1.maplen
 refine .satA (t := 0) (i := 1) rfl rfl (fun hs2 => ?_)
 have hs2l : d.flags.length ≤ 9223372036854775807 := hs2.maplen
 refine .satA (t := 0) (i := 2) rfl rfl (fun hs3 => ?_)
 have hs3l : d.arrays.length ≤ 9223372036854775807 := hs3.maplen
 refine .sat (t := 1) rfl (fun hs4 => ?_)
 have hs4l : t.length ≤ 9223372036854775807 := hs4.maplen
 refine .seq ?_
 refine .reg (X := Nat) (fun ζ => .of [(1, .one (.d (.sl false 77 3 (List.map Env.c77 (t))))), (2, .one (.ptr [2] (ζ) 0))] [([2], (ζ, ζ, .box [.d (.sl false 9 1 (List.map strc (d.vars))), .d (.sl false 9 1 (List.map strc (d.flags))), .d (.sl false 119 2 (List.map Arr.c (d.arrays)))]))]) [⟨[0], some 2, [], [[2]]⟩, ⟨[], some 4, [], []⟩] (fun k5 => ?_) ?_
 ·skip
  refine .box (.no rfl) rfl rfl rfl rfl rfl ?_
  refine .assign (.no rfl) rfl rfl rfl rfl ?_
  exact .fin k5 (.of (.cons rfl (.cons rfl .nil)) (.cons rfl .nil))
 intro g6
 refine .seq ?_
 refine .regD (X := Unit) (by kernel_rfl) (fun ζ => .of [(4, .one (.d (.v (.bool (((t.length : Int) == (leavesOf d) && t.all (fun x0 => Env.okIn d x0)))))))] []) [⟨[1], some 5, [], []⟩, ⟨[5], some 6, [], []⟩, ⟨[2], some 7, [[2]], []⟩, ⟨[7], some 8, [], []⟩, ⟨[6, 8], some 9, [], []⟩, ⟨[9], some 10, [], []⟩, ⟨[10, 1], some 11, [], []⟩, ⟨[10, 2], some 12, [[2]], []⟩, ⟨[10, 12], some 13, [], []⟩, ⟨[10, 11, 13], some 14, [], []⟩, ⟨[10, 14], some 15, [], []⟩, ⟨[15], some 4, [], []⟩] (by kernel_rfl) (fun k7 => ?_) ?_
 ·skip
  refine .move (.no rfl) rfl rfl rfl rfl ?_
  refine .call (.no rfl) rfl [] [] (c_sizeE t) rfl rfl rfl rfl rfl (.cons (Reads.d _).gives .nil) rfl rfl (fun h => absurd rfl h) (.own [6, 0] .nil) (.nil) rfl rfl rfl (by simp) rfl rfl rfl ?_
  refine .load (.no rfl) rfl t38 rfl rfl (.ptr _ _ _ _ _ rfl) rfl rfl rfl rfl ?_
  refine .call (.no rfl) rfl [] [] (c_leaves d) rfl rfl rfl rfl rfl (.cons (Reads.d _).gives (.cons (Reads.d _).gives (.cons (Reads.d _).gives .nil))) rfl rfl (fun h => absurd rfl h) (.own [8, 0] .nil) (.nil) rfl rfl rfl (by simp) rfl rfl rfl ?_
  refine .bin (.no rfl) rfl rfl rfl rfl rfl rfl ?_
  refine .moveB (.no rfl) rfl rfl rfl rfl fun b8 g1_5 => ?_
  cases b8
  ·skip
   refine .off rfl rfl rfl rfl rfl rfl rfl ?_
   refine .off rfl rfl rfl rfl rfl rfl rfl ?_
   refine .off rfl rfl rfl rfl rfl rfl rfl ?_
   refine .off rfl rfl rfl rfl rfl rfl rfl ?_
   refine .pick (.no rfl) rfl rfl rfl rfl rfl ?_
   refine .assign (.no rfl) rfl rfl rfl rfl ?_
   exact .fin () (.of (.cons (svB (show (false) = (((t.length : Int) == (leavesOf d) && t.all (fun x0 => Env.okIn d x0))) by first | (simp only [g1_5, Bool.true_or, Bool.false_or, Bool.true_and, Bool.false_and, Bool.not_true, Bool.not_false]; done) | simp [g1_5])) .nil) .nil)
  ·skip
   refine .move (.on rfl rfl rfl rfl rfl) rfl rfl rfl rfl ?_
   refine .load (.on rfl rfl rfl rfl rfl) rfl t38 rfl rfl (.ptr _ _ _ _ _ rfl) rfl rfl rfl rfl ?_
   refine .makeFunc (.on rfl rfl rfl rfl rfl) rfl rfl rfl rfl rfl ?_
   refine .call (.on rfl rfl rfl rfl rfl) rfl [] [] (c_areAllE t 122 [(true, [.sl false 9 1 (List.map strc (d.vars)), .sl false 9 1 (List.map strc (d.flags)), .sl false 119 2 (List.map Arr.c (d.arrays))])] [] (fun x0 => Env.okIn d x0) (fun x0 => c_isEnv d x0)) rfl rfl rfl rfl rfl (.cons (Reads.d _).gives (.cons (Reads.clo1 (.cons (Reads.d _) (.cons (Reads.d _) (.cons (Reads.d _) .nil))) (.nil)).gives .nil)) rfl rfl (fun h => absurd rfl h) (.own [14, 0] .nil) (.nil) rfl rfl rfl (by simp) rfl rfl rfl ?_
   refine .pick (.no rfl) rfl rfl rfl rfl rfl ?_
   refine .assign (.no rfl) rfl rfl rfl rfl ?_
   exact .fin () (.of (.cons (svB (show (t.all (fun x0 => Env.okIn d x0)) = (((t.length : Int) == (leavesOf d) && t.all (fun x0 => Env.okIn d x0))) by first | (simp only [g1_5, Bool.true_or, Bool.false_or, Bool.true_and, Bool.false_and, Bool.not_true, Bool.not_false]; done) | simp [g1_5])) .nil) .nil)
 intro _
 refine .ret ?_
 have e9 : (((t.length : Int) == (leavesOf d) && t.all (fun x0 => Env.okIn d x0))) = (Table.isIn d t) := by rfl
 have hc10 := eq1 (fun z1 => SV.one (.d (.v (.bool (z1))))) e9
 show _ ∧ _
 exact ⟨.inr rfl, .done ⟨_, [], [], _, .one (c := .d (.v (.bool (Table.isIn d t)))) (hc10) .nil, .cons (Reads.d _).gives .nil, nodupB_ok rfl, by simp, (by simp)⟩⟩
end Go.Proofs

namespace Go.Proofs
open Go Go.Proofs Go.Ev

def i64c (x : Int) : List D := [.v (.int .i64 x)]
theorem i64c_e (x : Int) : (i64c x).map D.erase = i64c x := by simp [i64c, D.erase_v]
theorem i64c_o (x : Int) : ∀ d ∈ i64c x, Owned d := by simp [i64c, Owned.v]
def i186 : TI := ⟨.sl 3, 1, 24, [.slice none 0 0]⟩
theorem t186 : TyOk Tryz.prog 186 i186 := ⟨Tryz.underlying186, by kernel_rfl⟩
theorem z186 : ZOk Tryz.prog 186 i186 := ⟨t186, rfl⟩
theorem c_sTokenOk (t : List Entry) : Trip Tryz.prog 59 [(false, 1)] ([.sl false 137 2 (List.map Entry.c (t))]) [(false, 1)] [.v (.bool (tokOk t))] [] := by
 refine Trip.of Tryz.func59 (by decide) (c := _) rfl rfl (shB_ok rfl) (Nat.le_of_ble_eq_true rfl) rfl (AftOk.nil _) ?_
 refine .sat (t := 0) rfl (fun hs1 => ?_)
 have hs1l : t.length ≤ 9223372036854775807 := hs1.maplen
 refine .seq ?_
 refine .reg (X := Unit) (fun ζ => .of [(0, .one (.d (.sl false 137 2 (List.map Entry.c (t)))))] []) [⟨[], some 2, [], []⟩] (fun k2 => ?_) ?_
 ·skip
  refine .assign (.no rfl) rfl rfl rfl rfl ?_
  exact .fin () (.of (.cons rfl .nil) .nil)
 intro _
 refine .seq ?_
 refine .seq ?_
 refine .reg (X := Unit) (fun ζ => .of [(0, .one (.d (.sl false 137 2 (List.map Entry.c (t))))), (6, .one (.d (.v (.bool (decide ((t.length : Int) > 3))))))] []) [⟨[0], some 4, [], []⟩, ⟨[4], some 5, [], []⟩, ⟨[5], some 6, [], []⟩] (fun k3 => ?_) ?_
 ·skip
  refine .move (.no rfl) rfl rfl rfl rfl ?_
  refine .len (.no rfl) rfl (z := (t.length : Int)) t97 rfl rfl rfl (.d _ _) (map_len _ _) rfl ?_
  refine .bin (.no rfl) rfl rfl rfl rfl rfl rfl ?_
  exact .fin () (.of (.cons rfl (.cons rfl .nil)) .nil)
 intro _
 refine .cond (t := decide ((t.length : Int) > 3)) rfl (fun c0 => ?_) (fun c0 => ?_)
 ·have c0 := of_decide_eq_true c0
  refine .seq ?_
  refine .reg (X := Unit) (fun ζ => .of [(2, .one (.d (.v (.bool (false)))))] []) [⟨[], some 2, [], []⟩] (fun k4 => ?_) ?_
  ·skip
   refine .assign (.no rfl) rfl rfl rfl rfl ?_
   exact .fin () (.of (.cons rfl .nil) .nil)
  intro _
  refine .ret ?_
  have e5 : (false) = (tokOk t) := by (rw [tokOk_no c0])
  have hc6 := eq1 (fun z1 => SV.one (.d (.v (.bool (z1))))) e5
  show _ ∧ _
  exact ⟨.inr rfl, .done ⟨_, [], [], _, .one (c := .d (.v (.bool (tokOk t)))) (hc6) .nil, .cons (Reads.d _).gives .nil, nodupB_ok rfl, by simp, (by simp)⟩⟩
 ·have c0 := of_decide_eq_false c0
  refine .skip ?_
  refine .seq ?_
  refine .seq ?_
  refine .reg (X := Unit) (fun ζ => .of [(0, .one (.d (.sl false 137 2 (List.map Entry.c (t))))), (3, .one (.d (.v (.int .i64 (0)))))] []) [⟨[], some 3, [], []⟩] (fun k7 => ?_) ?_
  ·skip
   refine .assign (.no rfl) rfl rfl rfl rfl ?_
   exact .fin () (.of (.cons rfl (.cons rfl .nil)) .nil)
  intro _
  refine .block ?_
  refine .loop (X := Nat) (fun ζ => .of [(0, .one (.d (.sl false 137 2 (List.map Entry.c (t))))), (3, .one (.d (.v (.int .i64 ((ζ : Int))))))] []) (fun ζ => ζ ≤ t.length ∧ allTo ζ (fun i => Entry.ok (t.getD i default)) = true) (fun ζ => t.length - ζ) ?_ ?_
  ·skip
   exact .here 0 (.of (.cons rfl (.cons (svI (show (0) = ((0 : Int)) by first | rfl | omega | exact wrap_le (by omega) (by omega) | (rw [wrap_le (by omega) (by omega)]; omega))) .nil)) .nil) (show 0 ≤ t.length ∧ allTo 0 (fun i => Entry.ok (t.getD i default)) = true by exact ⟨by omega, rfl⟩)
  ·rintro j hI
   have hI : j ≤ t.length ∧ allTo j (fun i => Entry.ok (t.getD i default)) = true := hI
   refine .seq ?_
   refine .seq ?_
   refine .reg (X := Unit) (fun ζ => .of [(0, .one (.d (.sl false 137 2 (List.map Entry.c (t))))), (3, .one (.d (.v (.int .i64 ((j : Int)))))), (10, .one (.d (.v (.bool (decide ((j : Int) < (t.length : Int)))))))] []) [⟨[3], some 7, [], []⟩, ⟨[0], some 8, [], []⟩, ⟨[8], some 9, [], []⟩, ⟨[7, 9], some 10, [], []⟩] (fun k8 => ?_) ?_
   ·skip
    refine .move (.no rfl) rfl rfl rfl rfl ?_
    refine .move (.no rfl) rfl rfl rfl rfl ?_
    refine .len (.no rfl) rfl (z := (t.length : Int)) t97 rfl rfl rfl (.d _ _) (map_len _ _) rfl ?_
    refine .bin (.no rfl) rfl rfl rfl rfl rfl rfl ?_
    exact .fin () (.of (.cons rfl (.cons rfl (.cons rfl .nil))) .nil)
   intro _
   refine .cond (t := decide ((j : Int) < (t.length : Int))) rfl (fun c1 => ?_) (fun c1 => ?_)
   ·have c1 := of_decide_eq_true c1
    refine .skip ?_
    refine .seq ?_
    refine .block ?_
    refine .seq ?_
    refine .reg (X := Unit) (fun ζ => .of [(0, .one (.d (.sl false 137 2 (List.map Entry.c (t))))), (3, .one (.d (.v (.int .i64 ((j : Int)))))), (28, .one (.d (.v (.bool ((!(inR ((t.getD j default).line) 0 29) || !(inR ((t.getD j default).pick) 0 4)))))))] []) [⟨[0], some 13, [], []⟩, ⟨[3], some 14, [], []⟩, ⟨[13, 14], some 15, [], []⟩, ⟨[15], some 16, [], []⟩, ⟨[16], some 17, [], []⟩, ⟨[17], some 18, [], []⟩, ⟨[18], some 19, [], []⟩, ⟨[19], some 20, [], []⟩, ⟨[20, 0], some 21, [], []⟩, ⟨[20, 3], some 22, [], []⟩, ⟨[20, 21, 22], some 23, [], []⟩, ⟨[20, 23], some 24, [], []⟩, ⟨[20, 24], some 25, [], []⟩, ⟨[20, 25], some 26, [], []⟩, ⟨[20, 26], some 27, [], []⟩, ⟨[20, 27], some 28, [], []⟩] (fun k9 => ?_) ?_
    ·skip
     refine .move (.no rfl) rfl rfl rfl rfl ?_
     refine .move (.no rfl) rfl rfl rfl rfl ?_
     refine .indexAddr (.no rfl) rfl (j) t97 rfl t137 rfl rfl rfl (.d _ _) rfl rfl rfl (map_get (by omega)) rfl rfl ?_
     refine .fieldAddr (.no rfl) rfl t137 rfl rfl t2 rfl rfl rfl rfl [] (by simp) (by intro _ _ _ h; cases h) rfl rfl ?_
     refine .load (.no rfl) rfl t2 rfl rfl (.d _) rfl rfl rfl rfl ?_
     refine .call (.no rfl) rfl [] [] (c_l1In ((t.getD j default).line) 0 29) rfl rfl rfl rfl rfl (.cons (Reads.d _).gives (.cons (Reads.d _).gives (.cons (Reads.d _).gives .nil))) rfl rfl (fun h => absurd rfl h) (.own [18, 0] .nil) (.nil) rfl rfl rfl (by simp) rfl rfl rfl ?_
     refine .un (.no rfl) rfl rfl rfl rfl rfl ?_
     refine .moveB (.no rfl) rfl rfl rfl rfl fun b10 g6_7 => ?_
     cases b10
     ·skip
      refine .move (.on rfl rfl rfl rfl rfl) rfl rfl rfl rfl ?_
      refine .move (.on rfl rfl rfl rfl rfl) rfl rfl rfl rfl ?_
      refine .indexAddr (.on rfl rfl rfl rfl rfl) rfl (j) t97 rfl t137 rfl rfl rfl (.d _ _) rfl rfl rfl (map_get (by omega)) rfl rfl ?_
      refine .fieldAddr (.on rfl rfl rfl rfl rfl) rfl t137 rfl rfl t2 rfl rfl rfl rfl [] (by simp) (by intro _ _ _ h; cases h) rfl rfl ?_
      refine .load (.on rfl rfl rfl rfl rfl) rfl t2 rfl rfl (.d _) rfl rfl rfl rfl ?_
      refine .call (.on rfl rfl rfl rfl rfl) rfl [] [] (c_l1In ((t.getD j default).pick) 0 4) rfl rfl rfl rfl rfl (.cons (Reads.d _).gives (.cons (Reads.d _).gives (.cons (Reads.d _).gives .nil))) rfl rfl (fun h => absurd rfl h) (.own [26, 0] .nil) (.nil) rfl rfl rfl (by simp) rfl rfl rfl ?_
      refine .un (.on rfl rfl rfl rfl rfl) rfl rfl rfl rfl rfl ?_
      refine .pick (.no rfl) rfl rfl rfl rfl rfl ?_
      exact .fin () (.of (.cons rfl (.cons rfl (.cons (svB (show (!(inR ((t.getD j default).pick) 0 4)) = ((!(inR ((t.getD j default).line) 0 29) || !(inR ((t.getD j default).pick) 0 4))) by first | (simp only [g6_7, Bool.true_or, Bool.false_or, Bool.true_and, Bool.false_and, Bool.not_true, Bool.not_false]; done) | simp [g6_7])) .nil))) .nil)
     ·skip
      refine .off rfl rfl rfl rfl rfl rfl rfl ?_
      refine .off rfl rfl rfl rfl rfl rfl rfl ?_
      refine .off rfl rfl rfl rfl rfl rfl rfl ?_
      refine .off rfl rfl rfl rfl rfl rfl rfl ?_
      refine .off rfl rfl rfl rfl rfl rfl rfl ?_
      refine .off rfl rfl rfl rfl rfl rfl rfl ?_
      refine .off rfl rfl rfl rfl rfl rfl rfl ?_
      refine .pick (.no rfl) rfl rfl rfl rfl rfl ?_
      exact .fin () (.of (.cons rfl (.cons rfl (.cons (svB (show (true) = ((!(inR ((t.getD j default).line) 0 29) || !(inR ((t.getD j default).pick) 0 4))) by first | (simp only [g6_7, Bool.true_or, Bool.false_or, Bool.true_and, Bool.false_and, Bool.not_true, Bool.not_false]; done) | simp [g6_7])) .nil))) .nil)
    intro _
    refine .cond (t := (!(inR ((t.getD j default).line) 0 29) || !(inR ((t.getD j default).pick) 0 4))) rfl (fun c2 => ?_) (fun c2 => ?_)
    ·have c2 := c2
     try simp only [Bool.or_eq_true, Bool.or_eq_false_iff, Bool.and_eq_true, Bool.and_eq_false_iff, decide_eq_true_eq, decide_eq_false_iff_not, Bool.not_eq_true', Bool.not_eq_false', bne_iff_ne, beq_iff_eq, bne_eq_false_iff_eq, beq_eq_false_iff_ne, ne_eq, Bool.not_eq_eq_eq_not, Bool.not_true, Bool.not_false] at c2
     refine .seq ?_
     refine .reg (X := Unit) (fun ζ => .of [(2, .one (.d (.v (.bool (false)))))] []) [⟨[], some 2, [], []⟩] (fun k11 => ?_) ?_
     ·skip
      refine .assign (.no rfl) rfl rfl rfl rfl ?_
      exact .fin () (.of (.cons rfl .nil) .nil)
     intro _
     refine .ret ?_
     have e12 : (false) = (tokOk t) := by (rw [tokOk_fail (j := j) (by omega) c2])
     have hc13 := eq1 (fun z1 => SV.one (.d (.v (.bool (z1))))) e12
     show _ ∧ _
     exact ⟨.inr rfl, .done ⟨_, [], [], _, .one (c := .d (.v (.bool (tokOk t)))) (hc13) .nil, .cons (Reads.d _).gives .nil, nodupB_ok rfl, by simp, (by simp)⟩⟩
    ·have c2 := c2
     try simp only [Bool.or_eq_true, Bool.or_eq_false_iff, Bool.and_eq_true, Bool.and_eq_false_iff, decide_eq_true_eq, decide_eq_false_iff_not, Bool.not_eq_true', Bool.not_eq_false', bne_iff_ne, beq_iff_eq, bne_eq_false_iff_eq, beq_eq_false_iff_ne, ne_eq, Bool.not_eq_eq_eq_not, Bool.not_true, Bool.not_false] at c2
     refine .skip ?_
     refine .reg (X := Unit) (fun ζ => .of [(0, .one (.d (.sl false 137 2 (List.map Entry.c (t))))), (3, .one (.d (.v (.int .i64 (IntKind.wrap .i64 ((j : Int) + 1))))))] []) [⟨[3], some 11, [], []⟩, ⟨[11], some 12, [], []⟩, ⟨[12], some 3, [], []⟩] (fun k14 => ?_) ?_
     ·skip
      refine .move (.no rfl) rfl rfl rfl rfl ?_
      refine .bin (.no rfl) rfl rfl rfl rfl rfl rfl ?_
      refine .assign (.no rfl) rfl rfl rfl rfl ?_
      exact .fin () (.of (.cons rfl (.cons rfl .nil)) .nil)
     intro _
     exact .here (j + 1) (.of (.cons rfl (.cons (svI (show (IntKind.wrap .i64 ((j : Int) + 1)) = (((j + 1) : Int)) by first | rfl | omega | exact wrap_le (by omega) (by omega) | (rw [wrap_le (by omega) (by omega)]; omega))) .nil)) .nil) ⟨(show (j + 1) ≤ t.length ∧ allTo (j + 1) (fun i => Entry.ok (t.getD i default)) = true by exact ⟨by omega, allTo_step hI.2 (entry_of c2)⟩), (show t.length - (j + 1) < t.length - j by omega)⟩
   ·have c1 := of_decide_eq_false c1
    refine .exit ?_
    refine .seq ?_
    refine .reg (X := Unit) (fun ζ => .of [(2, .one (.d (.v (.bool (true)))))] []) [⟨[], some 2, [], []⟩] (fun k15 => ?_) ?_
    ·skip
     refine .assign (.no rfl) rfl rfl rfl rfl ?_
     exact .fin () (.of (.cons rfl .nil) .nil)
    intro _
    refine .ret ?_
    have e16 : (true) = (tokOk t) := by (rw [tokOk_done (j := j) c0 (by omega) hI.2])
    have hc17 := eq1 (fun z1 => SV.one (.d (.v (.bool (z1))))) e16
    show _ ∧ _
    exact ⟨.inr rfl, .done ⟨_, [], [], _, .one (c := .d (.v (.bool (tokOk t)))) (hc17) .nil, .cons (Reads.d _).gives .nil, nodupB_ok rfl, by simp, (by simp)⟩⟩
theorem c_l9Cmp (a : List Entry) (b : List Entry) (ha : tokOk a = true) (hb : tokOk b = true) : Trip Tryz.prog 60 [(false, 1), (false, 1)] ([.sl false 137 2 (List.map Entry.c (a))] ++ [.sl false 137 2 (List.map Entry.c (b))]) [(false, 1)] [.v (.int .i64 (tokCmp a b))] [] := by
 refine Trip.of Tryz.func60 (by decide) (c := _) rfl rfl (shB_ok rfl) (Nat.le_of_ble_eq_true rfl) rfl (AftOk.nil _) ?_
 refine .sat (t := 0) rfl (fun hs1 => ?_)
 have hs1l : a.length ≤ 9223372036854775807 := hs1.maplen
 refine .sat (t := 1) rfl (fun hs2 => ?_)
 have hs2l : b.length ≤ 9223372036854775807 := hs2.maplen
 refine .seq ?_
 refine .reg (X := Unit) (fun ζ => .of [(0, .one (.d (.sl false 137 2 (List.map Entry.c (a))))), (1, .one (.d (.sl false 137 2 (List.map Entry.c (b)))))] []) [⟨[], some 4, [], []⟩] (fun k3 => ?_) ?_
 ·skip
  refine .assign (.no rfl) rfl rfl rfl rfl ?_
  exact .fin () (.of (.cons rfl (.cons rfl .nil)) .nil)
 intro _
 refine .seq ?_
 refine .seq ?_
 refine .reg (X := Unit) (fun ζ => .of [(0, .one (.d (.sl false 137 2 (List.map Entry.c (a))))), (1, .one (.d (.sl false 137 2 (List.map Entry.c (b))))), (12, .one (.d (.v (.bool ((a.length : Int) != (b.length : Int))))))] []) [⟨[0], some 8, [], []⟩, ⟨[8], some 9, [], []⟩, ⟨[1], some 10, [], []⟩, ⟨[10], some 11, [], []⟩, ⟨[9, 11], some 12, [], []⟩] (fun k4 => ?_) ?_
 ·skip
  refine .move (.no rfl) rfl rfl rfl rfl ?_
  refine .len (.no rfl) rfl (z := (a.length : Int)) t97 rfl rfl rfl (.d _ _) (map_len _ _) rfl ?_
  refine .move (.no rfl) rfl rfl rfl rfl ?_
  refine .len (.no rfl) rfl (z := (b.length : Int)) t97 rfl rfl rfl (.d _ _) (map_len _ _) rfl ?_
  refine .bin (.no rfl) rfl rfl rfl rfl rfl rfl ?_
  exact .fin () (.of (.cons rfl (.cons rfl (.cons rfl .nil))) .nil)
 intro _
 refine .cond (t := (a.length : Int) != (b.length : Int)) rfl (fun c0 => ?_) (fun c0 => ?_)
 ·have c0 := (by simpa using c0 : ¬ ((a.length : Int) = (b.length : Int)))
  refine .seq ?_
  refine .seq ?_
  refine .reg (X := Unit) (fun ζ => .of [(17, .one (.d (.v (.bool (decide ((a.length : Int) < (b.length : Int)))))))] []) [⟨[0], some 13, [], []⟩, ⟨[13], some 14, [], []⟩, ⟨[1], some 15, [], []⟩, ⟨[15], some 16, [], []⟩, ⟨[14, 16], some 17, [], []⟩] (fun k5 => ?_) ?_
  ·skip
   refine .move (.no rfl) rfl rfl rfl rfl ?_
   refine .len (.no rfl) rfl (z := (a.length : Int)) t97 rfl rfl rfl (.d _ _) (map_len _ _) rfl ?_
   refine .move (.no rfl) rfl rfl rfl rfl ?_
   refine .len (.no rfl) rfl (z := (b.length : Int)) t97 rfl rfl rfl (.d _ _) (map_len _ _) rfl ?_
   refine .bin (.no rfl) rfl rfl rfl rfl rfl rfl ?_
   exact .fin () (.of (.cons rfl .nil) .nil)
  intro _
  refine .cond (t := decide ((a.length : Int) < (b.length : Int))) rfl (fun c1 => ?_) (fun c1 => ?_)
  ·have c1 := of_decide_eq_true c1
   refine .seq ?_
   refine .reg (X := Unit) (fun ζ => .of [(4, .one (.d (.v (.int .i64 (-1)))))] []) [⟨[], some 4, [], []⟩] (fun k6 => ?_) ?_
   ·skip
    refine .assign (.no rfl) rfl rfl rfl rfl ?_
    exact .fin () (.of (.cons rfl .nil) .nil)
   intro _
   refine .ret ?_
   have e7 : (-1) = (tokCmp a b) := by exact tokCmp_lt c0 c1
   have hc8 := eq1 (fun z1 => SV.one (.d (.v (.int .i64 (z1))))) e7
   show _ ∧ _
   exact ⟨.inr rfl, .done ⟨_, [], [], _, .one (c := .d (.v (.int .i64 (tokCmp a b)))) (hc8) .nil, .cons (Reads.d _).gives .nil, nodupB_ok rfl, by simp, (by simp)⟩⟩
  ·have c1 := of_decide_eq_false c1
   refine .skip ?_
   refine .seq ?_
   refine .reg (X := Unit) (fun ζ => .of [(4, .one (.d (.v (.int .i64 (1)))))] []) [⟨[], some 4, [], []⟩] (fun k9 => ?_) ?_
   ·skip
    refine .assign (.no rfl) rfl rfl rfl rfl ?_
    exact .fin () (.of (.cons rfl .nil) .nil)
   intro _
   refine .ret ?_
   have e10 : (1) = (tokCmp a b) := by exact tokCmp_gt c0 c1
   have hc11 := eq1 (fun z1 => SV.one (.d (.v (.int .i64 (z1))))) e10
   show _ ∧ _
   exact ⟨.inr rfl, .done ⟨_, [], [], _, .one (c := .d (.v (.int .i64 (tokCmp a b)))) (hc11) .nil, .cons (Reads.d _).gives .nil, nodupB_ok rfl, by simp, (by simp)⟩⟩
 ·have c0 := (by simpa using c0 : (a.length : Int) = (b.length : Int))
  refine .skip ?_
  refine .seq ?_
  refine .seq ?_
  refine .reg (X := Unit) (fun ζ => .of [(0, .one (.d (.sl false 137 2 (List.map Entry.c (a))))), (1, .one (.d (.sl false 137 2 (List.map Entry.c (b))))), (5, .one (.d (.v (.int .i64 (0)))))] []) [⟨[], some 5, [], []⟩] (fun k12 => ?_) ?_
  ·skip
   refine .assign (.no rfl) rfl rfl rfl rfl ?_
   exact .fin () (.of (.cons rfl (.cons rfl (.cons rfl .nil))) .nil)
  intro _
  refine .block ?_
  refine .loop (X := Nat) (fun ζ => .of [(0, .one (.d (.sl false 137 2 (List.map Entry.c (a))))), (1, .one (.d (.sl false 137 2 (List.map Entry.c (b))))), (5, .one (.d (.v (.int .i64 ((ζ : Int))))))] []) (fun ζ => ζ ≤ a.length ∧ lexC entCmp (a.drop ζ) (b.drop ζ) = lexC entCmp a b) (fun ζ => a.length - ζ) ?_ ?_
  ·skip
   exact .here 0 (.of (.cons rfl (.cons rfl (.cons (svI (show (0) = ((0 : Int)) by first | rfl | omega | exact wrap_le (by omega) (by omega) | (rw [wrap_le (by omega) (by omega)]; omega))) .nil))) .nil) (show 0 ≤ a.length ∧ lexC entCmp (a.drop 0) (b.drop 0) = lexC entCmp a b by exact ⟨by omega, rfl⟩)
  ·rintro j hI
   have hI : j ≤ a.length ∧ lexC entCmp (a.drop j) (b.drop j) = lexC entCmp a b := hI
   refine .seq ?_
   refine .seq ?_
   refine .reg (X := Unit) (fun ζ => .of [(0, .one (.d (.sl false 137 2 (List.map Entry.c (a))))), (1, .one (.d (.sl false 137 2 (List.map Entry.c (b))))), (5, .one (.d (.v (.int .i64 ((j : Int)))))), (21, .one (.d (.v (.bool (decide ((j : Int) < (a.length : Int)))))))] []) [⟨[5], some 18, [], []⟩, ⟨[0], some 19, [], []⟩, ⟨[19], some 20, [], []⟩, ⟨[18, 20], some 21, [], []⟩] (fun k13 => ?_) ?_
   ·skip
    refine .move (.no rfl) rfl rfl rfl rfl ?_
    refine .move (.no rfl) rfl rfl rfl rfl ?_
    refine .len (.no rfl) rfl (z := (a.length : Int)) t97 rfl rfl rfl (.d _ _) (map_len _ _) rfl ?_
    refine .bin (.no rfl) rfl rfl rfl rfl rfl rfl ?_
    exact .fin () (.of (.cons rfl (.cons rfl (.cons rfl (.cons rfl .nil)))) .nil)
   intro _
   refine .cond (t := decide ((j : Int) < (a.length : Int))) rfl (fun c2 => ?_) (fun c2 => ?_)
   ·have c2 := of_decide_eq_true c2
    refine .skip ?_
    refine .seq ?_
    refine .block ?_
    refine .seq ?_
    refine .regD (X := Unit) (by kernel_rfl) (fun ζ => .of [(0, .one (.d (.sl false 137 2 (List.map Entry.c (a))))), (1, .one (.d (.sl false 137 2 (List.map Entry.c (b))))), (5, .one (.d (.v (.int .i64 ((j : Int)))))), (6, .one (.d (.v (.int .i64 (IntKind.wrap .i64 ((IntKind.wrap .i64 (10 * ((a.getD j default).line))) + ((a.getD j default).pick)))))))] []) [⟨[0], some 24, [], []⟩, ⟨[5], some 25, [], []⟩, ⟨[24, 25], some 26, [], []⟩, ⟨[26], some 27, [], []⟩, ⟨[27], some 28, [], []⟩, ⟨[28], some 29, [], []⟩, ⟨[0], some 30, [], []⟩, ⟨[5], some 31, [], []⟩, ⟨[30, 31], some 32, [], []⟩, ⟨[32], some 33, [], []⟩, ⟨[33], some 34, [], []⟩, ⟨[29, 34], some 35, [], []⟩, ⟨[35], some 6, [], []⟩] (by kernel_rfl) (fun k14 => ?_) ?_
    ·skip
     refine .move (.no rfl) rfl rfl rfl rfl ?_
     refine .move (.no rfl) rfl rfl rfl rfl ?_
     refine .indexAddr (.no rfl) rfl (j) t97 rfl t137 rfl rfl rfl (.d _ _) rfl rfl rfl (map_get (by omega)) rfl rfl ?_
     refine .fieldAddr (.no rfl) rfl t137 rfl rfl t2 rfl rfl rfl rfl [] (by simp) (by intro _ _ _ h; cases h) rfl rfl ?_
     refine .load (.no rfl) rfl t2 rfl rfl (.d _) rfl rfl rfl rfl ?_
     refine .bin (.no rfl) rfl rfl rfl rfl rfl rfl ?_
     refine .move (.no rfl) rfl rfl rfl rfl ?_
     refine .move (.no rfl) rfl rfl rfl rfl ?_
     refine .indexAddr (.no rfl) rfl (j) t97 rfl t137 rfl rfl rfl (.d _ _) rfl rfl rfl (map_get (by omega)) rfl rfl ?_
     refine .fieldAddr (.no rfl) rfl t137 rfl rfl t2 rfl rfl rfl rfl [] (by simp) (by intro _ _ _ h; cases h) rfl rfl ?_
     refine .load (.no rfl) rfl t2 rfl rfl (.d _) rfl rfl rfl rfl ?_
     refine .bin (.no rfl) rfl rfl rfl rfl rfl rfl ?_
     refine .assign (.no rfl) rfl rfl rfl rfl ?_
     exact .fin () (.of (.cons rfl (.cons rfl (.cons rfl (.cons rfl .nil)))) .nil)
    intro _
    refine .seq ?_
    refine .regD (X := Unit) (by kernel_rfl) (fun ζ => .of [(0, .one (.d (.sl false 137 2 (List.map Entry.c (a))))), (1, .one (.d (.sl false 137 2 (List.map Entry.c (b))))), (5, .one (.d (.v (.int .i64 ((j : Int)))))), (6, .one (.d (.v (.int .i64 (IntKind.wrap .i64 ((IntKind.wrap .i64 (10 * ((a.getD j default).line))) + ((a.getD j default).pick))))))), (7, .one (.d (.v (.int .i64 (IntKind.wrap .i64 ((IntKind.wrap .i64 (10 * ((b.getD j default).line))) + ((b.getD j default).pick)))))))] []) [⟨[1], some 36, [], []⟩, ⟨[5], some 37, [], []⟩, ⟨[36, 37], some 38, [], []⟩, ⟨[38], some 39, [], []⟩, ⟨[39], some 40, [], []⟩, ⟨[40], some 41, [], []⟩, ⟨[1], some 42, [], []⟩, ⟨[5], some 43, [], []⟩, ⟨[42, 43], some 44, [], []⟩, ⟨[44], some 45, [], []⟩, ⟨[45], some 46, [], []⟩, ⟨[41, 46], some 47, [], []⟩, ⟨[47], some 7, [], []⟩] (by kernel_rfl) (fun k15 => ?_) ?_
    ·skip
     refine .move (.no rfl) rfl rfl rfl rfl ?_
     refine .move (.no rfl) rfl rfl rfl rfl ?_
     refine .indexAddr (.no rfl) rfl (j) t97 rfl t137 rfl rfl rfl (.d _ _) rfl rfl rfl (map_get (by omega)) rfl rfl ?_
     refine .fieldAddr (.no rfl) rfl t137 rfl rfl t2 rfl rfl rfl rfl [] (by simp) (by intro _ _ _ h; cases h) rfl rfl ?_
     refine .load (.no rfl) rfl t2 rfl rfl (.d _) rfl rfl rfl rfl ?_
     refine .bin (.no rfl) rfl rfl rfl rfl rfl rfl ?_
     refine .move (.no rfl) rfl rfl rfl rfl ?_
     refine .move (.no rfl) rfl rfl rfl rfl ?_
     refine .indexAddr (.no rfl) rfl (j) t97 rfl t137 rfl rfl rfl (.d _ _) rfl rfl rfl (map_get (by omega)) rfl rfl ?_
     refine .fieldAddr (.no rfl) rfl t137 rfl rfl t2 rfl rfl rfl rfl [] (by simp) (by intro _ _ _ h; cases h) rfl rfl ?_
     refine .load (.no rfl) rfl t2 rfl rfl (.d _) rfl rfl rfl rfl ?_
     refine .bin (.no rfl) rfl rfl rfl rfl rfl rfl ?_
     refine .assign (.no rfl) rfl rfl rfl rfl ?_
     exact .fin () (.of (.cons rfl (.cons rfl (.cons rfl (.cons rfl (.cons rfl .nil))))) .nil)
    intro _
    refine .seq ?_
    refine .seq ?_
    refine .reg (X := Unit) (fun ζ => .of [(0, .one (.d (.sl false 137 2 (List.map Entry.c (a))))), (1, .one (.d (.sl false 137 2 (List.map Entry.c (b))))), (5, .one (.d (.v (.int .i64 ((j : Int)))))), (6, .one (.d (.v (.int .i64 (IntKind.wrap .i64 ((IntKind.wrap .i64 (10 * ((a.getD j default).line))) + ((a.getD j default).pick))))))), (7, .one (.d (.v (.int .i64 (IntKind.wrap .i64 ((IntKind.wrap .i64 (10 * ((b.getD j default).line))) + ((b.getD j default).pick))))))), (50, .one (.d (.v (.bool (decide ((IntKind.wrap .i64 ((IntKind.wrap .i64 (10 * ((a.getD j default).line))) + ((a.getD j default).pick))) < (IntKind.wrap .i64 ((IntKind.wrap .i64 (10 * ((b.getD j default).line))) + ((b.getD j default).pick)))))))))] []) [⟨[6], some 48, [], []⟩, ⟨[7], some 49, [], []⟩, ⟨[48, 49], some 50, [], []⟩] (fun k16 => ?_) ?_
    ·skip
     refine .move (.no rfl) rfl rfl rfl rfl ?_
     refine .move (.no rfl) rfl rfl rfl rfl ?_
     refine .bin (.no rfl) rfl rfl rfl rfl rfl rfl ?_
     exact .fin () (.of (.cons rfl (.cons rfl (.cons rfl (.cons rfl (.cons rfl (.cons rfl .nil)))))) .nil)
    intro _
    refine .cond (t := decide ((IntKind.wrap .i64 ((IntKind.wrap .i64 (10 * ((a.getD j default).line))) + ((a.getD j default).pick))) < (IntKind.wrap .i64 ((IntKind.wrap .i64 (10 * ((b.getD j default).line))) + ((b.getD j default).pick))))) rfl (fun c3 => ?_) (fun c3 => ?_)
    ·have c3 := of_decide_eq_true c3
     refine .seq ?_
     refine .reg (X := Unit) (fun ζ => .of [(4, .one (.d (.v (.int .i64 (-1)))))] []) [⟨[], some 4, [], []⟩] (fun k17 => ?_) ?_
     ·skip
      refine .assign (.no rfl) rfl rfl rfl rfl ?_
      exact .fin () (.of (.cons rfl .nil) .nil)
     intro _
     refine .ret ?_
     have e18 : (-1) = (tokCmp a b) := by exact l9_ret (by omega) (by omega) hI.2 ((l9_key ha hb (by omega) (j := j) (by omega)).trans (cmpI_lt c3)) (by decide)
     have hc19 := eq1 (fun z1 => SV.one (.d (.v (.int .i64 (z1))))) e18
     show _ ∧ _
     exact ⟨.inr rfl, .done ⟨_, [], [], _, .one (c := .d (.v (.int .i64 (tokCmp a b)))) (hc19) .nil, .cons (Reads.d _).gives .nil, nodupB_ok rfl, by simp, (by simp)⟩⟩
    ·have c3 := of_decide_eq_false c3
     refine .skip ?_
     refine .seq ?_
     refine .reg (X := Unit) (fun ζ => .of [(0, .one (.d (.sl false 137 2 (List.map Entry.c (a))))), (1, .one (.d (.sl false 137 2 (List.map Entry.c (b))))), (5, .one (.d (.v (.int .i64 ((j : Int)))))), (53, .one (.d (.v (.bool (decide ((IntKind.wrap .i64 ((IntKind.wrap .i64 (10 * ((a.getD j default).line))) + ((a.getD j default).pick))) > (IntKind.wrap .i64 ((IntKind.wrap .i64 (10 * ((b.getD j default).line))) + ((b.getD j default).pick)))))))))] []) [⟨[6], some 51, [], []⟩, ⟨[7], some 52, [], []⟩, ⟨[51, 52], some 53, [], []⟩] (fun k20 => ?_) ?_
     ·skip
      refine .move (.no rfl) rfl rfl rfl rfl ?_
      refine .move (.no rfl) rfl rfl rfl rfl ?_
      refine .bin (.no rfl) rfl rfl rfl rfl rfl rfl ?_
      exact .fin () (.of (.cons rfl (.cons rfl (.cons rfl (.cons rfl .nil)))) .nil)
     intro _
     refine .cond (t := decide ((IntKind.wrap .i64 ((IntKind.wrap .i64 (10 * ((a.getD j default).line))) + ((a.getD j default).pick))) > (IntKind.wrap .i64 ((IntKind.wrap .i64 (10 * ((b.getD j default).line))) + ((b.getD j default).pick))))) rfl (fun c4 => ?_) (fun c4 => ?_)
     ·have c4 := of_decide_eq_true c4
      refine .seq ?_
      refine .reg (X := Unit) (fun ζ => .of [(4, .one (.d (.v (.int .i64 (1)))))] []) [⟨[], some 4, [], []⟩] (fun k21 => ?_) ?_
      ·skip
       refine .assign (.no rfl) rfl rfl rfl rfl ?_
       exact .fin () (.of (.cons rfl .nil) .nil)
      intro _
      refine .ret ?_
      have e22 : (1) = (tokCmp a b) := by exact l9_ret (by omega) (by omega) hI.2 ((l9_key ha hb (by omega) (j := j) (by omega)).trans (cmpI_gt c3 c4)) (by decide)
      have hc23 := eq1 (fun z1 => SV.one (.d (.v (.int .i64 (z1))))) e22
      show _ ∧ _
      exact ⟨.inr rfl, .done ⟨_, [], [], _, .one (c := .d (.v (.int .i64 (tokCmp a b)))) (hc23) .nil, .cons (Reads.d _).gives .nil, nodupB_ok rfl, by simp, (by simp)⟩⟩
     ·have c4 := of_decide_eq_false c4
      refine .skip ?_
      refine .reg (X := Unit) (fun ζ => .of [(0, .one (.d (.sl false 137 2 (List.map Entry.c (a))))), (1, .one (.d (.sl false 137 2 (List.map Entry.c (b))))), (5, .one (.d (.v (.int .i64 (IntKind.wrap .i64 ((j : Int) + 1))))))] []) [⟨[5], some 22, [], []⟩, ⟨[22], some 23, [], []⟩, ⟨[23], some 5, [], []⟩] (fun k24 => ?_) ?_
      ·skip
       refine .move (.no rfl) rfl rfl rfl rfl ?_
       refine .bin (.no rfl) rfl rfl rfl rfl rfl rfl ?_
       refine .assign (.no rfl) rfl rfl rfl rfl ?_
       exact .fin () (.of (.cons rfl (.cons rfl (.cons rfl .nil))) .nil)
      intro _
      exact .here (j + 1) (.of (.cons rfl (.cons rfl (.cons (svI (show (IntKind.wrap .i64 ((j : Int) + 1)) = (((j + 1) : Int)) by first | rfl | omega | exact wrap_le (by omega) (by omega) | (rw [wrap_le (by omega) (by omega)]; omega))) .nil))) .nil) ⟨(show (j + 1) ≤ a.length ∧ lexC entCmp (a.drop (j + 1)) (b.drop (j + 1)) = lexC entCmp a b by exact ⟨by omega, (lexC_step (by omega) (by omega) ((l9_key ha hb (by omega) (j := j) (by omega)).trans (cmpI_eq c3 c4))).symm.trans hI.2⟩), (show a.length - (j + 1) < a.length - j by omega)⟩
   ·have c2 := of_decide_eq_false c2
    refine .exit ?_
    refine .seq ?_
    refine .reg (X := Unit) (fun ζ => .of [(4, .one (.d (.v (.int .i64 (0)))))] []) [⟨[], some 4, [], []⟩] (fun k25 => ?_) ?_
    ·skip
     refine .assign (.no rfl) rfl rfl rfl rfl ?_
     exact .fin () (.of (.cons rfl .nil) .nil)
    intro _
    refine .ret ?_
    have e26 : (0) = (tokCmp a b) := by (rw [tokCmp_len (by omega), ← hI.2, lexC_end (by omega) (by omega)])
    have hc27 := eq1 (fun z1 => SV.one (.d (.v (.int .i64 (z1))))) e26
    show _ ∧ _
    exact ⟨.inr rfl, .done ⟨_, [], [], _, .one (c := .d (.v (.int .i64 (tokCmp a b)))) (hc27) .nil, .cons (Reads.d _).gives .nil, nodupB_ok rfl, by simp, (by simp)⟩⟩
theorem c_l9Live (t : List Env) : Trip Tryz.prog 61 [(false, 1)] ([.sl false 77 3 (List.map Env.c77 (t))]) [(false, 1)] [.v (.bool (t.any Env.live))] [] := by
 refine Trip.of Tryz.func61 (by decide) (c := _) rfl rfl (shB_ok rfl) (Nat.le_of_ble_eq_true rfl) rfl (AftOk.nil _) ?_
 refine .sat (t := 0) rfl (fun hs1 => ?_)
 have hs1l : t.length ≤ 9223372036854775807 := hs1.maplen
 refine .seq ?_
 refine .reg (X := Unit) (fun ζ => .of [(0, .one (.d (.sl false 77 3 (List.map Env.c77 (t)))))] []) [⟨[], some 2, [], []⟩] (fun k2 => ?_) ?_
 ·skip
  refine .assign (.no rfl) rfl rfl rfl rfl ?_
  exact .fin () (.of (.cons rfl .nil) .nil)
 intro _
 refine .seq ?_
 refine .seq ?_
 refine .reg (X := Unit) (fun ζ => .of [(0, .one (.d (.sl false 77 3 (List.map Env.c77 (t))))), (3, .one (.d (.v (.int .i64 (0)))))] []) [⟨[], some 3, [], []⟩] (fun k3 => ?_) ?_
 ·skip
  refine .assign (.no rfl) rfl rfl rfl rfl ?_
  exact .fin () (.of (.cons rfl (.cons rfl .nil)) .nil)
 intro _
 refine .block ?_
 refine .loop (X := Nat) (fun ζ => .of [(0, .one (.d (.sl false 77 3 (List.map Env.c77 (t))))), (3, .one (.d (.v (.int .i64 ((ζ : Int))))))] []) (fun ζ => ζ ≤ t.length ∧ allTo ζ (fun i => !Env.live (t.getD i default)) = true) (fun ζ => t.length - ζ) ?_ ?_
 ·skip
  exact .here 0 (.of (.cons rfl (.cons (svI (show (0) = ((0 : Int)) by first | rfl | omega | exact wrap_le (by omega) (by omega) | (rw [wrap_le (by omega) (by omega)]; omega))) .nil)) .nil) (show 0 ≤ t.length ∧ allTo 0 (fun i => !Env.live (t.getD i default)) = true by exact ⟨by omega, rfl⟩)
 ·rintro j hI
  have hI : j ≤ t.length ∧ allTo j (fun i => !Env.live (t.getD i default)) = true := hI
  refine .seq ?_
  refine .seq ?_
  refine .reg (X := Unit) (fun ζ => .of [(0, .one (.d (.sl false 77 3 (List.map Env.c77 (t))))), (3, .one (.d (.v (.int .i64 ((j : Int)))))), (7, .one (.d (.v (.bool (decide ((j : Int) < (t.length : Int)))))))] []) [⟨[3], some 4, [], []⟩, ⟨[0], some 5, [], []⟩, ⟨[5], some 6, [], []⟩, ⟨[4, 6], some 7, [], []⟩] (fun k4 => ?_) ?_
  ·skip
   refine .move (.no rfl) rfl rfl rfl rfl ?_
   refine .move (.no rfl) rfl rfl rfl rfl ?_
   refine .len (.no rfl) rfl (z := (t.length : Int)) t40 rfl rfl rfl (.d _ _) (map_len _ _) rfl ?_
   refine .bin (.no rfl) rfl rfl rfl rfl rfl rfl ?_
   exact .fin () (.of (.cons rfl (.cons rfl (.cons rfl .nil))) .nil)
  intro _
  refine .cond (t := decide ((j : Int) < (t.length : Int))) rfl (fun c0 => ?_) (fun c0 => ?_)
  ·have c0 := of_decide_eq_true c0
   refine .skip ?_
   refine .seq ?_
   refine .block ?_
   refine .seq ?_
   refine .reg (X := Unit) (fun ζ => .of [(0, .one (.d (.sl false 77 3 (List.map Env.c77 (t))))), (3, .one (.d (.v (.int .i64 ((j : Int)))))), (14, .one (.d (.v (.bool ((t.getD j default).live)))))] []) [⟨[0], some 10, [], []⟩, ⟨[3], some 11, [], []⟩, ⟨[10, 11], some 12, [], []⟩, ⟨[12], some 13, [], []⟩, ⟨[13], some 14, [], []⟩] (fun k5 => ?_) ?_
   ·skip
    refine .move (.no rfl) rfl rfl rfl rfl ?_
    refine .move (.no rfl) rfl rfl rfl rfl ?_
    refine .indexAddr (.no rfl) rfl (j) t40 rfl t77 rfl rfl rfl (.d _ _) rfl rfl rfl (map_get (by omega)) rfl rfl ?_
    refine .fieldAddr (.no rfl) rfl t77 rfl rfl t4 rfl rfl rfl rfl [] (by simp) (by intro _ _ _ h; cases h) rfl rfl ?_
    refine .load (.no rfl) rfl t4 rfl rfl (.d _) rfl rfl rfl rfl ?_
    exact .fin () (.of (.cons rfl (.cons rfl (.cons rfl .nil))) .nil)
   intro _
   refine .cond (t := (t.getD j default).live) rfl (fun c1 => ?_) (fun c1 => ?_)
   ·have c1 := c1
    refine .seq ?_
    refine .reg (X := Unit) (fun ζ => .of [(2, .one (.d (.v (.bool (true)))))] []) [⟨[], some 2, [], []⟩] (fun k6 => ?_) ?_
    ·skip
     refine .assign (.no rfl) rfl rfl rfl rfl ?_
     exact .fin () (.of (.cons rfl .nil) .nil)
    intro _
    refine .ret ?_
    have e7 : (true) = (t.any Env.live) := by exact (any_found (p := Env.live) (j := j) (by omega) c1).symm
    have hc8 := eq1 (fun z1 => SV.one (.d (.v (.bool (z1))))) e7
    show _ ∧ _
    exact ⟨.inr rfl, .done ⟨_, [], [], _, .one (c := .d (.v (.bool (t.any Env.live)))) (hc8) .nil, .cons (Reads.d _).gives .nil, nodupB_ok rfl, by simp, (by simp)⟩⟩
   ·have c1 := c1
    refine .skip ?_
    refine .reg (X := Unit) (fun ζ => .of [(0, .one (.d (.sl false 77 3 (List.map Env.c77 (t))))), (3, .one (.d (.v (.int .i64 (IntKind.wrap .i64 ((j : Int) + 1))))))] []) [⟨[3], some 8, [], []⟩, ⟨[8], some 9, [], []⟩, ⟨[9], some 3, [], []⟩] (fun k9 => ?_) ?_
    ·skip
     refine .move (.no rfl) rfl rfl rfl rfl ?_
     refine .bin (.no rfl) rfl rfl rfl rfl rfl rfl ?_
     refine .assign (.no rfl) rfl rfl rfl rfl ?_
     exact .fin () (.of (.cons rfl (.cons rfl .nil)) .nil)
    intro _
    exact .here (j + 1) (.of (.cons rfl (.cons (svI (show (IntKind.wrap .i64 ((j : Int) + 1)) = (((j + 1) : Int)) by first | rfl | omega | exact wrap_le (by omega) (by omega) | (rw [wrap_le (by omega) (by omega)]; omega))) .nil)) .nil) ⟨(show (j + 1) ≤ t.length ∧ allTo (j + 1) (fun i => !Env.live (t.getD i default)) = true by exact ⟨by omega, allTo_step hI.2 (by rw [show Env.live (t.getD j default) = false from c1]; rfl)⟩), (show t.length - (j + 1) < t.length - j by omega)⟩
  ·have c0 := of_decide_eq_false c0
   refine .exit ?_
   refine .seq ?_
   refine .reg (X := Unit) (fun ζ => .of [(2, .one (.d (.v (.bool (false)))))] []) [⟨[], some 2, [], []⟩] (fun k10 => ?_) ?_
   ·skip
    refine .assign (.no rfl) rfl rfl rfl rfl ?_
    exact .fin () (.of (.cons rfl .nil) .nil)
   intro _
   refine .ret ?_
   have e11 : (false) = (t.any Env.live) := by exact (any_none (p := Env.live) (j := j) (by omega) hI.2).symm
   have hc12 := eq1 (fun z1 => SV.one (.d (.v (.bool (z1))))) e11
   show _ ∧ _
   exact ⟨.inr rfl, .done ⟨_, [], [], _, .one (c := .d (.v (.bool (t.any Env.live)))) (hc12) .nil, .cons (Reads.d _).gives .nil, nodupB_ok rfl, by simp, (by simp)⟩⟩
theorem c_isNaNi (x : Int) : Trip Tryz.prog 162 [(false, 1)] ([.v (.int .i64 (x))]) [(false, 1)] [.v (.bool (false))] [] := by
 refine Trip.of Tryz.func162 (by decide) (c := _) rfl rfl (shB_ok rfl) (Nat.le_of_ble_eq_true rfl) rfl (AftOk.nil _) ?_
 refine .seq ?_
 refine .reg (X := Unit) (fun ζ => .of [(0, .one (.d (.v (.int .i64 (x)))))] []) [⟨[], some 2, [], []⟩] (fun k1 => ?_) ?_
 ·skip
  refine .assign (.no rfl) rfl rfl rfl rfl ?_
  exact .fin () (.of (.cons rfl .nil) .nil)
 intro _
 refine .seq ?_
 refine .reg (X := Unit) (fun ζ => .of [(2, .one (.d (.v (.bool (x != x)))))] []) [⟨[0], some 3, [], []⟩, ⟨[0], some 4, [], []⟩, ⟨[3, 4], some 5, [], []⟩, ⟨[5], some 2, [], []⟩] (fun k2 => ?_) ?_
 ·skip
  refine .move (.no rfl) rfl rfl rfl rfl ?_
  refine .move (.no rfl) rfl rfl rfl rfl ?_
  refine .bin (.no rfl) rfl rfl rfl rfl rfl rfl ?_
  refine .assign (.no rfl) rfl rfl rfl rfl ?_
  exact .fin () (.of (.cons rfl .nil) .nil)
 intro _
 refine .ret ?_
 have e3 : (x != x) = (false) := by simp
 have hc4 := eq1 (fun z1 => SV.one (.d (.v (.bool (z1))))) e3
 show _ ∧ _
 exact ⟨.inr rfl, .done ⟨_, [], [], _, .one (c := .d (.v (.bool (false)))) (hc4) .nil, .cons (Reads.d _).gives .nil, nodupB_ok rfl, by simp, (by simp)⟩⟩
theorem c_Comparei (x : Int) (y : Int) : Trip Tryz.prog 135 [(false, 1), (false, 1)] ([.v (.int .i64 (x))] ++ [.v (.int .i64 (y))]) [(false, 1)] [.v (.int .i64 (cmpI x y))] [] := by
 refine Trip.of Tryz.func135 (by decide) (c := _) rfl rfl (shB_ok rfl) (Nat.le_of_ble_eq_true rfl) rfl (AftOk.nil _) ?_
 refine .seq ?_
 refine .reg (X := Unit) (fun ζ => .of [(0, .one (.d (.v (.int .i64 (x))))), (1, .one (.d (.v (.int .i64 (y)))))] []) [⟨[], some 4, [], []⟩] (fun k1 => ?_) ?_
 ·skip
  refine .assign (.no rfl) rfl rfl rfl rfl ?_
  exact .fin () (.of (.cons rfl (.cons rfl .nil)) .nil)
 intro _
 refine .seq ?_
 refine .reg (X := Unit) (fun ζ => .of [(0, .one (.d (.v (.int .i64 (x))))), (1, .one (.d (.v (.int .i64 (y))))), (5, .one (.d (.v (.bool (false)))))] []) [⟨[0], some 7, [], []⟩, ⟨[7], some 8, [], []⟩, ⟨[8], some 5, [], []⟩] (fun k2 => ?_) ?_
 ·skip
  refine .move (.no rfl) rfl rfl rfl rfl ?_
  refine .call (.no rfl) rfl [] [] (c_isNaNi x) rfl rfl rfl rfl rfl (.cons (Reads.d _).gives .nil) rfl rfl (fun h => absurd rfl h) (.own [8, 0] .nil) (.nil) rfl rfl rfl (by simp) rfl rfl rfl ?_
  refine .assign (.no rfl) rfl rfl rfl rfl ?_
  exact .fin () (.of (.cons rfl (.cons rfl (.cons rfl .nil))) .nil)
 intro _
 refine .seq ?_
 refine .reg (X := Unit) (fun ζ => .of [(0, .one (.d (.v (.int .i64 (x))))), (1, .one (.d (.v (.int .i64 (y))))), (5, .one (.d (.v (.bool (false))))), (6, .one (.d (.v (.bool (false)))))] []) [⟨[1], some 9, [], []⟩, ⟨[9], some 10, [], []⟩, ⟨[10], some 6, [], []⟩] (fun k3 => ?_) ?_
 ·skip
  refine .move (.no rfl) rfl rfl rfl rfl ?_
  refine .call (.no rfl) rfl [] [] (c_isNaNi y) rfl rfl rfl rfl rfl (.cons (Reads.d _).gives .nil) rfl rfl (fun h => absurd rfl h) (.own [10, 0] .nil) (.nil) rfl rfl rfl (by simp) rfl rfl rfl ?_
  refine .assign (.no rfl) rfl rfl rfl rfl ?_
  exact .fin () (.of (.cons rfl (.cons rfl (.cons rfl (.cons rfl .nil)))) .nil)
 intro _
 refine .seq ?_
 refine .seq ?_
 refine .reg (X := Unit) (fun ζ => .of [(0, .one (.d (.v (.int .i64 (x))))), (1, .one (.d (.v (.int .i64 (y))))), (6, .one (.d (.v (.bool (false))))), (11, .one (.d (.v (.bool (false)))))] []) [⟨[5], some 11, [], []⟩] (fun k4 => ?_) ?_
 ·skip
  refine .move (.no rfl) rfl rfl rfl rfl ?_
  exact .fin () (.of (.cons rfl (.cons rfl (.cons rfl (.cons rfl .nil)))) .nil)
 intro _
 refine .cond (t := false) rfl (fun h => by cases h) (fun _ => ?_)
 refine .skip ?_
 refine .seq ?_
 refine .seq ?_
 refine .reg (X := Unit) (fun ζ => .of [(0, .one (.d (.v (.int .i64 (x))))), (1, .one (.d (.v (.int .i64 (y))))), (13, .one (.d (.v (.bool (false)))))] []) [⟨[6], some 13, [], []⟩] (fun k5 => ?_) ?_
 ·skip
  refine .move (.no rfl) rfl rfl rfl rfl ?_
  exact .fin () (.of (.cons rfl (.cons rfl (.cons rfl .nil))) .nil)
 intro _
 refine .cond (t := false) rfl (fun h => by cases h) (fun _ => ?_)
 refine .skip ?_
 refine .seq ?_
 refine .seq ?_
 refine .reg (X := Unit) (fun ζ => .of [(0, .one (.d (.v (.int .i64 (x))))), (1, .one (.d (.v (.int .i64 (y))))), (16, .one (.d (.v (.bool (decide (x < y))))))] []) [⟨[0], some 14, [], []⟩, ⟨[1], some 15, [], []⟩, ⟨[14, 15], some 16, [], []⟩] (fun k6 => ?_) ?_
 ·skip
  refine .move (.no rfl) rfl rfl rfl rfl ?_
  refine .move (.no rfl) rfl rfl rfl rfl ?_
  refine .bin (.no rfl) rfl rfl rfl rfl rfl rfl ?_
  exact .fin () (.of (.cons rfl (.cons rfl (.cons rfl .nil))) .nil)
 intro _
 refine .cond (t := decide (x < y)) rfl (fun c3 => ?_) (fun c3 => ?_)
 ·have c3 := of_decide_eq_true c3
  refine .seq ?_
  refine .reg (X := Unit) (fun ζ => .of [(4, .one (.d (.v (.int .i64 (-1)))))] []) [⟨[], some 4, [], []⟩] (fun k7 => ?_) ?_
  ·skip
   refine .assign (.no rfl) rfl rfl rfl rfl ?_
   exact .fin () (.of (.cons rfl .nil) .nil)
  intro _
  refine .ret ?_
  have e8 : (-1) = (cmpI x y) := by (rw [cmpI_lt c3])
  have hc9 := eq1 (fun z1 => SV.one (.d (.v (.int .i64 (z1))))) e8
  show _ ∧ _
  exact ⟨.inr rfl, .done ⟨_, [], [], _, .one (c := .d (.v (.int .i64 (cmpI x y)))) (hc9) .nil, .cons (Reads.d _).gives .nil, nodupB_ok rfl, by simp, (by simp)⟩⟩
 ·have c3 := of_decide_eq_false c3
  refine .skip ?_
  refine .seq ?_
  refine .seq ?_
  refine .reg (X := Unit) (fun ζ => .of [(19, .one (.d (.v (.bool (decide (x > y))))))] []) [⟨[0], some 17, [], []⟩, ⟨[1], some 18, [], []⟩, ⟨[17, 18], some 19, [], []⟩] (fun k10 => ?_) ?_
  ·skip
   refine .move (.no rfl) rfl rfl rfl rfl ?_
   refine .move (.no rfl) rfl rfl rfl rfl ?_
   refine .bin (.no rfl) rfl rfl rfl rfl rfl rfl ?_
   exact .fin () (.of (.cons rfl .nil) .nil)
  intro _
  refine .cond (t := decide (x > y)) rfl (fun c4 => ?_) (fun c4 => ?_)
  ·have c4 := of_decide_eq_true c4
   refine .seq ?_
   refine .reg (X := Unit) (fun ζ => .of [(4, .one (.d (.v (.int .i64 (1)))))] []) [⟨[], some 4, [], []⟩] (fun k11 => ?_) ?_
   ·skip
    refine .assign (.no rfl) rfl rfl rfl rfl ?_
    exact .fin () (.of (.cons rfl .nil) .nil)
   intro _
   refine .ret ?_
   have e12 : (1) = (cmpI x y) := by (rw [cmpI_gt c3 c4])
   have hc13 := eq1 (fun z1 => SV.one (.d (.v (.int .i64 (z1))))) e12
   show _ ∧ _
   exact ⟨.inr rfl, .done ⟨_, [], [], _, .one (c := .d (.v (.int .i64 (cmpI x y)))) (hc13) .nil, .cons (Reads.d _).gives .nil, nodupB_ok rfl, by simp, (by simp)⟩⟩
  ·have c4 := of_decide_eq_false c4
   refine .skip ?_
   refine .seq ?_
   refine .reg (X := Unit) (fun ζ => .of [(4, .one (.d (.v (.int .i64 (0)))))] []) [⟨[], some 4, [], []⟩] (fun k14 => ?_) ?_
   ·skip
    refine .assign (.no rfl) rfl rfl rfl rfl ?_
    exact .fin () (.of (.cons rfl .nil) .nil)
   intro _
   refine .ret ?_
   have e15 : (0) = (cmpI x y) := by (rw [cmpI_eq c3 c4])
   have hc16 := eq1 (fun z1 => SV.one (.d (.v (.int .i64 (z1))))) e15
   show _ ∧ _
   exact ⟨.inr rfl, .done ⟨_, [], [], _, .one (c := .d (.v (.int .i64 (cmpI x y)))) (hc16) .nil, .cons (Reads.d _).gives .nil, nodupB_ok rfl, by simp, (by simp)⟩⟩
theorem c_Ori (l : List Int) : Trip Tryz.prog 134 [(false, 1)] ([.sl false 3 1 (List.map i64c (l))]) [(false, 1)] [.v (.int .i64 (orL l))] [] := by
 refine Trip.of Tryz.func134 (by decide) (c := _) rfl rfl (shB_ok rfl) (Nat.le_of_ble_eq_true rfl) rfl (AftOk.nil _) ?_
 refine .sat (t := 0) rfl (fun hs1 => ?_)
 have hs1l : l.length ≤ 9223372036854775807 := hs1.maplen
 refine .seq ?_
 refine .reg (X := Unit) (fun ζ => .of [(0, .one (.d (.sl false 3 1 (List.map i64c (l)))))] []) [⟨[], some 2, [], []⟩] (fun k2 => ?_) ?_
 ·skip
  refine .assign (.no rfl) rfl rfl rfl rfl ?_
  exact .fin () (.of (.cons rfl .nil) .nil)
 intro _
 refine .seq ?_
 refine .reg (X := Unit) (fun ζ => .of [(0, .one (.d (.sl false 3 1 (List.map i64c (l))))), (3, .one (.d (.v (.int .i64 (0)))))] []) [⟨[], some 3, [], []⟩] (fun k3 => ?_) ?_
 ·skip
  refine .assign (.no rfl) rfl rfl rfl rfl ?_
  exact .fin () (.of (.cons rfl (.cons rfl .nil)) .nil)
 intro _
 refine .seq ?_
 refine .seq ?_
 refine .reg (X := Unit) (fun ζ => .of [(3, .one (.d (.v (.int .i64 (0))))), (6, .one (.d (.sl false 3 1 (List.map i64c (l))))), (7, .one (.d (.v (.int .i64 ((l.length : Int)))))), (8, .one (.d (.v (.int .i64 (0)))))] []) [⟨[0], some 6, [], []⟩, ⟨[6], some 7, [], []⟩, ⟨[], some 8, [], []⟩] (fun k4 => ?_) ?_
 ·skip
  refine .move (.no rfl) rfl rfl rfl rfl ?_
  refine .len (.no rfl) rfl (z := (l.length : Int)) t186 rfl rfl rfl (.d _ _) (map_len _ _) rfl ?_
  refine .move (.no rfl) rfl rfl rfl rfl ?_
  exact .fin () (.of (.cons rfl (.cons rfl (.cons rfl (.cons rfl .nil)))) .nil)
 intro _
 refine .block ?_
 refine .loop (X := Nat) (fun ζ => .of [(3, .one (.d (.v (.int .i64 (0))))), (6, .one (.d (.sl false 3 1 (List.map i64c (l))))), (7, .one (.d (.v (.int .i64 ((l.length : Int)))))), (8, .one (.d (.v (.int .i64 ((ζ : Int))))))] []) (fun ζ => ζ ≤ l.length ∧ orL (l.drop ζ) = orL l) (fun ζ => l.length - ζ) ?_ ?_
 ·skip
  exact .here 0 (.of (.cons rfl (.cons rfl (.cons rfl (.cons (svI (show (0) = ((0 : Int)) by first | rfl | omega | exact wrap_le (by omega) (by omega) | (rw [wrap_le (by omega) (by omega)]; omega))) .nil)))) .nil) (show 0 ≤ l.length ∧ orL (l.drop 0) = orL l by exact ⟨by omega, rfl⟩)
 ·rintro j hI
  have hI : j ≤ l.length ∧ orL (l.drop j) = orL l := hI
  refine .seq ?_
  refine .reg (X := Unit) (fun ζ => .of [(3, .one (.d (.v (.int .i64 (0))))), (6, .one (.d (.sl false 3 1 (List.map i64c (l))))), (7, .one (.d (.v (.int .i64 ((l.length : Int)))))), (8, .one (.d (.v (.int .i64 ((j : Int)))))), (9, .one (.d (.v (.bool (decide ((j : Int) < (l.length : Int)))))))] []) [⟨[8, 7], some 9, [], []⟩] (fun k5 => ?_) ?_
  ·skip
   refine .bin (.no rfl) rfl rfl rfl rfl rfl rfl ?_
   exact .fin () (.of (.cons rfl (.cons rfl (.cons rfl (.cons rfl (.cons rfl .nil))))) .nil)
  intro _
  refine .seq ?_
  refine .cond (t := decide ((j : Int) < (l.length : Int))) rfl (fun c0 => ?_) (fun c0 => ?_)
  ·have c0 := of_decide_eq_true c0
   refine .skip ?_
   refine .seq ?_
   refine .block ?_
   refine .seq ?_
   refine .reg (X := Unit) (fun ζ => .of [(3, .one (.d (.v (.int .i64 (0))))), (5, .one (.d (.v (.int .i64 (l.getD j default))))), (6, .one (.d (.sl false 3 1 (List.map i64c (l))))), (7, .one (.d (.v (.int .i64 ((l.length : Int)))))), (8, .one (.d (.v (.int .i64 ((j : Int))))))] []) [⟨[6, 8], some 10, [], []⟩, ⟨[10], some 11, [], []⟩, ⟨[11], some 5, [], []⟩] (fun k6 => ?_) ?_
   ·skip
    refine .indexAddr (.no rfl) rfl (j) t186 rfl t3 rfl rfl rfl (.d _ _) rfl rfl rfl (map_get (by omega)) rfl rfl ?_
    refine .load (.no rfl) rfl t3 rfl rfl (.d _) rfl rfl rfl rfl ?_
    refine .assign (.no rfl) rfl rfl rfl rfl ?_
    exact .fin () (.of (.cons rfl (.cons rfl (.cons rfl (.cons rfl (.cons rfl .nil))))) .nil)
   intro _
   refine .seq ?_
   refine .reg (X := Unit) (fun ζ => .of [(3, .one (.d (.v (.int .i64 (0))))), (5, .one (.d (.v (.int .i64 (l.getD j default))))), (6, .one (.d (.sl false 3 1 (List.map i64c (l))))), (7, .one (.d (.v (.int .i64 ((l.length : Int)))))), (8, .one (.d (.v (.int .i64 ((j : Int)))))), (14, .one (.d (.v (.bool ((l.getD j default) != 0)))))] []) [⟨[5], some 12, [], []⟩, ⟨[3], some 13, [], []⟩, ⟨[12, 13], some 14, [], []⟩] (fun k7 => ?_) ?_
   ·skip
    refine .move (.no rfl) rfl rfl rfl rfl ?_
    refine .move (.no rfl) rfl rfl rfl rfl ?_
    refine .bin (.no rfl) rfl rfl rfl rfl rfl rfl ?_
    exact .fin () (.of (.cons rfl (.cons rfl (.cons rfl (.cons rfl (.cons rfl (.cons rfl .nil)))))) .nil)
   intro _
   refine .cond (t := (l.getD j default) != 0) rfl (fun c1 => ?_) (fun c1 => ?_)
   ·have c1 := (by simpa using c1 : ¬ ((l.getD j default) = 0))
    refine .seq ?_
    refine .reg (X := Unit) (fun ζ => .of [(2, .one (.d (.v (.int .i64 (l.getD j default)))))] []) [⟨[5], some 15, [], []⟩, ⟨[15], some 2, [], []⟩] (fun k8 => ?_) ?_
    ·skip
     refine .move (.no rfl) rfl rfl rfl rfl ?_
     refine .assign (.no rfl) rfl rfl rfl rfl ?_
     exact .fin () (.of (.cons rfl .nil) .nil)
    intro _
    refine .ret ?_
    have e9 : (l.getD j default) = (orL l) := by (rw [← hI.2, orL_here (by omega) c1])
    have hc10 := eq1 (fun z1 => SV.one (.d (.v (.int .i64 (z1))))) e9
    show _ ∧ _
    exact ⟨.inr rfl, .done ⟨_, [], [], _, .one (c := .d (.v (.int .i64 (orL l)))) (hc10) .nil, .cons (Reads.d _).gives .nil, nodupB_ok rfl, by simp, (by simp)⟩⟩
   ·have c1 := (by simpa using c1 : (l.getD j default) = 0)
    refine .skip ?_
    refine .reg (X := Unit) (fun ζ => .of [(3, .one (.d (.v (.int .i64 (0))))), (6, .one (.d (.sl false 3 1 (List.map i64c (l))))), (7, .one (.d (.v (.int .i64 ((l.length : Int)))))), (8, .one (.d (.v (.int .i64 (IntKind.wrap .i64 ((j : Int) + 1))))))] []) [⟨[8], some 16, [], []⟩, ⟨[16], some 8, [], []⟩] (fun k11 => ?_) ?_
    ·skip
     refine .bin (.no rfl) rfl rfl rfl rfl rfl rfl ?_
     refine .move (.no rfl) rfl rfl rfl rfl ?_
     exact .fin () (.of (.cons rfl (.cons rfl (.cons rfl (.cons rfl .nil)))) .nil)
    intro _
    exact .here (j + 1) (.of (.cons rfl (.cons rfl (.cons rfl (.cons (svI (show (IntKind.wrap .i64 ((j : Int) + 1)) = (((j + 1) : Int)) by first | rfl | omega | exact wrap_le (by omega) (by omega) | (rw [wrap_le (by omega) (by omega)]; omega))) .nil)))) .nil) ⟨(show (j + 1) ≤ l.length ∧ orL (l.drop (j + 1)) = orL l by exact ⟨by omega, (orL_step (by omega) (by simpa using c1)).symm.trans hI.2⟩), (show l.length - (j + 1) < l.length - j by omega)⟩
  ·have c0 := of_decide_eq_false c0
   refine .exit ?_
   refine .seq ?_
   refine .reg (X := Unit) (fun ζ => .of [(2, .one (.d (.v (.int .i64 (0)))))] []) [⟨[3], some 17, [], []⟩, ⟨[17], some 2, [], []⟩] (fun k12 => ?_) ?_
   ·skip
    refine .move (.no rfl) rfl rfl rfl rfl ?_
    refine .assign (.no rfl) rfl rfl rfl rfl ?_
    exact .fin () (.of (.cons rfl .nil) .nil)
   intro _
   refine .ret ?_
   have e13 : (0) = (orL l) := by (rw [← hI.2, orL_end (by omega)])
   have hc14 := eq1 (fun z1 => SV.one (.d (.v (.int .i64 (z1))))) e13
   show _ ∧ _
   exact ⟨.inr rfl, .done ⟨_, [], [], _, .one (c := .d (.v (.int .i64 (orL l)))) (hc14) .nil, .cons (Reads.d _).gives .nil, nodupB_ok rfl, by simp, (by simp)⟩⟩
theorem c_isNaNl (x : Int) : Trip Tryz.prog 163 [(false, 1)] ([.v (.int .i64 (x))]) [(false, 1)] [.v (.bool (false))] [] := by
 refine Trip.of Tryz.func163 (by decide) (c := _) rfl rfl (shB_ok rfl) (Nat.le_of_ble_eq_true rfl) rfl (AftOk.nil _) ?_
 refine .seq ?_
 refine .reg (X := Unit) (fun ζ => .of [(0, .one (.d (.v (.int .i64 (x)))))] []) [⟨[], some 2, [], []⟩] (fun k1 => ?_) ?_
 ·skip
  refine .assign (.no rfl) rfl rfl rfl rfl ?_
  exact .fin () (.of (.cons rfl .nil) .nil)
 intro _
 refine .seq ?_
 refine .reg (X := Unit) (fun ζ => .of [(2, .one (.d (.v (.bool (x != x)))))] []) [⟨[0], some 3, [], []⟩, ⟨[0], some 4, [], []⟩, ⟨[3, 4], some 5, [], []⟩, ⟨[5], some 2, [], []⟩] (fun k2 => ?_) ?_
 ·skip
  refine .move (.no rfl) rfl rfl rfl rfl ?_
  refine .move (.no rfl) rfl rfl rfl rfl ?_
  refine .bin (.no rfl) rfl rfl rfl rfl rfl rfl ?_
  refine .assign (.no rfl) rfl rfl rfl rfl ?_
  exact .fin () (.of (.cons rfl .nil) .nil)
 intro _
 refine .ret ?_
 have e3 : (x != x) = (false) := by simp
 have hc4 := eq1 (fun z1 => SV.one (.d (.v (.bool (z1))))) e3
 show _ ∧ _
 exact ⟨.inr rfl, .done ⟨_, [], [], _, .one (c := .d (.v (.bool (false)))) (hc4) .nil, .cons (Reads.d _).gives .nil, nodupB_ok rfl, by simp, (by simp)⟩⟩
theorem c_Comparel (x : Int) (y : Int) : Trip Tryz.prog 138 [(false, 1), (false, 1)] ([.v (.int .i64 (x))] ++ [.v (.int .i64 (y))]) [(false, 1)] [.v (.int .i64 (cmpI x y))] [] := by
 refine Trip.of Tryz.func138 (by decide) (c := _) rfl rfl (shB_ok rfl) (Nat.le_of_ble_eq_true rfl) rfl (AftOk.nil _) ?_
 refine .seq ?_
 refine .reg (X := Unit) (fun ζ => .of [(0, .one (.d (.v (.int .i64 (x))))), (1, .one (.d (.v (.int .i64 (y)))))] []) [⟨[], some 4, [], []⟩] (fun k1 => ?_) ?_
 ·skip
  refine .assign (.no rfl) rfl rfl rfl rfl ?_
  exact .fin () (.of (.cons rfl (.cons rfl .nil)) .nil)
 intro _
 refine .seq ?_
 refine .reg (X := Unit) (fun ζ => .of [(0, .one (.d (.v (.int .i64 (x))))), (1, .one (.d (.v (.int .i64 (y))))), (5, .one (.d (.v (.bool (false)))))] []) [⟨[0], some 7, [], []⟩, ⟨[7], some 8, [], []⟩, ⟨[8], some 5, [], []⟩] (fun k2 => ?_) ?_
 ·skip
  refine .move (.no rfl) rfl rfl rfl rfl ?_
  refine .call (.no rfl) rfl [] [] (c_isNaNl x) rfl rfl rfl rfl rfl (.cons (Reads.d _).gives .nil) rfl rfl (fun h => absurd rfl h) (.own [8, 0] .nil) (.nil) rfl rfl rfl (by simp) rfl rfl rfl ?_
  refine .assign (.no rfl) rfl rfl rfl rfl ?_
  exact .fin () (.of (.cons rfl (.cons rfl (.cons rfl .nil))) .nil)
 intro _
 refine .seq ?_
 refine .reg (X := Unit) (fun ζ => .of [(0, .one (.d (.v (.int .i64 (x))))), (1, .one (.d (.v (.int .i64 (y))))), (5, .one (.d (.v (.bool (false))))), (6, .one (.d (.v (.bool (false)))))] []) [⟨[1], some 9, [], []⟩, ⟨[9], some 10, [], []⟩, ⟨[10], some 6, [], []⟩] (fun k3 => ?_) ?_
 ·skip
  refine .move (.no rfl) rfl rfl rfl rfl ?_
  refine .call (.no rfl) rfl [] [] (c_isNaNl y) rfl rfl rfl rfl rfl (.cons (Reads.d _).gives .nil) rfl rfl (fun h => absurd rfl h) (.own [10, 0] .nil) (.nil) rfl rfl rfl (by simp) rfl rfl rfl ?_
  refine .assign (.no rfl) rfl rfl rfl rfl ?_
  exact .fin () (.of (.cons rfl (.cons rfl (.cons rfl (.cons rfl .nil)))) .nil)
 intro _
 refine .seq ?_
 refine .seq ?_
 refine .reg (X := Unit) (fun ζ => .of [(0, .one (.d (.v (.int .i64 (x))))), (1, .one (.d (.v (.int .i64 (y))))), (6, .one (.d (.v (.bool (false))))), (11, .one (.d (.v (.bool (false)))))] []) [⟨[5], some 11, [], []⟩] (fun k4 => ?_) ?_
 ·skip
  refine .move (.no rfl) rfl rfl rfl rfl ?_
  exact .fin () (.of (.cons rfl (.cons rfl (.cons rfl (.cons rfl .nil)))) .nil)
 intro _
 refine .cond (t := false) rfl (fun h => by cases h) (fun _ => ?_)
 refine .skip ?_
 refine .seq ?_
 refine .seq ?_
 refine .reg (X := Unit) (fun ζ => .of [(0, .one (.d (.v (.int .i64 (x))))), (1, .one (.d (.v (.int .i64 (y))))), (13, .one (.d (.v (.bool (false)))))] []) [⟨[6], some 13, [], []⟩] (fun k5 => ?_) ?_
 ·skip
  refine .move (.no rfl) rfl rfl rfl rfl ?_
  exact .fin () (.of (.cons rfl (.cons rfl (.cons rfl .nil))) .nil)
 intro _
 refine .cond (t := false) rfl (fun h => by cases h) (fun _ => ?_)
 refine .skip ?_
 refine .seq ?_
 refine .seq ?_
 refine .reg (X := Unit) (fun ζ => .of [(0, .one (.d (.v (.int .i64 (x))))), (1, .one (.d (.v (.int .i64 (y))))), (16, .one (.d (.v (.bool (decide (x < y))))))] []) [⟨[0], some 14, [], []⟩, ⟨[1], some 15, [], []⟩, ⟨[14, 15], some 16, [], []⟩] (fun k6 => ?_) ?_
 ·skip
  refine .move (.no rfl) rfl rfl rfl rfl ?_
  refine .move (.no rfl) rfl rfl rfl rfl ?_
  refine .bin (.no rfl) rfl rfl rfl rfl rfl rfl ?_
  exact .fin () (.of (.cons rfl (.cons rfl (.cons rfl .nil))) .nil)
 intro _
 refine .cond (t := decide (x < y)) rfl (fun c3 => ?_) (fun c3 => ?_)
 ·have c3 := of_decide_eq_true c3
  refine .seq ?_
  refine .reg (X := Unit) (fun ζ => .of [(4, .one (.d (.v (.int .i64 (-1)))))] []) [⟨[], some 4, [], []⟩] (fun k7 => ?_) ?_
  ·skip
   refine .assign (.no rfl) rfl rfl rfl rfl ?_
   exact .fin () (.of (.cons rfl .nil) .nil)
  intro _
  refine .ret ?_
  have e8 : (-1) = (cmpI x y) := by (rw [cmpI_lt c3])
  have hc9 := eq1 (fun z1 => SV.one (.d (.v (.int .i64 (z1))))) e8
  show _ ∧ _
  exact ⟨.inr rfl, .done ⟨_, [], [], _, .one (c := .d (.v (.int .i64 (cmpI x y)))) (hc9) .nil, .cons (Reads.d _).gives .nil, nodupB_ok rfl, by simp, (by simp)⟩⟩
 ·have c3 := of_decide_eq_false c3
  refine .skip ?_
  refine .seq ?_
  refine .seq ?_
  refine .reg (X := Unit) (fun ζ => .of [(19, .one (.d (.v (.bool (decide (x > y))))))] []) [⟨[0], some 17, [], []⟩, ⟨[1], some 18, [], []⟩, ⟨[17, 18], some 19, [], []⟩] (fun k10 => ?_) ?_
  ·skip
   refine .move (.no rfl) rfl rfl rfl rfl ?_
   refine .move (.no rfl) rfl rfl rfl rfl ?_
   refine .bin (.no rfl) rfl rfl rfl rfl rfl rfl ?_
   exact .fin () (.of (.cons rfl .nil) .nil)
  intro _
  refine .cond (t := decide (x > y)) rfl (fun c4 => ?_) (fun c4 => ?_)
  ·have c4 := of_decide_eq_true c4
   refine .seq ?_
   refine .reg (X := Unit) (fun ζ => .of [(4, .one (.d (.v (.int .i64 (1)))))] []) [⟨[], some 4, [], []⟩] (fun k11 => ?_) ?_
   ·skip
    refine .assign (.no rfl) rfl rfl rfl rfl ?_
    exact .fin () (.of (.cons rfl .nil) .nil)
   intro _
   refine .ret ?_
   have e12 : (1) = (cmpI x y) := by (rw [cmpI_gt c3 c4])
   have hc13 := eq1 (fun z1 => SV.one (.d (.v (.int .i64 (z1))))) e12
   show _ ∧ _
   exact ⟨.inr rfl, .done ⟨_, [], [], _, .one (c := .d (.v (.int .i64 (cmpI x y)))) (hc13) .nil, .cons (Reads.d _).gives .nil, nodupB_ok rfl, by simp, (by simp)⟩⟩
  ·have c4 := of_decide_eq_false c4
   refine .skip ?_
   refine .seq ?_
   refine .reg (X := Unit) (fun ζ => .of [(4, .one (.d (.v (.int .i64 (0)))))] []) [⟨[], some 4, [], []⟩] (fun k14 => ?_) ?_
   ·skip
    refine .assign (.no rfl) rfl rfl rfl rfl ?_
    exact .fin () (.of (.cons rfl .nil) .nil)
   intro _
   refine .ret ?_
   have e15 : (0) = (cmpI x y) := by (rw [cmpI_eq c3 c4])
   have hc16 := eq1 (fun z1 => SV.one (.d (.v (.int .i64 (z1))))) e15
   show _ ∧ _
   exact ⟨.inr rfl, .done ⟨_, [], [], _, .one (c := .d (.v (.int .i64 (cmpI x y)))) (hc16) .nil, .cons (Reads.d _).gives .nil, nodupB_ok rfl, by simp, (by simp)⟩⟩
end Go.Proofs

namespace Go.Proofs
open Go Go.Proofs Go.Ev

def i190 : TI := ⟨.fn, 1, 8, [.nilFunc]⟩
theorem t190 : TyOk Tryz.prog 190 i190 := ⟨⟨_, _, _, Tryz.underlying190⟩, by kernel_rfl⟩
theorem z190 : ZOk Tryz.prog 190 i190 := ⟨t190, rfl⟩
theorem c_CompareFunc (a : List Entry) (b : List Entry) (F_p : FuncId) (first_p : List (Bool × List D)) (caps_p : List D) (p : Entry → Entry → Int) (h_p : ∀ (x0 : Entry) (x1 : Entry), FnTrip Tryz.prog F_p first_p caps_p [(true, 2), (true, 2)] (Entry.c x0 ++ Entry.c x1) [(false, 1)] [.v (.int .i64 (p x0 x1))]) : Trip Tryz.prog 136 [(false, 1), (false, 1), (false, 1)] ([.sl false 137 2 (List.map Entry.c (a))] ++ [.sl false 137 2 (List.map Entry.c (b))] ++ [.fn F_p first_p caps_p]) [(false, 1)] [.v (.int .i64 (lexC p a b))] [] := by
 refine Trip.of Tryz.func136 (by decide +kernel) (c := _) rfl rfl (shB_ok rfl) (Nat.le_of_ble_eq_true rfl) rfl (AftOk.nil _) ?_
 refine .sat (t := 0) rfl (fun hs1 => ?_)
 have hs1l : a.length ≤ 9223372036854775807 := hs1.maplen
 refine .sat (t := 1) rfl (fun hs2 => ?_)
 have hs2l : b.length ≤ 9223372036854775807 := hs2.maplen
 refine .seq ?_
 refine .reg (X := Unit) (fun ζ => .of [(0, .one (.d (.sl false 137 2 (List.map Entry.c (a))))), (1, .one (.d (.sl false 137 2 (List.map Entry.c (b))))), (2, .one (.d (.fn F_p first_p caps_p)))] []) [⟨[], some 6, [], []⟩] (fun k3 => ?_) ?_
 ·skip
  refine .assign (.no rfl) rfl rfl rfl rfl ?_
  exact .fin () (.of (.cons rfl (.cons rfl (.cons rfl .nil))) .nil)
 intro _
 refine .seq ?_
 refine .seq ?_
 refine .reg (X := Unit) (fun ζ => .of [(0, .one (.d (.sl false 137 2 (List.map Entry.c (a))))), (1, .one (.d (.sl false 137 2 (List.map Entry.c (b))))), (2, .one (.d (.fn F_p first_p caps_p))), (11, .one (.d (.sl false 137 2 (List.map Entry.c (a))))), (12, .one (.d (.v (.int .i64 ((a.length : Int)))))), (13, .one (.d (.v (.int .i64 (0)))))] []) [⟨[0], some 11, [], []⟩, ⟨[11], some 12, [], []⟩, ⟨[], some 13, [], []⟩] (fun k4 => ?_) ?_
 ·skip
  refine .move (.no rfl) rfl rfl rfl rfl ?_
  refine .len (.no rfl) rfl (z := (a.length : Int)) t97 rfl rfl rfl (.d _ _) (map_len _ _) rfl ?_
  refine .move (.no rfl) rfl rfl rfl rfl ?_
  exact .fin () (.of (.cons rfl (.cons rfl (.cons rfl (.cons rfl (.cons rfl (.cons rfl .nil)))))) .nil)
 intro _
 refine .block ?_
 refine .loop (X := Nat) (fun ζ => .of [(0, .one (.d (.sl false 137 2 (List.map Entry.c (a))))), (1, .one (.d (.sl false 137 2 (List.map Entry.c (b))))), (2, .one (.d (.fn F_p first_p caps_p))), (11, .one (.d (.sl false 137 2 (List.map Entry.c (a))))), (12, .one (.d (.v (.int .i64 ((a.length : Int)))))), (13, .one (.d (.v (.int .i64 ((ζ : Int))))))] []) (fun ζ => ζ ≤ a.length ∧ ζ ≤ b.length ∧ lexC p (a.drop ζ) (b.drop ζ) = lexC p a b) (fun ζ => a.length - ζ) ?_ ?_
 ·skip
  exact .here 0 (.of (.cons rfl (.cons rfl (.cons rfl (.cons rfl (.cons rfl (.cons (svI (show (0) = ((0 : Int)) by first | rfl | omega | exact wrap_le (by omega) (by omega) | (rw [wrap_le (by omega) (by omega)]; omega))) .nil)))))) .nil) (show 0 ≤ a.length ∧ 0 ≤ b.length ∧ lexC p (a.drop 0) (b.drop 0) = lexC p a b by exact ⟨by omega, by omega, rfl⟩)
 ·rintro j hI
  have hI : j ≤ a.length ∧ j ≤ b.length ∧ lexC p (a.drop j) (b.drop j) = lexC p a b := hI
  refine .seq ?_
  refine .reg (X := Unit) (fun ζ => .of [(0, .one (.d (.sl false 137 2 (List.map Entry.c (a))))), (1, .one (.d (.sl false 137 2 (List.map Entry.c (b))))), (2, .one (.d (.fn F_p first_p caps_p))), (11, .one (.d (.sl false 137 2 (List.map Entry.c (a))))), (12, .one (.d (.v (.int .i64 ((a.length : Int)))))), (13, .one (.d (.v (.int .i64 ((j : Int)))))), (14, .one (.d (.v (.bool (decide ((j : Int) < (a.length : Int)))))))] []) [⟨[13, 12], some 14, [], []⟩] (fun k5 => ?_) ?_
  ·skip
   refine .bin (.no rfl) rfl rfl rfl rfl rfl rfl ?_
   exact .fin () (.of (.cons rfl (.cons rfl (.cons rfl (.cons rfl (.cons rfl (.cons rfl (.cons rfl .nil))))))) .nil)
  intro _
  refine .seq ?_
  refine .cond (t := decide ((j : Int) < (a.length : Int))) rfl (fun c0 => ?_) (fun c0 => ?_)
  ·have c0 := of_decide_eq_true c0
   refine .skip ?_
   refine .seq ?_
   refine .block ?_
   refine .seq ?_
   refine .reg (X := Nat × Nat) (fun ζ => .of [(0, .one (.d (.sl false 137 2 (List.map Entry.c (a))))), (1, .one (.d (.sl false 137 2 (List.map Entry.c (b))))), (2, .one (.d (.fn F_p first_p caps_p))), (7, .one (.d (.v (.int .i64 ((j : Int)))))), (8, .one (.ptr [8] (ζ.1) 0)), (11, .one (.d (.sl false 137 2 (List.map Entry.c (a))))), (12, .one (.d (.v (.int .i64 ((a.length : Int)))))), (13, .one (.d (.v (.int .i64 ((j : Int))))))] [([8], (ζ.1, ζ.2, .box [.d (.v (.int .i64 ((a.getD j default).line))), .d (.v (.int .i64 ((a.getD j default).pick)))]))]) [⟨[13], some 15, [], []⟩, ⟨[11, 13], some 16, [], []⟩, ⟨[16], some 17, [], []⟩, ⟨[], some 8, [], [[8]]⟩, ⟨[15], some 7, [], []⟩, ⟨[8, 17], none, [[8]], [[8]]⟩] (fun k6 => ?_) ?_
   ·skip
    refine .move (.no rfl) rfl rfl rfl rfl ?_
    refine .indexAddr (.no rfl) rfl (j) t97 rfl t137 rfl rfl rfl (.d _ _) rfl rfl rfl (map_get (by omega)) rfl rfl ?_
    refine .load (.no rfl) rfl t137 rfl rfl (.d _) rfl rfl rfl rfl ?_
    refine .alloc (.no rfl) rfl z137 rfl rfl rfl ?_
    refine .assign (.no rfl) rfl rfl rfl rfl ?_
    refine .store (.no rfl) rfl t137 rfl rfl rfl rfl rfl rfl rfl rfl rfl ?_
    exact .fin (k6 + 1 + 1 + 1, k6 + 1 + 1 + 1 + 1 + 1) (.of (.cons rfl (.cons rfl (.cons rfl (.cons rfl (.cons rfl (.cons rfl (.cons rfl (.cons rfl .nil)))))))) (.cons rfl .nil))
   rintro ⟨g7, g8⟩
   refine .seq ?_
   refine .seq ?_
   refine .reg (X := Unit) (fun ζ => .of [(0, .one (.d (.sl false 137 2 (List.map Entry.c (a))))), (1, .one (.d (.sl false 137 2 (List.map Entry.c (b))))), (2, .one (.d (.fn F_p first_p caps_p))), (7, .one (.d (.v (.int .i64 ((j : Int)))))), (8, .one (.ptr [8] (g7) 0)), (11, .one (.d (.sl false 137 2 (List.map Entry.c (a))))), (12, .one (.d (.v (.int .i64 ((a.length : Int)))))), (13, .one (.d (.v (.int .i64 ((j : Int)))))), (21, .one (.d (.v (.bool (decide ((j : Int) ≥ (b.length : Int)))))))] [([8], (g7, g8, .box [.d (.v (.int .i64 ((a.getD j default).line))), .d (.v (.int .i64 ((a.getD j default).pick)))]))]) [⟨[7], some 18, [], []⟩, ⟨[1], some 19, [], []⟩, ⟨[19], some 20, [], []⟩, ⟨[18, 20], some 21, [], []⟩] (fun k9 => ?_) ?_
   ·skip
    refine .move (.no rfl) rfl rfl rfl rfl ?_
    refine .move (.no rfl) rfl rfl rfl rfl ?_
    refine .len (.no rfl) rfl (z := (b.length : Int)) t97 rfl rfl rfl (.d _ _) (map_len _ _) rfl ?_
    refine .bin (.no rfl) rfl rfl rfl rfl rfl rfl ?_
    exact .fin () (.of (.cons rfl (.cons rfl (.cons rfl (.cons rfl (.cons rfl (.cons rfl (.cons rfl (.cons rfl (.cons rfl .nil))))))))) (.cons rfl .nil))
   intro _
   refine .cond (t := decide ((j : Int) ≥ (b.length : Int))) rfl (fun c1 => ?_) (fun c1 => ?_)
   ·have c1 := of_decide_eq_true c1
    refine .seq ?_
    refine .reg (X := Unit) (fun ζ => .of [(6, .one (.d (.v (.int .i64 (1)))))] []) [⟨[], some 6, [], []⟩] (fun k10 => ?_) ?_
    ·skip
     refine .assign (.no rfl) rfl rfl rfl rfl ?_
     exact .fin () (.of (.cons rfl .nil) .nil)
    intro _
    refine .ret ?_
    have e11 : (1) = (lexC p a b) := by (rw [← hI.2.2, lexC_more (by omega) (by omega)])
    have hc12 := eq1 (fun z1 => SV.one (.d (.v (.int .i64 (z1))))) e11
    show _ ∧ _
    exact ⟨.inr rfl, .done ⟨_, [], [], _, .one (c := .d (.v (.int .i64 (lexC p a b)))) (hc12) .nil, .cons (Reads.d _).gives .nil, nodupB_ok rfl, by simp, (by simp)⟩⟩
   ·have c1 := of_decide_eq_false c1
    refine .skip ?_
    refine .seq ?_
    refine .reg (X := Nat × Nat) (fun ζ => .of [(0, .one (.d (.sl false 137 2 (List.map Entry.c (a))))), (1, .one (.d (.sl false 137 2 (List.map Entry.c (b))))), (2, .one (.d (.fn F_p first_p caps_p))), (8, .one (.ptr [8] (g7) 0)), (9, .one (.ptr [9] (ζ.1) 0)), (11, .one (.d (.sl false 137 2 (List.map Entry.c (a))))), (12, .one (.d (.v (.int .i64 ((a.length : Int)))))), (13, .one (.d (.v (.int .i64 ((j : Int))))))] [([8], (g7, g8, .box [.d (.v (.int .i64 ((a.getD j default).line))), .d (.v (.int .i64 ((a.getD j default).pick)))])), ([9], (ζ.1, ζ.2, .box [.d (.v (.int .i64 ((b.getD j default).line))), .d (.v (.int .i64 ((b.getD j default).pick)))]))]) [⟨[1], some 22, [], []⟩, ⟨[7], some 23, [], []⟩, ⟨[22, 23], some 24, [], []⟩, ⟨[24], some 25, [], []⟩, ⟨[], some 9, [], [[9]]⟩, ⟨[9, 25], none, [[9]], [[9]]⟩] (fun k13 => ?_) ?_
    ·skip
     refine .move (.no rfl) rfl rfl rfl rfl ?_
     refine .move (.no rfl) rfl rfl rfl rfl ?_
     refine .indexAddr (.no rfl) rfl (j) t97 rfl t137 rfl rfl rfl (.d _ _) rfl rfl rfl (map_get (by omega)) rfl rfl ?_
     refine .load (.no rfl) rfl t137 rfl rfl (.d _) rfl rfl rfl rfl ?_
     refine .alloc (.no rfl) rfl z137 rfl rfl rfl ?_
     refine .store (.no rfl) rfl t137 rfl rfl rfl rfl rfl rfl rfl rfl rfl ?_
     exact .fin (k13 + 1 + 1 + 1 + 1, k13 + 1 + 1 + 1 + 1 + 1) (.of (.cons rfl (.cons rfl (.cons rfl (.cons rfl (.cons rfl (.cons rfl (.cons rfl (.cons rfl .nil)))))))) (.cons rfl (.cons rfl .nil)))
    rintro ⟨g14, g15⟩
    refine .seq ?_
    refine .reg (X := Unit) (fun ζ => .of [(0, .one (.d (.sl false 137 2 (List.map Entry.c (a))))), (1, .one (.d (.sl false 137 2 (List.map Entry.c (b))))), (2, .one (.d (.fn F_p first_p caps_p))), (10, .one (.d (.v (.int .i64 (p (a.getD j default) (b.getD j default)))))), (11, .one (.d (.sl false 137 2 (List.map Entry.c (a))))), (12, .one (.d (.v (.int .i64 ((a.length : Int)))))), (13, .one (.d (.v (.int .i64 ((j : Int))))))] []) [⟨[2], some 26, [], []⟩, ⟨[8], some 27, [[8]], []⟩, ⟨[9], some 28, [[9]], []⟩, ⟨[26, 27, 28], some 29, [], []⟩, ⟨[29], some 10, [], []⟩] (fun k16 => ?_) ?_
    ·skip
     refine .move (.no rfl) rfl rfl rfl rfl ?_
     refine .load (.no rfl) rfl t137 rfl rfl (.ptr _ _ _ _ _ rfl) rfl rfl rfl rfl ?_
     refine .load (.no rfl) rfl t137 rfl rfl (.ptr _ _ _ _ _ rfl) rfl rfl rfl rfl ?_
     refine .callF (.no rfl) rfl (ds := [.v (.int .i64 ((a.getD j default).line)), .v (.int .i64 ((a.getD j default).pick)), .v (.int .i64 ((b.getD j default).line)), .v (.int .i64 ((b.getD j default).pick))]) (h_p (a.getD j default) (b.getD j default)) rfl rfl rfl rfl (.own [29, 0] .nil) rfl rfl rfl rfl rfl rfl ?_
     refine .assign (.no rfl) rfl rfl rfl rfl ?_
     exact .fin () (.of (.cons rfl (.cons rfl (.cons rfl (.cons rfl (.cons rfl (.cons rfl (.cons rfl .nil))))))) .nil)
    intro _
    refine .seq ?_
    refine .reg (X := Unit) (fun ζ => .of [(0, .one (.d (.sl false 137 2 (List.map Entry.c (a))))), (1, .one (.d (.sl false 137 2 (List.map Entry.c (b))))), (2, .one (.d (.fn F_p first_p caps_p))), (10, .one (.d (.v (.int .i64 (p (a.getD j default) (b.getD j default)))))), (11, .one (.d (.sl false 137 2 (List.map Entry.c (a))))), (12, .one (.d (.v (.int .i64 ((a.length : Int)))))), (13, .one (.d (.v (.int .i64 ((j : Int)))))), (31, .one (.d (.v (.bool ((p (a.getD j default) (b.getD j default)) != 0)))))] []) [⟨[10], some 30, [], []⟩, ⟨[30], some 31, [], []⟩] (fun k17 => ?_) ?_
    ·skip
     refine .move (.no rfl) rfl rfl rfl rfl ?_
     refine .bin (.no rfl) rfl rfl rfl rfl rfl rfl ?_
     exact .fin () (.of (.cons rfl (.cons rfl (.cons rfl (.cons rfl (.cons rfl (.cons rfl (.cons rfl (.cons rfl .nil)))))))) .nil)
    intro _
    refine .cond (t := (p (a.getD j default) (b.getD j default)) != 0) rfl (fun c2 => ?_) (fun c2 => ?_)
    ·have c2 := (by simpa using c2 : ¬ ((p (a.getD j default) (b.getD j default)) = 0))
     refine .seq ?_
     refine .reg (X := Unit) (fun ζ => .of [(6, .one (.d (.v (.int .i64 (p (a.getD j default) (b.getD j default))))))] []) [⟨[10], some 32, [], []⟩, ⟨[32], some 6, [], []⟩] (fun k18 => ?_) ?_
     ·skip
      refine .move (.no rfl) rfl rfl rfl rfl ?_
      refine .assign (.no rfl) rfl rfl rfl rfl ?_
      exact .fin () (.of (.cons rfl .nil) .nil)
     intro _
     refine .ret ?_
     have e19 : (p (a.getD j default) (b.getD j default)) = (lexC p a b) := by (rw [← hI.2.2, lexC_here (by omega) (by omega) c2])
     have hc20 := eq1 (fun z1 => SV.one (.d (.v (.int .i64 (z1))))) e19
     show _ ∧ _
     exact ⟨.inr rfl, .done ⟨_, [], [], _, .one (c := .d (.v (.int .i64 (lexC p a b)))) (hc20) .nil, .cons (Reads.d _).gives .nil, nodupB_ok rfl, by simp, (by simp)⟩⟩
    ·have c2 := (by simpa using c2 : (p (a.getD j default) (b.getD j default)) = 0)
     refine .skip ?_
     refine .reg (X := Unit) (fun ζ => .of [(0, .one (.d (.sl false 137 2 (List.map Entry.c (a))))), (1, .one (.d (.sl false 137 2 (List.map Entry.c (b))))), (2, .one (.d (.fn F_p first_p caps_p))), (11, .one (.d (.sl false 137 2 (List.map Entry.c (a))))), (12, .one (.d (.v (.int .i64 ((a.length : Int)))))), (13, .one (.d (.v (.int .i64 (IntKind.wrap .i64 ((j : Int) + 1))))))] []) [⟨[13], some 33, [], []⟩, ⟨[33], some 13, [], []⟩] (fun k21 => ?_) ?_
     ·skip
      refine .bin (.no rfl) rfl rfl rfl rfl rfl rfl ?_
      refine .move (.no rfl) rfl rfl rfl rfl ?_
      exact .fin () (.of (.cons rfl (.cons rfl (.cons rfl (.cons rfl (.cons rfl (.cons rfl .nil)))))) .nil)
     intro _
     exact .here (j + 1) (.of (.cons rfl (.cons rfl (.cons rfl (.cons rfl (.cons rfl (.cons (svI (show (IntKind.wrap .i64 ((j : Int) + 1)) = (((j + 1) : Int)) by first | rfl | omega | exact wrap_le (by omega) (by omega) | (rw [wrap_le (by omega) (by omega)]; omega))) .nil)))))) .nil) ⟨(show (j + 1) ≤ a.length ∧ (j + 1) ≤ b.length ∧ lexC p (a.drop (j + 1)) (b.drop (j + 1)) = lexC p a b by exact ⟨by omega, by omega, (lexC_step (by omega) (by omega) (by simpa using c2)).symm.trans hI.2.2⟩), (show a.length - (j + 1) < a.length - j by omega)⟩
  ·have c0 := of_decide_eq_false c0
   refine .exit ?_
   refine .seq ?_
   refine .seq ?_
   refine .reg (X := Unit) (fun ζ => .of [(38, .one (.d (.v (.bool (decide ((a.length : Int) < (b.length : Int)))))))] []) [⟨[0], some 34, [], []⟩, ⟨[34], some 35, [], []⟩, ⟨[1], some 36, [], []⟩, ⟨[36], some 37, [], []⟩, ⟨[35, 37], some 38, [], []⟩] (fun k22 => ?_) ?_
   ·skip
    refine .move (.no rfl) rfl rfl rfl rfl ?_
    refine .len (.no rfl) rfl (z := (a.length : Int)) t97 rfl rfl rfl (.d _ _) (map_len _ _) rfl ?_
    refine .move (.no rfl) rfl rfl rfl rfl ?_
    refine .len (.no rfl) rfl (z := (b.length : Int)) t97 rfl rfl rfl (.d _ _) (map_len _ _) rfl ?_
    refine .bin (.no rfl) rfl rfl rfl rfl rfl rfl ?_
    exact .fin () (.of (.cons rfl .nil) .nil)
   intro _
   refine .cond (t := decide ((a.length : Int) < (b.length : Int))) rfl (fun c3 => ?_) (fun c3 => ?_)
   ·have c3 := of_decide_eq_true c3
    refine .seq ?_
    refine .reg (X := Unit) (fun ζ => .of [(6, .one (.d (.v (.int .i64 (-1)))))] []) [⟨[], some 6, [], []⟩] (fun k23 => ?_) ?_
    ·skip
     refine .assign (.no rfl) rfl rfl rfl rfl ?_
     exact .fin () (.of (.cons rfl .nil) .nil)
    intro _
    refine .ret ?_
    have e24 : (-1) = (lexC p a b) := by (rw [← hI.2.2, lexC_less (by omega) (by omega)])
    have hc25 := eq1 (fun z1 => SV.one (.d (.v (.int .i64 (z1))))) e24
    show _ ∧ _
    exact ⟨.inr rfl, .done ⟨_, [], [], _, .one (c := .d (.v (.int .i64 (lexC p a b)))) (hc25) .nil, .cons (Reads.d _).gives .nil, nodupB_ok rfl, by simp, (by simp)⟩⟩
   ·have c3 := of_decide_eq_false c3
    refine .skip ?_
    refine .seq ?_
    refine .reg (X := Unit) (fun ζ => .of [(6, .one (.d (.v (.int .i64 (0)))))] []) [⟨[], some 6, [], []⟩] (fun k26 => ?_) ?_
    ·skip
     refine .assign (.no rfl) rfl rfl rfl rfl ?_
     exact .fin () (.of (.cons rfl .nil) .nil)
    intro _
    refine .ret ?_
    have e27 : (0) = (lexC p a b) := by (rw [← hI.2.2, lexC_end (by omega) (by omega)])
    have hc28 := eq1 (fun z1 => SV.one (.d (.v (.int .i64 (z1))))) e27
    show _ ∧ _
    exact ⟨.inr rfl, .done ⟨_, [], [], _, .one (c := .d (.v (.int .i64 (lexC p a b)))) (hc28) .nil, .cons (Reads.d _).gives .nil, nodupB_ok rfl, by simp, (by simp)⟩⟩
theorem c_cmpTok1 (x : Entry) (y : Entry) : Trip Tryz.prog 137 [(true, 2), (true, 2)] (Entry.c x ++ Entry.c y) [(false, 1)] [.v (.int .i64 (entCmp x y))] [] := by
 refine Trip.of Tryz.func137 (by decide) (c := _) rfl rfl (shB_ok rfl) (Nat.le_of_ble_eq_true rfl) rfl (AftOk.nil _) ?_
 refine .seq ?_
 refine .reg (X := Nat × Nat) (fun ζ => .of [(2, .one (.ptr [2] (ζ.1) 0)), (3, .one (.ptr [3] (ζ.2) 0))] [([2], (ζ.1, ζ.1, .box [.d (.v (.int .i64 (x.line))), .d (.v (.int .i64 (x.pick)))])), ([3], (ζ.2, ζ.2, .box [.d (.v (.int .i64 (y.line))), .d (.v (.int .i64 (y.pick)))]))]) [⟨[0], some 2, [], [[2]]⟩, ⟨[1], some 3, [], [[3]]⟩, ⟨[], some 4, [], []⟩] (fun k1 => ?_) ?_
 ·skip
  refine .box (.no rfl) rfl rfl rfl rfl rfl ?_
  refine .box (.no rfl) rfl rfl rfl rfl rfl ?_
  refine .assign (.no rfl) rfl rfl rfl rfl ?_
  exact .fin (k1, k1 + 1) (.of (.cons rfl (.cons rfl .nil)) (.cons rfl (.cons rfl .nil)))
 rintro ⟨g2, g3⟩
 refine .seq ?_
 refine .regD (X := Unit) (by kernel_rfl) (fun ζ => .of [(4, .one (.d (.v (.int .i64 (orL [cmpI x.line y.line, cmpI x.pick y.pick])))))] []) [⟨[2], some 5, [], []⟩, ⟨[5], some 6, [[2]], []⟩, ⟨[3], some 7, [], []⟩, ⟨[7], some 8, [[3]], []⟩, ⟨[6, 8], some 9, [], []⟩, ⟨[2], some 10, [], []⟩, ⟨[10], some 11, [[2]], []⟩, ⟨[3], some 12, [], []⟩, ⟨[12], some 13, [[3]], []⟩, ⟨[11, 13], some 14, [], []⟩, ⟨[9, 14], some 15, [], [[15]]⟩, ⟨[15], some 16, [[15]], []⟩, ⟨[16], some 4, [], []⟩] (by kernel_rfl) (fun k4 => ?_) ?_
 ·skip
  refine .fieldAddrP (.no rfl) rfl t137 rfl rfl t2 rfl rfl rfl rfl ?_
  refine .load (.no rfl) rfl t2 rfl rfl (.ptr _ _ _ _ _ rfl) rfl rfl rfl rfl ?_
  refine .fieldAddrP (.no rfl) rfl t137 rfl rfl t2 rfl rfl rfl rfl ?_
  refine .load (.no rfl) rfl t2 rfl rfl (.ptr _ _ _ _ _ rfl) rfl rfl rfl rfl ?_
  refine .call (.no rfl) rfl [] [] (c_Comparel x.line y.line) rfl rfl rfl rfl rfl (.cons (Reads.d _).gives (.cons (Reads.d _).gives .nil)) rfl rfl (fun h => absurd rfl h) (.own [9, 0] .nil) (.nil) rfl rfl rfl (by simp) rfl rfl rfl ?_
  refine .fieldAddrP (.no rfl) rfl t137 rfl rfl t2 rfl rfl rfl rfl ?_
  refine .load (.no rfl) rfl t2 rfl rfl (.ptr _ _ _ _ _ rfl) rfl rfl rfl rfl ?_
  refine .fieldAddrP (.no rfl) rfl t137 rfl rfl t2 rfl rfl rfl rfl ?_
  refine .load (.no rfl) rfl t2 rfl rfl (.ptr _ _ _ _ _ rfl) rfl rfl rfl rfl ?_
  refine .call (.no rfl) rfl [] [] (c_Comparel x.pick y.pick) rfl rfl rfl rfl rfl (.cons (Reads.d _).gives (.cons (Reads.d _).gives .nil)) rfl rfl (fun h => absurd rfl h) (.own [14, 0] .nil) (.nil) rfl rfl rfl (by simp) rfl rfl rfl ?_
  refine .buildSlice (.no rfl) rfl (els := [[.v (.int .i64 (cmpI x.line y.line))], [.v (.int .i64 (cmpI x.pick y.pick))]]) t186 rfl z3 rfl rfl rfl rfl rfl rfl rfl rfl (by simp [i3]) (.cons _ _ _ _ _ _ (.d _) (.cons _ _ _ _ _ _ (.d _) .nil)) rfl rfl rfl ?_
  refine .call (.no rfl) rfl [[15]] [([15], (k4 + 1 + 1 + 1 + 1 + 1 + 1 + 1 + 1 + 1 + 1, k4 + 1 + 1 + 1 + 1 + 1 + 1 + 1 + 1 + 1 + 1, .row 3 1 ([[.v (.int .i64 (cmpI x.line y.line))], [.v (.int .i64 (cmpI x.pick y.pick))]])))] (c_Ori [cmpI x.line y.line, cmpI x.pick y.pick]) rfl rfl rfl rfl rfl (.cons (Reads.ref (Frz.of_erase (erase_slo true 3 1 i64c i64c ([cmpI x.line y.line, cmpI x.pick y.pick]) i64c_e)) (.head _) (.head _)).gives .nil) rfl rfl (fun _ => (ownCons (Owned.v _) ownNil)) (.own [16, 0] .nil) (.nil) rfl rfl rfl (AllH.get (.cons rfl .nil)) rfl rfl rfl ?_
  refine .assign (.no rfl) rfl rfl rfl rfl ?_
  exact .fin () (.of (.cons rfl .nil) .nil)
 intro _
 refine .ret ?_
 have e5 : (orL [cmpI x.line y.line, cmpI x.pick y.pick]) = (entCmp x y) := by exact orL_two _ _
 have hc6 := eq1 (fun z1 => SV.one (.d (.v (.int .i64 (z1))))) e5
 show _ ∧ _
 exact ⟨.inr rfl, .done ⟨_, [], [], _, .one (c := .d (.v (.int .i64 (entCmp x y)))) (hc6) .nil, .cons (Reads.d _).gives .nil, nodupB_ok rfl, by simp, (by simp)⟩⟩
theorem c_compareTokens (a : List Entry) (b : List Entry) : Trip Tryz.prog 103 [(false, 1), (false, 1)] ([.sl false 137 2 (List.map Entry.c (a))] ++ [.sl false 137 2 (List.map Entry.c (b))]) [(false, 1)] [.v (.int .i64 (tokCmp a b))] [] := by
 refine Trip.of Tryz.func103 (by decide) (c := _) rfl rfl (shB_ok rfl) (Nat.le_of_ble_eq_true rfl) rfl (AftOk.nil _) ?_
 refine .sat (t := 0) rfl (fun hs1 => ?_)
 have hs1l : a.length ≤ 9223372036854775807 := hs1.maplen
 refine .sat (t := 1) rfl (fun hs2 => ?_)
 have hs2l : b.length ≤ 9223372036854775807 := hs2.maplen
 refine .seq ?_
 refine .reg (X := Unit) (fun ζ => .of [(0, .one (.d (.sl false 137 2 (List.map Entry.c (a))))), (1, .one (.d (.sl false 137 2 (List.map Entry.c (b)))))] []) [⟨[], some 4, [], []⟩] (fun k3 => ?_) ?_
 ·skip
  refine .assign (.no rfl) rfl rfl rfl rfl ?_
  exact .fin () (.of (.cons rfl (.cons rfl .nil)) .nil)
 intro _
 refine .seq ?_
 refine .reg (X := Unit) (fun ζ => .of [(4, .one (.d (.v (.int .i64 (orL [cmpI (a.length : Int) (b.length : Int), lexC (fun x0 x1 => entCmp x0 x1) a b])))))] []) [⟨[0], some 5, [], []⟩, ⟨[5], some 6, [], []⟩, ⟨[1], some 7, [], []⟩, ⟨[7], some 8, [], []⟩, ⟨[6, 8], some 9, [], []⟩, ⟨[0], some 10, [], []⟩, ⟨[1], some 11, [], []⟩, ⟨[10, 11], some 12, [], []⟩, ⟨[9, 12], some 13, [], [[13]]⟩, ⟨[13], some 14, [[13]], []⟩, ⟨[14], some 4, [], []⟩] (fun k4 => ?_) ?_
 ·skip
  refine .move (.no rfl) rfl rfl rfl rfl ?_
  refine .len (.no rfl) rfl (z := (a.length : Int)) t97 rfl rfl rfl (.d _ _) (map_len _ _) rfl ?_
  refine .move (.no rfl) rfl rfl rfl rfl ?_
  refine .len (.no rfl) rfl (z := (b.length : Int)) t97 rfl rfl rfl (.d _ _) (map_len _ _) rfl ?_
  refine .call (.no rfl) rfl [] [] (c_Comparei (a.length : Int) (b.length : Int)) rfl rfl rfl rfl rfl (.cons (Reads.d _).gives (.cons (Reads.d _).gives .nil)) rfl rfl (fun h => absurd rfl h) (.own [9, 0] .nil) (.nil) rfl rfl rfl (by simp) rfl rfl rfl ?_
  refine .move (.no rfl) rfl rfl rfl rfl ?_
  refine .move (.no rfl) rfl rfl rfl rfl ?_
  refine .call (.no rfl) rfl [] [] (c_CompareFunc a b 137 [] [] (fun x0 x1 => entCmp x0 x1) (fun x0 x1 => c_cmpTok1 x0 x1)) rfl rfl rfl rfl rfl (.cons (Reads.d _).gives (.cons (Reads.d _).gives (.cons (Reads.d _).gives .nil))) rfl rfl (fun h => absurd rfl h) (.own [12, 0] .nil) (.nil) rfl rfl rfl (by simp) rfl rfl rfl ?_
  refine .buildSlice (.no rfl) rfl (els := [[.v (.int .i64 (cmpI (a.length : Int) (b.length : Int)))], [.v (.int .i64 (lexC (fun x0 x1 => entCmp x0 x1) a b))]]) t186 rfl z3 rfl rfl rfl rfl rfl rfl rfl rfl (by simp [i3]) (.cons _ _ _ _ _ _ (.d _) (.cons _ _ _ _ _ _ (.d _) .nil)) rfl rfl rfl ?_
  refine .call (.no rfl) rfl [[13]] [([13], (k4 + 1 + 1 + 1 + 1 + 1 + 1 + 1 + 1, k4 + 1 + 1 + 1 + 1 + 1 + 1 + 1 + 1, .row 3 1 ([[.v (.int .i64 (cmpI (a.length : Int) (b.length : Int)))], [.v (.int .i64 (lexC (fun x0 x1 => entCmp x0 x1) a b))]])))] (c_Ori [cmpI (a.length : Int) (b.length : Int), lexC (fun x0 x1 => entCmp x0 x1) a b]) rfl rfl rfl rfl rfl (.cons (Reads.ref (Frz.of_erase (erase_slo true 3 1 i64c i64c ([cmpI (a.length : Int) (b.length : Int), lexC (fun x0 x1 => entCmp x0 x1) a b]) i64c_e)) (.head _) (.head _)).gives .nil) rfl rfl (fun _ => (ownCons (Owned.v _) ownNil)) (.own [14, 0] .nil) (.nil) rfl rfl rfl (AllH.get (.cons rfl .nil)) rfl rfl rfl ?_
  refine .assign (.no rfl) rfl rfl rfl rfl ?_
  exact .fin () (.of (.cons rfl .nil) .nil)
 intro _
 refine .ret ?_
 have e5 : (orL [cmpI (a.length : Int) (b.length : Int), lexC (fun x0 x1 => entCmp x0 x1) a b]) = (tokCmp a b) := by exact orL_two _ _
 have hc6 := eq1 (fun z1 => SV.one (.d (.v (.int .i64 (z1))))) e5
 show _ ∧ _
 exact ⟨.inr rfl, .done ⟨_, [], [], _, .one (c := .d (.v (.int .i64 (tokCmp a b)))) (hc6) .nil, .cons (Reads.d _).gives .nil, nodupB_ok rfl, by simp, (by simp)⟩⟩
theorem c_entryOk (e : Entry) : Trip Tryz.prog 166 [(true, 2)] (Entry.c e) [(false, 1)] [.v (.bool (Entry.ok e))] [] := by
 refine Trip.of Tryz.func166 (by decide) (c := _) rfl rfl (shB_ok rfl) (Nat.le_of_ble_eq_true rfl) rfl (AftOk.nil _) ?_
 refine .seq ?_
 refine .reg (X := Nat) (fun ζ => .of [(1, .one (.ptr [1] (ζ) 0))] [([1], (ζ, ζ, .box [.d (.v (.int .i64 (e.line))), .d (.v (.int .i64 (e.pick)))]))]) [⟨[0], some 1, [], [[1]]⟩, ⟨[], some 2, [], []⟩] (fun k1 => ?_) ?_
 ·skip
  refine .box (.no rfl) rfl rfl rfl rfl rfl ?_
  refine .assign (.no rfl) rfl rfl rfl rfl ?_
  exact .fin k1 (.of (.cons rfl .nil) (.cons rfl .nil))
 intro g2
 refine .seq ?_
 refine .reg (X := Unit) (fun ζ => .of [(2, .one (.d (.v (.bool ((inR e.line 0 29 && inR e.pick 0 4))))))] []) [⟨[1], some 3, [], []⟩, ⟨[3], some 4, [[1]], []⟩, ⟨[4], some 5, [], []⟩, ⟨[5], some 6, [], []⟩, ⟨[6, 1], some 7, [], []⟩, ⟨[6, 7], some 8, [[1]], []⟩, ⟨[6, 8], some 9, [], []⟩, ⟨[6, 9], some 10, [], []⟩, ⟨[10], some 2, [], []⟩] (fun k3 => ?_) ?_
 ·skip
  refine .fieldAddrP (.no rfl) rfl t137 rfl rfl t2 rfl rfl rfl rfl ?_
  refine .load (.no rfl) rfl t2 rfl rfl (.ptr _ _ _ _ _ rfl) rfl rfl rfl rfl ?_
  refine .call (.no rfl) rfl [] [] (c_within e.line 0 29) rfl rfl rfl rfl rfl (.cons (Reads.d _).gives (.cons (Reads.d _).gives (.cons (Reads.d _).gives .nil))) rfl rfl (fun h => absurd rfl h) (.own [5, 0] .nil) (.nil) rfl rfl rfl (by simp) rfl rfl rfl ?_
  refine .moveB (.no rfl) rfl rfl rfl rfl fun b4 g1_3 => ?_
  cases b4
  ·skip
   refine .off rfl rfl rfl rfl rfl rfl rfl ?_
   refine .off rfl rfl rfl rfl rfl rfl rfl ?_
   refine .off rfl rfl rfl rfl rfl rfl rfl ?_
   refine .pick (.no rfl) rfl rfl rfl rfl rfl ?_
   refine .assign (.no rfl) rfl rfl rfl rfl ?_
   exact .fin () (.of (.cons (svB (show (false) = ((inR e.line 0 29 && inR e.pick 0 4)) by first | (simp only [g1_3, Bool.true_or, Bool.false_or, Bool.true_and, Bool.false_and, Bool.not_true, Bool.not_false]; done) | simp [g1_3])) .nil) .nil)
  ·skip
   refine .fieldAddrP (.on rfl rfl rfl rfl rfl) rfl t137 rfl rfl t2 rfl rfl rfl rfl ?_
   refine .load (.on rfl rfl rfl rfl rfl) rfl t2 rfl rfl (.ptr _ _ _ _ _ rfl) rfl rfl rfl rfl ?_
   refine .call (.on rfl rfl rfl rfl rfl) rfl [] [] (c_within e.pick 0 4) rfl rfl rfl rfl rfl (.cons (Reads.d _).gives (.cons (Reads.d _).gives (.cons (Reads.d _).gives .nil))) rfl rfl (fun h => absurd rfl h) (.own [9, 0] .nil) (.nil) rfl rfl rfl (by simp) rfl rfl rfl ?_
   refine .pick (.no rfl) rfl rfl rfl rfl rfl ?_
   refine .assign (.no rfl) rfl rfl rfl rfl ?_
   exact .fin () (.of (.cons (svB (show (inR e.pick 0 4) = ((inR e.line 0 29 && inR e.pick 0 4)) by first | (simp only [g1_3, Bool.true_or, Bool.false_or, Bool.true_and, Bool.false_and, Bool.not_true, Bool.not_false]; done) | simp [g1_3])) .nil) .nil)
 intro _
 refine .ret ?_
 have e5 : ((inR e.line 0 29 && inR e.pick 0 4)) = (Entry.ok e) := by rfl
 have hc6 := eq1 (fun z1 => SV.one (.d (.v (.bool (z1))))) e5
 show _ ∧ _
 exact ⟨.inr rfl, .done ⟨_, [], [], _, .one (c := .d (.v (.bool (Entry.ok e)))) (hc6) .nil, .cons (Reads.d _).gives .nil, nodupB_ok rfl, by simp, (by simp)⟩⟩
theorem c_IndexFuncY (l : List Entry) (F_p : FuncId) (first_p : List (Bool × List D)) (caps_p : List D) (p : Entry → Bool) (h_p : ∀ (x0 : Entry), FnTrip Tryz.prog F_p first_p caps_p [(true, 2)] (Entry.c x0) [(false, 1)] [.v (.bool (p x0))]) : Trip Tryz.prog 181 [(false, 1), (false, 1)] ([.sl false 137 2 (List.map Entry.c (l))] ++ [.fn F_p first_p caps_p]) [(false, 1)] [.v (.int .i64 (idx p l))] [] := by
 refine Trip.of Tryz.func181 (by decide) (c := _) rfl rfl (shB_ok rfl) (Nat.le_of_ble_eq_true rfl) rfl (AftOk.nil _) ?_
 refine .sat (t := 0) rfl (fun hs1 => ?_)
 have hs1l : l.length ≤ 9223372036854775807 := hs1.maplen
 refine .seq ?_
 refine .reg (X := Unit) (fun ζ => .of [(0, .one (.d (.sl false 137 2 (List.map Entry.c (l))))), (1, .one (.d (.fn F_p first_p caps_p)))] []) [⟨[], some 4, [], []⟩] (fun k2 => ?_) ?_
 ·skip
  refine .assign (.no rfl) rfl rfl rfl rfl ?_
  exact .fin () (.of (.cons rfl (.cons rfl .nil)) .nil)
 intro _
 refine .seq ?_
 refine .seq ?_
 refine .reg (X := Unit) (fun ζ => .of [(0, .one (.d (.sl false 137 2 (List.map Entry.c (l))))), (1, .one (.d (.fn F_p first_p caps_p))), (7, .one (.d (.v (.int .i64 ((l.length : Int)))))), (8, .one (.d (.v (.int .i64 (0)))))] []) [⟨[0], some 6, [], []⟩, ⟨[6], some 7, [], []⟩, ⟨[], some 8, [], []⟩] (fun k3 => ?_) ?_
 ·skip
  refine .move (.no rfl) rfl rfl rfl rfl ?_
  refine .len (.no rfl) rfl (z := (l.length : Int)) t97 rfl rfl rfl (.d _ _) (map_len _ _) rfl ?_
  refine .move (.no rfl) rfl rfl rfl rfl ?_
  exact .fin () (.of (.cons rfl (.cons rfl (.cons rfl (.cons rfl .nil)))) .nil)
 intro _
 refine .block ?_
 refine .loop (X := Nat) (fun ζ => .of [(0, .one (.d (.sl false 137 2 (List.map Entry.c (l))))), (1, .one (.d (.fn F_p first_p caps_p))), (7, .one (.d (.v (.int .i64 ((l.length : Int)))))), (8, .one (.d (.v (.int .i64 ((ζ : Int))))))] []) (fun ζ => ζ ≤ l.length ∧ allTo ζ (fun i => !p (l.getD i default)) = true) (fun ζ => l.length - ζ) ?_ ?_
 ·skip
  exact .here 0 (.of (.cons rfl (.cons rfl (.cons rfl (.cons (svI (show (0) = ((0 : Int)) by first | rfl | omega | exact wrap_le (by omega) (by omega) | (rw [wrap_le (by omega) (by omega)]; omega))) .nil)))) .nil) (show 0 ≤ l.length ∧ allTo 0 (fun i => !p (l.getD i default)) = true by exact ⟨by omega, rfl⟩)
 ·rintro j hI
  have hI : j ≤ l.length ∧ allTo j (fun i => !p (l.getD i default)) = true := hI
  refine .seq ?_
  refine .reg (X := Unit) (fun ζ => .of [(0, .one (.d (.sl false 137 2 (List.map Entry.c (l))))), (1, .one (.d (.fn F_p first_p caps_p))), (7, .one (.d (.v (.int .i64 ((l.length : Int)))))), (8, .one (.d (.v (.int .i64 ((j : Int)))))), (9, .one (.d (.v (.bool (decide ((j : Int) < (l.length : Int)))))))] []) [⟨[8, 7], some 9, [], []⟩] (fun k4 => ?_) ?_
  ·skip
   refine .bin (.no rfl) rfl rfl rfl rfl rfl rfl ?_
   exact .fin () (.of (.cons rfl (.cons rfl (.cons rfl (.cons rfl (.cons rfl .nil))))) .nil)
  intro _
  refine .seq ?_
  refine .cond (t := decide ((j : Int) < (l.length : Int))) rfl (fun c0 => ?_) (fun c0 => ?_)
  ·have c0 := of_decide_eq_true c0
   refine .skip ?_
   refine .seq ?_
   refine .block ?_
   refine .seq ?_
   refine .reg (X := Unit) (fun ζ => .of [(0, .one (.d (.sl false 137 2 (List.map Entry.c (l))))), (1, .one (.d (.fn F_p first_p caps_p))), (5, .one (.d (.v (.int .i64 ((j : Int)))))), (7, .one (.d (.v (.int .i64 ((l.length : Int)))))), (8, .one (.d (.v (.int .i64 ((j : Int))))))] []) [⟨[8], some 10, [], []⟩, ⟨[10], some 5, [], []⟩] (fun k5 => ?_) ?_
   ·skip
    refine .move (.no rfl) rfl rfl rfl rfl ?_
    refine .assign (.no rfl) rfl rfl rfl rfl ?_
    exact .fin () (.of (.cons rfl (.cons rfl (.cons rfl (.cons rfl (.cons rfl .nil))))) .nil)
   intro _
   refine .seq ?_
   refine .reg (X := Unit) (fun ζ => .of [(0, .one (.d (.sl false 137 2 (List.map Entry.c (l))))), (1, .one (.d (.fn F_p first_p caps_p))), (5, .one (.d (.v (.int .i64 ((j : Int)))))), (7, .one (.d (.v (.int .i64 ((l.length : Int)))))), (8, .one (.d (.v (.int .i64 ((j : Int)))))), (16, .one (.d (.v (.bool (p (l.getD j default))))))] []) [⟨[1], some 11, [], []⟩, ⟨[0], some 12, [], []⟩, ⟨[5], some 13, [], []⟩, ⟨[12, 13], some 14, [], []⟩, ⟨[14], some 15, [], []⟩, ⟨[11, 15], some 16, [], []⟩] (fun k6 => ?_) ?_
   ·skip
    refine .move (.no rfl) rfl rfl rfl rfl ?_
    refine .move (.no rfl) rfl rfl rfl rfl ?_
    refine .move (.no rfl) rfl rfl rfl rfl ?_
    refine .indexAddr (.no rfl) rfl (j) t97 rfl t137 rfl rfl rfl (.d _ _) rfl rfl rfl (map_get (by omega)) rfl rfl ?_
    refine .load (.no rfl) rfl t137 rfl rfl (.d _) rfl rfl rfl rfl ?_
    refine .callF (.no rfl) rfl (ds := [.v (.int .i64 ((l.getD j default).line)), .v (.int .i64 ((l.getD j default).pick))]) (h_p (l.getD j default)) rfl rfl rfl rfl (.own [16, 0] .nil) rfl rfl rfl rfl rfl rfl ?_
    exact .fin () (.of (.cons rfl (.cons rfl (.cons rfl (.cons rfl (.cons rfl (.cons rfl .nil)))))) .nil)
   intro _
   refine .cond (t := p (l.getD j default)) rfl (fun c1 => ?_) (fun c1 => ?_)
   ·have c1 := c1
    refine .seq ?_
    refine .reg (X := Unit) (fun ζ => .of [(4, .one (.d (.v (.int .i64 ((j : Int))))))] []) [⟨[5], some 17, [], []⟩, ⟨[17], some 4, [], []⟩] (fun k7 => ?_) ?_
    ·skip
     refine .move (.no rfl) rfl rfl rfl rfl ?_
     refine .assign (.no rfl) rfl rfl rfl rfl ?_
     exact .fin () (.of (.cons rfl .nil) .nil)
    intro _
    refine .ret ?_
    have e8 : ((j : Int)) = (idx p l) := by exact (idx_found (j := j) (by omega) hI.2 (by simpa using c1)).symm
    have hc9 := eq1 (fun z1 => SV.one (.d (.v (.int .i64 (z1))))) e8
    show _ ∧ _
    exact ⟨.inr rfl, .done ⟨_, [], [], _, .one (c := .d (.v (.int .i64 (idx p l)))) (hc9) .nil, .cons (Reads.d _).gives .nil, nodupB_ok rfl, by simp, (by simp)⟩⟩
   ·have c1 := c1
    refine .skip ?_
    refine .reg (X := Unit) (fun ζ => .of [(0, .one (.d (.sl false 137 2 (List.map Entry.c (l))))), (1, .one (.d (.fn F_p first_p caps_p))), (7, .one (.d (.v (.int .i64 ((l.length : Int)))))), (8, .one (.d (.v (.int .i64 (IntKind.wrap .i64 ((j : Int) + 1))))))] []) [⟨[8], some 18, [], []⟩, ⟨[18], some 8, [], []⟩] (fun k10 => ?_) ?_
    ·skip
     refine .bin (.no rfl) rfl rfl rfl rfl rfl rfl ?_
     refine .move (.no rfl) rfl rfl rfl rfl ?_
     exact .fin () (.of (.cons rfl (.cons rfl (.cons rfl (.cons rfl .nil)))) .nil)
    intro _
    exact .here (j + 1) (.of (.cons rfl (.cons rfl (.cons rfl (.cons (svI (show (IntKind.wrap .i64 ((j : Int) + 1)) = (((j + 1) : Int)) by first | rfl | omega | exact wrap_le (by omega) (by omega) | (rw [wrap_le (by omega) (by omega)]; omega))) .nil)))) .nil) ⟨(show (j + 1) ≤ l.length ∧ allTo (j + 1) (fun i => !p (l.getD i default)) = true by exact ⟨by omega, allTo_step hI.2 (by simpa using c1)⟩), (show l.length - (j + 1) < l.length - j by omega)⟩
  ·have c0 := of_decide_eq_false c0
   refine .exit ?_
   refine .seq ?_
   refine .reg (X := Unit) (fun ζ => .of [(4, .one (.d (.v (.int .i64 (-1)))))] []) [⟨[], some 4, [], []⟩] (fun k11 => ?_) ?_
   ·skip
    refine .assign (.no rfl) rfl rfl rfl rfl ?_
    exact .fin () (.of (.cons rfl .nil) .nil)
   intro _
   refine .ret ?_
   have e12 : (-1) = (idx p l) := by exact (idx_none (by omega) hI.2).symm
   have hc13 := eq1 (fun z1 => SV.one (.d (.v (.int .i64 (z1))))) e12
   show _ ∧ _
   exact ⟨.inr rfl, .done ⟨_, [], [], _, .one (c := .d (.v (.int .i64 (idx p l)))) (hc13) .nil, .cons (Reads.d _).gives .nil, nodupB_ok rfl, by simp, (by simp)⟩⟩
theorem c_ContainsFuncY (l : List Entry) (F_p : FuncId) (first_p : List (Bool × List D)) (caps_p : List D) (p : Entry → Bool) (h_p : ∀ (x0 : Entry), FnTrip Tryz.prog F_p first_p caps_p [(true, 2)] (Entry.c x0) [(false, 1)] [.v (.bool (p x0))]) : Trip Tryz.prog 177 [(false, 1), (false, 1)] ([.sl false 137 2 (List.map Entry.c (l))] ++ [.fn F_p first_p caps_p]) [(false, 1)] [.v (.bool (l.any p))] [] := by
 refine Trip.of Tryz.func177 (by decide) (c := _) rfl rfl (shB_ok rfl) (Nat.le_of_ble_eq_true rfl) rfl (AftOk.nil _) ?_
 refine .sat (t := 0) rfl (fun hs1 => ?_)
 have hs1l : l.length ≤ 9223372036854775807 := hs1.maplen
 refine .seq ?_
 refine .reg (X := Unit) (fun ζ => .of [(0, .one (.d (.sl false 137 2 (List.map Entry.c (l))))), (1, .one (.d (.fn F_p first_p caps_p)))] []) [⟨[], some 4, [], []⟩] (fun k2 => ?_) ?_
 ·skip
  refine .assign (.no rfl) rfl rfl rfl rfl ?_
  exact .fin () (.of (.cons rfl (.cons rfl .nil)) .nil)
 intro _
 refine .seq ?_
 refine .reg (X := Unit) (fun ζ => .of [(4, .one (.d (.v (.bool (decide ((idx p l) ≥ 0))))))] []) [⟨[0], some 5, [], []⟩, ⟨[1], some 6, [], []⟩, ⟨[5, 6], some 7, [], []⟩, ⟨[7], some 8, [], []⟩, ⟨[8], some 4, [], []⟩] (fun k3 => ?_) ?_
 ·skip
  refine .move (.no rfl) rfl rfl rfl rfl ?_
  refine .move (.no rfl) rfl rfl rfl rfl ?_
  refine .call (.no rfl) rfl [] [] (c_IndexFuncY l F_p first_p caps_p p h_p) rfl rfl rfl rfl rfl (.cons (Reads.d _).gives (.cons (Reads.d _).gives .nil)) rfl rfl (fun h => absurd rfl h) (.own [7, 0] .nil) (.nil) rfl rfl rfl (by simp) rfl rfl rfl ?_
  refine .bin (.no rfl) rfl rfl rfl rfl rfl rfl ?_
  refine .assign (.no rfl) rfl rfl rfl rfl ?_
  exact .fin () (.of (.cons rfl .nil) .nil)
 intro _
 refine .ret ?_
 have e4 : (decide ((idx p l) ≥ 0)) = (l.any p) := by exact idx_any _ _
 have hc5 := eq1 (fun z1 => SV.one (.d (.v (.bool (z1))))) e4
 show _ ∧ _
 exact ⟨.inr rfl, .done ⟨_, [], [], _, .one (c := .d (.v (.bool (l.any p)))) (hc5) .nil, .cons (Reads.d _).gives .nil, nodupB_ok rfl, by simp, (by simp)⟩⟩
theorem c_areAll1Y (x : Entry) (F_p : FuncId) (first_p : List (Bool × List D)) (caps_p : List D) (p : Entry → Bool) (h_p : ∀ (x0 : Entry), FnTrip Tryz.prog F_p first_p caps_p [(true, 2)] (Entry.c x0) [(false, 1)] [.v (.bool (p x0))]) : Trip Tryz.prog 178 [(true, 2), (false, 1)] (Entry.c x ++ [.pt false [.fn F_p first_p caps_p]]) [(false, 1)] [.v (.bool (!p x))] [] := by
 refine Trip.of Tryz.func178 (by decide) (c := _) rfl rfl (shB_ok rfl) (Nat.le_of_ble_eq_true rfl) rfl (AftOk.nil _) ?_
 refine .seq ?_
 refine .reg (X := Nat) (fun ζ => .of [(1, .one (.d (.pt false [.fn F_p first_p caps_p]))), (2, .one (.ptr [2] (ζ) 0))] [([2], (ζ, ζ, .box [.d (.v (.int .i64 (x.line))), .d (.v (.int .i64 (x.pick)))]))]) [⟨[0], some 2, [], [[2]]⟩, ⟨[], some 3, [], []⟩] (fun k1 => ?_) ?_
 ·skip
  refine .box (.no rfl) rfl rfl rfl rfl rfl ?_
  refine .assign (.no rfl) rfl rfl rfl rfl ?_
  exact .fin k1 (.of (.cons rfl (.cons rfl .nil)) (.cons rfl .nil))
 intro g2
 refine .seq ?_
 refine .reg (X := Unit) (fun ζ => .of [(3, .one (.d (.v (.bool (!(p x))))))] []) [⟨[1], some 4, [], []⟩, ⟨[2], some 5, [[2]], []⟩, ⟨[4, 5], some 6, [], []⟩, ⟨[6], some 7, [], []⟩, ⟨[7], some 3, [], []⟩] (fun k3 => ?_) ?_
 ·skip
  refine .load (.no rfl) rfl t190 rfl rfl (.d _) rfl rfl rfl rfl ?_
  refine .load (.no rfl) rfl t137 rfl rfl (.ptr _ _ _ _ _ rfl) rfl rfl rfl rfl ?_
  refine .callF (.no rfl) rfl (ds := [.v (.int .i64 (x.line)), .v (.int .i64 (x.pick))]) (h_p x) rfl rfl rfl rfl (.own [6, 0] .nil) rfl rfl rfl rfl rfl rfl ?_
  refine .un (.no rfl) rfl rfl rfl rfl rfl ?_
  refine .assign (.no rfl) rfl rfl rfl rfl ?_
  exact .fin () (.of (.cons rfl .nil) .nil)
 intro _
 refine .ret ?_
 have e4 : (!(p x)) = (!p x) := by rfl
 have hc5 := eq1 (fun z1 => SV.one (.d (.v (.bool (z1))))) e4
 show _ ∧ _
 exact ⟨.inr rfl, .done ⟨_, [], [], _, .one (c := .d (.v (.bool (!p x)))) (hc5) .nil, .cons (Reads.d _).gives .nil, nodupB_ok rfl, by simp, (by simp)⟩⟩
theorem c_areAllY (l : List Entry) (F_p : FuncId) (first_p : List (Bool × List D)) (caps_p : List D) (p : Entry → Bool) (h_p : ∀ (x0 : Entry), FnTrip Tryz.prog F_p first_p caps_p [(true, 2)] (Entry.c x0) [(false, 1)] [.v (.bool (p x0))]) : Trip Tryz.prog 165 [(false, 1), (false, 1)] ([.sl false 137 2 (List.map Entry.c (l))] ++ [.fn F_p first_p caps_p]) [(false, 1)] [.v (.bool (l.all p))] [] := by
 refine Trip.of Tryz.func165 (by decide) (c := _) rfl rfl (shB_ok rfl) (Nat.le_of_ble_eq_true rfl) rfl (AftOk.nil _) ?_
 refine .sat (t := 0) rfl (fun hs1 => ?_)
 have hs1l : l.length ≤ 9223372036854775807 := hs1.maplen
 refine .seq ?_
 refine .reg (X := Nat) (fun ζ => .of [(0, .one (.d (.sl false 137 2 (List.map Entry.c (l))))), (3, .one (.ptr [3] (ζ) 0))] [([3], (ζ, ζ, .box [.d (.fn F_p first_p caps_p)]))]) [⟨[1], some 3, [], [[3]]⟩, ⟨[], some 4, [], []⟩] (fun k2 => ?_) ?_
 ·skip
  refine .box (.no rfl) rfl rfl rfl rfl rfl ?_
  refine .assign (.no rfl) rfl rfl rfl rfl ?_
  exact .fin k2 (.of (.cons rfl (.cons rfl .nil)) (.cons rfl .nil))
 intro g3
 refine .seq ?_
 refine .reg (X := Unit) (fun ζ => .of [(4, .one (.d (.v (.bool (!(l.any (fun x0 => !p x0)))))))] []) [⟨[0], some 5, [], []⟩, ⟨[3], some 6, [], []⟩, ⟨[5, 6], some 7, [[3]], []⟩, ⟨[7], some 8, [], []⟩, ⟨[8], some 4, [], []⟩] (fun k4 => ?_) ?_
 ·skip
  refine .move (.no rfl) rfl rfl rfl rfl ?_
  refine .makeFunc (.no rfl) rfl rfl rfl rfl rfl ?_
  refine .call (.no rfl) rfl [[3]] [([3], (g3, g3, .box [.d (.fn F_p first_p caps_p)]))] (c_ContainsFuncY l 178 [] [.pt false [.fn F_p first_p caps_p]] (fun x0 => !p x0) (fun x0 => c_areAll1Y x0 F_p first_p caps_p p h_p)) rfl rfl rfl rfl rfl (.cons (Reads.d _).gives (.cons (Reads.clo0 (.cons (Reads.ptr0 (.head _) (.head _) (.cons (Reads.d _) .nil)) .nil)).gives .nil)) rfl rfl (fun _ => (ownCons (Owned.v _) ownNil)) (.own [7, 0] .nil) (.nil) rfl rfl rfl (AllH.get (.cons rfl .nil)) rfl rfl rfl ?_
  refine .un (.no rfl) rfl rfl rfl rfl rfl ?_
  refine .assign (.no rfl) rfl rfl rfl rfl ?_
  exact .fin () (.of (.cons rfl .nil) .nil)
 intro _
 refine .ret ?_
 have e5 : (!(l.any (fun x0 => !p x0))) = (l.all p) := by exact not_any _ _
 have hc6 := eq1 (fun z1 => SV.one (.d (.v (.bool (z1))))) e5
 show _ ∧ _
 exact ⟨.inr rfl, .done ⟨_, [], [], _, .one (c := .d (.v (.bool (l.all p)))) (hc6) .nil, .cons (Reads.d _).gives .nil, nodupB_ok rfl, by simp, (by simp)⟩⟩
theorem c_TokenOk (t : List Entry) : Trip Tryz.prog 141 [(false, 1)] ([.sl false 137 2 (List.map Entry.c (t))]) [(false, 1)] [.v (.bool (tokOk t))] [] := by
 refine Trip.of Tryz.func141 (by decide) (c := _) rfl rfl (shB_ok rfl) (Nat.le_of_ble_eq_true rfl) rfl (AftOk.nil _) ?_
 refine .sat (t := 0) rfl (fun hs1 => ?_)
 have hs1l : t.length ≤ 9223372036854775807 := hs1.maplen
 refine .seq ?_
 refine .reg (X := Unit) (fun ζ => .of [(0, .one (.d (.sl false 137 2 (List.map Entry.c (t)))))] []) [⟨[], some 2, [], []⟩] (fun k2 => ?_) ?_
 ·skip
  refine .assign (.no rfl) rfl rfl rfl rfl ?_
  exact .fin () (.of (.cons rfl .nil) .nil)
 intro _
 refine .seq ?_
 refine .reg (X := Unit) (fun ζ => .of [(2, .one (.d (.v (.bool ((decide ((t.length : Int) ≤ 3) && t.all (fun x0 => Entry.ok x0)))))))] []) [⟨[0], some 3, [], []⟩, ⟨[3], some 4, [], []⟩, ⟨[4], some 5, [], []⟩, ⟨[5], some 6, [], []⟩, ⟨[6, 0], some 7, [], []⟩, ⟨[6, 7], some 8, [], []⟩, ⟨[6, 8], some 9, [], []⟩, ⟨[9], some 2, [], []⟩] (fun k3 => ?_) ?_
 ·skip
  refine .move (.no rfl) rfl rfl rfl rfl ?_
  refine .len (.no rfl) rfl (z := (t.length : Int)) t97 rfl rfl rfl (.d _ _) (map_len _ _) rfl ?_
  refine .bin (.no rfl) rfl rfl rfl rfl rfl rfl ?_
  refine .moveB (.no rfl) rfl rfl rfl rfl fun b4 g1_3 => ?_
  cases b4
  ·skip
   refine .off rfl rfl rfl rfl rfl rfl rfl ?_
   refine .off rfl rfl rfl rfl rfl rfl rfl ?_
   refine .pick (.no rfl) rfl rfl rfl rfl rfl ?_
   refine .assign (.no rfl) rfl rfl rfl rfl ?_
   exact .fin () (.of (.cons (svB (show (false) = ((decide ((t.length : Int) ≤ 3) && t.all (fun x0 => Entry.ok x0))) by first | (simp only [g1_3, Bool.true_or, Bool.false_or, Bool.true_and, Bool.false_and, Bool.not_true, Bool.not_false]; done) | simp [g1_3])) .nil) .nil)
  ·skip
   refine .move (.on rfl rfl rfl rfl rfl) rfl rfl rfl rfl ?_
   refine .call (.on rfl rfl rfl rfl rfl) rfl [] [] (c_areAllY t 166 [] [] (fun x0 => Entry.ok x0) (fun x0 => c_entryOk x0)) rfl rfl rfl rfl rfl (.cons (Reads.d _).gives (.cons (Reads.d _).gives .nil)) rfl rfl (fun h => absurd rfl h) (.own [8, 0] .nil) (.nil) rfl rfl rfl (by simp) rfl rfl rfl ?_
   refine .pick (.no rfl) rfl rfl rfl rfl rfl ?_
   refine .assign (.no rfl) rfl rfl rfl rfl ?_
   exact .fin () (.of (.cons (svB (show (t.all (fun x0 => Entry.ok x0)) = ((decide ((t.length : Int) ≤ 3) && t.all (fun x0 => Entry.ok x0))) by first | (simp only [g1_3, Bool.true_or, Bool.false_or, Bool.true_and, Bool.false_and, Bool.not_true, Bool.not_false]; done) | simp [g1_3])) .nil) .nil)
 intro _
 refine .ret ?_
 have e5 : ((decide ((t.length : Int) ≤ 3) && t.all (fun x0 => Entry.ok x0))) = (tokOk t) := by (unfold tokOk; rw [show decide ((t.length : Int) ≤ 3) = decide (t.length ≤ 3) from decide_eq_decide.2 (by omega)])
 have hc6 := eq1 (fun z1 => SV.one (.d (.v (.bool (z1))))) e5
 show _ ∧ _
 exact ⟨.inr rfl, .done ⟨_, [], [], _, .one (c := .d (.v (.bool (tokOk t)))) (hc6) .nil, .cons (Reads.d _).gives .nil, nodupB_ok rfl, by simp, (by simp)⟩⟩
end Go.Proofs

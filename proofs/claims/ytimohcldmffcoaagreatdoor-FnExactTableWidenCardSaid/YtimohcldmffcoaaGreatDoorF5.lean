/- Contracts of the program's functions at this seat, printed by a program of ours and checked by Lean: each under the conditions of its own statement. -/
import Derived.Test.YtimohcldmffcoaaGreatDoorF4
set_option linter.all false
set_option linter.unnecessarySimpa false
set_option linter.unusedSectionVars false
set_option linter.unusedSimpArgs false
set_option linter.unusedVariables false
namespace Go.Proofs
open Go Go.Proofs Go.Ev

set_option maxHeartbeats 8000000 in
theorem c_FnExactTableWiden (d : Decl) (a : List Env) (b : List Env) (l : List Int) (hs : ∀ x ∈ Decl.names d, x.size ≤ 9223372036854775807) (hv : ∀ x ∈ d.vars, 0 ≤ strW x ∧ strW x ≤ 9223372036854775807) (hf : ∀ x ∈ d.flags, 0 ≤ strW x ∧ strW x ≤ 9223372036854775807) (ha : ∀ x ∈ d.arrays, 0 ≤ arrW x ∧ arrW x ≤ 9223372036854775807) : Trip Tryz.prog 5 [(true, 3), (false, 1), (false, 1), (false, 1)] (Decl.c25 d ++ [.sl false 69 3 (List.map Env.c69 (a))] ++ [.sl false 69 3 (List.map Env.c69 (b))] ++ [.sl false 2 1 (List.map i64c (l))]) [(false, 1)] [.v (.bool (true))] [] := by
 refine Trip.of Tryz.func5 (by decide) (c := _) rfl rfl (shB_ok rfl) (Nat.le_of_ble_eq_true rfl) rfl (AftOk.nil _) ?_
 refine .satA (t := 0) (i := 0) rfl rfl (fun hs1 => ?_)
 have hs1l : d.vars.length ≤ 9223372036854775807 := hs1.maplen
 refine .satA (t := 0) (i := 1) rfl rfl (fun hs2 => ?_)
 have hs2l : d.flags.length ≤ 9223372036854775807 := hs2.maplen
 refine .satA (t := 0) (i := 2) rfl rfl (fun hs3 => ?_)
 have hs3l : d.arrays.length ≤ 9223372036854775807 := hs3.maplen
 refine .sat (t := 1) rfl (fun hs4 => ?_)
 have hs4l : a.length ≤ 9223372036854775807 := hs4.maplen
 refine .sat (t := 2) rfl (fun hs5 => ?_)
 have hs5l : b.length ≤ 9223372036854775807 := hs5.maplen
 refine .sat (t := 3) rfl (fun hs6 => ?_)
 have hs6l : l.length ≤ 9223372036854775807 := hs6.maplen
 refine .seq ?_
 refine .reg (X := Nat) (fun ζ => .of [(1, .one (.d (.sl false 69 3 (List.map Env.c69 (a))))), (2, .one (.d (.sl false 69 3 (List.map Env.c69 (b))))), (3, .one (.d (.sl false 2 1 (List.map i64c (l))))), (4, .one (.ptr [4] (ζ) 0))] [([4], (ζ, ζ, .box [.d (.sl false 9 1 (List.map strc (d.vars))), .d (.sl false 9 1 (List.map strc (d.flags))), .d (.sl false 115 2 (List.map Arr.c (d.arrays)))]))]) [⟨[0], some 4, [], [[4]]⟩, ⟨[], some 8, [], []⟩] (fun k7 => ?_) ?_
 ·skip
  refine .box (.no rfl) rfl rfl rfl rfl rfl ?_
  refine .assign (.no rfl) rfl rfl rfl rfl ?_
  exact .fin k7 (.of (.cons rfl (.cons rfl (.cons rfl (.cons rfl .nil)))) (.cons rfl .nil))
 intro g8
 refine .seq ?_
 refine .seq ?_
 refine .reg (X := Unit) (fun ζ => .of [(1, .one (.d (.sl false 69 3 (List.map Env.c69 (a))))), (2, .one (.d (.sl false 69 3 (List.map Env.c69 (b))))), (3, .one (.d (.sl false 2 1 (List.map i64c (l))))), (4, .one (.ptr [4] (g8) 0)), (22, .one (.d (.v (.bool (decide ((l.length : Int) > 1048576))))))] [([4], (g8, g8, .box [.d (.sl false 9 1 (List.map strc (d.vars))), .d (.sl false 9 1 (List.map strc (d.flags))), .d (.sl false 115 2 (List.map Arr.c (d.arrays)))]))]) [⟨[3], some 20, [], []⟩, ⟨[20], some 21, [], []⟩, ⟨[21], some 22, [], []⟩] (fun k9 => ?_) ?_
 ·skip
  refine .move (.no rfl) rfl rfl rfl rfl ?_
  refine .len (.no rfl) rfl (z := (l.length : Int)) t27 rfl rfl rfl (.d _ _) (map_len _ _) rfl ?_
  refine .bin (.no rfl) rfl rfl rfl rfl rfl rfl ?_
  exact .fin () (.of (.cons rfl (.cons rfl (.cons rfl (.cons rfl (.cons rfl .nil))))) (.cons rfl .nil))
 intro _
 refine .cond (t := decide ((l.length : Int) > 1048576)) rfl (fun c0 => ?_) (fun c0 => ?_)
 ·have c0 := of_decide_eq_true c0
  refine .seq ?_
  refine .reg (X := Unit) (fun ζ => .of [(8, .one (.d (.v (.bool (true)))))] []) [⟨[], some 8, [], []⟩] (fun k10 => ?_) ?_
  ·skip
   refine .assign (.no rfl) rfl rfl rfl rfl ?_
   exact .fin () (.of (.cons rfl .nil) .nil)
  intro _
  refine .ret ?_
  show _ ∧ _
  exact ⟨.inr rfl, .done ⟨_, [], [], _, .one rfl .nil, .cons (Reads.d _).gives .nil, nodupB_ok rfl, by simp, (by simp)⟩⟩
 ·have c0 := of_decide_eq_false c0
  have q0 : l.length ≤ 1048576 := (by omega)
  refine .skip ?_
  refine .seq ?_
  refine .reg (X := Unit) (fun ζ => .of [(1, .one (.d (.sl false 69 3 (List.map Env.c69 (a))))), (2, .one (.d (.sl false 69 3 (List.map Env.c69 (b))))), (3, .one (.d (.sl false 2 1 (List.map i64c (l))))), (4, .one (.ptr [4] (g8) 0)), (9, .one (.d (.v (.int .i64 (1048576)))))] [([4], (g8, g8, .box [.d (.sl false 9 1 (List.map strc (d.vars))), .d (.sl false 9 1 (List.map strc (d.flags))), .d (.sl false 115 2 (List.map Arr.c (d.arrays)))]))]) [⟨[], some 9, [], []⟩] (fun k11 => ?_) ?_
  ·skip
   refine .assign (.no rfl) rfl rfl rfl rfl ?_
   exact .fin () (.of (.cons rfl (.cons rfl (.cons rfl (.cons rfl (.cons rfl .nil))))) (.cons rfl .nil))
  intro _
  refine .seq ?_
  refine .reg (X := Unit) (fun ζ => .of [(1, .one (.d (.sl false 69 3 (List.map Env.c69 (a))))), (2, .one (.d (.sl false 69 3 (List.map Env.c69 (b))))), (3, .one (.d (.sl false 2 1 (List.map i64c (l))))), (4, .one (.ptr [4] (g8) 0)), (9, .one (.d (.v (.int .i64 (szDecl d 1048576)))))] [([4], (g8, g8, .box [.d (.sl false 9 1 (List.map strc (d.vars))), .d (.sl false 9 1 (List.map strc (d.flags))), .d (.sl false 115 2 (List.map Arr.c (d.arrays)))]))]) [⟨[4], some 23, [[4]], []⟩, ⟨[9], some 24, [], []⟩, ⟨[23, 24], some 25, [], []⟩, ⟨[25], some 9, [], []⟩] (fun k12 => ?_) ?_
  ·skip
   refine .load (.no rfl) rfl t25 rfl rfl (.ptr _ _ _ _ _ rfl) rfl rfl rfl rfl ?_
   refine .move (.no rfl) rfl rfl rfl rfl ?_
   refine .call (.no rfl) rfl [] [] (c_szDecl d 1048576 (by first | assumption | omega | exact ⟨‹_›, ‹_›⟩ | (simp only [Decl.marks, Env.marks, Env.mark, mkAll_len]; omega) | exact EnvS.small_mark s9 | exact EnvS.marked _ _) (by first | assumption | omega | exact ⟨‹_›, ‹_›⟩ | (simp only [Decl.marks, Env.marks, Env.mark, mkAll_len]; omega) | exact EnvS.small_mark s9 | exact EnvS.marked _ _) (by first | assumption | omega | exact ⟨‹_›, ‹_›⟩ | (simp only [Decl.marks, Env.marks, Env.mark, mkAll_len]; omega) | exact EnvS.small_mark s9 | exact EnvS.marked _ _) (by first | assumption | omega | exact ⟨‹_›, ‹_›⟩ | (simp only [Decl.marks, Env.marks, Env.mark, mkAll_len]; omega) | exact EnvS.small_mark s9 | exact EnvS.marked _ _)) rfl rfl rfl rfl rfl (.cons (Reads.d _).gives (.cons (Reads.d _).gives (.cons (Reads.d _).gives (.cons (Reads.d _).gives .nil)))) rfl rfl (fun h => absurd rfl h) (.own [25, 0] .nil) (.nil) rfl rfl rfl (by simp) rfl rfl rfl ?_
   refine .assign (.no rfl) rfl rfl rfl rfl ?_
   exact .fin () (.of (.cons rfl (.cons rfl (.cons rfl (.cons rfl (.cons rfl .nil))))) (.cons rfl .nil))
  intro _
  refine .seq ?_
  refine .seq ?_
  refine .reg (X := Unit) (fun ζ => .of [(1, .one (.d (.sl false 69 3 (List.map Env.c69 (a))))), (2, .one (.d (.sl false 69 3 (List.map Env.c69 (b))))), (3, .one (.d (.sl false 2 1 (List.map i64c (l))))), (4, .one (.ptr [4] (g8) 0)), (9, .one (.d (.v (.int .i64 (szDecl d 1048576))))), (27, .one (.d (.v (.bool (decide ((szDecl d 1048576) < 0))))))] [([4], (g8, g8, .box [.d (.sl false 9 1 (List.map strc (d.vars))), .d (.sl false 9 1 (List.map strc (d.flags))), .d (.sl false 115 2 (List.map Arr.c (d.arrays)))]))]) [⟨[9], some 26, [], []⟩, ⟨[26], some 27, [], []⟩] (fun k13 => ?_) ?_
  ·skip
   refine .move (.no rfl) rfl rfl rfl rfl ?_
   refine .bin (.no rfl) rfl rfl rfl rfl rfl rfl ?_
   exact .fin () (.of (.cons rfl (.cons rfl (.cons rfl (.cons rfl (.cons rfl (.cons rfl .nil)))))) (.cons rfl .nil))
  intro _
  refine .cond (t := decide ((szDecl d 1048576) < 0)) rfl (fun c1 => ?_) (fun c1 => ?_)
  ·have c1 := of_decide_eq_true c1
   refine .seq ?_
   refine .reg (X := Unit) (fun ζ => .of [(8, .one (.d (.v (.bool (true)))))] []) [⟨[], some 8, [], []⟩] (fun k14 => ?_) ?_
   ·skip
    refine .assign (.no rfl) rfl rfl rfl rfl ?_
    exact .fin () (.of (.cons rfl .nil) .nil)
   intro _
   refine .ret ?_
   show _ ∧ _
   exact ⟨.inr rfl, .done ⟨_, [], [], _, .one rfl .nil, .cons (Reads.d _).gives .nil, nodupB_ok rfl, by simp, (by simp)⟩⟩
  ·have c1 := of_decide_eq_false c1
   have q1 := szDecl_len hv hf ha (by omega) c1
   refine .skip ?_
   refine .seq ?_
   refine .reg (X := Unit) (fun ζ => .of [(1, .one (.d (.sl false 69 3 (List.map Env.c69 (a))))), (2, .one (.d (.sl false 69 3 (List.map Env.c69 (b))))), (3, .one (.d (.sl false 2 1 (List.map i64c (l))))), (4, .one (.ptr [4] (g8) 0)), (9, .one (.d (.v (.int .i64 (szEnvS a (szDecl d 1048576))))))] [([4], (g8, g8, .box [.d (.sl false 9 1 (List.map strc (d.vars))), .d (.sl false 9 1 (List.map strc (d.flags))), .d (.sl false 115 2 (List.map Arr.c (d.arrays)))]))]) [⟨[1], some 28, [], []⟩, ⟨[9], some 29, [], []⟩, ⟨[28, 29], some 30, [], []⟩, ⟨[30], some 9, [], []⟩] (fun k15 => ?_) ?_
   ·skip
    refine .move (.no rfl) rfl rfl rfl rfl ?_
    refine .move (.no rfl) rfl rfl rfl rfl ?_
    refine .call (.no rfl) rfl [] [] (c_szEnvS a (szDecl d 1048576) (by first | assumption | omega | exact ⟨‹_›, ‹_›⟩ | (simp only [Decl.marks, Env.marks, Env.mark, mkAll_len]; omega) | exact EnvS.small_mark s9 | exact EnvS.marked _ _)) rfl rfl rfl rfl rfl (.cons (Reads.d _).gives (.cons (Reads.d _).gives .nil)) rfl rfl (fun h => absurd rfl h) (.own [30, 0] .nil) (.nil) rfl rfl rfl (by simp) rfl rfl rfl ?_
    refine .assign (.no rfl) rfl rfl rfl rfl ?_
    exact .fin () (.of (.cons rfl (.cons rfl (.cons rfl (.cons rfl (.cons rfl .nil))))) (.cons rfl .nil))
   intro _
   refine .seq ?_
   refine .seq ?_
   refine .reg (X := Unit) (fun ζ => .of [(1, .one (.d (.sl false 69 3 (List.map Env.c69 (a))))), (2, .one (.d (.sl false 69 3 (List.map Env.c69 (b))))), (3, .one (.d (.sl false 2 1 (List.map i64c (l))))), (4, .one (.ptr [4] (g8) 0)), (9, .one (.d (.v (.int .i64 (szEnvS a (szDecl d 1048576)))))), (32, .one (.d (.v (.bool (decide ((szEnvS a (szDecl d 1048576)) < 0))))))] [([4], (g8, g8, .box [.d (.sl false 9 1 (List.map strc (d.vars))), .d (.sl false 9 1 (List.map strc (d.flags))), .d (.sl false 115 2 (List.map Arr.c (d.arrays)))]))]) [⟨[9], some 31, [], []⟩, ⟨[31], some 32, [], []⟩] (fun k16 => ?_) ?_
   ·skip
    refine .move (.no rfl) rfl rfl rfl rfl ?_
    refine .bin (.no rfl) rfl rfl rfl rfl rfl rfl ?_
    exact .fin () (.of (.cons rfl (.cons rfl (.cons rfl (.cons rfl (.cons rfl (.cons rfl .nil)))))) (.cons rfl .nil))
   intro _
   refine .cond (t := decide ((szEnvS a (szDecl d 1048576)) < 0)) rfl (fun c2 => ?_) (fun c2 => ?_)
   ·have c2 := of_decide_eq_true c2
    refine .seq ?_
    refine .reg (X := Unit) (fun ζ => .of [(8, .one (.d (.v (.bool (true)))))] []) [⟨[], some 8, [], []⟩] (fun k17 => ?_) ?_
    ·skip
     refine .assign (.no rfl) rfl rfl rfl rfl ?_
     exact .fin () (.of (.cons rfl .nil) .nil)
    intro _
    refine .ret ?_
    show _ ∧ _
    exact ⟨.inr rfl, .done ⟨_, [], [], _, .one rfl .nil, .cons (Reads.d _).gives .nil, nodupB_ok rfl, by simp, (by simp)⟩⟩
   ·have c2 := of_decide_eq_false c2
    have q2 := szEnvS_len (by omega) c2
    have q2a := q2.1
    have q2b := q2.2.1
    refine .skip ?_
    refine .seq ?_
    refine .reg (X := Unit) (fun ζ => .of [(1, .one (.d (.sl false 69 3 (List.map Env.c69 (a))))), (2, .one (.d (.sl false 69 3 (List.map Env.c69 (b))))), (3, .one (.d (.sl false 2 1 (List.map i64c (l))))), (4, .one (.ptr [4] (g8) 0)), (9, .one (.d (.v (.int .i64 (szEnvS b (szEnvS a (szDecl d 1048576)))))))] [([4], (g8, g8, .box [.d (.sl false 9 1 (List.map strc (d.vars))), .d (.sl false 9 1 (List.map strc (d.flags))), .d (.sl false 115 2 (List.map Arr.c (d.arrays)))]))]) [⟨[2], some 33, [], []⟩, ⟨[9], some 34, [], []⟩, ⟨[33, 34], some 35, [], []⟩, ⟨[35], some 9, [], []⟩] (fun k18 => ?_) ?_
    ·skip
     refine .move (.no rfl) rfl rfl rfl rfl ?_
     refine .move (.no rfl) rfl rfl rfl rfl ?_
     refine .call (.no rfl) rfl [] [] (c_szEnvS b (szEnvS a (szDecl d 1048576)) (by first | assumption | omega | exact ⟨‹_›, ‹_›⟩ | (simp only [Decl.marks, Env.marks, Env.mark, mkAll_len]; omega) | exact EnvS.small_mark s9 | exact EnvS.marked _ _)) rfl rfl rfl rfl rfl (.cons (Reads.d _).gives (.cons (Reads.d _).gives .nil)) rfl rfl (fun h => absurd rfl h) (.own [35, 0] .nil) (.nil) rfl rfl rfl (by simp) rfl rfl rfl ?_
     refine .assign (.no rfl) rfl rfl rfl rfl ?_
     exact .fin () (.of (.cons rfl (.cons rfl (.cons rfl (.cons rfl (.cons rfl .nil))))) (.cons rfl .nil))
    intro _
    refine .seq ?_
    refine .seq ?_
    refine .reg (X := Unit) (fun ζ => .of [(1, .one (.d (.sl false 69 3 (List.map Env.c69 (a))))), (2, .one (.d (.sl false 69 3 (List.map Env.c69 (b))))), (3, .one (.d (.sl false 2 1 (List.map i64c (l))))), (4, .one (.ptr [4] (g8) 0)), (37, .one (.d (.v (.bool (decide ((szEnvS b (szEnvS a (szDecl d 1048576))) < 0))))))] [([4], (g8, g8, .box [.d (.sl false 9 1 (List.map strc (d.vars))), .d (.sl false 9 1 (List.map strc (d.flags))), .d (.sl false 115 2 (List.map Arr.c (d.arrays)))]))]) [⟨[9], some 36, [], []⟩, ⟨[36], some 37, [], []⟩] (fun k19 => ?_) ?_
    ·skip
     refine .move (.no rfl) rfl rfl rfl rfl ?_
     refine .bin (.no rfl) rfl rfl rfl rfl rfl rfl ?_
     exact .fin () (.of (.cons rfl (.cons rfl (.cons rfl (.cons rfl (.cons rfl .nil))))) (.cons rfl .nil))
    intro _
    refine .cond (t := decide ((szEnvS b (szEnvS a (szDecl d 1048576))) < 0)) rfl (fun c3 => ?_) (fun c3 => ?_)
    ·have c3 := of_decide_eq_true c3
     refine .seq ?_
     refine .reg (X := Unit) (fun ζ => .of [(8, .one (.d (.v (.bool (true)))))] []) [⟨[], some 8, [], []⟩] (fun k20 => ?_) ?_
     ·skip
      refine .assign (.no rfl) rfl rfl rfl rfl ?_
      exact .fin () (.of (.cons rfl .nil) .nil)
     intro _
     refine .ret ?_
     show _ ∧ _
     exact ⟨.inr rfl, .done ⟨_, [], [], _, .one rfl .nil, .cons (Reads.d _).gives .nil, nodupB_ok rfl, by simp, (by simp)⟩⟩
    ·have c3 := of_decide_eq_false c3
     have q3 := szEnvS_len (by omega) c3
     have q3a := q3.1
     have q3b := q3.2.1
     have s1 : Small 1048576 a := ⟨q2.1, q2.2.1⟩
     have s2 : Small 1048576 b := ⟨q3.1, q3.2.1⟩
     have s9 := twiden_small (d := d) (l := l) s1 s2
     have kd : 0 ≤ Decl.marks 1 d ∧ Decl.marks 1 d ≤ 1073741824 := (by simp only [Decl.marks]; omega)
     have m1 := EnvS.marks_bnd (k := Decl.marks 1 d) s1 (by omega)
     have m2 := EnvS.marks_bnd (k := EnvS.marks (Decl.marks 1 d) a) s2 (by omega)
     have m9 := EnvS.marks_bnd (k := 1) s9 (by omega)
     refine .skip ?_
     refine .seq ?_
     refine .reg (X := Unit) (fun ζ => .of [(1, .one (.d (.sl false 69 3 (List.map Env.c69 (a))))), (2, .one (.d (.sl false 69 3 (List.map Env.c69 (b))))), (3, .one (.d (.sl false 2 1 (List.map i64c (l))))), (4, .one (.ptr [4] (g8) 0)), (10, .one (.d (.sl false 77 3 (List.map Env.c77 (Table.widenIn d a b l)))))] [([4], (g8, g8, .box [.d (.sl false 9 1 (List.map strc (d.vars))), .d (.sl false 9 1 (List.map strc (d.flags))), .d (.sl false 115 2 (List.map Arr.c (d.arrays)))]))]) [⟨[4], some 38, [[4]], []⟩, ⟨[38], some 39, [], [[39, 0], [39, 1], [39, 2]]⟩, ⟨[1], some 40, [], []⟩, ⟨[40], some 41, [], [[41, 0]]⟩, ⟨[2], some 42, [], []⟩, ⟨[42], some 43, [], [[43, 0]]⟩, ⟨[3], some 44, [], []⟩, ⟨[44], some 45, [], [[45, 0]]⟩, ⟨[39, 41, 43, 45], some 46, [[39, 0], [39, 1], [39, 2], [41, 0], [43, 0], [45, 0]], []⟩, ⟨[46], some 10, [], []⟩] (fun k21 => ?_) ?_
     ·skip
      refine .load (.no rfl) rfl t25 rfl rfl (.ptr _ _ _ _ _ rfl) rfl rfl rfl rfl ?_
      refine .call (.no rfl) rfl [] [] (c_toDecl d (by first | assumption | omega | exact ⟨‹_›, ‹_›⟩ | (simp only [Decl.marks, Env.marks, Env.mark, mkAll_len]; omega) | exact EnvS.small_mark s9 | exact EnvS.marked _ _)) rfl rfl rfl rfl rfl (.cons (Reads.d _).gives (.cons (Reads.d _).gives (.cons (Reads.d _).gives .nil))) rfl rfl (fun h => absurd rfl h) (.own [39, 0] (.own [39, 1] (.own [39, 2] .nil))) (.nil) rfl rfl rfl (by simp) rfl rfl rfl ?_
      refine .move (.no rfl) rfl rfl rfl rfl ?_
      refine .call (.no rfl) rfl [] [] (c_toEnvS a (by first | assumption | omega | exact ⟨‹_›, ‹_›⟩ | (simp only [Decl.marks, Env.marks, Env.mark, mkAll_len]; omega) | exact EnvS.small_mark s9 | exact EnvS.marked _ _) (by first | assumption | omega | exact ⟨‹_›, ‹_›⟩ | (simp only [Decl.marks, Env.marks, Env.mark, mkAll_len]; omega) | exact EnvS.small_mark s9 | exact EnvS.marked _ _)) rfl rfl rfl rfl rfl (.cons (Reads.d _).gives .nil) rfl rfl (fun h => absurd rfl h) (.own [41, 0] .nil) (.nil) rfl rfl rfl (by simp) rfl rfl rfl ?_
      refine .move (.no rfl) rfl rfl rfl rfl ?_
      refine .call (.no rfl) rfl [] [] (c_toEnvS b (by first | assumption | omega | exact ⟨‹_›, ‹_›⟩ | (simp only [Decl.marks, Env.marks, Env.mark, mkAll_len]; omega) | exact EnvS.small_mark s9 | exact EnvS.marked _ _) (by first | assumption | omega | exact ⟨‹_›, ‹_›⟩ | (simp only [Decl.marks, Env.marks, Env.mark, mkAll_len]; omega) | exact EnvS.small_mark s9 | exact EnvS.marked _ _)) rfl rfl rfl rfl rfl (.cons (Reads.d _).gives .nil) rfl rfl (fun h => absurd rfl h) (.own [43, 0] .nil) (.nil) rfl rfl rfl (by simp) rfl rfl rfl ?_
      refine .move (.no rfl) rfl rfl rfl rfl ?_
      refine .call (.no rfl) rfl [] [] (c_toInt64S l (by first | assumption | omega | exact ⟨‹_›, ‹_›⟩ | (simp only [Decl.marks, Env.marks, Env.mark, mkAll_len]; omega) | exact EnvS.small_mark s9 | exact EnvS.marked _ _)) rfl rfl rfl rfl rfl (.cons (Reads.d _).gives .nil) rfl rfl (fun h => absurd rfl h) (.own [45, 0] .nil) (.nil) rfl rfl rfl (by simp) rfl rfl rfl ?_
      refine .call (.no rfl) rfl [[39, 0], [39, 1], [39, 2], [41, 0], [43, 0], [45, 0]] [([39, 0], (k21 + 1, k21 + 1, .row 9 1 (List.map strc (d.vars)))), ([39, 1], (k21 + 1, k21 + 1, .row 9 1 (List.map strc (d.flags)))), ([39, 2], (k21 + 1, k21 + 1, .row 119 2 (List.map Arr.c (d.arrays)))), ([41, 0], (k21 + 1 + 1 + 1, k21 + 1 + 1 + 1, .row 77 3 (List.map Env.co77 (a)))), ([43, 0], (k21 + 1 + 1 + 1 + 1 + 1, k21 + 1 + 1 + 1 + 1 + 1, .row 77 3 (List.map Env.co77 (b)))), ([45, 0], (k21 + 1 + 1 + 1 + 1 + 1 + 1 + 1, k21 + 1 + 1 + 1 + 1 + 1 + 1 + 1, .row 2 1 (List.map i64c (l))))] (c_sTableWiden d a b l (by first | assumption | omega | exact ⟨‹_›, ‹_›⟩ | (simp only [Decl.marks, Env.marks, Env.mark, mkAll_len]; omega) | exact EnvS.small_mark s9 | exact EnvS.marked _ _) (by first | assumption | omega | exact ⟨‹_›, ‹_›⟩ | (simp only [Decl.marks, Env.marks, Env.mark, mkAll_len]; omega) | exact EnvS.small_mark s9 | exact EnvS.marked _ _) (by first | assumption | omega | exact ⟨‹_›, ‹_›⟩ | (simp only [Decl.marks, Env.marks, Env.mark, mkAll_len]; omega) | exact EnvS.small_mark s9 | exact EnvS.marked _ _) (by first | assumption | omega | exact ⟨‹_›, ‹_›⟩ | (simp only [Decl.marks, Env.marks, Env.mark, mkAll_len]; omega) | exact EnvS.small_mark s9 | exact EnvS.marked _ _)) rfl rfl rfl rfl rfl (.cons (Reads.ref (Frz.of_erase (erase_slo _ _ _ _ _ _ strc_e)) (.head _) (.head _)).gives (.cons (Reads.ref (Frz.of_erase (erase_slo _ _ _ _ _ _ strc_e)) (.tail _ (.head _)) (.tail _ (.head _))).gives (.cons (Reads.ref (Frz.of_erase (erase_slo _ _ _ _ _ _ Arr.c_e)) (.tail _ (.tail _ (.head _))) (.tail _ (.tail _ (.head _)))).gives (.cons (Reads.ref (Frz.of_erase (erase_slo _ _ _ _ _ _ Env.co77_e)) (.tail _ (.tail _ (.tail _ (.head _)))) (.tail _ (.tail _ (.tail _ (.head _))))).gives (.cons (Reads.ref (Frz.of_erase (erase_slo _ _ _ _ _ _ Env.co77_e)) (.tail _ (.tail _ (.tail _ (.tail _ (.head _))))) (.tail _ (.tail _ (.tail _ (.tail _ (.head _)))))).gives (.cons (Reads.ref (Frz.of_erase (erase_slo _ _ _ _ _ _ i64c_e)) (.tail _ (.tail _ (.tail _ (.tail _ (.tail _ (.head _)))))) (.tail _ (.tail _ (.tail _ (.tail _ (.tail _ (.head _))))))).gives .nil)))))) rfl rfl (fun _ => (ownCons (Owned.map _ _ _ _ Env.co77_o) ownNil)) (.frz [46, 0] (Frz.of_erase (erase_slo _ _ _ _ _ _ Env.co77_e)) .nil) (.nil) rfl rfl rfl (AllH.get (.cons rfl (.cons rfl (.cons rfl (.cons rfl (.cons rfl (.cons rfl .nil))))))) rfl rfl rfl ?_
      refine .assign (.no rfl) rfl rfl rfl rfl ?_
      exact .fin () (.of (.cons rfl (.cons rfl (.cons rfl (.cons rfl (.cons rfl .nil))))) (.cons rfl .nil))
     intro _
     refine .seq ?_
     refine .reg (X := Nat × Nat × Nat) (fun ζ => .of [(1, .one (.d (.sl false 69 3 (List.map Env.c69 (a))))), (2, .one (.d (.sl false 69 3 (List.map Env.c69 (b))))), (3, .one (.d (.sl false 2 1 (List.map i64c (l))))), (4, .one (.ptr [4] (g8) 0)), (10, .one (.d (.sl false 77 3 (List.map Env.c77 (Table.widenIn d a b l))))), (11, .one (.ptr [11] (ζ.1) 0))] [([4], (g8, g8, .box [.d (.sl false 9 1 (List.map strc (d.vars))), .d (.sl false 9 1 (List.map strc (d.flags))), .d (.sl false 115 2 (List.map Arr.c (d.arrays)))])), ([11], (ζ.1, ζ.2.1, .box [.ref [48, 0] (ζ.2.2), .ref [48, 1] (ζ.2.2), .ref [48, 2] (ζ.2.2)])), ([48, 0], (ζ.2.2, ζ.2.2, .row 9 1 (List.map strc (d.vars)))), ([48, 1], (ζ.2.2, ζ.2.2, .row 9 1 (List.map strc (d.flags)))), ([48, 2], (ζ.2.2, ζ.2.2, .row 119 2 (List.map Arr.c (d.arrays))))]) [⟨[4], some 47, [[4]], []⟩, ⟨[47], some 48, [], [[48, 0], [48, 1], [48, 2]]⟩, ⟨[], some 11, [], [[11]]⟩, ⟨[11, 48], none, [[11]], [[11]]⟩] (fun k22 => ?_) ?_
     ·skip
      refine .load (.no rfl) rfl t25 rfl rfl (.ptr _ _ _ _ _ rfl) rfl rfl rfl rfl ?_
      refine .call (.no rfl) rfl [] [] (c_toDecl d (by first | assumption | omega | exact ⟨‹_›, ‹_›⟩ | (simp only [Decl.marks, Env.marks, Env.mark, mkAll_len]; omega) | exact EnvS.small_mark s9 | exact EnvS.marked _ _)) rfl rfl rfl rfl rfl (.cons (Reads.d _).gives (.cons (Reads.d _).gives (.cons (Reads.d _).gives .nil))) rfl rfl (fun h => absurd rfl h) (.own [48, 0] (.own [48, 1] (.own [48, 2] .nil))) (.nil) rfl rfl rfl (by simp) rfl rfl rfl ?_
      refine .alloc (.no rfl) rfl z38 rfl rfl rfl ?_
      refine .store (.no rfl) rfl t38 rfl rfl rfl rfl rfl rfl rfl rfl rfl ?_
      exact .fin (k22 + 1 + 1, k22 + 1 + 1 + 1, k22 + 1) (.of (.cons rfl (.cons rfl (.cons rfl (.cons rfl (.cons rfl (.cons rfl .nil)))))) (.cons rfl (.cons rfl (.cons rfl (.cons rfl (.cons rfl .nil))))))
     rintro ⟨g23, g24, g25⟩
     refine .seq ?_
     refine .reg (X := Nat) (fun ζ => .of [(1, .one (.d (.sl false 69 3 (List.map Env.c69 (a))))), (2, .one (.d (.sl false 69 3 (List.map Env.c69 (b))))), (3, .one (.d (.sl false 2 1 (List.map i64c (l))))), (4, .one (.ptr [4] (g8) 0)), (10, .one (.d (.sl false 77 3 (List.map Env.c77 (Table.widenIn d a b l))))), (11, .one (.ptr [11] (g23) 0)), (12, .one (.ref [50, 0] (ζ)))] [([4], (g8, g8, .box [.d (.sl false 9 1 (List.map strc (d.vars))), .d (.sl false 9 1 (List.map strc (d.flags))), .d (.sl false 115 2 (List.map Arr.c (d.arrays)))])), ([11], (g23, g24, .box [.ref [48, 0] (g25), .ref [48, 1] (g25), .ref [48, 2] (g25)])), ([48, 0], (g25, g25, .row 9 1 (List.map strc (d.vars)))), ([48, 1], (g25, g25, .row 9 1 (List.map strc (d.flags)))), ([48, 2], (g25, g25, .row 119 2 (List.map Arr.c (d.arrays)))), ([50, 0], (ζ, ζ, .row 77 3 (List.map Env.co77 (a))))]) [⟨[1], some 49, [], []⟩, ⟨[49], some 50, [], [[50, 0]]⟩, ⟨[50], some 12, [], []⟩] (fun k26 => ?_) ?_
     ·skip
      refine .move (.no rfl) rfl rfl rfl rfl ?_
      refine .call (.no rfl) rfl [] [] (c_toEnvS a (by first | assumption | omega | exact ⟨‹_›, ‹_›⟩ | (simp only [Decl.marks, Env.marks, Env.mark, mkAll_len]; omega) | exact EnvS.small_mark s9 | exact EnvS.marked _ _) (by first | assumption | omega | exact ⟨‹_›, ‹_›⟩ | (simp only [Decl.marks, Env.marks, Env.mark, mkAll_len]; omega) | exact EnvS.small_mark s9 | exact EnvS.marked _ _)) rfl rfl rfl rfl rfl (.cons (Reads.d _).gives .nil) rfl rfl (fun h => absurd rfl h) (.own [50, 0] .nil) (.nil) rfl rfl rfl (by simp) rfl rfl rfl ?_
      refine .assign (.no rfl) rfl rfl rfl rfl ?_
      exact .fin (k26 + 1) (.of (.cons rfl (.cons rfl (.cons rfl (.cons rfl (.cons rfl (.cons rfl (.cons rfl .nil))))))) (.cons rfl (.cons rfl (.cons rfl (.cons rfl (.cons rfl (.cons rfl .nil)))))))
     intro g27
     refine .seq ?_
     refine .reg (X := Nat) (fun ζ => .of [(1, .one (.d (.sl false 69 3 (List.map Env.c69 (a))))), (2, .one (.d (.sl false 69 3 (List.map Env.c69 (b))))), (3, .one (.d (.sl false 2 1 (List.map i64c (l))))), (4, .one (.ptr [4] (g8) 0)), (10, .one (.d (.sl false 77 3 (List.map Env.c77 (Table.widenIn d a b l))))), (11, .one (.ptr [11] (g23) 0)), (12, .one (.ref [50, 0] (g27))), (13, .one (.ref [52, 0] (ζ)))] [([4], (g8, g8, .box [.d (.sl false 9 1 (List.map strc (d.vars))), .d (.sl false 9 1 (List.map strc (d.flags))), .d (.sl false 115 2 (List.map Arr.c (d.arrays)))])), ([11], (g23, g24, .box [.ref [48, 0] (g25), .ref [48, 1] (g25), .ref [48, 2] (g25)])), ([48, 0], (g25, g25, .row 9 1 (List.map strc (d.vars)))), ([48, 1], (g25, g25, .row 9 1 (List.map strc (d.flags)))), ([48, 2], (g25, g25, .row 119 2 (List.map Arr.c (d.arrays)))), ([50, 0], (g27, g27, .row 77 3 (List.map Env.co77 (a)))), ([52, 0], (ζ, ζ, .row 77 3 (List.map Env.co77 (b))))]) [⟨[2], some 51, [], []⟩, ⟨[51], some 52, [], [[52, 0]]⟩, ⟨[52], some 13, [], []⟩] (fun k28 => ?_) ?_
     ·skip
      refine .move (.no rfl) rfl rfl rfl rfl ?_
      refine .call (.no rfl) rfl [] [] (c_toEnvS b (by first | assumption | omega | exact ⟨‹_›, ‹_›⟩ | (simp only [Decl.marks, Env.marks, Env.mark, mkAll_len]; omega) | exact EnvS.small_mark s9 | exact EnvS.marked _ _) (by first | assumption | omega | exact ⟨‹_›, ‹_›⟩ | (simp only [Decl.marks, Env.marks, Env.mark, mkAll_len]; omega) | exact EnvS.small_mark s9 | exact EnvS.marked _ _)) rfl rfl rfl rfl rfl (.cons (Reads.d _).gives .nil) rfl rfl (fun h => absurd rfl h) (.own [52, 0] .nil) (.nil) rfl rfl rfl (by simp) rfl rfl rfl ?_
      refine .assign (.no rfl) rfl rfl rfl rfl ?_
      exact .fin (k28 + 1) (.of (.cons rfl (.cons rfl (.cons rfl (.cons rfl (.cons rfl (.cons rfl (.cons rfl (.cons rfl .nil)))))))) (.cons rfl (.cons rfl (.cons rfl (.cons rfl (.cons rfl (.cons rfl (.cons rfl .nil))))))))
     intro g29
     refine .seq ?_
     refine .reg (X := Nat) (fun ζ => .of [(1, .one (.d (.sl false 69 3 (List.map Env.c69 (a))))), (2, .one (.d (.sl false 69 3 (List.map Env.c69 (b))))), (3, .one (.d (.sl false 2 1 (List.map i64c (l))))), (4, .one (.ptr [4] (g8) 0)), (10, .one (.d (.sl false 77 3 (List.map Env.c77 (Table.widenIn d a b l))))), (11, .one (.ptr [11] (g23) 0)), (12, .one (.ref [50, 0] (g27))), (13, .one (.ref [52, 0] (g29))), (14, .one (.ref [54, 0] (ζ)))] [([4], (g8, g8, .box [.d (.sl false 9 1 (List.map strc (d.vars))), .d (.sl false 9 1 (List.map strc (d.flags))), .d (.sl false 115 2 (List.map Arr.c (d.arrays)))])), ([11], (g23, g24, .box [.ref [48, 0] (g25), .ref [48, 1] (g25), .ref [48, 2] (g25)])), ([48, 0], (g25, g25, .row 9 1 (List.map strc (d.vars)))), ([48, 1], (g25, g25, .row 9 1 (List.map strc (d.flags)))), ([48, 2], (g25, g25, .row 119 2 (List.map Arr.c (d.arrays)))), ([50, 0], (g27, g27, .row 77 3 (List.map Env.co77 (a)))), ([52, 0], (g29, g29, .row 77 3 (List.map Env.co77 (b)))), ([54, 0], (ζ, ζ, .row 2 1 (List.map i64c (l))))]) [⟨[3], some 53, [], []⟩, ⟨[53], some 54, [], [[54, 0]]⟩, ⟨[54], some 14, [], []⟩] (fun k30 => ?_) ?_
     ·skip
      refine .move (.no rfl) rfl rfl rfl rfl ?_
      refine .call (.no rfl) rfl [] [] (c_toInt64S l (by first | assumption | omega | exact ⟨‹_›, ‹_›⟩ | (simp only [Decl.marks, Env.marks, Env.mark, mkAll_len]; omega) | exact EnvS.small_mark s9 | exact EnvS.marked _ _)) rfl rfl rfl rfl rfl (.cons (Reads.d _).gives .nil) rfl rfl (fun h => absurd rfl h) (.own [54, 0] .nil) (.nil) rfl rfl rfl (by simp) rfl rfl rfl ?_
      refine .assign (.no rfl) rfl rfl rfl rfl ?_
      exact .fin (k30 + 1) (.of (.cons rfl (.cons rfl (.cons rfl (.cons rfl (.cons rfl (.cons rfl (.cons rfl (.cons rfl (.cons rfl .nil))))))))) (.cons rfl (.cons rfl (.cons rfl (.cons rfl (.cons rfl (.cons rfl (.cons rfl (.cons rfl .nil)))))))))
     intro g31
     refine .seq ?_
     refine .reg (X := Nat) (fun ζ => .of [(1, .one (.d (.sl false 69 3 (List.map Env.c69 (a))))), (2, .one (.d (.sl false 69 3 (List.map Env.c69 (b))))), (3, .one (.d (.sl false 2 1 (List.map i64c (l))))), (4, .one (.ptr [4] (g8) 0)), (10, .one (.d (.sl false 77 3 (List.map Env.c77 (Table.widenIn d a b l))))), (11, .one (.ptr [11] (g23) 0)), (12, .one (.ref [50, 0] (g27))), (13, .one (.ref [52, 0] (g29))), (14, .one (.ref [54, 0] (g31))), (15, .one (.ref [59, 0] (ζ)))] [([4], (g8, g8, .box [.d (.sl false 9 1 (List.map strc (d.vars))), .d (.sl false 9 1 (List.map strc (d.flags))), .d (.sl false 115 2 (List.map Arr.c (d.arrays)))])), ([11], (g23, g24, .box [.ref [48, 0] (g25), .ref [48, 1] (g25), .ref [48, 2] (g25)])), ([48, 0], (g25, g25, .row 9 1 (List.map strc (d.vars)))), ([48, 1], (g25, g25, .row 9 1 (List.map strc (d.flags)))), ([48, 2], (g25, g25, .row 119 2 (List.map Arr.c (d.arrays)))), ([50, 0], (g27, g27, .row 77 3 (List.map Env.co77 (a)))), ([52, 0], (g29, g29, .row 77 3 (List.map Env.co77 (b)))), ([54, 0], (g31, g31, .row 2 1 (List.map i64c (l)))), ([59, 0], (ζ, ζ, .row 77 3 (List.map Env.co77 (Table.widenIn d a b l))))]) [⟨[11], some 55, [[11]], []⟩, ⟨[12], some 56, [], []⟩, ⟨[13], some 57, [], []⟩, ⟨[14], some 58, [], []⟩, ⟨[55, 56, 57, 58], some 59, [[48, 0], [48, 1], [48, 2], [50, 0], [52, 0], [54, 0]], [[59, 0]]⟩, ⟨[59], some 15, [], []⟩] (fun k32 => ?_) ?_
     ·skip
      refine .load (.no rfl) rfl t38 rfl rfl (.ptr _ _ _ _ _ rfl) rfl rfl rfl rfl ?_
      refine .move (.no rfl) rfl rfl rfl rfl ?_
      refine .move (.no rfl) rfl rfl rfl rfl ?_
      refine .move (.no rfl) rfl rfl rfl rfl ?_
      refine .call (.no rfl) rfl [[48, 0], [48, 1], [48, 2], [50, 0], [52, 0], [54, 0]] [([48, 0], (g25, g25, .row 9 1 (List.map strc (d.vars)))), ([48, 1], (g25, g25, .row 9 1 (List.map strc (d.flags)))), ([48, 2], (g25, g25, .row 119 2 (List.map Arr.c (d.arrays)))), ([50, 0], (g27, g27, .row 77 3 (List.map Env.co77 (a)))), ([52, 0], (g29, g29, .row 77 3 (List.map Env.co77 (b)))), ([54, 0], (g31, g31, .row 2 1 (List.map i64c (l))))] (c_TableWiden d a b l (by first | assumption | omega | exact ⟨‹_›, ‹_›⟩ | (simp only [Decl.marks, Env.marks, Env.mark, mkAll_len]; omega) | exact EnvS.small_mark s9 | exact EnvS.marked _ _) (by first | assumption | omega | exact ⟨‹_›, ‹_›⟩ | (simp only [Decl.marks, Env.marks, Env.mark, mkAll_len]; omega) | exact EnvS.small_mark s9 | exact EnvS.marked _ _) (by first | assumption | omega | exact ⟨‹_›, ‹_›⟩ | (simp only [Decl.marks, Env.marks, Env.mark, mkAll_len]; omega) | exact EnvS.small_mark s9 | exact EnvS.marked _ _) (by first | assumption | omega | exact ⟨‹_›, ‹_›⟩ | (simp only [Decl.marks, Env.marks, Env.mark, mkAll_len]; omega) | exact EnvS.small_mark s9 | exact EnvS.marked _ _)) rfl rfl rfl rfl rfl (.cons (Reads.ref (Frz.of_erase (erase_slo _ _ _ _ _ _ strc_e)) (.head _) (.head _)).gives (.cons (Reads.ref (Frz.of_erase (erase_slo _ _ _ _ _ _ strc_e)) (.tail _ (.head _)) (.tail _ (.head _))).gives (.cons (Reads.ref (Frz.of_erase (erase_slo _ _ _ _ _ _ Arr.c_e)) (.tail _ (.tail _ (.head _))) (.tail _ (.tail _ (.head _)))).gives (.cons (Reads.ref (Frz.of_erase (erase_slo _ _ _ _ _ _ Env.co77_e)) (.tail _ (.tail _ (.tail _ (.head _)))) (.tail _ (.tail _ (.tail _ (.head _))))).gives (.cons (Reads.ref (Frz.of_erase (erase_slo _ _ _ _ _ _ Env.co77_e)) (.tail _ (.tail _ (.tail _ (.tail _ (.head _))))) (.tail _ (.tail _ (.tail _ (.tail _ (.head _)))))).gives (.cons (Reads.ref (Frz.of_erase (erase_slo _ _ _ _ _ _ i64c_e)) (.tail _ (.tail _ (.tail _ (.tail _ (.tail _ (.head _)))))) (.tail _ (.tail _ (.tail _ (.tail _ (.tail _ (.head _))))))).gives .nil)))))) rfl rfl (fun _ => (ownCons (Owned.map _ _ _ _ Env.co77_o) ownNil)) (.own [59, 0] .nil) (.nil) rfl rfl rfl (AllH.get (.cons rfl (.cons rfl (.cons rfl (.cons rfl (.cons rfl (.cons rfl .nil))))))) rfl rfl rfl ?_
      refine .assign (.no rfl) rfl rfl rfl rfl ?_
      exact .fin (k32 + 1 + 1 + 1 + 1) (.of (.cons rfl (.cons rfl (.cons rfl (.cons rfl (.cons rfl (.cons rfl (.cons rfl (.cons rfl (.cons rfl (.cons rfl .nil)))))))))) (.cons rfl (.cons rfl (.cons rfl (.cons rfl (.cons rfl (.cons rfl (.cons rfl (.cons rfl (.cons rfl .nil))))))))))
     intro g33
     refine .seq ?_
     refine .seq ?_
     refine .reg (X := Unit) (fun ζ => .of [(1, .one (.d (.sl false 69 3 (List.map Env.c69 (a))))), (2, .one (.d (.sl false 69 3 (List.map Env.c69 (b))))), (3, .one (.d (.sl false 2 1 (List.map i64c (l))))), (4, .one (.ptr [4] (g8) 0)), (10, .one (.d (.sl false 77 3 (List.map Env.c77 (Table.widenIn d a b l))))), (11, .one (.ptr [11] (g23) 0)), (12, .one (.ref [50, 0] (g27))), (13, .one (.ref [52, 0] (g29))), (14, .one (.ref [54, 0] (g31))), (15, .one (.ref [59, 0] (g33))), (63, .one (.d (.v (.bool (!(all2 Env.same (Table.widenIn d a b l) (Table.widenIn d a b l)))))))] [([4], (g8, g8, .box [.d (.sl false 9 1 (List.map strc (d.vars))), .d (.sl false 9 1 (List.map strc (d.flags))), .d (.sl false 115 2 (List.map Arr.c (d.arrays)))])), ([11], (g23, g24, .box [.ref [48, 0] (g25), .ref [48, 1] (g25), .ref [48, 2] (g25)])), ([48, 0], (g25, g25, .row 9 1 (List.map strc (d.vars)))), ([48, 1], (g25, g25, .row 9 1 (List.map strc (d.flags)))), ([48, 2], (g25, g25, .row 119 2 (List.map Arr.c (d.arrays)))), ([50, 0], (g27, g27, .row 77 3 (List.map Env.co77 (a)))), ([52, 0], (g29, g29, .row 77 3 (List.map Env.co77 (b)))), ([54, 0], (g31, g31, .row 2 1 (List.map i64c (l)))), ([59, 0], (g33, g33, .row 77 3 (List.map Env.co77 (Table.widenIn d a b l))))]) [⟨[15], some 60, [], []⟩, ⟨[10], some 61, [], []⟩, ⟨[60, 61], some 62, [[59, 0]], []⟩, ⟨[62], some 63, [], []⟩] (fun k34 => ?_) ?_
     ·skip
      refine .move (.no rfl) rfl rfl rfl rfl ?_
      refine .move (.no rfl) rfl rfl rfl rfl ?_
      refine .call (.no rfl) rfl [[59, 0]] [([59, 0], (g33, g33, .row 77 3 (List.map Env.co77 (Table.widenIn d a b l))))] (c_eqEnvS (Table.widenIn d a b l) (Table.widenIn d a b l)) rfl rfl rfl rfl rfl (.cons (Reads.ref (Frz.of_erase (erase_slo _ _ _ _ _ _ Env.co77_e)) (.head _) (.head _)).gives (.cons (Reads.d _).gives .nil)) rfl rfl (fun _ => (ownCons (Owned.v _) ownNil)) (.own [62, 0] .nil) (.nil) rfl rfl rfl (AllH.get (.cons rfl .nil)) rfl rfl rfl ?_
      refine .un (.no rfl) rfl rfl rfl rfl rfl ?_
      exact .fin () (.of (.cons rfl (.cons rfl (.cons rfl (.cons rfl (.cons rfl (.cons rfl (.cons rfl (.cons rfl (.cons rfl (.cons rfl (.cons rfl .nil))))))))))) (.cons rfl (.cons rfl (.cons rfl (.cons rfl (.cons rfl (.cons rfl (.cons rfl (.cons rfl (.cons rfl .nil))))))))))
     intro _
     refine .cond (t := !(all2 Env.same (Table.widenIn d a b l) (Table.widenIn d a b l))) rfl (fun c4 => ?_) (fun c4 => ?_)
     ·have c4 := c4
      try simp only [Bool.or_eq_true, Bool.or_eq_false_iff, Bool.and_eq_true, Bool.and_eq_false_iff, decide_eq_true_eq, decide_eq_false_iff_not, Bool.not_eq_true', Bool.not_eq_false', bne_iff_ne, beq_iff_eq, bne_eq_false_iff_eq, beq_eq_false_iff_ne, ne_eq, Bool.not_eq_eq_eq_not, Bool.not_true, Bool.not_false] at c4
      refine .seq ?_
      refine .reg (X := Unit) (fun ζ => .of [(8, .one (.d (.v (.bool (false)))))] []) [⟨[], some 8, [], []⟩] (fun k35 => ?_) ?_
      ·skip
       refine .assign (.no rfl) rfl rfl rfl rfl ?_
       exact .fin () (.of (.cons rfl .nil) .nil)
      intro _
      refine .ret ?_
      have e36 : (false) = (true) := by first | exact absurd c4 (by rw [Env.same_self]; decide) | exact absurd c4 (by rw [all2_self intEq_self]; decide) | exact absurd c4 (by rw [Decl.same_self]; decide) | exact absurd c4 (by rw [all2_self Env.same_self]; decide) | exact absurd (EnvS.marks_mark _ _) c4 | (rcases c4 with h9 | h9 <;> first | exact (h9 trivial).elim | exact absurd rfl h9 | exact absurd h9 (by rw [all2_self Env.same_self]; decide) | (simp only [Decl.marks, Env.marks] at h9; omega) | omega) | omega | (rw [EnvS.marks_mark] at c4; omega)
      have hc37 := eq1 (fun z1 => SV.one (.d (.v (.bool (z1))))) e36
      show _ ∧ _
      exact ⟨.inr rfl, .done ⟨_, [], [], _, .one (c := .d (.v (.bool (true)))) (hc37) .nil, .cons (Reads.d _).gives .nil, nodupB_ok rfl, by simp, (by simp)⟩⟩
     ·have c4 := c4
      try simp only [Bool.or_eq_true, Bool.or_eq_false_iff, Bool.and_eq_true, Bool.and_eq_false_iff, decide_eq_true_eq, decide_eq_false_iff_not, Bool.not_eq_true', Bool.not_eq_false', bne_iff_ne, beq_iff_eq, bne_eq_false_iff_eq, beq_eq_false_iff_ne, ne_eq, Bool.not_eq_eq_eq_not, Bool.not_true, Bool.not_false] at c4
      refine .skip ?_
      refine .seq ?_
      refine .seq ?_
      refine .regD (X := Unit) (by kernel_rfl) (fun ζ => .of [(1, .one (.d (.sl false 69 3 (List.map Env.c69 (a))))), (2, .one (.d (.sl false 69 3 (List.map Env.c69 (b))))), (3, .one (.d (.sl false 2 1 (List.map i64c (l))))), (4, .one (.ptr [4] (g8) 0)), (10, .one (.d (.sl false 77 3 (List.map Env.c77 (Table.widenIn d a b l))))), (11, .one (.ptr [11] (g23) 0)), (12, .one (.ref [50, 0] (g27))), (13, .one (.ref [52, 0] (g29))), (14, .one (.ref [54, 0] (g31))), (15, .one (.ref [59, 0] (g33))), (68, .one (.d (.v (.bool (!(Decl.same d d))))))] [([4], (g8, g8, .box [.d (.sl false 9 1 (List.map strc (d.vars))), .d (.sl false 9 1 (List.map strc (d.flags))), .d (.sl false 115 2 (List.map Arr.c (d.arrays)))])), ([11], (g23, g24, .box [.ref [48, 0] (g25), .ref [48, 1] (g25), .ref [48, 2] (g25)])), ([48, 0], (g25, g25, .row 9 1 (List.map strc (d.vars)))), ([48, 1], (g25, g25, .row 9 1 (List.map strc (d.flags)))), ([48, 2], (g25, g25, .row 119 2 (List.map Arr.c (d.arrays)))), ([50, 0], (g27, g27, .row 77 3 (List.map Env.co77 (a)))), ([52, 0], (g29, g29, .row 77 3 (List.map Env.co77 (b)))), ([54, 0], (g31, g31, .row 2 1 (List.map i64c (l)))), ([59, 0], (g33, g33, .row 77 3 (List.map Env.co77 (Table.widenIn d a b l))))]) [⟨[11], some 64, [[11]], []⟩, ⟨[4], some 65, [[4]], []⟩, ⟨[65], some 66, [], [[66, 0], [66, 1], [66, 2]]⟩, ⟨[64, 66], some 67, [[48, 0], [48, 1], [48, 2], [66, 0], [66, 1], [66, 2]], []⟩, ⟨[67], some 68, [], []⟩] (by kernel_rfl) (fun k38 => ?_) ?_
      ·skip
       refine .load (.no rfl) rfl t38 rfl rfl (.ptr _ _ _ _ _ rfl) rfl rfl rfl rfl ?_
       refine .load (.no rfl) rfl t25 rfl rfl (.ptr _ _ _ _ _ rfl) rfl rfl rfl rfl ?_
       refine .call (.no rfl) rfl [] [] (c_toDecl d (by first | assumption | omega | exact ⟨‹_›, ‹_›⟩ | (simp only [Decl.marks, Env.marks, Env.mark, mkAll_len]; omega) | exact EnvS.small_mark s9 | exact EnvS.marked _ _)) rfl rfl rfl rfl rfl (.cons (Reads.d _).gives (.cons (Reads.d _).gives (.cons (Reads.d _).gives .nil))) rfl rfl (fun h => absurd rfl h) (.own [66, 0] (.own [66, 1] (.own [66, 2] .nil))) (.nil) rfl rfl rfl (by simp) rfl rfl rfl ?_
       refine .call (.no rfl) rfl [[48, 0], [48, 1], [48, 2], [66, 0], [66, 1], [66, 2]] [([48, 0], (g25, g25, .row 9 1 (List.map strc (d.vars)))), ([48, 1], (g25, g25, .row 9 1 (List.map strc (d.flags)))), ([48, 2], (g25, g25, .row 119 2 (List.map Arr.c (d.arrays)))), ([66, 0], (k38 + 1 + 1, k38 + 1 + 1, .row 9 1 (List.map strc (d.vars)))), ([66, 1], (k38 + 1 + 1, k38 + 1 + 1, .row 9 1 (List.map strc (d.flags)))), ([66, 2], (k38 + 1 + 1, k38 + 1 + 1, .row 119 2 (List.map Arr.c (d.arrays))))] (c_eqDecl d d) rfl rfl rfl rfl rfl (.cons (Reads.ref (Frz.of_erase (erase_slo _ _ _ _ _ _ strc_e)) (.head _) (.head _)).gives (.cons (Reads.ref (Frz.of_erase (erase_slo _ _ _ _ _ _ strc_e)) (.tail _ (.head _)) (.tail _ (.head _))).gives (.cons (Reads.ref (Frz.of_erase (erase_slo _ _ _ _ _ _ Arr.c_e)) (.tail _ (.tail _ (.head _))) (.tail _ (.tail _ (.head _)))).gives (.cons (Reads.ref (Frz.of_erase (erase_slo _ _ _ _ _ _ strc_e)) (.tail _ (.tail _ (.tail _ (.head _)))) (.tail _ (.tail _ (.tail _ (.head _))))).gives (.cons (Reads.ref (Frz.of_erase (erase_slo _ _ _ _ _ _ strc_e)) (.tail _ (.tail _ (.tail _ (.tail _ (.head _))))) (.tail _ (.tail _ (.tail _ (.tail _ (.head _)))))).gives (.cons (Reads.ref (Frz.of_erase (erase_slo _ _ _ _ _ _ Arr.c_e)) (.tail _ (.tail _ (.tail _ (.tail _ (.tail _ (.head _)))))) (.tail _ (.tail _ (.tail _ (.tail _ (.tail _ (.head _))))))).gives .nil)))))) rfl rfl (fun _ => (ownCons (Owned.v _) ownNil)) (.own [67, 0] .nil) (.nil) rfl rfl rfl (AllH.get (.cons rfl (.cons rfl (.cons rfl (.cons rfl (.cons rfl (.cons rfl .nil))))))) rfl rfl rfl ?_
       refine .un (.no rfl) rfl rfl rfl rfl rfl ?_
       exact .fin () (.of (.cons rfl (.cons rfl (.cons rfl (.cons rfl (.cons rfl (.cons rfl (.cons rfl (.cons rfl (.cons rfl (.cons rfl (.cons rfl .nil))))))))))) (.cons rfl (.cons rfl (.cons rfl (.cons rfl (.cons rfl (.cons rfl (.cons rfl (.cons rfl (.cons rfl .nil))))))))))
      intro _
      refine .cond (t := !(Decl.same d d)) rfl (fun c5 => ?_) (fun c5 => ?_)
      ·have c5 := c5
       try simp only [Bool.or_eq_true, Bool.or_eq_false_iff, Bool.and_eq_true, Bool.and_eq_false_iff, decide_eq_true_eq, decide_eq_false_iff_not, Bool.not_eq_true', Bool.not_eq_false', bne_iff_ne, beq_iff_eq, bne_eq_false_iff_eq, beq_eq_false_iff_ne, ne_eq, Bool.not_eq_eq_eq_not, Bool.not_true, Bool.not_false] at c5
       refine .seq ?_
       refine .reg (X := Unit) (fun ζ => .of [(8, .one (.d (.v (.bool (false)))))] []) [⟨[], some 8, [], []⟩] (fun k39 => ?_) ?_
       ·skip
        refine .assign (.no rfl) rfl rfl rfl rfl ?_
        exact .fin () (.of (.cons rfl .nil) .nil)
       intro _
       refine .ret ?_
       have e40 : (false) = (true) := by first | exact absurd c5 (by rw [Env.same_self]; decide) | exact absurd c5 (by rw [all2_self intEq_self]; decide) | exact absurd c5 (by rw [Decl.same_self]; decide) | exact absurd c5 (by rw [all2_self Env.same_self]; decide) | exact absurd (EnvS.marks_mark _ _) c5 | (rcases c5 with h9 | h9 <;> first | exact (h9 trivial).elim | exact absurd rfl h9 | exact absurd h9 (by rw [all2_self Env.same_self]; decide) | (simp only [Decl.marks, Env.marks] at h9; omega) | omega) | omega | (rw [EnvS.marks_mark] at c5; omega)
       have hc41 := eq1 (fun z1 => SV.one (.d (.v (.bool (z1))))) e40
       show _ ∧ _
       exact ⟨.inr rfl, .done ⟨_, [], [], _, .one (c := .d (.v (.bool (true)))) (hc41) .nil, .cons (Reads.d _).gives .nil, nodupB_ok rfl, by simp, (by simp)⟩⟩
      ·have c5 := c5
       try simp only [Bool.or_eq_true, Bool.or_eq_false_iff, Bool.and_eq_true, Bool.and_eq_false_iff, decide_eq_true_eq, decide_eq_false_iff_not, Bool.not_eq_true', Bool.not_eq_false', bne_iff_ne, beq_iff_eq, bne_eq_false_iff_eq, beq_eq_false_iff_ne, ne_eq, Bool.not_eq_eq_eq_not, Bool.not_true, Bool.not_false] at c5
       refine .skip ?_
       refine .seq ?_
       refine .seq ?_
       refine .reg (X := Unit) (fun ζ => .of [(1, .one (.d (.sl false 69 3 (List.map Env.c69 (a))))), (2, .one (.d (.sl false 69 3 (List.map Env.c69 (b))))), (3, .one (.d (.sl false 2 1 (List.map i64c (l))))), (4, .one (.ptr [4] (g8) 0)), (10, .one (.d (.sl false 77 3 (List.map Env.c77 (Table.widenIn d a b l))))), (11, .one (.ptr [11] (g23) 0)), (12, .one (.ref [50, 0] (g27))), (13, .one (.ref [52, 0] (g29))), (14, .one (.ref [54, 0] (g31))), (15, .one (.ref [59, 0] (g33))), (73, .one (.d (.v (.bool (!(all2 Env.same a a))))))] [([4], (g8, g8, .box [.d (.sl false 9 1 (List.map strc (d.vars))), .d (.sl false 9 1 (List.map strc (d.flags))), .d (.sl false 115 2 (List.map Arr.c (d.arrays)))])), ([11], (g23, g24, .box [.ref [48, 0] (g25), .ref [48, 1] (g25), .ref [48, 2] (g25)])), ([48, 0], (g25, g25, .row 9 1 (List.map strc (d.vars)))), ([48, 1], (g25, g25, .row 9 1 (List.map strc (d.flags)))), ([48, 2], (g25, g25, .row 119 2 (List.map Arr.c (d.arrays)))), ([50, 0], (g27, g27, .row 77 3 (List.map Env.co77 (a)))), ([52, 0], (g29, g29, .row 77 3 (List.map Env.co77 (b)))), ([54, 0], (g31, g31, .row 2 1 (List.map i64c (l)))), ([59, 0], (g33, g33, .row 77 3 (List.map Env.co77 (Table.widenIn d a b l))))]) [⟨[12], some 69, [], []⟩, ⟨[1], some 70, [], []⟩, ⟨[70], some 71, [], [[71, 0]]⟩, ⟨[69, 71], some 72, [[50, 0], [71, 0]], []⟩, ⟨[72], some 73, [], []⟩] (fun k42 => ?_) ?_
       ·skip
        refine .move (.no rfl) rfl rfl rfl rfl ?_
        refine .move (.no rfl) rfl rfl rfl rfl ?_
        refine .call (.no rfl) rfl [] [] (c_toEnvS a (by first | assumption | omega | exact ⟨‹_›, ‹_›⟩ | (simp only [Decl.marks, Env.marks, Env.mark, mkAll_len]; omega) | exact EnvS.small_mark s9 | exact EnvS.marked _ _) (by first | assumption | omega | exact ⟨‹_›, ‹_›⟩ | (simp only [Decl.marks, Env.marks, Env.mark, mkAll_len]; omega) | exact EnvS.small_mark s9 | exact EnvS.marked _ _)) rfl rfl rfl rfl rfl (.cons (Reads.d _).gives .nil) rfl rfl (fun h => absurd rfl h) (.own [71, 0] .nil) (.nil) rfl rfl rfl (by simp) rfl rfl rfl ?_
        refine .call (.no rfl) rfl [[50, 0], [71, 0]] [([50, 0], (g27, g27, .row 77 3 (List.map Env.co77 (a)))), ([71, 0], (k42 + 1 + 1, k42 + 1 + 1, .row 77 3 (List.map Env.co77 (a))))] (c_eqEnvS a a) rfl rfl rfl rfl rfl (.cons (Reads.ref (Frz.of_erase (erase_slo _ _ _ _ _ _ Env.co77_e)) (.head _) (.head _)).gives (.cons (Reads.ref (Frz.of_erase (erase_slo _ _ _ _ _ _ Env.co77_e)) (.tail _ (.head _)) (.tail _ (.head _))).gives .nil)) rfl rfl (fun _ => (ownCons (Owned.v _) ownNil)) (.own [72, 0] .nil) (.nil) rfl rfl rfl (AllH.get (.cons rfl (.cons rfl .nil))) rfl rfl rfl ?_
        refine .un (.no rfl) rfl rfl rfl rfl rfl ?_
        exact .fin () (.of (.cons rfl (.cons rfl (.cons rfl (.cons rfl (.cons rfl (.cons rfl (.cons rfl (.cons rfl (.cons rfl (.cons rfl (.cons rfl .nil))))))))))) (.cons rfl (.cons rfl (.cons rfl (.cons rfl (.cons rfl (.cons rfl (.cons rfl (.cons rfl (.cons rfl .nil))))))))))
       intro _
       refine .cond (t := !(all2 Env.same a a)) rfl (fun c6 => ?_) (fun c6 => ?_)
       ·have c6 := c6
        try simp only [Bool.or_eq_true, Bool.or_eq_false_iff, Bool.and_eq_true, Bool.and_eq_false_iff, decide_eq_true_eq, decide_eq_false_iff_not, Bool.not_eq_true', Bool.not_eq_false', bne_iff_ne, beq_iff_eq, bne_eq_false_iff_eq, beq_eq_false_iff_ne, ne_eq, Bool.not_eq_eq_eq_not, Bool.not_true, Bool.not_false] at c6
        refine .seq ?_
        refine .reg (X := Unit) (fun ζ => .of [(8, .one (.d (.v (.bool (false)))))] []) [⟨[], some 8, [], []⟩] (fun k43 => ?_) ?_
        ·skip
         refine .assign (.no rfl) rfl rfl rfl rfl ?_
         exact .fin () (.of (.cons rfl .nil) .nil)
        intro _
        refine .ret ?_
        have e44 : (false) = (true) := by first | exact absurd c6 (by rw [Env.same_self]; decide) | exact absurd c6 (by rw [all2_self intEq_self]; decide) | exact absurd c6 (by rw [Decl.same_self]; decide) | exact absurd c6 (by rw [all2_self Env.same_self]; decide) | exact absurd (EnvS.marks_mark _ _) c6 | (rcases c6 with h9 | h9 <;> first | exact (h9 trivial).elim | exact absurd rfl h9 | exact absurd h9 (by rw [all2_self Env.same_self]; decide) | (simp only [Decl.marks, Env.marks] at h9; omega) | omega) | omega | (rw [EnvS.marks_mark] at c6; omega)
        have hc45 := eq1 (fun z1 => SV.one (.d (.v (.bool (z1))))) e44
        show _ ∧ _
        exact ⟨.inr rfl, .done ⟨_, [], [], _, .one (c := .d (.v (.bool (true)))) (hc45) .nil, .cons (Reads.d _).gives .nil, nodupB_ok rfl, by simp, (by simp)⟩⟩
       ·have c6 := c6
        try simp only [Bool.or_eq_true, Bool.or_eq_false_iff, Bool.and_eq_true, Bool.and_eq_false_iff, decide_eq_true_eq, decide_eq_false_iff_not, Bool.not_eq_true', Bool.not_eq_false', bne_iff_ne, beq_iff_eq, bne_eq_false_iff_eq, beq_eq_false_iff_ne, ne_eq, Bool.not_eq_eq_eq_not, Bool.not_true, Bool.not_false] at c6
        refine .skip ?_
        refine .seq ?_
        refine .seq ?_
        refine .reg (X := Unit) (fun ζ => .of [(1, .one (.d (.sl false 69 3 (List.map Env.c69 (a))))), (2, .one (.d (.sl false 69 3 (List.map Env.c69 (b))))), (3, .one (.d (.sl false 2 1 (List.map i64c (l))))), (4, .one (.ptr [4] (g8) 0)), (10, .one (.d (.sl false 77 3 (List.map Env.c77 (Table.widenIn d a b l))))), (11, .one (.ptr [11] (g23) 0)), (12, .one (.ref [50, 0] (g27))), (13, .one (.ref [52, 0] (g29))), (14, .one (.ref [54, 0] (g31))), (15, .one (.ref [59, 0] (g33))), (78, .one (.d (.v (.bool (!(all2 Env.same b b))))))] [([4], (g8, g8, .box [.d (.sl false 9 1 (List.map strc (d.vars))), .d (.sl false 9 1 (List.map strc (d.flags))), .d (.sl false 115 2 (List.map Arr.c (d.arrays)))])), ([11], (g23, g24, .box [.ref [48, 0] (g25), .ref [48, 1] (g25), .ref [48, 2] (g25)])), ([48, 0], (g25, g25, .row 9 1 (List.map strc (d.vars)))), ([48, 1], (g25, g25, .row 9 1 (List.map strc (d.flags)))), ([48, 2], (g25, g25, .row 119 2 (List.map Arr.c (d.arrays)))), ([50, 0], (g27, g27, .row 77 3 (List.map Env.co77 (a)))), ([52, 0], (g29, g29, .row 77 3 (List.map Env.co77 (b)))), ([54, 0], (g31, g31, .row 2 1 (List.map i64c (l)))), ([59, 0], (g33, g33, .row 77 3 (List.map Env.co77 (Table.widenIn d a b l))))]) [⟨[13], some 74, [], []⟩, ⟨[2], some 75, [], []⟩, ⟨[75], some 76, [], [[76, 0]]⟩, ⟨[74, 76], some 77, [[52, 0], [76, 0]], []⟩, ⟨[77], some 78, [], []⟩] (fun k46 => ?_) ?_
        ·skip
         refine .move (.no rfl) rfl rfl rfl rfl ?_
         refine .move (.no rfl) rfl rfl rfl rfl ?_
         refine .call (.no rfl) rfl [] [] (c_toEnvS b (by first | assumption | omega | exact ⟨‹_›, ‹_›⟩ | (simp only [Decl.marks, Env.marks, Env.mark, mkAll_len]; omega) | exact EnvS.small_mark s9 | exact EnvS.marked _ _) (by first | assumption | omega | exact ⟨‹_›, ‹_›⟩ | (simp only [Decl.marks, Env.marks, Env.mark, mkAll_len]; omega) | exact EnvS.small_mark s9 | exact EnvS.marked _ _)) rfl rfl rfl rfl rfl (.cons (Reads.d _).gives .nil) rfl rfl (fun h => absurd rfl h) (.own [76, 0] .nil) (.nil) rfl rfl rfl (by simp) rfl rfl rfl ?_
         refine .call (.no rfl) rfl [[52, 0], [76, 0]] [([52, 0], (g29, g29, .row 77 3 (List.map Env.co77 (b)))), ([76, 0], (k46 + 1 + 1, k46 + 1 + 1, .row 77 3 (List.map Env.co77 (b))))] (c_eqEnvS b b) rfl rfl rfl rfl rfl (.cons (Reads.ref (Frz.of_erase (erase_slo _ _ _ _ _ _ Env.co77_e)) (.head _) (.head _)).gives (.cons (Reads.ref (Frz.of_erase (erase_slo _ _ _ _ _ _ Env.co77_e)) (.tail _ (.head _)) (.tail _ (.head _))).gives .nil)) rfl rfl (fun _ => (ownCons (Owned.v _) ownNil)) (.own [77, 0] .nil) (.nil) rfl rfl rfl (AllH.get (.cons rfl (.cons rfl .nil))) rfl rfl rfl ?_
         refine .un (.no rfl) rfl rfl rfl rfl rfl ?_
         exact .fin () (.of (.cons rfl (.cons rfl (.cons rfl (.cons rfl (.cons rfl (.cons rfl (.cons rfl (.cons rfl (.cons rfl (.cons rfl (.cons rfl .nil))))))))))) (.cons rfl (.cons rfl (.cons rfl (.cons rfl (.cons rfl (.cons rfl (.cons rfl (.cons rfl (.cons rfl .nil))))))))))
        intro _
        refine .cond (t := !(all2 Env.same b b)) rfl (fun c7 => ?_) (fun c7 => ?_)
        ·have c7 := c7
         try simp only [Bool.or_eq_true, Bool.or_eq_false_iff, Bool.and_eq_true, Bool.and_eq_false_iff, decide_eq_true_eq, decide_eq_false_iff_not, Bool.not_eq_true', Bool.not_eq_false', bne_iff_ne, beq_iff_eq, bne_eq_false_iff_eq, beq_eq_false_iff_ne, ne_eq, Bool.not_eq_eq_eq_not, Bool.not_true, Bool.not_false] at c7
         refine .seq ?_
         refine .reg (X := Unit) (fun ζ => .of [(8, .one (.d (.v (.bool (false)))))] []) [⟨[], some 8, [], []⟩] (fun k47 => ?_) ?_
         ·skip
          refine .assign (.no rfl) rfl rfl rfl rfl ?_
          exact .fin () (.of (.cons rfl .nil) .nil)
         intro _
         refine .ret ?_
         have e48 : (false) = (true) := by first | exact absurd c7 (by rw [Env.same_self]; decide) | exact absurd c7 (by rw [all2_self intEq_self]; decide) | exact absurd c7 (by rw [Decl.same_self]; decide) | exact absurd c7 (by rw [all2_self Env.same_self]; decide) | exact absurd (EnvS.marks_mark _ _) c7 | (rcases c7 with h9 | h9 <;> first | exact (h9 trivial).elim | exact absurd rfl h9 | exact absurd h9 (by rw [all2_self Env.same_self]; decide) | (simp only [Decl.marks, Env.marks] at h9; omega) | omega) | omega | (rw [EnvS.marks_mark] at c7; omega)
         have hc49 := eq1 (fun z1 => SV.one (.d (.v (.bool (z1))))) e48
         show _ ∧ _
         exact ⟨.inr rfl, .done ⟨_, [], [], _, .one (c := .d (.v (.bool (true)))) (hc49) .nil, .cons (Reads.d _).gives .nil, nodupB_ok rfl, by simp, (by simp)⟩⟩
        ·have c7 := c7
         try simp only [Bool.or_eq_true, Bool.or_eq_false_iff, Bool.and_eq_true, Bool.and_eq_false_iff, decide_eq_true_eq, decide_eq_false_iff_not, Bool.not_eq_true', Bool.not_eq_false', bne_iff_ne, beq_iff_eq, bne_eq_false_iff_eq, beq_eq_false_iff_ne, ne_eq, Bool.not_eq_eq_eq_not, Bool.not_true, Bool.not_false] at c7
         refine .skip ?_
         refine .seq ?_
         refine .seq ?_
         refine .reg (X := Unit) (fun ζ => .of [(1, .one (.d (.sl false 69 3 (List.map Env.c69 (a))))), (2, .one (.d (.sl false 69 3 (List.map Env.c69 (b))))), (3, .one (.d (.sl false 2 1 (List.map i64c (l))))), (4, .one (.ptr [4] (g8) 0)), (10, .one (.d (.sl false 77 3 (List.map Env.c77 (Table.widenIn d a b l))))), (11, .one (.ptr [11] (g23) 0)), (12, .one (.ref [50, 0] (g27))), (13, .one (.ref [52, 0] (g29))), (14, .one (.ref [54, 0] (g31))), (15, .one (.ref [59, 0] (g33))), (83, .one (.d (.v (.bool (!(all2 intEq l l))))))] [([4], (g8, g8, .box [.d (.sl false 9 1 (List.map strc (d.vars))), .d (.sl false 9 1 (List.map strc (d.flags))), .d (.sl false 115 2 (List.map Arr.c (d.arrays)))])), ([11], (g23, g24, .box [.ref [48, 0] (g25), .ref [48, 1] (g25), .ref [48, 2] (g25)])), ([48, 0], (g25, g25, .row 9 1 (List.map strc (d.vars)))), ([48, 1], (g25, g25, .row 9 1 (List.map strc (d.flags)))), ([48, 2], (g25, g25, .row 119 2 (List.map Arr.c (d.arrays)))), ([50, 0], (g27, g27, .row 77 3 (List.map Env.co77 (a)))), ([52, 0], (g29, g29, .row 77 3 (List.map Env.co77 (b)))), ([54, 0], (g31, g31, .row 2 1 (List.map i64c (l)))), ([59, 0], (g33, g33, .row 77 3 (List.map Env.co77 (Table.widenIn d a b l))))]) [⟨[14], some 79, [], []⟩, ⟨[3], some 80, [], []⟩, ⟨[80], some 81, [], [[81, 0]]⟩, ⟨[79, 81], some 82, [[54, 0], [81, 0]], []⟩, ⟨[82], some 83, [], []⟩] (fun k50 => ?_) ?_
         ·skip
          refine .move (.no rfl) rfl rfl rfl rfl ?_
          refine .move (.no rfl) rfl rfl rfl rfl ?_
          refine .call (.no rfl) rfl [] [] (c_toInt64S l (by first | assumption | omega | exact ⟨‹_›, ‹_›⟩ | (simp only [Decl.marks, Env.marks, Env.mark, mkAll_len]; omega) | exact EnvS.small_mark s9 | exact EnvS.marked _ _)) rfl rfl rfl rfl rfl (.cons (Reads.d _).gives .nil) rfl rfl (fun h => absurd rfl h) (.own [81, 0] .nil) (.nil) rfl rfl rfl (by simp) rfl rfl rfl ?_
          refine .call (.no rfl) rfl [[54, 0], [81, 0]] [([54, 0], (g31, g31, .row 2 1 (List.map i64c (l)))), ([81, 0], (k50 + 1 + 1, k50 + 1 + 1, .row 2 1 (List.map i64c (l))))] (c_eqInt64S l l) rfl rfl rfl rfl rfl (.cons (Reads.ref (Frz.of_erase (erase_slo _ _ _ _ _ _ i64c_e)) (.head _) (.head _)).gives (.cons (Reads.ref (Frz.of_erase (erase_slo _ _ _ _ _ _ i64c_e)) (.tail _ (.head _)) (.tail _ (.head _))).gives .nil)) rfl rfl (fun _ => (ownCons (Owned.v _) ownNil)) (.own [82, 0] .nil) (.nil) rfl rfl rfl (AllH.get (.cons rfl (.cons rfl .nil))) rfl rfl rfl ?_
          refine .un (.no rfl) rfl rfl rfl rfl rfl ?_
          exact .fin () (.of (.cons rfl (.cons rfl (.cons rfl (.cons rfl (.cons rfl (.cons rfl (.cons rfl (.cons rfl (.cons rfl (.cons rfl (.cons rfl .nil))))))))))) (.cons rfl (.cons rfl (.cons rfl (.cons rfl (.cons rfl (.cons rfl (.cons rfl (.cons rfl (.cons rfl .nil))))))))))
         intro _
         refine .cond (t := !(all2 intEq l l)) rfl (fun c8 => ?_) (fun c8 => ?_)
         ·have c8 := c8
          try simp only [Bool.or_eq_true, Bool.or_eq_false_iff, Bool.and_eq_true, Bool.and_eq_false_iff, decide_eq_true_eq, decide_eq_false_iff_not, Bool.not_eq_true', Bool.not_eq_false', bne_iff_ne, beq_iff_eq, bne_eq_false_iff_eq, beq_eq_false_iff_ne, ne_eq, Bool.not_eq_eq_eq_not, Bool.not_true, Bool.not_false] at c8
          refine .seq ?_
          refine .reg (X := Unit) (fun ζ => .of [(8, .one (.d (.v (.bool (false)))))] []) [⟨[], some 8, [], []⟩] (fun k51 => ?_) ?_
          ·skip
           refine .assign (.no rfl) rfl rfl rfl rfl ?_
           exact .fin () (.of (.cons rfl .nil) .nil)
          intro _
          refine .ret ?_
          have e52 : (false) = (true) := by first | exact absurd c8 (by rw [Env.same_self]; decide) | exact absurd c8 (by rw [all2_self intEq_self]; decide) | exact absurd c8 (by rw [Decl.same_self]; decide) | exact absurd c8 (by rw [all2_self Env.same_self]; decide) | exact absurd (EnvS.marks_mark _ _) c8 | (rcases c8 with h9 | h9 <;> first | exact (h9 trivial).elim | exact absurd rfl h9 | exact absurd h9 (by rw [all2_self Env.same_self]; decide) | (simp only [Decl.marks, Env.marks] at h9; omega) | omega) | omega | (rw [EnvS.marks_mark] at c8; omega)
          have hc53 := eq1 (fun z1 => SV.one (.d (.v (.bool (z1))))) e52
          show _ ∧ _
          exact ⟨.inr rfl, .done ⟨_, [], [], _, .one (c := .d (.v (.bool (true)))) (hc53) .nil, .cons (Reads.d _).gives .nil, nodupB_ok rfl, by simp, (by simp)⟩⟩
         ·have c8 := c8
          try simp only [Bool.or_eq_true, Bool.or_eq_false_iff, Bool.and_eq_true, Bool.and_eq_false_iff, decide_eq_true_eq, decide_eq_false_iff_not, Bool.not_eq_true', Bool.not_eq_false', bne_iff_ne, beq_iff_eq, bne_eq_false_iff_eq, beq_eq_false_iff_ne, ne_eq, Bool.not_eq_eq_eq_not, Bool.not_true, Bool.not_false] at c8
          refine .skip ?_
          refine .seq ?_
          refine .reg (X := Unit) (fun ζ => .of [(1, .one (.d (.sl false 69 3 (List.map Env.c69 (a))))), (2, .one (.d (.sl false 69 3 (List.map Env.c69 (b))))), (3, .one (.d (.sl false 2 1 (List.map i64c (l))))), (4, .one (.ptr [4] (g8) 0)), (10, .one (.d (.sl false 77 3 (List.map Env.c77 (Table.widenIn d a b l))))), (11, .one (.ptr [11] (g23) 0)), (12, .one (.ref [50, 0] (g27))), (13, .one (.ref [52, 0] (g29))), (14, .one (.ref [54, 0] (g31))), (15, .one (.ref [59, 0] (g33))), (16, .one (.d (.v (.int .i64 (1)))))] [([4], (g8, g8, .box [.d (.sl false 9 1 (List.map strc (d.vars))), .d (.sl false 9 1 (List.map strc (d.flags))), .d (.sl false 115 2 (List.map Arr.c (d.arrays)))])), ([11], (g23, g24, .box [.ref [48, 0] (g25), .ref [48, 1] (g25), .ref [48, 2] (g25)])), ([48, 0], (g25, g25, .row 9 1 (List.map strc (d.vars)))), ([48, 1], (g25, g25, .row 9 1 (List.map strc (d.flags)))), ([48, 2], (g25, g25, .row 119 2 (List.map Arr.c (d.arrays)))), ([50, 0], (g27, g27, .row 77 3 (List.map Env.co77 (a)))), ([52, 0], (g29, g29, .row 77 3 (List.map Env.co77 (b)))), ([54, 0], (g31, g31, .row 2 1 (List.map i64c (l)))), ([59, 0], (g33, g33, .row 77 3 (List.map Env.co77 (Table.widenIn d a b l))))]) [⟨[], some 16, [], []⟩] (fun k54 => ?_) ?_
          ·skip
           refine .assign (.no rfl) rfl rfl rfl rfl ?_
           exact .fin () (.of (.cons rfl (.cons rfl (.cons rfl (.cons rfl (.cons rfl (.cons rfl (.cons rfl (.cons rfl (.cons rfl (.cons rfl (.cons rfl .nil))))))))))) (.cons rfl (.cons rfl (.cons rfl (.cons rfl (.cons rfl (.cons rfl (.cons rfl (.cons rfl (.cons rfl .nil))))))))))
          intro _
          refine .seq ?_
          refine .reg (X := Unit) (fun ζ => .of [(1, .one (.d (.sl false 69 3 (List.map Env.c69 (a))))), (2, .one (.d (.sl false 69 3 (List.map Env.c69 (b))))), (3, .one (.d (.sl false 2 1 (List.map i64c (l))))), (4, .one (.ptr [4] (g8) 0)), (10, .one (.d (.sl false 77 3 (List.map Env.c77 (Table.widenIn d a b l))))), (12, .one (.ref [50, 0] (g27))), (13, .one (.ref [52, 0] (g29))), (14, .one (.ref [54, 0] (g31))), (15, .one (.ref [59, 0] (g33))), (16, .one (.d (.v (.int .i64 (Decl.marks 1 d)))))] [([4], (g8, g8, .box [.d (.sl false 9 1 (List.map strc (d.vars))), .d (.sl false 9 1 (List.map strc (d.flags))), .d (.sl false 115 2 (List.map Arr.c (d.arrays)))])), ([50, 0], (g27, g27, .row 77 3 (List.map Env.co77 (a)))), ([52, 0], (g29, g29, .row 77 3 (List.map Env.co77 (b)))), ([54, 0], (g31, g31, .row 2 1 (List.map i64c (l)))), ([59, 0], (g33, g33, .row 77 3 (List.map Env.co77 (Table.widenIn d a b l))))]) [⟨[11], some 84, [[11]], []⟩, ⟨[16], some 85, [], []⟩, ⟨[84, 85], some 86, [[48, 0], [48, 1], [48, 2]], [[48, 0], [48, 1], [48, 2], [48, 0], [48, 1], [48, 2]]⟩, ⟨[86], some 16, [], []⟩] (fun k55 => ?_) ?_
          ·skip
           refine .load (.no rfl) rfl t38 rfl rfl (.ptr _ _ _ _ _ rfl) rfl rfl rfl rfl ?_
           refine .move (.no rfl) rfl rfl rfl rfl ?_
           refine .call (.no rfl) rfl [] [([48, 0], (g25, g25, .row 9 1 (List.map strc (d.vars)))), ([48, 1], (g25, g25, .row 9 1 (List.map strc (d.flags)))), ([48, 2], (g25, g25, .row 119 2 (List.map Arr.c (d.arrays))))] (c_markDecl d 1 (by first | assumption | omega | exact ⟨‹_›, ‹_›⟩ | (simp only [Decl.marks, Env.marks, Env.mark, mkAll_len]; omega) | exact EnvS.small_mark s9 | exact EnvS.marked _ _) (by first | assumption | omega | exact ⟨‹_›, ‹_›⟩ | (simp only [Decl.marks, Env.marks, Env.mark, mkAll_len]; omega) | exact EnvS.small_mark s9 | exact EnvS.marked _ _)) rfl rfl rfl rfl rfl (.cons (.ref (.head _)) (.cons (.ref (.tail _ (.head _))) (.cons (.ref (.tail _ (.tail _ (.head _)))) (.cons (Reads.d _).gives .nil)))) rfl rfl (fun h => absurd rfl h) (.own [86, 0] .nil) (.ref rfl (.head _) (by simp) (.ref rfl (.tail _ (.head _)) (by simp) (.ref rfl (.tail _ (.tail _ (.head _))) (by simp) .nil))) rfl rfl rfl (AllH.get (.cons rfl (.cons rfl (.cons rfl .nil)))) rfl rfl rfl ?_
           refine .assign (.no rfl) rfl rfl rfl rfl ?_
           exact .fin () (.of (.cons rfl (.cons rfl (.cons rfl (.cons rfl (.cons rfl (.cons rfl (.cons rfl (.cons rfl (.cons rfl (.cons rfl .nil)))))))))) (.cons rfl (.cons rfl (.cons rfl (.cons rfl (.cons rfl .nil))))))
          intro _
          refine .seq ?_
          refine .reg (X := Unit) (fun ζ => .of [(1, .one (.d (.sl false 69 3 (List.map Env.c69 (a))))), (2, .one (.d (.sl false 69 3 (List.map Env.c69 (b))))), (3, .one (.d (.sl false 2 1 (List.map i64c (l))))), (4, .one (.ptr [4] (g8) 0)), (10, .one (.d (.sl false 77 3 (List.map Env.c77 (Table.widenIn d a b l))))), (13, .one (.ref [52, 0] (g29))), (14, .one (.ref [54, 0] (g31))), (15, .one (.ref [59, 0] (g33))), (16, .one (.d (.v (.int .i64 (EnvS.marks (Decl.marks 1 d) a)))))] [([4], (g8, g8, .box [.d (.sl false 9 1 (List.map strc (d.vars))), .d (.sl false 9 1 (List.map strc (d.flags))), .d (.sl false 115 2 (List.map Arr.c (d.arrays)))])), ([52, 0], (g29, g29, .row 77 3 (List.map Env.co77 (b)))), ([54, 0], (g31, g31, .row 2 1 (List.map i64c (l)))), ([59, 0], (g33, g33, .row 77 3 (List.map Env.co77 (Table.widenIn d a b l))))]) [⟨[12], some 87, [], []⟩, ⟨[16], some 88, [], []⟩, ⟨[87, 88], some 89, [[50, 0]], [[50, 0], [50, 0]]⟩, ⟨[89], some 16, [], []⟩] (fun k56 => ?_) ?_
          ·skip
           refine .move (.no rfl) rfl rfl rfl rfl ?_
           refine .move (.no rfl) rfl rfl rfl rfl ?_
           refine .call (.no rfl) rfl [] [([50, 0], (g27, g27, .row 77 3 (List.map Env.co77 (a))))] (c_markEnvS a (Decl.marks 1 d) (by first | assumption | omega | exact ⟨‹_›, ‹_›⟩ | (simp only [Decl.marks, Env.marks, Env.mark, mkAll_len]; omega) | exact EnvS.small_mark s9 | exact EnvS.marked _ _) (by first | assumption | omega | exact ⟨‹_›, ‹_›⟩ | (simp only [Decl.marks, Env.marks, Env.mark, mkAll_len]; omega) | exact EnvS.small_mark s9 | exact EnvS.marked _ _)) rfl rfl rfl rfl rfl (.cons (.ref (.head _)) (.cons (Reads.d _).gives .nil)) rfl rfl (fun h => absurd rfl h) (.own [89, 0] .nil) (.ref rfl (.head _) (by simp) .nil) rfl rfl rfl (AllH.get (.cons rfl .nil)) rfl rfl rfl ?_
           refine .assign (.no rfl) rfl rfl rfl rfl ?_
           exact .fin () (.of (.cons rfl (.cons rfl (.cons rfl (.cons rfl (.cons rfl (.cons rfl (.cons rfl (.cons rfl (.cons rfl .nil))))))))) (.cons rfl (.cons rfl (.cons rfl (.cons rfl .nil)))))
          intro _
          refine .seq ?_
          refine .reg (X := Unit) (fun ζ => .of [(1, .one (.d (.sl false 69 3 (List.map Env.c69 (a))))), (2, .one (.d (.sl false 69 3 (List.map Env.c69 (b))))), (3, .one (.d (.sl false 2 1 (List.map i64c (l))))), (4, .one (.ptr [4] (g8) 0)), (10, .one (.d (.sl false 77 3 (List.map Env.c77 (Table.widenIn d a b l))))), (14, .one (.ref [54, 0] (g31))), (15, .one (.ref [59, 0] (g33))), (16, .one (.d (.v (.int .i64 (EnvS.marks (EnvS.marks (Decl.marks 1 d) a) b)))))] [([4], (g8, g8, .box [.d (.sl false 9 1 (List.map strc (d.vars))), .d (.sl false 9 1 (List.map strc (d.flags))), .d (.sl false 115 2 (List.map Arr.c (d.arrays)))])), ([54, 0], (g31, g31, .row 2 1 (List.map i64c (l)))), ([59, 0], (g33, g33, .row 77 3 (List.map Env.co77 (Table.widenIn d a b l))))]) [⟨[13], some 90, [], []⟩, ⟨[16], some 91, [], []⟩, ⟨[90, 91], some 92, [[52, 0]], [[52, 0], [52, 0]]⟩, ⟨[92], some 16, [], []⟩] (fun k57 => ?_) ?_
          ·skip
           refine .move (.no rfl) rfl rfl rfl rfl ?_
           refine .move (.no rfl) rfl rfl rfl rfl ?_
           refine .call (.no rfl) rfl [] [([52, 0], (g29, g29, .row 77 3 (List.map Env.co77 (b))))] (c_markEnvS b (EnvS.marks (Decl.marks 1 d) a) (by first | assumption | omega | exact ⟨‹_›, ‹_›⟩ | (simp only [Decl.marks, Env.marks, Env.mark, mkAll_len]; omega) | exact EnvS.small_mark s9 | exact EnvS.marked _ _) (by first | assumption | omega | exact ⟨‹_›, ‹_›⟩ | (simp only [Decl.marks, Env.marks, Env.mark, mkAll_len]; omega) | exact EnvS.small_mark s9 | exact EnvS.marked _ _)) rfl rfl rfl rfl rfl (.cons (.ref (.head _)) (.cons (Reads.d _).gives .nil)) rfl rfl (fun h => absurd rfl h) (.own [92, 0] .nil) (.ref rfl (.head _) (by simp) .nil) rfl rfl rfl (AllH.get (.cons rfl .nil)) rfl rfl rfl ?_
           refine .assign (.no rfl) rfl rfl rfl rfl ?_
           exact .fin () (.of (.cons rfl (.cons rfl (.cons rfl (.cons rfl (.cons rfl (.cons rfl (.cons rfl (.cons rfl .nil)))))))) (.cons rfl (.cons rfl (.cons rfl .nil))))
          intro _
          refine .seq ?_
          refine .reg (X := Unit) (fun ζ => .of [(1, .one (.d (.sl false 69 3 (List.map Env.c69 (a))))), (2, .one (.d (.sl false 69 3 (List.map Env.c69 (b))))), (3, .one (.d (.sl false 2 1 (List.map i64c (l))))), (4, .one (.ptr [4] (g8) 0)), (10, .one (.d (.sl false 77 3 (List.map Env.c77 (Table.widenIn d a b l))))), (15, .one (.ref [59, 0] (g33))), (16, .one (.d (.v (.int .i64 ((EnvS.marks (EnvS.marks (Decl.marks 1 d) a) b) + (l.length : Int))))))] [([4], (g8, g8, .box [.d (.sl false 9 1 (List.map strc (d.vars))), .d (.sl false 9 1 (List.map strc (d.flags))), .d (.sl false 115 2 (List.map Arr.c (d.arrays)))])), ([59, 0], (g33, g33, .row 77 3 (List.map Env.co77 (Table.widenIn d a b l))))]) [⟨[14], some 93, [], []⟩, ⟨[16], some 94, [], []⟩, ⟨[93, 94], some 95, [[54, 0]], [[54, 0], [54, 0]]⟩, ⟨[95], some 16, [], []⟩] (fun k58 => ?_) ?_
          ·skip
           refine .move (.no rfl) rfl rfl rfl rfl ?_
           refine .move (.no rfl) rfl rfl rfl rfl ?_
           refine .call (.no rfl) rfl [] [([54, 0], (g31, g31, .row 2 1 (List.map i64c (l))))] (c_markInt64S l (EnvS.marks (EnvS.marks (Decl.marks 1 d) a) b) (by first | assumption | omega | exact ⟨‹_›, ‹_›⟩ | (simp only [Decl.marks, Env.marks, Env.mark, mkAll_len]; omega) | exact EnvS.small_mark s9 | exact EnvS.marked _ _)) rfl rfl rfl rfl rfl (.cons (.ref (.head _)) (.cons (Reads.d _).gives .nil)) rfl rfl (fun h => absurd rfl h) (.own [95, 0] .nil) (.ref rfl (.head _) (by simp) .nil) rfl rfl rfl (AllH.get (.cons rfl .nil)) rfl rfl rfl ?_
           refine .assign (.no rfl) rfl rfl rfl rfl ?_
           exact .fin () (.of (.cons rfl (.cons rfl (.cons rfl (.cons rfl (.cons rfl (.cons rfl (.cons rfl .nil))))))) (.cons rfl (.cons rfl .nil)))
          intro _
          refine .seq ?_
          refine .seq ?_
          refine .reg (X := Unit) (fun ζ => .of [(1, .one (.d (.sl false 69 3 (List.map Env.c69 (a))))), (2, .one (.d (.sl false 69 3 (List.map Env.c69 (b))))), (3, .one (.d (.sl false 2 1 (List.map i64c (l))))), (4, .one (.ptr [4] (g8) 0)), (10, .one (.d (.sl false 77 3 (List.map Env.c77 (Table.widenIn d a b l))))), (15, .one (.ref [59, 0] (g33))), (103, .one (.d (.v (.bool ((decide (((EnvS.marks (EnvS.marks (Decl.marks 1 d) a) b) + (l.length : Int)) < 0) || !(all2 Env.same (Table.widenIn d a b l) (Table.widenIn d a b l))))))))] [([4], (g8, g8, .box [.d (.sl false 9 1 (List.map strc (d.vars))), .d (.sl false 9 1 (List.map strc (d.flags))), .d (.sl false 115 2 (List.map Arr.c (d.arrays)))])), ([59, 0], (g33, g33, .row 77 3 (List.map Env.co77 (Table.widenIn d a b l))))]) [⟨[16], some 96, [], []⟩, ⟨[96], some 97, [], []⟩, ⟨[97], some 98, [], []⟩, ⟨[98, 15], some 99, [], []⟩, ⟨[98, 10], some 100, [], []⟩, ⟨[98, 99, 100], some 101, [[59, 0]], []⟩, ⟨[98, 101], some 102, [], []⟩, ⟨[98, 102], some 103, [], []⟩] (fun k59 => ?_) ?_
          ·skip
           refine .move (.no rfl) rfl rfl rfl rfl ?_
           refine .bin (.no rfl) rfl rfl rfl rfl rfl rfl ?_
           refine .moveB (.no rfl) rfl rfl rfl rfl fun b60 g34_2 => ?_
           cases b60
           ·skip
            refine .move (.on rfl rfl rfl rfl rfl) rfl rfl rfl rfl ?_
            refine .move (.on rfl rfl rfl rfl rfl) rfl rfl rfl rfl ?_
            refine .call (.on rfl rfl rfl rfl rfl) rfl [[59, 0]] [([59, 0], (g33, g33, .row 77 3 (List.map Env.co77 (Table.widenIn d a b l))))] (c_eqEnvS (Table.widenIn d a b l) (Table.widenIn d a b l)) rfl rfl rfl rfl rfl (.cons (Reads.ref (Frz.of_erase (erase_slo _ _ _ _ _ _ Env.co77_e)) (.head _) (.head _)).gives (.cons (Reads.d _).gives .nil)) rfl rfl (fun _ => (ownCons (Owned.v _) ownNil)) (.own [101, 0] .nil) (.nil) rfl rfl rfl (AllH.get (.cons rfl .nil)) rfl rfl rfl ?_
            refine .un (.on rfl rfl rfl rfl rfl) rfl rfl rfl rfl rfl ?_
            refine .pick (.no rfl) rfl rfl rfl rfl rfl ?_
            exact .fin () (.of (.cons rfl (.cons rfl (.cons rfl (.cons rfl (.cons rfl (.cons rfl (.cons (svB (show (!(all2 Env.same (Table.widenIn d a b l) (Table.widenIn d a b l))) = ((decide (((EnvS.marks (EnvS.marks (Decl.marks 1 d) a) b) + (l.length : Int)) < 0) || !(all2 Env.same (Table.widenIn d a b l) (Table.widenIn d a b l)))) by first | (simp only [g34_2, Bool.true_or, Bool.false_or, Bool.true_and, Bool.false_and, Bool.not_true, Bool.not_false]; done) | simp [g34_2])) .nil))))))) (.cons rfl (.cons rfl .nil)))
           ·skip
            refine .off rfl rfl rfl rfl rfl rfl rfl ?_
            refine .off rfl rfl rfl rfl rfl rfl rfl ?_
            refine .off rfl rfl rfl rfl rfl rfl rfl ?_
            refine .off rfl rfl rfl rfl rfl rfl rfl ?_
            refine .pick (.no rfl) rfl rfl rfl rfl rfl ?_
            exact .fin () (.of (.cons rfl (.cons rfl (.cons rfl (.cons rfl (.cons rfl (.cons rfl (.cons (svB (show (true) = ((decide (((EnvS.marks (EnvS.marks (Decl.marks 1 d) a) b) + (l.length : Int)) < 0) || !(all2 Env.same (Table.widenIn d a b l) (Table.widenIn d a b l)))) by first | (simp only [g34_2, Bool.true_or, Bool.false_or, Bool.true_and, Bool.false_and, Bool.not_true, Bool.not_false]; done) | simp [g34_2])) .nil))))))) (.cons rfl (.cons rfl .nil)))
          intro _
          refine .cond (t := (decide (((EnvS.marks (EnvS.marks (Decl.marks 1 d) a) b) + (l.length : Int)) < 0) || !(all2 Env.same (Table.widenIn d a b l) (Table.widenIn d a b l)))) rfl (fun c9 => ?_) (fun c9 => ?_)
          ·have c9 := c9
           try simp only [Bool.or_eq_true, Bool.or_eq_false_iff, Bool.and_eq_true, Bool.and_eq_false_iff, decide_eq_true_eq, decide_eq_false_iff_not, Bool.not_eq_true', Bool.not_eq_false', bne_iff_ne, beq_iff_eq, bne_eq_false_iff_eq, beq_eq_false_iff_ne, ne_eq, Bool.not_eq_eq_eq_not, Bool.not_true, Bool.not_false] at c9
           refine .seq ?_
           refine .reg (X := Unit) (fun ζ => .of [(8, .one (.d (.v (.bool (false)))))] []) [⟨[], some 8, [], []⟩] (fun k61 => ?_) ?_
           ·skip
            refine .assign (.no rfl) rfl rfl rfl rfl ?_
            exact .fin () (.of (.cons rfl .nil) .nil)
           intro _
           refine .ret ?_
           have e62 : (false) = (true) := by first | exact absurd c9 (by rw [Env.same_self]; decide) | exact absurd c9 (by rw [all2_self intEq_self]; decide) | exact absurd c9 (by rw [Decl.same_self]; decide) | exact absurd c9 (by rw [all2_self Env.same_self]; decide) | exact absurd (EnvS.marks_mark _ _) c9 | (rcases c9 with h9 | h9 <;> first | exact (h9 trivial).elim | exact absurd rfl h9 | exact absurd h9 (by rw [all2_self Env.same_self]; decide) | (simp only [Decl.marks, Env.marks] at h9; omega) | omega) | omega | (rw [EnvS.marks_mark] at c9; omega)
           have hc63 := eq1 (fun z1 => SV.one (.d (.v (.bool (z1))))) e62
           show _ ∧ _
           exact ⟨.inr rfl, .done ⟨_, [], [], _, .one (c := .d (.v (.bool (true)))) (hc63) .nil, .cons (Reads.d _).gives .nil, nodupB_ok rfl, by simp, (by simp)⟩⟩
          ·have c9 := c9
           try simp only [Bool.or_eq_true, Bool.or_eq_false_iff, Bool.and_eq_true, Bool.and_eq_false_iff, decide_eq_true_eq, decide_eq_false_iff_not, Bool.not_eq_true', Bool.not_eq_false', bne_iff_ne, beq_iff_eq, bne_eq_false_iff_eq, beq_eq_false_iff_ne, ne_eq, Bool.not_eq_eq_eq_not, Bool.not_true, Bool.not_false] at c9
           refine .skip ?_
           refine .seq ?_
           refine .reg (X := Unit) (fun ζ => .of [(1, .one (.d (.sl false 69 3 (List.map Env.c69 (a))))), (2, .one (.d (.sl false 69 3 (List.map Env.c69 (b))))), (3, .one (.d (.sl false 2 1 (List.map i64c (l))))), (4, .one (.ptr [4] (g8) 0)), (10, .one (.d (.sl false 77 3 (List.map Env.c77 (Table.widenIn d a b l))))), (15, .one (.ref [59, 0] (g33))), (17, .one (.d (.v (.int .i64 (1)))))] [([4], (g8, g8, .box [.d (.sl false 9 1 (List.map strc (d.vars))), .d (.sl false 9 1 (List.map strc (d.flags))), .d (.sl false 115 2 (List.map Arr.c (d.arrays)))])), ([59, 0], (g33, g33, .row 77 3 (List.map Env.co77 (Table.widenIn d a b l))))]) [⟨[], some 17, [], []⟩] (fun k64 => ?_) ?_
           ·skip
            refine .assign (.no rfl) rfl rfl rfl rfl ?_
            exact .fin () (.of (.cons rfl (.cons rfl (.cons rfl (.cons rfl (.cons rfl (.cons rfl (.cons rfl .nil))))))) (.cons rfl (.cons rfl .nil)))
           intro _
           refine .seq ?_
           refine .reg (X := Nat) (fun ζ => .of [(1, .one (.d (.sl false 69 3 (List.map Env.c69 (a))))), (2, .one (.d (.sl false 69 3 (List.map Env.c69 (b))))), (3, .one (.d (.sl false 2 1 (List.map i64c (l))))), (4, .one (.ptr [4] (g8) 0)), (10, .one (.d (.sl false 77 3 (List.map Env.c77 (Table.widenIn d a b l))))), (15, .one (.ref [59, 0] (g33))), (17, .one (.d (.v (.int .i64 (EnvS.marks 1 (Table.widenIn d a b l))))))] [([4], (g8, g8, .box [.d (.sl false 9 1 (List.map strc (d.vars))), .d (.sl false 9 1 (List.map strc (d.flags))), .d (.sl false 115 2 (List.map Arr.c (d.arrays)))])), ([59, 0], (g33, ζ, .row 77 3 (List.map Env.co77 (EnvS.mark 1 (Table.widenIn d a b l)))))]) [⟨[15], some 104, [], []⟩, ⟨[17], some 105, [], []⟩, ⟨[104, 105], some 106, [[59, 0]], [[59, 0], [59, 0]]⟩, ⟨[106], some 17, [], []⟩] (fun k65 => ?_) ?_
           ·skip
            refine .move (.no rfl) rfl rfl rfl rfl ?_
            refine .move (.no rfl) rfl rfl rfl rfl ?_
            refine .call (.no rfl) rfl [] [([59, 0], (g33, g33, .row 77 3 (List.map Env.co77 (Table.widenIn d a b l))))] (c_markEnvS (Table.widenIn d a b l) 1 (by first | assumption | omega | exact ⟨‹_›, ‹_›⟩ | (simp only [Decl.marks, Env.marks, Env.mark, mkAll_len]; omega) | exact EnvS.small_mark s9 | exact EnvS.marked _ _) (by first | assumption | omega | exact ⟨‹_›, ‹_›⟩ | (simp only [Decl.marks, Env.marks, Env.mark, mkAll_len]; omega) | exact EnvS.small_mark s9 | exact EnvS.marked _ _)) rfl rfl rfl rfl rfl (.cons (.ref (.head _)) (.cons (Reads.d _).gives .nil)) rfl rfl (fun h => absurd rfl h) (.own [106, 0] .nil) (.ref rfl (.head _) (by simp) .nil) rfl rfl rfl (AllH.get (.cons rfl .nil)) rfl rfl rfl ?_
            refine .assign (.no rfl) rfl rfl rfl rfl ?_
            exact .fin (k65 + 1 + 1) (.of (.cons rfl (.cons rfl (.cons rfl (.cons rfl (.cons rfl (.cons rfl (.cons rfl .nil))))))) (.cons rfl (.cons rfl .nil)))
           intro g66
           refine .seq ?_
           refine .reg (X := Unit) (fun ζ => .of [(1, .one (.d (.sl false 69 3 (List.map Env.c69 (a))))), (2, .one (.d (.sl false 69 3 (List.map Env.c69 (b))))), (3, .one (.d (.sl false 2 1 (List.map i64c (l))))), (4, .one (.ptr [4] (g8) 0)), (10, .one (.d (.sl false 77 3 (List.map Env.c77 (Table.widenIn d a b l))))), (15, .one (.ref [59, 0] (g33))), (17, .one (.d (.v (.int .i64 (EnvS.marks 1 (Table.widenIn d a b l)))))), (18, .one (.d (.v (.int .i64 (1)))))] [([4], (g8, g8, .box [.d (.sl false 9 1 (List.map strc (d.vars))), .d (.sl false 9 1 (List.map strc (d.flags))), .d (.sl false 115 2 (List.map Arr.c (d.arrays)))])), ([59, 0], (g33, g66, .row 77 3 (List.map Env.co77 (EnvS.mark 1 (Table.widenIn d a b l)))))]) [⟨[], some 18, [], []⟩] (fun k67 => ?_) ?_
           ·skip
            refine .assign (.no rfl) rfl rfl rfl rfl ?_
            exact .fin () (.of (.cons rfl (.cons rfl (.cons rfl (.cons rfl (.cons rfl (.cons rfl (.cons rfl (.cons rfl .nil)))))))) (.cons rfl (.cons rfl .nil)))
           intro _
           refine .seq ?_
           refine .reg (X := Unit) (fun ζ => .of [(1, .one (.d (.sl false 69 3 (List.map Env.c69 (a))))), (2, .one (.d (.sl false 69 3 (List.map Env.c69 (b))))), (3, .one (.d (.sl false 2 1 (List.map i64c (l))))), (4, .one (.ptr [4] (g8) 0)), (10, .one (.d (.sl false 77 3 (List.map Env.c77 (Table.widenIn d a b l))))), (15, .one (.ref [59, 0] (g33))), (17, .one (.d (.v (.int .i64 (EnvS.marks 1 (Table.widenIn d a b l)))))), (18, .one (.d (.v (.int .i64 (EnvS.marks 1 (EnvS.mark 1 (Table.widenIn d a b l)))))))] [([4], (g8, g8, .box [.d (.sl false 9 1 (List.map strc (d.vars))), .d (.sl false 9 1 (List.map strc (d.flags))), .d (.sl false 115 2 (List.map Arr.c (d.arrays)))])), ([59, 0], (g33, g66, .row 77 3 (List.map Env.co77 (EnvS.mark 1 (Table.widenIn d a b l)))))]) [⟨[15], some 107, [], []⟩, ⟨[18], some 108, [], []⟩, ⟨[107, 108], some 109, [[59, 0]], []⟩, ⟨[109], some 18, [], []⟩] (fun k68 => ?_) ?_
           ·skip
            refine .move (.no rfl) rfl rfl rfl rfl ?_
            refine .move (.no rfl) rfl rfl rfl rfl ?_
            refine .call (.no rfl) rfl [[59, 0]] [([59, 0], (g33, g66, .row 77 3 (List.map Env.co77 (EnvS.mark 1 (Table.widenIn d a b l)))))] (c_heldEnvS (EnvS.mark 1 (Table.widenIn d a b l)) 1 (by first | assumption | omega | exact ⟨‹_›, ‹_›⟩ | (simp only [Decl.marks, Env.marks, Env.mark, mkAll_len]; omega) | exact EnvS.small_mark s9 | exact EnvS.marked _ _) (by first | assumption | omega | exact ⟨‹_›, ‹_›⟩ | (simp only [Decl.marks, Env.marks, Env.mark, mkAll_len]; omega) | exact EnvS.small_mark s9 | exact EnvS.marked _ _) (by first | assumption | omega | exact ⟨‹_›, ‹_›⟩ | (simp only [Decl.marks, Env.marks, Env.mark, mkAll_len]; omega) | exact EnvS.small_mark s9 | exact EnvS.marked _ _)) rfl rfl rfl rfl rfl (.cons (Reads.ref (Frz.of_erase (erase_slo _ _ _ _ _ _ Env.co77_e)) (.head _) (.head _)).gives (.cons (Reads.d _).gives .nil)) rfl rfl (fun _ => (ownCons (Owned.v _) ownNil)) (.own [109, 0] .nil) (.nil) rfl rfl rfl (AllH.get (.cons rfl .nil)) rfl rfl rfl ?_
            refine .assign (.no rfl) rfl rfl rfl rfl ?_
            exact .fin () (.of (.cons rfl (.cons rfl (.cons rfl (.cons rfl (.cons rfl (.cons rfl (.cons rfl (.cons rfl .nil)))))))) (.cons rfl (.cons rfl .nil)))
           intro _
           refine .seq ?_
           refine .seq ?_
           refine .reg (X := Unit) (fun ζ => .of [(1, .one (.d (.sl false 69 3 (List.map Env.c69 (a))))), (2, .one (.d (.sl false 69 3 (List.map Env.c69 (b))))), (3, .one (.d (.sl false 2 1 (List.map i64c (l))))), (4, .one (.ptr [4] (g8) 0)), (10, .one (.d (.sl false 77 3 (List.map Env.c77 (Table.widenIn d a b l))))), (15, .one (.ref [59, 0] (g33))), (17, .one (.d (.v (.int .i64 (EnvS.marks 1 (Table.widenIn d a b l)))))), (18, .one (.d (.v (.int .i64 (EnvS.marks 1 (EnvS.mark 1 (Table.widenIn d a b l))))))), (111, .one (.d (.v (.bool (decide ((EnvS.marks 1 (EnvS.mark 1 (Table.widenIn d a b l))) < 0))))))] [([4], (g8, g8, .box [.d (.sl false 9 1 (List.map strc (d.vars))), .d (.sl false 9 1 (List.map strc (d.flags))), .d (.sl false 115 2 (List.map Arr.c (d.arrays)))])), ([59, 0], (g33, g66, .row 77 3 (List.map Env.co77 (EnvS.mark 1 (Table.widenIn d a b l)))))]) [⟨[18], some 110, [], []⟩, ⟨[110], some 111, [], []⟩] (fun k69 => ?_) ?_
           ·skip
            refine .move (.no rfl) rfl rfl rfl rfl ?_
            refine .bin (.no rfl) rfl rfl rfl rfl rfl rfl ?_
            exact .fin () (.of (.cons rfl (.cons rfl (.cons rfl (.cons rfl (.cons rfl (.cons rfl (.cons rfl (.cons rfl (.cons rfl .nil))))))))) (.cons rfl (.cons rfl .nil)))
           intro _
           refine .cond (t := decide ((EnvS.marks 1 (EnvS.mark 1 (Table.widenIn d a b l))) < 0)) rfl (fun c10 => ?_) (fun c10 => ?_)
           ·have c10 := of_decide_eq_true c10
            refine .seq ?_
            refine .reg (X := Unit) (fun ζ => .of [(8, .one (.d (.v (.bool (false)))))] []) [⟨[], some 8, [], []⟩] (fun k70 => ?_) ?_
            ·skip
             refine .assign (.no rfl) rfl rfl rfl rfl ?_
             exact .fin () (.of (.cons rfl .nil) .nil)
            intro _
            refine .ret ?_
            have e71 : (false) = (true) := by first | exact absurd c10 (by rw [Env.same_self]; decide) | exact absurd c10 (by rw [all2_self intEq_self]; decide) | exact absurd c10 (by rw [Decl.same_self]; decide) | exact absurd c10 (by rw [all2_self Env.same_self]; decide) | exact absurd (EnvS.marks_mark _ _) c10 | (rcases c10 with h9 | h9 <;> first | exact (h9 trivial).elim | exact absurd rfl h9 | exact absurd h9 (by rw [all2_self Env.same_self]; decide) | (simp only [Decl.marks, Env.marks] at h9; omega) | omega) | omega | (rw [EnvS.marks_mark] at c10; omega)
            have hc72 := eq1 (fun z1 => SV.one (.d (.v (.bool (z1))))) e71
            show _ ∧ _
            exact ⟨.inr rfl, .done ⟨_, [], [], _, .one (c := .d (.v (.bool (true)))) (hc72) .nil, .cons (Reads.d _).gives .nil, nodupB_ok rfl, by simp, (by simp)⟩⟩
           ·have c10 := of_decide_eq_false c10
            refine .skip ?_
            refine .seq ?_
            refine .seq ?_
            refine .reg (X := Unit) (fun ζ => .of [(1, .one (.d (.sl false 69 3 (List.map Env.c69 (a))))), (2, .one (.d (.sl false 69 3 (List.map Env.c69 (b))))), (3, .one (.d (.sl false 2 1 (List.map i64c (l))))), (4, .one (.ptr [4] (g8) 0)), (10, .one (.d (.sl false 77 3 (List.map Env.c77 (Table.widenIn d a b l))))), (15, .one (.ref [59, 0] (g33))), (17, .one (.d (.v (.int .i64 (EnvS.marks 1 (Table.widenIn d a b l)))))), (114, .one (.d (.v (.bool ((EnvS.marks 1 (EnvS.mark 1 (Table.widenIn d a b l))) != (EnvS.marks 1 (Table.widenIn d a b l)))))))] [([4], (g8, g8, .box [.d (.sl false 9 1 (List.map strc (d.vars))), .d (.sl false 9 1 (List.map strc (d.flags))), .d (.sl false 115 2 (List.map Arr.c (d.arrays)))])), ([59, 0], (g33, g66, .row 77 3 (List.map Env.co77 (EnvS.mark 1 (Table.widenIn d a b l)))))]) [⟨[18], some 112, [], []⟩, ⟨[17], some 113, [], []⟩, ⟨[112, 113], some 114, [], []⟩] (fun k73 => ?_) ?_
            ·skip
             refine .move (.no rfl) rfl rfl rfl rfl ?_
             refine .move (.no rfl) rfl rfl rfl rfl ?_
             refine .bin (.no rfl) rfl rfl rfl rfl rfl rfl ?_
             exact .fin () (.of (.cons rfl (.cons rfl (.cons rfl (.cons rfl (.cons rfl (.cons rfl (.cons rfl (.cons rfl .nil)))))))) (.cons rfl (.cons rfl .nil)))
            intro _
            refine .cond (t := (EnvS.marks 1 (EnvS.mark 1 (Table.widenIn d a b l))) != (EnvS.marks 1 (Table.widenIn d a b l))) rfl (fun c11 => ?_) (fun c11 => ?_)
            ·have c11 := (by simpa using c11 : ¬ ((EnvS.marks 1 (EnvS.mark 1 (Table.widenIn d a b l))) = (EnvS.marks 1 (Table.widenIn d a b l))))
             refine .seq ?_
             refine .reg (X := Unit) (fun ζ => .of [(8, .one (.d (.v (.bool (false)))))] []) [⟨[], some 8, [], []⟩] (fun k74 => ?_) ?_
             ·skip
              refine .assign (.no rfl) rfl rfl rfl rfl ?_
              exact .fin () (.of (.cons rfl .nil) .nil)
             intro _
             refine .ret ?_
             have e75 : (false) = (true) := by first | exact absurd c11 (by rw [Env.same_self]; decide) | exact absurd c11 (by rw [all2_self intEq_self]; decide) | exact absurd c11 (by rw [Decl.same_self]; decide) | exact absurd c11 (by rw [all2_self Env.same_self]; decide) | exact absurd (EnvS.marks_mark _ _) c11 | (rcases c11 with h9 | h9 <;> first | exact (h9 trivial).elim | exact absurd rfl h9 | exact absurd h9 (by rw [all2_self Env.same_self]; decide) | (simp only [Decl.marks, Env.marks] at h9; omega) | omega) | omega | (rw [EnvS.marks_mark] at c11; omega)
             have hc76 := eq1 (fun z1 => SV.one (.d (.v (.bool (z1))))) e75
             show _ ∧ _
             exact ⟨.inr rfl, .done ⟨_, [], [], _, .one (c := .d (.v (.bool (true)))) (hc76) .nil, .cons (Reads.d _).gives .nil, nodupB_ok rfl, by simp, (by simp)⟩⟩
            ·have c11 := (by simpa using c11 : (EnvS.marks 1 (EnvS.mark 1 (Table.widenIn d a b l))) = (EnvS.marks 1 (Table.widenIn d a b l)))
             refine .skip ?_
             refine .seq ?_
             refine .reg (X := Nat) (fun ζ => .of [(10, .one (.d (.sl false 77 3 (List.map Env.c77 (Table.widenIn d a b l))))), (15, .one (.ref [59, 0] (g33))), (17, .one (.d (.v (.int .i64 (EnvS.marks 1 (Table.widenIn d a b l)))))), (19, .one (.ref [123, 0] (ζ)))] [([59, 0], (g33, g66, .row 77 3 (List.map Env.co77 (EnvS.mark 1 (Table.widenIn d a b l))))), ([123, 0], (ζ, ζ, .row 77 3 (List.map Env.co77 (Table.widenIn d a b l))))]) [⟨[4], some 115, [[4]], []⟩, ⟨[115], some 116, [], [[116, 0], [116, 1], [116, 2]]⟩, ⟨[1], some 117, [], []⟩, ⟨[117], some 118, [], [[118, 0]]⟩, ⟨[2], some 119, [], []⟩, ⟨[119], some 120, [], [[120, 0]]⟩, ⟨[3], some 121, [], []⟩, ⟨[121], some 122, [], [[122, 0]]⟩, ⟨[116, 118, 120, 122], some 123, [[116, 0], [116, 1], [116, 2], [118, 0], [120, 0], [122, 0]], [[123, 0]]⟩, ⟨[123], some 19, [], []⟩] (fun k77 => ?_) ?_
             ·skip
              refine .load (.no rfl) rfl t25 rfl rfl (.ptr _ _ _ _ _ rfl) rfl rfl rfl rfl ?_
              refine .call (.no rfl) rfl [] [] (c_toDecl d (by first | assumption | omega | exact ⟨‹_›, ‹_›⟩ | (simp only [Decl.marks, Env.marks, Env.mark, mkAll_len]; omega) | exact EnvS.small_mark s9 | exact EnvS.marked _ _)) rfl rfl rfl rfl rfl (.cons (Reads.d _).gives (.cons (Reads.d _).gives (.cons (Reads.d _).gives .nil))) rfl rfl (fun h => absurd rfl h) (.own [116, 0] (.own [116, 1] (.own [116, 2] .nil))) (.nil) rfl rfl rfl (by simp) rfl rfl rfl ?_
              refine .move (.no rfl) rfl rfl rfl rfl ?_
              refine .call (.no rfl) rfl [] [] (c_toEnvS a (by first | assumption | omega | exact ⟨‹_›, ‹_›⟩ | (simp only [Decl.marks, Env.marks, Env.mark, mkAll_len]; omega) | exact EnvS.small_mark s9 | exact EnvS.marked _ _) (by first | assumption | omega | exact ⟨‹_›, ‹_›⟩ | (simp only [Decl.marks, Env.marks, Env.mark, mkAll_len]; omega) | exact EnvS.small_mark s9 | exact EnvS.marked _ _)) rfl rfl rfl rfl rfl (.cons (Reads.d _).gives .nil) rfl rfl (fun h => absurd rfl h) (.own [118, 0] .nil) (.nil) rfl rfl rfl (by simp) rfl rfl rfl ?_
              refine .move (.no rfl) rfl rfl rfl rfl ?_
              refine .call (.no rfl) rfl [] [] (c_toEnvS b (by first | assumption | omega | exact ⟨‹_›, ‹_›⟩ | (simp only [Decl.marks, Env.marks, Env.mark, mkAll_len]; omega) | exact EnvS.small_mark s9 | exact EnvS.marked _ _) (by first | assumption | omega | exact ⟨‹_›, ‹_›⟩ | (simp only [Decl.marks, Env.marks, Env.mark, mkAll_len]; omega) | exact EnvS.small_mark s9 | exact EnvS.marked _ _)) rfl rfl rfl rfl rfl (.cons (Reads.d _).gives .nil) rfl rfl (fun h => absurd rfl h) (.own [120, 0] .nil) (.nil) rfl rfl rfl (by simp) rfl rfl rfl ?_
              refine .move (.no rfl) rfl rfl rfl rfl ?_
              refine .call (.no rfl) rfl [] [] (c_toInt64S l (by first | assumption | omega | exact ⟨‹_›, ‹_›⟩ | (simp only [Decl.marks, Env.marks, Env.mark, mkAll_len]; omega) | exact EnvS.small_mark s9 | exact EnvS.marked _ _)) rfl rfl rfl rfl rfl (.cons (Reads.d _).gives .nil) rfl rfl (fun h => absurd rfl h) (.own [122, 0] .nil) (.nil) rfl rfl rfl (by simp) rfl rfl rfl ?_
              refine .call (.no rfl) rfl [[116, 0], [116, 1], [116, 2], [118, 0], [120, 0], [122, 0]] [([116, 0], (k77 + 1, k77 + 1, .row 9 1 (List.map strc (d.vars)))), ([116, 1], (k77 + 1, k77 + 1, .row 9 1 (List.map strc (d.flags)))), ([116, 2], (k77 + 1, k77 + 1, .row 119 2 (List.map Arr.c (d.arrays)))), ([118, 0], (k77 + 1 + 1 + 1, k77 + 1 + 1 + 1, .row 77 3 (List.map Env.co77 (a)))), ([120, 0], (k77 + 1 + 1 + 1 + 1 + 1, k77 + 1 + 1 + 1 + 1 + 1, .row 77 3 (List.map Env.co77 (b)))), ([122, 0], (k77 + 1 + 1 + 1 + 1 + 1 + 1 + 1, k77 + 1 + 1 + 1 + 1 + 1 + 1 + 1, .row 2 1 (List.map i64c (l))))] (c_TableWiden d a b l (by first | assumption | omega | exact ⟨‹_›, ‹_›⟩ | (simp only [Decl.marks, Env.marks, Env.mark, mkAll_len]; omega) | exact EnvS.small_mark s9 | exact EnvS.marked _ _) (by first | assumption | omega | exact ⟨‹_›, ‹_›⟩ | (simp only [Decl.marks, Env.marks, Env.mark, mkAll_len]; omega) | exact EnvS.small_mark s9 | exact EnvS.marked _ _) (by first | assumption | omega | exact ⟨‹_›, ‹_›⟩ | (simp only [Decl.marks, Env.marks, Env.mark, mkAll_len]; omega) | exact EnvS.small_mark s9 | exact EnvS.marked _ _) (by first | assumption | omega | exact ⟨‹_›, ‹_›⟩ | (simp only [Decl.marks, Env.marks, Env.mark, mkAll_len]; omega) | exact EnvS.small_mark s9 | exact EnvS.marked _ _)) rfl rfl rfl rfl rfl (.cons (Reads.ref (Frz.of_erase (erase_slo _ _ _ _ _ _ strc_e)) (.head _) (.head _)).gives (.cons (Reads.ref (Frz.of_erase (erase_slo _ _ _ _ _ _ strc_e)) (.tail _ (.head _)) (.tail _ (.head _))).gives (.cons (Reads.ref (Frz.of_erase (erase_slo _ _ _ _ _ _ Arr.c_e)) (.tail _ (.tail _ (.head _))) (.tail _ (.tail _ (.head _)))).gives (.cons (Reads.ref (Frz.of_erase (erase_slo _ _ _ _ _ _ Env.co77_e)) (.tail _ (.tail _ (.tail _ (.head _)))) (.tail _ (.tail _ (.tail _ (.head _))))).gives (.cons (Reads.ref (Frz.of_erase (erase_slo _ _ _ _ _ _ Env.co77_e)) (.tail _ (.tail _ (.tail _ (.tail _ (.head _))))) (.tail _ (.tail _ (.tail _ (.tail _ (.head _)))))).gives (.cons (Reads.ref (Frz.of_erase (erase_slo _ _ _ _ _ _ i64c_e)) (.tail _ (.tail _ (.tail _ (.tail _ (.tail _ (.head _)))))) (.tail _ (.tail _ (.tail _ (.tail _ (.tail _ (.head _))))))).gives .nil)))))) rfl rfl (fun _ => (ownCons (Owned.map _ _ _ _ Env.co77_o) ownNil)) (.own [123, 0] .nil) (.nil) rfl rfl rfl (AllH.get (.cons rfl (.cons rfl (.cons rfl (.cons rfl (.cons rfl (.cons rfl .nil))))))) rfl rfl rfl ?_
              refine .assign (.no rfl) rfl rfl rfl rfl ?_
              exact .fin (k77 + 1 + 1 + 1 + 1 + 1 + 1 + 1 + 1) (.of (.cons rfl (.cons rfl (.cons rfl (.cons rfl .nil)))) (.cons rfl (.cons rfl .nil)))
             intro g78
             refine .seq ?_
             refine .seq ?_
             refine .reg (X := Unit) (fun ζ => .of [(15, .one (.ref [59, 0] (g33))), (17, .one (.d (.v (.int .i64 (EnvS.marks 1 (Table.widenIn d a b l)))))), (127, .one (.d (.v (.bool (!(all2 Env.same (Table.widenIn d a b l) (Table.widenIn d a b l)))))))] [([59, 0], (g33, g66, .row 77 3 (List.map Env.co77 (EnvS.mark 1 (Table.widenIn d a b l)))))]) [⟨[19], some 124, [], []⟩, ⟨[10], some 125, [], []⟩, ⟨[124, 125], some 126, [[123, 0]], []⟩, ⟨[126], some 127, [], []⟩] (fun k79 => ?_) ?_
             ·skip
              refine .move (.no rfl) rfl rfl rfl rfl ?_
              refine .move (.no rfl) rfl rfl rfl rfl ?_
              refine .call (.no rfl) rfl [[123, 0]] [([123, 0], (g78, g78, .row 77 3 (List.map Env.co77 (Table.widenIn d a b l))))] (c_eqEnvS (Table.widenIn d a b l) (Table.widenIn d a b l)) rfl rfl rfl rfl rfl (.cons (Reads.ref (Frz.of_erase (erase_slo _ _ _ _ _ _ Env.co77_e)) (.head _) (.head _)).gives (.cons (Reads.d _).gives .nil)) rfl rfl (fun _ => (ownCons (Owned.v _) ownNil)) (.own [126, 0] .nil) (.nil) rfl rfl rfl (AllH.get (.cons rfl .nil)) rfl rfl rfl ?_
              refine .un (.no rfl) rfl rfl rfl rfl rfl ?_
              exact .fin () (.of (.cons rfl (.cons rfl (.cons rfl .nil))) (.cons rfl .nil))
             intro _
             refine .cond (t := !(all2 Env.same (Table.widenIn d a b l) (Table.widenIn d a b l))) rfl (fun c12 => ?_) (fun c12 => ?_)
             ·have c12 := c12
              try simp only [Bool.or_eq_true, Bool.or_eq_false_iff, Bool.and_eq_true, Bool.and_eq_false_iff, decide_eq_true_eq, decide_eq_false_iff_not, Bool.not_eq_true', Bool.not_eq_false', bne_iff_ne, beq_iff_eq, bne_eq_false_iff_eq, beq_eq_false_iff_ne, ne_eq, Bool.not_eq_eq_eq_not, Bool.not_true, Bool.not_false] at c12
              refine .seq ?_
              refine .reg (X := Unit) (fun ζ => .of [(8, .one (.d (.v (.bool (false)))))] []) [⟨[], some 8, [], []⟩] (fun k80 => ?_) ?_
              ·skip
               refine .assign (.no rfl) rfl rfl rfl rfl ?_
               exact .fin () (.of (.cons rfl .nil) .nil)
              intro _
              refine .ret ?_
              have e81 : (false) = (true) := by first | exact absurd c12 (by rw [Env.same_self]; decide) | exact absurd c12 (by rw [all2_self intEq_self]; decide) | exact absurd c12 (by rw [Decl.same_self]; decide) | exact absurd c12 (by rw [all2_self Env.same_self]; decide) | exact absurd (EnvS.marks_mark _ _) c12 | (rcases c12 with h9 | h9 <;> first | exact (h9 trivial).elim | exact absurd rfl h9 | exact absurd h9 (by rw [all2_self Env.same_self]; decide) | (simp only [Decl.marks, Env.marks] at h9; omega) | omega) | omega | (rw [EnvS.marks_mark] at c12; omega)
              have hc82 := eq1 (fun z1 => SV.one (.d (.v (.bool (z1))))) e81
              show _ ∧ _
              exact ⟨.inr rfl, .done ⟨_, [], [], _, .one (c := .d (.v (.bool (true)))) (hc82) .nil, .cons (Reads.d _).gives .nil, nodupB_ok rfl, by simp, (by simp)⟩⟩
             ·have c12 := c12
              try simp only [Bool.or_eq_true, Bool.or_eq_false_iff, Bool.and_eq_true, Bool.and_eq_false_iff, decide_eq_true_eq, decide_eq_false_iff_not, Bool.not_eq_true', Bool.not_eq_false', bne_iff_ne, beq_iff_eq, bne_eq_false_iff_eq, beq_eq_false_iff_ne, ne_eq, Bool.not_eq_eq_eq_not, Bool.not_true, Bool.not_false] at c12
              refine .skip ?_
              refine .seq ?_
              refine .reg (X := Unit) (fun ζ => .of [(15, .one (.ref [59, 0] (g33))), (17, .one (.d (.v (.int .i64 (EnvS.marks 1 (Table.widenIn d a b l)))))), (18, .one (.d (.v (.int .i64 (1)))))] [([59, 0], (g33, g66, .row 77 3 (List.map Env.co77 (EnvS.mark 1 (Table.widenIn d a b l)))))]) [⟨[], some 18, [], []⟩] (fun k83 => ?_) ?_
              ·skip
               refine .assign (.no rfl) rfl rfl rfl rfl ?_
               exact .fin () (.of (.cons rfl (.cons rfl (.cons rfl .nil))) (.cons rfl .nil))
              intro _
              refine .seq ?_
              refine .reg (X := Unit) (fun ζ => .of [(17, .one (.d (.v (.int .i64 (EnvS.marks 1 (Table.widenIn d a b l)))))), (18, .one (.d (.v (.int .i64 (EnvS.marks 1 (EnvS.mark 1 (Table.widenIn d a b l)))))))] []) [⟨[15], some 128, [], []⟩, ⟨[18], some 129, [], []⟩, ⟨[128, 129], some 130, [[59, 0]], []⟩, ⟨[130], some 18, [], []⟩] (fun k84 => ?_) ?_
              ·skip
               refine .move (.no rfl) rfl rfl rfl rfl ?_
               refine .move (.no rfl) rfl rfl rfl rfl ?_
               refine .call (.no rfl) rfl [[59, 0]] [([59, 0], (g33, g66, .row 77 3 (List.map Env.co77 (EnvS.mark 1 (Table.widenIn d a b l)))))] (c_heldEnvS (EnvS.mark 1 (Table.widenIn d a b l)) 1 (by first | assumption | omega | exact ⟨‹_›, ‹_›⟩ | (simp only [Decl.marks, Env.marks, Env.mark, mkAll_len]; omega) | exact EnvS.small_mark s9 | exact EnvS.marked _ _) (by first | assumption | omega | exact ⟨‹_›, ‹_›⟩ | (simp only [Decl.marks, Env.marks, Env.mark, mkAll_len]; omega) | exact EnvS.small_mark s9 | exact EnvS.marked _ _) (by first | assumption | omega | exact ⟨‹_›, ‹_›⟩ | (simp only [Decl.marks, Env.marks, Env.mark, mkAll_len]; omega) | exact EnvS.small_mark s9 | exact EnvS.marked _ _)) rfl rfl rfl rfl rfl (.cons (Reads.ref (Frz.of_erase (erase_slo _ _ _ _ _ _ Env.co77_e)) (.head _) (.head _)).gives (.cons (Reads.d _).gives .nil)) rfl rfl (fun _ => (ownCons (Owned.v _) ownNil)) (.own [130, 0] .nil) (.nil) rfl rfl rfl (AllH.get (.cons rfl .nil)) rfl rfl rfl ?_
               refine .assign (.no rfl) rfl rfl rfl rfl ?_
               exact .fin () (.of (.cons rfl (.cons rfl .nil)) .nil)
              intro _
              refine .seq ?_
              refine .seq ?_
              refine .reg (X := Unit) (fun ζ => .of [(17, .one (.d (.v (.int .i64 (EnvS.marks 1 (Table.widenIn d a b l)))))), (18, .one (.d (.v (.int .i64 (EnvS.marks 1 (EnvS.mark 1 (Table.widenIn d a b l))))))), (132, .one (.d (.v (.bool (decide ((EnvS.marks 1 (EnvS.mark 1 (Table.widenIn d a b l))) < 0))))))] []) [⟨[18], some 131, [], []⟩, ⟨[131], some 132, [], []⟩] (fun k85 => ?_) ?_
              ·skip
               refine .move (.no rfl) rfl rfl rfl rfl ?_
               refine .bin (.no rfl) rfl rfl rfl rfl rfl rfl ?_
               exact .fin () (.of (.cons rfl (.cons rfl (.cons rfl .nil))) .nil)
              intro _
              refine .cond (t := decide ((EnvS.marks 1 (EnvS.mark 1 (Table.widenIn d a b l))) < 0)) rfl (fun c13 => ?_) (fun c13 => ?_)
              ·have c13 := of_decide_eq_true c13
               refine .seq ?_
               refine .reg (X := Unit) (fun ζ => .of [(8, .one (.d (.v (.bool (false)))))] []) [⟨[], some 8, [], []⟩] (fun k86 => ?_) ?_
               ·skip
                refine .assign (.no rfl) rfl rfl rfl rfl ?_
                exact .fin () (.of (.cons rfl .nil) .nil)
               intro _
               refine .ret ?_
               have e87 : (false) = (true) := by first | exact absurd c13 (by rw [Env.same_self]; decide) | exact absurd c13 (by rw [all2_self intEq_self]; decide) | exact absurd c13 (by rw [Decl.same_self]; decide) | exact absurd c13 (by rw [all2_self Env.same_self]; decide) | exact absurd (EnvS.marks_mark _ _) c13 | (rcases c13 with h9 | h9 <;> first | exact (h9 trivial).elim | exact absurd rfl h9 | exact absurd h9 (by rw [all2_self Env.same_self]; decide) | (simp only [Decl.marks, Env.marks] at h9; omega) | omega) | omega | (rw [EnvS.marks_mark] at c13; omega)
               have hc88 := eq1 (fun z1 => SV.one (.d (.v (.bool (z1))))) e87
               show _ ∧ _
               exact ⟨.inr rfl, .done ⟨_, [], [], _, .one (c := .d (.v (.bool (true)))) (hc88) .nil, .cons (Reads.d _).gives .nil, nodupB_ok rfl, by simp, (by simp)⟩⟩
              ·have c13 := of_decide_eq_false c13
               refine .skip ?_
               refine .seq ?_
               refine .seq ?_
               refine .reg (X := Unit) (fun ζ => .of [(135, .one (.d (.v (.bool ((EnvS.marks 1 (EnvS.mark 1 (Table.widenIn d a b l))) != (EnvS.marks 1 (Table.widenIn d a b l)))))))] []) [⟨[18], some 133, [], []⟩, ⟨[17], some 134, [], []⟩, ⟨[133, 134], some 135, [], []⟩] (fun k89 => ?_) ?_
               ·skip
                refine .move (.no rfl) rfl rfl rfl rfl ?_
                refine .move (.no rfl) rfl rfl rfl rfl ?_
                refine .bin (.no rfl) rfl rfl rfl rfl rfl rfl ?_
                exact .fin () (.of (.cons rfl .nil) .nil)
               intro _
               refine .cond (t := (EnvS.marks 1 (EnvS.mark 1 (Table.widenIn d a b l))) != (EnvS.marks 1 (Table.widenIn d a b l))) rfl (fun c14 => ?_) (fun c14 => ?_)
               ·have c14 := (by simpa using c14 : ¬ ((EnvS.marks 1 (EnvS.mark 1 (Table.widenIn d a b l))) = (EnvS.marks 1 (Table.widenIn d a b l))))
                refine .seq ?_
                refine .reg (X := Unit) (fun ζ => .of [(8, .one (.d (.v (.bool (false)))))] []) [⟨[], some 8, [], []⟩] (fun k90 => ?_) ?_
                ·skip
                 refine .assign (.no rfl) rfl rfl rfl rfl ?_
                 exact .fin () (.of (.cons rfl .nil) .nil)
                intro _
                refine .ret ?_
                have e91 : (false) = (true) := by first | exact absurd c14 (by rw [Env.same_self]; decide) | exact absurd c14 (by rw [all2_self intEq_self]; decide) | exact absurd c14 (by rw [Decl.same_self]; decide) | exact absurd c14 (by rw [all2_self Env.same_self]; decide) | exact absurd (EnvS.marks_mark _ _) c14 | (rcases c14 with h9 | h9 <;> first | exact (h9 trivial).elim | exact absurd rfl h9 | exact absurd h9 (by rw [all2_self Env.same_self]; decide) | (simp only [Decl.marks, Env.marks] at h9; omega) | omega) | omega | (rw [EnvS.marks_mark] at c14; omega)
                have hc92 := eq1 (fun z1 => SV.one (.d (.v (.bool (z1))))) e91
                show _ ∧ _
                exact ⟨.inr rfl, .done ⟨_, [], [], _, .one (c := .d (.v (.bool (true)))) (hc92) .nil, .cons (Reads.d _).gives .nil, nodupB_ok rfl, by simp, (by simp)⟩⟩
               ·have c14 := (by simpa using c14 : (EnvS.marks 1 (EnvS.mark 1 (Table.widenIn d a b l))) = (EnvS.marks 1 (Table.widenIn d a b l)))
                refine .skip ?_
                refine .seq ?_
                refine .reg (X := Unit) (fun ζ => .of [(8, .one (.d (.v (.bool (true)))))] []) [⟨[], some 8, [], []⟩] (fun k93 => ?_) ?_
                ·skip
                 refine .assign (.no rfl) rfl rfl rfl rfl ?_
                 exact .fin () (.of (.cons rfl .nil) .nil)
                intro _
                refine .ret ?_
                show _ ∧ _
                exact ⟨.inr rfl, .done ⟨_, [], [], _, .one rfl .nil, .cons (Reads.d _).gives .nil, nodupB_ok rfl, by simp, (by simp)⟩⟩
end Go.Proofs

/- Contracts of the program's functions at this seat, printed by a program of ours and checked by Lean: each under the conditions of its own statement. -/
import Derived.Test.YtimohcldmffcoaaGreatDoorF3
set_option linter.all false
set_option linter.unnecessarySimpa false
set_option linter.unusedSectionVars false
set_option linter.unusedSimpArgs false
set_option linter.unusedVariables false
namespace Go.Proofs
open Go Go.Proofs Go.Ev

def i144 : TI := ⟨.fn, 1, 8, [.nilFunc]⟩
theorem t144 : TyOk Tryz.prog 144 i144 := ⟨⟨_, _, _, Tryz.underlying144⟩, by kernel_rfl⟩
theorem z144 : ZOk Tryz.prog 144 i144 := ⟨t144, rfl⟩
theorem c_sPartsOk (d : Decl) (l : List Part) (hs : ∀ x ∈ Decl.names d, x.size ≤ 9223372036854775807) (hd : d.vars.length ≤ 1048576 ∧ d.flags.length ≤ 1048576 ∧ d.arrays.length ≤ 1048576) (hp : SmallP l) : Trip Tryz.prog 19 [(true, 3), (false, 1)] (Decl.c38 d ++ [.sl false 99 2 (List.map Part.c99 (l))]) [(false, 1)] [.v (.bool (Parts.ok d l))] [] := by
 refine Trip.of Tryz.func19 (by decide) (c := _) rfl rfl (shB_ok rfl) (Nat.le_of_ble_eq_true rfl) rfl (AftOk.nil _) ?_
 refine .satA (t := 0) (i := 0) rfl rfl (fun hs1 => ?_)
 have hs1l : d.vars.length ≤ 9223372036854775807 := hs1.maplen
 refine .satA (t := 0) (i := 1) rfl rfl (fun hs2 => ?_)
 have hs2l : d.flags.length ≤ 9223372036854775807 := hs2.maplen
 refine .satA (t := 0) (i := 2) rfl rfl (fun hs3 => ?_)
 have hs3l : d.arrays.length ≤ 9223372036854775807 := hs3.maplen
 refine .sat (t := 1) rfl (fun hs4 => ?_)
 have hs4l : l.length ≤ 9223372036854775807 := hs4.maplen
 refine .seq ?_
 refine .reg (X := Nat) (fun ζ => .of [(1, .one (.d (.sl false 99 2 (List.map Part.c99 (l))))), (2, .one (.ptr [2] (ζ) 0))] [([2], (ζ, ζ, .box [.d (.sl false 9 1 (List.map strc (d.vars))), .d (.sl false 9 1 (List.map strc (d.flags))), .d (.sl false 119 2 (List.map Arr.c (d.arrays)))]))]) [⟨[0], some 2, [], [[2]]⟩, ⟨[], some 4, [], []⟩] (fun k5 => ?_) ?_
 ·skip
  refine .box (.no rfl) rfl rfl rfl rfl rfl ?_
  refine .assign (.no rfl) rfl rfl rfl rfl ?_
  exact .fin k5 (.of (.cons rfl (.cons rfl .nil)) (.cons rfl .nil))
 intro g6
 refine .seq ?_
 refine .seq ?_
 refine .reg (X := Unit) (fun ζ => .of [(1, .one (.d (.sl false 99 2 (List.map Part.c99 (l))))), (2, .one (.ptr [2] (g6) 0)), (13, .one (.d (.v (.bool ((!(Decl.ok d) || decide ((l.length : Int) > 100)))))))] [([2], (g6, g6, .box [.d (.sl false 9 1 (List.map strc (d.vars))), .d (.sl false 9 1 (List.map strc (d.flags))), .d (.sl false 119 2 (List.map Arr.c (d.arrays)))]))]) [⟨[2], some 6, [[2]], []⟩, ⟨[6], some 7, [], []⟩, ⟨[7], some 8, [], []⟩, ⟨[8], some 9, [], []⟩, ⟨[9, 1], some 10, [], []⟩, ⟨[9, 10], some 11, [], []⟩, ⟨[9, 11], some 12, [], []⟩, ⟨[9, 12], some 13, [], []⟩] (fun k7 => ?_) ?_
 ·skip
  refine .load (.no rfl) rfl t38 rfl rfl (.ptr _ _ _ _ _ rfl) rfl rfl rfl rfl ?_
  refine .call (.no rfl) rfl [] [] (c_sDeclOk d (by first | assumption | exact (hp.2 _ (getD_mem (by omega))).2.2 | (simpa using g6_7) | (have h9 := of_decide_eq_true g6_10; exact Part.ok_tok (allTo_iff.1 hI.2.1 (j - 1) (by omega)))) (by first | assumption | exact (hp.2 _ (getD_mem (by omega))).2.2 | (simpa using g6_7) | (have h9 := of_decide_eq_true g6_10; exact Part.ok_tok (allTo_iff.1 hI.2.1 (j - 1) (by omega))))) rfl rfl rfl rfl rfl (.cons (Reads.d _).gives (.cons (Reads.d _).gives (.cons (Reads.d _).gives .nil))) rfl rfl (fun h => absurd rfl h) (.own [7, 0] .nil) (.nil) rfl rfl rfl (by simp) rfl rfl rfl ?_
  refine .un (.no rfl) rfl rfl rfl rfl rfl ?_
  refine .moveB (.no rfl) rfl rfl rfl rfl fun b8 g1_3 => ?_
  cases b8
  ·skip
   refine .move (.on rfl rfl rfl rfl rfl) rfl rfl rfl rfl ?_
   refine .len (.on rfl rfl rfl rfl rfl) rfl (z := (l.length : Int)) t51 rfl rfl rfl (.d _ _) (map_len _ _) rfl ?_
   refine .bin (.on rfl rfl rfl rfl rfl) rfl rfl rfl rfl rfl rfl ?_
   refine .pick (.no rfl) rfl rfl rfl rfl rfl ?_
   exact .fin () (.of (.cons rfl (.cons rfl (.cons (svB (show (decide ((l.length : Int) > 100)) = ((!(Decl.ok d) || decide ((l.length : Int) > 100))) by first | (simp only [g1_3, Bool.true_or, Bool.false_or, Bool.true_and, Bool.false_and, Bool.not_true, Bool.not_false]; done) | simp [g1_3])) .nil))) (.cons rfl .nil))
  ·skip
   refine .off rfl rfl rfl rfl rfl rfl rfl ?_
   refine .off rfl rfl rfl rfl rfl rfl rfl ?_
   refine .off rfl rfl rfl rfl rfl rfl rfl ?_
   refine .pick (.no rfl) rfl rfl rfl rfl rfl ?_
   exact .fin () (.of (.cons rfl (.cons rfl (.cons (svB (show (true) = ((!(Decl.ok d) || decide ((l.length : Int) > 100))) by first | (simp only [g1_3, Bool.true_or, Bool.false_or, Bool.true_and, Bool.false_and, Bool.not_true, Bool.not_false]; done) | simp [g1_3])) .nil))) (.cons rfl .nil))
 intro _
 refine .cond (t := (!(Decl.ok d) || decide ((l.length : Int) > 100))) rfl (fun c0 => ?_) (fun c0 => ?_)
 ·have c0 := c0
  try simp only [Bool.or_eq_true, Bool.or_eq_false_iff, Bool.and_eq_true, Bool.and_eq_false_iff, decide_eq_true_eq, decide_eq_false_iff_not, Bool.not_eq_true', Bool.not_eq_false', bne_iff_ne, beq_iff_eq, bne_eq_false_iff_eq, beq_eq_false_iff_ne, ne_eq, Bool.not_eq_eq_eq_not, Bool.not_true, Bool.not_false] at c0
  refine .seq ?_
  refine .reg (X := Unit) (fun ζ => .of [(4, .one (.d (.v (.bool (false)))))] []) [⟨[], some 4, [], []⟩] (fun k9 => ?_) ?_
  ·skip
   refine .assign (.no rfl) rfl rfl rfl rfl ?_
   exact .fin () (.of (.cons rfl .nil) .nil)
  intro _
  refine .ret ?_
  have e10 : (false) = (Parts.ok d l) := by (rw [Parts.ok_no c0])
  have hc11 := eq1 (fun z1 => SV.one (.d (.v (.bool (z1))))) e10
  show _ ∧ _
  exact ⟨.inr rfl, .done ⟨_, [], [], _, .one (c := .d (.v (.bool (Parts.ok d l)))) (hc11) .nil, .cons (Reads.d _).gives .nil, nodupB_ok rfl, by simp, (by simp)⟩⟩
 ·have c0 := c0
  try simp only [Bool.or_eq_true, Bool.or_eq_false_iff, Bool.and_eq_true, Bool.and_eq_false_iff, decide_eq_true_eq, decide_eq_false_iff_not, Bool.not_eq_true', Bool.not_eq_false', bne_iff_ne, beq_iff_eq, bne_eq_false_iff_eq, beq_eq_false_iff_ne, ne_eq, Bool.not_eq_eq_eq_not, Bool.not_true, Bool.not_false] at c0
  refine .skip ?_
  refine .seq ?_
  refine .seq ?_
  refine .reg (X := Unit) (fun ζ => .of [(1, .one (.d (.sl false 99 2 (List.map Part.c99 (l))))), (2, .one (.ptr [2] (g6) 0)), (5, .one (.d (.v (.int .i64 (0)))))] [([2], (g6, g6, .box [.d (.sl false 9 1 (List.map strc (d.vars))), .d (.sl false 9 1 (List.map strc (d.flags))), .d (.sl false 119 2 (List.map Arr.c (d.arrays)))]))]) [⟨[], some 5, [], []⟩] (fun k12 => ?_) ?_
  ·skip
   refine .assign (.no rfl) rfl rfl rfl rfl ?_
   exact .fin () (.of (.cons rfl (.cons rfl (.cons rfl .nil))) (.cons rfl .nil))
  intro _
  refine .block ?_
  refine .loop (X := Nat) (fun ζ => .of [(1, .one (.d (.sl false 99 2 (List.map Part.c99 (l))))), (2, .one (.ptr [2] (g6) 0)), (5, .one (.d (.v (.int .i64 ((ζ : Int))))))] [([2], (g6, g6, .box [.d (.sl false 9 1 (List.map strc (d.vars))), .d (.sl false 9 1 (List.map strc (d.flags))), .d (.sl false 119 2 (List.map Arr.c (d.arrays)))]))]) (fun ζ => ζ ≤ l.length ∧ allTo ζ (fun i => Part.ok d (l.getD i default)) = true ∧ risesTo l ζ = true) (fun ζ => l.length - ζ) ?_ ?_
  ·skip
   exact .here 0 (.of (.cons rfl (.cons rfl (.cons (svI (show (0) = ((0 : Int)) by first | rfl | omega | exact wrap_le (by omega) (by omega) | (rw [wrap_le (by omega) (by omega)]; omega))) .nil))) (.cons rfl .nil)) (show 0 ≤ l.length ∧ allTo 0 (fun i => Part.ok d (l.getD i default)) = true ∧ risesTo l 0 = true by exact ⟨by omega, rfl, rfl⟩)
  ·rintro j hI
   have hI : j ≤ l.length ∧ allTo j (fun i => Part.ok d (l.getD i default)) = true ∧ risesTo l j = true := hI
   refine .seq ?_
   refine .seq ?_
   refine .reg (X := Unit) (fun ζ => .of [(1, .one (.d (.sl false 99 2 (List.map Part.c99 (l))))), (2, .one (.ptr [2] (g6) 0)), (5, .one (.d (.v (.int .i64 ((j : Int)))))), (17, .one (.d (.v (.bool (decide ((j : Int) < (l.length : Int)))))))] [([2], (g6, g6, .box [.d (.sl false 9 1 (List.map strc (d.vars))), .d (.sl false 9 1 (List.map strc (d.flags))), .d (.sl false 119 2 (List.map Arr.c (d.arrays)))]))]) [⟨[5], some 14, [], []⟩, ⟨[1], some 15, [], []⟩, ⟨[15], some 16, [], []⟩, ⟨[14, 16], some 17, [], []⟩] (fun k13 => ?_) ?_
   ·skip
    refine .move (.no rfl) rfl rfl rfl rfl ?_
    refine .move (.no rfl) rfl rfl rfl rfl ?_
    refine .len (.no rfl) rfl (z := (l.length : Int)) t51 rfl rfl rfl (.d _ _) (map_len _ _) rfl ?_
    refine .bin (.no rfl) rfl rfl rfl rfl rfl rfl ?_
    exact .fin () (.of (.cons rfl (.cons rfl (.cons rfl (.cons rfl .nil)))) (.cons rfl .nil))
   intro _
   refine .cond (t := decide ((j : Int) < (l.length : Int))) rfl (fun c1 => ?_) (fun c1 => ?_)
   ·have c1 := of_decide_eq_true c1
    refine .skip ?_
    refine .seq ?_
    refine .block ?_
    refine .seq ?_
    refine .regD (X := Unit) (by kernel_rfl) (fun ζ => .of [(1, .one (.d (.sl false 99 2 (List.map Part.c99 (l))))), (2, .one (.ptr [2] (g6) 0)), (5, .one (.d (.v (.int .i64 ((j : Int)))))), (64, .one (.d (.v (.bool ((((!(tokOk ((l.getD j default).token)) || (decide ((j : Int) > 0) && decide ((tokCmp ((l.getD (j - 1) default).token) ((l.getD j default).token)) ≥ 0))) || !(Table.ok d ((l.getD j default).table))) || !(((l.getD j default).table).any Env.live)))))))] [([2], (g6, g6, .box [.d (.sl false 9 1 (List.map strc (d.vars))), .d (.sl false 9 1 (List.map strc (d.flags))), .d (.sl false 119 2 (List.map Arr.c (d.arrays)))]))]) [⟨[1], some 20, [], []⟩, ⟨[5], some 21, [], []⟩, ⟨[20, 21], some 22, [], []⟩, ⟨[22], some 23, [], []⟩, ⟨[23], some 24, [], []⟩, ⟨[24], some 25, [], []⟩, ⟨[25], some 26, [], []⟩, ⟨[26], some 27, [], []⟩, ⟨[27, 5], some 28, [], []⟩, ⟨[27, 28], some 29, [], []⟩, ⟨[27, 29], some 30, [], []⟩, ⟨[30, 1], some 31, [], []⟩, ⟨[30, 5], some 32, [], []⟩, ⟨[30, 32], some 33, [], []⟩, ⟨[30, 31, 33], some 34, [], []⟩, ⟨[30, 34], some 35, [], []⟩, ⟨[30, 35], some 36, [], []⟩, ⟨[30, 1], some 37, [], []⟩, ⟨[30, 5], some 38, [], []⟩, ⟨[30, 37, 38], some 39, [], []⟩, ⟨[30, 39], some 40, [], []⟩, ⟨[30, 40], some 41, [], []⟩, ⟨[30, 36, 41], some 42, [], []⟩, ⟨[30, 42], some 43, [], []⟩, ⟨[27, 30, 43], some 44, [], []⟩, ⟨[27, 44], some 45, [], []⟩, ⟨[45], some 46, [], []⟩, ⟨[46, 2], some 47, [[2]], []⟩, ⟨[46, 1], some 48, [], []⟩, ⟨[46, 5], some 49, [], []⟩, ⟨[46, 48, 49], some 50, [], []⟩, ⟨[46, 50], some 51, [], []⟩, ⟨[46, 51], some 52, [], []⟩, ⟨[46, 47, 52], some 53, [], []⟩, ⟨[46, 53], some 54, [], []⟩, ⟨[46, 54], some 55, [], []⟩, ⟨[55], some 56, [], []⟩, ⟨[56, 1], some 57, [], []⟩, ⟨[56, 5], some 58, [], []⟩, ⟨[56, 57, 58], some 59, [], []⟩, ⟨[56, 59], some 60, [], []⟩, ⟨[56, 60], some 61, [], []⟩, ⟨[56, 61], some 62, [], []⟩, ⟨[56, 62], some 63, [], []⟩, ⟨[56, 63], some 64, [], []⟩] (by kernel_rfl) (fun k14 => ?_) ?_
    ·skip
     refine .move (.no rfl) rfl rfl rfl rfl ?_
     refine .move (.no rfl) rfl rfl rfl rfl ?_
     refine .indexAddr (.no rfl) rfl (j) t51 rfl t99 rfl rfl rfl (.d _ _) rfl rfl rfl (map_get (by omega)) rfl rfl ?_
     refine .fieldAddr (.no rfl) rfl t99 rfl rfl t97 rfl rfl rfl rfl [] (by simp) (by intro _ _ _ h; cases h) rfl rfl ?_
     refine .load (.no rfl) rfl t97 rfl rfl (.d _) rfl rfl rfl rfl ?_
     refine .call (.no rfl) rfl [] [] (c_sTokenOk ((l.getD j default).token)) rfl rfl rfl rfl rfl (.cons (Reads.d _).gives .nil) rfl rfl (fun h => absurd rfl h) (.own [25, 0] .nil) (.nil) rfl rfl rfl (by simp) rfl rfl rfl ?_
     refine .un (.no rfl) rfl rfl rfl rfl rfl ?_
     refine .moveB (.no rfl) rfl rfl rfl rfl fun b15 g6_7 => ?_
     cases b15
     ·skip
      refine .move (.on rfl rfl rfl rfl rfl) rfl rfl rfl rfl ?_
      refine .bin (.on rfl rfl rfl rfl rfl) rfl rfl rfl rfl rfl rfl ?_
      refine .moveB (.on rfl rfl rfl rfl rfl) rfl rfl rfl rfl fun b16 g6_10 => ?_
      cases b16
      ·skip
       refine .off rfl rfl rfl rfl rfl rfl rfl ?_
       refine .off rfl rfl rfl rfl rfl rfl rfl ?_
       refine .off rfl rfl rfl rfl rfl rfl rfl ?_
       refine .off rfl rfl rfl rfl rfl rfl rfl ?_
       refine .off rfl rfl rfl rfl rfl rfl rfl ?_
       refine .off rfl rfl rfl rfl rfl rfl rfl ?_
       refine .off rfl rfl rfl rfl rfl rfl rfl ?_
       refine .off rfl rfl rfl rfl rfl rfl rfl ?_
       refine .off rfl rfl rfl rfl rfl rfl rfl ?_
       refine .off rfl rfl rfl rfl rfl rfl rfl ?_
       refine .off rfl rfl rfl rfl rfl rfl rfl ?_
       refine .off rfl rfl rfl rfl rfl rfl rfl ?_
       refine .off rfl rfl rfl rfl rfl rfl rfl ?_
       refine .pick (.on rfl rfl rfl rfl rfl) rfl rfl rfl rfl rfl ?_
       refine .pick (.no rfl) rfl rfl rfl rfl rfl ?_
       refine .move (.no rfl) rfl rfl rfl rfl ?_
       refine .load (.on rfl rfl rfl rfl rfl) rfl t38 rfl rfl (.ptr _ _ _ _ _ rfl) rfl rfl rfl rfl ?_
       refine .move (.on rfl rfl rfl rfl rfl) rfl rfl rfl rfl ?_
       refine .move (.on rfl rfl rfl rfl rfl) rfl rfl rfl rfl ?_
       refine .indexAddr (.on rfl rfl rfl rfl rfl) rfl (j) t51 rfl t99 rfl rfl rfl (.d _ _) rfl rfl rfl (map_get (by omega)) rfl rfl ?_
       refine .fieldAddr (.on rfl rfl rfl rfl rfl) rfl t99 rfl rfl t40 rfl rfl rfl rfl [] (by simp) (by intro _ _ _ h; cases h) rfl rfl ?_
       refine .load (.on rfl rfl rfl rfl rfl) rfl t40 rfl rfl (.d _) rfl rfl rfl rfl ?_
       refine .call (.on rfl rfl rfl rfl rfl) rfl [] [] (c_sTableOk d ((l.getD j default).table) (by first | assumption | exact (hp.2 _ (getD_mem (by omega))).2.2 | (simpa using g6_7) | (have h9 := of_decide_eq_true g6_10; exact Part.ok_tok (allTo_iff.1 hI.2.1 (j - 1) (by omega)))) (by first | assumption | exact (hp.2 _ (getD_mem (by omega))).2.2 | (simpa using g6_7) | (have h9 := of_decide_eq_true g6_10; exact Part.ok_tok (allTo_iff.1 hI.2.1 (j - 1) (by omega)))) (by first | assumption | exact (hp.2 _ (getD_mem (by omega))).2.2 | (simpa using g6_7) | (have h9 := of_decide_eq_true g6_10; exact Part.ok_tok (allTo_iff.1 hI.2.1 (j - 1) (by omega))))) rfl rfl rfl rfl rfl (.cons (Reads.d _).gives (.cons (Reads.d _).gives (.cons (Reads.d _).gives (.cons (Reads.d _).gives .nil)))) rfl rfl (fun h => absurd rfl h) (.own [53, 0] .nil) (.nil) rfl rfl rfl (by simp) rfl rfl rfl ?_
       refine .un (.on rfl rfl rfl rfl rfl) rfl rfl rfl rfl rfl ?_
       refine .pick (.no rfl) rfl rfl rfl rfl rfl ?_
       refine .moveB (.no rfl) rfl rfl rfl rfl fun b17 g6_36 => ?_
       cases b17
       ·skip
        refine .move (.on rfl rfl rfl rfl rfl) rfl rfl rfl rfl ?_
        refine .move (.on rfl rfl rfl rfl rfl) rfl rfl rfl rfl ?_
        refine .indexAddr (.on rfl rfl rfl rfl rfl) rfl (j) t51 rfl t99 rfl rfl rfl (.d _ _) rfl rfl rfl (map_get (by omega)) rfl rfl ?_
        refine .fieldAddr (.on rfl rfl rfl rfl rfl) rfl t99 rfl rfl t40 rfl rfl rfl rfl [] (by simp) (by intro _ _ _ h; cases h) rfl rfl ?_
        refine .load (.on rfl rfl rfl rfl rfl) rfl t40 rfl rfl (.d _) rfl rfl rfl rfl ?_
        refine .call (.on rfl rfl rfl rfl rfl) rfl [] [] (c_l9Live ((l.getD j default).table)) rfl rfl rfl rfl rfl (.cons (Reads.d _).gives .nil) rfl rfl (fun h => absurd rfl h) (.own [62, 0] .nil) (.nil) rfl rfl rfl (by simp) rfl rfl rfl ?_
        refine .un (.on rfl rfl rfl rfl rfl) rfl rfl rfl rfl rfl ?_
        refine .pick (.no rfl) rfl rfl rfl rfl rfl ?_
        exact .fin () (.of (.cons rfl (.cons rfl (.cons rfl (.cons (svB (show (!(((l.getD j default).table).any Env.live)) = ((((!(tokOk ((l.getD j default).token)) || (decide ((j : Int) > 0) && decide ((tokCmp ((l.getD (j - 1) default).token) ((l.getD j default).token)) ≥ 0))) || !(Table.ok d ((l.getD j default).table))) || !(((l.getD j default).table).any Env.live))) by first | (simp only [g6_7, g6_10, g6_36, Bool.true_or, Bool.false_or, Bool.true_and, Bool.false_and, Bool.not_true, Bool.not_false]; done) | simp [g6_7, g6_10, g6_36])) .nil)))) (.cons rfl .nil))
       ·skip
        refine .off rfl rfl rfl rfl rfl rfl rfl ?_
        refine .off rfl rfl rfl rfl rfl rfl rfl ?_
        refine .off rfl rfl rfl rfl rfl rfl rfl ?_
        refine .off rfl rfl rfl rfl rfl rfl rfl ?_
        refine .off rfl rfl rfl rfl rfl rfl rfl ?_
        refine .off rfl rfl rfl rfl rfl rfl rfl ?_
        refine .off rfl rfl rfl rfl rfl rfl rfl ?_
        refine .pick (.no rfl) rfl rfl rfl rfl rfl ?_
        exact .fin () (.of (.cons rfl (.cons rfl (.cons rfl (.cons (svB (show (true) = ((((!(tokOk ((l.getD j default).token)) || (decide ((j : Int) > 0) && decide ((tokCmp ((l.getD (j - 1) default).token) ((l.getD j default).token)) ≥ 0))) || !(Table.ok d ((l.getD j default).table))) || !(((l.getD j default).table).any Env.live))) by first | (simp only [g6_7, g6_10, g6_36, Bool.true_or, Bool.false_or, Bool.true_and, Bool.false_and, Bool.not_true, Bool.not_false]; done) | simp [g6_7, g6_10, g6_36])) .nil)))) (.cons rfl .nil))
      ·skip
       refine .move (.on rfl rfl rfl rfl rfl) rfl rfl rfl rfl ?_
       refine .move (.on rfl rfl rfl rfl rfl) rfl rfl rfl rfl ?_
       refine .bin (.on rfl rfl rfl rfl rfl) rfl rfl rfl rfl rfl rfl ?_
       refine .indexAddr (.on rfl rfl rfl rfl rfl) rfl ((j - 1)) t51 rfl t99 rfl rfl rfl (.d _ _) rfl rfl (by (have h9 := of_decide_eq_true g6_10; rw [wrap_le (by omega) (by omega)]; omega)) (map_get (by omega)) rfl rfl ?_
       refine .fieldAddr (.on rfl rfl rfl rfl rfl) rfl t99 rfl rfl t97 rfl rfl rfl rfl [] (by simp) (by intro _ _ _ h; cases h) rfl rfl ?_
       refine .load (.on rfl rfl rfl rfl rfl) rfl t97 rfl rfl (.d _) rfl rfl rfl rfl ?_
       refine .move (.on rfl rfl rfl rfl rfl) rfl rfl rfl rfl ?_
       refine .move (.on rfl rfl rfl rfl rfl) rfl rfl rfl rfl ?_
       refine .indexAddr (.on rfl rfl rfl rfl rfl) rfl (j) t51 rfl t99 rfl rfl rfl (.d _ _) rfl rfl rfl (map_get (by omega)) rfl rfl ?_
       refine .fieldAddr (.on rfl rfl rfl rfl rfl) rfl t99 rfl rfl t97 rfl rfl rfl rfl [] (by simp) (by intro _ _ _ h; cases h) rfl rfl ?_
       refine .load (.on rfl rfl rfl rfl rfl) rfl t97 rfl rfl (.d _) rfl rfl rfl rfl ?_
       refine .call (.on rfl rfl rfl rfl rfl) rfl [] [] (c_l9Cmp ((l.getD (j - 1) default).token) ((l.getD j default).token) (by first | assumption | exact (hp.2 _ (getD_mem (by omega))).2.2 | (simpa using g6_7) | (have h9 := of_decide_eq_true g6_10; exact Part.ok_tok (allTo_iff.1 hI.2.1 (j - 1) (by omega)))) (by first | assumption | exact (hp.2 _ (getD_mem (by omega))).2.2 | (simpa using g6_7) | (have h9 := of_decide_eq_true g6_10; exact Part.ok_tok (allTo_iff.1 hI.2.1 (j - 1) (by omega))))) rfl rfl rfl rfl rfl (.cons (Reads.d _).gives (.cons (Reads.d _).gives .nil)) rfl rfl (fun h => absurd rfl h) (.own [42, 0] .nil) (.nil) rfl rfl rfl (by simp) rfl rfl rfl ?_
       refine .bin (.on rfl rfl rfl rfl rfl) rfl rfl rfl rfl rfl rfl ?_
       refine .pick (.on rfl rfl rfl rfl rfl) rfl rfl rfl rfl rfl ?_
       refine .pick (.no rfl) rfl rfl rfl rfl rfl ?_
       refine .moveB (.no rfl) rfl rfl rfl rfl fun b18 g6_26 => ?_
       cases b18
       ·skip
        refine .load (.on rfl rfl rfl rfl rfl) rfl t38 rfl rfl (.ptr _ _ _ _ _ rfl) rfl rfl rfl rfl ?_
        refine .move (.on rfl rfl rfl rfl rfl) rfl rfl rfl rfl ?_
        refine .move (.on rfl rfl rfl rfl rfl) rfl rfl rfl rfl ?_
        refine .indexAddr (.on rfl rfl rfl rfl rfl) rfl (j) t51 rfl t99 rfl rfl rfl (.d _ _) rfl rfl rfl (map_get (by omega)) rfl rfl ?_
        refine .fieldAddr (.on rfl rfl rfl rfl rfl) rfl t99 rfl rfl t40 rfl rfl rfl rfl [] (by simp) (by intro _ _ _ h; cases h) rfl rfl ?_
        refine .load (.on rfl rfl rfl rfl rfl) rfl t40 rfl rfl (.d _) rfl rfl rfl rfl ?_
        refine .call (.on rfl rfl rfl rfl rfl) rfl [] [] (c_sTableOk d ((l.getD j default).table) (by first | assumption | exact (hp.2 _ (getD_mem (by omega))).2.2 | (simpa using g6_7) | (have h9 := of_decide_eq_true g6_10; exact Part.ok_tok (allTo_iff.1 hI.2.1 (j - 1) (by omega)))) (by first | assumption | exact (hp.2 _ (getD_mem (by omega))).2.2 | (simpa using g6_7) | (have h9 := of_decide_eq_true g6_10; exact Part.ok_tok (allTo_iff.1 hI.2.1 (j - 1) (by omega)))) (by first | assumption | exact (hp.2 _ (getD_mem (by omega))).2.2 | (simpa using g6_7) | (have h9 := of_decide_eq_true g6_10; exact Part.ok_tok (allTo_iff.1 hI.2.1 (j - 1) (by omega))))) rfl rfl rfl rfl rfl (.cons (Reads.d _).gives (.cons (Reads.d _).gives (.cons (Reads.d _).gives (.cons (Reads.d _).gives .nil)))) rfl rfl (fun h => absurd rfl h) (.own [53, 0] .nil) (.nil) rfl rfl rfl (by simp) rfl rfl rfl ?_
        refine .un (.on rfl rfl rfl rfl rfl) rfl rfl rfl rfl rfl ?_
        refine .pick (.no rfl) rfl rfl rfl rfl rfl ?_
        refine .moveB (.no rfl) rfl rfl rfl rfl fun b19 g6_36 => ?_
        cases b19
        ·skip
         refine .move (.on rfl rfl rfl rfl rfl) rfl rfl rfl rfl ?_
         refine .move (.on rfl rfl rfl rfl rfl) rfl rfl rfl rfl ?_
         refine .indexAddr (.on rfl rfl rfl rfl rfl) rfl (j) t51 rfl t99 rfl rfl rfl (.d _ _) rfl rfl rfl (map_get (by omega)) rfl rfl ?_
         refine .fieldAddr (.on rfl rfl rfl rfl rfl) rfl t99 rfl rfl t40 rfl rfl rfl rfl [] (by simp) (by intro _ _ _ h; cases h) rfl rfl ?_
         refine .load (.on rfl rfl rfl rfl rfl) rfl t40 rfl rfl (.d _) rfl rfl rfl rfl ?_
         refine .call (.on rfl rfl rfl rfl rfl) rfl [] [] (c_l9Live ((l.getD j default).table)) rfl rfl rfl rfl rfl (.cons (Reads.d _).gives .nil) rfl rfl (fun h => absurd rfl h) (.own [62, 0] .nil) (.nil) rfl rfl rfl (by simp) rfl rfl rfl ?_
         refine .un (.on rfl rfl rfl rfl rfl) rfl rfl rfl rfl rfl ?_
         refine .pick (.no rfl) rfl rfl rfl rfl rfl ?_
         exact .fin () (.of (.cons rfl (.cons rfl (.cons rfl (.cons (svB (show (!(((l.getD j default).table).any Env.live)) = ((((!(tokOk ((l.getD j default).token)) || (decide ((j : Int) > 0) && decide ((tokCmp ((l.getD (j - 1) default).token) ((l.getD j default).token)) ≥ 0))) || !(Table.ok d ((l.getD j default).table))) || !(((l.getD j default).table).any Env.live))) by first | (simp only [g6_7, g6_10, g6_26, g6_36, Bool.true_or, Bool.false_or, Bool.true_and, Bool.false_and, Bool.not_true, Bool.not_false]; done) | simp [g6_7, g6_10, g6_26, g6_36])) .nil)))) (.cons rfl .nil))
        ·skip
         refine .off rfl rfl rfl rfl rfl rfl rfl ?_
         refine .off rfl rfl rfl rfl rfl rfl rfl ?_
         refine .off rfl rfl rfl rfl rfl rfl rfl ?_
         refine .off rfl rfl rfl rfl rfl rfl rfl ?_
         refine .off rfl rfl rfl rfl rfl rfl rfl ?_
         refine .off rfl rfl rfl rfl rfl rfl rfl ?_
         refine .off rfl rfl rfl rfl rfl rfl rfl ?_
         refine .pick (.no rfl) rfl rfl rfl rfl rfl ?_
         exact .fin () (.of (.cons rfl (.cons rfl (.cons rfl (.cons (svB (show (true) = ((((!(tokOk ((l.getD j default).token)) || (decide ((j : Int) > 0) && decide ((tokCmp ((l.getD (j - 1) default).token) ((l.getD j default).token)) ≥ 0))) || !(Table.ok d ((l.getD j default).table))) || !(((l.getD j default).table).any Env.live))) by first | (simp only [g6_7, g6_10, g6_26, g6_36, Bool.true_or, Bool.false_or, Bool.true_and, Bool.false_and, Bool.not_true, Bool.not_false]; done) | simp [g6_7, g6_10, g6_26, g6_36])) .nil)))) (.cons rfl .nil))
       ·skip
        refine .off rfl rfl rfl rfl rfl rfl rfl ?_
        refine .off rfl rfl rfl rfl rfl rfl rfl ?_
        refine .off rfl rfl rfl rfl rfl rfl rfl ?_
        refine .off rfl rfl rfl rfl rfl rfl rfl ?_
        refine .off rfl rfl rfl rfl rfl rfl rfl ?_
        refine .off rfl rfl rfl rfl rfl rfl rfl ?_
        refine .off rfl rfl rfl rfl rfl rfl rfl ?_
        refine .off rfl rfl rfl rfl rfl rfl rfl ?_
        refine .pick (.no rfl) rfl rfl rfl rfl rfl ?_
        refine .move (.no rfl) rfl rfl rfl rfl ?_
        refine .off rfl rfl rfl rfl rfl rfl rfl ?_
        refine .off rfl rfl rfl rfl rfl rfl rfl ?_
        refine .off rfl rfl rfl rfl rfl rfl rfl ?_
        refine .off rfl rfl rfl rfl rfl rfl rfl ?_
        refine .off rfl rfl rfl rfl rfl rfl rfl ?_
        refine .off rfl rfl rfl rfl rfl rfl rfl ?_
        refine .off rfl rfl rfl rfl rfl rfl rfl ?_
        refine .pick (.no rfl) rfl rfl rfl rfl rfl ?_
        exact .fin () (.of (.cons rfl (.cons rfl (.cons rfl (.cons (svB (show (true) = ((((!(tokOk ((l.getD j default).token)) || (decide ((j : Int) > 0) && decide ((tokCmp ((l.getD (j - 1) default).token) ((l.getD j default).token)) ≥ 0))) || !(Table.ok d ((l.getD j default).table))) || !(((l.getD j default).table).any Env.live))) by first | (simp only [g6_7, g6_10, g6_26, Bool.true_or, Bool.false_or, Bool.true_and, Bool.false_and, Bool.not_true, Bool.not_false]; done) | simp [g6_7, g6_10, g6_26])) .nil)))) (.cons rfl .nil))
     ·skip
      refine .off rfl rfl rfl rfl rfl rfl rfl ?_
      refine .off rfl rfl rfl rfl rfl rfl rfl ?_
      refine .off rfl rfl rfl rfl rfl rfl rfl ?_
      refine .off' rfl rfl rfl rfl rfl rfl ?_
      refine .off' rfl rfl rfl rfl rfl rfl ?_
      refine .off' rfl rfl rfl rfl rfl rfl ?_
      refine .off' rfl rfl rfl rfl rfl rfl ?_
      refine .off' rfl rfl rfl rfl rfl rfl ?_
      refine .off' rfl rfl rfl rfl rfl rfl ?_
      refine .off' rfl rfl rfl rfl rfl rfl ?_
      refine .off' rfl rfl rfl rfl rfl rfl ?_
      refine .off' rfl rfl rfl rfl rfl rfl ?_
      refine .off' rfl rfl rfl rfl rfl rfl ?_
      refine .off' rfl rfl rfl rfl rfl rfl ?_
      refine .off' rfl rfl rfl rfl rfl rfl ?_
      refine .off' rfl rfl rfl rfl rfl rfl ?_
      refine .off rfl rfl rfl rfl rfl rfl rfl ?_
      refine .pick (.no rfl) rfl rfl rfl rfl rfl ?_
      refine .move (.no rfl) rfl rfl rfl rfl ?_
      refine .off rfl rfl rfl rfl rfl rfl rfl ?_
      refine .off rfl rfl rfl rfl rfl rfl rfl ?_
      refine .off rfl rfl rfl rfl rfl rfl rfl ?_
      refine .off rfl rfl rfl rfl rfl rfl rfl ?_
      refine .off rfl rfl rfl rfl rfl rfl rfl ?_
      refine .off rfl rfl rfl rfl rfl rfl rfl ?_
      refine .off rfl rfl rfl rfl rfl rfl rfl ?_
      refine .off rfl rfl rfl rfl rfl rfl rfl ?_
      refine .pick (.no rfl) rfl rfl rfl rfl rfl ?_
      refine .move (.no rfl) rfl rfl rfl rfl ?_
      refine .off rfl rfl rfl rfl rfl rfl rfl ?_
      refine .off rfl rfl rfl rfl rfl rfl rfl ?_
      refine .off rfl rfl rfl rfl rfl rfl rfl ?_
      refine .off rfl rfl rfl rfl rfl rfl rfl ?_
      refine .off rfl rfl rfl rfl rfl rfl rfl ?_
      refine .off rfl rfl rfl rfl rfl rfl rfl ?_
      refine .off rfl rfl rfl rfl rfl rfl rfl ?_
      refine .pick (.no rfl) rfl rfl rfl rfl rfl ?_
      exact .fin () (.of (.cons rfl (.cons rfl (.cons rfl (.cons (svB (show (true) = ((((!(tokOk ((l.getD j default).token)) || (decide ((j : Int) > 0) && decide ((tokCmp ((l.getD (j - 1) default).token) ((l.getD j default).token)) ≥ 0))) || !(Table.ok d ((l.getD j default).table))) || !(((l.getD j default).table).any Env.live))) by first | (simp only [g6_7, Bool.true_or, Bool.false_or, Bool.true_and, Bool.false_and, Bool.not_true, Bool.not_false]; done) | simp [g6_7])) .nil)))) (.cons rfl .nil))
    intro _
    refine .cond (t := (((!(tokOk ((l.getD j default).token)) || (decide ((j : Int) > 0) && decide ((tokCmp ((l.getD (j - 1) default).token) ((l.getD j default).token)) ≥ 0))) || !(Table.ok d ((l.getD j default).table))) || !(((l.getD j default).table).any Env.live))) rfl (fun c2 => ?_) (fun c2 => ?_)
    ·have c2 := c2
     try simp only [Bool.or_eq_true, Bool.or_eq_false_iff, Bool.and_eq_true, Bool.and_eq_false_iff, decide_eq_true_eq, decide_eq_false_iff_not, Bool.not_eq_true', Bool.not_eq_false', bne_iff_ne, beq_iff_eq, bne_eq_false_iff_eq, beq_eq_false_iff_ne, ne_eq, Bool.not_eq_eq_eq_not, Bool.not_true, Bool.not_false] at c2
     refine .seq ?_
     refine .reg (X := Unit) (fun ζ => .of [(4, .one (.d (.v (.bool (false)))))] []) [⟨[], some 4, [], []⟩] (fun k20 => ?_) ?_
     ·skip
      refine .assign (.no rfl) rfl rfl rfl rfl ?_
      exact .fin () (.of (.cons rfl .nil) .nil)
     intro _
     refine .ret ?_
     have e21 : (false) = (Parts.ok d l) := by (rw [Parts.ok_fail c0.1 (j := j) (by omega) c2])
     have hc22 := eq1 (fun z1 => SV.one (.d (.v (.bool (z1))))) e21
     show _ ∧ _
     exact ⟨.inr rfl, .done ⟨_, [], [], _, .one (c := .d (.v (.bool (Parts.ok d l)))) (hc22) .nil, .cons (Reads.d _).gives .nil, nodupB_ok rfl, by simp, (by simp)⟩⟩
    ·have c2 := c2
     try simp only [Bool.or_eq_true, Bool.or_eq_false_iff, Bool.and_eq_true, Bool.and_eq_false_iff, decide_eq_true_eq, decide_eq_false_iff_not, Bool.not_eq_true', Bool.not_eq_false', bne_iff_ne, beq_iff_eq, bne_eq_false_iff_eq, beq_eq_false_iff_ne, ne_eq, Bool.not_eq_eq_eq_not, Bool.not_true, Bool.not_false] at c2
     refine .skip ?_
     refine .reg (X := Unit) (fun ζ => .of [(1, .one (.d (.sl false 99 2 (List.map Part.c99 (l))))), (2, .one (.ptr [2] (g6) 0)), (5, .one (.d (.v (.int .i64 (IntKind.wrap .i64 ((j : Int) + 1))))))] [([2], (g6, g6, .box [.d (.sl false 9 1 (List.map strc (d.vars))), .d (.sl false 9 1 (List.map strc (d.flags))), .d (.sl false 119 2 (List.map Arr.c (d.arrays)))]))]) [⟨[5], some 18, [], []⟩, ⟨[18], some 19, [], []⟩, ⟨[19], some 5, [], []⟩] (fun k23 => ?_) ?_
     ·skip
      refine .move (.no rfl) rfl rfl rfl rfl ?_
      refine .bin (.no rfl) rfl rfl rfl rfl rfl rfl ?_
      refine .assign (.no rfl) rfl rfl rfl rfl ?_
      exact .fin () (.of (.cons rfl (.cons rfl (.cons rfl .nil))) (.cons rfl .nil))
     intro _
     exact .here (j + 1) (.of (.cons rfl (.cons rfl (.cons (svI (show (IntKind.wrap .i64 ((j : Int) + 1)) = (((j + 1) : Int)) by first | rfl | omega | exact wrap_le (by omega) (by omega) | (rw [wrap_le (by omega) (by omega)]; omega))) .nil))) (.cons rfl .nil)) ⟨(show (j + 1) ≤ l.length ∧ allTo (j + 1) (fun i => Part.ok d (l.getD i default)) = true ∧ risesTo l (j + 1) = true by exact ⟨by omega, allTo_step hI.2.1 (part_of c0.1 c2.1.1.1 c2.1.2 c2.2), rises_step hI.2.2 (fun h9 => by have h8 := c2.1.1.2; omega)⟩), (show l.length - (j + 1) < l.length - j by omega)⟩
   ·have c1 := of_decide_eq_false c1
    refine .exit ?_
    refine .seq ?_
    refine .reg (X := Unit) (fun ζ => .of [(4, .one (.d (.v (.bool (true)))))] []) [⟨[], some 4, [], []⟩] (fun k24 => ?_) ?_
    ·skip
     refine .assign (.no rfl) rfl rfl rfl rfl ?_
     exact .fin () (.of (.cons rfl .nil) .nil)
    intro _
    refine .ret ?_
    have e25 : (true) = (Parts.ok d l) := by (rw [Parts.ok_done c0 (j := j) (by omega) hI.2.1 hI.2.2])
    have hc26 := eq1 (fun z1 => SV.one (.d (.v (.bool (z1))))) e25
    show _ ∧ _
    exact ⟨.inr rfl, .done ⟨_, [], [], _, .one (c := .d (.v (.bool (Parts.ok d l)))) (hc26) .nil, .cons (Reads.d _).gives .nil, nodupB_ok rfl, by simp, (by simp)⟩⟩
theorem c_IndexFuncP (l : List Part) (F_p : FuncId) (first_p : List (Bool × List D)) (caps_p : List D) (p : Part → Bool) (h_p : ∀ (x0 : Part), FnTrip Tryz.prog F_p first_p caps_p [(true, 2)] (Part.c99 x0) [(false, 1)] [.v (.bool (p x0))]) : Trip Tryz.prog 164 [(false, 1), (false, 1)] ([.sl false 99 2 (List.map Part.c99 (l))] ++ [.fn F_p first_p caps_p]) [(false, 1)] [.v (.int .i64 (idx p l))] [] := by
 refine Trip.of Tryz.func164 (by decide) (c := _) rfl rfl (shB_ok rfl) (Nat.le_of_ble_eq_true rfl) rfl (AftOk.nil _) ?_
 refine .sat (t := 0) rfl (fun hs1 => ?_)
 have hs1l : l.length ≤ 9223372036854775807 := hs1.maplen
 refine .seq ?_
 refine .reg (X := Unit) (fun ζ => .of [(0, .one (.d (.sl false 99 2 (List.map Part.c99 (l))))), (1, .one (.d (.fn F_p first_p caps_p)))] []) [⟨[], some 4, [], []⟩] (fun k2 => ?_) ?_
 ·skip
  refine .assign (.no rfl) rfl rfl rfl rfl ?_
  exact .fin () (.of (.cons rfl (.cons rfl .nil)) .nil)
 intro _
 refine .seq ?_
 refine .seq ?_
 refine .reg (X := Unit) (fun ζ => .of [(0, .one (.d (.sl false 99 2 (List.map Part.c99 (l))))), (1, .one (.d (.fn F_p first_p caps_p))), (7, .one (.d (.v (.int .i64 ((l.length : Int)))))), (8, .one (.d (.v (.int .i64 (0)))))] []) [⟨[0], some 6, [], []⟩, ⟨[6], some 7, [], []⟩, ⟨[], some 8, [], []⟩] (fun k3 => ?_) ?_
 ·skip
  refine .move (.no rfl) rfl rfl rfl rfl ?_
  refine .len (.no rfl) rfl (z := (l.length : Int)) t51 rfl rfl rfl (.d _ _) (map_len _ _) rfl ?_
  refine .move (.no rfl) rfl rfl rfl rfl ?_
  exact .fin () (.of (.cons rfl (.cons rfl (.cons rfl (.cons rfl .nil)))) .nil)
 intro _
 refine .block ?_
 refine .loop (X := Nat) (fun ζ => .of [(0, .one (.d (.sl false 99 2 (List.map Part.c99 (l))))), (1, .one (.d (.fn F_p first_p caps_p))), (7, .one (.d (.v (.int .i64 ((l.length : Int)))))), (8, .one (.d (.v (.int .i64 ((ζ : Int))))))] []) (fun ζ => ζ ≤ l.length ∧ allTo ζ (fun i => !p (l.getD i default)) = true) (fun ζ => l.length - ζ) ?_ ?_
 ·skip
  exact .here 0 (.of (.cons rfl (.cons rfl (.cons rfl (.cons (svI (show (0) = ((0 : Int)) by first | rfl | omega | exact wrap_le (by omega) (by omega) | (rw [wrap_le (by omega) (by omega)]; omega))) .nil)))) .nil) (show 0 ≤ l.length ∧ allTo 0 (fun i => !p (l.getD i default)) = true by exact ⟨by omega, rfl⟩)
 ·rintro j hI
  have hI : j ≤ l.length ∧ allTo j (fun i => !p (l.getD i default)) = true := hI
  refine .seq ?_
  refine .reg (X := Unit) (fun ζ => .of [(0, .one (.d (.sl false 99 2 (List.map Part.c99 (l))))), (1, .one (.d (.fn F_p first_p caps_p))), (7, .one (.d (.v (.int .i64 ((l.length : Int)))))), (8, .one (.d (.v (.int .i64 ((j : Int)))))), (9, .one (.d (.v (.bool (decide ((j : Int) < (l.length : Int)))))))] []) [⟨[8, 7], some 9, [], []⟩] (fun k4 => ?_) ?_
  ·skip
   refine .bin (.no rfl) rfl rfl rfl rfl rfl rfl ?_
   exact .fin () (.of (.cons rfl (.cons rfl (.cons rfl (.cons rfl (.cons rfl .nil))))) .nil)
  intro _
  refine .seq ?_
  refine .cond (t := decide ((j : Int) < (l.length : Int))) rfl (fun c0 => ?_) (fun c0 => ?_)
  ·have c0 := of_decide_eq_true c0
   refine .skip ?_
   refine .seq ?_
   refine .block ?_
   refine .seq ?_
   refine .reg (X := Unit) (fun ζ => .of [(0, .one (.d (.sl false 99 2 (List.map Part.c99 (l))))), (1, .one (.d (.fn F_p first_p caps_p))), (5, .one (.d (.v (.int .i64 ((j : Int)))))), (7, .one (.d (.v (.int .i64 ((l.length : Int)))))), (8, .one (.d (.v (.int .i64 ((j : Int))))))] []) [⟨[8], some 10, [], []⟩, ⟨[10], some 5, [], []⟩] (fun k5 => ?_) ?_
   ·skip
    refine .move (.no rfl) rfl rfl rfl rfl ?_
    refine .assign (.no rfl) rfl rfl rfl rfl ?_
    exact .fin () (.of (.cons rfl (.cons rfl (.cons rfl (.cons rfl (.cons rfl .nil))))) .nil)
   intro _
   refine .seq ?_
   refine .reg (X := Unit) (fun ζ => .of [(0, .one (.d (.sl false 99 2 (List.map Part.c99 (l))))), (1, .one (.d (.fn F_p first_p caps_p))), (5, .one (.d (.v (.int .i64 ((j : Int)))))), (7, .one (.d (.v (.int .i64 ((l.length : Int)))))), (8, .one (.d (.v (.int .i64 ((j : Int)))))), (16, .one (.d (.v (.bool (p (l.getD j default))))))] []) [⟨[1], some 11, [], []⟩, ⟨[0], some 12, [], []⟩, ⟨[5], some 13, [], []⟩, ⟨[12, 13], some 14, [], []⟩, ⟨[14], some 15, [], []⟩, ⟨[11, 15], some 16, [], []⟩] (fun k6 => ?_) ?_
   ·skip
    refine .move (.no rfl) rfl rfl rfl rfl ?_
    refine .move (.no rfl) rfl rfl rfl rfl ?_
    refine .move (.no rfl) rfl rfl rfl rfl ?_
    refine .indexAddr (.no rfl) rfl (j) t51 rfl t99 rfl rfl rfl (.d _ _) rfl rfl rfl (map_get (by omega)) rfl rfl ?_
    refine .load (.no rfl) rfl t99 rfl rfl (.d _) rfl rfl rfl rfl ?_
    refine .callF (.no rfl) rfl (ds := [.sl false 137 2 (List.map Entry.c ((l.getD j default).token)), .sl false 77 3 (List.map Env.c77 ((l.getD j default).table))]) (h_p (l.getD j default)) rfl rfl rfl rfl (.own [16, 0] .nil) rfl rfl rfl rfl rfl rfl ?_
    exact .fin () (.of (.cons rfl (.cons rfl (.cons rfl (.cons rfl (.cons rfl (.cons rfl .nil)))))) .nil)
   intro _
   refine .cond (t := p (l.getD j default)) rfl (fun c1 => ?_) (fun c1 => ?_)
   ·have c1 := c1
    refine .seq ?_
    refine .reg (X := Unit) (fun ζ => .of [(4, .one (.d (.v (.int .i64 ((j : Int))))))] []) [⟨[5], some 17, [], []⟩, ⟨[17], some 4, [], []⟩] (fun k7 => ?_) ?_
    ·skip
     refine .move (.no rfl) rfl rfl rfl rfl ?_
     refine .assign (.no rfl) rfl rfl rfl rfl ?_
     exact .fin () (.of (.cons rfl .nil) .nil)
    intro _
    refine .ret ?_
    have e8 : ((j : Int)) = (idx p l) := by exact (idx_found (j := j) (by omega) hI.2 (by simpa using c1)).symm
    have hc9 := eq1 (fun z1 => SV.one (.d (.v (.int .i64 (z1))))) e8
    show _ ∧ _
    exact ⟨.inr rfl, .done ⟨_, [], [], _, .one (c := .d (.v (.int .i64 (idx p l)))) (hc9) .nil, .cons (Reads.d _).gives .nil, nodupB_ok rfl, by simp, (by simp)⟩⟩
   ·have c1 := c1
    refine .skip ?_
    refine .reg (X := Unit) (fun ζ => .of [(0, .one (.d (.sl false 99 2 (List.map Part.c99 (l))))), (1, .one (.d (.fn F_p first_p caps_p))), (7, .one (.d (.v (.int .i64 ((l.length : Int)))))), (8, .one (.d (.v (.int .i64 (IntKind.wrap .i64 ((j : Int) + 1))))))] []) [⟨[8], some 18, [], []⟩, ⟨[18], some 8, [], []⟩] (fun k10 => ?_) ?_
    ·skip
     refine .bin (.no rfl) rfl rfl rfl rfl rfl rfl ?_
     refine .move (.no rfl) rfl rfl rfl rfl ?_
     exact .fin () (.of (.cons rfl (.cons rfl (.cons rfl (.cons rfl .nil)))) .nil)
    intro _
    exact .here (j + 1) (.of (.cons rfl (.cons rfl (.cons rfl (.cons (svI (show (IntKind.wrap .i64 ((j : Int) + 1)) = (((j + 1) : Int)) by first | rfl | omega | exact wrap_le (by omega) (by omega) | (rw [wrap_le (by omega) (by omega)]; omega))) .nil)))) .nil) ⟨(show (j + 1) ≤ l.length ∧ allTo (j + 1) (fun i => !p (l.getD i default)) = true by exact ⟨by omega, allTo_step hI.2 (by simpa using c1)⟩), (show l.length - (j + 1) < l.length - j by omega)⟩
  ·have c0 := of_decide_eq_false c0
   refine .exit ?_
   refine .seq ?_
   refine .reg (X := Unit) (fun ζ => .of [(4, .one (.d (.v (.int .i64 (-1)))))] []) [⟨[], some 4, [], []⟩] (fun k11 => ?_) ?_
   ·skip
    refine .assign (.no rfl) rfl rfl rfl rfl ?_
    exact .fin () (.of (.cons rfl .nil) .nil)
   intro _
   refine .ret ?_
   have e12 : (-1) = (idx p l) := by exact (idx_none (by omega) hI.2).symm
   have hc13 := eq1 (fun z1 => SV.one (.d (.v (.int .i64 (z1))))) e12
   show _ ∧ _
   exact ⟨.inr rfl, .done ⟨_, [], [], _, .one (c := .d (.v (.int .i64 (idx p l)))) (hc13) .nil, .cons (Reads.d _).gives .nil, nodupB_ok rfl, by simp, (by simp)⟩⟩
theorem c_ContainsFuncP (l : List Part) (F_p : FuncId) (first_p : List (Bool × List D)) (caps_p : List D) (p : Part → Bool) (h_p : ∀ (x0 : Part), FnTrip Tryz.prog F_p first_p caps_p [(true, 2)] (Part.c99 x0) [(false, 1)] [.v (.bool (p x0))]) : Trip Tryz.prog 139 [(false, 1), (false, 1)] ([.sl false 99 2 (List.map Part.c99 (l))] ++ [.fn F_p first_p caps_p]) [(false, 1)] [.v (.bool (l.any p))] [] := by
 refine Trip.of Tryz.func139 (by decide) (c := _) rfl rfl (shB_ok rfl) (Nat.le_of_ble_eq_true rfl) rfl (AftOk.nil _) ?_
 refine .sat (t := 0) rfl (fun hs1 => ?_)
 have hs1l : l.length ≤ 9223372036854775807 := hs1.maplen
 refine .seq ?_
 refine .reg (X := Unit) (fun ζ => .of [(0, .one (.d (.sl false 99 2 (List.map Part.c99 (l))))), (1, .one (.d (.fn F_p first_p caps_p)))] []) [⟨[], some 4, [], []⟩] (fun k2 => ?_) ?_
 ·skip
  refine .assign (.no rfl) rfl rfl rfl rfl ?_
  exact .fin () (.of (.cons rfl (.cons rfl .nil)) .nil)
 intro _
 refine .seq ?_
 refine .reg (X := Unit) (fun ζ => .of [(4, .one (.d (.v (.bool (decide ((idx p l) ≥ 0))))))] []) [⟨[0], some 5, [], []⟩, ⟨[1], some 6, [], []⟩, ⟨[5, 6], some 7, [], []⟩, ⟨[7], some 8, [], []⟩, ⟨[8], some 4, [], []⟩] (fun k3 => ?_) ?_
 ·skip
  refine .move (.no rfl) rfl rfl rfl rfl ?_
  refine .move (.no rfl) rfl rfl rfl rfl ?_
  refine .call (.no rfl) rfl [] [] (c_IndexFuncP l F_p first_p caps_p p h_p) rfl rfl rfl rfl rfl (.cons (Reads.d _).gives (.cons (Reads.d _).gives .nil)) rfl rfl (fun h => absurd rfl h) (.own [7, 0] .nil) (.nil) rfl rfl rfl (by simp) rfl rfl rfl ?_
  refine .bin (.no rfl) rfl rfl rfl rfl rfl rfl ?_
  refine .assign (.no rfl) rfl rfl rfl rfl ?_
  exact .fin () (.of (.cons rfl .nil) .nil)
 intro _
 refine .ret ?_
 have e4 : (decide ((idx p l) ≥ 0)) = (l.any p) := by exact idx_any _ _
 have hc5 := eq1 (fun z1 => SV.one (.d (.v (.bool (z1))))) e4
 show _ ∧ _
 exact ⟨.inr rfl, .done ⟨_, [], [], _, .one (c := .d (.v (.bool (l.any p)))) (hc5) .nil, .cons (Reads.d _).gives .nil, nodupB_ok rfl, by simp, (by simp)⟩⟩
theorem c_areAll1P (x : Part) (F_p : FuncId) (first_p : List (Bool × List D)) (caps_p : List D) (p : Part → Bool) (h_p : ∀ (x0 : Part), FnTrip Tryz.prog F_p first_p caps_p [(true, 2)] (Part.c99 x0) [(false, 1)] [.v (.bool (p x0))]) : Trip Tryz.prog 140 [(true, 2), (false, 1)] (Part.c99 x ++ [.pt false [.fn F_p first_p caps_p]]) [(false, 1)] [.v (.bool (!p x))] [] := by
 refine Trip.of Tryz.func140 (by decide) (c := _) rfl rfl (shB_ok rfl) (Nat.le_of_ble_eq_true rfl) rfl (AftOk.nil _) ?_
 refine .satA (t := 0) (i := 0) rfl rfl (fun hs1 => ?_)
 have hs1l : x.token.length ≤ 9223372036854775807 := hs1.maplen
 refine .satA (t := 0) (i := 1) rfl rfl (fun hs2 => ?_)
 have hs2l : x.table.length ≤ 9223372036854775807 := hs2.maplen
 refine .seq ?_
 refine .reg (X := Nat) (fun ζ => .of [(1, .one (.d (.pt false [.fn F_p first_p caps_p]))), (2, .one (.ptr [2] (ζ) 0))] [([2], (ζ, ζ, .box [.d (.sl false 137 2 (List.map Entry.c (x.token))), .d (.sl false 77 3 (List.map Env.c77 (x.table)))]))]) [⟨[0], some 2, [], [[2]]⟩, ⟨[], some 3, [], []⟩] (fun k3 => ?_) ?_
 ·skip
  refine .box (.no rfl) rfl rfl rfl rfl rfl ?_
  refine .assign (.no rfl) rfl rfl rfl rfl ?_
  exact .fin k3 (.of (.cons rfl (.cons rfl .nil)) (.cons rfl .nil))
 intro g4
 refine .seq ?_
 refine .reg (X := Unit) (fun ζ => .of [(3, .one (.d (.v (.bool (!(p x))))))] []) [⟨[1], some 4, [], []⟩, ⟨[2], some 5, [[2]], []⟩, ⟨[4, 5], some 6, [], []⟩, ⟨[6], some 7, [], []⟩, ⟨[7], some 3, [], []⟩] (fun k5 => ?_) ?_
 ·skip
  refine .load (.no rfl) rfl t144 rfl rfl (.d _) rfl rfl rfl rfl ?_
  refine .load (.no rfl) rfl t99 rfl rfl (.ptr _ _ _ _ _ rfl) rfl rfl rfl rfl ?_
  refine .callF (.no rfl) rfl (ds := [.sl false 137 2 (List.map Entry.c (x.token)), .sl false 77 3 (List.map Env.c77 (x.table))]) (h_p x) rfl rfl rfl rfl (.own [6, 0] .nil) rfl rfl rfl rfl rfl rfl ?_
  refine .un (.no rfl) rfl rfl rfl rfl rfl ?_
  refine .assign (.no rfl) rfl rfl rfl rfl ?_
  exact .fin () (.of (.cons rfl .nil) .nil)
 intro _
 refine .ret ?_
 have e6 : (!(p x)) = (!p x) := by rfl
 have hc7 := eq1 (fun z1 => SV.one (.d (.v (.bool (z1))))) e6
 show _ ∧ _
 exact ⟨.inr rfl, .done ⟨_, [], [], _, .one (c := .d (.v (.bool (!p x)))) (hc7) .nil, .cons (Reads.d _).gives .nil, nodupB_ok rfl, by simp, (by simp)⟩⟩
theorem c_areAllP (l : List Part) (F_p : FuncId) (first_p : List (Bool × List D)) (caps_p : List D) (p : Part → Bool) (h_p : ∀ (x0 : Part), FnTrip Tryz.prog F_p first_p caps_p [(true, 2)] (Part.c99 x0) [(false, 1)] [.v (.bool (p x0))]) : Trip Tryz.prog 104 [(false, 1), (false, 1)] ([.sl false 99 2 (List.map Part.c99 (l))] ++ [.fn F_p first_p caps_p]) [(false, 1)] [.v (.bool (l.all p))] [] := by
 refine Trip.of Tryz.func104 (by decide) (c := _) rfl rfl (shB_ok rfl) (Nat.le_of_ble_eq_true rfl) rfl (AftOk.nil _) ?_
 refine .sat (t := 0) rfl (fun hs1 => ?_)
 have hs1l : l.length ≤ 9223372036854775807 := hs1.maplen
 refine .seq ?_
 refine .reg (X := Nat) (fun ζ => .of [(0, .one (.d (.sl false 99 2 (List.map Part.c99 (l))))), (3, .one (.ptr [3] (ζ) 0))] [([3], (ζ, ζ, .box [.d (.fn F_p first_p caps_p)]))]) [⟨[1], some 3, [], [[3]]⟩, ⟨[], some 4, [], []⟩] (fun k2 => ?_) ?_
 ·skip
  refine .box (.no rfl) rfl rfl rfl rfl rfl ?_
  refine .assign (.no rfl) rfl rfl rfl rfl ?_
  exact .fin k2 (.of (.cons rfl (.cons rfl .nil)) (.cons rfl .nil))
 intro g3
 refine .seq ?_
 refine .reg (X := Unit) (fun ζ => .of [(4, .one (.d (.v (.bool (!(l.any (fun x0 => !p x0)))))))] []) [⟨[0], some 5, [], []⟩, ⟨[3], some 6, [], []⟩, ⟨[5, 6], some 7, [[3]], []⟩, ⟨[7], some 8, [], []⟩, ⟨[8], some 4, [], []⟩] (fun k4 => ?_) ?_
 ·skip
  refine .move (.no rfl) rfl rfl rfl rfl ?_
  refine .makeFunc (.no rfl) rfl rfl rfl rfl rfl ?_
  refine .call (.no rfl) rfl [[3]] [([3], (g3, g3, .box [.d (.fn F_p first_p caps_p)]))] (c_ContainsFuncP l 140 [] [.pt false [.fn F_p first_p caps_p]] (fun x0 => !p x0) (fun x0 => c_areAll1P x0 F_p first_p caps_p p h_p)) rfl rfl rfl rfl rfl (.cons (Reads.d _).gives (.cons (Reads.clo0 (.cons (Reads.ptr0 (.head _) (.head _) (.cons (Reads.d _) .nil)) .nil)).gives .nil)) rfl rfl (fun _ => (ownCons (Owned.v _) ownNil)) (.own [7, 0] .nil) (.nil) rfl rfl rfl (AllH.get (.cons rfl .nil)) rfl rfl rfl ?_
  refine .un (.no rfl) rfl rfl rfl rfl rfl ?_
  refine .assign (.no rfl) rfl rfl rfl rfl ?_
  exact .fin () (.of (.cons rfl .nil) .nil)
 intro _
 refine .ret ?_
 have e5 : (!(l.any (fun x0 => !p x0))) = (l.all p) := by exact not_any _ _
 have hc6 := eq1 (fun z1 => SV.one (.d (.v (.bool (z1))))) e5
 show _ ∧ _
 exact ⟨.inr rfl, .done ⟨_, [], [], _, .one (c := .d (.v (.bool (l.all p)))) (hc6) .nil, .cons (Reads.d _).gives .nil, nodupB_ok rfl, by simp, (by simp)⟩⟩
theorem c_partOk1 (e : Env) : Trip Tryz.prog 143 [(true, 3)] (Env.c77 e) [(false, 1)] [.v (.bool (Env.live e))] [] := by
 refine Trip.of Tryz.func143 (by decide) (c := _) rfl rfl (shB_ok rfl) (Nat.le_of_ble_eq_true rfl) rfl (AftOk.nil _) ?_
 refine .satA (t := 0) (i := 1) rfl rfl (fun hs1 => ?_)
 have hs1l : e.ints.length ≤ 9223372036854775807 := hs1.maplen
 refine .satA (t := 0) (i := 2) rfl rfl (fun hs2 => ?_)
 have hs2l : e.arrs.length ≤ 9223372036854775807 := hs2.maplen
 refine .seq ?_
 refine .reg (X := Nat) (fun ζ => .of [(1, .one (.ptr [1] (ζ) 0))] [([1], (ζ, ζ, .box [.d (.v (.bool (e.live))), .d (.sl false 122 2 (List.map Iv.c (e.ints))), .d (.sl false 122 2 (List.map Iv.c (e.arrs)))]))]) [⟨[0], some 1, [], [[1]]⟩, ⟨[], some 2, [], []⟩] (fun k3 => ?_) ?_
 ·skip
  refine .box (.no rfl) rfl rfl rfl rfl rfl ?_
  refine .assign (.no rfl) rfl rfl rfl rfl ?_
  exact .fin k3 (.of (.cons rfl .nil) (.cons rfl .nil))
 intro g4
 refine .seq ?_
 refine .reg (X := Unit) (fun ζ => .of [(2, .one (.d (.v (.bool (e.live)))))] []) [⟨[1], some 3, [], []⟩, ⟨[3], some 4, [[1]], []⟩, ⟨[4], some 2, [], []⟩] (fun k5 => ?_) ?_
 ·skip
  refine .fieldAddrP (.no rfl) rfl t77 rfl rfl t4 rfl rfl rfl rfl ?_
  refine .load (.no rfl) rfl t4 rfl rfl (.ptr _ _ _ _ _ rfl) rfl rfl rfl rfl ?_
  refine .assign (.no rfl) rfl rfl rfl rfl ?_
  exact .fin () (.of (.cons rfl .nil) .nil)
 intro _
 refine .ret ?_
 have e6 : (e.live) = (Env.live e) := by rfl
 have hc7 := eq1 (fun z1 => SV.one (.d (.v (.bool (z1))))) e6
 show _ ∧ _
 exact ⟨.inr rfl, .done ⟨_, [], [], _, .one (c := .d (.v (.bool (Env.live e)))) (hc7) .nil, .cons (Reads.d _).gives .nil, nodupB_ok rfl, by simp, (by simp)⟩⟩
theorem c_partOk (d : Decl) (p : Part) : Trip Tryz.prog 105 [(true, 3), (true, 2)] (Decl.c38 d ++ Part.c99 p) [(false, 1)] [.v (.bool (Part.ok d p))] [] := by
 refine Trip.of Tryz.func105 (by decide) (c := _) rfl rfl (shB_ok rfl) (Nat.le_of_ble_eq_true rfl) rfl (AftOk.nil _) ?_
 refine .satA (t := 0) (i := 0) rfl rfl (fun hs1 => ?_)
 have hs1l : d.vars.length ≤ 9223372036854775807 := hs1.maplen
 refine .satA (t := 0) (i := 1) rfl rfl (fun hs2 => ?_)
 have hs2l : d.flags.length ≤ 9223372036854775807 := hs2.maplen
 refine .satA (t := 0) (i := 2) rfl rfl (fun hs3 => ?_)
 have hs3l : d.arrays.length ≤ 9223372036854775807 := hs3.maplen
 refine .satA (t := 1) (i := 0) rfl rfl (fun hs4 => ?_)
 have hs4l : p.token.length ≤ 9223372036854775807 := hs4.maplen
 refine .satA (t := 1) (i := 1) rfl rfl (fun hs5 => ?_)
 have hs5l : p.table.length ≤ 9223372036854775807 := hs5.maplen
 refine .seq ?_
 refine .reg (X := Nat × Nat) (fun ζ => .of [(2, .one (.ptr [2] (ζ.1) 0)), (3, .one (.ptr [3] (ζ.2) 0))] [([2], (ζ.1, ζ.1, .box [.d (.sl false 9 1 (List.map strc (d.vars))), .d (.sl false 9 1 (List.map strc (d.flags))), .d (.sl false 119 2 (List.map Arr.c (d.arrays)))])), ([3], (ζ.2, ζ.2, .box [.d (.sl false 137 2 (List.map Entry.c (p.token))), .d (.sl false 77 3 (List.map Env.c77 (p.table)))]))]) [⟨[0], some 2, [], [[2]]⟩, ⟨[1], some 3, [], [[3]]⟩, ⟨[], some 4, [], []⟩] (fun k6 => ?_) ?_
 ·skip
  refine .box (.no rfl) rfl rfl rfl rfl rfl ?_
  refine .box (.no rfl) rfl rfl rfl rfl rfl ?_
  refine .assign (.no rfl) rfl rfl rfl rfl ?_
  exact .fin (k6, k6 + 1) (.of (.cons rfl (.cons rfl .nil)) (.cons rfl (.cons rfl .nil)))
 rintro ⟨g7, g8⟩
 refine .seq ?_
 refine .reg (X := Unit) (fun ζ => .of [(4, .one (.d (.v (.bool (((tokOk p.token && Table.isIn d p.table) && p.table.any (fun x0 => Env.live x0)))))))] []) [⟨[3], some 5, [], []⟩, ⟨[5], some 6, [[3]], []⟩, ⟨[6], some 7, [], []⟩, ⟨[7], some 8, [], []⟩, ⟨[8, 2], some 9, [[2]], []⟩, ⟨[8, 3], some 10, [], []⟩, ⟨[8, 10], some 11, [[3]], []⟩, ⟨[8, 9, 11], some 12, [], []⟩, ⟨[8, 12], some 13, [], []⟩, ⟨[13], some 14, [], []⟩, ⟨[14, 3], some 15, [], []⟩, ⟨[14, 15], some 16, [[3]], []⟩, ⟨[14, 16], some 17, [], []⟩, ⟨[14, 17], some 18, [], []⟩, ⟨[18], some 4, [], []⟩] (fun k9 => ?_) ?_
 ·skip
  refine .fieldAddrP (.no rfl) rfl t99 rfl rfl t97 rfl rfl rfl rfl ?_
  refine .load (.no rfl) rfl t97 rfl rfl (.ptr _ _ _ _ _ rfl) rfl rfl rfl rfl ?_
  refine .call (.no rfl) rfl [] [] (c_TokenOk p.token) rfl rfl rfl rfl rfl (.cons (Reads.d _).gives .nil) rfl rfl (fun h => absurd rfl h) (.own [7, 0] .nil) (.nil) rfl rfl rfl (by simp) rfl rfl rfl ?_
  refine .moveB (.no rfl) rfl rfl rfl rfl fun b10 g1_3 => ?_
  cases b10
  ·skip
   refine .off rfl rfl rfl rfl rfl rfl rfl ?_
   refine .off rfl rfl rfl rfl rfl rfl rfl ?_
   refine .off rfl rfl rfl rfl rfl rfl rfl ?_
   refine .off rfl rfl rfl rfl rfl rfl rfl ?_
   refine .pick (.no rfl) rfl rfl rfl rfl rfl ?_
   refine .move (.no rfl) rfl rfl rfl rfl ?_
   refine .off rfl rfl rfl rfl rfl rfl rfl ?_
   refine .off rfl rfl rfl rfl rfl rfl rfl ?_
   refine .off rfl rfl rfl rfl rfl rfl rfl ?_
   refine .pick (.no rfl) rfl rfl rfl rfl rfl ?_
   refine .assign (.no rfl) rfl rfl rfl rfl ?_
   exact .fin () (.of (.cons (svB (show (false) = (((tokOk p.token && Table.isIn d p.table) && p.table.any (fun x0 => Env.live x0))) by first | (simp only [g1_3, Bool.true_or, Bool.false_or, Bool.true_and, Bool.false_and, Bool.not_true, Bool.not_false]; done) | simp [g1_3])) .nil) .nil)
  ·skip
   refine .load (.on rfl rfl rfl rfl rfl) rfl t38 rfl rfl (.ptr _ _ _ _ _ rfl) rfl rfl rfl rfl ?_
   refine .fieldAddrP (.on rfl rfl rfl rfl rfl) rfl t99 rfl rfl t40 rfl rfl rfl rfl ?_
   refine .load (.on rfl rfl rfl rfl rfl) rfl t40 rfl rfl (.ptr _ _ _ _ _ rfl) rfl rfl rfl rfl ?_
   refine .call (.on rfl rfl rfl rfl rfl) rfl [] [] (c_isTable d p.table) rfl rfl rfl rfl rfl (.cons (Reads.d _).gives (.cons (Reads.d _).gives (.cons (Reads.d _).gives (.cons (Reads.d _).gives .nil)))) rfl rfl (fun h => absurd rfl h) (.own [12, 0] .nil) (.nil) rfl rfl rfl (by simp) rfl rfl rfl ?_
   refine .pick (.no rfl) rfl rfl rfl rfl rfl ?_
   refine .moveB (.no rfl) rfl rfl rfl rfl fun b11 g1_9 => ?_
   cases b11
   ·skip
    refine .off rfl rfl rfl rfl rfl rfl rfl ?_
    refine .off rfl rfl rfl rfl rfl rfl rfl ?_
    refine .off rfl rfl rfl rfl rfl rfl rfl ?_
    refine .pick (.no rfl) rfl rfl rfl rfl rfl ?_
    refine .assign (.no rfl) rfl rfl rfl rfl ?_
    exact .fin () (.of (.cons (svB (show (false) = (((tokOk p.token && Table.isIn d p.table) && p.table.any (fun x0 => Env.live x0))) by first | (simp only [g1_3, g1_9, Bool.true_or, Bool.false_or, Bool.true_and, Bool.false_and, Bool.not_true, Bool.not_false]; done) | simp [g1_3, g1_9])) .nil) .nil)
   ·skip
    refine .fieldAddrP (.on rfl rfl rfl rfl rfl) rfl t99 rfl rfl t40 rfl rfl rfl rfl ?_
    refine .load (.on rfl rfl rfl rfl rfl) rfl t40 rfl rfl (.ptr _ _ _ _ _ rfl) rfl rfl rfl rfl ?_
    refine .call (.on rfl rfl rfl rfl rfl) rfl [] [] (c_ContainsFuncE p.table 143 [] [] (fun x0 => Env.live x0) (fun x0 => c_partOk1 x0)) rfl rfl rfl rfl rfl (.cons (Reads.d _).gives (.cons (Reads.d _).gives .nil)) rfl rfl (fun h => absurd rfl h) (.own [17, 0] .nil) (.nil) rfl rfl rfl (by simp) rfl rfl rfl ?_
    refine .pick (.no rfl) rfl rfl rfl rfl rfl ?_
    refine .assign (.no rfl) rfl rfl rfl rfl ?_
    exact .fin () (.of (.cons (svB (show (p.table.any (fun x0 => Env.live x0)) = (((tokOk p.token && Table.isIn d p.table) && p.table.any (fun x0 => Env.live x0))) by first | (simp only [g1_3, g1_9, Bool.true_or, Bool.false_or, Bool.true_and, Bool.false_and, Bool.not_true, Bool.not_false]; done) | simp [g1_3, g1_9])) .nil) .nil)
 intro _
 refine .ret ?_
 have e12 : (((tokOk p.token && Table.isIn d p.table) && p.table.any (fun x0 => Env.live x0))) = (Part.ok d p) := by rfl
 have hc13 := eq1 (fun z1 => SV.one (.d (.v (.bool (z1))))) e12
 show _ ∧ _
 exact ⟨.inr rfl, .done ⟨_, [], [], _, .one (c := .d (.v (.bool (Part.ok d p)))) (hc13) .nil, .cons (Reads.d _).gives .nil, nodupB_ok rfl, by simp, (by simp)⟩⟩
theorem c_areParts (d : Decl) (l : List Part) : Trip Tryz.prog 64 [(true, 3), (false, 1)] (Decl.c38 d ++ [.sl false 99 2 (List.map Part.c99 (l))]) [(false, 1)] [.v (.bool (Parts.isIn d l))] [] := by
 refine Trip.of Tryz.func64 (by decide) (c := _) rfl rfl (shB_ok rfl) (Nat.le_of_ble_eq_true rfl) rfl (AftOk.nil _) ?_
 refine .satA (t := 0) (i := 0) rfl rfl (fun hs1 => ?_)
 have hs1l : d.vars.length ≤ 9223372036854775807 := hs1.maplen
 refine .satA (t := 0) (i := 1) rfl rfl (fun hs2 => ?_)
 have hs2l : d.flags.length ≤ 9223372036854775807 := hs2.maplen
 refine .satA (t := 0) (i := 2) rfl rfl (fun hs3 => ?_)
 have hs3l : d.arrays.length ≤ 9223372036854775807 := hs3.maplen
 refine .sat (t := 1) rfl (fun hs4 => ?_)
 have hs4l : l.length ≤ 9223372036854775807 := hs4.maplen
 refine .seq ?_
 refine .reg (X := Nat) (fun ζ => .of [(1, .one (.d (.sl false 99 2 (List.map Part.c99 (l))))), (2, .one (.ptr [2] (ζ) 0))] [([2], (ζ, ζ, .box [.d (.sl false 9 1 (List.map strc (d.vars))), .d (.sl false 9 1 (List.map strc (d.flags))), .d (.sl false 119 2 (List.map Arr.c (d.arrays)))]))]) [⟨[0], some 2, [], [[2]]⟩, ⟨[], some 4, [], []⟩] (fun k5 => ?_) ?_
 ·skip
  refine .box (.no rfl) rfl rfl rfl rfl rfl ?_
  refine .assign (.no rfl) rfl rfl rfl rfl ?_
  exact .fin k5 (.of (.cons rfl (.cons rfl .nil)) (.cons rfl .nil))
 intro g6
 refine .seq ?_
 refine .seq ?_
 refine .reg (X := Unit) (fun ζ => .of [(1, .one (.d (.sl false 99 2 (List.map Part.c99 (l))))), (2, .one (.ptr [2] (g6) 0)), (5, .one (.d (.v (.int .i64 (1)))))] [([2], (g6, g6, .box [.d (.sl false 9 1 (List.map strc (d.vars))), .d (.sl false 9 1 (List.map strc (d.flags))), .d (.sl false 119 2 (List.map Arr.c (d.arrays)))]))]) [⟨[], some 5, [], []⟩] (fun k7 => ?_) ?_
 ·skip
  refine .assign (.no rfl) rfl rfl rfl rfl ?_
  exact .fin () (.of (.cons rfl (.cons rfl (.cons rfl .nil))) (.cons rfl .nil))
 intro _
 refine .block ?_
 refine .loop (X := Nat) (fun ζ => .of [(1, .one (.d (.sl false 99 2 (List.map Part.c99 (l))))), (2, .one (.ptr [2] (g6) 0)), (5, .one (.d (.v (.int .i64 ((ζ : Int))))))] [([2], (g6, g6, .box [.d (.sl false 9 1 (List.map strc (d.vars))), .d (.sl false 9 1 (List.map strc (d.flags))), .d (.sl false 119 2 (List.map Arr.c (d.arrays)))]))]) (fun ζ => 1 ≤ ζ ∧ (ζ ≤ l.length ∨ ζ = 1) ∧ risesTo l ζ = true) (fun ζ => l.length - ζ) ?_ ?_
 ·skip
  exact .here 1 (.of (.cons rfl (.cons rfl (.cons (svI (show (1) = ((1 : Int)) by first | rfl | omega | exact wrap_le (by omega) (by omega) | (rw [wrap_le (by omega) (by omega)]; omega))) .nil))) (.cons rfl .nil)) (show 1 ≤ 1 ∧ (1 ≤ l.length ∨ 1 = 1) ∧ risesTo l 1 = true by exact ⟨by omega, by omega, rfl⟩)
 ·rintro j hI
  have hI : 1 ≤ j ∧ (j ≤ l.length ∨ j = 1) ∧ risesTo l j = true := hI
  refine .seq ?_
  refine .seq ?_
  refine .reg (X := Unit) (fun ζ => .of [(1, .one (.d (.sl false 99 2 (List.map Part.c99 (l))))), (2, .one (.ptr [2] (g6) 0)), (5, .one (.d (.v (.int .i64 ((j : Int)))))), (9, .one (.d (.v (.bool (decide ((j : Int) < (l.length : Int)))))))] [([2], (g6, g6, .box [.d (.sl false 9 1 (List.map strc (d.vars))), .d (.sl false 9 1 (List.map strc (d.flags))), .d (.sl false 119 2 (List.map Arr.c (d.arrays)))]))]) [⟨[5], some 6, [], []⟩, ⟨[1], some 7, [], []⟩, ⟨[7], some 8, [], []⟩, ⟨[6, 8], some 9, [], []⟩] (fun k8 => ?_) ?_
  ·skip
   refine .move (.no rfl) rfl rfl rfl rfl ?_
   refine .move (.no rfl) rfl rfl rfl rfl ?_
   refine .len (.no rfl) rfl (z := (l.length : Int)) t51 rfl rfl rfl (.d _ _) (map_len _ _) rfl ?_
   refine .bin (.no rfl) rfl rfl rfl rfl rfl rfl ?_
   exact .fin () (.of (.cons rfl (.cons rfl (.cons rfl (.cons rfl .nil)))) (.cons rfl .nil))
  intro _
  refine .cond (t := decide ((j : Int) < (l.length : Int))) rfl (fun c0 => ?_) (fun c0 => ?_)
  ·have c0 := of_decide_eq_true c0
   refine .skip ?_
   refine .seq ?_
   refine .block ?_
   refine .seq ?_
   refine .regD (X := Unit) (by kernel_rfl) (fun ζ => .of [(1, .one (.d (.sl false 99 2 (List.map Part.c99 (l))))), (2, .one (.ptr [2] (g6) 0)), (5, .one (.d (.v (.int .i64 ((j : Int)))))), (24, .one (.d (.v (.bool (decide ((tokCmp ((l.getD (j - 1) default).token) ((l.getD j default).token)) ≥ 0))))))] [([2], (g6, g6, .box [.d (.sl false 9 1 (List.map strc (d.vars))), .d (.sl false 9 1 (List.map strc (d.flags))), .d (.sl false 119 2 (List.map Arr.c (d.arrays)))]))]) [⟨[1], some 12, [], []⟩, ⟨[5], some 13, [], []⟩, ⟨[13], some 14, [], []⟩, ⟨[12, 14], some 15, [], []⟩, ⟨[15], some 16, [], []⟩, ⟨[16], some 17, [], []⟩, ⟨[1], some 18, [], []⟩, ⟨[5], some 19, [], []⟩, ⟨[18, 19], some 20, [], []⟩, ⟨[20], some 21, [], []⟩, ⟨[21], some 22, [], []⟩, ⟨[17, 22], some 23, [], []⟩, ⟨[23], some 24, [], []⟩] (by kernel_rfl) (fun k9 => ?_) ?_
   ·skip
    refine .move (.no rfl) rfl rfl rfl rfl ?_
    refine .move (.no rfl) rfl rfl rfl rfl ?_
    refine .bin (.no rfl) rfl rfl rfl rfl rfl rfl ?_
    refine .indexAddr (.no rfl) rfl ((j - 1)) t51 rfl t99 rfl rfl rfl (.d _ _) rfl rfl (by (rw [wrap_le (by omega) (by omega)]; omega)) (map_get (by omega)) rfl rfl ?_
    refine .fieldAddr (.no rfl) rfl t99 rfl rfl t97 rfl rfl rfl rfl [] (by simp) (by intro _ _ _ h; cases h) rfl rfl ?_
    refine .load (.no rfl) rfl t97 rfl rfl (.d _) rfl rfl rfl rfl ?_
    refine .move (.no rfl) rfl rfl rfl rfl ?_
    refine .move (.no rfl) rfl rfl rfl rfl ?_
    refine .indexAddr (.no rfl) rfl (j) t51 rfl t99 rfl rfl rfl (.d _ _) rfl rfl rfl (map_get (by omega)) rfl rfl ?_
    refine .fieldAddr (.no rfl) rfl t99 rfl rfl t97 rfl rfl rfl rfl [] (by simp) (by intro _ _ _ h; cases h) rfl rfl ?_
    refine .load (.no rfl) rfl t97 rfl rfl (.d _) rfl rfl rfl rfl ?_
    refine .call (.no rfl) rfl [] [] (c_compareTokens ((l.getD (j - 1) default).token) ((l.getD j default).token)) rfl rfl rfl rfl rfl (.cons (Reads.d _).gives (.cons (Reads.d _).gives .nil)) rfl rfl (fun h => absurd rfl h) (.own [23, 0] .nil) (.nil) rfl rfl rfl (by simp) rfl rfl rfl ?_
    refine .bin (.no rfl) rfl rfl rfl rfl rfl rfl ?_
    exact .fin () (.of (.cons rfl (.cons rfl (.cons rfl (.cons rfl .nil)))) (.cons rfl .nil))
   intro _
   refine .cond (t := decide ((tokCmp ((l.getD (j - 1) default).token) ((l.getD j default).token)) ≥ 0)) rfl (fun c1 => ?_) (fun c1 => ?_)
   ·have c1 := of_decide_eq_true c1
    refine .seq ?_
    refine .reg (X := Unit) (fun ζ => .of [(4, .one (.d (.v (.bool (false)))))] []) [⟨[], some 4, [], []⟩] (fun k10 => ?_) ?_
    ·skip
     refine .assign (.no rfl) rfl rfl rfl rfl ?_
     exact .fin () (.of (.cons rfl .nil) .nil)
    intro _
    refine .ret ?_
    have e11 : (false) = (Parts.isIn d l) := by (rw [Parts.isIn_rise (j := j) (by omega) (by omega) (by omega)])
    have hc12 := eq1 (fun z1 => SV.one (.d (.v (.bool (z1))))) e11
    show _ ∧ _
    exact ⟨.inr rfl, .done ⟨_, [], [], _, .one (c := .d (.v (.bool (Parts.isIn d l)))) (hc12) .nil, .cons (Reads.d _).gives .nil, nodupB_ok rfl, by simp, (by simp)⟩⟩
   ·have c1 := of_decide_eq_false c1
    refine .skip ?_
    refine .reg (X := Unit) (fun ζ => .of [(1, .one (.d (.sl false 99 2 (List.map Part.c99 (l))))), (2, .one (.ptr [2] (g6) 0)), (5, .one (.d (.v (.int .i64 (IntKind.wrap .i64 ((j : Int) + 1))))))] [([2], (g6, g6, .box [.d (.sl false 9 1 (List.map strc (d.vars))), .d (.sl false 9 1 (List.map strc (d.flags))), .d (.sl false 119 2 (List.map Arr.c (d.arrays)))]))]) [⟨[5], some 10, [], []⟩, ⟨[10], some 11, [], []⟩, ⟨[11], some 5, [], []⟩] (fun k13 => ?_) ?_
    ·skip
     refine .move (.no rfl) rfl rfl rfl rfl ?_
     refine .bin (.no rfl) rfl rfl rfl rfl rfl rfl ?_
     refine .assign (.no rfl) rfl rfl rfl rfl ?_
     exact .fin () (.of (.cons rfl (.cons rfl (.cons rfl .nil))) (.cons rfl .nil))
    intro _
    exact .here (j + 1) (.of (.cons rfl (.cons rfl (.cons (svI (show (IntKind.wrap .i64 ((j : Int) + 1)) = (((j + 1) : Int)) by first | rfl | omega | exact wrap_le (by omega) (by omega) | (rw [wrap_le (by omega) (by omega)]; omega))) .nil))) (.cons rfl .nil)) ⟨(show 1 ≤ (j + 1) ∧ ((j + 1) ≤ l.length ∨ (j + 1) = 1) ∧ risesTo l (j + 1) = true by exact ⟨by omega, by omega, rises_step hI.2.2 (fun _ => by omega)⟩), (show l.length - (j + 1) < l.length - j by omega)⟩
  ·have c0 := of_decide_eq_false c0
   refine .exit ?_
   refine .seq ?_
   refine .reg (X := Unit) (fun ζ => .of [(4, .one (.d (.v (.bool ((decide ((l.length : Int) ≤ 100) && l.all (fun x0 => Part.ok d x0)))))))] []) [⟨[1], some 25, [], []⟩, ⟨[25], some 26, [], []⟩, ⟨[26], some 27, [], []⟩, ⟨[27], some 28, [], []⟩, ⟨[28, 1], some 29, [], []⟩, ⟨[28, 2], some 30, [[2]], []⟩, ⟨[28, 30], some 31, [], []⟩, ⟨[28, 29, 31], some 32, [], []⟩, ⟨[28, 32], some 33, [], []⟩, ⟨[33], some 4, [], []⟩] (fun k14 => ?_) ?_
   ·skip
    refine .move (.no rfl) rfl rfl rfl rfl ?_
    refine .len (.no rfl) rfl (z := (l.length : Int)) t51 rfl rfl rfl (.d _ _) (map_len _ _) rfl ?_
    refine .bin (.no rfl) rfl rfl rfl rfl rfl rfl ?_
    refine .moveB (.no rfl) rfl rfl rfl rfl fun b15 g6_3 => ?_
    cases b15
    ·skip
     refine .off rfl rfl rfl rfl rfl rfl rfl ?_
     refine .off rfl rfl rfl rfl rfl rfl rfl ?_
     refine .off rfl rfl rfl rfl rfl rfl rfl ?_
     refine .off rfl rfl rfl rfl rfl rfl rfl ?_
     refine .pick (.no rfl) rfl rfl rfl rfl rfl ?_
     refine .assign (.no rfl) rfl rfl rfl rfl ?_
     exact .fin () (.of (.cons (svB (show (false) = ((decide ((l.length : Int) ≤ 100) && l.all (fun x0 => Part.ok d x0))) by first | (simp only [g6_3, Bool.true_or, Bool.false_or, Bool.true_and, Bool.false_and, Bool.not_true, Bool.not_false]; done) | simp [g6_3])) .nil) .nil)
    ·skip
     refine .move (.on rfl rfl rfl rfl rfl) rfl rfl rfl rfl ?_
     refine .load (.on rfl rfl rfl rfl rfl) rfl t38 rfl rfl (.ptr _ _ _ _ _ rfl) rfl rfl rfl rfl ?_
     refine .makeFunc (.on rfl rfl rfl rfl rfl) rfl rfl rfl rfl rfl ?_
     refine .call (.on rfl rfl rfl rfl rfl) rfl [] [] (c_areAllP l 105 [(true, [.sl false 9 1 (List.map strc (d.vars)), .sl false 9 1 (List.map strc (d.flags)), .sl false 119 2 (List.map Arr.c (d.arrays))])] [] (fun x0 => Part.ok d x0) (fun x0 => c_partOk d x0)) rfl rfl rfl rfl rfl (.cons (Reads.d _).gives (.cons (Reads.clo1 (.cons (Reads.d _) (.cons (Reads.d _) (.cons (Reads.d _) .nil))) (.nil)).gives .nil)) rfl rfl (fun h => absurd rfl h) (.own [32, 0] .nil) (.nil) rfl rfl rfl (by simp) rfl rfl rfl ?_
     refine .pick (.no rfl) rfl rfl rfl rfl rfl ?_
     refine .assign (.no rfl) rfl rfl rfl rfl ?_
     exact .fin () (.of (.cons (svB (show (l.all (fun x0 => Part.ok d x0)) = ((decide ((l.length : Int) ≤ 100) && l.all (fun x0 => Part.ok d x0))) by first | (simp only [g6_3, Bool.true_or, Bool.false_or, Bool.true_and, Bool.false_and, Bool.not_true, Bool.not_false]; done) | simp [g6_3])) .nil) .nil)
   intro _
   refine .ret ?_
   have e16 : ((decide ((l.length : Int) ≤ 100) && l.all (fun x0 => Part.ok d x0))) = (Parts.isIn d l) := by exact Parts.isIn_all (j := j) (by omega) hI.2.2
   have hc17 := eq1 (fun z1 => SV.one (.d (.v (.bool (z1))))) e16
   show _ ∧ _
   exact ⟨.inr rfl, .done ⟨_, [], [], _, .one (c := .d (.v (.bool (Parts.isIn d l)))) (hc17) .nil, .cons (Reads.d _).gives .nil, nodupB_ok rfl, by simp, (by simp)⟩⟩
theorem c_PartsOk (d : Decl) (l : List Part) (hs : ∀ x ∈ Decl.names d, x.size ≤ 9223372036854775807) (hb : d.vars.length ≤ 1048576 ∧ d.flags.length ≤ 1048576 ∧ d.arrays.length ≤ 1048576) : Trip Tryz.prog 21 [(true, 3), (false, 1)] (Decl.c38 d ++ [.sl false 99 2 (List.map Part.c99 (l))]) [(false, 1)] [.v (.bool (Parts.ok d l))] [] := by
 refine Trip.of Tryz.func21 (by decide) (c := _) rfl rfl (shB_ok rfl) (Nat.le_of_ble_eq_true rfl) rfl (AftOk.nil _) ?_
 refine .satA (t := 0) (i := 0) rfl rfl (fun hs1 => ?_)
 have hs1l : d.vars.length ≤ 9223372036854775807 := hs1.maplen
 refine .satA (t := 0) (i := 1) rfl rfl (fun hs2 => ?_)
 have hs2l : d.flags.length ≤ 9223372036854775807 := hs2.maplen
 refine .satA (t := 0) (i := 2) rfl rfl (fun hs3 => ?_)
 have hs3l : d.arrays.length ≤ 9223372036854775807 := hs3.maplen
 refine .sat (t := 1) rfl (fun hs4 => ?_)
 have hs4l : l.length ≤ 9223372036854775807 := hs4.maplen
 refine .seq ?_
 refine .reg (X := Nat) (fun ζ => .of [(1, .one (.d (.sl false 99 2 (List.map Part.c99 (l))))), (2, .one (.ptr [2] (ζ) 0))] [([2], (ζ, ζ, .box [.d (.sl false 9 1 (List.map strc (d.vars))), .d (.sl false 9 1 (List.map strc (d.flags))), .d (.sl false 119 2 (List.map Arr.c (d.arrays)))]))]) [⟨[0], some 2, [], [[2]]⟩, ⟨[], some 4, [], []⟩] (fun k5 => ?_) ?_
 ·skip
  refine .box (.no rfl) rfl rfl rfl rfl rfl ?_
  refine .assign (.no rfl) rfl rfl rfl rfl ?_
  exact .fin k5 (.of (.cons rfl (.cons rfl .nil)) (.cons rfl .nil))
 intro g6
 refine .seq ?_
 refine .reg (X := Unit) (fun ζ => .of [(4, .one (.d (.v (.bool ((Decl.ok d && Parts.isIn d l))))))] []) [⟨[2], some 5, [[2]], []⟩, ⟨[5], some 6, [], []⟩, ⟨[6], some 7, [], []⟩, ⟨[7, 2], some 8, [[2]], []⟩, ⟨[7, 1], some 9, [], []⟩, ⟨[7, 8, 9], some 10, [], []⟩, ⟨[7, 10], some 11, [], []⟩, ⟨[11], some 4, [], []⟩] (fun k7 => ?_) ?_
 ·skip
  refine .load (.no rfl) rfl t38 rfl rfl (.ptr _ _ _ _ _ rfl) rfl rfl rfl rfl ?_
  refine .call (.no rfl) rfl [] [] (c_isRight d (by assumption) (by assumption)) rfl rfl rfl rfl rfl (.cons (Reads.d _).gives (.cons (Reads.d _).gives (.cons (Reads.d _).gives .nil))) rfl rfl (fun h => absurd rfl h) (.own [6, 0] .nil) (.nil) rfl rfl rfl (by simp) rfl rfl rfl ?_
  refine .moveB (.no rfl) rfl rfl rfl rfl fun b8 g1_2 => ?_
  cases b8
  ·skip
   refine .off rfl rfl rfl rfl rfl rfl rfl ?_
   refine .off rfl rfl rfl rfl rfl rfl rfl ?_
   refine .off rfl rfl rfl rfl rfl rfl rfl ?_
   refine .pick (.no rfl) rfl rfl rfl rfl rfl ?_
   refine .assign (.no rfl) rfl rfl rfl rfl ?_
   exact .fin () (.of (.cons (svB (show (false) = ((Decl.ok d && Parts.isIn d l)) by first | (simp only [g1_2, Bool.true_or, Bool.false_or, Bool.true_and, Bool.false_and, Bool.not_true, Bool.not_false]; done) | simp [g1_2])) .nil) .nil)
  ·skip
   refine .load (.on rfl rfl rfl rfl rfl) rfl t38 rfl rfl (.ptr _ _ _ _ _ rfl) rfl rfl rfl rfl ?_
   refine .move (.on rfl rfl rfl rfl rfl) rfl rfl rfl rfl ?_
   refine .call (.on rfl rfl rfl rfl rfl) rfl [] [] (c_areParts d l) rfl rfl rfl rfl rfl (.cons (Reads.d _).gives (.cons (Reads.d _).gives (.cons (Reads.d _).gives (.cons (Reads.d _).gives .nil)))) rfl rfl (fun h => absurd rfl h) (.own [10, 0] .nil) (.nil) rfl rfl rfl (by simp) rfl rfl rfl ?_
   refine .pick (.no rfl) rfl rfl rfl rfl rfl ?_
   refine .assign (.no rfl) rfl rfl rfl rfl ?_
   exact .fin () (.of (.cons (svB (show (Parts.isIn d l) = ((Decl.ok d && Parts.isIn d l)) by first | (simp only [g1_2, Bool.true_or, Bool.false_or, Bool.true_and, Bool.false_and, Bool.not_true, Bool.not_false]; done) | simp [g1_2])) .nil) .nil)
 intro _
 refine .ret ?_
 have e9 : ((Decl.ok d && Parts.isIn d l)) = (Parts.ok d l) := by rfl
 have hc10 := eq1 (fun z1 => SV.one (.d (.v (.bool (z1))))) e9
 show _ ∧ _
 exact ⟨.inr rfl, .done ⟨_, [], [], _, .one (c := .d (.v (.bool (Parts.ok d l)))) (hc10) .nil, .cons (Reads.d _).gives .nil, nodupB_ok rfl, by simp, (by simp)⟩⟩
end Go.Proofs

namespace Go.Proofs
open Go Go.Proofs Go.Ev

set_option maxHeartbeats 8000000 in
theorem c_FnExactPartsOk (d : Decl) (l : List Part) (hs : ∀ x ∈ Decl.names d, x.size ≤ 9223372036854775807) (hv : ∀ x ∈ d.vars, 0 ≤ strW x ∧ strW x ≤ 9223372036854775807) (hf : ∀ x ∈ d.flags, 0 ≤ strW x ∧ strW x ≤ 9223372036854775807) (ha : ∀ x ∈ d.arrays, 0 ≤ arrW x ∧ arrW x ≤ 9223372036854775807) : Trip Tryz.prog 4 [(true, 3), (false, 1)] (Decl.c25 d ++ [.sl false 94 2 (List.map Part.c94 (l))]) [(false, 1)] [.v (.bool (true))] [] := by
 refine Trip.of Tryz.func4 (by decide) (c := _) rfl rfl (shB_ok rfl) (Nat.le_of_ble_eq_true rfl) rfl (AftOk.nil _) ?_
 refine .satA (t := 0) (i := 0) rfl rfl (fun hs1 => ?_)
 have hs1l : d.vars.length ≤ 9223372036854775807 := hs1.maplen
 refine .satA (t := 0) (i := 1) rfl rfl (fun hs2 => ?_)
 have hs2l : d.flags.length ≤ 9223372036854775807 := hs2.maplen
 refine .satA (t := 0) (i := 2) rfl rfl (fun hs3 => ?_)
 have hs3l : d.arrays.length ≤ 9223372036854775807 := hs3.maplen
 refine .sat (t := 1) rfl (fun hs4 => ?_)
 have hs4l : l.length ≤ 9223372036854775807 := hs4.maplen
 refine .seq ?_
 refine .reg (X := Nat) (fun ζ => .of [(1, .one (.d (.sl false 94 2 (List.map Part.c94 (l))))), (2, .one (.ptr [2] (ζ) 0))] [([2], (ζ, ζ, .box [.d (.sl false 9 1 (List.map strc (d.vars))), .d (.sl false 9 1 (List.map strc (d.flags))), .d (.sl false 115 2 (List.map Arr.c (d.arrays)))]))]) [⟨[0], some 2, [], [[2]]⟩, ⟨[], some 4, [], []⟩] (fun k5 => ?_) ?_
 ·skip
  refine .box (.no rfl) rfl rfl rfl rfl rfl ?_
  refine .assign (.no rfl) rfl rfl rfl rfl ?_
  exact .fin k5 (.of (.cons rfl (.cons rfl .nil)) (.cons rfl .nil))
 intro g6
 refine .seq ?_
 refine .reg (X := Unit) (fun ζ => .of [(1, .one (.d (.sl false 94 2 (List.map Part.c94 (l))))), (2, .one (.ptr [2] (g6) 0)), (5, .one (.d (.v (.int .i64 (1048576)))))] [([2], (g6, g6, .box [.d (.sl false 9 1 (List.map strc (d.vars))), .d (.sl false 9 1 (List.map strc (d.flags))), .d (.sl false 115 2 (List.map Arr.c (d.arrays)))]))]) [⟨[], some 5, [], []⟩] (fun k7 => ?_) ?_
 ·skip
  refine .assign (.no rfl) rfl rfl rfl rfl ?_
  exact .fin () (.of (.cons rfl (.cons rfl (.cons rfl .nil))) (.cons rfl .nil))
 intro _
 refine .seq ?_
 refine .reg (X := Unit) (fun ζ => .of [(1, .one (.d (.sl false 94 2 (List.map Part.c94 (l))))), (2, .one (.ptr [2] (g6) 0)), (5, .one (.d (.v (.int .i64 (szDecl d 1048576)))))] [([2], (g6, g6, .box [.d (.sl false 9 1 (List.map strc (d.vars))), .d (.sl false 9 1 (List.map strc (d.flags))), .d (.sl false 115 2 (List.map Arr.c (d.arrays)))]))]) [⟨[2], some 10, [[2]], []⟩, ⟨[5], some 11, [], []⟩, ⟨[10, 11], some 12, [], []⟩, ⟨[12], some 5, [], []⟩] (fun k8 => ?_) ?_
 ·skip
  refine .load (.no rfl) rfl t25 rfl rfl (.ptr _ _ _ _ _ rfl) rfl rfl rfl rfl ?_
  refine .move (.no rfl) rfl rfl rfl rfl ?_
  refine .call (.no rfl) rfl [] [] (c_szDecl d 1048576 (by first | assumption | omega | exact ⟨‹_›, ‹_›⟩ | exact q1.1.1 | exact q1.1.2 | (simp only [Decl.marks, Env.marks, Env.mark, mkAll_len]; omega)) (by first | assumption | omega | exact ⟨‹_›, ‹_›⟩ | exact q1.1.1 | exact q1.1.2 | (simp only [Decl.marks, Env.marks, Env.mark, mkAll_len]; omega)) (by first | assumption | omega | exact ⟨‹_›, ‹_›⟩ | exact q1.1.1 | exact q1.1.2 | (simp only [Decl.marks, Env.marks, Env.mark, mkAll_len]; omega)) (by first | assumption | omega | exact ⟨‹_›, ‹_›⟩ | exact q1.1.1 | exact q1.1.2 | (simp only [Decl.marks, Env.marks, Env.mark, mkAll_len]; omega))) rfl rfl rfl rfl rfl (.cons (Reads.d _).gives (.cons (Reads.d _).gives (.cons (Reads.d _).gives (.cons (Reads.d _).gives .nil)))) rfl rfl (fun h => absurd rfl h) (.own [12, 0] .nil) (.nil) rfl rfl rfl (by simp) rfl rfl rfl ?_
  refine .assign (.no rfl) rfl rfl rfl rfl ?_
  exact .fin () (.of (.cons rfl (.cons rfl (.cons rfl .nil))) (.cons rfl .nil))
 intro _
 refine .seq ?_
 refine .seq ?_
 refine .reg (X := Unit) (fun ζ => .of [(1, .one (.d (.sl false 94 2 (List.map Part.c94 (l))))), (2, .one (.ptr [2] (g6) 0)), (5, .one (.d (.v (.int .i64 (szDecl d 1048576))))), (14, .one (.d (.v (.bool (decide ((szDecl d 1048576) < 0))))))] [([2], (g6, g6, .box [.d (.sl false 9 1 (List.map strc (d.vars))), .d (.sl false 9 1 (List.map strc (d.flags))), .d (.sl false 115 2 (List.map Arr.c (d.arrays)))]))]) [⟨[5], some 13, [], []⟩, ⟨[13], some 14, [], []⟩] (fun k9 => ?_) ?_
 ·skip
  refine .move (.no rfl) rfl rfl rfl rfl ?_
  refine .bin (.no rfl) rfl rfl rfl rfl rfl rfl ?_
  exact .fin () (.of (.cons rfl (.cons rfl (.cons rfl (.cons rfl .nil)))) (.cons rfl .nil))
 intro _
 refine .cond (t := decide ((szDecl d 1048576) < 0)) rfl (fun c0 => ?_) (fun c0 => ?_)
 ·have c0 := of_decide_eq_true c0
  refine .seq ?_
  refine .reg (X := Unit) (fun ζ => .of [(4, .one (.d (.v (.bool (true)))))] []) [⟨[], some 4, [], []⟩] (fun k10 => ?_) ?_
  ·skip
   refine .assign (.no rfl) rfl rfl rfl rfl ?_
   exact .fin () (.of (.cons rfl .nil) .nil)
  intro _
  refine .ret ?_
  show _ ∧ _
  exact ⟨.inr rfl, .done ⟨_, [], [], _, .one rfl .nil, .cons (Reads.d _).gives .nil, nodupB_ok rfl, by simp, (by simp)⟩⟩
 ·have c0 := of_decide_eq_false c0
  have q0 := szDecl_len hv hf ha (by omega) c0
  refine .skip ?_
  refine .seq ?_
  refine .reg (X := Unit) (fun ζ => .of [(1, .one (.d (.sl false 94 2 (List.map Part.c94 (l))))), (2, .one (.ptr [2] (g6) 0)), (5, .one (.d (.v (.int .i64 (szPartS l (szDecl d 1048576))))))] [([2], (g6, g6, .box [.d (.sl false 9 1 (List.map strc (d.vars))), .d (.sl false 9 1 (List.map strc (d.flags))), .d (.sl false 115 2 (List.map Arr.c (d.arrays)))]))]) [⟨[1], some 15, [], []⟩, ⟨[5], some 16, [], []⟩, ⟨[15, 16], some 17, [], []⟩, ⟨[17], some 5, [], []⟩] (fun k11 => ?_) ?_
  ·skip
   refine .move (.no rfl) rfl rfl rfl rfl ?_
   refine .move (.no rfl) rfl rfl rfl rfl ?_
   refine .call (.no rfl) rfl [] [] (c_szPartS l (szDecl d 1048576) (by first | assumption | omega | exact ⟨‹_›, ‹_›⟩ | exact q1.1.1 | exact q1.1.2 | (simp only [Decl.marks, Env.marks, Env.mark, mkAll_len]; omega))) rfl rfl rfl rfl rfl (.cons (Reads.d _).gives (.cons (Reads.d _).gives .nil)) rfl rfl (fun h => absurd rfl h) (.own [17, 0] .nil) (.nil) rfl rfl rfl (by simp) rfl rfl rfl ?_
   refine .assign (.no rfl) rfl rfl rfl rfl ?_
   exact .fin () (.of (.cons rfl (.cons rfl (.cons rfl .nil))) (.cons rfl .nil))
  intro _
  refine .seq ?_
  refine .seq ?_
  refine .reg (X := Unit) (fun ζ => .of [(1, .one (.d (.sl false 94 2 (List.map Part.c94 (l))))), (2, .one (.ptr [2] (g6) 0)), (19, .one (.d (.v (.bool (decide ((szPartS l (szDecl d 1048576)) < 0))))))] [([2], (g6, g6, .box [.d (.sl false 9 1 (List.map strc (d.vars))), .d (.sl false 9 1 (List.map strc (d.flags))), .d (.sl false 115 2 (List.map Arr.c (d.arrays)))]))]) [⟨[5], some 18, [], []⟩, ⟨[18], some 19, [], []⟩] (fun k12 => ?_) ?_
  ·skip
   refine .move (.no rfl) rfl rfl rfl rfl ?_
   refine .bin (.no rfl) rfl rfl rfl rfl rfl rfl ?_
   exact .fin () (.of (.cons rfl (.cons rfl (.cons rfl .nil))) (.cons rfl .nil))
  intro _
  refine .cond (t := decide ((szPartS l (szDecl d 1048576)) < 0)) rfl (fun c1 => ?_) (fun c1 => ?_)
  ·have c1 := of_decide_eq_true c1
   refine .seq ?_
   refine .reg (X := Unit) (fun ζ => .of [(4, .one (.d (.v (.bool (true)))))] []) [⟨[], some 4, [], []⟩] (fun k13 => ?_) ?_
   ·skip
    refine .assign (.no rfl) rfl rfl rfl rfl ?_
    exact .fin () (.of (.cons rfl .nil) .nil)
   intro _
   refine .ret ?_
   show _ ∧ _
   exact ⟨.inr rfl, .done ⟨_, [], [], _, .one rfl .nil, .cons (Reads.d _).gives .nil, nodupB_ok rfl, by simp, (by simp)⟩⟩
  ·have c1 := of_decide_eq_false c1
   have q1 := szPartS_len (by omega) c1
   have q1a := q1.1
   refine .skip ?_
   refine .seq ?_
   refine .reg (X := Unit) (fun ζ => .of [(1, .one (.d (.sl false 94 2 (List.map Part.c94 (l))))), (2, .one (.ptr [2] (g6) 0)), (6, .one (.d (.v (.bool (Parts.ok d l)))))] [([2], (g6, g6, .box [.d (.sl false 9 1 (List.map strc (d.vars))), .d (.sl false 9 1 (List.map strc (d.flags))), .d (.sl false 115 2 (List.map Arr.c (d.arrays)))]))]) [⟨[2], some 20, [[2]], []⟩, ⟨[20], some 21, [], [[21, 0], [21, 1], [21, 2]]⟩, ⟨[1], some 22, [], []⟩, ⟨[22], some 23, [], [[23, 0]]⟩, ⟨[21, 23], some 24, [[21, 0], [21, 1], [21, 2], [23, 0]], []⟩, ⟨[24], some 6, [], []⟩] (fun k14 => ?_) ?_
   ·skip
    refine .load (.no rfl) rfl t25 rfl rfl (.ptr _ _ _ _ _ rfl) rfl rfl rfl rfl ?_
    refine .call (.no rfl) rfl [] [] (c_toDecl d (by first | assumption | omega | exact ⟨‹_›, ‹_›⟩ | exact q1.1.1 | exact q1.1.2 | (simp only [Decl.marks, Env.marks, Env.mark, mkAll_len]; omega))) rfl rfl rfl rfl rfl (.cons (Reads.d _).gives (.cons (Reads.d _).gives (.cons (Reads.d _).gives .nil))) rfl rfl (fun h => absurd rfl h) (.own [21, 0] (.own [21, 1] (.own [21, 2] .nil))) (.nil) rfl rfl rfl (by simp) rfl rfl rfl ?_
    refine .move (.no rfl) rfl rfl rfl rfl ?_
    refine .call (.no rfl) rfl [] [] (c_toPartS l (by first | assumption | omega | exact ⟨‹_›, ‹_›⟩ | exact q1.1.1 | exact q1.1.2 | (simp only [Decl.marks, Env.marks, Env.mark, mkAll_len]; omega)) (by first | assumption | omega | exact ⟨‹_›, ‹_›⟩ | exact q1.1.1 | exact q1.1.2 | (simp only [Decl.marks, Env.marks, Env.mark, mkAll_len]; omega))) rfl rfl rfl rfl rfl (.cons (Reads.d _).gives .nil) rfl rfl (fun h => absurd rfl h) (.own [23, 0] .nil) (.nil) rfl rfl rfl (by simp) rfl rfl rfl ?_
    refine .call (.no rfl) rfl [[21, 0], [21, 1], [21, 2], [23, 0]] [([21, 0], (k14 + 1, k14 + 1, .row 9 1 (List.map strc (d.vars)))), ([21, 1], (k14 + 1, k14 + 1, .row 9 1 (List.map strc (d.flags)))), ([21, 2], (k14 + 1, k14 + 1, .row 119 2 (List.map Arr.c (d.arrays)))), ([23, 0], (k14 + 1 + 1 + 1, k14 + 1 + 1 + 1, .row 99 2 (List.map Part.co99 (l))))] (c_sPartsOk d l (by first | assumption | omega | exact ⟨‹_›, ‹_›⟩ | exact q1.1.1 | exact q1.1.2 | (simp only [Decl.marks, Env.marks, Env.mark, mkAll_len]; omega)) (by first | assumption | omega | exact ⟨‹_›, ‹_›⟩ | exact q1.1.1 | exact q1.1.2 | (simp only [Decl.marks, Env.marks, Env.mark, mkAll_len]; omega)) (by first | assumption | omega | exact ⟨‹_›, ‹_›⟩ | exact q1.1.1 | exact q1.1.2 | (simp only [Decl.marks, Env.marks, Env.mark, mkAll_len]; omega))) rfl rfl rfl rfl rfl (.cons (Reads.ref (Frz.of_erase (erase_slo _ _ _ _ _ _ strc_e)) (.head _) (.head _)).gives (.cons (Reads.ref (Frz.of_erase (erase_slo _ _ _ _ _ _ strc_e)) (.tail _ (.head _)) (.tail _ (.head _))).gives (.cons (Reads.ref (Frz.of_erase (erase_slo _ _ _ _ _ _ Arr.c_e)) (.tail _ (.tail _ (.head _))) (.tail _ (.tail _ (.head _)))).gives (.cons (Reads.ref (Frz.of_erase (erase_slo _ _ _ _ _ _ Part.co99_e)) (.tail _ (.tail _ (.tail _ (.head _)))) (.tail _ (.tail _ (.tail _ (.head _))))).gives .nil)))) rfl rfl (fun _ => (ownCons (Owned.v _) ownNil)) (.own [24, 0] .nil) (.nil) rfl rfl rfl (AllH.get (.cons rfl (.cons rfl (.cons rfl (.cons rfl .nil))))) rfl rfl rfl ?_
    refine .assign (.no rfl) rfl rfl rfl rfl ?_
    exact .fin () (.of (.cons rfl (.cons rfl (.cons rfl .nil))) (.cons rfl .nil))
   intro _
   refine .seq ?_
   refine .reg (X := Nat × Nat × Nat) (fun ζ => .of [(1, .one (.d (.sl false 94 2 (List.map Part.c94 (l))))), (2, .one (.ptr [2] (g6) 0)), (6, .one (.d (.v (.bool (Parts.ok d l))))), (7, .one (.ptr [7] (ζ.1) 0))] [([2], (g6, g6, .box [.d (.sl false 9 1 (List.map strc (d.vars))), .d (.sl false 9 1 (List.map strc (d.flags))), .d (.sl false 115 2 (List.map Arr.c (d.arrays)))])), ([7], (ζ.1, ζ.2.1, .box [.ref [26, 0] (ζ.2.2), .ref [26, 1] (ζ.2.2), .ref [26, 2] (ζ.2.2)])), ([26, 0], (ζ.2.2, ζ.2.2, .row 9 1 (List.map strc (d.vars)))), ([26, 1], (ζ.2.2, ζ.2.2, .row 9 1 (List.map strc (d.flags)))), ([26, 2], (ζ.2.2, ζ.2.2, .row 119 2 (List.map Arr.c (d.arrays))))]) [⟨[2], some 25, [[2]], []⟩, ⟨[25], some 26, [], [[26, 0], [26, 1], [26, 2]]⟩, ⟨[], some 7, [], [[7]]⟩, ⟨[7, 26], none, [[7]], [[7]]⟩] (fun k15 => ?_) ?_
   ·skip
    refine .load (.no rfl) rfl t25 rfl rfl (.ptr _ _ _ _ _ rfl) rfl rfl rfl rfl ?_
    refine .call (.no rfl) rfl [] [] (c_toDecl d (by first | assumption | omega | exact ⟨‹_›, ‹_›⟩ | exact q1.1.1 | exact q1.1.2 | (simp only [Decl.marks, Env.marks, Env.mark, mkAll_len]; omega))) rfl rfl rfl rfl rfl (.cons (Reads.d _).gives (.cons (Reads.d _).gives (.cons (Reads.d _).gives .nil))) rfl rfl (fun h => absurd rfl h) (.own [26, 0] (.own [26, 1] (.own [26, 2] .nil))) (.nil) rfl rfl rfl (by simp) rfl rfl rfl ?_
    refine .alloc (.no rfl) rfl z38 rfl rfl rfl ?_
    refine .store (.no rfl) rfl t38 rfl rfl rfl rfl rfl rfl rfl rfl rfl ?_
    exact .fin (k15 + 1 + 1, k15 + 1 + 1 + 1, k15 + 1) (.of (.cons rfl (.cons rfl (.cons rfl (.cons rfl .nil)))) (.cons rfl (.cons rfl (.cons rfl (.cons rfl (.cons rfl .nil))))))
   rintro ⟨g16, g17, g18⟩
   refine .seq ?_
   refine .reg (X := Nat) (fun ζ => .of [(1, .one (.d (.sl false 94 2 (List.map Part.c94 (l))))), (2, .one (.ptr [2] (g6) 0)), (6, .one (.d (.v (.bool (Parts.ok d l))))), (7, .one (.ptr [7] (g16) 0)), (8, .one (.ref [28, 0] (ζ)))] [([2], (g6, g6, .box [.d (.sl false 9 1 (List.map strc (d.vars))), .d (.sl false 9 1 (List.map strc (d.flags))), .d (.sl false 115 2 (List.map Arr.c (d.arrays)))])), ([7], (g16, g17, .box [.ref [26, 0] (g18), .ref [26, 1] (g18), .ref [26, 2] (g18)])), ([26, 0], (g18, g18, .row 9 1 (List.map strc (d.vars)))), ([26, 1], (g18, g18, .row 9 1 (List.map strc (d.flags)))), ([26, 2], (g18, g18, .row 119 2 (List.map Arr.c (d.arrays)))), ([28, 0], (ζ, ζ, .row 99 2 (List.map Part.co99 (l))))]) [⟨[1], some 27, [], []⟩, ⟨[27], some 28, [], [[28, 0]]⟩, ⟨[28], some 8, [], []⟩] (fun k19 => ?_) ?_
   ·skip
    refine .move (.no rfl) rfl rfl rfl rfl ?_
    refine .call (.no rfl) rfl [] [] (c_toPartS l (by first | assumption | omega | exact ⟨‹_›, ‹_›⟩ | exact q1.1.1 | exact q1.1.2 | (simp only [Decl.marks, Env.marks, Env.mark, mkAll_len]; omega)) (by first | assumption | omega | exact ⟨‹_›, ‹_›⟩ | exact q1.1.1 | exact q1.1.2 | (simp only [Decl.marks, Env.marks, Env.mark, mkAll_len]; omega))) rfl rfl rfl rfl rfl (.cons (Reads.d _).gives .nil) rfl rfl (fun h => absurd rfl h) (.own [28, 0] .nil) (.nil) rfl rfl rfl (by simp) rfl rfl rfl ?_
    refine .assign (.no rfl) rfl rfl rfl rfl ?_
    exact .fin (k19 + 1) (.of (.cons rfl (.cons rfl (.cons rfl (.cons rfl (.cons rfl .nil))))) (.cons rfl (.cons rfl (.cons rfl (.cons rfl (.cons rfl (.cons rfl .nil)))))))
   intro g20
   refine .seq ?_
   refine .reg (X := Unit) (fun ζ => .of [(1, .one (.d (.sl false 94 2 (List.map Part.c94 (l))))), (2, .one (.ptr [2] (g6) 0)), (6, .one (.d (.v (.bool (Parts.ok d l))))), (7, .one (.ptr [7] (g16) 0)), (8, .one (.ref [28, 0] (g20))), (9, .one (.d (.v (.bool (Parts.ok d l)))))] [([2], (g6, g6, .box [.d (.sl false 9 1 (List.map strc (d.vars))), .d (.sl false 9 1 (List.map strc (d.flags))), .d (.sl false 115 2 (List.map Arr.c (d.arrays)))])), ([7], (g16, g17, .box [.ref [26, 0] (g18), .ref [26, 1] (g18), .ref [26, 2] (g18)])), ([26, 0], (g18, g18, .row 9 1 (List.map strc (d.vars)))), ([26, 1], (g18, g18, .row 9 1 (List.map strc (d.flags)))), ([26, 2], (g18, g18, .row 119 2 (List.map Arr.c (d.arrays)))), ([28, 0], (g20, g20, .row 99 2 (List.map Part.co99 (l))))]) [⟨[7], some 29, [[7]], []⟩, ⟨[8], some 30, [], []⟩, ⟨[29, 30], some 31, [[26, 0], [26, 1], [26, 2], [28, 0]], []⟩, ⟨[31], some 9, [], []⟩] (fun k21 => ?_) ?_
   ·skip
    refine .load (.no rfl) rfl t38 rfl rfl (.ptr _ _ _ _ _ rfl) rfl rfl rfl rfl ?_
    refine .move (.no rfl) rfl rfl rfl rfl ?_
    refine .call (.no rfl) rfl [[26, 0], [26, 1], [26, 2], [28, 0]] [([26, 0], (g18, g18, .row 9 1 (List.map strc (d.vars)))), ([26, 1], (g18, g18, .row 9 1 (List.map strc (d.flags)))), ([26, 2], (g18, g18, .row 119 2 (List.map Arr.c (d.arrays)))), ([28, 0], (g20, g20, .row 99 2 (List.map Part.co99 (l))))] (c_PartsOk d l (by first | assumption | omega | exact ⟨‹_›, ‹_›⟩ | exact q1.1.1 | exact q1.1.2 | (simp only [Decl.marks, Env.marks, Env.mark, mkAll_len]; omega)) (by first | assumption | omega | exact ⟨‹_›, ‹_›⟩ | exact q1.1.1 | exact q1.1.2 | (simp only [Decl.marks, Env.marks, Env.mark, mkAll_len]; omega))) rfl rfl rfl rfl rfl (.cons (Reads.ref (Frz.of_erase (erase_slo _ _ _ _ _ _ strc_e)) (.head _) (.head _)).gives (.cons (Reads.ref (Frz.of_erase (erase_slo _ _ _ _ _ _ strc_e)) (.tail _ (.head _)) (.tail _ (.head _))).gives (.cons (Reads.ref (Frz.of_erase (erase_slo _ _ _ _ _ _ Arr.c_e)) (.tail _ (.tail _ (.head _))) (.tail _ (.tail _ (.head _)))).gives (.cons (Reads.ref (Frz.of_erase (erase_slo _ _ _ _ _ _ Part.co99_e)) (.tail _ (.tail _ (.tail _ (.head _)))) (.tail _ (.tail _ (.tail _ (.head _))))).gives .nil)))) rfl rfl (fun _ => (ownCons (Owned.v _) ownNil)) (.own [31, 0] .nil) (.nil) rfl rfl rfl (AllH.get (.cons rfl (.cons rfl (.cons rfl (.cons rfl .nil))))) rfl rfl rfl ?_
    refine .assign (.no rfl) rfl rfl rfl rfl ?_
    exact .fin () (.of (.cons rfl (.cons rfl (.cons rfl (.cons rfl (.cons rfl (.cons rfl .nil)))))) (.cons rfl (.cons rfl (.cons rfl (.cons rfl (.cons rfl (.cons rfl .nil)))))))
   intro _
   refine .seq ?_
   refine .seq ?_
   refine .reg (X := Unit) (fun ζ => .of [(1, .one (.d (.sl false 94 2 (List.map Part.c94 (l))))), (2, .one (.ptr [2] (g6) 0)), (7, .one (.ptr [7] (g16) 0)), (8, .one (.ref [28, 0] (g20))), (34, .one (.d (.v (.bool ((Parts.ok d l) != (Parts.ok d l))))))] [([2], (g6, g6, .box [.d (.sl false 9 1 (List.map strc (d.vars))), .d (.sl false 9 1 (List.map strc (d.flags))), .d (.sl false 115 2 (List.map Arr.c (d.arrays)))])), ([7], (g16, g17, .box [.ref [26, 0] (g18), .ref [26, 1] (g18), .ref [26, 2] (g18)])), ([26, 0], (g18, g18, .row 9 1 (List.map strc (d.vars)))), ([26, 1], (g18, g18, .row 9 1 (List.map strc (d.flags)))), ([26, 2], (g18, g18, .row 119 2 (List.map Arr.c (d.arrays)))), ([28, 0], (g20, g20, .row 99 2 (List.map Part.co99 (l))))]) [⟨[9], some 32, [], []⟩, ⟨[6], some 33, [], []⟩, ⟨[32, 33], some 34, [], []⟩] (fun k22 => ?_) ?_
   ·skip
    refine .move (.no rfl) rfl rfl rfl rfl ?_
    refine .move (.no rfl) rfl rfl rfl rfl ?_
    refine .neB (.no rfl) rfl t4 rfl rfl rfl rfl rfl ?_
    exact .fin () (.of (.cons rfl (.cons rfl (.cons rfl (.cons rfl (.cons rfl .nil))))) (.cons rfl (.cons rfl (.cons rfl (.cons rfl (.cons rfl (.cons rfl .nil)))))))
   intro _
   refine .cond (t := (Parts.ok d l) != (Parts.ok d l)) rfl (fun c2 => ?_) (fun c2 => ?_)
   ·have c2 := (by simpa using c2 : ¬ ((Parts.ok d l) = (Parts.ok d l)))
    refine .seq ?_
    refine .reg (X := Unit) (fun ζ => .of [(4, .one (.d (.v (.bool (false)))))] []) [⟨[], some 4, [], []⟩] (fun k23 => ?_) ?_
    ·skip
     refine .assign (.no rfl) rfl rfl rfl rfl ?_
     exact .fin () (.of (.cons rfl .nil) .nil)
    intro _
    refine .ret ?_
    have e24 : (false) = (true) := by first | exact absurd c2 (by rw [Env.same_self]; decide) | exact absurd c2 (by rw [Decl.same_self]; decide) | exact absurd c2 (by rw [all2_self Env.same_self]; decide) | exact absurd c2 (by rw [all2_self Part.same_self]; decide) | exact absurd c2 (by rw [all2_self Entry.same_self]; decide) | (simp at c2)
    have hc25 := eq1 (fun z1 => SV.one (.d (.v (.bool (z1))))) e24
    show _ ∧ _
    exact ⟨.inr rfl, .done ⟨_, [], [], _, .one (c := .d (.v (.bool (true)))) (hc25) .nil, .cons (Reads.d _).gives .nil, nodupB_ok rfl, by simp, (by simp)⟩⟩
   ·have c2 := (by simpa using c2 : (Parts.ok d l) = (Parts.ok d l))
    refine .skip ?_
    refine .seq ?_
    refine .seq ?_
    refine .regD (X := Unit) (by kernel_rfl) (fun ζ => .of [(1, .one (.d (.sl false 94 2 (List.map Part.c94 (l))))), (8, .one (.ref [28, 0] (g20))), (39, .one (.d (.v (.bool (!(Decl.same d d))))))] [([28, 0], (g20, g20, .row 99 2 (List.map Part.co99 (l))))]) [⟨[7], some 35, [[7]], []⟩, ⟨[2], some 36, [[2]], []⟩, ⟨[36], some 37, [], [[37, 0], [37, 1], [37, 2]]⟩, ⟨[35, 37], some 38, [[26, 0], [26, 1], [26, 2], [37, 0], [37, 1], [37, 2]], []⟩, ⟨[38], some 39, [], []⟩] (by kernel_rfl) (fun k26 => ?_) ?_
    ·skip
     refine .load (.no rfl) rfl t38 rfl rfl (.ptr _ _ _ _ _ rfl) rfl rfl rfl rfl ?_
     refine .load (.no rfl) rfl t25 rfl rfl (.ptr _ _ _ _ _ rfl) rfl rfl rfl rfl ?_
     refine .call (.no rfl) rfl [] [] (c_toDecl d (by first | assumption | omega | exact ⟨‹_›, ‹_›⟩ | exact q1.1.1 | exact q1.1.2 | (simp only [Decl.marks, Env.marks, Env.mark, mkAll_len]; omega))) rfl rfl rfl rfl rfl (.cons (Reads.d _).gives (.cons (Reads.d _).gives (.cons (Reads.d _).gives .nil))) rfl rfl (fun h => absurd rfl h) (.own [37, 0] (.own [37, 1] (.own [37, 2] .nil))) (.nil) rfl rfl rfl (by simp) rfl rfl rfl ?_
     refine .call (.no rfl) rfl [[26, 0], [26, 1], [26, 2], [37, 0], [37, 1], [37, 2]] [([26, 0], (g18, g18, .row 9 1 (List.map strc (d.vars)))), ([26, 1], (g18, g18, .row 9 1 (List.map strc (d.flags)))), ([26, 2], (g18, g18, .row 119 2 (List.map Arr.c (d.arrays)))), ([37, 0], (k26 + 1 + 1, k26 + 1 + 1, .row 9 1 (List.map strc (d.vars)))), ([37, 1], (k26 + 1 + 1, k26 + 1 + 1, .row 9 1 (List.map strc (d.flags)))), ([37, 2], (k26 + 1 + 1, k26 + 1 + 1, .row 119 2 (List.map Arr.c (d.arrays))))] (c_eqDecl d d) rfl rfl rfl rfl rfl (.cons (Reads.ref (Frz.of_erase (erase_slo _ _ _ _ _ _ strc_e)) (.head _) (.head _)).gives (.cons (Reads.ref (Frz.of_erase (erase_slo _ _ _ _ _ _ strc_e)) (.tail _ (.head _)) (.tail _ (.head _))).gives (.cons (Reads.ref (Frz.of_erase (erase_slo _ _ _ _ _ _ Arr.c_e)) (.tail _ (.tail _ (.head _))) (.tail _ (.tail _ (.head _)))).gives (.cons (Reads.ref (Frz.of_erase (erase_slo _ _ _ _ _ _ strc_e)) (.tail _ (.tail _ (.tail _ (.head _)))) (.tail _ (.tail _ (.tail _ (.head _))))).gives (.cons (Reads.ref (Frz.of_erase (erase_slo _ _ _ _ _ _ strc_e)) (.tail _ (.tail _ (.tail _ (.tail _ (.head _))))) (.tail _ (.tail _ (.tail _ (.tail _ (.head _)))))).gives (.cons (Reads.ref (Frz.of_erase (erase_slo _ _ _ _ _ _ Arr.c_e)) (.tail _ (.tail _ (.tail _ (.tail _ (.tail _ (.head _)))))) (.tail _ (.tail _ (.tail _ (.tail _ (.tail _ (.head _))))))).gives .nil)))))) rfl rfl (fun _ => (ownCons (Owned.v _) ownNil)) (.own [38, 0] .nil) (.nil) rfl rfl rfl (AllH.get (.cons rfl (.cons rfl (.cons rfl (.cons rfl (.cons rfl (.cons rfl .nil))))))) rfl rfl rfl ?_
     refine .un (.no rfl) rfl rfl rfl rfl rfl ?_
     exact .fin () (.of (.cons rfl (.cons rfl (.cons rfl .nil))) (.cons rfl .nil))
    intro _
    refine .cond (t := !(Decl.same d d)) rfl (fun c3 => ?_) (fun c3 => ?_)
    ·have c3 := c3
     try simp only [Bool.or_eq_true, Bool.or_eq_false_iff, Bool.and_eq_true, Bool.and_eq_false_iff, decide_eq_true_eq, decide_eq_false_iff_not, Bool.not_eq_true', Bool.not_eq_false', bne_iff_ne, beq_iff_eq, bne_eq_false_iff_eq, beq_eq_false_iff_ne, ne_eq, Bool.not_eq_eq_eq_not, Bool.not_true, Bool.not_false] at c3
     refine .seq ?_
     refine .reg (X := Unit) (fun ζ => .of [(4, .one (.d (.v (.bool (false)))))] []) [⟨[], some 4, [], []⟩] (fun k27 => ?_) ?_
     ·skip
      refine .assign (.no rfl) rfl rfl rfl rfl ?_
      exact .fin () (.of (.cons rfl .nil) .nil)
     intro _
     refine .ret ?_
     have e28 : (false) = (true) := by first | exact absurd c3 (by rw [Env.same_self]; decide) | exact absurd c3 (by rw [Decl.same_self]; decide) | exact absurd c3 (by rw [all2_self Env.same_self]; decide) | exact absurd c3 (by rw [all2_self Part.same_self]; decide) | exact absurd c3 (by rw [all2_self Entry.same_self]; decide) | (simp at c3)
     have hc29 := eq1 (fun z1 => SV.one (.d (.v (.bool (z1))))) e28
     show _ ∧ _
     exact ⟨.inr rfl, .done ⟨_, [], [], _, .one (c := .d (.v (.bool (true)))) (hc29) .nil, .cons (Reads.d _).gives .nil, nodupB_ok rfl, by simp, (by simp)⟩⟩
    ·have c3 := c3
     try simp only [Bool.or_eq_true, Bool.or_eq_false_iff, Bool.and_eq_true, Bool.and_eq_false_iff, decide_eq_true_eq, decide_eq_false_iff_not, Bool.not_eq_true', Bool.not_eq_false', bne_iff_ne, beq_iff_eq, bne_eq_false_iff_eq, beq_eq_false_iff_ne, ne_eq, Bool.not_eq_eq_eq_not, Bool.not_true, Bool.not_false] at c3
     refine .skip ?_
     refine .seq ?_
     refine .seq ?_
     refine .reg (X := Unit) (fun ζ => .of [(44, .one (.d (.v (.bool (!(all2 Part.same l l))))))] []) [⟨[8], some 40, [], []⟩, ⟨[1], some 41, [], []⟩, ⟨[41], some 42, [], [[42, 0]]⟩, ⟨[40, 42], some 43, [[28, 0], [42, 0]], []⟩, ⟨[43], some 44, [], []⟩] (fun k30 => ?_) ?_
     ·skip
      refine .move (.no rfl) rfl rfl rfl rfl ?_
      refine .move (.no rfl) rfl rfl rfl rfl ?_
      refine .call (.no rfl) rfl [] [] (c_toPartS l (by first | assumption | omega | exact ⟨‹_›, ‹_›⟩ | exact q1.1.1 | exact q1.1.2 | (simp only [Decl.marks, Env.marks, Env.mark, mkAll_len]; omega)) (by first | assumption | omega | exact ⟨‹_›, ‹_›⟩ | exact q1.1.1 | exact q1.1.2 | (simp only [Decl.marks, Env.marks, Env.mark, mkAll_len]; omega))) rfl rfl rfl rfl rfl (.cons (Reads.d _).gives .nil) rfl rfl (fun h => absurd rfl h) (.own [42, 0] .nil) (.nil) rfl rfl rfl (by simp) rfl rfl rfl ?_
      refine .call (.no rfl) rfl [[28, 0], [42, 0]] [([28, 0], (g20, g20, .row 99 2 (List.map Part.co99 (l)))), ([42, 0], (k30 + 1 + 1, k30 + 1 + 1, .row 99 2 (List.map Part.co99 (l))))] (c_eqPartS l l) rfl rfl rfl rfl rfl (.cons (Reads.ref (Frz.of_erase (erase_slo _ _ _ _ _ _ Part.co99_e)) (.head _) (.head _)).gives (.cons (Reads.ref (Frz.of_erase (erase_slo _ _ _ _ _ _ Part.co99_e)) (.tail _ (.head _)) (.tail _ (.head _))).gives .nil)) rfl rfl (fun _ => (ownCons (Owned.v _) ownNil)) (.own [43, 0] .nil) (.nil) rfl rfl rfl (AllH.get (.cons rfl (.cons rfl .nil))) rfl rfl rfl ?_
      refine .un (.no rfl) rfl rfl rfl rfl rfl ?_
      exact .fin () (.of (.cons rfl .nil) .nil)
     intro _
     refine .cond (t := !(all2 Part.same l l)) rfl (fun c4 => ?_) (fun c4 => ?_)
     ·have c4 := c4
      try simp only [Bool.or_eq_true, Bool.or_eq_false_iff, Bool.and_eq_true, Bool.and_eq_false_iff, decide_eq_true_eq, decide_eq_false_iff_not, Bool.not_eq_true', Bool.not_eq_false', bne_iff_ne, beq_iff_eq, bne_eq_false_iff_eq, beq_eq_false_iff_ne, ne_eq, Bool.not_eq_eq_eq_not, Bool.not_true, Bool.not_false] at c4
      refine .seq ?_
      refine .reg (X := Unit) (fun ζ => .of [(4, .one (.d (.v (.bool (false)))))] []) [⟨[], some 4, [], []⟩] (fun k31 => ?_) ?_
      ·skip
       refine .assign (.no rfl) rfl rfl rfl rfl ?_
       exact .fin () (.of (.cons rfl .nil) .nil)
      intro _
      refine .ret ?_
      have e32 : (false) = (true) := by first | exact absurd c4 (by rw [Env.same_self]; decide) | exact absurd c4 (by rw [Decl.same_self]; decide) | exact absurd c4 (by rw [all2_self Env.same_self]; decide) | exact absurd c4 (by rw [all2_self Part.same_self]; decide) | exact absurd c4 (by rw [all2_self Entry.same_self]; decide) | (simp at c4)
      have hc33 := eq1 (fun z1 => SV.one (.d (.v (.bool (z1))))) e32
      show _ ∧ _
      exact ⟨.inr rfl, .done ⟨_, [], [], _, .one (c := .d (.v (.bool (true)))) (hc33) .nil, .cons (Reads.d _).gives .nil, nodupB_ok rfl, by simp, (by simp)⟩⟩
     ·have c4 := c4
      try simp only [Bool.or_eq_true, Bool.or_eq_false_iff, Bool.and_eq_true, Bool.and_eq_false_iff, decide_eq_true_eq, decide_eq_false_iff_not, Bool.not_eq_true', Bool.not_eq_false', bne_iff_ne, beq_iff_eq, bne_eq_false_iff_eq, beq_eq_false_iff_ne, ne_eq, Bool.not_eq_eq_eq_not, Bool.not_true, Bool.not_false] at c4
      refine .skip ?_
      refine .seq ?_
      refine .reg (X := Unit) (fun ζ => .of [(4, .one (.d (.v (.bool (true)))))] []) [⟨[], some 4, [], []⟩] (fun k34 => ?_) ?_
      ·skip
       refine .assign (.no rfl) rfl rfl rfl rfl ?_
       exact .fin () (.of (.cons rfl .nil) .nil)
      intro _
      refine .ret ?_
      show _ ∧ _
      exact ⟨.inr rfl, .done ⟨_, [], [], _, .one rfl .nil, .cons (Reads.d _).gives .nil, nodupB_ok rfl, by simp, (by simp)⟩⟩
end Go.Proofs

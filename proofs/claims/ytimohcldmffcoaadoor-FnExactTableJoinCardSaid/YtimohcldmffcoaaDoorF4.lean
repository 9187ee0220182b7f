/- Contracts of the program's functions at this seat, printed by a program of ours and checked by Lean: each under the conditions of its own statement. -/
import Derived.Test.YtimohcldmffcoaaDoorF3
set_option linter.all false
set_option linter.unnecessarySimpa false
set_option linter.unusedSectionVars false
set_option linter.unusedSimpArgs false
set_option linter.unusedVariables false
namespace Go.Proofs
open Go Go.Proofs Go.Ev

theorem c_sTableJoin (d : Decl) (a : List Env) (b : List Env) (hs : ∀ x ∈ Decl.names d, x.size ≤ 9223372036854775807) (hd : d.vars.length ≤ 1048576 ∧ d.flags.length ≤ 1048576 ∧ d.arrays.length ≤ 1048576) (hx : Small 1048576 a) (hy : Small 1048576 b) : Trip Tryd.prog 17 [(true, 3), (false, 1), (false, 1)] (Decl.c40 d ++ [.sl false 44 3 (List.map Env.c44 (a))] ++ [.sl false 44 3 (List.map Env.c44 (b))]) [(false, 1)] [.sl true 44 3 (List.map Env.co44 (Table.joinIn d a b))] [] := by
  refine Trip.of Tryd.func17 (by decide) (c := _) rfl rfl (shB_ok rfl) (Nat.le_of_ble_eq_true rfl) rfl (AftOk.nil _) ?_
  refine .satA (t := 0) (i := 0) rfl rfl (fun hs1 => ?_)
  have hs1l : d.vars.length ≤ 9223372036854775807 := hs1.maplen
  refine .satA (t := 0) (i := 1) rfl rfl (fun hs2 => ?_)
  have hs2l : d.flags.length ≤ 9223372036854775807 := hs2.maplen
  refine .satA (t := 0) (i := 2) rfl rfl (fun hs3 => ?_)
  have hs3l : d.arrays.length ≤ 9223372036854775807 := hs3.maplen
  refine .sat (t := 1) rfl (fun hs4 => ?_)
  have hs4l : a.length ≤ 9223372036854775807 := hs4.maplen
  refine .sat (t := 2) rfl (fun hs5 => ?_)
  have hs5l : b.length ≤ 9223372036854775807 := hs5.maplen
  refine .seq ?_
  refine .reg (X := Nat) (fun ζ => .of [(1, .one (.d (.sl false 44 3 (List.map Env.c44 (a))))), (2, .one (.d (.sl false 44 3 (List.map Env.c44 (b))))), (3, .one (.ptr [3] (ζ) 0))] [([3], (ζ, ζ, .box [.d (.sl false 9 1 (List.map strc (d.vars))), .d (.sl false 9 1 (List.map strc (d.flags))), .d (.sl false 98 2 (List.map Arr.c (d.arrays)))]))]) [⟨[0], some 3, [], [[3]]⟩, ⟨[], some 6, [], []⟩] (fun k6 => ?_) ?_
  · skip
    refine .box (.no rfl) rfl rfl rfl rfl rfl ?_
    refine .assign (.no rfl) rfl rfl rfl rfl ?_
    exact .fin k6 (.of (.cons rfl (.cons rfl (.cons rfl .nil))) (.cons rfl .nil))
  intro g7
  refine .seq ?_
  refine .seq ?_
  refine .reg (X := Unit) (fun ζ => .of [(1, .one (.d (.sl false 44 3 (List.map Env.c44 (a))))), (2, .one (.d (.sl false 44 3 (List.map Env.c44 (b))))), (16, .one (.d (.v (.bool ((!(Table.ok d a) || !(Table.ok d b)))))))] []) [⟨[3], some 7, [[3]], []⟩, ⟨[1], some 8, [], []⟩, ⟨[7, 8], some 9, [], []⟩, ⟨[9], some 10, [], []⟩, ⟨[10], some 11, [], []⟩, ⟨[11, 3], some 12, [[3]], []⟩, ⟨[11, 2], some 13, [], []⟩, ⟨[11, 12, 13], some 14, [], []⟩, ⟨[11, 14], some 15, [], []⟩, ⟨[11, 15], some 16, [], []⟩] (fun k8 => ?_) ?_
  · skip
    refine .load (.no rfl) rfl t40 rfl rfl (.ptr _ _ _ _ _ rfl) rfl rfl rfl rfl ?_
    refine .move (.no rfl) rfl rfl rfl rfl ?_
    refine .call (.no rfl) rfl [] [] (c_sTableOk d a (by first | assumption | exact hx.2 | exact hy.2 | exact ⟨(Table.fit (Table.ok_in c0.1) (Table.ok_in c0.2)).1, hx.1⟩ | exact (Table.fit (Table.ok_in c0.1) (Table.ok_in c0.2)).2) (by first | assumption | exact hx.2 | exact hy.2 | exact ⟨(Table.fit (Table.ok_in c0.1) (Table.ok_in c0.2)).1, hx.1⟩ | exact (Table.fit (Table.ok_in c0.1) (Table.ok_in c0.2)).2) (by first | assumption | exact hx.2 | exact hy.2 | exact ⟨(Table.fit (Table.ok_in c0.1) (Table.ok_in c0.2)).1, hx.1⟩ | exact (Table.fit (Table.ok_in c0.1) (Table.ok_in c0.2)).2)) rfl rfl rfl rfl rfl (.cons (Reads.d _).gives (.cons (Reads.d _).gives (.cons (Reads.d _).gives (.cons (Reads.d _).gives .nil)))) rfl rfl (fun h => absurd rfl h) (.own [9, 0] .nil) (.nil) rfl rfl rfl (by simp) rfl rfl rfl ?_
    refine .un (.no rfl) rfl rfl rfl rfl rfl ?_
    refine .moveB (.no rfl) rfl rfl rfl rfl fun b9 g1_4 => ?_
    cases b9
    · skip
      refine .load (.on rfl rfl rfl rfl rfl) rfl t40 rfl rfl (.ptr _ _ _ _ _ rfl) rfl rfl rfl rfl ?_
      refine .move (.on rfl rfl rfl rfl rfl) rfl rfl rfl rfl ?_
      refine .call (.on rfl rfl rfl rfl rfl) rfl [] [] (c_sTableOk d b (by first | assumption | exact hx.2 | exact hy.2 | exact ⟨(Table.fit (Table.ok_in c0.1) (Table.ok_in c0.2)).1, hx.1⟩ | exact (Table.fit (Table.ok_in c0.1) (Table.ok_in c0.2)).2) (by first | assumption | exact hx.2 | exact hy.2 | exact ⟨(Table.fit (Table.ok_in c0.1) (Table.ok_in c0.2)).1, hx.1⟩ | exact (Table.fit (Table.ok_in c0.1) (Table.ok_in c0.2)).2) (by first | assumption | exact hx.2 | exact hy.2 | exact ⟨(Table.fit (Table.ok_in c0.1) (Table.ok_in c0.2)).1, hx.1⟩ | exact (Table.fit (Table.ok_in c0.1) (Table.ok_in c0.2)).2)) rfl rfl rfl rfl rfl (.cons (Reads.d _).gives (.cons (Reads.d _).gives (.cons (Reads.d _).gives (.cons (Reads.d _).gives .nil)))) rfl rfl (fun h => absurd rfl h) (.own [14, 0] .nil) (.nil) rfl rfl rfl (by simp) rfl rfl rfl ?_
      refine .un (.on rfl rfl rfl rfl rfl) rfl rfl rfl rfl rfl ?_
      refine .pick (.no rfl) rfl rfl rfl rfl rfl ?_
      exact .fin () (.of (.cons rfl (.cons rfl (.cons (svB (show (!(Table.ok d b)) = ((!(Table.ok d a) || !(Table.ok d b))) by first | (simp only [g1_4, Bool.true_or, Bool.false_or, Bool.true_and, Bool.false_and, Bool.not_true, Bool.not_false]; done) | simp [g1_4])) .nil))) .nil)
    · skip
      refine .off rfl rfl rfl rfl rfl rfl rfl ?_
      refine .off rfl rfl rfl rfl rfl rfl rfl ?_
      refine .off rfl rfl rfl rfl rfl rfl rfl ?_
      refine .off rfl rfl rfl rfl rfl rfl rfl ?_
      refine .pick (.no rfl) rfl rfl rfl rfl rfl ?_
      exact .fin () (.of (.cons rfl (.cons rfl (.cons (svB (show (true) = ((!(Table.ok d a) || !(Table.ok d b))) by first | (simp only [g1_4, Bool.true_or, Bool.false_or, Bool.true_and, Bool.false_and, Bool.not_true, Bool.not_false]; done) | simp [g1_4])) .nil))) .nil)
  intro _
  refine .cond (t := (!(Table.ok d a) || !(Table.ok d b))) rfl (fun c0 => ?_) (fun c0 => ?_)
  · have c0 := c0
    try simp only [Bool.or_eq_true, Bool.or_eq_false_iff, Bool.and_eq_true, Bool.and_eq_false_iff, decide_eq_true_eq, decide_eq_false_iff_not, Bool.not_eq_true', Bool.not_eq_false', bne_iff_ne, beq_iff_eq, bne_eq_false_iff_eq, beq_eq_false_iff_ne, ne_eq, Bool.not_eq_eq_eq_not, Bool.not_true, Bool.not_false] at c0
    refine .seq ?_
    refine .reg (X := Unit) (fun ζ => .of [(6, .one (.d (.v (.slice none 0 0))))] []) [⟨[], some 6, [], []⟩] (fun k10 => ?_) ?_
    · skip
      refine .assign (.no rfl) rfl rfl rfl rfl ?_
      exact .fin () (.of (.cons rfl .nil) .nil)
    intro _
    refine .ret ?_
    show _ ∧ _
    exact ⟨.inr rfl, .done ⟨_, [], [], _, .one rfl .nil, .cons (Gives.nil' (by (rw [Table.joinIn_no c0]; rfl))) .nil, nodupB_ok rfl, by simp, (by simp)⟩⟩
  · have c0 := c0
    try simp only [Bool.or_eq_true, Bool.or_eq_false_iff, Bool.and_eq_true, Bool.and_eq_false_iff, decide_eq_true_eq, decide_eq_false_iff_not, Bool.not_eq_true', Bool.not_eq_false', bne_iff_ne, beq_iff_eq, bne_eq_false_iff_eq, beq_eq_false_iff_ne, ne_eq, Bool.not_eq_eq_eq_not, Bool.not_true, Bool.not_false] at c0
    refine .skip ?_
    refine .seq ?_
    refine .reg (X := Nat) (fun ζ => .of [(6, .one (.ref [19, 0] (ζ)))] [([19, 0], (ζ, ζ, .row 44 3 (List.map Env.co44 (zip2 Env.join a b))))]) [⟨[1], some 17, [], []⟩, ⟨[2], some 18, [], []⟩, ⟨[17, 18], some 19, [], [[19, 0]]⟩, ⟨[19], some 6, [], []⟩] (fun k11 => ?_) ?_
    · skip
      refine .move (.no rfl) rfl rfl rfl rfl ?_
      refine .move (.no rfl) rfl rfl rfl rfl ?_
      refine .call (.no rfl) rfl [] [] (c_l8Join a b (by first | assumption | exact hx.2 | exact hy.2 | exact ⟨(Table.fit (Table.ok_in c0.1) (Table.ok_in c0.2)).1, hx.1⟩ | exact (Table.fit (Table.ok_in c0.1) (Table.ok_in c0.2)).2) (by first | assumption | exact hx.2 | exact hy.2 | exact ⟨(Table.fit (Table.ok_in c0.1) (Table.ok_in c0.2)).1, hx.1⟩ | exact (Table.fit (Table.ok_in c0.1) (Table.ok_in c0.2)).2) (by first | assumption | exact hx.2 | exact hy.2 | exact ⟨(Table.fit (Table.ok_in c0.1) (Table.ok_in c0.2)).1, hx.1⟩ | exact (Table.fit (Table.ok_in c0.1) (Table.ok_in c0.2)).2) (by first | assumption | exact hx.2 | exact hy.2 | exact ⟨(Table.fit (Table.ok_in c0.1) (Table.ok_in c0.2)).1, hx.1⟩ | exact (Table.fit (Table.ok_in c0.1) (Table.ok_in c0.2)).2)) rfl rfl rfl rfl rfl (.cons (Reads.d _).gives (.cons (Reads.d _).gives .nil)) rfl rfl (fun h => absurd rfl h) (.own [19, 0] .nil) (.nil) rfl rfl rfl (by simp) rfl rfl rfl ?_
      refine .assign (.no rfl) rfl rfl rfl rfl ?_
      exact .fin (k11 + 1 + 1) (.of (.cons rfl .nil) (.cons rfl .nil))
    intro g12
    refine .ret ?_
    have e13 : (zip2 Env.join a b) = (Table.joinIn d a b) := by first | (rw [Table.joinIn_no c0]) | (rw [Table.joinIn_yes c0])
    show _ ∧ _
    exact ⟨.inr rfl, .done ⟨_, [], [([19, 0], (g12, g12, .row 44 3 (List.map Env.co44 (Table.joinIn d a b))))], _, .one rfl .nil, .cons (.ref (.head _)) .nil, nodupB_ok rfl, by simp, (AllH.get (.cons (rowE (congrArg (List.map Env.co44) e13)) .nil))⟩⟩
theorem c_TableJoin (d : Decl) (a : List Env) (b : List Env) (hs : ∀ x ∈ Decl.names d, x.size ≤ 9223372036854775807) (hd : d.vars.length ≤ 1048576 ∧ d.flags.length ≤ 1048576 ∧ d.arrays.length ≤ 1048576) (hx : Small 1048576 a) (hy : Small 1048576 b) : Trip Tryd.prog 19 [(true, 3), (false, 1), (false, 1)] (Decl.c40 d ++ [.sl false 44 3 (List.map Env.c44 (a))] ++ [.sl false 44 3 (List.map Env.c44 (b))]) [(false, 1)] [.sl true 44 3 (List.map Env.co44 (Table.joinIn d a b))] [] := by
  refine Trip.of Tryd.func19 (by decide) (c := _) rfl rfl (shB_ok rfl) (Nat.le_of_ble_eq_true rfl) rfl (AftOk.nil _) ?_
  refine .satA (t := 0) (i := 0) rfl rfl (fun hs1 => ?_)
  have hs1l : d.vars.length ≤ 9223372036854775807 := hs1.maplen
  refine .satA (t := 0) (i := 1) rfl rfl (fun hs2 => ?_)
  have hs2l : d.flags.length ≤ 9223372036854775807 := hs2.maplen
  refine .satA (t := 0) (i := 2) rfl rfl (fun hs3 => ?_)
  have hs3l : d.arrays.length ≤ 9223372036854775807 := hs3.maplen
  refine .sat (t := 1) rfl (fun hs4 => ?_)
  have hs4l : a.length ≤ 9223372036854775807 := hs4.maplen
  refine .sat (t := 2) rfl (fun hs5 => ?_)
  have hs5l : b.length ≤ 9223372036854775807 := hs5.maplen
  refine .seq ?_
  refine .reg (X := Nat) (fun ζ => .of [(1, .one (.d (.sl false 44 3 (List.map Env.c44 (a))))), (2, .one (.d (.sl false 44 3 (List.map Env.c44 (b))))), (3, .one (.ptr [3] (ζ) 0))] [([3], (ζ, ζ, .box [.d (.sl false 9 1 (List.map strc (d.vars))), .d (.sl false 9 1 (List.map strc (d.flags))), .d (.sl false 98 2 (List.map Arr.c (d.arrays)))]))]) [⟨[0], some 3, [], [[3]]⟩, ⟨[], some 6, [], []⟩] (fun k6 => ?_) ?_
  · skip
    refine .box (.no rfl) rfl rfl rfl rfl rfl ?_
    refine .assign (.no rfl) rfl rfl rfl rfl ?_
    exact .fin k6 (.of (.cons rfl (.cons rfl (.cons rfl .nil))) (.cons rfl .nil))
  intro g7
  refine .seq ?_
  refine .seq ?_
  refine .reg (X := Unit) (fun ζ => .of [(1, .one (.d (.sl false 44 3 (List.map Env.c44 (a))))), (2, .one (.d (.sl false 44 3 (List.map Env.c44 (b))))), (11, .one (.d (.v (.bool (!(Table.ok d a && Table.isIn d b))))))] []) [⟨[3], some 7, [[3]], []⟩, ⟨[1], some 8, [], []⟩, ⟨[2], some 9, [], []⟩, ⟨[7, 8, 9], some 10, [], []⟩, ⟨[10], some 11, [], []⟩] (fun k8 => ?_) ?_
  · skip
    refine .load (.no rfl) rfl t40 rfl rfl (.ptr _ _ _ _ _ rfl) rfl rfl rfl rfl ?_
    refine .move (.no rfl) rfl rfl rfl rfl ?_
    refine .move (.no rfl) rfl rfl rfl rfl ?_
    refine .call (.no rfl) rfl [] [] (c_areTables d a b (by first | assumption | exact hx.2 | exact hy.2 | exact ⟨(Table.fit (Table.ok_in c0.1) c0.2).1, hx.1⟩ | exact (Table.fit (Table.ok_in c0.1) c0.2).2) (by first | assumption | exact hx.2 | exact hy.2 | exact ⟨(Table.fit (Table.ok_in c0.1) c0.2).1, hx.1⟩ | exact (Table.fit (Table.ok_in c0.1) c0.2).2)) rfl rfl rfl rfl rfl (.cons (Reads.d _).gives (.cons (Reads.d _).gives (.cons (Reads.d _).gives (.cons (Reads.d _).gives (.cons (Reads.d _).gives .nil))))) rfl rfl (fun h => absurd rfl h) (.own [10, 0] .nil) (.nil) rfl rfl rfl (by simp) rfl rfl rfl ?_
    refine .un (.no rfl) rfl rfl rfl rfl rfl ?_
    exact .fin () (.of (.cons rfl (.cons rfl (.cons rfl .nil))) .nil)
  intro _
  refine .cond (t := !(Table.ok d a && Table.isIn d b)) rfl (fun c0 => ?_) (fun c0 => ?_)
  · have c0 := c0
    try simp only [Bool.or_eq_true, Bool.or_eq_false_iff, Bool.and_eq_true, Bool.and_eq_false_iff, decide_eq_true_eq, decide_eq_false_iff_not, Bool.not_eq_true', Bool.not_eq_false', bne_iff_ne, beq_iff_eq, bne_eq_false_iff_eq, beq_eq_false_iff_ne, ne_eq, Bool.not_eq_eq_eq_not, Bool.not_true, Bool.not_false] at c0
    refine .seq ?_
    refine .reg (X := Unit) (fun ζ => .of [(6, .one (.d (.v (.slice none 0 0))))] []) [⟨[], some 6, [], []⟩] (fun k9 => ?_) ?_
    · skip
      refine .assign (.no rfl) rfl rfl rfl rfl ?_
      exact .fin () (.of (.cons rfl .nil) .nil)
    intro _
    refine .ret ?_
    show _ ∧ _
    exact ⟨.inr rfl, .done ⟨_, [], [], _, .one rfl .nil, .cons (Gives.nil' (by (rw [Table.joinIn_no2 c0]; rfl))) .nil, nodupB_ok rfl, by simp, (by simp)⟩⟩
  · have c0 := c0
    try simp only [Bool.or_eq_true, Bool.or_eq_false_iff, Bool.and_eq_true, Bool.and_eq_false_iff, decide_eq_true_eq, decide_eq_false_iff_not, Bool.not_eq_true', Bool.not_eq_false', bne_iff_ne, beq_iff_eq, bne_eq_false_iff_eq, beq_eq_false_iff_ne, ne_eq, Bool.not_eq_eq_eq_not, Bool.not_true, Bool.not_false] at c0
    refine .skip ?_
    refine .seq ?_
    refine .reg (X := Nat) (fun ζ => .of [(6, .one (.ref [14, 0] (ζ)))] [([14, 0], (ζ, ζ, .row 44 3 (List.map Env.co44 (zip2 (Env.joinW (fun x0 x1 => Iv.joinOk x0 x1)) a b))))]) [⟨[1], some 12, [], []⟩, ⟨[2], some 13, [], []⟩, ⟨[12, 13], some 14, [], [[14, 0]]⟩, ⟨[14], some 6, [], []⟩] (fun k10 => ?_) ?_
    · skip
      refine .move (.no rfl) rfl rfl rfl rfl ?_
      refine .move (.no rfl) rfl rfl rfl rfl ?_
      refine .call (.no rfl) rfl [] [] (c_tableWith a b 52 [] [] (fun x0 x1 => Iv.joinOk x0 x1) (fun x0 x1 => c_IvJoin x0 x1) (by first | assumption | exact hx.2 | exact hy.2 | exact ⟨(Table.fit (Table.ok_in c0.1) c0.2).1, hx.1⟩ | exact (Table.fit (Table.ok_in c0.1) c0.2).2) (by first | assumption | exact hx.2 | exact hy.2 | exact ⟨(Table.fit (Table.ok_in c0.1) c0.2).1, hx.1⟩ | exact (Table.fit (Table.ok_in c0.1) c0.2).2) (by first | assumption | exact hx.2 | exact hy.2 | exact ⟨(Table.fit (Table.ok_in c0.1) c0.2).1, hx.1⟩ | exact (Table.fit (Table.ok_in c0.1) c0.2).2) (by first | assumption | exact hx.2 | exact hy.2 | exact ⟨(Table.fit (Table.ok_in c0.1) c0.2).1, hx.1⟩ | exact (Table.fit (Table.ok_in c0.1) c0.2).2)) rfl rfl rfl rfl rfl (.cons (Reads.d _).gives (.cons (Reads.d _).gives (.cons (Reads.d _).gives .nil))) rfl rfl (fun h => absurd rfl h) (.own [14, 0] .nil) (.nil) rfl rfl rfl (by simp) rfl rfl rfl ?_
      refine .assign (.no rfl) rfl rfl rfl rfl ?_
      exact .fin (k10 + 1 + 1) (.of (.cons rfl .nil) (.cons rfl .nil))
    intro g11
    refine .ret ?_
    have e12 : (zip2 (Env.joinW (fun x0 x1 => Iv.joinOk x0 x1)) a b) = (Table.joinIn d a b) := by first | (rw [Table.joinIn_no2 c0]) | (rw [Table.joinIn_yes2 c0])
    show _ ∧ _
    exact ⟨.inr rfl, .done ⟨_, [], [([14, 0], (g11, g11, .row 44 3 (List.map Env.co44 (Table.joinIn d a b))))], _, .one rfl .nil, .cons (.ref (.head _)) .nil, nodupB_ok rfl, by simp, (AllH.get (.cons (rowE (congrArg (List.map Env.co44) e12)) .nil))⟩⟩
end Go.Proofs

namespace Go.Proofs
open Go Go.Proofs Go.Ev

theorem c_markEnvS (a : List Env) (k : Int) (hk : 0 ≤ k ∧ k ≤ 1125899906842624) (hx : Small 1048576 a) : Trip Tryd.prog 22 [(false, 1), (false, 1)] ([.sl true 44 3 (List.map Env.co44 (a))] ++ [.v (.int .i64 (k))]) [(false, 1)] [.v (.int .i64 (EnvS.marks k a))] [(0, .sl true 44 3 (List.map Env.co44 (EnvS.mark k a)))] := by
  refine Trip.of Tryd.func22 (by decide) (c := _) rfl rfl (shB_ok rfl) (Nat.le_of_ble_eq_true rfl) rfl (AftOk.sl rfl (AftOk.nil _)) ?_
  refine .seq ?_
  refine .reg (X := Unit) (fun ζ => .of [(0, .one (.ref [0, 0, 0] (0))), (1, .one (.d (.v (.int .i64 (k)))))] [([0, 0, 0], (0, 0, .row 44 3 (List.map Env.co44 (a))))]) [⟨[], some 4, [], []⟩] (fun k1 => ?_) ?_
  · skip
    refine .assign (.no rfl) rfl rfl rfl rfl ?_
    exact .fin () (.of (.cons rfl (.cons rfl .nil)) (.cons rfl .nil))
  intro _
  refine .seq ?_
  refine .seq ?_
  refine .reg (X := Unit) (fun ζ => .of [(0, .one (.ref [0, 0, 0] (0))), (1, .one (.d (.v (.int .i64 (k))))), (5, .one (.d (.v (.int .i64 (0)))))] [([0, 0, 0], (0, 0, .row 44 3 (List.map Env.co44 (a))))]) [⟨[], some 5, [], []⟩] (fun k2 => ?_) ?_
  · skip
    refine .assign (.no rfl) rfl rfl rfl rfl ?_
    exact .fin () (.of (.cons rfl (.cons rfl (.cons rfl .nil))) (.cons rfl .nil))
  intro _
  refine .block ?_
  refine .loop (X := Nat × Nat) (fun ζ => .of [(0, .one (.ref [0, 0, 0] (0))), (1, .one (.d (.v (.int .i64 (EnvS.at k a ζ.1))))), (5, .one (.d (.v (.int .i64 ((ζ.1 : Int))))))] [([0, 0, 0], (0, ζ.2, .row 44 3 (List.map Env.co44 (mkTo (EnvS.mk k a) a ζ.1))))]) (fun ζ => ζ.1 ≤ a.length) (fun ζ => a.length - ζ.1) ?_ ?_
  · skip
    exact .here (0, 0) (.of (.cons rfl (.cons (svI (show (k) = (EnvS.at k a 0) by first | rfl | omega | exact (EnvS.at_zero k a).symm | (have hl9 : j < (mkTo (EnvS.mk k a) a j).length := (by rw [mkTo_len]; omega); have hr9 := EnvS.round (k := k) (a := a) (j := j) (by omega) rfl rfl rfl (wrap_le (a := EnvS.at k a j + 1) (by omega) (by omega)) rfl rfl; exact hr9.2) | exact wrap_le (by omega) (by omega))) (.cons (svI (show (0) = ((0 : Int)) by first | rfl | omega | exact (EnvS.at_zero k a).symm | (have hl9 : j < (mkTo (EnvS.mk k a) a j).length := (by rw [mkTo_len]; omega); have hr9 := EnvS.round (k := k) (a := a) (j := j) (by omega) rfl rfl rfl (wrap_le (a := EnvS.at k a j + 1) (by omega) (by omega)) rfl rfl; exact hr9.2) | exact wrap_le (by omega) (by omega))) .nil))) (.cons (rowE (show List.map Env.co44 (a) = List.map Env.co44 (mkTo (EnvS.mk k a) a 0) by first | (rw [← mkTo_zero]) | (have hl9 : j < (mkTo (EnvS.mk k a) a j).length := (by rw [mkTo_len]; omega); have hr9 := EnvS.round (k := k) (a := a) (j := j) (by omega) rfl rfl rfl (wrap_le (a := EnvS.at k a j + 1) (by omega) (by omega)) rfl rfl; exact congrArg _ hr9.1))) .nil)) (show 0 ≤ a.length by omega)
  · rintro ⟨j, q3⟩ hI
    have hI : j ≤ a.length := hI
    have hA9 : a.length ≤ 1048576 := hx.1
    have hb9 := EnvS.bnd (k := k) hx (j := j) (by omega) hk
    have hE9 : j < a.length → (a.getD j default).ints.length ≤ 1048576 ∧ (a.getD j default).arrs.length ≤ 1048576 := fun h => hx.2 _ (getD_mem h)
    have hL : (mkTo (EnvS.mk k a) a j).length = a.length := mkTo_len _ _ _
    refine .seq ?_
    refine .seq ?_
    refine .reg (X := Unit) (fun ζ => .of [(0, .one (.ref [0, 0, 0] (0))), (1, .one (.d (.v (.int .i64 (EnvS.at k a j))))), (5, .one (.d (.v (.int .i64 ((j : Int)))))), (9, .one (.d (.v (.bool (decide ((j : Int) < ((mkTo (EnvS.mk k a) a j).length : Int)))))))] [([0, 0, 0], (0, q3, .row 44 3 (List.map Env.co44 (mkTo (EnvS.mk k a) a j))))]) [⟨[5], some 6, [], []⟩, ⟨[0], some 7, [], []⟩, ⟨[7], some 8, [[0, 0, 0]], []⟩, ⟨[6, 8], some 9, [], []⟩] (fun k4 => ?_) ?_
    · skip
      refine .move (.no rfl) rfl rfl rfl rfl ?_
      refine .move (.no rfl) rfl rfl rfl rfl ?_
      refine .len (.no rfl) rfl (z := ((mkTo (EnvS.mk k a) a j).length : Int)) t54 rfl rfl rfl (.ref _ _ _ _ _ rfl) (map_len _ _) rfl ?_
      refine .bin (.no rfl) rfl rfl rfl rfl rfl rfl ?_
      exact .fin () (.of (.cons rfl (.cons rfl (.cons rfl (.cons rfl .nil)))) (.cons rfl .nil))
    intro _
    refine .cond (t := decide ((j : Int) < ((mkTo (EnvS.mk k a) a j).length : Int))) rfl (fun c0 => ?_) (fun c0 => ?_)
    · have c0 := of_decide_eq_true c0
      refine .skip ?_
      refine .seq ?_
      refine .block ?_
      refine .seq ?_
      refine .reg (X := Nat) (fun ζ => .of [(0, .one (.ref [0, 0, 0] (0))), (1, .one (.d (.v (.int .i64 (EnvS.at k a j))))), (5, .one (.d (.v (.int .i64 ((j : Int))))))] [([0, 0, 0], (0, ζ, .row 44 3 (List.map Env.co44 ((mkTo (EnvS.mk k a) a j).set j (Env.mk ((Int.tmod (EnvS.at k a j) 3) == 0) (((mkTo (EnvS.mk k a) a j).getD (j) default).ints) (((mkTo (EnvS.mk k a) a j).getD (j) default).arrs))))))]) [⟨[0], some 12, [], []⟩, ⟨[5], some 13, [], []⟩, ⟨[1], some 14, [], []⟩, ⟨[14], some 15, [], []⟩, ⟨[15], some 16, [], []⟩, ⟨[12, 13], some 17, [[0, 0, 0]], []⟩, ⟨[17], some 18, [], []⟩, ⟨[18, 16], none, [[0, 0, 0]], [[0, 0, 0]]⟩] (fun k5 => ?_) ?_
      · skip
        refine .move (.no rfl) rfl rfl rfl rfl ?_
        refine .move (.no rfl) rfl rfl rfl rfl ?_
        refine .move (.no rfl) rfl rfl rfl rfl ?_
        refine .quoRem (.no rfl) rfl (.inr ⟨rfl, rfl⟩) rfl rfl rfl rfl rfl ?_
        refine .bin (.no rfl) rfl rfl rfl rfl rfl rfl ?_
        refine .indexAddr (.no rfl) rfl (j) t54 rfl t44 rfl rfl rfl (.ref _ _ _ _ _ rfl) rfl rfl rfl (map_get (by first | omega | (simp only [List.length_set, mkTo_len]; omega))) rfl rfl ?_
        refine .fieldAddr (.no rfl) rfl t44 rfl rfl t4 rfl rfl rfl rfl [] (by simp) (by intro _ _ _ h; cases h) rfl rfl ?_
        refine .storeE (.no rfl) rfl (els' := List.map Env.co44 ((mkTo (EnvS.mk k a) a j).set j (Env.mk ((Int.tmod (EnvS.at k a j) 3) == 0) (((mkTo (EnvS.mk k a) a j).getD (j) default).ints) (((mkTo (EnvS.mk k a) a j).getD (j) default).arrs)))) t4 rfl rfl rfl rfl (map_get (by first | omega | (simp only [List.length_set, mkTo_len]; omega))) rfl rfl (.cons _ _ _ _ _ _ (.d _) .nil) rfl (Nat.le_of_ble_eq_true rfl) (set_map _ _ _ (Env.mk ((Int.tmod (EnvS.at k a j) 3) == 0) (((mkTo (EnvS.mk k a) a j).getD (j) default).ints) (((mkTo (EnvS.mk k a) a j).getD (j) default).arrs)) _ rfl) rfl rfl ?_
        exact .fin (k5 + 1 + 1 + 1 + 1 + 1 + 1 + 1) (.of (.cons rfl (.cons rfl (.cons rfl .nil))) (.cons rfl .nil))
      intro g6
      refine .seq ?_
      refine .reg (X := Unit) (fun ζ => .of [(0, .one (.ref [0, 0, 0] (0))), (1, .one (.d (.v (.int .i64 (IntKind.wrap .i64 ((EnvS.at k a j) + 1)))))), (5, .one (.d (.v (.int .i64 ((j : Int))))))] [([0, 0, 0], (0, g6, .row 44 3 (List.map Env.co44 ((mkTo (EnvS.mk k a) a j).set j (Env.mk ((Int.tmod (EnvS.at k a j) 3) == 0) (((mkTo (EnvS.mk k a) a j).getD (j) default).ints) (((mkTo (EnvS.mk k a) a j).getD (j) default).arrs))))))]) [⟨[1], some 19, [], []⟩, ⟨[19], some 20, [], []⟩, ⟨[20], some 1, [], []⟩] (fun k7 => ?_) ?_
      · skip
        refine .move (.no rfl) rfl rfl rfl rfl ?_
        refine .bin (.no rfl) rfl rfl rfl rfl rfl rfl ?_
        refine .assign (.no rfl) rfl rfl rfl rfl ?_
        exact .fin () (.of (.cons rfl (.cons rfl (.cons rfl .nil))) (.cons rfl .nil))
      intro _
      refine .seq ?_
      refine .reg (X := Nat) (fun ζ => .of [(0, .one (.ref [0, 0, 0] (0))), (1, .one (.d (.v (.int .i64 ((IntKind.wrap .i64 ((EnvS.at k a j) + 1)) + 2 * (((((mkTo (EnvS.mk k a) a j).set j (Env.mk ((Int.tmod (EnvS.at k a j) 3) == 0) (((mkTo (EnvS.mk k a) a j).getD (j) default).ints) (((mkTo (EnvS.mk k a) a j).getD (j) default).arrs))).getD (j) default).ints).length : Int)))))), (5, .one (.d (.v (.int .i64 ((j : Int))))))] [([0, 0, 0], (0, ζ, .row 44 3 (List.map Env.co44 (((mkTo (EnvS.mk k a) a j).set j (Env.mk ((Int.tmod (EnvS.at k a j) 3) == 0) (((mkTo (EnvS.mk k a) a j).getD (j) default).ints) (((mkTo (EnvS.mk k a) a j).getD (j) default).arrs))).set j (Env.mk ((((mkTo (EnvS.mk k a) a j).set j (Env.mk ((Int.tmod (EnvS.at k a j) 3) == 0) (((mkTo (EnvS.mk k a) a j).getD (j) default).ints) (((mkTo (EnvS.mk k a) a j).getD (j) default).arrs))).getD (j) default).live) (mkAll (mIv (IntKind.wrap .i64 ((EnvS.at k a j) + 1))) ((((mkTo (EnvS.mk k a) a j).set j (Env.mk ((Int.tmod (EnvS.at k a j) 3) == 0) (((mkTo (EnvS.mk k a) a j).getD (j) default).ints) (((mkTo (EnvS.mk k a) a j).getD (j) default).arrs))).getD (j) default).ints)) ((((mkTo (EnvS.mk k a) a j).set j (Env.mk ((Int.tmod (EnvS.at k a j) 3) == 0) (((mkTo (EnvS.mk k a) a j).getD (j) default).ints) (((mkTo (EnvS.mk k a) a j).getD (j) default).arrs))).getD (j) default).arrs))))))]) [⟨[0], some 21, [], []⟩, ⟨[5], some 22, [], []⟩, ⟨[21, 22], some 23, [[0, 0, 0]], []⟩, ⟨[23], some 24, [], []⟩, ⟨[24], some 25, [[0, 0, 0]], []⟩, ⟨[1], some 26, [], []⟩, ⟨[25, 26], some 27, [[0, 0, 0]], [[0, 0, 0]]⟩, ⟨[27], some 1, [], []⟩] (fun k8 => ?_) ?_
      · skip
        refine .move (.no rfl) rfl rfl rfl rfl ?_
        refine .move (.no rfl) rfl rfl rfl rfl ?_
        refine .indexAddr (.no rfl) rfl (j) t54 rfl t44 rfl rfl rfl (.ref _ _ _ _ _ rfl) rfl rfl rfl (map_get (by first | omega | (simp only [List.length_set, mkTo_len]; omega))) rfl rfl ?_
        refine .fieldAddr (.no rfl) rfl t44 rfl rfl t42 rfl rfl rfl rfl [] (by simp) (by intro _ _ _ h; cases h) rfl rfl ?_
        refine .load (.no rfl) rfl t42 rfl rfl (At.as (cs' := [.part [0, 0, 0] (0) (g6) (j) 1, .part [0, 0, 0] (0) (g6) (j) 2]) (.lent _ _ _ _ _ _ _ _ _ rfl (map_get (by first | omega | (simp only [List.length_set, mkTo_len]; omega)))) (by simp [Env.co44, D.lent, erase_slo _ _ _ _ _ _ Iv.c_e, erase_slo _ _ _ _ _ _ Iv.c_e])) rfl rfl rfl rfl ?_
        refine .move (.no rfl) rfl rfl rfl rfl ?_
        refine .lend (.no rfl) rfl (els' := List.map Env.co44 (((mkTo (EnvS.mk k a) a j).set j (Env.mk ((Int.tmod (EnvS.at k a j) 3) == 0) (((mkTo (EnvS.mk k a) a j).getD (j) default).ints) (((mkTo (EnvS.mk k a) a j).getD (j) default).arrs))).set j (Env.mk ((((mkTo (EnvS.mk k a) a j).set j (Env.mk ((Int.tmod (EnvS.at k a j) 3) == 0) (((mkTo (EnvS.mk k a) a j).getD (j) default).ints) (((mkTo (EnvS.mk k a) a j).getD (j) default).arrs))).getD (j) default).live) (mkAll (mIv (IntKind.wrap .i64 ((EnvS.at k a j) + 1))) ((((mkTo (EnvS.mk k a) a j).set j (Env.mk ((Int.tmod (EnvS.at k a j) 3) == 0) (((mkTo (EnvS.mk k a) a j).getD (j) default).ints) (((mkTo (EnvS.mk k a) a j).getD (j) default).arrs))).getD (j) default).ints)) ((((mkTo (EnvS.mk k a) a j).set j (Env.mk ((Int.tmod (EnvS.at k a j) 3) == 0) (((mkTo (EnvS.mk k a) a j).getD (j) default).ints) (((mkTo (EnvS.mk k a) a j).getD (j) default).arrs))).getD (j) default).arrs)))) (c_markIntervalS ((((mkTo (EnvS.mk k a) a j).set j (Env.mk ((Int.tmod (EnvS.at k a j) 3) == 0) (((mkTo (EnvS.mk k a) a j).getD (j) default).ints) (((mkTo (EnvS.mk k a) a j).getD (j) default).arrs))).getD (j) default).ints) (IntKind.wrap .i64 ((EnvS.at k a j) + 1)) (by (have hj8 : j < a.length := (by omega); have hl9 : j < (mkTo (EnvS.mk k a) a j).length := (by rw [mkTo_len]; omega); have hE8 := hE9 hj8; rw [wrap_le (a := EnvS.at k a j + 1) (by omega) (by omega)]; simp only [set_getD, List.length_set, mkTo_len, hl9, hj8, EnvS.get hj8]; (try simp only [mkAll_len]); omega))) rfl rfl rfl rfl (map_get (by first | omega | (simp only [List.length_set, mkTo_len]; omega))) rfl (Owned.map _ _ _ _ Iv.c_o) (by intro d hd; simp at hd; subst hd; exact ⟨_, rfl⟩) rfl rfl (set_map _ _ _ (Env.mk ((((mkTo (EnvS.mk k a) a j).set j (Env.mk ((Int.tmod (EnvS.at k a j) 3) == 0) (((mkTo (EnvS.mk k a) a j).getD (j) default).ints) (((mkTo (EnvS.mk k a) a j).getD (j) default).arrs))).getD (j) default).live) (mkAll (mIv (IntKind.wrap .i64 ((EnvS.at k a j) + 1))) ((((mkTo (EnvS.mk k a) a j).set j (Env.mk ((Int.tmod (EnvS.at k a j) 3) == 0) (((mkTo (EnvS.mk k a) a j).getD (j) default).ints) (((mkTo (EnvS.mk k a) a j).getD (j) default).arrs))).getD (j) default).ints)) ((((mkTo (EnvS.mk k a) a j).set j (Env.mk ((Int.tmod (EnvS.at k a j) 3) == 0) (((mkTo (EnvS.mk k a) a j).getD (j) default).ints) (((mkTo (EnvS.mk k a) a j).getD (j) default).arrs))).getD (j) default).arrs)) _ rfl) rfl rfl ?_
        refine .assign (.no rfl) rfl rfl rfl rfl ?_
        exact .fin (k8 + 1 + 1 + 1 + 1 + 1 + 1) (.of (.cons rfl (.cons rfl (.cons rfl .nil))) (.cons rfl .nil))
      intro g9
      refine .reg (X := Nat) (fun ζ => .of [(0, .one (.ref [0, 0, 0] (0))), (1, .one (.d (.v (.int .i64 (((IntKind.wrap .i64 ((EnvS.at k a j) + 1)) + 2 * (((((mkTo (EnvS.mk k a) a j).set j (Env.mk ((Int.tmod (EnvS.at k a j) 3) == 0) (((mkTo (EnvS.mk k a) a j).getD (j) default).ints) (((mkTo (EnvS.mk k a) a j).getD (j) default).arrs))).getD (j) default).ints).length : Int)) + 2 * ((((((mkTo (EnvS.mk k a) a j).set j (Env.mk ((Int.tmod (EnvS.at k a j) 3) == 0) (((mkTo (EnvS.mk k a) a j).getD (j) default).ints) (((mkTo (EnvS.mk k a) a j).getD (j) default).arrs))).set j (Env.mk ((((mkTo (EnvS.mk k a) a j).set j (Env.mk ((Int.tmod (EnvS.at k a j) 3) == 0) (((mkTo (EnvS.mk k a) a j).getD (j) default).ints) (((mkTo (EnvS.mk k a) a j).getD (j) default).arrs))).getD (j) default).live) (mkAll (mIv (IntKind.wrap .i64 ((EnvS.at k a j) + 1))) ((((mkTo (EnvS.mk k a) a j).set j (Env.mk ((Int.tmod (EnvS.at k a j) 3) == 0) (((mkTo (EnvS.mk k a) a j).getD (j) default).ints) (((mkTo (EnvS.mk k a) a j).getD (j) default).arrs))).getD (j) default).ints)) ((((mkTo (EnvS.mk k a) a j).set j (Env.mk ((Int.tmod (EnvS.at k a j) 3) == 0) (((mkTo (EnvS.mk k a) a j).getD (j) default).ints) (((mkTo (EnvS.mk k a) a j).getD (j) default).arrs))).getD (j) default).arrs))).getD (j) default).arrs).length : Int)))))), (5, .one (.d (.v (.int .i64 ((j : Int))))))] [([0, 0, 0], (0, ζ, .row 44 3 (List.map Env.co44 ((((mkTo (EnvS.mk k a) a j).set j (Env.mk ((Int.tmod (EnvS.at k a j) 3) == 0) (((mkTo (EnvS.mk k a) a j).getD (j) default).ints) (((mkTo (EnvS.mk k a) a j).getD (j) default).arrs))).set j (Env.mk ((((mkTo (EnvS.mk k a) a j).set j (Env.mk ((Int.tmod (EnvS.at k a j) 3) == 0) (((mkTo (EnvS.mk k a) a j).getD (j) default).ints) (((mkTo (EnvS.mk k a) a j).getD (j) default).arrs))).getD (j) default).live) (mkAll (mIv (IntKind.wrap .i64 ((EnvS.at k a j) + 1))) ((((mkTo (EnvS.mk k a) a j).set j (Env.mk ((Int.tmod (EnvS.at k a j) 3) == 0) (((mkTo (EnvS.mk k a) a j).getD (j) default).ints) (((mkTo (EnvS.mk k a) a j).getD (j) default).arrs))).getD (j) default).ints)) ((((mkTo (EnvS.mk k a) a j).set j (Env.mk ((Int.tmod (EnvS.at k a j) 3) == 0) (((mkTo (EnvS.mk k a) a j).getD (j) default).ints) (((mkTo (EnvS.mk k a) a j).getD (j) default).arrs))).getD (j) default).arrs))).set j (Env.mk (((((mkTo (EnvS.mk k a) a j).set j (Env.mk ((Int.tmod (EnvS.at k a j) 3) == 0) (((mkTo (EnvS.mk k a) a j).getD (j) default).ints) (((mkTo (EnvS.mk k a) a j).getD (j) default).arrs))).set j (Env.mk ((((mkTo (EnvS.mk k a) a j).set j (Env.mk ((Int.tmod (EnvS.at k a j) 3) == 0) (((mkTo (EnvS.mk k a) a j).getD (j) default).ints) (((mkTo (EnvS.mk k a) a j).getD (j) default).arrs))).getD (j) default).live) (mkAll (mIv (IntKind.wrap .i64 ((EnvS.at k a j) + 1))) ((((mkTo (EnvS.mk k a) a j).set j (Env.mk ((Int.tmod (EnvS.at k a j) 3) == 0) (((mkTo (EnvS.mk k a) a j).getD (j) default).ints) (((mkTo (EnvS.mk k a) a j).getD (j) default).arrs))).getD (j) default).ints)) ((((mkTo (EnvS.mk k a) a j).set j (Env.mk ((Int.tmod (EnvS.at k a j) 3) == 0) (((mkTo (EnvS.mk k a) a j).getD (j) default).ints) (((mkTo (EnvS.mk k a) a j).getD (j) default).arrs))).getD (j) default).arrs))).getD (j) default).live) (((((mkTo (EnvS.mk k a) a j).set j (Env.mk ((Int.tmod (EnvS.at k a j) 3) == 0) (((mkTo (EnvS.mk k a) a j).getD (j) default).ints) (((mkTo (EnvS.mk k a) a j).getD (j) default).arrs))).set j (Env.mk ((((mkTo (EnvS.mk k a) a j).set j (Env.mk ((Int.tmod (EnvS.at k a j) 3) == 0) (((mkTo (EnvS.mk k a) a j).getD (j) default).ints) (((mkTo (EnvS.mk k a) a j).getD (j) default).arrs))).getD (j) default).live) (mkAll (mIv (IntKind.wrap .i64 ((EnvS.at k a j) + 1))) ((((mkTo (EnvS.mk k a) a j).set j (Env.mk ((Int.tmod (EnvS.at k a j) 3) == 0) (((mkTo (EnvS.mk k a) a j).getD (j) default).ints) (((mkTo (EnvS.mk k a) a j).getD (j) default).arrs))).getD (j) default).ints)) ((((mkTo (EnvS.mk k a) a j).set j (Env.mk ((Int.tmod (EnvS.at k a j) 3) == 0) (((mkTo (EnvS.mk k a) a j).getD (j) default).ints) (((mkTo (EnvS.mk k a) a j).getD (j) default).arrs))).getD (j) default).arrs))).getD (j) default).ints) (mkAll (mIv ((IntKind.wrap .i64 ((EnvS.at k a j) + 1)) + 2 * (((((mkTo (EnvS.mk k a) a j).set j (Env.mk ((Int.tmod (EnvS.at k a j) 3) == 0) (((mkTo (EnvS.mk k a) a j).getD (j) default).ints) (((mkTo (EnvS.mk k a) a j).getD (j) default).arrs))).getD (j) default).ints).length : Int))) (((((mkTo (EnvS.mk k a) a j).set j (Env.mk ((Int.tmod (EnvS.at k a j) 3) == 0) (((mkTo (EnvS.mk k a) a j).getD (j) default).ints) (((mkTo (EnvS.mk k a) a j).getD (j) default).arrs))).set j (Env.mk ((((mkTo (EnvS.mk k a) a j).set j (Env.mk ((Int.tmod (EnvS.at k a j) 3) == 0) (((mkTo (EnvS.mk k a) a j).getD (j) default).ints) (((mkTo (EnvS.mk k a) a j).getD (j) default).arrs))).getD (j) default).live) (mkAll (mIv (IntKind.wrap .i64 ((EnvS.at k a j) + 1))) ((((mkTo (EnvS.mk k a) a j).set j (Env.mk ((Int.tmod (EnvS.at k a j) 3) == 0) (((mkTo (EnvS.mk k a) a j).getD (j) default).ints) (((mkTo (EnvS.mk k a) a j).getD (j) default).arrs))).getD (j) default).ints)) ((((mkTo (EnvS.mk k a) a j).set j (Env.mk ((Int.tmod (EnvS.at k a j) 3) == 0) (((mkTo (EnvS.mk k a) a j).getD (j) default).ints) (((mkTo (EnvS.mk k a) a j).getD (j) default).arrs))).getD (j) default).arrs))).getD (j) default).arrs)))))))]) [⟨[0], some 28, [], []⟩, ⟨[5], some 29, [], []⟩, ⟨[28, 29], some 30, [[0, 0, 0]], []⟩, ⟨[30], some 31, [], []⟩, ⟨[31], some 32, [[0, 0, 0]], []⟩, ⟨[1], some 33, [], []⟩, ⟨[32, 33], some 34, [[0, 0, 0]], [[0, 0, 0]]⟩, ⟨[34], some 1, [], []⟩] (fun k10 => ?_) ?_
      · skip
        refine .move (.no rfl) rfl rfl rfl rfl ?_
        refine .move (.no rfl) rfl rfl rfl rfl ?_
        refine .indexAddr (.no rfl) rfl (j) t54 rfl t44 rfl rfl rfl (.ref _ _ _ _ _ rfl) rfl rfl rfl (map_get (by first | omega | (simp only [List.length_set, mkTo_len]; omega))) rfl rfl ?_
        refine .fieldAddr (.no rfl) rfl t44 rfl rfl t42 rfl rfl rfl rfl [] (by simp) (by intro _ _ _ h; cases h) rfl rfl ?_
        refine .load (.no rfl) rfl t42 rfl rfl (At.as (cs' := [.part [0, 0, 0] (0) (g9) (j) 2]) (.lent _ _ _ _ _ _ _ _ _ rfl (map_get (by first | omega | (simp only [List.length_set, mkTo_len]; omega)))) (by simp [Env.co44, D.lent, erase_slo _ _ _ _ _ _ Iv.c_e, erase_slo _ _ _ _ _ _ Iv.c_e])) rfl rfl rfl rfl ?_
        refine .move (.no rfl) rfl rfl rfl rfl ?_
        refine .lend (.no rfl) rfl (els' := List.map Env.co44 ((((mkTo (EnvS.mk k a) a j).set j (Env.mk ((Int.tmod (EnvS.at k a j) 3) == 0) (((mkTo (EnvS.mk k a) a j).getD (j) default).ints) (((mkTo (EnvS.mk k a) a j).getD (j) default).arrs))).set j (Env.mk ((((mkTo (EnvS.mk k a) a j).set j (Env.mk ((Int.tmod (EnvS.at k a j) 3) == 0) (((mkTo (EnvS.mk k a) a j).getD (j) default).ints) (((mkTo (EnvS.mk k a) a j).getD (j) default).arrs))).getD (j) default).live) (mkAll (mIv (IntKind.wrap .i64 ((EnvS.at k a j) + 1))) ((((mkTo (EnvS.mk k a) a j).set j (Env.mk ((Int.tmod (EnvS.at k a j) 3) == 0) (((mkTo (EnvS.mk k a) a j).getD (j) default).ints) (((mkTo (EnvS.mk k a) a j).getD (j) default).arrs))).getD (j) default).ints)) ((((mkTo (EnvS.mk k a) a j).set j (Env.mk ((Int.tmod (EnvS.at k a j) 3) == 0) (((mkTo (EnvS.mk k a) a j).getD (j) default).ints) (((mkTo (EnvS.mk k a) a j).getD (j) default).arrs))).getD (j) default).arrs))).set j (Env.mk (((((mkTo (EnvS.mk k a) a j).set j (Env.mk ((Int.tmod (EnvS.at k a j) 3) == 0) (((mkTo (EnvS.mk k a) a j).getD (j) default).ints) (((mkTo (EnvS.mk k a) a j).getD (j) default).arrs))).set j (Env.mk ((((mkTo (EnvS.mk k a) a j).set j (Env.mk ((Int.tmod (EnvS.at k a j) 3) == 0) (((mkTo (EnvS.mk k a) a j).getD (j) default).ints) (((mkTo (EnvS.mk k a) a j).getD (j) default).arrs))).getD (j) default).live) (mkAll (mIv (IntKind.wrap .i64 ((EnvS.at k a j) + 1))) ((((mkTo (EnvS.mk k a) a j).set j (Env.mk ((Int.tmod (EnvS.at k a j) 3) == 0) (((mkTo (EnvS.mk k a) a j).getD (j) default).ints) (((mkTo (EnvS.mk k a) a j).getD (j) default).arrs))).getD (j) default).ints)) ((((mkTo (EnvS.mk k a) a j).set j (Env.mk ((Int.tmod (EnvS.at k a j) 3) == 0) (((mkTo (EnvS.mk k a) a j).getD (j) default).ints) (((mkTo (EnvS.mk k a) a j).getD (j) default).arrs))).getD (j) default).arrs))).getD (j) default).live) (((((mkTo (EnvS.mk k a) a j).set j (Env.mk ((Int.tmod (EnvS.at k a j) 3) == 0) (((mkTo (EnvS.mk k a) a j).getD (j) default).ints) (((mkTo (EnvS.mk k a) a j).getD (j) default).arrs))).set j (Env.mk ((((mkTo (EnvS.mk k a) a j).set j (Env.mk ((Int.tmod (EnvS.at k a j) 3) == 0) (((mkTo (EnvS.mk k a) a j).getD (j) default).ints) (((mkTo (EnvS.mk k a) a j).getD (j) default).arrs))).getD (j) default).live) (mkAll (mIv (IntKind.wrap .i64 ((EnvS.at k a j) + 1))) ((((mkTo (EnvS.mk k a) a j).set j (Env.mk ((Int.tmod (EnvS.at k a j) 3) == 0) (((mkTo (EnvS.mk k a) a j).getD (j) default).ints) (((mkTo (EnvS.mk k a) a j).getD (j) default).arrs))).getD (j) default).ints)) ((((mkTo (EnvS.mk k a) a j).set j (Env.mk ((Int.tmod (EnvS.at k a j) 3) == 0) (((mkTo (EnvS.mk k a) a j).getD (j) default).ints) (((mkTo (EnvS.mk k a) a j).getD (j) default).arrs))).getD (j) default).arrs))).getD (j) default).ints) (mkAll (mIv ((IntKind.wrap .i64 ((EnvS.at k a j) + 1)) + 2 * (((((mkTo (EnvS.mk k a) a j).set j (Env.mk ((Int.tmod (EnvS.at k a j) 3) == 0) (((mkTo (EnvS.mk k a) a j).getD (j) default).ints) (((mkTo (EnvS.mk k a) a j).getD (j) default).arrs))).getD (j) default).ints).length : Int))) (((((mkTo (EnvS.mk k a) a j).set j (Env.mk ((Int.tmod (EnvS.at k a j) 3) == 0) (((mkTo (EnvS.mk k a) a j).getD (j) default).ints) (((mkTo (EnvS.mk k a) a j).getD (j) default).arrs))).set j (Env.mk ((((mkTo (EnvS.mk k a) a j).set j (Env.mk ((Int.tmod (EnvS.at k a j) 3) == 0) (((mkTo (EnvS.mk k a) a j).getD (j) default).ints) (((mkTo (EnvS.mk k a) a j).getD (j) default).arrs))).getD (j) default).live) (mkAll (mIv (IntKind.wrap .i64 ((EnvS.at k a j) + 1))) ((((mkTo (EnvS.mk k a) a j).set j (Env.mk ((Int.tmod (EnvS.at k a j) 3) == 0) (((mkTo (EnvS.mk k a) a j).getD (j) default).ints) (((mkTo (EnvS.mk k a) a j).getD (j) default).arrs))).getD (j) default).ints)) ((((mkTo (EnvS.mk k a) a j).set j (Env.mk ((Int.tmod (EnvS.at k a j) 3) == 0) (((mkTo (EnvS.mk k a) a j).getD (j) default).ints) (((mkTo (EnvS.mk k a) a j).getD (j) default).arrs))).getD (j) default).arrs))).getD (j) default).arrs))))) (c_markIntervalS (((((mkTo (EnvS.mk k a) a j).set j (Env.mk ((Int.tmod (EnvS.at k a j) 3) == 0) (((mkTo (EnvS.mk k a) a j).getD (j) default).ints) (((mkTo (EnvS.mk k a) a j).getD (j) default).arrs))).set j (Env.mk ((((mkTo (EnvS.mk k a) a j).set j (Env.mk ((Int.tmod (EnvS.at k a j) 3) == 0) (((mkTo (EnvS.mk k a) a j).getD (j) default).ints) (((mkTo (EnvS.mk k a) a j).getD (j) default).arrs))).getD (j) default).live) (mkAll (mIv (IntKind.wrap .i64 ((EnvS.at k a j) + 1))) ((((mkTo (EnvS.mk k a) a j).set j (Env.mk ((Int.tmod (EnvS.at k a j) 3) == 0) (((mkTo (EnvS.mk k a) a j).getD (j) default).ints) (((mkTo (EnvS.mk k a) a j).getD (j) default).arrs))).getD (j) default).ints)) ((((mkTo (EnvS.mk k a) a j).set j (Env.mk ((Int.tmod (EnvS.at k a j) 3) == 0) (((mkTo (EnvS.mk k a) a j).getD (j) default).ints) (((mkTo (EnvS.mk k a) a j).getD (j) default).arrs))).getD (j) default).arrs))).getD (j) default).arrs) ((IntKind.wrap .i64 ((EnvS.at k a j) + 1)) + 2 * (((((mkTo (EnvS.mk k a) a j).set j (Env.mk ((Int.tmod (EnvS.at k a j) 3) == 0) (((mkTo (EnvS.mk k a) a j).getD (j) default).ints) (((mkTo (EnvS.mk k a) a j).getD (j) default).arrs))).getD (j) default).ints).length : Int)) (by (have hj8 : j < a.length := (by omega); have hl9 : j < (mkTo (EnvS.mk k a) a j).length := (by rw [mkTo_len]; omega); have hE8 := hE9 hj8; rw [wrap_le (a := EnvS.at k a j + 1) (by omega) (by omega)]; simp only [set_getD, List.length_set, mkTo_len, hl9, hj8, EnvS.get hj8]; (try simp only [mkAll_len]); omega))) rfl rfl rfl rfl (map_get (by first | omega | (simp only [List.length_set, mkTo_len]; omega))) rfl (Owned.map _ _ _ _ Iv.c_o) (by intro d hd; simp at hd; subst hd; exact ⟨_, rfl⟩) rfl rfl (set_map _ _ _ (Env.mk (((((mkTo (EnvS.mk k a) a j).set j (Env.mk ((Int.tmod (EnvS.at k a j) 3) == 0) (((mkTo (EnvS.mk k a) a j).getD (j) default).ints) (((mkTo (EnvS.mk k a) a j).getD (j) default).arrs))).set j (Env.mk ((((mkTo (EnvS.mk k a) a j).set j (Env.mk ((Int.tmod (EnvS.at k a j) 3) == 0) (((mkTo (EnvS.mk k a) a j).getD (j) default).ints) (((mkTo (EnvS.mk k a) a j).getD (j) default).arrs))).getD (j) default).live) (mkAll (mIv (IntKind.wrap .i64 ((EnvS.at k a j) + 1))) ((((mkTo (EnvS.mk k a) a j).set j (Env.mk ((Int.tmod (EnvS.at k a j) 3) == 0) (((mkTo (EnvS.mk k a) a j).getD (j) default).ints) (((mkTo (EnvS.mk k a) a j).getD (j) default).arrs))).getD (j) default).ints)) ((((mkTo (EnvS.mk k a) a j).set j (Env.mk ((Int.tmod (EnvS.at k a j) 3) == 0) (((mkTo (EnvS.mk k a) a j).getD (j) default).ints) (((mkTo (EnvS.mk k a) a j).getD (j) default).arrs))).getD (j) default).arrs))).getD (j) default).live) (((((mkTo (EnvS.mk k a) a j).set j (Env.mk ((Int.tmod (EnvS.at k a j) 3) == 0) (((mkTo (EnvS.mk k a) a j).getD (j) default).ints) (((mkTo (EnvS.mk k a) a j).getD (j) default).arrs))).set j (Env.mk ((((mkTo (EnvS.mk k a) a j).set j (Env.mk ((Int.tmod (EnvS.at k a j) 3) == 0) (((mkTo (EnvS.mk k a) a j).getD (j) default).ints) (((mkTo (EnvS.mk k a) a j).getD (j) default).arrs))).getD (j) default).live) (mkAll (mIv (IntKind.wrap .i64 ((EnvS.at k a j) + 1))) ((((mkTo (EnvS.mk k a) a j).set j (Env.mk ((Int.tmod (EnvS.at k a j) 3) == 0) (((mkTo (EnvS.mk k a) a j).getD (j) default).ints) (((mkTo (EnvS.mk k a) a j).getD (j) default).arrs))).getD (j) default).ints)) ((((mkTo (EnvS.mk k a) a j).set j (Env.mk ((Int.tmod (EnvS.at k a j) 3) == 0) (((mkTo (EnvS.mk k a) a j).getD (j) default).ints) (((mkTo (EnvS.mk k a) a j).getD (j) default).arrs))).getD (j) default).arrs))).getD (j) default).ints) (mkAll (mIv ((IntKind.wrap .i64 ((EnvS.at k a j) + 1)) + 2 * (((((mkTo (EnvS.mk k a) a j).set j (Env.mk ((Int.tmod (EnvS.at k a j) 3) == 0) (((mkTo (EnvS.mk k a) a j).getD (j) default).ints) (((mkTo (EnvS.mk k a) a j).getD (j) default).arrs))).getD (j) default).ints).length : Int))) (((((mkTo (EnvS.mk k a) a j).set j (Env.mk ((Int.tmod (EnvS.at k a j) 3) == 0) (((mkTo (EnvS.mk k a) a j).getD (j) default).ints) (((mkTo (EnvS.mk k a) a j).getD (j) default).arrs))).set j (Env.mk ((((mkTo (EnvS.mk k a) a j).set j (Env.mk ((Int.tmod (EnvS.at k a j) 3) == 0) (((mkTo (EnvS.mk k a) a j).getD (j) default).ints) (((mkTo (EnvS.mk k a) a j).getD (j) default).arrs))).getD (j) default).live) (mkAll (mIv (IntKind.wrap .i64 ((EnvS.at k a j) + 1))) ((((mkTo (EnvS.mk k a) a j).set j (Env.mk ((Int.tmod (EnvS.at k a j) 3) == 0) (((mkTo (EnvS.mk k a) a j).getD (j) default).ints) (((mkTo (EnvS.mk k a) a j).getD (j) default).arrs))).getD (j) default).ints)) ((((mkTo (EnvS.mk k a) a j).set j (Env.mk ((Int.tmod (EnvS.at k a j) 3) == 0) (((mkTo (EnvS.mk k a) a j).getD (j) default).ints) (((mkTo (EnvS.mk k a) a j).getD (j) default).arrs))).getD (j) default).arrs))).getD (j) default).arrs))) _ rfl) rfl rfl ?_
        refine .assign (.no rfl) rfl rfl rfl rfl ?_
        exact .fin (k10 + 1 + 1 + 1 + 1 + 1 + 1) (.of (.cons rfl (.cons rfl (.cons rfl .nil))) (.cons rfl .nil))
      intro g11
      refine .reg (X := Unit) (fun ζ => .of [(0, .one (.ref [0, 0, 0] (0))), (1, .one (.d (.v (.int .i64 (((IntKind.wrap .i64 ((EnvS.at k a j) + 1)) + 2 * (((((mkTo (EnvS.mk k a) a j).set j (Env.mk ((Int.tmod (EnvS.at k a j) 3) == 0) (((mkTo (EnvS.mk k a) a j).getD (j) default).ints) (((mkTo (EnvS.mk k a) a j).getD (j) default).arrs))).getD (j) default).ints).length : Int)) + 2 * ((((((mkTo (EnvS.mk k a) a j).set j (Env.mk ((Int.tmod (EnvS.at k a j) 3) == 0) (((mkTo (EnvS.mk k a) a j).getD (j) default).ints) (((mkTo (EnvS.mk k a) a j).getD (j) default).arrs))).set j (Env.mk ((((mkTo (EnvS.mk k a) a j).set j (Env.mk ((Int.tmod (EnvS.at k a j) 3) == 0) (((mkTo (EnvS.mk k a) a j).getD (j) default).ints) (((mkTo (EnvS.mk k a) a j).getD (j) default).arrs))).getD (j) default).live) (mkAll (mIv (IntKind.wrap .i64 ((EnvS.at k a j) + 1))) ((((mkTo (EnvS.mk k a) a j).set j (Env.mk ((Int.tmod (EnvS.at k a j) 3) == 0) (((mkTo (EnvS.mk k a) a j).getD (j) default).ints) (((mkTo (EnvS.mk k a) a j).getD (j) default).arrs))).getD (j) default).ints)) ((((mkTo (EnvS.mk k a) a j).set j (Env.mk ((Int.tmod (EnvS.at k a j) 3) == 0) (((mkTo (EnvS.mk k a) a j).getD (j) default).ints) (((mkTo (EnvS.mk k a) a j).getD (j) default).arrs))).getD (j) default).arrs))).getD (j) default).arrs).length : Int)))))), (5, .one (.d (.v (.int .i64 (IntKind.wrap .i64 ((j : Int) + 1))))))] [([0, 0, 0], (0, g11, .row 44 3 (List.map Env.co44 ((((mkTo (EnvS.mk k a) a j).set j (Env.mk ((Int.tmod (EnvS.at k a j) 3) == 0) (((mkTo (EnvS.mk k a) a j).getD (j) default).ints) (((mkTo (EnvS.mk k a) a j).getD (j) default).arrs))).set j (Env.mk ((((mkTo (EnvS.mk k a) a j).set j (Env.mk ((Int.tmod (EnvS.at k a j) 3) == 0) (((mkTo (EnvS.mk k a) a j).getD (j) default).ints) (((mkTo (EnvS.mk k a) a j).getD (j) default).arrs))).getD (j) default).live) (mkAll (mIv (IntKind.wrap .i64 ((EnvS.at k a j) + 1))) ((((mkTo (EnvS.mk k a) a j).set j (Env.mk ((Int.tmod (EnvS.at k a j) 3) == 0) (((mkTo (EnvS.mk k a) a j).getD (j) default).ints) (((mkTo (EnvS.mk k a) a j).getD (j) default).arrs))).getD (j) default).ints)) ((((mkTo (EnvS.mk k a) a j).set j (Env.mk ((Int.tmod (EnvS.at k a j) 3) == 0) (((mkTo (EnvS.mk k a) a j).getD (j) default).ints) (((mkTo (EnvS.mk k a) a j).getD (j) default).arrs))).getD (j) default).arrs))).set j (Env.mk (((((mkTo (EnvS.mk k a) a j).set j (Env.mk ((Int.tmod (EnvS.at k a j) 3) == 0) (((mkTo (EnvS.mk k a) a j).getD (j) default).ints) (((mkTo (EnvS.mk k a) a j).getD (j) default).arrs))).set j (Env.mk ((((mkTo (EnvS.mk k a) a j).set j (Env.mk ((Int.tmod (EnvS.at k a j) 3) == 0) (((mkTo (EnvS.mk k a) a j).getD (j) default).ints) (((mkTo (EnvS.mk k a) a j).getD (j) default).arrs))).getD (j) default).live) (mkAll (mIv (IntKind.wrap .i64 ((EnvS.at k a j) + 1))) ((((mkTo (EnvS.mk k a) a j).set j (Env.mk ((Int.tmod (EnvS.at k a j) 3) == 0) (((mkTo (EnvS.mk k a) a j).getD (j) default).ints) (((mkTo (EnvS.mk k a) a j).getD (j) default).arrs))).getD (j) default).ints)) ((((mkTo (EnvS.mk k a) a j).set j (Env.mk ((Int.tmod (EnvS.at k a j) 3) == 0) (((mkTo (EnvS.mk k a) a j).getD (j) default).ints) (((mkTo (EnvS.mk k a) a j).getD (j) default).arrs))).getD (j) default).arrs))).getD (j) default).live) (((((mkTo (EnvS.mk k a) a j).set j (Env.mk ((Int.tmod (EnvS.at k a j) 3) == 0) (((mkTo (EnvS.mk k a) a j).getD (j) default).ints) (((mkTo (EnvS.mk k a) a j).getD (j) default).arrs))).set j (Env.mk ((((mkTo (EnvS.mk k a) a j).set j (Env.mk ((Int.tmod (EnvS.at k a j) 3) == 0) (((mkTo (EnvS.mk k a) a j).getD (j) default).ints) (((mkTo (EnvS.mk k a) a j).getD (j) default).arrs))).getD (j) default).live) (mkAll (mIv (IntKind.wrap .i64 ((EnvS.at k a j) + 1))) ((((mkTo (EnvS.mk k a) a j).set j (Env.mk ((Int.tmod (EnvS.at k a j) 3) == 0) (((mkTo (EnvS.mk k a) a j).getD (j) default).ints) (((mkTo (EnvS.mk k a) a j).getD (j) default).arrs))).getD (j) default).ints)) ((((mkTo (EnvS.mk k a) a j).set j (Env.mk ((Int.tmod (EnvS.at k a j) 3) == 0) (((mkTo (EnvS.mk k a) a j).getD (j) default).ints) (((mkTo (EnvS.mk k a) a j).getD (j) default).arrs))).getD (j) default).arrs))).getD (j) default).ints) (mkAll (mIv ((IntKind.wrap .i64 ((EnvS.at k a j) + 1)) + 2 * (((((mkTo (EnvS.mk k a) a j).set j (Env.mk ((Int.tmod (EnvS.at k a j) 3) == 0) (((mkTo (EnvS.mk k a) a j).getD (j) default).ints) (((mkTo (EnvS.mk k a) a j).getD (j) default).arrs))).getD (j) default).ints).length : Int))) (((((mkTo (EnvS.mk k a) a j).set j (Env.mk ((Int.tmod (EnvS.at k a j) 3) == 0) (((mkTo (EnvS.mk k a) a j).getD (j) default).ints) (((mkTo (EnvS.mk k a) a j).getD (j) default).arrs))).set j (Env.mk ((((mkTo (EnvS.mk k a) a j).set j (Env.mk ((Int.tmod (EnvS.at k a j) 3) == 0) (((mkTo (EnvS.mk k a) a j).getD (j) default).ints) (((mkTo (EnvS.mk k a) a j).getD (j) default).arrs))).getD (j) default).live) (mkAll (mIv (IntKind.wrap .i64 ((EnvS.at k a j) + 1))) ((((mkTo (EnvS.mk k a) a j).set j (Env.mk ((Int.tmod (EnvS.at k a j) 3) == 0) (((mkTo (EnvS.mk k a) a j).getD (j) default).ints) (((mkTo (EnvS.mk k a) a j).getD (j) default).arrs))).getD (j) default).ints)) ((((mkTo (EnvS.mk k a) a j).set j (Env.mk ((Int.tmod (EnvS.at k a j) 3) == 0) (((mkTo (EnvS.mk k a) a j).getD (j) default).ints) (((mkTo (EnvS.mk k a) a j).getD (j) default).arrs))).getD (j) default).arrs))).getD (j) default).arrs)))))))]) [⟨[5], some 10, [], []⟩, ⟨[10], some 11, [], []⟩, ⟨[11], some 5, [], []⟩] (fun k12 => ?_) ?_
      · skip
        refine .move (.no rfl) rfl rfl rfl rfl ?_
        refine .bin (.no rfl) rfl rfl rfl rfl rfl rfl ?_
        refine .assign (.no rfl) rfl rfl rfl rfl ?_
        exact .fin () (.of (.cons rfl (.cons rfl (.cons rfl .nil))) (.cons rfl .nil))
      intro _
      exact .here ((j + 1), g11) (.of (.cons rfl (.cons (svI (show (((IntKind.wrap .i64 ((EnvS.at k a j) + 1)) + 2 * (((((mkTo (EnvS.mk k a) a j).set j (Env.mk ((Int.tmod (EnvS.at k a j) 3) == 0) (((mkTo (EnvS.mk k a) a j).getD (j) default).ints) (((mkTo (EnvS.mk k a) a j).getD (j) default).arrs))).getD (j) default).ints).length : Int)) + 2 * ((((((mkTo (EnvS.mk k a) a j).set j (Env.mk ((Int.tmod (EnvS.at k a j) 3) == 0) (((mkTo (EnvS.mk k a) a j).getD (j) default).ints) (((mkTo (EnvS.mk k a) a j).getD (j) default).arrs))).set j (Env.mk ((((mkTo (EnvS.mk k a) a j).set j (Env.mk ((Int.tmod (EnvS.at k a j) 3) == 0) (((mkTo (EnvS.mk k a) a j).getD (j) default).ints) (((mkTo (EnvS.mk k a) a j).getD (j) default).arrs))).getD (j) default).live) (mkAll (mIv (IntKind.wrap .i64 ((EnvS.at k a j) + 1))) ((((mkTo (EnvS.mk k a) a j).set j (Env.mk ((Int.tmod (EnvS.at k a j) 3) == 0) (((mkTo (EnvS.mk k a) a j).getD (j) default).ints) (((mkTo (EnvS.mk k a) a j).getD (j) default).arrs))).getD (j) default).ints)) ((((mkTo (EnvS.mk k a) a j).set j (Env.mk ((Int.tmod (EnvS.at k a j) 3) == 0) (((mkTo (EnvS.mk k a) a j).getD (j) default).ints) (((mkTo (EnvS.mk k a) a j).getD (j) default).arrs))).getD (j) default).arrs))).getD (j) default).arrs).length : Int)) = (EnvS.at k a (j + 1)) by first | rfl | omega | exact (EnvS.at_zero k a).symm | (have hl9 : j < (mkTo (EnvS.mk k a) a j).length := (by rw [mkTo_len]; omega); have hr9 := EnvS.round (k := k) (a := a) (j := j) (by omega) rfl rfl rfl (wrap_le (a := EnvS.at k a j + 1) (by omega) (by omega)) rfl rfl; exact hr9.2) | exact wrap_le (by omega) (by omega))) (.cons (svI (show (IntKind.wrap .i64 ((j : Int) + 1)) = (((j + 1) : Int)) by first | rfl | omega | exact (EnvS.at_zero k a).symm | (have hl9 : j < (mkTo (EnvS.mk k a) a j).length := (by rw [mkTo_len]; omega); have hr9 := EnvS.round (k := k) (a := a) (j := j) (by omega) rfl rfl rfl (wrap_le (a := EnvS.at k a j + 1) (by omega) (by omega)) rfl rfl; exact hr9.2) | exact wrap_le (by omega) (by omega))) .nil))) (.cons (rowE (show List.map Env.co44 ((((mkTo (EnvS.mk k a) a j).set j (Env.mk ((Int.tmod (EnvS.at k a j) 3) == 0) (((mkTo (EnvS.mk k a) a j).getD (j) default).ints) (((mkTo (EnvS.mk k a) a j).getD (j) default).arrs))).set j (Env.mk ((((mkTo (EnvS.mk k a) a j).set j (Env.mk ((Int.tmod (EnvS.at k a j) 3) == 0) (((mkTo (EnvS.mk k a) a j).getD (j) default).ints) (((mkTo (EnvS.mk k a) a j).getD (j) default).arrs))).getD (j) default).live) (mkAll (mIv (IntKind.wrap .i64 ((EnvS.at k a j) + 1))) ((((mkTo (EnvS.mk k a) a j).set j (Env.mk ((Int.tmod (EnvS.at k a j) 3) == 0) (((mkTo (EnvS.mk k a) a j).getD (j) default).ints) (((mkTo (EnvS.mk k a) a j).getD (j) default).arrs))).getD (j) default).ints)) ((((mkTo (EnvS.mk k a) a j).set j (Env.mk ((Int.tmod (EnvS.at k a j) 3) == 0) (((mkTo (EnvS.mk k a) a j).getD (j) default).ints) (((mkTo (EnvS.mk k a) a j).getD (j) default).arrs))).getD (j) default).arrs))).set j (Env.mk (((((mkTo (EnvS.mk k a) a j).set j (Env.mk ((Int.tmod (EnvS.at k a j) 3) == 0) (((mkTo (EnvS.mk k a) a j).getD (j) default).ints) (((mkTo (EnvS.mk k a) a j).getD (j) default).arrs))).set j (Env.mk ((((mkTo (EnvS.mk k a) a j).set j (Env.mk ((Int.tmod (EnvS.at k a j) 3) == 0) (((mkTo (EnvS.mk k a) a j).getD (j) default).ints) (((mkTo (EnvS.mk k a) a j).getD (j) default).arrs))).getD (j) default).live) (mkAll (mIv (IntKind.wrap .i64 ((EnvS.at k a j) + 1))) ((((mkTo (EnvS.mk k a) a j).set j (Env.mk ((Int.tmod (EnvS.at k a j) 3) == 0) (((mkTo (EnvS.mk k a) a j).getD (j) default).ints) (((mkTo (EnvS.mk k a) a j).getD (j) default).arrs))).getD (j) default).ints)) ((((mkTo (EnvS.mk k a) a j).set j (Env.mk ((Int.tmod (EnvS.at k a j) 3) == 0) (((mkTo (EnvS.mk k a) a j).getD (j) default).ints) (((mkTo (EnvS.mk k a) a j).getD (j) default).arrs))).getD (j) default).arrs))).getD (j) default).live) (((((mkTo (EnvS.mk k a) a j).set j (Env.mk ((Int.tmod (EnvS.at k a j) 3) == 0) (((mkTo (EnvS.mk k a) a j).getD (j) default).ints) (((mkTo (EnvS.mk k a) a j).getD (j) default).arrs))).set j (Env.mk ((((mkTo (EnvS.mk k a) a j).set j (Env.mk ((Int.tmod (EnvS.at k a j) 3) == 0) (((mkTo (EnvS.mk k a) a j).getD (j) default).ints) (((mkTo (EnvS.mk k a) a j).getD (j) default).arrs))).getD (j) default).live) (mkAll (mIv (IntKind.wrap .i64 ((EnvS.at k a j) + 1))) ((((mkTo (EnvS.mk k a) a j).set j (Env.mk ((Int.tmod (EnvS.at k a j) 3) == 0) (((mkTo (EnvS.mk k a) a j).getD (j) default).ints) (((mkTo (EnvS.mk k a) a j).getD (j) default).arrs))).getD (j) default).ints)) ((((mkTo (EnvS.mk k a) a j).set j (Env.mk ((Int.tmod (EnvS.at k a j) 3) == 0) (((mkTo (EnvS.mk k a) a j).getD (j) default).ints) (((mkTo (EnvS.mk k a) a j).getD (j) default).arrs))).getD (j) default).arrs))).getD (j) default).ints) (mkAll (mIv ((IntKind.wrap .i64 ((EnvS.at k a j) + 1)) + 2 * (((((mkTo (EnvS.mk k a) a j).set j (Env.mk ((Int.tmod (EnvS.at k a j) 3) == 0) (((mkTo (EnvS.mk k a) a j).getD (j) default).ints) (((mkTo (EnvS.mk k a) a j).getD (j) default).arrs))).getD (j) default).ints).length : Int))) (((((mkTo (EnvS.mk k a) a j).set j (Env.mk ((Int.tmod (EnvS.at k a j) 3) == 0) (((mkTo (EnvS.mk k a) a j).getD (j) default).ints) (((mkTo (EnvS.mk k a) a j).getD (j) default).arrs))).set j (Env.mk ((((mkTo (EnvS.mk k a) a j).set j (Env.mk ((Int.tmod (EnvS.at k a j) 3) == 0) (((mkTo (EnvS.mk k a) a j).getD (j) default).ints) (((mkTo (EnvS.mk k a) a j).getD (j) default).arrs))).getD (j) default).live) (mkAll (mIv (IntKind.wrap .i64 ((EnvS.at k a j) + 1))) ((((mkTo (EnvS.mk k a) a j).set j (Env.mk ((Int.tmod (EnvS.at k a j) 3) == 0) (((mkTo (EnvS.mk k a) a j).getD (j) default).ints) (((mkTo (EnvS.mk k a) a j).getD (j) default).arrs))).getD (j) default).ints)) ((((mkTo (EnvS.mk k a) a j).set j (Env.mk ((Int.tmod (EnvS.at k a j) 3) == 0) (((mkTo (EnvS.mk k a) a j).getD (j) default).ints) (((mkTo (EnvS.mk k a) a j).getD (j) default).arrs))).getD (j) default).arrs))).getD (j) default).arrs)))) = List.map Env.co44 (mkTo (EnvS.mk k a) a (j + 1)) by first | (rw [← mkTo_zero]) | (have hl9 : j < (mkTo (EnvS.mk k a) a j).length := (by rw [mkTo_len]; omega); have hr9 := EnvS.round (k := k) (a := a) (j := j) (by omega) rfl rfl rfl (wrap_le (a := EnvS.at k a j + 1) (by omega) (by omega)) rfl rfl; exact congrArg _ hr9.1))) .nil)) ⟨(show (j + 1) ≤ a.length by omega), (show a.length - (j + 1) < a.length - j by omega)⟩
    · have c0 := of_decide_eq_false c0
      refine .exit ?_
      refine .seq ?_
      refine .reg (X := Unit) (fun ζ => .of [(0, .one (.ref [0, 0, 0] (0))), (4, .one (.d (.v (.int .i64 (EnvS.at k a j)))))] [([0, 0, 0], (0, q3, .row 44 3 (List.map Env.co44 (mkTo (EnvS.mk k a) a j))))]) [⟨[1], some 35, [], []⟩, ⟨[35], some 4, [], []⟩] (fun k13 => ?_) ?_
      · skip
        refine .move (.no rfl) rfl rfl rfl rfl ?_
        refine .assign (.no rfl) rfl rfl rfl rfl ?_
        exact .fin () (.of (.cons rfl (.cons rfl .nil)) (.cons rfl .nil))
      intro _
      refine .ret ?_
      have e14 : (EnvS.at k a j) = (EnvS.marks k a) := by first | exact EnvS.at_all (by omega) | exact mkTo_all _ _ hI (by omega)
      have hc15 := eq1 (fun z1 => SV.one (.d (.v (.int .i64 (z1))))) e14
      have e16 : (mkTo (EnvS.mk k a) a j) = (EnvS.mark k a) := by first | exact EnvS.at_all (by omega) | exact mkTo_all _ _ hI (by omega)
      show _ ∧ _
      exact ⟨.inr rfl, .done ⟨_, [], [([0, 0, 0], (0, q3, .row 44 3 (List.map Env.co44 (EnvS.mark k a))))], _, .one (c := .d (.v (.int .i64 (EnvS.marks k a)))) (hc15) .nil, .cons (Reads.d _).gives (.cons (.ref (.head _)) .nil), nodupB_ok rfl, by simp, (AllH.get (.cons (rowE (congrArg (List.map Env.co44) e16)) .nil))⟩⟩
theorem c_heldEnvS (a : List Env) (k : Int) (hk : 0 ≤ k ∧ k ≤ 1125899906842624) (hx : Small 1048576 a) (hm : EnvS.Marked k a) : Trip Tryd.prog 23 [(false, 1), (false, 1)] ([.sl false 44 3 (List.map Env.c44 (a))] ++ [.v (.int .i64 (k))]) [(false, 1)] [.v (.int .i64 (EnvS.marks k a))] [] := by
  refine Trip.of Tryd.func23 (by decide) (c := _) rfl rfl (shB_ok rfl) (Nat.le_of_ble_eq_true rfl) rfl (AftOk.nil _) ?_
  refine .sat (t := 0) rfl (fun hs1 => ?_)
  have hs1l : a.length ≤ 9223372036854775807 := hs1.maplen
  refine .seq ?_
  refine .reg (X := Unit) (fun ζ => .of [(0, .one (.d (.sl false 44 3 (List.map Env.c44 (a))))), (1, .one (.d (.v (.int .i64 (k)))))] []) [⟨[], some 4, [], []⟩] (fun k2 => ?_) ?_
  · skip
    refine .assign (.no rfl) rfl rfl rfl rfl ?_
    exact .fin () (.of (.cons rfl (.cons rfl .nil)) .nil)
  intro _
  refine .seq ?_
  refine .seq ?_
  refine .reg (X := Unit) (fun ζ => .of [(0, .one (.d (.sl false 44 3 (List.map Env.c44 (a))))), (1, .one (.d (.v (.int .i64 (k))))), (5, .one (.d (.v (.int .i64 (0)))))] []) [⟨[], some 5, [], []⟩] (fun k3 => ?_) ?_
  · skip
    refine .assign (.no rfl) rfl rfl rfl rfl ?_
    exact .fin () (.of (.cons rfl (.cons rfl (.cons rfl .nil))) .nil)
  intro _
  refine .block ?_
  refine .loop (X := Nat) (fun ζ => .of [(0, .one (.d (.sl false 44 3 (List.map Env.c44 (a))))), (1, .one (.d (.v (.int .i64 (EnvS.at k a ζ))))), (5, .one (.d (.v (.int .i64 ((ζ : Int))))))] []) (fun ζ => ζ ≤ a.length) (fun ζ => a.length - ζ) ?_ ?_
  · skip
    exact .here 0 (.of (.cons rfl (.cons (svI (show (k) = (EnvS.at k a 0) by first | rfl | omega | exact (EnvS.at_zero k a).symm | (rw [wrap_le (a := EnvS.at k a j + 1) (by omega) (by omega), EnvS.at_step (by omega)]; unfold Env.wt; omega) | exact wrap_le (by omega) (by omega))) (.cons (svI (show (0) = ((0 : Int)) by first | rfl | omega | exact (EnvS.at_zero k a).symm | (rw [wrap_le (a := EnvS.at k a j + 1) (by omega) (by omega), EnvS.at_step (by omega)]; unfold Env.wt; omega) | exact wrap_le (by omega) (by omega))) .nil))) .nil) (show 0 ≤ a.length by omega)
  · rintro j hI
    have hI : j ≤ a.length := hI
    have hA9 : a.length ≤ 1048576 := hx.1
    have hb9 := EnvS.bnd (k := k) hx (j := j) (by omega) hk
    have hE9 : j < a.length → (a.getD j default).ints.length ≤ 1048576 ∧ (a.getD j default).arrs.length ≤ 1048576 := fun h => hx.2 _ (getD_mem h)
    refine .seq ?_
    refine .seq ?_
    refine .reg (X := Unit) (fun ζ => .of [(0, .one (.d (.sl false 44 3 (List.map Env.c44 (a))))), (1, .one (.d (.v (.int .i64 (EnvS.at k a j))))), (5, .one (.d (.v (.int .i64 ((j : Int)))))), (9, .one (.d (.v (.bool (decide ((j : Int) < (a.length : Int)))))))] []) [⟨[5], some 6, [], []⟩, ⟨[0], some 7, [], []⟩, ⟨[7], some 8, [], []⟩, ⟨[6, 8], some 9, [], []⟩] (fun k4 => ?_) ?_
    · skip
      refine .move (.no rfl) rfl rfl rfl rfl ?_
      refine .move (.no rfl) rfl rfl rfl rfl ?_
      refine .len (.no rfl) rfl (z := (a.length : Int)) t54 rfl rfl rfl (.d _ _) (map_len _ _) rfl ?_
      refine .bin (.no rfl) rfl rfl rfl rfl rfl rfl ?_
      exact .fin () (.of (.cons rfl (.cons rfl (.cons rfl (.cons rfl .nil)))) .nil)
    intro _
    refine .cond (t := decide ((j : Int) < (a.length : Int))) rfl (fun c0 => ?_) (fun c0 => ?_)
    · have c0 := of_decide_eq_true c0
      refine .skip ?_
      refine .seq ?_
      refine .block ?_
      refine .seq ?_
      refine .seq ?_
      refine .reg (X := Unit) (fun ζ => .of [(0, .one (.d (.sl false 44 3 (List.map Env.c44 (a))))), (1, .one (.d (.v (.int .i64 (EnvS.at k a j))))), (5, .one (.d (.v (.int .i64 ((j : Int)))))), (20, .one (.d (.v (.bool (((a.getD j default).live) != ((Int.tmod (EnvS.at k a j) 3) == 0))))))] []) [⟨[0], some 12, [], []⟩, ⟨[5], some 13, [], []⟩, ⟨[12, 13], some 14, [], []⟩, ⟨[14], some 15, [], []⟩, ⟨[15], some 16, [], []⟩, ⟨[1], some 17, [], []⟩, ⟨[17], some 18, [], []⟩, ⟨[18], some 19, [], []⟩, ⟨[16, 19], some 20, [], []⟩] (fun k5 => ?_) ?_
      · skip
        refine .move (.no rfl) rfl rfl rfl rfl ?_
        refine .move (.no rfl) rfl rfl rfl rfl ?_
        refine .indexAddr (.no rfl) rfl (j) t54 rfl t44 rfl rfl rfl (.d _ _) rfl rfl rfl (map_get (by omega)) rfl rfl ?_
        refine .fieldAddr (.no rfl) rfl t44 rfl rfl t4 rfl rfl rfl rfl [] (by simp) (by intro _ _ _ h; cases h) rfl rfl ?_
        refine .load (.no rfl) rfl t4 rfl rfl (.d _) rfl rfl rfl rfl ?_
        refine .move (.no rfl) rfl rfl rfl rfl ?_
        refine .quoRem (.no rfl) rfl (.inr ⟨rfl, rfl⟩) rfl rfl rfl rfl rfl ?_
        refine .bin (.no rfl) rfl rfl rfl rfl rfl rfl ?_
        refine .neB (.no rfl) rfl t4 rfl rfl rfl rfl rfl ?_
        exact .fin () (.of (.cons rfl (.cons rfl (.cons rfl (.cons rfl .nil)))) .nil)
      intro _
      refine .cond (t := ((a.getD j default).live) != ((Int.tmod (EnvS.at k a j) 3) == 0)) rfl (fun c1 => ?_) (fun c1 => ?_)
      · have c1 := c1
        refine .seq ?_
        refine .reg (X := Unit) (fun ζ => .of [(4, .one (.d (.v (.int .i64 (-1)))))] []) [⟨[], some 4, [], []⟩] (fun k6 => ?_) ?_
        · skip
          refine .assign (.no rfl) rfl rfl rfl rfl ?_
          exact .fin () (.of (.cons rfl .nil) .nil)
        intro _
        refine .ret ?_
        have e7 : (-1) = (EnvS.marks k a) := by (rw [EnvS.heldL hm (by omega)] at c1; simp at c1)
        have hc8 := eq1 (fun z1 => SV.one (.d (.v (.int .i64 (z1))))) e7
        show _ ∧ _
        exact ⟨.inr rfl, .done ⟨_, [], [], _, .one (c := .d (.v (.int .i64 (EnvS.marks k a)))) (hc8) .nil, .cons (Reads.d _).gives .nil, nodupB_ok rfl, by simp, (by simp)⟩⟩
      · have c1 := c1
        refine .skip ?_
        refine .seq ?_
        refine .reg (X := Unit) (fun ζ => .of [(0, .one (.d (.sl false 44 3 (List.map Env.c44 (a))))), (1, .one (.d (.v (.int .i64 (IntKind.wrap .i64 ((EnvS.at k a j) + 1)))))), (5, .one (.d (.v (.int .i64 ((j : Int))))))] []) [⟨[1], some 21, [], []⟩, ⟨[21], some 22, [], []⟩, ⟨[22], some 1, [], []⟩] (fun k9 => ?_) ?_
        · skip
          refine .move (.no rfl) rfl rfl rfl rfl ?_
          refine .bin (.no rfl) rfl rfl rfl rfl rfl rfl ?_
          refine .assign (.no rfl) rfl rfl rfl rfl ?_
          exact .fin () (.of (.cons rfl (.cons rfl (.cons rfl .nil))) .nil)
        intro _
        refine .seq ?_
        refine .reg (X := Unit) (fun ζ => .of [(0, .one (.d (.sl false 44 3 (List.map Env.c44 (a))))), (1, .one (.d (.v (.int .i64 ((IntKind.wrap .i64 ((EnvS.at k a j) + 1)) + 2 * (((a.getD j default).ints).length : Int)))))), (5, .one (.d (.v (.int .i64 ((j : Int))))))] []) [⟨[0], some 23, [], []⟩, ⟨[5], some 24, [], []⟩, ⟨[23, 24], some 25, [], []⟩, ⟨[25], some 26, [], []⟩, ⟨[26], some 27, [], []⟩, ⟨[1], some 28, [], []⟩, ⟨[27, 28], some 29, [], []⟩, ⟨[29], some 1, [], []⟩] (fun k10 => ?_) ?_
        · skip
          refine .move (.no rfl) rfl rfl rfl rfl ?_
          refine .move (.no rfl) rfl rfl rfl rfl ?_
          refine .indexAddr (.no rfl) rfl (j) t54 rfl t44 rfl rfl rfl (.d _ _) rfl rfl rfl (map_get (by omega)) rfl rfl ?_
          refine .fieldAddr (.no rfl) rfl t44 rfl rfl t42 rfl rfl rfl rfl [] (by simp) (by intro _ _ _ h; cases h) rfl rfl ?_
          refine .load (.no rfl) rfl t42 rfl rfl (.d _) rfl rfl rfl rfl ?_
          refine .move (.no rfl) rfl rfl rfl rfl ?_
          refine .call (.no rfl) rfl [] [] (c_heldIntervalS ((a.getD j default).ints) (IntKind.wrap .i64 ((EnvS.at k a j) + 1)) (by first | exact ⟨by rw [wrap_le (a := EnvS.at k a j + 1) (by omega) (by omega)]; omega, by rw [wrap_le (a := EnvS.at k a j + 1) (by omega) (by omega)]; have := hE9 (by omega); omega⟩ | (rw [wrap_le (a := EnvS.at k a j + 1) (by omega) (by omega)]; exact EnvS.heldI hm (by omega)) | (rw [wrap_le (a := EnvS.at k a j + 1) (by omega) (by omega)]; exact EnvS.heldA hm (by omega)) | (rw [wrap_le (a := EnvS.at k a j + 1) (by omega) (by omega)]; have := hE9 (by omega); omega)) (by first | exact ⟨by rw [wrap_le (a := EnvS.at k a j + 1) (by omega) (by omega)]; omega, by rw [wrap_le (a := EnvS.at k a j + 1) (by omega) (by omega)]; have := hE9 (by omega); omega⟩ | (rw [wrap_le (a := EnvS.at k a j + 1) (by omega) (by omega)]; exact EnvS.heldI hm (by omega)) | (rw [wrap_le (a := EnvS.at k a j + 1) (by omega) (by omega)]; exact EnvS.heldA hm (by omega)) | (rw [wrap_le (a := EnvS.at k a j + 1) (by omega) (by omega)]; have := hE9 (by omega); omega))) rfl rfl rfl rfl rfl (.cons (Reads.d _).gives (.cons (Reads.d _).gives .nil)) rfl rfl (fun h => absurd rfl h) (.own [29, 0] .nil) (.nil) rfl rfl rfl (by simp) rfl rfl rfl ?_
          refine .assign (.no rfl) rfl rfl rfl rfl ?_
          exact .fin () (.of (.cons rfl (.cons rfl (.cons rfl .nil))) .nil)
        intro _
        refine .seq ?_
        refine .seq ?_
        refine .reg (X := Unit) (fun ζ => .of [(0, .one (.d (.sl false 44 3 (List.map Env.c44 (a))))), (1, .one (.d (.v (.int .i64 ((IntKind.wrap .i64 ((EnvS.at k a j) + 1)) + 2 * (((a.getD j default).ints).length : Int)))))), (5, .one (.d (.v (.int .i64 ((j : Int)))))), (31, .one (.d (.v (.bool (decide (((IntKind.wrap .i64 ((EnvS.at k a j) + 1)) + 2 * (((a.getD j default).ints).length : Int)) < 0))))))] []) [⟨[1], some 30, [], []⟩, ⟨[30], some 31, [], []⟩] (fun k11 => ?_) ?_
        · skip
          refine .move (.no rfl) rfl rfl rfl rfl ?_
          refine .bin (.no rfl) rfl rfl rfl rfl rfl rfl ?_
          exact .fin () (.of (.cons rfl (.cons rfl (.cons rfl (.cons rfl .nil)))) .nil)
        intro _
        refine .cond (t := decide (((IntKind.wrap .i64 ((EnvS.at k a j) + 1)) + 2 * (((a.getD j default).ints).length : Int)) < 0)) rfl (fun c2 => ?_) (fun c2 => ?_)
        · have c2 := of_decide_eq_true c2
          refine .seq ?_
          refine .reg (X := Unit) (fun ζ => .of [(4, .one (.d (.v (.int .i64 (-1)))))] []) [⟨[], some 4, [], []⟩] (fun k12 => ?_) ?_
          · skip
            refine .assign (.no rfl) rfl rfl rfl rfl ?_
            exact .fin () (.of (.cons rfl .nil) .nil)
          intro _
          refine .ret ?_
          have e13 : (-1) = (EnvS.marks k a) := by (rw [wrap_le (a := EnvS.at k a j + 1) (by omega) (by omega)] at c2; omega)
          have hc14 := eq1 (fun z1 => SV.one (.d (.v (.int .i64 (z1))))) e13
          show _ ∧ _
          exact ⟨.inr rfl, .done ⟨_, [], [], _, .one (c := .d (.v (.int .i64 (EnvS.marks k a)))) (hc14) .nil, .cons (Reads.d _).gives .nil, nodupB_ok rfl, by simp, (by simp)⟩⟩
        · have c2 := of_decide_eq_false c2
          refine .skip ?_
          refine .seq ?_
          refine .reg (X := Unit) (fun ζ => .of [(0, .one (.d (.sl false 44 3 (List.map Env.c44 (a))))), (1, .one (.d (.v (.int .i64 (((IntKind.wrap .i64 ((EnvS.at k a j) + 1)) + 2 * (((a.getD j default).ints).length : Int)) + 2 * (((a.getD j default).arrs).length : Int)))))), (5, .one (.d (.v (.int .i64 ((j : Int))))))] []) [⟨[0], some 32, [], []⟩, ⟨[5], some 33, [], []⟩, ⟨[32, 33], some 34, [], []⟩, ⟨[34], some 35, [], []⟩, ⟨[35], some 36, [], []⟩, ⟨[1], some 37, [], []⟩, ⟨[36, 37], some 38, [], []⟩, ⟨[38], some 1, [], []⟩] (fun k15 => ?_) ?_
          · skip
            refine .move (.no rfl) rfl rfl rfl rfl ?_
            refine .move (.no rfl) rfl rfl rfl rfl ?_
            refine .indexAddr (.no rfl) rfl (j) t54 rfl t44 rfl rfl rfl (.d _ _) rfl rfl rfl (map_get (by omega)) rfl rfl ?_
            refine .fieldAddr (.no rfl) rfl t44 rfl rfl t42 rfl rfl rfl rfl [] (by simp) (by intro _ _ _ h; cases h) rfl rfl ?_
            refine .load (.no rfl) rfl t42 rfl rfl (.d _) rfl rfl rfl rfl ?_
            refine .move (.no rfl) rfl rfl rfl rfl ?_
            refine .call (.no rfl) rfl [] [] (c_heldIntervalS ((a.getD j default).arrs) ((IntKind.wrap .i64 ((EnvS.at k a j) + 1)) + 2 * (((a.getD j default).ints).length : Int)) (by first | exact ⟨by rw [wrap_le (a := EnvS.at k a j + 1) (by omega) (by omega)]; omega, by rw [wrap_le (a := EnvS.at k a j + 1) (by omega) (by omega)]; have := hE9 (by omega); omega⟩ | (rw [wrap_le (a := EnvS.at k a j + 1) (by omega) (by omega)]; exact EnvS.heldI hm (by omega)) | (rw [wrap_le (a := EnvS.at k a j + 1) (by omega) (by omega)]; exact EnvS.heldA hm (by omega)) | (rw [wrap_le (a := EnvS.at k a j + 1) (by omega) (by omega)]; have := hE9 (by omega); omega)) (by first | exact ⟨by rw [wrap_le (a := EnvS.at k a j + 1) (by omega) (by omega)]; omega, by rw [wrap_le (a := EnvS.at k a j + 1) (by omega) (by omega)]; have := hE9 (by omega); omega⟩ | (rw [wrap_le (a := EnvS.at k a j + 1) (by omega) (by omega)]; exact EnvS.heldI hm (by omega)) | (rw [wrap_le (a := EnvS.at k a j + 1) (by omega) (by omega)]; exact EnvS.heldA hm (by omega)) | (rw [wrap_le (a := EnvS.at k a j + 1) (by omega) (by omega)]; have := hE9 (by omega); omega))) rfl rfl rfl rfl rfl (.cons (Reads.d _).gives (.cons (Reads.d _).gives .nil)) rfl rfl (fun h => absurd rfl h) (.own [38, 0] .nil) (.nil) rfl rfl rfl (by simp) rfl rfl rfl ?_
            refine .assign (.no rfl) rfl rfl rfl rfl ?_
            exact .fin () (.of (.cons rfl (.cons rfl (.cons rfl .nil))) .nil)
          intro _
          refine .seq ?_
          refine .reg (X := Unit) (fun ζ => .of [(0, .one (.d (.sl false 44 3 (List.map Env.c44 (a))))), (1, .one (.d (.v (.int .i64 (((IntKind.wrap .i64 ((EnvS.at k a j) + 1)) + 2 * (((a.getD j default).ints).length : Int)) + 2 * (((a.getD j default).arrs).length : Int)))))), (5, .one (.d (.v (.int .i64 ((j : Int)))))), (40, .one (.d (.v (.bool (decide ((((IntKind.wrap .i64 ((EnvS.at k a j) + 1)) + 2 * (((a.getD j default).ints).length : Int)) + 2 * (((a.getD j default).arrs).length : Int)) < 0))))))] []) [⟨[1], some 39, [], []⟩, ⟨[39], some 40, [], []⟩] (fun k16 => ?_) ?_
          · skip
            refine .move (.no rfl) rfl rfl rfl rfl ?_
            refine .bin (.no rfl) rfl rfl rfl rfl rfl rfl ?_
            exact .fin () (.of (.cons rfl (.cons rfl (.cons rfl (.cons rfl .nil)))) .nil)
          intro _
          refine .cond (t := decide ((((IntKind.wrap .i64 ((EnvS.at k a j) + 1)) + 2 * (((a.getD j default).ints).length : Int)) + 2 * (((a.getD j default).arrs).length : Int)) < 0)) rfl (fun c3 => ?_) (fun c3 => ?_)
          · have c3 := of_decide_eq_true c3
            refine .seq ?_
            refine .reg (X := Unit) (fun ζ => .of [(4, .one (.d (.v (.int .i64 (-1)))))] []) [⟨[], some 4, [], []⟩] (fun k17 => ?_) ?_
            · skip
              refine .assign (.no rfl) rfl rfl rfl rfl ?_
              exact .fin () (.of (.cons rfl .nil) .nil)
            intro _
            refine .ret ?_
            have e18 : (-1) = (EnvS.marks k a) := by (rw [wrap_le (a := EnvS.at k a j + 1) (by omega) (by omega)] at c3; omega)
            have hc19 := eq1 (fun z1 => SV.one (.d (.v (.int .i64 (z1))))) e18
            show _ ∧ _
            exact ⟨.inr rfl, .done ⟨_, [], [], _, .one (c := .d (.v (.int .i64 (EnvS.marks k a)))) (hc19) .nil, .cons (Reads.d _).gives .nil, nodupB_ok rfl, by simp, (by simp)⟩⟩
          · have c3 := of_decide_eq_false c3
            refine .skip ?_
            refine .reg (X := Unit) (fun ζ => .of [(0, .one (.d (.sl false 44 3 (List.map Env.c44 (a))))), (1, .one (.d (.v (.int .i64 (((IntKind.wrap .i64 ((EnvS.at k a j) + 1)) + 2 * (((a.getD j default).ints).length : Int)) + 2 * (((a.getD j default).arrs).length : Int)))))), (5, .one (.d (.v (.int .i64 (IntKind.wrap .i64 ((j : Int) + 1))))))] []) [⟨[5], some 10, [], []⟩, ⟨[10], some 11, [], []⟩, ⟨[11], some 5, [], []⟩] (fun k20 => ?_) ?_
            · skip
              refine .move (.no rfl) rfl rfl rfl rfl ?_
              refine .bin (.no rfl) rfl rfl rfl rfl rfl rfl ?_
              refine .assign (.no rfl) rfl rfl rfl rfl ?_
              exact .fin () (.of (.cons rfl (.cons rfl (.cons rfl .nil))) .nil)
            intro _
            exact .here (j + 1) (.of (.cons rfl (.cons (svI (show (((IntKind.wrap .i64 ((EnvS.at k a j) + 1)) + 2 * (((a.getD j default).ints).length : Int)) + 2 * (((a.getD j default).arrs).length : Int)) = (EnvS.at k a (j + 1)) by first | rfl | omega | exact (EnvS.at_zero k a).symm | (rw [wrap_le (a := EnvS.at k a j + 1) (by omega) (by omega), EnvS.at_step (by omega)]; unfold Env.wt; omega) | exact wrap_le (by omega) (by omega))) (.cons (svI (show (IntKind.wrap .i64 ((j : Int) + 1)) = (((j + 1) : Int)) by first | rfl | omega | exact (EnvS.at_zero k a).symm | (rw [wrap_le (a := EnvS.at k a j + 1) (by omega) (by omega), EnvS.at_step (by omega)]; unfold Env.wt; omega) | exact wrap_le (by omega) (by omega))) .nil))) .nil) ⟨(show (j + 1) ≤ a.length by omega), (show a.length - (j + 1) < a.length - j by omega)⟩
    · have c0 := of_decide_eq_false c0
      refine .exit ?_
      refine .seq ?_
      refine .reg (X := Unit) (fun ζ => .of [(4, .one (.d (.v (.int .i64 (EnvS.at k a j)))))] []) [⟨[1], some 41, [], []⟩, ⟨[41], some 4, [], []⟩] (fun k21 => ?_) ?_
      · skip
        refine .move (.no rfl) rfl rfl rfl rfl ?_
        refine .assign (.no rfl) rfl rfl rfl rfl ?_
        exact .fin () (.of (.cons rfl .nil) .nil)
      intro _
      refine .ret ?_
      have e22 : (EnvS.at k a j) = (EnvS.marks k a) := by exact EnvS.at_all (by omega)
      have hc23 := eq1 (fun z1 => SV.one (.d (.v (.int .i64 (z1))))) e22
      show _ ∧ _
      exact ⟨.inr rfl, .done ⟨_, [], [], _, .one (c := .d (.v (.int .i64 (EnvS.marks k a)))) (hc23) .nil, .cons (Reads.d _).gives .nil, nodupB_ok rfl, by simp, (by simp)⟩⟩
end Go.Proofs

/- Contracts of the program's functions at this seat, printed by a program of ours and checked by Lean: each under the conditions of its own statement. -/
import Derived.Test.YtimohcldmffcoaaGreatDoorF3
set_option linter.all false
set_option linter.unnecessarySimpa false
set_option linter.unusedSectionVars false
set_option linter.unusedSimpArgs false
set_option linter.unusedVariables false
namespace Go.Proofs
open Go Go.Proofs Go.Ev

theorem c_isTable (d : Decl) (t : List Env) : Trip Tryz.prog 85 [(true, 3), (false, 1)] (Decl.c38 d ++ [.sl false 77 3 (List.map Env.c77 (t))]) [(false, 1)] [.v (.bool (Table.isIn d t))] [] := by
 refine Trip.of Tryz.func85 (by decide) (c := _) rfl rfl (shB_ok rfl) (Nat.le_of_ble_eq_true rfl) rfl (AftOk.nil _) ?_
 refine .satA (t := 0) (i := 0) rfl rfl (fun hs1 => ?_)
 have hs1l : d.vars.length ≤ 9223372036854775807 := hs1.maplen
 refine .satA (t := 0) (i := 1) rfl rfl (fun hs2 => ?_)
 have hs2l : d.flags.length ≤ 9223372036854775807 := hs2.maplen
 refine .satA (t := 0) (i := 2) rfl rfl (fun hs3 => ?_)
 have hs3l : d.arrays.length ≤ 9223372036854775807 := hs3.maplen
 refine .sat (t := 1) rfl (fun hs4 => ?_)
 have hs4l : t.length ≤ 9223372036854775807 := hs4.maplen
 refine .seq ?_
 refine .reg (X := Nat) (fun ζ => .of [(1, .one (.d (.sl false 77 3 (List.map Env.c77 (t))))), (2, .one (.ptr [2] (ζ) 0))] [([2], (ζ, ζ, .box [.d (.sl false 9 1 (List.map strc (d.vars))), .d (.sl false 9 1 (List.map strc (d.flags))), .d (.sl false 119 2 (List.map Arr.c (d.arrays)))]))]) [⟨[0], some 2, [], [[2]]⟩, ⟨[], some 4, [], []⟩] (fun k5 => ?_) ?_
 ·skip
  refine .box (.no rfl) rfl rfl rfl rfl rfl ?_
  refine .assign (.no rfl) rfl rfl rfl rfl ?_
  exact .fin k5 (.of (.cons rfl (.cons rfl .nil)) (.cons rfl .nil))
 intro g6
 refine .seq ?_
 refine .regD (X := Unit) (by kernel_rfl) (fun ζ => .of [(4, .one (.d (.v (.bool (((t.length : Int) == (leavesOf d) && t.all (fun x0 => Env.okIn d x0)))))))] []) [⟨[1], some 5, [], []⟩, ⟨[5], some 6, [], []⟩, ⟨[2], some 7, [[2]], []⟩, ⟨[7], some 8, [], []⟩, ⟨[6, 8], some 9, [], []⟩, ⟨[9], some 10, [], []⟩, ⟨[10, 1], some 11, [], []⟩, ⟨[10, 2], some 12, [[2]], []⟩, ⟨[10, 12], some 13, [], []⟩, ⟨[10, 11, 13], some 14, [], []⟩, ⟨[10, 14], some 15, [], []⟩, ⟨[15], some 4, [], []⟩] (by kernel_rfl) (fun k7 => ?_) ?_
 ·skip
  refine .move (.no rfl) rfl rfl rfl rfl ?_
  refine .call (.no rfl) rfl [] [] (c_sizeE t) rfl rfl rfl rfl rfl (.cons (Reads.d _).gives .nil) rfl rfl (fun h => absurd rfl h) (.own [6, 0] .nil) (.nil) rfl rfl rfl (by simp) rfl rfl rfl ?_
  refine .load (.no rfl) rfl t38 rfl rfl (.ptr _ _ _ _ _ rfl) rfl rfl rfl rfl ?_
  refine .call (.no rfl) rfl [] [] (c_leaves d) rfl rfl rfl rfl rfl (.cons (Reads.d _).gives (.cons (Reads.d _).gives (.cons (Reads.d _).gives .nil))) rfl rfl (fun h => absurd rfl h) (.own [8, 0] .nil) (.nil) rfl rfl rfl (by simp) rfl rfl rfl ?_
  refine .bin (.no rfl) rfl rfl rfl rfl rfl rfl ?_
  refine .moveB (.no rfl) rfl rfl rfl rfl fun b8 g1_5 => ?_
  cases b8
  ·skip
   refine .off rfl rfl rfl rfl rfl rfl rfl ?_
   refine .off rfl rfl rfl rfl rfl rfl rfl ?_
   refine .off rfl rfl rfl rfl rfl rfl rfl ?_
   refine .off rfl rfl rfl rfl rfl rfl rfl ?_
   refine .pick (.no rfl) rfl rfl rfl rfl rfl ?_
   refine .assign (.no rfl) rfl rfl rfl rfl ?_
   exact .fin () (.of (.cons (svB (show (false) = (((t.length : Int) == (leavesOf d) && t.all (fun x0 => Env.okIn d x0))) by first | (simp only [g1_5, Bool.true_or, Bool.false_or, Bool.true_and, Bool.false_and, Bool.not_true, Bool.not_false]; done) | simp [g1_5])) .nil) .nil)
  ·skip
   refine .move (.on rfl rfl rfl rfl rfl) rfl rfl rfl rfl ?_
   refine .load (.on rfl rfl rfl rfl rfl) rfl t38 rfl rfl (.ptr _ _ _ _ _ rfl) rfl rfl rfl rfl ?_
   refine .makeFunc (.on rfl rfl rfl rfl rfl) rfl rfl rfl rfl rfl ?_
   refine .call (.on rfl rfl rfl rfl rfl) rfl [] [] (c_areAllE t 122 [(true, [.sl false 9 1 (List.map strc (d.vars)), .sl false 9 1 (List.map strc (d.flags)), .sl false 119 2 (List.map Arr.c (d.arrays))])] [] (fun x0 => Env.okIn d x0) (fun x0 => c_isEnv d x0)) rfl rfl rfl rfl rfl (.cons (Reads.d _).gives (.cons (Reads.clo1 (.cons (Reads.d _) (.cons (Reads.d _) (.cons (Reads.d _) .nil))) (.nil)).gives .nil)) rfl rfl (fun h => absurd rfl h) (.own [14, 0] .nil) (.nil) rfl rfl rfl (by simp) rfl rfl rfl ?_
   refine .pick (.no rfl) rfl rfl rfl rfl rfl ?_
   refine .assign (.no rfl) rfl rfl rfl rfl ?_
   exact .fin () (.of (.cons (svB (show (t.all (fun x0 => Env.okIn d x0)) = (((t.length : Int) == (leavesOf d) && t.all (fun x0 => Env.okIn d x0))) by first | (simp only [g1_5, Bool.true_or, Bool.false_or, Bool.true_and, Bool.false_and, Bool.not_true, Bool.not_false]; done) | simp [g1_5])) .nil) .nil)
 intro _
 refine .ret ?_
 have e9 : (((t.length : Int) == (leavesOf d) && t.all (fun x0 => Env.okIn d x0))) = (Table.isIn d t) := by rfl
 have hc10 := eq1 (fun z1 => SV.one (.d (.v (.bool (z1))))) e9
 show _ ∧ _
 exact ⟨.inr rfl, .done ⟨_, [], [], _, .one (c := .d (.v (.bool (Table.isIn d t)))) (hc10) .nil, .cons (Reads.d _).gives .nil, nodupB_ok rfl, by simp, (by simp)⟩⟩
theorem c_TableOk (d : Decl) (t : List Env) (hs : ∀ x ∈ Decl.names d, x.size ≤ 9223372036854775807) (hb : d.vars.length ≤ 1048576 ∧ d.flags.length ≤ 1048576 ∧ d.arrays.length ≤ 1048576) : Trip Tryz.prog 48 [(true, 3), (false, 1)] (Decl.c38 d ++ [.sl false 77 3 (List.map Env.c77 (t))]) [(false, 1)] [.v (.bool (Table.ok d t))] [] := by
 refine Trip.of Tryz.func48 (by decide) (c := _) rfl rfl (shB_ok rfl) (Nat.le_of_ble_eq_true rfl) rfl (AftOk.nil _) ?_
 refine .satA (t := 0) (i := 0) rfl rfl (fun hs1 => ?_)
 have hs1l : d.vars.length ≤ 9223372036854775807 := hs1.maplen
 refine .satA (t := 0) (i := 1) rfl rfl (fun hs2 => ?_)
 have hs2l : d.flags.length ≤ 9223372036854775807 := hs2.maplen
 refine .satA (t := 0) (i := 2) rfl rfl (fun hs3 => ?_)
 have hs3l : d.arrays.length ≤ 9223372036854775807 := hs3.maplen
 refine .sat (t := 1) rfl (fun hs4 => ?_)
 have hs4l : t.length ≤ 9223372036854775807 := hs4.maplen
 refine .seq ?_
 refine .reg (X := Nat) (fun ζ => .of [(1, .one (.d (.sl false 77 3 (List.map Env.c77 (t))))), (2, .one (.ptr [2] (ζ) 0))] [([2], (ζ, ζ, .box [.d (.sl false 9 1 (List.map strc (d.vars))), .d (.sl false 9 1 (List.map strc (d.flags))), .d (.sl false 119 2 (List.map Arr.c (d.arrays)))]))]) [⟨[0], some 2, [], [[2]]⟩, ⟨[], some 4, [], []⟩] (fun k5 => ?_) ?_
 ·skip
  refine .box (.no rfl) rfl rfl rfl rfl rfl ?_
  refine .assign (.no rfl) rfl rfl rfl rfl ?_
  exact .fin k5 (.of (.cons rfl (.cons rfl .nil)) (.cons rfl .nil))
 intro g6
 refine .seq ?_
 refine .reg (X := Unit) (fun ζ => .of [(4, .one (.d (.v (.bool ((Decl.ok d && Table.isIn d t))))))] []) [⟨[2], some 5, [[2]], []⟩, ⟨[5], some 6, [], []⟩, ⟨[6], some 7, [], []⟩, ⟨[7, 2], some 8, [[2]], []⟩, ⟨[7, 1], some 9, [], []⟩, ⟨[7, 8, 9], some 10, [], []⟩, ⟨[7, 10], some 11, [], []⟩, ⟨[11], some 4, [], []⟩] (fun k7 => ?_) ?_
 ·skip
  refine .load (.no rfl) rfl t38 rfl rfl (.ptr _ _ _ _ _ rfl) rfl rfl rfl rfl ?_
  refine .call (.no rfl) rfl [] [] (c_isRight d (by assumption) (by assumption)) rfl rfl rfl rfl rfl (.cons (Reads.d _).gives (.cons (Reads.d _).gives (.cons (Reads.d _).gives .nil))) rfl rfl (fun h => absurd rfl h) (.own [6, 0] .nil) (.nil) rfl rfl rfl (by simp) rfl rfl rfl ?_
  refine .moveB (.no rfl) rfl rfl rfl rfl fun b8 g1_2 => ?_
  cases b8
  ·skip
   refine .off rfl rfl rfl rfl rfl rfl rfl ?_
   refine .off rfl rfl rfl rfl rfl rfl rfl ?_
   refine .off rfl rfl rfl rfl rfl rfl rfl ?_
   refine .pick (.no rfl) rfl rfl rfl rfl rfl ?_
   refine .assign (.no rfl) rfl rfl rfl rfl ?_
   exact .fin () (.of (.cons (svB (show (false) = ((Decl.ok d && Table.isIn d t)) by first | (simp only [g1_2, Bool.true_or, Bool.false_or, Bool.true_and, Bool.false_and, Bool.not_true, Bool.not_false]; done) | simp [g1_2])) .nil) .nil)
  ·skip
   refine .load (.on rfl rfl rfl rfl rfl) rfl t38 rfl rfl (.ptr _ _ _ _ _ rfl) rfl rfl rfl rfl ?_
   refine .move (.on rfl rfl rfl rfl rfl) rfl rfl rfl rfl ?_
   refine .call (.on rfl rfl rfl rfl rfl) rfl [] [] (c_isTable d t) rfl rfl rfl rfl rfl (.cons (Reads.d _).gives (.cons (Reads.d _).gives (.cons (Reads.d _).gives (.cons (Reads.d _).gives .nil)))) rfl rfl (fun h => absurd rfl h) (.own [10, 0] .nil) (.nil) rfl rfl rfl (by simp) rfl rfl rfl ?_
   refine .pick (.no rfl) rfl rfl rfl rfl rfl ?_
   refine .assign (.no rfl) rfl rfl rfl rfl ?_
   exact .fin () (.of (.cons (svB (show (Table.isIn d t) = ((Decl.ok d && Table.isIn d t)) by first | (simp only [g1_2, Bool.true_or, Bool.false_or, Bool.true_and, Bool.false_and, Bool.not_true, Bool.not_false]; done) | simp [g1_2])) .nil) .nil)
 intro _
 refine .ret ?_
 have e9 : ((Decl.ok d && Table.isIn d t)) = (Table.ok d t) := by rfl
 have hc10 := eq1 (fun z1 => SV.one (.d (.v (.bool (z1))))) e9
 show _ ∧ _
 exact ⟨.inr rfl, .done ⟨_, [], [], _, .one (c := .d (.v (.bool (Table.ok d t)))) (hc10) .nil, .cons (Reads.d _).gives .nil, nodupB_ok rfl, by simp, (by simp)⟩⟩
end Go.Proofs

namespace Go.Proofs
open Go Go.Proofs Go.Ev

theorem c_sTableHas (d : Decl) (t : List Env) (s : Store) (hs : ∀ x ∈ Decl.names d, x.size ≤ 9223372036854775807) (hd : d.vars.length ≤ 1048576 ∧ d.flags.length ≤ 1048576 ∧ d.arrays.length ≤ 1048576) (hx : Small 1048576 t) (hst : Store.small s) : Trip Tryz.prog 10 [(true, 3), (false, 1), (true, 3)] (Decl.c38 d ++ [.sl false 77 3 (List.map Env.c77 (t))] ++ Store.c42 s) [(false, 1)] [.v (.bool (Table.hasIn d t s))] [] := by
 refine Trip.of Tryz.func10 (by decide) (c := _) rfl rfl (shB_ok rfl) (Nat.le_of_ble_eq_true rfl) rfl (AftOk.nil _) ?_
 refine .satA (t := 0) (i := 0) rfl rfl (fun hs1 => ?_)
 have hs1l : d.vars.length ≤ 9223372036854775807 := hs1.maplen
 refine .satA (t := 0) (i := 1) rfl rfl (fun hs2 => ?_)
 have hs2l : d.flags.length ≤ 9223372036854775807 := hs2.maplen
 refine .satA (t := 0) (i := 2) rfl rfl (fun hs3 => ?_)
 have hs3l : d.arrays.length ≤ 9223372036854775807 := hs3.maplen
 refine .sat (t := 1) rfl (fun hs4 => ?_)
 have hs4l : t.length ≤ 9223372036854775807 := hs4.maplen
 refine .satA (t := 2) (i := 0) rfl rfl (fun hs5 => ?_)
 have hs5l : s.ints.length ≤ 9223372036854775807 := hs5.maplen
 refine .satA (t := 2) (i := 1) rfl rfl (fun hs6 => ?_)
 have hs6l : s.flags.length ≤ 9223372036854775807 := hs6.maplen
 refine .satA (t := 2) (i := 2) rfl rfl (fun hs7 => ?_)
 have hs7l : s.arrs.length ≤ 9223372036854775807 := hs7.maplen
 refine .seq ?_
 refine .reg (X := Nat × Nat) (fun ζ => .of [(1, .one (.d (.sl false 77 3 (List.map Env.c77 (t))))), (3, .one (.ptr [3] (ζ.1) 0)), (5, .one (.ptr [5] (ζ.2) 0))] [([3], (ζ.1, ζ.1, .box [.d (.sl false 9 1 (List.map strc (d.vars))), .d (.sl false 9 1 (List.map strc (d.flags))), .d (.sl false 119 2 (List.map Arr.c (d.arrays)))])), ([5], (ζ.2, ζ.2, .box [.d (.sl false 2 1 (List.map i64c (s.ints))), .d (.sl false 4 1 (List.map boolc (s.flags))), .d (.sl false 27 1 (List.map slc27 (s.arrs)))]))]) [⟨[0], some 3, [], [[3]]⟩, ⟨[2], some 5, [], [[5]]⟩, ⟨[], some 6, [], []⟩] (fun k8 => ?_) ?_
 ·skip
  refine .box (.no rfl) rfl rfl rfl rfl rfl ?_
  refine .box (.no rfl) rfl rfl rfl rfl rfl ?_
  refine .assign (.no rfl) rfl rfl rfl rfl ?_
  exact .fin (k8, k8 + 1) (.of (.cons rfl (.cons rfl (.cons rfl .nil))) (.cons rfl (.cons rfl .nil)))
 rintro ⟨g9, g10⟩
 refine .seq ?_
 refine .regD (X := Unit) (by kernel_rfl) (fun ζ => .of [(6, .one (.d (.v (.bool (((Table.ok d t && Store.ok d s) && Env.has (t.getD ((leafN s.flags).toNat) default) s))))))] []) [⟨[3], some 7, [[3]], []⟩, ⟨[1], some 8, [], []⟩, ⟨[7, 8], some 9, [], []⟩, ⟨[9], some 10, [], []⟩, ⟨[10, 3], some 11, [[3]], []⟩, ⟨[10, 5], some 12, [[5]], []⟩, ⟨[10, 11, 12], some 13, [], []⟩, ⟨[10, 13], some 14, [], []⟩, ⟨[14], some 15, [], []⟩, ⟨[15, 1], some 16, [], []⟩, ⟨[15, 5], some 17, [[5]], []⟩, ⟨[15, 17], some 18, [], []⟩, ⟨[15, 16, 18], some 19, [], []⟩, ⟨[15, 19], some 20, [], []⟩, ⟨[15, 5], some 21, [[5]], []⟩, ⟨[15, 20, 21], some 22, [], []⟩, ⟨[15, 22], some 23, [], []⟩, ⟨[23], some 6, [], []⟩] (by kernel_rfl) (fun k11 => ?_) ?_
 ·skip
  refine .load (.no rfl) rfl t38 rfl rfl (.ptr _ _ _ _ _ rfl) rfl rfl rfl rfl ?_
  refine .move (.no rfl) rfl rfl rfl rfl ?_
  refine .call (.no rfl) rfl [] [] (c_sTableOk d t (by first | assumption | exact hx.2 | exact (Table.leaf g1_3 (Store.ok_in g1_8)).1 | exact fits_of (Table.leaf g1_3 (Store.ok_in g1_8)).2.2.2.2 (Store.ok_in g1_8) | (have h9 := Table.leaf g1_3 (Store.ok_in g1_8); omega)) (by first | assumption | exact hx.2 | exact (Table.leaf g1_3 (Store.ok_in g1_8)).1 | exact fits_of (Table.leaf g1_3 (Store.ok_in g1_8)).2.2.2.2 (Store.ok_in g1_8) | (have h9 := Table.leaf g1_3 (Store.ok_in g1_8); omega)) (by first | assumption | exact hx.2 | exact (Table.leaf g1_3 (Store.ok_in g1_8)).1 | exact fits_of (Table.leaf g1_3 (Store.ok_in g1_8)).2.2.2.2 (Store.ok_in g1_8) | (have h9 := Table.leaf g1_3 (Store.ok_in g1_8); omega))) rfl rfl rfl rfl rfl (.cons (Reads.d _).gives (.cons (Reads.d _).gives (.cons (Reads.d _).gives (.cons (Reads.d _).gives .nil)))) rfl rfl (fun h => absurd rfl h) (.own [9, 0] .nil) (.nil) rfl rfl rfl (by simp) rfl rfl rfl ?_
  refine .moveB (.no rfl) rfl rfl rfl rfl fun b12 g1_3 => ?_
  cases b12
  ·skip
   refine .off rfl rfl rfl rfl rfl rfl rfl ?_
   refine .off rfl rfl rfl rfl rfl rfl rfl ?_
   refine .off rfl rfl rfl rfl rfl rfl rfl ?_
   refine .pick (.no rfl) rfl rfl rfl rfl rfl ?_
   refine .move (.no rfl) rfl rfl rfl rfl ?_
   refine .off rfl rfl rfl rfl rfl rfl rfl ?_
   refine .off rfl rfl rfl rfl rfl rfl rfl ?_
   refine .off rfl rfl rfl rfl rfl rfl rfl ?_
   refine .off rfl rfl rfl rfl rfl rfl rfl ?_
   refine .off rfl rfl rfl rfl rfl rfl rfl ?_
   refine .off rfl rfl rfl rfl rfl rfl rfl ?_
   refine .off rfl rfl rfl rfl rfl rfl rfl ?_
   refine .pick (.no rfl) rfl rfl rfl rfl rfl ?_
   refine .assign (.no rfl) rfl rfl rfl rfl ?_
   exact .fin () (.of (.cons (svB (show (false) = (((Table.ok d t && Store.ok d s) && Env.has (t.getD ((leafN s.flags).toNat) default) s)) by first | (simp only [g1_3, Bool.true_or, Bool.false_or, Bool.true_and, Bool.false_and, Bool.not_true, Bool.not_false]; done) | simp [g1_3])) .nil) .nil)
  ·skip
   refine .load (.on rfl rfl rfl rfl rfl) rfl t38 rfl rfl (.ptr _ _ _ _ _ rfl) rfl rfl rfl rfl ?_
   refine .load (.on rfl rfl rfl rfl rfl) rfl t42 rfl rfl (.ptr _ _ _ _ _ rfl) rfl rfl rfl rfl ?_
   refine .call (.on rfl rfl rfl rfl rfl) rfl [] [] (c_sStoreOk d s (by first | assumption | exact hx.2 | exact (Table.leaf g1_3 (Store.ok_in g1_8)).1 | exact fits_of (Table.leaf g1_3 (Store.ok_in g1_8)).2.2.2.2 (Store.ok_in g1_8) | (have h9 := Table.leaf g1_3 (Store.ok_in g1_8); omega)) (by first | assumption | exact hx.2 | exact (Table.leaf g1_3 (Store.ok_in g1_8)).1 | exact fits_of (Table.leaf g1_3 (Store.ok_in g1_8)).2.2.2.2 (Store.ok_in g1_8) | (have h9 := Table.leaf g1_3 (Store.ok_in g1_8); omega)) (by first | assumption | exact hx.2 | exact (Table.leaf g1_3 (Store.ok_in g1_8)).1 | exact fits_of (Table.leaf g1_3 (Store.ok_in g1_8)).2.2.2.2 (Store.ok_in g1_8) | (have h9 := Table.leaf g1_3 (Store.ok_in g1_8); omega))) rfl rfl rfl rfl rfl (.cons (Reads.d _).gives (.cons (Reads.d _).gives (.cons (Reads.d _).gives (.cons (Reads.d _).gives (.cons (Reads.d _).gives (.cons (Reads.d _).gives .nil)))))) rfl rfl (fun h => absurd rfl h) (.own [13, 0] .nil) (.nil) rfl rfl rfl (by simp) rfl rfl rfl ?_
   refine .pick (.no rfl) rfl rfl rfl rfl rfl ?_
   refine .moveB (.no rfl) rfl rfl rfl rfl fun b13 g1_8 => ?_
   cases b13
   ·skip
    refine .off rfl rfl rfl rfl rfl rfl rfl ?_
    refine .off rfl rfl rfl rfl rfl rfl rfl ?_
    refine .off rfl rfl rfl rfl rfl rfl rfl ?_
    refine .off rfl rfl rfl rfl rfl rfl rfl ?_
    refine .off rfl rfl rfl rfl rfl rfl rfl ?_
    refine .off rfl rfl rfl rfl rfl rfl rfl ?_
    refine .off rfl rfl rfl rfl rfl rfl rfl ?_
    refine .pick (.no rfl) rfl rfl rfl rfl rfl ?_
    refine .assign (.no rfl) rfl rfl rfl rfl ?_
    exact .fin () (.of (.cons (svB (show (false) = (((Table.ok d t && Store.ok d s) && Env.has (t.getD ((leafN s.flags).toNat) default) s)) by first | (simp only [g1_3, g1_8, Bool.true_or, Bool.false_or, Bool.true_and, Bool.false_and, Bool.not_true, Bool.not_false]; done) | simp [g1_3, g1_8])) .nil) .nil)
   ·skip
    refine .move (.on rfl rfl rfl rfl rfl) rfl rfl rfl rfl ?_
    refine .load (.on rfl rfl rfl rfl rfl) rfl t42 rfl rfl (.ptr _ _ _ _ _ rfl) rfl rfl rfl rfl ?_
    refine .call (.on rfl rfl rfl rfl rfl) rfl [] [] (c_l8Leaf s (by first | assumption | exact hx.2 | exact (Table.leaf g1_3 (Store.ok_in g1_8)).1 | exact fits_of (Table.leaf g1_3 (Store.ok_in g1_8)).2.2.2.2 (Store.ok_in g1_8) | (have h9 := Table.leaf g1_3 (Store.ok_in g1_8); omega))) rfl rfl rfl rfl rfl (.cons (Reads.d _).gives (.cons (Reads.d _).gives (.cons (Reads.d _).gives .nil))) rfl rfl (fun h => absurd rfl h) (.own [18, 0] .nil) (.nil) rfl rfl rfl (by simp) rfl rfl rfl ?_
    refine .indexAddr (.on rfl rfl rfl rfl rfl) rfl ((leafN s.flags).toNat) t40 rfl t77 rfl rfl rfl (.d _ _) rfl rfl (by (have h9 := Table.leaf g1_3 (Store.ok_in g1_8); omega)) (map_get (by have h9 := Table.leaf g1_3 (Store.ok_in g1_8); omega)) rfl rfl ?_
    refine .load (.on rfl rfl rfl rfl rfl) rfl t77 rfl rfl (.d _) rfl rfl rfl rfl ?_
    refine .load (.on rfl rfl rfl rfl rfl) rfl t42 rfl rfl (.ptr _ _ _ _ _ rfl) rfl rfl rfl rfl ?_
    refine .call (.on rfl rfl rfl rfl rfl) rfl [] [] (c_l6Has (t.getD ((leafN s.flags).toNat) default) s (by first | assumption | exact hx.2 | exact (Table.leaf g1_3 (Store.ok_in g1_8)).1 | exact fits_of (Table.leaf g1_3 (Store.ok_in g1_8)).2.2.2.2 (Store.ok_in g1_8) | (have h9 := Table.leaf g1_3 (Store.ok_in g1_8); omega)) (by first | assumption | exact hx.2 | exact (Table.leaf g1_3 (Store.ok_in g1_8)).1 | exact fits_of (Table.leaf g1_3 (Store.ok_in g1_8)).2.2.2.2 (Store.ok_in g1_8) | (have h9 := Table.leaf g1_3 (Store.ok_in g1_8); omega))) rfl rfl rfl rfl rfl (.cons (Reads.d _).gives (.cons (Reads.d _).gives (.cons (Reads.d _).gives (.cons (Reads.d _).gives (.cons (Reads.d _).gives (.cons (Reads.d _).gives .nil)))))) rfl rfl (fun h => absurd rfl h) (.own [22, 0] .nil) (.nil) rfl rfl rfl (by simp) rfl rfl rfl ?_
    refine .pick (.no rfl) rfl rfl rfl rfl rfl ?_
    refine .assign (.no rfl) rfl rfl rfl rfl ?_
    exact .fin () (.of (.cons (svB (show (Env.has (t.getD ((leafN s.flags).toNat) default) s) = (((Table.ok d t && Store.ok d s) && Env.has (t.getD ((leafN s.flags).toNat) default) s)) by first | (simp only [g1_3, g1_8, Bool.true_or, Bool.false_or, Bool.true_and, Bool.false_and, Bool.not_true, Bool.not_false]; done) | simp [g1_3, g1_8])) .nil) .nil)
 intro _
 refine .ret ?_
 have e14 : (((Table.ok d t && Store.ok d s) && Env.has (t.getD ((leafN s.flags).toNat) default) s)) = (Table.hasIn d t s) := by exact Table.hasIn_spec
 have hc15 := eq1 (fun z1 => SV.one (.d (.v (.bool (z1))))) e14
 show _ ∧ _
 exact ⟨.inr rfl, .done ⟨_, [], [], _, .one (c := .d (.v (.bool (Table.hasIn d t s)))) (hc15) .nil, .cons (Reads.d _).gives .nil, nodupB_ok rfl, by simp, (by simp)⟩⟩
theorem c_TableHas (d : Decl) (t : List Env) (s : Store) (hs : ∀ x ∈ Decl.names d, x.size ≤ 9223372036854775807) (hd : d.vars.length ≤ 1048576 ∧ d.flags.length ≤ 1048576 ∧ d.arrays.length ≤ 1048576) (hx : Small 1048576 t) (hst : Store.small s) : Trip Tryz.prog 14 [(true, 3), (false, 1), (true, 3)] (Decl.c38 d ++ [.sl false 77 3 (List.map Env.c77 (t))] ++ Store.c42 s) [(false, 1)] [.v (.bool (Table.hasIn d t s))] [] := by
 refine Trip.of Tryz.func14 (by decide) (c := _) rfl rfl (shB_ok rfl) (Nat.le_of_ble_eq_true rfl) rfl (AftOk.nil _) ?_
 refine .satA (t := 0) (i := 0) rfl rfl (fun hs1 => ?_)
 have hs1l : d.vars.length ≤ 9223372036854775807 := hs1.maplen
 refine .satA (t := 0) (i := 1) rfl rfl (fun hs2 => ?_)
 have hs2l : d.flags.length ≤ 9223372036854775807 := hs2.maplen
 refine .satA (t := 0) (i := 2) rfl rfl (fun hs3 => ?_)
 have hs3l : d.arrays.length ≤ 9223372036854775807 := hs3.maplen
 refine .sat (t := 1) rfl (fun hs4 => ?_)
 have hs4l : t.length ≤ 9223372036854775807 := hs4.maplen
 refine .satA (t := 2) (i := 0) rfl rfl (fun hs5 => ?_)
 have hs5l : s.ints.length ≤ 9223372036854775807 := hs5.maplen
 refine .satA (t := 2) (i := 1) rfl rfl (fun hs6 => ?_)
 have hs6l : s.flags.length ≤ 9223372036854775807 := hs6.maplen
 refine .satA (t := 2) (i := 2) rfl rfl (fun hs7 => ?_)
 have hs7l : s.arrs.length ≤ 9223372036854775807 := hs7.maplen
 refine .seq ?_
 refine .reg (X := Nat × Nat) (fun ζ => .of [(1, .one (.d (.sl false 77 3 (List.map Env.c77 (t))))), (3, .one (.ptr [3] (ζ.1) 0)), (5, .one (.ptr [5] (ζ.2) 0))] [([3], (ζ.1, ζ.1, .box [.d (.sl false 9 1 (List.map strc (d.vars))), .d (.sl false 9 1 (List.map strc (d.flags))), .d (.sl false 119 2 (List.map Arr.c (d.arrays)))])), ([5], (ζ.2, ζ.2, .box [.d (.sl false 2 1 (List.map i64c (s.ints))), .d (.sl false 4 1 (List.map boolc (s.flags))), .d (.sl false 27 1 (List.map slc27 (s.arrs)))]))]) [⟨[0], some 3, [], [[3]]⟩, ⟨[2], some 5, [], [[5]]⟩, ⟨[], some 6, [], []⟩] (fun k8 => ?_) ?_
 ·skip
  refine .box (.no rfl) rfl rfl rfl rfl rfl ?_
  refine .box (.no rfl) rfl rfl rfl rfl rfl ?_
  refine .assign (.no rfl) rfl rfl rfl rfl ?_
  exact .fin (k8, k8 + 1) (.of (.cons rfl (.cons rfl (.cons rfl .nil))) (.cons rfl (.cons rfl .nil)))
 rintro ⟨g9, g10⟩
 refine .seq ?_
 refine .regD (X := Unit) (by kernel_rfl) (fun ζ => .of [(6, .one (.d (.v (.bool (((Table.ok d t && Store.okIn d s) && Env.has (t.getD ((leafN s.flags).toNat) default) s))))))] []) [⟨[3], some 7, [[3]], []⟩, ⟨[1], some 8, [], []⟩, ⟨[7, 8], some 9, [], []⟩, ⟨[9], some 10, [], []⟩, ⟨[10, 3], some 11, [[3]], []⟩, ⟨[10, 5], some 12, [[5]], []⟩, ⟨[10, 11, 12], some 13, [], []⟩, ⟨[10, 13], some 14, [], []⟩, ⟨[14], some 15, [], []⟩, ⟨[15, 1], some 16, [], []⟩, ⟨[15, 5], some 17, [], []⟩, ⟨[15, 17], some 18, [[5]], []⟩, ⟨[15, 18], some 19, [], []⟩, ⟨[15, 16, 19], some 20, [], []⟩, ⟨[15, 20], some 21, [], []⟩, ⟨[15, 5], some 22, [[5]], []⟩, ⟨[15, 21, 22], some 23, [], []⟩, ⟨[15, 23], some 24, [], []⟩, ⟨[24], some 6, [], []⟩] (by kernel_rfl) (fun k11 => ?_) ?_
 ·skip
  refine .load (.no rfl) rfl t38 rfl rfl (.ptr _ _ _ _ _ rfl) rfl rfl rfl rfl ?_
  refine .move (.no rfl) rfl rfl rfl rfl ?_
  refine .call (.no rfl) rfl [] [] (c_TableOk d t (by first | assumption | exact hx.2 | exact (Table.leaf g1_3 g1_8).1 | exact fits_of (Table.leaf g1_3 g1_8).2.2.2.2 g1_8 | (have h9 := Table.leaf g1_3 g1_8; omega)) (by first | assumption | exact hx.2 | exact (Table.leaf g1_3 g1_8).1 | exact fits_of (Table.leaf g1_3 g1_8).2.2.2.2 g1_8 | (have h9 := Table.leaf g1_3 g1_8; omega))) rfl rfl rfl rfl rfl (.cons (Reads.d _).gives (.cons (Reads.d _).gives (.cons (Reads.d _).gives (.cons (Reads.d _).gives .nil)))) rfl rfl (fun h => absurd rfl h) (.own [9, 0] .nil) (.nil) rfl rfl rfl (by simp) rfl rfl rfl ?_
  refine .moveB (.no rfl) rfl rfl rfl rfl fun b12 g1_3 => ?_
  cases b12
  ·skip
   refine .off rfl rfl rfl rfl rfl rfl rfl ?_
   refine .off rfl rfl rfl rfl rfl rfl rfl ?_
   refine .off rfl rfl rfl rfl rfl rfl rfl ?_
   refine .pick (.no rfl) rfl rfl rfl rfl rfl ?_
   refine .move (.no rfl) rfl rfl rfl rfl ?_
   refine .off rfl rfl rfl rfl rfl rfl rfl ?_
   refine .off rfl rfl rfl rfl rfl rfl rfl ?_
   refine .off rfl rfl rfl rfl rfl rfl rfl ?_
   refine .off rfl rfl rfl rfl rfl rfl rfl ?_
   refine .off rfl rfl rfl rfl rfl rfl rfl ?_
   refine .off rfl rfl rfl rfl rfl rfl rfl ?_
   refine .off rfl rfl rfl rfl rfl rfl rfl ?_
   refine .off rfl rfl rfl rfl rfl rfl rfl ?_
   refine .pick (.no rfl) rfl rfl rfl rfl rfl ?_
   refine .assign (.no rfl) rfl rfl rfl rfl ?_
   exact .fin () (.of (.cons (svB (show (false) = (((Table.ok d t && Store.okIn d s) && Env.has (t.getD ((leafN s.flags).toNat) default) s)) by first | (simp only [g1_3, Bool.true_or, Bool.false_or, Bool.true_and, Bool.false_and, Bool.not_true, Bool.not_false]; done) | simp [g1_3])) .nil) .nil)
  ·skip
   refine .load (.on rfl rfl rfl rfl rfl) rfl t38 rfl rfl (.ptr _ _ _ _ _ rfl) rfl rfl rfl rfl ?_
   refine .load (.on rfl rfl rfl rfl rfl) rfl t42 rfl rfl (.ptr _ _ _ _ _ rfl) rfl rfl rfl rfl ?_
   refine .call (.on rfl rfl rfl rfl rfl) rfl [] [] (c_isStore d s) rfl rfl rfl rfl rfl (.cons (Reads.d _).gives (.cons (Reads.d _).gives (.cons (Reads.d _).gives (.cons (Reads.d _).gives (.cons (Reads.d _).gives (.cons (Reads.d _).gives .nil)))))) rfl rfl (fun h => absurd rfl h) (.own [13, 0] .nil) (.nil) rfl rfl rfl (by simp) rfl rfl rfl ?_
   refine .pick (.no rfl) rfl rfl rfl rfl rfl ?_
   refine .moveB (.no rfl) rfl rfl rfl rfl fun b13 g1_8 => ?_
   cases b13
   ·skip
    refine .off rfl rfl rfl rfl rfl rfl rfl ?_
    refine .off rfl rfl rfl rfl rfl rfl rfl ?_
    refine .off rfl rfl rfl rfl rfl rfl rfl ?_
    refine .off rfl rfl rfl rfl rfl rfl rfl ?_
    refine .off rfl rfl rfl rfl rfl rfl rfl ?_
    refine .off rfl rfl rfl rfl rfl rfl rfl ?_
    refine .off rfl rfl rfl rfl rfl rfl rfl ?_
    refine .off rfl rfl rfl rfl rfl rfl rfl ?_
    refine .pick (.no rfl) rfl rfl rfl rfl rfl ?_
    refine .assign (.no rfl) rfl rfl rfl rfl ?_
    exact .fin () (.of (.cons (svB (show (false) = (((Table.ok d t && Store.okIn d s) && Env.has (t.getD ((leafN s.flags).toNat) default) s)) by first | (simp only [g1_3, g1_8, Bool.true_or, Bool.false_or, Bool.true_and, Bool.false_and, Bool.not_true, Bool.not_false]; done) | simp [g1_3, g1_8])) .nil) .nil)
   ·skip
    refine .move (.on rfl rfl rfl rfl rfl) rfl rfl rfl rfl ?_
    refine .fieldAddrP (.on rfl rfl rfl rfl rfl) rfl t42 rfl rfl t28 rfl rfl rfl rfl ?_
    refine .load (.on rfl rfl rfl rfl rfl) rfl t28 rfl rfl (.ptr _ _ _ _ _ rfl) rfl rfl rfl rfl ?_
    refine .call (.on rfl rfl rfl rfl rfl) rfl [] [] (c_leafOf s.flags (by first | assumption | exact hx.2 | exact (Table.leaf g1_3 g1_8).1 | exact fits_of (Table.leaf g1_3 g1_8).2.2.2.2 g1_8 | (have h9 := Table.leaf g1_3 g1_8; omega))) rfl rfl rfl rfl rfl (.cons (Reads.d _).gives .nil) rfl rfl (fun h => absurd rfl h) (.own [19, 0] .nil) (.nil) rfl rfl rfl (by simp) rfl rfl rfl ?_
    refine .indexAddr (.on rfl rfl rfl rfl rfl) rfl ((leafN s.flags).toNat) t40 rfl t77 rfl rfl rfl (.d _ _) rfl rfl (by (have h9 := Table.leaf g1_3 g1_8; omega)) (map_get (by have h9 := Table.leaf g1_3 g1_8; omega)) rfl rfl ?_
    refine .load (.on rfl rfl rfl rfl rfl) rfl t77 rfl rfl (.d _) rfl rfl rfl rfl ?_
    refine .load (.on rfl rfl rfl rfl rfl) rfl t42 rfl rfl (.ptr _ _ _ _ _ rfl) rfl rfl rfl rfl ?_
    refine .call (.on rfl rfl rfl rfl rfl) rfl [] [] (c_hasStore (t.getD ((leafN s.flags).toNat) default) s (by first | assumption | exact hx.2 | exact (Table.leaf g1_3 g1_8).1 | exact fits_of (Table.leaf g1_3 g1_8).2.2.2.2 g1_8 | (have h9 := Table.leaf g1_3 g1_8; omega))) rfl rfl rfl rfl rfl (.cons (Reads.d _).gives (.cons (Reads.d _).gives (.cons (Reads.d _).gives (.cons (Reads.d _).gives (.cons (Reads.d _).gives (.cons (Reads.d _).gives .nil)))))) rfl rfl (fun h => absurd rfl h) (.own [23, 0] .nil) (.nil) rfl rfl rfl (by simp) rfl rfl rfl ?_
    refine .pick (.no rfl) rfl rfl rfl rfl rfl ?_
    refine .assign (.no rfl) rfl rfl rfl rfl ?_
    exact .fin () (.of (.cons (svB (show (Env.has (t.getD ((leafN s.flags).toNat) default) s) = (((Table.ok d t && Store.okIn d s) && Env.has (t.getD ((leafN s.flags).toNat) default) s)) by first | (simp only [g1_3, g1_8, Bool.true_or, Bool.false_or, Bool.true_and, Bool.false_and, Bool.not_true, Bool.not_false]; done) | simp [g1_3, g1_8])) .nil) .nil)
 intro _
 refine .ret ?_
 have e14 : (((Table.ok d t && Store.okIn d s) && Env.has (t.getD ((leafN s.flags).toNat) default) s)) = (Table.hasIn d t s) := by rfl
 have hc15 := eq1 (fun z1 => SV.one (.d (.v (.bool (z1))))) e14
 show _ ∧ _
 exact ⟨.inr rfl, .done ⟨_, [], [], _, .one (c := .d (.v (.bool (Table.hasIn d t s)))) (hc15) .nil, .cons (Reads.d _).gives .nil, nodupB_ok rfl, by simp, (by simp)⟩⟩
end Go.Proofs

namespace Go.Proofs
open Go Go.Proofs Go.Ev

set_option maxHeartbeats 8000000 in
theorem c_FnExactTableHas (d : Decl) (t : List Env) (s : Store) (hs : ∀ x ∈ Decl.names d, x.size ≤ 9223372036854775807) (hv : ∀ x ∈ d.vars, 0 ≤ strW x ∧ strW x ≤ 9223372036854775807) (hf : ∀ x ∈ d.flags, 0 ≤ strW x ∧ strW x ≤ 9223372036854775807) (ha : ∀ x ∈ d.arrays, 0 ≤ arrW x ∧ arrW x ≤ 9223372036854775807) : Trip Tryz.prog 3 [(true, 3), (false, 1), (true, 3)] (Decl.c25 d ++ [.sl false 69 3 (List.map Env.c69 (t))] ++ Store.c31 s) [(false, 1)] [.v (.bool (true))] [] := by
 refine Trip.of Tryz.func3 (by decide) (c := _) rfl rfl (shB_ok rfl) (Nat.le_of_ble_eq_true rfl) rfl (AftOk.nil _) ?_
 refine .satA (t := 0) (i := 0) rfl rfl (fun hs1 => ?_)
 have hs1l : d.vars.length ≤ 9223372036854775807 := hs1.maplen
 refine .satA (t := 0) (i := 1) rfl rfl (fun hs2 => ?_)
 have hs2l : d.flags.length ≤ 9223372036854775807 := hs2.maplen
 refine .satA (t := 0) (i := 2) rfl rfl (fun hs3 => ?_)
 have hs3l : d.arrays.length ≤ 9223372036854775807 := hs3.maplen
 refine .sat (t := 1) rfl (fun hs4 => ?_)
 have hs4l : t.length ≤ 9223372036854775807 := hs4.maplen
 refine .satA (t := 2) (i := 0) rfl rfl (fun hs5 => ?_)
 have hs5l : s.ints.length ≤ 9223372036854775807 := hs5.maplen
 refine .satA (t := 2) (i := 1) rfl rfl (fun hs6 => ?_)
 have hs6l : s.flags.length ≤ 9223372036854775807 := hs6.maplen
 refine .satA (t := 2) (i := 2) rfl rfl (fun hs7 => ?_)
 have hs7l : s.arrs.length ≤ 9223372036854775807 := hs7.maplen
 refine .seq ?_
 refine .reg (X := Nat × Nat) (fun ζ => .of [(1, .one (.d (.sl false 69 3 (List.map Env.c69 (t))))), (3, .one (.ptr [3] (ζ.1) 0)), (5, .one (.ptr [5] (ζ.2) 0))] [([3], (ζ.1, ζ.1, .box [.d (.sl false 9 1 (List.map strc (d.vars))), .d (.sl false 9 1 (List.map strc (d.flags))), .d (.sl false 115 2 (List.map Arr.c (d.arrays)))])), ([5], (ζ.2, ζ.2, .box [.d (.sl false 2 1 (List.map i64c (s.ints))), .d (.sl false 4 1 (List.map boolc (s.flags))), .d (.sl false 27 1 (List.map slc27 (s.arrs)))]))]) [⟨[0], some 3, [], [[3]]⟩, ⟨[2], some 5, [], [[5]]⟩, ⟨[], some 6, [], []⟩] (fun k8 => ?_) ?_
 ·skip
  refine .box (.no rfl) rfl rfl rfl rfl rfl ?_
  refine .box (.no rfl) rfl rfl rfl rfl rfl ?_
  refine .assign (.no rfl) rfl rfl rfl rfl ?_
  exact .fin (k8, k8 + 1) (.of (.cons rfl (.cons rfl (.cons rfl .nil))) (.cons rfl (.cons rfl .nil)))
 rintro ⟨g9, g10⟩
 refine .seq ?_
 refine .reg (X := Unit) (fun ζ => .of [(1, .one (.d (.sl false 69 3 (List.map Env.c69 (t))))), (3, .one (.ptr [3] (g9) 0)), (5, .one (.ptr [5] (g10) 0)), (7, .one (.d (.v (.int .i64 (1048576)))))] [([3], (g9, g9, .box [.d (.sl false 9 1 (List.map strc (d.vars))), .d (.sl false 9 1 (List.map strc (d.flags))), .d (.sl false 115 2 (List.map Arr.c (d.arrays)))])), ([5], (g10, g10, .box [.d (.sl false 2 1 (List.map i64c (s.ints))), .d (.sl false 4 1 (List.map boolc (s.flags))), .d (.sl false 27 1 (List.map slc27 (s.arrs)))]))]) [⟨[], some 7, [], []⟩] (fun k11 => ?_) ?_
 ·skip
  refine .assign (.no rfl) rfl rfl rfl rfl ?_
  exact .fin () (.of (.cons rfl (.cons rfl (.cons rfl (.cons rfl .nil)))) (.cons rfl (.cons rfl .nil)))
 intro _
 refine .seq ?_
 refine .reg (X := Unit) (fun ζ => .of [(1, .one (.d (.sl false 69 3 (List.map Env.c69 (t))))), (3, .one (.ptr [3] (g9) 0)), (5, .one (.ptr [5] (g10) 0)), (7, .one (.d (.v (.int .i64 (szDecl d 1048576)))))] [([3], (g9, g9, .box [.d (.sl false 9 1 (List.map strc (d.vars))), .d (.sl false 9 1 (List.map strc (d.flags))), .d (.sl false 115 2 (List.map Arr.c (d.arrays)))])), ([5], (g10, g10, .box [.d (.sl false 2 1 (List.map i64c (s.ints))), .d (.sl false 4 1 (List.map boolc (s.flags))), .d (.sl false 27 1 (List.map slc27 (s.arrs)))]))]) [⟨[3], some 13, [[3]], []⟩, ⟨[7], some 14, [], []⟩, ⟨[13, 14], some 15, [], []⟩, ⟨[15], some 7, [], []⟩] (fun k12 => ?_) ?_
 ·skip
  refine .load (.no rfl) rfl t25 rfl rfl (.ptr _ _ _ _ _ rfl) rfl rfl rfl rfl ?_
  refine .move (.no rfl) rfl rfl rfl rfl ?_
  refine .call (.no rfl) rfl [] [] (c_szDecl d 1048576 (by first | assumption | omega | exact ⟨‹_›, ‹_›⟩ | (simp only [Decl.marks, Env.marks, Env.mark, mkAll_len]; omega)) (by first | assumption | omega | exact ⟨‹_›, ‹_›⟩ | (simp only [Decl.marks, Env.marks, Env.mark, mkAll_len]; omega)) (by first | assumption | omega | exact ⟨‹_›, ‹_›⟩ | (simp only [Decl.marks, Env.marks, Env.mark, mkAll_len]; omega)) (by first | assumption | omega | exact ⟨‹_›, ‹_›⟩ | (simp only [Decl.marks, Env.marks, Env.mark, mkAll_len]; omega))) rfl rfl rfl rfl rfl (.cons (Reads.d _).gives (.cons (Reads.d _).gives (.cons (Reads.d _).gives (.cons (Reads.d _).gives .nil)))) rfl rfl (fun h => absurd rfl h) (.own [15, 0] .nil) (.nil) rfl rfl rfl (by simp) rfl rfl rfl ?_
  refine .assign (.no rfl) rfl rfl rfl rfl ?_
  exact .fin () (.of (.cons rfl (.cons rfl (.cons rfl (.cons rfl .nil)))) (.cons rfl (.cons rfl .nil)))
 intro _
 refine .seq ?_
 refine .seq ?_
 refine .reg (X := Unit) (fun ζ => .of [(1, .one (.d (.sl false 69 3 (List.map Env.c69 (t))))), (3, .one (.ptr [3] (g9) 0)), (5, .one (.ptr [5] (g10) 0)), (7, .one (.d (.v (.int .i64 (szDecl d 1048576))))), (17, .one (.d (.v (.bool (decide ((szDecl d 1048576) < 0))))))] [([3], (g9, g9, .box [.d (.sl false 9 1 (List.map strc (d.vars))), .d (.sl false 9 1 (List.map strc (d.flags))), .d (.sl false 115 2 (List.map Arr.c (d.arrays)))])), ([5], (g10, g10, .box [.d (.sl false 2 1 (List.map i64c (s.ints))), .d (.sl false 4 1 (List.map boolc (s.flags))), .d (.sl false 27 1 (List.map slc27 (s.arrs)))]))]) [⟨[7], some 16, [], []⟩, ⟨[16], some 17, [], []⟩] (fun k13 => ?_) ?_
 ·skip
  refine .move (.no rfl) rfl rfl rfl rfl ?_
  refine .bin (.no rfl) rfl rfl rfl rfl rfl rfl ?_
  exact .fin () (.of (.cons rfl (.cons rfl (.cons rfl (.cons rfl (.cons rfl .nil))))) (.cons rfl (.cons rfl .nil)))
 intro _
 refine .cond (t := decide ((szDecl d 1048576) < 0)) rfl (fun c0 => ?_) (fun c0 => ?_)
 ·have c0 := of_decide_eq_true c0
  refine .seq ?_
  refine .reg (X := Unit) (fun ζ => .of [(6, .one (.d (.v (.bool (true)))))] []) [⟨[], some 6, [], []⟩] (fun k14 => ?_) ?_
  ·skip
   refine .assign (.no rfl) rfl rfl rfl rfl ?_
   exact .fin () (.of (.cons rfl .nil) .nil)
  intro _
  refine .ret ?_
  show _ ∧ _
  exact ⟨.inr rfl, .done ⟨_, [], [], _, .one rfl .nil, .cons (Reads.d _).gives .nil, nodupB_ok rfl, by simp, (by simp)⟩⟩
 ·have c0 := of_decide_eq_false c0
  have q0 := szDecl_len hv hf ha (by omega) c0
  refine .skip ?_
  refine .seq ?_
  refine .reg (X := Unit) (fun ζ => .of [(1, .one (.d (.sl false 69 3 (List.map Env.c69 (t))))), (3, .one (.ptr [3] (g9) 0)), (5, .one (.ptr [5] (g10) 0)), (7, .one (.d (.v (.int .i64 (szEnvS t (szDecl d 1048576))))))] [([3], (g9, g9, .box [.d (.sl false 9 1 (List.map strc (d.vars))), .d (.sl false 9 1 (List.map strc (d.flags))), .d (.sl false 115 2 (List.map Arr.c (d.arrays)))])), ([5], (g10, g10, .box [.d (.sl false 2 1 (List.map i64c (s.ints))), .d (.sl false 4 1 (List.map boolc (s.flags))), .d (.sl false 27 1 (List.map slc27 (s.arrs)))]))]) [⟨[1], some 18, [], []⟩, ⟨[7], some 19, [], []⟩, ⟨[18, 19], some 20, [], []⟩, ⟨[20], some 7, [], []⟩] (fun k15 => ?_) ?_
  ·skip
   refine .move (.no rfl) rfl rfl rfl rfl ?_
   refine .move (.no rfl) rfl rfl rfl rfl ?_
   refine .call (.no rfl) rfl [] [] (c_szEnvS t (szDecl d 1048576) (by first | assumption | omega | exact ⟨‹_›, ‹_›⟩ | (simp only [Decl.marks, Env.marks, Env.mark, mkAll_len]; omega))) rfl rfl rfl rfl rfl (.cons (Reads.d _).gives (.cons (Reads.d _).gives .nil)) rfl rfl (fun h => absurd rfl h) (.own [20, 0] .nil) (.nil) rfl rfl rfl (by simp) rfl rfl rfl ?_
   refine .assign (.no rfl) rfl rfl rfl rfl ?_
   exact .fin () (.of (.cons rfl (.cons rfl (.cons rfl (.cons rfl .nil)))) (.cons rfl (.cons rfl .nil)))
  intro _
  refine .seq ?_
  refine .seq ?_
  refine .reg (X := Unit) (fun ζ => .of [(1, .one (.d (.sl false 69 3 (List.map Env.c69 (t))))), (3, .one (.ptr [3] (g9) 0)), (5, .one (.ptr [5] (g10) 0)), (7, .one (.d (.v (.int .i64 (szEnvS t (szDecl d 1048576)))))), (22, .one (.d (.v (.bool (decide ((szEnvS t (szDecl d 1048576)) < 0))))))] [([3], (g9, g9, .box [.d (.sl false 9 1 (List.map strc (d.vars))), .d (.sl false 9 1 (List.map strc (d.flags))), .d (.sl false 115 2 (List.map Arr.c (d.arrays)))])), ([5], (g10, g10, .box [.d (.sl false 2 1 (List.map i64c (s.ints))), .d (.sl false 4 1 (List.map boolc (s.flags))), .d (.sl false 27 1 (List.map slc27 (s.arrs)))]))]) [⟨[7], some 21, [], []⟩, ⟨[21], some 22, [], []⟩] (fun k16 => ?_) ?_
  ·skip
   refine .move (.no rfl) rfl rfl rfl rfl ?_
   refine .bin (.no rfl) rfl rfl rfl rfl rfl rfl ?_
   exact .fin () (.of (.cons rfl (.cons rfl (.cons rfl (.cons rfl (.cons rfl .nil))))) (.cons rfl (.cons rfl .nil)))
  intro _
  refine .cond (t := decide ((szEnvS t (szDecl d 1048576)) < 0)) rfl (fun c1 => ?_) (fun c1 => ?_)
  ·have c1 := of_decide_eq_true c1
   refine .seq ?_
   refine .reg (X := Unit) (fun ζ => .of [(6, .one (.d (.v (.bool (true)))))] []) [⟨[], some 6, [], []⟩] (fun k17 => ?_) ?_
   ·skip
    refine .assign (.no rfl) rfl rfl rfl rfl ?_
    exact .fin () (.of (.cons rfl .nil) .nil)
   intro _
   refine .ret ?_
   show _ ∧ _
   exact ⟨.inr rfl, .done ⟨_, [], [], _, .one rfl .nil, .cons (Reads.d _).gives .nil, nodupB_ok rfl, by simp, (by simp)⟩⟩
  ·have c1 := of_decide_eq_false c1
   have q1 := szEnvS_len (by omega) c1
   have q1a := q1.1
   have q1b := q1.2.1
   refine .skip ?_
   refine .seq ?_
   refine .reg (X := Unit) (fun ζ => .of [(1, .one (.d (.sl false 69 3 (List.map Env.c69 (t))))), (3, .one (.ptr [3] (g9) 0)), (5, .one (.ptr [5] (g10) 0)), (7, .one (.d (.v (.int .i64 (szStore s (szEnvS t (szDecl d 1048576)))))))] [([3], (g9, g9, .box [.d (.sl false 9 1 (List.map strc (d.vars))), .d (.sl false 9 1 (List.map strc (d.flags))), .d (.sl false 115 2 (List.map Arr.c (d.arrays)))])), ([5], (g10, g10, .box [.d (.sl false 2 1 (List.map i64c (s.ints))), .d (.sl false 4 1 (List.map boolc (s.flags))), .d (.sl false 27 1 (List.map slc27 (s.arrs)))]))]) [⟨[5], some 23, [[5]], []⟩, ⟨[7], some 24, [], []⟩, ⟨[23, 24], some 25, [], []⟩, ⟨[25], some 7, [], []⟩] (fun k18 => ?_) ?_
   ·skip
    refine .load (.no rfl) rfl t31 rfl rfl (.ptr _ _ _ _ _ rfl) rfl rfl rfl rfl ?_
    refine .move (.no rfl) rfl rfl rfl rfl ?_
    refine .call (.no rfl) rfl [] [] (c_szStore s (szEnvS t (szDecl d 1048576)) (by first | assumption | omega | exact ⟨‹_›, ‹_›⟩ | (simp only [Decl.marks, Env.marks, Env.mark, mkAll_len]; omega))) rfl rfl rfl rfl rfl (.cons (Reads.d _).gives (.cons (Reads.d _).gives (.cons (Reads.d _).gives (.cons (Reads.d _).gives .nil)))) rfl rfl (fun h => absurd rfl h) (.own [25, 0] .nil) (.nil) rfl rfl rfl (by simp) rfl rfl rfl ?_
    refine .assign (.no rfl) rfl rfl rfl rfl ?_
    exact .fin () (.of (.cons rfl (.cons rfl (.cons rfl (.cons rfl .nil)))) (.cons rfl (.cons rfl .nil)))
   intro _
   refine .seq ?_
   refine .seq ?_
   refine .reg (X := Unit) (fun ζ => .of [(1, .one (.d (.sl false 69 3 (List.map Env.c69 (t))))), (3, .one (.ptr [3] (g9) 0)), (5, .one (.ptr [5] (g10) 0)), (27, .one (.d (.v (.bool (decide ((szStore s (szEnvS t (szDecl d 1048576))) < 0))))))] [([3], (g9, g9, .box [.d (.sl false 9 1 (List.map strc (d.vars))), .d (.sl false 9 1 (List.map strc (d.flags))), .d (.sl false 115 2 (List.map Arr.c (d.arrays)))])), ([5], (g10, g10, .box [.d (.sl false 2 1 (List.map i64c (s.ints))), .d (.sl false 4 1 (List.map boolc (s.flags))), .d (.sl false 27 1 (List.map slc27 (s.arrs)))]))]) [⟨[7], some 26, [], []⟩, ⟨[26], some 27, [], []⟩] (fun k19 => ?_) ?_
   ·skip
    refine .move (.no rfl) rfl rfl rfl rfl ?_
    refine .bin (.no rfl) rfl rfl rfl rfl rfl rfl ?_
    exact .fin () (.of (.cons rfl (.cons rfl (.cons rfl (.cons rfl .nil)))) (.cons rfl (.cons rfl .nil)))
   intro _
   refine .cond (t := decide ((szStore s (szEnvS t (szDecl d 1048576))) < 0)) rfl (fun c2 => ?_) (fun c2 => ?_)
   ·have c2 := of_decide_eq_true c2
    refine .seq ?_
    refine .reg (X := Unit) (fun ζ => .of [(6, .one (.d (.v (.bool (true)))))] []) [⟨[], some 6, [], []⟩] (fun k20 => ?_) ?_
    ·skip
     refine .assign (.no rfl) rfl rfl rfl rfl ?_
     exact .fin () (.of (.cons rfl .nil) .nil)
    intro _
    refine .ret ?_
    show _ ∧ _
    exact ⟨.inr rfl, .done ⟨_, [], [], _, .one rfl .nil, .cons (Reads.d _).gives .nil, nodupB_ok rfl, by simp, (by simp)⟩⟩
   ·have c2 := of_decide_eq_false c2
    have q2 := szStore_len (by omega) c2
    have q2a := q2.1
    refine .skip ?_
    refine .seq ?_
    refine .regD (X := Unit) (by kernel_rfl) (fun ζ => .of [(1, .one (.d (.sl false 69 3 (List.map Env.c69 (t))))), (3, .one (.ptr [3] (g9) 0)), (5, .one (.ptr [5] (g10) 0)), (8, .one (.d (.v (.bool (Table.hasIn d t s)))))] [([3], (g9, g9, .box [.d (.sl false 9 1 (List.map strc (d.vars))), .d (.sl false 9 1 (List.map strc (d.flags))), .d (.sl false 115 2 (List.map Arr.c (d.arrays)))])), ([5], (g10, g10, .box [.d (.sl false 2 1 (List.map i64c (s.ints))), .d (.sl false 4 1 (List.map boolc (s.flags))), .d (.sl false 27 1 (List.map slc27 (s.arrs)))]))]) [⟨[3], some 28, [[3]], []⟩, ⟨[28], some 29, [], [[29, 0], [29, 1], [29, 2]]⟩, ⟨[1], some 30, [], []⟩, ⟨[30], some 31, [], [[31, 0]]⟩, ⟨[5], some 32, [[5]], []⟩, ⟨[32], some 33, [], [[33, 0], [33, 1], [33, 2]]⟩, ⟨[29, 31, 33], some 34, [[29, 0], [29, 1], [29, 2], [31, 0], [33, 0], [33, 1], [33, 2]], []⟩, ⟨[34], some 8, [], []⟩] (by kernel_rfl) (fun k21 => ?_) ?_
    ·skip
     refine .load (.no rfl) rfl t25 rfl rfl (.ptr _ _ _ _ _ rfl) rfl rfl rfl rfl ?_
     refine .call (.no rfl) rfl [] [] (c_toDecl d (by first | assumption | omega | exact ⟨‹_›, ‹_›⟩ | (simp only [Decl.marks, Env.marks, Env.mark, mkAll_len]; omega))) rfl rfl rfl rfl rfl (.cons (Reads.d _).gives (.cons (Reads.d _).gives (.cons (Reads.d _).gives .nil))) rfl rfl (fun h => absurd rfl h) (.own [29, 0] (.own [29, 1] (.own [29, 2] .nil))) (.nil) rfl rfl rfl (by simp) rfl rfl rfl ?_
     refine .move (.no rfl) rfl rfl rfl rfl ?_
     refine .call (.no rfl) rfl [] [] (c_toEnvS t (by first | assumption | omega | exact ⟨‹_›, ‹_›⟩ | (simp only [Decl.marks, Env.marks, Env.mark, mkAll_len]; omega)) (by first | assumption | omega | exact ⟨‹_›, ‹_›⟩ | (simp only [Decl.marks, Env.marks, Env.mark, mkAll_len]; omega))) rfl rfl rfl rfl rfl (.cons (Reads.d _).gives .nil) rfl rfl (fun h => absurd rfl h) (.own [31, 0] .nil) (.nil) rfl rfl rfl (by simp) rfl rfl rfl ?_
     refine .load (.no rfl) rfl t31 rfl rfl (.ptr _ _ _ _ _ rfl) rfl rfl rfl rfl ?_
     refine .call (.no rfl) rfl [] [] (c_toStore s (by first | assumption | omega | exact ⟨‹_›, ‹_›⟩ | (simp only [Decl.marks, Env.marks, Env.mark, mkAll_len]; omega))) rfl rfl rfl rfl rfl (.cons (Reads.d _).gives (.cons (Reads.d _).gives (.cons (Reads.d _).gives .nil))) rfl rfl (fun h => absurd rfl h) (.own [33, 0] (.own [33, 1] (.own [33, 2] .nil))) (.nil) rfl rfl rfl (by simp) rfl rfl rfl ?_
     refine .call (.no rfl) rfl [[29, 0], [29, 1], [29, 2], [31, 0], [33, 0], [33, 1], [33, 2]] [([29, 0], (k21 + 1, k21 + 1, .row 9 1 (List.map strc (d.vars)))), ([29, 1], (k21 + 1, k21 + 1, .row 9 1 (List.map strc (d.flags)))), ([29, 2], (k21 + 1, k21 + 1, .row 119 2 (List.map Arr.c (d.arrays)))), ([31, 0], (k21 + 1 + 1 + 1, k21 + 1 + 1 + 1, .row 77 3 (List.map Env.co77 (t)))), ([33, 0], (k21 + 1 + 1 + 1 + 1 + 1, k21 + 1 + 1 + 1 + 1 + 1, .row 2 1 (List.map i64c (s.ints)))), ([33, 1], (k21 + 1 + 1 + 1 + 1 + 1, k21 + 1 + 1 + 1 + 1 + 1, .row 4 1 (List.map boolc (s.flags)))), ([33, 2], (k21 + 1 + 1 + 1 + 1 + 1, k21 + 1 + 1 + 1 + 1 + 1, .row 27 1 (List.map slco27 (s.arrs))))] (c_sTableHas d t s (by first | assumption | omega | exact ⟨‹_›, ‹_›⟩ | (simp only [Decl.marks, Env.marks, Env.mark, mkAll_len]; omega)) (by first | assumption | omega | exact ⟨‹_›, ‹_›⟩ | (simp only [Decl.marks, Env.marks, Env.mark, mkAll_len]; omega)) (by first | assumption | omega | exact ⟨‹_›, ‹_›⟩ | (simp only [Decl.marks, Env.marks, Env.mark, mkAll_len]; omega)) (by first | assumption | omega | exact ⟨‹_›, ‹_›⟩ | (simp only [Decl.marks, Env.marks, Env.mark, mkAll_len]; omega))) rfl rfl rfl rfl rfl (.cons (Reads.ref (Frz.of_erase (erase_slo _ _ _ _ _ _ strc_e)) (.head _) (.head _)).gives (.cons (Reads.ref (Frz.of_erase (erase_slo _ _ _ _ _ _ strc_e)) (.tail _ (.head _)) (.tail _ (.head _))).gives (.cons (Reads.ref (Frz.of_erase (erase_slo _ _ _ _ _ _ Arr.c_e)) (.tail _ (.tail _ (.head _))) (.tail _ (.tail _ (.head _)))).gives (.cons (Reads.ref (Frz.of_erase (erase_slo _ _ _ _ _ _ Env.co77_e)) (.tail _ (.tail _ (.tail _ (.head _)))) (.tail _ (.tail _ (.tail _ (.head _))))).gives (.cons (Reads.ref (Frz.of_erase (erase_slo _ _ _ _ _ _ i64c_e)) (.tail _ (.tail _ (.tail _ (.tail _ (.head _))))) (.tail _ (.tail _ (.tail _ (.tail _ (.head _)))))).gives (.cons (Reads.ref (Frz.of_erase (erase_slo _ _ _ _ _ _ boolc_e)) (.tail _ (.tail _ (.tail _ (.tail _ (.tail _ (.head _)))))) (.tail _ (.tail _ (.tail _ (.tail _ (.tail _ (.head _))))))).gives (.cons (Reads.ref (Frz.of_erase (erase_slo _ _ _ _ _ _ slco27_e)) (.tail _ (.tail _ (.tail _ (.tail _ (.tail _ (.tail _ (.head _))))))) (.tail _ (.tail _ (.tail _ (.tail _ (.tail _ (.tail _ (.head _)))))))).gives .nil))))))) rfl rfl (fun _ => (ownCons (Owned.v _) ownNil)) (.own [34, 0] .nil) (.nil) rfl rfl rfl (AllH.get (.cons rfl (.cons rfl (.cons rfl (.cons rfl (.cons rfl (.cons rfl (.cons rfl .nil)))))))) rfl rfl rfl ?_
     refine .assign (.no rfl) rfl rfl rfl rfl ?_
     exact .fin () (.of (.cons rfl (.cons rfl (.cons rfl (.cons rfl .nil)))) (.cons rfl (.cons rfl .nil)))
    intro _
    refine .seq ?_
    refine .reg (X := Nat × Nat × Nat) (fun ζ => .of [(1, .one (.d (.sl false 69 3 (List.map Env.c69 (t))))), (3, .one (.ptr [3] (g9) 0)), (5, .one (.ptr [5] (g10) 0)), (8, .one (.d (.v (.bool (Table.hasIn d t s))))), (9, .one (.ptr [9] (ζ.1) 0))] [([3], (g9, g9, .box [.d (.sl false 9 1 (List.map strc (d.vars))), .d (.sl false 9 1 (List.map strc (d.flags))), .d (.sl false 115 2 (List.map Arr.c (d.arrays)))])), ([5], (g10, g10, .box [.d (.sl false 2 1 (List.map i64c (s.ints))), .d (.sl false 4 1 (List.map boolc (s.flags))), .d (.sl false 27 1 (List.map slc27 (s.arrs)))])), ([9], (ζ.1, ζ.2.1, .box [.ref [36, 0] (ζ.2.2), .ref [36, 1] (ζ.2.2), .ref [36, 2] (ζ.2.2)])), ([36, 0], (ζ.2.2, ζ.2.2, .row 9 1 (List.map strc (d.vars)))), ([36, 1], (ζ.2.2, ζ.2.2, .row 9 1 (List.map strc (d.flags)))), ([36, 2], (ζ.2.2, ζ.2.2, .row 119 2 (List.map Arr.c (d.arrays))))]) [⟨[3], some 35, [[3]], []⟩, ⟨[35], some 36, [], [[36, 0], [36, 1], [36, 2]]⟩, ⟨[], some 9, [], [[9]]⟩, ⟨[9, 36], none, [[9]], [[9]]⟩] (fun k22 => ?_) ?_
    ·skip
     refine .load (.no rfl) rfl t25 rfl rfl (.ptr _ _ _ _ _ rfl) rfl rfl rfl rfl ?_
     refine .call (.no rfl) rfl [] [] (c_toDecl d (by first | assumption | omega | exact ⟨‹_›, ‹_›⟩ | (simp only [Decl.marks, Env.marks, Env.mark, mkAll_len]; omega))) rfl rfl rfl rfl rfl (.cons (Reads.d _).gives (.cons (Reads.d _).gives (.cons (Reads.d _).gives .nil))) rfl rfl (fun h => absurd rfl h) (.own [36, 0] (.own [36, 1] (.own [36, 2] .nil))) (.nil) rfl rfl rfl (by simp) rfl rfl rfl ?_
     refine .alloc (.no rfl) rfl z38 rfl rfl rfl ?_
     refine .store (.no rfl) rfl t38 rfl rfl rfl rfl rfl rfl rfl rfl rfl ?_
     exact .fin (k22 + 1 + 1, k22 + 1 + 1 + 1, k22 + 1) (.of (.cons rfl (.cons rfl (.cons rfl (.cons rfl (.cons rfl .nil))))) (.cons rfl (.cons rfl (.cons rfl (.cons rfl (.cons rfl (.cons rfl .nil)))))))
    rintro ⟨g23, g24, g25⟩
    refine .seq ?_
    refine .reg (X := Nat) (fun ζ => .of [(1, .one (.d (.sl false 69 3 (List.map Env.c69 (t))))), (3, .one (.ptr [3] (g9) 0)), (5, .one (.ptr [5] (g10) 0)), (8, .one (.d (.v (.bool (Table.hasIn d t s))))), (9, .one (.ptr [9] (g23) 0)), (10, .one (.ref [38, 0] (ζ)))] [([3], (g9, g9, .box [.d (.sl false 9 1 (List.map strc (d.vars))), .d (.sl false 9 1 (List.map strc (d.flags))), .d (.sl false 115 2 (List.map Arr.c (d.arrays)))])), ([5], (g10, g10, .box [.d (.sl false 2 1 (List.map i64c (s.ints))), .d (.sl false 4 1 (List.map boolc (s.flags))), .d (.sl false 27 1 (List.map slc27 (s.arrs)))])), ([9], (g23, g24, .box [.ref [36, 0] (g25), .ref [36, 1] (g25), .ref [36, 2] (g25)])), ([36, 0], (g25, g25, .row 9 1 (List.map strc (d.vars)))), ([36, 1], (g25, g25, .row 9 1 (List.map strc (d.flags)))), ([36, 2], (g25, g25, .row 119 2 (List.map Arr.c (d.arrays)))), ([38, 0], (ζ, ζ, .row 77 3 (List.map Env.co77 (t))))]) [⟨[1], some 37, [], []⟩, ⟨[37], some 38, [], [[38, 0]]⟩, ⟨[38], some 10, [], []⟩] (fun k26 => ?_) ?_
    ·skip
     refine .move (.no rfl) rfl rfl rfl rfl ?_
     refine .call (.no rfl) rfl [] [] (c_toEnvS t (by first | assumption | omega | exact ⟨‹_›, ‹_›⟩ | (simp only [Decl.marks, Env.marks, Env.mark, mkAll_len]; omega)) (by first | assumption | omega | exact ⟨‹_›, ‹_›⟩ | (simp only [Decl.marks, Env.marks, Env.mark, mkAll_len]; omega))) rfl rfl rfl rfl rfl (.cons (Reads.d _).gives .nil) rfl rfl (fun h => absurd rfl h) (.own [38, 0] .nil) (.nil) rfl rfl rfl (by simp) rfl rfl rfl ?_
     refine .assign (.no rfl) rfl rfl rfl rfl ?_
     exact .fin (k26 + 1) (.of (.cons rfl (.cons rfl (.cons rfl (.cons rfl (.cons rfl (.cons rfl .nil)))))) (.cons rfl (.cons rfl (.cons rfl (.cons rfl (.cons rfl (.cons rfl (.cons rfl .nil))))))))
    intro g27
    refine .seq ?_
    refine .reg (X := Nat × Nat × Nat) (fun ζ => .of [(1, .one (.d (.sl false 69 3 (List.map Env.c69 (t))))), (3, .one (.ptr [3] (g9) 0)), (5, .one (.ptr [5] (g10) 0)), (8, .one (.d (.v (.bool (Table.hasIn d t s))))), (9, .one (.ptr [9] (g23) 0)), (10, .one (.ref [38, 0] (g27))), (11, .one (.ptr [11] (ζ.1) 0))] [([3], (g9, g9, .box [.d (.sl false 9 1 (List.map strc (d.vars))), .d (.sl false 9 1 (List.map strc (d.flags))), .d (.sl false 115 2 (List.map Arr.c (d.arrays)))])), ([5], (g10, g10, .box [.d (.sl false 2 1 (List.map i64c (s.ints))), .d (.sl false 4 1 (List.map boolc (s.flags))), .d (.sl false 27 1 (List.map slc27 (s.arrs)))])), ([9], (g23, g24, .box [.ref [36, 0] (g25), .ref [36, 1] (g25), .ref [36, 2] (g25)])), ([11], (ζ.1, ζ.2.1, .box [.ref [40, 0] (ζ.2.2), .ref [40, 1] (ζ.2.2), .ref [40, 2] (ζ.2.2)])), ([36, 0], (g25, g25, .row 9 1 (List.map strc (d.vars)))), ([36, 1], (g25, g25, .row 9 1 (List.map strc (d.flags)))), ([36, 2], (g25, g25, .row 119 2 (List.map Arr.c (d.arrays)))), ([38, 0], (g27, g27, .row 77 3 (List.map Env.co77 (t)))), ([40, 0], (ζ.2.2, ζ.2.2, .row 2 1 (List.map i64c (s.ints)))), ([40, 1], (ζ.2.2, ζ.2.2, .row 4 1 (List.map boolc (s.flags)))), ([40, 2], (ζ.2.2, ζ.2.2, .row 27 1 (List.map slco27 (s.arrs))))]) [⟨[5], some 39, [[5]], []⟩, ⟨[39], some 40, [], [[40, 0], [40, 1], [40, 2]]⟩, ⟨[], some 11, [], [[11]]⟩, ⟨[11, 40], none, [[11]], [[11]]⟩] (fun k28 => ?_) ?_
    ·skip
     refine .load (.no rfl) rfl t31 rfl rfl (.ptr _ _ _ _ _ rfl) rfl rfl rfl rfl ?_
     refine .call (.no rfl) rfl [] [] (c_toStore s (by first | assumption | omega | exact ⟨‹_›, ‹_›⟩ | (simp only [Decl.marks, Env.marks, Env.mark, mkAll_len]; omega))) rfl rfl rfl rfl rfl (.cons (Reads.d _).gives (.cons (Reads.d _).gives (.cons (Reads.d _).gives .nil))) rfl rfl (fun h => absurd rfl h) (.own [40, 0] (.own [40, 1] (.own [40, 2] .nil))) (.nil) rfl rfl rfl (by simp) rfl rfl rfl ?_
     refine .alloc (.no rfl) rfl z42 rfl rfl rfl ?_
     refine .store (.no rfl) rfl t42 rfl rfl rfl rfl rfl rfl rfl rfl rfl ?_
     exact .fin (k28 + 1 + 1, k28 + 1 + 1 + 1, k28 + 1) (.of (.cons rfl (.cons rfl (.cons rfl (.cons rfl (.cons rfl (.cons rfl (.cons rfl .nil))))))) (.cons rfl (.cons rfl (.cons rfl (.cons rfl (.cons rfl (.cons rfl (.cons rfl (.cons rfl (.cons rfl (.cons rfl (.cons rfl .nil))))))))))))
    rintro ⟨g29, g30, g31⟩
    refine .seq ?_
    refine .reg (X := Unit) (fun ζ => .of [(1, .one (.d (.sl false 69 3 (List.map Env.c69 (t))))), (3, .one (.ptr [3] (g9) 0)), (5, .one (.ptr [5] (g10) 0)), (8, .one (.d (.v (.bool (Table.hasIn d t s))))), (9, .one (.ptr [9] (g23) 0)), (10, .one (.ref [38, 0] (g27))), (11, .one (.ptr [11] (g29) 0)), (12, .one (.d (.v (.bool (Table.hasIn d t s)))))] [([3], (g9, g9, .box [.d (.sl false 9 1 (List.map strc (d.vars))), .d (.sl false 9 1 (List.map strc (d.flags))), .d (.sl false 115 2 (List.map Arr.c (d.arrays)))])), ([5], (g10, g10, .box [.d (.sl false 2 1 (List.map i64c (s.ints))), .d (.sl false 4 1 (List.map boolc (s.flags))), .d (.sl false 27 1 (List.map slc27 (s.arrs)))])), ([9], (g23, g24, .box [.ref [36, 0] (g25), .ref [36, 1] (g25), .ref [36, 2] (g25)])), ([11], (g29, g30, .box [.ref [40, 0] (g31), .ref [40, 1] (g31), .ref [40, 2] (g31)])), ([36, 0], (g25, g25, .row 9 1 (List.map strc (d.vars)))), ([36, 1], (g25, g25, .row 9 1 (List.map strc (d.flags)))), ([36, 2], (g25, g25, .row 119 2 (List.map Arr.c (d.arrays)))), ([38, 0], (g27, g27, .row 77 3 (List.map Env.co77 (t)))), ([40, 0], (g31, g31, .row 2 1 (List.map i64c (s.ints)))), ([40, 1], (g31, g31, .row 4 1 (List.map boolc (s.flags)))), ([40, 2], (g31, g31, .row 27 1 (List.map slco27 (s.arrs))))]) [⟨[9], some 41, [[9]], []⟩, ⟨[10], some 42, [], []⟩, ⟨[11], some 43, [[11]], []⟩, ⟨[41, 42, 43], some 44, [[36, 0], [36, 1], [36, 2], [38, 0], [40, 0], [40, 1], [40, 2]], []⟩, ⟨[44], some 12, [], []⟩] (fun k32 => ?_) ?_
    ·skip
     refine .load (.no rfl) rfl t38 rfl rfl (.ptr _ _ _ _ _ rfl) rfl rfl rfl rfl ?_
     refine .move (.no rfl) rfl rfl rfl rfl ?_
     refine .load (.no rfl) rfl t42 rfl rfl (.ptr _ _ _ _ _ rfl) rfl rfl rfl rfl ?_
     refine .call (.no rfl) rfl [[36, 0], [36, 1], [36, 2], [38, 0], [40, 0], [40, 1], [40, 2]] [([36, 0], (g25, g25, .row 9 1 (List.map strc (d.vars)))), ([36, 1], (g25, g25, .row 9 1 (List.map strc (d.flags)))), ([36, 2], (g25, g25, .row 119 2 (List.map Arr.c (d.arrays)))), ([38, 0], (g27, g27, .row 77 3 (List.map Env.co77 (t)))), ([40, 0], (g31, g31, .row 2 1 (List.map i64c (s.ints)))), ([40, 1], (g31, g31, .row 4 1 (List.map boolc (s.flags)))), ([40, 2], (g31, g31, .row 27 1 (List.map slco27 (s.arrs))))] (c_TableHas d t s (by first | assumption | omega | exact ⟨‹_›, ‹_›⟩ | (simp only [Decl.marks, Env.marks, Env.mark, mkAll_len]; omega)) (by first | assumption | omega | exact ⟨‹_›, ‹_›⟩ | (simp only [Decl.marks, Env.marks, Env.mark, mkAll_len]; omega)) (by first | assumption | omega | exact ⟨‹_›, ‹_›⟩ | (simp only [Decl.marks, Env.marks, Env.mark, mkAll_len]; omega)) (by first | assumption | omega | exact ⟨‹_›, ‹_›⟩ | (simp only [Decl.marks, Env.marks, Env.mark, mkAll_len]; omega))) rfl rfl rfl rfl rfl (.cons (Reads.ref (Frz.of_erase (erase_slo _ _ _ _ _ _ strc_e)) (.head _) (.head _)).gives (.cons (Reads.ref (Frz.of_erase (erase_slo _ _ _ _ _ _ strc_e)) (.tail _ (.head _)) (.tail _ (.head _))).gives (.cons (Reads.ref (Frz.of_erase (erase_slo _ _ _ _ _ _ Arr.c_e)) (.tail _ (.tail _ (.head _))) (.tail _ (.tail _ (.head _)))).gives (.cons (Reads.ref (Frz.of_erase (erase_slo _ _ _ _ _ _ Env.co77_e)) (.tail _ (.tail _ (.tail _ (.head _)))) (.tail _ (.tail _ (.tail _ (.head _))))).gives (.cons (Reads.ref (Frz.of_erase (erase_slo _ _ _ _ _ _ i64c_e)) (.tail _ (.tail _ (.tail _ (.tail _ (.head _))))) (.tail _ (.tail _ (.tail _ (.tail _ (.head _)))))).gives (.cons (Reads.ref (Frz.of_erase (erase_slo _ _ _ _ _ _ boolc_e)) (.tail _ (.tail _ (.tail _ (.tail _ (.tail _ (.head _)))))) (.tail _ (.tail _ (.tail _ (.tail _ (.tail _ (.head _))))))).gives (.cons (Reads.ref (Frz.of_erase (erase_slo _ _ _ _ _ _ slco27_e)) (.tail _ (.tail _ (.tail _ (.tail _ (.tail _ (.tail _ (.head _))))))) (.tail _ (.tail _ (.tail _ (.tail _ (.tail _ (.tail _ (.head _)))))))).gives .nil))))))) rfl rfl (fun _ => (ownCons (Owned.v _) ownNil)) (.own [44, 0] .nil) (.nil) rfl rfl rfl (AllH.get (.cons rfl (.cons rfl (.cons rfl (.cons rfl (.cons rfl (.cons rfl (.cons rfl .nil)))))))) rfl rfl rfl ?_
     refine .assign (.no rfl) rfl rfl rfl rfl ?_
     exact .fin () (.of (.cons rfl (.cons rfl (.cons rfl (.cons rfl (.cons rfl (.cons rfl (.cons rfl (.cons rfl .nil)))))))) (.cons rfl (.cons rfl (.cons rfl (.cons rfl (.cons rfl (.cons rfl (.cons rfl (.cons rfl (.cons rfl (.cons rfl (.cons rfl .nil))))))))))))
    intro _
    refine .seq ?_
    refine .seq ?_
    refine .reg (X := Unit) (fun ζ => .of [(1, .one (.d (.sl false 69 3 (List.map Env.c69 (t))))), (3, .one (.ptr [3] (g9) 0)), (5, .one (.ptr [5] (g10) 0)), (9, .one (.ptr [9] (g23) 0)), (10, .one (.ref [38, 0] (g27))), (11, .one (.ptr [11] (g29) 0)), (47, .one (.d (.v (.bool ((Table.hasIn d t s) != (Table.hasIn d t s))))))] [([3], (g9, g9, .box [.d (.sl false 9 1 (List.map strc (d.vars))), .d (.sl false 9 1 (List.map strc (d.flags))), .d (.sl false 115 2 (List.map Arr.c (d.arrays)))])), ([5], (g10, g10, .box [.d (.sl false 2 1 (List.map i64c (s.ints))), .d (.sl false 4 1 (List.map boolc (s.flags))), .d (.sl false 27 1 (List.map slc27 (s.arrs)))])), ([9], (g23, g24, .box [.ref [36, 0] (g25), .ref [36, 1] (g25), .ref [36, 2] (g25)])), ([11], (g29, g30, .box [.ref [40, 0] (g31), .ref [40, 1] (g31), .ref [40, 2] (g31)])), ([36, 0], (g25, g25, .row 9 1 (List.map strc (d.vars)))), ([36, 1], (g25, g25, .row 9 1 (List.map strc (d.flags)))), ([36, 2], (g25, g25, .row 119 2 (List.map Arr.c (d.arrays)))), ([38, 0], (g27, g27, .row 77 3 (List.map Env.co77 (t)))), ([40, 0], (g31, g31, .row 2 1 (List.map i64c (s.ints)))), ([40, 1], (g31, g31, .row 4 1 (List.map boolc (s.flags)))), ([40, 2], (g31, g31, .row 27 1 (List.map slco27 (s.arrs))))]) [⟨[12], some 45, [], []⟩, ⟨[8], some 46, [], []⟩, ⟨[45, 46], some 47, [], []⟩] (fun k33 => ?_) ?_
    ·skip
     refine .move (.no rfl) rfl rfl rfl rfl ?_
     refine .move (.no rfl) rfl rfl rfl rfl ?_
     refine .neB (.no rfl) rfl t4 rfl rfl rfl rfl rfl ?_
     exact .fin () (.of (.cons rfl (.cons rfl (.cons rfl (.cons rfl (.cons rfl (.cons rfl (.cons rfl .nil))))))) (.cons rfl (.cons rfl (.cons rfl (.cons rfl (.cons rfl (.cons rfl (.cons rfl (.cons rfl (.cons rfl (.cons rfl (.cons rfl .nil))))))))))))
    intro _
    refine .cond (t := (Table.hasIn d t s) != (Table.hasIn d t s)) rfl (fun c3 => ?_) (fun c3 => ?_)
    ·have c3 := (by simpa using c3 : ¬ ((Table.hasIn d t s) = (Table.hasIn d t s)))
     refine .seq ?_
     refine .reg (X := Unit) (fun ζ => .of [(6, .one (.d (.v (.bool (false)))))] []) [⟨[], some 6, [], []⟩] (fun k34 => ?_) ?_
     ·skip
      refine .assign (.no rfl) rfl rfl rfl rfl ?_
      exact .fin () (.of (.cons rfl .nil) .nil)
     intro _
     refine .ret ?_
     have e35 : (false) = (true) := by first | exact absurd c3 (by rw [Env.same_self]; decide) | exact absurd c3 (by rw [all2_self intEq_self]; decide) | exact absurd c3 (by rw [Decl.same_self]; decide) | exact absurd c3 (by rw [all2_self Env.same_self]; decide) | exact absurd c3 (by rw [Store.same_self]; decide) | (simp at c3)
     have hc36 := eq1 (fun z1 => SV.one (.d (.v (.bool (z1))))) e35
     show _ ∧ _
     exact ⟨.inr rfl, .done ⟨_, [], [], _, .one (c := .d (.v (.bool (true)))) (hc36) .nil, .cons (Reads.d _).gives .nil, nodupB_ok rfl, by simp, (by simp)⟩⟩
    ·have c3 := (by simpa using c3 : (Table.hasIn d t s) = (Table.hasIn d t s))
     refine .skip ?_
     refine .seq ?_
     refine .seq ?_
     refine .regD (X := Unit) (by kernel_rfl) (fun ζ => .of [(1, .one (.d (.sl false 69 3 (List.map Env.c69 (t))))), (5, .one (.ptr [5] (g10) 0)), (10, .one (.ref [38, 0] (g27))), (11, .one (.ptr [11] (g29) 0)), (52, .one (.d (.v (.bool (!(Decl.same d d))))))] [([5], (g10, g10, .box [.d (.sl false 2 1 (List.map i64c (s.ints))), .d (.sl false 4 1 (List.map boolc (s.flags))), .d (.sl false 27 1 (List.map slc27 (s.arrs)))])), ([11], (g29, g30, .box [.ref [40, 0] (g31), .ref [40, 1] (g31), .ref [40, 2] (g31)])), ([38, 0], (g27, g27, .row 77 3 (List.map Env.co77 (t)))), ([40, 0], (g31, g31, .row 2 1 (List.map i64c (s.ints)))), ([40, 1], (g31, g31, .row 4 1 (List.map boolc (s.flags)))), ([40, 2], (g31, g31, .row 27 1 (List.map slco27 (s.arrs))))]) [⟨[9], some 48, [[9]], []⟩, ⟨[3], some 49, [[3]], []⟩, ⟨[49], some 50, [], [[50, 0], [50, 1], [50, 2]]⟩, ⟨[48, 50], some 51, [[36, 0], [36, 1], [36, 2], [50, 0], [50, 1], [50, 2]], []⟩, ⟨[51], some 52, [], []⟩] (by kernel_rfl) (fun k37 => ?_) ?_
     ·skip
      refine .load (.no rfl) rfl t38 rfl rfl (.ptr _ _ _ _ _ rfl) rfl rfl rfl rfl ?_
      refine .load (.no rfl) rfl t25 rfl rfl (.ptr _ _ _ _ _ rfl) rfl rfl rfl rfl ?_
      refine .call (.no rfl) rfl [] [] (c_toDecl d (by first | assumption | omega | exact ⟨‹_›, ‹_›⟩ | (simp only [Decl.marks, Env.marks, Env.mark, mkAll_len]; omega))) rfl rfl rfl rfl rfl (.cons (Reads.d _).gives (.cons (Reads.d _).gives (.cons (Reads.d _).gives .nil))) rfl rfl (fun h => absurd rfl h) (.own [50, 0] (.own [50, 1] (.own [50, 2] .nil))) (.nil) rfl rfl rfl (by simp) rfl rfl rfl ?_
      refine .call (.no rfl) rfl [[36, 0], [36, 1], [36, 2], [50, 0], [50, 1], [50, 2]] [([36, 0], (g25, g25, .row 9 1 (List.map strc (d.vars)))), ([36, 1], (g25, g25, .row 9 1 (List.map strc (d.flags)))), ([36, 2], (g25, g25, .row 119 2 (List.map Arr.c (d.arrays)))), ([50, 0], (k37 + 1 + 1, k37 + 1 + 1, .row 9 1 (List.map strc (d.vars)))), ([50, 1], (k37 + 1 + 1, k37 + 1 + 1, .row 9 1 (List.map strc (d.flags)))), ([50, 2], (k37 + 1 + 1, k37 + 1 + 1, .row 119 2 (List.map Arr.c (d.arrays))))] (c_eqDecl d d) rfl rfl rfl rfl rfl (.cons (Reads.ref (Frz.of_erase (erase_slo _ _ _ _ _ _ strc_e)) (.head _) (.head _)).gives (.cons (Reads.ref (Frz.of_erase (erase_slo _ _ _ _ _ _ strc_e)) (.tail _ (.head _)) (.tail _ (.head _))).gives (.cons (Reads.ref (Frz.of_erase (erase_slo _ _ _ _ _ _ Arr.c_e)) (.tail _ (.tail _ (.head _))) (.tail _ (.tail _ (.head _)))).gives (.cons (Reads.ref (Frz.of_erase (erase_slo _ _ _ _ _ _ strc_e)) (.tail _ (.tail _ (.tail _ (.head _)))) (.tail _ (.tail _ (.tail _ (.head _))))).gives (.cons (Reads.ref (Frz.of_erase (erase_slo _ _ _ _ _ _ strc_e)) (.tail _ (.tail _ (.tail _ (.tail _ (.head _))))) (.tail _ (.tail _ (.tail _ (.tail _ (.head _)))))).gives (.cons (Reads.ref (Frz.of_erase (erase_slo _ _ _ _ _ _ Arr.c_e)) (.tail _ (.tail _ (.tail _ (.tail _ (.tail _ (.head _)))))) (.tail _ (.tail _ (.tail _ (.tail _ (.tail _ (.head _))))))).gives .nil)))))) rfl rfl (fun _ => (ownCons (Owned.v _) ownNil)) (.own [51, 0] .nil) (.nil) rfl rfl rfl (AllH.get (.cons rfl (.cons rfl (.cons rfl (.cons rfl (.cons rfl (.cons rfl .nil))))))) rfl rfl rfl ?_
      refine .un (.no rfl) rfl rfl rfl rfl rfl ?_
      exact .fin () (.of (.cons rfl (.cons rfl (.cons rfl (.cons rfl (.cons rfl .nil))))) (.cons rfl (.cons rfl (.cons rfl (.cons rfl (.cons rfl (.cons rfl .nil)))))))
     intro _
     refine .cond (t := !(Decl.same d d)) rfl (fun c4 => ?_) (fun c4 => ?_)
     ·have c4 := c4
      try simp only [Bool.or_eq_true, Bool.or_eq_false_iff, Bool.and_eq_true, Bool.and_eq_false_iff, decide_eq_true_eq, decide_eq_false_iff_not, Bool.not_eq_true', Bool.not_eq_false', bne_iff_ne, beq_iff_eq, bne_eq_false_iff_eq, beq_eq_false_iff_ne, ne_eq, Bool.not_eq_eq_eq_not, Bool.not_true, Bool.not_false] at c4
      refine .seq ?_
      refine .reg (X := Unit) (fun ζ => .of [(6, .one (.d (.v (.bool (false)))))] []) [⟨[], some 6, [], []⟩] (fun k38 => ?_) ?_
      ·skip
       refine .assign (.no rfl) rfl rfl rfl rfl ?_
       exact .fin () (.of (.cons rfl .nil) .nil)
      intro _
      refine .ret ?_
      have e39 : (false) = (true) := by first | exact absurd c4 (by rw [Env.same_self]; decide) | exact absurd c4 (by rw [all2_self intEq_self]; decide) | exact absurd c4 (by rw [Decl.same_self]; decide) | exact absurd c4 (by rw [all2_self Env.same_self]; decide) | exact absurd c4 (by rw [Store.same_self]; decide) | (simp at c4)
      have hc40 := eq1 (fun z1 => SV.one (.d (.v (.bool (z1))))) e39
      show _ ∧ _
      exact ⟨.inr rfl, .done ⟨_, [], [], _, .one (c := .d (.v (.bool (true)))) (hc40) .nil, .cons (Reads.d _).gives .nil, nodupB_ok rfl, by simp, (by simp)⟩⟩
     ·have c4 := c4
      try simp only [Bool.or_eq_true, Bool.or_eq_false_iff, Bool.and_eq_true, Bool.and_eq_false_iff, decide_eq_true_eq, decide_eq_false_iff_not, Bool.not_eq_true', Bool.not_eq_false', bne_iff_ne, beq_iff_eq, bne_eq_false_iff_eq, beq_eq_false_iff_ne, ne_eq, Bool.not_eq_eq_eq_not, Bool.not_true, Bool.not_false] at c4
      refine .skip ?_
      refine .seq ?_
      refine .seq ?_
      refine .reg (X := Unit) (fun ζ => .of [(5, .one (.ptr [5] (g10) 0)), (11, .one (.ptr [11] (g29) 0)), (57, .one (.d (.v (.bool (!(all2 Env.same t t))))))] [([5], (g10, g10, .box [.d (.sl false 2 1 (List.map i64c (s.ints))), .d (.sl false 4 1 (List.map boolc (s.flags))), .d (.sl false 27 1 (List.map slc27 (s.arrs)))])), ([11], (g29, g30, .box [.ref [40, 0] (g31), .ref [40, 1] (g31), .ref [40, 2] (g31)])), ([40, 0], (g31, g31, .row 2 1 (List.map i64c (s.ints)))), ([40, 1], (g31, g31, .row 4 1 (List.map boolc (s.flags)))), ([40, 2], (g31, g31, .row 27 1 (List.map slco27 (s.arrs))))]) [⟨[10], some 53, [], []⟩, ⟨[1], some 54, [], []⟩, ⟨[54], some 55, [], [[55, 0]]⟩, ⟨[53, 55], some 56, [[38, 0], [55, 0]], []⟩, ⟨[56], some 57, [], []⟩] (fun k41 => ?_) ?_
      ·skip
       refine .move (.no rfl) rfl rfl rfl rfl ?_
       refine .move (.no rfl) rfl rfl rfl rfl ?_
       refine .call (.no rfl) rfl [] [] (c_toEnvS t (by first | assumption | omega | exact ⟨‹_›, ‹_›⟩ | (simp only [Decl.marks, Env.marks, Env.mark, mkAll_len]; omega)) (by first | assumption | omega | exact ⟨‹_›, ‹_›⟩ | (simp only [Decl.marks, Env.marks, Env.mark, mkAll_len]; omega))) rfl rfl rfl rfl rfl (.cons (Reads.d _).gives .nil) rfl rfl (fun h => absurd rfl h) (.own [55, 0] .nil) (.nil) rfl rfl rfl (by simp) rfl rfl rfl ?_
       refine .call (.no rfl) rfl [[38, 0], [55, 0]] [([38, 0], (g27, g27, .row 77 3 (List.map Env.co77 (t)))), ([55, 0], (k41 + 1 + 1, k41 + 1 + 1, .row 77 3 (List.map Env.co77 (t))))] (c_eqEnvS t t) rfl rfl rfl rfl rfl (.cons (Reads.ref (Frz.of_erase (erase_slo _ _ _ _ _ _ Env.co77_e)) (.head _) (.head _)).gives (.cons (Reads.ref (Frz.of_erase (erase_slo _ _ _ _ _ _ Env.co77_e)) (.tail _ (.head _)) (.tail _ (.head _))).gives .nil)) rfl rfl (fun _ => (ownCons (Owned.v _) ownNil)) (.own [56, 0] .nil) (.nil) rfl rfl rfl (AllH.get (.cons rfl (.cons rfl .nil))) rfl rfl rfl ?_
       refine .un (.no rfl) rfl rfl rfl rfl rfl ?_
       exact .fin () (.of (.cons rfl (.cons rfl (.cons rfl .nil))) (.cons rfl (.cons rfl (.cons rfl (.cons rfl (.cons rfl .nil))))))
      intro _
      refine .cond (t := !(all2 Env.same t t)) rfl (fun c5 => ?_) (fun c5 => ?_)
      ·have c5 := c5
       try simp only [Bool.or_eq_true, Bool.or_eq_false_iff, Bool.and_eq_true, Bool.and_eq_false_iff, decide_eq_true_eq, decide_eq_false_iff_not, Bool.not_eq_true', Bool.not_eq_false', bne_iff_ne, beq_iff_eq, bne_eq_false_iff_eq, beq_eq_false_iff_ne, ne_eq, Bool.not_eq_eq_eq_not, Bool.not_true, Bool.not_false] at c5
       refine .seq ?_
       refine .reg (X := Unit) (fun ζ => .of [(6, .one (.d (.v (.bool (false)))))] []) [⟨[], some 6, [], []⟩] (fun k42 => ?_) ?_
       ·skip
        refine .assign (.no rfl) rfl rfl rfl rfl ?_
        exact .fin () (.of (.cons rfl .nil) .nil)
       intro _
       refine .ret ?_
       have e43 : (false) = (true) := by first | exact absurd c5 (by rw [Env.same_self]; decide) | exact absurd c5 (by rw [all2_self intEq_self]; decide) | exact absurd c5 (by rw [Decl.same_self]; decide) | exact absurd c5 (by rw [all2_self Env.same_self]; decide) | exact absurd c5 (by rw [Store.same_self]; decide) | (simp at c5)
       have hc44 := eq1 (fun z1 => SV.one (.d (.v (.bool (z1))))) e43
       show _ ∧ _
       exact ⟨.inr rfl, .done ⟨_, [], [], _, .one (c := .d (.v (.bool (true)))) (hc44) .nil, .cons (Reads.d _).gives .nil, nodupB_ok rfl, by simp, (by simp)⟩⟩
      ·have c5 := c5
       try simp only [Bool.or_eq_true, Bool.or_eq_false_iff, Bool.and_eq_true, Bool.and_eq_false_iff, decide_eq_true_eq, decide_eq_false_iff_not, Bool.not_eq_true', Bool.not_eq_false', bne_iff_ne, beq_iff_eq, bne_eq_false_iff_eq, beq_eq_false_iff_ne, ne_eq, Bool.not_eq_eq_eq_not, Bool.not_true, Bool.not_false] at c5
       refine .skip ?_
       refine .seq ?_
       refine .seq ?_
       refine .regD (X := Unit) (by kernel_rfl) (fun ζ => .of [(62, .one (.d (.v (.bool (!(Store.same s s))))))] []) [⟨[11], some 58, [[11]], []⟩, ⟨[5], some 59, [[5]], []⟩, ⟨[59], some 60, [], [[60, 0], [60, 1], [60, 2]]⟩, ⟨[58, 60], some 61, [[40, 0], [40, 1], [40, 2], [60, 0], [60, 1], [60, 2]], []⟩, ⟨[61], some 62, [], []⟩] (by kernel_rfl) (fun k45 => ?_) ?_
       ·skip
        refine .load (.no rfl) rfl t42 rfl rfl (.ptr _ _ _ _ _ rfl) rfl rfl rfl rfl ?_
        refine .load (.no rfl) rfl t31 rfl rfl (.ptr _ _ _ _ _ rfl) rfl rfl rfl rfl ?_
        refine .call (.no rfl) rfl [] [] (c_toStore s (by first | assumption | omega | exact ⟨‹_›, ‹_›⟩ | (simp only [Decl.marks, Env.marks, Env.mark, mkAll_len]; omega))) rfl rfl rfl rfl rfl (.cons (Reads.d _).gives (.cons (Reads.d _).gives (.cons (Reads.d _).gives .nil))) rfl rfl (fun h => absurd rfl h) (.own [60, 0] (.own [60, 1] (.own [60, 2] .nil))) (.nil) rfl rfl rfl (by simp) rfl rfl rfl ?_
        refine .call (.no rfl) rfl [[40, 0], [40, 1], [40, 2], [60, 0], [60, 1], [60, 2]] [([40, 0], (g31, g31, .row 2 1 (List.map i64c (s.ints)))), ([40, 1], (g31, g31, .row 4 1 (List.map boolc (s.flags)))), ([40, 2], (g31, g31, .row 27 1 (List.map slco27 (s.arrs)))), ([60, 0], (k45 + 1 + 1, k45 + 1 + 1, .row 2 1 (List.map i64c (s.ints)))), ([60, 1], (k45 + 1 + 1, k45 + 1 + 1, .row 4 1 (List.map boolc (s.flags)))), ([60, 2], (k45 + 1 + 1, k45 + 1 + 1, .row 27 1 (List.map slco27 (s.arrs))))] (c_eqStore s s) rfl rfl rfl rfl rfl (.cons (Reads.ref (Frz.of_erase (erase_slo _ _ _ _ _ _ i64c_e)) (.head _) (.head _)).gives (.cons (Reads.ref (Frz.of_erase (erase_slo _ _ _ _ _ _ boolc_e)) (.tail _ (.head _)) (.tail _ (.head _))).gives (.cons (Reads.ref (Frz.of_erase (erase_slo _ _ _ _ _ _ slco27_e)) (.tail _ (.tail _ (.head _))) (.tail _ (.tail _ (.head _)))).gives (.cons (Reads.ref (Frz.of_erase (erase_slo _ _ _ _ _ _ i64c_e)) (.tail _ (.tail _ (.tail _ (.head _)))) (.tail _ (.tail _ (.tail _ (.head _))))).gives (.cons (Reads.ref (Frz.of_erase (erase_slo _ _ _ _ _ _ boolc_e)) (.tail _ (.tail _ (.tail _ (.tail _ (.head _))))) (.tail _ (.tail _ (.tail _ (.tail _ (.head _)))))).gives (.cons (Reads.ref (Frz.of_erase (erase_slo _ _ _ _ _ _ slco27_e)) (.tail _ (.tail _ (.tail _ (.tail _ (.tail _ (.head _)))))) (.tail _ (.tail _ (.tail _ (.tail _ (.tail _ (.head _))))))).gives .nil)))))) rfl rfl (fun _ => (ownCons (Owned.v _) ownNil)) (.own [61, 0] .nil) (.nil) rfl rfl rfl (AllH.get (.cons rfl (.cons rfl (.cons rfl (.cons rfl (.cons rfl (.cons rfl .nil))))))) rfl rfl rfl ?_
        refine .un (.no rfl) rfl rfl rfl rfl rfl ?_
        exact .fin () (.of (.cons rfl .nil) .nil)
       intro _
       refine .cond (t := !(Store.same s s)) rfl (fun c6 => ?_) (fun c6 => ?_)
       ·have c6 := c6
        try simp only [Bool.or_eq_true, Bool.or_eq_false_iff, Bool.and_eq_true, Bool.and_eq_false_iff, decide_eq_true_eq, decide_eq_false_iff_not, Bool.not_eq_true', Bool.not_eq_false', bne_iff_ne, beq_iff_eq, bne_eq_false_iff_eq, beq_eq_false_iff_ne, ne_eq, Bool.not_eq_eq_eq_not, Bool.not_true, Bool.not_false] at c6
        refine .seq ?_
        refine .reg (X := Unit) (fun ζ => .of [(6, .one (.d (.v (.bool (false)))))] []) [⟨[], some 6, [], []⟩] (fun k46 => ?_) ?_
        ·skip
         refine .assign (.no rfl) rfl rfl rfl rfl ?_
         exact .fin () (.of (.cons rfl .nil) .nil)
        intro _
        refine .ret ?_
        have e47 : (false) = (true) := by first | exact absurd c6 (by rw [Env.same_self]; decide) | exact absurd c6 (by rw [all2_self intEq_self]; decide) | exact absurd c6 (by rw [Decl.same_self]; decide) | exact absurd c6 (by rw [all2_self Env.same_self]; decide) | exact absurd c6 (by rw [Store.same_self]; decide) | (simp at c6)
        have hc48 := eq1 (fun z1 => SV.one (.d (.v (.bool (z1))))) e47
        show _ ∧ _
        exact ⟨.inr rfl, .done ⟨_, [], [], _, .one (c := .d (.v (.bool (true)))) (hc48) .nil, .cons (Reads.d _).gives .nil, nodupB_ok rfl, by simp, (by simp)⟩⟩
       ·have c6 := c6
        try simp only [Bool.or_eq_true, Bool.or_eq_false_iff, Bool.and_eq_true, Bool.and_eq_false_iff, decide_eq_true_eq, decide_eq_false_iff_not, Bool.not_eq_true', Bool.not_eq_false', bne_iff_ne, beq_iff_eq, bne_eq_false_iff_eq, beq_eq_false_iff_ne, ne_eq, Bool.not_eq_eq_eq_not, Bool.not_true, Bool.not_false] at c6
        refine .skip ?_
        refine .seq ?_
        refine .reg (X := Unit) (fun ζ => .of [(6, .one (.d (.v (.bool (true)))))] []) [⟨[], some 6, [], []⟩] (fun k49 => ?_) ?_
        ·skip
         refine .assign (.no rfl) rfl rfl rfl rfl ?_
         exact .fin () (.of (.cons rfl .nil) .nil)
        intro _
        refine .ret ?_
        show _ ∧ _
        exact ⟨.inr rfl, .done ⟨_, [], [], _, .one rfl .nil, .cons (Reads.d _).gives .nil, nodupB_ok rfl, by simp, (by simp)⟩⟩
end Go.Proofs

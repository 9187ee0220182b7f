/- Contracts of the program's functions at this seat, printed by a program of ours and checked by Lean: each under the conditions of its own statement. -/
import Derived.Test.YtimohcldmffcoaaGreatDoorF1
set_option linter.all false
set_option linter.unnecessarySimpa false
set_option linter.unusedSectionVars false
set_option linter.unusedSimpArgs false
set_option linter.unusedVariables false
namespace Go.Proofs
open Go Go.Proofs Go.Ev

theorem c_sEnvOk (d : Decl) (e : Env) (hs : ∀ x ∈ Decl.names d, x.size ≤ 9223372036854775807) (hb : d.vars.length ≤ 1048576 ∧ d.flags.length ≤ 1048576 ∧ d.arrays.length ≤ 1048576) (he : e.ints.length ≤ 1048576 ∧ e.arrs.length ≤ 1048576) : Trip Tryz.prog 80 [(true, 3), (true, 3)] (Decl.c38 d ++ Env.c77 e) [(false, 1)] [.v (.bool (Decl.ok d && Env.okIn d e))] [] := by
 refine Trip.of Tryz.func80 (by decide) (c := _) rfl rfl (shB_ok rfl) (Nat.le_of_ble_eq_true rfl) rfl (AftOk.nil _) ?_
 refine .satA (t := 0) (i := 0) rfl rfl (fun hs1 => ?_)
 have hs1l : d.vars.length ≤ 9223372036854775807 := hs1.maplen
 refine .satA (t := 0) (i := 1) rfl rfl (fun hs2 => ?_)
 have hs2l : d.flags.length ≤ 9223372036854775807 := hs2.maplen
 refine .satA (t := 0) (i := 2) rfl rfl (fun hs3 => ?_)
 have hs3l : d.arrays.length ≤ 9223372036854775807 := hs3.maplen
 refine .satA (t := 1) (i := 1) rfl rfl (fun hs4 => ?_)
 have hs4l : e.ints.length ≤ 9223372036854775807 := hs4.maplen
 refine .satA (t := 1) (i := 2) rfl rfl (fun hs5 => ?_)
 have hs5l : e.arrs.length ≤ 9223372036854775807 := hs5.maplen
 refine .seq ?_
 refine .reg (X := Nat × Nat) (fun ζ => .of [(2, .one (.ptr [2] (ζ.1) 0)), (3, .one (.ptr [3] (ζ.2) 0))] [([2], (ζ.1, ζ.1, .box [.d (.sl false 9 1 (List.map strc (d.vars))), .d (.sl false 9 1 (List.map strc (d.flags))), .d (.sl false 119 2 (List.map Arr.c (d.arrays)))])), ([3], (ζ.2, ζ.2, .box [.d (.v (.bool (e.live))), .d (.sl false 122 2 (List.map Iv.c (e.ints))), .d (.sl false 122 2 (List.map Iv.c (e.arrs)))]))]) [⟨[0], some 2, [], [[2]]⟩, ⟨[1], some 3, [], [[3]]⟩, ⟨[], some 4, [], []⟩] (fun k6 => ?_) ?_
 ·skip
  refine .box (.no rfl) rfl rfl rfl rfl rfl ?_
  refine .box (.no rfl) rfl rfl rfl rfl rfl ?_
  refine .assign (.no rfl) rfl rfl rfl rfl ?_
  exact .fin (k6, k6 + 1) (.of (.cons rfl (.cons rfl .nil)) (.cons rfl (.cons rfl .nil)))
 rintro ⟨g7, g8⟩
 refine .seq ?_
 refine .seq ?_
 refine .reg (X := Unit) (fun ζ => .of [(2, .one (.ptr [2] (g7) 0)), (3, .one (.ptr [3] (g8) 0)), (9, .one (.d (.v (.bool (!(Decl.ok d))))))] [([2], (g7, g7, .box [.d (.sl false 9 1 (List.map strc (d.vars))), .d (.sl false 9 1 (List.map strc (d.flags))), .d (.sl false 119 2 (List.map Arr.c (d.arrays)))])), ([3], (g8, g8, .box [.d (.v (.bool (e.live))), .d (.sl false 122 2 (List.map Iv.c (e.ints))), .d (.sl false 122 2 (List.map Iv.c (e.arrs)))]))]) [⟨[2], some 7, [[2]], []⟩, ⟨[7], some 8, [], []⟩, ⟨[8], some 9, [], []⟩] (fun k9 => ?_) ?_
 ·skip
  refine .load (.no rfl) rfl t38 rfl rfl (.ptr _ _ _ _ _ rfl) rfl rfl rfl rfl ?_
  refine .call (.no rfl) rfl [] [] (c_sDeclOk d (by first | assumption | omega) (by first | assumption | omega)) rfl rfl rfl rfl rfl (.cons (Reads.d _).gives (.cons (Reads.d _).gives (.cons (Reads.d _).gives .nil))) rfl rfl (fun h => absurd rfl h) (.own [8, 0] .nil) (.nil) rfl rfl rfl (by simp) rfl rfl rfl ?_
  refine .un (.no rfl) rfl rfl rfl rfl rfl ?_
  exact .fin () (.of (.cons rfl (.cons rfl (.cons rfl .nil))) (.cons rfl (.cons rfl .nil)))
 intro _
 refine .cond (t := !(Decl.ok d)) rfl (fun c0 => ?_) (fun c0 => ?_)
 ·have c0 := c0
  try simp only [Bool.or_eq_true, Bool.or_eq_false_iff, Bool.and_eq_true, Bool.and_eq_false_iff, decide_eq_true_eq, decide_eq_false_iff_not, Bool.not_eq_true', Bool.not_eq_false', bne_iff_ne, beq_iff_eq, bne_eq_false_iff_eq, beq_eq_false_iff_ne, ne_eq, Bool.not_eq_eq_eq_not, Bool.not_true, Bool.not_false] at c0
  refine .seq ?_
  refine .reg (X := Unit) (fun ζ => .of [(4, .one (.d (.v (.bool (false)))))] []) [⟨[], some 4, [], []⟩] (fun k10 => ?_) ?_
  ·skip
   refine .assign (.no rfl) rfl rfl rfl rfl ?_
   exact .fin () (.of (.cons rfl .nil) .nil)
  intro _
  refine .ret ?_
  have e11 : (false) = (Decl.ok d && Env.okIn d e) := by simp [c0]
  have hc12 := eq1 (fun z1 => SV.one (.d (.v (.bool (z1))))) e11
  show _ ∧ _
  exact ⟨.inr rfl, .done ⟨_, [], [], _, .one (c := .d (.v (.bool (Decl.ok d && Env.okIn d e)))) (hc12) .nil, .cons (Reads.d _).gives .nil, nodupB_ok rfl, by simp, (by simp)⟩⟩
 ·have c0 := c0
  try simp only [Bool.or_eq_true, Bool.or_eq_false_iff, Bool.and_eq_true, Bool.and_eq_false_iff, decide_eq_true_eq, decide_eq_false_iff_not, Bool.not_eq_true', Bool.not_eq_false', bne_iff_ne, beq_iff_eq, bne_eq_false_iff_eq, beq_eq_false_iff_ne, ne_eq, Bool.not_eq_eq_eq_not, Bool.not_true, Bool.not_false] at c0
  refine .skip ?_
  refine .seq ?_
  refine .seq ?_
  refine .reg (X := Unit) (fun ζ => .of [(2, .one (.ptr [2] (g7) 0)), (3, .one (.ptr [3] (g8) 0)), (12, .one (.d (.v (.bool (!e.live)))))] [([2], (g7, g7, .box [.d (.sl false 9 1 (List.map strc (d.vars))), .d (.sl false 9 1 (List.map strc (d.flags))), .d (.sl false 119 2 (List.map Arr.c (d.arrays)))])), ([3], (g8, g8, .box [.d (.v (.bool (e.live))), .d (.sl false 122 2 (List.map Iv.c (e.ints))), .d (.sl false 122 2 (List.map Iv.c (e.arrs)))]))]) [⟨[3], some 10, [], []⟩, ⟨[10], some 11, [[3]], []⟩, ⟨[11], some 12, [], []⟩] (fun k13 => ?_) ?_
  ·skip
   refine .fieldAddrP (.no rfl) rfl t77 rfl rfl t4 rfl rfl rfl rfl ?_
   refine .load (.no rfl) rfl t4 rfl rfl (.ptr _ _ _ _ _ rfl) rfl rfl rfl rfl ?_
   refine .un (.no rfl) rfl rfl rfl rfl rfl ?_
   exact .fin () (.of (.cons rfl (.cons rfl (.cons rfl .nil))) (.cons rfl (.cons rfl .nil)))
  intro _
  refine .cond (t := !e.live) rfl (fun c1 => ?_) (fun c1 => ?_)
  ·have c1 := c1
   try simp only [Bool.or_eq_true, Bool.or_eq_false_iff, Bool.and_eq_true, Bool.and_eq_false_iff, decide_eq_true_eq, decide_eq_false_iff_not, Bool.not_eq_true', Bool.not_eq_false', bne_iff_ne, beq_iff_eq, bne_eq_false_iff_eq, beq_eq_false_iff_ne, ne_eq, Bool.not_eq_eq_eq_not, Bool.not_true, Bool.not_false] at c1
   refine .seq ?_
   refine .reg (X := Unit) (fun ζ => .of [(4, .one (.d (.v (.bool (((e.ints.length : Int) == 0 && (e.arrs.length : Int) == 0))))))] []) [⟨[3], some 13, [], []⟩, ⟨[13], some 14, [[3]], []⟩, ⟨[14], some 15, [], []⟩, ⟨[15], some 16, [], []⟩, ⟨[16], some 17, [], []⟩, ⟨[17, 3], some 18, [], []⟩, ⟨[17, 18], some 19, [[3]], []⟩, ⟨[17, 19], some 20, [], []⟩, ⟨[17, 20], some 21, [], []⟩, ⟨[17, 21], some 22, [], []⟩, ⟨[22], some 4, [], []⟩] (fun k14 => ?_) ?_
   ·skip
    refine .fieldAddrP (.no rfl) rfl t77 rfl rfl t75 rfl rfl rfl rfl ?_
    refine .load (.no rfl) rfl t75 rfl rfl (.ptr _ _ _ _ _ rfl) rfl rfl rfl rfl ?_
    refine .len (.no rfl) rfl (z := (e.ints.length : Int)) t75 rfl rfl rfl (.d _ _) (map_len _ _) rfl ?_
    refine .bin (.no rfl) rfl rfl rfl rfl rfl rfl ?_
    refine .moveB (.no rfl) rfl rfl rfl rfl fun b15 g4_4 => ?_
    cases b15
    ·skip
     refine .off rfl rfl rfl rfl rfl rfl rfl ?_
     refine .off rfl rfl rfl rfl rfl rfl rfl ?_
     refine .off rfl rfl rfl rfl rfl rfl rfl ?_
     refine .off rfl rfl rfl rfl rfl rfl rfl ?_
     refine .pick (.no rfl) rfl rfl rfl rfl rfl ?_
     refine .assign (.no rfl) rfl rfl rfl rfl ?_
     exact .fin () (.of (.cons (svB (show (false) = (((e.ints.length : Int) == 0 && (e.arrs.length : Int) == 0)) by first | (simp only [g4_4, Bool.true_or, Bool.false_or, Bool.true_and, Bool.false_and, Bool.not_true, Bool.not_false]; done) | simp [g4_4])) .nil) .nil)
    ·skip
     refine .fieldAddrP (.on rfl rfl rfl rfl rfl) rfl t77 rfl rfl t75 rfl rfl rfl rfl ?_
     refine .load (.on rfl rfl rfl rfl rfl) rfl t75 rfl rfl (.ptr _ _ _ _ _ rfl) rfl rfl rfl rfl ?_
     refine .len (.on rfl rfl rfl rfl rfl) rfl (z := (e.arrs.length : Int)) t75 rfl rfl rfl (.d _ _) (map_len _ _) rfl ?_
     refine .bin (.on rfl rfl rfl rfl rfl) rfl rfl rfl rfl rfl rfl ?_
     refine .pick (.no rfl) rfl rfl rfl rfl rfl ?_
     refine .assign (.no rfl) rfl rfl rfl rfl ?_
     exact .fin () (.of (.cons (svB (show ((e.arrs.length : Int) == 0) = (((e.ints.length : Int) == 0 && (e.arrs.length : Int) == 0)) by first | (simp only [g4_4, Bool.true_or, Bool.false_or, Bool.true_and, Bool.false_and, Bool.not_true, Bool.not_false]; done) | simp [g4_4])) .nil) .nil)
   intro _
   refine .ret ?_
   have e16 : (((e.ints.length : Int) == 0 && (e.arrs.length : Int) == 0)) = (Decl.ok d && Env.okIn d e) := by simp [c0, c1, Env.okIn]
   have hc17 := eq1 (fun z1 => SV.one (.d (.v (.bool (z1))))) e16
   show _ ∧ _
   exact ⟨.inr rfl, .done ⟨_, [], [], _, .one (c := .d (.v (.bool (Decl.ok d && Env.okIn d e)))) (hc17) .nil, .cons (Reads.d _).gives .nil, nodupB_ok rfl, by simp, (by simp)⟩⟩
  ·have c1 := c1
   try simp only [Bool.or_eq_true, Bool.or_eq_false_iff, Bool.and_eq_true, Bool.and_eq_false_iff, decide_eq_true_eq, decide_eq_false_iff_not, Bool.not_eq_true', Bool.not_eq_false', bne_iff_ne, beq_iff_eq, bne_eq_false_iff_eq, beq_eq_false_iff_ne, ne_eq, Bool.not_eq_eq_eq_not, Bool.not_true, Bool.not_false] at c1
   refine .skip ?_
   refine .seq ?_
   refine .seq ?_
   refine .reg (X := Unit) (fun ζ => .of [(3, .one (.ptr [3] (g8) 0)), (38, .one (.d (.v (.bool (((e.ints.length : Int) != (d.vars.length : Int) || (e.arrs.length : Int) != (d.arrays.length : Int)))))))] [([3], (g8, g8, .box [.d (.v (.bool (e.live))), .d (.sl false 122 2 (List.map Iv.c (e.ints))), .d (.sl false 122 2 (List.map Iv.c (e.arrs)))]))]) [⟨[3], some 23, [], []⟩, ⟨[23], some 24, [[3]], []⟩, ⟨[24], some 25, [], []⟩, ⟨[2], some 26, [], []⟩, ⟨[26], some 27, [[2]], []⟩, ⟨[27], some 28, [], []⟩, ⟨[25, 28], some 29, [], []⟩, ⟨[29], some 30, [], []⟩, ⟨[30, 3], some 31, [], []⟩, ⟨[30, 31], some 32, [[3]], []⟩, ⟨[30, 32], some 33, [], []⟩, ⟨[30, 2], some 34, [], []⟩, ⟨[30, 34], some 35, [[2]], []⟩, ⟨[30, 35], some 36, [], []⟩, ⟨[30, 33, 36], some 37, [], []⟩, ⟨[30, 37], some 38, [], []⟩] (fun k18 => ?_) ?_
   ·skip
    refine .fieldAddrP (.no rfl) rfl t77 rfl rfl t75 rfl rfl rfl rfl ?_
    refine .load (.no rfl) rfl t75 rfl rfl (.ptr _ _ _ _ _ rfl) rfl rfl rfl rfl ?_
    refine .len (.no rfl) rfl (z := (e.ints.length : Int)) t75 rfl rfl rfl (.d _ _) (map_len _ _) rfl ?_
    refine .fieldAddrP (.no rfl) rfl t38 rfl rfl t22 rfl rfl rfl rfl ?_
    refine .load (.no rfl) rfl t22 rfl rfl (.ptr _ _ _ _ _ rfl) rfl rfl rfl rfl ?_
    refine .len (.no rfl) rfl (z := (d.vars.length : Int)) t22 rfl rfl rfl (.d _ _) (map_len _ _) rfl ?_
    refine .bin (.no rfl) rfl rfl rfl rfl rfl rfl ?_
    refine .moveB (.no rfl) rfl rfl rfl rfl fun b19 g5_7 => ?_
    cases b19
    ·skip
     refine .fieldAddrP (.on rfl rfl rfl rfl rfl) rfl t77 rfl rfl t75 rfl rfl rfl rfl ?_
     refine .load (.on rfl rfl rfl rfl rfl) rfl t75 rfl rfl (.ptr _ _ _ _ _ rfl) rfl rfl rfl rfl ?_
     refine .len (.on rfl rfl rfl rfl rfl) rfl (z := (e.arrs.length : Int)) t75 rfl rfl rfl (.d _ _) (map_len _ _) rfl ?_
     refine .fieldAddrP (.on rfl rfl rfl rfl rfl) rfl t38 rfl rfl t36 rfl rfl rfl rfl ?_
     refine .load (.on rfl rfl rfl rfl rfl) rfl t36 rfl rfl (.ptr _ _ _ _ _ rfl) rfl rfl rfl rfl ?_
     refine .len (.on rfl rfl rfl rfl rfl) rfl (z := (d.arrays.length : Int)) t36 rfl rfl rfl (.d _ _) (map_len _ _) rfl ?_
     refine .bin (.on rfl rfl rfl rfl rfl) rfl rfl rfl rfl rfl rfl ?_
     refine .pick (.no rfl) rfl rfl rfl rfl rfl ?_
     exact .fin () (.of (.cons rfl (.cons (svB (show ((e.arrs.length : Int) != (d.arrays.length : Int)) = (((e.ints.length : Int) != (d.vars.length : Int) || (e.arrs.length : Int) != (d.arrays.length : Int))) by first | (simp only [g5_7, Bool.true_or, Bool.false_or, Bool.true_and, Bool.false_and, Bool.not_true, Bool.not_false]; done) | simp [g5_7])) .nil)) (.cons rfl .nil))
    ·skip
     refine .off rfl rfl rfl rfl rfl rfl rfl ?_
     refine .off rfl rfl rfl rfl rfl rfl rfl ?_
     refine .off rfl rfl rfl rfl rfl rfl rfl ?_
     refine .off rfl rfl rfl rfl rfl rfl rfl ?_
     refine .off rfl rfl rfl rfl rfl rfl rfl ?_
     refine .off rfl rfl rfl rfl rfl rfl rfl ?_
     refine .off rfl rfl rfl rfl rfl rfl rfl ?_
     refine .pick (.no rfl) rfl rfl rfl rfl rfl ?_
     exact .fin () (.of (.cons rfl (.cons (svB (show (true) = (((e.ints.length : Int) != (d.vars.length : Int) || (e.arrs.length : Int) != (d.arrays.length : Int))) by first | (simp only [g5_7, Bool.true_or, Bool.false_or, Bool.true_and, Bool.false_and, Bool.not_true, Bool.not_false]; done) | simp [g5_7])) .nil)) (.cons rfl .nil))
   intro _
   refine .cond (t := ((e.ints.length : Int) != (d.vars.length : Int) || (e.arrs.length : Int) != (d.arrays.length : Int))) rfl (fun c2 => ?_) (fun c2 => ?_)
   ·have c2 := c2
    try simp only [Bool.or_eq_true, Bool.or_eq_false_iff, Bool.and_eq_true, Bool.and_eq_false_iff, decide_eq_true_eq, decide_eq_false_iff_not, Bool.not_eq_true', Bool.not_eq_false', bne_iff_ne, beq_iff_eq, bne_eq_false_iff_eq, beq_eq_false_iff_ne, ne_eq, Bool.not_eq_eq_eq_not, Bool.not_true, Bool.not_false] at c2
    refine .seq ?_
    refine .reg (X := Unit) (fun ζ => .of [(4, .one (.d (.v (.bool (false)))))] []) [⟨[], some 4, [], []⟩] (fun k20 => ?_) ?_
    ·skip
     refine .assign (.no rfl) rfl rfl rfl rfl ?_
     exact .fin () (.of (.cons rfl .nil) .nil)
    intro _
    refine .ret ?_
    have e21 : (false) = (Decl.ok d && Env.okIn d e) := by simp only [c0, Env.okIn, c1]; simp; omega
    have hc22 := eq1 (fun z1 => SV.one (.d (.v (.bool (z1))))) e21
    show _ ∧ _
    exact ⟨.inr rfl, .done ⟨_, [], [], _, .one (c := .d (.v (.bool (Decl.ok d && Env.okIn d e)))) (hc22) .nil, .cons (Reads.d _).gives .nil, nodupB_ok rfl, by simp, (by simp)⟩⟩
   ·have c2 := c2
    try simp only [Bool.or_eq_true, Bool.or_eq_false_iff, Bool.and_eq_true, Bool.and_eq_false_iff, decide_eq_true_eq, decide_eq_false_iff_not, Bool.not_eq_true', Bool.not_eq_false', bne_iff_ne, beq_iff_eq, bne_eq_false_iff_eq, beq_eq_false_iff_ne, ne_eq, Bool.not_eq_eq_eq_not, Bool.not_true, Bool.not_false] at c2
    refine .skip ?_
    refine .seq ?_
    refine .reg (X := Unit) (fun ζ => .of [(5, .one (.d (.sl false 122 2 (List.map Iv.c (e.ints ++ e.arrs)))))] []) [⟨[3], some 39, [[3]], []⟩, ⟨[39], some 40, [], []⟩, ⟨[40], some 5, [], []⟩] (fun k23 => ?_) ?_
    ·skip
     refine .load (.no rfl) rfl t77 rfl rfl (.ptr _ _ _ _ _ rfl) rfl rfl rfl rfl ?_
     refine .call (.no rfl) rfl [] [] (c_l6List e (by first | assumption | omega)) rfl rfl rfl rfl rfl (.cons (Reads.d _).gives (.cons (Reads.d _).gives (.cons (Reads.d _).gives .nil))) rfl rfl (fun h => absurd rfl h) (.frz [40, 0] (Frz.of_erase (erase_slo _ _ _ _ _ _ Iv.c_e)) .nil) (.nil) rfl rfl rfl (by simp) rfl rfl rfl ?_
     refine .assign (.no rfl) rfl rfl rfl rfl ?_
     exact .fin () (.of (.cons rfl .nil) .nil)
    intro _
    refine .seq ?_
    refine .seq ?_
    refine .reg (X := Unit) (fun ζ => .of [(5, .one (.d (.sl false 122 2 (List.map Iv.c (e.ints ++ e.arrs))))), (6, .one (.d (.v (.int .i64 (0)))))] []) [⟨[], some 6, [], []⟩] (fun k24 => ?_) ?_
    ·skip
     refine .assign (.no rfl) rfl rfl rfl rfl ?_
     exact .fin () (.of (.cons rfl (.cons rfl .nil)) .nil)
    intro _
    refine .block ?_
    refine .loop (X := Nat) (fun ζ => .of [(5, .one (.d (.sl false 122 2 (List.map Iv.c (e.ints ++ e.arrs))))), (6, .one (.d (.v (.int .i64 ((ζ : Int))))))] []) (fun ζ => ζ ≤ (e.ints ++ e.arrs).length ∧ allTo ζ (fun x => Iv.ok ((e.ints ++ e.arrs).getD x default)) = true) (fun ζ => (e.ints ++ e.arrs).length - ζ) ?_ ?_
    ·skip
     exact .here 0 (.of (.cons rfl (.cons (svI (show (0) = ((0 : Int)) by first | rfl | omega | exact wrap_le (by omega) (by omega) | (rw [wrap_le (by omega) (by omega)]; omega))) .nil)) .nil) (show 0 ≤ (e.ints ++ e.arrs).length ∧ allTo 0 (fun x => Iv.ok ((e.ints ++ e.arrs).getD x default)) = true by exact ⟨by omega, rfl⟩)
    ·rintro j hI
     have hI : j ≤ (e.ints ++ e.arrs).length ∧ allTo j (fun x => Iv.ok ((e.ints ++ e.arrs).getD x default)) = true := hI
     have hn9 : (e.ints ++ e.arrs).length ≤ 3145728 := by simp; omega
     refine .seq ?_
     refine .seq ?_
     refine .reg (X := Unit) (fun ζ => .of [(5, .one (.d (.sl false 122 2 (List.map Iv.c (e.ints ++ e.arrs))))), (6, .one (.d (.v (.int .i64 ((j : Int)))))), (44, .one (.d (.v (.bool (decide ((j : Int) < ((e.ints ++ e.arrs).length : Int)))))))] []) [⟨[6], some 41, [], []⟩, ⟨[5], some 42, [], []⟩, ⟨[42], some 43, [], []⟩, ⟨[41, 43], some 44, [], []⟩] (fun k25 => ?_) ?_
     ·skip
      refine .move (.no rfl) rfl rfl rfl rfl ?_
      refine .move (.no rfl) rfl rfl rfl rfl ?_
      refine .len (.no rfl) rfl (z := ((e.ints ++ e.arrs).length : Int)) t75 rfl rfl rfl (.d _ _) (map_len _ _) rfl ?_
      refine .bin (.no rfl) rfl rfl rfl rfl rfl rfl ?_
      exact .fin () (.of (.cons rfl (.cons rfl (.cons rfl .nil))) .nil)
     intro _
     refine .cond (t := decide ((j : Int) < ((e.ints ++ e.arrs).length : Int))) rfl (fun c3 => ?_) (fun c3 => ?_)
     ·have c3 := of_decide_eq_true c3
      refine .skip ?_
      refine .seq ?_
      refine .block ?_
      refine .seq ?_
      refine .reg (X := Unit) (fun ζ => .of [(5, .one (.d (.sl false 122 2 (List.map Iv.c (e.ints ++ e.arrs))))), (6, .one (.d (.v (.int .i64 ((j : Int)))))), (52, .one (.d (.v (.bool (!(Iv.ok ((e.ints ++ e.arrs).getD (j) default)))))))] []) [⟨[5], some 47, [], []⟩, ⟨[6], some 48, [], []⟩, ⟨[47, 48], some 49, [], []⟩, ⟨[49], some 50, [], []⟩, ⟨[50], some 51, [], []⟩, ⟨[51], some 52, [], []⟩] (fun k26 => ?_) ?_
      ·skip
       refine .move (.no rfl) rfl rfl rfl rfl ?_
       refine .move (.no rfl) rfl rfl rfl rfl ?_
       refine .indexAddr (.no rfl) rfl (j) t75 rfl t122 rfl rfl rfl (.d _ _) rfl rfl rfl (map_get (by omega)) rfl rfl ?_
       refine .load (.no rfl) rfl t122 rfl rfl (.d _) rfl rfl rfl rfl ?_
       refine .call (.no rfl) rfl [] [] (c_sIvOk ((e.ints ++ e.arrs).getD (j) default)) rfl rfl rfl rfl rfl (.cons (Reads.d _).gives (.cons (Reads.d _).gives .nil)) rfl rfl (fun h => absurd rfl h) (.own [51, 0] .nil) (.nil) rfl rfl rfl (by simp) rfl rfl rfl ?_
       refine .un (.no rfl) rfl rfl rfl rfl rfl ?_
       exact .fin () (.of (.cons rfl (.cons rfl (.cons rfl .nil))) .nil)
      intro _
      refine .cond (t := !(Iv.ok ((e.ints ++ e.arrs).getD (j) default))) rfl (fun c4 => ?_) (fun c4 => ?_)
      ·have c4 := c4
       try simp only [Bool.or_eq_true, Bool.or_eq_false_iff, Bool.and_eq_true, Bool.and_eq_false_iff, decide_eq_true_eq, decide_eq_false_iff_not, Bool.not_eq_true', Bool.not_eq_false', bne_iff_ne, beq_iff_eq, bne_eq_false_iff_eq, beq_eq_false_iff_ne, ne_eq, Bool.not_eq_eq_eq_not, Bool.not_true, Bool.not_false] at c4
       refine .seq ?_
       refine .reg (X := Unit) (fun ζ => .of [(4, .one (.d (.v (.bool (false)))))] []) [⟨[], some 4, [], []⟩] (fun k27 => ?_) ?_
       ·skip
        refine .assign (.no rfl) rfl rfl rfl rfl ?_
        exact .fin () (.of (.cons rfl .nil) .nil)
       intro _
       refine .ret ?_
       have e28 : (false) = (Decl.ok d && Env.okIn d e) := by simp only [c0, Env.okIn, c1, all_none (p := Iv.ok) (j := j) (by omega) c4]; simp
       have hc29 := eq1 (fun z1 => SV.one (.d (.v (.bool (z1))))) e28
       show _ ∧ _
       exact ⟨.inr rfl, .done ⟨_, [], [], _, .one (c := .d (.v (.bool (Decl.ok d && Env.okIn d e)))) (hc29) .nil, .cons (Reads.d _).gives .nil, nodupB_ok rfl, by simp, (by simp)⟩⟩
      ·have c4 := c4
       try simp only [Bool.or_eq_true, Bool.or_eq_false_iff, Bool.and_eq_true, Bool.and_eq_false_iff, decide_eq_true_eq, decide_eq_false_iff_not, Bool.not_eq_true', Bool.not_eq_false', bne_iff_ne, beq_iff_eq, bne_eq_false_iff_eq, beq_eq_false_iff_ne, ne_eq, Bool.not_eq_eq_eq_not, Bool.not_true, Bool.not_false] at c4
       refine .skip ?_
       refine .reg (X := Unit) (fun ζ => .of [(5, .one (.d (.sl false 122 2 (List.map Iv.c (e.ints ++ e.arrs))))), (6, .one (.d (.v (.int .i64 (IntKind.wrap .i64 ((j : Int) + 1))))))] []) [⟨[6], some 45, [], []⟩, ⟨[45], some 46, [], []⟩, ⟨[46], some 6, [], []⟩] (fun k30 => ?_) ?_
       ·skip
        refine .move (.no rfl) rfl rfl rfl rfl ?_
        refine .bin (.no rfl) rfl rfl rfl rfl rfl rfl ?_
        refine .assign (.no rfl) rfl rfl rfl rfl ?_
        exact .fin () (.of (.cons rfl (.cons rfl .nil)) .nil)
       intro _
       exact .here (j + 1) (.of (.cons rfl (.cons (svI (show (IntKind.wrap .i64 ((j : Int) + 1)) = (((j + 1) : Int)) by first | rfl | omega | exact wrap_le (by omega) (by omega) | (rw [wrap_le (by omega) (by omega)]; omega))) .nil)) .nil) ⟨(show (j + 1) ≤ (e.ints ++ e.arrs).length ∧ allTo (j + 1) (fun x => Iv.ok ((e.ints ++ e.arrs).getD x default)) = true by exact ⟨by omega, allTo_step hI.2 c4⟩), (show (e.ints ++ e.arrs).length - (j + 1) < (e.ints ++ e.arrs).length - j by omega)⟩
     ·have c3 := of_decide_eq_false c3
      refine .exit ?_
      refine .seq ?_
      refine .reg (X := Unit) (fun ζ => .of [(4, .one (.d (.v (.bool (true)))))] []) [⟨[], some 4, [], []⟩] (fun k31 => ?_) ?_
      ·skip
       refine .assign (.no rfl) rfl rfl rfl rfl ?_
       exact .fin () (.of (.cons rfl .nil) .nil)
      intro _
      refine .ret ?_
      have e32 : (true) = (Decl.ok d && Env.okIn d e) := by simp only [c0, Env.okIn, c1, all_done (p := Iv.ok) (j := j) (by omega) hI.2]; simp; omega
      have hc33 := eq1 (fun z1 => SV.one (.d (.v (.bool (z1))))) e32
      show _ ∧ _
      exact ⟨.inr rfl, .done ⟨_, [], [], _, .one (c := .d (.v (.bool (Decl.ok d && Env.okIn d e)))) (hc33) .nil, .cons (Reads.d _).gives .nil, nodupB_ok rfl, by simp, (by simp)⟩⟩
end Go.Proofs

namespace Go.Proofs
open Go Go.Proofs Go.Ev

def slc22 (x : List ByteArray) : List D := [.sl false 9 1 (List.map strc (x))]
theorem slc22_e (x : List ByteArray) : (slc22 x).map D.erase = slc22 x := by simp [slc22, erase_slo _ _ _ _ _ _ strc_e]
def slco22 (x : List ByteArray) : List D := [.sl true 9 1 (List.map strc (x))]
theorem slco22_e (x : List ByteArray) : (slco22 x).map D.erase = slc22 x := by simp [slco22, slc22, erase_slo _ _ _ _ _ _ strc_e]
theorem slco22_o (x : List ByteArray) : ∀ d ∈ slco22 x, Owned d := by simp [slco22, Owned.map _ _ _ _ strc_o]
def i3 : TI := ⟨.int .i64, 1, 8, [.int .i64 0]⟩
theorem t3 : TyOk Tryz.prog 3 i3 := ⟨Tryz.underlying3, by kernel_rfl⟩
theorem z3 : ZOk Tryz.prog 3 i3 := ⟨t3, rfl⟩
def i182 : TI := ⟨.sl 22, 1, 24, [.slice none 0 0]⟩
theorem t182 : TyOk Tryz.prog 182 i182 := ⟨Tryz.underlying182, by kernel_rfl⟩
theorem z182 : ZOk Tryz.prog 182 i182 := ⟨t182, rfl⟩
theorem c_Grow (n : Nat) (hn : n ≤ 4194304) : Trip Tryz.prog 159 [(false, 1), (false, 1)] ([.v (.slice none 0 0)] ++ [.v (.int .i64 ((n : Int)))]) [(false, 1)] [.sl true 9 1 ([])] [] := by
 refine Trip.of Tryz.func159 (by decide) (c := _) rfl rfl (shB_ok rfl) (Nat.le_of_ble_eq_true rfl) rfl (AftOk.nil _) ?_
 refine .seq ?_
 refine .reg (X := Unit) (fun ζ => .of [(0, .one (.d (.v (.slice none 0 0)))), (1, .one (.d (.v (.int .i64 ((n : Int))))))] []) [⟨[], some 4, [], []⟩] (fun k1 => ?_) ?_
 ·skip
  refine .assign (.no rfl) rfl rfl rfl rfl ?_
  exact .fin () (.of (.cons rfl (.cons rfl .nil)) .nil)
 intro _
 refine .seq ?_
 refine .seq ?_
 refine .reg (X := Unit) (fun ζ => .of [(0, .one (.d (.v (.slice none 0 0)))), (1, .one (.d (.v (.int .i64 ((n : Int)))))), (6, .one (.d (.v (.bool (decide ((n : Int) < 0))))))] []) [⟨[1], some 5, [], []⟩, ⟨[5], some 6, [], []⟩] (fun k2 => ?_) ?_
 ·skip
  refine .move (.no rfl) rfl rfl rfl rfl ?_
  refine .bin (.no rfl) rfl rfl rfl rfl rfl rfl ?_
  exact .fin () (.of (.cons rfl (.cons rfl (.cons rfl .nil))) .nil)
 intro _
 refine .cond (t := decide ((n : Int) < 0)) rfl (fun c0 => ?_) (fun c0 => ?_)
 ·have c0 := of_decide_eq_true c0
  exfalso; omega
 ·have c0 := of_decide_eq_false c0
  refine .skip ?_
  refine .seq ?_
  refine .seq ?_
  refine .reg (X := Unit) (fun ζ => .of [(0, .one (.d (.v (.slice none 0 0)))), (1, .one (.d (.v (.int .i64 (IntKind.wrap .i64 ((n : Int) - 0))))))] []) [⟨[1], some 8, [], []⟩, ⟨[0], some 9, [], []⟩, ⟨[9], some 10, [], []⟩, ⟨[0], some 11, [], []⟩, ⟨[11], some 12, [], []⟩, ⟨[10, 12], some 13, [], []⟩, ⟨[8, 13], some 14, [], []⟩, ⟨[14], some 1, [], []⟩] (fun k3 => ?_) ?_
  ·skip
   refine .move (.no rfl) rfl rfl rfl rfl ?_
   refine .move (.no rfl) rfl rfl rfl rfl ?_
   refine .capNil (.no rfl) rfl t22 rfl rfl rfl rfl ?_
   refine .move (.no rfl) rfl rfl rfl rfl ?_
   refine .len (.no rfl) rfl (z := 0) t22 rfl rfl rfl (sz := 1) .nil rfl rfl ?_
   refine .bin (.no rfl) rfl rfl rfl rfl rfl rfl ?_
   refine .bin (.no rfl) rfl rfl rfl rfl rfl rfl ?_
   refine .assign (.no rfl) rfl rfl rfl rfl ?_
   exact .fin () (.of (.cons rfl (.cons rfl .nil)) .nil)
  intro _
  refine .seq ?_
  refine .reg (X := Unit) (fun ζ => .of [(0, .one (.d (.v (.slice none 0 0)))), (1, .one (.d (.v (.int .i64 (IntKind.wrap .i64 ((n : Int) - 0)))))), (16, .one (.d (.v (.bool (decide ((IntKind.wrap .i64 ((n : Int) - 0)) > 0))))))] []) [⟨[1], some 15, [], []⟩, ⟨[15], some 16, [], []⟩] (fun k4 => ?_) ?_
  ·skip
   refine .move (.no rfl) rfl rfl rfl rfl ?_
   refine .bin (.no rfl) rfl rfl rfl rfl rfl rfl ?_
   exact .fin () (.of (.cons rfl (.cons rfl (.cons rfl .nil))) .nil)
  intro _
  refine .cond (t := decide ((IntKind.wrap .i64 ((n : Int) - 0)) > 0)) rfl (fun c1 => ?_) (fun c1 => ?_)
  ·have c1 := of_decide_eq_true c1
   refine .reg (X := Nat) (fun ζ => .of [(0, .one (.cut [22] (ζ) (0)))] [([22], (ζ, ζ, .row 9 1 (List.map strc (List.replicate n .empty))))]) [⟨[0], some 17, [], []⟩, ⟨[0], some 18, [], []⟩, ⟨[18], some 19, [], []⟩, ⟨[17, 19], some 20, [], []⟩, ⟨[1], some 21, [], []⟩, ⟨[20, 21], some 22, [], [[22]]⟩, ⟨[0], some 23, [], []⟩, ⟨[23], some 24, [], []⟩, ⟨[22, 24], some 25, [[22]], []⟩, ⟨[25], some 0, [], []⟩] (fun k5 => ?_) ?_
   ·skip
    refine .move (.no rfl) rfl rfl rfl rfl ?_
    refine .move (.no rfl) rfl rfl rfl rfl ?_
    refine .capNil (.no rfl) rfl t22 rfl rfl rfl rfl ?_
    refine .sliceNil (.no rfl) rfl t22 rfl t9 rfl rfl (by exact rfl) (by exact ⟨_, rfl⟩) rfl ?_
    refine .move (.no rfl) rfl rfl rfl rfl ?_
    refine .growNil (.no rfl) rfl (n0 := n) (els := List.map strc (List.replicate n .empty)) t22 rfl t3 rfl z9 rfl rfl rfl rfl rfl rfl (by exact (wrap_le (by omega) (by omega)).trans (by omega)) (by (rw [wrap_le (by omega) (by omega)] at c1; omega)) (by simp [i9]; omega) (by omega) (rep_map _ _ _ rfl) rfl ?_
    refine .move (.no rfl) rfl rfl rfl rfl ?_
    refine .len (.no rfl) rfl (z := 0) t22 rfl rfl rfl (sz := 1) .nil rfl rfl ?_
    refine .slice (.no rfl) rfl (lv := 0) (hv := 0) (m := k5 + 1 + 1 + 1 + 1 + 1) t22 rfl t9 rfl rfl (.ref _ _ _ _ _ rfl) rfl (by intro _ _ h; cases h; exact ⟨_, .head _⟩) (by exact rfl) (by exact ⟨_, rfl⟩) (Nat.zero_le _) (Nat.zero_le _) rfl rfl ?_
    refine .assign (.no rfl) rfl rfl rfl rfl ?_
    exact .fin (k5 + 1 + 1 + 1 + 1 + 1) (.of (.cons rfl .nil) (.cons rfl .nil))
   intro g6
   refine .seq ?_
   refine .reg (X := Unit) (fun ζ => .of [(4, .one (.cut [22] (g6) (0)))] [([22], (g6, g6, .row 9 1 (List.map strc (List.replicate n .empty))))]) [⟨[0], some 26, [], []⟩, ⟨[26], some 4, [], []⟩] (fun k7 => ?_) ?_
   ·skip
    refine .move (.no rfl) rfl rfl rfl rfl ?_
    refine .assign (.no rfl) rfl rfl rfl rfl ?_
    exact .fin () (.of (.cons rfl .nil) (.cons rfl .nil))
   intro _
   refine .ret ?_
   show _ ∧ _
   exact ⟨.inr rfl, .done ⟨_, [], [([22], (g6, g6, .row 9 1 (List.map strc (List.replicate n .empty))))], _, .one rfl .nil, .cons (.cut0 (.head _)) .nil, nodupB_ok rfl, by simp, (AllH.get (.cons rfl .nil))⟩⟩
  ·have c1 := of_decide_eq_false c1
   refine .skip ?_
   refine .seq ?_
   refine .reg (X := Unit) (fun ζ => .of [(4, .one (.d (.v (.slice none 0 0))))] []) [⟨[0], some 26, [], []⟩, ⟨[26], some 4, [], []⟩] (fun k8 => ?_) ?_
   ·skip
    refine .move (.no rfl) rfl rfl rfl rfl ?_
    refine .assign (.no rfl) rfl rfl rfl rfl ?_
    exact .fin () (.of (.cons rfl .nil) .nil)
   intro _
   refine .ret ?_
   show _ ∧ _
   exact ⟨.inr rfl, .done ⟨_, [], [], _, .one rfl .nil, .cons (Gives.nil' (by first | rfl | simp_all)) .nil, nodupB_ok rfl, by simp, (by simp)⟩⟩
theorem c_Concat (l : List (List ByteArray)) (hb : lens l ≤ 4194304 ∧ l.length ≤ 1048576) : Trip Tryz.prog 128 [(false, 1)] ([.sl false 22 1 (List.map slc22 (l))]) [(false, 1)] [.sl true 9 1 (List.map strc (l.flatten))] [] := by
 refine Trip.of Tryz.func128 (by decide) (c := _) rfl rfl (shB_ok rfl) (Nat.le_of_ble_eq_true rfl) rfl (AftOk.nil _) ?_
 refine .sat (t := 0) rfl (fun hs1 => ?_)
 have hs1l : l.length ≤ 9223372036854775807 := hs1.maplen
 refine .seq ?_
 refine .reg (X := Unit) (fun ζ => .of [(0, .one (.d (.sl false 22 1 (List.map slc22 (l)))))] []) [⟨[], some 2, [], []⟩] (fun k2 => ?_) ?_
 ·skip
  refine .assign (.no rfl) rfl rfl rfl rfl ?_
  exact .fin () (.of (.cons rfl .nil) .nil)
 intro _
 refine .seq ?_
 refine .reg (X := Unit) (fun ζ => .of [(0, .one (.d (.sl false 22 1 (List.map slc22 (l))))), (3, .one (.d (.v (.int .i64 (0)))))] []) [⟨[], some 3, [], []⟩] (fun k3 => ?_) ?_
 ·skip
  refine .assign (.no rfl) rfl rfl rfl rfl ?_
  exact .fin () (.of (.cons rfl (.cons rfl .nil)) .nil)
 intro _
 refine .seq ?_
 refine .seq ?_
 refine .reg (X := Unit) (fun ζ => .of [(0, .one (.d (.sl false 22 1 (List.map slc22 (l))))), (3, .one (.d (.v (.int .i64 (0))))), (9, .one (.d (.sl false 22 1 (List.map slc22 (l))))), (10, .one (.d (.v (.int .i64 ((l.length : Int)))))), (11, .one (.d (.v (.int .i64 (0)))))] []) [⟨[0], some 9, [], []⟩, ⟨[9], some 10, [], []⟩, ⟨[], some 11, [], []⟩] (fun k4 => ?_) ?_
 ·skip
  refine .move (.no rfl) rfl rfl rfl rfl ?_
  refine .len (.no rfl) rfl (z := (l.length : Int)) t182 rfl rfl rfl (.d _ _) (map_len _ _) rfl ?_
  refine .move (.no rfl) rfl rfl rfl rfl ?_
  exact .fin () (.of (.cons rfl (.cons rfl (.cons rfl (.cons rfl (.cons rfl .nil))))) .nil)
 intro _
 refine .block ?_
 refine .loop (X := Nat) (fun ζ => .of [(0, .one (.d (.sl false 22 1 (List.map slc22 (l))))), (3, .one (.d (.v (.int .i64 ((lens (l.take ζ) : Int)))))), (9, .one (.d (.sl false 22 1 (List.map slc22 (l))))), (10, .one (.d (.v (.int .i64 ((l.length : Int)))))), (11, .one (.d (.v (.int .i64 ((ζ : Int))))))] []) (fun ζ => ζ ≤ l.length) (fun ζ => l.length - ζ) ?_ ?_
 ·skip
  exact .here 0 (.of (.cons rfl (.cons (svI (show (0) = ((lens (l.take 0) : Int)) by first | rfl | omega | exact wrap_le (by omega) (by omega) | (rw [wrap_le (by omega) (by omega)]; omega))) (.cons rfl (.cons rfl (.cons (svI (show (0) = ((0 : Int)) by first | rfl | omega | exact wrap_le (by omega) (by omega) | (rw [wrap_le (by omega) (by omega)]; omega))) .nil))))) .nil) (show 0 ≤ l.length by omega)
 ·rintro j hI
  have hI : j ≤ l.length := hI
  have hs9 := lens_take l j
  have hs8 := lens_le l (j + 1)
  have hs7 := lens_le l j
  refine .seq ?_
  refine .reg (X := Unit) (fun ζ => .of [(0, .one (.d (.sl false 22 1 (List.map slc22 (l))))), (3, .one (.d (.v (.int .i64 ((lens (l.take j) : Int)))))), (9, .one (.d (.sl false 22 1 (List.map slc22 (l))))), (10, .one (.d (.v (.int .i64 ((l.length : Int)))))), (11, .one (.d (.v (.int .i64 ((j : Int)))))), (12, .one (.d (.v (.bool (decide ((j : Int) < (l.length : Int)))))))] []) [⟨[11, 10], some 12, [], []⟩] (fun k5 => ?_) ?_
  ·skip
   refine .bin (.no rfl) rfl rfl rfl rfl rfl rfl ?_
   exact .fin () (.of (.cons rfl (.cons rfl (.cons rfl (.cons rfl (.cons rfl (.cons rfl .nil)))))) .nil)
  intro _
  refine .seq ?_
  refine .cond (t := decide ((j : Int) < (l.length : Int))) rfl (fun c0 => ?_) (fun c0 => ?_)
  ·have c0 := of_decide_eq_true c0
   refine .skip ?_
   refine .seq ?_
   refine .block ?_
   refine .seq ?_
   refine .reg (X := Unit) (fun ζ => .of [(0, .one (.d (.sl false 22 1 (List.map slc22 (l))))), (3, .one (.d (.v (.int .i64 ((lens (l.take j) : Int)))))), (5, .one (.d (.sl false 9 1 (List.map strc (l.getD j default))))), (9, .one (.d (.sl false 22 1 (List.map slc22 (l))))), (10, .one (.d (.v (.int .i64 ((l.length : Int)))))), (11, .one (.d (.v (.int .i64 ((j : Int))))))] []) [⟨[9, 11], some 13, [], []⟩, ⟨[13], some 14, [], []⟩, ⟨[14], some 5, [], []⟩] (fun k6 => ?_) ?_
   ·skip
    refine .indexAddr (.no rfl) rfl (j) t182 rfl t22 rfl rfl rfl (.d _ _) rfl rfl rfl (map_get (by omega)) rfl rfl ?_
    refine .load (.no rfl) rfl t22 rfl rfl (.d _) rfl rfl rfl rfl ?_
    refine .assign (.no rfl) rfl rfl rfl rfl ?_
    exact .fin () (.of (.cons rfl (.cons rfl (.cons rfl (.cons rfl (.cons rfl (.cons rfl .nil)))))) .nil)
   intro _
   refine .seq ?_
   refine .reg (X := Unit) (fun ζ => .of [(0, .one (.d (.sl false 22 1 (List.map slc22 (l))))), (3, .one (.d (.v (.int .i64 (IntKind.wrap .i64 ((lens (l.take j) : Int) + ((l.getD j default).length : Int))))))), (9, .one (.d (.sl false 22 1 (List.map slc22 (l))))), (10, .one (.d (.v (.int .i64 ((l.length : Int)))))), (11, .one (.d (.v (.int .i64 ((j : Int))))))] []) [⟨[3], some 15, [], []⟩, ⟨[5], some 16, [], []⟩, ⟨[16], some 17, [], []⟩, ⟨[15, 17], some 18, [], []⟩, ⟨[18], some 3, [], []⟩] (fun k7 => ?_) ?_
   ·skip
    refine .move (.no rfl) rfl rfl rfl rfl ?_
    refine .move (.no rfl) rfl rfl rfl rfl ?_
    refine .len (.no rfl) rfl (z := ((l.getD j default).length : Int)) t22 rfl rfl rfl (.d _ _) (map_len _ _) rfl ?_
    refine .bin (.no rfl) rfl rfl rfl rfl rfl rfl ?_
    refine .assign (.no rfl) rfl rfl rfl rfl ?_
    exact .fin () (.of (.cons rfl (.cons rfl (.cons rfl (.cons rfl (.cons rfl .nil))))) .nil)
   intro _
   refine .seq ?_
   refine .reg (X := Unit) (fun ζ => .of [(0, .one (.d (.sl false 22 1 (List.map slc22 (l))))), (3, .one (.d (.v (.int .i64 (IntKind.wrap .i64 ((lens (l.take j) : Int) + ((l.getD j default).length : Int))))))), (9, .one (.d (.sl false 22 1 (List.map slc22 (l))))), (10, .one (.d (.v (.int .i64 ((l.length : Int)))))), (11, .one (.d (.v (.int .i64 ((j : Int)))))), (20, .one (.d (.v (.bool (decide ((IntKind.wrap .i64 ((lens (l.take j) : Int) + ((l.getD j default).length : Int))) < 0))))))] []) [⟨[3], some 19, [], []⟩, ⟨[19], some 20, [], []⟩] (fun k8 => ?_) ?_
   ·skip
    refine .move (.no rfl) rfl rfl rfl rfl ?_
    refine .bin (.no rfl) rfl rfl rfl rfl rfl rfl ?_
    exact .fin () (.of (.cons rfl (.cons rfl (.cons rfl (.cons rfl (.cons rfl (.cons rfl .nil)))))) .nil)
   intro _
   refine .cond (t := decide ((IntKind.wrap .i64 ((lens (l.take j) : Int) + ((l.getD j default).length : Int))) < 0)) rfl (fun c1 => ?_) (fun c1 => ?_)
   ·have c1 := of_decide_eq_true c1
    exfalso; (rw [wrap_le (by omega) (by omega)] at c1; omega)
   ·have c1 := of_decide_eq_false c1
    refine .skip ?_
    refine .reg (X := Unit) (fun ζ => .of [(0, .one (.d (.sl false 22 1 (List.map slc22 (l))))), (3, .one (.d (.v (.int .i64 (IntKind.wrap .i64 ((lens (l.take j) : Int) + ((l.getD j default).length : Int))))))), (9, .one (.d (.sl false 22 1 (List.map slc22 (l))))), (10, .one (.d (.v (.int .i64 ((l.length : Int)))))), (11, .one (.d (.v (.int .i64 (IntKind.wrap .i64 ((j : Int) + 1))))))] []) [⟨[11], some 22, [], []⟩, ⟨[22], some 11, [], []⟩] (fun k9 => ?_) ?_
    ·skip
     refine .bin (.no rfl) rfl rfl rfl rfl rfl rfl ?_
     refine .move (.no rfl) rfl rfl rfl rfl ?_
     exact .fin () (.of (.cons rfl (.cons rfl (.cons rfl (.cons rfl (.cons rfl .nil))))) .nil)
    intro _
    exact .here (j + 1) (.of (.cons rfl (.cons (svI (show (IntKind.wrap .i64 ((lens (l.take j) : Int) + ((l.getD j default).length : Int))) = ((lens (l.take (j + 1)) : Int)) by first | rfl | omega | exact wrap_le (by omega) (by omega) | (rw [wrap_le (by omega) (by omega)]; omega))) (.cons rfl (.cons rfl (.cons (svI (show (IntKind.wrap .i64 ((j : Int) + 1)) = (((j + 1) : Int)) by first | rfl | omega | exact wrap_le (by omega) (by omega) | (rw [wrap_le (by omega) (by omega)]; omega))) .nil))))) .nil) ⟨(show (j + 1) ≤ l.length by omega), (show l.length - (j + 1) < l.length - j by omega)⟩
  ·have c0 := of_decide_eq_false c0
   refine .exit ?_
   refine .seq ?_
   refine .reg (X := Nat) (fun ζ => .of [(0, .one (.d (.sl false 22 1 (List.map slc22 (l))))), (6, .one (.ref [24, 0] (ζ)))] [([24, 0], (ζ, ζ, .row 9 1 ([])))]) [⟨[3], some 23, [], []⟩, ⟨[23], some 24, [], [[24, 0]]⟩, ⟨[24], some 6, [], []⟩] (fun k10 => ?_) ?_
   ·skip
    refine .move (.no rfl) rfl rfl rfl rfl ?_
    refine .call (.no rfl) rfl [] [] (c_Grow (lens (l.take j)) (by omega)) rfl rfl rfl rfl rfl (.cons (Reads.d _).gives (.cons (Reads.d _).gives .nil)) rfl rfl (fun h => absurd rfl h) (.own [24, 0] .nil) (.nil) rfl rfl rfl (by simp) rfl rfl rfl ?_
    refine .assign (.no rfl) rfl rfl rfl rfl ?_
    exact .fin (k10 + 1) (.of (.cons rfl (.cons rfl .nil)) (.cons rfl .nil))
   intro g11
   refine .seq ?_
   refine .seq ?_
   refine .reg (X := Unit) (fun ζ => .of [(6, .one (.ref [24, 0] (g11))), (25, .one (.d (.sl false 22 1 (List.map slc22 (l))))), (26, .one (.d (.v (.int .i64 ((l.length : Int)))))), (27, .one (.d (.v (.int .i64 (0)))))] [([24, 0], (g11, g11, .row 9 1 ([])))]) [⟨[0], some 25, [], []⟩, ⟨[25], some 26, [], []⟩, ⟨[], some 27, [], []⟩] (fun k12 => ?_) ?_
   ·skip
    refine .move (.no rfl) rfl rfl rfl rfl ?_
    refine .len (.no rfl) rfl (z := (l.length : Int)) t182 rfl rfl rfl (.d _ _) (map_len _ _) rfl ?_
    refine .move (.no rfl) rfl rfl rfl rfl ?_
    exact .fin () (.of (.cons rfl (.cons rfl (.cons rfl (.cons rfl .nil)))) (.cons rfl .nil))
   intro _
   refine .block ?_
   refine .loop (X := Nat × Nat × Nat) (fun ζ => .of [(6, .one (.ref [24, 0] (ζ.2.1))), (25, .one (.d (.sl false 22 1 (List.map slc22 (l))))), (26, .one (.d (.v (.int .i64 ((l.length : Int)))))), (27, .one (.d (.v (.int .i64 ((ζ.1 : Int))))))] [([24, 0], (ζ.2.1, ζ.2.2, .row 9 1 (List.map strc ((l.take ζ.1).flatten))))]) (fun ζ => ζ.1 ≤ l.length) (fun ζ => l.length - ζ.1) ?_ ?_
   ·skip
    exact .here (0, g11, g11) (.of (.cons rfl (.cons rfl (.cons rfl (.cons (svI (show (0) = ((0 : Int)) by first | rfl | omega | exact wrap_le (by omega) (by omega) | (rw [wrap_le (by omega) (by omega)]; omega))) .nil)))) (.cons (rowE (show [] = List.map strc ((l.take 0).flatten) by first | (simp; done) | exact congrArg _ (take_flatten _ _))) .nil)) (show 0 ≤ l.length by omega)
   ·rintro ⟨i, q13, q14⟩ hI
    have hI : i ≤ l.length := hI
    have hs9 := lens_take l i
    have hs8 := lens_le l (i + 1)
    have hs7 := lens_le l i
    refine .seq ?_
    refine .reg (X := Unit) (fun ζ => .of [(6, .one (.ref [24, 0] (q13))), (25, .one (.d (.sl false 22 1 (List.map slc22 (l))))), (26, .one (.d (.v (.int .i64 ((l.length : Int)))))), (27, .one (.d (.v (.int .i64 ((i : Int)))))), (28, .one (.d (.v (.bool (decide ((i : Int) < (l.length : Int)))))))] [([24, 0], (q13, q14, .row 9 1 (List.map strc ((l.take i).flatten))))]) [⟨[27, 26], some 28, [], []⟩] (fun k15 => ?_) ?_
    ·skip
     refine .bin (.no rfl) rfl rfl rfl rfl rfl rfl ?_
     exact .fin () (.of (.cons rfl (.cons rfl (.cons rfl (.cons rfl (.cons rfl .nil))))) (.cons rfl .nil))
    intro _
    refine .seq ?_
    refine .cond (t := decide ((i : Int) < (l.length : Int))) rfl (fun c2 => ?_) (fun c2 => ?_)
    ·have c2 := of_decide_eq_true c2
     refine .skip ?_
     refine .seq ?_
     refine .block ?_
     refine .seq ?_
     refine .reg (X := Unit) (fun ζ => .of [(6, .one (.ref [24, 0] (q13))), (8, .one (.d (.sl false 9 1 (List.map strc (l.getD i default))))), (25, .one (.d (.sl false 22 1 (List.map slc22 (l))))), (26, .one (.d (.v (.int .i64 ((l.length : Int)))))), (27, .one (.d (.v (.int .i64 ((i : Int))))))] [([24, 0], (q13, q14, .row 9 1 (List.map strc ((l.take i).flatten))))]) [⟨[25, 27], some 29, [], []⟩, ⟨[29], some 30, [], []⟩, ⟨[30], some 8, [], []⟩] (fun k16 => ?_) ?_
     ·skip
      refine .indexAddr (.no rfl) rfl (i) t182 rfl t22 rfl rfl rfl (.d _ _) rfl rfl rfl (map_get (by omega)) rfl rfl ?_
      refine .load (.no rfl) rfl t22 rfl rfl (.d _) rfl rfl rfl rfl ?_
      refine .assign (.no rfl) rfl rfl rfl rfl ?_
      exact .fin () (.of (.cons rfl (.cons rfl (.cons rfl (.cons rfl (.cons rfl .nil))))) (.cons rfl .nil))
     intro _
     refine .reg (X := Nat) (fun ζ => .of [(6, .one (.ref [24, 0] (ζ))), (25, .one (.d (.sl false 22 1 (List.map slc22 (l))))), (26, .one (.d (.v (.int .i64 ((l.length : Int)))))), (27, .one (.d (.v (.int .i64 ((i : Int))))))] [([24, 0], (ζ, ζ, .row 9 1 (List.map strc ((l.take i).flatten ++ l.getD i default))))]) [⟨[6], some 31, [], []⟩, ⟨[8], some 32, [], []⟩, ⟨[31, 32], some 33, [[24, 0]], [[24, 0]]⟩, ⟨[33], some 6, [], []⟩] (fun k17 => ?_) ?_
     ·skip
      refine .move (.no rfl) rfl rfl rfl rfl ?_
      refine .move (.no rfl) rfl rfl rfl rfl ?_
      refine .append (.no rfl) rfl (l3 := List.map strc ((l.take i).flatten ++ l.getD i default)) t22 rfl z9 rfl rfl rfl rfl rfl rfl rfl rfl (.ref _ _ _ _ rfl) (.ro _ _) rfl (by simp only [List.length_map, flatten_lens, i9]; omega) (map_app _ _ _) rfl rfl ?_
      refine .assign (.no rfl) rfl rfl rfl rfl ?_
      exact .fin (k17 + 1 + 1) (.of (.cons rfl (.cons rfl (.cons rfl (.cons rfl .nil)))) (.cons rfl .nil))
     intro g18
     refine .reg (X := Unit) (fun ζ => .of [(6, .one (.ref [24, 0] (g18))), (25, .one (.d (.sl false 22 1 (List.map slc22 (l))))), (26, .one (.d (.v (.int .i64 ((l.length : Int)))))), (27, .one (.d (.v (.int .i64 (IntKind.wrap .i64 ((i : Int) + 1))))))] [([24, 0], (g18, g18, .row 9 1 (List.map strc ((l.take i).flatten ++ l.getD i default))))]) [⟨[27], some 34, [], []⟩, ⟨[34], some 27, [], []⟩] (fun k19 => ?_) ?_
     ·skip
      refine .bin (.no rfl) rfl rfl rfl rfl rfl rfl ?_
      refine .move (.no rfl) rfl rfl rfl rfl ?_
      exact .fin () (.of (.cons rfl (.cons rfl (.cons rfl (.cons rfl .nil)))) (.cons rfl .nil))
     intro _
     exact .here ((i + 1), g18, g18) (.of (.cons rfl (.cons rfl (.cons rfl (.cons (svI (show (IntKind.wrap .i64 ((i : Int) + 1)) = (((i + 1) : Int)) by first | rfl | omega | exact wrap_le (by omega) (by omega) | (rw [wrap_le (by omega) (by omega)]; omega))) .nil)))) (.cons (rowE (show List.map strc ((l.take i).flatten ++ l.getD i default) = List.map strc ((l.take (i + 1)).flatten) by first | (simp; done) | exact congrArg _ (take_flatten _ _))) .nil)) ⟨(show (i + 1) ≤ l.length by omega), (show l.length - (i + 1) < l.length - i by omega)⟩
    ·have c2 := of_decide_eq_false c2
     refine .exit ?_
     refine .seq ?_
     refine .reg (X := Unit) (fun ζ => .of [(2, .one (.ref [24, 0] (q13)))] [([24, 0], (q13, q14, .row 9 1 (List.map strc ((l.take i).flatten))))]) [⟨[6], some 35, [], []⟩, ⟨[35], some 2, [], []⟩] (fun k20 => ?_) ?_
     ·skip
      refine .move (.no rfl) rfl rfl rfl rfl ?_
      refine .assign (.no rfl) rfl rfl rfl rfl ?_
      exact .fin () (.of (.cons rfl .nil) (.cons rfl .nil))
     intro _
     refine .ret ?_
     have e21 : ((l.take i).flatten) = (l.flatten) := by (rw [List.take_of_length_le (by omega)])
     show _ ∧ _
     exact ⟨.inr rfl, .done ⟨_, [], [([24, 0], (q13, q14, .row 9 1 (List.map strc (l.flatten))))], _, .one rfl .nil, .cons (.ref (.head _)) .nil, nodupB_ok rfl, by simp, (AllH.get (.cons (rowE (congrArg (List.map strc) e21)) .nil))⟩⟩
theorem c_names (d : Decl) (hb : d.vars.length ≤ 1048576 ∧ d.flags.length ≤ 1048576 ∧ d.arrays.length ≤ 1048576) : Trip Tryz.prog 97 [(true, 3)] (Decl.c38 d) [(false, 1)] [.sl true 9 1 (List.map strc (Decl.names d))] [] := by
 refine Trip.of Tryz.func97 (by decide) (c := _) rfl rfl (shB_ok rfl) (Nat.le_of_ble_eq_true rfl) rfl (AftOk.nil _) ?_
 refine .satA (t := 0) (i := 0) rfl rfl (fun hs1 => ?_)
 have hs1l : d.vars.length ≤ 9223372036854775807 := hs1.maplen
 refine .satA (t := 0) (i := 1) rfl rfl (fun hs2 => ?_)
 have hs2l : d.flags.length ≤ 9223372036854775807 := hs2.maplen
 refine .satA (t := 0) (i := 2) rfl rfl (fun hs3 => ?_)
 have hs3l : d.arrays.length ≤ 9223372036854775807 := hs3.maplen
 refine .seq ?_
 refine .reg (X := Nat) (fun ζ => .of [(1, .one (.ptr [1] (ζ) 0))] [([1], (ζ, ζ, .box [.d (.sl false 9 1 (List.map strc (d.vars))), .d (.sl false 9 1 (List.map strc (d.flags))), .d (.sl false 119 2 (List.map Arr.c (d.arrays)))]))]) [⟨[0], some 1, [], [[1]]⟩, ⟨[], some 2, [], []⟩] (fun k4 => ?_) ?_
 ·skip
  refine .box (.no rfl) rfl rfl rfl rfl rfl ?_
  refine .assign (.no rfl) rfl rfl rfl rfl ?_
  exact .fin k4 (.of (.cons rfl .nil) (.cons rfl .nil))
 intro g5
 refine .seq ?_
 refine .reg (X := Nat) (fun ζ => .of [(1, .one (.ptr [1] (g5) 0)), (3, .one (.ref [11, 0] (ζ)))] [([1], (g5, g5, .box [.d (.sl false 9 1 (List.map strc (d.vars))), .d (.sl false 9 1 (List.map strc (d.flags))), .d (.sl false 119 2 (List.map Arr.c (d.arrays)))])), ([11, 0], (ζ, ζ, .row 9 1 (List.map strc ([d.vars, d.flags].flatten))))]) [⟨[1], some 6, [], []⟩, ⟨[6], some 7, [[1]], []⟩, ⟨[1], some 8, [], []⟩, ⟨[8], some 9, [[1]], []⟩, ⟨[7, 9], some 10, [], [[10]]⟩, ⟨[10], some 11, [[10]], [[11, 0]]⟩, ⟨[11], some 3, [], []⟩] (fun k6 => ?_) ?_
 ·skip
  refine .fieldAddrP (.no rfl) rfl t38 rfl rfl t22 rfl rfl rfl rfl ?_
  refine .load (.no rfl) rfl t22 rfl rfl (.ptr _ _ _ _ _ rfl) rfl rfl rfl rfl ?_
  refine .fieldAddrP (.no rfl) rfl t38 rfl rfl t22 rfl rfl rfl rfl ?_
  refine .load (.no rfl) rfl t22 rfl rfl (.ptr _ _ _ _ _ rfl) rfl rfl rfl rfl ?_
  refine .buildSlice (.no rfl) rfl (els := [[.sl false 9 1 (List.map strc (d.vars))], [.sl false 9 1 (List.map strc (d.flags))]]) t182 rfl z22 rfl rfl rfl rfl rfl rfl rfl rfl (by simp [i22]) (.cons _ _ _ _ _ _ (.d _) (.cons _ _ _ _ _ _ (.d _) .nil)) rfl rfl rfl ?_
  refine .call (.no rfl) rfl [[10]] [([10], (k6 + 1 + 1 + 1 + 1, k6 + 1 + 1 + 1 + 1, .row 22 1 ([[.sl false 9 1 (List.map strc (d.vars))], [.sl false 9 1 (List.map strc (d.flags))]])))] (c_Concat [d.vars, d.flags] (by (simp [lens]; omega))) rfl rfl rfl rfl rfl (.cons (Reads.ref (Frz.of_erase (erase_slo true 22 1 slc22 slc22 ([d.vars, d.flags]) slc22_e)) (.head _) (.head _)).gives .nil) rfl rfl (fun _ => (ownCons (Owned.map _ _ _ _ strc_o) ownNil)) (.own [11, 0] .nil) (.nil) rfl rfl rfl (AllH.get (.cons rfl .nil)) rfl rfl rfl ?_
  refine .assign (.no rfl) rfl rfl rfl rfl ?_
  exact .fin (k6 + 1 + 1 + 1 + 1 + 1) (.of (.cons rfl (.cons rfl .nil)) (.cons rfl (.cons rfl .nil)))
 intro g7
 refine .seq ?_
 refine .seq ?_
 refine .reg (X := Unit) (fun ζ => .of [(3, .one (.ref [11, 0] (g7))), (13, .one (.d (.sl false 119 2 (List.map Arr.c (d.arrays))))), (14, .one (.d (.v (.int .i64 ((d.arrays.length : Int)))))), (15, .one (.d (.v (.int .i64 (0)))))] [([11, 0], (g7, g7, .row 9 1 (List.map strc ([d.vars, d.flags].flatten))))]) [⟨[1], some 12, [], []⟩, ⟨[12], some 13, [[1]], []⟩, ⟨[13], some 14, [], []⟩, ⟨[], some 15, [], []⟩] (fun k8 => ?_) ?_
 ·skip
  refine .fieldAddrP (.no rfl) rfl t38 rfl rfl t36 rfl rfl rfl rfl ?_
  refine .load (.no rfl) rfl t36 rfl rfl (.ptr _ _ _ _ _ rfl) rfl rfl rfl rfl ?_
  refine .len (.no rfl) rfl (z := (d.arrays.length : Int)) t36 rfl rfl rfl (.d _ _) (map_len _ _) rfl ?_
  refine .move (.no rfl) rfl rfl rfl rfl ?_
  exact .fin () (.of (.cons rfl (.cons rfl (.cons rfl (.cons rfl .nil)))) (.cons rfl .nil))
 intro _
 refine .block ?_
 refine .loop (X := Nat × Nat × Nat) (fun ζ => .of [(3, .one (.ref [11, 0] (ζ.2.1))), (13, .one (.d (.sl false 119 2 (List.map Arr.c (d.arrays))))), (14, .one (.d (.v (.int .i64 ((d.arrays.length : Int)))))), (15, .one (.d (.v (.int .i64 ((ζ.1 : Int))))))] [([11, 0], (ζ.2.1, ζ.2.2, .row 9 1 (List.map strc (d.vars ++ d.flags ++ (d.arrays.take ζ.1).map Arr.name))))]) (fun ζ => ζ.1 ≤ d.arrays.length) (fun ζ => d.arrays.length - ζ.1) ?_ ?_
 ·skip
  exact .here (0, g7, g7) (.of (.cons rfl (.cons rfl (.cons rfl (.cons (svI (show (0) = ((0 : Int)) by first | rfl | omega | exact wrap_le (by omega) (by omega) | (rw [wrap_le (by omega) (by omega)]; omega))) .nil)))) (.cons (rowE (show List.map strc ([d.vars, d.flags].flatten) = List.map strc (d.vars ++ d.flags ++ (d.arrays.take 0).map Arr.name) by first | (simp; done) | (rw [List.append_assoc (d.vars ++ d.flags), take_step (f := Arr.name) (by omega)]))) .nil)) (show 0 ≤ d.arrays.length by omega)
 ·rintro ⟨j, q9, q10⟩ hI
  have hI : j ≤ d.arrays.length := hI
  refine .seq ?_
  refine .reg (X := Unit) (fun ζ => .of [(3, .one (.ref [11, 0] (q9))), (13, .one (.d (.sl false 119 2 (List.map Arr.c (d.arrays))))), (14, .one (.d (.v (.int .i64 ((d.arrays.length : Int)))))), (15, .one (.d (.v (.int .i64 ((j : Int)))))), (16, .one (.d (.v (.bool (decide ((j : Int) < (d.arrays.length : Int)))))))] [([11, 0], (q9, q10, .row 9 1 (List.map strc (d.vars ++ d.flags ++ (d.arrays.take j).map Arr.name))))]) [⟨[15, 14], some 16, [], []⟩] (fun k11 => ?_) ?_
  ·skip
   refine .bin (.no rfl) rfl rfl rfl rfl rfl rfl ?_
   exact .fin () (.of (.cons rfl (.cons rfl (.cons rfl (.cons rfl (.cons rfl .nil))))) (.cons rfl .nil))
  intro _
  refine .seq ?_
  refine .cond (t := decide ((j : Int) < (d.arrays.length : Int))) rfl (fun c0 => ?_) (fun c0 => ?_)
  ·have c0 := of_decide_eq_true c0
   refine .skip ?_
   refine .seq ?_
   refine .block ?_
   refine .seq ?_
   refine .reg (X := Nat × Nat) (fun ζ => .of [(3, .one (.ref [11, 0] (q9))), (5, .one (.ptr [5] (ζ.1) 0)), (13, .one (.d (.sl false 119 2 (List.map Arr.c (d.arrays))))), (14, .one (.d (.v (.int .i64 ((d.arrays.length : Int)))))), (15, .one (.d (.v (.int .i64 ((j : Int))))))] [([5], (ζ.1, ζ.2, .box [.d (.v (.string ((d.arrays.getD j default).name))), .d (.v (.int .i64 ((d.arrays.getD j default).size)))])), ([11, 0], (q9, q10, .row 9 1 (List.map strc (d.vars ++ d.flags ++ (d.arrays.take j).map Arr.name))))]) [⟨[13, 15], some 17, [], []⟩, ⟨[17], some 18, [], []⟩, ⟨[], some 5, [], [[5]]⟩, ⟨[5, 18], none, [[5]], [[5]]⟩] (fun k12 => ?_) ?_
   ·skip
    refine .indexAddr (.no rfl) rfl (j) t36 rfl t119 rfl rfl rfl (.d _ _) rfl rfl rfl (map_get (by omega)) rfl rfl ?_
    refine .load (.no rfl) rfl t119 rfl rfl (.d _) rfl rfl rfl rfl ?_
    refine .alloc (.no rfl) rfl z119 rfl rfl rfl ?_
    refine .store (.no rfl) rfl t119 rfl rfl rfl rfl rfl rfl rfl rfl rfl ?_
    exact .fin (k12 + 1 + 1, k12 + 1 + 1 + 1) (.of (.cons rfl (.cons rfl (.cons rfl (.cons rfl (.cons rfl .nil))))) (.cons rfl (.cons rfl .nil)))
   rintro ⟨g13, g14⟩
   refine .reg (X := Nat) (fun ζ => .of [(3, .one (.ref [11, 0] (ζ))), (13, .one (.d (.sl false 119 2 (List.map Arr.c (d.arrays))))), (14, .one (.d (.v (.int .i64 ((d.arrays.length : Int)))))), (15, .one (.d (.v (.int .i64 ((j : Int))))))] [([11, 0], (ζ, ζ, .row 9 1 (List.map strc (d.vars ++ d.flags ++ (d.arrays.take j).map Arr.name ++ [(d.arrays.getD j default).name]))))]) [⟨[3], some 19, [], []⟩, ⟨[5], some 20, [], []⟩, ⟨[20], some 21, [[5]], []⟩, ⟨[21], some 22, [], [[22]]⟩, ⟨[19, 22], some 23, [[11, 0], [22]], [[22], [11, 0]]⟩, ⟨[23], some 3, [], []⟩] (fun k15 => ?_) ?_
   ·skip
    refine .move (.no rfl) rfl rfl rfl rfl ?_
    refine .fieldAddrP (.no rfl) rfl t119 rfl rfl t9 rfl rfl rfl rfl ?_
    refine .load (.no rfl) rfl t9 rfl rfl (.ptr _ _ _ _ _ rfl) rfl rfl rfl rfl ?_
    refine .buildSlice (.no rfl) rfl (els := [[.v (.string ((d.arrays.getD j default).name))]]) t22 rfl z9 rfl rfl rfl rfl rfl rfl rfl rfl (by simp [i9]) (.cons _ _ _ _ _ _ (.d _) .nil) rfl rfl rfl ?_
    refine .append (.no rfl) rfl (l3 := List.map strc (d.vars ++ d.flags ++ (d.arrays.take j).map Arr.name ++ [(d.arrays.getD j default).name])) t22 rfl z9 rfl rfl rfl rfl rfl rfl rfl rfl (.ref _ _ _ _ rfl) (.take _ _ _ _ _ rfl) rfl (by simp [i9]; omega) (map_snoc _ _ _) rfl rfl ?_
    refine .assign (.no rfl) rfl rfl rfl rfl ?_
    exact .fin (k15 + 1 + 1 + 1 + 1) (.of (.cons rfl (.cons rfl (.cons rfl (.cons rfl .nil)))) (.cons rfl .nil))
   intro g16
   refine .reg (X := Unit) (fun ζ => .of [(3, .one (.ref [11, 0] (g16))), (13, .one (.d (.sl false 119 2 (List.map Arr.c (d.arrays))))), (14, .one (.d (.v (.int .i64 ((d.arrays.length : Int)))))), (15, .one (.d (.v (.int .i64 (IntKind.wrap .i64 ((j : Int) + 1))))))] [([11, 0], (g16, g16, .row 9 1 (List.map strc (d.vars ++ d.flags ++ (d.arrays.take j).map Arr.name ++ [(d.arrays.getD j default).name]))))]) [⟨[15], some 24, [], []⟩, ⟨[24], some 15, [], []⟩] (fun k17 => ?_) ?_
   ·skip
    refine .bin (.no rfl) rfl rfl rfl rfl rfl rfl ?_
    refine .move (.no rfl) rfl rfl rfl rfl ?_
    exact .fin () (.of (.cons rfl (.cons rfl (.cons rfl (.cons rfl .nil)))) (.cons rfl .nil))
   intro _
   exact .here ((j + 1), g16, g16) (.of (.cons rfl (.cons rfl (.cons rfl (.cons (svI (show (IntKind.wrap .i64 ((j : Int) + 1)) = (((j + 1) : Int)) by first | rfl | omega | exact wrap_le (by omega) (by omega) | (rw [wrap_le (by omega) (by omega)]; omega))) .nil)))) (.cons (rowE (show List.map strc (d.vars ++ d.flags ++ (d.arrays.take j).map Arr.name ++ [(d.arrays.getD j default).name]) = List.map strc (d.vars ++ d.flags ++ (d.arrays.take (j + 1)).map Arr.name) by first | (simp; done) | (rw [List.append_assoc (d.vars ++ d.flags), take_step (f := Arr.name) (by omega)]))) .nil)) ⟨(show (j + 1) ≤ d.arrays.length by omega), (show d.arrays.length - (j + 1) < d.arrays.length - j by omega)⟩
  ·have c0 := of_decide_eq_false c0
   refine .exit ?_
   refine .seq ?_
   refine .reg (X := Unit) (fun ζ => .of [(2, .one (.ref [11, 0] (q9)))] [([11, 0], (q9, q10, .row 9 1 (List.map strc (d.vars ++ d.flags ++ (d.arrays.take j).map Arr.name))))]) [⟨[3], some 25, [], []⟩, ⟨[25], some 2, [], []⟩] (fun k18 => ?_) ?_
   ·skip
    refine .move (.no rfl) rfl rfl rfl rfl ?_
    refine .assign (.no rfl) rfl rfl rfl rfl ?_
    exact .fin () (.of (.cons rfl .nil) (.cons rfl .nil))
   intro _
   refine .ret ?_
   have e19 : (d.vars ++ d.flags ++ (d.arrays.take j).map Arr.name) = (Decl.names d) := by (simp only [Decl.names]; rw [List.take_of_length_le (by omega)])
   show _ ∧ _
   exact ⟨.inr rfl, .done ⟨_, [], [([11, 0], (q9, q10, .row 9 1 (List.map strc (Decl.names d))))], _, .one rfl .nil, .cons (.ref (.head _)) .nil, nodupB_ok rfl, by simp, (AllH.get (.cons (rowE (congrArg (List.map strc) e19)) .nil))⟩⟩
end Go.Proofs

namespace Go.Proofs
open Go Go.Proofs Go.Ev

def i141 : TI := ⟨.fn, 1, 8, [.nilFunc]⟩
theorem t141 : TyOk Tryz.prog 141 i141 := ⟨⟨_, _, _, Tryz.underlying141⟩, by kernel_rfl⟩
theorem z141 : ZOk Tryz.prog 141 i141 := ⟨t141, rfl⟩
def i154 : TI := ⟨.fn, 1, 8, [.nilFunc]⟩
theorem t154 : TyOk Tryz.prog 154 i154 := ⟨⟨_, _, _, Tryz.underlying154⟩, by kernel_rfl⟩
theorem z154 : ZOk Tryz.prog 154 i154 := ⟨t154, rfl⟩
theorem c_IvOk (a : Iv) : Trip Tryz.prog 157 [(true, 2)] (Iv.c a) [(false, 1)] [.v (.bool (Iv.ok a))] [] := by
 refine Trip.of Tryz.func157 (by decide) (c := _) rfl rfl (shB_ok rfl) (Nat.le_of_ble_eq_true rfl) rfl (AftOk.nil _) ?_
 refine .seq ?_
 refine .reg (X := Nat) (fun ζ => .of [(1, .one (.ptr [1] (ζ) 0))] [([1], (ζ, ζ, .box [.d (.v (.int .i64 (a.lo))), .d (.v (.int .i64 (a.hi)))]))]) [⟨[0], some 1, [], [[1]]⟩, ⟨[], some 2, [], []⟩] (fun k1 => ?_) ?_
 ·skip
  refine .box (.no rfl) rfl rfl rfl rfl rfl ?_
  refine .assign (.no rfl) rfl rfl rfl rfl ?_
  exact .fin k1 (.of (.cons rfl .nil) (.cons rfl .nil))
 intro g2
 refine .seq ?_
 refine .reg (X := Unit) (fun ζ => .of [(2, .one (.d (.v (.bool (decide (a.lo ≤ a.hi))))))] []) [⟨[1], some 3, [], []⟩, ⟨[3], some 4, [[1]], []⟩, ⟨[1], some 5, [], []⟩, ⟨[5], some 6, [[1]], []⟩, ⟨[4, 6], some 7, [], []⟩, ⟨[7], some 2, [], []⟩] (fun k3 => ?_) ?_
 ·skip
  refine .fieldAddrP (.no rfl) rfl t122 rfl rfl t2 rfl rfl rfl rfl ?_
  refine .load (.no rfl) rfl t2 rfl rfl (.ptr _ _ _ _ _ rfl) rfl rfl rfl rfl ?_
  refine .fieldAddrP (.no rfl) rfl t122 rfl rfl t2 rfl rfl rfl rfl ?_
  refine .load (.no rfl) rfl t2 rfl rfl (.ptr _ _ _ _ _ rfl) rfl rfl rfl rfl ?_
  refine .bin (.no rfl) rfl rfl rfl rfl rfl rfl ?_
  refine .assign (.no rfl) rfl rfl rfl rfl ?_
  exact .fin () (.of (.cons rfl .nil) .nil)
 intro _
 refine .ret ?_
 have e4 : (decide (a.lo ≤ a.hi)) = (Iv.ok a) := by rfl
 have hc5 := eq1 (fun z1 => SV.one (.d (.v (.bool (z1))))) e4
 show _ ∧ _
 exact ⟨.inr rfl, .done ⟨_, [], [], _, .one (c := .d (.v (.bool (Iv.ok a)))) (hc5) .nil, .cons (Reads.d _).gives .nil, nodupB_ok rfl, by simp, (by simp)⟩⟩
theorem c_IndexFuncA (l : List Arr) (F_p : FuncId) (first_p : List (Bool × List D)) (caps_p : List D) (p : Arr → Bool) (h_p : ∀ (x0 : Arr), FnTrip Tryz.prog F_p first_p caps_p [(true, 2)] (Arr.c x0) [(false, 1)] [.v (.bool (p x0))]) : Trip Tryz.prog 161 [(false, 1), (false, 1)] ([.sl false 119 2 (List.map Arr.c (l))] ++ [.fn F_p first_p caps_p]) [(false, 1)] [.v (.int .i64 (idx p l))] [] := by
 refine Trip.of Tryz.func161 (by decide) (c := _) rfl rfl (shB_ok rfl) (Nat.le_of_ble_eq_true rfl) rfl (AftOk.nil _) ?_
 refine .sat (t := 0) rfl (fun hs1 => ?_)
 have hs1l : l.length ≤ 9223372036854775807 := hs1.maplen
 refine .seq ?_
 refine .reg (X := Unit) (fun ζ => .of [(0, .one (.d (.sl false 119 2 (List.map Arr.c (l))))), (1, .one (.d (.fn F_p first_p caps_p)))] []) [⟨[], some 4, [], []⟩] (fun k2 => ?_) ?_
 ·skip
  refine .assign (.no rfl) rfl rfl rfl rfl ?_
  exact .fin () (.of (.cons rfl (.cons rfl .nil)) .nil)
 intro _
 refine .seq ?_
 refine .seq ?_
 refine .reg (X := Unit) (fun ζ => .of [(0, .one (.d (.sl false 119 2 (List.map Arr.c (l))))), (1, .one (.d (.fn F_p first_p caps_p))), (7, .one (.d (.v (.int .i64 ((l.length : Int)))))), (8, .one (.d (.v (.int .i64 (0)))))] []) [⟨[0], some 6, [], []⟩, ⟨[6], some 7, [], []⟩, ⟨[], some 8, [], []⟩] (fun k3 => ?_) ?_
 ·skip
  refine .move (.no rfl) rfl rfl rfl rfl ?_
  refine .len (.no rfl) rfl (z := (l.length : Int)) t36 rfl rfl rfl (.d _ _) (map_len _ _) rfl ?_
  refine .move (.no rfl) rfl rfl rfl rfl ?_
  exact .fin () (.of (.cons rfl (.cons rfl (.cons rfl (.cons rfl .nil)))) .nil)
 intro _
 refine .block ?_
 refine .loop (X := Nat) (fun ζ => .of [(0, .one (.d (.sl false 119 2 (List.map Arr.c (l))))), (1, .one (.d (.fn F_p first_p caps_p))), (7, .one (.d (.v (.int .i64 ((l.length : Int)))))), (8, .one (.d (.v (.int .i64 ((ζ : Int))))))] []) (fun ζ => ζ ≤ l.length ∧ allTo ζ (fun i => !p (l.getD i default)) = true) (fun ζ => l.length - ζ) ?_ ?_
 ·skip
  exact .here 0 (.of (.cons rfl (.cons rfl (.cons rfl (.cons (svI (show (0) = ((0 : Int)) by first | rfl | omega | exact wrap_le (by omega) (by omega) | (rw [wrap_le (by omega) (by omega)]; omega))) .nil)))) .nil) (show 0 ≤ l.length ∧ allTo 0 (fun i => !p (l.getD i default)) = true by exact ⟨by omega, rfl⟩)
 ·rintro j hI
  have hI : j ≤ l.length ∧ allTo j (fun i => !p (l.getD i default)) = true := hI
  refine .seq ?_
  refine .reg (X := Unit) (fun ζ => .of [(0, .one (.d (.sl false 119 2 (List.map Arr.c (l))))), (1, .one (.d (.fn F_p first_p caps_p))), (7, .one (.d (.v (.int .i64 ((l.length : Int)))))), (8, .one (.d (.v (.int .i64 ((j : Int)))))), (9, .one (.d (.v (.bool (decide ((j : Int) < (l.length : Int)))))))] []) [⟨[8, 7], some 9, [], []⟩] (fun k4 => ?_) ?_
  ·skip
   refine .bin (.no rfl) rfl rfl rfl rfl rfl rfl ?_
   exact .fin () (.of (.cons rfl (.cons rfl (.cons rfl (.cons rfl (.cons rfl .nil))))) .nil)
  intro _
  refine .seq ?_
  refine .cond (t := decide ((j : Int) < (l.length : Int))) rfl (fun c0 => ?_) (fun c0 => ?_)
  ·have c0 := of_decide_eq_true c0
   refine .skip ?_
   refine .seq ?_
   refine .block ?_
   refine .seq ?_
   refine .reg (X := Unit) (fun ζ => .of [(0, .one (.d (.sl false 119 2 (List.map Arr.c (l))))), (1, .one (.d (.fn F_p first_p caps_p))), (5, .one (.d (.v (.int .i64 ((j : Int)))))), (7, .one (.d (.v (.int .i64 ((l.length : Int)))))), (8, .one (.d (.v (.int .i64 ((j : Int))))))] []) [⟨[8], some 10, [], []⟩, ⟨[10], some 5, [], []⟩] (fun k5 => ?_) ?_
   ·skip
    refine .move (.no rfl) rfl rfl rfl rfl ?_
    refine .assign (.no rfl) rfl rfl rfl rfl ?_
    exact .fin () (.of (.cons rfl (.cons rfl (.cons rfl (.cons rfl (.cons rfl .nil))))) .nil)
   intro _
   refine .seq ?_
   refine .reg (X := Unit) (fun ζ => .of [(0, .one (.d (.sl false 119 2 (List.map Arr.c (l))))), (1, .one (.d (.fn F_p first_p caps_p))), (5, .one (.d (.v (.int .i64 ((j : Int)))))), (7, .one (.d (.v (.int .i64 ((l.length : Int)))))), (8, .one (.d (.v (.int .i64 ((j : Int)))))), (16, .one (.d (.v (.bool (p (l.getD j default))))))] []) [⟨[1], some 11, [], []⟩, ⟨[0], some 12, [], []⟩, ⟨[5], some 13, [], []⟩, ⟨[12, 13], some 14, [], []⟩, ⟨[14], some 15, [], []⟩, ⟨[11, 15], some 16, [], []⟩] (fun k6 => ?_) ?_
   ·skip
    refine .move (.no rfl) rfl rfl rfl rfl ?_
    refine .move (.no rfl) rfl rfl rfl rfl ?_
    refine .move (.no rfl) rfl rfl rfl rfl ?_
    refine .indexAddr (.no rfl) rfl (j) t36 rfl t119 rfl rfl rfl (.d _ _) rfl rfl rfl (map_get (by omega)) rfl rfl ?_
    refine .load (.no rfl) rfl t119 rfl rfl (.d _) rfl rfl rfl rfl ?_
    refine .callF (.no rfl) rfl (ds := [.v (.string ((l.getD j default).name)), .v (.int .i64 ((l.getD j default).size))]) (h_p (l.getD j default)) rfl rfl rfl rfl (.own [16, 0] .nil) rfl rfl rfl rfl rfl rfl ?_
    exact .fin () (.of (.cons rfl (.cons rfl (.cons rfl (.cons rfl (.cons rfl (.cons rfl .nil)))))) .nil)
   intro _
   refine .cond (t := p (l.getD j default)) rfl (fun c1 => ?_) (fun c1 => ?_)
   ·have c1 := c1
    refine .seq ?_
    refine .reg (X := Unit) (fun ζ => .of [(4, .one (.d (.v (.int .i64 ((j : Int))))))] []) [⟨[5], some 17, [], []⟩, ⟨[17], some 4, [], []⟩] (fun k7 => ?_) ?_
    ·skip
     refine .move (.no rfl) rfl rfl rfl rfl ?_
     refine .assign (.no rfl) rfl rfl rfl rfl ?_
     exact .fin () (.of (.cons rfl .nil) .nil)
    intro _
    refine .ret ?_
    have e8 : ((j : Int)) = (idx p l) := by exact (idx_found (j := j) (by omega) hI.2 (by simpa using c1)).symm
    have hc9 := eq1 (fun z1 => SV.one (.d (.v (.int .i64 (z1))))) e8
    show _ ∧ _
    exact ⟨.inr rfl, .done ⟨_, [], [], _, .one (c := .d (.v (.int .i64 (idx p l)))) (hc9) .nil, .cons (Reads.d _).gives .nil, nodupB_ok rfl, by simp, (by simp)⟩⟩
   ·have c1 := c1
    refine .skip ?_
    refine .reg (X := Unit) (fun ζ => .of [(0, .one (.d (.sl false 119 2 (List.map Arr.c (l))))), (1, .one (.d (.fn F_p first_p caps_p))), (7, .one (.d (.v (.int .i64 ((l.length : Int)))))), (8, .one (.d (.v (.int .i64 (IntKind.wrap .i64 ((j : Int) + 1))))))] []) [⟨[8], some 18, [], []⟩, ⟨[18], some 8, [], []⟩] (fun k10 => ?_) ?_
    ·skip
     refine .bin (.no rfl) rfl rfl rfl rfl rfl rfl ?_
     refine .move (.no rfl) rfl rfl rfl rfl ?_
     exact .fin () (.of (.cons rfl (.cons rfl (.cons rfl (.cons rfl .nil)))) .nil)
    intro _
    exact .here (j + 1) (.of (.cons rfl (.cons rfl (.cons rfl (.cons (svI (show (IntKind.wrap .i64 ((j : Int) + 1)) = (((j + 1) : Int)) by first | rfl | omega | exact wrap_le (by omega) (by omega) | (rw [wrap_le (by omega) (by omega)]; omega))) .nil)))) .nil) ⟨(show (j + 1) ≤ l.length ∧ allTo (j + 1) (fun i => !p (l.getD i default)) = true by exact ⟨by omega, allTo_step hI.2 (by simpa using c1)⟩), (show l.length - (j + 1) < l.length - j by omega)⟩
  ·have c0 := of_decide_eq_false c0
   refine .exit ?_
   refine .seq ?_
   refine .reg (X := Unit) (fun ζ => .of [(4, .one (.d (.v (.int .i64 (-1)))))] []) [⟨[], some 4, [], []⟩] (fun k11 => ?_) ?_
   ·skip
    refine .assign (.no rfl) rfl rfl rfl rfl ?_
    exact .fin () (.of (.cons rfl .nil) .nil)
   intro _
   refine .ret ?_
   have e12 : (-1) = (idx p l) := by exact (idx_none (by omega) hI.2).symm
   have hc13 := eq1 (fun z1 => SV.one (.d (.v (.int .i64 (z1))))) e12
   show _ ∧ _
   exact ⟨.inr rfl, .done ⟨_, [], [], _, .one (c := .d (.v (.int .i64 (idx p l)))) (hc13) .nil, .cons (Reads.d _).gives .nil, nodupB_ok rfl, by simp, (by simp)⟩⟩
theorem c_ContainsFuncA (l : List Arr) (F_p : FuncId) (first_p : List (Bool × List D)) (caps_p : List D) (p : Arr → Bool) (h_p : ∀ (x0 : Arr), FnTrip Tryz.prog F_p first_p caps_p [(true, 2)] (Arr.c x0) [(false, 1)] [.v (.bool (p x0))]) : Trip Tryz.prog 132 [(false, 1), (false, 1)] ([.sl false 119 2 (List.map Arr.c (l))] ++ [.fn F_p first_p caps_p]) [(false, 1)] [.v (.bool (l.any p))] [] := by
 refine Trip.of Tryz.func132 (by decide) (c := _) rfl rfl (shB_ok rfl) (Nat.le_of_ble_eq_true rfl) rfl (AftOk.nil _) ?_
 refine .sat (t := 0) rfl (fun hs1 => ?_)
 have hs1l : l.length ≤ 9223372036854775807 := hs1.maplen
 refine .seq ?_
 refine .reg (X := Unit) (fun ζ => .of [(0, .one (.d (.sl false 119 2 (List.map Arr.c (l))))), (1, .one (.d (.fn F_p first_p caps_p)))] []) [⟨[], some 4, [], []⟩] (fun k2 => ?_) ?_
 ·skip
  refine .assign (.no rfl) rfl rfl rfl rfl ?_
  exact .fin () (.of (.cons rfl (.cons rfl .nil)) .nil)
 intro _
 refine .seq ?_
 refine .reg (X := Unit) (fun ζ => .of [(4, .one (.d (.v (.bool (decide ((idx p l) ≥ 0))))))] []) [⟨[0], some 5, [], []⟩, ⟨[1], some 6, [], []⟩, ⟨[5, 6], some 7, [], []⟩, ⟨[7], some 8, [], []⟩, ⟨[8], some 4, [], []⟩] (fun k3 => ?_) ?_
 ·skip
  refine .move (.no rfl) rfl rfl rfl rfl ?_
  refine .move (.no rfl) rfl rfl rfl rfl ?_
  refine .call (.no rfl) rfl [] [] (c_IndexFuncA l F_p first_p caps_p p h_p) rfl rfl rfl rfl rfl (.cons (Reads.d _).gives (.cons (Reads.d _).gives .nil)) rfl rfl (fun h => absurd rfl h) (.own [7, 0] .nil) (.nil) rfl rfl rfl (by simp) rfl rfl rfl ?_
  refine .bin (.no rfl) rfl rfl rfl rfl rfl rfl ?_
  refine .assign (.no rfl) rfl rfl rfl rfl ?_
  exact .fin () (.of (.cons rfl .nil) .nil)
 intro _
 refine .ret ?_
 have e4 : (decide ((idx p l) ≥ 0)) = (l.any p) := by exact idx_any _ _
 have hc5 := eq1 (fun z1 => SV.one (.d (.v (.bool (z1))))) e4
 show _ ∧ _
 exact ⟨.inr rfl, .done ⟨_, [], [], _, .one (c := .d (.v (.bool (l.any p)))) (hc5) .nil, .cons (Reads.d _).gives .nil, nodupB_ok rfl, by simp, (by simp)⟩⟩
theorem c_areAll1A (x : Arr) (F_p : FuncId) (first_p : List (Bool × List D)) (caps_p : List D) (p : Arr → Bool) (h_p : ∀ (x0 : Arr), FnTrip Tryz.prog F_p first_p caps_p [(true, 2)] (Arr.c x0) [(false, 1)] [.v (.bool (p x0))]) : Trip Tryz.prog 133 [(true, 2), (false, 1)] (Arr.c x ++ [.pt false [.fn F_p first_p caps_p]]) [(false, 1)] [.v (.bool (!p x))] [] := by
 refine Trip.of Tryz.func133 (by decide) (c := _) rfl rfl (shB_ok rfl) (Nat.le_of_ble_eq_true rfl) rfl (AftOk.nil _) ?_
 refine .seq ?_
 refine .reg (X := Nat) (fun ζ => .of [(1, .one (.d (.pt false [.fn F_p first_p caps_p]))), (2, .one (.ptr [2] (ζ) 0))] [([2], (ζ, ζ, .box [.d (.v (.string (x.name))), .d (.v (.int .i64 (x.size)))]))]) [⟨[0], some 2, [], [[2]]⟩, ⟨[], some 3, [], []⟩] (fun k1 => ?_) ?_
 ·skip
  refine .box (.no rfl) rfl rfl rfl rfl rfl ?_
  refine .assign (.no rfl) rfl rfl rfl rfl ?_
  exact .fin k1 (.of (.cons rfl (.cons rfl .nil)) (.cons rfl .nil))
 intro g2
 refine .seq ?_
 refine .reg (X := Unit) (fun ζ => .of [(3, .one (.d (.v (.bool (!(p x))))))] []) [⟨[1], some 4, [], []⟩, ⟨[2], some 5, [[2]], []⟩, ⟨[4, 5], some 6, [], []⟩, ⟨[6], some 7, [], []⟩, ⟨[7], some 3, [], []⟩] (fun k3 => ?_) ?_
 ·skip
  refine .load (.no rfl) rfl t141 rfl rfl (.d _) rfl rfl rfl rfl ?_
  refine .load (.no rfl) rfl t119 rfl rfl (.ptr _ _ _ _ _ rfl) rfl rfl rfl rfl ?_
  refine .callF (.no rfl) rfl (ds := [.v (.string (x.name)), .v (.int .i64 (x.size))]) (h_p x) rfl rfl rfl rfl (.own [6, 0] .nil) rfl rfl rfl rfl rfl rfl ?_
  refine .un (.no rfl) rfl rfl rfl rfl rfl ?_
  refine .assign (.no rfl) rfl rfl rfl rfl ?_
  exact .fin () (.of (.cons rfl .nil) .nil)
 intro _
 refine .ret ?_
 have e4 : (!(p x)) = (!p x) := by rfl
 have hc5 := eq1 (fun z1 => SV.one (.d (.v (.bool (z1))))) e4
 show _ ∧ _
 exact ⟨.inr rfl, .done ⟨_, [], [], _, .one (c := .d (.v (.bool (!p x)))) (hc5) .nil, .cons (Reads.d _).gives .nil, nodupB_ok rfl, by simp, (by simp)⟩⟩
theorem c_areAllA (l : List Arr) (F_p : FuncId) (first_p : List (Bool × List D)) (caps_p : List D) (p : Arr → Bool) (h_p : ∀ (x0 : Arr), FnTrip Tryz.prog F_p first_p caps_p [(true, 2)] (Arr.c x0) [(false, 1)] [.v (.bool (p x0))]) : Trip Tryz.prog 102 [(false, 1), (false, 1)] ([.sl false 119 2 (List.map Arr.c (l))] ++ [.fn F_p first_p caps_p]) [(false, 1)] [.v (.bool (l.all p))] [] := by
 refine Trip.of Tryz.func102 (by decide) (c := _) rfl rfl (shB_ok rfl) (Nat.le_of_ble_eq_true rfl) rfl (AftOk.nil _) ?_
 refine .sat (t := 0) rfl (fun hs1 => ?_)
 have hs1l : l.length ≤ 9223372036854775807 := hs1.maplen
 refine .seq ?_
 refine .reg (X := Nat) (fun ζ => .of [(0, .one (.d (.sl false 119 2 (List.map Arr.c (l))))), (3, .one (.ptr [3] (ζ) 0))] [([3], (ζ, ζ, .box [.d (.fn F_p first_p caps_p)]))]) [⟨[1], some 3, [], [[3]]⟩, ⟨[], some 4, [], []⟩] (fun k2 => ?_) ?_
 ·skip
  refine .box (.no rfl) rfl rfl rfl rfl rfl ?_
  refine .assign (.no rfl) rfl rfl rfl rfl ?_
  exact .fin k2 (.of (.cons rfl (.cons rfl .nil)) (.cons rfl .nil))
 intro g3
 refine .seq ?_
 refine .reg (X := Unit) (fun ζ => .of [(4, .one (.d (.v (.bool (!(l.any (fun x0 => !p x0)))))))] []) [⟨[0], some 5, [], []⟩, ⟨[3], some 6, [], []⟩, ⟨[5, 6], some 7, [[3]], []⟩, ⟨[7], some 8, [], []⟩, ⟨[8], some 4, [], []⟩] (fun k4 => ?_) ?_
 ·skip
  refine .move (.no rfl) rfl rfl rfl rfl ?_
  refine .makeFunc (.no rfl) rfl rfl rfl rfl rfl ?_
  refine .call (.no rfl) rfl [[3]] [([3], (g3, g3, .box [.d (.fn F_p first_p caps_p)]))] (c_ContainsFuncA l 133 [] [.pt false [.fn F_p first_p caps_p]] (fun x0 => !p x0) (fun x0 => c_areAll1A x0 F_p first_p caps_p p h_p)) rfl rfl rfl rfl rfl (.cons (Reads.d _).gives (.cons (Reads.clo0 (.cons (Reads.ptr0 (.head _) (.head _) (.cons (Reads.d _) .nil)) .nil)).gives .nil)) rfl rfl (fun _ => (ownCons (Owned.v _) ownNil)) (.own [7, 0] .nil) (.nil) rfl rfl rfl (AllH.get (.cons rfl .nil)) rfl rfl rfl ?_
  refine .un (.no rfl) rfl rfl rfl rfl rfl ?_
  refine .assign (.no rfl) rfl rfl rfl rfl ?_
  exact .fin () (.of (.cons rfl .nil) .nil)
 intro _
 refine .ret ?_
 have e5 : (!(l.any (fun x0 => !p x0))) = (l.all p) := by exact not_any _ _
 have hc6 := eq1 (fun z1 => SV.one (.d (.v (.bool (z1))))) e5
 show _ ∧ _
 exact ⟨.inr rfl, .done ⟨_, [], [], _, .one (c := .d (.v (.bool (l.all p)))) (hc6) .nil, .cons (Reads.d _).gives .nil, nodupB_ok rfl, by simp, (by simp)⟩⟩
theorem c_IndexFuncI (l : List Iv) (F_p : FuncId) (first_p : List (Bool × List D)) (caps_p : List D) (p : Iv → Bool) (h_p : ∀ (x0 : Iv), FnTrip Tryz.prog F_p first_p caps_p [(true, 2)] (Iv.c x0) [(false, 1)] [.v (.bool (p x0))]) : Trip Tryz.prog 179 [(false, 1), (false, 1)] ([.sl false 122 2 (List.map Iv.c (l))] ++ [.fn F_p first_p caps_p]) [(false, 1)] [.v (.int .i64 (idx p l))] [] := by
 refine Trip.of Tryz.func179 (by decide) (c := _) rfl rfl (shB_ok rfl) (Nat.le_of_ble_eq_true rfl) rfl (AftOk.nil _) ?_
 refine .sat (t := 0) rfl (fun hs1 => ?_)
 have hs1l : l.length ≤ 9223372036854775807 := hs1.maplen
 refine .seq ?_
 refine .reg (X := Unit) (fun ζ => .of [(0, .one (.d (.sl false 122 2 (List.map Iv.c (l))))), (1, .one (.d (.fn F_p first_p caps_p)))] []) [⟨[], some 4, [], []⟩] (fun k2 => ?_) ?_
 ·skip
  refine .assign (.no rfl) rfl rfl rfl rfl ?_
  exact .fin () (.of (.cons rfl (.cons rfl .nil)) .nil)
 intro _
 refine .seq ?_
 refine .seq ?_
 refine .reg (X := Unit) (fun ζ => .of [(0, .one (.d (.sl false 122 2 (List.map Iv.c (l))))), (1, .one (.d (.fn F_p first_p caps_p))), (7, .one (.d (.v (.int .i64 ((l.length : Int)))))), (8, .one (.d (.v (.int .i64 (0)))))] []) [⟨[0], some 6, [], []⟩, ⟨[6], some 7, [], []⟩, ⟨[], some 8, [], []⟩] (fun k3 => ?_) ?_
 ·skip
  refine .move (.no rfl) rfl rfl rfl rfl ?_
  refine .len (.no rfl) rfl (z := (l.length : Int)) t75 rfl rfl rfl (.d _ _) (map_len _ _) rfl ?_
  refine .move (.no rfl) rfl rfl rfl rfl ?_
  exact .fin () (.of (.cons rfl (.cons rfl (.cons rfl (.cons rfl .nil)))) .nil)
 intro _
 refine .block ?_
 refine .loop (X := Nat) (fun ζ => .of [(0, .one (.d (.sl false 122 2 (List.map Iv.c (l))))), (1, .one (.d (.fn F_p first_p caps_p))), (7, .one (.d (.v (.int .i64 ((l.length : Int)))))), (8, .one (.d (.v (.int .i64 ((ζ : Int))))))] []) (fun ζ => ζ ≤ l.length ∧ allTo ζ (fun i => !p (l.getD i default)) = true) (fun ζ => l.length - ζ) ?_ ?_
 ·skip
  exact .here 0 (.of (.cons rfl (.cons rfl (.cons rfl (.cons (svI (show (0) = ((0 : Int)) by first | rfl | omega | exact wrap_le (by omega) (by omega) | (rw [wrap_le (by omega) (by omega)]; omega))) .nil)))) .nil) (show 0 ≤ l.length ∧ allTo 0 (fun i => !p (l.getD i default)) = true by exact ⟨by omega, rfl⟩)
 ·rintro j hI
  have hI : j ≤ l.length ∧ allTo j (fun i => !p (l.getD i default)) = true := hI
  refine .seq ?_
  refine .reg (X := Unit) (fun ζ => .of [(0, .one (.d (.sl false 122 2 (List.map Iv.c (l))))), (1, .one (.d (.fn F_p first_p caps_p))), (7, .one (.d (.v (.int .i64 ((l.length : Int)))))), (8, .one (.d (.v (.int .i64 ((j : Int)))))), (9, .one (.d (.v (.bool (decide ((j : Int) < (l.length : Int)))))))] []) [⟨[8, 7], some 9, [], []⟩] (fun k4 => ?_) ?_
  ·skip
   refine .bin (.no rfl) rfl rfl rfl rfl rfl rfl ?_
   exact .fin () (.of (.cons rfl (.cons rfl (.cons rfl (.cons rfl (.cons rfl .nil))))) .nil)
  intro _
  refine .seq ?_
  refine .cond (t := decide ((j : Int) < (l.length : Int))) rfl (fun c0 => ?_) (fun c0 => ?_)
  ·have c0 := of_decide_eq_true c0
   refine .skip ?_
   refine .seq ?_
   refine .block ?_
   refine .seq ?_
   refine .reg (X := Unit) (fun ζ => .of [(0, .one (.d (.sl false 122 2 (List.map Iv.c (l))))), (1, .one (.d (.fn F_p first_p caps_p))), (5, .one (.d (.v (.int .i64 ((j : Int)))))), (7, .one (.d (.v (.int .i64 ((l.length : Int)))))), (8, .one (.d (.v (.int .i64 ((j : Int))))))] []) [⟨[8], some 10, [], []⟩, ⟨[10], some 5, [], []⟩] (fun k5 => ?_) ?_
   ·skip
    refine .move (.no rfl) rfl rfl rfl rfl ?_
    refine .assign (.no rfl) rfl rfl rfl rfl ?_
    exact .fin () (.of (.cons rfl (.cons rfl (.cons rfl (.cons rfl (.cons rfl .nil))))) .nil)
   intro _
   refine .seq ?_
   refine .reg (X := Unit) (fun ζ => .of [(0, .one (.d (.sl false 122 2 (List.map Iv.c (l))))), (1, .one (.d (.fn F_p first_p caps_p))), (5, .one (.d (.v (.int .i64 ((j : Int)))))), (7, .one (.d (.v (.int .i64 ((l.length : Int)))))), (8, .one (.d (.v (.int .i64 ((j : Int)))))), (16, .one (.d (.v (.bool (p (l.getD j default))))))] []) [⟨[1], some 11, [], []⟩, ⟨[0], some 12, [], []⟩, ⟨[5], some 13, [], []⟩, ⟨[12, 13], some 14, [], []⟩, ⟨[14], some 15, [], []⟩, ⟨[11, 15], some 16, [], []⟩] (fun k6 => ?_) ?_
   ·skip
    refine .move (.no rfl) rfl rfl rfl rfl ?_
    refine .move (.no rfl) rfl rfl rfl rfl ?_
    refine .move (.no rfl) rfl rfl rfl rfl ?_
    refine .indexAddr (.no rfl) rfl (j) t75 rfl t122 rfl rfl rfl (.d _ _) rfl rfl rfl (map_get (by omega)) rfl rfl ?_
    refine .load (.no rfl) rfl t122 rfl rfl (.d _) rfl rfl rfl rfl ?_
    refine .callF (.no rfl) rfl (ds := [.v (.int .i64 ((l.getD j default).lo)), .v (.int .i64 ((l.getD j default).hi))]) (h_p (l.getD j default)) rfl rfl rfl rfl (.own [16, 0] .nil) rfl rfl rfl rfl rfl rfl ?_
    exact .fin () (.of (.cons rfl (.cons rfl (.cons rfl (.cons rfl (.cons rfl (.cons rfl .nil)))))) .nil)
   intro _
   refine .cond (t := p (l.getD j default)) rfl (fun c1 => ?_) (fun c1 => ?_)
   ·have c1 := c1
    refine .seq ?_
    refine .reg (X := Unit) (fun ζ => .of [(4, .one (.d (.v (.int .i64 ((j : Int))))))] []) [⟨[5], some 17, [], []⟩, ⟨[17], some 4, [], []⟩] (fun k7 => ?_) ?_
    ·skip
     refine .move (.no rfl) rfl rfl rfl rfl ?_
     refine .assign (.no rfl) rfl rfl rfl rfl ?_
     exact .fin () (.of (.cons rfl .nil) .nil)
    intro _
    refine .ret ?_
    have e8 : ((j : Int)) = (idx p l) := by exact (idx_found (j := j) (by omega) hI.2 (by simpa using c1)).symm
    have hc9 := eq1 (fun z1 => SV.one (.d (.v (.int .i64 (z1))))) e8
    show _ ∧ _
    exact ⟨.inr rfl, .done ⟨_, [], [], _, .one (c := .d (.v (.int .i64 (idx p l)))) (hc9) .nil, .cons (Reads.d _).gives .nil, nodupB_ok rfl, by simp, (by simp)⟩⟩
   ·have c1 := c1
    refine .skip ?_
    refine .reg (X := Unit) (fun ζ => .of [(0, .one (.d (.sl false 122 2 (List.map Iv.c (l))))), (1, .one (.d (.fn F_p first_p caps_p))), (7, .one (.d (.v (.int .i64 ((l.length : Int)))))), (8, .one (.d (.v (.int .i64 (IntKind.wrap .i64 ((j : Int) + 1))))))] []) [⟨[8], some 18, [], []⟩, ⟨[18], some 8, [], []⟩] (fun k10 => ?_) ?_
    ·skip
     refine .bin (.no rfl) rfl rfl rfl rfl rfl rfl ?_
     refine .move (.no rfl) rfl rfl rfl rfl ?_
     exact .fin () (.of (.cons rfl (.cons rfl (.cons rfl (.cons rfl .nil)))) .nil)
    intro _
    exact .here (j + 1) (.of (.cons rfl (.cons rfl (.cons rfl (.cons (svI (show (IntKind.wrap .i64 ((j : Int) + 1)) = (((j + 1) : Int)) by first | rfl | omega | exact wrap_le (by omega) (by omega) | (rw [wrap_le (by omega) (by omega)]; omega))) .nil)))) .nil) ⟨(show (j + 1) ≤ l.length ∧ allTo (j + 1) (fun i => !p (l.getD i default)) = true by exact ⟨by omega, allTo_step hI.2 (by simpa using c1)⟩), (show l.length - (j + 1) < l.length - j by omega)⟩
  ·have c0 := of_decide_eq_false c0
   refine .exit ?_
   refine .seq ?_
   refine .reg (X := Unit) (fun ζ => .of [(4, .one (.d (.v (.int .i64 (-1)))))] []) [⟨[], some 4, [], []⟩] (fun k11 => ?_) ?_
   ·skip
    refine .assign (.no rfl) rfl rfl rfl rfl ?_
    exact .fin () (.of (.cons rfl .nil) .nil)
   intro _
   refine .ret ?_
   have e12 : (-1) = (idx p l) := by exact (idx_none (by omega) hI.2).symm
   have hc13 := eq1 (fun z1 => SV.one (.d (.v (.int .i64 (z1))))) e12
   show _ ∧ _
   exact ⟨.inr rfl, .done ⟨_, [], [], _, .one (c := .d (.v (.int .i64 (idx p l)))) (hc13) .nil, .cons (Reads.d _).gives .nil, nodupB_ok rfl, by simp, (by simp)⟩⟩
theorem c_ContainsFuncI (l : List Iv) (F_p : FuncId) (first_p : List (Bool × List D)) (caps_p : List D) (p : Iv → Bool) (h_p : ∀ (x0 : Iv), FnTrip Tryz.prog F_p first_p caps_p [(true, 2)] (Iv.c x0) [(false, 1)] [.v (.bool (p x0))]) : Trip Tryz.prog 173 [(false, 1), (false, 1)] ([.sl false 122 2 (List.map Iv.c (l))] ++ [.fn F_p first_p caps_p]) [(false, 1)] [.v (.bool (l.any p))] [] := by
 refine Trip.of Tryz.func173 (by decide) (c := _) rfl rfl (shB_ok rfl) (Nat.le_of_ble_eq_true rfl) rfl (AftOk.nil _) ?_
 refine .sat (t := 0) rfl (fun hs1 => ?_)
 have hs1l : l.length ≤ 9223372036854775807 := hs1.maplen
 refine .seq ?_
 refine .reg (X := Unit) (fun ζ => .of [(0, .one (.d (.sl false 122 2 (List.map Iv.c (l))))), (1, .one (.d (.fn F_p first_p caps_p)))] []) [⟨[], some 4, [], []⟩] (fun k2 => ?_) ?_
 ·skip
  refine .assign (.no rfl) rfl rfl rfl rfl ?_
  exact .fin () (.of (.cons rfl (.cons rfl .nil)) .nil)
 intro _
 refine .seq ?_
 refine .reg (X := Unit) (fun ζ => .of [(4, .one (.d (.v (.bool (decide ((idx p l) ≥ 0))))))] []) [⟨[0], some 5, [], []⟩, ⟨[1], some 6, [], []⟩, ⟨[5, 6], some 7, [], []⟩, ⟨[7], some 8, [], []⟩, ⟨[8], some 4, [], []⟩] (fun k3 => ?_) ?_
 ·skip
  refine .move (.no rfl) rfl rfl rfl rfl ?_
  refine .move (.no rfl) rfl rfl rfl rfl ?_
  refine .call (.no rfl) rfl [] [] (c_IndexFuncI l F_p first_p caps_p p h_p) rfl rfl rfl rfl rfl (.cons (Reads.d _).gives (.cons (Reads.d _).gives .nil)) rfl rfl (fun h => absurd rfl h) (.own [7, 0] .nil) (.nil) rfl rfl rfl (by simp) rfl rfl rfl ?_
  refine .bin (.no rfl) rfl rfl rfl rfl rfl rfl ?_
  refine .assign (.no rfl) rfl rfl rfl rfl ?_
  exact .fin () (.of (.cons rfl .nil) .nil)
 intro _
 refine .ret ?_
 have e4 : (decide ((idx p l) ≥ 0)) = (l.any p) := by exact idx_any _ _
 have hc5 := eq1 (fun z1 => SV.one (.d (.v (.bool (z1))))) e4
 show _ ∧ _
 exact ⟨.inr rfl, .done ⟨_, [], [], _, .one (c := .d (.v (.bool (l.any p)))) (hc5) .nil, .cons (Reads.d _).gives .nil, nodupB_ok rfl, by simp, (by simp)⟩⟩
theorem c_areAll1I (x : Iv) (F_p : FuncId) (first_p : List (Bool × List D)) (caps_p : List D) (p : Iv → Bool) (h_p : ∀ (x0 : Iv), FnTrip Tryz.prog F_p first_p caps_p [(true, 2)] (Iv.c x0) [(false, 1)] [.v (.bool (p x0))]) : Trip Tryz.prog 174 [(true, 2), (false, 1)] (Iv.c x ++ [.pt false [.fn F_p first_p caps_p]]) [(false, 1)] [.v (.bool (!p x))] [] := by
 refine Trip.of Tryz.func174 (by decide) (c := _) rfl rfl (shB_ok rfl) (Nat.le_of_ble_eq_true rfl) rfl (AftOk.nil _) ?_
 refine .seq ?_
 refine .reg (X := Nat) (fun ζ => .of [(1, .one (.d (.pt false [.fn F_p first_p caps_p]))), (2, .one (.ptr [2] (ζ) 0))] [([2], (ζ, ζ, .box [.d (.v (.int .i64 (x.lo))), .d (.v (.int .i64 (x.hi)))]))]) [⟨[0], some 2, [], [[2]]⟩, ⟨[], some 3, [], []⟩] (fun k1 => ?_) ?_
 ·skip
  refine .box (.no rfl) rfl rfl rfl rfl rfl ?_
  refine .assign (.no rfl) rfl rfl rfl rfl ?_
  exact .fin k1 (.of (.cons rfl (.cons rfl .nil)) (.cons rfl .nil))
 intro g2
 refine .seq ?_
 refine .reg (X := Unit) (fun ζ => .of [(3, .one (.d (.v (.bool (!(p x))))))] []) [⟨[1], some 4, [], []⟩, ⟨[2], some 5, [[2]], []⟩, ⟨[4, 5], some 6, [], []⟩, ⟨[6], some 7, [], []⟩, ⟨[7], some 3, [], []⟩] (fun k3 => ?_) ?_
 ·skip
  refine .load (.no rfl) rfl t154 rfl rfl (.d _) rfl rfl rfl rfl ?_
  refine .load (.no rfl) rfl t122 rfl rfl (.ptr _ _ _ _ _ rfl) rfl rfl rfl rfl ?_
  refine .callF (.no rfl) rfl (ds := [.v (.int .i64 (x.lo)), .v (.int .i64 (x.hi))]) (h_p x) rfl rfl rfl rfl (.own [6, 0] .nil) rfl rfl rfl rfl rfl rfl ?_
  refine .un (.no rfl) rfl rfl rfl rfl rfl ?_
  refine .assign (.no rfl) rfl rfl rfl rfl ?_
  exact .fin () (.of (.cons rfl .nil) .nil)
 intro _
 refine .ret ?_
 have e4 : (!(p x)) = (!p x) := by rfl
 have hc5 := eq1 (fun z1 => SV.one (.d (.v (.bool (z1))))) e4
 show _ ∧ _
 exact ⟨.inr rfl, .done ⟨_, [], [], _, .one (c := .d (.v (.bool (!p x)))) (hc5) .nil, .cons (Reads.d _).gives .nil, nodupB_ok rfl, by simp, (by simp)⟩⟩
theorem c_areAllI (l : List Iv) (F_p : FuncId) (first_p : List (Bool × List D)) (caps_p : List D) (p : Iv → Bool) (h_p : ∀ (x0 : Iv), FnTrip Tryz.prog F_p first_p caps_p [(true, 2)] (Iv.c x0) [(false, 1)] [.v (.bool (p x0))]) : Trip Tryz.prog 156 [(false, 1), (false, 1)] ([.sl false 122 2 (List.map Iv.c (l))] ++ [.fn F_p first_p caps_p]) [(false, 1)] [.v (.bool (l.all p))] [] := by
 refine Trip.of Tryz.func156 (by decide) (c := _) rfl rfl (shB_ok rfl) (Nat.le_of_ble_eq_true rfl) rfl (AftOk.nil _) ?_
 refine .sat (t := 0) rfl (fun hs1 => ?_)
 have hs1l : l.length ≤ 9223372036854775807 := hs1.maplen
 refine .seq ?_
 refine .reg (X := Nat) (fun ζ => .of [(0, .one (.d (.sl false 122 2 (List.map Iv.c (l))))), (3, .one (.ptr [3] (ζ) 0))] [([3], (ζ, ζ, .box [.d (.fn F_p first_p caps_p)]))]) [⟨[1], some 3, [], [[3]]⟩, ⟨[], some 4, [], []⟩] (fun k2 => ?_) ?_
 ·skip
  refine .box (.no rfl) rfl rfl rfl rfl rfl ?_
  refine .assign (.no rfl) rfl rfl rfl rfl ?_
  exact .fin k2 (.of (.cons rfl (.cons rfl .nil)) (.cons rfl .nil))
 intro g3
 refine .seq ?_
 refine .reg (X := Unit) (fun ζ => .of [(4, .one (.d (.v (.bool (!(l.any (fun x0 => !p x0)))))))] []) [⟨[0], some 5, [], []⟩, ⟨[3], some 6, [], []⟩, ⟨[5, 6], some 7, [[3]], []⟩, ⟨[7], some 8, [], []⟩, ⟨[8], some 4, [], []⟩] (fun k4 => ?_) ?_
 ·skip
  refine .move (.no rfl) rfl rfl rfl rfl ?_
  refine .makeFunc (.no rfl) rfl rfl rfl rfl rfl ?_
  refine .call (.no rfl) rfl [[3]] [([3], (g3, g3, .box [.d (.fn F_p first_p caps_p)]))] (c_ContainsFuncI l 174 [] [.pt false [.fn F_p first_p caps_p]] (fun x0 => !p x0) (fun x0 => c_areAll1I x0 F_p first_p caps_p p h_p)) rfl rfl rfl rfl rfl (.cons (Reads.d _).gives (.cons (Reads.clo0 (.cons (Reads.ptr0 (.head _) (.head _) (.cons (Reads.d _) .nil)) .nil)).gives .nil)) rfl rfl (fun _ => (ownCons (Owned.v _) ownNil)) (.own [7, 0] .nil) (.nil) rfl rfl rfl (AllH.get (.cons rfl .nil)) rfl rfl rfl ?_
  refine .un (.no rfl) rfl rfl rfl rfl rfl ?_
  refine .assign (.no rfl) rfl rfl rfl rfl ?_
  exact .fin () (.of (.cons rfl .nil) .nil)
 intro _
 refine .ret ?_
 have e5 : (!(l.any (fun x0 => !p x0))) = (l.all p) := by exact not_any _ _
 have hc6 := eq1 (fun z1 => SV.one (.d (.v (.bool (z1))))) e5
 show _ ∧ _
 exact ⟨.inr rfl, .done ⟨_, [], [], _, .one (c := .d (.v (.bool (l.all p)))) (hc6) .nil, .cons (Reads.d _).gives .nil, nodupB_ok rfl, by simp, (by simp)⟩⟩
theorem c_isLetter (c : Int) : Trip Tryz.prog 129 [(false, 1)] ([.v (.int .u8 (c))]) [(false, 1)] [.v (.bool (decide (c ≥ 97) && decide (c ≤ 122)))] [] := by
 refine Trip.of Tryz.func129 (by decide) (c := _) rfl rfl (shB_ok rfl) (Nat.le_of_ble_eq_true rfl) rfl (AftOk.nil _) ?_
 refine .seq ?_
 refine .reg (X := Unit) (fun ζ => .of [(0, .one (.d (.v (.int .u8 (c)))))] []) [⟨[], some 2, [], []⟩] (fun k1 => ?_) ?_
 ·skip
  refine .assign (.no rfl) rfl rfl rfl rfl ?_
  exact .fin () (.of (.cons rfl .nil) .nil)
 intro _
 refine .seq ?_
 refine .reg (X := Unit) (fun ζ => .of [(2, .one (.d (.v (.bool ((decide (c ≥ 97) && decide (c ≤ 122)))))))] []) [⟨[0], some 3, [], []⟩, ⟨[3], some 4, [], []⟩, ⟨[4], some 5, [], []⟩, ⟨[5, 0], some 6, [], []⟩, ⟨[5, 6], some 7, [], []⟩, ⟨[5, 7], some 8, [], []⟩, ⟨[8], some 2, [], []⟩] (fun k2 => ?_) ?_
 ·skip
  refine .move (.no rfl) rfl rfl rfl rfl ?_
  refine .bin (.no rfl) rfl rfl rfl rfl rfl rfl ?_
  refine .moveB (.no rfl) rfl rfl rfl rfl fun b3 g1_2 => ?_
  cases b3
  ·skip
   refine .off rfl rfl rfl rfl rfl rfl rfl ?_
   refine .off rfl rfl rfl rfl rfl rfl rfl ?_
   refine .pick (.no rfl) rfl rfl rfl rfl rfl ?_
   refine .assign (.no rfl) rfl rfl rfl rfl ?_
   exact .fin () (.of (.cons (svB (show (false) = ((decide (c ≥ 97) && decide (c ≤ 122))) by first | (simp only [g1_2, Bool.true_or, Bool.false_or, Bool.true_and, Bool.false_and, Bool.not_true, Bool.not_false]; done) | simp [g1_2])) .nil) .nil)
  ·skip
   refine .move (.on rfl rfl rfl rfl rfl) rfl rfl rfl rfl ?_
   refine .bin (.on rfl rfl rfl rfl rfl) rfl rfl rfl rfl rfl rfl ?_
   refine .pick (.no rfl) rfl rfl rfl rfl rfl ?_
   refine .assign (.no rfl) rfl rfl rfl rfl ?_
   exact .fin () (.of (.cons (svB (show (decide (c ≤ 122)) = ((decide (c ≥ 97) && decide (c ≤ 122))) by first | (simp only [g1_2, Bool.true_or, Bool.false_or, Bool.true_and, Bool.false_and, Bool.not_true, Bool.not_false]; done) | simp [g1_2])) .nil) .nil)
 intro _
 refine .ret ?_
 have e4 : ((decide (c ≥ 97) && decide (c ≤ 122))) = (decide (c ≥ 97) && decide (c ≤ 122)) := by rfl
 have hc5 := eq1 (fun z1 => SV.one (.d (.v (.bool (z1))))) e4
 show _ ∧ _
 exact ⟨.inr rfl, .done ⟨_, [], [], _, .one (c := .d (.v (.bool (decide (c ≥ 97) && decide (c ≤ 122))))) (hc5) .nil, .cons (Reads.d _).gives .nil, nodupB_ok rfl, by simp, (by simp)⟩⟩
theorem c_within (n : Int) (lo : Int) (hi : Int) : Trip Tryz.prog 101 [(false, 1), (false, 1), (false, 1)] ([.v (.int .i64 (n))] ++ [.v (.int .i64 (lo))] ++ [.v (.int .i64 (hi))]) [(false, 1)] [.v (.bool (inR n lo hi))] [] := by
 refine Trip.of Tryz.func101 (by decide) (c := _) rfl rfl (shB_ok rfl) (Nat.le_of_ble_eq_true rfl) rfl (AftOk.nil _) ?_
 refine .seq ?_
 refine .reg (X := Unit) (fun ζ => .of [(0, .one (.d (.v (.int .i64 (n))))), (1, .one (.d (.v (.int .i64 (lo))))), (2, .one (.d (.v (.int .i64 (hi)))))] []) [⟨[], some 6, [], []⟩] (fun k1 => ?_) ?_
 ·skip
  refine .assign (.no rfl) rfl rfl rfl rfl ?_
  exact .fin () (.of (.cons rfl (.cons rfl (.cons rfl .nil))) .nil)
 intro _
 refine .seq ?_
 refine .reg (X := Unit) (fun ζ => .of [(6, .one (.d (.v (.bool ((decide (lo ≤ n) && decide (n ≤ hi)))))))] []) [⟨[1], some 7, [], []⟩, ⟨[0], some 8, [], []⟩, ⟨[7, 8], some 9, [], []⟩, ⟨[9], some 10, [], []⟩, ⟨[10, 0], some 11, [], []⟩, ⟨[10, 2], some 12, [], []⟩, ⟨[10, 11, 12], some 13, [], []⟩, ⟨[10, 13], some 14, [], []⟩, ⟨[14], some 6, [], []⟩] (fun k2 => ?_) ?_
 ·skip
  refine .move (.no rfl) rfl rfl rfl rfl ?_
  refine .move (.no rfl) rfl rfl rfl rfl ?_
  refine .bin (.no rfl) rfl rfl rfl rfl rfl rfl ?_
  refine .moveB (.no rfl) rfl rfl rfl rfl fun b3 g1_3 => ?_
  cases b3
  ·skip
   refine .off rfl rfl rfl rfl rfl rfl rfl ?_
   refine .off rfl rfl rfl rfl rfl rfl rfl ?_
   refine .off rfl rfl rfl rfl rfl rfl rfl ?_
   refine .pick (.no rfl) rfl rfl rfl rfl rfl ?_
   refine .assign (.no rfl) rfl rfl rfl rfl ?_
   exact .fin () (.of (.cons (svB (show (false) = ((decide (lo ≤ n) && decide (n ≤ hi))) by first | (simp only [g1_3, Bool.true_or, Bool.false_or, Bool.true_and, Bool.false_and, Bool.not_true, Bool.not_false]; done) | simp [g1_3])) .nil) .nil)
  ·skip
   refine .move (.on rfl rfl rfl rfl rfl) rfl rfl rfl rfl ?_
   refine .move (.on rfl rfl rfl rfl rfl) rfl rfl rfl rfl ?_
   refine .bin (.on rfl rfl rfl rfl rfl) rfl rfl rfl rfl rfl rfl ?_
   refine .pick (.no rfl) rfl rfl rfl rfl rfl ?_
   refine .assign (.no rfl) rfl rfl rfl rfl ?_
   exact .fin () (.of (.cons (svB (show (decide (n ≤ hi)) = ((decide (lo ≤ n) && decide (n ≤ hi))) by first | (simp only [g1_3, Bool.true_or, Bool.false_or, Bool.true_and, Bool.false_and, Bool.not_true, Bool.not_false]; done) | simp [g1_3])) .nil) .nil)
 intro _
 refine .ret ?_
 have e4 : ((decide (lo ≤ n) && decide (n ≤ hi))) = (inR n lo hi) := by rfl
 have hc5 := eq1 (fun z1 => SV.one (.d (.v (.bool (z1))))) e4
 show _ ∧ _
 exact ⟨.inr rfl, .done ⟨_, [], [], _, .one (c := .d (.v (.bool (inR n lo hi)))) (hc5) .nil, .cons (Reads.d _).gives .nil, nodupB_ok rfl, by simp, (by simp)⟩⟩
theorem c_IndexS (l : List ByteArray) (s : ByteArray) : Trip Tryz.prog 131 [(false, 1), (false, 1)] ([.sl false 9 1 (List.map strc (l))] ++ [.v (.string (s))]) [(false, 1)] [.v (.int .i64 (idx (fun x => strEq s x) l))] [] := by
 refine Trip.of Tryz.func131 (by decide) (c := _) rfl rfl (shB_ok rfl) (Nat.le_of_ble_eq_true rfl) rfl (AftOk.nil _) ?_
 refine .sat (t := 0) rfl (fun hs1 => ?_)
 have hs1l : l.length ≤ 9223372036854775807 := hs1.maplen
 refine .seq ?_
 refine .reg (X := Unit) (fun ζ => .of [(0, .one (.d (.sl false 9 1 (List.map strc (l))))), (1, .one (.d (.v (.string (s)))))] []) [⟨[], some 4, [], []⟩] (fun k2 => ?_) ?_
 ·skip
  refine .assign (.no rfl) rfl rfl rfl rfl ?_
  exact .fin () (.of (.cons rfl (.cons rfl .nil)) .nil)
 intro _
 refine .seq ?_
 refine .seq ?_
 refine .reg (X := Unit) (fun ζ => .of [(0, .one (.d (.sl false 9 1 (List.map strc (l))))), (1, .one (.d (.v (.string (s))))), (7, .one (.d (.v (.int .i64 ((l.length : Int)))))), (8, .one (.d (.v (.int .i64 (0)))))] []) [⟨[0], some 6, [], []⟩, ⟨[6], some 7, [], []⟩, ⟨[], some 8, [], []⟩] (fun k3 => ?_) ?_
 ·skip
  refine .move (.no rfl) rfl rfl rfl rfl ?_
  refine .len (.no rfl) rfl (z := (l.length : Int)) t22 rfl rfl rfl (.d _ _) (map_len _ _) rfl ?_
  refine .move (.no rfl) rfl rfl rfl rfl ?_
  exact .fin () (.of (.cons rfl (.cons rfl (.cons rfl (.cons rfl .nil)))) .nil)
 intro _
 refine .block ?_
 refine .loop (X := Nat) (fun ζ => .of [(0, .one (.d (.sl false 9 1 (List.map strc (l))))), (1, .one (.d (.v (.string (s))))), (7, .one (.d (.v (.int .i64 ((l.length : Int)))))), (8, .one (.d (.v (.int .i64 ((ζ : Int))))))] []) (fun ζ => ζ ≤ l.length ∧ allTo ζ (fun i => !strEq s (l.getD i default)) = true) (fun ζ => l.length - ζ) ?_ ?_
 ·skip
  exact .here 0 (.of (.cons rfl (.cons rfl (.cons rfl (.cons (svI (show (0) = ((0 : Int)) by first | rfl | omega | exact wrap_le (by omega) (by omega) | (rw [wrap_le (by omega) (by omega)]; omega))) .nil)))) .nil) (show 0 ≤ l.length ∧ allTo 0 (fun i => !strEq s (l.getD i default)) = true by exact ⟨by omega, rfl⟩)
 ·rintro j hI
  have hI : j ≤ l.length ∧ allTo j (fun i => !strEq s (l.getD i default)) = true := hI
  refine .seq ?_
  refine .reg (X := Unit) (fun ζ => .of [(0, .one (.d (.sl false 9 1 (List.map strc (l))))), (1, .one (.d (.v (.string (s))))), (7, .one (.d (.v (.int .i64 ((l.length : Int)))))), (8, .one (.d (.v (.int .i64 ((j : Int)))))), (9, .one (.d (.v (.bool (decide ((j : Int) < (l.length : Int)))))))] []) [⟨[8, 7], some 9, [], []⟩] (fun k4 => ?_) ?_
  ·skip
   refine .bin (.no rfl) rfl rfl rfl rfl rfl rfl ?_
   exact .fin () (.of (.cons rfl (.cons rfl (.cons rfl (.cons rfl (.cons rfl .nil))))) .nil)
  intro _
  refine .seq ?_
  refine .cond (t := decide ((j : Int) < (l.length : Int))) rfl (fun c0 => ?_) (fun c0 => ?_)
  ·have c0 := of_decide_eq_true c0
   refine .skip ?_
   refine .seq ?_
   refine .block ?_
   refine .seq ?_
   refine .reg (X := Unit) (fun ζ => .of [(0, .one (.d (.sl false 9 1 (List.map strc (l))))), (1, .one (.d (.v (.string (s))))), (5, .one (.d (.v (.int .i64 ((j : Int)))))), (7, .one (.d (.v (.int .i64 ((l.length : Int)))))), (8, .one (.d (.v (.int .i64 ((j : Int))))))] []) [⟨[8], some 10, [], []⟩, ⟨[10], some 5, [], []⟩] (fun k5 => ?_) ?_
   ·skip
    refine .move (.no rfl) rfl rfl rfl rfl ?_
    refine .assign (.no rfl) rfl rfl rfl rfl ?_
    exact .fin () (.of (.cons rfl (.cons rfl (.cons rfl (.cons rfl (.cons rfl .nil))))) .nil)
   intro _
   refine .seq ?_
   refine .reg (X := Unit) (fun ζ => .of [(0, .one (.d (.sl false 9 1 (List.map strc (l))))), (1, .one (.d (.v (.string (s))))), (5, .one (.d (.v (.int .i64 ((j : Int)))))), (7, .one (.d (.v (.int .i64 ((l.length : Int)))))), (8, .one (.d (.v (.int .i64 ((j : Int)))))), (16, .one (.d (.v (.bool (s.toList == (l.getD j default).toList)))))] []) [⟨[1], some 11, [], []⟩, ⟨[0], some 12, [], []⟩, ⟨[5], some 13, [], []⟩, ⟨[12, 13], some 14, [], []⟩, ⟨[14], some 15, [], []⟩, ⟨[11, 15], some 16, [], []⟩] (fun k6 => ?_) ?_
   ·skip
    refine .move (.no rfl) rfl rfl rfl rfl ?_
    refine .move (.no rfl) rfl rfl rfl rfl ?_
    refine .move (.no rfl) rfl rfl rfl rfl ?_
    refine .indexAddr (.no rfl) rfl (j) t22 rfl t9 rfl rfl rfl (.d _ _) rfl rfl rfl (map_get (by omega)) rfl rfl ?_
    refine .load (.no rfl) rfl t9 rfl rfl (.d _) rfl rfl rfl rfl ?_
    refine .bin (.no rfl) rfl rfl rfl rfl rfl rfl ?_
    exact .fin () (.of (.cons rfl (.cons rfl (.cons rfl (.cons rfl (.cons rfl (.cons rfl .nil)))))) .nil)
   intro _
   refine .cond (t := s.toList == (l.getD j default).toList) rfl (fun c1 => ?_) (fun c1 => ?_)
   ·have c1 := c1
    refine .seq ?_
    refine .reg (X := Unit) (fun ζ => .of [(4, .one (.d (.v (.int .i64 ((j : Int))))))] []) [⟨[5], some 17, [], []⟩, ⟨[17], some 4, [], []⟩] (fun k7 => ?_) ?_
    ·skip
     refine .move (.no rfl) rfl rfl rfl rfl ?_
     refine .assign (.no rfl) rfl rfl rfl rfl ?_
     exact .fin () (.of (.cons rfl .nil) .nil)
    intro _
    refine .ret ?_
    have e8 : ((j : Int)) = (idx (fun x => strEq s x) l) := by exact (idx_found (p := fun x => strEq s x) (by omega) hI.2 c1).symm
    have hc9 := eq1 (fun z1 => SV.one (.d (.v (.int .i64 (z1))))) e8
    show _ ∧ _
    exact ⟨.inr rfl, .done ⟨_, [], [], _, .one (c := .d (.v (.int .i64 (idx (fun x => strEq s x) l)))) (hc9) .nil, .cons (Reads.d _).gives .nil, nodupB_ok rfl, by simp, (by simp)⟩⟩
   ·have c1 := c1
    refine .skip ?_
    refine .reg (X := Unit) (fun ζ => .of [(0, .one (.d (.sl false 9 1 (List.map strc (l))))), (1, .one (.d (.v (.string (s))))), (7, .one (.d (.v (.int .i64 ((l.length : Int)))))), (8, .one (.d (.v (.int .i64 (IntKind.wrap .i64 ((j : Int) + 1))))))] []) [⟨[8], some 18, [], []⟩, ⟨[18], some 8, [], []⟩] (fun k10 => ?_) ?_
    ·skip
     refine .bin (.no rfl) rfl rfl rfl rfl rfl rfl ?_
     refine .move (.no rfl) rfl rfl rfl rfl ?_
     exact .fin () (.of (.cons rfl (.cons rfl (.cons rfl (.cons rfl .nil)))) .nil)
    intro _
    exact .here (j + 1) (.of (.cons rfl (.cons rfl (.cons rfl (.cons (svI (show (IntKind.wrap .i64 ((j : Int) + 1)) = (((j + 1) : Int)) by first | rfl | omega | exact wrap_le (by omega) (by omega) | (rw [wrap_le (by omega) (by omega)]; omega))) .nil)))) .nil) ⟨(show (j + 1) ≤ l.length ∧ allTo (j + 1) (fun i => !strEq s (l.getD i default)) = true by exact ⟨by omega, allTo_step hI.2 (by rw [show strEq s (l.getD j default) = false from c1]; rfl)⟩), (show l.length - (j + 1) < l.length - j by omega)⟩
  ·have c0 := of_decide_eq_false c0
   refine .exit ?_
   refine .seq ?_
   refine .reg (X := Unit) (fun ζ => .of [(4, .one (.d (.v (.int .i64 (-1)))))] []) [⟨[], some 4, [], []⟩] (fun k11 => ?_) ?_
   ·skip
    refine .assign (.no rfl) rfl rfl rfl rfl ?_
    exact .fin () (.of (.cons rfl .nil) .nil)
   intro _
   refine .ret ?_
   have e12 : (-1) = (idx (fun x => strEq s x) l) := by exact (idx_none (p := fun x => strEq s x) (by omega) hI.2).symm
   have hc13 := eq1 (fun z1 => SV.one (.d (.v (.int .i64 (z1))))) e12
   show _ ∧ _
   exact ⟨.inr rfl, .done ⟨_, [], [], _, .one (c := .d (.v (.int .i64 (idx (fun x => strEq s x) l)))) (hc13) .nil, .cons (Reads.d _).gives .nil, nodupB_ok rfl, by simp, (by simp)⟩⟩
theorem c_ContainsS (l : List ByteArray) (s : ByteArray) : Trip Tryz.prog 99 [(false, 1), (false, 1)] ([.sl false 9 1 (List.map strc (l))] ++ [.v (.string (s))]) [(false, 1)] [.v (.bool (l.any fun x => strEq s x))] [] := by
 refine Trip.of Tryz.func99 (by decide) (c := _) rfl rfl (shB_ok rfl) (Nat.le_of_ble_eq_true rfl) rfl (AftOk.nil _) ?_
 refine .sat (t := 0) rfl (fun hs1 => ?_)
 have hs1l : l.length ≤ 9223372036854775807 := hs1.maplen
 refine .seq ?_
 refine .reg (X := Unit) (fun ζ => .of [(0, .one (.d (.sl false 9 1 (List.map strc (l))))), (1, .one (.d (.v (.string (s)))))] []) [⟨[], some 4, [], []⟩] (fun k2 => ?_) ?_
 ·skip
  refine .assign (.no rfl) rfl rfl rfl rfl ?_
  exact .fin () (.of (.cons rfl (.cons rfl .nil)) .nil)
 intro _
 refine .seq ?_
 refine .reg (X := Unit) (fun ζ => .of [(4, .one (.d (.v (.bool (decide ((idx (fun x => strEq s x) l) ≥ 0))))))] []) [⟨[0], some 5, [], []⟩, ⟨[1], some 6, [], []⟩, ⟨[5, 6], some 7, [], []⟩, ⟨[7], some 8, [], []⟩, ⟨[8], some 4, [], []⟩] (fun k3 => ?_) ?_
 ·skip
  refine .move (.no rfl) rfl rfl rfl rfl ?_
  refine .move (.no rfl) rfl rfl rfl rfl ?_
  refine .call (.no rfl) rfl [] [] (c_IndexS l s) rfl rfl rfl rfl rfl (.cons (Reads.d _).gives (.cons (Reads.d _).gives .nil)) rfl rfl (fun h => absurd rfl h) (.own [7, 0] .nil) (.nil) rfl rfl rfl (by simp) rfl rfl rfl ?_
  refine .bin (.no rfl) rfl rfl rfl rfl rfl rfl ?_
  refine .assign (.no rfl) rfl rfl rfl rfl ?_
  exact .fin () (.of (.cons rfl .nil) .nil)
 intro _
 refine .ret ?_
 have e4 : (decide ((idx (fun x => strEq s x) l) ≥ 0)) = (l.any fun x => strEq s x) := by exact idx_any _ _
 have hc5 := eq1 (fun z1 => SV.one (.d (.v (.bool (z1))))) e4
 show _ ∧ _
 exact ⟨.inr rfl, .done ⟨_, [], [], _, .one (c := .d (.v (.bool (l.any fun x => strEq s x)))) (hc5) .nil, .cons (Reads.d _).gives .nil, nodupB_ok rfl, by simp, (by simp)⟩⟩
theorem asciiTab {W : World} {Z : Nat → Prop} (h : Laid W Z) : ∀ c : Nat, c < 256 → W.cell? ⟨0, c, none⟩ = some (.int .u8 (if Lib.isSp (UInt8.ofNat c) then 1 else 0)) := fun c hc => by
  obtain ⟨_, h2⟩ := h _ (List.mem_singleton.2 rfl)
  obtain ⟨v, h3, h4⟩ := h2 c (.v (.int .u8 (if Lib.isSp (UInt8.ofNat c) then 1 else 0))) (by simp [hc])
  cases h4; exact h3
def words : ByteArray := (⟨#[118, 97, 114, 32, 102, 108, 97, 103, 32, 97, 114, 114, 97, 121, 32, 105, 102, 32, 102, 111, 114, 107, 32, 101, 108, 115, 101, 32, 101, 110, 100, 32, 119, 104, 105, 108, 101, 32, 117, 110, 114, 111, 108, 108, 32, 97, 115, 115, 101, 114, 116, 32, 97, 115, 115, 117, 109, 101, 32, 105, 110, 112, 117, 116, 32, 115, 112, 108, 105, 116, 32, 109, 101, 114, 103, 101, 32, 116, 114, 117, 101, 32, 102, 97, 108, 115, 101]⟩ : ByteArray)
theorem words_ascii : ∀ (j : Nat) b, words.data.toList[j]? = some b → b.toNat < 128 := fun j b h => by
  have h1 : (words.data.toList.all fun b => decide (b.toNat < 128)) = true := by kernel_rfl
  exact of_decide_eq_true (List.all_eq_true.1 h1 b (List.mem_of_getElem? h))
theorem words_fields : Lib.fields words.data.toList = keys.map fun k => k.data.toList := by kernel_rfl
theorem c_Fields : Trip Tryz.prog 160 [(false, 1)] ([.v (.string (⟨#[118, 97, 114, 32, 102, 108, 97, 103, 32, 97, 114, 114, 97, 121, 32, 105, 102, 32, 102, 111, 114, 107, 32, 101, 108, 115, 101, 32, 101, 110, 100, 32, 119, 104, 105, 108, 101, 32, 117, 110, 114, 111, 108, 108, 32, 97, 115, 115, 101, 114, 116, 32, 97, 115, 115, 117, 109, 101, 32, 105, 110, 112, 117, 116, 32, 115, 112, 108, 105, 116, 32, 109, 101, 114, 103, 101, 32, 116, 114, 117, 101, 32, 102, 97, 108, 115, 101]⟩ : ByteArray))]) [(false, 1)] [.sl true 9 1 (List.map strc (keys))] [] := by
  have h := Trip.row1 (P := Tryz.prog) (f := 160) (x := .string words) (cs := keys.map .string) (e := 9) ⟨_, Tryz.func160, by decide, by decide⟩ rfl (by intro v hv; obtain ⟨s, _, rfl⟩ := List.mem_map.1 hv; rfl) (by decide) fun W Z hL _ =>
    (Any.strings_Fields_core Tryz.lays157 (by kernel_rfl) words W (by decide) words_ascii (asciiTab hL)).mono fun e w' ⟨h1, h2⟩ => by
      rw [words_fields] at h1 h2
      exact ⟨h1, h2⟩
  exact h
theorem c_isWord (s : ByteArray) : Trip Tryz.prog 130 [(false, 1)] ([.v (.string (s))]) [(false, 1)] [.v (.bool (isKey s))] [] := by
 refine Trip.of Tryz.func130 (by decide) (c := _) rfl rfl (shB_ok rfl) (Nat.le_of_ble_eq_true rfl) rfl (AftOk.nil _) ?_
 refine .seq ?_
 refine .reg (X := Unit) (fun ζ => .of [(0, .one (.d (.v (.string (s)))))] []) [⟨[], some 2, [], []⟩] (fun k1 => ?_) ?_
 ·skip
  refine .assign (.no rfl) rfl rfl rfl rfl ?_
  exact .fin () (.of (.cons rfl .nil) .nil)
 intro _
 refine .seq ?_
 refine .reg (X := Unit) (fun ζ => .of [(2, .one (.d (.v (.bool (keys.any fun x => strEq s x)))))] []) [⟨[], some 3, [], []⟩, ⟨[0], some 4, [], []⟩, ⟨[3, 4], some 5, [], []⟩, ⟨[5], some 2, [], []⟩] (fun k2 => ?_) ?_
 ·skip
  refine .call (.no rfl) rfl [] [] (c_Fields ) rfl rfl rfl rfl rfl (.cons (Reads.d _).gives .nil) rfl rfl (fun h => absurd rfl h) (.frz [3, 0] (Frz.of_erase (erase_slo _ _ _ _ _ _ strc_e)) .nil) (.nil) rfl rfl rfl (by simp) rfl rfl rfl ?_
  refine .move (.no rfl) rfl rfl rfl rfl ?_
  refine .call (.no rfl) rfl [] [] (c_ContainsS keys s) rfl rfl rfl rfl rfl (.cons (Reads.d _).gives (.cons (Reads.d _).gives .nil)) rfl rfl (fun h => absurd rfl h) (.own [5, 0] .nil) (.nil) rfl rfl rfl (by simp) rfl rfl rfl ?_
  refine .assign (.no rfl) rfl rfl rfl rfl ?_
  exact .fin () (.of (.cons rfl .nil) .nil)
 intro _
 refine .ret ?_
 have e3 : (keys.any fun x => strEq s x) = (isKey s) := by exact isKey_eq s
 have hc4 := eq1 (fun z1 => SV.one (.d (.v (.bool (z1))))) e3
 show _ ∧ _
 exact ⟨.inr rfl, .done ⟨_, [], [], _, .one (c := .d (.v (.bool (isKey s)))) (hc4) .nil, .cons (Reads.d _).gives .nil, nodupB_ok rfl, by simp, (by simp)⟩⟩
theorem c_isName (s : ByteArray) (hs : s.size ≤ 9223372036854775807) : Trip Tryz.prog 98 [(false, 1)] ([.v (.string (s))]) [(false, 1)] [.v (.bool (nmOk s))] [] := by
 refine Trip.of Tryz.func98 (by decide) (c := _) rfl rfl (shB_ok rfl) (Nat.le_of_ble_eq_true rfl) rfl (AftOk.nil _) ?_
 refine .seq ?_
 refine .reg (X := Unit) (fun ζ => .of [(0, .one (.d (.v (.string (s)))))] []) [⟨[], some 2, [], []⟩] (fun k1 => ?_) ?_
 ·skip
  refine .assign (.no rfl) rfl rfl rfl rfl ?_
  exact .fin () (.of (.cons rfl .nil) .nil)
 intro _
 refine .seq ?_
 refine .seq ?_
 refine .reg (X := Unit) (fun ζ => .of [(0, .one (.d (.v (.string (s))))), (5, .one (.d (.v (.int .i64 ((s.size : Int)))))), (6, .one (.d (.v (.int .i64 (0)))))] []) [⟨[0], some 4, [], []⟩, ⟨[4], some 5, [], []⟩, ⟨[], some 6, [], []⟩] (fun k2 => ?_) ?_
 ·skip
  refine .move (.no rfl) rfl rfl rfl rfl ?_
  refine .lenStr (.no rfl) rfl t9 rfl rfl rfl rfl rfl ?_
  refine .move (.no rfl) rfl rfl rfl rfl ?_
  exact .fin () (.of (.cons rfl (.cons rfl (.cons rfl .nil))) .nil)
 intro _
 refine .block ?_
 refine .loop (X := Nat) (fun ζ => .of [(0, .one (.d (.v (.string (s))))), (5, .one (.d (.v (.int .i64 ((s.size : Int)))))), (6, .one (.d (.v (.int .i64 ((ζ : Int))))))] []) (fun ζ => ζ ≤ s.size ∧ allTo ζ (fun i => decide (97 ≤ byteAt s i ∧ byteAt s i ≤ 122)) = true) (fun ζ => s.size - ζ) ?_ ?_
 ·skip
  exact .here 0 (.of (.cons rfl (.cons rfl (.cons (svI (show (0) = ((0 : Int)) by first | rfl | omega | exact wrap_le (by omega) (by omega) | (rw [wrap_le (by omega) (by omega)]; omega))) .nil))) .nil) (show 0 ≤ s.size ∧ allTo 0 (fun i => decide (97 ≤ byteAt s i ∧ byteAt s i ≤ 122)) = true by exact ⟨by omega, rfl⟩)
 ·rintro j hI
  have hI : j ≤ s.size ∧ allTo j (fun i => decide (97 ≤ byteAt s i ∧ byteAt s i ≤ 122)) = true := hI
  refine .seq ?_
  refine .reg (X := Unit) (fun ζ => .of [(0, .one (.d (.v (.string (s))))), (5, .one (.d (.v (.int .i64 ((s.size : Int)))))), (6, .one (.d (.v (.int .i64 ((j : Int)))))), (7, .one (.d (.v (.bool (decide ((j : Int) < (s.size : Int)))))))] []) [⟨[6, 5], some 7, [], []⟩] (fun k3 => ?_) ?_
  ·skip
   refine .bin (.no rfl) rfl rfl rfl rfl rfl rfl ?_
   exact .fin () (.of (.cons rfl (.cons rfl (.cons rfl (.cons rfl .nil)))) .nil)
  intro _
  refine .seq ?_
  refine .cond (t := decide ((j : Int) < (s.size : Int))) rfl (fun c0 => ?_) (fun c0 => ?_)
  ·have c0 := of_decide_eq_true c0
   refine .skip ?_
   refine .seq ?_
   refine .block ?_
   refine .seq ?_
   refine .reg (X := Unit) (fun ζ => .of [(0, .one (.d (.v (.string (s))))), (3, .one (.d (.v (.int .i64 ((j : Int)))))), (5, .one (.d (.v (.int .i64 ((s.size : Int)))))), (6, .one (.d (.v (.int .i64 ((j : Int))))))] []) [⟨[6], some 8, [], []⟩, ⟨[8], some 3, [], []⟩] (fun k4 => ?_) ?_
   ·skip
    refine .move (.no rfl) rfl rfl rfl rfl ?_
    refine .assign (.no rfl) rfl rfl rfl rfl ?_
    exact .fin () (.of (.cons rfl (.cons rfl (.cons rfl (.cons rfl .nil)))) .nil)
   intro _
   refine .seq ?_
   refine .reg (X := Unit) (fun ζ => .of [(0, .one (.d (.v (.string (s))))), (5, .one (.d (.v (.int .i64 ((s.size : Int)))))), (6, .one (.d (.v (.int .i64 ((j : Int)))))), (13, .one (.d (.v (.bool (!(decide ((byteAt s j) ≥ 97) && decide ((byteAt s j) ≤ 122)))))))] []) [⟨[0], some 9, [], []⟩, ⟨[3], some 10, [], []⟩, ⟨[9, 10], some 11, [], []⟩, ⟨[11], some 12, [], []⟩, ⟨[12], some 13, [], []⟩] (fun k5 => ?_) ?_
   ·skip
    refine .move (.no rfl) rfl rfl rfl rfl ?_
    refine .move (.no rfl) rfl rfl rfl rfl ?_
    refine .indexStr (.no rfl) rfl (z := byteAt s j) (j) t9 rfl rfl rfl rfl rfl (b8_get (by omega)) rfl rfl ?_
    refine .call (.no rfl) rfl [] [] (c_isLetter (byteAt s j)) rfl rfl rfl rfl rfl (.cons (Reads.d _).gives .nil) rfl rfl (fun h => absurd rfl h) (.own [12, 0] .nil) (.nil) rfl rfl rfl (by simp) rfl rfl rfl ?_
    refine .un (.no rfl) rfl rfl rfl rfl rfl ?_
    exact .fin () (.of (.cons rfl (.cons rfl (.cons rfl (.cons rfl .nil)))) .nil)
   intro _
   refine .cond (t := !(decide ((byteAt s j) ≥ 97) && decide ((byteAt s j) ≤ 122))) rfl (fun c1 => ?_) (fun c1 => ?_)
   ·have c1 := c1
    try simp only [Bool.or_eq_true, Bool.or_eq_false_iff, Bool.and_eq_true, Bool.and_eq_false_iff, decide_eq_true_eq, decide_eq_false_iff_not, Bool.not_eq_true', Bool.not_eq_false', bne_iff_ne, beq_iff_eq, bne_eq_false_iff_eq, beq_eq_false_iff_ne, ne_eq, Bool.not_eq_eq_eq_not, Bool.not_true, Bool.not_false] at c1
    refine .seq ?_
    refine .reg (X := Unit) (fun ζ => .of [(2, .one (.d (.v (.bool (false)))))] []) [⟨[], some 2, [], []⟩] (fun k6 => ?_) ?_
    ·skip
     refine .assign (.no rfl) rfl rfl rfl rfl ?_
     exact .fin () (.of (.cons rfl .nil) .nil)
    intro _
    refine .ret ?_
    have e7 : (false) = (nmOk s) := by (simp only [nmOk, letters]; rw [allTo_fail (j := j) (by omega) (by simp only [decide_eq_false_iff_not]; omega)]; rfl)
    have hc8 := eq1 (fun z1 => SV.one (.d (.v (.bool (z1))))) e7
    show _ ∧ _
    exact ⟨.inr rfl, .done ⟨_, [], [], _, .one (c := .d (.v (.bool (nmOk s)))) (hc8) .nil, .cons (Reads.d _).gives .nil, nodupB_ok rfl, by simp, (by simp)⟩⟩
   ·have c1 := c1
    try simp only [Bool.or_eq_true, Bool.or_eq_false_iff, Bool.and_eq_true, Bool.and_eq_false_iff, decide_eq_true_eq, decide_eq_false_iff_not, Bool.not_eq_true', Bool.not_eq_false', bne_iff_ne, beq_iff_eq, bne_eq_false_iff_eq, beq_eq_false_iff_ne, ne_eq, Bool.not_eq_eq_eq_not, Bool.not_true, Bool.not_false] at c1
    refine .skip ?_
    refine .reg (X := Unit) (fun ζ => .of [(0, .one (.d (.v (.string (s))))), (5, .one (.d (.v (.int .i64 ((s.size : Int)))))), (6, .one (.d (.v (.int .i64 (IntKind.wrap .i64 ((j : Int) + 1))))))] []) [⟨[6], some 14, [], []⟩, ⟨[14], some 6, [], []⟩] (fun k9 => ?_) ?_
    ·skip
     refine .bin (.no rfl) rfl rfl rfl rfl rfl rfl ?_
     refine .move (.no rfl) rfl rfl rfl rfl ?_
     exact .fin () (.of (.cons rfl (.cons rfl (.cons rfl .nil))) .nil)
    intro _
    exact .here (j + 1) (.of (.cons rfl (.cons rfl (.cons (svI (show (IntKind.wrap .i64 ((j : Int) + 1)) = (((j + 1) : Int)) by first | rfl | omega | exact wrap_le (by omega) (by omega) | (rw [wrap_le (by omega) (by omega)]; omega))) .nil))) .nil) ⟨(show (j + 1) ≤ s.size ∧ allTo (j + 1) (fun i => decide (97 ≤ byteAt s i ∧ byteAt s i ≤ 122)) = true by exact ⟨by omega, allTo_step hI.2 (by simp only [decide_eq_true_eq]; omega)⟩), (show s.size - (j + 1) < s.size - j by omega)⟩
  ·have c0 := of_decide_eq_false c0
   refine .exit ?_
   refine .seq ?_
   refine .reg (X := Unit) (fun ζ => .of [(2, .one (.d (.v (.bool ((inR (s.size : Int) 1 8 && !(isKey s)))))))] []) [⟨[0], some 15, [], []⟩, ⟨[15], some 16, [], []⟩, ⟨[16], some 17, [], []⟩, ⟨[17], some 18, [], []⟩, ⟨[18, 0], some 19, [], []⟩, ⟨[18, 19], some 20, [], []⟩, ⟨[18, 20], some 21, [], []⟩, ⟨[18, 21], some 22, [], []⟩, ⟨[22], some 2, [], []⟩] (fun k10 => ?_) ?_
   ·skip
    refine .move (.no rfl) rfl rfl rfl rfl ?_
    refine .lenStr (.no rfl) rfl t9 rfl rfl rfl rfl rfl ?_
    refine .call (.no rfl) rfl [] [] (c_within (s.size : Int) 1 8) rfl rfl rfl rfl rfl (.cons (Reads.d _).gives (.cons (Reads.d _).gives (.cons (Reads.d _).gives .nil))) rfl rfl (fun h => absurd rfl h) (.own [17, 0] .nil) (.nil) rfl rfl rfl (by simp) rfl rfl rfl ?_
    refine .moveB (.no rfl) rfl rfl rfl rfl fun b11 g7_3 => ?_
    cases b11
    ·skip
     refine .off rfl rfl rfl rfl rfl rfl rfl ?_
     refine .off rfl rfl rfl rfl rfl rfl rfl ?_
     refine .off rfl rfl rfl rfl rfl rfl rfl ?_
     refine .pick (.no rfl) rfl rfl rfl rfl rfl ?_
     refine .assign (.no rfl) rfl rfl rfl rfl ?_
     exact .fin () (.of (.cons (svB (show (false) = ((inR (s.size : Int) 1 8 && !(isKey s))) by first | (simp only [g7_3, Bool.true_or, Bool.false_or, Bool.true_and, Bool.false_and, Bool.not_true, Bool.not_false]; done) | simp [g7_3])) .nil) .nil)
    ·skip
     refine .move (.on rfl rfl rfl rfl rfl) rfl rfl rfl rfl ?_
     refine .call (.on rfl rfl rfl rfl rfl) rfl [] [] (c_isWord s) rfl rfl rfl rfl rfl (.cons (Reads.d _).gives .nil) rfl rfl (fun h => absurd rfl h) (.own [20, 0] .nil) (.nil) rfl rfl rfl (by simp) rfl rfl rfl ?_
     refine .un (.on rfl rfl rfl rfl rfl) rfl rfl rfl rfl rfl ?_
     refine .pick (.no rfl) rfl rfl rfl rfl rfl ?_
     refine .assign (.no rfl) rfl rfl rfl rfl ?_
     exact .fin () (.of (.cons (svB (show (!(isKey s)) = ((inR (s.size : Int) 1 8 && !(isKey s))) by first | (simp only [g7_3, Bool.true_or, Bool.false_or, Bool.true_and, Bool.false_and, Bool.not_true, Bool.not_false]; done) | simp [g7_3])) .nil) .nil)
   intro _
   refine .ret ?_
   have e12 : ((inR (s.size : Int) 1 8 && !(isKey s))) = (nmOk s) := by (have hj : j = s.size := (by omega); subst hj; simp only [nmOk, letters]; rw [hI.2]; rfl)
   have hc13 := eq1 (fun z1 => SV.one (.d (.v (.bool (z1))))) e12
   show _ ∧ _
   exact ⟨.inr rfl, .done ⟨_, [], [], _, .one (c := .d (.v (.bool (nmOk s)))) (hc13) .nil, .cons (Reads.d _).gives .nil, nodupB_ok rfl, by simp, (by simp)⟩⟩
theorem c_isRight1 (a : Arr) : Trip Tryz.prog 100 [(true, 2)] (Arr.c a) [(false, 1)] [.v (.bool (inR a.size 1 16))] [] := by
 refine Trip.of Tryz.func100 (by decide) (c := _) rfl rfl (shB_ok rfl) (Nat.le_of_ble_eq_true rfl) rfl (AftOk.nil _) ?_
 refine .seq ?_
 refine .reg (X := Nat) (fun ζ => .of [(1, .one (.ptr [1] (ζ) 0))] [([1], (ζ, ζ, .box [.d (.v (.string (a.name))), .d (.v (.int .i64 (a.size)))]))]) [⟨[0], some 1, [], [[1]]⟩, ⟨[], some 2, [], []⟩] (fun k1 => ?_) ?_
 ·skip
  refine .box (.no rfl) rfl rfl rfl rfl rfl ?_
  refine .assign (.no rfl) rfl rfl rfl rfl ?_
  exact .fin k1 (.of (.cons rfl .nil) (.cons rfl .nil))
 intro g2
 refine .seq ?_
 refine .reg (X := Unit) (fun ζ => .of [(2, .one (.d (.v (.bool (inR a.size 1 16)))))] []) [⟨[1], some 3, [], []⟩, ⟨[3], some 4, [[1]], []⟩, ⟨[4], some 5, [], []⟩, ⟨[5], some 2, [], []⟩] (fun k3 => ?_) ?_
 ·skip
  refine .fieldAddrP (.no rfl) rfl t119 rfl rfl t2 rfl rfl rfl rfl ?_
  refine .load (.no rfl) rfl t2 rfl rfl (.ptr _ _ _ _ _ rfl) rfl rfl rfl rfl ?_
  refine .call (.no rfl) rfl [] [] (c_within a.size 1 16) rfl rfl rfl rfl rfl (.cons (Reads.d _).gives (.cons (Reads.d _).gives (.cons (Reads.d _).gives .nil))) rfl rfl (fun h => absurd rfl h) (.own [5, 0] .nil) (.nil) rfl rfl rfl (by simp) rfl rfl rfl ?_
  refine .assign (.no rfl) rfl rfl rfl rfl ?_
  exact .fin () (.of (.cons rfl .nil) .nil)
 intro _
 refine .ret ?_
 show _ ∧ _
 exact ⟨.inr rfl, .done ⟨_, [], [], _, .one rfl .nil, .cons (Reads.d _).gives .nil, nodupB_ok rfl, by simp, (by simp)⟩⟩
theorem c_isRight (d : Decl) (hs : ∀ x ∈ Decl.names d, x.size ≤ 9223372036854775807) (hb : d.vars.length ≤ 1048576 ∧ d.flags.length ≤ 1048576 ∧ d.arrays.length ≤ 1048576) : Trip Tryz.prog 63 [(true, 3)] (Decl.c38 d) [(false, 1)] [.v (.bool (Decl.ok d))] [] := by
 refine Trip.of Tryz.func63 (by decide) (c := _) rfl rfl (shB_ok rfl) (Nat.le_of_ble_eq_true rfl) rfl (AftOk.nil _) ?_
 refine .satA (t := 0) (i := 0) rfl rfl (fun hs1 => ?_)
 have hs1l : d.vars.length ≤ 9223372036854775807 := hs1.maplen
 refine .satA (t := 0) (i := 1) rfl rfl (fun hs2 => ?_)
 have hs2l : d.flags.length ≤ 9223372036854775807 := hs2.maplen
 refine .satA (t := 0) (i := 2) rfl rfl (fun hs3 => ?_)
 have hs3l : d.arrays.length ≤ 9223372036854775807 := hs3.maplen
 refine .seq ?_
 refine .reg (X := Nat) (fun ζ => .of [(1, .one (.ptr [1] (ζ) 0))] [([1], (ζ, ζ, .box [.d (.sl false 9 1 (List.map strc (d.vars))), .d (.sl false 9 1 (List.map strc (d.flags))), .d (.sl false 119 2 (List.map Arr.c (d.arrays)))]))]) [⟨[0], some 1, [], [[1]]⟩, ⟨[], some 2, [], []⟩] (fun k4 => ?_) ?_
 ·skip
  refine .box (.no rfl) rfl rfl rfl rfl rfl ?_
  refine .assign (.no rfl) rfl rfl rfl rfl ?_
  exact .fin k4 (.of (.cons rfl .nil) (.cons rfl .nil))
 intro g5
 refine .seq ?_
 refine .reg (X := Unit) (fun ζ => .of [(1, .one (.ptr [1] (g5) 0)), (3, .one (.d (.sl false 9 1 (List.map strc (Decl.names d)))))] [([1], (g5, g5, .box [.d (.sl false 9 1 (List.map strc (d.vars))), .d (.sl false 9 1 (List.map strc (d.flags))), .d (.sl false 119 2 (List.map Arr.c (d.arrays)))]))]) [⟨[1], some 7, [[1]], []⟩, ⟨[7], some 8, [], []⟩, ⟨[8], some 3, [], []⟩] (fun k6 => ?_) ?_
 ·skip
  refine .load (.no rfl) rfl t38 rfl rfl (.ptr _ _ _ _ _ rfl) rfl rfl rfl rfl ?_
  refine .call (.no rfl) rfl [] [] (c_names d (by first | assumption | omega | exact hs _ (getD_mem (by omega)))) rfl rfl rfl rfl rfl (.cons (Reads.d _).gives (.cons (Reads.d _).gives (.cons (Reads.d _).gives .nil))) rfl rfl (fun h => absurd rfl h) (.frz [8, 0] (Frz.of_erase (erase_slo _ _ _ _ _ _ strc_e)) .nil) (.nil) rfl rfl rfl (by simp) rfl rfl rfl ?_
  refine .assign (.no rfl) rfl rfl rfl rfl ?_
  exact .fin () (.of (.cons rfl (.cons rfl .nil)) (.cons rfl .nil))
 intro _
 refine .seq ?_
 refine .seq ?_
 refine .reg (X := Unit) (fun ζ => .of [(1, .one (.ptr [1] (g5) 0)), (3, .one (.d (.sl false 9 1 (List.map strc (Decl.names d))))), (9, .one (.d (.sl false 9 1 (List.map strc (Decl.names d))))), (10, .one (.d (.v (.int .i64 (((Decl.names d).length : Int)))))), (11, .one (.d (.v (.int .i64 (0)))))] [([1], (g5, g5, .box [.d (.sl false 9 1 (List.map strc (d.vars))), .d (.sl false 9 1 (List.map strc (d.flags))), .d (.sl false 119 2 (List.map Arr.c (d.arrays)))]))]) [⟨[3], some 9, [], []⟩, ⟨[9], some 10, [], []⟩, ⟨[], some 11, [], []⟩] (fun k7 => ?_) ?_
 ·skip
  refine .move (.no rfl) rfl rfl rfl rfl ?_
  refine .len (.no rfl) rfl (z := ((Decl.names d).length : Int)) t22 rfl rfl rfl (.d _ _) (map_len _ _) rfl ?_
  refine .move (.no rfl) rfl rfl rfl rfl ?_
  exact .fin () (.of (.cons rfl (.cons rfl (.cons rfl (.cons rfl (.cons rfl .nil))))) (.cons rfl .nil))
 intro _
 refine .block ?_
 refine .loop (X := Nat) (fun ζ => .of [(1, .one (.ptr [1] (g5) 0)), (3, .one (.d (.sl false 9 1 (List.map strc (Decl.names d))))), (9, .one (.d (.sl false 9 1 (List.map strc (Decl.names d))))), (10, .one (.d (.v (.int .i64 (((Decl.names d).length : Int)))))), (11, .one (.d (.v (.int .i64 ((ζ : Int))))))] [([1], (g5, g5, .box [.d (.sl false 9 1 (List.map strc (d.vars))), .d (.sl false 9 1 (List.map strc (d.flags))), .d (.sl false 119 2 (List.map Arr.c (d.arrays)))]))]) (fun ζ => ζ ≤ (Decl.names d).length ∧ allTo ζ (nameOk (Decl.names d)) = true) (fun ζ => (Decl.names d).length - ζ) ?_ ?_
 ·skip
  exact .here 0 (.of (.cons rfl (.cons rfl (.cons rfl (.cons rfl (.cons (svI (show (0) = ((0 : Int)) by first | rfl | omega | exact wrap_le (by omega) (by omega) | (rw [wrap_le (by omega) (by omega)]; omega))) .nil))))) (.cons rfl .nil)) (show 0 ≤ (Decl.names d).length ∧ allTo 0 (nameOk (Decl.names d)) = true by exact ⟨by omega, rfl⟩)
 ·rintro j hI
  have hI : j ≤ (Decl.names d).length ∧ allTo j (nameOk (Decl.names d)) = true := hI
  have hn9 : (Decl.names d).length ≤ 3145728 := by simp [Decl.names]; omega
  refine .seq ?_
  refine .reg (X := Unit) (fun ζ => .of [(1, .one (.ptr [1] (g5) 0)), (3, .one (.d (.sl false 9 1 (List.map strc (Decl.names d))))), (9, .one (.d (.sl false 9 1 (List.map strc (Decl.names d))))), (10, .one (.d (.v (.int .i64 (((Decl.names d).length : Int)))))), (11, .one (.d (.v (.int .i64 ((j : Int)))))), (12, .one (.d (.v (.bool (decide ((j : Int) < ((Decl.names d).length : Int)))))))] [([1], (g5, g5, .box [.d (.sl false 9 1 (List.map strc (d.vars))), .d (.sl false 9 1 (List.map strc (d.flags))), .d (.sl false 119 2 (List.map Arr.c (d.arrays)))]))]) [⟨[11, 10], some 12, [], []⟩] (fun k8 => ?_) ?_
  ·skip
   refine .bin (.no rfl) rfl rfl rfl rfl rfl rfl ?_
   exact .fin () (.of (.cons rfl (.cons rfl (.cons rfl (.cons rfl (.cons rfl (.cons rfl .nil)))))) (.cons rfl .nil))
  intro _
  refine .seq ?_
  refine .cond (t := decide ((j : Int) < ((Decl.names d).length : Int))) rfl (fun c0 => ?_) (fun c0 => ?_)
  ·have c0 := of_decide_eq_true c0
   refine .skip ?_
   refine .seq ?_
   refine .block ?_
   refine .seq ?_
   refine .reg (X := Unit) (fun ζ => .of [(1, .one (.ptr [1] (g5) 0)), (3, .one (.d (.sl false 9 1 (List.map strc (Decl.names d))))), (4, .one (.d (.v (.int .i64 ((j : Int)))))), (5, .one (.d (.v (.string ((Decl.names d).getD (j) default))))), (9, .one (.d (.sl false 9 1 (List.map strc (Decl.names d))))), (10, .one (.d (.v (.int .i64 (((Decl.names d).length : Int)))))), (11, .one (.d (.v (.int .i64 ((j : Int))))))] [([1], (g5, g5, .box [.d (.sl false 9 1 (List.map strc (d.vars))), .d (.sl false 9 1 (List.map strc (d.flags))), .d (.sl false 119 2 (List.map Arr.c (d.arrays)))]))]) [⟨[11], some 13, [], []⟩, ⟨[9, 11], some 14, [], []⟩, ⟨[14], some 15, [], []⟩, ⟨[13], some 4, [], []⟩, ⟨[15], some 5, [], []⟩] (fun k9 => ?_) ?_
   ·skip
    refine .move (.no rfl) rfl rfl rfl rfl ?_
    refine .indexAddr (.no rfl) rfl (j) t22 rfl t9 rfl rfl rfl (.d _ _) rfl rfl rfl (map_get (by omega)) rfl rfl ?_
    refine .load (.no rfl) rfl t9 rfl rfl (.d _) rfl rfl rfl rfl ?_
    refine .assign (.no rfl) rfl rfl rfl rfl ?_
    refine .assign (.no rfl) rfl rfl rfl rfl ?_
    exact .fin () (.of (.cons rfl (.cons rfl (.cons rfl (.cons rfl (.cons rfl (.cons rfl (.cons rfl .nil))))))) (.cons rfl .nil))
   intro _
   refine .seq ?_
   refine .reg (X := Unit) (fun ζ => .of [(1, .one (.ptr [1] (g5) 0)), (3, .one (.d (.sl false 9 1 (List.map strc (Decl.names d))))), (9, .one (.d (.sl false 9 1 (List.map strc (Decl.names d))))), (10, .one (.d (.v (.int .i64 (((Decl.names d).length : Int)))))), (11, .one (.d (.v (.int .i64 ((j : Int)))))), (25, .one (.d (.v (.bool ((!(nmOk ((Decl.names d).getD (j) default)) || ((Decl.names d).take j).any fun x => strEq ((Decl.names d).getD (j) default) x))))))] [([1], (g5, g5, .box [.d (.sl false 9 1 (List.map strc (d.vars))), .d (.sl false 9 1 (List.map strc (d.flags))), .d (.sl false 119 2 (List.map Arr.c (d.arrays)))]))]) [⟨[5], some 16, [], []⟩, ⟨[16], some 17, [], []⟩, ⟨[17], some 18, [], []⟩, ⟨[18], some 19, [], []⟩, ⟨[19, 3], some 20, [], []⟩, ⟨[19, 4], some 21, [], []⟩, ⟨[19, 20, 21], some 22, [], []⟩, ⟨[19, 5], some 23, [], []⟩, ⟨[19, 22, 23], some 24, [], []⟩, ⟨[19, 24], some 25, [], []⟩] (fun k10 => ?_) ?_
   ·skip
    refine .move (.no rfl) rfl rfl rfl rfl ?_
    refine .call (.no rfl) rfl [] [] (c_isName ((Decl.names d).getD (j) default) (by first | assumption | omega | exact hs _ (getD_mem (by omega)))) rfl rfl rfl rfl rfl (.cons (Reads.d _).gives .nil) rfl rfl (fun h => absurd rfl h) (.own [17, 0] .nil) (.nil) rfl rfl rfl (by simp) rfl rfl rfl ?_
    refine .un (.no rfl) rfl rfl rfl rfl rfl ?_
    refine .moveB (.no rfl) rfl rfl rfl rfl fun b11 g5_3 => ?_
    cases b11
    ·skip
     refine .move (.on rfl rfl rfl rfl rfl) rfl rfl rfl rfl ?_
     refine .move (.on rfl rfl rfl rfl rfl) rfl rfl rfl rfl ?_
     refine .slice (.on rfl rfl rfl rfl rfl) rfl (lv := 0) (hv := j) (m := 0) t22 rfl t9 rfl rfl (.d _ _) rfl (by intro _ _ h; cases h) (by exact rfl) (by exact ⟨_, rfl⟩) (Nat.zero_le _) (le_map (by omega)) (cut_d0 _ _ _ _ _ _ _ _ _) rfl ?_
     refine .move (.on rfl rfl rfl rfl rfl) rfl rfl rfl rfl ?_
     refine .call (.on rfl rfl rfl rfl rfl) rfl [] [] (c_ContainsS ((Decl.names d).take j) ((Decl.names d).getD (j) default)) rfl rfl rfl rfl rfl (.cons (Reads.d _).gives (.cons (Reads.d _).gives .nil)) rfl rfl (fun h => absurd rfl h) (.own [24, 0] .nil) (.nil) rfl rfl rfl (by simp) rfl rfl rfl ?_
     refine .pick (.no rfl) rfl rfl rfl rfl rfl ?_
     exact .fin () (.of (.cons rfl (.cons rfl (.cons rfl (.cons rfl (.cons rfl (.cons (svB (show (((Decl.names d).take j).any fun x => strEq ((Decl.names d).getD (j) default) x) = ((!(nmOk ((Decl.names d).getD (j) default)) || ((Decl.names d).take j).any fun x => strEq ((Decl.names d).getD (j) default) x)) by first | (simp only [g5_3, Bool.true_or, Bool.false_or, Bool.true_and, Bool.false_and, Bool.not_true, Bool.not_false]; done) | simp [g5_3])) .nil)))))) (.cons rfl .nil))
    ·skip
     refine .off rfl rfl rfl rfl rfl rfl rfl ?_
     refine .off rfl rfl rfl rfl rfl rfl rfl ?_
     refine .off rfl rfl rfl rfl rfl rfl rfl ?_
     refine .off rfl rfl rfl rfl rfl rfl rfl ?_
     refine .off rfl rfl rfl rfl rfl rfl rfl ?_
     refine .pick (.no rfl) rfl rfl rfl rfl rfl ?_
     exact .fin () (.of (.cons rfl (.cons rfl (.cons rfl (.cons rfl (.cons rfl (.cons (svB (show (true) = ((!(nmOk ((Decl.names d).getD (j) default)) || ((Decl.names d).take j).any fun x => strEq ((Decl.names d).getD (j) default) x)) by first | (simp only [g5_3, Bool.true_or, Bool.false_or, Bool.true_and, Bool.false_and, Bool.not_true, Bool.not_false]; done) | simp [g5_3])) .nil)))))) (.cons rfl .nil))
   intro _
   refine .cond (t := (!(nmOk ((Decl.names d).getD (j) default)) || ((Decl.names d).take j).any fun x => strEq ((Decl.names d).getD (j) default) x)) rfl (fun c1 => ?_) (fun c1 => ?_)
   ·have c1 := c1
    try simp only [Bool.or_eq_true, Bool.or_eq_false_iff, Bool.and_eq_true, Bool.and_eq_false_iff, decide_eq_true_eq, decide_eq_false_iff_not, Bool.not_eq_true', Bool.not_eq_false', bne_iff_ne, beq_iff_eq, bne_eq_false_iff_eq, beq_eq_false_iff_ne, ne_eq, Bool.not_eq_eq_eq_not, Bool.not_true, Bool.not_false] at c1
    refine .seq ?_
    refine .reg (X := Unit) (fun ζ => .of [(2, .one (.d (.v (.bool (false)))))] []) [⟨[], some 2, [], []⟩] (fun k12 => ?_) ?_
    ·skip
     refine .assign (.no rfl) rfl rfl rfl rfl ?_
     exact .fin () (.of (.cons rfl .nil) .nil)
    intro _
    refine .ret ?_
    have e13 : (false) = (Decl.ok d) := by exact (Decl.ok_name2 (j := j) (by omega) c1).symm
    have hc14 := eq1 (fun z1 => SV.one (.d (.v (.bool (z1))))) e13
    show _ ∧ _
    exact ⟨.inr rfl, .done ⟨_, [], [], _, .one (c := .d (.v (.bool (Decl.ok d)))) (hc14) .nil, .cons (Reads.d _).gives .nil, nodupB_ok rfl, by simp, (by simp)⟩⟩
   ·have c1 := c1
    try simp only [Bool.or_eq_true, Bool.or_eq_false_iff, Bool.and_eq_true, Bool.and_eq_false_iff, decide_eq_true_eq, decide_eq_false_iff_not, Bool.not_eq_true', Bool.not_eq_false', bne_iff_ne, beq_iff_eq, bne_eq_false_iff_eq, beq_eq_false_iff_ne, ne_eq, Bool.not_eq_eq_eq_not, Bool.not_true, Bool.not_false] at c1
    refine .skip ?_
    refine .reg (X := Unit) (fun ζ => .of [(1, .one (.ptr [1] (g5) 0)), (3, .one (.d (.sl false 9 1 (List.map strc (Decl.names d))))), (9, .one (.d (.sl false 9 1 (List.map strc (Decl.names d))))), (10, .one (.d (.v (.int .i64 (((Decl.names d).length : Int)))))), (11, .one (.d (.v (.int .i64 (IntKind.wrap .i64 ((j : Int) + 1))))))] [([1], (g5, g5, .box [.d (.sl false 9 1 (List.map strc (d.vars))), .d (.sl false 9 1 (List.map strc (d.flags))), .d (.sl false 119 2 (List.map Arr.c (d.arrays)))]))]) [⟨[11], some 26, [], []⟩, ⟨[26], some 11, [], []⟩] (fun k15 => ?_) ?_
    ·skip
     refine .bin (.no rfl) rfl rfl rfl rfl rfl rfl ?_
     refine .move (.no rfl) rfl rfl rfl rfl ?_
     exact .fin () (.of (.cons rfl (.cons rfl (.cons rfl (.cons rfl (.cons rfl .nil))))) (.cons rfl .nil))
    intro _
    exact .here (j + 1) (.of (.cons rfl (.cons rfl (.cons rfl (.cons rfl (.cons (svI (show (IntKind.wrap .i64 ((j : Int) + 1)) = (((j + 1) : Int)) by first | rfl | omega | exact wrap_le (by omega) (by omega) | (rw [wrap_le (by omega) (by omega)]; omega))) .nil))))) (.cons rfl .nil)) ⟨(show (j + 1) ≤ (Decl.names d).length ∧ allTo (j + 1) (nameOk (Decl.names d)) = true by exact ⟨by omega, allTo_step hI.2 (nameOk_of2 c1)⟩), (show (Decl.names d).length - (j + 1) < (Decl.names d).length - j by omega)⟩
  ·have c0 := of_decide_eq_false c0
   refine .exit ?_
   refine .seq ?_
   refine .reg (X := Unit) (fun ζ => .of [(1, .one (.ptr [1] (g5) 0)), (6, .one (.d (.fn 100 [] [])))] [([1], (g5, g5, .box [.d (.sl false 9 1 (List.map strc (d.vars))), .d (.sl false 9 1 (List.map strc (d.flags))), .d (.sl false 119 2 (List.map Arr.c (d.arrays)))]))]) [⟨[], some 6, [], []⟩] (fun k16 => ?_) ?_
   ·skip
    refine .assign (.no rfl) rfl rfl rfl rfl ?_
    exact .fin () (.of (.cons rfl (.cons rfl .nil)) (.cons rfl .nil))
   intro _
   refine .seq ?_
   refine .reg (X := Unit) (fun ζ => .of [(2, .one (.d (.v (.bool ((((decide ((d.vars.length : Int) ≤ 5) && decide ((d.flags.length : Int) ≤ 3)) && decide ((d.arrays.length : Int) ≤ 2)) && d.arrays.all (fun x0 => inR x0.size 1 16)))))))] []) [⟨[1], some 27, [], []⟩, ⟨[27], some 28, [[1]], []⟩, ⟨[28], some 29, [], []⟩, ⟨[29], some 30, [], []⟩, ⟨[30], some 31, [], []⟩, ⟨[31, 1], some 32, [], []⟩, ⟨[31, 32], some 33, [[1]], []⟩, ⟨[31, 33], some 34, [], []⟩, ⟨[31, 34], some 35, [], []⟩, ⟨[31, 35], some 36, [], []⟩, ⟨[36], some 37, [], []⟩, ⟨[37, 1], some 38, [], []⟩, ⟨[37, 38], some 39, [[1]], []⟩, ⟨[37, 39], some 40, [], []⟩, ⟨[37, 40], some 41, [], []⟩, ⟨[37, 41], some 42, [], []⟩, ⟨[42], some 43, [], []⟩, ⟨[43, 1], some 44, [], []⟩, ⟨[43, 44], some 45, [[1]], []⟩, ⟨[43, 6], some 46, [], []⟩, ⟨[43, 45, 46], some 47, [], []⟩, ⟨[43, 47], some 48, [], []⟩, ⟨[48], some 2, [], []⟩] (fun k17 => ?_) ?_
   ·skip
    refine .fieldAddrP (.no rfl) rfl t38 rfl rfl t22 rfl rfl rfl rfl ?_
    refine .load (.no rfl) rfl t22 rfl rfl (.ptr _ _ _ _ _ rfl) rfl rfl rfl rfl ?_
    refine .len (.no rfl) rfl (z := (d.vars.length : Int)) t22 rfl rfl rfl (.d _ _) (map_len _ _) rfl ?_
    refine .bin (.no rfl) rfl rfl rfl rfl rfl rfl ?_
    refine .moveB (.no rfl) rfl rfl rfl rfl fun b18 g9_4 => ?_
    cases b18
    ·skip
     refine .off rfl rfl rfl rfl rfl rfl rfl ?_
     refine .off rfl rfl rfl rfl rfl rfl rfl ?_
     refine .off rfl rfl rfl rfl rfl rfl rfl ?_
     refine .off rfl rfl rfl rfl rfl rfl rfl ?_
     refine .pick (.no rfl) rfl rfl rfl rfl rfl ?_
     refine .move (.no rfl) rfl rfl rfl rfl ?_
     refine .off rfl rfl rfl rfl rfl rfl rfl ?_
     refine .off rfl rfl rfl rfl rfl rfl rfl ?_
     refine .off rfl rfl rfl rfl rfl rfl rfl ?_
     refine .off rfl rfl rfl rfl rfl rfl rfl ?_
     refine .pick (.no rfl) rfl rfl rfl rfl rfl ?_
     refine .move (.no rfl) rfl rfl rfl rfl ?_
     refine .off rfl rfl rfl rfl rfl rfl rfl ?_
     refine .off rfl rfl rfl rfl rfl rfl rfl ?_
     refine .off rfl rfl rfl rfl rfl rfl rfl ?_
     refine .off rfl rfl rfl rfl rfl rfl rfl ?_
     refine .pick (.no rfl) rfl rfl rfl rfl rfl ?_
     refine .assign (.no rfl) rfl rfl rfl rfl ?_
     exact .fin () (.of (.cons (svB (show (false) = ((((decide ((d.vars.length : Int) ≤ 5) && decide ((d.flags.length : Int) ≤ 3)) && decide ((d.arrays.length : Int) ≤ 2)) && d.arrays.all (fun x0 => inR x0.size 1 16))) by first | (simp only [g9_4, Bool.true_or, Bool.false_or, Bool.true_and, Bool.false_and, Bool.not_true, Bool.not_false]; done) | simp [g9_4])) .nil) .nil)
    ·skip
     refine .fieldAddrP (.on rfl rfl rfl rfl rfl) rfl t38 rfl rfl t22 rfl rfl rfl rfl ?_
     refine .load (.on rfl rfl rfl rfl rfl) rfl t22 rfl rfl (.ptr _ _ _ _ _ rfl) rfl rfl rfl rfl ?_
     refine .len (.on rfl rfl rfl rfl rfl) rfl (z := (d.flags.length : Int)) t22 rfl rfl rfl (.d _ _) (map_len _ _) rfl ?_
     refine .bin (.on rfl rfl rfl rfl rfl) rfl rfl rfl rfl rfl rfl ?_
     refine .pick (.no rfl) rfl rfl rfl rfl rfl ?_
     refine .moveB (.no rfl) rfl rfl rfl rfl fun b19 g9_10 => ?_
     cases b19
     ·skip
      refine .off rfl rfl rfl rfl rfl rfl rfl ?_
      refine .off rfl rfl rfl rfl rfl rfl rfl ?_
      refine .off rfl rfl rfl rfl rfl rfl rfl ?_
      refine .off rfl rfl rfl rfl rfl rfl rfl ?_
      refine .pick (.no rfl) rfl rfl rfl rfl rfl ?_
      refine .move (.no rfl) rfl rfl rfl rfl ?_
      refine .off rfl rfl rfl rfl rfl rfl rfl ?_
      refine .off rfl rfl rfl rfl rfl rfl rfl ?_
      refine .off rfl rfl rfl rfl rfl rfl rfl ?_
      refine .off rfl rfl rfl rfl rfl rfl rfl ?_
      refine .pick (.no rfl) rfl rfl rfl rfl rfl ?_
      refine .assign (.no rfl) rfl rfl rfl rfl ?_
      exact .fin () (.of (.cons (svB (show (false) = ((((decide ((d.vars.length : Int) ≤ 5) && decide ((d.flags.length : Int) ≤ 3)) && decide ((d.arrays.length : Int) ≤ 2)) && d.arrays.all (fun x0 => inR x0.size 1 16))) by first | (simp only [g9_4, g9_10, Bool.true_or, Bool.false_or, Bool.true_and, Bool.false_and, Bool.not_true, Bool.not_false]; done) | simp [g9_4, g9_10])) .nil) .nil)
     ·skip
      refine .fieldAddrP (.on rfl rfl rfl rfl rfl) rfl t38 rfl rfl t36 rfl rfl rfl rfl ?_
      refine .load (.on rfl rfl rfl rfl rfl) rfl t36 rfl rfl (.ptr _ _ _ _ _ rfl) rfl rfl rfl rfl ?_
      refine .len (.on rfl rfl rfl rfl rfl) rfl (z := (d.arrays.length : Int)) t36 rfl rfl rfl (.d _ _) (map_len _ _) rfl ?_
      refine .bin (.on rfl rfl rfl rfl rfl) rfl rfl rfl rfl rfl rfl ?_
      refine .pick (.no rfl) rfl rfl rfl rfl rfl ?_
      refine .moveB (.no rfl) rfl rfl rfl rfl fun b20 g9_16 => ?_
      cases b20
      ·skip
       refine .off rfl rfl rfl rfl rfl rfl rfl ?_
       refine .off rfl rfl rfl rfl rfl rfl rfl ?_
       refine .off rfl rfl rfl rfl rfl rfl rfl ?_
       refine .off rfl rfl rfl rfl rfl rfl rfl ?_
       refine .pick (.no rfl) rfl rfl rfl rfl rfl ?_
       refine .assign (.no rfl) rfl rfl rfl rfl ?_
       exact .fin () (.of (.cons (svB (show (false) = ((((decide ((d.vars.length : Int) ≤ 5) && decide ((d.flags.length : Int) ≤ 3)) && decide ((d.arrays.length : Int) ≤ 2)) && d.arrays.all (fun x0 => inR x0.size 1 16))) by first | (simp only [g9_4, g9_10, g9_16, Bool.true_or, Bool.false_or, Bool.true_and, Bool.false_and, Bool.not_true, Bool.not_false]; done) | simp [g9_4, g9_10, g9_16])) .nil) .nil)
      ·skip
       refine .fieldAddrP (.on rfl rfl rfl rfl rfl) rfl t38 rfl rfl t36 rfl rfl rfl rfl ?_
       refine .load (.on rfl rfl rfl rfl rfl) rfl t36 rfl rfl (.ptr _ _ _ _ _ rfl) rfl rfl rfl rfl ?_
       refine .move (.on rfl rfl rfl rfl rfl) rfl rfl rfl rfl ?_
       refine .call (.on rfl rfl rfl rfl rfl) rfl [] [] (c_areAllA d.arrays 100 [] [] (fun x0 => inR x0.size 1 16) (fun x0 => c_isRight1 x0)) rfl rfl rfl rfl rfl (.cons (Reads.d _).gives (.cons (Reads.d _).gives .nil)) rfl rfl (fun h => absurd rfl h) (.own [47, 0] .nil) (.nil) rfl rfl rfl (by simp) rfl rfl rfl ?_
       refine .pick (.no rfl) rfl rfl rfl rfl rfl ?_
       refine .assign (.no rfl) rfl rfl rfl rfl ?_
       exact .fin () (.of (.cons (svB (show (d.arrays.all (fun x0 => inR x0.size 1 16)) = ((((decide ((d.vars.length : Int) ≤ 5) && decide ((d.flags.length : Int) ≤ 3)) && decide ((d.arrays.length : Int) ≤ 2)) && d.arrays.all (fun x0 => inR x0.size 1 16))) by first | (simp only [g9_4, g9_10, g9_16, Bool.true_or, Bool.false_or, Bool.true_and, Bool.false_and, Bool.not_true, Bool.not_false]; done) | simp [g9_4, g9_10, g9_16])) .nil) .nil)
   intro _
   refine .ret ?_
   have e21 : ((((decide ((d.vars.length : Int) ≤ 5) && decide ((d.flags.length : Int) ≤ 3)) && decide ((d.arrays.length : Int) ≤ 2)) && d.arrays.all (fun x0 => inR x0.size 1 16))) = (Decl.ok d) := by exact Decl.ok_right (j := j) (by omega) hI.2
   have hc22 := eq1 (fun z1 => SV.one (.d (.v (.bool (z1))))) e21
   show _ ∧ _
   exact ⟨.inr rfl, .done ⟨_, [], [], _, .one (c := .d (.v (.bool (Decl.ok d)))) (hc22) .nil, .cons (Reads.d _).gives .nil, nodupB_ok rfl, by simp, (by simp)⟩⟩
theorem c_isEnv (d : Decl) (e : Env) : Trip Tryz.prog 122 [(true, 3), (true, 3)] (Decl.c38 d ++ Env.c77 e) [(false, 1)] [.v (.bool (Env.okIn d e))] [] := by
 refine Trip.of Tryz.func122 (by decide) (c := _) rfl rfl (shB_ok rfl) (Nat.le_of_ble_eq_true rfl) rfl (AftOk.nil _) ?_
 refine .satA (t := 0) (i := 0) rfl rfl (fun hs1 => ?_)
 have hs1l : d.vars.length ≤ 9223372036854775807 := hs1.maplen
 refine .satA (t := 0) (i := 1) rfl rfl (fun hs2 => ?_)
 have hs2l : d.flags.length ≤ 9223372036854775807 := hs2.maplen
 refine .satA (t := 0) (i := 2) rfl rfl (fun hs3 => ?_)
 have hs3l : d.arrays.length ≤ 9223372036854775807 := hs3.maplen
 refine .satA (t := 1) (i := 1) rfl rfl (fun hs4 => ?_)
 have hs4l : e.ints.length ≤ 9223372036854775807 := hs4.maplen
 refine .satA (t := 1) (i := 2) rfl rfl (fun hs5 => ?_)
 have hs5l : e.arrs.length ≤ 9223372036854775807 := hs5.maplen
 refine .seq ?_
 refine .reg (X := Nat × Nat) (fun ζ => .of [(2, .one (.ptr [2] (ζ.1) 0)), (3, .one (.ptr [3] (ζ.2) 0))] [([2], (ζ.1, ζ.1, .box [.d (.sl false 9 1 (List.map strc (d.vars))), .d (.sl false 9 1 (List.map strc (d.flags))), .d (.sl false 119 2 (List.map Arr.c (d.arrays)))])), ([3], (ζ.2, ζ.2, .box [.d (.v (.bool (e.live))), .d (.sl false 122 2 (List.map Iv.c (e.ints))), .d (.sl false 122 2 (List.map Iv.c (e.arrs)))]))]) [⟨[0], some 2, [], [[2]]⟩, ⟨[1], some 3, [], [[3]]⟩, ⟨[], some 4, [], []⟩] (fun k6 => ?_) ?_
 ·skip
  refine .box (.no rfl) rfl rfl rfl rfl rfl ?_
  refine .box (.no rfl) rfl rfl rfl rfl rfl ?_
  refine .assign (.no rfl) rfl rfl rfl rfl ?_
  exact .fin (k6, k6 + 1) (.of (.cons rfl (.cons rfl .nil)) (.cons rfl (.cons rfl .nil)))
 rintro ⟨g7, g8⟩
 refine .seq ?_
 refine .seq ?_
 refine .reg (X := Unit) (fun ζ => .of [(2, .one (.ptr [2] (g7) 0)), (3, .one (.ptr [3] (g8) 0)), (7, .one (.d (.v (.bool (!e.live)))))] [([2], (g7, g7, .box [.d (.sl false 9 1 (List.map strc (d.vars))), .d (.sl false 9 1 (List.map strc (d.flags))), .d (.sl false 119 2 (List.map Arr.c (d.arrays)))])), ([3], (g8, g8, .box [.d (.v (.bool (e.live))), .d (.sl false 122 2 (List.map Iv.c (e.ints))), .d (.sl false 122 2 (List.map Iv.c (e.arrs)))]))]) [⟨[3], some 5, [], []⟩, ⟨[5], some 6, [[3]], []⟩, ⟨[6], some 7, [], []⟩] (fun k9 => ?_) ?_
 ·skip
  refine .fieldAddrP (.no rfl) rfl t77 rfl rfl t4 rfl rfl rfl rfl ?_
  refine .load (.no rfl) rfl t4 rfl rfl (.ptr _ _ _ _ _ rfl) rfl rfl rfl rfl ?_
  refine .un (.no rfl) rfl rfl rfl rfl rfl ?_
  exact .fin () (.of (.cons rfl (.cons rfl (.cons rfl .nil))) (.cons rfl (.cons rfl .nil)))
 intro _
 refine .cond (t := !e.live) rfl (fun c0 => ?_) (fun c0 => ?_)
 ·have c0 := c0
  try simp only [Bool.or_eq_true, Bool.or_eq_false_iff, Bool.and_eq_true, Bool.and_eq_false_iff, decide_eq_true_eq, decide_eq_false_iff_not, Bool.not_eq_true', Bool.not_eq_false', bne_iff_ne, beq_iff_eq, bne_eq_false_iff_eq, beq_eq_false_iff_ne, ne_eq, Bool.not_eq_eq_eq_not, Bool.not_true, Bool.not_false] at c0
  refine .seq ?_
  refine .reg (X := Unit) (fun ζ => .of [(4, .one (.d (.v (.bool (((e.ints.length : Int) == 0 && (e.arrs.length : Int) == 0))))))] []) [⟨[3], some 8, [], []⟩, ⟨[8], some 9, [[3]], []⟩, ⟨[9], some 10, [], []⟩, ⟨[10], some 11, [], []⟩, ⟨[11], some 12, [], []⟩, ⟨[12, 3], some 13, [], []⟩, ⟨[12, 13], some 14, [[3]], []⟩, ⟨[12, 14], some 15, [], []⟩, ⟨[12, 15], some 16, [], []⟩, ⟨[12, 16], some 17, [], []⟩, ⟨[17], some 4, [], []⟩] (fun k10 => ?_) ?_
  ·skip
   refine .fieldAddrP (.no rfl) rfl t77 rfl rfl t75 rfl rfl rfl rfl ?_
   refine .load (.no rfl) rfl t75 rfl rfl (.ptr _ _ _ _ _ rfl) rfl rfl rfl rfl ?_
   refine .len (.no rfl) rfl (z := (e.ints.length : Int)) t75 rfl rfl rfl (.d _ _) (map_len _ _) rfl ?_
   refine .bin (.no rfl) rfl rfl rfl rfl rfl rfl ?_
   refine .moveB (.no rfl) rfl rfl rfl rfl fun b11 g2_4 => ?_
   cases b11
   ·skip
    refine .off rfl rfl rfl rfl rfl rfl rfl ?_
    refine .off rfl rfl rfl rfl rfl rfl rfl ?_
    refine .off rfl rfl rfl rfl rfl rfl rfl ?_
    refine .off rfl rfl rfl rfl rfl rfl rfl ?_
    refine .pick (.no rfl) rfl rfl rfl rfl rfl ?_
    refine .assign (.no rfl) rfl rfl rfl rfl ?_
    exact .fin () (.of (.cons (svB (show (false) = (((e.ints.length : Int) == 0 && (e.arrs.length : Int) == 0)) by first | (simp only [g2_4, Bool.true_or, Bool.false_or, Bool.true_and, Bool.false_and, Bool.not_true, Bool.not_false]; done) | simp [g2_4])) .nil) .nil)
   ·skip
    refine .fieldAddrP (.on rfl rfl rfl rfl rfl) rfl t77 rfl rfl t75 rfl rfl rfl rfl ?_
    refine .load (.on rfl rfl rfl rfl rfl) rfl t75 rfl rfl (.ptr _ _ _ _ _ rfl) rfl rfl rfl rfl ?_
    refine .len (.on rfl rfl rfl rfl rfl) rfl (z := (e.arrs.length : Int)) t75 rfl rfl rfl (.d _ _) (map_len _ _) rfl ?_
    refine .bin (.on rfl rfl rfl rfl rfl) rfl rfl rfl rfl rfl rfl ?_
    refine .pick (.no rfl) rfl rfl rfl rfl rfl ?_
    refine .assign (.no rfl) rfl rfl rfl rfl ?_
    exact .fin () (.of (.cons (svB (show ((e.arrs.length : Int) == 0) = (((e.ints.length : Int) == 0 && (e.arrs.length : Int) == 0)) by first | (simp only [g2_4, Bool.true_or, Bool.false_or, Bool.true_and, Bool.false_and, Bool.not_true, Bool.not_false]; done) | simp [g2_4])) .nil) .nil)
  intro _
  refine .ret ?_
  have e12 : (((e.ints.length : Int) == 0 && (e.arrs.length : Int) == 0)) = (Env.okIn d e) := by simp [Env.okIn, c0, Bool.and_assoc]
  have hc13 := eq1 (fun z1 => SV.one (.d (.v (.bool (z1))))) e12
  show _ ∧ _
  exact ⟨.inr rfl, .done ⟨_, [], [], _, .one (c := .d (.v (.bool (Env.okIn d e)))) (hc13) .nil, .cons (Reads.d _).gives .nil, nodupB_ok rfl, by simp, (by simp)⟩⟩
 ·have c0 := c0
  try simp only [Bool.or_eq_true, Bool.or_eq_false_iff, Bool.and_eq_true, Bool.and_eq_false_iff, decide_eq_true_eq, decide_eq_false_iff_not, Bool.not_eq_true', Bool.not_eq_false', bne_iff_ne, beq_iff_eq, bne_eq_false_iff_eq, beq_eq_false_iff_ne, ne_eq, Bool.not_eq_eq_eq_not, Bool.not_true, Bool.not_false] at c0
  refine .skip ?_
  refine .seq ?_
  refine .reg (X := Unit) (fun ζ => .of [(4, .one (.d (.v (.bool (((((e.ints.length : Int) == (d.vars.length : Int) && (e.arrs.length : Int) == (d.arrays.length : Int)) && e.ints.all (fun x0 => Iv.ok x0)) && e.arrs.all (fun x0 => Iv.ok x0)))))))] []) [⟨[3], some 18, [], []⟩, ⟨[18], some 19, [[3]], []⟩, ⟨[19], some 20, [], []⟩, ⟨[2], some 21, [], []⟩, ⟨[21], some 22, [[2]], []⟩, ⟨[22], some 23, [], []⟩, ⟨[20, 23], some 24, [], []⟩, ⟨[24], some 25, [], []⟩, ⟨[25, 3], some 26, [], []⟩, ⟨[25, 26], some 27, [[3]], []⟩, ⟨[25, 27], some 28, [], []⟩, ⟨[25, 2], some 29, [], []⟩, ⟨[25, 29], some 30, [[2]], []⟩, ⟨[25, 30], some 31, [], []⟩, ⟨[25, 28, 31], some 32, [], []⟩, ⟨[25, 32], some 33, [], []⟩, ⟨[33], some 34, [], []⟩, ⟨[34, 3], some 35, [], []⟩, ⟨[34, 35], some 36, [[3]], []⟩, ⟨[34, 36], some 37, [], []⟩, ⟨[34, 37], some 38, [], []⟩, ⟨[38], some 39, [], []⟩, ⟨[39, 3], some 40, [], []⟩, ⟨[39, 40], some 41, [[3]], []⟩, ⟨[39, 41], some 42, [], []⟩, ⟨[39, 42], some 43, [], []⟩, ⟨[43], some 4, [], []⟩] (fun k14 => ?_) ?_
  ·skip
   refine .fieldAddrP (.no rfl) rfl t77 rfl rfl t75 rfl rfl rfl rfl ?_
   refine .load (.no rfl) rfl t75 rfl rfl (.ptr _ _ _ _ _ rfl) rfl rfl rfl rfl ?_
   refine .len (.no rfl) rfl (z := (e.ints.length : Int)) t75 rfl rfl rfl (.d _ _) (map_len _ _) rfl ?_
   refine .fieldAddrP (.no rfl) rfl t38 rfl rfl t22 rfl rfl rfl rfl ?_
   refine .load (.no rfl) rfl t22 rfl rfl (.ptr _ _ _ _ _ rfl) rfl rfl rfl rfl ?_
   refine .len (.no rfl) rfl (z := (d.vars.length : Int)) t22 rfl rfl rfl (.d _ _) (map_len _ _) rfl ?_
   refine .bin (.no rfl) rfl rfl rfl rfl rfl rfl ?_
   refine .moveB (.no rfl) rfl rfl rfl rfl fun b15 g3_7 => ?_
   cases b15
   ·skip
    refine .off rfl rfl rfl rfl rfl rfl rfl ?_
    refine .off rfl rfl rfl rfl rfl rfl rfl ?_
    refine .off rfl rfl rfl rfl rfl rfl rfl ?_
    refine .off rfl rfl rfl rfl rfl rfl rfl ?_
    refine .off rfl rfl rfl rfl rfl rfl rfl ?_
    refine .off rfl rfl rfl rfl rfl rfl rfl ?_
    refine .off rfl rfl rfl rfl rfl rfl rfl ?_
    refine .pick (.no rfl) rfl rfl rfl rfl rfl ?_
    refine .move (.no rfl) rfl rfl rfl rfl ?_
    refine .off rfl rfl rfl rfl rfl rfl rfl ?_
    refine .off rfl rfl rfl rfl rfl rfl rfl ?_
    refine .off rfl rfl rfl rfl rfl rfl rfl ?_
    refine .pick (.no rfl) rfl rfl rfl rfl rfl ?_
    refine .move (.no rfl) rfl rfl rfl rfl ?_
    refine .off rfl rfl rfl rfl rfl rfl rfl ?_
    refine .off rfl rfl rfl rfl rfl rfl rfl ?_
    refine .off rfl rfl rfl rfl rfl rfl rfl ?_
    refine .pick (.no rfl) rfl rfl rfl rfl rfl ?_
    refine .assign (.no rfl) rfl rfl rfl rfl ?_
    exact .fin () (.of (.cons (svB (show (false) = (((((e.ints.length : Int) == (d.vars.length : Int) && (e.arrs.length : Int) == (d.arrays.length : Int)) && e.ints.all (fun x0 => Iv.ok x0)) && e.arrs.all (fun x0 => Iv.ok x0))) by first | (simp only [g3_7, Bool.true_or, Bool.false_or, Bool.true_and, Bool.false_and, Bool.not_true, Bool.not_false]; done) | simp [g3_7])) .nil) .nil)
   ·skip
    refine .fieldAddrP (.on rfl rfl rfl rfl rfl) rfl t77 rfl rfl t75 rfl rfl rfl rfl ?_
    refine .load (.on rfl rfl rfl rfl rfl) rfl t75 rfl rfl (.ptr _ _ _ _ _ rfl) rfl rfl rfl rfl ?_
    refine .len (.on rfl rfl rfl rfl rfl) rfl (z := (e.arrs.length : Int)) t75 rfl rfl rfl (.d _ _) (map_len _ _) rfl ?_
    refine .fieldAddrP (.on rfl rfl rfl rfl rfl) rfl t38 rfl rfl t36 rfl rfl rfl rfl ?_
    refine .load (.on rfl rfl rfl rfl rfl) rfl t36 rfl rfl (.ptr _ _ _ _ _ rfl) rfl rfl rfl rfl ?_
    refine .len (.on rfl rfl rfl rfl rfl) rfl (z := (d.arrays.length : Int)) t36 rfl rfl rfl (.d _ _) (map_len _ _) rfl ?_
    refine .bin (.on rfl rfl rfl rfl rfl) rfl rfl rfl rfl rfl rfl ?_
    refine .pick (.no rfl) rfl rfl rfl rfl rfl ?_
    refine .moveB (.no rfl) rfl rfl rfl rfl fun b16 g3_16 => ?_
    cases b16
    ·skip
     refine .off rfl rfl rfl rfl rfl rfl rfl ?_
     refine .off rfl rfl rfl rfl rfl rfl rfl ?_
     refine .off rfl rfl rfl rfl rfl rfl rfl ?_
     refine .pick (.no rfl) rfl rfl rfl rfl rfl ?_
     refine .move (.no rfl) rfl rfl rfl rfl ?_
     refine .off rfl rfl rfl rfl rfl rfl rfl ?_
     refine .off rfl rfl rfl rfl rfl rfl rfl ?_
     refine .off rfl rfl rfl rfl rfl rfl rfl ?_
     refine .pick (.no rfl) rfl rfl rfl rfl rfl ?_
     refine .assign (.no rfl) rfl rfl rfl rfl ?_
     exact .fin () (.of (.cons (svB (show (false) = (((((e.ints.length : Int) == (d.vars.length : Int) && (e.arrs.length : Int) == (d.arrays.length : Int)) && e.ints.all (fun x0 => Iv.ok x0)) && e.arrs.all (fun x0 => Iv.ok x0))) by first | (simp only [g3_7, g3_16, Bool.true_or, Bool.false_or, Bool.true_and, Bool.false_and, Bool.not_true, Bool.not_false]; done) | simp [g3_7, g3_16])) .nil) .nil)
    ·skip
     refine .fieldAddrP (.on rfl rfl rfl rfl rfl) rfl t77 rfl rfl t75 rfl rfl rfl rfl ?_
     refine .load (.on rfl rfl rfl rfl rfl) rfl t75 rfl rfl (.ptr _ _ _ _ _ rfl) rfl rfl rfl rfl ?_
     refine .call (.on rfl rfl rfl rfl rfl) rfl [] [] (c_areAllI e.ints 157 [] [] (fun x0 => Iv.ok x0) (fun x0 => c_IvOk x0)) rfl rfl rfl rfl rfl (.cons (Reads.d _).gives (.cons (Reads.d _).gives .nil)) rfl rfl (fun h => absurd rfl h) (.own [37, 0] .nil) (.nil) rfl rfl rfl (by simp) rfl rfl rfl ?_
     refine .pick (.no rfl) rfl rfl rfl rfl rfl ?_
     refine .moveB (.no rfl) rfl rfl rfl rfl fun b17 g3_21 => ?_
     cases b17
     ·skip
      refine .off rfl rfl rfl rfl rfl rfl rfl ?_
      refine .off rfl rfl rfl rfl rfl rfl rfl ?_
      refine .off rfl rfl rfl rfl rfl rfl rfl ?_
      refine .pick (.no rfl) rfl rfl rfl rfl rfl ?_
      refine .assign (.no rfl) rfl rfl rfl rfl ?_
      exact .fin () (.of (.cons (svB (show (false) = (((((e.ints.length : Int) == (d.vars.length : Int) && (e.arrs.length : Int) == (d.arrays.length : Int)) && e.ints.all (fun x0 => Iv.ok x0)) && e.arrs.all (fun x0 => Iv.ok x0))) by first | (simp only [g3_7, g3_16, g3_21, Bool.true_or, Bool.false_or, Bool.true_and, Bool.false_and, Bool.not_true, Bool.not_false]; done) | simp [g3_7, g3_16, g3_21])) .nil) .nil)
     ·skip
      refine .fieldAddrP (.on rfl rfl rfl rfl rfl) rfl t77 rfl rfl t75 rfl rfl rfl rfl ?_
      refine .load (.on rfl rfl rfl rfl rfl) rfl t75 rfl rfl (.ptr _ _ _ _ _ rfl) rfl rfl rfl rfl ?_
      refine .call (.on rfl rfl rfl rfl rfl) rfl [] [] (c_areAllI e.arrs 157 [] [] (fun x0 => Iv.ok x0) (fun x0 => c_IvOk x0)) rfl rfl rfl rfl rfl (.cons (Reads.d _).gives (.cons (Reads.d _).gives .nil)) rfl rfl (fun h => absurd rfl h) (.own [42, 0] .nil) (.nil) rfl rfl rfl (by simp) rfl rfl rfl ?_
      refine .pick (.no rfl) rfl rfl rfl rfl rfl ?_
      refine .assign (.no rfl) rfl rfl rfl rfl ?_
      exact .fin () (.of (.cons (svB (show (e.arrs.all (fun x0 => Iv.ok x0)) = (((((e.ints.length : Int) == (d.vars.length : Int) && (e.arrs.length : Int) == (d.arrays.length : Int)) && e.ints.all (fun x0 => Iv.ok x0)) && e.arrs.all (fun x0 => Iv.ok x0))) by first | (simp only [g3_7, g3_16, g3_21, Bool.true_or, Bool.false_or, Bool.true_and, Bool.false_and, Bool.not_true, Bool.not_false]; done) | simp [g3_7, g3_16, g3_21])) .nil) .nil)
  intro _
  refine .ret ?_
  have e18 : (((((e.ints.length : Int) == (d.vars.length : Int) && (e.arrs.length : Int) == (d.arrays.length : Int)) && e.ints.all (fun x0 => Iv.ok x0)) && e.arrs.all (fun x0 => Iv.ok x0))) = (Env.okIn d e) := by simp [Env.okIn, c0, Bool.and_assoc]
  have hc19 := eq1 (fun z1 => SV.one (.d (.v (.bool (z1))))) e18
  show _ ∧ _
  exact ⟨.inr rfl, .done ⟨_, [], [], _, .one (c := .d (.v (.bool (Env.okIn d e)))) (hc19) .nil, .cons (Reads.d _).gives .nil, nodupB_ok rfl, by simp, (by simp)⟩⟩
end Go.Proofs

namespace Go.Proofs
open Go Go.Proofs Go.Ev

def Entry.c (x : Entry) : List D := [.v (.int .i64 (x.line)), .v (.int .i64 (x.pick))]
theorem Entry.c_o (x : Entry) : ∀ d ∈ Entry.c x, Owned d := by simp [Entry.c, Owned.v]
theorem Entry.c_e (x : Entry) : (Entry.c x).map D.erase = Entry.c x := by simp [Entry.c, D.erase_v]
def Part.c94 (x : Part) : List D := [.sl false 163 2 (List.map Entry.c (x.token)), .sl false 69 3 (List.map Env.c69 (x.table))]
theorem Part.c94_e (x : Part) : (Part.c94 x).map D.erase = Part.c94 x := by simp [Part.c94, D.erase_v, erase_slo _ _ _ _ _ _ Entry.c_e, erase_slo _ _ _ _ _ _ Env.c69_e]
def Part.co94 (x : Part) : List D := [.sl true 163 2 (List.map Entry.c (x.token)), .sl true 69 3 (List.map Env.co69 (x.table))]
theorem Part.co94_e (x : Part) : (Part.co94 x).map D.erase = Part.c94 x := by simp [Part.co94, Part.c94, D.erase_v, erase_slo _ _ _ _ _ _ Entry.c_e, erase_slo _ _ _ _ _ _ Env.co69_e]
theorem Part.co94_o (x : Part) : ∀ d ∈ Part.co94 x, Owned d := by simp [Part.co94, Owned.v, Owned.map _ _ _ _ Entry.c_o, Owned.map _ _ _ _ Env.co69_o]
def i26 : TI := ⟨.sl 69, 1, 24, [.slice none 0 0]⟩
theorem t26 : TyOk Tryz.prog 26 i26 := ⟨Tryz.underlying26, by kernel_rfl⟩
theorem z26 : ZOk Tryz.prog 26 i26 := ⟨t26, rfl⟩
def i48 : TI := ⟨.sl 94, 1, 24, [.slice none 0 0]⟩
theorem t48 : TyOk Tryz.prog 48 i48 := ⟨Tryz.underlying48, by kernel_rfl⟩
theorem z48 : ZOk Tryz.prog 48 i48 := ⟨t48, rfl⟩
def i92 : TI := ⟨.sl 163, 1, 24, [.slice none 0 0]⟩
theorem t92 : TyOk Tryz.prog 92 i92 := ⟨Tryz.underlying92, by kernel_rfl⟩
theorem z92 : ZOk Tryz.prog 92 i92 := ⟨t92, rfl⟩
def i94 : TI := ⟨.st [(0, 92), (1, 26)], 2, 48, [.slice none 0 0, .slice none 0 0]⟩
theorem t94 : TyOk Tryz.prog 94 i94 := ⟨⟨_, Tryz.underlying94, rfl⟩, by kernel_rfl⟩
theorem z94 : ZOk Tryz.prog 94 i94 := ⟨t94, rfl⟩
theorem p94 : Places Tryz.prog [(0, 92), (1, 26)] [(0, 1), (1, 1)] := by unfold Places; kernel_rfl
theorem c_szEntryS (a : List Entry) (left : Int) (hl : 0 ≤ left ∧ left ≤ 1048576) : Trip Tryz.prog 92 [(false, 1), (false, 1)] ([.sl false 163 2 (List.map Entry.c (a))] ++ [.v (.int .i64 (left))]) [(false, 1)] [.v (.int .i64 (szPl a left))] [] := by
 refine Trip.of Tryz.func92 (by decide) (c := _) rfl rfl (shB_ok rfl) (Nat.le_of_ble_eq_true rfl) rfl (AftOk.nil _) ?_
 refine .sat (t := 0) rfl (fun hs1 => ?_)
 have hs1l : a.length ≤ 9223372036854775807 := hs1.maplen
 refine .seq ?_
 refine .reg (X := Unit) (fun ζ => .of [(0, .one (.d (.sl false 163 2 (List.map Entry.c (a))))), (1, .one (.d (.v (.int .i64 (left)))))] []) [⟨[], some 4, [], []⟩] (fun k2 => ?_) ?_
 ·skip
  refine .assign (.no rfl) rfl rfl rfl rfl ?_
  exact .fin () (.of (.cons rfl (.cons rfl .nil)) .nil)
 intro _
 refine .seq ?_
 refine .reg (X := Unit) (fun ζ => .of [(1, .one (.d (.v (.int .i64 (IntKind.wrap .i64 (left - (a.length : Int)))))))] []) [⟨[1], some 5, [], []⟩, ⟨[0], some 6, [], []⟩, ⟨[6], some 7, [], []⟩, ⟨[5, 7], some 8, [], []⟩, ⟨[8], some 1, [], []⟩] (fun k3 => ?_) ?_
 ·skip
  refine .move (.no rfl) rfl rfl rfl rfl ?_
  refine .move (.no rfl) rfl rfl rfl rfl ?_
  refine .len (.no rfl) rfl (z := (a.length : Int)) t92 rfl rfl rfl (.d _ _) (map_len _ _) rfl ?_
  refine .bin (.no rfl) rfl rfl rfl rfl rfl rfl ?_
  refine .assign (.no rfl) rfl rfl rfl rfl ?_
  exact .fin () (.of (.cons rfl .nil) .nil)
 intro _
 refine .seq ?_
 refine .seq ?_
 refine .reg (X := Unit) (fun ζ => .of [(1, .one (.d (.v (.int .i64 (IntKind.wrap .i64 (left - (a.length : Int))))))), (10, .one (.d (.v (.bool (decide ((IntKind.wrap .i64 (left - (a.length : Int))) < 0))))))] []) [⟨[1], some 9, [], []⟩, ⟨[9], some 10, [], []⟩] (fun k4 => ?_) ?_
 ·skip
  refine .move (.no rfl) rfl rfl rfl rfl ?_
  refine .bin (.no rfl) rfl rfl rfl rfl rfl rfl ?_
  exact .fin () (.of (.cons rfl (.cons rfl .nil)) .nil)
 intro _
 refine .cond (t := decide ((IntKind.wrap .i64 (left - (a.length : Int))) < 0)) rfl (fun c0 => ?_) (fun c0 => ?_)
 ·have c0 := of_decide_eq_true c0
  refine .seq ?_
  refine .reg (X := Unit) (fun ζ => .of [(4, .one (.d (.v (.int .i64 (-1)))))] []) [⟨[], some 4, [], []⟩] (fun k5 => ?_) ?_
  ·skip
   refine .assign (.no rfl) rfl rfl rfl rfl ?_
   exact .fin () (.of (.cons rfl .nil) .nil)
  intro _
  refine .ret ?_
  have e6 : (-1) = (szPl a left) := by (rw [wrap_le (by omega) (by omega)] at c0; simp only [szPl]; rw [if_pos c0])
  have hc7 := eq1 (fun z1 => SV.one (.d (.v (.int .i64 (z1))))) e6
  show _ ∧ _
  exact ⟨.inr rfl, .done ⟨_, [], [], _, .one (c := .d (.v (.int .i64 (szPl a left)))) (hc7) .nil, .cons (Reads.d _).gives .nil, nodupB_ok rfl, by simp, (by simp)⟩⟩
 ·have c0 := of_decide_eq_false c0
  refine .skip ?_
  refine .seq ?_
  refine .reg (X := Unit) (fun ζ => .of [(4, .one (.d (.v (.int .i64 (IntKind.wrap .i64 (left - (a.length : Int)))))))] []) [⟨[1], some 11, [], []⟩, ⟨[11], some 4, [], []⟩] (fun k8 => ?_) ?_
  ·skip
   refine .move (.no rfl) rfl rfl rfl rfl ?_
   refine .assign (.no rfl) rfl rfl rfl rfl ?_
   exact .fin () (.of (.cons rfl .nil) .nil)
  intro _
  refine .ret ?_
  have e9 : (IntKind.wrap .i64 (left - (a.length : Int))) = (szPl a left) := by (rw [wrap_le (by omega) (by omega)] at c0 ⊢; simp only [szPl]; rw [if_neg c0])
  have hc10 := eq1 (fun z1 => SV.one (.d (.v (.int .i64 (z1))))) e9
  show _ ∧ _
  exact ⟨.inr rfl, .done ⟨_, [], [], _, .one (c := .d (.v (.int .i64 (szPl a left)))) (hc10) .nil, .cons (Reads.d _).gives .nil, nodupB_ok rfl, by simp, (by simp)⟩⟩
theorem c_szEnvS (a : List Env) (left : Int) (hl : 0 ≤ left ∧ left ≤ 1048576) : Trip Tryz.prog 8 [(false, 1), (false, 1)] ([.sl false 69 3 (List.map Env.c69 (a))] ++ [.v (.int .i64 (left))]) [(false, 1)] [.v (.int .i64 (szEnvS a left))] [] := by
 refine Trip.of Tryz.func8 (by decide) (c := _) rfl rfl (shB_ok rfl) (Nat.le_of_ble_eq_true rfl) rfl (AftOk.nil _) ?_
 refine .sat (t := 0) rfl (fun hs1 => ?_)
 have hs1l : a.length ≤ 9223372036854775807 := hs1.maplen
 refine .seq ?_
 refine .reg (X := Unit) (fun ζ => .of [(0, .one (.d (.sl false 69 3 (List.map Env.c69 (a))))), (1, .one (.d (.v (.int .i64 (left)))))] []) [⟨[], some 4, [], []⟩] (fun k2 => ?_) ?_
 ·skip
  refine .assign (.no rfl) rfl rfl rfl rfl ?_
  exact .fin () (.of (.cons rfl (.cons rfl .nil)) .nil)
 intro _
 refine .seq ?_
 refine .reg (X := Unit) (fun ζ => .of [(0, .one (.d (.sl false 69 3 (List.map Env.c69 (a))))), (1, .one (.d (.v (.int .i64 (IntKind.wrap .i64 (left - (a.length : Int)))))))] []) [⟨[1], some 6, [], []⟩, ⟨[0], some 7, [], []⟩, ⟨[7], some 8, [], []⟩, ⟨[6, 8], some 9, [], []⟩, ⟨[9], some 1, [], []⟩] (fun k3 => ?_) ?_
 ·skip
  refine .move (.no rfl) rfl rfl rfl rfl ?_
  refine .move (.no rfl) rfl rfl rfl rfl ?_
  refine .len (.no rfl) rfl (z := (a.length : Int)) t26 rfl rfl rfl (.d _ _) (map_len _ _) rfl ?_
  refine .bin (.no rfl) rfl rfl rfl rfl rfl rfl ?_
  refine .assign (.no rfl) rfl rfl rfl rfl ?_
  exact .fin () (.of (.cons rfl (.cons rfl .nil)) .nil)
 intro _
 refine .seq ?_
 refine .seq ?_
 refine .reg (X := Unit) (fun ζ => .of [(0, .one (.d (.sl false 69 3 (List.map Env.c69 (a))))), (1, .one (.d (.v (.int .i64 (IntKind.wrap .i64 (left - (a.length : Int))))))), (11, .one (.d (.v (.bool (decide ((IntKind.wrap .i64 (left - (a.length : Int))) < 0))))))] []) [⟨[1], some 10, [], []⟩, ⟨[10], some 11, [], []⟩] (fun k4 => ?_) ?_
 ·skip
  refine .move (.no rfl) rfl rfl rfl rfl ?_
  refine .bin (.no rfl) rfl rfl rfl rfl rfl rfl ?_
  exact .fin () (.of (.cons rfl (.cons rfl (.cons rfl .nil))) .nil)
 intro _
 refine .cond (t := decide ((IntKind.wrap .i64 (left - (a.length : Int))) < 0)) rfl (fun c0 => ?_) (fun c0 => ?_)
 ·have c0 := of_decide_eq_true c0
  refine .seq ?_
  refine .reg (X := Unit) (fun ζ => .of [(4, .one (.d (.v (.int .i64 (-1)))))] []) [⟨[], some 4, [], []⟩] (fun k5 => ?_) ?_
  ·skip
   refine .assign (.no rfl) rfl rfl rfl rfl ?_
   exact .fin () (.of (.cons rfl .nil) .nil)
  intro _
  refine .ret ?_
  have e6 : (-1) = (szEnvS a left) := by (rw [wrap_le (by omega) (by omega)] at c0; simp only [szEnvS]; rw [if_pos c0])
  have hc7 := eq1 (fun z1 => SV.one (.d (.v (.int .i64 (z1))))) e6
  show _ ∧ _
  exact ⟨.inr rfl, .done ⟨_, [], [], _, .one (c := .d (.v (.int .i64 (szEnvS a left)))) (hc7) .nil, .cons (Reads.d _).gives .nil, nodupB_ok rfl, by simp, (by simp)⟩⟩
 ·have c0 := of_decide_eq_false c0
  refine .skip ?_
  refine .seq ?_
  refine .seq ?_
  refine .reg (X := Unit) (fun ζ => .of [(0, .one (.d (.sl false 69 3 (List.map Env.c69 (a))))), (1, .one (.d (.v (.int .i64 (IntKind.wrap .i64 (left - (a.length : Int))))))), (5, .one (.d (.v (.int .i64 (0)))))] []) [⟨[], some 5, [], []⟩] (fun k8 => ?_) ?_
  ·skip
   refine .assign (.no rfl) rfl rfl rfl rfl ?_
   exact .fin () (.of (.cons rfl (.cons rfl (.cons rfl .nil))) .nil)
  intro _
  refine .block ?_
  refine .loop (X := Nat × Int) (fun ζ => .of [(0, .one (.d (.sl false 69 3 (List.map Env.c69 (a))))), (1, .one (.d (.v (.int .i64 (ζ.2))))), (5, .one (.d (.v (.int .i64 ((ζ.1 : Int))))))] []) (fun ζ => ζ.1 ≤ a.length ∧ 0 ≤ ζ.2 ∧ ζ.2 ≤ 1048576 ∧ ¬ left - a.length < 0 ∧ szF szEnv ζ.2 (a.drop ζ.1) = szF szEnv (left - a.length) a) (fun ζ => a.length - ζ.1) ?_ ?_
  ·skip
   exact .here (0, (left - a.length)) (.of (.cons rfl (.cons (svI (show (IntKind.wrap .i64 (left - (a.length : Int))) = ((left - a.length)) by first | rfl | omega | exact wrap_le (by omega) (by omega) | (rw [wrap_le (by omega) (by omega)]; omega))) (.cons (svI (show (0) = ((0 : Int)) by first | rfl | omega | exact wrap_le (by omega) (by omega) | (rw [wrap_le (by omega) (by omega)]; omega))) .nil))) .nil) (show 0 ≤ a.length ∧ 0 ≤ (left - a.length) ∧ (left - a.length) ≤ 1048576 ∧ ¬ left - a.length < 0 ∧ szF szEnv (left - a.length) (a.drop 0) = szF szEnv (left - a.length) a by (rw [wrap_le (by omega) (by omega)] at c0; exact ⟨by omega, by omega, by omega, c0, by simp⟩))
  ·rintro ⟨j, v⟩ hI
   have hI : j ≤ a.length ∧ 0 ≤ v ∧ v ≤ 1048576 ∧ ¬ left - a.length < 0 ∧ szF szEnv v (a.drop j) = szF szEnv (left - a.length) a := hI
   refine .seq ?_
   refine .seq ?_
   refine .reg (X := Unit) (fun ζ => .of [(0, .one (.d (.sl false 69 3 (List.map Env.c69 (a))))), (1, .one (.d (.v (.int .i64 (v))))), (5, .one (.d (.v (.int .i64 ((j : Int)))))), (15, .one (.d (.v (.bool (decide ((j : Int) < (a.length : Int)))))))] []) [⟨[5], some 12, [], []⟩, ⟨[0], some 13, [], []⟩, ⟨[13], some 14, [], []⟩, ⟨[12, 14], some 15, [], []⟩] (fun k9 => ?_) ?_
   ·skip
    refine .move (.no rfl) rfl rfl rfl rfl ?_
    refine .move (.no rfl) rfl rfl rfl rfl ?_
    refine .len (.no rfl) rfl (z := (a.length : Int)) t26 rfl rfl rfl (.d _ _) (map_len _ _) rfl ?_
    refine .bin (.no rfl) rfl rfl rfl rfl rfl rfl ?_
    exact .fin () (.of (.cons rfl (.cons rfl (.cons rfl (.cons rfl .nil)))) .nil)
   intro _
   refine .cond (t := decide ((j : Int) < (a.length : Int))) rfl (fun c1 => ?_) (fun c1 => ?_)
   ·have c1 := of_decide_eq_true c1
    refine .skip ?_
    refine .seq ?_
    refine .block ?_
    refine .seq ?_
    refine .reg (X := Unit) (fun ζ => .of [(0, .one (.d (.sl false 69 3 (List.map Env.c69 (a))))), (1, .one (.d (.v (.int .i64 (szEnv (a.getD j default) v))))), (5, .one (.d (.v (.int .i64 ((j : Int))))))] []) [⟨[0], some 18, [], []⟩, ⟨[5], some 19, [], []⟩, ⟨[18, 19], some 20, [], []⟩, ⟨[20], some 21, [], []⟩, ⟨[1], some 22, [], []⟩, ⟨[21, 22], some 23, [], []⟩, ⟨[23], some 1, [], []⟩] (fun k10 => ?_) ?_
    ·skip
     refine .move (.no rfl) rfl rfl rfl rfl ?_
     refine .move (.no rfl) rfl rfl rfl rfl ?_
     refine .indexAddr (.no rfl) rfl (j) t26 rfl t69 rfl rfl rfl (.d _ _) rfl rfl rfl (map_get (by omega)) rfl rfl ?_
     refine .load (.no rfl) rfl t69 rfl rfl (.d _) rfl rfl rfl rfl ?_
     refine .move (.no rfl) rfl rfl rfl rfl ?_
     refine .call (.no rfl) rfl [] [] (c_szEnv (a.getD j default) v (by omega)) rfl rfl rfl rfl rfl (.cons (Reads.d _).gives (.cons (Reads.d _).gives (.cons (Reads.d _).gives (.cons (Reads.d _).gives .nil)))) rfl rfl (fun h => absurd rfl h) (.own [23, 0] .nil) (.nil) rfl rfl rfl (by simp) rfl rfl rfl ?_
     refine .assign (.no rfl) rfl rfl rfl rfl ?_
     exact .fin () (.of (.cons rfl (.cons rfl (.cons rfl .nil))) .nil)
    intro _
    refine .seq ?_
    refine .reg (X := Unit) (fun ζ => .of [(0, .one (.d (.sl false 69 3 (List.map Env.c69 (a))))), (1, .one (.d (.v (.int .i64 (szEnv (a.getD j default) v))))), (5, .one (.d (.v (.int .i64 ((j : Int)))))), (25, .one (.d (.v (.bool (decide ((szEnv (a.getD j default) v) < 0))))))] []) [⟨[1], some 24, [], []⟩, ⟨[24], some 25, [], []⟩] (fun k11 => ?_) ?_
    ·skip
     refine .move (.no rfl) rfl rfl rfl rfl ?_
     refine .bin (.no rfl) rfl rfl rfl rfl rfl rfl ?_
     exact .fin () (.of (.cons rfl (.cons rfl (.cons rfl (.cons rfl .nil)))) .nil)
    intro _
    refine .cond (t := decide ((szEnv (a.getD j default) v) < 0)) rfl (fun c2 => ?_) (fun c2 => ?_)
    ·have c2 := of_decide_eq_true c2
     refine .seq ?_
     refine .reg (X := Unit) (fun ζ => .of [(4, .one (.d (.v (.int .i64 (-1)))))] []) [⟨[], some 4, [], []⟩] (fun k12 => ?_) ?_
     ·skip
      refine .assign (.no rfl) rfl rfl rfl rfl ?_
      exact .fin () (.of (.cons rfl .nil) .nil)
     intro _
     refine .ret ?_
     have e13 : (-1) = (szEnvS a left) := by (simp only [szEnvS]; rw [if_neg hI.2.2.2.1, ← hI.2.2.2.2, szF_fail (by omega) c2])
     have hc14 := eq1 (fun z1 => SV.one (.d (.v (.int .i64 (z1))))) e13
     show _ ∧ _
     exact ⟨.inr rfl, .done ⟨_, [], [], _, .one (c := .d (.v (.int .i64 (szEnvS a left)))) (hc14) .nil, .cons (Reads.d _).gives .nil, nodupB_ok rfl, by simp, (by simp)⟩⟩
    ·have c2 := of_decide_eq_false c2
     refine .skip ?_
     refine .reg (X := Unit) (fun ζ => .of [(0, .one (.d (.sl false 69 3 (List.map Env.c69 (a))))), (1, .one (.d (.v (.int .i64 (szEnv (a.getD j default) v))))), (5, .one (.d (.v (.int .i64 (IntKind.wrap .i64 ((j : Int) + 1))))))] []) [⟨[5], some 16, [], []⟩, ⟨[16], some 17, [], []⟩, ⟨[17], some 5, [], []⟩] (fun k15 => ?_) ?_
     ·skip
      refine .move (.no rfl) rfl rfl rfl rfl ?_
      refine .bin (.no rfl) rfl rfl rfl rfl rfl rfl ?_
      refine .assign (.no rfl) rfl rfl rfl rfl ?_
      exact .fin () (.of (.cons rfl (.cons rfl (.cons rfl .nil))) .nil)
     intro _
     exact .here ((j + 1), (szEnv (a.getD j default) v)) (.of (.cons rfl (.cons (svI (show (szEnv (a.getD j default) v) = ((szEnv (a.getD j default) v)) by first | rfl | omega | exact wrap_le (by omega) (by omega) | (rw [wrap_le (by omega) (by omega)]; omega))) (.cons (svI (show (IntKind.wrap .i64 ((j : Int) + 1)) = (((j + 1) : Int)) by first | rfl | omega | exact wrap_le (by omega) (by omega) | (rw [wrap_le (by omega) (by omega)]; omega))) .nil))) .nil) ⟨(show (j + 1) ≤ a.length ∧ 0 ≤ (szEnv (a.getD j default) v) ∧ (szEnv (a.getD j default) v) ≤ 1048576 ∧ ¬ left - a.length < 0 ∧ szF szEnv (szEnv (a.getD j default) v) (a.drop (j + 1)) = szF szEnv (left - a.length) a by (have hx := szEnv_len ⟨hI.2.1, hI.2.2.1⟩ c2; exact ⟨by omega, by omega, by omega, hI.2.2.2.1, by rw [← hI.2.2.2.2]; exact (szF_step (by omega) c2).symm⟩)), (show a.length - (j + 1) < a.length - j by omega)⟩
   ·have c1 := of_decide_eq_false c1
    refine .exit ?_
    refine .seq ?_
    refine .reg (X := Unit) (fun ζ => .of [(4, .one (.d (.v (.int .i64 (v)))))] []) [⟨[1], some 26, [], []⟩, ⟨[26], some 4, [], []⟩] (fun k16 => ?_) ?_
    ·skip
     refine .move (.no rfl) rfl rfl rfl rfl ?_
     refine .assign (.no rfl) rfl rfl rfl rfl ?_
     exact .fin () (.of (.cons rfl .nil) .nil)
    intro _
    refine .ret ?_
    have e17 : (v) = (szEnvS a left) := by (simp only [szEnvS]; rw [if_neg hI.2.2.2.1, ← hI.2.2.2.2, szF_end (by omega)])
    have hc18 := eq1 (fun z1 => SV.one (.d (.v (.int .i64 (z1))))) e17
    show _ ∧ _
    exact ⟨.inr rfl, .done ⟨_, [], [], _, .one (c := .d (.v (.int .i64 (szEnvS a left)))) (hc18) .nil, .cons (Reads.d _).gives .nil, nodupB_ok rfl, by simp, (by simp)⟩⟩
theorem c_szPart (a : Part) (left : Int) (hl : 0 ≤ left ∧ left ≤ 1048576) : Trip Tryz.prog 57 [(true, 2), (false, 1)] (Part.c94 a ++ [.v (.int .i64 (left))]) [(false, 1)] [.v (.int .i64 (szPart a left))] [] := by
 refine Trip.of Tryz.func57 (by decide) (c := _) rfl rfl (shB_ok rfl) (Nat.le_of_ble_eq_true rfl) rfl (AftOk.nil _) ?_
 refine .satA (t := 0) (i := 0) rfl rfl (fun hs1 => ?_)
 have hs1l : a.token.length ≤ 9223372036854775807 := hs1.maplen
 refine .satA (t := 0) (i := 1) rfl rfl (fun hs2 => ?_)
 have hs2l : a.table.length ≤ 9223372036854775807 := hs2.maplen
 refine .seq ?_
 refine .reg (X := Nat) (fun ζ => .of [(1, .one (.d (.v (.int .i64 (left))))), (2, .one (.ptr [2] (ζ) 0))] [([2], (ζ, ζ, .box [.d (.sl false 163 2 (List.map Entry.c (a.token))), .d (.sl false 69 3 (List.map Env.c69 (a.table)))]))]) [⟨[0], some 2, [], [[2]]⟩, ⟨[], some 4, [], []⟩] (fun k3 => ?_) ?_
 ·skip
  refine .box (.no rfl) rfl rfl rfl rfl rfl ?_
  refine .assign (.no rfl) rfl rfl rfl rfl ?_
  exact .fin k3 (.of (.cons rfl (.cons rfl .nil)) (.cons rfl .nil))
 intro g4
 refine .seq ?_
 refine .reg (X := Unit) (fun ζ => .of [(1, .one (.d (.v (.int .i64 (szPl a.token left))))), (2, .one (.ptr [2] (g4) 0))] [([2], (g4, g4, .box [.d (.sl false 163 2 (List.map Entry.c (a.token))), .d (.sl false 69 3 (List.map Env.c69 (a.table)))]))]) [⟨[2], some 5, [], []⟩, ⟨[5], some 6, [[2]], []⟩, ⟨[1], some 7, [], []⟩, ⟨[6, 7], some 8, [], []⟩, ⟨[8], some 1, [], []⟩] (fun k5 => ?_) ?_
 ·skip
  refine .fieldAddrP (.no rfl) rfl t94 rfl rfl t92 rfl rfl rfl rfl ?_
  refine .load (.no rfl) rfl t92 rfl rfl (.ptr _ _ _ _ _ rfl) rfl rfl rfl rfl ?_
  refine .move (.no rfl) rfl rfl rfl rfl ?_
  refine .call (.no rfl) rfl [] [] (c_szEntryS a.token left (by first | assumption | exact ⟨by omega, szPl_le (by omega)⟩)) rfl rfl rfl rfl rfl (.cons (Reads.d _).gives (.cons (Reads.d _).gives .nil)) rfl rfl (fun h => absurd rfl h) (.own [8, 0] .nil) (.nil) rfl rfl rfl (by simp) rfl rfl rfl ?_
  refine .assign (.no rfl) rfl rfl rfl rfl ?_
  exact .fin () (.of (.cons rfl (.cons rfl .nil)) (.cons rfl .nil))
 intro _
 refine .seq ?_
 refine .seq ?_
 refine .reg (X := Unit) (fun ζ => .of [(1, .one (.d (.v (.int .i64 (szPl a.token left))))), (2, .one (.ptr [2] (g4) 0)), (10, .one (.d (.v (.bool (decide ((szPl a.token left) < 0))))))] [([2], (g4, g4, .box [.d (.sl false 163 2 (List.map Entry.c (a.token))), .d (.sl false 69 3 (List.map Env.c69 (a.table)))]))]) [⟨[1], some 9, [], []⟩, ⟨[9], some 10, [], []⟩] (fun k6 => ?_) ?_
 ·skip
  refine .move (.no rfl) rfl rfl rfl rfl ?_
  refine .bin (.no rfl) rfl rfl rfl rfl rfl rfl ?_
  exact .fin () (.of (.cons rfl (.cons rfl (.cons rfl .nil))) (.cons rfl .nil))
 intro _
 refine .cond (t := decide ((szPl a.token left) < 0)) rfl (fun c0 => ?_) (fun c0 => ?_)
 ·have c0 := of_decide_eq_true c0
  refine .seq ?_
  refine .reg (X := Unit) (fun ζ => .of [(4, .one (.d (.v (.int .i64 (-1)))))] []) [⟨[], some 4, [], []⟩] (fun k7 => ?_) ?_
  ·skip
   refine .assign (.no rfl) rfl rfl rfl rfl ?_
   exact .fin () (.of (.cons rfl .nil) .nil)
  intro _
  refine .ret ?_
  have e8 : (-1) = (szPart a left) := by (simp only [szPart]; rw [if_pos c0])
  have hc9 := eq1 (fun z1 => SV.one (.d (.v (.int .i64 (z1))))) e8
  show _ ∧ _
  exact ⟨.inr rfl, .done ⟨_, [], [], _, .one (c := .d (.v (.int .i64 (szPart a left)))) (hc9) .nil, .cons (Reads.d _).gives .nil, nodupB_ok rfl, by simp, (by simp)⟩⟩
 ·have c0 := of_decide_eq_false c0
  refine .skip ?_
  refine .seq ?_
  refine .reg (X := Unit) (fun ζ => .of [(1, .one (.d (.v (.int .i64 (szEnvS a.table (szPl a.token left))))))] []) [⟨[2], some 11, [], []⟩, ⟨[11], some 12, [[2]], []⟩, ⟨[1], some 13, [], []⟩, ⟨[12, 13], some 14, [], []⟩, ⟨[14], some 1, [], []⟩] (fun k10 => ?_) ?_
  ·skip
   refine .fieldAddrP (.no rfl) rfl t94 rfl rfl t26 rfl rfl rfl rfl ?_
   refine .load (.no rfl) rfl t26 rfl rfl (.ptr _ _ _ _ _ rfl) rfl rfl rfl rfl ?_
   refine .move (.no rfl) rfl rfl rfl rfl ?_
   refine .call (.no rfl) rfl [] [] (c_szEnvS a.table (szPl a.token left) (by first | assumption | exact ⟨by omega, szPl_le (by omega)⟩)) rfl rfl rfl rfl rfl (.cons (Reads.d _).gives (.cons (Reads.d _).gives .nil)) rfl rfl (fun h => absurd rfl h) (.own [14, 0] .nil) (.nil) rfl rfl rfl (by simp) rfl rfl rfl ?_
   refine .assign (.no rfl) rfl rfl rfl rfl ?_
   exact .fin () (.of (.cons rfl .nil) .nil)
  intro _
  refine .seq ?_
  refine .seq ?_
  refine .reg (X := Unit) (fun ζ => .of [(1, .one (.d (.v (.int .i64 (szEnvS a.table (szPl a.token left)))))), (16, .one (.d (.v (.bool (decide ((szEnvS a.table (szPl a.token left)) < 0))))))] []) [⟨[1], some 15, [], []⟩, ⟨[15], some 16, [], []⟩] (fun k11 => ?_) ?_
  ·skip
   refine .move (.no rfl) rfl rfl rfl rfl ?_
   refine .bin (.no rfl) rfl rfl rfl rfl rfl rfl ?_
   exact .fin () (.of (.cons rfl (.cons rfl .nil)) .nil)
  intro _
  refine .cond (t := decide ((szEnvS a.table (szPl a.token left)) < 0)) rfl (fun c1 => ?_) (fun c1 => ?_)
  ·have c1 := of_decide_eq_true c1
   refine .seq ?_
   refine .reg (X := Unit) (fun ζ => .of [(4, .one (.d (.v (.int .i64 (-1)))))] []) [⟨[], some 4, [], []⟩] (fun k12 => ?_) ?_
   ·skip
    refine .assign (.no rfl) rfl rfl rfl rfl ?_
    exact .fin () (.of (.cons rfl .nil) .nil)
   intro _
   refine .ret ?_
   have e13 : (-1) = (szPart a left) := by (simp only [szPart]; rw [if_neg c0, if_pos c1])
   have hc14 := eq1 (fun z1 => SV.one (.d (.v (.int .i64 (z1))))) e13
   show _ ∧ _
   exact ⟨.inr rfl, .done ⟨_, [], [], _, .one (c := .d (.v (.int .i64 (szPart a left)))) (hc14) .nil, .cons (Reads.d _).gives .nil, nodupB_ok rfl, by simp, (by simp)⟩⟩
  ·have c1 := of_decide_eq_false c1
   refine .skip ?_
   refine .seq ?_
   refine .reg (X := Unit) (fun ζ => .of [(4, .one (.d (.v (.int .i64 (szEnvS a.table (szPl a.token left))))))] []) [⟨[1], some 17, [], []⟩, ⟨[17], some 4, [], []⟩] (fun k15 => ?_) ?_
   ·skip
    refine .move (.no rfl) rfl rfl rfl rfl ?_
    refine .assign (.no rfl) rfl rfl rfl rfl ?_
    exact .fin () (.of (.cons rfl .nil) .nil)
   intro _
   refine .ret ?_
   have e16 : (szEnvS a.table (szPl a.token left)) = (szPart a left) := by (simp only [szPart]; rw [if_neg c0, if_neg c1])
   have hc17 := eq1 (fun z1 => SV.one (.d (.v (.int .i64 (z1))))) e16
   show _ ∧ _
   exact ⟨.inr rfl, .done ⟨_, [], [], _, .one (c := .d (.v (.int .i64 (szPart a left)))) (hc17) .nil, .cons (Reads.d _).gives .nil, nodupB_ok rfl, by simp, (by simp)⟩⟩
theorem c_szPartS (a : List Part) (left : Int) (hl : 0 ≤ left ∧ left ≤ 1048576) : Trip Tryz.prog 18 [(false, 1), (false, 1)] ([.sl false 94 2 (List.map Part.c94 (a))] ++ [.v (.int .i64 (left))]) [(false, 1)] [.v (.int .i64 (szPartS a left))] [] := by
 refine Trip.of Tryz.func18 (by decide) (c := _) rfl rfl (shB_ok rfl) (Nat.le_of_ble_eq_true rfl) rfl (AftOk.nil _) ?_
 refine .sat (t := 0) rfl (fun hs1 => ?_)
 have hs1l : a.length ≤ 9223372036854775807 := hs1.maplen
 refine .seq ?_
 refine .reg (X := Unit) (fun ζ => .of [(0, .one (.d (.sl false 94 2 (List.map Part.c94 (a))))), (1, .one (.d (.v (.int .i64 (left)))))] []) [⟨[], some 4, [], []⟩] (fun k2 => ?_) ?_
 ·skip
  refine .assign (.no rfl) rfl rfl rfl rfl ?_
  exact .fin () (.of (.cons rfl (.cons rfl .nil)) .nil)
 intro _
 refine .seq ?_
 refine .reg (X := Unit) (fun ζ => .of [(0, .one (.d (.sl false 94 2 (List.map Part.c94 (a))))), (1, .one (.d (.v (.int .i64 (IntKind.wrap .i64 (left - (a.length : Int)))))))] []) [⟨[1], some 6, [], []⟩, ⟨[0], some 7, [], []⟩, ⟨[7], some 8, [], []⟩, ⟨[6, 8], some 9, [], []⟩, ⟨[9], some 1, [], []⟩] (fun k3 => ?_) ?_
 ·skip
  refine .move (.no rfl) rfl rfl rfl rfl ?_
  refine .move (.no rfl) rfl rfl rfl rfl ?_
  refine .len (.no rfl) rfl (z := (a.length : Int)) t48 rfl rfl rfl (.d _ _) (map_len _ _) rfl ?_
  refine .bin (.no rfl) rfl rfl rfl rfl rfl rfl ?_
  refine .assign (.no rfl) rfl rfl rfl rfl ?_
  exact .fin () (.of (.cons rfl (.cons rfl .nil)) .nil)
 intro _
 refine .seq ?_
 refine .seq ?_
 refine .reg (X := Unit) (fun ζ => .of [(0, .one (.d (.sl false 94 2 (List.map Part.c94 (a))))), (1, .one (.d (.v (.int .i64 (IntKind.wrap .i64 (left - (a.length : Int))))))), (11, .one (.d (.v (.bool (decide ((IntKind.wrap .i64 (left - (a.length : Int))) < 0))))))] []) [⟨[1], some 10, [], []⟩, ⟨[10], some 11, [], []⟩] (fun k4 => ?_) ?_
 ·skip
  refine .move (.no rfl) rfl rfl rfl rfl ?_
  refine .bin (.no rfl) rfl rfl rfl rfl rfl rfl ?_
  exact .fin () (.of (.cons rfl (.cons rfl (.cons rfl .nil))) .nil)
 intro _
 refine .cond (t := decide ((IntKind.wrap .i64 (left - (a.length : Int))) < 0)) rfl (fun c0 => ?_) (fun c0 => ?_)
 ·have c0 := of_decide_eq_true c0
  refine .seq ?_
  refine .reg (X := Unit) (fun ζ => .of [(4, .one (.d (.v (.int .i64 (-1)))))] []) [⟨[], some 4, [], []⟩] (fun k5 => ?_) ?_
  ·skip
   refine .assign (.no rfl) rfl rfl rfl rfl ?_
   exact .fin () (.of (.cons rfl .nil) .nil)
  intro _
  refine .ret ?_
  have e6 : (-1) = (szPartS a left) := by (rw [wrap_le (by omega) (by omega)] at c0; simp only [szPartS]; rw [if_pos c0])
  have hc7 := eq1 (fun z1 => SV.one (.d (.v (.int .i64 (z1))))) e6
  show _ ∧ _
  exact ⟨.inr rfl, .done ⟨_, [], [], _, .one (c := .d (.v (.int .i64 (szPartS a left)))) (hc7) .nil, .cons (Reads.d _).gives .nil, nodupB_ok rfl, by simp, (by simp)⟩⟩
 ·have c0 := of_decide_eq_false c0
  refine .skip ?_
  refine .seq ?_
  refine .seq ?_
  refine .reg (X := Unit) (fun ζ => .of [(0, .one (.d (.sl false 94 2 (List.map Part.c94 (a))))), (1, .one (.d (.v (.int .i64 (IntKind.wrap .i64 (left - (a.length : Int))))))), (5, .one (.d (.v (.int .i64 (0)))))] []) [⟨[], some 5, [], []⟩] (fun k8 => ?_) ?_
  ·skip
   refine .assign (.no rfl) rfl rfl rfl rfl ?_
   exact .fin () (.of (.cons rfl (.cons rfl (.cons rfl .nil))) .nil)
  intro _
  refine .block ?_
  refine .loop (X := Nat × Int) (fun ζ => .of [(0, .one (.d (.sl false 94 2 (List.map Part.c94 (a))))), (1, .one (.d (.v (.int .i64 (ζ.2))))), (5, .one (.d (.v (.int .i64 ((ζ.1 : Int))))))] []) (fun ζ => ζ.1 ≤ a.length ∧ 0 ≤ ζ.2 ∧ ζ.2 ≤ 1048576 ∧ ¬ left - a.length < 0 ∧ szF szPart ζ.2 (a.drop ζ.1) = szF szPart (left - a.length) a) (fun ζ => a.length - ζ.1) ?_ ?_
  ·skip
   exact .here (0, (left - a.length)) (.of (.cons rfl (.cons (svI (show (IntKind.wrap .i64 (left - (a.length : Int))) = ((left - a.length)) by first | rfl | omega | exact wrap_le (by omega) (by omega) | (rw [wrap_le (by omega) (by omega)]; omega))) (.cons (svI (show (0) = ((0 : Int)) by first | rfl | omega | exact wrap_le (by omega) (by omega) | (rw [wrap_le (by omega) (by omega)]; omega))) .nil))) .nil) (show 0 ≤ a.length ∧ 0 ≤ (left - a.length) ∧ (left - a.length) ≤ 1048576 ∧ ¬ left - a.length < 0 ∧ szF szPart (left - a.length) (a.drop 0) = szF szPart (left - a.length) a by (rw [wrap_le (by omega) (by omega)] at c0; exact ⟨by omega, by omega, by omega, c0, by simp⟩))
  ·rintro ⟨j, v⟩ hI
   have hI : j ≤ a.length ∧ 0 ≤ v ∧ v ≤ 1048576 ∧ ¬ left - a.length < 0 ∧ szF szPart v (a.drop j) = szF szPart (left - a.length) a := hI
   refine .seq ?_
   refine .seq ?_
   refine .reg (X := Unit) (fun ζ => .of [(0, .one (.d (.sl false 94 2 (List.map Part.c94 (a))))), (1, .one (.d (.v (.int .i64 (v))))), (5, .one (.d (.v (.int .i64 ((j : Int)))))), (15, .one (.d (.v (.bool (decide ((j : Int) < (a.length : Int)))))))] []) [⟨[5], some 12, [], []⟩, ⟨[0], some 13, [], []⟩, ⟨[13], some 14, [], []⟩, ⟨[12, 14], some 15, [], []⟩] (fun k9 => ?_) ?_
   ·skip
    refine .move (.no rfl) rfl rfl rfl rfl ?_
    refine .move (.no rfl) rfl rfl rfl rfl ?_
    refine .len (.no rfl) rfl (z := (a.length : Int)) t48 rfl rfl rfl (.d _ _) (map_len _ _) rfl ?_
    refine .bin (.no rfl) rfl rfl rfl rfl rfl rfl ?_
    exact .fin () (.of (.cons rfl (.cons rfl (.cons rfl (.cons rfl .nil)))) .nil)
   intro _
   refine .cond (t := decide ((j : Int) < (a.length : Int))) rfl (fun c1 => ?_) (fun c1 => ?_)
   ·have c1 := of_decide_eq_true c1
    refine .skip ?_
    refine .seq ?_
    refine .block ?_
    refine .seq ?_
    refine .reg (X := Unit) (fun ζ => .of [(0, .one (.d (.sl false 94 2 (List.map Part.c94 (a))))), (1, .one (.d (.v (.int .i64 (szPart (a.getD j default) v))))), (5, .one (.d (.v (.int .i64 ((j : Int))))))] []) [⟨[0], some 18, [], []⟩, ⟨[5], some 19, [], []⟩, ⟨[18, 19], some 20, [], []⟩, ⟨[20], some 21, [], []⟩, ⟨[1], some 22, [], []⟩, ⟨[21, 22], some 23, [], []⟩, ⟨[23], some 1, [], []⟩] (fun k10 => ?_) ?_
    ·skip
     refine .move (.no rfl) rfl rfl rfl rfl ?_
     refine .move (.no rfl) rfl rfl rfl rfl ?_
     refine .indexAddr (.no rfl) rfl (j) t48 rfl t94 rfl rfl rfl (.d _ _) rfl rfl rfl (map_get (by omega)) rfl rfl ?_
     refine .load (.no rfl) rfl t94 rfl rfl (.d _) rfl rfl rfl rfl ?_
     refine .move (.no rfl) rfl rfl rfl rfl ?_
     refine .call (.no rfl) rfl [] [] (c_szPart (a.getD j default) v (by omega)) rfl rfl rfl rfl rfl (.cons (Reads.d _).gives (.cons (Reads.d _).gives (.cons (Reads.d _).gives .nil))) rfl rfl (fun h => absurd rfl h) (.own [23, 0] .nil) (.nil) rfl rfl rfl (by simp) rfl rfl rfl ?_
     refine .assign (.no rfl) rfl rfl rfl rfl ?_
     exact .fin () (.of (.cons rfl (.cons rfl (.cons rfl .nil))) .nil)
    intro _
    refine .seq ?_
    refine .reg (X := Unit) (fun ζ => .of [(0, .one (.d (.sl false 94 2 (List.map Part.c94 (a))))), (1, .one (.d (.v (.int .i64 (szPart (a.getD j default) v))))), (5, .one (.d (.v (.int .i64 ((j : Int)))))), (25, .one (.d (.v (.bool (decide ((szPart (a.getD j default) v) < 0))))))] []) [⟨[1], some 24, [], []⟩, ⟨[24], some 25, [], []⟩] (fun k11 => ?_) ?_
    ·skip
     refine .move (.no rfl) rfl rfl rfl rfl ?_
     refine .bin (.no rfl) rfl rfl rfl rfl rfl rfl ?_
     exact .fin () (.of (.cons rfl (.cons rfl (.cons rfl (.cons rfl .nil)))) .nil)
    intro _
    refine .cond (t := decide ((szPart (a.getD j default) v) < 0)) rfl (fun c2 => ?_) (fun c2 => ?_)
    ·have c2 := of_decide_eq_true c2
     refine .seq ?_
     refine .reg (X := Unit) (fun ζ => .of [(4, .one (.d (.v (.int .i64 (-1)))))] []) [⟨[], some 4, [], []⟩] (fun k12 => ?_) ?_
     ·skip
      refine .assign (.no rfl) rfl rfl rfl rfl ?_
      exact .fin () (.of (.cons rfl .nil) .nil)
     intro _
     refine .ret ?_
     have e13 : (-1) = (szPartS a left) := by (simp only [szPartS]; rw [if_neg hI.2.2.2.1, ← hI.2.2.2.2, szF_fail (by omega) c2])
     have hc14 := eq1 (fun z1 => SV.one (.d (.v (.int .i64 (z1))))) e13
     show _ ∧ _
     exact ⟨.inr rfl, .done ⟨_, [], [], _, .one (c := .d (.v (.int .i64 (szPartS a left)))) (hc14) .nil, .cons (Reads.d _).gives .nil, nodupB_ok rfl, by simp, (by simp)⟩⟩
    ·have c2 := of_decide_eq_false c2
     refine .skip ?_
     refine .reg (X := Unit) (fun ζ => .of [(0, .one (.d (.sl false 94 2 (List.map Part.c94 (a))))), (1, .one (.d (.v (.int .i64 (szPart (a.getD j default) v))))), (5, .one (.d (.v (.int .i64 (IntKind.wrap .i64 ((j : Int) + 1))))))] []) [⟨[5], some 16, [], []⟩, ⟨[16], some 17, [], []⟩, ⟨[17], some 5, [], []⟩] (fun k15 => ?_) ?_
     ·skip
      refine .move (.no rfl) rfl rfl rfl rfl ?_
      refine .bin (.no rfl) rfl rfl rfl rfl rfl rfl ?_
      refine .assign (.no rfl) rfl rfl rfl rfl ?_
      exact .fin () (.of (.cons rfl (.cons rfl (.cons rfl .nil))) .nil)
     intro _
     exact .here ((j + 1), (szPart (a.getD j default) v)) (.of (.cons rfl (.cons (svI (show (szPart (a.getD j default) v) = ((szPart (a.getD j default) v)) by first | rfl | omega | exact wrap_le (by omega) (by omega) | (rw [wrap_le (by omega) (by omega)]; omega))) (.cons (svI (show (IntKind.wrap .i64 ((j : Int) + 1)) = (((j + 1) : Int)) by first | rfl | omega | exact wrap_le (by omega) (by omega) | (rw [wrap_le (by omega) (by omega)]; omega))) .nil))) .nil) ⟨(show (j + 1) ≤ a.length ∧ 0 ≤ (szPart (a.getD j default) v) ∧ (szPart (a.getD j default) v) ≤ 1048576 ∧ ¬ left - a.length < 0 ∧ szF szPart (szPart (a.getD j default) v) (a.drop (j + 1)) = szF szPart (left - a.length) a by (have hx := (szPart_len ⟨hI.2.1, hI.2.2.1⟩ c2).2; exact ⟨by omega, by omega, by omega, hI.2.2.2.1, by rw [← hI.2.2.2.2]; exact (szF_step (by omega) c2).symm⟩)), (show a.length - (j + 1) < a.length - j by omega)⟩
   ·have c1 := of_decide_eq_false c1
    refine .exit ?_
    refine .seq ?_
    refine .reg (X := Unit) (fun ζ => .of [(4, .one (.d (.v (.int .i64 (v)))))] []) [⟨[1], some 26, [], []⟩, ⟨[26], some 4, [], []⟩] (fun k16 => ?_) ?_
    ·skip
     refine .move (.no rfl) rfl rfl rfl rfl ?_
     refine .assign (.no rfl) rfl rfl rfl rfl ?_
     exact .fin () (.of (.cons rfl .nil) .nil)
    intro _
    refine .ret ?_
    have e17 : (v) = (szPartS a left) := by (simp only [szPartS]; rw [if_neg hI.2.2.2.1, ← hI.2.2.2.2, szF_end (by omega)])
    have hc18 := eq1 (fun z1 => SV.one (.d (.v (.int .i64 (z1))))) e17
    show _ ∧ _
    exact ⟨.inr rfl, .done ⟨_, [], [], _, .one (c := .d (.v (.int .i64 (szPartS a left)))) (hc18) .nil, .cons (Reads.d _).gives .nil, nodupB_ok rfl, by simp, (by simp)⟩⟩
end Go.Proofs

namespace Go.Proofs
open Go Go.Proofs Go.Ev

def Part.c99 (x : Part) : List D := [.sl false 137 2 (List.map Entry.c (x.token)), .sl false 77 3 (List.map Env.c77 (x.table))]
theorem Part.c99_e (x : Part) : (Part.c99 x).map D.erase = Part.c99 x := by simp [Part.c99, D.erase_v, erase_slo _ _ _ _ _ _ Entry.c_e, erase_slo _ _ _ _ _ _ Env.c77_e]
def Part.co99 (x : Part) : List D := [.sl true 137 2 (List.map Entry.c (x.token)), .sl true 77 3 (List.map Env.co77 (x.table))]
theorem Part.co99_e (x : Part) : (Part.co99 x).map D.erase = Part.c99 x := by simp [Part.co99, Part.c99, D.erase_v, erase_slo _ _ _ _ _ _ Entry.c_e, erase_slo _ _ _ _ _ _ Env.co77_e]
theorem Part.co99_o (x : Part) : ∀ d ∈ Part.co99 x, Owned d := by simp [Part.co99, Owned.v, Owned.map _ _ _ _ Entry.c_o, Owned.map _ _ _ _ Env.co77_o]
def i40 : TI := ⟨.sl 77, 1, 24, [.slice none 0 0]⟩
theorem t40 : TyOk Tryz.prog 40 i40 := ⟨Tryz.underlying40, by kernel_rfl⟩
theorem z40 : ZOk Tryz.prog 40 i40 := ⟨t40, rfl⟩
def i51 : TI := ⟨.sl 99, 1, 24, [.slice none 0 0]⟩
theorem t51 : TyOk Tryz.prog 51 i51 := ⟨Tryz.underlying51, by kernel_rfl⟩
theorem z51 : ZOk Tryz.prog 51 i51 := ⟨t51, rfl⟩
def i97 : TI := ⟨.sl 137, 1, 24, [.slice none 0 0]⟩
theorem t97 : TyOk Tryz.prog 97 i97 := ⟨Tryz.underlying97, by kernel_rfl⟩
theorem z97 : ZOk Tryz.prog 97 i97 := ⟨t97, rfl⟩
def i99 : TI := ⟨.st [(0, 97), (1, 40)], 2, 48, [.slice none 0 0, .slice none 0 0]⟩
theorem t99 : TyOk Tryz.prog 99 i99 := ⟨⟨_, Tryz.underlying99, rfl⟩, by kernel_rfl⟩
theorem z99 : ZOk Tryz.prog 99 i99 := ⟨t99, rfl⟩
theorem p99 : Places Tryz.prog [(0, 97), (1, 40)] [(0, 1), (1, 1)] := by unfold Places; kernel_rfl
def i137 : TI := ⟨.st [(0, 2), (1, 2)], 2, 16, [.int .i64 0, .int .i64 0]⟩
theorem t137 : TyOk Tryz.prog 137 i137 := ⟨⟨_, Tryz.underlying137, rfl⟩, by kernel_rfl⟩
theorem z137 : ZOk Tryz.prog 137 i137 := ⟨t137, rfl⟩
theorem p137 : Places Tryz.prog [(0, 2), (1, 2)] [(0, 1), (1, 1)] := by unfold Places; kernel_rfl
def i163 : TI := ⟨.st [(0, 2), (1, 2)], 2, 16, [.int .i64 0, .int .i64 0]⟩
theorem t163 : TyOk Tryz.prog 163 i163 := ⟨⟨_, Tryz.underlying163, rfl⟩, by kernel_rfl⟩
theorem z163 : ZOk Tryz.prog 163 i163 := ⟨t163, rfl⟩
theorem p163 : Places Tryz.prog [(0, 2), (1, 2)] [(0, 1), (1, 1)] := by unfold Places; kernel_rfl
theorem c_toEnvS (a : List Env) (hb : a.length ≤ 1048576) (hx : ∀ x ∈ a, x.ints.length ≤ 1048576 ∧ x.arrs.length ≤ 1048576) : Trip Tryz.prog 12 [(false, 1)] ([.sl false 69 3 (List.map Env.c69 (a))]) [(false, 1)] [.sl true 77 3 (List.map Env.co77 (a))] [] := by
 refine Trip.of Tryz.func12 (by decide) (c := _) rfl rfl (shB_ok rfl) (Nat.le_of_ble_eq_true rfl) rfl (AftOk.nil _) ?_
 refine .sat (t := 0) rfl (fun hs1 => ?_)
 have hs1l : a.length ≤ 9223372036854775807 := hs1.maplen
 refine .seq ?_
 refine .reg (X := Unit) (fun ζ => .of [(0, .one (.d (.sl false 69 3 (List.map Env.c69 (a)))))] []) [⟨[], some 2, [], []⟩] (fun k2 => ?_) ?_
 ·skip
  refine .assign (.no rfl) rfl rfl rfl rfl ?_
  exact .fin () (.of (.cons rfl .nil) .nil)
 intro _
 refine .seq ?_
 refine .reg (X := Nat) (fun ζ => .of [(0, .one (.d (.sl false 69 3 (List.map Env.c69 (a))))), (3, .one (.ref [7] (ζ)))] [([7], (ζ, ζ, .row 77 3 (List.replicate a.length [.v (.bool (false)), .v (.slice none 0 0), .v (.slice none 0 0)])))]) [⟨[0], some 5, [], []⟩, ⟨[5], some 6, [], []⟩, ⟨[6, 6], some 7, [], [[7]]⟩, ⟨[7], some 3, [], []⟩] (fun k3 => ?_) ?_
 ·skip
  refine .move (.no rfl) rfl rfl rfl rfl ?_
  refine .len (.no rfl) rfl (z := (a.length : Int)) t26 rfl rfl rfl (.d _ _) (map_len _ _) rfl ?_
  refine .makeSlice (.no rfl) rfl (n0 := a.length) (els := List.replicate a.length [.v (.bool (false)), .v (.slice none 0 0), .v (.slice none 0 0)]) t40 rfl z77 rfl rfl rfl rfl rfl (by (simp [i77]; omega)) (by omega) rfl rfl ?_
  refine .assign (.no rfl) rfl rfl rfl rfl ?_
  exact .fin (k3 + 1 + 1) (.of (.cons rfl (.cons rfl .nil)) (.cons rfl .nil))
 intro g4
 refine .seq ?_
 refine .seq ?_
 refine .reg (X := Unit) (fun ζ => .of [(0, .one (.d (.sl false 69 3 (List.map Env.c69 (a))))), (3, .one (.ref [7] (g4))), (4, .one (.d (.v (.int .i64 (0)))))] [([7], (g4, g4, .row 77 3 (List.replicate a.length [.v (.bool (false)), .v (.slice none 0 0), .v (.slice none 0 0)])))]) [⟨[], some 4, [], []⟩] (fun k5 => ?_) ?_
 ·skip
  refine .assign (.no rfl) rfl rfl rfl rfl ?_
  exact .fin () (.of (.cons rfl (.cons rfl (.cons rfl .nil))) (.cons rfl .nil))
 intro _
 refine .block ?_
 refine .loop (X := Nat × Nat × Nat) (fun ζ => .of [(0, .one (.d (.sl false 69 3 (List.map Env.c69 (a))))), (3, .one (.ref [7] (ζ.2.1))), (4, .one (.d (.v (.int .i64 ((ζ.1 : Int))))))] [([7], (ζ.2.1, ζ.2.2, .row 77 3 (List.map Env.co77 (fillTo a (Env.mk false [] []) ζ.1))))]) (fun ζ => ζ.1 ≤ a.length) (fun ζ => a.length - ζ.1) ?_ ?_
 ·skip
  refine .rowAs [7] (x := [.v (.bool (false)), .v (.slice none 0 0), .v (.slice none 0 0)]) (x' := [.v (.bool (false)), .sl true 122 2 ([]), .sl true 122 2 ([])]) (els' := List.map Env.co77 (List.replicate a.length (Env.mk false [] []))) rfl rfl (.eq _ (.emp _ _ _ (.emp _ _ _ .nil))) (rep_map _ _ _ rfl) fun q8 => ?_
  exact .here (0, g4, q8) (.of (.cons rfl (.cons rfl (.cons (svI (show (0) = ((0 : Int)) by first | rfl | omega | exact wrap_le (by omega) (by omega) | (rw [wrap_le (by omega) (by omega)]; omega))) .nil))) (.cons (rowE (show List.map Env.co77 (List.replicate a.length (Env.mk false [] [])) = List.map Env.co77 (fillTo a (Env.mk false [] []) 0) by first | rfl | (rw [fillTo_zero]) | (rw [fillTo_step _ _ _ (by omega) rfl]))) .nil)) (show 0 ≤ a.length by omega)
 ·rintro ⟨j, q6, q7⟩ hI
  have hI : j ≤ a.length := hI
  refine .seq ?_
  refine .seq ?_
  refine .reg (X := Unit) (fun ζ => .of [(0, .one (.d (.sl false 69 3 (List.map Env.c69 (a))))), (3, .one (.ref [7] (q6))), (4, .one (.d (.v (.int .i64 ((j : Int)))))), (11, .one (.d (.v (.bool (decide ((j : Int) < (a.length : Int)))))))] [([7], (q6, q7, .row 77 3 (List.map Env.co77 (fillTo a (Env.mk false [] []) j))))]) [⟨[4], some 8, [], []⟩, ⟨[0], some 9, [], []⟩, ⟨[9], some 10, [], []⟩, ⟨[8, 10], some 11, [], []⟩] (fun k9 => ?_) ?_
  ·skip
   refine .move (.no rfl) rfl rfl rfl rfl ?_
   refine .move (.no rfl) rfl rfl rfl rfl ?_
   refine .len (.no rfl) rfl (z := (a.length : Int)) t26 rfl rfl rfl (.d _ _) (map_len _ _) rfl ?_
   refine .bin (.no rfl) rfl rfl rfl rfl rfl rfl ?_
   exact .fin () (.of (.cons rfl (.cons rfl (.cons rfl (.cons rfl .nil)))) (.cons rfl .nil))
  intro _
  refine .cond (t := decide ((j : Int) < (a.length : Int))) rfl (fun c0 => ?_) (fun c0 => ?_)
  ·have c0 := of_decide_eq_true c0
   refine .skip ?_
   refine .seq ?_
   refine .block ?_
   refine .reg (X := Nat) (fun ζ => .of [(0, .one (.d (.sl false 69 3 (List.map Env.c69 (a))))), (3, .one (.ref [7] (q6))), (4, .one (.d (.v (.int .i64 ((j : Int))))))] [([7], (q6, ζ, .row 77 3 (List.map Env.co77 ((fillTo a (Env.mk false [] []) j).set j (a.getD j default)))))]) [⟨[3], some 14, [], []⟩, ⟨[4], some 15, [], []⟩, ⟨[0], some 16, [], []⟩, ⟨[4], some 17, [], []⟩, ⟨[16, 17], some 18, [], []⟩, ⟨[18], some 19, [], []⟩, ⟨[19], some 20, [], [[20, 1], [20, 2]]⟩, ⟨[14, 15], some 21, [[7]], []⟩, ⟨[21, 20], none, [[7], [20, 1], [20, 2]], [[20, 1], [20, 2], [7]]⟩] (fun k10 => ?_) ?_
   ·skip
    refine .move (.no rfl) rfl rfl rfl rfl ?_
    refine .move (.no rfl) rfl rfl rfl rfl ?_
    refine .move (.no rfl) rfl rfl rfl rfl ?_
    refine .move (.no rfl) rfl rfl rfl rfl ?_
    refine .indexAddr (.no rfl) rfl (j) t26 rfl t69 rfl rfl rfl (.d _ _) rfl rfl rfl (map_get (by first | omega | (rw [fillTo_len]; omega))) rfl rfl ?_
    refine .load (.no rfl) rfl t69 rfl rfl (.d _) rfl rfl rfl rfl ?_
    refine .call (.no rfl) rfl [] [] (c_toEnv (a.getD j default) (by exact hx _ (getD_mem (by omega)))) rfl rfl rfl rfl rfl (.cons (Reads.d _).gives (.cons (Reads.d _).gives (.cons (Reads.d _).gives .nil))) rfl rfl (fun h => absurd rfl h) (.own [20, 0] (.own [20, 1] (.own [20, 2] .nil))) (.nil) rfl rfl rfl (by simp) rfl rfl rfl ?_
    refine .indexAddr (.no rfl) rfl (j) t40 rfl t77 rfl rfl rfl (.ref _ _ _ _ _ rfl) rfl rfl rfl (map_get (by first | omega | (rw [fillTo_len]; omega))) rfl rfl ?_
    refine .storeE (.no rfl) rfl (els' := List.map Env.co77 ((fillTo a (Env.mk false [] []) j).set j (a.getD j default))) t77 rfl rfl rfl rfl (map_get (by first | omega | (rw [fillTo_len]; omega))) rfl rfl (.cons _ _ _ _ _ _ (.d _) (.cons _ _ _ _ _ _ (.ref _ _ _ _ _ _ rfl) (.cons _ _ _ _ _ _ (.ref _ _ _ _ _ _ rfl) .nil))) rfl (Nat.le_of_ble_eq_true rfl) (set_map _ _ _ (a.getD j default) _ rfl) rfl rfl ?_
    exact .fin (k10 + 1 + 1 + 1 + 1 + 1 + 1 + 1 + 1) (.of (.cons rfl (.cons rfl (.cons rfl .nil))) (.cons rfl .nil))
   intro g11
   refine .reg (X := Unit) (fun ζ => .of [(0, .one (.d (.sl false 69 3 (List.map Env.c69 (a))))), (3, .one (.ref [7] (q6))), (4, .one (.d (.v (.int .i64 (IntKind.wrap .i64 ((j : Int) + 1))))))] [([7], (q6, g11, .row 77 3 (List.map Env.co77 ((fillTo a (Env.mk false [] []) j).set j (a.getD j default)))))]) [⟨[4], some 12, [], []⟩, ⟨[12], some 13, [], []⟩, ⟨[13], some 4, [], []⟩] (fun k12 => ?_) ?_
   ·skip
    refine .move (.no rfl) rfl rfl rfl rfl ?_
    refine .bin (.no rfl) rfl rfl rfl rfl rfl rfl ?_
    refine .assign (.no rfl) rfl rfl rfl rfl ?_
    exact .fin () (.of (.cons rfl (.cons rfl (.cons rfl .nil))) (.cons rfl .nil))
   intro _
   exact .here ((j + 1), q6, g11) (.of (.cons rfl (.cons rfl (.cons (svI (show (IntKind.wrap .i64 ((j : Int) + 1)) = (((j + 1) : Int)) by first | rfl | omega | exact wrap_le (by omega) (by omega) | (rw [wrap_le (by omega) (by omega)]; omega))) .nil))) (.cons (rowE (show List.map Env.co77 ((fillTo a (Env.mk false [] []) j).set j (a.getD j default)) = List.map Env.co77 (fillTo a (Env.mk false [] []) (j + 1)) by first | rfl | (rw [fillTo_zero]) | (rw [fillTo_step _ _ _ (by omega) rfl]))) .nil)) ⟨(show (j + 1) ≤ a.length by omega), (show a.length - (j + 1) < a.length - j by omega)⟩
  ·have c0 := of_decide_eq_false c0
   refine .exit ?_
   refine .seq ?_
   refine .reg (X := Unit) (fun ζ => .of [(2, .one (.ref [7] (q6)))] [([7], (q6, q7, .row 77 3 (List.map Env.co77 (fillTo a (Env.mk false [] []) j))))]) [⟨[3], some 22, [], []⟩, ⟨[22], some 2, [], []⟩] (fun k13 => ?_) ?_
   ·skip
    refine .move (.no rfl) rfl rfl rfl rfl ?_
    refine .assign (.no rfl) rfl rfl rfl rfl ?_
    exact .fin () (.of (.cons rfl .nil) (.cons rfl .nil))
   intro _
   refine .ret ?_
   have e14 : (fillTo a (Env.mk false [] []) j) = (a) := by (exact fillTo_all _ _ (by omega))
   show _ ∧ _
   exact ⟨.inr rfl, .done ⟨_, [], [([7], (q6, q7, .row 77 3 (List.map Env.co77 (a))))], _, .one rfl .nil, .cons (.ref (.head _)) .nil, nodupB_ok rfl, by simp, (AllH.get (.cons (rowE (congrArg (List.map Env.co77) e14)) .nil))⟩⟩
theorem c_toEntry (a : Entry) : Trip Tryz.prog 127 [(true, 2)] (Entry.c a) [(true, 2)] [.v (.int .i64 (a.line)), .v (.int .i64 (a.pick))] [] := by
 refine Trip.of Tryz.func127 (by decide) (c := _) rfl rfl (shB_ok rfl) (Nat.le_of_ble_eq_true rfl) rfl (AftOk.nil _) ?_
 refine .seq ?_
 refine .reg (X := Nat × Nat) (fun ζ => .of [(1, .one (.ptr [1] (ζ.1) 0)), (2, .one (.ptr [2] (ζ.2) 0))] [([1], (ζ.1, ζ.1, .box [.d (.v (.int .i64 (a.line))), .d (.v (.int .i64 (a.pick)))])), ([2], (ζ.2, ζ.2, .box [.d (.v (.int .i64 (0))), .d (.v (.int .i64 (0)))]))]) [⟨[0], some 1, [], [[1]]⟩, ⟨[], some 2, [], [[2]]⟩] (fun k1 => ?_) ?_
 ·skip
  refine .box (.no rfl) rfl rfl rfl rfl rfl ?_
  refine .alloc (.no rfl) rfl z137 rfl rfl rfl ?_
  exact .fin (k1, k1 + 1) (.of (.cons rfl (.cons rfl .nil)) (.cons rfl (.cons rfl .nil)))
 rintro ⟨g2, g3⟩
 refine .seq ?_
 refine .reg (X := Nat) (fun ζ => .of [(1, .one (.ptr [1] (g2) 0)), (2, .one (.ptr [2] (g3) 0)), (3, .one (.ptr [3] (ζ) 0))] [([1], (g2, g2, .box [.d (.v (.int .i64 (a.line))), .d (.v (.int .i64 (a.pick)))])), ([2], (g3, g3, .box [.d (.v (.int .i64 (0))), .d (.v (.int .i64 (0)))])), ([3], (ζ, ζ, .box [.d (.v (.int .i64 (0))), .d (.v (.int .i64 (0)))]))]) [⟨[], some 3, [], [[3]]⟩] (fun k4 => ?_) ?_
 ·skip
  refine .alloc (.no rfl) rfl z137 rfl rfl rfl ?_
  exact .fin k4 (.of (.cons rfl (.cons rfl (.cons rfl .nil))) (.cons rfl (.cons rfl (.cons rfl .nil))))
 intro g5
 refine .seq ?_
 refine .reg (X := Nat) (fun ζ => .of [(1, .one (.ptr [1] (g2) 0)), (2, .one (.ptr [2] (g3) 0)), (3, .one (.ptr [3] (g5) 0))] [([1], (g2, g2, .box [.d (.v (.int .i64 (a.line))), .d (.v (.int .i64 (a.pick)))])), ([2], (g3, g3, .box [.d (.v (.int .i64 (0))), .d (.v (.int .i64 (0)))])), ([3], (g5, ζ, .box [.d (.v (.int .i64 (a.line))), .d (.v (.int .i64 (0)))]))]) [⟨[1], some 4, [], []⟩, ⟨[4], some 5, [[1]], []⟩, ⟨[3], some 6, [], []⟩, ⟨[6, 5], none, [[3]], [[3]]⟩] (fun k6 => ?_) ?_
 ·skip
  refine .fieldAddrP (.no rfl) rfl t163 rfl rfl t2 rfl rfl rfl rfl ?_
  refine .load (.no rfl) rfl t2 rfl rfl (.ptr _ _ _ _ _ rfl) rfl rfl rfl rfl ?_
  refine .fieldAddrP (.no rfl) rfl t137 rfl rfl t2 rfl rfl rfl rfl ?_
  refine .store (.no rfl) rfl t2 rfl rfl rfl rfl rfl rfl rfl rfl rfl ?_
  exact .fin (k6 + 1 + 1 + 1) (.of (.cons rfl (.cons rfl (.cons rfl .nil))) (.cons rfl (.cons rfl (.cons rfl .nil))))
 intro g7
 refine .seq ?_
 refine .reg (X := Nat) (fun ζ => .of [(2, .one (.ptr [2] (g3) 0)), (3, .one (.ptr [3] (g5) 0))] [([2], (g3, g3, .box [.d (.v (.int .i64 (0))), .d (.v (.int .i64 (0)))])), ([3], (g5, ζ, .box [.d (.v (.int .i64 (a.line))), .d (.v (.int .i64 (a.pick)))]))]) [⟨[1], some 7, [], []⟩, ⟨[7], some 8, [[1]], []⟩, ⟨[3], some 9, [], []⟩, ⟨[9, 8], none, [[3]], [[3]]⟩] (fun k8 => ?_) ?_
 ·skip
  refine .fieldAddrP (.no rfl) rfl t163 rfl rfl t2 rfl rfl rfl rfl ?_
  refine .load (.no rfl) rfl t2 rfl rfl (.ptr _ _ _ _ _ rfl) rfl rfl rfl rfl ?_
  refine .fieldAddrP (.no rfl) rfl t137 rfl rfl t2 rfl rfl rfl rfl ?_
  refine .store (.no rfl) rfl t2 rfl rfl rfl rfl rfl rfl rfl rfl rfl ?_
  exact .fin (k8 + 1 + 1 + 1) (.of (.cons rfl (.cons rfl .nil)) (.cons rfl (.cons rfl .nil)))
 intro g9
 refine .seq ?_
 refine .reg (X := Nat) (fun ζ => .of [(2, .one (.ptr [2] (g3) 0))] [([2], (g3, ζ, .box [.d (.v (.int .i64 (a.line))), .d (.v (.int .i64 (a.pick)))]))]) [⟨[3], some 10, [[3]], []⟩, ⟨[2, 10], none, [[2]], [[2]]⟩] (fun k10 => ?_) ?_
 ·skip
  refine .load (.no rfl) rfl t137 rfl rfl (.ptr _ _ _ _ _ rfl) rfl rfl rfl rfl ?_
  refine .store (.no rfl) rfl t137 rfl rfl rfl rfl rfl rfl rfl rfl rfl ?_
  exact .fin (k10 + 1) (.of (.cons rfl .nil) (.cons rfl .nil))
 intro g11
 refine .ret ?_
 show _ ∧ _
 exact ⟨.inr rfl, .done ⟨_, [], [], _, .cell (cells := [.d (.v (.int .i64 (a.line))), .d (.v (.int .i64 (a.pick)))]) rfl rfl t137 rfl rfl .nil, .cons (Reads.d _).gives (.cons (Reads.d _).gives .nil), nodupB_ok rfl, by simp, (by simp)⟩⟩
theorem c_toEntryS (a : List Entry) (hb : a.length ≤ 1048576) : Trip Tryz.prog 96 [(false, 1)] ([.sl false 163 2 (List.map Entry.c (a))]) [(false, 1)] [.sl true 137 2 (List.map Entry.c (a))] [] := by
 refine Trip.of Tryz.func96 (by decide) (c := _) rfl rfl (shB_ok rfl) (Nat.le_of_ble_eq_true rfl) rfl (AftOk.nil _) ?_
 refine .sat (t := 0) rfl (fun hs1 => ?_)
 have hs1l : a.length ≤ 9223372036854775807 := hs1.maplen
 refine .seq ?_
 refine .reg (X := Unit) (fun ζ => .of [(0, .one (.d (.sl false 163 2 (List.map Entry.c (a)))))] []) [⟨[], some 2, [], []⟩] (fun k2 => ?_) ?_
 ·skip
  refine .assign (.no rfl) rfl rfl rfl rfl ?_
  exact .fin () (.of (.cons rfl .nil) .nil)
 intro _
 refine .seq ?_
 refine .reg (X := Nat) (fun ζ => .of [(0, .one (.d (.sl false 163 2 (List.map Entry.c (a))))), (3, .one (.ref [7] (ζ)))] [([7], (ζ, ζ, .row 137 2 (List.map Entry.c (List.replicate a.length (Entry.mk 0 0)))))]) [⟨[0], some 5, [], []⟩, ⟨[5], some 6, [], []⟩, ⟨[6, 6], some 7, [], [[7]]⟩, ⟨[7], some 3, [], []⟩] (fun k3 => ?_) ?_
 ·skip
  refine .move (.no rfl) rfl rfl rfl rfl ?_
  refine .len (.no rfl) rfl (z := (a.length : Int)) t92 rfl rfl rfl (.d _ _) (map_len _ _) rfl ?_
  refine .makeSlice (.no rfl) rfl (n0 := a.length) (els := List.map Entry.c (List.replicate a.length (Entry.mk 0 0))) t97 rfl z137 rfl rfl rfl rfl rfl (by (simp [i137]; omega)) (by omega) (rep_map _ _ _ rfl) rfl ?_
  refine .assign (.no rfl) rfl rfl rfl rfl ?_
  exact .fin (k3 + 1 + 1) (.of (.cons rfl (.cons rfl .nil)) (.cons rfl .nil))
 intro g4
 refine .seq ?_
 refine .seq ?_
 refine .reg (X := Unit) (fun ζ => .of [(0, .one (.d (.sl false 163 2 (List.map Entry.c (a))))), (3, .one (.ref [7] (g4))), (4, .one (.d (.v (.int .i64 (0)))))] [([7], (g4, g4, .row 137 2 (List.map Entry.c (List.replicate a.length (Entry.mk 0 0)))))]) [⟨[], some 4, [], []⟩] (fun k5 => ?_) ?_
 ·skip
  refine .assign (.no rfl) rfl rfl rfl rfl ?_
  exact .fin () (.of (.cons rfl (.cons rfl (.cons rfl .nil))) (.cons rfl .nil))
 intro _
 refine .block ?_
 refine .loop (X := Nat × Nat × Nat) (fun ζ => .of [(0, .one (.d (.sl false 163 2 (List.map Entry.c (a))))), (3, .one (.ref [7] (ζ.2.1))), (4, .one (.d (.v (.int .i64 ((ζ.1 : Int))))))] [([7], (ζ.2.1, ζ.2.2, .row 137 2 (List.map Entry.c (fillTo a (Entry.mk 0 0) ζ.1))))]) (fun ζ => ζ.1 ≤ a.length) (fun ζ => a.length - ζ.1) ?_ ?_
 ·skip
  exact .here (0, g4, g4) (.of (.cons rfl (.cons rfl (.cons (svI (show (0) = ((0 : Int)) by first | rfl | omega | exact wrap_le (by omega) (by omega) | (rw [wrap_le (by omega) (by omega)]; omega))) .nil))) (.cons (rowE (show List.map Entry.c (List.replicate a.length (Entry.mk 0 0)) = List.map Entry.c (fillTo a (Entry.mk 0 0) 0) by first | rfl | (rw [fillTo_zero]) | (rw [fillTo_step _ _ _ (by omega) rfl]))) .nil)) (show 0 ≤ a.length by omega)
 ·rintro ⟨j, q6, q7⟩ hI
  have hI : j ≤ a.length := hI
  refine .seq ?_
  refine .seq ?_
  refine .reg (X := Unit) (fun ζ => .of [(0, .one (.d (.sl false 163 2 (List.map Entry.c (a))))), (3, .one (.ref [7] (q6))), (4, .one (.d (.v (.int .i64 ((j : Int)))))), (11, .one (.d (.v (.bool (decide ((j : Int) < (a.length : Int)))))))] [([7], (q6, q7, .row 137 2 (List.map Entry.c (fillTo a (Entry.mk 0 0) j))))]) [⟨[4], some 8, [], []⟩, ⟨[0], some 9, [], []⟩, ⟨[9], some 10, [], []⟩, ⟨[8, 10], some 11, [], []⟩] (fun k8 => ?_) ?_
  ·skip
   refine .move (.no rfl) rfl rfl rfl rfl ?_
   refine .move (.no rfl) rfl rfl rfl rfl ?_
   refine .len (.no rfl) rfl (z := (a.length : Int)) t92 rfl rfl rfl (.d _ _) (map_len _ _) rfl ?_
   refine .bin (.no rfl) rfl rfl rfl rfl rfl rfl ?_
   exact .fin () (.of (.cons rfl (.cons rfl (.cons rfl (.cons rfl .nil)))) (.cons rfl .nil))
  intro _
  refine .cond (t := decide ((j : Int) < (a.length : Int))) rfl (fun c0 => ?_) (fun c0 => ?_)
  ·have c0 := of_decide_eq_true c0
   refine .skip ?_
   refine .seq ?_
   refine .block ?_
   refine .reg (X := Nat) (fun ζ => .of [(0, .one (.d (.sl false 163 2 (List.map Entry.c (a))))), (3, .one (.ref [7] (q6))), (4, .one (.d (.v (.int .i64 ((j : Int))))))] [([7], (q6, ζ, .row 137 2 (List.map Entry.c ((fillTo a (Entry.mk 0 0) j).set j (a.getD j default)))))]) [⟨[3], some 14, [], []⟩, ⟨[4], some 15, [], []⟩, ⟨[0], some 16, [], []⟩, ⟨[4], some 17, [], []⟩, ⟨[16, 17], some 18, [], []⟩, ⟨[18], some 19, [], []⟩, ⟨[19], some 20, [], []⟩, ⟨[14, 15], some 21, [[7]], []⟩, ⟨[21, 20], none, [[7]], [[7]]⟩] (fun k9 => ?_) ?_
   ·skip
    refine .move (.no rfl) rfl rfl rfl rfl ?_
    refine .move (.no rfl) rfl rfl rfl rfl ?_
    refine .move (.no rfl) rfl rfl rfl rfl ?_
    refine .move (.no rfl) rfl rfl rfl rfl ?_
    refine .indexAddr (.no rfl) rfl (j) t92 rfl t163 rfl rfl rfl (.d _ _) rfl rfl rfl (map_get (by first | omega | (rw [fillTo_len]; omega))) rfl rfl ?_
    refine .load (.no rfl) rfl t163 rfl rfl (.d _) rfl rfl rfl rfl ?_
    refine .call (.no rfl) rfl [] [] (c_toEntry (a.getD j default)) rfl rfl rfl rfl rfl (.cons (Reads.d _).gives (.cons (Reads.d _).gives .nil)) rfl rfl (fun h => absurd rfl h) (.own [20, 0] (.own [20, 1] .nil)) (.nil) rfl rfl rfl (by simp) rfl rfl rfl ?_
    refine .indexAddr (.no rfl) rfl (j) t97 rfl t137 rfl rfl rfl (.ref _ _ _ _ _ rfl) rfl rfl rfl (map_get (by first | omega | (rw [fillTo_len]; omega))) rfl rfl ?_
    refine .storeE (.no rfl) rfl (els' := List.map Entry.c ((fillTo a (Entry.mk 0 0) j).set j (a.getD j default))) t137 rfl rfl rfl rfl (map_get (by first | omega | (rw [fillTo_len]; omega))) rfl rfl (.cons _ _ _ _ _ _ (.d _) (.cons _ _ _ _ _ _ (.d _) .nil)) rfl (Nat.le_of_ble_eq_true rfl) (set_map _ _ _ (a.getD j default) _ rfl) rfl rfl ?_
    exact .fin (k9 + 1 + 1 + 1 + 1 + 1 + 1 + 1 + 1) (.of (.cons rfl (.cons rfl (.cons rfl .nil))) (.cons rfl .nil))
   intro g10
   refine .reg (X := Unit) (fun ζ => .of [(0, .one (.d (.sl false 163 2 (List.map Entry.c (a))))), (3, .one (.ref [7] (q6))), (4, .one (.d (.v (.int .i64 (IntKind.wrap .i64 ((j : Int) + 1))))))] [([7], (q6, g10, .row 137 2 (List.map Entry.c ((fillTo a (Entry.mk 0 0) j).set j (a.getD j default)))))]) [⟨[4], some 12, [], []⟩, ⟨[12], some 13, [], []⟩, ⟨[13], some 4, [], []⟩] (fun k11 => ?_) ?_
   ·skip
    refine .move (.no rfl) rfl rfl rfl rfl ?_
    refine .bin (.no rfl) rfl rfl rfl rfl rfl rfl ?_
    refine .assign (.no rfl) rfl rfl rfl rfl ?_
    exact .fin () (.of (.cons rfl (.cons rfl (.cons rfl .nil))) (.cons rfl .nil))
   intro _
   exact .here ((j + 1), q6, g10) (.of (.cons rfl (.cons rfl (.cons (svI (show (IntKind.wrap .i64 ((j : Int) + 1)) = (((j + 1) : Int)) by first | rfl | omega | exact wrap_le (by omega) (by omega) | (rw [wrap_le (by omega) (by omega)]; omega))) .nil))) (.cons (rowE (show List.map Entry.c ((fillTo a (Entry.mk 0 0) j).set j (a.getD j default)) = List.map Entry.c (fillTo a (Entry.mk 0 0) (j + 1)) by first | rfl | (rw [fillTo_zero]) | (rw [fillTo_step _ _ _ (by omega) rfl]))) .nil)) ⟨(show (j + 1) ≤ a.length by omega), (show a.length - (j + 1) < a.length - j by omega)⟩
  ·have c0 := of_decide_eq_false c0
   refine .exit ?_
   refine .seq ?_
   refine .reg (X := Unit) (fun ζ => .of [(2, .one (.ref [7] (q6)))] [([7], (q6, q7, .row 137 2 (List.map Entry.c (fillTo a (Entry.mk 0 0) j))))]) [⟨[3], some 22, [], []⟩, ⟨[22], some 2, [], []⟩] (fun k12 => ?_) ?_
   ·skip
    refine .move (.no rfl) rfl rfl rfl rfl ?_
    refine .assign (.no rfl) rfl rfl rfl rfl ?_
    exact .fin () (.of (.cons rfl .nil) (.cons rfl .nil))
   intro _
   refine .ret ?_
   have e13 : (fillTo a (Entry.mk 0 0) j) = (a) := by (exact fillTo_all _ _ (by omega))
   show _ ∧ _
   exact ⟨.inr rfl, .done ⟨_, [], [([7], (q6, q7, .row 137 2 (List.map Entry.c (a))))], _, .one rfl .nil, .cons (.ref (.head _)) .nil, nodupB_ok rfl, by simp, (AllH.get (.cons (rowE (congrArg (List.map Entry.c) e13)) .nil))⟩⟩
theorem c_toPart (a : Part) (hb : Part.small a) : Trip Tryz.prog 62 [(true, 2)] (Part.c94 a) [(true, 2)] [.sl true 137 2 (List.map Entry.c (a.token)), .sl true 77 3 (List.map Env.co77 (a.table))] [] := by
 refine Trip.of Tryz.func62 (by decide) (c := _) rfl rfl (shB_ok rfl) (Nat.le_of_ble_eq_true rfl) rfl (AftOk.nil _) ?_
 refine .satA (t := 0) (i := 0) rfl rfl (fun hs1 => ?_)
 have hs1l : a.token.length ≤ 9223372036854775807 := hs1.maplen
 refine .satA (t := 0) (i := 1) rfl rfl (fun hs2 => ?_)
 have hs2l : a.table.length ≤ 9223372036854775807 := hs2.maplen
 refine .seq ?_
 refine .reg (X := Nat × Nat) (fun ζ => .of [(1, .one (.ptr [1] (ζ.1) 0)), (2, .one (.ptr [2] (ζ.2) 0))] [([1], (ζ.1, ζ.1, .box [.d (.sl false 163 2 (List.map Entry.c (a.token))), .d (.sl false 69 3 (List.map Env.c69 (a.table)))])), ([2], (ζ.2, ζ.2, .box [.d (.v (.slice none 0 0)), .d (.v (.slice none 0 0))]))]) [⟨[0], some 1, [], [[1]]⟩, ⟨[], some 2, [], [[2]]⟩] (fun k3 => ?_) ?_
 ·skip
  refine .box (.no rfl) rfl rfl rfl rfl rfl ?_
  refine .alloc (.no rfl) rfl z99 rfl rfl rfl ?_
  exact .fin (k3, k3 + 1) (.of (.cons rfl (.cons rfl .nil)) (.cons rfl (.cons rfl .nil)))
 rintro ⟨g4, g5⟩
 refine .seq ?_
 refine .reg (X := Nat) (fun ζ => .of [(1, .one (.ptr [1] (g4) 0)), (2, .one (.ptr [2] (g5) 0)), (3, .one (.ptr [3] (ζ) 0))] [([1], (g4, g4, .box [.d (.sl false 163 2 (List.map Entry.c (a.token))), .d (.sl false 69 3 (List.map Env.c69 (a.table)))])), ([2], (g5, g5, .box [.d (.v (.slice none 0 0)), .d (.v (.slice none 0 0))])), ([3], (ζ, ζ, .box [.d (.v (.slice none 0 0)), .d (.v (.slice none 0 0))]))]) [⟨[], some 3, [], [[3]]⟩] (fun k6 => ?_) ?_
 ·skip
  refine .alloc (.no rfl) rfl z99 rfl rfl rfl ?_
  exact .fin k6 (.of (.cons rfl (.cons rfl (.cons rfl .nil))) (.cons rfl (.cons rfl (.cons rfl .nil))))
 intro g7
 refine .seq ?_
 refine .reg (X := Nat × Nat) (fun ζ => .of [(1, .one (.ptr [1] (g4) 0)), (2, .one (.ptr [2] (g5) 0)), (3, .one (.ptr [3] (g7) 0))] [([1], (g4, g4, .box [.d (.sl false 163 2 (List.map Entry.c (a.token))), .d (.sl false 69 3 (List.map Env.c69 (a.table)))])), ([2], (g5, g5, .box [.d (.v (.slice none 0 0)), .d (.v (.slice none 0 0))])), ([3], (g7, ζ.1, .box [.ref [6, 0] (ζ.2), .d (.v (.slice none 0 0))])), ([6, 0], (ζ.2, ζ.2, .row 137 2 (List.map Entry.c (a.token))))]) [⟨[1], some 4, [], []⟩, ⟨[4], some 5, [[1]], []⟩, ⟨[5], some 6, [], [[6, 0]]⟩, ⟨[3], some 7, [], []⟩, ⟨[7, 6], none, [[3]], [[3]]⟩] (fun k8 => ?_) ?_
 ·skip
  refine .fieldAddrP (.no rfl) rfl t94 rfl rfl t92 rfl rfl rfl rfl ?_
  refine .load (.no rfl) rfl t92 rfl rfl (.ptr _ _ _ _ _ rfl) rfl rfl rfl rfl ?_
  refine .call (.no rfl) rfl [] [] (c_toEntryS a.token (by first | exact hb.1 | exact hb.2.1 | exact hb.2.2)) rfl rfl rfl rfl rfl (.cons (Reads.d _).gives .nil) rfl rfl (fun h => absurd rfl h) (.own [6, 0] .nil) (.nil) rfl rfl rfl (by simp) rfl rfl rfl ?_
  refine .fieldAddrP (.no rfl) rfl t99 rfl rfl t97 rfl rfl rfl rfl ?_
  refine .store (.no rfl) rfl t97 rfl rfl rfl rfl rfl rfl rfl rfl rfl ?_
  exact .fin (k8 + 1 + 1 + 1 + 1, k8 + 1 + 1) (.of (.cons rfl (.cons rfl (.cons rfl .nil))) (.cons rfl (.cons rfl (.cons rfl (.cons rfl .nil)))))
 rintro ⟨g9, g10⟩
 refine .seq ?_
 refine .reg (X := Nat × Nat) (fun ζ => .of [(2, .one (.ptr [2] (g5) 0)), (3, .one (.ptr [3] (g7) 0))] [([2], (g5, g5, .box [.d (.v (.slice none 0 0)), .d (.v (.slice none 0 0))])), ([3], (g7, ζ.1, .box [.ref [6, 0] (g10), .ref [10, 0] (ζ.2)])), ([6, 0], (g10, g10, .row 137 2 (List.map Entry.c (a.token)))), ([10, 0], (ζ.2, ζ.2, .row 77 3 (List.map Env.co77 (a.table))))]) [⟨[1], some 8, [], []⟩, ⟨[8], some 9, [[1]], []⟩, ⟨[9], some 10, [], [[10, 0]]⟩, ⟨[3], some 11, [], []⟩, ⟨[11, 10], none, [[3]], [[3]]⟩] (fun k11 => ?_) ?_
 ·skip
  refine .fieldAddrP (.no rfl) rfl t94 rfl rfl t26 rfl rfl rfl rfl ?_
  refine .load (.no rfl) rfl t26 rfl rfl (.ptr _ _ _ _ _ rfl) rfl rfl rfl rfl ?_
  refine .call (.no rfl) rfl [] [] (c_toEnvS a.table (by first | exact hb.1 | exact hb.2.1 | exact hb.2.2) (by first | exact hb.1 | exact hb.2.1 | exact hb.2.2)) rfl rfl rfl rfl rfl (.cons (Reads.d _).gives .nil) rfl rfl (fun h => absurd rfl h) (.own [10, 0] .nil) (.nil) rfl rfl rfl (by simp) rfl rfl rfl ?_
  refine .fieldAddrP (.no rfl) rfl t99 rfl rfl t40 rfl rfl rfl rfl ?_
  refine .store (.no rfl) rfl t40 rfl rfl rfl rfl rfl rfl rfl rfl rfl ?_
  exact .fin (k11 + 1 + 1 + 1 + 1, k11 + 1 + 1) (.of (.cons rfl (.cons rfl .nil)) (.cons rfl (.cons rfl (.cons rfl (.cons rfl .nil)))))
 rintro ⟨g12, g13⟩
 refine .seq ?_
 refine .reg (X := Nat) (fun ζ => .of [(2, .one (.ptr [2] (g5) 0))] [([2], (g5, ζ, .box [.ref [6, 0] (g10), .ref [10, 0] (g13)])), ([6, 0], (g10, g10, .row 137 2 (List.map Entry.c (a.token)))), ([10, 0], (g13, g13, .row 77 3 (List.map Env.co77 (a.table))))]) [⟨[3], some 12, [[3]], []⟩, ⟨[2, 12], none, [[2]], [[2]]⟩] (fun k14 => ?_) ?_
 ·skip
  refine .load (.no rfl) rfl t99 rfl rfl (.ptr _ _ _ _ _ rfl) rfl rfl rfl rfl ?_
  refine .store (.no rfl) rfl t99 rfl rfl rfl rfl rfl rfl rfl rfl rfl ?_
  exact .fin (k14 + 1) (.of (.cons rfl .nil) (.cons rfl (.cons rfl (.cons rfl .nil))))
 intro g15
 refine .ret ?_
 show _ ∧ _
 exact ⟨.inr rfl, .done ⟨_, [], [([6, 0], (g10, g10, .row 137 2 (List.map Entry.c (a.token)))), ([10, 0], (g13, g13, .row 77 3 (List.map Env.co77 (a.table))))], _, .cell (cells := [.ref [6, 0] (g10), .ref [10, 0] (g13)]) rfl rfl t99 rfl rfl .nil, .cons (.ref (.head _)) (.cons (.ref (.tail _ (.head _))) .nil), nodupB_ok rfl, by simp, (AllH.get (.cons rfl (.cons rfl .nil)))⟩⟩
theorem c_toPartS (a : List Part) (hb : a.length ≤ 1048576) (hx : ∀ x ∈ a, Part.small x) : Trip Tryz.prog 20 [(false, 1)] ([.sl false 94 2 (List.map Part.c94 (a))]) [(false, 1)] [.sl true 99 2 (List.map Part.co99 (a))] [] := by
 refine Trip.of Tryz.func20 (by decide) (c := _) rfl rfl (shB_ok rfl) (Nat.le_of_ble_eq_true rfl) rfl (AftOk.nil _) ?_
 refine .sat (t := 0) rfl (fun hs1 => ?_)
 have hs1l : a.length ≤ 9223372036854775807 := hs1.maplen
 refine .seq ?_
 refine .reg (X := Unit) (fun ζ => .of [(0, .one (.d (.sl false 94 2 (List.map Part.c94 (a)))))] []) [⟨[], some 2, [], []⟩] (fun k2 => ?_) ?_
 ·skip
  refine .assign (.no rfl) rfl rfl rfl rfl ?_
  exact .fin () (.of (.cons rfl .nil) .nil)
 intro _
 refine .seq ?_
 refine .reg (X := Nat) (fun ζ => .of [(0, .one (.d (.sl false 94 2 (List.map Part.c94 (a))))), (3, .one (.ref [7] (ζ)))] [([7], (ζ, ζ, .row 99 2 (List.replicate a.length [.v (.slice none 0 0), .v (.slice none 0 0)])))]) [⟨[0], some 5, [], []⟩, ⟨[5], some 6, [], []⟩, ⟨[6, 6], some 7, [], [[7]]⟩, ⟨[7], some 3, [], []⟩] (fun k3 => ?_) ?_
 ·skip
  refine .move (.no rfl) rfl rfl rfl rfl ?_
  refine .len (.no rfl) rfl (z := (a.length : Int)) t48 rfl rfl rfl (.d _ _) (map_len _ _) rfl ?_
  refine .makeSlice (.no rfl) rfl (n0 := a.length) (els := List.replicate a.length [.v (.slice none 0 0), .v (.slice none 0 0)]) t51 rfl z99 rfl rfl rfl rfl rfl (by (simp [i99]; omega)) (by omega) rfl rfl ?_
  refine .assign (.no rfl) rfl rfl rfl rfl ?_
  exact .fin (k3 + 1 + 1) (.of (.cons rfl (.cons rfl .nil)) (.cons rfl .nil))
 intro g4
 refine .seq ?_
 refine .seq ?_
 refine .reg (X := Unit) (fun ζ => .of [(0, .one (.d (.sl false 94 2 (List.map Part.c94 (a))))), (3, .one (.ref [7] (g4))), (4, .one (.d (.v (.int .i64 (0)))))] [([7], (g4, g4, .row 99 2 (List.replicate a.length [.v (.slice none 0 0), .v (.slice none 0 0)])))]) [⟨[], some 4, [], []⟩] (fun k5 => ?_) ?_
 ·skip
  refine .assign (.no rfl) rfl rfl rfl rfl ?_
  exact .fin () (.of (.cons rfl (.cons rfl (.cons rfl .nil))) (.cons rfl .nil))
 intro _
 refine .block ?_
 refine .loop (X := Nat × Nat × Nat) (fun ζ => .of [(0, .one (.d (.sl false 94 2 (List.map Part.c94 (a))))), (3, .one (.ref [7] (ζ.2.1))), (4, .one (.d (.v (.int .i64 ((ζ.1 : Int))))))] [([7], (ζ.2.1, ζ.2.2, .row 99 2 (List.map Part.co99 (fillTo a (Part.mk [] []) ζ.1))))]) (fun ζ => ζ.1 ≤ a.length) (fun ζ => a.length - ζ.1) ?_ ?_
 ·skip
  refine .rowAs [7] (x := [.v (.slice none 0 0), .v (.slice none 0 0)]) (x' := [.sl true 137 2 ([]), .sl true 77 3 ([])]) (els' := List.map Part.co99 (List.replicate a.length (Part.mk [] []))) rfl rfl (.emp _ _ _ (.emp _ _ _ .nil)) (rep_map _ _ _ rfl) fun q8 => ?_
  exact .here (0, g4, q8) (.of (.cons rfl (.cons rfl (.cons (svI (show (0) = ((0 : Int)) by first | rfl | omega | exact wrap_le (by omega) (by omega) | (rw [wrap_le (by omega) (by omega)]; omega))) .nil))) (.cons (rowE (show List.map Part.co99 (List.replicate a.length (Part.mk [] [])) = List.map Part.co99 (fillTo a (Part.mk [] []) 0) by first | rfl | (rw [fillTo_zero]) | (rw [fillTo_step _ _ _ (by omega) rfl]))) .nil)) (show 0 ≤ a.length by omega)
 ·rintro ⟨j, q6, q7⟩ hI
  have hI : j ≤ a.length := hI
  refine .seq ?_
  refine .seq ?_
  refine .reg (X := Unit) (fun ζ => .of [(0, .one (.d (.sl false 94 2 (List.map Part.c94 (a))))), (3, .one (.ref [7] (q6))), (4, .one (.d (.v (.int .i64 ((j : Int)))))), (11, .one (.d (.v (.bool (decide ((j : Int) < (a.length : Int)))))))] [([7], (q6, q7, .row 99 2 (List.map Part.co99 (fillTo a (Part.mk [] []) j))))]) [⟨[4], some 8, [], []⟩, ⟨[0], some 9, [], []⟩, ⟨[9], some 10, [], []⟩, ⟨[8, 10], some 11, [], []⟩] (fun k9 => ?_) ?_
  ·skip
   refine .move (.no rfl) rfl rfl rfl rfl ?_
   refine .move (.no rfl) rfl rfl rfl rfl ?_
   refine .len (.no rfl) rfl (z := (a.length : Int)) t48 rfl rfl rfl (.d _ _) (map_len _ _) rfl ?_
   refine .bin (.no rfl) rfl rfl rfl rfl rfl rfl ?_
   exact .fin () (.of (.cons rfl (.cons rfl (.cons rfl (.cons rfl .nil)))) (.cons rfl .nil))
  intro _
  refine .cond (t := decide ((j : Int) < (a.length : Int))) rfl (fun c0 => ?_) (fun c0 => ?_)
  ·have c0 := of_decide_eq_true c0
   refine .skip ?_
   refine .seq ?_
   refine .block ?_
   refine .reg (X := Nat) (fun ζ => .of [(0, .one (.d (.sl false 94 2 (List.map Part.c94 (a))))), (3, .one (.ref [7] (q6))), (4, .one (.d (.v (.int .i64 ((j : Int))))))] [([7], (q6, ζ, .row 99 2 (List.map Part.co99 ((fillTo a (Part.mk [] []) j).set j (a.getD j default)))))]) [⟨[3], some 14, [], []⟩, ⟨[4], some 15, [], []⟩, ⟨[0], some 16, [], []⟩, ⟨[4], some 17, [], []⟩, ⟨[16, 17], some 18, [], []⟩, ⟨[18], some 19, [], []⟩, ⟨[19], some 20, [], [[20, 0], [20, 1]]⟩, ⟨[14, 15], some 21, [[7]], []⟩, ⟨[21, 20], none, [[7], [20, 0], [20, 1]], [[20, 0], [20, 1], [7]]⟩] (fun k10 => ?_) ?_
   ·skip
    refine .move (.no rfl) rfl rfl rfl rfl ?_
    refine .move (.no rfl) rfl rfl rfl rfl ?_
    refine .move (.no rfl) rfl rfl rfl rfl ?_
    refine .move (.no rfl) rfl rfl rfl rfl ?_
    refine .indexAddr (.no rfl) rfl (j) t48 rfl t94 rfl rfl rfl (.d _ _) rfl rfl rfl (map_get (by first | omega | (rw [fillTo_len]; omega))) rfl rfl ?_
    refine .load (.no rfl) rfl t94 rfl rfl (.d _) rfl rfl rfl rfl ?_
    refine .call (.no rfl) rfl [] [] (c_toPart (a.getD j default) (by exact hx _ (getD_mem (by omega)))) rfl rfl rfl rfl rfl (.cons (Reads.d _).gives (.cons (Reads.d _).gives .nil)) rfl rfl (fun h => absurd rfl h) (.own [20, 0] (.own [20, 1] .nil)) (.nil) rfl rfl rfl (by simp) rfl rfl rfl ?_
    refine .indexAddr (.no rfl) rfl (j) t51 rfl t99 rfl rfl rfl (.ref _ _ _ _ _ rfl) rfl rfl rfl (map_get (by first | omega | (rw [fillTo_len]; omega))) rfl rfl ?_
    refine .storeE (.no rfl) rfl (els' := List.map Part.co99 ((fillTo a (Part.mk [] []) j).set j (a.getD j default))) t99 rfl rfl rfl rfl (map_get (by first | omega | (rw [fillTo_len]; omega))) rfl rfl (.cons _ _ _ _ _ _ (.ref _ _ _ _ _ _ rfl) (.cons _ _ _ _ _ _ (.ref _ _ _ _ _ _ rfl) .nil)) rfl (Nat.le_of_ble_eq_true rfl) (set_map _ _ _ (a.getD j default) _ rfl) rfl rfl ?_
    exact .fin (k10 + 1 + 1 + 1 + 1 + 1 + 1 + 1 + 1) (.of (.cons rfl (.cons rfl (.cons rfl .nil))) (.cons rfl .nil))
   intro g11
   refine .reg (X := Unit) (fun ζ => .of [(0, .one (.d (.sl false 94 2 (List.map Part.c94 (a))))), (3, .one (.ref [7] (q6))), (4, .one (.d (.v (.int .i64 (IntKind.wrap .i64 ((j : Int) + 1))))))] [([7], (q6, g11, .row 99 2 (List.map Part.co99 ((fillTo a (Part.mk [] []) j).set j (a.getD j default)))))]) [⟨[4], some 12, [], []⟩, ⟨[12], some 13, [], []⟩, ⟨[13], some 4, [], []⟩] (fun k12 => ?_) ?_
   ·skip
    refine .move (.no rfl) rfl rfl rfl rfl ?_
    refine .bin (.no rfl) rfl rfl rfl rfl rfl rfl ?_
    refine .assign (.no rfl) rfl rfl rfl rfl ?_
    exact .fin () (.of (.cons rfl (.cons rfl (.cons rfl .nil))) (.cons rfl .nil))
   intro _
   exact .here ((j + 1), q6, g11) (.of (.cons rfl (.cons rfl (.cons (svI (show (IntKind.wrap .i64 ((j : Int) + 1)) = (((j + 1) : Int)) by first | rfl | omega | exact wrap_le (by omega) (by omega) | (rw [wrap_le (by omega) (by omega)]; omega))) .nil))) (.cons (rowE (show List.map Part.co99 ((fillTo a (Part.mk [] []) j).set j (a.getD j default)) = List.map Part.co99 (fillTo a (Part.mk [] []) (j + 1)) by first | rfl | (rw [fillTo_zero]) | (rw [fillTo_step _ _ _ (by omega) rfl]))) .nil)) ⟨(show (j + 1) ≤ a.length by omega), (show a.length - (j + 1) < a.length - j by omega)⟩
  ·have c0 := of_decide_eq_false c0
   refine .exit ?_
   refine .seq ?_
   refine .reg (X := Unit) (fun ζ => .of [(2, .one (.ref [7] (q6)))] [([7], (q6, q7, .row 99 2 (List.map Part.co99 (fillTo a (Part.mk [] []) j))))]) [⟨[3], some 22, [], []⟩, ⟨[22], some 2, [], []⟩] (fun k13 => ?_) ?_
   ·skip
    refine .move (.no rfl) rfl rfl rfl rfl ?_
    refine .assign (.no rfl) rfl rfl rfl rfl ?_
    exact .fin () (.of (.cons rfl .nil) (.cons rfl .nil))
   intro _
   refine .ret ?_
   have e14 : (fillTo a (Part.mk [] []) j) = (a) := by (exact fillTo_all _ _ (by omega))
   show _ ∧ _
   exact ⟨.inr rfl, .done ⟨_, [], [([7], (q6, q7, .row 99 2 (List.map Part.co99 (a))))], _, .one rfl .nil, .cons (.ref (.head _)) .nil, nodupB_ok rfl, by simp, (AllH.get (.cons (rowE (congrArg (List.map Part.co99) e14)) .nil))⟩⟩
end Go.Proofs

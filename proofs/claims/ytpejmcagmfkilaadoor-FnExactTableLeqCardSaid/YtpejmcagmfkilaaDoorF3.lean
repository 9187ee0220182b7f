/- Contracts of the program's functions at this seat, printed by a program of ours and checked by Lean: each under the conditions of its own statement. -/
import Derived.Test.YtpejmcagmfkilaaDoorF2
set_option linter.all false
set_option linter.unnecessarySimpa false
set_option linter.unusedSectionVars false
set_option linter.unusedSimpArgs false
set_option linter.unusedVariables false
namespace Go.Proofs
open Go Go.Proofs Go.Ev

theorem c_l6Leq (a : Env) (b : Env) (hj : a.live = true → b.live = true → a.ints.length = b.ints.length ∧ a.arrs.length = b.arrs.length) (hb : a.ints.length ≤ 1048576 ∧ a.arrs.length ≤ 1048576 ∧ b.ints.length ≤ 1048576 ∧ b.arrs.length ≤ 1048576) : Trip Tryd.prog 56 [(true, 3), (true, 3)] (Env.c30 a ++ Env.c30 b) [(false, 1)] [.v (.bool (Env.leq a b))] [] := by
  refine Trip.of Tryd.func56 (by decide) (c := _) rfl rfl (shB_ok rfl) (Nat.le_of_ble_eq_true rfl) rfl (AftOk.nil _) ?_
  refine .satA (t := 0) (i := 1) rfl rfl (fun hs1 => ?_)
  have hs1l : a.ints.length ≤ 9223372036854775807 := hs1.maplen
  refine .satA (t := 0) (i := 2) rfl rfl (fun hs2 => ?_)
  have hs2l : a.arrs.length ≤ 9223372036854775807 := hs2.maplen
  refine .satA (t := 1) (i := 1) rfl rfl (fun hs3 => ?_)
  have hs3l : b.ints.length ≤ 9223372036854775807 := hs3.maplen
  refine .satA (t := 1) (i := 2) rfl rfl (fun hs4 => ?_)
  have hs4l : b.arrs.length ≤ 9223372036854775807 := hs4.maplen
  refine .seq ?_
  refine .reg (X := Nat × Nat) (fun ζ => .of [(2, .one (.ptr [2] (ζ.1) 0)), (3, .one (.ptr [3] (ζ.2) 0))] [([2], (ζ.1, ζ.1, .box [.d (.v (.bool (a.live))), .d (.sl false 60 2 (List.map Iv.c (a.ints))), .d (.sl false 60 2 (List.map Iv.c (a.arrs)))])), ([3], (ζ.2, ζ.2, .box [.d (.v (.bool (b.live))), .d (.sl false 60 2 (List.map Iv.c (b.ints))), .d (.sl false 60 2 (List.map Iv.c (b.arrs)))]))]) [⟨[0], some 2, [], [[2]]⟩, ⟨[1], some 3, [], [[3]]⟩, ⟨[], some 4, [], []⟩] (fun k5 => ?_) ?_
  · skip
    refine .box (.no rfl) rfl rfl rfl rfl rfl ?_
    refine .box (.no rfl) rfl rfl rfl rfl rfl ?_
    refine .assign (.no rfl) rfl rfl rfl rfl ?_
    exact .fin (k5, k5 + 1) (.of (.cons rfl (.cons rfl .nil)) (.cons rfl (.cons rfl .nil)))
  rintro ⟨g6, g7⟩
  refine .seq ?_
  refine .seq ?_
  refine .reg (X := Unit) (fun ζ => .of [(2, .one (.ptr [2] (g6) 0)), (3, .one (.ptr [3] (g7) 0)), (15, .one (.d (.v (.bool ((!a.live || !b.live))))))] [([2], (g6, g6, .box [.d (.v (.bool (a.live))), .d (.sl false 60 2 (List.map Iv.c (a.ints))), .d (.sl false 60 2 (List.map Iv.c (a.arrs)))])), ([3], (g7, g7, .box [.d (.v (.bool (b.live))), .d (.sl false 60 2 (List.map Iv.c (b.ints))), .d (.sl false 60 2 (List.map Iv.c (b.arrs)))]))]) [⟨[2], some 8, [], []⟩, ⟨[8], some 9, [[2]], []⟩, ⟨[9], some 10, [], []⟩, ⟨[10], some 11, [], []⟩, ⟨[11, 3], some 12, [], []⟩, ⟨[11, 12], some 13, [[3]], []⟩, ⟨[11, 13], some 14, [], []⟩, ⟨[11, 14], some 15, [], []⟩] (fun k8 => ?_) ?_
  · skip
    refine .fieldAddrP (.no rfl) rfl t30 rfl rfl t4 rfl rfl rfl rfl ?_
    refine .load (.no rfl) rfl t4 rfl rfl (.ptr _ _ _ _ _ rfl) rfl rfl rfl rfl ?_
    refine .un (.no rfl) rfl rfl rfl rfl rfl ?_
    refine .moveB (.no rfl) rfl rfl rfl rfl fun b9 g1_3 => ?_
    cases b9
    · skip
      refine .fieldAddrP (.on rfl rfl rfl rfl rfl) rfl t30 rfl rfl t4 rfl rfl rfl rfl ?_
      refine .load (.on rfl rfl rfl rfl rfl) rfl t4 rfl rfl (.ptr _ _ _ _ _ rfl) rfl rfl rfl rfl ?_
      refine .un (.on rfl rfl rfl rfl rfl) rfl rfl rfl rfl rfl ?_
      refine .pick (.no rfl) rfl rfl rfl rfl rfl ?_
      exact .fin () (.of (.cons rfl (.cons rfl (.cons (svB (show (!b.live) = ((!a.live || !b.live)) by first | (simp only [g1_3, Bool.true_or, Bool.false_or, Bool.true_and, Bool.false_and, Bool.not_true, Bool.not_false]; done) | simp [g1_3])) .nil))) (.cons rfl (.cons rfl .nil)))
    · skip
      refine .off rfl rfl rfl rfl rfl rfl rfl ?_
      refine .off rfl rfl rfl rfl rfl rfl rfl ?_
      refine .off rfl rfl rfl rfl rfl rfl rfl ?_
      refine .pick (.no rfl) rfl rfl rfl rfl rfl ?_
      exact .fin () (.of (.cons rfl (.cons rfl (.cons (svB (show (true) = ((!a.live || !b.live)) by first | (simp only [g1_3, Bool.true_or, Bool.false_or, Bool.true_and, Bool.false_and, Bool.not_true, Bool.not_false]; done) | simp [g1_3])) .nil))) (.cons rfl (.cons rfl .nil)))
  intro _
  refine .cond (t := (!a.live || !b.live)) rfl (fun c0 => ?_) (fun c0 => ?_)
  · have c0 := c0
    try simp only [Bool.or_eq_true, Bool.or_eq_false_iff, Bool.and_eq_true, Bool.and_eq_false_iff, decide_eq_true_eq, decide_eq_false_iff_not, Bool.not_eq_true', Bool.not_eq_false', bne_iff_ne, beq_iff_eq, bne_eq_false_iff_eq, beq_eq_false_iff_ne, ne_eq, Bool.not_eq_eq_eq_not, Bool.not_true, Bool.not_false] at c0
    refine .seq ?_
    refine .reg (X := Unit) (fun ζ => .of [(4, .one (.d (.v (.bool (!a.live)))))] []) [⟨[2], some 16, [], []⟩, ⟨[16], some 17, [[2]], []⟩, ⟨[17], some 18, [], []⟩, ⟨[18], some 4, [], []⟩] (fun k10 => ?_) ?_
    · skip
      refine .fieldAddrP (.no rfl) rfl t30 rfl rfl t4 rfl rfl rfl rfl ?_
      refine .load (.no rfl) rfl t4 rfl rfl (.ptr _ _ _ _ _ rfl) rfl rfl rfl rfl ?_
      refine .un (.no rfl) rfl rfl rfl rfl rfl ?_
      refine .assign (.no rfl) rfl rfl rfl rfl ?_
      exact .fin () (.of (.cons rfl .nil) .nil)
    intro _
    refine .ret ?_
    have e11 : (!a.live) = (Env.leq a b) := by (unfold Env.leq; cases h1 : a.live <;> cases h2 : b.live <;> simp_all)
    have hc12 := eq1 (fun z1 => SV.one (.d (.v (.bool (z1))))) e11
    show _ ∧ _
    exact ⟨.inr rfl, .done ⟨_, [], [], _, .one (c := .d (.v (.bool (Env.leq a b)))) (hc12) .nil, .cons (Reads.d _).gives .nil, nodupB_ok rfl, by simp, (by simp)⟩⟩
  · have c0 := c0
    try simp only [Bool.or_eq_true, Bool.or_eq_false_iff, Bool.and_eq_true, Bool.and_eq_false_iff, decide_eq_true_eq, decide_eq_false_iff_not, Bool.not_eq_true', Bool.not_eq_false', bne_iff_ne, beq_iff_eq, bne_eq_false_iff_eq, beq_eq_false_iff_ne, ne_eq, Bool.not_eq_eq_eq_not, Bool.not_true, Bool.not_false] at c0
    refine .skip ?_
    refine .seq ?_
    refine .reg (X := Unit) (fun ζ => .of [(3, .one (.ptr [3] (g7) 0)), (5, .one (.d (.sl false 60 2 (List.map Iv.c (a.ints ++ a.arrs)))))] [([3], (g7, g7, .box [.d (.v (.bool (b.live))), .d (.sl false 60 2 (List.map Iv.c (b.ints))), .d (.sl false 60 2 (List.map Iv.c (b.arrs)))]))]) [⟨[2], some 19, [[2]], []⟩, ⟨[19], some 20, [], []⟩, ⟨[20], some 5, [], []⟩] (fun k13 => ?_) ?_
    · skip
      refine .load (.no rfl) rfl t30 rfl rfl (.ptr _ _ _ _ _ rfl) rfl rfl rfl rfl ?_
      refine .call (.no rfl) rfl [] [] (c_l6List a (by omega)) rfl rfl rfl rfl rfl (.cons (Reads.d _).gives (.cons (Reads.d _).gives (.cons (Reads.d _).gives .nil))) rfl rfl (fun h => absurd rfl h) (.frz [20, 0] (Frz.of_erase (erase_slo _ _ _ _ _ _ Iv.c_e)) .nil) (.nil) rfl rfl rfl (by simp) rfl rfl rfl ?_
      refine .assign (.no rfl) rfl rfl rfl rfl ?_
      exact .fin () (.of (.cons rfl (.cons rfl .nil)) (.cons rfl .nil))
    intro _
    refine .seq ?_
    refine .reg (X := Unit) (fun ζ => .of [(5, .one (.d (.sl false 60 2 (List.map Iv.c (a.ints ++ a.arrs))))), (6, .one (.d (.sl false 60 2 (List.map Iv.c (b.ints ++ b.arrs)))))] []) [⟨[3], some 21, [[3]], []⟩, ⟨[21], some 22, [], []⟩, ⟨[22], some 6, [], []⟩] (fun k14 => ?_) ?_
    · skip
      refine .load (.no rfl) rfl t30 rfl rfl (.ptr _ _ _ _ _ rfl) rfl rfl rfl rfl ?_
      refine .call (.no rfl) rfl [] [] (c_l6List b (by omega)) rfl rfl rfl rfl rfl (.cons (Reads.d _).gives (.cons (Reads.d _).gives (.cons (Reads.d _).gives .nil))) rfl rfl (fun h => absurd rfl h) (.frz [22, 0] (Frz.of_erase (erase_slo _ _ _ _ _ _ Iv.c_e)) .nil) (.nil) rfl rfl rfl (by simp) rfl rfl rfl ?_
      refine .assign (.no rfl) rfl rfl rfl rfl ?_
      exact .fin () (.of (.cons rfl (.cons rfl .nil)) .nil)
    intro _
    refine .seq ?_
    refine .seq ?_
    refine .reg (X := Unit) (fun ζ => .of [(5, .one (.d (.sl false 60 2 (List.map Iv.c (a.ints ++ a.arrs))))), (6, .one (.d (.sl false 60 2 (List.map Iv.c (b.ints ++ b.arrs))))), (7, .one (.d (.v (.int .i64 (0)))))] []) [⟨[], some 7, [], []⟩] (fun k15 => ?_) ?_
    · skip
      refine .assign (.no rfl) rfl rfl rfl rfl ?_
      exact .fin () (.of (.cons rfl (.cons rfl (.cons rfl .nil))) .nil)
    intro _
    refine .block ?_
    refine .loop (X := Nat) (fun ζ => .of [(5, .one (.d (.sl false 60 2 (List.map Iv.c (a.ints ++ a.arrs))))), (6, .one (.d (.sl false 60 2 (List.map Iv.c (b.ints ++ b.arrs))))), (7, .one (.d (.v (.int .i64 ((ζ : Int))))))] []) (fun ζ => ζ ≤ (a.ints ++ a.arrs).length ∧ allTo ζ (fun i => Iv.leq ((a.ints ++ a.arrs).getD i default) ((b.ints ++ b.arrs).getD i default)) = true) (fun ζ => (a.ints ++ a.arrs).length - ζ) ?_ ?_
    · skip
      exact .here 0 (.of (.cons rfl (.cons rfl (.cons (svI (show (0) = ((0 : Int)) by first | rfl | omega | exact wrap_le (by omega) (by omega) | (rw [wrap_le (by omega) (by omega)]; omega))) .nil))) .nil) (show 0 ≤ (a.ints ++ a.arrs).length ∧ allTo 0 (fun i => Iv.leq ((a.ints ++ a.arrs).getD i default) ((b.ints ++ b.arrs).getD i default)) = true by exact ⟨by omega, rfl⟩)
    · rintro j hI
      have hI : j ≤ (a.ints ++ a.arrs).length ∧ allTo j (fun i => Iv.leq ((a.ints ++ a.arrs).getD i default) ((b.ints ++ b.arrs).getD i default)) = true := hI
      have hn9 : (a.ints ++ a.arrs).length ≤ 3145728 := by simp; omega
      have hn8 : (a.ints ++ a.arrs).length = (b.ints ++ b.arrs).length := by have := hj c0.1 c0.2; simp; omega
      refine .seq ?_
      refine .seq ?_
      refine .reg (X := Unit) (fun ζ => .of [(5, .one (.d (.sl false 60 2 (List.map Iv.c (a.ints ++ a.arrs))))), (6, .one (.d (.sl false 60 2 (List.map Iv.c (b.ints ++ b.arrs))))), (7, .one (.d (.v (.int .i64 ((j : Int)))))), (26, .one (.d (.v (.bool (decide ((j : Int) < ((a.ints ++ a.arrs).length : Int)))))))] []) [⟨[7], some 23, [], []⟩, ⟨[5], some 24, [], []⟩, ⟨[24], some 25, [], []⟩, ⟨[23, 25], some 26, [], []⟩] (fun k16 => ?_) ?_
      · skip
        refine .move (.no rfl) rfl rfl rfl rfl ?_
        refine .move (.no rfl) rfl rfl rfl rfl ?_
        refine .len (.no rfl) rfl (z := ((a.ints ++ a.arrs).length : Int)) t28 rfl rfl rfl (.d _ _) (map_len _ _) rfl ?_
        refine .bin (.no rfl) rfl rfl rfl rfl rfl rfl ?_
        exact .fin () (.of (.cons rfl (.cons rfl (.cons rfl (.cons rfl .nil)))) .nil)
      intro _
      refine .cond (t := decide ((j : Int) < ((a.ints ++ a.arrs).length : Int))) rfl (fun c1 => ?_) (fun c1 => ?_)
      · have c1 := of_decide_eq_true c1
        refine .skip ?_
        refine .seq ?_
        refine .block ?_
        refine .seq ?_
        refine .regD (X := Unit) (by kernel_rfl) (fun ζ => .of [(5, .one (.d (.sl false 60 2 (List.map Iv.c (a.ints ++ a.arrs))))), (6, .one (.d (.sl false 60 2 (List.map Iv.c (b.ints ++ b.arrs))))), (7, .one (.d (.v (.int .i64 ((j : Int)))))), (38, .one (.d (.v (.bool (!(Iv.leq ((a.ints ++ a.arrs).getD (j) default) ((b.ints ++ b.arrs).getD (j) default)))))))] []) [⟨[5], some 29, [], []⟩, ⟨[7], some 30, [], []⟩, ⟨[29, 30], some 31, [], []⟩, ⟨[31], some 32, [], []⟩, ⟨[6], some 33, [], []⟩, ⟨[7], some 34, [], []⟩, ⟨[33, 34], some 35, [], []⟩, ⟨[35], some 36, [], []⟩, ⟨[32, 36], some 37, [], []⟩, ⟨[37], some 38, [], []⟩] (by kernel_rfl) (fun k17 => ?_) ?_
        · skip
          refine .move (.no rfl) rfl rfl rfl rfl ?_
          refine .move (.no rfl) rfl rfl rfl rfl ?_
          refine .indexAddr (.no rfl) rfl (j) t28 rfl t60 rfl rfl rfl (.d _ _) rfl rfl rfl (map_get (by omega)) rfl rfl ?_
          refine .load (.no rfl) rfl t60 rfl rfl (.d _) rfl rfl rfl rfl ?_
          refine .move (.no rfl) rfl rfl rfl rfl ?_
          refine .move (.no rfl) rfl rfl rfl rfl ?_
          refine .indexAddr (.no rfl) rfl (j) t28 rfl t60 rfl rfl rfl (.d _ _) rfl rfl rfl (map_get (by omega)) rfl rfl ?_
          refine .load (.no rfl) rfl t60 rfl rfl (.d _) rfl rfl rfl rfl ?_
          refine .call (.no rfl) rfl [] [] (c_sIvLeq ((a.ints ++ a.arrs).getD (j) default) ((b.ints ++ b.arrs).getD (j) default)) rfl rfl rfl rfl rfl (.cons (Reads.d _).gives (.cons (Reads.d _).gives (.cons (Reads.d _).gives (.cons (Reads.d _).gives .nil)))) rfl rfl (fun h => absurd rfl h) (.own [37, 0] .nil) (.nil) rfl rfl rfl (by simp) rfl rfl rfl ?_
          refine .un (.no rfl) rfl rfl rfl rfl rfl ?_
          exact .fin () (.of (.cons rfl (.cons rfl (.cons rfl (.cons rfl .nil)))) .nil)
        intro _
        refine .cond (t := !(Iv.leq ((a.ints ++ a.arrs).getD (j) default) ((b.ints ++ b.arrs).getD (j) default))) rfl (fun c2 => ?_) (fun c2 => ?_)
        · have c2 := c2
          try simp only [Bool.or_eq_true, Bool.or_eq_false_iff, Bool.and_eq_true, Bool.and_eq_false_iff, decide_eq_true_eq, decide_eq_false_iff_not, Bool.not_eq_true', Bool.not_eq_false', bne_iff_ne, beq_iff_eq, bne_eq_false_iff_eq, beq_eq_false_iff_ne, ne_eq, Bool.not_eq_eq_eq_not, Bool.not_true, Bool.not_false] at c2
          refine .seq ?_
          refine .reg (X := Unit) (fun ζ => .of [(4, .one (.d (.v (.bool (false)))))] []) [⟨[], some 4, [], []⟩] (fun k18 => ?_) ?_
          · skip
            refine .assign (.no rfl) rfl rfl rfl rfl ?_
            exact .fin () (.of (.cons rfl .nil) .nil)
          intro _
          refine .ret ?_
          have e19 : (false) = (Env.leq a b) := by (rw [Env.leq_app c0.1 c0.2 (hj c0.1 c0.2).1, allTo_fail (j := j) (by omega) c2])
          have hc20 := eq1 (fun z1 => SV.one (.d (.v (.bool (z1))))) e19
          show _ ∧ _
          exact ⟨.inr rfl, .done ⟨_, [], [], _, .one (c := .d (.v (.bool (Env.leq a b)))) (hc20) .nil, .cons (Reads.d _).gives .nil, nodupB_ok rfl, by simp, (by simp)⟩⟩
        · have c2 := c2
          try simp only [Bool.or_eq_true, Bool.or_eq_false_iff, Bool.and_eq_true, Bool.and_eq_false_iff, decide_eq_true_eq, decide_eq_false_iff_not, Bool.not_eq_true', Bool.not_eq_false', bne_iff_ne, beq_iff_eq, bne_eq_false_iff_eq, beq_eq_false_iff_ne, ne_eq, Bool.not_eq_eq_eq_not, Bool.not_true, Bool.not_false] at c2
          refine .skip ?_
          refine .reg (X := Unit) (fun ζ => .of [(5, .one (.d (.sl false 60 2 (List.map Iv.c (a.ints ++ a.arrs))))), (6, .one (.d (.sl false 60 2 (List.map Iv.c (b.ints ++ b.arrs))))), (7, .one (.d (.v (.int .i64 (IntKind.wrap .i64 ((j : Int) + 1))))))] []) [⟨[7], some 27, [], []⟩, ⟨[27], some 28, [], []⟩, ⟨[28], some 7, [], []⟩] (fun k21 => ?_) ?_
          · skip
            refine .move (.no rfl) rfl rfl rfl rfl ?_
            refine .bin (.no rfl) rfl rfl rfl rfl rfl rfl ?_
            refine .assign (.no rfl) rfl rfl rfl rfl ?_
            exact .fin () (.of (.cons rfl (.cons rfl (.cons rfl .nil))) .nil)
          intro _
          exact .here (j + 1) (.of (.cons rfl (.cons rfl (.cons (svI (show (IntKind.wrap .i64 ((j : Int) + 1)) = (((j + 1) : Int)) by first | rfl | omega | exact wrap_le (by omega) (by omega) | (rw [wrap_le (by omega) (by omega)]; omega))) .nil))) .nil) ⟨(show (j + 1) ≤ (a.ints ++ a.arrs).length ∧ allTo (j + 1) (fun i => Iv.leq ((a.ints ++ a.arrs).getD i default) ((b.ints ++ b.arrs).getD i default)) = true by exact ⟨by omega, allTo_step hI.2 c2⟩), (show (a.ints ++ a.arrs).length - (j + 1) < (a.ints ++ a.arrs).length - j by omega)⟩
      · have c1 := of_decide_eq_false c1
        refine .exit ?_
        refine .seq ?_
        refine .reg (X := Unit) (fun ζ => .of [(4, .one (.d (.v (.bool (true)))))] []) [⟨[], some 4, [], []⟩] (fun k22 => ?_) ?_
        · skip
          refine .assign (.no rfl) rfl rfl rfl rfl ?_
          exact .fin () (.of (.cons rfl .nil) .nil)
        intro _
        refine .ret ?_
        have e23 : (true) = (Env.leq a b) := by (rw [Env.leq_app c0.1 c0.2 (hj c0.1 c0.2).1]; exact (allTo_le (by omega) hI.2).symm)
        have hc24 := eq1 (fun z1 => SV.one (.d (.v (.bool (z1))))) e23
        show _ ∧ _
        exact ⟨.inr rfl, .done ⟨_, [], [], _, .one (c := .d (.v (.bool (Env.leq a b)))) (hc24) .nil, .cons (Reads.d _).gives .nil, nodupB_ok rfl, by simp, (by simp)⟩⟩
theorem c_leq (e : Env) (b : Env) (hj : e.live = true → b.live = true → e.ints.length = b.ints.length ∧ e.arrs.length = b.arrs.length) : Trip Tryd.prog 55 [(true, 3), (true, 3)] (Env.c30 e ++ Env.c30 b) [(false, 1)] [.v (.bool (Env.leq e b))] [] := by
  refine Trip.of Tryd.func55 (by decide) (c := _) rfl rfl (shB_ok rfl) (Nat.le_of_ble_eq_true rfl) rfl (AftOk.nil _) ?_
  refine .satA (t := 0) (i := 1) rfl rfl (fun hs1 => ?_)
  have hs1l : e.ints.length ≤ 9223372036854775807 := hs1.maplen
  refine .satA (t := 0) (i := 2) rfl rfl (fun hs2 => ?_)
  have hs2l : e.arrs.length ≤ 9223372036854775807 := hs2.maplen
  refine .satA (t := 1) (i := 1) rfl rfl (fun hs3 => ?_)
  have hs3l : b.ints.length ≤ 9223372036854775807 := hs3.maplen
  refine .satA (t := 1) (i := 2) rfl rfl (fun hs4 => ?_)
  have hs4l : b.arrs.length ≤ 9223372036854775807 := hs4.maplen
  refine .seq ?_
  refine .reg (X := Nat × Nat) (fun ζ => .of [(2, .one (.ptr [2] (ζ.1) 0)), (3, .one (.ptr [3] (ζ.2) 0))] [([2], (ζ.1, ζ.1, .box [.d (.v (.bool (e.live))), .d (.sl false 60 2 (List.map Iv.c (e.ints))), .d (.sl false 60 2 (List.map Iv.c (e.arrs)))])), ([3], (ζ.2, ζ.2, .box [.d (.v (.bool (b.live))), .d (.sl false 60 2 (List.map Iv.c (b.ints))), .d (.sl false 60 2 (List.map Iv.c (b.arrs)))]))]) [⟨[0], some 2, [], [[2]]⟩, ⟨[1], some 3, [], [[3]]⟩, ⟨[], some 4, [], []⟩] (fun k5 => ?_) ?_
  · skip
    refine .box (.no rfl) rfl rfl rfl rfl rfl ?_
    refine .box (.no rfl) rfl rfl rfl rfl rfl ?_
    refine .assign (.no rfl) rfl rfl rfl rfl ?_
    exact .fin (k5, k5 + 1) (.of (.cons rfl (.cons rfl .nil)) (.cons rfl (.cons rfl .nil)))
  rintro ⟨g6, g7⟩
  refine .seq ?_
  refine .block ?_
  refine .seq ?_
  refine .reg (X := Unit) (fun ζ => .of [(2, .one (.ptr [2] (g6) 0)), (3, .one (.ptr [3] (g7) 0)), (9, .one (.d (.v (.bool (!e.live)))))] [([2], (g6, g6, .box [.d (.v (.bool (e.live))), .d (.sl false 60 2 (List.map Iv.c (e.ints))), .d (.sl false 60 2 (List.map Iv.c (e.arrs)))])), ([3], (g7, g7, .box [.d (.v (.bool (b.live))), .d (.sl false 60 2 (List.map Iv.c (b.ints))), .d (.sl false 60 2 (List.map Iv.c (b.arrs)))]))]) [⟨[2], some 10, [], []⟩, ⟨[10], some 11, [[2]], []⟩, ⟨[11], some 12, [], []⟩, ⟨[12], some 9, [], []⟩] (fun k8 => ?_) ?_
  · skip
    refine .fieldAddrP (.no rfl) rfl t30 rfl rfl t4 rfl rfl rfl rfl ?_
    refine .load (.no rfl) rfl t4 rfl rfl (.ptr _ _ _ _ _ rfl) rfl rfl rfl rfl ?_
    refine .un (.no rfl) rfl rfl rfl rfl rfl ?_
    refine .assign (.no rfl) rfl rfl rfl rfl ?_
    exact .fin () (.of (.cons rfl (.cons rfl (.cons rfl .nil))) (.cons rfl (.cons rfl .nil)))
  intro _
  refine .cond (t := !e.live) rfl (fun c0 => ?_) (fun c0 => ?_)
  · have c0 := c0
    try simp only [Bool.or_eq_true, Bool.or_eq_false_iff, Bool.and_eq_true, Bool.and_eq_false_iff, decide_eq_true_eq, decide_eq_false_iff_not, Bool.not_eq_true', Bool.not_eq_false', bne_iff_ne, beq_iff_eq, bne_eq_false_iff_eq, beq_eq_false_iff_ne, ne_eq, Bool.not_eq_eq_eq_not, Bool.not_true, Bool.not_false] at c0
    refine .seq ?_
    refine .reg (X := Unit) (fun ζ => .of [(4, .one (.d (.v (.bool (true)))))] []) [⟨[], some 4, [], []⟩] (fun k9 => ?_) ?_
    · skip
      refine .assign (.no rfl) rfl rfl rfl rfl ?_
      exact .fin () (.of (.cons rfl .nil) .nil)
    intro _
    refine .ret ?_
    have e10 : (true) = (Env.leq e b) := by simp [Env.leq, c0]
    have hc11 := eq1 (fun z1 => SV.one (.d (.v (.bool (z1))))) e10
    show _ ∧ _
    exact ⟨.inr rfl, .done ⟨_, [], [], _, .one (c := .d (.v (.bool (Env.leq e b)))) (hc11) .nil, .cons (Reads.d _).gives .nil, nodupB_ok rfl, by simp, (by simp)⟩⟩
  · have c0 := c0
    try simp only [Bool.or_eq_true, Bool.or_eq_false_iff, Bool.and_eq_true, Bool.and_eq_false_iff, decide_eq_true_eq, decide_eq_false_iff_not, Bool.not_eq_true', Bool.not_eq_false', bne_iff_ne, beq_iff_eq, bne_eq_false_iff_eq, beq_eq_false_iff_ne, ne_eq, Bool.not_eq_eq_eq_not, Bool.not_true, Bool.not_false] at c0
    refine .seq ?_
    refine .reg (X := Unit) (fun ζ => .of [(2, .one (.ptr [2] (g6) 0)), (3, .one (.ptr [3] (g7) 0)), (13, .one (.d (.v (.bool (!b.live)))))] [([2], (g6, g6, .box [.d (.v (.bool (e.live))), .d (.sl false 60 2 (List.map Iv.c (e.ints))), .d (.sl false 60 2 (List.map Iv.c (e.arrs)))])), ([3], (g7, g7, .box [.d (.v (.bool (b.live))), .d (.sl false 60 2 (List.map Iv.c (b.ints))), .d (.sl false 60 2 (List.map Iv.c (b.arrs)))]))]) [⟨[3], some 14, [], []⟩, ⟨[14], some 15, [[3]], []⟩, ⟨[15], some 16, [], []⟩, ⟨[16], some 13, [], []⟩] (fun k12 => ?_) ?_
    · skip
      refine .fieldAddrP (.no rfl) rfl t30 rfl rfl t4 rfl rfl rfl rfl ?_
      refine .load (.no rfl) rfl t4 rfl rfl (.ptr _ _ _ _ _ rfl) rfl rfl rfl rfl ?_
      refine .un (.no rfl) rfl rfl rfl rfl rfl ?_
      refine .assign (.no rfl) rfl rfl rfl rfl ?_
      exact .fin () (.of (.cons rfl (.cons rfl (.cons rfl .nil))) (.cons rfl (.cons rfl .nil)))
    intro _
    refine .cond (t := !b.live) rfl (fun c1 => ?_) (fun c1 => ?_)
    · have c1 := c1
      try simp only [Bool.or_eq_true, Bool.or_eq_false_iff, Bool.and_eq_true, Bool.and_eq_false_iff, decide_eq_true_eq, decide_eq_false_iff_not, Bool.not_eq_true', Bool.not_eq_false', bne_iff_ne, beq_iff_eq, bne_eq_false_iff_eq, beq_eq_false_iff_ne, ne_eq, Bool.not_eq_eq_eq_not, Bool.not_true, Bool.not_false] at c1
      refine .seq ?_
      refine .reg (X := Unit) (fun ζ => .of [(4, .one (.d (.v (.bool (false)))))] []) [⟨[], some 4, [], []⟩] (fun k13 => ?_) ?_
      · skip
        refine .assign (.no rfl) rfl rfl rfl rfl ?_
        exact .fin () (.of (.cons rfl .nil) .nil)
      intro _
      refine .ret ?_
      have e14 : (false) = (Env.leq e b) := by simp [Env.leq, c0, c1]
      have hc15 := eq1 (fun z1 => SV.one (.d (.v (.bool (z1))))) e14
      show _ ∧ _
      exact ⟨.inr rfl, .done ⟨_, [], [], _, .one (c := .d (.v (.bool (Env.leq e b)))) (hc15) .nil, .cons (Reads.d _).gives .nil, nodupB_ok rfl, by simp, (by simp)⟩⟩
    · have c1 := c1
      try simp only [Bool.or_eq_true, Bool.or_eq_false_iff, Bool.and_eq_true, Bool.and_eq_false_iff, decide_eq_true_eq, decide_eq_false_iff_not, Bool.not_eq_true', Bool.not_eq_false', bne_iff_ne, beq_iff_eq, bne_eq_false_iff_eq, beq_eq_false_iff_ne, ne_eq, Bool.not_eq_eq_eq_not, Bool.not_true, Bool.not_false] at c1
      refine .skip ?_
      refine .seq ?_
      refine .seq ?_
      refine .reg (X := Unit) (fun ζ => .of [(2, .one (.ptr [2] (g6) 0)), (3, .one (.ptr [3] (g7) 0)), (18, .one (.d (.sl false 60 2 (List.map Iv.c (e.ints))))), (19, .one (.d (.v (.int .i64 ((e.ints.length : Int)))))), (20, .one (.d (.v (.int .i64 (0)))))] [([2], (g6, g6, .box [.d (.v (.bool (e.live))), .d (.sl false 60 2 (List.map Iv.c (e.ints))), .d (.sl false 60 2 (List.map Iv.c (e.arrs)))])), ([3], (g7, g7, .box [.d (.v (.bool (b.live))), .d (.sl false 60 2 (List.map Iv.c (b.ints))), .d (.sl false 60 2 (List.map Iv.c (b.arrs)))]))]) [⟨[2], some 17, [], []⟩, ⟨[17], some 18, [[2]], []⟩, ⟨[18], some 19, [], []⟩, ⟨[], some 20, [], []⟩] (fun k16 => ?_) ?_
      · skip
        refine .fieldAddrP (.no rfl) rfl t30 rfl rfl t28 rfl rfl rfl rfl ?_
        refine .load (.no rfl) rfl t28 rfl rfl (.ptr _ _ _ _ _ rfl) rfl rfl rfl rfl ?_
        refine .len (.no rfl) rfl (z := (e.ints.length : Int)) t28 rfl rfl rfl (.d _ _) (map_len _ _) rfl ?_
        refine .move (.no rfl) rfl rfl rfl rfl ?_
        exact .fin () (.of (.cons rfl (.cons rfl (.cons rfl (.cons rfl (.cons rfl .nil))))) (.cons rfl (.cons rfl .nil)))
      intro _
      refine .block ?_
      refine .loop (X := Nat) (fun ζ => .of [(2, .one (.ptr [2] (g6) 0)), (3, .one (.ptr [3] (g7) 0)), (18, .one (.d (.sl false 60 2 (List.map Iv.c (e.ints))))), (19, .one (.d (.v (.int .i64 ((e.ints.length : Int)))))), (20, .one (.d (.v (.int .i64 ((ζ : Int))))))] [([2], (g6, g6, .box [.d (.v (.bool (e.live))), .d (.sl false 60 2 (List.map Iv.c (e.ints))), .d (.sl false 60 2 (List.map Iv.c (e.arrs)))])), ([3], (g7, g7, .box [.d (.v (.bool (b.live))), .d (.sl false 60 2 (List.map Iv.c (b.ints))), .d (.sl false 60 2 (List.map Iv.c (b.arrs)))]))]) (fun ζ => ζ ≤ e.ints.length ∧ allTo ζ (fun x => Iv.leq (e.ints.getD x default) (b.ints.getD x default)) = true) (fun ζ => e.ints.length - ζ) ?_ ?_
      · skip
        exact .here 0 (.of (.cons rfl (.cons rfl (.cons rfl (.cons rfl (.cons (svI (show (0) = ((0 : Int)) by first | rfl | omega | exact wrap_le (by omega) (by omega) | (rw [wrap_le (by omega) (by omega)]; omega))) .nil))))) (.cons rfl (.cons rfl .nil))) (show 0 ≤ e.ints.length ∧ allTo 0 (fun x => Iv.leq (e.ints.getD x default) (b.ints.getD x default)) = true by exact ⟨by omega, rfl⟩)
      · rintro j hI
        have hI : j ≤ e.ints.length ∧ allTo j (fun x => Iv.leq (e.ints.getD x default) (b.ints.getD x default)) = true := hI
        have hj9 := hj c0 c1
        refine .seq ?_
        refine .reg (X := Unit) (fun ζ => .of [(2, .one (.ptr [2] (g6) 0)), (3, .one (.ptr [3] (g7) 0)), (18, .one (.d (.sl false 60 2 (List.map Iv.c (e.ints))))), (19, .one (.d (.v (.int .i64 ((e.ints.length : Int)))))), (20, .one (.d (.v (.int .i64 ((j : Int)))))), (21, .one (.d (.v (.bool (decide ((j : Int) < (e.ints.length : Int)))))))] [([2], (g6, g6, .box [.d (.v (.bool (e.live))), .d (.sl false 60 2 (List.map Iv.c (e.ints))), .d (.sl false 60 2 (List.map Iv.c (e.arrs)))])), ([3], (g7, g7, .box [.d (.v (.bool (b.live))), .d (.sl false 60 2 (List.map Iv.c (b.ints))), .d (.sl false 60 2 (List.map Iv.c (b.arrs)))]))]) [⟨[20, 19], some 21, [], []⟩] (fun k17 => ?_) ?_
        · skip
          refine .bin (.no rfl) rfl rfl rfl rfl rfl rfl ?_
          exact .fin () (.of (.cons rfl (.cons rfl (.cons rfl (.cons rfl (.cons rfl (.cons rfl .nil)))))) (.cons rfl (.cons rfl .nil)))
        intro _
        refine .seq ?_
        refine .cond (t := decide ((j : Int) < (e.ints.length : Int))) rfl (fun c2 => ?_) (fun c2 => ?_)
        · have c2 := of_decide_eq_true c2
          refine .skip ?_
          refine .seq ?_
          refine .block ?_
          refine .seq ?_
          refine .reg (X := Nat × Nat) (fun ζ => .of [(2, .one (.ptr [2] (g6) 0)), (3, .one (.ptr [3] (g7) 0)), (5, .one (.d (.v (.int .i64 ((j : Int)))))), (6, .one (.ptr [6] (ζ.1) 0)), (18, .one (.d (.sl false 60 2 (List.map Iv.c (e.ints))))), (19, .one (.d (.v (.int .i64 ((e.ints.length : Int)))))), (20, .one (.d (.v (.int .i64 ((j : Int))))))] [([2], (g6, g6, .box [.d (.v (.bool (e.live))), .d (.sl false 60 2 (List.map Iv.c (e.ints))), .d (.sl false 60 2 (List.map Iv.c (e.arrs)))])), ([3], (g7, g7, .box [.d (.v (.bool (b.live))), .d (.sl false 60 2 (List.map Iv.c (b.ints))), .d (.sl false 60 2 (List.map Iv.c (b.arrs)))])), ([6], (ζ.1, ζ.2, .box [.d (.v (.int .i64 ((e.ints.getD j default).lo))), .d (.v (.int .i64 ((e.ints.getD j default).hi)))]))]) [⟨[20], some 22, [], []⟩, ⟨[18, 20], some 23, [], []⟩, ⟨[23], some 24, [], []⟩, ⟨[], some 6, [], [[6]]⟩, ⟨[22], some 5, [], []⟩, ⟨[6, 24], none, [[6]], [[6]]⟩] (fun k18 => ?_) ?_
          · skip
            refine .move (.no rfl) rfl rfl rfl rfl ?_
            refine .indexAddr (.no rfl) rfl (j) t28 rfl t60 rfl rfl rfl (.d _ _) rfl rfl rfl (map_get (by omega)) rfl rfl ?_
            refine .load (.no rfl) rfl t60 rfl rfl (.d _) rfl rfl rfl rfl ?_
            refine .alloc (.no rfl) rfl z60 rfl rfl rfl ?_
            refine .assign (.no rfl) rfl rfl rfl rfl ?_
            refine .store (.no rfl) rfl t60 rfl rfl rfl rfl rfl rfl rfl rfl rfl ?_
            exact .fin (k18 + 1 + 1 + 1, k18 + 1 + 1 + 1 + 1 + 1) (.of (.cons rfl (.cons rfl (.cons rfl (.cons rfl (.cons rfl (.cons rfl (.cons rfl .nil))))))) (.cons rfl (.cons rfl (.cons rfl .nil))))
          rintro ⟨g19, g20⟩
          refine .seq ?_
          refine .regD (X := Unit) (by kernel_rfl) (fun ζ => .of [(2, .one (.ptr [2] (g6) 0)), (3, .one (.ptr [3] (g7) 0)), (18, .one (.d (.sl false 60 2 (List.map Iv.c (e.ints))))), (19, .one (.d (.v (.int .i64 ((e.ints.length : Int)))))), (20, .one (.d (.v (.int .i64 ((j : Int)))))), (32, .one (.d (.v (.bool (!(Iv.leq (e.ints.getD j default) (b.ints.getD j default)))))))] [([2], (g6, g6, .box [.d (.v (.bool (e.live))), .d (.sl false 60 2 (List.map Iv.c (e.ints))), .d (.sl false 60 2 (List.map Iv.c (e.arrs)))])), ([3], (g7, g7, .box [.d (.v (.bool (b.live))), .d (.sl false 60 2 (List.map Iv.c (b.ints))), .d (.sl false 60 2 (List.map Iv.c (b.arrs)))]))]) [⟨[6], some 25, [[6]], []⟩, ⟨[3], some 26, [], []⟩, ⟨[26], some 27, [[3]], []⟩, ⟨[5], some 28, [], []⟩, ⟨[27, 28], some 29, [], []⟩, ⟨[29], some 30, [], []⟩, ⟨[25, 30], some 31, [], []⟩, ⟨[31], some 32, [], []⟩] (by kernel_rfl) (fun k21 => ?_) ?_
          · skip
            refine .load (.no rfl) rfl t60 rfl rfl (.ptr _ _ _ _ _ rfl) rfl rfl rfl rfl ?_
            refine .fieldAddrP (.no rfl) rfl t30 rfl rfl t28 rfl rfl rfl rfl ?_
            refine .load (.no rfl) rfl t28 rfl rfl (.ptr _ _ _ _ _ rfl) rfl rfl rfl rfl ?_
            refine .move (.no rfl) rfl rfl rfl rfl ?_
            refine .indexAddr (.no rfl) rfl (j) t28 rfl t60 rfl rfl rfl (.d _ _) rfl rfl rfl (map_get (by omega)) rfl rfl ?_
            refine .load (.no rfl) rfl t60 rfl rfl (.d _) rfl rfl rfl rfl ?_
            refine .call (.no rfl) rfl [] [] (c_IvLeq (e.ints.getD j default) (b.ints.getD j default)) rfl rfl rfl rfl rfl (.cons (Reads.d _).gives (.cons (Reads.d _).gives (.cons (Reads.d _).gives (.cons (Reads.d _).gives .nil)))) rfl rfl (fun h => absurd rfl h) (.own [31, 0] .nil) (.nil) rfl rfl rfl (by simp) rfl rfl rfl ?_
            refine .un (.no rfl) rfl rfl rfl rfl rfl ?_
            exact .fin () (.of (.cons rfl (.cons rfl (.cons rfl (.cons rfl (.cons rfl (.cons rfl .nil)))))) (.cons rfl (.cons rfl .nil)))
          intro _
          refine .cond (t := !(Iv.leq (e.ints.getD j default) (b.ints.getD j default))) rfl (fun c3 => ?_) (fun c3 => ?_)
          · have c3 := c3
            try simp only [Bool.or_eq_true, Bool.or_eq_false_iff, Bool.and_eq_true, Bool.and_eq_false_iff, decide_eq_true_eq, decide_eq_false_iff_not, Bool.not_eq_true', Bool.not_eq_false', bne_iff_ne, beq_iff_eq, bne_eq_false_iff_eq, beq_eq_false_iff_ne, ne_eq, Bool.not_eq_eq_eq_not, Bool.not_true, Bool.not_false] at c3
            refine .seq ?_
            refine .reg (X := Unit) (fun ζ => .of [(4, .one (.d (.v (.bool (false)))))] []) [⟨[], some 4, [], []⟩] (fun k22 => ?_) ?_
            · skip
              refine .assign (.no rfl) rfl rfl rfl rfl ?_
              exact .fin () (.of (.cons rfl .nil) .nil)
            intro _
            refine .ret ?_
            have e23 : (false) = (Env.leq e b) := by (unfold Env.leq; rw [if_pos c0, if_pos c1, allTo_fail (j := j) (by omega) c3]; rfl)
            have hc24 := eq1 (fun z1 => SV.one (.d (.v (.bool (z1))))) e23
            show _ ∧ _
            exact ⟨.inr rfl, .done ⟨_, [], [], _, .one (c := .d (.v (.bool (Env.leq e b)))) (hc24) .nil, .cons (Reads.d _).gives .nil, nodupB_ok rfl, by simp, (by simp)⟩⟩
          · have c3 := c3
            try simp only [Bool.or_eq_true, Bool.or_eq_false_iff, Bool.and_eq_true, Bool.and_eq_false_iff, decide_eq_true_eq, decide_eq_false_iff_not, Bool.not_eq_true', Bool.not_eq_false', bne_iff_ne, beq_iff_eq, bne_eq_false_iff_eq, beq_eq_false_iff_ne, ne_eq, Bool.not_eq_eq_eq_not, Bool.not_true, Bool.not_false] at c3
            refine .skip ?_
            refine .reg (X := Unit) (fun ζ => .of [(2, .one (.ptr [2] (g6) 0)), (3, .one (.ptr [3] (g7) 0)), (18, .one (.d (.sl false 60 2 (List.map Iv.c (e.ints))))), (19, .one (.d (.v (.int .i64 ((e.ints.length : Int)))))), (20, .one (.d (.v (.int .i64 (IntKind.wrap .i64 ((j : Int) + 1))))))] [([2], (g6, g6, .box [.d (.v (.bool (e.live))), .d (.sl false 60 2 (List.map Iv.c (e.ints))), .d (.sl false 60 2 (List.map Iv.c (e.arrs)))])), ([3], (g7, g7, .box [.d (.v (.bool (b.live))), .d (.sl false 60 2 (List.map Iv.c (b.ints))), .d (.sl false 60 2 (List.map Iv.c (b.arrs)))]))]) [⟨[20], some 33, [], []⟩, ⟨[33], some 20, [], []⟩] (fun k25 => ?_) ?_
            · skip
              refine .bin (.no rfl) rfl rfl rfl rfl rfl rfl ?_
              refine .move (.no rfl) rfl rfl rfl rfl ?_
              exact .fin () (.of (.cons rfl (.cons rfl (.cons rfl (.cons rfl (.cons rfl .nil))))) (.cons rfl (.cons rfl .nil)))
            intro _
            exact .here (j + 1) (.of (.cons rfl (.cons rfl (.cons rfl (.cons rfl (.cons (svI (show (IntKind.wrap .i64 ((j : Int) + 1)) = (((j + 1) : Int)) by first | rfl | omega | exact wrap_le (by omega) (by omega) | (rw [wrap_le (by omega) (by omega)]; omega))) .nil))))) (.cons rfl (.cons rfl .nil))) ⟨(show (j + 1) ≤ e.ints.length ∧ allTo (j + 1) (fun x => Iv.leq (e.ints.getD x default) (b.ints.getD x default)) = true by exact ⟨by omega, allTo_step hI.2 c3⟩), (show e.ints.length - (j + 1) < e.ints.length - j by omega)⟩
        · have c2 := of_decide_eq_false c2
          refine .exit ?_
          refine .seq ?_
          refine .seq ?_
          refine .reg (X := Unit) (fun ζ => .of [(3, .one (.ptr [3] (g7) 0)), (35, .one (.d (.sl false 60 2 (List.map Iv.c (e.arrs))))), (36, .one (.d (.v (.int .i64 ((e.arrs.length : Int)))))), (37, .one (.d (.v (.int .i64 (0)))))] [([3], (g7, g7, .box [.d (.v (.bool (b.live))), .d (.sl false 60 2 (List.map Iv.c (b.ints))), .d (.sl false 60 2 (List.map Iv.c (b.arrs)))]))]) [⟨[2], some 34, [], []⟩, ⟨[34], some 35, [[2]], []⟩, ⟨[35], some 36, [], []⟩, ⟨[], some 37, [], []⟩] (fun k26 => ?_) ?_
          · skip
            refine .fieldAddrP (.no rfl) rfl t30 rfl rfl t28 rfl rfl rfl rfl ?_
            refine .load (.no rfl) rfl t28 rfl rfl (.ptr _ _ _ _ _ rfl) rfl rfl rfl rfl ?_
            refine .len (.no rfl) rfl (z := (e.arrs.length : Int)) t28 rfl rfl rfl (.d _ _) (map_len _ _) rfl ?_
            refine .move (.no rfl) rfl rfl rfl rfl ?_
            exact .fin () (.of (.cons rfl (.cons rfl (.cons rfl (.cons rfl .nil)))) (.cons rfl .nil))
          intro _
          refine .block ?_
          refine .loop (X := Nat) (fun ζ => .of [(3, .one (.ptr [3] (g7) 0)), (35, .one (.d (.sl false 60 2 (List.map Iv.c (e.arrs))))), (36, .one (.d (.v (.int .i64 ((e.arrs.length : Int)))))), (37, .one (.d (.v (.int .i64 ((ζ : Int))))))] [([3], (g7, g7, .box [.d (.v (.bool (b.live))), .d (.sl false 60 2 (List.map Iv.c (b.ints))), .d (.sl false 60 2 (List.map Iv.c (b.arrs)))]))]) (fun ζ => ζ ≤ e.arrs.length ∧ allTo ζ (fun x => Iv.leq (e.arrs.getD x default) (b.arrs.getD x default)) = true) (fun ζ => e.arrs.length - ζ) ?_ ?_
          · skip
            exact .here 0 (.of (.cons rfl (.cons rfl (.cons rfl (.cons (svI (show (0) = ((0 : Int)) by first | rfl | omega | exact wrap_le (by omega) (by omega) | (rw [wrap_le (by omega) (by omega)]; omega))) .nil)))) (.cons rfl .nil)) (show 0 ≤ e.arrs.length ∧ allTo 0 (fun x => Iv.leq (e.arrs.getD x default) (b.arrs.getD x default)) = true by exact ⟨by omega, rfl⟩)
          · rintro i hI
            have hI : i ≤ e.arrs.length ∧ allTo i (fun x => Iv.leq (e.arrs.getD x default) (b.arrs.getD x default)) = true := hI
            have hj9 := hj c0 c1
            have hI0 := ‹j ≤ e.ints.length ∧ _›
            refine .seq ?_
            refine .reg (X := Unit) (fun ζ => .of [(3, .one (.ptr [3] (g7) 0)), (35, .one (.d (.sl false 60 2 (List.map Iv.c (e.arrs))))), (36, .one (.d (.v (.int .i64 ((e.arrs.length : Int)))))), (37, .one (.d (.v (.int .i64 ((i : Int)))))), (38, .one (.d (.v (.bool (decide ((i : Int) < (e.arrs.length : Int)))))))] [([3], (g7, g7, .box [.d (.v (.bool (b.live))), .d (.sl false 60 2 (List.map Iv.c (b.ints))), .d (.sl false 60 2 (List.map Iv.c (b.arrs)))]))]) [⟨[37, 36], some 38, [], []⟩] (fun k27 => ?_) ?_
            · skip
              refine .bin (.no rfl) rfl rfl rfl rfl rfl rfl ?_
              exact .fin () (.of (.cons rfl (.cons rfl (.cons rfl (.cons rfl (.cons rfl .nil))))) (.cons rfl .nil))
            intro _
            refine .seq ?_
            refine .cond (t := decide ((i : Int) < (e.arrs.length : Int))) rfl (fun c4 => ?_) (fun c4 => ?_)
            · have c4 := of_decide_eq_true c4
              refine .skip ?_
              refine .seq ?_
              refine .block ?_
              refine .seq ?_
              refine .reg (X := Nat × Nat) (fun ζ => .of [(3, .one (.ptr [3] (g7) 0)), (7, .one (.d (.v (.int .i64 ((i : Int)))))), (8, .one (.ptr [8] (ζ.1) 0)), (35, .one (.d (.sl false 60 2 (List.map Iv.c (e.arrs))))), (36, .one (.d (.v (.int .i64 ((e.arrs.length : Int)))))), (37, .one (.d (.v (.int .i64 ((i : Int))))))] [([3], (g7, g7, .box [.d (.v (.bool (b.live))), .d (.sl false 60 2 (List.map Iv.c (b.ints))), .d (.sl false 60 2 (List.map Iv.c (b.arrs)))])), ([8], (ζ.1, ζ.2, .box [.d (.v (.int .i64 ((e.arrs.getD i default).lo))), .d (.v (.int .i64 ((e.arrs.getD i default).hi)))]))]) [⟨[37], some 39, [], []⟩, ⟨[35, 37], some 40, [], []⟩, ⟨[40], some 41, [], []⟩, ⟨[], some 8, [], [[8]]⟩, ⟨[39], some 7, [], []⟩, ⟨[8, 41], none, [[8]], [[8]]⟩] (fun k28 => ?_) ?_
              · skip
                refine .move (.no rfl) rfl rfl rfl rfl ?_
                refine .indexAddr (.no rfl) rfl (i) t28 rfl t60 rfl rfl rfl (.d _ _) rfl rfl rfl (map_get (by omega)) rfl rfl ?_
                refine .load (.no rfl) rfl t60 rfl rfl (.d _) rfl rfl rfl rfl ?_
                refine .alloc (.no rfl) rfl z60 rfl rfl rfl ?_
                refine .assign (.no rfl) rfl rfl rfl rfl ?_
                refine .store (.no rfl) rfl t60 rfl rfl rfl rfl rfl rfl rfl rfl rfl ?_
                exact .fin (k28 + 1 + 1 + 1, k28 + 1 + 1 + 1 + 1 + 1) (.of (.cons rfl (.cons rfl (.cons rfl (.cons rfl (.cons rfl (.cons rfl .nil)))))) (.cons rfl (.cons rfl .nil)))
              rintro ⟨g29, g30⟩
              refine .seq ?_
              refine .regD (X := Unit) (by kernel_rfl) (fun ζ => .of [(3, .one (.ptr [3] (g7) 0)), (35, .one (.d (.sl false 60 2 (List.map Iv.c (e.arrs))))), (36, .one (.d (.v (.int .i64 ((e.arrs.length : Int)))))), (37, .one (.d (.v (.int .i64 ((i : Int)))))), (49, .one (.d (.v (.bool (!(Iv.leq (e.arrs.getD i default) (b.arrs.getD i default)))))))] [([3], (g7, g7, .box [.d (.v (.bool (b.live))), .d (.sl false 60 2 (List.map Iv.c (b.ints))), .d (.sl false 60 2 (List.map Iv.c (b.arrs)))]))]) [⟨[8], some 42, [[8]], []⟩, ⟨[3], some 43, [], []⟩, ⟨[43], some 44, [[3]], []⟩, ⟨[7], some 45, [], []⟩, ⟨[44, 45], some 46, [], []⟩, ⟨[46], some 47, [], []⟩, ⟨[42, 47], some 48, [], []⟩, ⟨[48], some 49, [], []⟩] (by kernel_rfl) (fun k31 => ?_) ?_
              · skip
                refine .load (.no rfl) rfl t60 rfl rfl (.ptr _ _ _ _ _ rfl) rfl rfl rfl rfl ?_
                refine .fieldAddrP (.no rfl) rfl t30 rfl rfl t28 rfl rfl rfl rfl ?_
                refine .load (.no rfl) rfl t28 rfl rfl (.ptr _ _ _ _ _ rfl) rfl rfl rfl rfl ?_
                refine .move (.no rfl) rfl rfl rfl rfl ?_
                refine .indexAddr (.no rfl) rfl (i) t28 rfl t60 rfl rfl rfl (.d _ _) rfl rfl rfl (map_get (by omega)) rfl rfl ?_
                refine .load (.no rfl) rfl t60 rfl rfl (.d _) rfl rfl rfl rfl ?_
                refine .call (.no rfl) rfl [] [] (c_IvLeq (e.arrs.getD i default) (b.arrs.getD i default)) rfl rfl rfl rfl rfl (.cons (Reads.d _).gives (.cons (Reads.d _).gives (.cons (Reads.d _).gives (.cons (Reads.d _).gives .nil)))) rfl rfl (fun h => absurd rfl h) (.own [48, 0] .nil) (.nil) rfl rfl rfl (by simp) rfl rfl rfl ?_
                refine .un (.no rfl) rfl rfl rfl rfl rfl ?_
                exact .fin () (.of (.cons rfl (.cons rfl (.cons rfl (.cons rfl (.cons rfl .nil))))) (.cons rfl .nil))
              intro _
              refine .cond (t := !(Iv.leq (e.arrs.getD i default) (b.arrs.getD i default))) rfl (fun c5 => ?_) (fun c5 => ?_)
              · have c5 := c5
                try simp only [Bool.or_eq_true, Bool.or_eq_false_iff, Bool.and_eq_true, Bool.and_eq_false_iff, decide_eq_true_eq, decide_eq_false_iff_not, Bool.not_eq_true', Bool.not_eq_false', bne_iff_ne, beq_iff_eq, bne_eq_false_iff_eq, beq_eq_false_iff_ne, ne_eq, Bool.not_eq_eq_eq_not, Bool.not_true, Bool.not_false] at c5
                refine .seq ?_
                refine .reg (X := Unit) (fun ζ => .of [(4, .one (.d (.v (.bool (false)))))] []) [⟨[], some 4, [], []⟩] (fun k32 => ?_) ?_
                · skip
                  refine .assign (.no rfl) rfl rfl rfl rfl ?_
                  exact .fin () (.of (.cons rfl .nil) .nil)
                intro _
                refine .ret ?_
                have e33 : (false) = (Env.leq e b) := by (unfold Env.leq; rw [if_pos c0, if_pos c1, allTo_fail (j := i) (n := e.arrs.length) (by omega) c5, Bool.and_false])
                have hc34 := eq1 (fun z1 => SV.one (.d (.v (.bool (z1))))) e33
                show _ ∧ _
                exact ⟨.inr rfl, .done ⟨_, [], [], _, .one (c := .d (.v (.bool (Env.leq e b)))) (hc34) .nil, .cons (Reads.d _).gives .nil, nodupB_ok rfl, by simp, (by simp)⟩⟩
              · have c5 := c5
                try simp only [Bool.or_eq_true, Bool.or_eq_false_iff, Bool.and_eq_true, Bool.and_eq_false_iff, decide_eq_true_eq, decide_eq_false_iff_not, Bool.not_eq_true', Bool.not_eq_false', bne_iff_ne, beq_iff_eq, bne_eq_false_iff_eq, beq_eq_false_iff_ne, ne_eq, Bool.not_eq_eq_eq_not, Bool.not_true, Bool.not_false] at c5
                refine .skip ?_
                refine .reg (X := Unit) (fun ζ => .of [(3, .one (.ptr [3] (g7) 0)), (35, .one (.d (.sl false 60 2 (List.map Iv.c (e.arrs))))), (36, .one (.d (.v (.int .i64 ((e.arrs.length : Int)))))), (37, .one (.d (.v (.int .i64 (IntKind.wrap .i64 ((i : Int) + 1))))))] [([3], (g7, g7, .box [.d (.v (.bool (b.live))), .d (.sl false 60 2 (List.map Iv.c (b.ints))), .d (.sl false 60 2 (List.map Iv.c (b.arrs)))]))]) [⟨[37], some 50, [], []⟩, ⟨[50], some 37, [], []⟩] (fun k35 => ?_) ?_
                · skip
                  refine .bin (.no rfl) rfl rfl rfl rfl rfl rfl ?_
                  refine .move (.no rfl) rfl rfl rfl rfl ?_
                  exact .fin () (.of (.cons rfl (.cons rfl (.cons rfl (.cons rfl .nil)))) (.cons rfl .nil))
                intro _
                exact .here (i + 1) (.of (.cons rfl (.cons rfl (.cons rfl (.cons (svI (show (IntKind.wrap .i64 ((i : Int) + 1)) = (((i + 1) : Int)) by first | rfl | omega | exact wrap_le (by omega) (by omega) | (rw [wrap_le (by omega) (by omega)]; omega))) .nil)))) (.cons rfl .nil)) ⟨(show (i + 1) ≤ e.arrs.length ∧ allTo (i + 1) (fun x => Iv.leq (e.arrs.getD x default) (b.arrs.getD x default)) = true by exact ⟨by omega, allTo_step hI.2 c5⟩), (show e.arrs.length - (i + 1) < e.arrs.length - i by omega)⟩
            · have c4 := of_decide_eq_false c4
              refine .exit ?_
              refine .seq ?_
              refine .reg (X := Unit) (fun ζ => .of [(4, .one (.d (.v (.bool (true)))))] []) [⟨[], some 4, [], []⟩] (fun k36 => ?_) ?_
              · skip
                refine .assign (.no rfl) rfl rfl rfl rfl ?_
                exact .fin () (.of (.cons rfl .nil) .nil)
              intro _
              refine .ret ?_
              have e37 : (true) = (Env.leq e b) := by (unfold Env.leq; rw [if_pos c0, if_pos c1, allTo_le (by omega) hI0.2, allTo_le (by omega) hI.2]; rfl)
              have hc38 := eq1 (fun z1 => SV.one (.d (.v (.bool (z1))))) e37
              show _ ∧ _
              exact ⟨.inr rfl, .done ⟨_, [], [], _, .one (c := .d (.v (.bool (Env.leq e b)))) (hc38) .nil, .cons (Reads.d _).gives .nil, nodupB_ok rfl, by simp, (by simp)⟩⟩
end Go.Proofs

namespace Go.Proofs
open Go Go.Proofs Go.Ev

def i82 : TI := ⟨.fn, 1, 8, [.nilFunc]⟩
theorem t82 : TyOk Tryd.prog 82 i82 := ⟨⟨_, _, _, Tryd.underlying82⟩, by kernel_rfl⟩
theorem z82 : ZOk Tryd.prog 82 i82 := ⟨t82, rfl⟩
def i128 : TI := ⟨.int .u64, 1, 8, [.int .u64 0]⟩
theorem t128 : TyOk Tryd.prog 128 i128 := ⟨Tryd.underlying128, by kernel_rfl⟩
theorem z128 : ZOk Tryd.prog 128 i128 := ⟨t128, rfl⟩
theorem c_l8Leq (a : List Env) (b : List Env) (hl : a.length = b.length ∧ a.length ≤ 1048576) (hf : ∀ i, i < a.length → (a.getD i default).live = true → (b.getD i default).live = true → (a.getD i default).ints.length = (b.getD i default).ints.length ∧ (a.getD i default).arrs.length = (b.getD i default).arrs.length) (hx : ∀ x ∈ a, x.ints.length ≤ 1048576 ∧ x.arrs.length ≤ 1048576) (hy : ∀ x ∈ b, x.ints.length ≤ 1048576 ∧ x.arrs.length ≤ 1048576) : Trip Tryd.prog 62 [(false, 1), (false, 1)] ([.sl false 30 3 (List.map Env.c30 (a))] ++ [.sl false 30 3 (List.map Env.c30 (b))]) [(false, 1)] [.v (.bool (tabLeq a b))] [] := by
  refine Trip.of Tryd.func62 (by decide) (c := _) rfl rfl (shB_ok rfl) (Nat.le_of_ble_eq_true rfl) rfl (AftOk.nil _) ?_
  refine .sat (t := 0) rfl (fun hs1 => ?_)
  have hs1l : a.length ≤ 9223372036854775807 := hs1.maplen
  refine .sat (t := 1) rfl (fun hs2 => ?_)
  have hs2l : b.length ≤ 9223372036854775807 := hs2.maplen
  refine .seq ?_
  refine .reg (X := Unit) (fun ζ => .of [(0, .one (.d (.sl false 30 3 (List.map Env.c30 (a))))), (1, .one (.d (.sl false 30 3 (List.map Env.c30 (b)))))] []) [⟨[], some 4, [], []⟩] (fun k3 => ?_) ?_
  · skip
    refine .assign (.no rfl) rfl rfl rfl rfl ?_
    exact .fin () (.of (.cons rfl (.cons rfl .nil)) .nil)
  intro _
  refine .seq ?_
  refine .seq ?_
  refine .reg (X := Unit) (fun ζ => .of [(0, .one (.d (.sl false 30 3 (List.map Env.c30 (a))))), (1, .one (.d (.sl false 30 3 (List.map Env.c30 (b))))), (5, .one (.d (.v (.int .i64 (0)))))] []) [⟨[], some 5, [], []⟩] (fun k4 => ?_) ?_
  · skip
    refine .assign (.no rfl) rfl rfl rfl rfl ?_
    exact .fin () (.of (.cons rfl (.cons rfl (.cons rfl .nil))) .nil)
  intro _
  refine .block ?_
  refine .loop (X := Nat) (fun ζ => .of [(0, .one (.d (.sl false 30 3 (List.map Env.c30 (a))))), (1, .one (.d (.sl false 30 3 (List.map Env.c30 (b))))), (5, .one (.d (.v (.int .i64 ((ζ : Int))))))] []) (fun ζ => ζ ≤ a.length ∧ allTo ζ (fun i => Env.leq (a.getD i default) (b.getD i default)) = true) (fun ζ => a.length - ζ) ?_ ?_
  · skip
    exact .here 0 (.of (.cons rfl (.cons rfl (.cons (svI (show (0) = ((0 : Int)) by first | rfl | omega | exact wrap_le (by omega) (by omega) | (rw [wrap_le (by omega) (by omega)]; omega))) .nil))) .nil) (show 0 ≤ a.length ∧ allTo 0 (fun i => Env.leq (a.getD i default) (b.getD i default)) = true by exact ⟨by omega, rfl⟩)
  · rintro j hI
    have hI : j ≤ a.length ∧ allTo j (fun i => Env.leq (a.getD i default) (b.getD i default)) = true := hI
    refine .seq ?_
    refine .seq ?_
    refine .reg (X := Unit) (fun ζ => .of [(0, .one (.d (.sl false 30 3 (List.map Env.c30 (a))))), (1, .one (.d (.sl false 30 3 (List.map Env.c30 (b))))), (5, .one (.d (.v (.int .i64 ((j : Int)))))), (9, .one (.d (.v (.bool (decide ((j : Int) < (a.length : Int)))))))] []) [⟨[5], some 6, [], []⟩, ⟨[0], some 7, [], []⟩, ⟨[7], some 8, [], []⟩, ⟨[6, 8], some 9, [], []⟩] (fun k5 => ?_) ?_
    · skip
      refine .move (.no rfl) rfl rfl rfl rfl ?_
      refine .move (.no rfl) rfl rfl rfl rfl ?_
      refine .len (.no rfl) rfl (z := (a.length : Int)) t47 rfl rfl rfl (.d _ _) (map_len _ _) rfl ?_
      refine .bin (.no rfl) rfl rfl rfl rfl rfl rfl ?_
      exact .fin () (.of (.cons rfl (.cons rfl (.cons rfl (.cons rfl .nil)))) .nil)
    intro _
    refine .cond (t := decide ((j : Int) < (a.length : Int))) rfl (fun c0 => ?_) (fun c0 => ?_)
    · have c0 := of_decide_eq_true c0
      refine .skip ?_
      refine .seq ?_
      refine .block ?_
      refine .seq ?_
      refine .regD (X := Unit) (by kernel_rfl) (fun ζ => .of [(0, .one (.d (.sl false 30 3 (List.map Env.c30 (a))))), (1, .one (.d (.sl false 30 3 (List.map Env.c30 (b))))), (5, .one (.d (.v (.int .i64 ((j : Int)))))), (21, .one (.d (.v (.bool (!(Env.leq (a.getD j default) (b.getD j default)))))))] []) [⟨[0], some 12, [], []⟩, ⟨[5], some 13, [], []⟩, ⟨[12, 13], some 14, [], []⟩, ⟨[14], some 15, [], []⟩, ⟨[1], some 16, [], []⟩, ⟨[5], some 17, [], []⟩, ⟨[16, 17], some 18, [], []⟩, ⟨[18], some 19, [], []⟩, ⟨[15, 19], some 20, [], []⟩, ⟨[20], some 21, [], []⟩] (by kernel_rfl) (fun k6 => ?_) ?_
      · skip
        refine .move (.no rfl) rfl rfl rfl rfl ?_
        refine .move (.no rfl) rfl rfl rfl rfl ?_
        refine .indexAddr (.no rfl) rfl (j) t47 rfl t30 rfl rfl rfl (.d _ _) rfl rfl rfl (map_get (by omega)) rfl rfl ?_
        refine .load (.no rfl) rfl t30 rfl rfl (.d _) rfl rfl rfl rfl ?_
        refine .move (.no rfl) rfl rfl rfl rfl ?_
        refine .move (.no rfl) rfl rfl rfl rfl ?_
        refine .indexAddr (.no rfl) rfl (j) t47 rfl t30 rfl rfl rfl (.d _ _) rfl rfl rfl (map_get (by omega)) rfl rfl ?_
        refine .load (.no rfl) rfl t30 rfl rfl (.d _) rfl rfl rfl rfl ?_
        refine .call (.no rfl) rfl [] [] (c_l6Leq (a.getD j default) (b.getD j default) (by first | exact hf j (by omega) | (have h8 := hx _ (getD_mem (j := j) (by omega)); have h9 := hy _ (getD_mem (j := j) (by omega)); omega)) (by first | exact hf j (by omega) | (have h8 := hx _ (getD_mem (j := j) (by omega)); have h9 := hy _ (getD_mem (j := j) (by omega)); omega))) rfl rfl rfl rfl rfl (.cons (Reads.d _).gives (.cons (Reads.d _).gives (.cons (Reads.d _).gives (.cons (Reads.d _).gives (.cons (Reads.d _).gives (.cons (Reads.d _).gives .nil)))))) rfl rfl (fun h => absurd rfl h) (.own [20, 0] .nil) (.nil) rfl rfl rfl (by simp) rfl rfl rfl ?_
        refine .un (.no rfl) rfl rfl rfl rfl rfl ?_
        exact .fin () (.of (.cons rfl (.cons rfl (.cons rfl (.cons rfl .nil)))) .nil)
      intro _
      refine .cond (t := !(Env.leq (a.getD j default) (b.getD j default))) rfl (fun c1 => ?_) (fun c1 => ?_)
      · have c1 := c1
        try simp only [Bool.or_eq_true, Bool.or_eq_false_iff, Bool.and_eq_true, Bool.and_eq_false_iff, decide_eq_true_eq, decide_eq_false_iff_not, Bool.not_eq_true', Bool.not_eq_false', bne_iff_ne, beq_iff_eq, bne_eq_false_iff_eq, beq_eq_false_iff_ne, ne_eq, Bool.not_eq_eq_eq_not, Bool.not_true, Bool.not_false] at c1
        refine .seq ?_
        refine .reg (X := Unit) (fun ζ => .of [(4, .one (.d (.v (.bool (false)))))] []) [⟨[], some 4, [], []⟩] (fun k7 => ?_) ?_
        · skip
          refine .assign (.no rfl) rfl rfl rfl rfl ?_
          exact .fin () (.of (.cons rfl .nil) .nil)
        intro _
        refine .ret ?_
        have e8 : (false) = (tabLeq a b) := by (unfold tabLeq; rw [allTo_fail (j := j) (by omega) c1])
        have hc9 := eq1 (fun z1 => SV.one (.d (.v (.bool (z1))))) e8
        show _ ∧ _
        exact ⟨.inr rfl, .done ⟨_, [], [], _, .one (c := .d (.v (.bool (tabLeq a b)))) (hc9) .nil, .cons (Reads.d _).gives .nil, nodupB_ok rfl, by simp, (by simp)⟩⟩
      · have c1 := c1
        try simp only [Bool.or_eq_true, Bool.or_eq_false_iff, Bool.and_eq_true, Bool.and_eq_false_iff, decide_eq_true_eq, decide_eq_false_iff_not, Bool.not_eq_true', Bool.not_eq_false', bne_iff_ne, beq_iff_eq, bne_eq_false_iff_eq, beq_eq_false_iff_ne, ne_eq, Bool.not_eq_eq_eq_not, Bool.not_true, Bool.not_false] at c1
        refine .skip ?_
        refine .reg (X := Unit) (fun ζ => .of [(0, .one (.d (.sl false 30 3 (List.map Env.c30 (a))))), (1, .one (.d (.sl false 30 3 (List.map Env.c30 (b))))), (5, .one (.d (.v (.int .i64 (IntKind.wrap .i64 ((j : Int) + 1))))))] []) [⟨[5], some 10, [], []⟩, ⟨[10], some 11, [], []⟩, ⟨[11], some 5, [], []⟩] (fun k10 => ?_) ?_
        · skip
          refine .move (.no rfl) rfl rfl rfl rfl ?_
          refine .bin (.no rfl) rfl rfl rfl rfl rfl rfl ?_
          refine .assign (.no rfl) rfl rfl rfl rfl ?_
          exact .fin () (.of (.cons rfl (.cons rfl (.cons rfl .nil))) .nil)
        intro _
        exact .here (j + 1) (.of (.cons rfl (.cons rfl (.cons (svI (show (IntKind.wrap .i64 ((j : Int) + 1)) = (((j + 1) : Int)) by first | rfl | omega | exact wrap_le (by omega) (by omega) | (rw [wrap_le (by omega) (by omega)]; omega))) .nil))) .nil) ⟨(show (j + 1) ≤ a.length ∧ allTo (j + 1) (fun i => Env.leq (a.getD i default) (b.getD i default)) = true by exact ⟨by omega, allTo_step hI.2 c1⟩), (show a.length - (j + 1) < a.length - j by omega)⟩
    · have c0 := of_decide_eq_false c0
      refine .exit ?_
      refine .seq ?_
      refine .reg (X := Unit) (fun ζ => .of [(4, .one (.d (.v (.bool (true)))))] []) [⟨[], some 4, [], []⟩] (fun k11 => ?_) ?_
      · skip
        refine .assign (.no rfl) rfl rfl rfl rfl ?_
        exact .fin () (.of (.cons rfl .nil) .nil)
      intro _
      refine .ret ?_
      have e12 : (true) = (tabLeq a b) := by (unfold tabLeq; exact (allTo_le (by omega) hI.2).symm)
      have hc13 := eq1 (fun z1 => SV.one (.d (.v (.bool (z1))))) e12
      show _ ∧ _
      exact ⟨.inr rfl, .done ⟨_, [], [], _, .one (c := .d (.v (.bool (tabLeq a b)))) (hc13) .nil, .cons (Reads.d _).gives .nil, nodupB_ok rfl, by simp, (by simp)⟩⟩
theorem c_tableLeq (a : List Env) (b : List Env) (hl : a.length = b.length ∧ a.length ≤ 1048576) (hf : ∀ i, i < a.length → (a.getD i default).live = true → (b.getD i default).live = true → (a.getD i default).ints.length = (b.getD i default).ints.length ∧ (a.getD i default).arrs.length = (b.getD i default).arrs.length) (hx : ∀ x ∈ a, x.ints.length ≤ 1048576 ∧ x.arrs.length ≤ 1048576) (hy : ∀ x ∈ b, x.ints.length ≤ 1048576 ∧ x.arrs.length ≤ 1048576) : Trip Tryd.prog 66 [(false, 1), (false, 1)] ([.sl false 30 3 (List.map Env.c30 (a))] ++ [.sl false 30 3 (List.map Env.c30 (b))]) [(false, 1)] [.v (.bool (tabLeq a b))] [] := by
  refine Trip.of Tryd.func66 (by decide) (c := _) rfl rfl (shB_ok rfl) (Nat.le_of_ble_eq_true rfl) rfl (AftOk.nil _) ?_
  refine .sat (t := 0) rfl (fun hs1 => ?_)
  have hs1l : a.length ≤ 9223372036854775807 := hs1.maplen
  refine .sat (t := 1) rfl (fun hs2 => ?_)
  have hs2l : b.length ≤ 9223372036854775807 := hs2.maplen
  refine .seq ?_
  refine .reg (X := Unit) (fun ζ => .of [(0, .one (.d (.sl false 30 3 (List.map Env.c30 (a))))), (1, .one (.d (.sl false 30 3 (List.map Env.c30 (b)))))] []) [⟨[], some 4, [], []⟩] (fun k3 => ?_) ?_
  · skip
    refine .assign (.no rfl) rfl rfl rfl rfl ?_
    exact .fin () (.of (.cons rfl (.cons rfl .nil)) .nil)
  intro _
  refine .seq ?_
  refine .seq ?_
  refine .reg (X := Unit) (fun ζ => .of [(1, .one (.d (.sl false 30 3 (List.map Env.c30 (b))))), (7, .one (.d (.sl false 30 3 (List.map Env.c30 (a))))), (8, .one (.d (.v (.int .i64 ((a.length : Int)))))), (9, .one (.d (.v (.int .i64 (0)))))] []) [⟨[0], some 7, [], []⟩, ⟨[7], some 8, [], []⟩, ⟨[], some 9, [], []⟩] (fun k4 => ?_) ?_
  · skip
    refine .move (.no rfl) rfl rfl rfl rfl ?_
    refine .len (.no rfl) rfl (z := (a.length : Int)) t47 rfl rfl rfl (.d _ _) (map_len _ _) rfl ?_
    refine .move (.no rfl) rfl rfl rfl rfl ?_
    exact .fin () (.of (.cons rfl (.cons rfl (.cons rfl (.cons rfl .nil)))) .nil)
  intro _
  refine .block ?_
  refine .loop (X := Nat) (fun ζ => .of [(1, .one (.d (.sl false 30 3 (List.map Env.c30 (b))))), (7, .one (.d (.sl false 30 3 (List.map Env.c30 (a))))), (8, .one (.d (.v (.int .i64 ((a.length : Int)))))), (9, .one (.d (.v (.int .i64 ((ζ : Int))))))] []) (fun ζ => ζ ≤ a.length ∧ allTo ζ (fun i => Env.leq (a.getD i default) (b.getD i default)) = true) (fun ζ => a.length - ζ) ?_ ?_
  · skip
    exact .here 0 (.of (.cons rfl (.cons rfl (.cons rfl (.cons (svI (show (0) = ((0 : Int)) by first | rfl | omega | exact wrap_le (by omega) (by omega) | (rw [wrap_le (by omega) (by omega)]; omega))) .nil)))) .nil) (show 0 ≤ a.length ∧ allTo 0 (fun i => Env.leq (a.getD i default) (b.getD i default)) = true by exact ⟨by omega, rfl⟩)
  · rintro j hI
    have hI : j ≤ a.length ∧ allTo j (fun i => Env.leq (a.getD i default) (b.getD i default)) = true := hI
    refine .seq ?_
    refine .reg (X := Unit) (fun ζ => .of [(1, .one (.d (.sl false 30 3 (List.map Env.c30 (b))))), (7, .one (.d (.sl false 30 3 (List.map Env.c30 (a))))), (8, .one (.d (.v (.int .i64 ((a.length : Int)))))), (9, .one (.d (.v (.int .i64 ((j : Int)))))), (10, .one (.d (.v (.bool (decide ((j : Int) < (a.length : Int)))))))] []) [⟨[9, 8], some 10, [], []⟩] (fun k5 => ?_) ?_
    · skip
      refine .bin (.no rfl) rfl rfl rfl rfl rfl rfl ?_
      exact .fin () (.of (.cons rfl (.cons rfl (.cons rfl (.cons rfl (.cons rfl .nil))))) .nil)
    intro _
    refine .seq ?_
    refine .cond (t := decide ((j : Int) < (a.length : Int))) rfl (fun c0 => ?_) (fun c0 => ?_)
    · have c0 := of_decide_eq_true c0
      refine .skip ?_
      refine .seq ?_
      refine .block ?_
      refine .seq ?_
      refine .reg (X := Nat × Nat) (fun ζ => .of [(1, .one (.d (.sl false 30 3 (List.map Env.c30 (b))))), (5, .one (.d (.v (.int .i64 ((j : Int)))))), (6, .one (.ptr [6] (ζ.1) 0)), (7, .one (.d (.sl false 30 3 (List.map Env.c30 (a))))), (8, .one (.d (.v (.int .i64 ((a.length : Int)))))), (9, .one (.d (.v (.int .i64 ((j : Int))))))] [([6], (ζ.1, ζ.2, .box [.d (.v (.bool ((a.getD j default).live))), .d (.sl false 60 2 (List.map Iv.c ((a.getD j default).ints))), .d (.sl false 60 2 (List.map Iv.c ((a.getD j default).arrs)))]))]) [⟨[9], some 11, [], []⟩, ⟨[7, 9], some 12, [], []⟩, ⟨[12], some 13, [], []⟩, ⟨[], some 6, [], [[6]]⟩, ⟨[11], some 5, [], []⟩, ⟨[6, 13], none, [[6]], [[6]]⟩] (fun k6 => ?_) ?_
      · skip
        refine .move (.no rfl) rfl rfl rfl rfl ?_
        refine .indexAddr (.no rfl) rfl (j) t47 rfl t30 rfl rfl rfl (.d _ _) rfl rfl rfl (map_get (by omega)) rfl rfl ?_
        refine .load (.no rfl) rfl t30 rfl rfl (.d _) rfl rfl rfl rfl ?_
        refine .alloc (.no rfl) rfl z30 rfl rfl rfl ?_
        refine .assign (.no rfl) rfl rfl rfl rfl ?_
        refine .store (.no rfl) rfl t30 rfl rfl rfl rfl rfl rfl rfl rfl rfl ?_
        exact .fin (k6 + 1 + 1 + 1, k6 + 1 + 1 + 1 + 1 + 1) (.of (.cons rfl (.cons rfl (.cons rfl (.cons rfl (.cons rfl (.cons rfl .nil)))))) (.cons rfl .nil))
      rintro ⟨g7, g8⟩
      refine .seq ?_
      refine .regD (X := Unit) (by kernel_rfl) (fun ζ => .of [(1, .one (.d (.sl false 30 3 (List.map Env.c30 (b))))), (7, .one (.d (.sl false 30 3 (List.map Env.c30 (a))))), (8, .one (.d (.v (.int .i64 ((a.length : Int)))))), (9, .one (.d (.v (.int .i64 ((j : Int)))))), (20, .one (.d (.v (.bool (!(Env.leq (a.getD j default) (b.getD j default)))))))] []) [⟨[6], some 14, [[6]], []⟩, ⟨[1], some 15, [], []⟩, ⟨[5], some 16, [], []⟩, ⟨[15, 16], some 17, [], []⟩, ⟨[17], some 18, [], []⟩, ⟨[14, 18], some 19, [], []⟩, ⟨[19], some 20, [], []⟩] (by kernel_rfl) (fun k9 => ?_) ?_
      · skip
        refine .load (.no rfl) rfl t30 rfl rfl (.ptr _ _ _ _ _ rfl) rfl rfl rfl rfl ?_
        refine .move (.no rfl) rfl rfl rfl rfl ?_
        refine .move (.no rfl) rfl rfl rfl rfl ?_
        refine .indexAddr (.no rfl) rfl (j) t47 rfl t30 rfl rfl rfl (.d _ _) rfl rfl rfl (map_get (by omega)) rfl rfl ?_
        refine .load (.no rfl) rfl t30 rfl rfl (.d _) rfl rfl rfl rfl ?_
        refine .call (.no rfl) rfl [] [] (c_leq (a.getD j default) (b.getD j default) (by first | exact hf j (by omega) | (have h8 := hx _ (getD_mem (j := j) (by omega)); have h9 := hy _ (getD_mem (j := j) (by omega)); omega))) rfl rfl rfl rfl rfl (.cons (Reads.d _).gives (.cons (Reads.d _).gives (.cons (Reads.d _).gives (.cons (Reads.d _).gives (.cons (Reads.d _).gives (.cons (Reads.d _).gives .nil)))))) rfl rfl (fun h => absurd rfl h) (.own [19, 0] .nil) (.nil) rfl rfl rfl (by simp) rfl rfl rfl ?_
        refine .un (.no rfl) rfl rfl rfl rfl rfl ?_
        exact .fin () (.of (.cons rfl (.cons rfl (.cons rfl (.cons rfl (.cons rfl .nil))))) .nil)
      intro _
      refine .cond (t := !(Env.leq (a.getD j default) (b.getD j default))) rfl (fun c1 => ?_) (fun c1 => ?_)
      · have c1 := c1
        try simp only [Bool.or_eq_true, Bool.or_eq_false_iff, Bool.and_eq_true, Bool.and_eq_false_iff, decide_eq_true_eq, decide_eq_false_iff_not, Bool.not_eq_true', Bool.not_eq_false', bne_iff_ne, beq_iff_eq, bne_eq_false_iff_eq, beq_eq_false_iff_ne, ne_eq, Bool.not_eq_eq_eq_not, Bool.not_true, Bool.not_false] at c1
        refine .seq ?_
        refine .reg (X := Unit) (fun ζ => .of [(4, .one (.d (.v (.bool (false)))))] []) [⟨[], some 4, [], []⟩] (fun k10 => ?_) ?_
        · skip
          refine .assign (.no rfl) rfl rfl rfl rfl ?_
          exact .fin () (.of (.cons rfl .nil) .nil)
        intro _
        refine .ret ?_
        have e11 : (false) = (tabLeq a b) := by (unfold tabLeq; rw [allTo_fail (j := j) (by omega) c1])
        have hc12 := eq1 (fun z1 => SV.one (.d (.v (.bool (z1))))) e11
        show _ ∧ _
        exact ⟨.inr rfl, .done ⟨_, [], [], _, .one (c := .d (.v (.bool (tabLeq a b)))) (hc12) .nil, .cons (Reads.d _).gives .nil, nodupB_ok rfl, by simp, (by simp)⟩⟩
      · have c1 := c1
        try simp only [Bool.or_eq_true, Bool.or_eq_false_iff, Bool.and_eq_true, Bool.and_eq_false_iff, decide_eq_true_eq, decide_eq_false_iff_not, Bool.not_eq_true', Bool.not_eq_false', bne_iff_ne, beq_iff_eq, bne_eq_false_iff_eq, beq_eq_false_iff_ne, ne_eq, Bool.not_eq_eq_eq_not, Bool.not_true, Bool.not_false] at c1
        refine .skip ?_
        refine .reg (X := Unit) (fun ζ => .of [(1, .one (.d (.sl false 30 3 (List.map Env.c30 (b))))), (7, .one (.d (.sl false 30 3 (List.map Env.c30 (a))))), (8, .one (.d (.v (.int .i64 ((a.length : Int)))))), (9, .one (.d (.v (.int .i64 (IntKind.wrap .i64 ((j : Int) + 1))))))] []) [⟨[9], some 21, [], []⟩, ⟨[21], some 9, [], []⟩] (fun k13 => ?_) ?_
        · skip
          refine .bin (.no rfl) rfl rfl rfl rfl rfl rfl ?_
          refine .move (.no rfl) rfl rfl rfl rfl ?_
          exact .fin () (.of (.cons rfl (.cons rfl (.cons rfl (.cons rfl .nil)))) .nil)
        intro _
        exact .here (j + 1) (.of (.cons rfl (.cons rfl (.cons rfl (.cons (svI (show (IntKind.wrap .i64 ((j : Int) + 1)) = (((j + 1) : Int)) by first | rfl | omega | exact wrap_le (by omega) (by omega) | (rw [wrap_le (by omega) (by omega)]; omega))) .nil)))) .nil) ⟨(show (j + 1) ≤ a.length ∧ allTo (j + 1) (fun i => Env.leq (a.getD i default) (b.getD i default)) = true by exact ⟨by omega, allTo_step hI.2 c1⟩), (show a.length - (j + 1) < a.length - j by omega)⟩
    · have c0 := of_decide_eq_false c0
      refine .exit ?_
      refine .seq ?_
      refine .reg (X := Unit) (fun ζ => .of [(4, .one (.d (.v (.bool (true)))))] []) [⟨[], some 4, [], []⟩] (fun k14 => ?_) ?_
      · skip
        refine .assign (.no rfl) rfl rfl rfl rfl ?_
        exact .fin () (.of (.cons rfl .nil) .nil)
      intro _
      refine .ret ?_
      have e15 : (true) = (tabLeq a b) := by (unfold tabLeq; exact (allTo_le (by omega) hI.2).symm)
      have hc16 := eq1 (fun z1 => SV.one (.d (.v (.bool (z1))))) e15
      show _ ∧ _
      exact ⟨.inr rfl, .done ⟨_, [], [], _, .one (c := .d (.v (.bool (tabLeq a b)))) (hc16) .nil, .cons (Reads.d _).gives .nil, nodupB_ok rfl, by simp, (by simp)⟩⟩
theorem c_l8Size (d : Decl) : Trip Tryd.prog 102 [(true, 3)] (Decl.c27 d) [(false, 1)] [.v (.int .i64 (leavesOf d))] [] := by
  refine Trip.of Tryd.func102 (by decide) (c := _) rfl rfl (shB_ok rfl) (Nat.le_of_ble_eq_true rfl) rfl (AftOk.nil _) ?_
  refine .satA (t := 0) (i := 0) rfl rfl (fun hs1 => ?_)
  have hs1l : d.vars.length ≤ 9223372036854775807 := hs1.maplen
  refine .satA (t := 0) (i := 1) rfl rfl (fun hs2 => ?_)
  have hs2l : d.flags.length ≤ 9223372036854775807 := hs2.maplen
  refine .satA (t := 0) (i := 2) rfl rfl (fun hs3 => ?_)
  have hs3l : d.arrays.length ≤ 9223372036854775807 := hs3.maplen
  refine .seq ?_
  refine .reg (X := Nat) (fun ζ => .of [(1, .one (.ptr [1] (ζ) 0))] [([1], (ζ, ζ, .box [.d (.sl false 9 1 (List.map strc (d.vars))), .d (.sl false 9 1 (List.map strc (d.flags))), .d (.sl false 101 2 (List.map Arr.c (d.arrays)))]))]) [⟨[0], some 1, [], [[1]]⟩, ⟨[], some 2, [], []⟩] (fun k4 => ?_) ?_
  · skip
    refine .box (.no rfl) rfl rfl rfl rfl rfl ?_
    refine .assign (.no rfl) rfl rfl rfl rfl ?_
    exact .fin k4 (.of (.cons rfl .nil) (.cons rfl .nil))
  intro g5
  refine .seq ?_
  refine .reg (X := Unit) (fun ζ => .of [(2, .one (.d (.v (.int .i64 (IntKind.wrap .i64 (1 * 2 ^ (min ((d.flags.length : Int)).toNat (IntKind.bits .i64))))))))] []) [⟨[1], some 3, [], []⟩, ⟨[3], some 4, [[1]], []⟩, ⟨[4], some 5, [], []⟩, ⟨[5], some 6, [], []⟩, ⟨[6], some 7, [], []⟩, ⟨[7], some 2, [], []⟩] (fun k6 => ?_) ?_
  · skip
    refine .fieldAddrP (.no rfl) rfl t27 rfl rfl t24 rfl rfl rfl rfl ?_
    refine .load (.no rfl) rfl t24 rfl rfl (.ptr _ _ _ _ _ rfl) rfl rfl rfl rfl ?_
    refine .len (.no rfl) rfl (z := (d.flags.length : Int)) t24 rfl rfl rfl (.d _ _) (map_len _ _) rfl ?_
    refine .conv (.no rfl) rfl t3 t128 rfl rfl rfl rfl (wrap_u64 (by omega) (by omega)) rfl ?_
    refine .shl (.no rfl) rfl rfl rfl rfl (by omega) rfl rfl ?_
    refine .assign (.no rfl) rfl rfl rfl rfl ?_
    exact .fin () (.of (.cons rfl .nil) .nil)
  intro _
  refine .ret ?_
  have e7 : (IntKind.wrap .i64 (1 * 2 ^ (min ((d.flags.length : Int)).toNat (IntKind.bits .i64)))) = (leavesOf d) := by rfl
  have hc8 := eq1 (fun z1 => SV.one (.d (.v (.int .i64 (z1))))) e7
  show _ ∧ _
  exact ⟨.inr rfl, .done ⟨_, [], [], _, .one (c := .d (.v (.int .i64 (leavesOf d)))) (hc8) .nil, .cons (Reads.d _).gives .nil, nodupB_ok rfl, by simp, (by simp)⟩⟩
theorem c_leaves (d : Decl) : Trip Tryd.prog 122 [(true, 3)] (Decl.c27 d) [(false, 1)] [.v (.int .i64 (leavesOf d))] [] := by
  refine Trip.of Tryd.func122 (by decide) (c := _) rfl rfl (shB_ok rfl) (Nat.le_of_ble_eq_true rfl) rfl (AftOk.nil _) ?_
  refine .satA (t := 0) (i := 0) rfl rfl (fun hs1 => ?_)
  have hs1l : d.vars.length ≤ 9223372036854775807 := hs1.maplen
  refine .satA (t := 0) (i := 1) rfl rfl (fun hs2 => ?_)
  have hs2l : d.flags.length ≤ 9223372036854775807 := hs2.maplen
  refine .satA (t := 0) (i := 2) rfl rfl (fun hs3 => ?_)
  have hs3l : d.arrays.length ≤ 9223372036854775807 := hs3.maplen
  refine .seq ?_
  refine .reg (X := Nat) (fun ζ => .of [(1, .one (.ptr [1] (ζ) 0))] [([1], (ζ, ζ, .box [.d (.sl false 9 1 (List.map strc (d.vars))), .d (.sl false 9 1 (List.map strc (d.flags))), .d (.sl false 101 2 (List.map Arr.c (d.arrays)))]))]) [⟨[0], some 1, [], [[1]]⟩, ⟨[], some 2, [], []⟩] (fun k4 => ?_) ?_
  · skip
    refine .box (.no rfl) rfl rfl rfl rfl rfl ?_
    refine .assign (.no rfl) rfl rfl rfl rfl ?_
    exact .fin k4 (.of (.cons rfl .nil) (.cons rfl .nil))
  intro g5
  refine .seq ?_
  refine .reg (X := Unit) (fun ζ => .of [(2, .one (.d (.v (.int .i64 (IntKind.wrap .i64 (1 * 2 ^ (min ((d.flags.length : Int)).toNat (IntKind.bits .i64))))))))] []) [⟨[1], some 3, [], []⟩, ⟨[3], some 4, [[1]], []⟩, ⟨[4], some 5, [], []⟩, ⟨[5], some 6, [], []⟩, ⟨[6], some 2, [], []⟩] (fun k6 => ?_) ?_
  · skip
    refine .fieldAddrP (.no rfl) rfl t27 rfl rfl t24 rfl rfl rfl rfl ?_
    refine .load (.no rfl) rfl t24 rfl rfl (.ptr _ _ _ _ _ rfl) rfl rfl rfl rfl ?_
    refine .len (.no rfl) rfl (z := (d.flags.length : Int)) t24 rfl rfl rfl (.d _ _) (map_len _ _) rfl ?_
    refine .shl (.no rfl) rfl rfl rfl rfl (by omega) rfl rfl ?_
    refine .assign (.no rfl) rfl rfl rfl rfl ?_
    exact .fin () (.of (.cons rfl .nil) .nil)
  intro _
  refine .ret ?_
  have e7 : (IntKind.wrap .i64 (1 * 2 ^ (min ((d.flags.length : Int)).toNat (IntKind.bits .i64)))) = (leavesOf d) := by rfl
  have hc8 := eq1 (fun z1 => SV.one (.d (.v (.int .i64 (z1))))) e7
  show _ ∧ _
  exact ⟨.inr rfl, .done ⟨_, [], [], _, .one (c := .d (.v (.int .i64 (leavesOf d)))) (hc8) .nil, .cons (Reads.d _).gives .nil, nodupB_ok rfl, by simp, (by simp)⟩⟩
theorem c_sizeE (l : List Env) : Trip Tryd.prog 121 [(false, 1)] ([.sl false 30 3 (List.map Env.c30 (l))]) [(false, 1)] [.v (.int .i64 ((l.length : Int)))] [] := by
  refine Trip.of Tryd.func121 (by decide) (c := _) rfl rfl (shB_ok rfl) (Nat.le_of_ble_eq_true rfl) rfl (AftOk.nil _) ?_
  refine .sat (t := 0) rfl (fun hs1 => ?_)
  have hs1l : l.length ≤ 9223372036854775807 := hs1.maplen
  refine .seq ?_
  refine .reg (X := Unit) (fun ζ => .of [(0, .one (.d (.sl false 30 3 (List.map Env.c30 (l)))))] []) [⟨[], some 2, [], []⟩] (fun k2 => ?_) ?_
  · skip
    refine .assign (.no rfl) rfl rfl rfl rfl ?_
    exact .fin () (.of (.cons rfl .nil) .nil)
  intro _
  refine .seq ?_
  refine .reg (X := Unit) (fun ζ => .of [(2, .one (.d (.v (.int .i64 ((l.length : Int))))))] []) [⟨[0], some 3, [], []⟩, ⟨[3], some 4, [], []⟩, ⟨[4], some 2, [], []⟩] (fun k3 => ?_) ?_
  · skip
    refine .move (.no rfl) rfl rfl rfl rfl ?_
    refine .len (.no rfl) rfl (z := (l.length : Int)) t47 rfl rfl rfl (.d _ _) (map_len _ _) rfl ?_
    refine .assign (.no rfl) rfl rfl rfl rfl ?_
    exact .fin () (.of (.cons rfl .nil) .nil)
  intro _
  refine .ret ?_
  show _ ∧ _
  exact ⟨.inr rfl, .done ⟨_, [], [], _, .one rfl .nil, .cons (Reads.d _).gives .nil, nodupB_ok rfl, by simp, (by simp)⟩⟩
theorem c_IndexFuncE (l : List Env) (F_p : FuncId) (first_p : List (Bool × List D)) (caps_p : List D) (p : Env → Bool) (h_p : ∀ (x0 : Env), FnTrip Tryd.prog F_p first_p caps_p [(true, 3)] (Env.c30 x0) [(false, 1)] [.v (.bool (p x0))]) : Trip Tryd.prog 135 [(false, 1), (false, 1)] ([.sl false 30 3 (List.map Env.c30 (l))] ++ [.fn F_p first_p caps_p]) [(false, 1)] [.v (.int .i64 (idx p l))] [] := by
  refine Trip.of Tryd.func135 (by decide) (c := _) rfl rfl (shB_ok rfl) (Nat.le_of_ble_eq_true rfl) rfl (AftOk.nil _) ?_
  refine .sat (t := 0) rfl (fun hs1 => ?_)
  have hs1l : l.length ≤ 9223372036854775807 := hs1.maplen
  refine .seq ?_
  refine .reg (X := Unit) (fun ζ => .of [(0, .one (.d (.sl false 30 3 (List.map Env.c30 (l))))), (1, .one (.d (.fn F_p first_p caps_p)))] []) [⟨[], some 4, [], []⟩] (fun k2 => ?_) ?_
  · skip
    refine .assign (.no rfl) rfl rfl rfl rfl ?_
    exact .fin () (.of (.cons rfl (.cons rfl .nil)) .nil)
  intro _
  refine .seq ?_
  refine .seq ?_
  refine .reg (X := Unit) (fun ζ => .of [(0, .one (.d (.sl false 30 3 (List.map Env.c30 (l))))), (1, .one (.d (.fn F_p first_p caps_p))), (7, .one (.d (.v (.int .i64 ((l.length : Int)))))), (8, .one (.d (.v (.int .i64 (0)))))] []) [⟨[0], some 6, [], []⟩, ⟨[6], some 7, [], []⟩, ⟨[], some 8, [], []⟩] (fun k3 => ?_) ?_
  · skip
    refine .move (.no rfl) rfl rfl rfl rfl ?_
    refine .len (.no rfl) rfl (z := (l.length : Int)) t47 rfl rfl rfl (.d _ _) (map_len _ _) rfl ?_
    refine .move (.no rfl) rfl rfl rfl rfl ?_
    exact .fin () (.of (.cons rfl (.cons rfl (.cons rfl (.cons rfl .nil)))) .nil)
  intro _
  refine .block ?_
  refine .loop (X := Nat) (fun ζ => .of [(0, .one (.d (.sl false 30 3 (List.map Env.c30 (l))))), (1, .one (.d (.fn F_p first_p caps_p))), (7, .one (.d (.v (.int .i64 ((l.length : Int)))))), (8, .one (.d (.v (.int .i64 ((ζ : Int))))))] []) (fun ζ => ζ ≤ l.length ∧ allTo ζ (fun i => !p (l.getD i default)) = true) (fun ζ => l.length - ζ) ?_ ?_
  · skip
    exact .here 0 (.of (.cons rfl (.cons rfl (.cons rfl (.cons (svI (show (0) = ((0 : Int)) by first | rfl | omega | exact wrap_le (by omega) (by omega) | (rw [wrap_le (by omega) (by omega)]; omega))) .nil)))) .nil) (show 0 ≤ l.length ∧ allTo 0 (fun i => !p (l.getD i default)) = true by exact ⟨by omega, rfl⟩)
  · rintro j hI
    have hI : j ≤ l.length ∧ allTo j (fun i => !p (l.getD i default)) = true := hI
    refine .seq ?_
    refine .reg (X := Unit) (fun ζ => .of [(0, .one (.d (.sl false 30 3 (List.map Env.c30 (l))))), (1, .one (.d (.fn F_p first_p caps_p))), (7, .one (.d (.v (.int .i64 ((l.length : Int)))))), (8, .one (.d (.v (.int .i64 ((j : Int)))))), (9, .one (.d (.v (.bool (decide ((j : Int) < (l.length : Int)))))))] []) [⟨[8, 7], some 9, [], []⟩] (fun k4 => ?_) ?_
    · skip
      refine .bin (.no rfl) rfl rfl rfl rfl rfl rfl ?_
      exact .fin () (.of (.cons rfl (.cons rfl (.cons rfl (.cons rfl (.cons rfl .nil))))) .nil)
    intro _
    refine .seq ?_
    refine .cond (t := decide ((j : Int) < (l.length : Int))) rfl (fun c0 => ?_) (fun c0 => ?_)
    · have c0 := of_decide_eq_true c0
      refine .skip ?_
      refine .seq ?_
      refine .block ?_
      refine .seq ?_
      refine .reg (X := Unit) (fun ζ => .of [(0, .one (.d (.sl false 30 3 (List.map Env.c30 (l))))), (1, .one (.d (.fn F_p first_p caps_p))), (5, .one (.d (.v (.int .i64 ((j : Int)))))), (7, .one (.d (.v (.int .i64 ((l.length : Int)))))), (8, .one (.d (.v (.int .i64 ((j : Int))))))] []) [⟨[8], some 10, [], []⟩, ⟨[10], some 5, [], []⟩] (fun k5 => ?_) ?_
      · skip
        refine .move (.no rfl) rfl rfl rfl rfl ?_
        refine .assign (.no rfl) rfl rfl rfl rfl ?_
        exact .fin () (.of (.cons rfl (.cons rfl (.cons rfl (.cons rfl (.cons rfl .nil))))) .nil)
      intro _
      refine .seq ?_
      refine .reg (X := Unit) (fun ζ => .of [(0, .one (.d (.sl false 30 3 (List.map Env.c30 (l))))), (1, .one (.d (.fn F_p first_p caps_p))), (5, .one (.d (.v (.int .i64 ((j : Int)))))), (7, .one (.d (.v (.int .i64 ((l.length : Int)))))), (8, .one (.d (.v (.int .i64 ((j : Int)))))), (16, .one (.d (.v (.bool (p (l.getD j default))))))] []) [⟨[1], some 11, [], []⟩, ⟨[0], some 12, [], []⟩, ⟨[5], some 13, [], []⟩, ⟨[12, 13], some 14, [], []⟩, ⟨[14], some 15, [], []⟩, ⟨[11, 15], some 16, [], []⟩] (fun k6 => ?_) ?_
      · skip
        refine .move (.no rfl) rfl rfl rfl rfl ?_
        refine .move (.no rfl) rfl rfl rfl rfl ?_
        refine .move (.no rfl) rfl rfl rfl rfl ?_
        refine .indexAddr (.no rfl) rfl (j) t47 rfl t30 rfl rfl rfl (.d _ _) rfl rfl rfl (map_get (by omega)) rfl rfl ?_
        refine .load (.no rfl) rfl t30 rfl rfl (.d _) rfl rfl rfl rfl ?_
        refine .callF (.no rfl) rfl (ds := [.v (.bool ((l.getD j default).live)), .sl false 60 2 (List.map Iv.c ((l.getD j default).ints)), .sl false 60 2 (List.map Iv.c ((l.getD j default).arrs))]) (h_p (l.getD j default)) rfl rfl rfl rfl (.own [16, 0] .nil) rfl rfl rfl rfl rfl rfl ?_
        exact .fin () (.of (.cons rfl (.cons rfl (.cons rfl (.cons rfl (.cons rfl (.cons rfl .nil)))))) .nil)
      intro _
      refine .cond (t := p (l.getD j default)) rfl (fun c1 => ?_) (fun c1 => ?_)
      · have c1 := c1
        refine .seq ?_
        refine .reg (X := Unit) (fun ζ => .of [(4, .one (.d (.v (.int .i64 ((j : Int))))))] []) [⟨[5], some 17, [], []⟩, ⟨[17], some 4, [], []⟩] (fun k7 => ?_) ?_
        · skip
          refine .move (.no rfl) rfl rfl rfl rfl ?_
          refine .assign (.no rfl) rfl rfl rfl rfl ?_
          exact .fin () (.of (.cons rfl .nil) .nil)
        intro _
        refine .ret ?_
        have e8 : ((j : Int)) = (idx p l) := by exact (idx_found (j := j) (by omega) hI.2 (by simpa using c1)).symm
        have hc9 := eq1 (fun z1 => SV.one (.d (.v (.int .i64 (z1))))) e8
        show _ ∧ _
        exact ⟨.inr rfl, .done ⟨_, [], [], _, .one (c := .d (.v (.int .i64 (idx p l)))) (hc9) .nil, .cons (Reads.d _).gives .nil, nodupB_ok rfl, by simp, (by simp)⟩⟩
      · have c1 := c1
        refine .skip ?_
        refine .reg (X := Unit) (fun ζ => .of [(0, .one (.d (.sl false 30 3 (List.map Env.c30 (l))))), (1, .one (.d (.fn F_p first_p caps_p))), (7, .one (.d (.v (.int .i64 ((l.length : Int)))))), (8, .one (.d (.v (.int .i64 (IntKind.wrap .i64 ((j : Int) + 1))))))] []) [⟨[8], some 18, [], []⟩, ⟨[18], some 8, [], []⟩] (fun k10 => ?_) ?_
        · skip
          refine .bin (.no rfl) rfl rfl rfl rfl rfl rfl ?_
          refine .move (.no rfl) rfl rfl rfl rfl ?_
          exact .fin () (.of (.cons rfl (.cons rfl (.cons rfl (.cons rfl .nil)))) .nil)
        intro _
        exact .here (j + 1) (.of (.cons rfl (.cons rfl (.cons rfl (.cons (svI (show (IntKind.wrap .i64 ((j : Int) + 1)) = (((j + 1) : Int)) by first | rfl | omega | exact wrap_le (by omega) (by omega) | (rw [wrap_le (by omega) (by omega)]; omega))) .nil)))) .nil) ⟨(show (j + 1) ≤ l.length ∧ allTo (j + 1) (fun i => !p (l.getD i default)) = true by exact ⟨by omega, allTo_step hI.2 (by simpa using c1)⟩), (show l.length - (j + 1) < l.length - j by omega)⟩
    · have c0 := of_decide_eq_false c0
      refine .exit ?_
      refine .seq ?_
      refine .reg (X := Unit) (fun ζ => .of [(4, .one (.d (.v (.int .i64 (-1)))))] []) [⟨[], some 4, [], []⟩] (fun k11 => ?_) ?_
      · skip
        refine .assign (.no rfl) rfl rfl rfl rfl ?_
        exact .fin () (.of (.cons rfl .nil) .nil)
      intro _
      refine .ret ?_
      have e12 : (-1) = (idx p l) := by exact (idx_none (by omega) hI.2).symm
      have hc13 := eq1 (fun z1 => SV.one (.d (.v (.int .i64 (z1))))) e12
      show _ ∧ _
      exact ⟨.inr rfl, .done ⟨_, [], [], _, .one (c := .d (.v (.int .i64 (idx p l)))) (hc13) .nil, .cons (Reads.d _).gives .nil, nodupB_ok rfl, by simp, (by simp)⟩⟩
theorem c_ContainsFuncE (l : List Env) (F_p : FuncId) (first_p : List (Bool × List D)) (caps_p : List D) (p : Env → Bool) (h_p : ∀ (x0 : Env), FnTrip Tryd.prog F_p first_p caps_p [(true, 3)] (Env.c30 x0) [(false, 1)] [.v (.bool (p x0))]) : Trip Tryd.prog 130 [(false, 1), (false, 1)] ([.sl false 30 3 (List.map Env.c30 (l))] ++ [.fn F_p first_p caps_p]) [(false, 1)] [.v (.bool (l.any p))] [] := by
  refine Trip.of Tryd.func130 (by decide) (c := _) rfl rfl (shB_ok rfl) (Nat.le_of_ble_eq_true rfl) rfl (AftOk.nil _) ?_
  refine .sat (t := 0) rfl (fun hs1 => ?_)
  have hs1l : l.length ≤ 9223372036854775807 := hs1.maplen
  refine .seq ?_
  refine .reg (X := Unit) (fun ζ => .of [(0, .one (.d (.sl false 30 3 (List.map Env.c30 (l))))), (1, .one (.d (.fn F_p first_p caps_p)))] []) [⟨[], some 4, [], []⟩] (fun k2 => ?_) ?_
  · skip
    refine .assign (.no rfl) rfl rfl rfl rfl ?_
    exact .fin () (.of (.cons rfl (.cons rfl .nil)) .nil)
  intro _
  refine .seq ?_
  refine .reg (X := Unit) (fun ζ => .of [(4, .one (.d (.v (.bool (decide ((idx p l) ≥ 0))))))] []) [⟨[0], some 5, [], []⟩, ⟨[1], some 6, [], []⟩, ⟨[5, 6], some 7, [], []⟩, ⟨[7], some 8, [], []⟩, ⟨[8], some 4, [], []⟩] (fun k3 => ?_) ?_
  · skip
    refine .move (.no rfl) rfl rfl rfl rfl ?_
    refine .move (.no rfl) rfl rfl rfl rfl ?_
    refine .call (.no rfl) rfl [] [] (c_IndexFuncE l F_p first_p caps_p p h_p) rfl rfl rfl rfl rfl (.cons (Reads.d _).gives (.cons (Reads.d _).gives .nil)) rfl rfl (fun h => absurd rfl h) (.own [7, 0] .nil) (.nil) rfl rfl rfl (by simp) rfl rfl rfl ?_
    refine .bin (.no rfl) rfl rfl rfl rfl rfl rfl ?_
    refine .assign (.no rfl) rfl rfl rfl rfl ?_
    exact .fin () (.of (.cons rfl .nil) .nil)
  intro _
  refine .ret ?_
  have e4 : (decide ((idx p l) ≥ 0)) = (l.any p) := by exact idx_any _ _
  have hc5 := eq1 (fun z1 => SV.one (.d (.v (.bool (z1))))) e4
  show _ ∧ _
  exact ⟨.inr rfl, .done ⟨_, [], [], _, .one (c := .d (.v (.bool (l.any p)))) (hc5) .nil, .cons (Reads.d _).gives .nil, nodupB_ok rfl, by simp, (by simp)⟩⟩
theorem c_areAll1E (x : Env) (F_p : FuncId) (first_p : List (Bool × List D)) (caps_p : List D) (p : Env → Bool) (h_p : ∀ (x0 : Env), FnTrip Tryd.prog F_p first_p caps_p [(true, 3)] (Env.c30 x0) [(false, 1)] [.v (.bool (p x0))]) : Trip Tryd.prog 131 [(true, 3), (false, 1)] (Env.c30 x ++ [.pt false [.fn F_p first_p caps_p]]) [(false, 1)] [.v (.bool (!p x))] [] := by
  refine Trip.of Tryd.func131 (by decide) (c := _) rfl rfl (shB_ok rfl) (Nat.le_of_ble_eq_true rfl) rfl (AftOk.nil _) ?_
  refine .satA (t := 0) (i := 1) rfl rfl (fun hs1 => ?_)
  have hs1l : x.ints.length ≤ 9223372036854775807 := hs1.maplen
  refine .satA (t := 0) (i := 2) rfl rfl (fun hs2 => ?_)
  have hs2l : x.arrs.length ≤ 9223372036854775807 := hs2.maplen
  refine .seq ?_
  refine .reg (X := Nat) (fun ζ => .of [(1, .one (.d (.pt false [.fn F_p first_p caps_p]))), (2, .one (.ptr [2] (ζ) 0))] [([2], (ζ, ζ, .box [.d (.v (.bool (x.live))), .d (.sl false 60 2 (List.map Iv.c (x.ints))), .d (.sl false 60 2 (List.map Iv.c (x.arrs)))]))]) [⟨[0], some 2, [], [[2]]⟩, ⟨[], some 3, [], []⟩] (fun k3 => ?_) ?_
  · skip
    refine .box (.no rfl) rfl rfl rfl rfl rfl ?_
    refine .assign (.no rfl) rfl rfl rfl rfl ?_
    exact .fin k3 (.of (.cons rfl (.cons rfl .nil)) (.cons rfl .nil))
  intro g4
  refine .seq ?_
  refine .reg (X := Unit) (fun ζ => .of [(3, .one (.d (.v (.bool (!(p x))))))] []) [⟨[1], some 4, [], []⟩, ⟨[2], some 5, [[2]], []⟩, ⟨[4, 5], some 6, [], []⟩, ⟨[6], some 7, [], []⟩, ⟨[7], some 3, [], []⟩] (fun k5 => ?_) ?_
  · skip
    refine .load (.no rfl) rfl t82 rfl rfl (.d _) rfl rfl rfl rfl ?_
    refine .load (.no rfl) rfl t30 rfl rfl (.ptr _ _ _ _ _ rfl) rfl rfl rfl rfl ?_
    refine .callF (.no rfl) rfl (ds := [.v (.bool (x.live)), .sl false 60 2 (List.map Iv.c (x.ints)), .sl false 60 2 (List.map Iv.c (x.arrs))]) (h_p x) rfl rfl rfl rfl (.own [6, 0] .nil) rfl rfl rfl rfl rfl rfl ?_
    refine .un (.no rfl) rfl rfl rfl rfl rfl ?_
    refine .assign (.no rfl) rfl rfl rfl rfl ?_
    exact .fin () (.of (.cons rfl .nil) .nil)
  intro _
  refine .ret ?_
  have e6 : (!(p x)) = (!p x) := by rfl
  have hc7 := eq1 (fun z1 => SV.one (.d (.v (.bool (z1))))) e6
  show _ ∧ _
  exact ⟨.inr rfl, .done ⟨_, [], [], _, .one (c := .d (.v (.bool (!p x)))) (hc7) .nil, .cons (Reads.d _).gives .nil, nodupB_ok rfl, by simp, (by simp)⟩⟩
theorem c_areAllE (l : List Env) (F_p : FuncId) (first_p : List (Bool × List D)) (caps_p : List D) (p : Env → Bool) (h_p : ∀ (x0 : Env), FnTrip Tryd.prog F_p first_p caps_p [(true, 3)] (Env.c30 x0) [(false, 1)] [.v (.bool (p x0))]) : Trip Tryd.prog 123 [(false, 1), (false, 1)] ([.sl false 30 3 (List.map Env.c30 (l))] ++ [.fn F_p first_p caps_p]) [(false, 1)] [.v (.bool (l.all p))] [] := by
  refine Trip.of Tryd.func123 (by decide) (c := _) rfl rfl (shB_ok rfl) (Nat.le_of_ble_eq_true rfl) rfl (AftOk.nil _) ?_
  refine .sat (t := 0) rfl (fun hs1 => ?_)
  have hs1l : l.length ≤ 9223372036854775807 := hs1.maplen
  refine .seq ?_
  refine .reg (X := Nat) (fun ζ => .of [(0, .one (.d (.sl false 30 3 (List.map Env.c30 (l))))), (3, .one (.ptr [3] (ζ) 0))] [([3], (ζ, ζ, .box [.d (.fn F_p first_p caps_p)]))]) [⟨[1], some 3, [], [[3]]⟩, ⟨[], some 4, [], []⟩] (fun k2 => ?_) ?_
  · skip
    refine .box (.no rfl) rfl rfl rfl rfl rfl ?_
    refine .assign (.no rfl) rfl rfl rfl rfl ?_
    exact .fin k2 (.of (.cons rfl (.cons rfl .nil)) (.cons rfl .nil))
  intro g3
  refine .seq ?_
  refine .reg (X := Unit) (fun ζ => .of [(4, .one (.d (.v (.bool (!(l.any (fun x0 => !p x0)))))))] []) [⟨[0], some 5, [], []⟩, ⟨[3], some 6, [], []⟩, ⟨[5, 6], some 7, [[3]], []⟩, ⟨[7], some 8, [], []⟩, ⟨[8], some 4, [], []⟩] (fun k4 => ?_) ?_
  · skip
    refine .move (.no rfl) rfl rfl rfl rfl ?_
    refine .makeFunc (.no rfl) rfl rfl rfl rfl rfl ?_
    refine .call (.no rfl) rfl [[3]] [([3], (g3, g3, .box [.d (.fn F_p first_p caps_p)]))] (c_ContainsFuncE l 131 [] [.pt false [.fn F_p first_p caps_p]] (fun x0 => !p x0) (fun x0 => c_areAll1E x0 F_p first_p caps_p p h_p)) rfl rfl rfl rfl rfl (.cons (Reads.d _).gives (.cons (Reads.clo0 (.cons (Reads.ptr0 (.head _) (.head _) (.cons (Reads.d _) .nil)) .nil)).gives .nil)) rfl rfl (fun _ => (ownCons (Owned.v _) ownNil)) (.own [7, 0] .nil) (.nil) rfl rfl rfl (AllH.get (.cons rfl .nil)) rfl rfl rfl ?_
    refine .un (.no rfl) rfl rfl rfl rfl rfl ?_
    refine .assign (.no rfl) rfl rfl rfl rfl ?_
    exact .fin () (.of (.cons rfl .nil) .nil)
  intro _
  refine .ret ?_
  have e5 : (!(l.any (fun x0 => !p x0))) = (l.all p) := by exact not_any _ _
  have hc6 := eq1 (fun z1 => SV.one (.d (.v (.bool (z1))))) e5
  show _ ∧ _
  exact ⟨.inr rfl, .done ⟨_, [], [], _, .one (c := .d (.v (.bool (l.all p)))) (hc6) .nil, .cons (Reads.d _).gives .nil, nodupB_ok rfl, by simp, (by simp)⟩⟩
end Go.Proofs

namespace Go.Proofs
open Go Go.Proofs Go.Ev

theorem c_sTableOk (d : Decl) (t : List Env) (hs : ∀ x ∈ Decl.names d, x.size ≤ 9223372036854775807) (hd : d.vars.length ≤ 1048576 ∧ d.flags.length ≤ 1048576 ∧ d.arrays.length ≤ 1048576) (hx : ∀ x ∈ t, x.ints.length ≤ 1048576 ∧ x.arrs.length ≤ 1048576) : Trip Tryd.prog 61 [(true, 3), (false, 1)] (Decl.c27 d ++ [.sl false 30 3 (List.map Env.c30 (t))]) [(false, 1)] [.v (.bool (Table.ok d t))] [] := by
  refine Trip.of Tryd.func61 (by decide) (c := _) rfl rfl (shB_ok rfl) (Nat.le_of_ble_eq_true rfl) rfl (AftOk.nil _) ?_
  refine .satA (t := 0) (i := 0) rfl rfl (fun hs1 => ?_)
  have hs1l : d.vars.length ≤ 9223372036854775807 := hs1.maplen
  refine .satA (t := 0) (i := 1) rfl rfl (fun hs2 => ?_)
  have hs2l : d.flags.length ≤ 9223372036854775807 := hs2.maplen
  refine .satA (t := 0) (i := 2) rfl rfl (fun hs3 => ?_)
  have hs3l : d.arrays.length ≤ 9223372036854775807 := hs3.maplen
  refine .sat (t := 1) rfl (fun hs4 => ?_)
  have hs4l : t.length ≤ 9223372036854775807 := hs4.maplen
  refine .seq ?_
  refine .reg (X := Nat) (fun ζ => .of [(1, .one (.d (.sl false 30 3 (List.map Env.c30 (t))))), (2, .one (.ptr [2] (ζ) 0))] [([2], (ζ, ζ, .box [.d (.sl false 9 1 (List.map strc (d.vars))), .d (.sl false 9 1 (List.map strc (d.flags))), .d (.sl false 101 2 (List.map Arr.c (d.arrays)))]))]) [⟨[0], some 2, [], [[2]]⟩, ⟨[], some 4, [], []⟩] (fun k5 => ?_) ?_
  · skip
    refine .box (.no rfl) rfl rfl rfl rfl rfl ?_
    refine .assign (.no rfl) rfl rfl rfl rfl ?_
    exact .fin k5 (.of (.cons rfl (.cons rfl .nil)) (.cons rfl .nil))
  intro g6
  refine .seq ?_
  refine .seq ?_
  refine .reg (X := Unit) (fun ζ => .of [(1, .one (.d (.sl false 30 3 (List.map Env.c30 (t))))), (2, .one (.ptr [2] (g6) 0)), (15, .one (.d (.v (.bool ((!(Decl.ok d) || (t.length : Int) != (leavesOf d)))))))] [([2], (g6, g6, .box [.d (.sl false 9 1 (List.map strc (d.vars))), .d (.sl false 9 1 (List.map strc (d.flags))), .d (.sl false 101 2 (List.map Arr.c (d.arrays)))]))]) [⟨[2], some 6, [[2]], []⟩, ⟨[6], some 7, [], []⟩, ⟨[7], some 8, [], []⟩, ⟨[8], some 9, [], []⟩, ⟨[9, 1], some 10, [], []⟩, ⟨[9, 10], some 11, [], []⟩, ⟨[9, 2], some 12, [[2]], []⟩, ⟨[9, 12], some 13, [], []⟩, ⟨[9, 11, 13], some 14, [], []⟩, ⟨[9, 14], some 15, [], []⟩] (fun k7 => ?_) ?_
  · skip
    refine .load (.no rfl) rfl t27 rfl rfl (.ptr _ _ _ _ _ rfl) rfl rfl rfl rfl ?_
    refine .call (.no rfl) rfl [] [] (c_sDeclOk d (by first | assumption | exact hx _ (getD_mem (by omega))) (by first | assumption | exact hx _ (getD_mem (by omega)))) rfl rfl rfl rfl rfl (.cons (Reads.d _).gives (.cons (Reads.d _).gives (.cons (Reads.d _).gives .nil))) rfl rfl (fun h => absurd rfl h) (.own [7, 0] .nil) (.nil) rfl rfl rfl (by simp) rfl rfl rfl ?_
    refine .un (.no rfl) rfl rfl rfl rfl rfl ?_
    refine .moveB (.no rfl) rfl rfl rfl rfl fun b8 g1_3 => ?_
    cases b8
    · skip
      refine .move (.on rfl rfl rfl rfl rfl) rfl rfl rfl rfl ?_
      refine .len (.on rfl rfl rfl rfl rfl) rfl (z := (t.length : Int)) t47 rfl rfl rfl (.d _ _) (map_len _ _) rfl ?_
      refine .load (.on rfl rfl rfl rfl rfl) rfl t27 rfl rfl (.ptr _ _ _ _ _ rfl) rfl rfl rfl rfl ?_
      refine .call (.on rfl rfl rfl rfl rfl) rfl [] [] (c_l8Size d) rfl rfl rfl rfl rfl (.cons (Reads.d _).gives (.cons (Reads.d _).gives (.cons (Reads.d _).gives .nil))) rfl rfl (fun h => absurd rfl h) (.own [13, 0] .nil) (.nil) rfl rfl rfl (by simp) rfl rfl rfl ?_
      refine .bin (.on rfl rfl rfl rfl rfl) rfl rfl rfl rfl rfl rfl ?_
      refine .pick (.no rfl) rfl rfl rfl rfl rfl ?_
      exact .fin () (.of (.cons rfl (.cons rfl (.cons (svB (show ((t.length : Int) != (leavesOf d)) = ((!(Decl.ok d) || (t.length : Int) != (leavesOf d))) by first | (simp only [g1_3, Bool.true_or, Bool.false_or, Bool.true_and, Bool.false_and, Bool.not_true, Bool.not_false]; done) | simp [g1_3])) .nil))) (.cons rfl .nil))
    · skip
      refine .off rfl rfl rfl rfl rfl rfl rfl ?_
      refine .off rfl rfl rfl rfl rfl rfl rfl ?_
      refine .off rfl rfl rfl rfl rfl rfl rfl ?_
      refine .off rfl rfl rfl rfl rfl rfl rfl ?_
      refine .off rfl rfl rfl rfl rfl rfl rfl ?_
      refine .pick (.no rfl) rfl rfl rfl rfl rfl ?_
      exact .fin () (.of (.cons rfl (.cons rfl (.cons (svB (show (true) = ((!(Decl.ok d) || (t.length : Int) != (leavesOf d))) by first | (simp only [g1_3, Bool.true_or, Bool.false_or, Bool.true_and, Bool.false_and, Bool.not_true, Bool.not_false]; done) | simp [g1_3])) .nil))) (.cons rfl .nil))
  intro _
  refine .cond (t := (!(Decl.ok d) || (t.length : Int) != (leavesOf d))) rfl (fun c0 => ?_) (fun c0 => ?_)
  · have c0 := c0
    try simp only [Bool.or_eq_true, Bool.or_eq_false_iff, Bool.and_eq_true, Bool.and_eq_false_iff, decide_eq_true_eq, decide_eq_false_iff_not, Bool.not_eq_true', Bool.not_eq_false', bne_iff_ne, beq_iff_eq, bne_eq_false_iff_eq, beq_eq_false_iff_ne, ne_eq, Bool.not_eq_eq_eq_not, Bool.not_true, Bool.not_false] at c0
    refine .seq ?_
    refine .reg (X := Unit) (fun ζ => .of [(4, .one (.d (.v (.bool (false)))))] []) [⟨[], some 4, [], []⟩] (fun k9 => ?_) ?_
    · skip
      refine .assign (.no rfl) rfl rfl rfl rfl ?_
      exact .fin () (.of (.cons rfl .nil) .nil)
    intro _
    refine .ret ?_
    have e10 : (false) = (Table.ok d t) := by (unfold Table.ok Table.isIn; rcases c0 with h | h <;> simp [h])
    have hc11 := eq1 (fun z1 => SV.one (.d (.v (.bool (z1))))) e10
    show _ ∧ _
    exact ⟨.inr rfl, .done ⟨_, [], [], _, .one (c := .d (.v (.bool (Table.ok d t)))) (hc11) .nil, .cons (Reads.d _).gives .nil, nodupB_ok rfl, by simp, (by simp)⟩⟩
  · have c0 := c0
    try simp only [Bool.or_eq_true, Bool.or_eq_false_iff, Bool.and_eq_true, Bool.and_eq_false_iff, decide_eq_true_eq, decide_eq_false_iff_not, Bool.not_eq_true', Bool.not_eq_false', bne_iff_ne, beq_iff_eq, bne_eq_false_iff_eq, beq_eq_false_iff_ne, ne_eq, Bool.not_eq_eq_eq_not, Bool.not_true, Bool.not_false] at c0
    refine .skip ?_
    refine .seq ?_
    refine .seq ?_
    refine .reg (X := Unit) (fun ζ => .of [(1, .one (.d (.sl false 30 3 (List.map Env.c30 (t))))), (2, .one (.ptr [2] (g6) 0)), (5, .one (.d (.v (.int .i64 (0)))))] [([2], (g6, g6, .box [.d (.sl false 9 1 (List.map strc (d.vars))), .d (.sl false 9 1 (List.map strc (d.flags))), .d (.sl false 101 2 (List.map Arr.c (d.arrays)))]))]) [⟨[], some 5, [], []⟩] (fun k12 => ?_) ?_
    · skip
      refine .assign (.no rfl) rfl rfl rfl rfl ?_
      exact .fin () (.of (.cons rfl (.cons rfl (.cons rfl .nil))) (.cons rfl .nil))
    intro _
    refine .block ?_
    refine .loop (X := Nat) (fun ζ => .of [(1, .one (.d (.sl false 30 3 (List.map Env.c30 (t))))), (2, .one (.ptr [2] (g6) 0)), (5, .one (.d (.v (.int .i64 ((ζ : Int))))))] [([2], (g6, g6, .box [.d (.sl false 9 1 (List.map strc (d.vars))), .d (.sl false 9 1 (List.map strc (d.flags))), .d (.sl false 101 2 (List.map Arr.c (d.arrays)))]))]) (fun ζ => ζ ≤ t.length ∧ allTo ζ (fun i => Env.okIn d (t.getD i default)) = true) (fun ζ => t.length - ζ) ?_ ?_
    · skip
      exact .here 0 (.of (.cons rfl (.cons rfl (.cons (svI (show (0) = ((0 : Int)) by first | rfl | omega | exact wrap_le (by omega) (by omega) | (rw [wrap_le (by omega) (by omega)]; omega))) .nil))) (.cons rfl .nil)) (show 0 ≤ t.length ∧ allTo 0 (fun i => Env.okIn d (t.getD i default)) = true by exact ⟨by omega, rfl⟩)
    · rintro j hI
      have hI : j ≤ t.length ∧ allTo j (fun i => Env.okIn d (t.getD i default)) = true := hI
      refine .seq ?_
      refine .seq ?_
      refine .reg (X := Unit) (fun ζ => .of [(1, .one (.d (.sl false 30 3 (List.map Env.c30 (t))))), (2, .one (.ptr [2] (g6) 0)), (5, .one (.d (.v (.int .i64 ((j : Int)))))), (19, .one (.d (.v (.bool (decide ((j : Int) < (t.length : Int)))))))] [([2], (g6, g6, .box [.d (.sl false 9 1 (List.map strc (d.vars))), .d (.sl false 9 1 (List.map strc (d.flags))), .d (.sl false 101 2 (List.map Arr.c (d.arrays)))]))]) [⟨[5], some 16, [], []⟩, ⟨[1], some 17, [], []⟩, ⟨[17], some 18, [], []⟩, ⟨[16, 18], some 19, [], []⟩] (fun k13 => ?_) ?_
      · skip
        refine .move (.no rfl) rfl rfl rfl rfl ?_
        refine .move (.no rfl) rfl rfl rfl rfl ?_
        refine .len (.no rfl) rfl (z := (t.length : Int)) t47 rfl rfl rfl (.d _ _) (map_len _ _) rfl ?_
        refine .bin (.no rfl) rfl rfl rfl rfl rfl rfl ?_
        exact .fin () (.of (.cons rfl (.cons rfl (.cons rfl (.cons rfl .nil)))) (.cons rfl .nil))
      intro _
      refine .cond (t := decide ((j : Int) < (t.length : Int))) rfl (fun c1 => ?_) (fun c1 => ?_)
      · have c1 := of_decide_eq_true c1
        refine .skip ?_
        refine .seq ?_
        refine .block ?_
        refine .seq ?_
        refine .regD (X := Unit) (by kernel_rfl) (fun ζ => .of [(1, .one (.d (.sl false 30 3 (List.map Env.c30 (t))))), (2, .one (.ptr [2] (g6) 0)), (5, .one (.d (.v (.int .i64 ((j : Int)))))), (28, .one (.d (.v (.bool (!(Decl.ok d && Env.okIn d (t.getD j default)))))))] [([2], (g6, g6, .box [.d (.sl false 9 1 (List.map strc (d.vars))), .d (.sl false 9 1 (List.map strc (d.flags))), .d (.sl false 101 2 (List.map Arr.c (d.arrays)))]))]) [⟨[2], some 22, [[2]], []⟩, ⟨[1], some 23, [], []⟩, ⟨[5], some 24, [], []⟩, ⟨[23, 24], some 25, [], []⟩, ⟨[25], some 26, [], []⟩, ⟨[22, 26], some 27, [], []⟩, ⟨[27], some 28, [], []⟩] (by kernel_rfl) (fun k14 => ?_) ?_
        · skip
          refine .load (.no rfl) rfl t27 rfl rfl (.ptr _ _ _ _ _ rfl) rfl rfl rfl rfl ?_
          refine .move (.no rfl) rfl rfl rfl rfl ?_
          refine .move (.no rfl) rfl rfl rfl rfl ?_
          refine .indexAddr (.no rfl) rfl (j) t47 rfl t30 rfl rfl rfl (.d _ _) rfl rfl rfl (map_get (by omega)) rfl rfl ?_
          refine .load (.no rfl) rfl t30 rfl rfl (.d _) rfl rfl rfl rfl ?_
          refine .call (.no rfl) rfl [] [] (c_sEnvOk d (t.getD j default) (by first | assumption | exact hx _ (getD_mem (by omega))) (by first | assumption | exact hx _ (getD_mem (by omega))) (by first | assumption | exact hx _ (getD_mem (by omega)))) rfl rfl rfl rfl rfl (.cons (Reads.d _).gives (.cons (Reads.d _).gives (.cons (Reads.d _).gives (.cons (Reads.d _).gives (.cons (Reads.d _).gives (.cons (Reads.d _).gives .nil)))))) rfl rfl (fun h => absurd rfl h) (.own [27, 0] .nil) (.nil) rfl rfl rfl (by simp) rfl rfl rfl ?_
          refine .un (.no rfl) rfl rfl rfl rfl rfl ?_
          exact .fin () (.of (.cons rfl (.cons rfl (.cons rfl (.cons rfl .nil)))) (.cons rfl .nil))
        intro _
        refine .cond (t := !(Decl.ok d && Env.okIn d (t.getD j default))) rfl (fun c2 => ?_) (fun c2 => ?_)
        · have c2 := c2
          try simp only [Bool.or_eq_true, Bool.or_eq_false_iff, Bool.and_eq_true, Bool.and_eq_false_iff, decide_eq_true_eq, decide_eq_false_iff_not, Bool.not_eq_true', Bool.not_eq_false', bne_iff_ne, beq_iff_eq, bne_eq_false_iff_eq, beq_eq_false_iff_ne, ne_eq, Bool.not_eq_eq_eq_not, Bool.not_true, Bool.not_false] at c2
          refine .seq ?_
          refine .reg (X := Unit) (fun ζ => .of [(4, .one (.d (.v (.bool (false)))))] []) [⟨[], some 4, [], []⟩] (fun k15 => ?_) ?_
          · skip
            refine .assign (.no rfl) rfl rfl rfl rfl ?_
            exact .fin () (.of (.cons rfl .nil) .nil)
          intro _
          refine .ret ?_
          have e16 : (false) = (Table.ok d t) := by (unfold Table.ok Table.isIn; rw [all_none (p := Env.okIn d) (j := j) (by omega) (by rcases c2 with h | h <;> first | exact h | (rw [c0.1] at h; exact absurd h (by decide))), Bool.and_false, Bool.and_false])
          have hc17 := eq1 (fun z1 => SV.one (.d (.v (.bool (z1))))) e16
          show _ ∧ _
          exact ⟨.inr rfl, .done ⟨_, [], [], _, .one (c := .d (.v (.bool (Table.ok d t)))) (hc17) .nil, .cons (Reads.d _).gives .nil, nodupB_ok rfl, by simp, (by simp)⟩⟩
        · have c2 := c2
          try simp only [Bool.or_eq_true, Bool.or_eq_false_iff, Bool.and_eq_true, Bool.and_eq_false_iff, decide_eq_true_eq, decide_eq_false_iff_not, Bool.not_eq_true', Bool.not_eq_false', bne_iff_ne, beq_iff_eq, bne_eq_false_iff_eq, beq_eq_false_iff_ne, ne_eq, Bool.not_eq_eq_eq_not, Bool.not_true, Bool.not_false] at c2
          refine .skip ?_
          refine .reg (X := Unit) (fun ζ => .of [(1, .one (.d (.sl false 30 3 (List.map Env.c30 (t))))), (2, .one (.ptr [2] (g6) 0)), (5, .one (.d (.v (.int .i64 (IntKind.wrap .i64 ((j : Int) + 1))))))] [([2], (g6, g6, .box [.d (.sl false 9 1 (List.map strc (d.vars))), .d (.sl false 9 1 (List.map strc (d.flags))), .d (.sl false 101 2 (List.map Arr.c (d.arrays)))]))]) [⟨[5], some 20, [], []⟩, ⟨[20], some 21, [], []⟩, ⟨[21], some 5, [], []⟩] (fun k18 => ?_) ?_
          · skip
            refine .move (.no rfl) rfl rfl rfl rfl ?_
            refine .bin (.no rfl) rfl rfl rfl rfl rfl rfl ?_
            refine .assign (.no rfl) rfl rfl rfl rfl ?_
            exact .fin () (.of (.cons rfl (.cons rfl (.cons rfl .nil))) (.cons rfl .nil))
          intro _
          exact .here (j + 1) (.of (.cons rfl (.cons rfl (.cons (svI (show (IntKind.wrap .i64 ((j : Int) + 1)) = (((j + 1) : Int)) by first | rfl | omega | exact wrap_le (by omega) (by omega) | (rw [wrap_le (by omega) (by omega)]; omega))) .nil))) (.cons rfl .nil)) ⟨(show (j + 1) ≤ t.length ∧ allTo (j + 1) (fun i => Env.okIn d (t.getD i default)) = true by exact ⟨by omega, allTo_step hI.2 c2.2⟩), (show t.length - (j + 1) < t.length - j by omega)⟩
      · have c1 := of_decide_eq_false c1
        refine .exit ?_
        refine .seq ?_
        refine .reg (X := Unit) (fun ζ => .of [(4, .one (.d (.v (.bool (true)))))] []) [⟨[], some 4, [], []⟩] (fun k19 => ?_) ?_
        · skip
          refine .assign (.no rfl) rfl rfl rfl rfl ?_
          exact .fin () (.of (.cons rfl .nil) .nil)
        intro _
        refine .ret ?_
        have e20 : (true) = (Table.ok d t) := by (unfold Table.ok Table.isIn; rw [c0.1, all_done (p := Env.okIn d) (j := j) (by omega) hI.2]; simp [c0.2])
        have hc21 := eq1 (fun z1 => SV.one (.d (.v (.bool (z1))))) e20
        show _ ∧ _
        exact ⟨.inr rfl, .done ⟨_, [], [], _, .one (c := .d (.v (.bool (Table.ok d t)))) (hc21) .nil, .cons (Reads.d _).gives .nil, nodupB_ok rfl, by simp, (by simp)⟩⟩
end Go.Proofs

namespace Go.Proofs
open Go Go.Proofs Go.Ev

theorem c_sTableLeq (d : Decl) (a : List Env) (b : List Env) (hs : ∀ x ∈ Decl.names d, x.size ≤ 9223372036854775807) (hd : d.vars.length ≤ 1048576 ∧ d.flags.length ≤ 1048576 ∧ d.arrays.length ≤ 1048576) (hx : ∀ x ∈ a, x.ints.length ≤ 1048576 ∧ x.arrs.length ≤ 1048576) (hy : ∀ x ∈ b, x.ints.length ≤ 1048576 ∧ x.arrs.length ≤ 1048576) (hn : a.length ≤ 1048576) : Trip Tryd.prog 23 [(true, 3), (false, 1), (false, 1)] (Decl.c27 d ++ [.sl false 30 3 (List.map Env.c30 (a))] ++ [.sl false 30 3 (List.map Env.c30 (b))]) [(false, 1)] [.v (.bool (Table.leq d a b))] [] := by
  refine Trip.of Tryd.func23 (by decide) (c := _) rfl rfl (shB_ok rfl) (Nat.le_of_ble_eq_true rfl) rfl (AftOk.nil _) ?_
  refine .satA (t := 0) (i := 0) rfl rfl (fun hs1 => ?_)
  have hs1l : d.vars.length ≤ 9223372036854775807 := hs1.maplen
  refine .satA (t := 0) (i := 1) rfl rfl (fun hs2 => ?_)
  have hs2l : d.flags.length ≤ 9223372036854775807 := hs2.maplen
  refine .satA (t := 0) (i := 2) rfl rfl (fun hs3 => ?_)
  have hs3l : d.arrays.length ≤ 9223372036854775807 := hs3.maplen
  refine .sat (t := 1) rfl (fun hs4 => ?_)
  have hs4l : a.length ≤ 9223372036854775807 := hs4.maplen
  refine .sat (t := 2) rfl (fun hs5 => ?_)
  have hs5l : b.length ≤ 9223372036854775807 := hs5.maplen
  refine .seq ?_
  refine .reg (X := Nat) (fun ζ => .of [(1, .one (.d (.sl false 30 3 (List.map Env.c30 (a))))), (2, .one (.d (.sl false 30 3 (List.map Env.c30 (b))))), (3, .one (.ptr [3] (ζ) 0))] [([3], (ζ, ζ, .box [.d (.sl false 9 1 (List.map strc (d.vars))), .d (.sl false 9 1 (List.map strc (d.flags))), .d (.sl false 101 2 (List.map Arr.c (d.arrays)))]))]) [⟨[0], some 3, [], [[3]]⟩, ⟨[], some 6, [], []⟩] (fun k6 => ?_) ?_
  · skip
    refine .box (.no rfl) rfl rfl rfl rfl rfl ?_
    refine .assign (.no rfl) rfl rfl rfl rfl ?_
    exact .fin k6 (.of (.cons rfl (.cons rfl (.cons rfl .nil))) (.cons rfl .nil))
  intro g7
  refine .seq ?_
  refine .seq ?_
  refine .reg (X := Unit) (fun ζ => .of [(1, .one (.d (.sl false 30 3 (List.map Env.c30 (a))))), (2, .one (.d (.sl false 30 3 (List.map Env.c30 (b))))), (16, .one (.d (.v (.bool ((!(Table.ok d a) || !(Table.ok d b)))))))] []) [⟨[3], some 7, [[3]], []⟩, ⟨[1], some 8, [], []⟩, ⟨[7, 8], some 9, [], []⟩, ⟨[9], some 10, [], []⟩, ⟨[10], some 11, [], []⟩, ⟨[11, 3], some 12, [[3]], []⟩, ⟨[11, 2], some 13, [], []⟩, ⟨[11, 12, 13], some 14, [], []⟩, ⟨[11, 14], some 15, [], []⟩, ⟨[11, 15], some 16, [], []⟩] (fun k8 => ?_) ?_
  · skip
    refine .load (.no rfl) rfl t27 rfl rfl (.ptr _ _ _ _ _ rfl) rfl rfl rfl rfl ?_
    refine .move (.no rfl) rfl rfl rfl rfl ?_
    refine .call (.no rfl) rfl [] [] (c_sTableOk d a (by first | assumption | exact ⟨(Table.fit (Table.ok_in c0.1) (Table.ok_in c0.2)).1, hn⟩ | exact (Table.fit (Table.ok_in c0.1) (Table.ok_in c0.2)).2) (by first | assumption | exact ⟨(Table.fit (Table.ok_in c0.1) (Table.ok_in c0.2)).1, hn⟩ | exact (Table.fit (Table.ok_in c0.1) (Table.ok_in c0.2)).2) (by first | assumption | exact ⟨(Table.fit (Table.ok_in c0.1) (Table.ok_in c0.2)).1, hn⟩ | exact (Table.fit (Table.ok_in c0.1) (Table.ok_in c0.2)).2)) rfl rfl rfl rfl rfl (.cons (Reads.d _).gives (.cons (Reads.d _).gives (.cons (Reads.d _).gives (.cons (Reads.d _).gives .nil)))) rfl rfl (fun h => absurd rfl h) (.own [9, 0] .nil) (.nil) rfl rfl rfl (by simp) rfl rfl rfl ?_
    refine .un (.no rfl) rfl rfl rfl rfl rfl ?_
    refine .moveB (.no rfl) rfl rfl rfl rfl fun b9 g1_4 => ?_
    cases b9
    · skip
      refine .load (.on rfl rfl rfl rfl rfl) rfl t27 rfl rfl (.ptr _ _ _ _ _ rfl) rfl rfl rfl rfl ?_
      refine .move (.on rfl rfl rfl rfl rfl) rfl rfl rfl rfl ?_
      refine .call (.on rfl rfl rfl rfl rfl) rfl [] [] (c_sTableOk d b (by first | assumption | exact ⟨(Table.fit (Table.ok_in c0.1) (Table.ok_in c0.2)).1, hn⟩ | exact (Table.fit (Table.ok_in c0.1) (Table.ok_in c0.2)).2) (by first | assumption | exact ⟨(Table.fit (Table.ok_in c0.1) (Table.ok_in c0.2)).1, hn⟩ | exact (Table.fit (Table.ok_in c0.1) (Table.ok_in c0.2)).2) (by first | assumption | exact ⟨(Table.fit (Table.ok_in c0.1) (Table.ok_in c0.2)).1, hn⟩ | exact (Table.fit (Table.ok_in c0.1) (Table.ok_in c0.2)).2)) rfl rfl rfl rfl rfl (.cons (Reads.d _).gives (.cons (Reads.d _).gives (.cons (Reads.d _).gives (.cons (Reads.d _).gives .nil)))) rfl rfl (fun h => absurd rfl h) (.own [14, 0] .nil) (.nil) rfl rfl rfl (by simp) rfl rfl rfl ?_
      refine .un (.on rfl rfl rfl rfl rfl) rfl rfl rfl rfl rfl ?_
      refine .pick (.no rfl) rfl rfl rfl rfl rfl ?_
      exact .fin () (.of (.cons rfl (.cons rfl (.cons (svB (show (!(Table.ok d b)) = ((!(Table.ok d a) || !(Table.ok d b))) by first | (simp only [g1_4, Bool.true_or, Bool.false_or, Bool.true_and, Bool.false_and, Bool.not_true, Bool.not_false]; done) | simp [g1_4])) .nil))) .nil)
    · skip
      refine .off rfl rfl rfl rfl rfl rfl rfl ?_
      refine .off rfl rfl rfl rfl rfl rfl rfl ?_
      refine .off rfl rfl rfl rfl rfl rfl rfl ?_
      refine .off rfl rfl rfl rfl rfl rfl rfl ?_
      refine .pick (.no rfl) rfl rfl rfl rfl rfl ?_
      exact .fin () (.of (.cons rfl (.cons rfl (.cons (svB (show (true) = ((!(Table.ok d a) || !(Table.ok d b))) by first | (simp only [g1_4, Bool.true_or, Bool.false_or, Bool.true_and, Bool.false_and, Bool.not_true, Bool.not_false]; done) | simp [g1_4])) .nil))) .nil)
  intro _
  refine .cond (t := (!(Table.ok d a) || !(Table.ok d b))) rfl (fun c0 => ?_) (fun c0 => ?_)
  · have c0 := c0
    try simp only [Bool.or_eq_true, Bool.or_eq_false_iff, Bool.and_eq_true, Bool.and_eq_false_iff, decide_eq_true_eq, decide_eq_false_iff_not, Bool.not_eq_true', Bool.not_eq_false', bne_iff_ne, beq_iff_eq, bne_eq_false_iff_eq, beq_eq_false_iff_ne, ne_eq, Bool.not_eq_eq_eq_not, Bool.not_true, Bool.not_false] at c0
    refine .seq ?_
    refine .reg (X := Unit) (fun ζ => .of [(6, .one (.d (.v (.bool (false)))))] []) [⟨[], some 6, [], []⟩] (fun k10 => ?_) ?_
    · skip
      refine .assign (.no rfl) rfl rfl rfl rfl ?_
      exact .fin () (.of (.cons rfl .nil) .nil)
    intro _
    refine .ret ?_
    have e11 : (false) = (Table.leq d a b) := by (rw [Table.leq_no c0])
    have hc12 := eq1 (fun z1 => SV.one (.d (.v (.bool (z1))))) e11
    show _ ∧ _
    exact ⟨.inr rfl, .done ⟨_, [], [], _, .one (c := .d (.v (.bool (Table.leq d a b)))) (hc12) .nil, .cons (Reads.d _).gives .nil, nodupB_ok rfl, by simp, (by simp)⟩⟩
  · have c0 := c0
    try simp only [Bool.or_eq_true, Bool.or_eq_false_iff, Bool.and_eq_true, Bool.and_eq_false_iff, decide_eq_true_eq, decide_eq_false_iff_not, Bool.not_eq_true', Bool.not_eq_false', bne_iff_ne, beq_iff_eq, bne_eq_false_iff_eq, beq_eq_false_iff_ne, ne_eq, Bool.not_eq_eq_eq_not, Bool.not_true, Bool.not_false] at c0
    refine .skip ?_
    refine .seq ?_
    refine .reg (X := Unit) (fun ζ => .of [(6, .one (.d (.v (.bool (tabLeq a b)))))] []) [⟨[1], some 17, [], []⟩, ⟨[2], some 18, [], []⟩, ⟨[17, 18], some 19, [], []⟩, ⟨[19], some 6, [], []⟩] (fun k13 => ?_) ?_
    · skip
      refine .move (.no rfl) rfl rfl rfl rfl ?_
      refine .move (.no rfl) rfl rfl rfl rfl ?_
      refine .call (.no rfl) rfl [] [] (c_l8Leq a b (by first | assumption | exact ⟨(Table.fit (Table.ok_in c0.1) (Table.ok_in c0.2)).1, hn⟩ | exact (Table.fit (Table.ok_in c0.1) (Table.ok_in c0.2)).2) (by first | assumption | exact ⟨(Table.fit (Table.ok_in c0.1) (Table.ok_in c0.2)).1, hn⟩ | exact (Table.fit (Table.ok_in c0.1) (Table.ok_in c0.2)).2) (by first | assumption | exact ⟨(Table.fit (Table.ok_in c0.1) (Table.ok_in c0.2)).1, hn⟩ | exact (Table.fit (Table.ok_in c0.1) (Table.ok_in c0.2)).2) (by first | assumption | exact ⟨(Table.fit (Table.ok_in c0.1) (Table.ok_in c0.2)).1, hn⟩ | exact (Table.fit (Table.ok_in c0.1) (Table.ok_in c0.2)).2)) rfl rfl rfl rfl rfl (.cons (Reads.d _).gives (.cons (Reads.d _).gives .nil)) rfl rfl (fun h => absurd rfl h) (.own [19, 0] .nil) (.nil) rfl rfl rfl (by simp) rfl rfl rfl ?_
      refine .assign (.no rfl) rfl rfl rfl rfl ?_
      exact .fin () (.of (.cons rfl .nil) .nil)
    intro _
    refine .ret ?_
    have e14 : (tabLeq a b) = (Table.leq d a b) := by (rw [Table.leq_yes c0])
    have hc15 := eq1 (fun z1 => SV.one (.d (.v (.bool (z1))))) e14
    show _ ∧ _
    exact ⟨.inr rfl, .done ⟨_, [], [], _, .one (c := .d (.v (.bool (Table.leq d a b)))) (hc15) .nil, .cons (Reads.d _).gives .nil, nodupB_ok rfl, by simp, (by simp)⟩⟩
theorem c_isTable (d : Decl) (t : List Env) : Trip Tryd.prog 105 [(true, 3), (false, 1)] (Decl.c27 d ++ [.sl false 30 3 (List.map Env.c30 (t))]) [(false, 1)] [.v (.bool (Table.isIn d t))] [] := by
  refine Trip.of Tryd.func105 (by decide) (c := _) rfl rfl (shB_ok rfl) (Nat.le_of_ble_eq_true rfl) rfl (AftOk.nil _) ?_
  refine .satA (t := 0) (i := 0) rfl rfl (fun hs1 => ?_)
  have hs1l : d.vars.length ≤ 9223372036854775807 := hs1.maplen
  refine .satA (t := 0) (i := 1) rfl rfl (fun hs2 => ?_)
  have hs2l : d.flags.length ≤ 9223372036854775807 := hs2.maplen
  refine .satA (t := 0) (i := 2) rfl rfl (fun hs3 => ?_)
  have hs3l : d.arrays.length ≤ 9223372036854775807 := hs3.maplen
  refine .sat (t := 1) rfl (fun hs4 => ?_)
  have hs4l : t.length ≤ 9223372036854775807 := hs4.maplen
  refine .seq ?_
  refine .reg (X := Nat) (fun ζ => .of [(1, .one (.d (.sl false 30 3 (List.map Env.c30 (t))))), (2, .one (.ptr [2] (ζ) 0))] [([2], (ζ, ζ, .box [.d (.sl false 9 1 (List.map strc (d.vars))), .d (.sl false 9 1 (List.map strc (d.flags))), .d (.sl false 101 2 (List.map Arr.c (d.arrays)))]))]) [⟨[0], some 2, [], [[2]]⟩, ⟨[], some 4, [], []⟩] (fun k5 => ?_) ?_
  · skip
    refine .box (.no rfl) rfl rfl rfl rfl rfl ?_
    refine .assign (.no rfl) rfl rfl rfl rfl ?_
    exact .fin k5 (.of (.cons rfl (.cons rfl .nil)) (.cons rfl .nil))
  intro g6
  refine .seq ?_
  refine .regD (X := Unit) (by kernel_rfl) (fun ζ => .of [(4, .one (.d (.v (.bool (((t.length : Int) == (leavesOf d) && t.all (fun x0 => Env.okIn d x0)))))))] []) [⟨[1], some 5, [], []⟩, ⟨[5], some 6, [], []⟩, ⟨[2], some 7, [[2]], []⟩, ⟨[7], some 8, [], []⟩, ⟨[6, 8], some 9, [], []⟩, ⟨[9], some 10, [], []⟩, ⟨[10, 1], some 11, [], []⟩, ⟨[10, 2], some 12, [[2]], []⟩, ⟨[10, 12], some 13, [], []⟩, ⟨[10, 11, 13], some 14, [], []⟩, ⟨[10, 14], some 15, [], []⟩, ⟨[15], some 4, [], []⟩] (by kernel_rfl) (fun k7 => ?_) ?_
  · skip
    refine .move (.no rfl) rfl rfl rfl rfl ?_
    refine .call (.no rfl) rfl [] [] (c_sizeE t) rfl rfl rfl rfl rfl (.cons (Reads.d _).gives .nil) rfl rfl (fun h => absurd rfl h) (.own [6, 0] .nil) (.nil) rfl rfl rfl (by simp) rfl rfl rfl ?_
    refine .load (.no rfl) rfl t27 rfl rfl (.ptr _ _ _ _ _ rfl) rfl rfl rfl rfl ?_
    refine .call (.no rfl) rfl [] [] (c_leaves d) rfl rfl rfl rfl rfl (.cons (Reads.d _).gives (.cons (Reads.d _).gives (.cons (Reads.d _).gives .nil))) rfl rfl (fun h => absurd rfl h) (.own [8, 0] .nil) (.nil) rfl rfl rfl (by simp) rfl rfl rfl ?_
    refine .bin (.no rfl) rfl rfl rfl rfl rfl rfl ?_
    refine .moveB (.no rfl) rfl rfl rfl rfl fun b8 g1_5 => ?_
    cases b8
    · skip
      refine .off rfl rfl rfl rfl rfl rfl rfl ?_
      refine .off rfl rfl rfl rfl rfl rfl rfl ?_
      refine .off rfl rfl rfl rfl rfl rfl rfl ?_
      refine .off rfl rfl rfl rfl rfl rfl rfl ?_
      refine .pick (.no rfl) rfl rfl rfl rfl rfl ?_
      refine .assign (.no rfl) rfl rfl rfl rfl ?_
      exact .fin () (.of (.cons (svB (show (false) = (((t.length : Int) == (leavesOf d) && t.all (fun x0 => Env.okIn d x0))) by first | (simp only [g1_5, Bool.true_or, Bool.false_or, Bool.true_and, Bool.false_and, Bool.not_true, Bool.not_false]; done) | simp [g1_5])) .nil) .nil)
    · skip
      refine .move (.on rfl rfl rfl rfl rfl) rfl rfl rfl rfl ?_
      refine .load (.on rfl rfl rfl rfl rfl) rfl t27 rfl rfl (.ptr _ _ _ _ _ rfl) rfl rfl rfl rfl ?_
      refine .makeFunc (.on rfl rfl rfl rfl rfl) rfl rfl rfl rfl rfl ?_
      refine .call (.on rfl rfl rfl rfl rfl) rfl [] [] (c_areAllE t 58 [(true, [.sl false 9 1 (List.map strc (d.vars)), .sl false 9 1 (List.map strc (d.flags)), .sl false 101 2 (List.map Arr.c (d.arrays))])] [] (fun x0 => Env.okIn d x0) (fun x0 => c_isEnv d x0)) rfl rfl rfl rfl rfl (.cons (Reads.d _).gives (.cons (Reads.clo1 (.cons (Reads.d _) (.cons (Reads.d _) (.cons (Reads.d _) .nil))) (.nil)).gives .nil)) rfl rfl (fun h => absurd rfl h) (.own [14, 0] .nil) (.nil) rfl rfl rfl (by simp) rfl rfl rfl ?_
      refine .pick (.no rfl) rfl rfl rfl rfl rfl ?_
      refine .assign (.no rfl) rfl rfl rfl rfl ?_
      exact .fin () (.of (.cons (svB (show (t.all (fun x0 => Env.okIn d x0)) = (((t.length : Int) == (leavesOf d) && t.all (fun x0 => Env.okIn d x0))) by first | (simp only [g1_5, Bool.true_or, Bool.false_or, Bool.true_and, Bool.false_and, Bool.not_true, Bool.not_false]; done) | simp [g1_5])) .nil) .nil)
  intro _
  refine .ret ?_
  have e9 : (((t.length : Int) == (leavesOf d) && t.all (fun x0 => Env.okIn d x0))) = (Table.isIn d t) := by rfl
  have hc10 := eq1 (fun z1 => SV.one (.d (.v (.bool (z1))))) e9
  show _ ∧ _
  exact ⟨.inr rfl, .done ⟨_, [], [], _, .one (c := .d (.v (.bool (Table.isIn d t)))) (hc10) .nil, .cons (Reads.d _).gives .nil, nodupB_ok rfl, by simp, (by simp)⟩⟩
theorem c_TableOk (d : Decl) (t : List Env) (hs : ∀ x ∈ Decl.names d, x.size ≤ 9223372036854775807) (hb : d.vars.length ≤ 1048576 ∧ d.flags.length ≤ 1048576 ∧ d.arrays.length ≤ 1048576) : Trip Tryd.prog 104 [(true, 3), (false, 1)] (Decl.c27 d ++ [.sl false 30 3 (List.map Env.c30 (t))]) [(false, 1)] [.v (.bool (Table.ok d t))] [] := by
  refine Trip.of Tryd.func104 (by decide) (c := _) rfl rfl (shB_ok rfl) (Nat.le_of_ble_eq_true rfl) rfl (AftOk.nil _) ?_
  refine .satA (t := 0) (i := 0) rfl rfl (fun hs1 => ?_)
  have hs1l : d.vars.length ≤ 9223372036854775807 := hs1.maplen
  refine .satA (t := 0) (i := 1) rfl rfl (fun hs2 => ?_)
  have hs2l : d.flags.length ≤ 9223372036854775807 := hs2.maplen
  refine .satA (t := 0) (i := 2) rfl rfl (fun hs3 => ?_)
  have hs3l : d.arrays.length ≤ 9223372036854775807 := hs3.maplen
  refine .sat (t := 1) rfl (fun hs4 => ?_)
  have hs4l : t.length ≤ 9223372036854775807 := hs4.maplen
  refine .seq ?_
  refine .reg (X := Nat) (fun ζ => .of [(1, .one (.d (.sl false 30 3 (List.map Env.c30 (t))))), (2, .one (.ptr [2] (ζ) 0))] [([2], (ζ, ζ, .box [.d (.sl false 9 1 (List.map strc (d.vars))), .d (.sl false 9 1 (List.map strc (d.flags))), .d (.sl false 101 2 (List.map Arr.c (d.arrays)))]))]) [⟨[0], some 2, [], [[2]]⟩, ⟨[], some 4, [], []⟩] (fun k5 => ?_) ?_
  · skip
    refine .box (.no rfl) rfl rfl rfl rfl rfl ?_
    refine .assign (.no rfl) rfl rfl rfl rfl ?_
    exact .fin k5 (.of (.cons rfl (.cons rfl .nil)) (.cons rfl .nil))
  intro g6
  refine .seq ?_
  refine .reg (X := Unit) (fun ζ => .of [(4, .one (.d (.v (.bool ((Decl.ok d && Table.isIn d t))))))] []) [⟨[2], some 5, [[2]], []⟩, ⟨[5], some 6, [], []⟩, ⟨[6], some 7, [], []⟩, ⟨[7, 2], some 8, [[2]], []⟩, ⟨[7, 1], some 9, [], []⟩, ⟨[7, 8, 9], some 10, [], []⟩, ⟨[7, 10], some 11, [], []⟩, ⟨[11], some 4, [], []⟩] (fun k7 => ?_) ?_
  · skip
    refine .load (.no rfl) rfl t27 rfl rfl (.ptr _ _ _ _ _ rfl) rfl rfl rfl rfl ?_
    refine .call (.no rfl) rfl [] [] (c_isRight d (by assumption) (by assumption)) rfl rfl rfl rfl rfl (.cons (Reads.d _).gives (.cons (Reads.d _).gives (.cons (Reads.d _).gives .nil))) rfl rfl (fun h => absurd rfl h) (.own [6, 0] .nil) (.nil) rfl rfl rfl (by simp) rfl rfl rfl ?_
    refine .moveB (.no rfl) rfl rfl rfl rfl fun b8 g1_2 => ?_
    cases b8
    · skip
      refine .off rfl rfl rfl rfl rfl rfl rfl ?_
      refine .off rfl rfl rfl rfl rfl rfl rfl ?_
      refine .off rfl rfl rfl rfl rfl rfl rfl ?_
      refine .pick (.no rfl) rfl rfl rfl rfl rfl ?_
      refine .assign (.no rfl) rfl rfl rfl rfl ?_
      exact .fin () (.of (.cons (svB (show (false) = ((Decl.ok d && Table.isIn d t)) by first | (simp only [g1_2, Bool.true_or, Bool.false_or, Bool.true_and, Bool.false_and, Bool.not_true, Bool.not_false]; done) | simp [g1_2])) .nil) .nil)
    · skip
      refine .load (.on rfl rfl rfl rfl rfl) rfl t27 rfl rfl (.ptr _ _ _ _ _ rfl) rfl rfl rfl rfl ?_
      refine .move (.on rfl rfl rfl rfl rfl) rfl rfl rfl rfl ?_
      refine .call (.on rfl rfl rfl rfl rfl) rfl [] [] (c_isTable d t) rfl rfl rfl rfl rfl (.cons (Reads.d _).gives (.cons (Reads.d _).gives (.cons (Reads.d _).gives (.cons (Reads.d _).gives .nil)))) rfl rfl (fun h => absurd rfl h) (.own [10, 0] .nil) (.nil) rfl rfl rfl (by simp) rfl rfl rfl ?_
      refine .pick (.no rfl) rfl rfl rfl rfl rfl ?_
      refine .assign (.no rfl) rfl rfl rfl rfl ?_
      exact .fin () (.of (.cons (svB (show (Table.isIn d t) = ((Decl.ok d && Table.isIn d t)) by first | (simp only [g1_2, Bool.true_or, Bool.false_or, Bool.true_and, Bool.false_and, Bool.not_true, Bool.not_false]; done) | simp [g1_2])) .nil) .nil)
  intro _
  refine .ret ?_
  have e9 : ((Decl.ok d && Table.isIn d t)) = (Table.ok d t) := by rfl
  have hc10 := eq1 (fun z1 => SV.one (.d (.v (.bool (z1))))) e9
  show _ ∧ _
  exact ⟨.inr rfl, .done ⟨_, [], [], _, .one (c := .d (.v (.bool (Table.ok d t)))) (hc10) .nil, .cons (Reads.d _).gives .nil, nodupB_ok rfl, by simp, (by simp)⟩⟩
theorem c_areTables (d : Decl) (a : List Env) (b : List Env) (hs : ∀ x ∈ Decl.names d, x.size ≤ 9223372036854775807) (hb : d.vars.length ≤ 1048576 ∧ d.flags.length ≤ 1048576 ∧ d.arrays.length ≤ 1048576) : Trip Tryd.prog 65 [(true, 3), (false, 1), (false, 1)] (Decl.c27 d ++ [.sl false 30 3 (List.map Env.c30 (a))] ++ [.sl false 30 3 (List.map Env.c30 (b))]) [(false, 1)] [.v (.bool (Table.ok d a && Table.isIn d b))] [] := by
  refine Trip.of Tryd.func65 (by decide) (c := _) rfl rfl (shB_ok rfl) (Nat.le_of_ble_eq_true rfl) rfl (AftOk.nil _) ?_
  refine .satA (t := 0) (i := 0) rfl rfl (fun hs1 => ?_)
  have hs1l : d.vars.length ≤ 9223372036854775807 := hs1.maplen
  refine .satA (t := 0) (i := 1) rfl rfl (fun hs2 => ?_)
  have hs2l : d.flags.length ≤ 9223372036854775807 := hs2.maplen
  refine .satA (t := 0) (i := 2) rfl rfl (fun hs3 => ?_)
  have hs3l : d.arrays.length ≤ 9223372036854775807 := hs3.maplen
  refine .sat (t := 1) rfl (fun hs4 => ?_)
  have hs4l : a.length ≤ 9223372036854775807 := hs4.maplen
  refine .sat (t := 2) rfl (fun hs5 => ?_)
  have hs5l : b.length ≤ 9223372036854775807 := hs5.maplen
  refine .seq ?_
  refine .reg (X := Nat) (fun ζ => .of [(1, .one (.d (.sl false 30 3 (List.map Env.c30 (a))))), (2, .one (.d (.sl false 30 3 (List.map Env.c30 (b))))), (3, .one (.ptr [3] (ζ) 0))] [([3], (ζ, ζ, .box [.d (.sl false 9 1 (List.map strc (d.vars))), .d (.sl false 9 1 (List.map strc (d.flags))), .d (.sl false 101 2 (List.map Arr.c (d.arrays)))]))]) [⟨[0], some 3, [], [[3]]⟩, ⟨[], some 6, [], []⟩] (fun k6 => ?_) ?_
  · skip
    refine .box (.no rfl) rfl rfl rfl rfl rfl ?_
    refine .assign (.no rfl) rfl rfl rfl rfl ?_
    exact .fin k6 (.of (.cons rfl (.cons rfl (.cons rfl .nil))) (.cons rfl .nil))
  intro g7
  refine .seq ?_
  refine .reg (X := Unit) (fun ζ => .of [(6, .one (.d (.v (.bool ((Table.ok d a && Table.isIn d b))))))] []) [⟨[3], some 7, [[3]], []⟩, ⟨[1], some 8, [], []⟩, ⟨[7, 8], some 9, [], []⟩, ⟨[9], some 10, [], []⟩, ⟨[10, 3], some 11, [[3]], []⟩, ⟨[10, 2], some 12, [], []⟩, ⟨[10, 11, 12], some 13, [], []⟩, ⟨[10, 13], some 14, [], []⟩, ⟨[14], some 6, [], []⟩] (fun k8 => ?_) ?_
  · skip
    refine .load (.no rfl) rfl t27 rfl rfl (.ptr _ _ _ _ _ rfl) rfl rfl rfl rfl ?_
    refine .move (.no rfl) rfl rfl rfl rfl ?_
    refine .call (.no rfl) rfl [] [] (c_TableOk d a (by assumption) (by assumption)) rfl rfl rfl rfl rfl (.cons (Reads.d _).gives (.cons (Reads.d _).gives (.cons (Reads.d _).gives (.cons (Reads.d _).gives .nil)))) rfl rfl (fun h => absurd rfl h) (.own [9, 0] .nil) (.nil) rfl rfl rfl (by simp) rfl rfl rfl ?_
    refine .moveB (.no rfl) rfl rfl rfl rfl fun b9 g1_3 => ?_
    cases b9
    · skip
      refine .off rfl rfl rfl rfl rfl rfl rfl ?_
      refine .off rfl rfl rfl rfl rfl rfl rfl ?_
      refine .off rfl rfl rfl rfl rfl rfl rfl ?_
      refine .pick (.no rfl) rfl rfl rfl rfl rfl ?_
      refine .assign (.no rfl) rfl rfl rfl rfl ?_
      exact .fin () (.of (.cons (svB (show (false) = ((Table.ok d a && Table.isIn d b)) by first | (simp only [g1_3, Bool.true_or, Bool.false_or, Bool.true_and, Bool.false_and, Bool.not_true, Bool.not_false]; done) | simp [g1_3])) .nil) .nil)
    · skip
      refine .load (.on rfl rfl rfl rfl rfl) rfl t27 rfl rfl (.ptr _ _ _ _ _ rfl) rfl rfl rfl rfl ?_
      refine .move (.on rfl rfl rfl rfl rfl) rfl rfl rfl rfl ?_
      refine .call (.on rfl rfl rfl rfl rfl) rfl [] [] (c_isTable d b) rfl rfl rfl rfl rfl (.cons (Reads.d _).gives (.cons (Reads.d _).gives (.cons (Reads.d _).gives (.cons (Reads.d _).gives .nil)))) rfl rfl (fun h => absurd rfl h) (.own [13, 0] .nil) (.nil) rfl rfl rfl (by simp) rfl rfl rfl ?_
      refine .pick (.no rfl) rfl rfl rfl rfl rfl ?_
      refine .assign (.no rfl) rfl rfl rfl rfl ?_
      exact .fin () (.of (.cons (svB (show (Table.isIn d b) = ((Table.ok d a && Table.isIn d b)) by first | (simp only [g1_3, Bool.true_or, Bool.false_or, Bool.true_and, Bool.false_and, Bool.not_true, Bool.not_false]; done) | simp [g1_3])) .nil) .nil)
  intro _
  refine .ret ?_
  have e10 : ((Table.ok d a && Table.isIn d b)) = (Table.ok d a && Table.isIn d b) := by rfl
  have hc11 := eq1 (fun z1 => SV.one (.d (.v (.bool (z1))))) e10
  show _ ∧ _
  exact ⟨.inr rfl, .done ⟨_, [], [], _, .one (c := .d (.v (.bool (Table.ok d a && Table.isIn d b)))) (hc11) .nil, .cons (Reads.d _).gives .nil, nodupB_ok rfl, by simp, (by simp)⟩⟩
theorem c_TableLeq (d : Decl) (a : List Env) (b : List Env) (hs : ∀ x ∈ Decl.names d, x.size ≤ 9223372036854775807) (hd : d.vars.length ≤ 1048576 ∧ d.flags.length ≤ 1048576 ∧ d.arrays.length ≤ 1048576) (hx : ∀ x ∈ a, x.ints.length ≤ 1048576 ∧ x.arrs.length ≤ 1048576) (hy : ∀ x ∈ b, x.ints.length ≤ 1048576 ∧ x.arrs.length ≤ 1048576) (hn : a.length ≤ 1048576) : Trip Tryd.prog 26 [(true, 3), (false, 1), (false, 1)] (Decl.c27 d ++ [.sl false 30 3 (List.map Env.c30 (a))] ++ [.sl false 30 3 (List.map Env.c30 (b))]) [(false, 1)] [.v (.bool (Table.leq d a b))] [] := by
  refine Trip.of Tryd.func26 (by decide) (c := _) rfl rfl (shB_ok rfl) (Nat.le_of_ble_eq_true rfl) rfl (AftOk.nil _) ?_
  refine .satA (t := 0) (i := 0) rfl rfl (fun hs1 => ?_)
  have hs1l : d.vars.length ≤ 9223372036854775807 := hs1.maplen
  refine .satA (t := 0) (i := 1) rfl rfl (fun hs2 => ?_)
  have hs2l : d.flags.length ≤ 9223372036854775807 := hs2.maplen
  refine .satA (t := 0) (i := 2) rfl rfl (fun hs3 => ?_)
  have hs3l : d.arrays.length ≤ 9223372036854775807 := hs3.maplen
  refine .sat (t := 1) rfl (fun hs4 => ?_)
  have hs4l : a.length ≤ 9223372036854775807 := hs4.maplen
  refine .sat (t := 2) rfl (fun hs5 => ?_)
  have hs5l : b.length ≤ 9223372036854775807 := hs5.maplen
  refine .seq ?_
  refine .reg (X := Nat) (fun ζ => .of [(1, .one (.d (.sl false 30 3 (List.map Env.c30 (a))))), (2, .one (.d (.sl false 30 3 (List.map Env.c30 (b))))), (3, .one (.ptr [3] (ζ) 0))] [([3], (ζ, ζ, .box [.d (.sl false 9 1 (List.map strc (d.vars))), .d (.sl false 9 1 (List.map strc (d.flags))), .d (.sl false 101 2 (List.map Arr.c (d.arrays)))]))]) [⟨[0], some 3, [], [[3]]⟩, ⟨[], some 6, [], []⟩] (fun k6 => ?_) ?_
  · skip
    refine .box (.no rfl) rfl rfl rfl rfl rfl ?_
    refine .assign (.no rfl) rfl rfl rfl rfl ?_
    exact .fin k6 (.of (.cons rfl (.cons rfl (.cons rfl .nil))) (.cons rfl .nil))
  intro g7
  refine .seq ?_
  refine .reg (X := Unit) (fun ζ => .of [(6, .one (.d (.v (.bool ((Table.ok d a && Table.isIn d b && tabLeq a b))))))] []) [⟨[3], some 7, [[3]], []⟩, ⟨[1], some 8, [], []⟩, ⟨[2], some 9, [], []⟩, ⟨[7, 8, 9], some 10, [], []⟩, ⟨[10], some 11, [], []⟩, ⟨[11, 1], some 12, [], []⟩, ⟨[11, 2], some 13, [], []⟩, ⟨[11, 12, 13], some 14, [], []⟩, ⟨[11, 14], some 15, [], []⟩, ⟨[15], some 6, [], []⟩] (fun k8 => ?_) ?_
  · skip
    refine .load (.no rfl) rfl t27 rfl rfl (.ptr _ _ _ _ _ rfl) rfl rfl rfl rfl ?_
    refine .move (.no rfl) rfl rfl rfl rfl ?_
    refine .move (.no rfl) rfl rfl rfl rfl ?_
    refine .call (.no rfl) rfl [] [] (c_areTables d a b (by first | assumption | exact ⟨(Table.fit (Table.ok_in (Bool.and_eq_true_iff.1 g1_4).1) (Bool.and_eq_true_iff.1 g1_4).2).1, hn⟩ | exact (Table.fit (Table.ok_in (Bool.and_eq_true_iff.1 g1_4).1) (Bool.and_eq_true_iff.1 g1_4).2).2) (by first | assumption | exact ⟨(Table.fit (Table.ok_in (Bool.and_eq_true_iff.1 g1_4).1) (Bool.and_eq_true_iff.1 g1_4).2).1, hn⟩ | exact (Table.fit (Table.ok_in (Bool.and_eq_true_iff.1 g1_4).1) (Bool.and_eq_true_iff.1 g1_4).2).2)) rfl rfl rfl rfl rfl (.cons (Reads.d _).gives (.cons (Reads.d _).gives (.cons (Reads.d _).gives (.cons (Reads.d _).gives (.cons (Reads.d _).gives .nil))))) rfl rfl (fun h => absurd rfl h) (.own [10, 0] .nil) (.nil) rfl rfl rfl (by simp) rfl rfl rfl ?_
    refine .moveB (.no rfl) rfl rfl rfl rfl fun b9 g1_4 => ?_
    cases b9
    · skip
      refine .off rfl rfl rfl rfl rfl rfl rfl ?_
      refine .off rfl rfl rfl rfl rfl rfl rfl ?_
      refine .off rfl rfl rfl rfl rfl rfl rfl ?_
      refine .pick (.no rfl) rfl rfl rfl rfl rfl ?_
      refine .assign (.no rfl) rfl rfl rfl rfl ?_
      exact .fin () (.of (.cons (svB (show (false) = ((Table.ok d a && Table.isIn d b && tabLeq a b)) by first | (simp only [g1_4, Bool.true_or, Bool.false_or, Bool.true_and, Bool.false_and, Bool.not_true, Bool.not_false]; done) | simp [g1_4])) .nil) .nil)
    · skip
      refine .move (.on rfl rfl rfl rfl rfl) rfl rfl rfl rfl ?_
      refine .move (.on rfl rfl rfl rfl rfl) rfl rfl rfl rfl ?_
      refine .call (.on rfl rfl rfl rfl rfl) rfl [] [] (c_tableLeq a b (by first | assumption | exact ⟨(Table.fit (Table.ok_in (Bool.and_eq_true_iff.1 g1_4).1) (Bool.and_eq_true_iff.1 g1_4).2).1, hn⟩ | exact (Table.fit (Table.ok_in (Bool.and_eq_true_iff.1 g1_4).1) (Bool.and_eq_true_iff.1 g1_4).2).2) (by first | assumption | exact ⟨(Table.fit (Table.ok_in (Bool.and_eq_true_iff.1 g1_4).1) (Bool.and_eq_true_iff.1 g1_4).2).1, hn⟩ | exact (Table.fit (Table.ok_in (Bool.and_eq_true_iff.1 g1_4).1) (Bool.and_eq_true_iff.1 g1_4).2).2) (by first | assumption | exact ⟨(Table.fit (Table.ok_in (Bool.and_eq_true_iff.1 g1_4).1) (Bool.and_eq_true_iff.1 g1_4).2).1, hn⟩ | exact (Table.fit (Table.ok_in (Bool.and_eq_true_iff.1 g1_4).1) (Bool.and_eq_true_iff.1 g1_4).2).2) (by first | assumption | exact ⟨(Table.fit (Table.ok_in (Bool.and_eq_true_iff.1 g1_4).1) (Bool.and_eq_true_iff.1 g1_4).2).1, hn⟩ | exact (Table.fit (Table.ok_in (Bool.and_eq_true_iff.1 g1_4).1) (Bool.and_eq_true_iff.1 g1_4).2).2)) rfl rfl rfl rfl rfl (.cons (Reads.d _).gives (.cons (Reads.d _).gives .nil)) rfl rfl (fun h => absurd rfl h) (.own [14, 0] .nil) (.nil) rfl rfl rfl (by simp) rfl rfl rfl ?_
      refine .pick (.no rfl) rfl rfl rfl rfl rfl ?_
      refine .assign (.no rfl) rfl rfl rfl rfl ?_
      exact .fin () (.of (.cons (svB (show (tabLeq a b) = ((Table.ok d a && Table.isIn d b && tabLeq a b)) by first | (simp only [g1_4, Bool.true_or, Bool.false_or, Bool.true_and, Bool.false_and, Bool.not_true, Bool.not_false]; done) | simp [g1_4])) .nil) .nil)
  intro _
  refine .ret ?_
  have e10 : ((Table.ok d a && Table.isIn d b && tabLeq a b)) = (Table.leq d a b) := by rfl
  have hc11 := eq1 (fun z1 => SV.one (.d (.v (.bool (z1))))) e10
  show _ ∧ _
  exact ⟨.inr rfl, .done ⟨_, [], [], _, .one (c := .d (.v (.bool (Table.leq d a b)))) (hc11) .nil, .cons (Reads.d _).gives .nil, nodupB_ok rfl, by simp, (by simp)⟩⟩
end Go.Proofs

namespace Go.Proofs
open Go Go.Proofs Go.Ev

set_option maxHeartbeats 8000000 in
theorem c_FnExactTableLeq (d : Decl) (a : List Env) (b : List Env) (hs : ∀ x ∈ Decl.names d, x.size ≤ 9223372036854775807) (hv : ∀ x ∈ d.vars, 0 ≤ strW x ∧ strW x ≤ 9223372036854775807) (hf : ∀ x ∈ d.flags, 0 ≤ strW x ∧ strW x ≤ 9223372036854775807) (ha : ∀ x ∈ d.arrays, 0 ≤ arrW x ∧ arrW x ≤ 9223372036854775807) : Trip Tryd.prog 5 [(true, 3), (false, 1), (false, 1)] (Decl.c41 d ++ [.sl false 54 3 (List.map Env.c54 (a))] ++ [.sl false 54 3 (List.map Env.c54 (b))]) [(false, 1)] [.v (.bool (true))] [] := by
  refine Trip.of Tryd.func5 (by decide) (c := _) rfl rfl (shB_ok rfl) (Nat.le_of_ble_eq_true rfl) rfl (AftOk.nil _) ?_
  refine .satA (t := 0) (i := 0) rfl rfl (fun hs1 => ?_)
  have hs1l : d.vars.length ≤ 9223372036854775807 := hs1.maplen
  refine .satA (t := 0) (i := 1) rfl rfl (fun hs2 => ?_)
  have hs2l : d.flags.length ≤ 9223372036854775807 := hs2.maplen
  refine .satA (t := 0) (i := 2) rfl rfl (fun hs3 => ?_)
  have hs3l : d.arrays.length ≤ 9223372036854775807 := hs3.maplen
  refine .sat (t := 1) rfl (fun hs4 => ?_)
  have hs4l : a.length ≤ 9223372036854775807 := hs4.maplen
  refine .sat (t := 2) rfl (fun hs5 => ?_)
  have hs5l : b.length ≤ 9223372036854775807 := hs5.maplen
  refine .seq ?_
  refine .reg (X := Nat) (fun ζ => .of [(1, .one (.d (.sl false 54 3 (List.map Env.c54 (a))))), (2, .one (.d (.sl false 54 3 (List.map Env.c54 (b))))), (3, .one (.ptr [3] (ζ) 0))] [([3], (ζ, ζ, .box [.d (.sl false 9 1 (List.map strc (d.vars))), .d (.sl false 9 1 (List.map strc (d.flags))), .d (.sl false 117 2 (List.map Arr.c (d.arrays)))]))]) [⟨[0], some 3, [], [[3]]⟩, ⟨[], some 6, [], []⟩] (fun k6 => ?_) ?_
  · skip
    refine .box (.no rfl) rfl rfl rfl rfl rfl ?_
    refine .assign (.no rfl) rfl rfl rfl rfl ?_
    exact .fin k6 (.of (.cons rfl (.cons rfl (.cons rfl .nil))) (.cons rfl .nil))
  intro g7
  refine .seq ?_
  refine .reg (X := Unit) (fun ζ => .of [(1, .one (.d (.sl false 54 3 (List.map Env.c54 (a))))), (2, .one (.d (.sl false 54 3 (List.map Env.c54 (b))))), (3, .one (.ptr [3] (g7) 0)), (7, .one (.d (.v (.int .i64 (1048576)))))] [([3], (g7, g7, .box [.d (.sl false 9 1 (List.map strc (d.vars))), .d (.sl false 9 1 (List.map strc (d.flags))), .d (.sl false 117 2 (List.map Arr.c (d.arrays)))]))]) [⟨[], some 7, [], []⟩] (fun k8 => ?_) ?_
  · skip
    refine .assign (.no rfl) rfl rfl rfl rfl ?_
    exact .fin () (.of (.cons rfl (.cons rfl (.cons rfl (.cons rfl .nil)))) (.cons rfl .nil))
  intro _
  refine .seq ?_
  refine .reg (X := Unit) (fun ζ => .of [(1, .one (.d (.sl false 54 3 (List.map Env.c54 (a))))), (2, .one (.d (.sl false 54 3 (List.map Env.c54 (b))))), (3, .one (.ptr [3] (g7) 0)), (7, .one (.d (.v (.int .i64 (szDecl d 1048576)))))] [([3], (g7, g7, .box [.d (.sl false 9 1 (List.map strc (d.vars))), .d (.sl false 9 1 (List.map strc (d.flags))), .d (.sl false 117 2 (List.map Arr.c (d.arrays)))]))]) [⟨[3], some 13, [[3]], []⟩, ⟨[7], some 14, [], []⟩, ⟨[13, 14], some 15, [], []⟩, ⟨[15], some 7, [], []⟩] (fun k9 => ?_) ?_
  · skip
    refine .load (.no rfl) rfl t41 rfl rfl (.ptr _ _ _ _ _ rfl) rfl rfl rfl rfl ?_
    refine .move (.no rfl) rfl rfl rfl rfl ?_
    refine .call (.no rfl) rfl [] [] (c_szDecl d 1048576 (by first | assumption | omega | (have q0 := szDecl_len hv hf ha (by omega) c0; omega) | (have q0 := szDecl_len hv hf ha (by omega) c0; have q1 := szEnvS_len (by omega) c1; omega) | (have q0 := szDecl_len hv hf ha (by omega) c0; have q1 := szEnvS_len (by omega) c1; have q2 := szEnvS_len (by omega) c2; omega) | (have q0 := szDecl_len hv hf ha (by omega) c0; have q1 := szEnvS_len (by omega) c1; have q2 := szEnvS_len (by omega) c2; exact q1.2.1) | (have q0 := szDecl_len hv hf ha (by omega) c0; have q1 := szEnvS_len (by omega) c1; have q2 := szEnvS_len (by omega) c2; exact q1.1) | (have q0 := szDecl_len hv hf ha (by omega) c0; have q1 := szEnvS_len (by omega) c1; have q2 := szEnvS_len (by omega) c2; exact q2.2.1) | (have q0 := szDecl_len hv hf ha (by omega) c0; have q1 := szEnvS_len (by omega) c1; have q2 := szEnvS_len (by omega) c2; exact q2.1) | (have q0 := szDecl_len hv hf ha (by omega) c0; have q1 := szEnvS_len (by omega) c1; have q2 := szEnvS_len (by omega) c2; first | omega | (skip; first | omega | (simp only [Decl.marks, Env.marks, Env.mark, mkAll_len]; omega))) | (intro i hi; exact mkAll_get (mIv 1) _ (by simpa only [Env.mark, mkAll_len] using hi)) | (intro i hi; simp only [Env.mark, mkAll_len] at hi ⊢; exact mkAll_get _ _ hi)) (by first | assumption | omega | (have q0 := szDecl_len hv hf ha (by omega) c0; omega) | (have q0 := szDecl_len hv hf ha (by omega) c0; have q1 := szEnvS_len (by omega) c1; omega) | (have q0 := szDecl_len hv hf ha (by omega) c0; have q1 := szEnvS_len (by omega) c1; have q2 := szEnvS_len (by omega) c2; omega) | (have q0 := szDecl_len hv hf ha (by omega) c0; have q1 := szEnvS_len (by omega) c1; have q2 := szEnvS_len (by omega) c2; exact q1.2.1) | (have q0 := szDecl_len hv hf ha (by omega) c0; have q1 := szEnvS_len (by omega) c1; have q2 := szEnvS_len (by omega) c2; exact q1.1) | (have q0 := szDecl_len hv hf ha (by omega) c0; have q1 := szEnvS_len (by omega) c1; have q2 := szEnvS_len (by omega) c2; exact q2.2.1) | (have q0 := szDecl_len hv hf ha (by omega) c0; have q1 := szEnvS_len (by omega) c1; have q2 := szEnvS_len (by omega) c2; exact q2.1) | (have q0 := szDecl_len hv hf ha (by omega) c0; have q1 := szEnvS_len (by omega) c1; have q2 := szEnvS_len (by omega) c2; first | omega | (skip; first | omega | (simp only [Decl.marks, Env.marks, Env.mark, mkAll_len]; omega))) | (intro i hi; exact mkAll_get (mIv 1) _ (by simpa only [Env.mark, mkAll_len] using hi)) | (intro i hi; simp only [Env.mark, mkAll_len] at hi ⊢; exact mkAll_get _ _ hi)) (by first | assumption | omega | (have q0 := szDecl_len hv hf ha (by omega) c0; omega) | (have q0 := szDecl_len hv hf ha (by omega) c0; have q1 := szEnvS_len (by omega) c1; omega) | (have q0 := szDecl_len hv hf ha (by omega) c0; have q1 := szEnvS_len (by omega) c1; have q2 := szEnvS_len (by omega) c2; omega) | (have q0 := szDecl_len hv hf ha (by omega) c0; have q1 := szEnvS_len (by omega) c1; have q2 := szEnvS_len (by omega) c2; exact q1.2.1) | (have q0 := szDecl_len hv hf ha (by omega) c0; have q1 := szEnvS_len (by omega) c1; have q2 := szEnvS_len (by omega) c2; exact q1.1) | (have q0 := szDecl_len hv hf ha (by omega) c0; have q1 := szEnvS_len (by omega) c1; have q2 := szEnvS_len (by omega) c2; exact q2.2.1) | (have q0 := szDecl_len hv hf ha (by omega) c0; have q1 := szEnvS_len (by omega) c1; have q2 := szEnvS_len (by omega) c2; exact q2.1) | (have q0 := szDecl_len hv hf ha (by omega) c0; have q1 := szEnvS_len (by omega) c1; have q2 := szEnvS_len (by omega) c2; first | omega | (skip; first | omega | (simp only [Decl.marks, Env.marks, Env.mark, mkAll_len]; omega))) | (intro i hi; exact mkAll_get (mIv 1) _ (by simpa only [Env.mark, mkAll_len] using hi)) | (intro i hi; simp only [Env.mark, mkAll_len] at hi ⊢; exact mkAll_get _ _ hi)) (by first | assumption | omega | (have q0 := szDecl_len hv hf ha (by omega) c0; omega) | (have q0 := szDecl_len hv hf ha (by omega) c0; have q1 := szEnvS_len (by omega) c1; omega) | (have q0 := szDecl_len hv hf ha (by omega) c0; have q1 := szEnvS_len (by omega) c1; have q2 := szEnvS_len (by omega) c2; omega) | (have q0 := szDecl_len hv hf ha (by omega) c0; have q1 := szEnvS_len (by omega) c1; have q2 := szEnvS_len (by omega) c2; exact q1.2.1) | (have q0 := szDecl_len hv hf ha (by omega) c0; have q1 := szEnvS_len (by omega) c1; have q2 := szEnvS_len (by omega) c2; exact q1.1) | (have q0 := szDecl_len hv hf ha (by omega) c0; have q1 := szEnvS_len (by omega) c1; have q2 := szEnvS_len (by omega) c2; exact q2.2.1) | (have q0 := szDecl_len hv hf ha (by omega) c0; have q1 := szEnvS_len (by omega) c1; have q2 := szEnvS_len (by omega) c2; exact q2.1) | (have q0 := szDecl_len hv hf ha (by omega) c0; have q1 := szEnvS_len (by omega) c1; have q2 := szEnvS_len (by omega) c2; first | omega | (skip; first | omega | (simp only [Decl.marks, Env.marks, Env.mark, mkAll_len]; omega))) | (intro i hi; exact mkAll_get (mIv 1) _ (by simpa only [Env.mark, mkAll_len] using hi)) | (intro i hi; simp only [Env.mark, mkAll_len] at hi ⊢; exact mkAll_get _ _ hi))) rfl rfl rfl rfl rfl (.cons (Reads.d _).gives (.cons (Reads.d _).gives (.cons (Reads.d _).gives (.cons (Reads.d _).gives .nil)))) rfl rfl (fun h => absurd rfl h) (.own [15, 0] .nil) (.nil) rfl rfl rfl (by simp) rfl rfl rfl ?_
    refine .assign (.no rfl) rfl rfl rfl rfl ?_
    exact .fin () (.of (.cons rfl (.cons rfl (.cons rfl (.cons rfl .nil)))) (.cons rfl .nil))
  intro _
  refine .seq ?_
  refine .seq ?_
  refine .reg (X := Unit) (fun ζ => .of [(1, .one (.d (.sl false 54 3 (List.map Env.c54 (a))))), (2, .one (.d (.sl false 54 3 (List.map Env.c54 (b))))), (3, .one (.ptr [3] (g7) 0)), (7, .one (.d (.v (.int .i64 (szDecl d 1048576))))), (17, .one (.d (.v (.bool (decide ((szDecl d 1048576) < 0))))))] [([3], (g7, g7, .box [.d (.sl false 9 1 (List.map strc (d.vars))), .d (.sl false 9 1 (List.map strc (d.flags))), .d (.sl false 117 2 (List.map Arr.c (d.arrays)))]))]) [⟨[7], some 16, [], []⟩, ⟨[16], some 17, [], []⟩] (fun k10 => ?_) ?_
  · skip
    refine .move (.no rfl) rfl rfl rfl rfl ?_
    refine .bin (.no rfl) rfl rfl rfl rfl rfl rfl ?_
    exact .fin () (.of (.cons rfl (.cons rfl (.cons rfl (.cons rfl (.cons rfl .nil))))) (.cons rfl .nil))
  intro _
  refine .cond (t := decide ((szDecl d 1048576) < 0)) rfl (fun c0 => ?_) (fun c0 => ?_)
  · have c0 := of_decide_eq_true c0
    refine .seq ?_
    refine .reg (X := Unit) (fun ζ => .of [(6, .one (.d (.v (.bool (true)))))] []) [⟨[], some 6, [], []⟩] (fun k11 => ?_) ?_
    · skip
      refine .assign (.no rfl) rfl rfl rfl rfl ?_
      exact .fin () (.of (.cons rfl .nil) .nil)
    intro _
    refine .ret ?_
    show _ ∧ _
    exact ⟨.inr rfl, .done ⟨_, [], [], _, .one rfl .nil, .cons (Reads.d _).gives .nil, nodupB_ok rfl, by simp, (by simp)⟩⟩
  · have c0 := of_decide_eq_false c0
    refine .skip ?_
    refine .seq ?_
    refine .reg (X := Unit) (fun ζ => .of [(1, .one (.d (.sl false 54 3 (List.map Env.c54 (a))))), (2, .one (.d (.sl false 54 3 (List.map Env.c54 (b))))), (3, .one (.ptr [3] (g7) 0)), (7, .one (.d (.v (.int .i64 (szEnvS a (szDecl d 1048576))))))] [([3], (g7, g7, .box [.d (.sl false 9 1 (List.map strc (d.vars))), .d (.sl false 9 1 (List.map strc (d.flags))), .d (.sl false 117 2 (List.map Arr.c (d.arrays)))]))]) [⟨[1], some 18, [], []⟩, ⟨[7], some 19, [], []⟩, ⟨[18, 19], some 20, [], []⟩, ⟨[20], some 7, [], []⟩] (fun k12 => ?_) ?_
    · skip
      refine .move (.no rfl) rfl rfl rfl rfl ?_
      refine .move (.no rfl) rfl rfl rfl rfl ?_
      refine .call (.no rfl) rfl [] [] (c_szEnvS a (szDecl d 1048576) (by first | assumption | omega | (have q0 := szDecl_len hv hf ha (by omega) c0; omega) | (have q0 := szDecl_len hv hf ha (by omega) c0; have q1 := szEnvS_len (by omega) c1; omega) | (have q0 := szDecl_len hv hf ha (by omega) c0; have q1 := szEnvS_len (by omega) c1; have q2 := szEnvS_len (by omega) c2; omega) | (have q0 := szDecl_len hv hf ha (by omega) c0; have q1 := szEnvS_len (by omega) c1; have q2 := szEnvS_len (by omega) c2; exact q1.2.1) | (have q0 := szDecl_len hv hf ha (by omega) c0; have q1 := szEnvS_len (by omega) c1; have q2 := szEnvS_len (by omega) c2; exact q1.1) | (have q0 := szDecl_len hv hf ha (by omega) c0; have q1 := szEnvS_len (by omega) c1; have q2 := szEnvS_len (by omega) c2; exact q2.2.1) | (have q0 := szDecl_len hv hf ha (by omega) c0; have q1 := szEnvS_len (by omega) c1; have q2 := szEnvS_len (by omega) c2; exact q2.1) | (have q0 := szDecl_len hv hf ha (by omega) c0; have q1 := szEnvS_len (by omega) c1; have q2 := szEnvS_len (by omega) c2; first | omega | (skip; first | omega | (simp only [Decl.marks, Env.marks, Env.mark, mkAll_len]; omega))) | (intro i hi; exact mkAll_get (mIv 1) _ (by simpa only [Env.mark, mkAll_len] using hi)) | (intro i hi; simp only [Env.mark, mkAll_len] at hi ⊢; exact mkAll_get _ _ hi))) rfl rfl rfl rfl rfl (.cons (Reads.d _).gives (.cons (Reads.d _).gives .nil)) rfl rfl (fun h => absurd rfl h) (.own [20, 0] .nil) (.nil) rfl rfl rfl (by simp) rfl rfl rfl ?_
      refine .assign (.no rfl) rfl rfl rfl rfl ?_
      exact .fin () (.of (.cons rfl (.cons rfl (.cons rfl (.cons rfl .nil)))) (.cons rfl .nil))
    intro _
    refine .seq ?_
    refine .seq ?_
    refine .reg (X := Unit) (fun ζ => .of [(1, .one (.d (.sl false 54 3 (List.map Env.c54 (a))))), (2, .one (.d (.sl false 54 3 (List.map Env.c54 (b))))), (3, .one (.ptr [3] (g7) 0)), (7, .one (.d (.v (.int .i64 (szEnvS a (szDecl d 1048576)))))), (22, .one (.d (.v (.bool (decide ((szEnvS a (szDecl d 1048576)) < 0))))))] [([3], (g7, g7, .box [.d (.sl false 9 1 (List.map strc (d.vars))), .d (.sl false 9 1 (List.map strc (d.flags))), .d (.sl false 117 2 (List.map Arr.c (d.arrays)))]))]) [⟨[7], some 21, [], []⟩, ⟨[21], some 22, [], []⟩] (fun k13 => ?_) ?_
    · skip
      refine .move (.no rfl) rfl rfl rfl rfl ?_
      refine .bin (.no rfl) rfl rfl rfl rfl rfl rfl ?_
      exact .fin () (.of (.cons rfl (.cons rfl (.cons rfl (.cons rfl (.cons rfl .nil))))) (.cons rfl .nil))
    intro _
    refine .cond (t := decide ((szEnvS a (szDecl d 1048576)) < 0)) rfl (fun c1 => ?_) (fun c1 => ?_)
    · have c1 := of_decide_eq_true c1
      refine .seq ?_
      refine .reg (X := Unit) (fun ζ => .of [(6, .one (.d (.v (.bool (true)))))] []) [⟨[], some 6, [], []⟩] (fun k14 => ?_) ?_
      · skip
        refine .assign (.no rfl) rfl rfl rfl rfl ?_
        exact .fin () (.of (.cons rfl .nil) .nil)
      intro _
      refine .ret ?_
      show _ ∧ _
      exact ⟨.inr rfl, .done ⟨_, [], [], _, .one rfl .nil, .cons (Reads.d _).gives .nil, nodupB_ok rfl, by simp, (by simp)⟩⟩
    · have c1 := of_decide_eq_false c1
      refine .skip ?_
      refine .seq ?_
      refine .reg (X := Unit) (fun ζ => .of [(1, .one (.d (.sl false 54 3 (List.map Env.c54 (a))))), (2, .one (.d (.sl false 54 3 (List.map Env.c54 (b))))), (3, .one (.ptr [3] (g7) 0)), (7, .one (.d (.v (.int .i64 (szEnvS b (szEnvS a (szDecl d 1048576)))))))] [([3], (g7, g7, .box [.d (.sl false 9 1 (List.map strc (d.vars))), .d (.sl false 9 1 (List.map strc (d.flags))), .d (.sl false 117 2 (List.map Arr.c (d.arrays)))]))]) [⟨[2], some 23, [], []⟩, ⟨[7], some 24, [], []⟩, ⟨[23, 24], some 25, [], []⟩, ⟨[25], some 7, [], []⟩] (fun k15 => ?_) ?_
      · skip
        refine .move (.no rfl) rfl rfl rfl rfl ?_
        refine .move (.no rfl) rfl rfl rfl rfl ?_
        refine .call (.no rfl) rfl [] [] (c_szEnvS b (szEnvS a (szDecl d 1048576)) (by first | assumption | omega | (have q0 := szDecl_len hv hf ha (by omega) c0; omega) | (have q0 := szDecl_len hv hf ha (by omega) c0; have q1 := szEnvS_len (by omega) c1; omega) | (have q0 := szDecl_len hv hf ha (by omega) c0; have q1 := szEnvS_len (by omega) c1; have q2 := szEnvS_len (by omega) c2; omega) | (have q0 := szDecl_len hv hf ha (by omega) c0; have q1 := szEnvS_len (by omega) c1; have q2 := szEnvS_len (by omega) c2; exact q1.2.1) | (have q0 := szDecl_len hv hf ha (by omega) c0; have q1 := szEnvS_len (by omega) c1; have q2 := szEnvS_len (by omega) c2; exact q1.1) | (have q0 := szDecl_len hv hf ha (by omega) c0; have q1 := szEnvS_len (by omega) c1; have q2 := szEnvS_len (by omega) c2; exact q2.2.1) | (have q0 := szDecl_len hv hf ha (by omega) c0; have q1 := szEnvS_len (by omega) c1; have q2 := szEnvS_len (by omega) c2; exact q2.1) | (have q0 := szDecl_len hv hf ha (by omega) c0; have q1 := szEnvS_len (by omega) c1; have q2 := szEnvS_len (by omega) c2; first | omega | (skip; first | omega | (simp only [Decl.marks, Env.marks, Env.mark, mkAll_len]; omega))) | (intro i hi; exact mkAll_get (mIv 1) _ (by simpa only [Env.mark, mkAll_len] using hi)) | (intro i hi; simp only [Env.mark, mkAll_len] at hi ⊢; exact mkAll_get _ _ hi))) rfl rfl rfl rfl rfl (.cons (Reads.d _).gives (.cons (Reads.d _).gives .nil)) rfl rfl (fun h => absurd rfl h) (.own [25, 0] .nil) (.nil) rfl rfl rfl (by simp) rfl rfl rfl ?_
        refine .assign (.no rfl) rfl rfl rfl rfl ?_
        exact .fin () (.of (.cons rfl (.cons rfl (.cons rfl (.cons rfl .nil)))) (.cons rfl .nil))
      intro _
      refine .seq ?_
      refine .seq ?_
      refine .reg (X := Unit) (fun ζ => .of [(1, .one (.d (.sl false 54 3 (List.map Env.c54 (a))))), (2, .one (.d (.sl false 54 3 (List.map Env.c54 (b))))), (3, .one (.ptr [3] (g7) 0)), (27, .one (.d (.v (.bool (decide ((szEnvS b (szEnvS a (szDecl d 1048576))) < 0))))))] [([3], (g7, g7, .box [.d (.sl false 9 1 (List.map strc (d.vars))), .d (.sl false 9 1 (List.map strc (d.flags))), .d (.sl false 117 2 (List.map Arr.c (d.arrays)))]))]) [⟨[7], some 26, [], []⟩, ⟨[26], some 27, [], []⟩] (fun k16 => ?_) ?_
      · skip
        refine .move (.no rfl) rfl rfl rfl rfl ?_
        refine .bin (.no rfl) rfl rfl rfl rfl rfl rfl ?_
        exact .fin () (.of (.cons rfl (.cons rfl (.cons rfl (.cons rfl .nil)))) (.cons rfl .nil))
      intro _
      refine .cond (t := decide ((szEnvS b (szEnvS a (szDecl d 1048576))) < 0)) rfl (fun c2 => ?_) (fun c2 => ?_)
      · have c2 := of_decide_eq_true c2
        refine .seq ?_
        refine .reg (X := Unit) (fun ζ => .of [(6, .one (.d (.v (.bool (true)))))] []) [⟨[], some 6, [], []⟩] (fun k17 => ?_) ?_
        · skip
          refine .assign (.no rfl) rfl rfl rfl rfl ?_
          exact .fin () (.of (.cons rfl .nil) .nil)
        intro _
        refine .ret ?_
        show _ ∧ _
        exact ⟨.inr rfl, .done ⟨_, [], [], _, .one rfl .nil, .cons (Reads.d _).gives .nil, nodupB_ok rfl, by simp, (by simp)⟩⟩
      · have c2 := of_decide_eq_false c2
        refine .skip ?_
        refine .seq ?_
        refine .reg (X := Unit) (fun ζ => .of [(1, .one (.d (.sl false 54 3 (List.map Env.c54 (a))))), (2, .one (.d (.sl false 54 3 (List.map Env.c54 (b))))), (3, .one (.ptr [3] (g7) 0)), (8, .one (.d (.v (.bool (Table.leq d a b)))))] [([3], (g7, g7, .box [.d (.sl false 9 1 (List.map strc (d.vars))), .d (.sl false 9 1 (List.map strc (d.flags))), .d (.sl false 117 2 (List.map Arr.c (d.arrays)))]))]) [⟨[3], some 28, [[3]], []⟩, ⟨[28], some 29, [], [[29, 0], [29, 1], [29, 2]]⟩, ⟨[1], some 30, [], []⟩, ⟨[30], some 31, [], [[31, 0]]⟩, ⟨[2], some 32, [], []⟩, ⟨[32], some 33, [], [[33, 0]]⟩, ⟨[29, 31, 33], some 34, [[29, 0], [29, 1], [29, 2], [31, 0], [33, 0]], []⟩, ⟨[34], some 8, [], []⟩] (fun k18 => ?_) ?_
        · skip
          refine .load (.no rfl) rfl t41 rfl rfl (.ptr _ _ _ _ _ rfl) rfl rfl rfl rfl ?_
          refine .call (.no rfl) rfl [] [] (c_toDecl d (by first | assumption | omega | (have q0 := szDecl_len hv hf ha (by omega) c0; omega) | (have q0 := szDecl_len hv hf ha (by omega) c0; have q1 := szEnvS_len (by omega) c1; omega) | (have q0 := szDecl_len hv hf ha (by omega) c0; have q1 := szEnvS_len (by omega) c1; have q2 := szEnvS_len (by omega) c2; omega) | (have q0 := szDecl_len hv hf ha (by omega) c0; have q1 := szEnvS_len (by omega) c1; have q2 := szEnvS_len (by omega) c2; exact q1.2.1) | (have q0 := szDecl_len hv hf ha (by omega) c0; have q1 := szEnvS_len (by omega) c1; have q2 := szEnvS_len (by omega) c2; exact q1.1) | (have q0 := szDecl_len hv hf ha (by omega) c0; have q1 := szEnvS_len (by omega) c1; have q2 := szEnvS_len (by omega) c2; exact q2.2.1) | (have q0 := szDecl_len hv hf ha (by omega) c0; have q1 := szEnvS_len (by omega) c1; have q2 := szEnvS_len (by omega) c2; exact q2.1) | (have q0 := szDecl_len hv hf ha (by omega) c0; have q1 := szEnvS_len (by omega) c1; have q2 := szEnvS_len (by omega) c2; first | omega | (skip; first | omega | (simp only [Decl.marks, Env.marks, Env.mark, mkAll_len]; omega))) | (intro i hi; exact mkAll_get (mIv 1) _ (by simpa only [Env.mark, mkAll_len] using hi)) | (intro i hi; simp only [Env.mark, mkAll_len] at hi ⊢; exact mkAll_get _ _ hi))) rfl rfl rfl rfl rfl (.cons (Reads.d _).gives (.cons (Reads.d _).gives (.cons (Reads.d _).gives .nil))) rfl rfl (fun h => absurd rfl h) (.own [29, 0] (.own [29, 1] (.own [29, 2] .nil))) (.nil) rfl rfl rfl (by simp) rfl rfl rfl ?_
          refine .move (.no rfl) rfl rfl rfl rfl ?_
          refine .call (.no rfl) rfl [] [] (c_toEnvS a (by first | assumption | omega | (have q0 := szDecl_len hv hf ha (by omega) c0; omega) | (have q0 := szDecl_len hv hf ha (by omega) c0; have q1 := szEnvS_len (by omega) c1; omega) | (have q0 := szDecl_len hv hf ha (by omega) c0; have q1 := szEnvS_len (by omega) c1; have q2 := szEnvS_len (by omega) c2; omega) | (have q0 := szDecl_len hv hf ha (by omega) c0; have q1 := szEnvS_len (by omega) c1; have q2 := szEnvS_len (by omega) c2; exact q1.2.1) | (have q0 := szDecl_len hv hf ha (by omega) c0; have q1 := szEnvS_len (by omega) c1; have q2 := szEnvS_len (by omega) c2; exact q1.1) | (have q0 := szDecl_len hv hf ha (by omega) c0; have q1 := szEnvS_len (by omega) c1; have q2 := szEnvS_len (by omega) c2; exact q2.2.1) | (have q0 := szDecl_len hv hf ha (by omega) c0; have q1 := szEnvS_len (by omega) c1; have q2 := szEnvS_len (by omega) c2; exact q2.1) | (have q0 := szDecl_len hv hf ha (by omega) c0; have q1 := szEnvS_len (by omega) c1; have q2 := szEnvS_len (by omega) c2; first | omega | (skip; first | omega | (simp only [Decl.marks, Env.marks, Env.mark, mkAll_len]; omega))) | (intro i hi; exact mkAll_get (mIv 1) _ (by simpa only [Env.mark, mkAll_len] using hi)) | (intro i hi; simp only [Env.mark, mkAll_len] at hi ⊢; exact mkAll_get _ _ hi)) (by first | assumption | omega | (have q0 := szDecl_len hv hf ha (by omega) c0; omega) | (have q0 := szDecl_len hv hf ha (by omega) c0; have q1 := szEnvS_len (by omega) c1; omega) | (have q0 := szDecl_len hv hf ha (by omega) c0; have q1 := szEnvS_len (by omega) c1; have q2 := szEnvS_len (by omega) c2; omega) | (have q0 := szDecl_len hv hf ha (by omega) c0; have q1 := szEnvS_len (by omega) c1; have q2 := szEnvS_len (by omega) c2; exact q1.2.1) | (have q0 := szDecl_len hv hf ha (by omega) c0; have q1 := szEnvS_len (by omega) c1; have q2 := szEnvS_len (by omega) c2; exact q1.1) | (have q0 := szDecl_len hv hf ha (by omega) c0; have q1 := szEnvS_len (by omega) c1; have q2 := szEnvS_len (by omega) c2; exact q2.2.1) | (have q0 := szDecl_len hv hf ha (by omega) c0; have q1 := szEnvS_len (by omega) c1; have q2 := szEnvS_len (by omega) c2; exact q2.1) | (have q0 := szDecl_len hv hf ha (by omega) c0; have q1 := szEnvS_len (by omega) c1; have q2 := szEnvS_len (by omega) c2; first | omega | (skip; first | omega | (simp only [Decl.marks, Env.marks, Env.mark, mkAll_len]; omega))) | (intro i hi; exact mkAll_get (mIv 1) _ (by simpa only [Env.mark, mkAll_len] using hi)) | (intro i hi; simp only [Env.mark, mkAll_len] at hi ⊢; exact mkAll_get _ _ hi))) rfl rfl rfl rfl rfl (.cons (Reads.d _).gives .nil) rfl rfl (fun h => absurd rfl h) (.own [31, 0] .nil) (.nil) rfl rfl rfl (by simp) rfl rfl rfl ?_
          refine .move (.no rfl) rfl rfl rfl rfl ?_
          refine .call (.no rfl) rfl [] [] (c_toEnvS b (by first | assumption | omega | (have q0 := szDecl_len hv hf ha (by omega) c0; omega) | (have q0 := szDecl_len hv hf ha (by omega) c0; have q1 := szEnvS_len (by omega) c1; omega) | (have q0 := szDecl_len hv hf ha (by omega) c0; have q1 := szEnvS_len (by omega) c1; have q2 := szEnvS_len (by omega) c2; omega) | (have q0 := szDecl_len hv hf ha (by omega) c0; have q1 := szEnvS_len (by omega) c1; have q2 := szEnvS_len (by omega) c2; exact q1.2.1) | (have q0 := szDecl_len hv hf ha (by omega) c0; have q1 := szEnvS_len (by omega) c1; have q2 := szEnvS_len (by omega) c2; exact q1.1) | (have q0 := szDecl_len hv hf ha (by omega) c0; have q1 := szEnvS_len (by omega) c1; have q2 := szEnvS_len (by omega) c2; exact q2.2.1) | (have q0 := szDecl_len hv hf ha (by omega) c0; have q1 := szEnvS_len (by omega) c1; have q2 := szEnvS_len (by omega) c2; exact q2.1) | (have q0 := szDecl_len hv hf ha (by omega) c0; have q1 := szEnvS_len (by omega) c1; have q2 := szEnvS_len (by omega) c2; first | omega | (skip; first | omega | (simp only [Decl.marks, Env.marks, Env.mark, mkAll_len]; omega))) | (intro i hi; exact mkAll_get (mIv 1) _ (by simpa only [Env.mark, mkAll_len] using hi)) | (intro i hi; simp only [Env.mark, mkAll_len] at hi ⊢; exact mkAll_get _ _ hi)) (by first | assumption | omega | (have q0 := szDecl_len hv hf ha (by omega) c0; omega) | (have q0 := szDecl_len hv hf ha (by omega) c0; have q1 := szEnvS_len (by omega) c1; omega) | (have q0 := szDecl_len hv hf ha (by omega) c0; have q1 := szEnvS_len (by omega) c1; have q2 := szEnvS_len (by omega) c2; omega) | (have q0 := szDecl_len hv hf ha (by omega) c0; have q1 := szEnvS_len (by omega) c1; have q2 := szEnvS_len (by omega) c2; exact q1.2.1) | (have q0 := szDecl_len hv hf ha (by omega) c0; have q1 := szEnvS_len (by omega) c1; have q2 := szEnvS_len (by omega) c2; exact q1.1) | (have q0 := szDecl_len hv hf ha (by omega) c0; have q1 := szEnvS_len (by omega) c1; have q2 := szEnvS_len (by omega) c2; exact q2.2.1) | (have q0 := szDecl_len hv hf ha (by omega) c0; have q1 := szEnvS_len (by omega) c1; have q2 := szEnvS_len (by omega) c2; exact q2.1) | (have q0 := szDecl_len hv hf ha (by omega) c0; have q1 := szEnvS_len (by omega) c1; have q2 := szEnvS_len (by omega) c2; first | omega | (skip; first | omega | (simp only [Decl.marks, Env.marks, Env.mark, mkAll_len]; omega))) | (intro i hi; exact mkAll_get (mIv 1) _ (by simpa only [Env.mark, mkAll_len] using hi)) | (intro i hi; simp only [Env.mark, mkAll_len] at hi ⊢; exact mkAll_get _ _ hi))) rfl rfl rfl rfl rfl (.cons (Reads.d _).gives .nil) rfl rfl (fun h => absurd rfl h) (.own [33, 0] .nil) (.nil) rfl rfl rfl (by simp) rfl rfl rfl ?_
          refine .call (.no rfl) rfl [[29, 0], [29, 1], [29, 2], [31, 0], [33, 0]] [([29, 0], (k18 + 1, k18 + 1, .row 9 1 (List.map strc (d.vars)))), ([29, 1], (k18 + 1, k18 + 1, .row 9 1 (List.map strc (d.flags)))), ([29, 2], (k18 + 1, k18 + 1, .row 101 2 (List.map Arr.c (d.arrays)))), ([31, 0], (k18 + 1 + 1 + 1, k18 + 1 + 1 + 1, .row 30 3 (List.map Env.co30 (a)))), ([33, 0], (k18 + 1 + 1 + 1 + 1 + 1, k18 + 1 + 1 + 1 + 1 + 1, .row 30 3 (List.map Env.co30 (b))))] (c_sTableLeq d a b (by first | assumption | omega | (have q0 := szDecl_len hv hf ha (by omega) c0; omega) | (have q0 := szDecl_len hv hf ha (by omega) c0; have q1 := szEnvS_len (by omega) c1; omega) | (have q0 := szDecl_len hv hf ha (by omega) c0; have q1 := szEnvS_len (by omega) c1; have q2 := szEnvS_len (by omega) c2; omega) | (have q0 := szDecl_len hv hf ha (by omega) c0; have q1 := szEnvS_len (by omega) c1; have q2 := szEnvS_len (by omega) c2; exact q1.2.1) | (have q0 := szDecl_len hv hf ha (by omega) c0; have q1 := szEnvS_len (by omega) c1; have q2 := szEnvS_len (by omega) c2; exact q1.1) | (have q0 := szDecl_len hv hf ha (by omega) c0; have q1 := szEnvS_len (by omega) c1; have q2 := szEnvS_len (by omega) c2; exact q2.2.1) | (have q0 := szDecl_len hv hf ha (by omega) c0; have q1 := szEnvS_len (by omega) c1; have q2 := szEnvS_len (by omega) c2; exact q2.1) | (have q0 := szDecl_len hv hf ha (by omega) c0; have q1 := szEnvS_len (by omega) c1; have q2 := szEnvS_len (by omega) c2; first | omega | (skip; first | omega | (simp only [Decl.marks, Env.marks, Env.mark, mkAll_len]; omega))) | (intro i hi; exact mkAll_get (mIv 1) _ (by simpa only [Env.mark, mkAll_len] using hi)) | (intro i hi; simp only [Env.mark, mkAll_len] at hi ⊢; exact mkAll_get _ _ hi)) (by first | assumption | omega | (have q0 := szDecl_len hv hf ha (by omega) c0; omega) | (have q0 := szDecl_len hv hf ha (by omega) c0; have q1 := szEnvS_len (by omega) c1; omega) | (have q0 := szDecl_len hv hf ha (by omega) c0; have q1 := szEnvS_len (by omega) c1; have q2 := szEnvS_len (by omega) c2; omega) | (have q0 := szDecl_len hv hf ha (by omega) c0; have q1 := szEnvS_len (by omega) c1; have q2 := szEnvS_len (by omega) c2; exact q1.2.1) | (have q0 := szDecl_len hv hf ha (by omega) c0; have q1 := szEnvS_len (by omega) c1; have q2 := szEnvS_len (by omega) c2; exact q1.1) | (have q0 := szDecl_len hv hf ha (by omega) c0; have q1 := szEnvS_len (by omega) c1; have q2 := szEnvS_len (by omega) c2; exact q2.2.1) | (have q0 := szDecl_len hv hf ha (by omega) c0; have q1 := szEnvS_len (by omega) c1; have q2 := szEnvS_len (by omega) c2; exact q2.1) | (have q0 := szDecl_len hv hf ha (by omega) c0; have q1 := szEnvS_len (by omega) c1; have q2 := szEnvS_len (by omega) c2; first | omega | (skip; first | omega | (simp only [Decl.marks, Env.marks, Env.mark, mkAll_len]; omega))) | (intro i hi; exact mkAll_get (mIv 1) _ (by simpa only [Env.mark, mkAll_len] using hi)) | (intro i hi; simp only [Env.mark, mkAll_len] at hi ⊢; exact mkAll_get _ _ hi)) (by first | assumption | omega | (have q0 := szDecl_len hv hf ha (by omega) c0; omega) | (have q0 := szDecl_len hv hf ha (by omega) c0; have q1 := szEnvS_len (by omega) c1; omega) | (have q0 := szDecl_len hv hf ha (by omega) c0; have q1 := szEnvS_len (by omega) c1; have q2 := szEnvS_len (by omega) c2; omega) | (have q0 := szDecl_len hv hf ha (by omega) c0; have q1 := szEnvS_len (by omega) c1; have q2 := szEnvS_len (by omega) c2; exact q1.2.1) | (have q0 := szDecl_len hv hf ha (by omega) c0; have q1 := szEnvS_len (by omega) c1; have q2 := szEnvS_len (by omega) c2; exact q1.1) | (have q0 := szDecl_len hv hf ha (by omega) c0; have q1 := szEnvS_len (by omega) c1; have q2 := szEnvS_len (by omega) c2; exact q2.2.1) | (have q0 := szDecl_len hv hf ha (by omega) c0; have q1 := szEnvS_len (by omega) c1; have q2 := szEnvS_len (by omega) c2; exact q2.1) | (have q0 := szDecl_len hv hf ha (by omega) c0; have q1 := szEnvS_len (by omega) c1; have q2 := szEnvS_len (by omega) c2; first | omega | (skip; first | omega | (simp only [Decl.marks, Env.marks, Env.mark, mkAll_len]; omega))) | (intro i hi; exact mkAll_get (mIv 1) _ (by simpa only [Env.mark, mkAll_len] using hi)) | (intro i hi; simp only [Env.mark, mkAll_len] at hi ⊢; exact mkAll_get _ _ hi)) (by first | assumption | omega | (have q0 := szDecl_len hv hf ha (by omega) c0; omega) | (have q0 := szDecl_len hv hf ha (by omega) c0; have q1 := szEnvS_len (by omega) c1; omega) | (have q0 := szDecl_len hv hf ha (by omega) c0; have q1 := szEnvS_len (by omega) c1; have q2 := szEnvS_len (by omega) c2; omega) | (have q0 := szDecl_len hv hf ha (by omega) c0; have q1 := szEnvS_len (by omega) c1; have q2 := szEnvS_len (by omega) c2; exact q1.2.1) | (have q0 := szDecl_len hv hf ha (by omega) c0; have q1 := szEnvS_len (by omega) c1; have q2 := szEnvS_len (by omega) c2; exact q1.1) | (have q0 := szDecl_len hv hf ha (by omega) c0; have q1 := szEnvS_len (by omega) c1; have q2 := szEnvS_len (by omega) c2; exact q2.2.1) | (have q0 := szDecl_len hv hf ha (by omega) c0; have q1 := szEnvS_len (by omega) c1; have q2 := szEnvS_len (by omega) c2; exact q2.1) | (have q0 := szDecl_len hv hf ha (by omega) c0; have q1 := szEnvS_len (by omega) c1; have q2 := szEnvS_len (by omega) c2; first | omega | (skip; first | omega | (simp only [Decl.marks, Env.marks, Env.mark, mkAll_len]; omega))) | (intro i hi; exact mkAll_get (mIv 1) _ (by simpa only [Env.mark, mkAll_len] using hi)) | (intro i hi; simp only [Env.mark, mkAll_len] at hi ⊢; exact mkAll_get _ _ hi)) (by first | assumption | omega | (have q0 := szDecl_len hv hf ha (by omega) c0; omega) | (have q0 := szDecl_len hv hf ha (by omega) c0; have q1 := szEnvS_len (by omega) c1; omega) | (have q0 := szDecl_len hv hf ha (by omega) c0; have q1 := szEnvS_len (by omega) c1; have q2 := szEnvS_len (by omega) c2; omega) | (have q0 := szDecl_len hv hf ha (by omega) c0; have q1 := szEnvS_len (by omega) c1; have q2 := szEnvS_len (by omega) c2; exact q1.2.1) | (have q0 := szDecl_len hv hf ha (by omega) c0; have q1 := szEnvS_len (by omega) c1; have q2 := szEnvS_len (by omega) c2; exact q1.1) | (have q0 := szDecl_len hv hf ha (by omega) c0; have q1 := szEnvS_len (by omega) c1; have q2 := szEnvS_len (by omega) c2; exact q2.2.1) | (have q0 := szDecl_len hv hf ha (by omega) c0; have q1 := szEnvS_len (by omega) c1; have q2 := szEnvS_len (by omega) c2; exact q2.1) | (have q0 := szDecl_len hv hf ha (by omega) c0; have q1 := szEnvS_len (by omega) c1; have q2 := szEnvS_len (by omega) c2; first | omega | (skip; first | omega | (simp only [Decl.marks, Env.marks, Env.mark, mkAll_len]; omega))) | (intro i hi; exact mkAll_get (mIv 1) _ (by simpa only [Env.mark, mkAll_len] using hi)) | (intro i hi; simp only [Env.mark, mkAll_len] at hi ⊢; exact mkAll_get _ _ hi))) rfl rfl rfl rfl rfl (.cons (Reads.ref (Frz.of_erase (erase_slo _ _ _ _ _ _ strc_e)) (.head _) (.head _)).gives (.cons (Reads.ref (Frz.of_erase (erase_slo _ _ _ _ _ _ strc_e)) (.tail _ (.head _)) (.tail _ (.head _))).gives (.cons (Reads.ref (Frz.of_erase (erase_slo _ _ _ _ _ _ Arr.c_e)) (.tail _ (.tail _ (.head _))) (.tail _ (.tail _ (.head _)))).gives (.cons (Reads.ref (Frz.of_erase (erase_slo _ _ _ _ _ _ Env.co30_e)) (.tail _ (.tail _ (.tail _ (.head _)))) (.tail _ (.tail _ (.tail _ (.head _))))).gives (.cons (Reads.ref (Frz.of_erase (erase_slo _ _ _ _ _ _ Env.co30_e)) (.tail _ (.tail _ (.tail _ (.tail _ (.head _))))) (.tail _ (.tail _ (.tail _ (.tail _ (.head _)))))).gives .nil))))) rfl rfl (fun _ => (ownCons (Owned.v _) ownNil)) (.own [34, 0] .nil) (.nil) rfl rfl rfl (AllH.get (.cons rfl (.cons rfl (.cons rfl (.cons rfl (.cons rfl .nil)))))) rfl rfl rfl ?_
          refine .assign (.no rfl) rfl rfl rfl rfl ?_
          exact .fin () (.of (.cons rfl (.cons rfl (.cons rfl (.cons rfl .nil)))) (.cons rfl .nil))
        intro _
        refine .seq ?_
        refine .reg (X := Nat × Nat × Nat) (fun ζ => .of [(1, .one (.d (.sl false 54 3 (List.map Env.c54 (a))))), (2, .one (.d (.sl false 54 3 (List.map Env.c54 (b))))), (3, .one (.ptr [3] (g7) 0)), (8, .one (.d (.v (.bool (Table.leq d a b))))), (9, .one (.ptr [9] (ζ.1) 0))] [([3], (g7, g7, .box [.d (.sl false 9 1 (List.map strc (d.vars))), .d (.sl false 9 1 (List.map strc (d.flags))), .d (.sl false 117 2 (List.map Arr.c (d.arrays)))])), ([9], (ζ.1, ζ.2.1, .box [.ref [36, 0] (ζ.2.2), .ref [36, 1] (ζ.2.2), .ref [36, 2] (ζ.2.2)])), ([36, 0], (ζ.2.2, ζ.2.2, .row 9 1 (List.map strc (d.vars)))), ([36, 1], (ζ.2.2, ζ.2.2, .row 9 1 (List.map strc (d.flags)))), ([36, 2], (ζ.2.2, ζ.2.2, .row 101 2 (List.map Arr.c (d.arrays))))]) [⟨[3], some 35, [[3]], []⟩, ⟨[35], some 36, [], [[36, 0], [36, 1], [36, 2]]⟩, ⟨[], some 9, [], [[9]]⟩, ⟨[9, 36], none, [[9]], [[9]]⟩] (fun k19 => ?_) ?_
        · skip
          refine .load (.no rfl) rfl t41 rfl rfl (.ptr _ _ _ _ _ rfl) rfl rfl rfl rfl ?_
          refine .call (.no rfl) rfl [] [] (c_toDecl d (by first | assumption | omega | (have q0 := szDecl_len hv hf ha (by omega) c0; omega) | (have q0 := szDecl_len hv hf ha (by omega) c0; have q1 := szEnvS_len (by omega) c1; omega) | (have q0 := szDecl_len hv hf ha (by omega) c0; have q1 := szEnvS_len (by omega) c1; have q2 := szEnvS_len (by omega) c2; omega) | (have q0 := szDecl_len hv hf ha (by omega) c0; have q1 := szEnvS_len (by omega) c1; have q2 := szEnvS_len (by omega) c2; exact q1.2.1) | (have q0 := szDecl_len hv hf ha (by omega) c0; have q1 := szEnvS_len (by omega) c1; have q2 := szEnvS_len (by omega) c2; exact q1.1) | (have q0 := szDecl_len hv hf ha (by omega) c0; have q1 := szEnvS_len (by omega) c1; have q2 := szEnvS_len (by omega) c2; exact q2.2.1) | (have q0 := szDecl_len hv hf ha (by omega) c0; have q1 := szEnvS_len (by omega) c1; have q2 := szEnvS_len (by omega) c2; exact q2.1) | (have q0 := szDecl_len hv hf ha (by omega) c0; have q1 := szEnvS_len (by omega) c1; have q2 := szEnvS_len (by omega) c2; first | omega | (skip; first | omega | (simp only [Decl.marks, Env.marks, Env.mark, mkAll_len]; omega))) | (intro i hi; exact mkAll_get (mIv 1) _ (by simpa only [Env.mark, mkAll_len] using hi)) | (intro i hi; simp only [Env.mark, mkAll_len] at hi ⊢; exact mkAll_get _ _ hi))) rfl rfl rfl rfl rfl (.cons (Reads.d _).gives (.cons (Reads.d _).gives (.cons (Reads.d _).gives .nil))) rfl rfl (fun h => absurd rfl h) (.own [36, 0] (.own [36, 1] (.own [36, 2] .nil))) (.nil) rfl rfl rfl (by simp) rfl rfl rfl ?_
          refine .alloc (.no rfl) rfl z27 rfl rfl rfl ?_
          refine .store (.no rfl) rfl t27 rfl rfl rfl rfl rfl rfl rfl rfl rfl ?_
          exact .fin (k19 + 1 + 1, k19 + 1 + 1 + 1, k19 + 1) (.of (.cons rfl (.cons rfl (.cons rfl (.cons rfl (.cons rfl .nil))))) (.cons rfl (.cons rfl (.cons rfl (.cons rfl (.cons rfl .nil))))))
        rintro ⟨g20, g21, g22⟩
        refine .seq ?_
        refine .reg (X := Nat) (fun ζ => .of [(1, .one (.d (.sl false 54 3 (List.map Env.c54 (a))))), (2, .one (.d (.sl false 54 3 (List.map Env.c54 (b))))), (3, .one (.ptr [3] (g7) 0)), (8, .one (.d (.v (.bool (Table.leq d a b))))), (9, .one (.ptr [9] (g20) 0)), (10, .one (.ref [38, 0] (ζ)))] [([3], (g7, g7, .box [.d (.sl false 9 1 (List.map strc (d.vars))), .d (.sl false 9 1 (List.map strc (d.flags))), .d (.sl false 117 2 (List.map Arr.c (d.arrays)))])), ([9], (g20, g21, .box [.ref [36, 0] (g22), .ref [36, 1] (g22), .ref [36, 2] (g22)])), ([36, 0], (g22, g22, .row 9 1 (List.map strc (d.vars)))), ([36, 1], (g22, g22, .row 9 1 (List.map strc (d.flags)))), ([36, 2], (g22, g22, .row 101 2 (List.map Arr.c (d.arrays)))), ([38, 0], (ζ, ζ, .row 30 3 (List.map Env.co30 (a))))]) [⟨[1], some 37, [], []⟩, ⟨[37], some 38, [], [[38, 0]]⟩, ⟨[38], some 10, [], []⟩] (fun k23 => ?_) ?_
        · skip
          refine .move (.no rfl) rfl rfl rfl rfl ?_
          refine .call (.no rfl) rfl [] [] (c_toEnvS a (by first | assumption | omega | (have q0 := szDecl_len hv hf ha (by omega) c0; omega) | (have q0 := szDecl_len hv hf ha (by omega) c0; have q1 := szEnvS_len (by omega) c1; omega) | (have q0 := szDecl_len hv hf ha (by omega) c0; have q1 := szEnvS_len (by omega) c1; have q2 := szEnvS_len (by omega) c2; omega) | (have q0 := szDecl_len hv hf ha (by omega) c0; have q1 := szEnvS_len (by omega) c1; have q2 := szEnvS_len (by omega) c2; exact q1.2.1) | (have q0 := szDecl_len hv hf ha (by omega) c0; have q1 := szEnvS_len (by omega) c1; have q2 := szEnvS_len (by omega) c2; exact q1.1) | (have q0 := szDecl_len hv hf ha (by omega) c0; have q1 := szEnvS_len (by omega) c1; have q2 := szEnvS_len (by omega) c2; exact q2.2.1) | (have q0 := szDecl_len hv hf ha (by omega) c0; have q1 := szEnvS_len (by omega) c1; have q2 := szEnvS_len (by omega) c2; exact q2.1) | (have q0 := szDecl_len hv hf ha (by omega) c0; have q1 := szEnvS_len (by omega) c1; have q2 := szEnvS_len (by omega) c2; first | omega | (skip; first | omega | (simp only [Decl.marks, Env.marks, Env.mark, mkAll_len]; omega))) | (intro i hi; exact mkAll_get (mIv 1) _ (by simpa only [Env.mark, mkAll_len] using hi)) | (intro i hi; simp only [Env.mark, mkAll_len] at hi ⊢; exact mkAll_get _ _ hi)) (by first | assumption | omega | (have q0 := szDecl_len hv hf ha (by omega) c0; omega) | (have q0 := szDecl_len hv hf ha (by omega) c0; have q1 := szEnvS_len (by omega) c1; omega) | (have q0 := szDecl_len hv hf ha (by omega) c0; have q1 := szEnvS_len (by omega) c1; have q2 := szEnvS_len (by omega) c2; omega) | (have q0 := szDecl_len hv hf ha (by omega) c0; have q1 := szEnvS_len (by omega) c1; have q2 := szEnvS_len (by omega) c2; exact q1.2.1) | (have q0 := szDecl_len hv hf ha (by omega) c0; have q1 := szEnvS_len (by omega) c1; have q2 := szEnvS_len (by omega) c2; exact q1.1) | (have q0 := szDecl_len hv hf ha (by omega) c0; have q1 := szEnvS_len (by omega) c1; have q2 := szEnvS_len (by omega) c2; exact q2.2.1) | (have q0 := szDecl_len hv hf ha (by omega) c0; have q1 := szEnvS_len (by omega) c1; have q2 := szEnvS_len (by omega) c2; exact q2.1) | (have q0 := szDecl_len hv hf ha (by omega) c0; have q1 := szEnvS_len (by omega) c1; have q2 := szEnvS_len (by omega) c2; first | omega | (skip; first | omega | (simp only [Decl.marks, Env.marks, Env.mark, mkAll_len]; omega))) | (intro i hi; exact mkAll_get (mIv 1) _ (by simpa only [Env.mark, mkAll_len] using hi)) | (intro i hi; simp only [Env.mark, mkAll_len] at hi ⊢; exact mkAll_get _ _ hi))) rfl rfl rfl rfl rfl (.cons (Reads.d _).gives .nil) rfl rfl (fun h => absurd rfl h) (.own [38, 0] .nil) (.nil) rfl rfl rfl (by simp) rfl rfl rfl ?_
          refine .assign (.no rfl) rfl rfl rfl rfl ?_
          exact .fin (k23 + 1) (.of (.cons rfl (.cons rfl (.cons rfl (.cons rfl (.cons rfl (.cons rfl .nil)))))) (.cons rfl (.cons rfl (.cons rfl (.cons rfl (.cons rfl (.cons rfl .nil)))))))
        intro g24
        refine .seq ?_
        refine .reg (X := Nat) (fun ζ => .of [(1, .one (.d (.sl false 54 3 (List.map Env.c54 (a))))), (2, .one (.d (.sl false 54 3 (List.map Env.c54 (b))))), (3, .one (.ptr [3] (g7) 0)), (8, .one (.d (.v (.bool (Table.leq d a b))))), (9, .one (.ptr [9] (g20) 0)), (10, .one (.ref [38, 0] (g24))), (11, .one (.ref [40, 0] (ζ)))] [([3], (g7, g7, .box [.d (.sl false 9 1 (List.map strc (d.vars))), .d (.sl false 9 1 (List.map strc (d.flags))), .d (.sl false 117 2 (List.map Arr.c (d.arrays)))])), ([9], (g20, g21, .box [.ref [36, 0] (g22), .ref [36, 1] (g22), .ref [36, 2] (g22)])), ([36, 0], (g22, g22, .row 9 1 (List.map strc (d.vars)))), ([36, 1], (g22, g22, .row 9 1 (List.map strc (d.flags)))), ([36, 2], (g22, g22, .row 101 2 (List.map Arr.c (d.arrays)))), ([38, 0], (g24, g24, .row 30 3 (List.map Env.co30 (a)))), ([40, 0], (ζ, ζ, .row 30 3 (List.map Env.co30 (b))))]) [⟨[2], some 39, [], []⟩, ⟨[39], some 40, [], [[40, 0]]⟩, ⟨[40], some 11, [], []⟩] (fun k25 => ?_) ?_
        · skip
          refine .move (.no rfl) rfl rfl rfl rfl ?_
          refine .call (.no rfl) rfl [] [] (c_toEnvS b (by first | assumption | omega | (have q0 := szDecl_len hv hf ha (by omega) c0; omega) | (have q0 := szDecl_len hv hf ha (by omega) c0; have q1 := szEnvS_len (by omega) c1; omega) | (have q0 := szDecl_len hv hf ha (by omega) c0; have q1 := szEnvS_len (by omega) c1; have q2 := szEnvS_len (by omega) c2; omega) | (have q0 := szDecl_len hv hf ha (by omega) c0; have q1 := szEnvS_len (by omega) c1; have q2 := szEnvS_len (by omega) c2; exact q1.2.1) | (have q0 := szDecl_len hv hf ha (by omega) c0; have q1 := szEnvS_len (by omega) c1; have q2 := szEnvS_len (by omega) c2; exact q1.1) | (have q0 := szDecl_len hv hf ha (by omega) c0; have q1 := szEnvS_len (by omega) c1; have q2 := szEnvS_len (by omega) c2; exact q2.2.1) | (have q0 := szDecl_len hv hf ha (by omega) c0; have q1 := szEnvS_len (by omega) c1; have q2 := szEnvS_len (by omega) c2; exact q2.1) | (have q0 := szDecl_len hv hf ha (by omega) c0; have q1 := szEnvS_len (by omega) c1; have q2 := szEnvS_len (by omega) c2; first | omega | (skip; first | omega | (simp only [Decl.marks, Env.marks, Env.mark, mkAll_len]; omega))) | (intro i hi; exact mkAll_get (mIv 1) _ (by simpa only [Env.mark, mkAll_len] using hi)) | (intro i hi; simp only [Env.mark, mkAll_len] at hi ⊢; exact mkAll_get _ _ hi)) (by first | assumption | omega | (have q0 := szDecl_len hv hf ha (by omega) c0; omega) | (have q0 := szDecl_len hv hf ha (by omega) c0; have q1 := szEnvS_len (by omega) c1; omega) | (have q0 := szDecl_len hv hf ha (by omega) c0; have q1 := szEnvS_len (by omega) c1; have q2 := szEnvS_len (by omega) c2; omega) | (have q0 := szDecl_len hv hf ha (by omega) c0; have q1 := szEnvS_len (by omega) c1; have q2 := szEnvS_len (by omega) c2; exact q1.2.1) | (have q0 := szDecl_len hv hf ha (by omega) c0; have q1 := szEnvS_len (by omega) c1; have q2 := szEnvS_len (by omega) c2; exact q1.1) | (have q0 := szDecl_len hv hf ha (by omega) c0; have q1 := szEnvS_len (by omega) c1; have q2 := szEnvS_len (by omega) c2; exact q2.2.1) | (have q0 := szDecl_len hv hf ha (by omega) c0; have q1 := szEnvS_len (by omega) c1; have q2 := szEnvS_len (by omega) c2; exact q2.1) | (have q0 := szDecl_len hv hf ha (by omega) c0; have q1 := szEnvS_len (by omega) c1; have q2 := szEnvS_len (by omega) c2; first | omega | (skip; first | omega | (simp only [Decl.marks, Env.marks, Env.mark, mkAll_len]; omega))) | (intro i hi; exact mkAll_get (mIv 1) _ (by simpa only [Env.mark, mkAll_len] using hi)) | (intro i hi; simp only [Env.mark, mkAll_len] at hi ⊢; exact mkAll_get _ _ hi))) rfl rfl rfl rfl rfl (.cons (Reads.d _).gives .nil) rfl rfl (fun h => absurd rfl h) (.own [40, 0] .nil) (.nil) rfl rfl rfl (by simp) rfl rfl rfl ?_
          refine .assign (.no rfl) rfl rfl rfl rfl ?_
          exact .fin (k25 + 1) (.of (.cons rfl (.cons rfl (.cons rfl (.cons rfl (.cons rfl (.cons rfl (.cons rfl .nil))))))) (.cons rfl (.cons rfl (.cons rfl (.cons rfl (.cons rfl (.cons rfl (.cons rfl .nil))))))))
        intro g26
        refine .seq ?_
        refine .reg (X := Unit) (fun ζ => .of [(1, .one (.d (.sl false 54 3 (List.map Env.c54 (a))))), (2, .one (.d (.sl false 54 3 (List.map Env.c54 (b))))), (3, .one (.ptr [3] (g7) 0)), (8, .one (.d (.v (.bool (Table.leq d a b))))), (9, .one (.ptr [9] (g20) 0)), (10, .one (.ref [38, 0] (g24))), (11, .one (.ref [40, 0] (g26))), (12, .one (.d (.v (.bool (Table.leq d a b)))))] [([3], (g7, g7, .box [.d (.sl false 9 1 (List.map strc (d.vars))), .d (.sl false 9 1 (List.map strc (d.flags))), .d (.sl false 117 2 (List.map Arr.c (d.arrays)))])), ([9], (g20, g21, .box [.ref [36, 0] (g22), .ref [36, 1] (g22), .ref [36, 2] (g22)])), ([36, 0], (g22, g22, .row 9 1 (List.map strc (d.vars)))), ([36, 1], (g22, g22, .row 9 1 (List.map strc (d.flags)))), ([36, 2], (g22, g22, .row 101 2 (List.map Arr.c (d.arrays)))), ([38, 0], (g24, g24, .row 30 3 (List.map Env.co30 (a)))), ([40, 0], (g26, g26, .row 30 3 (List.map Env.co30 (b))))]) [⟨[9], some 41, [[9]], []⟩, ⟨[10], some 42, [], []⟩, ⟨[11], some 43, [], []⟩, ⟨[41, 42, 43], some 44, [[36, 0], [36, 1], [36, 2], [38, 0], [40, 0]], []⟩, ⟨[44], some 12, [], []⟩] (fun k27 => ?_) ?_
        · skip
          refine .load (.no rfl) rfl t27 rfl rfl (.ptr _ _ _ _ _ rfl) rfl rfl rfl rfl ?_
          refine .move (.no rfl) rfl rfl rfl rfl ?_
          refine .move (.no rfl) rfl rfl rfl rfl ?_
          refine .call (.no rfl) rfl [[36, 0], [36, 1], [36, 2], [38, 0], [40, 0]] [([36, 0], (g22, g22, .row 9 1 (List.map strc (d.vars)))), ([36, 1], (g22, g22, .row 9 1 (List.map strc (d.flags)))), ([36, 2], (g22, g22, .row 101 2 (List.map Arr.c (d.arrays)))), ([38, 0], (g24, g24, .row 30 3 (List.map Env.co30 (a)))), ([40, 0], (g26, g26, .row 30 3 (List.map Env.co30 (b))))] (c_TableLeq d a b (by first | assumption | omega | (have q0 := szDecl_len hv hf ha (by omega) c0; omega) | (have q0 := szDecl_len hv hf ha (by omega) c0; have q1 := szEnvS_len (by omega) c1; omega) | (have q0 := szDecl_len hv hf ha (by omega) c0; have q1 := szEnvS_len (by omega) c1; have q2 := szEnvS_len (by omega) c2; omega) | (have q0 := szDecl_len hv hf ha (by omega) c0; have q1 := szEnvS_len (by omega) c1; have q2 := szEnvS_len (by omega) c2; exact q1.2.1) | (have q0 := szDecl_len hv hf ha (by omega) c0; have q1 := szEnvS_len (by omega) c1; have q2 := szEnvS_len (by omega) c2; exact q1.1) | (have q0 := szDecl_len hv hf ha (by omega) c0; have q1 := szEnvS_len (by omega) c1; have q2 := szEnvS_len (by omega) c2; exact q2.2.1) | (have q0 := szDecl_len hv hf ha (by omega) c0; have q1 := szEnvS_len (by omega) c1; have q2 := szEnvS_len (by omega) c2; exact q2.1) | (have q0 := szDecl_len hv hf ha (by omega) c0; have q1 := szEnvS_len (by omega) c1; have q2 := szEnvS_len (by omega) c2; first | omega | (skip; first | omega | (simp only [Decl.marks, Env.marks, Env.mark, mkAll_len]; omega))) | (intro i hi; exact mkAll_get (mIv 1) _ (by simpa only [Env.mark, mkAll_len] using hi)) | (intro i hi; simp only [Env.mark, mkAll_len] at hi ⊢; exact mkAll_get _ _ hi)) (by first | assumption | omega | (have q0 := szDecl_len hv hf ha (by omega) c0; omega) | (have q0 := szDecl_len hv hf ha (by omega) c0; have q1 := szEnvS_len (by omega) c1; omega) | (have q0 := szDecl_len hv hf ha (by omega) c0; have q1 := szEnvS_len (by omega) c1; have q2 := szEnvS_len (by omega) c2; omega) | (have q0 := szDecl_len hv hf ha (by omega) c0; have q1 := szEnvS_len (by omega) c1; have q2 := szEnvS_len (by omega) c2; exact q1.2.1) | (have q0 := szDecl_len hv hf ha (by omega) c0; have q1 := szEnvS_len (by omega) c1; have q2 := szEnvS_len (by omega) c2; exact q1.1) | (have q0 := szDecl_len hv hf ha (by omega) c0; have q1 := szEnvS_len (by omega) c1; have q2 := szEnvS_len (by omega) c2; exact q2.2.1) | (have q0 := szDecl_len hv hf ha (by omega) c0; have q1 := szEnvS_len (by omega) c1; have q2 := szEnvS_len (by omega) c2; exact q2.1) | (have q0 := szDecl_len hv hf ha (by omega) c0; have q1 := szEnvS_len (by omega) c1; have q2 := szEnvS_len (by omega) c2; first | omega | (skip; first | omega | (simp only [Decl.marks, Env.marks, Env.mark, mkAll_len]; omega))) | (intro i hi; exact mkAll_get (mIv 1) _ (by simpa only [Env.mark, mkAll_len] using hi)) | (intro i hi; simp only [Env.mark, mkAll_len] at hi ⊢; exact mkAll_get _ _ hi)) (by first | assumption | omega | (have q0 := szDecl_len hv hf ha (by omega) c0; omega) | (have q0 := szDecl_len hv hf ha (by omega) c0; have q1 := szEnvS_len (by omega) c1; omega) | (have q0 := szDecl_len hv hf ha (by omega) c0; have q1 := szEnvS_len (by omega) c1; have q2 := szEnvS_len (by omega) c2; omega) | (have q0 := szDecl_len hv hf ha (by omega) c0; have q1 := szEnvS_len (by omega) c1; have q2 := szEnvS_len (by omega) c2; exact q1.2.1) | (have q0 := szDecl_len hv hf ha (by omega) c0; have q1 := szEnvS_len (by omega) c1; have q2 := szEnvS_len (by omega) c2; exact q1.1) | (have q0 := szDecl_len hv hf ha (by omega) c0; have q1 := szEnvS_len (by omega) c1; have q2 := szEnvS_len (by omega) c2; exact q2.2.1) | (have q0 := szDecl_len hv hf ha (by omega) c0; have q1 := szEnvS_len (by omega) c1; have q2 := szEnvS_len (by omega) c2; exact q2.1) | (have q0 := szDecl_len hv hf ha (by omega) c0; have q1 := szEnvS_len (by omega) c1; have q2 := szEnvS_len (by omega) c2; first | omega | (skip; first | omega | (simp only [Decl.marks, Env.marks, Env.mark, mkAll_len]; omega))) | (intro i hi; exact mkAll_get (mIv 1) _ (by simpa only [Env.mark, mkAll_len] using hi)) | (intro i hi; simp only [Env.mark, mkAll_len] at hi ⊢; exact mkAll_get _ _ hi)) (by first | assumption | omega | (have q0 := szDecl_len hv hf ha (by omega) c0; omega) | (have q0 := szDecl_len hv hf ha (by omega) c0; have q1 := szEnvS_len (by omega) c1; omega) | (have q0 := szDecl_len hv hf ha (by omega) c0; have q1 := szEnvS_len (by omega) c1; have q2 := szEnvS_len (by omega) c2; omega) | (have q0 := szDecl_len hv hf ha (by omega) c0; have q1 := szEnvS_len (by omega) c1; have q2 := szEnvS_len (by omega) c2; exact q1.2.1) | (have q0 := szDecl_len hv hf ha (by omega) c0; have q1 := szEnvS_len (by omega) c1; have q2 := szEnvS_len (by omega) c2; exact q1.1) | (have q0 := szDecl_len hv hf ha (by omega) c0; have q1 := szEnvS_len (by omega) c1; have q2 := szEnvS_len (by omega) c2; exact q2.2.1) | (have q0 := szDecl_len hv hf ha (by omega) c0; have q1 := szEnvS_len (by omega) c1; have q2 := szEnvS_len (by omega) c2; exact q2.1) | (have q0 := szDecl_len hv hf ha (by omega) c0; have q1 := szEnvS_len (by omega) c1; have q2 := szEnvS_len (by omega) c2; first | omega | (skip; first | omega | (simp only [Decl.marks, Env.marks, Env.mark, mkAll_len]; omega))) | (intro i hi; exact mkAll_get (mIv 1) _ (by simpa only [Env.mark, mkAll_len] using hi)) | (intro i hi; simp only [Env.mark, mkAll_len] at hi ⊢; exact mkAll_get _ _ hi)) (by first | assumption | omega | (have q0 := szDecl_len hv hf ha (by omega) c0; omega) | (have q0 := szDecl_len hv hf ha (by omega) c0; have q1 := szEnvS_len (by omega) c1; omega) | (have q0 := szDecl_len hv hf ha (by omega) c0; have q1 := szEnvS_len (by omega) c1; have q2 := szEnvS_len (by omega) c2; omega) | (have q0 := szDecl_len hv hf ha (by omega) c0; have q1 := szEnvS_len (by omega) c1; have q2 := szEnvS_len (by omega) c2; exact q1.2.1) | (have q0 := szDecl_len hv hf ha (by omega) c0; have q1 := szEnvS_len (by omega) c1; have q2 := szEnvS_len (by omega) c2; exact q1.1) | (have q0 := szDecl_len hv hf ha (by omega) c0; have q1 := szEnvS_len (by omega) c1; have q2 := szEnvS_len (by omega) c2; exact q2.2.1) | (have q0 := szDecl_len hv hf ha (by omega) c0; have q1 := szEnvS_len (by omega) c1; have q2 := szEnvS_len (by omega) c2; exact q2.1) | (have q0 := szDecl_len hv hf ha (by omega) c0; have q1 := szEnvS_len (by omega) c1; have q2 := szEnvS_len (by omega) c2; first | omega | (skip; first | omega | (simp only [Decl.marks, Env.marks, Env.mark, mkAll_len]; omega))) | (intro i hi; exact mkAll_get (mIv 1) _ (by simpa only [Env.mark, mkAll_len] using hi)) | (intro i hi; simp only [Env.mark, mkAll_len] at hi ⊢; exact mkAll_get _ _ hi))) rfl rfl rfl rfl rfl (.cons (Reads.ref (Frz.of_erase (erase_slo _ _ _ _ _ _ strc_e)) (.head _) (.head _)).gives (.cons (Reads.ref (Frz.of_erase (erase_slo _ _ _ _ _ _ strc_e)) (.tail _ (.head _)) (.tail _ (.head _))).gives (.cons (Reads.ref (Frz.of_erase (erase_slo _ _ _ _ _ _ Arr.c_e)) (.tail _ (.tail _ (.head _))) (.tail _ (.tail _ (.head _)))).gives (.cons (Reads.ref (Frz.of_erase (erase_slo _ _ _ _ _ _ Env.co30_e)) (.tail _ (.tail _ (.tail _ (.head _)))) (.tail _ (.tail _ (.tail _ (.head _))))).gives (.cons (Reads.ref (Frz.of_erase (erase_slo _ _ _ _ _ _ Env.co30_e)) (.tail _ (.tail _ (.tail _ (.tail _ (.head _))))) (.tail _ (.tail _ (.tail _ (.tail _ (.head _)))))).gives .nil))))) rfl rfl (fun _ => (ownCons (Owned.v _) ownNil)) (.own [44, 0] .nil) (.nil) rfl rfl rfl (AllH.get (.cons rfl (.cons rfl (.cons rfl (.cons rfl (.cons rfl .nil)))))) rfl rfl rfl ?_
          refine .assign (.no rfl) rfl rfl rfl rfl ?_
          exact .fin () (.of (.cons rfl (.cons rfl (.cons rfl (.cons rfl (.cons rfl (.cons rfl (.cons rfl (.cons rfl .nil)))))))) (.cons rfl (.cons rfl (.cons rfl (.cons rfl (.cons rfl (.cons rfl (.cons rfl .nil))))))))
        intro _
        refine .seq ?_
        refine .seq ?_
        refine .reg (X := Unit) (fun ζ => .of [(1, .one (.d (.sl false 54 3 (List.map Env.c54 (a))))), (2, .one (.d (.sl false 54 3 (List.map Env.c54 (b))))), (3, .one (.ptr [3] (g7) 0)), (9, .one (.ptr [9] (g20) 0)), (10, .one (.ref [38, 0] (g24))), (11, .one (.ref [40, 0] (g26))), (47, .one (.d (.v (.bool ((Table.leq d a b) != (Table.leq d a b))))))] [([3], (g7, g7, .box [.d (.sl false 9 1 (List.map strc (d.vars))), .d (.sl false 9 1 (List.map strc (d.flags))), .d (.sl false 117 2 (List.map Arr.c (d.arrays)))])), ([9], (g20, g21, .box [.ref [36, 0] (g22), .ref [36, 1] (g22), .ref [36, 2] (g22)])), ([36, 0], (g22, g22, .row 9 1 (List.map strc (d.vars)))), ([36, 1], (g22, g22, .row 9 1 (List.map strc (d.flags)))), ([36, 2], (g22, g22, .row 101 2 (List.map Arr.c (d.arrays)))), ([38, 0], (g24, g24, .row 30 3 (List.map Env.co30 (a)))), ([40, 0], (g26, g26, .row 30 3 (List.map Env.co30 (b))))]) [⟨[12], some 45, [], []⟩, ⟨[8], some 46, [], []⟩, ⟨[45, 46], some 47, [], []⟩] (fun k28 => ?_) ?_
        · skip
          refine .move (.no rfl) rfl rfl rfl rfl ?_
          refine .move (.no rfl) rfl rfl rfl rfl ?_
          refine .neB (.no rfl) rfl t4 rfl rfl rfl rfl rfl ?_
          exact .fin () (.of (.cons rfl (.cons rfl (.cons rfl (.cons rfl (.cons rfl (.cons rfl (.cons rfl .nil))))))) (.cons rfl (.cons rfl (.cons rfl (.cons rfl (.cons rfl (.cons rfl (.cons rfl .nil))))))))
        intro _
        refine .cond (t := (Table.leq d a b) != (Table.leq d a b)) rfl (fun c3 => ?_) (fun c3 => ?_)
        · have c3 := (by simpa using c3 : ¬ ((Table.leq d a b) = (Table.leq d a b)))
          refine .seq ?_
          refine .reg (X := Unit) (fun ζ => .of [(6, .one (.d (.v (.bool (false)))))] []) [⟨[], some 6, [], []⟩] (fun k29 => ?_) ?_
          · skip
            refine .assign (.no rfl) rfl rfl rfl rfl ?_
            exact .fin () (.of (.cons rfl .nil) .nil)
          intro _
          refine .ret ?_
          have e30 : (false) = (true) := by first | exact absurd c3 (by rw [Env.same_self]; decide) | exact absurd c3 (by rw [Decl.same_self]; decide) | exact absurd c3 (by rw [all2_self Env.same_self]; decide) | (rcases c3 with h9 | h9 <;> first | exact absurd rfl h9 | exact absurd h9 (by rw [Env.same_self]; decide) | (simp only [Decl.marks, Env.marks] at h9; omega)) | (rcases c3 with (h9 | h9) | h9 <;> first | exact absurd rfl h9 | exact absurd h9 (by rw [Env.same_self]; decide) | (simp only [Decl.marks, Env.marks] at h9; omega)) | (simp only [Env.marks] at c3; omega) | (simp [Env.marks, Env.mark, mkAll_len] at c3) | (simp at c3)
          have hc31 := eq1 (fun z1 => SV.one (.d (.v (.bool (z1))))) e30
          show _ ∧ _
          exact ⟨.inr rfl, .done ⟨_, [], [], _, .one (c := .d (.v (.bool (true)))) (hc31) .nil, .cons (Reads.d _).gives .nil, nodupB_ok rfl, by simp, (by simp)⟩⟩
        · have c3 := (by simpa using c3 : (Table.leq d a b) = (Table.leq d a b))
          refine .skip ?_
          refine .seq ?_
          refine .seq ?_
          refine .regD (X := Unit) (by kernel_rfl) (fun ζ => .of [(1, .one (.d (.sl false 54 3 (List.map Env.c54 (a))))), (2, .one (.d (.sl false 54 3 (List.map Env.c54 (b))))), (10, .one (.ref [38, 0] (g24))), (11, .one (.ref [40, 0] (g26))), (52, .one (.d (.v (.bool (!(Decl.same d d))))))] [([38, 0], (g24, g24, .row 30 3 (List.map Env.co30 (a)))), ([40, 0], (g26, g26, .row 30 3 (List.map Env.co30 (b))))]) [⟨[9], some 48, [[9]], []⟩, ⟨[3], some 49, [[3]], []⟩, ⟨[49], some 50, [], [[50, 0], [50, 1], [50, 2]]⟩, ⟨[48, 50], some 51, [[36, 0], [36, 1], [36, 2], [50, 0], [50, 1], [50, 2]], []⟩, ⟨[51], some 52, [], []⟩] (by kernel_rfl) (fun k32 => ?_) ?_
          · skip
            refine .load (.no rfl) rfl t27 rfl rfl (.ptr _ _ _ _ _ rfl) rfl rfl rfl rfl ?_
            refine .load (.no rfl) rfl t41 rfl rfl (.ptr _ _ _ _ _ rfl) rfl rfl rfl rfl ?_
            refine .call (.no rfl) rfl [] [] (c_toDecl d (by first | assumption | omega | (have q0 := szDecl_len hv hf ha (by omega) c0; omega) | (have q0 := szDecl_len hv hf ha (by omega) c0; have q1 := szEnvS_len (by omega) c1; omega) | (have q0 := szDecl_len hv hf ha (by omega) c0; have q1 := szEnvS_len (by omega) c1; have q2 := szEnvS_len (by omega) c2; omega) | (have q0 := szDecl_len hv hf ha (by omega) c0; have q1 := szEnvS_len (by omega) c1; have q2 := szEnvS_len (by omega) c2; exact q1.2.1) | (have q0 := szDecl_len hv hf ha (by omega) c0; have q1 := szEnvS_len (by omega) c1; have q2 := szEnvS_len (by omega) c2; exact q1.1) | (have q0 := szDecl_len hv hf ha (by omega) c0; have q1 := szEnvS_len (by omega) c1; have q2 := szEnvS_len (by omega) c2; exact q2.2.1) | (have q0 := szDecl_len hv hf ha (by omega) c0; have q1 := szEnvS_len (by omega) c1; have q2 := szEnvS_len (by omega) c2; exact q2.1) | (have q0 := szDecl_len hv hf ha (by omega) c0; have q1 := szEnvS_len (by omega) c1; have q2 := szEnvS_len (by omega) c2; first | omega | (skip; first | omega | (simp only [Decl.marks, Env.marks, Env.mark, mkAll_len]; omega))) | (intro i hi; exact mkAll_get (mIv 1) _ (by simpa only [Env.mark, mkAll_len] using hi)) | (intro i hi; simp only [Env.mark, mkAll_len] at hi ⊢; exact mkAll_get _ _ hi))) rfl rfl rfl rfl rfl (.cons (Reads.d _).gives (.cons (Reads.d _).gives (.cons (Reads.d _).gives .nil))) rfl rfl (fun h => absurd rfl h) (.own [50, 0] (.own [50, 1] (.own [50, 2] .nil))) (.nil) rfl rfl rfl (by simp) rfl rfl rfl ?_
            refine .call (.no rfl) rfl [[36, 0], [36, 1], [36, 2], [50, 0], [50, 1], [50, 2]] [([36, 0], (g22, g22, .row 9 1 (List.map strc (d.vars)))), ([36, 1], (g22, g22, .row 9 1 (List.map strc (d.flags)))), ([36, 2], (g22, g22, .row 101 2 (List.map Arr.c (d.arrays)))), ([50, 0], (k32 + 1 + 1, k32 + 1 + 1, .row 9 1 (List.map strc (d.vars)))), ([50, 1], (k32 + 1 + 1, k32 + 1 + 1, .row 9 1 (List.map strc (d.flags)))), ([50, 2], (k32 + 1 + 1, k32 + 1 + 1, .row 101 2 (List.map Arr.c (d.arrays))))] (c_eqDecl d d) rfl rfl rfl rfl rfl (.cons (Reads.ref (Frz.of_erase (erase_slo _ _ _ _ _ _ strc_e)) (.head _) (.head _)).gives (.cons (Reads.ref (Frz.of_erase (erase_slo _ _ _ _ _ _ strc_e)) (.tail _ (.head _)) (.tail _ (.head _))).gives (.cons (Reads.ref (Frz.of_erase (erase_slo _ _ _ _ _ _ Arr.c_e)) (.tail _ (.tail _ (.head _))) (.tail _ (.tail _ (.head _)))).gives (.cons (Reads.ref (Frz.of_erase (erase_slo _ _ _ _ _ _ strc_e)) (.tail _ (.tail _ (.tail _ (.head _)))) (.tail _ (.tail _ (.tail _ (.head _))))).gives (.cons (Reads.ref (Frz.of_erase (erase_slo _ _ _ _ _ _ strc_e)) (.tail _ (.tail _ (.tail _ (.tail _ (.head _))))) (.tail _ (.tail _ (.tail _ (.tail _ (.head _)))))).gives (.cons (Reads.ref (Frz.of_erase (erase_slo _ _ _ _ _ _ Arr.c_e)) (.tail _ (.tail _ (.tail _ (.tail _ (.tail _ (.head _)))))) (.tail _ (.tail _ (.tail _ (.tail _ (.tail _ (.head _))))))).gives .nil)))))) rfl rfl (fun _ => (ownCons (Owned.v _) ownNil)) (.own [51, 0] .nil) (.nil) rfl rfl rfl (AllH.get (.cons rfl (.cons rfl (.cons rfl (.cons rfl (.cons rfl (.cons rfl .nil))))))) rfl rfl rfl ?_
            refine .un (.no rfl) rfl rfl rfl rfl rfl ?_
            exact .fin () (.of (.cons rfl (.cons rfl (.cons rfl (.cons rfl (.cons rfl .nil))))) (.cons rfl (.cons rfl .nil)))
          intro _
          refine .cond (t := !(Decl.same d d)) rfl (fun c4 => ?_) (fun c4 => ?_)
          · have c4 := c4
            try simp only [Bool.or_eq_true, Bool.or_eq_false_iff, Bool.and_eq_true, Bool.and_eq_false_iff, decide_eq_true_eq, decide_eq_false_iff_not, Bool.not_eq_true', Bool.not_eq_false', bne_iff_ne, beq_iff_eq, bne_eq_false_iff_eq, beq_eq_false_iff_ne, ne_eq, Bool.not_eq_eq_eq_not, Bool.not_true, Bool.not_false] at c4
            refine .seq ?_
            refine .reg (X := Unit) (fun ζ => .of [(6, .one (.d (.v (.bool (false)))))] []) [⟨[], some 6, [], []⟩] (fun k33 => ?_) ?_
            · skip
              refine .assign (.no rfl) rfl rfl rfl rfl ?_
              exact .fin () (.of (.cons rfl .nil) .nil)
            intro _
            refine .ret ?_
            have e34 : (false) = (true) := by first | exact absurd c4 (by rw [Env.same_self]; decide) | exact absurd c4 (by rw [Decl.same_self]; decide) | exact absurd c4 (by rw [all2_self Env.same_self]; decide) | (rcases c4 with h9 | h9 <;> first | exact absurd rfl h9 | exact absurd h9 (by rw [Env.same_self]; decide) | (simp only [Decl.marks, Env.marks] at h9; omega)) | (rcases c4 with (h9 | h9) | h9 <;> first | exact absurd rfl h9 | exact absurd h9 (by rw [Env.same_self]; decide) | (simp only [Decl.marks, Env.marks] at h9; omega)) | (simp only [Env.marks] at c4; omega) | (simp [Env.marks, Env.mark, mkAll_len] at c4) | (simp at c4)
            have hc35 := eq1 (fun z1 => SV.one (.d (.v (.bool (z1))))) e34
            show _ ∧ _
            exact ⟨.inr rfl, .done ⟨_, [], [], _, .one (c := .d (.v (.bool (true)))) (hc35) .nil, .cons (Reads.d _).gives .nil, nodupB_ok rfl, by simp, (by simp)⟩⟩
          · have c4 := c4
            try simp only [Bool.or_eq_true, Bool.or_eq_false_iff, Bool.and_eq_true, Bool.and_eq_false_iff, decide_eq_true_eq, decide_eq_false_iff_not, Bool.not_eq_true', Bool.not_eq_false', bne_iff_ne, beq_iff_eq, bne_eq_false_iff_eq, beq_eq_false_iff_ne, ne_eq, Bool.not_eq_eq_eq_not, Bool.not_true, Bool.not_false] at c4
            refine .skip ?_
            refine .seq ?_
            refine .seq ?_
            refine .reg (X := Unit) (fun ζ => .of [(2, .one (.d (.sl false 54 3 (List.map Env.c54 (b))))), (11, .one (.ref [40, 0] (g26))), (57, .one (.d (.v (.bool (!(all2 Env.same a a))))))] [([40, 0], (g26, g26, .row 30 3 (List.map Env.co30 (b))))]) [⟨[10], some 53, [], []⟩, ⟨[1], some 54, [], []⟩, ⟨[54], some 55, [], [[55, 0]]⟩, ⟨[53, 55], some 56, [[38, 0], [55, 0]], []⟩, ⟨[56], some 57, [], []⟩] (fun k36 => ?_) ?_
            · skip
              refine .move (.no rfl) rfl rfl rfl rfl ?_
              refine .move (.no rfl) rfl rfl rfl rfl ?_
              refine .call (.no rfl) rfl [] [] (c_toEnvS a (by first | assumption | omega | (have q0 := szDecl_len hv hf ha (by omega) c0; omega) | (have q0 := szDecl_len hv hf ha (by omega) c0; have q1 := szEnvS_len (by omega) c1; omega) | (have q0 := szDecl_len hv hf ha (by omega) c0; have q1 := szEnvS_len (by omega) c1; have q2 := szEnvS_len (by omega) c2; omega) | (have q0 := szDecl_len hv hf ha (by omega) c0; have q1 := szEnvS_len (by omega) c1; have q2 := szEnvS_len (by omega) c2; exact q1.2.1) | (have q0 := szDecl_len hv hf ha (by omega) c0; have q1 := szEnvS_len (by omega) c1; have q2 := szEnvS_len (by omega) c2; exact q1.1) | (have q0 := szDecl_len hv hf ha (by omega) c0; have q1 := szEnvS_len (by omega) c1; have q2 := szEnvS_len (by omega) c2; exact q2.2.1) | (have q0 := szDecl_len hv hf ha (by omega) c0; have q1 := szEnvS_len (by omega) c1; have q2 := szEnvS_len (by omega) c2; exact q2.1) | (have q0 := szDecl_len hv hf ha (by omega) c0; have q1 := szEnvS_len (by omega) c1; have q2 := szEnvS_len (by omega) c2; first | omega | (skip; first | omega | (simp only [Decl.marks, Env.marks, Env.mark, mkAll_len]; omega))) | (intro i hi; exact mkAll_get (mIv 1) _ (by simpa only [Env.mark, mkAll_len] using hi)) | (intro i hi; simp only [Env.mark, mkAll_len] at hi ⊢; exact mkAll_get _ _ hi)) (by first | assumption | omega | (have q0 := szDecl_len hv hf ha (by omega) c0; omega) | (have q0 := szDecl_len hv hf ha (by omega) c0; have q1 := szEnvS_len (by omega) c1; omega) | (have q0 := szDecl_len hv hf ha (by omega) c0; have q1 := szEnvS_len (by omega) c1; have q2 := szEnvS_len (by omega) c2; omega) | (have q0 := szDecl_len hv hf ha (by omega) c0; have q1 := szEnvS_len (by omega) c1; have q2 := szEnvS_len (by omega) c2; exact q1.2.1) | (have q0 := szDecl_len hv hf ha (by omega) c0; have q1 := szEnvS_len (by omega) c1; have q2 := szEnvS_len (by omega) c2; exact q1.1) | (have q0 := szDecl_len hv hf ha (by omega) c0; have q1 := szEnvS_len (by omega) c1; have q2 := szEnvS_len (by omega) c2; exact q2.2.1) | (have q0 := szDecl_len hv hf ha (by omega) c0; have q1 := szEnvS_len (by omega) c1; have q2 := szEnvS_len (by omega) c2; exact q2.1) | (have q0 := szDecl_len hv hf ha (by omega) c0; have q1 := szEnvS_len (by omega) c1; have q2 := szEnvS_len (by omega) c2; first | omega | (skip; first | omega | (simp only [Decl.marks, Env.marks, Env.mark, mkAll_len]; omega))) | (intro i hi; exact mkAll_get (mIv 1) _ (by simpa only [Env.mark, mkAll_len] using hi)) | (intro i hi; simp only [Env.mark, mkAll_len] at hi ⊢; exact mkAll_get _ _ hi))) rfl rfl rfl rfl rfl (.cons (Reads.d _).gives .nil) rfl rfl (fun h => absurd rfl h) (.own [55, 0] .nil) (.nil) rfl rfl rfl (by simp) rfl rfl rfl ?_
              refine .call (.no rfl) rfl [[38, 0], [55, 0]] [([38, 0], (g24, g24, .row 30 3 (List.map Env.co30 (a)))), ([55, 0], (k36 + 1 + 1, k36 + 1 + 1, .row 30 3 (List.map Env.co30 (a))))] (c_eqEnvS a a) rfl rfl rfl rfl rfl (.cons (Reads.ref (Frz.of_erase (erase_slo _ _ _ _ _ _ Env.co30_e)) (.head _) (.head _)).gives (.cons (Reads.ref (Frz.of_erase (erase_slo _ _ _ _ _ _ Env.co30_e)) (.tail _ (.head _)) (.tail _ (.head _))).gives .nil)) rfl rfl (fun _ => (ownCons (Owned.v _) ownNil)) (.own [56, 0] .nil) (.nil) rfl rfl rfl (AllH.get (.cons rfl (.cons rfl .nil))) rfl rfl rfl ?_
              refine .un (.no rfl) rfl rfl rfl rfl rfl ?_
              exact .fin () (.of (.cons rfl (.cons rfl (.cons rfl .nil))) (.cons rfl .nil))
            intro _
            refine .cond (t := !(all2 Env.same a a)) rfl (fun c5 => ?_) (fun c5 => ?_)
            · have c5 := c5
              try simp only [Bool.or_eq_true, Bool.or_eq_false_iff, Bool.and_eq_true, Bool.and_eq_false_iff, decide_eq_true_eq, decide_eq_false_iff_not, Bool.not_eq_true', Bool.not_eq_false', bne_iff_ne, beq_iff_eq, bne_eq_false_iff_eq, beq_eq_false_iff_ne, ne_eq, Bool.not_eq_eq_eq_not, Bool.not_true, Bool.not_false] at c5
              refine .seq ?_
              refine .reg (X := Unit) (fun ζ => .of [(6, .one (.d (.v (.bool (false)))))] []) [⟨[], some 6, [], []⟩] (fun k37 => ?_) ?_
              · skip
                refine .assign (.no rfl) rfl rfl rfl rfl ?_
                exact .fin () (.of (.cons rfl .nil) .nil)
              intro _
              refine .ret ?_
              have e38 : (false) = (true) := by first | exact absurd c5 (by rw [Env.same_self]; decide) | exact absurd c5 (by rw [Decl.same_self]; decide) | exact absurd c5 (by rw [all2_self Env.same_self]; decide) | (rcases c5 with h9 | h9 <;> first | exact absurd rfl h9 | exact absurd h9 (by rw [Env.same_self]; decide) | (simp only [Decl.marks, Env.marks] at h9; omega)) | (rcases c5 with (h9 | h9) | h9 <;> first | exact absurd rfl h9 | exact absurd h9 (by rw [Env.same_self]; decide) | (simp only [Decl.marks, Env.marks] at h9; omega)) | (simp only [Env.marks] at c5; omega) | (simp [Env.marks, Env.mark, mkAll_len] at c5) | (simp at c5)
              have hc39 := eq1 (fun z1 => SV.one (.d (.v (.bool (z1))))) e38
              show _ ∧ _
              exact ⟨.inr rfl, .done ⟨_, [], [], _, .one (c := .d (.v (.bool (true)))) (hc39) .nil, .cons (Reads.d _).gives .nil, nodupB_ok rfl, by simp, (by simp)⟩⟩
            · have c5 := c5
              try simp only [Bool.or_eq_true, Bool.or_eq_false_iff, Bool.and_eq_true, Bool.and_eq_false_iff, decide_eq_true_eq, decide_eq_false_iff_not, Bool.not_eq_true', Bool.not_eq_false', bne_iff_ne, beq_iff_eq, bne_eq_false_iff_eq, beq_eq_false_iff_ne, ne_eq, Bool.not_eq_eq_eq_not, Bool.not_true, Bool.not_false] at c5
              refine .skip ?_
              refine .seq ?_
              refine .seq ?_
              refine .reg (X := Unit) (fun ζ => .of [(62, .one (.d (.v (.bool (!(all2 Env.same b b))))))] []) [⟨[11], some 58, [], []⟩, ⟨[2], some 59, [], []⟩, ⟨[59], some 60, [], [[60, 0]]⟩, ⟨[58, 60], some 61, [[40, 0], [60, 0]], []⟩, ⟨[61], some 62, [], []⟩] (fun k40 => ?_) ?_
              · skip
                refine .move (.no rfl) rfl rfl rfl rfl ?_
                refine .move (.no rfl) rfl rfl rfl rfl ?_
                refine .call (.no rfl) rfl [] [] (c_toEnvS b (by first | assumption | omega | (have q0 := szDecl_len hv hf ha (by omega) c0; omega) | (have q0 := szDecl_len hv hf ha (by omega) c0; have q1 := szEnvS_len (by omega) c1; omega) | (have q0 := szDecl_len hv hf ha (by omega) c0; have q1 := szEnvS_len (by omega) c1; have q2 := szEnvS_len (by omega) c2; omega) | (have q0 := szDecl_len hv hf ha (by omega) c0; have q1 := szEnvS_len (by omega) c1; have q2 := szEnvS_len (by omega) c2; exact q1.2.1) | (have q0 := szDecl_len hv hf ha (by omega) c0; have q1 := szEnvS_len (by omega) c1; have q2 := szEnvS_len (by omega) c2; exact q1.1) | (have q0 := szDecl_len hv hf ha (by omega) c0; have q1 := szEnvS_len (by omega) c1; have q2 := szEnvS_len (by omega) c2; exact q2.2.1) | (have q0 := szDecl_len hv hf ha (by omega) c0; have q1 := szEnvS_len (by omega) c1; have q2 := szEnvS_len (by omega) c2; exact q2.1) | (have q0 := szDecl_len hv hf ha (by omega) c0; have q1 := szEnvS_len (by omega) c1; have q2 := szEnvS_len (by omega) c2; first | omega | (skip; first | omega | (simp only [Decl.marks, Env.marks, Env.mark, mkAll_len]; omega))) | (intro i hi; exact mkAll_get (mIv 1) _ (by simpa only [Env.mark, mkAll_len] using hi)) | (intro i hi; simp only [Env.mark, mkAll_len] at hi ⊢; exact mkAll_get _ _ hi)) (by first | assumption | omega | (have q0 := szDecl_len hv hf ha (by omega) c0; omega) | (have q0 := szDecl_len hv hf ha (by omega) c0; have q1 := szEnvS_len (by omega) c1; omega) | (have q0 := szDecl_len hv hf ha (by omega) c0; have q1 := szEnvS_len (by omega) c1; have q2 := szEnvS_len (by omega) c2; omega) | (have q0 := szDecl_len hv hf ha (by omega) c0; have q1 := szEnvS_len (by omega) c1; have q2 := szEnvS_len (by omega) c2; exact q1.2.1) | (have q0 := szDecl_len hv hf ha (by omega) c0; have q1 := szEnvS_len (by omega) c1; have q2 := szEnvS_len (by omega) c2; exact q1.1) | (have q0 := szDecl_len hv hf ha (by omega) c0; have q1 := szEnvS_len (by omega) c1; have q2 := szEnvS_len (by omega) c2; exact q2.2.1) | (have q0 := szDecl_len hv hf ha (by omega) c0; have q1 := szEnvS_len (by omega) c1; have q2 := szEnvS_len (by omega) c2; exact q2.1) | (have q0 := szDecl_len hv hf ha (by omega) c0; have q1 := szEnvS_len (by omega) c1; have q2 := szEnvS_len (by omega) c2; first | omega | (skip; first | omega | (simp only [Decl.marks, Env.marks, Env.mark, mkAll_len]; omega))) | (intro i hi; exact mkAll_get (mIv 1) _ (by simpa only [Env.mark, mkAll_len] using hi)) | (intro i hi; simp only [Env.mark, mkAll_len] at hi ⊢; exact mkAll_get _ _ hi))) rfl rfl rfl rfl rfl (.cons (Reads.d _).gives .nil) rfl rfl (fun h => absurd rfl h) (.own [60, 0] .nil) (.nil) rfl rfl rfl (by simp) rfl rfl rfl ?_
                refine .call (.no rfl) rfl [[40, 0], [60, 0]] [([40, 0], (g26, g26, .row 30 3 (List.map Env.co30 (b)))), ([60, 0], (k40 + 1 + 1, k40 + 1 + 1, .row 30 3 (List.map Env.co30 (b))))] (c_eqEnvS b b) rfl rfl rfl rfl rfl (.cons (Reads.ref (Frz.of_erase (erase_slo _ _ _ _ _ _ Env.co30_e)) (.head _) (.head _)).gives (.cons (Reads.ref (Frz.of_erase (erase_slo _ _ _ _ _ _ Env.co30_e)) (.tail _ (.head _)) (.tail _ (.head _))).gives .nil)) rfl rfl (fun _ => (ownCons (Owned.v _) ownNil)) (.own [61, 0] .nil) (.nil) rfl rfl rfl (AllH.get (.cons rfl (.cons rfl .nil))) rfl rfl rfl ?_
                refine .un (.no rfl) rfl rfl rfl rfl rfl ?_
                exact .fin () (.of (.cons rfl .nil) .nil)
              intro _
              refine .cond (t := !(all2 Env.same b b)) rfl (fun c6 => ?_) (fun c6 => ?_)
              · have c6 := c6
                try simp only [Bool.or_eq_true, Bool.or_eq_false_iff, Bool.and_eq_true, Bool.and_eq_false_iff, decide_eq_true_eq, decide_eq_false_iff_not, Bool.not_eq_true', Bool.not_eq_false', bne_iff_ne, beq_iff_eq, bne_eq_false_iff_eq, beq_eq_false_iff_ne, ne_eq, Bool.not_eq_eq_eq_not, Bool.not_true, Bool.not_false] at c6
                refine .seq ?_
                refine .reg (X := Unit) (fun ζ => .of [(6, .one (.d (.v (.bool (false)))))] []) [⟨[], some 6, [], []⟩] (fun k41 => ?_) ?_
                · skip
                  refine .assign (.no rfl) rfl rfl rfl rfl ?_
                  exact .fin () (.of (.cons rfl .nil) .nil)
                intro _
                refine .ret ?_
                have e42 : (false) = (true) := by first | exact absurd c6 (by rw [Env.same_self]; decide) | exact absurd c6 (by rw [Decl.same_self]; decide) | exact absurd c6 (by rw [all2_self Env.same_self]; decide) | (rcases c6 with h9 | h9 <;> first | exact absurd rfl h9 | exact absurd h9 (by rw [Env.same_self]; decide) | (simp only [Decl.marks, Env.marks] at h9; omega)) | (rcases c6 with (h9 | h9) | h9 <;> first | exact absurd rfl h9 | exact absurd h9 (by rw [Env.same_self]; decide) | (simp only [Decl.marks, Env.marks] at h9; omega)) | (simp only [Env.marks] at c6; omega) | (simp [Env.marks, Env.mark, mkAll_len] at c6) | (simp at c6)
                have hc43 := eq1 (fun z1 => SV.one (.d (.v (.bool (z1))))) e42
                show _ ∧ _
                exact ⟨.inr rfl, .done ⟨_, [], [], _, .one (c := .d (.v (.bool (true)))) (hc43) .nil, .cons (Reads.d _).gives .nil, nodupB_ok rfl, by simp, (by simp)⟩⟩
              · have c6 := c6
                try simp only [Bool.or_eq_true, Bool.or_eq_false_iff, Bool.and_eq_true, Bool.and_eq_false_iff, decide_eq_true_eq, decide_eq_false_iff_not, Bool.not_eq_true', Bool.not_eq_false', bne_iff_ne, beq_iff_eq, bne_eq_false_iff_eq, beq_eq_false_iff_ne, ne_eq, Bool.not_eq_eq_eq_not, Bool.not_true, Bool.not_false] at c6
                refine .skip ?_
                refine .seq ?_
                refine .reg (X := Unit) (fun ζ => .of [(6, .one (.d (.v (.bool (true)))))] []) [⟨[], some 6, [], []⟩] (fun k44 => ?_) ?_
                · skip
                  refine .assign (.no rfl) rfl rfl rfl rfl ?_
                  exact .fin () (.of (.cons rfl .nil) .nil)
                intro _
                refine .ret ?_
                show _ ∧ _
                exact ⟨.inr rfl, .done ⟨_, [], [], _, .one rfl .nil, .cons (Reads.d _).gives .nil, nodupB_ok rfl, by simp, (by simp)⟩⟩
end Go.Proofs

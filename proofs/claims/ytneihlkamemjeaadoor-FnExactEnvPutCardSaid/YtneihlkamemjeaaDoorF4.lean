/- Contracts of the program's functions at this seat, printed by a program of ours and checked by Lean: each under the conditions of its own statement. -/
import Derived.Test.YtneihlkamemjeaaDoorF3
set_option linter.all false
set_option linter.unnecessarySimpa false
set_option linter.unusedSectionVars false
set_option linter.unusedSimpArgs false
set_option linter.unusedVariables false
namespace Go.Proofs
open Go Go.Proofs Go.Ev

theorem c_sizeA (l : List Arr) : Trip Tryd.prog 60 [(false, 1)] ([.sl false 52 2 (List.map Arr.c (l))]) [(false, 1)] [.v (.int .i64 ((l.length : Int)))] [] := by
  refine Trip.of Tryd.func60 (by decide) (c := _) rfl rfl (shB_ok rfl) (Nat.le_of_ble_eq_true rfl) rfl (AftOk.nil _) ?_
  refine .sat (t := 0) rfl (fun hs1 => ?_)
  have hs1l : l.length ≤ 9223372036854775807 := hs1.maplen
  refine .seq ?_
  refine .reg (X := Unit) (fun ζ => .of [(0, .one (.d (.sl false 52 2 (List.map Arr.c (l)))))] []) [⟨[], some 2, [], []⟩] (fun k2 => ?_) ?_
  · skip
    refine .assign (.no rfl) rfl rfl rfl rfl ?_
    exact .fin () (.of (.cons rfl .nil) .nil)
  intro _
  refine .seq ?_
  refine .reg (X := Unit) (fun ζ => .of [(2, .one (.d (.v (.int .i64 ((l.length : Int))))))] []) [⟨[0], some 3, [], []⟩, ⟨[3], some 4, [], []⟩, ⟨[4], some 2, [], []⟩] (fun k3 => ?_) ?_
  · skip
    refine .move (.no rfl) rfl rfl rfl rfl ?_
    refine .len (.no rfl) rfl (z := (l.length : Int)) t25 rfl rfl rfl (.d _ _) (map_len _ _) rfl ?_
    refine .assign (.no rfl) rfl rfl rfl rfl ?_
    exact .fin () (.of (.cons rfl .nil) .nil)
  intro _
  refine .ret ?_
  show _ ∧ _
  exact ⟨.inr rfl, .done ⟨_, [], [], _, .one rfl .nil, .cons (Reads.d _).gives .nil, nodupB_ok rfl, by simp, (by simp)⟩⟩
theorem c_placed (d : Decl) (v : Int) (p : Iv) (hv : 0 ≤ v ∧ v < (d.arrays.length : Int)) : Trip Tryd.prog 106 [(true, 3), (false, 1), (true, 2)] (Decl.c27 d ++ [.v (.int .i64 (v))] ++ Iv.c p) [(false, 1), (false, 1)] [.v (.int .i64 (alarmOf p ((d.arrays.getD v.toNat default).size))), .v (.bool (Iv.meets p (allOf ((d.arrays.getD v.toNat default).size))))] [] := by
  refine Trip.of Tryd.func106 (by decide) (c := _) rfl rfl (shB_ok rfl) (Nat.le_of_ble_eq_true rfl) rfl (AftOk.nil _) ?_
  refine .satA (t := 0) (i := 0) rfl rfl (fun hs1 => ?_)
  have hs1l : d.vars.length ≤ 9223372036854775807 := hs1.maplen
  refine .satA (t := 0) (i := 1) rfl rfl (fun hs2 => ?_)
  have hs2l : d.flags.length ≤ 9223372036854775807 := hs2.maplen
  refine .satA (t := 0) (i := 2) rfl rfl (fun hs3 => ?_)
  have hs3l : d.arrays.length ≤ 9223372036854775807 := hs3.maplen
  refine .seq ?_
  refine .reg (X := Nat × Nat) (fun ζ => .of [(1, .one (.d (.v (.int .i64 (v))))), (3, .one (.ptr [3] (ζ.1) 0)), (5, .one (.ptr [5] (ζ.2) 0))] [([3], (ζ.1, ζ.1, .box [.d (.sl false 9 1 (List.map strc (d.vars))), .d (.sl false 9 1 (List.map strc (d.flags))), .d (.sl false 52 2 (List.map Arr.c (d.arrays)))])), ([5], (ζ.2, ζ.2, .box [.d (.v (.int .i64 (p.lo))), .d (.v (.int .i64 (p.hi)))]))]) [⟨[0], some 3, [], [[3]]⟩, ⟨[2], some 5, [], [[5]]⟩, ⟨[], some 6, [], []⟩, ⟨[], some 7, [], []⟩] (fun k4 => ?_) ?_
  · skip
    refine .box (.no rfl) rfl rfl rfl rfl rfl ?_
    refine .box (.no rfl) rfl rfl rfl rfl rfl ?_
    refine .assign (.no rfl) rfl rfl rfl rfl ?_
    refine .assign (.no rfl) rfl rfl rfl rfl ?_
    exact .fin (k4, k4 + 1) (.of (.cons rfl (.cons rfl (.cons rfl .nil))) (.cons rfl (.cons rfl .nil)))
  rintro ⟨g5, g6⟩
  refine .seq ?_
  refine .reg (X := Nat × Nat) (fun ζ => .of [(5, .one (.ptr [5] (g6) 0)), (8, .one (.ptr [8] (ζ.1) 0))] [([5], (g6, g6, .box [.d (.v (.int .i64 (p.lo))), .d (.v (.int .i64 (p.hi)))])), ([8], (ζ.1, ζ.2, .box [.d (.v (.int .i64 (0))), .d (.v (.int .i64 (IntKind.wrap .i64 (((d.arrays.getD v.toNat default).size) - 1))))]))]) [⟨[3], some 11, [], []⟩, ⟨[11], some 12, [[3]], []⟩, ⟨[1], some 13, [], []⟩, ⟨[12, 13], some 14, [], []⟩, ⟨[14], some 15, [], []⟩, ⟨[15], some 16, [], []⟩, ⟨[16], some 17, [], []⟩, ⟨[17], some 18, [], []⟩, ⟨[], some 8, [], [[8]]⟩, ⟨[8, 18], none, [[8]], [[8]]⟩] (fun k7 => ?_) ?_
  · skip
    refine .fieldAddrP (.no rfl) rfl t27 rfl rfl t25 rfl rfl rfl rfl ?_
    refine .load (.no rfl) rfl t25 rfl rfl (.ptr _ _ _ _ _ rfl) rfl rfl rfl rfl ?_
    refine .move (.no rfl) rfl rfl rfl rfl ?_
    refine .indexAddr (.no rfl) rfl (v.toNat) t25 rfl t52 rfl rfl rfl (.d _ _) rfl rfl (by omega) (map_get (by omega)) rfl rfl ?_
    refine .fieldAddr (.no rfl) rfl t52 rfl rfl t2 rfl rfl rfl rfl [] (by simp) (by intro _ _ _ h; cases h) rfl rfl ?_
    refine .load (.no rfl) rfl t2 rfl rfl (.d _) rfl rfl rfl rfl ?_
    refine .bin (.no rfl) rfl rfl rfl rfl rfl rfl ?_
    refine .build (.no rfl) rfl z39 rfl p39 rfl rfl rfl rfl ?_
    refine .alloc (.no rfl) rfl z39 rfl rfl rfl ?_
    refine .store (.no rfl) rfl t39 rfl rfl rfl rfl rfl rfl rfl rfl rfl ?_
    exact .fin (k7 + 1 + 1 + 1 + 1 + 1 + 1 + 1 + 1, k7 + 1 + 1 + 1 + 1 + 1 + 1 + 1 + 1 + 1) (.of (.cons rfl (.cons rfl .nil)) (.cons rfl (.cons rfl .nil)))
  rintro ⟨g8, g9⟩
  refine .seq ?_
  refine .reg (X := Unit) (fun ζ => .of [(5, .one (.ptr [5] (g6) 0)), (8, .one (.ptr [8] (g8) 0)), (10, .one (.d (.v (.bool (Iv.meets p (Iv.mk 0 (IntKind.wrap .i64 (((d.arrays.getD v.toNat default).size) - 1))))))))] [([5], (g6, g6, .box [.d (.v (.int .i64 (p.lo))), .d (.v (.int .i64 (p.hi)))])), ([8], (g8, g9, .box [.d (.v (.int .i64 (0))), .d (.v (.int .i64 (IntKind.wrap .i64 (((d.arrays.getD v.toNat default).size) - 1))))]))]) [⟨[5], some 20, [[5]], []⟩, ⟨[8], some 21, [[8]], []⟩, ⟨[20, 21], some 22, [], []⟩, ⟨[22], some 19, [], []⟩, ⟨[19], some 23, [], []⟩, ⟨[19], some 24, [], []⟩, ⟨[], some 9, [], [[9]]⟩, ⟨[9, 23], none, [[9]], [[9]]⟩, ⟨[24], some 10, [], []⟩] (fun k10 => ?_) ?_
  · skip
    refine .load (.no rfl) rfl t39 rfl rfl (.ptr _ _ _ _ _ rfl) rfl rfl rfl rfl ?_
    refine .load (.no rfl) rfl t39 rfl rfl (.ptr _ _ _ _ _ rfl) rfl rfl rfl rfl ?_
    refine .call (.no rfl) rfl [] [] (c_IvMeet p (Iv.mk 0 (IntKind.wrap .i64 (((d.arrays.getD v.toNat default).size) - 1)))) rfl rfl rfl rfl rfl (.cons (Reads.d _).gives (.cons (Reads.d _).gives (.cons (Reads.d _).gives (.cons (Reads.d _).gives .nil)))) rfl rfl (fun h => absurd rfl h) (.own [22, 0] (.own [22, 1] (.own [22, 2] .nil))) (.nil) rfl rfl rfl (by simp) rfl rfl rfl ?_
    refine .move (.no rfl) rfl rfl rfl rfl ?_
    refine .extract (.no rfl) rfl rfl rfl rfl rfl ?_
    refine .extract (.no rfl) rfl rfl rfl rfl rfl ?_
    refine .alloc (.no rfl) rfl z39 rfl rfl rfl ?_
    refine .store (.no rfl) rfl t39 rfl rfl rfl rfl rfl rfl rfl rfl rfl ?_
    refine .assign (.no rfl) rfl rfl rfl rfl ?_
    exact .fin () (.of (.cons rfl (.cons rfl (.cons rfl .nil))) (.cons rfl (.cons rfl .nil)))
  intro _
  refine .seq ?_
  refine .seq ?_
  refine .reg (X := Unit) (fun ζ => .of [(10, .one (.d (.v (.bool (Iv.meets p (Iv.mk 0 (IntKind.wrap .i64 (((d.arrays.getD v.toNat default).size) - 1)))))))), (27, .one (.d (.v (.bool (Iv.leq p (Iv.mk 0 (IntKind.wrap .i64 (((d.arrays.getD v.toNat default).size) - 1))))))))] []) [⟨[5], some 25, [[5]], []⟩, ⟨[8], some 26, [[8]], []⟩, ⟨[25, 26], some 27, [], []⟩] (fun k11 => ?_) ?_
  · skip
    refine .load (.no rfl) rfl t39 rfl rfl (.ptr _ _ _ _ _ rfl) rfl rfl rfl rfl ?_
    refine .load (.no rfl) rfl t39 rfl rfl (.ptr _ _ _ _ _ rfl) rfl rfl rfl rfl ?_
    refine .call (.no rfl) rfl [] [] (c_IvLeq p (Iv.mk 0 (IntKind.wrap .i64 (((d.arrays.getD v.toNat default).size) - 1)))) rfl rfl rfl rfl rfl (.cons (Reads.d _).gives (.cons (Reads.d _).gives (.cons (Reads.d _).gives (.cons (Reads.d _).gives .nil)))) rfl rfl (fun h => absurd rfl h) (.own [27, 0] .nil) (.nil) rfl rfl rfl (by simp) rfl rfl rfl ?_
    exact .fin () (.of (.cons rfl (.cons rfl .nil)) .nil)
  intro _
  refine .cond (t := Iv.leq p (Iv.mk 0 (IntKind.wrap .i64 (((d.arrays.getD v.toNat default).size) - 1)))) rfl (fun c0 => ?_) (fun c0 => ?_)
  · have c0 := c0
    refine .seq ?_
    refine .reg (X := Unit) (fun ζ => .of [(6, .one (.d (.v (.int .i64 (0))))), (7, .one (.d (.v (.bool (Iv.meets p (Iv.mk 0 (IntKind.wrap .i64 (((d.arrays.getD v.toNat default).size) - 1))))))))] []) [⟨[10], some 28, [], []⟩, ⟨[], some 6, [], []⟩, ⟨[28], some 7, [], []⟩] (fun k12 => ?_) ?_
    · skip
      refine .move (.no rfl) rfl rfl rfl rfl ?_
      refine .assign (.no rfl) rfl rfl rfl rfl ?_
      refine .assign (.no rfl) rfl rfl rfl rfl ?_
      exact .fin () (.of (.cons rfl (.cons rfl .nil)) .nil)
    intro _
    refine .ret ?_
    have e13 : (0) = (alarmOf p ((d.arrays.getD v.toNat default).size)) := by first | exact alarm_yes c0 | exact alarm_no c0 | rfl
    have hc14 := eq1 (fun z1 => SV.one (.d (.v (.int .i64 (z1))))) e13
    have e15 : (Iv.meets p (Iv.mk 0 (IntKind.wrap .i64 (((d.arrays.getD v.toNat default).size) - 1)))) = (Iv.meets p (allOf ((d.arrays.getD v.toNat default).size))) := by first | exact alarm_yes c0 | exact alarm_no c0 | rfl
    have hc16 := eq1 (fun z1 => SV.one (.d (.v (.bool (z1))))) e15
    show _ ∧ _
    exact ⟨.inr rfl, .done ⟨_, [], [], _, .one (c := .d (.v (.int .i64 (alarmOf p ((d.arrays.getD v.toNat default).size))))) (hc14) (.one (c := .d (.v (.bool (Iv.meets p (allOf ((d.arrays.getD v.toNat default).size)))))) (hc16) .nil), .cons (Reads.d _).gives (.cons (Reads.d _).gives .nil), nodupB_ok rfl, by simp, (by simp)⟩⟩
  · have c0 := c0
    refine .skip ?_
    refine .seq ?_
    refine .reg (X := Unit) (fun ζ => .of [(6, .one (.d (.v (.int .i64 (2))))), (7, .one (.d (.v (.bool (Iv.meets p (Iv.mk 0 (IntKind.wrap .i64 (((d.arrays.getD v.toNat default).size) - 1))))))))] []) [⟨[10], some 29, [], []⟩, ⟨[], some 6, [], []⟩, ⟨[29], some 7, [], []⟩] (fun k17 => ?_) ?_
    · skip
      refine .move (.no rfl) rfl rfl rfl rfl ?_
      refine .assign (.no rfl) rfl rfl rfl rfl ?_
      refine .assign (.no rfl) rfl rfl rfl rfl ?_
      exact .fin () (.of (.cons rfl (.cons rfl .nil)) .nil)
    intro _
    refine .ret ?_
    have e18 : (2) = (alarmOf p ((d.arrays.getD v.toNat default).size)) := by first | exact alarm_yes c0 | exact alarm_no c0 | rfl
    have hc19 := eq1 (fun z1 => SV.one (.d (.v (.int .i64 (z1))))) e18
    have e20 : (Iv.meets p (Iv.mk 0 (IntKind.wrap .i64 (((d.arrays.getD v.toNat default).size) - 1)))) = (Iv.meets p (allOf ((d.arrays.getD v.toNat default).size))) := by first | exact alarm_yes c0 | exact alarm_no c0 | rfl
    have hc21 := eq1 (fun z1 => SV.one (.d (.v (.bool (z1))))) e20
    show _ ∧ _
    exact ⟨.inr rfl, .done ⟨_, [], [], _, .one (c := .d (.v (.int .i64 (alarmOf p ((d.arrays.getD v.toNat default).size))))) (hc19) (.one (c := .d (.v (.bool (Iv.meets p (allOf ((d.arrays.getD v.toNat default).size)))))) (hc21) .nil), .cons (Reads.d _).gives (.cons (Reads.d _).gives .nil), nodupB_ok rfl, by simp, (by simp)⟩⟩
theorem c_put (d : Decl) (e : Env) (v : Int) (p : Iv) (a : Iv) (hv : (0 ≤ v ∧ v < (e.arrs.length : Int) ∧ v < (d.arrays.length : Int) ∧ 1 ≤ (d.arrays.getD v.toNat default).size ∧ (d.arrays.getD v.toNat default).size ≤ 16 ∧ Iv.ok (e.arrs.getD v.toNat default) = true) ∧ Iv.ok a = true) (hb : e.ints.length ≤ 1048576 ∧ e.arrs.length ≤ 1048576) : Trip Tryd.prog 62 [(true, 3), (true, 3), (false, 1), (true, 2), (true, 2)] (Decl.c27 d ++ Env.c30 e ++ [.v (.int .i64 (v))] ++ Iv.c p ++ Iv.c a) [(true, 3), (false, 1)] [.v (.bool ((Env.put d e v p a).live)), .sl true 39 2 (List.map Iv.c ((Env.put d e v p a).ints)), .sl true 39 2 (List.map Iv.c ((Env.put d e v p a).arrs)), .v (.int .i64 (Env.putAl d v p))] [] := by
  refine Trip.of Tryd.func62 (by decide) (c := _) rfl rfl (shB_ok rfl) (Nat.le_of_ble_eq_true rfl) rfl (AftOk.nil _) ?_
  refine .satA (t := 0) (i := 0) rfl rfl (fun hs1 => ?_)
  have hs1l : d.vars.length ≤ 9223372036854775807 := hs1.maplen
  refine .satA (t := 0) (i := 1) rfl rfl (fun hs2 => ?_)
  have hs2l : d.flags.length ≤ 9223372036854775807 := hs2.maplen
  refine .satA (t := 0) (i := 2) rfl rfl (fun hs3 => ?_)
  have hs3l : d.arrays.length ≤ 9223372036854775807 := hs3.maplen
  refine .satA (t := 1) (i := 1) rfl rfl (fun hs4 => ?_)
  have hs4l : e.ints.length ≤ 9223372036854775807 := hs4.maplen
  refine .satA (t := 1) (i := 2) rfl rfl (fun hs5 => ?_)
  have hs5l : e.arrs.length ≤ 9223372036854775807 := hs5.maplen
  refine .seq ?_
  refine .reg (X := Nat × Nat × Nat × Nat × Nat) (fun ζ => .of [(2, .one (.d (.v (.int .i64 (v))))), (5, .one (.ptr [5] (ζ.1) 0)), (6, .one (.ptr [6] (ζ.2.1) 0)), (8, .one (.ptr [8] (ζ.2.2.1) 0)), (9, .one (.ptr [9] (ζ.2.2.2.1) 0)), (10, .one (.ptr [10] (ζ.2.2.2.2) 0))] [([5], (ζ.1, ζ.1, .box [.d (.sl false 9 1 (List.map strc (d.vars))), .d (.sl false 9 1 (List.map strc (d.flags))), .d (.sl false 52 2 (List.map Arr.c (d.arrays)))])), ([6], (ζ.2.1, ζ.2.1, .box [.d (.v (.bool (e.live))), .d (.sl false 39 2 (List.map Iv.c (e.ints))), .d (.sl false 39 2 (List.map Iv.c (e.arrs)))])), ([8], (ζ.2.2.1, ζ.2.2.1, .box [.d (.v (.int .i64 (p.lo))), .d (.v (.int .i64 (p.hi)))])), ([9], (ζ.2.2.2.1, ζ.2.2.2.1, .box [.d (.v (.int .i64 (a.lo))), .d (.v (.int .i64 (a.hi)))])), ([10], (ζ.2.2.2.2, ζ.2.2.2.2, .box [.d (.v (.bool (false))), .d (.v (.slice none 0 0)), .d (.v (.slice none 0 0))]))]) [⟨[0], some 5, [], [[5]]⟩, ⟨[1], some 6, [], [[6]]⟩, ⟨[3], some 8, [], [[8]]⟩, ⟨[4], some 9, [], [[9]]⟩, ⟨[], some 10, [], [[10]]⟩, ⟨[], some 11, [], []⟩] (fun k6 => ?_) ?_
  · skip
    refine .box (.no rfl) rfl rfl rfl rfl rfl ?_
    refine .box (.no rfl) rfl rfl rfl rfl rfl ?_
    refine .box (.no rfl) rfl rfl rfl rfl rfl ?_
    refine .box (.no rfl) rfl rfl rfl rfl rfl ?_
    refine .alloc (.no rfl) rfl z30 rfl rfl rfl ?_
    refine .assign (.no rfl) rfl rfl rfl rfl ?_
    exact .fin (k6, k6 + 1, k6 + 1 + 1, k6 + 1 + 1 + 1, k6 + 1 + 1 + 1 + 1) (.of (.cons rfl (.cons rfl (.cons rfl (.cons rfl (.cons rfl (.cons rfl .nil)))))) (.cons rfl (.cons rfl (.cons rfl (.cons rfl (.cons rfl .nil))))))
  rintro ⟨g7, g8, g9, g10, g11⟩
  refine .seq ?_
  refine .reg (X := Unit) (fun ζ => .of [(2, .one (.d (.v (.int .i64 (v))))), (5, .one (.ptr [5] (g7) 0)), (6, .one (.ptr [6] (g8) 0)), (9, .one (.ptr [9] (g10) 0)), (10, .one (.ptr [10] (g11) 0)), (12, .one (.d (.v (.int .i64 (alarmOf p ((d.arrays.getD v.toNat default).size)))))), (13, .one (.d (.v (.bool (Iv.meets p (allOf ((d.arrays.getD v.toNat default).size)))))))] [([5], (g7, g7, .box [.d (.sl false 9 1 (List.map strc (d.vars))), .d (.sl false 9 1 (List.map strc (d.flags))), .d (.sl false 52 2 (List.map Arr.c (d.arrays)))])), ([6], (g8, g8, .box [.d (.v (.bool (e.live))), .d (.sl false 39 2 (List.map Iv.c (e.ints))), .d (.sl false 39 2 (List.map Iv.c (e.arrs)))])), ([9], (g10, g10, .box [.d (.v (.int .i64 (a.lo))), .d (.v (.int .i64 (a.hi)))])), ([10], (g11, g11, .box [.d (.v (.bool (false))), .d (.v (.slice none 0 0)), .d (.v (.slice none 0 0))]))]) [⟨[5], some 16, [[5]], []⟩, ⟨[2], some 17, [], []⟩, ⟨[8], some 18, [[8]], []⟩, ⟨[16, 17, 18], some 19, [], []⟩, ⟨[19], some 15, [], []⟩, ⟨[15], some 20, [], []⟩, ⟨[15], some 21, [], []⟩, ⟨[20], some 12, [], []⟩, ⟨[21], some 13, [], []⟩] (fun k12 => ?_) ?_
  · skip
    refine .load (.no rfl) rfl t27 rfl rfl (.ptr _ _ _ _ _ rfl) rfl rfl rfl rfl ?_
    refine .move (.no rfl) rfl rfl rfl rfl ?_
    refine .load (.no rfl) rfl t39 rfl rfl (.ptr _ _ _ _ _ rfl) rfl rfl rfl rfl ?_
    refine .call (.no rfl) rfl [] [] (c_placed d v p (by omega)) rfl rfl rfl rfl rfl (.cons (Reads.d _).gives (.cons (Reads.d _).gives (.cons (Reads.d _).gives (.cons (Reads.d _).gives (.cons (Reads.d _).gives (.cons (Reads.d _).gives .nil)))))) rfl rfl (fun h => absurd rfl h) (.own [19, 0] (.own [19, 1] .nil)) (.nil) rfl rfl rfl (by simp) rfl rfl rfl ?_
    refine .move (.no rfl) rfl rfl rfl rfl ?_
    refine .extract (.no rfl) rfl rfl rfl rfl rfl ?_
    refine .extract (.no rfl) rfl rfl rfl rfl rfl ?_
    refine .assign (.no rfl) rfl rfl rfl rfl ?_
    refine .assign (.no rfl) rfl rfl rfl rfl ?_
    exact .fin () (.of (.cons rfl (.cons rfl (.cons rfl (.cons rfl (.cons rfl (.cons rfl (.cons rfl .nil))))))) (.cons rfl (.cons rfl (.cons rfl (.cons rfl .nil)))))
  intro _
  refine .seq ?_
  refine .seq ?_
  refine .reg (X := Unit) (fun ζ => .of [(2, .one (.d (.v (.int .i64 (v))))), (5, .one (.ptr [5] (g7) 0)), (6, .one (.ptr [6] (g8) 0)), (9, .one (.ptr [9] (g10) 0)), (10, .one (.ptr [10] (g11) 0)), (12, .one (.d (.v (.int .i64 (alarmOf p ((d.arrays.getD v.toNat default).size)))))), (23, .one (.d (.v (.bool (!(Iv.meets p (allOf ((d.arrays.getD v.toNat default).size))))))))] [([5], (g7, g7, .box [.d (.sl false 9 1 (List.map strc (d.vars))), .d (.sl false 9 1 (List.map strc (d.flags))), .d (.sl false 52 2 (List.map Arr.c (d.arrays)))])), ([6], (g8, g8, .box [.d (.v (.bool (e.live))), .d (.sl false 39 2 (List.map Iv.c (e.ints))), .d (.sl false 39 2 (List.map Iv.c (e.arrs)))])), ([9], (g10, g10, .box [.d (.v (.int .i64 (a.lo))), .d (.v (.int .i64 (a.hi)))])), ([10], (g11, g11, .box [.d (.v (.bool (false))), .d (.v (.slice none 0 0)), .d (.v (.slice none 0 0))]))]) [⟨[13], some 22, [], []⟩, ⟨[22], some 23, [], []⟩] (fun k13 => ?_) ?_
  · skip
    refine .move (.no rfl) rfl rfl rfl rfl ?_
    refine .un (.no rfl) rfl rfl rfl rfl rfl ?_
    exact .fin () (.of (.cons rfl (.cons rfl (.cons rfl (.cons rfl (.cons rfl (.cons rfl (.cons rfl .nil))))))) (.cons rfl (.cons rfl (.cons rfl (.cons rfl .nil)))))
  intro _
  refine .cond (t := !(Iv.meets p (allOf ((d.arrays.getD v.toNat default).size)))) rfl (fun c0 => ?_) (fun c0 => ?_)
  · have c0 := c0
    try simp only [Bool.or_eq_true, Bool.or_eq_false_iff, Bool.and_eq_true, Bool.and_eq_false_iff, decide_eq_true_eq, decide_eq_false_iff_not, Bool.not_eq_true', Bool.not_eq_false', bne_iff_ne, beq_iff_eq, bne_eq_false_iff_eq, beq_eq_false_iff_ne, ne_eq, Bool.not_eq_eq_eq_not, Bool.not_true, Bool.not_false] at c0
    refine .seq ?_
    refine .reg (X := Nat) (fun ζ => .of [(10, .one (.ptr [10] (g11) 0)), (11, .one (.d (.v (.int .i64 (alarmOf p ((d.arrays.getD v.toNat default).size))))))] [([10], (g11, ζ, .box [.d (.v (.bool (false))), .d (.v (.slice none 0 0)), .d (.v (.slice none 0 0))]))]) [⟨[], some 24, [], []⟩, ⟨[12], some 25, [], []⟩, ⟨[10, 24], none, [[10]], [[10]]⟩, ⟨[25], some 11, [], []⟩] (fun k14 => ?_) ?_
    · skip
      refine .build (.no rfl) rfl z30 rfl p30 rfl rfl rfl rfl ?_
      refine .move (.no rfl) rfl rfl rfl rfl ?_
      refine .store (.no rfl) rfl t30 rfl rfl rfl rfl rfl rfl rfl rfl rfl ?_
      refine .assign (.no rfl) rfl rfl rfl rfl ?_
      exact .fin (k14 + 1 + 1) (.of (.cons rfl (.cons rfl .nil)) (.cons rfl .nil))
    intro g15
    refine .ret ?_
    have e16 : (false) = ((Env.put d e v p a).live) := by first | (rw [Env.put_nil c0]) | (rw [Env.put_one c0 (by omega)]) | (rw [Env.put_more c0 (by omega)]; done) | (rw [Env.put_more c0 (by omega), Iv.joinOk_yes ⟨hv.1.2.2.2.2.2, hv.2⟩]) | rfl
    have hc17 := eq1 (fun z1 => some (g11, g15, O.box [.d (.v (.bool (z1))), .d (.v (.slice none 0 0)), .d (.v (.slice none 0 0))])) e16
    have e18 : (alarmOf p ((d.arrays.getD v.toNat default).size)) = (Env.putAl d v p) := by first | (rw [Env.put_nil c0]) | (rw [Env.put_one c0 (by omega)]) | (rw [Env.put_more c0 (by omega)]; done) | (rw [Env.put_more c0 (by omega), Iv.joinOk_yes ⟨hv.1.2.2.2.2.2, hv.2⟩]) | rfl
    have hc19 := eq1 (fun z1 => SV.one (.d (.v (.int .i64 (z1))))) e18
    show _ ∧ _
    exact ⟨.inr rfl, .done ⟨_, [], [], _, .cell (cells := [.d (.v (.bool ((Env.put d e v p a).live))), .d (.v (.slice none 0 0)), .d (.v (.slice none 0 0))]) rfl hc17 t30 rfl rfl (.one (c := .d (.v (.int .i64 (Env.putAl d v p)))) (hc19) .nil), .cons (Reads.d _).gives (.cons (Gives.nil' (by rw [Env.put_nil c0]; rfl)) (.cons (Gives.nil' (by rw [Env.put_nil c0]; rfl)) (.cons (Reads.d _).gives .nil))), nodupB_ok rfl, by simp, (by simp)⟩⟩
  · have c0 := c0
    try simp only [Bool.or_eq_true, Bool.or_eq_false_iff, Bool.and_eq_true, Bool.and_eq_false_iff, decide_eq_true_eq, decide_eq_false_iff_not, Bool.not_eq_true', Bool.not_eq_false', bne_iff_ne, beq_iff_eq, bne_eq_false_iff_eq, beq_eq_false_iff_ne, ne_eq, Bool.not_eq_eq_eq_not, Bool.not_true, Bool.not_false] at c0
    refine .skip ?_
    refine .seq ?_
    refine .reg (X := Nat × Nat × Nat) (fun ζ => .of [(2, .one (.d (.v (.int .i64 (v))))), (5, .one (.ptr [5] (g7) 0)), (9, .one (.ptr [9] (g10) 0)), (10, .one (.ptr [10] (g11) 0)), (12, .one (.d (.v (.int .i64 (alarmOf p ((d.arrays.getD v.toNat default).size)))))), (14, .one (.ptr [14] (ζ.1) 0))] [([5], (g7, g7, .box [.d (.sl false 9 1 (List.map strc (d.vars))), .d (.sl false 9 1 (List.map strc (d.flags))), .d (.sl false 52 2 (List.map Arr.c (d.arrays)))])), ([9], (g10, g10, .box [.d (.v (.int .i64 (a.lo))), .d (.v (.int .i64 (a.hi)))])), ([10], (g11, g11, .box [.d (.v (.bool (false))), .d (.v (.slice none 0 0)), .d (.v (.slice none 0 0))])), ([14], (ζ.1, ζ.2.1, .box [.d (.v (.bool (e.live))), .ref [27, 1] (ζ.2.2), .ref [27, 2] (ζ.2.2)])), ([27, 1], (ζ.2.2, ζ.2.2, .row 39 2 (List.map Iv.c (e.ints)))), ([27, 2], (ζ.2.2, ζ.2.2, .row 39 2 (List.map Iv.c (e.arrs))))]) [⟨[6], some 26, [[6]], []⟩, ⟨[26], some 27, [], [[27, 1], [27, 2]]⟩, ⟨[], some 14, [], [[14]]⟩, ⟨[14, 27], none, [[14]], [[14]]⟩] (fun k20 => ?_) ?_
    · skip
      refine .load (.no rfl) rfl t30 rfl rfl (.ptr _ _ _ _ _ rfl) rfl rfl rfl rfl ?_
      refine .call (.no rfl) rfl [] [] (c_own e (by omega)) rfl rfl rfl rfl rfl (.cons (Reads.d _).gives (.cons (Reads.d _).gives (.cons (Reads.d _).gives .nil))) rfl rfl (fun h => absurd rfl h) (.own [27, 0] (.own [27, 1] (.own [27, 2] .nil))) (.nil) rfl rfl rfl (by simp) rfl rfl rfl ?_
      refine .alloc (.no rfl) rfl z30 rfl rfl rfl ?_
      refine .store (.no rfl) rfl t30 rfl rfl rfl rfl rfl rfl rfl rfl rfl ?_
      exact .fin (k20 + 1 + 1, k20 + 1 + 1 + 1, k20 + 1) (.of (.cons rfl (.cons rfl (.cons rfl (.cons rfl (.cons rfl (.cons rfl .nil)))))) (.cons rfl (.cons rfl (.cons rfl (.cons rfl (.cons rfl (.cons rfl .nil)))))))
    rintro ⟨g21, g22, g23⟩
    refine .seq ?_
    refine .seq ?_
    refine .reg (X := Unit) (fun ζ => .of [(2, .one (.d (.v (.int .i64 (v))))), (9, .one (.ptr [9] (g10) 0)), (10, .one (.ptr [10] (g11) 0)), (12, .one (.d (.v (.int .i64 (alarmOf p ((d.arrays.getD v.toNat default).size)))))), (14, .one (.ptr [14] (g21) 0)), (34, .one (.d (.v (.bool (decide (((d.arrays.getD v.toNat default).size) > 1))))))] [([9], (g10, g10, .box [.d (.v (.int .i64 (a.lo))), .d (.v (.int .i64 (a.hi)))])), ([10], (g11, g11, .box [.d (.v (.bool (false))), .d (.v (.slice none 0 0)), .d (.v (.slice none 0 0))])), ([14], (g21, g22, .box [.d (.v (.bool (e.live))), .ref [27, 1] (g23), .ref [27, 2] (g23)])), ([27, 1], (g23, g23, .row 39 2 (List.map Iv.c (e.ints)))), ([27, 2], (g23, g23, .row 39 2 (List.map Iv.c (e.arrs))))]) [⟨[5], some 28, [], []⟩, ⟨[28], some 29, [[5]], []⟩, ⟨[2], some 30, [], []⟩, ⟨[29, 30], some 31, [], []⟩, ⟨[31], some 32, [], []⟩, ⟨[32], some 33, [], []⟩, ⟨[33], some 34, [], []⟩] (fun k24 => ?_) ?_
    · skip
      refine .fieldAddrP (.no rfl) rfl t27 rfl rfl t25 rfl rfl rfl rfl ?_
      refine .load (.no rfl) rfl t25 rfl rfl (.ptr _ _ _ _ _ rfl) rfl rfl rfl rfl ?_
      refine .move (.no rfl) rfl rfl rfl rfl ?_
      refine .indexAddr (.no rfl) rfl (v.toNat) t25 rfl t52 rfl rfl rfl (.d _ _) rfl rfl (by omega) (map_get (by omega)) rfl rfl ?_
      refine .fieldAddr (.no rfl) rfl t52 rfl rfl t2 rfl rfl rfl rfl [] (by simp) (by intro _ _ _ h; cases h) rfl rfl ?_
      refine .load (.no rfl) rfl t2 rfl rfl (.d _) rfl rfl rfl rfl ?_
      refine .bin (.no rfl) rfl rfl rfl rfl rfl rfl ?_
      exact .fin () (.of (.cons rfl (.cons rfl (.cons rfl (.cons rfl (.cons rfl (.cons rfl .nil)))))) (.cons rfl (.cons rfl (.cons rfl (.cons rfl (.cons rfl .nil))))))
    intro _
    refine .cond (t := decide (((d.arrays.getD v.toNat default).size) > 1)) rfl (fun c1 => ?_) (fun c1 => ?_)
    · have c1 := of_decide_eq_true c1
      refine .regD (X := Nat) (by kernel_rfl) (fun ζ => .of [(2, .one (.d (.v (.int .i64 (v))))), (9, .one (.ptr [9] (g10) 0)), (10, .one (.ptr [10] (g11) 0)), (12, .one (.d (.v (.int .i64 (alarmOf p ((d.arrays.getD v.toNat default).size)))))), (14, .one (.ptr [14] (g21) 0))] [([9], (g10, ζ, .box [.d (.v (.int .i64 ((Iv.joinOk (e.arrs.getD v.toNat default) a).lo))), .d (.v (.int .i64 ((Iv.joinOk (e.arrs.getD v.toNat default) a).hi)))])), ([10], (g11, g11, .box [.d (.v (.bool (false))), .d (.v (.slice none 0 0)), .d (.v (.slice none 0 0))])), ([14], (g21, g22, .box [.d (.v (.bool (e.live))), .ref [27, 1] (g23), .ref [27, 2] (g23)])), ([27, 1], (g23, g23, .row 39 2 (List.map Iv.c (e.ints)))), ([27, 2], (g23, g23, .row 39 2 (List.map Iv.c (e.arrs))))]) [⟨[14], some 35, [], []⟩, ⟨[35], some 36, [[14]], []⟩, ⟨[2], some 37, [], []⟩, ⟨[36, 37], some 38, [[27, 2]], []⟩, ⟨[38], some 39, [[27, 2]], []⟩, ⟨[9], some 40, [[9]], []⟩, ⟨[39, 40], some 41, [], []⟩, ⟨[9, 41], none, [[9]], [[9]]⟩] (by kernel_rfl) (fun k25 => ?_) ?_
      · skip
        refine .fieldAddrP (.no rfl) rfl t30 rfl rfl t28 rfl rfl rfl rfl ?_
        refine .load (.no rfl) rfl t28 rfl rfl (.ptr _ _ _ _ _ rfl) rfl rfl rfl rfl ?_
        refine .move (.no rfl) rfl rfl rfl rfl ?_
        refine .indexAddr (.no rfl) rfl (v.toNat) t28 rfl t39 rfl rfl rfl (.ref _ _ _ _ _ rfl) rfl rfl (by omega) (map_get (by omega)) rfl rfl ?_
        refine .load (.no rfl) rfl t39 rfl rfl (.eptr _ _ _ _ _ _ _ _ _ rfl (map_get (by omega))) rfl rfl rfl rfl ?_
        refine .load (.no rfl) rfl t39 rfl rfl (.ptr _ _ _ _ _ rfl) rfl rfl rfl rfl ?_
        refine .call (.no rfl) rfl [] [] (c_IvJoin (e.arrs.getD v.toNat default) a) rfl rfl rfl rfl rfl (.cons (Reads.d _).gives (.cons (Reads.d _).gives (.cons (Reads.d _).gives (.cons (Reads.d _).gives .nil)))) rfl rfl (fun h => absurd rfl h) (.own [41, 0] (.own [41, 1] .nil)) (.nil) rfl rfl rfl (by simp) rfl rfl rfl ?_
        refine .store (.no rfl) rfl t39 rfl rfl rfl rfl rfl rfl rfl rfl rfl ?_
        exact .fin (k25 + 1 + 1 + 1 + 1 + 1 + 1 + 1) (.of (.cons rfl (.cons rfl (.cons rfl (.cons rfl (.cons rfl .nil))))) (.cons rfl (.cons rfl (.cons rfl (.cons rfl (.cons rfl .nil))))))
      intro g26
      refine .seq ?_
      refine .reg (X := Nat) (fun ζ => .of [(10, .one (.ptr [10] (g11) 0)), (12, .one (.d (.v (.int .i64 (alarmOf p ((d.arrays.getD v.toNat default).size)))))), (14, .one (.ptr [14] (g21) 0))] [([10], (g11, g11, .box [.d (.v (.bool (false))), .d (.v (.slice none 0 0)), .d (.v (.slice none 0 0))])), ([14], (g21, g22, .box [.d (.v (.bool (e.live))), .ref [27, 1] (g23), .ref [27, 2] (g23)])), ([27, 1], (g23, g23, .row 39 2 (List.map Iv.c (e.ints)))), ([27, 2], (g23, ζ, .row 39 2 (List.map Iv.c (e.arrs.set v.toNat (Iv.joinOk (e.arrs.getD v.toNat default) a)))))]) [⟨[14], some 42, [], []⟩, ⟨[42], some 43, [[14]], []⟩, ⟨[2], some 44, [], []⟩, ⟨[9], some 45, [[9]], []⟩, ⟨[43, 44], some 46, [[27, 2]], []⟩, ⟨[46, 45], none, [[27, 2]], [[27, 2]]⟩] (fun k27 => ?_) ?_
      · skip
        refine .fieldAddrP (.no rfl) rfl t30 rfl rfl t28 rfl rfl rfl rfl ?_
        refine .load (.no rfl) rfl t28 rfl rfl (.ptr _ _ _ _ _ rfl) rfl rfl rfl rfl ?_
        refine .move (.no rfl) rfl rfl rfl rfl ?_
        refine .load (.no rfl) rfl t39 rfl rfl (.ptr _ _ _ _ _ rfl) rfl rfl rfl rfl ?_
        refine .indexAddr (.no rfl) rfl (v.toNat) t28 rfl t39 rfl rfl rfl (.ref _ _ _ _ _ rfl) rfl rfl (by omega) (map_get (by omega)) rfl rfl ?_
        refine .storeE (.no rfl) rfl (els' := List.map Iv.c (e.arrs.set v.toNat (Iv.joinOk (e.arrs.getD v.toNat default) a))) t39 rfl rfl rfl rfl (map_get (by omega)) rfl rfl (.cons _ _ _ _ _ _ (.d _) (.cons _ _ _ _ _ _ (.d _) .nil)) rfl (Nat.le_of_ble_eq_true rfl) (set_map _ _ _ (Iv.joinOk (e.arrs.getD v.toNat default) a) _ rfl) rfl rfl ?_
        exact .fin (k27 + 1 + 1 + 1 + 1 + 1) (.of (.cons rfl (.cons rfl (.cons rfl .nil))) (.cons rfl (.cons rfl (.cons rfl (.cons rfl .nil)))))
      intro g28
      refine .seq ?_
      refine .reg (X := Nat) (fun ζ => .of [(10, .one (.ptr [10] (g11) 0)), (11, .one (.d (.v (.int .i64 (alarmOf p ((d.arrays.getD v.toNat default).size))))))] [([10], (g11, ζ, .box [.d (.v (.bool (e.live))), .ref [27, 1] (g23), .ref [27, 2] (g23)])), ([27, 1], (g23, g23, .row 39 2 (List.map Iv.c (e.ints)))), ([27, 2], (g23, g28, .row 39 2 (List.map Iv.c (e.arrs.set v.toNat (Iv.joinOk (e.arrs.getD v.toNat default) a)))))]) [⟨[14], some 47, [[14]], []⟩, ⟨[12], some 48, [], []⟩, ⟨[10, 47], none, [[10]], [[10]]⟩, ⟨[48], some 11, [], []⟩] (fun k29 => ?_) ?_
      · skip
        refine .load (.no rfl) rfl t30 rfl rfl (.ptr _ _ _ _ _ rfl) rfl rfl rfl rfl ?_
        refine .move (.no rfl) rfl rfl rfl rfl ?_
        refine .store (.no rfl) rfl t30 rfl rfl rfl rfl rfl rfl rfl rfl rfl ?_
        refine .assign (.no rfl) rfl rfl rfl rfl ?_
        exact .fin (k29 + 1 + 1) (.of (.cons rfl (.cons rfl .nil)) (.cons rfl (.cons rfl (.cons rfl .nil))))
      intro g30
      refine .ret ?_
      have e31 : (e.live) = ((Env.put d e v p a).live) := by first | (rw [Env.put_nil c0]) | (rw [Env.put_one c0 (by omega)]) | (rw [Env.put_more c0 (by omega)]; done) | (rw [Env.put_more c0 (by omega), Iv.joinOk_yes ⟨hv.1.2.2.2.2.2, hv.2⟩]) | rfl
      have e32 : (e.ints) = ((Env.put d e v p a).ints) := by first | (rw [Env.put_nil c0]) | (rw [Env.put_one c0 (by omega)]) | (rw [Env.put_more c0 (by omega)]; done) | (rw [Env.put_more c0 (by omega), Iv.joinOk_yes ⟨hv.1.2.2.2.2.2, hv.2⟩]) | rfl
      have e33 : (e.arrs.set v.toNat (Iv.joinOk (e.arrs.getD v.toNat default) a)) = ((Env.put d e v p a).arrs) := by first | (rw [Env.put_nil c0]) | (rw [Env.put_one c0 (by omega)]) | (rw [Env.put_more c0 (by omega)]; done) | (rw [Env.put_more c0 (by omega), Iv.joinOk_yes ⟨hv.1.2.2.2.2.2, hv.2⟩]) | rfl
      have hc34 := eq1 (fun z1 => some (g11, g30, O.box [.d (.v (.bool (z1))), .ref [27, 1] (g23), .ref [27, 2] (g23)])) e31
      have e35 : (alarmOf p ((d.arrays.getD v.toNat default).size)) = (Env.putAl d v p) := by first | (rw [Env.put_nil c0]) | (rw [Env.put_one c0 (by omega)]) | (rw [Env.put_more c0 (by omega)]; done) | (rw [Env.put_more c0 (by omega), Iv.joinOk_yes ⟨hv.1.2.2.2.2.2, hv.2⟩]) | rfl
      have hc36 := eq1 (fun z1 => SV.one (.d (.v (.int .i64 (z1))))) e35
      show _ ∧ _
      exact ⟨.inr rfl, .done ⟨_, [], [([27, 1], (g23, g23, .row 39 2 (List.map Iv.c ((Env.put d e v p a).ints)))), ([27, 2], (g23, g28, .row 39 2 (List.map Iv.c ((Env.put d e v p a).arrs))))], _, .cell (cells := [.d (.v (.bool ((Env.put d e v p a).live))), .ref [27, 1] (g23), .ref [27, 2] (g23)]) rfl hc34 t30 rfl rfl (.one (c := .d (.v (.int .i64 (Env.putAl d v p)))) (hc36) .nil), .cons (Reads.d _).gives (.cons (.ref (.head _)) (.cons (.ref (.tail _ (.head _))) (.cons (Reads.d _).gives .nil))), nodupB_ok rfl, by simp, (AllH.get (.cons (rowE (congrArg (List.map Iv.c) e32)) (.cons (rowE (congrArg (List.map Iv.c) e33)) .nil)))⟩⟩
    · have c1 := of_decide_eq_false c1
      refine .skip ?_
      refine .seq ?_
      refine .reg (X := Nat) (fun ζ => .of [(10, .one (.ptr [10] (g11) 0)), (12, .one (.d (.v (.int .i64 (alarmOf p ((d.arrays.getD v.toNat default).size)))))), (14, .one (.ptr [14] (g21) 0))] [([10], (g11, g11, .box [.d (.v (.bool (false))), .d (.v (.slice none 0 0)), .d (.v (.slice none 0 0))])), ([14], (g21, g22, .box [.d (.v (.bool (e.live))), .ref [27, 1] (g23), .ref [27, 2] (g23)])), ([27, 1], (g23, g23, .row 39 2 (List.map Iv.c (e.ints)))), ([27, 2], (g23, ζ, .row 39 2 (List.map Iv.c (e.arrs.set v.toNat a))))]) [⟨[14], some 42, [], []⟩, ⟨[42], some 43, [[14]], []⟩, ⟨[2], some 44, [], []⟩, ⟨[9], some 45, [[9]], []⟩, ⟨[43, 44], some 46, [[27, 2]], []⟩, ⟨[46, 45], none, [[27, 2]], [[27, 2]]⟩] (fun k37 => ?_) ?_
      · skip
        refine .fieldAddrP (.no rfl) rfl t30 rfl rfl t28 rfl rfl rfl rfl ?_
        refine .load (.no rfl) rfl t28 rfl rfl (.ptr _ _ _ _ _ rfl) rfl rfl rfl rfl ?_
        refine .move (.no rfl) rfl rfl rfl rfl ?_
        refine .load (.no rfl) rfl t39 rfl rfl (.ptr _ _ _ _ _ rfl) rfl rfl rfl rfl ?_
        refine .indexAddr (.no rfl) rfl (v.toNat) t28 rfl t39 rfl rfl rfl (.ref _ _ _ _ _ rfl) rfl rfl (by omega) (map_get (by omega)) rfl rfl ?_
        refine .storeE (.no rfl) rfl (els' := List.map Iv.c (e.arrs.set v.toNat a)) t39 rfl rfl rfl rfl (map_get (by omega)) rfl rfl (.cons _ _ _ _ _ _ (.d _) (.cons _ _ _ _ _ _ (.d _) .nil)) rfl (Nat.le_of_ble_eq_true rfl) (set_map _ _ _ a _ rfl) rfl rfl ?_
        exact .fin (k37 + 1 + 1 + 1 + 1 + 1) (.of (.cons rfl (.cons rfl (.cons rfl .nil))) (.cons rfl (.cons rfl (.cons rfl (.cons rfl .nil)))))
      intro g38
      refine .seq ?_
      refine .reg (X := Nat) (fun ζ => .of [(10, .one (.ptr [10] (g11) 0)), (11, .one (.d (.v (.int .i64 (alarmOf p ((d.arrays.getD v.toNat default).size))))))] [([10], (g11, ζ, .box [.d (.v (.bool (e.live))), .ref [27, 1] (g23), .ref [27, 2] (g23)])), ([27, 1], (g23, g23, .row 39 2 (List.map Iv.c (e.ints)))), ([27, 2], (g23, g38, .row 39 2 (List.map Iv.c (e.arrs.set v.toNat a))))]) [⟨[14], some 47, [[14]], []⟩, ⟨[12], some 48, [], []⟩, ⟨[10, 47], none, [[10]], [[10]]⟩, ⟨[48], some 11, [], []⟩] (fun k39 => ?_) ?_
      · skip
        refine .load (.no rfl) rfl t30 rfl rfl (.ptr _ _ _ _ _ rfl) rfl rfl rfl rfl ?_
        refine .move (.no rfl) rfl rfl rfl rfl ?_
        refine .store (.no rfl) rfl t30 rfl rfl rfl rfl rfl rfl rfl rfl rfl ?_
        refine .assign (.no rfl) rfl rfl rfl rfl ?_
        exact .fin (k39 + 1 + 1) (.of (.cons rfl (.cons rfl .nil)) (.cons rfl (.cons rfl (.cons rfl .nil))))
      intro g40
      refine .ret ?_
      have e41 : (e.live) = ((Env.put d e v p a).live) := by first | (rw [Env.put_nil c0]) | (rw [Env.put_one c0 (by omega)]) | (rw [Env.put_more c0 (by omega)]; done) | (rw [Env.put_more c0 (by omega), Iv.joinOk_yes ⟨hv.1.2.2.2.2.2, hv.2⟩]) | rfl
      have e42 : (e.ints) = ((Env.put d e v p a).ints) := by first | (rw [Env.put_nil c0]) | (rw [Env.put_one c0 (by omega)]) | (rw [Env.put_more c0 (by omega)]; done) | (rw [Env.put_more c0 (by omega), Iv.joinOk_yes ⟨hv.1.2.2.2.2.2, hv.2⟩]) | rfl
      have e43 : (e.arrs.set v.toNat a) = ((Env.put d e v p a).arrs) := by first | (rw [Env.put_nil c0]) | (rw [Env.put_one c0 (by omega)]) | (rw [Env.put_more c0 (by omega)]; done) | (rw [Env.put_more c0 (by omega), Iv.joinOk_yes ⟨hv.1.2.2.2.2.2, hv.2⟩]) | rfl
      have hc44 := eq1 (fun z1 => some (g11, g40, O.box [.d (.v (.bool (z1))), .ref [27, 1] (g23), .ref [27, 2] (g23)])) e41
      have e45 : (alarmOf p ((d.arrays.getD v.toNat default).size)) = (Env.putAl d v p) := by first | (rw [Env.put_nil c0]) | (rw [Env.put_one c0 (by omega)]) | (rw [Env.put_more c0 (by omega)]; done) | (rw [Env.put_more c0 (by omega), Iv.joinOk_yes ⟨hv.1.2.2.2.2.2, hv.2⟩]) | rfl
      have hc46 := eq1 (fun z1 => SV.one (.d (.v (.int .i64 (z1))))) e45
      show _ ∧ _
      exact ⟨.inr rfl, .done ⟨_, [], [([27, 1], (g23, g23, .row 39 2 (List.map Iv.c ((Env.put d e v p a).ints)))), ([27, 2], (g23, g38, .row 39 2 (List.map Iv.c ((Env.put d e v p a).arrs))))], _, .cell (cells := [.d (.v (.bool ((Env.put d e v p a).live))), .ref [27, 1] (g23), .ref [27, 2] (g23)]) rfl hc44 t30 rfl rfl (.one (c := .d (.v (.int .i64 (Env.putAl d v p)))) (hc46) .nil), .cons (Reads.d _).gives (.cons (.ref (.head _)) (.cons (.ref (.tail _ (.head _))) (.cons (Reads.d _).gives .nil))), nodupB_ok rfl, by simp, (AllH.get (.cons (rowE (congrArg (List.map Iv.c) e42)) (.cons (rowE (congrArg (List.map Iv.c) e43)) .nil)))⟩⟩
theorem c_EnvPut (d : Decl) (e : Env) (v : Int) (p : Iv) (a : Iv) (hs : ∀ x ∈ Decl.names d, x.size ≤ 9223372036854775807) (hd : d.vars.length ≤ 1048576 ∧ d.flags.length ≤ 1048576 ∧ d.arrays.length ≤ 1048576) (hb : e.ints.length ≤ 1048576 ∧ e.arrs.length ≤ 1048576) : Trip Tryd.prog 16 [(true, 3), (true, 3), (false, 1), (true, 2), (true, 2)] (Decl.c27 d ++ Env.c30 e ++ [.v (.int .i64 (v))] ++ Iv.c p ++ Iv.c a) [(true, 3), (false, 1)] [.v (.bool ((Env.putIn d e v p a).live)), .sl true 39 2 (List.map Iv.c ((Env.putIn d e v p a).ints)), .sl true 39 2 (List.map Iv.c ((Env.putIn d e v p a).arrs)), .v (.int .i64 (Env.putInAl d e v p a))] [] := by
  refine Trip.of Tryd.func16 (by decide) (c := _) rfl rfl (shB_ok rfl) (Nat.le_of_ble_eq_true rfl) rfl (AftOk.nil _) ?_
  refine .satA (t := 0) (i := 0) rfl rfl (fun hs1 => ?_)
  have hs1l : d.vars.length ≤ 9223372036854775807 := hs1.maplen
  refine .satA (t := 0) (i := 1) rfl rfl (fun hs2 => ?_)
  have hs2l : d.flags.length ≤ 9223372036854775807 := hs2.maplen
  refine .satA (t := 0) (i := 2) rfl rfl (fun hs3 => ?_)
  have hs3l : d.arrays.length ≤ 9223372036854775807 := hs3.maplen
  refine .satA (t := 1) (i := 1) rfl rfl (fun hs4 => ?_)
  have hs4l : e.ints.length ≤ 9223372036854775807 := hs4.maplen
  refine .satA (t := 1) (i := 2) rfl rfl (fun hs5 => ?_)
  have hs5l : e.arrs.length ≤ 9223372036854775807 := hs5.maplen
  refine .seq ?_
  refine .reg (X := Nat × Nat × Nat × Nat × Nat) (fun ζ => .of [(2, .one (.d (.v (.int .i64 (v))))), (5, .one (.ptr [5] (ζ.1) 0)), (6, .one (.ptr [6] (ζ.2.1) 0)), (8, .one (.ptr [8] (ζ.2.2.1) 0)), (9, .one (.ptr [9] (ζ.2.2.2.1) 0)), (10, .one (.ptr [10] (ζ.2.2.2.2) 0))] [([5], (ζ.1, ζ.1, .box [.d (.sl false 9 1 (List.map strc (d.vars))), .d (.sl false 9 1 (List.map strc (d.flags))), .d (.sl false 52 2 (List.map Arr.c (d.arrays)))])), ([6], (ζ.2.1, ζ.2.1, .box [.d (.v (.bool (e.live))), .d (.sl false 39 2 (List.map Iv.c (e.ints))), .d (.sl false 39 2 (List.map Iv.c (e.arrs)))])), ([8], (ζ.2.2.1, ζ.2.2.1, .box [.d (.v (.int .i64 (p.lo))), .d (.v (.int .i64 (p.hi)))])), ([9], (ζ.2.2.2.1, ζ.2.2.2.1, .box [.d (.v (.int .i64 (a.lo))), .d (.v (.int .i64 (a.hi)))])), ([10], (ζ.2.2.2.2, ζ.2.2.2.2, .box [.d (.v (.bool (false))), .d (.v (.slice none 0 0)), .d (.v (.slice none 0 0))]))]) [⟨[0], some 5, [], [[5]]⟩, ⟨[1], some 6, [], [[6]]⟩, ⟨[3], some 8, [], [[8]]⟩, ⟨[4], some 9, [], [[9]]⟩, ⟨[], some 10, [], [[10]]⟩, ⟨[], some 11, [], []⟩] (fun k6 => ?_) ?_
  · skip
    refine .box (.no rfl) rfl rfl rfl rfl rfl ?_
    refine .box (.no rfl) rfl rfl rfl rfl rfl ?_
    refine .box (.no rfl) rfl rfl rfl rfl rfl ?_
    refine .box (.no rfl) rfl rfl rfl rfl rfl ?_
    refine .alloc (.no rfl) rfl z30 rfl rfl rfl ?_
    refine .assign (.no rfl) rfl rfl rfl rfl ?_
    exact .fin (k6, k6 + 1, k6 + 1 + 1, k6 + 1 + 1 + 1, k6 + 1 + 1 + 1 + 1) (.of (.cons rfl (.cons rfl (.cons rfl (.cons rfl (.cons rfl (.cons rfl .nil)))))) (.cons rfl (.cons rfl (.cons rfl (.cons rfl (.cons rfl .nil))))))
  rintro ⟨g7, g8, g9, g10, g11⟩
  refine .seq ?_
  refine .seq ?_
  refine .reg (X := Unit) (fun ζ => .of [(2, .one (.d (.v (.int .i64 (v))))), (5, .one (.ptr [5] (g7) 0)), (6, .one (.ptr [6] (g8) 0)), (8, .one (.ptr [8] (g9) 0)), (9, .one (.ptr [9] (g10) 0)), (10, .one (.ptr [10] (g11) 0)), (35, .one (.d (.v (.bool ((((!(Decl.ok d && Env.okIn d e) || !e.live) || !(inR v 0 (IntKind.wrap .i64 ((d.arrays.length : Int) - 1)))) || !(Iv.ok p && Iv.ok a)))))))] [([5], (g7, g7, .box [.d (.sl false 9 1 (List.map strc (d.vars))), .d (.sl false 9 1 (List.map strc (d.flags))), .d (.sl false 52 2 (List.map Arr.c (d.arrays)))])), ([6], (g8, g8, .box [.d (.v (.bool (e.live))), .d (.sl false 39 2 (List.map Iv.c (e.ints))), .d (.sl false 39 2 (List.map Iv.c (e.arrs)))])), ([8], (g9, g9, .box [.d (.v (.int .i64 (p.lo))), .d (.v (.int .i64 (p.hi)))])), ([9], (g10, g10, .box [.d (.v (.int .i64 (a.lo))), .d (.v (.int .i64 (a.hi)))])), ([10], (g11, g11, .box [.d (.v (.bool (false))), .d (.v (.slice none 0 0)), .d (.v (.slice none 0 0))]))]) [⟨[5], some 12, [[5]], []⟩, ⟨[6], some 13, [[6]], []⟩, ⟨[12, 13], some 14, [], []⟩, ⟨[14], some 15, [], []⟩, ⟨[15], some 16, [], []⟩, ⟨[16, 6], some 17, [], []⟩, ⟨[16, 17], some 18, [[6]], []⟩, ⟨[16, 18], some 19, [], []⟩, ⟨[16, 19], some 20, [], []⟩, ⟨[20], some 21, [], []⟩, ⟨[21, 2], some 22, [], []⟩, ⟨[21, 5], some 23, [], []⟩, ⟨[21, 23], some 24, [[5]], []⟩, ⟨[21, 24], some 25, [], []⟩, ⟨[21, 25], some 26, [], []⟩, ⟨[21, 22, 26], some 27, [], []⟩, ⟨[21, 27], some 28, [], []⟩, ⟨[21, 28], some 29, [], []⟩, ⟨[29], some 30, [], []⟩, ⟨[30, 8], some 31, [[8]], []⟩, ⟨[30, 9], some 32, [[9]], []⟩, ⟨[30, 31, 32], some 33, [], []⟩, ⟨[30, 33], some 34, [], []⟩, ⟨[30, 34], some 35, [], []⟩] (fun k12 => ?_) ?_
  · skip
    refine .load (.no rfl) rfl t27 rfl rfl (.ptr _ _ _ _ _ rfl) rfl rfl rfl rfl ?_
    refine .load (.no rfl) rfl t30 rfl rfl (.ptr _ _ _ _ _ rfl) rfl rfl rfl rfl ?_
    refine .call (.no rfl) rfl [] [] (c_EnvOk d e (by first | assumption | omega | exact ⟨(Env.put_place (d := d) (by omega) c0.1.1.1.1 c0.1.1.1.2 c0.1.1.2 c0.1.2), c0.2.2⟩) (by first | assumption | omega | exact ⟨(Env.put_place (d := d) (by omega) c0.1.1.1.1 c0.1.1.1.2 c0.1.1.2 c0.1.2), c0.2.2⟩)) rfl rfl rfl rfl rfl (.cons (Reads.d _).gives (.cons (Reads.d _).gives (.cons (Reads.d _).gives (.cons (Reads.d _).gives (.cons (Reads.d _).gives (.cons (Reads.d _).gives .nil)))))) rfl rfl (fun h => absurd rfl h) (.own [14, 0] .nil) (.nil) rfl rfl rfl (by simp) rfl rfl rfl ?_
    refine .un (.no rfl) rfl rfl rfl rfl rfl ?_
    refine .moveB (.no rfl) rfl rfl rfl rfl fun b13 g1_4 => ?_
    cases b13
    · skip
      refine .fieldAddrP (.on rfl rfl rfl rfl rfl) rfl t30 rfl rfl t4 rfl rfl rfl rfl ?_
      refine .load (.on rfl rfl rfl rfl rfl) rfl t4 rfl rfl (.ptr _ _ _ _ _ rfl) rfl rfl rfl rfl ?_
      refine .un (.on rfl rfl rfl rfl rfl) rfl rfl rfl rfl rfl ?_
      refine .pick (.no rfl) rfl rfl rfl rfl rfl ?_
      refine .moveB (.no rfl) rfl rfl rfl rfl fun b14 g1_9 => ?_
      cases b14
      · skip
        refine .move (.on rfl rfl rfl rfl rfl) rfl rfl rfl rfl ?_
        refine .fieldAddrP (.on rfl rfl rfl rfl rfl) rfl t27 rfl rfl t25 rfl rfl rfl rfl ?_
        refine .load (.on rfl rfl rfl rfl rfl) rfl t25 rfl rfl (.ptr _ _ _ _ _ rfl) rfl rfl rfl rfl ?_
        refine .call (.on rfl rfl rfl rfl rfl) rfl [] [] (c_sizeA d.arrays) rfl rfl rfl rfl rfl (.cons (Reads.d _).gives .nil) rfl rfl (fun h => absurd rfl h) (.own [25, 0] .nil) (.nil) rfl rfl rfl (by simp) rfl rfl rfl ?_
        refine .bin (.on rfl rfl rfl rfl rfl) rfl rfl rfl rfl rfl rfl ?_
        refine .call (.on rfl rfl rfl rfl rfl) rfl [] [] (c_within v 0 (IntKind.wrap .i64 ((d.arrays.length : Int) - 1))) rfl rfl rfl rfl rfl (.cons (Reads.d _).gives (.cons (Reads.d _).gives (.cons (Reads.d _).gives .nil))) rfl rfl (fun h => absurd rfl h) (.own [27, 0] .nil) (.nil) rfl rfl rfl (by simp) rfl rfl rfl ?_
        refine .un (.on rfl rfl rfl rfl rfl) rfl rfl rfl rfl rfl ?_
        refine .pick (.no rfl) rfl rfl rfl rfl rfl ?_
        refine .moveB (.no rfl) rfl rfl rfl rfl fun b15 g1_18 => ?_
        cases b15
        · skip
          refine .load (.on rfl rfl rfl rfl rfl) rfl t39 rfl rfl (.ptr _ _ _ _ _ rfl) rfl rfl rfl rfl ?_
          refine .load (.on rfl rfl rfl rfl rfl) rfl t39 rfl rfl (.ptr _ _ _ _ _ rfl) rfl rfl rfl rfl ?_
          refine .call (.on rfl rfl rfl rfl rfl) rfl [] [] (c_areIvs p a) rfl rfl rfl rfl rfl (.cons (Reads.d _).gives (.cons (Reads.d _).gives (.cons (Reads.d _).gives (.cons (Reads.d _).gives .nil)))) rfl rfl (fun h => absurd rfl h) (.own [33, 0] .nil) (.nil) rfl rfl rfl (by simp) rfl rfl rfl ?_
          refine .un (.on rfl rfl rfl rfl rfl) rfl rfl rfl rfl rfl ?_
          refine .pick (.no rfl) rfl rfl rfl rfl rfl ?_
          exact .fin () (.of (.cons rfl (.cons rfl (.cons rfl (.cons rfl (.cons rfl (.cons rfl (.cons (svB (show (!(Iv.ok p && Iv.ok a)) = ((((!(Decl.ok d && Env.okIn d e) || !e.live) || !(inR v 0 (IntKind.wrap .i64 ((d.arrays.length : Int) - 1)))) || !(Iv.ok p && Iv.ok a))) by first | (simp only [g1_4, g1_9, g1_18, Bool.true_or, Bool.false_or, Bool.true_and, Bool.false_and, Bool.not_true, Bool.not_false]; done) | simp [g1_4, g1_9, g1_18])) .nil))))))) (.cons rfl (.cons rfl (.cons rfl (.cons rfl (.cons rfl .nil))))))
        · skip
          refine .off rfl rfl rfl rfl rfl rfl rfl ?_
          refine .off rfl rfl rfl rfl rfl rfl rfl ?_
          refine .off rfl rfl rfl rfl rfl rfl rfl ?_
          refine .off rfl rfl rfl rfl rfl rfl rfl ?_
          refine .pick (.no rfl) rfl rfl rfl rfl rfl ?_
          exact .fin () (.of (.cons rfl (.cons rfl (.cons rfl (.cons rfl (.cons rfl (.cons rfl (.cons (svB (show (true) = ((((!(Decl.ok d && Env.okIn d e) || !e.live) || !(inR v 0 (IntKind.wrap .i64 ((d.arrays.length : Int) - 1)))) || !(Iv.ok p && Iv.ok a))) by first | (simp only [g1_4, g1_9, g1_18, Bool.true_or, Bool.false_or, Bool.true_and, Bool.false_and, Bool.not_true, Bool.not_false]; done) | simp [g1_4, g1_9, g1_18])) .nil))))))) (.cons rfl (.cons rfl (.cons rfl (.cons rfl (.cons rfl .nil))))))
      · skip
        refine .off rfl rfl rfl rfl rfl rfl rfl ?_
        refine .off rfl rfl rfl rfl rfl rfl rfl ?_
        refine .off rfl rfl rfl rfl rfl rfl rfl ?_
        refine .off rfl rfl rfl rfl rfl rfl rfl ?_
        refine .off rfl rfl rfl rfl rfl rfl rfl ?_
        refine .off rfl rfl rfl rfl rfl rfl rfl ?_
        refine .off rfl rfl rfl rfl rfl rfl rfl ?_
        refine .pick (.no rfl) rfl rfl rfl rfl rfl ?_
        refine .move (.no rfl) rfl rfl rfl rfl ?_
        refine .off rfl rfl rfl rfl rfl rfl rfl ?_
        refine .off rfl rfl rfl rfl rfl rfl rfl ?_
        refine .off rfl rfl rfl rfl rfl rfl rfl ?_
        refine .off rfl rfl rfl rfl rfl rfl rfl ?_
        refine .pick (.no rfl) rfl rfl rfl rfl rfl ?_
        exact .fin () (.of (.cons rfl (.cons rfl (.cons rfl (.cons rfl (.cons rfl (.cons rfl (.cons (svB (show (true) = ((((!(Decl.ok d && Env.okIn d e) || !e.live) || !(inR v 0 (IntKind.wrap .i64 ((d.arrays.length : Int) - 1)))) || !(Iv.ok p && Iv.ok a))) by first | (simp only [g1_4, g1_9, Bool.true_or, Bool.false_or, Bool.true_and, Bool.false_and, Bool.not_true, Bool.not_false]; done) | simp [g1_4, g1_9])) .nil))))))) (.cons rfl (.cons rfl (.cons rfl (.cons rfl (.cons rfl .nil))))))
    · skip
      refine .off rfl rfl rfl rfl rfl rfl rfl ?_
      refine .off rfl rfl rfl rfl rfl rfl rfl ?_
      refine .off rfl rfl rfl rfl rfl rfl rfl ?_
      refine .pick (.no rfl) rfl rfl rfl rfl rfl ?_
      refine .move (.no rfl) rfl rfl rfl rfl ?_
      refine .off rfl rfl rfl rfl rfl rfl rfl ?_
      refine .off rfl rfl rfl rfl rfl rfl rfl ?_
      refine .off rfl rfl rfl rfl rfl rfl rfl ?_
      refine .off rfl rfl rfl rfl rfl rfl rfl ?_
      refine .off rfl rfl rfl rfl rfl rfl rfl ?_
      refine .off rfl rfl rfl rfl rfl rfl rfl ?_
      refine .off rfl rfl rfl rfl rfl rfl rfl ?_
      refine .pick (.no rfl) rfl rfl rfl rfl rfl ?_
      refine .move (.no rfl) rfl rfl rfl rfl ?_
      refine .off rfl rfl rfl rfl rfl rfl rfl ?_
      refine .off rfl rfl rfl rfl rfl rfl rfl ?_
      refine .off rfl rfl rfl rfl rfl rfl rfl ?_
      refine .off rfl rfl rfl rfl rfl rfl rfl ?_
      refine .pick (.no rfl) rfl rfl rfl rfl rfl ?_
      exact .fin () (.of (.cons rfl (.cons rfl (.cons rfl (.cons rfl (.cons rfl (.cons rfl (.cons (svB (show (true) = ((((!(Decl.ok d && Env.okIn d e) || !e.live) || !(inR v 0 (IntKind.wrap .i64 ((d.arrays.length : Int) - 1)))) || !(Iv.ok p && Iv.ok a))) by first | (simp only [g1_4, Bool.true_or, Bool.false_or, Bool.true_and, Bool.false_and, Bool.not_true, Bool.not_false]; done) | simp [g1_4])) .nil))))))) (.cons rfl (.cons rfl (.cons rfl (.cons rfl (.cons rfl .nil))))))
  intro _
  refine .cond (t := (((!(Decl.ok d && Env.okIn d e) || !e.live) || !(inR v 0 (IntKind.wrap .i64 ((d.arrays.length : Int) - 1)))) || !(Iv.ok p && Iv.ok a))) rfl (fun c0 => ?_) (fun c0 => ?_)
  · have c0 := c0
    try simp only [Bool.or_eq_true, Bool.or_eq_false_iff, Bool.and_eq_true, Bool.and_eq_false_iff, decide_eq_true_eq, decide_eq_false_iff_not, Bool.not_eq_true', Bool.not_eq_false', bne_iff_ne, beq_iff_eq, bne_eq_false_iff_eq, beq_eq_false_iff_ne, ne_eq, Bool.not_eq_eq_eq_not, Bool.not_true, Bool.not_false] at c0
    refine .seq ?_
    refine .reg (X := Nat) (fun ζ => .of [(10, .one (.ptr [10] (g11) 0)), (11, .one (.d (.v (.int .i64 (0)))))] [([10], (g11, ζ, .box [.d (.v (.bool (false))), .d (.v (.slice none 0 0)), .d (.v (.slice none 0 0))]))]) [⟨[], some 36, [], []⟩, ⟨[10, 36], none, [[10]], [[10]]⟩, ⟨[], some 11, [], []⟩] (fun k16 => ?_) ?_
    · skip
      refine .build (.no rfl) rfl z30 rfl p30 rfl rfl rfl rfl ?_
      refine .store (.no rfl) rfl t30 rfl rfl rfl rfl rfl rfl rfl rfl rfl ?_
      refine .assign (.no rfl) rfl rfl rfl rfl ?_
      exact .fin (k16 + 1) (.of (.cons rfl (.cons rfl .nil)) (.cons rfl .nil))
    intro g17
    refine .ret ?_
    have e18 : (false) = ((Env.putIn d e v p a).live) := by first | (unfold Env.putIn; rw [if_pos (Env.putIn_yes2 c0)]) | (unfold Env.putInAl; rw [if_pos (Env.putIn_yes2 c0)]) | (unfold Env.putIn; rw [Env.putIn_no2 c0]; rfl) | (unfold Env.putInAl; rw [Env.putIn_no2 c0]; rfl)
    have hc19 := eq1 (fun z1 => some (g11, g17, O.box [.d (.v (.bool (z1))), .d (.v (.slice none 0 0)), .d (.v (.slice none 0 0))])) e18
    have e20 : (0) = (Env.putInAl d e v p a) := by first | (unfold Env.putIn; rw [if_pos (Env.putIn_yes2 c0)]) | (unfold Env.putInAl; rw [if_pos (Env.putIn_yes2 c0)]) | (unfold Env.putIn; rw [Env.putIn_no2 c0]; rfl) | (unfold Env.putInAl; rw [Env.putIn_no2 c0]; rfl)
    have hc21 := eq1 (fun z1 => SV.one (.d (.v (.int .i64 (z1))))) e20
    show _ ∧ _
    exact ⟨.inr rfl, .done ⟨_, [], [], _, .cell (cells := [.d (.v (.bool ((Env.putIn d e v p a).live))), .d (.v (.slice none 0 0)), .d (.v (.slice none 0 0))]) rfl hc19 t30 rfl rfl (.one (c := .d (.v (.int .i64 (Env.putInAl d e v p a)))) (hc21) .nil), .cons (Reads.d _).gives (.cons (Gives.nil' (by unfold Env.putIn; rw [Env.putIn_no2 c0]; rfl)) (.cons (Gives.nil' (by unfold Env.putIn; rw [Env.putIn_no2 c0]; rfl)) (.cons (Reads.d _).gives .nil))), nodupB_ok rfl, by simp, (by simp)⟩⟩
  · have c0 := c0
    try simp only [Bool.or_eq_true, Bool.or_eq_false_iff, Bool.and_eq_true, Bool.and_eq_false_iff, decide_eq_true_eq, decide_eq_false_iff_not, Bool.not_eq_true', Bool.not_eq_false', bne_iff_ne, beq_iff_eq, bne_eq_false_iff_eq, beq_eq_false_iff_ne, ne_eq, Bool.not_eq_eq_eq_not, Bool.not_true, Bool.not_false] at c0
    refine .skip ?_
    refine .seq ?_
    refine .reg (X := Nat × Nat) (fun ζ => .of [(10, .one (.ptr [10] (g11) 0)), (11, .one (.d (.v (.int .i64 (Env.putAl d v p)))))] [([10], (g11, ζ.1, .box [.d (.v (.bool ((Env.put d e v p a).live))), .ref [42, 1] (ζ.2), .ref [42, 2] (ζ.2)])), ([42, 1], (ζ.2, ζ.2, .row 39 2 (List.map Iv.c ((Env.put d e v p a).ints)))), ([42, 2], (ζ.2, ζ.2, .row 39 2 (List.map Iv.c ((Env.put d e v p a).arrs))))]) [⟨[5], some 37, [[5]], []⟩, ⟨[6], some 38, [[6]], []⟩, ⟨[2], some 39, [], []⟩, ⟨[8], some 40, [[8]], []⟩, ⟨[9], some 41, [[9]], []⟩, ⟨[37, 38, 39, 40, 41], some 42, [], [[42, 1], [42, 2]]⟩, ⟨[42], some 43, [], []⟩, ⟨[42], some 44, [], []⟩, ⟨[10, 43], none, [[10]], [[10]]⟩, ⟨[44], some 11, [], []⟩] (fun k22 => ?_) ?_
    · skip
      refine .load (.no rfl) rfl t27 rfl rfl (.ptr _ _ _ _ _ rfl) rfl rfl rfl rfl ?_
      refine .load (.no rfl) rfl t30 rfl rfl (.ptr _ _ _ _ _ rfl) rfl rfl rfl rfl ?_
      refine .move (.no rfl) rfl rfl rfl rfl ?_
      refine .load (.no rfl) rfl t39 rfl rfl (.ptr _ _ _ _ _ rfl) rfl rfl rfl rfl ?_
      refine .load (.no rfl) rfl t39 rfl rfl (.ptr _ _ _ _ _ rfl) rfl rfl rfl rfl ?_
      refine .call (.no rfl) rfl [] [] (c_put d e v p a (by first | assumption | omega | exact ⟨(Env.put_place (d := d) (by omega) c0.1.1.1.1 c0.1.1.1.2 c0.1.1.2 c0.1.2), c0.2.2⟩) (by first | assumption | omega | exact ⟨(Env.put_place (d := d) (by omega) c0.1.1.1.1 c0.1.1.1.2 c0.1.1.2 c0.1.2), c0.2.2⟩)) rfl rfl rfl rfl rfl (.cons (Reads.d _).gives (.cons (Reads.d _).gives (.cons (Reads.d _).gives (.cons (Reads.d _).gives (.cons (Reads.d _).gives (.cons (Reads.d _).gives (.cons (Reads.d _).gives (.cons (Reads.d _).gives (.cons (Reads.d _).gives (.cons (Reads.d _).gives (.cons (Reads.d _).gives .nil))))))))))) rfl rfl (fun h => absurd rfl h) (.own [42, 0] (.own [42, 1] (.own [42, 2] (.own [42, 3] .nil)))) (.nil) rfl rfl rfl (by simp) rfl rfl rfl ?_
      refine .extract (.no rfl) rfl rfl rfl rfl rfl ?_
      refine .extract (.no rfl) rfl rfl rfl rfl rfl ?_
      refine .store (.no rfl) rfl t30 rfl rfl rfl rfl rfl rfl rfl rfl rfl ?_
      refine .assign (.no rfl) rfl rfl rfl rfl ?_
      exact .fin (k22 + 1 + 1 + 1 + 1 + 1 + 1 + 1 + 1, k22 + 1 + 1 + 1 + 1 + 1) (.of (.cons rfl (.cons rfl .nil)) (.cons rfl (.cons rfl (.cons rfl .nil))))
    rintro ⟨g23, g24⟩
    refine .ret ?_
    have e25 : ((Env.put d e v p a).live) = ((Env.putIn d e v p a).live) := by first | (unfold Env.putIn; rw [if_pos (Env.putIn_yes2 c0)]) | (unfold Env.putInAl; rw [if_pos (Env.putIn_yes2 c0)]) | (unfold Env.putIn; rw [Env.putIn_no2 c0]; rfl) | (unfold Env.putInAl; rw [Env.putIn_no2 c0]; rfl)
    have e26 : ((Env.put d e v p a).ints) = ((Env.putIn d e v p a).ints) := by first | (unfold Env.putIn; rw [if_pos (Env.putIn_yes2 c0)]) | (unfold Env.putInAl; rw [if_pos (Env.putIn_yes2 c0)]) | (unfold Env.putIn; rw [Env.putIn_no2 c0]; rfl) | (unfold Env.putInAl; rw [Env.putIn_no2 c0]; rfl)
    have e27 : ((Env.put d e v p a).arrs) = ((Env.putIn d e v p a).arrs) := by first | (unfold Env.putIn; rw [if_pos (Env.putIn_yes2 c0)]) | (unfold Env.putInAl; rw [if_pos (Env.putIn_yes2 c0)]) | (unfold Env.putIn; rw [Env.putIn_no2 c0]; rfl) | (unfold Env.putInAl; rw [Env.putIn_no2 c0]; rfl)
    have hc28 := eq1 (fun z1 => some (g11, g23, O.box [.d (.v (.bool (z1))), .ref [42, 1] (g24), .ref [42, 2] (g24)])) e25
    have e29 : (Env.putAl d v p) = (Env.putInAl d e v p a) := by first | (unfold Env.putIn; rw [if_pos (Env.putIn_yes2 c0)]) | (unfold Env.putInAl; rw [if_pos (Env.putIn_yes2 c0)]) | (unfold Env.putIn; rw [Env.putIn_no2 c0]; rfl) | (unfold Env.putInAl; rw [Env.putIn_no2 c0]; rfl)
    have hc30 := eq1 (fun z1 => SV.one (.d (.v (.int .i64 (z1))))) e29
    show _ ∧ _
    exact ⟨.inr rfl, .done ⟨_, [], [([42, 1], (g24, g24, .row 39 2 (List.map Iv.c ((Env.putIn d e v p a).ints)))), ([42, 2], (g24, g24, .row 39 2 (List.map Iv.c ((Env.putIn d e v p a).arrs))))], _, .cell (cells := [.d (.v (.bool ((Env.putIn d e v p a).live))), .ref [42, 1] (g24), .ref [42, 2] (g24)]) rfl hc28 t30 rfl rfl (.one (c := .d (.v (.int .i64 (Env.putInAl d e v p a)))) (hc30) .nil), .cons (Reads.d _).gives (.cons (.ref (.head _)) (.cons (.ref (.tail _ (.head _))) (.cons (Reads.d _).gives .nil))), nodupB_ok rfl, by simp, (AllH.get (.cons (rowE (congrArg (List.map Iv.c) e26)) (.cons (rowE (congrArg (List.map Iv.c) e27)) .nil)))⟩⟩
end Go.Proofs

namespace Go.Proofs
open Go Go.Proofs Go.Ev

set_option maxHeartbeats 8000000 in
theorem c_FnExactEnvPut (d : Decl) (e : Env) (v : Int) (p : Iv) (a : Iv) (hs : ∀ x ∈ Decl.names d, x.size ≤ 9223372036854775807) (hv : ∀ x ∈ d.vars, 0 ≤ strW x ∧ strW x ≤ 9223372036854775807) (hf : ∀ x ∈ d.flags, 0 ≤ strW x ∧ strW x ≤ 9223372036854775807) (ha : ∀ x ∈ d.arrays, 0 ≤ arrW x ∧ arrW x ≤ 9223372036854775807) : Trip Tryd.prog 5 [(true, 3), (true, 3), (false, 1), (true, 2), (true, 2)] (Decl.c56 d ++ Env.c59 e ++ [.v (.int .i64 (v))] ++ Iv.c p ++ Iv.c a) [(false, 1)] [.v (.bool (true))] [] := by
  refine Trip.of Tryd.func5 (by decide) (c := _) rfl rfl (shB_ok rfl) (Nat.le_of_ble_eq_true rfl) rfl (AftOk.nil _) ?_
  refine .satA (t := 0) (i := 0) rfl rfl (fun hs1 => ?_)
  have hs1l : d.vars.length ≤ 9223372036854775807 := hs1.maplen
  refine .satA (t := 0) (i := 1) rfl rfl (fun hs2 => ?_)
  have hs2l : d.flags.length ≤ 9223372036854775807 := hs2.maplen
  refine .satA (t := 0) (i := 2) rfl rfl (fun hs3 => ?_)
  have hs3l : d.arrays.length ≤ 9223372036854775807 := hs3.maplen
  refine .satA (t := 1) (i := 1) rfl rfl (fun hs4 => ?_)
  have hs4l : e.ints.length ≤ 9223372036854775807 := hs4.maplen
  refine .satA (t := 1) (i := 2) rfl rfl (fun hs5 => ?_)
  have hs5l : e.arrs.length ≤ 9223372036854775807 := hs5.maplen
  refine .seq ?_
  refine .reg (X := Nat × Nat × Nat × Nat) (fun ζ => .of [(2, .one (.d (.v (.int .i64 (v))))), (5, .one (.ptr [5] (ζ.1) 0)), (6, .one (.ptr [6] (ζ.2.1) 0)), (8, .one (.ptr [8] (ζ.2.2.1) 0)), (9, .one (.ptr [9] (ζ.2.2.2) 0))] [([5], (ζ.1, ζ.1, .box [.d (.sl false 9 1 (List.map strc (d.vars))), .d (.sl false 9 1 (List.map strc (d.flags))), .d (.sl false 152 2 (List.map Arr.c (d.arrays)))])), ([6], (ζ.2.1, ζ.2.1, .box [.d (.v (.bool (e.live))), .d (.sl false 60 2 (List.map Iv.c (e.ints))), .d (.sl false 60 2 (List.map Iv.c (e.arrs)))])), ([8], (ζ.2.2.1, ζ.2.2.1, .box [.d (.v (.int .i64 (p.lo))), .d (.v (.int .i64 (p.hi)))])), ([9], (ζ.2.2.2, ζ.2.2.2, .box [.d (.v (.int .i64 (a.lo))), .d (.v (.int .i64 (a.hi)))]))]) [⟨[0], some 5, [], [[5]]⟩, ⟨[1], some 6, [], [[6]]⟩, ⟨[3], some 8, [], [[8]]⟩, ⟨[4], some 9, [], [[9]]⟩, ⟨[], some 10, [], []⟩] (fun k6 => ?_) ?_
  · skip
    refine .box (.no rfl) rfl rfl rfl rfl rfl ?_
    refine .box (.no rfl) rfl rfl rfl rfl rfl ?_
    refine .box (.no rfl) rfl rfl rfl rfl rfl ?_
    refine .box (.no rfl) rfl rfl rfl rfl rfl ?_
    refine .assign (.no rfl) rfl rfl rfl rfl ?_
    exact .fin (k6, k6 + 1, k6 + 1 + 1, k6 + 1 + 1 + 1) (.of (.cons rfl (.cons rfl (.cons rfl (.cons rfl (.cons rfl .nil))))) (.cons rfl (.cons rfl (.cons rfl (.cons rfl .nil)))))
  rintro ⟨g7, g8, g9, g10⟩
  refine .seq ?_
  refine .reg (X := Unit) (fun ζ => .of [(2, .one (.d (.v (.int .i64 (v))))), (5, .one (.ptr [5] (g7) 0)), (6, .one (.ptr [6] (g8) 0)), (8, .one (.ptr [8] (g9) 0)), (9, .one (.ptr [9] (g10) 0)), (11, .one (.d (.v (.int .i64 (1048576)))))] [([5], (g7, g7, .box [.d (.sl false 9 1 (List.map strc (d.vars))), .d (.sl false 9 1 (List.map strc (d.flags))), .d (.sl false 152 2 (List.map Arr.c (d.arrays)))])), ([6], (g8, g8, .box [.d (.v (.bool (e.live))), .d (.sl false 60 2 (List.map Iv.c (e.ints))), .d (.sl false 60 2 (List.map Iv.c (e.arrs)))])), ([8], (g9, g9, .box [.d (.v (.int .i64 (p.lo))), .d (.v (.int .i64 (p.hi)))])), ([9], (g10, g10, .box [.d (.v (.int .i64 (a.lo))), .d (.v (.int .i64 (a.hi)))]))]) [⟨[], some 11, [], []⟩] (fun k11 => ?_) ?_
  · skip
    refine .assign (.no rfl) rfl rfl rfl rfl ?_
    exact .fin () (.of (.cons rfl (.cons rfl (.cons rfl (.cons rfl (.cons rfl (.cons rfl .nil)))))) (.cons rfl (.cons rfl (.cons rfl (.cons rfl .nil)))))
  intro _
  refine .seq ?_
  refine .reg (X := Unit) (fun ζ => .of [(2, .one (.d (.v (.int .i64 (v))))), (5, .one (.ptr [5] (g7) 0)), (6, .one (.ptr [6] (g8) 0)), (8, .one (.ptr [8] (g9) 0)), (9, .one (.ptr [9] (g10) 0)), (11, .one (.d (.v (.int .i64 (szDecl d 1048576)))))] [([5], (g7, g7, .box [.d (.sl false 9 1 (List.map strc (d.vars))), .d (.sl false 9 1 (List.map strc (d.flags))), .d (.sl false 152 2 (List.map Arr.c (d.arrays)))])), ([6], (g8, g8, .box [.d (.v (.bool (e.live))), .d (.sl false 60 2 (List.map Iv.c (e.ints))), .d (.sl false 60 2 (List.map Iv.c (e.arrs)))])), ([8], (g9, g9, .box [.d (.v (.int .i64 (p.lo))), .d (.v (.int .i64 (p.hi)))])), ([9], (g10, g10, .box [.d (.v (.int .i64 (a.lo))), .d (.v (.int .i64 (a.hi)))]))]) [⟨[5], some 23, [[5]], []⟩, ⟨[11], some 24, [], []⟩, ⟨[23, 24], some 25, [], []⟩, ⟨[25], some 11, [], []⟩] (fun k12 => ?_) ?_
  · skip
    refine .load (.no rfl) rfl t56 rfl rfl (.ptr _ _ _ _ _ rfl) rfl rfl rfl rfl ?_
    refine .move (.no rfl) rfl rfl rfl rfl ?_
    refine .call (.no rfl) rfl [] [] (c_szDecl d 1048576 (by first | assumption | omega | (have q0 := szDecl_len hv hf ha (by omega) c0; omega) | (have q0 := szDecl_len hv hf ha (by omega) c0; have q1 := szEnv_len (by omega) c1; omega) | (have q0 := szDecl_len hv hf ha (by omega) c0; have q1 := szEnv_len (by omega) c1; exact q1.2.1) | (have q0 := szDecl_len hv hf ha (by omega) c0; have q1 := szEnv_len (by omega) c1; exact q1.1) | (have q0 := szDecl_len hv hf ha (by omega) c0; have q1 := szEnv_len (by omega) c1; first | omega | (have q9 := putIn_len (d := d) (e := e) (v := v) (p := p) (a := a) (n := 1048576) (by omega); first | omega | (simp only [Decl.marks, Env.marks, Env.mark, mkAll_len]; omega))) | (intro i hi; exact mkAll_get (mIv 1) _ (by simpa only [Env.mark, mkAll_len] using hi)) | (intro i hi; simp only [Env.mark, mkAll_len] at hi ⊢; exact mkAll_get _ _ hi)) (by first | assumption | omega | (have q0 := szDecl_len hv hf ha (by omega) c0; omega) | (have q0 := szDecl_len hv hf ha (by omega) c0; have q1 := szEnv_len (by omega) c1; omega) | (have q0 := szDecl_len hv hf ha (by omega) c0; have q1 := szEnv_len (by omega) c1; exact q1.2.1) | (have q0 := szDecl_len hv hf ha (by omega) c0; have q1 := szEnv_len (by omega) c1; exact q1.1) | (have q0 := szDecl_len hv hf ha (by omega) c0; have q1 := szEnv_len (by omega) c1; first | omega | (have q9 := putIn_len (d := d) (e := e) (v := v) (p := p) (a := a) (n := 1048576) (by omega); first | omega | (simp only [Decl.marks, Env.marks, Env.mark, mkAll_len]; omega))) | (intro i hi; exact mkAll_get (mIv 1) _ (by simpa only [Env.mark, mkAll_len] using hi)) | (intro i hi; simp only [Env.mark, mkAll_len] at hi ⊢; exact mkAll_get _ _ hi)) (by first | assumption | omega | (have q0 := szDecl_len hv hf ha (by omega) c0; omega) | (have q0 := szDecl_len hv hf ha (by omega) c0; have q1 := szEnv_len (by omega) c1; omega) | (have q0 := szDecl_len hv hf ha (by omega) c0; have q1 := szEnv_len (by omega) c1; exact q1.2.1) | (have q0 := szDecl_len hv hf ha (by omega) c0; have q1 := szEnv_len (by omega) c1; exact q1.1) | (have q0 := szDecl_len hv hf ha (by omega) c0; have q1 := szEnv_len (by omega) c1; first | omega | (have q9 := putIn_len (d := d) (e := e) (v := v) (p := p) (a := a) (n := 1048576) (by omega); first | omega | (simp only [Decl.marks, Env.marks, Env.mark, mkAll_len]; omega))) | (intro i hi; exact mkAll_get (mIv 1) _ (by simpa only [Env.mark, mkAll_len] using hi)) | (intro i hi; simp only [Env.mark, mkAll_len] at hi ⊢; exact mkAll_get _ _ hi)) (by first | assumption | omega | (have q0 := szDecl_len hv hf ha (by omega) c0; omega) | (have q0 := szDecl_len hv hf ha (by omega) c0; have q1 := szEnv_len (by omega) c1; omega) | (have q0 := szDecl_len hv hf ha (by omega) c0; have q1 := szEnv_len (by omega) c1; exact q1.2.1) | (have q0 := szDecl_len hv hf ha (by omega) c0; have q1 := szEnv_len (by omega) c1; exact q1.1) | (have q0 := szDecl_len hv hf ha (by omega) c0; have q1 := szEnv_len (by omega) c1; first | omega | (have q9 := putIn_len (d := d) (e := e) (v := v) (p := p) (a := a) (n := 1048576) (by omega); first | omega | (simp only [Decl.marks, Env.marks, Env.mark, mkAll_len]; omega))) | (intro i hi; exact mkAll_get (mIv 1) _ (by simpa only [Env.mark, mkAll_len] using hi)) | (intro i hi; simp only [Env.mark, mkAll_len] at hi ⊢; exact mkAll_get _ _ hi))) rfl rfl rfl rfl rfl (.cons (Reads.d _).gives (.cons (Reads.d _).gives (.cons (Reads.d _).gives (.cons (Reads.d _).gives .nil)))) rfl rfl (fun h => absurd rfl h) (.own [25, 0] .nil) (.nil) rfl rfl rfl (by simp) rfl rfl rfl ?_
    refine .assign (.no rfl) rfl rfl rfl rfl ?_
    exact .fin () (.of (.cons rfl (.cons rfl (.cons rfl (.cons rfl (.cons rfl (.cons rfl .nil)))))) (.cons rfl (.cons rfl (.cons rfl (.cons rfl .nil)))))
  intro _
  refine .seq ?_
  refine .seq ?_
  refine .reg (X := Unit) (fun ζ => .of [(2, .one (.d (.v (.int .i64 (v))))), (5, .one (.ptr [5] (g7) 0)), (6, .one (.ptr [6] (g8) 0)), (8, .one (.ptr [8] (g9) 0)), (9, .one (.ptr [9] (g10) 0)), (11, .one (.d (.v (.int .i64 (szDecl d 1048576))))), (27, .one (.d (.v (.bool (decide ((szDecl d 1048576) < 0))))))] [([5], (g7, g7, .box [.d (.sl false 9 1 (List.map strc (d.vars))), .d (.sl false 9 1 (List.map strc (d.flags))), .d (.sl false 152 2 (List.map Arr.c (d.arrays)))])), ([6], (g8, g8, .box [.d (.v (.bool (e.live))), .d (.sl false 60 2 (List.map Iv.c (e.ints))), .d (.sl false 60 2 (List.map Iv.c (e.arrs)))])), ([8], (g9, g9, .box [.d (.v (.int .i64 (p.lo))), .d (.v (.int .i64 (p.hi)))])), ([9], (g10, g10, .box [.d (.v (.int .i64 (a.lo))), .d (.v (.int .i64 (a.hi)))]))]) [⟨[11], some 26, [], []⟩, ⟨[26], some 27, [], []⟩] (fun k13 => ?_) ?_
  · skip
    refine .move (.no rfl) rfl rfl rfl rfl ?_
    refine .bin (.no rfl) rfl rfl rfl rfl rfl rfl ?_
    exact .fin () (.of (.cons rfl (.cons rfl (.cons rfl (.cons rfl (.cons rfl (.cons rfl (.cons rfl .nil))))))) (.cons rfl (.cons rfl (.cons rfl (.cons rfl .nil)))))
  intro _
  refine .cond (t := decide ((szDecl d 1048576) < 0)) rfl (fun c0 => ?_) (fun c0 => ?_)
  · have c0 := of_decide_eq_true c0
    refine .seq ?_
    refine .reg (X := Unit) (fun ζ => .of [(10, .one (.d (.v (.bool (true)))))] []) [⟨[], some 10, [], []⟩] (fun k14 => ?_) ?_
    · skip
      refine .assign (.no rfl) rfl rfl rfl rfl ?_
      exact .fin () (.of (.cons rfl .nil) .nil)
    intro _
    refine .ret ?_
    show _ ∧ _
    exact ⟨.inr rfl, .done ⟨_, [], [], _, .one rfl .nil, .cons (Reads.d _).gives .nil, nodupB_ok rfl, by simp, (by simp)⟩⟩
  · have c0 := of_decide_eq_false c0
    refine .skip ?_
    refine .seq ?_
    refine .reg (X := Unit) (fun ζ => .of [(2, .one (.d (.v (.int .i64 (v))))), (5, .one (.ptr [5] (g7) 0)), (6, .one (.ptr [6] (g8) 0)), (8, .one (.ptr [8] (g9) 0)), (9, .one (.ptr [9] (g10) 0)), (11, .one (.d (.v (.int .i64 (szEnv e (szDecl d 1048576))))))] [([5], (g7, g7, .box [.d (.sl false 9 1 (List.map strc (d.vars))), .d (.sl false 9 1 (List.map strc (d.flags))), .d (.sl false 152 2 (List.map Arr.c (d.arrays)))])), ([6], (g8, g8, .box [.d (.v (.bool (e.live))), .d (.sl false 60 2 (List.map Iv.c (e.ints))), .d (.sl false 60 2 (List.map Iv.c (e.arrs)))])), ([8], (g9, g9, .box [.d (.v (.int .i64 (p.lo))), .d (.v (.int .i64 (p.hi)))])), ([9], (g10, g10, .box [.d (.v (.int .i64 (a.lo))), .d (.v (.int .i64 (a.hi)))]))]) [⟨[6], some 28, [[6]], []⟩, ⟨[11], some 29, [], []⟩, ⟨[28, 29], some 30, [], []⟩, ⟨[30], some 11, [], []⟩] (fun k15 => ?_) ?_
    · skip
      refine .load (.no rfl) rfl t59 rfl rfl (.ptr _ _ _ _ _ rfl) rfl rfl rfl rfl ?_
      refine .move (.no rfl) rfl rfl rfl rfl ?_
      refine .call (.no rfl) rfl [] [] (c_szEnv e (szDecl d 1048576) (by first | assumption | omega | (have q0 := szDecl_len hv hf ha (by omega) c0; omega) | (have q0 := szDecl_len hv hf ha (by omega) c0; have q1 := szEnv_len (by omega) c1; omega) | (have q0 := szDecl_len hv hf ha (by omega) c0; have q1 := szEnv_len (by omega) c1; exact q1.2.1) | (have q0 := szDecl_len hv hf ha (by omega) c0; have q1 := szEnv_len (by omega) c1; exact q1.1) | (have q0 := szDecl_len hv hf ha (by omega) c0; have q1 := szEnv_len (by omega) c1; first | omega | (have q9 := putIn_len (d := d) (e := e) (v := v) (p := p) (a := a) (n := 1048576) (by omega); first | omega | (simp only [Decl.marks, Env.marks, Env.mark, mkAll_len]; omega))) | (intro i hi; exact mkAll_get (mIv 1) _ (by simpa only [Env.mark, mkAll_len] using hi)) | (intro i hi; simp only [Env.mark, mkAll_len] at hi ⊢; exact mkAll_get _ _ hi))) rfl rfl rfl rfl rfl (.cons (Reads.d _).gives (.cons (Reads.d _).gives (.cons (Reads.d _).gives (.cons (Reads.d _).gives .nil)))) rfl rfl (fun h => absurd rfl h) (.own [30, 0] .nil) (.nil) rfl rfl rfl (by simp) rfl rfl rfl ?_
      refine .assign (.no rfl) rfl rfl rfl rfl ?_
      exact .fin () (.of (.cons rfl (.cons rfl (.cons rfl (.cons rfl (.cons rfl (.cons rfl .nil)))))) (.cons rfl (.cons rfl (.cons rfl (.cons rfl .nil)))))
    intro _
    refine .seq ?_
    refine .seq ?_
    refine .reg (X := Unit) (fun ζ => .of [(2, .one (.d (.v (.int .i64 (v))))), (5, .one (.ptr [5] (g7) 0)), (6, .one (.ptr [6] (g8) 0)), (8, .one (.ptr [8] (g9) 0)), (9, .one (.ptr [9] (g10) 0)), (32, .one (.d (.v (.bool (decide ((szEnv e (szDecl d 1048576)) < 0))))))] [([5], (g7, g7, .box [.d (.sl false 9 1 (List.map strc (d.vars))), .d (.sl false 9 1 (List.map strc (d.flags))), .d (.sl false 152 2 (List.map Arr.c (d.arrays)))])), ([6], (g8, g8, .box [.d (.v (.bool (e.live))), .d (.sl false 60 2 (List.map Iv.c (e.ints))), .d (.sl false 60 2 (List.map Iv.c (e.arrs)))])), ([8], (g9, g9, .box [.d (.v (.int .i64 (p.lo))), .d (.v (.int .i64 (p.hi)))])), ([9], (g10, g10, .box [.d (.v (.int .i64 (a.lo))), .d (.v (.int .i64 (a.hi)))]))]) [⟨[11], some 31, [], []⟩, ⟨[31], some 32, [], []⟩] (fun k16 => ?_) ?_
    · skip
      refine .move (.no rfl) rfl rfl rfl rfl ?_
      refine .bin (.no rfl) rfl rfl rfl rfl rfl rfl ?_
      exact .fin () (.of (.cons rfl (.cons rfl (.cons rfl (.cons rfl (.cons rfl (.cons rfl .nil)))))) (.cons rfl (.cons rfl (.cons rfl (.cons rfl .nil)))))
    intro _
    refine .cond (t := decide ((szEnv e (szDecl d 1048576)) < 0)) rfl (fun c1 => ?_) (fun c1 => ?_)
    · have c1 := of_decide_eq_true c1
      refine .seq ?_
      refine .reg (X := Unit) (fun ζ => .of [(10, .one (.d (.v (.bool (true)))))] []) [⟨[], some 10, [], []⟩] (fun k17 => ?_) ?_
      · skip
        refine .assign (.no rfl) rfl rfl rfl rfl ?_
        exact .fin () (.of (.cons rfl .nil) .nil)
      intro _
      refine .ret ?_
      show _ ∧ _
      exact ⟨.inr rfl, .done ⟨_, [], [], _, .one rfl .nil, .cons (Reads.d _).gives .nil, nodupB_ok rfl, by simp, (by simp)⟩⟩
    · have c1 := of_decide_eq_false c1
      refine .skip ?_
      refine .seq ?_
      refine .regD (X := Nat × Nat) (by kernel_rfl) (fun ζ => .of [(2, .one (.d (.v (.int .i64 (v))))), (5, .one (.ptr [5] (g7) 0)), (6, .one (.ptr [6] (g8) 0)), (8, .one (.ptr [8] (g9) 0)), (9, .one (.ptr [9] (g10) 0)), (12, .one (.ptr [12] (ζ.1) 0)), (13, .one (.d (.v (.int .i64 (Env.putInAl d e v p a)))))] [([5], (g7, g7, .box [.d (.sl false 9 1 (List.map strc (d.vars))), .d (.sl false 9 1 (List.map strc (d.flags))), .d (.sl false 152 2 (List.map Arr.c (d.arrays)))])), ([6], (g8, g8, .box [.d (.v (.bool (e.live))), .d (.sl false 60 2 (List.map Iv.c (e.ints))), .d (.sl false 60 2 (List.map Iv.c (e.arrs)))])), ([8], (g9, g9, .box [.d (.v (.int .i64 (p.lo))), .d (.v (.int .i64 (p.hi)))])), ([9], (g10, g10, .box [.d (.v (.int .i64 (a.lo))), .d (.v (.int .i64 (a.hi)))])), ([12], (ζ.1, ζ.2, .box [.d (.v (.bool ((Env.putIn d e v p a).live))), .d (.sl false 39 2 (List.map Iv.c ((Env.putIn d e v p a).ints))), .d (.sl false 39 2 (List.map Iv.c ((Env.putIn d e v p a).arrs)))]))]) [⟨[5], some 34, [[5]], []⟩, ⟨[34], some 35, [], [[35, 0], [35, 1], [35, 2]]⟩, ⟨[6], some 36, [[6]], []⟩, ⟨[36], some 37, [], [[37, 1], [37, 2]]⟩, ⟨[2], some 38, [], []⟩, ⟨[8], some 39, [[8]], []⟩, ⟨[39], some 40, [], []⟩, ⟨[9], some 41, [[9]], []⟩, ⟨[41], some 42, [], []⟩, ⟨[35, 37, 38, 40, 42], some 43, [[35, 0], [35, 1], [35, 2], [37, 1], [37, 2]], []⟩, ⟨[43], some 33, [], []⟩, ⟨[33], some 44, [], []⟩, ⟨[33], some 45, [], []⟩, ⟨[], some 12, [], [[12]]⟩, ⟨[12, 44], none, [[12]], [[12]]⟩, ⟨[45], some 13, [], []⟩] (by kernel_rfl) (fun k18 => ?_) ?_
      · skip
        refine .load (.no rfl) rfl t56 rfl rfl (.ptr _ _ _ _ _ rfl) rfl rfl rfl rfl ?_
        refine .call (.no rfl) rfl [] [] (c_toDecl d (by first | assumption | omega | (have q0 := szDecl_len hv hf ha (by omega) c0; omega) | (have q0 := szDecl_len hv hf ha (by omega) c0; have q1 := szEnv_len (by omega) c1; omega) | (have q0 := szDecl_len hv hf ha (by omega) c0; have q1 := szEnv_len (by omega) c1; exact q1.2.1) | (have q0 := szDecl_len hv hf ha (by omega) c0; have q1 := szEnv_len (by omega) c1; exact q1.1) | (have q0 := szDecl_len hv hf ha (by omega) c0; have q1 := szEnv_len (by omega) c1; first | omega | (have q9 := putIn_len (d := d) (e := e) (v := v) (p := p) (a := a) (n := 1048576) (by omega); first | omega | (simp only [Decl.marks, Env.marks, Env.mark, mkAll_len]; omega))) | (intro i hi; exact mkAll_get (mIv 1) _ (by simpa only [Env.mark, mkAll_len] using hi)) | (intro i hi; simp only [Env.mark, mkAll_len] at hi ⊢; exact mkAll_get _ _ hi))) rfl rfl rfl rfl rfl (.cons (Reads.d _).gives (.cons (Reads.d _).gives (.cons (Reads.d _).gives .nil))) rfl rfl (fun h => absurd rfl h) (.own [35, 0] (.own [35, 1] (.own [35, 2] .nil))) (.nil) rfl rfl rfl (by simp) rfl rfl rfl ?_
        refine .load (.no rfl) rfl t59 rfl rfl (.ptr _ _ _ _ _ rfl) rfl rfl rfl rfl ?_
        refine .call (.no rfl) rfl [] [] (c_toEnv e (by first | assumption | omega | (have q0 := szDecl_len hv hf ha (by omega) c0; omega) | (have q0 := szDecl_len hv hf ha (by omega) c0; have q1 := szEnv_len (by omega) c1; omega) | (have q0 := szDecl_len hv hf ha (by omega) c0; have q1 := szEnv_len (by omega) c1; exact q1.2.1) | (have q0 := szDecl_len hv hf ha (by omega) c0; have q1 := szEnv_len (by omega) c1; exact q1.1) | (have q0 := szDecl_len hv hf ha (by omega) c0; have q1 := szEnv_len (by omega) c1; first | omega | (have q9 := putIn_len (d := d) (e := e) (v := v) (p := p) (a := a) (n := 1048576) (by omega); first | omega | (simp only [Decl.marks, Env.marks, Env.mark, mkAll_len]; omega))) | (intro i hi; exact mkAll_get (mIv 1) _ (by simpa only [Env.mark, mkAll_len] using hi)) | (intro i hi; simp only [Env.mark, mkAll_len] at hi ⊢; exact mkAll_get _ _ hi))) rfl rfl rfl rfl rfl (.cons (Reads.d _).gives (.cons (Reads.d _).gives (.cons (Reads.d _).gives .nil))) rfl rfl (fun h => absurd rfl h) (.own [37, 0] (.own [37, 1] (.own [37, 2] .nil))) (.nil) rfl rfl rfl (by simp) rfl rfl rfl ?_
        refine .move (.no rfl) rfl rfl rfl rfl ?_
        refine .load (.no rfl) rfl t60 rfl rfl (.ptr _ _ _ _ _ rfl) rfl rfl rfl rfl ?_
        refine .call (.no rfl) rfl [] [] (c_toInterval p) rfl rfl rfl rfl rfl (.cons (Reads.d _).gives (.cons (Reads.d _).gives .nil)) rfl rfl (fun h => absurd rfl h) (.own [40, 0] (.own [40, 1] .nil)) (.nil) rfl rfl rfl (by simp) rfl rfl rfl ?_
        refine .load (.no rfl) rfl t60 rfl rfl (.ptr _ _ _ _ _ rfl) rfl rfl rfl rfl ?_
        refine .call (.no rfl) rfl [] [] (c_toInterval a) rfl rfl rfl rfl rfl (.cons (Reads.d _).gives (.cons (Reads.d _).gives .nil)) rfl rfl (fun h => absurd rfl h) (.own [42, 0] (.own [42, 1] .nil)) (.nil) rfl rfl rfl (by simp) rfl rfl rfl ?_
        refine .call (.no rfl) rfl [[35, 0], [35, 1], [35, 2], [37, 1], [37, 2]] [([35, 0], (k18 + 1, k18 + 1, .row 9 1 (List.map strc (d.vars)))), ([35, 1], (k18 + 1, k18 + 1, .row 9 1 (List.map strc (d.flags)))), ([35, 2], (k18 + 1, k18 + 1, .row 52 2 (List.map Arr.c (d.arrays)))), ([37, 1], (k18 + 1 + 1 + 1, k18 + 1 + 1 + 1, .row 39 2 (List.map Iv.c (e.ints)))), ([37, 2], (k18 + 1 + 1 + 1, k18 + 1 + 1 + 1, .row 39 2 (List.map Iv.c (e.arrs))))] (c_sEnvPut d e v p a (by first | assumption | omega | (have q0 := szDecl_len hv hf ha (by omega) c0; omega) | (have q0 := szDecl_len hv hf ha (by omega) c0; have q1 := szEnv_len (by omega) c1; omega) | (have q0 := szDecl_len hv hf ha (by omega) c0; have q1 := szEnv_len (by omega) c1; exact q1.2.1) | (have q0 := szDecl_len hv hf ha (by omega) c0; have q1 := szEnv_len (by omega) c1; exact q1.1) | (have q0 := szDecl_len hv hf ha (by omega) c0; have q1 := szEnv_len (by omega) c1; first | omega | (have q9 := putIn_len (d := d) (e := e) (v := v) (p := p) (a := a) (n := 1048576) (by omega); first | omega | (simp only [Decl.marks, Env.marks, Env.mark, mkAll_len]; omega))) | (intro i hi; exact mkAll_get (mIv 1) _ (by simpa only [Env.mark, mkAll_len] using hi)) | (intro i hi; simp only [Env.mark, mkAll_len] at hi ⊢; exact mkAll_get _ _ hi)) (by first | assumption | omega | (have q0 := szDecl_len hv hf ha (by omega) c0; omega) | (have q0 := szDecl_len hv hf ha (by omega) c0; have q1 := szEnv_len (by omega) c1; omega) | (have q0 := szDecl_len hv hf ha (by omega) c0; have q1 := szEnv_len (by omega) c1; exact q1.2.1) | (have q0 := szDecl_len hv hf ha (by omega) c0; have q1 := szEnv_len (by omega) c1; exact q1.1) | (have q0 := szDecl_len hv hf ha (by omega) c0; have q1 := szEnv_len (by omega) c1; first | omega | (have q9 := putIn_len (d := d) (e := e) (v := v) (p := p) (a := a) (n := 1048576) (by omega); first | omega | (simp only [Decl.marks, Env.marks, Env.mark, mkAll_len]; omega))) | (intro i hi; exact mkAll_get (mIv 1) _ (by simpa only [Env.mark, mkAll_len] using hi)) | (intro i hi; simp only [Env.mark, mkAll_len] at hi ⊢; exact mkAll_get _ _ hi)) (by first | assumption | omega | (have q0 := szDecl_len hv hf ha (by omega) c0; omega) | (have q0 := szDecl_len hv hf ha (by omega) c0; have q1 := szEnv_len (by omega) c1; omega) | (have q0 := szDecl_len hv hf ha (by omega) c0; have q1 := szEnv_len (by omega) c1; exact q1.2.1) | (have q0 := szDecl_len hv hf ha (by omega) c0; have q1 := szEnv_len (by omega) c1; exact q1.1) | (have q0 := szDecl_len hv hf ha (by omega) c0; have q1 := szEnv_len (by omega) c1; first | omega | (have q9 := putIn_len (d := d) (e := e) (v := v) (p := p) (a := a) (n := 1048576) (by omega); first | omega | (simp only [Decl.marks, Env.marks, Env.mark, mkAll_len]; omega))) | (intro i hi; exact mkAll_get (mIv 1) _ (by simpa only [Env.mark, mkAll_len] using hi)) | (intro i hi; simp only [Env.mark, mkAll_len] at hi ⊢; exact mkAll_get _ _ hi))) rfl rfl rfl rfl rfl (.cons (Reads.ref (Frz.of_erase (erase_slo _ _ _ _ _ _ strc_e)) (.head _) (.head _)).gives (.cons (Reads.ref (Frz.of_erase (erase_slo _ _ _ _ _ _ strc_e)) (.tail _ (.head _)) (.tail _ (.head _))).gives (.cons (Reads.ref (Frz.of_erase (erase_slo _ _ _ _ _ _ Arr.c_e)) (.tail _ (.tail _ (.head _))) (.tail _ (.tail _ (.head _)))).gives (.cons (Reads.d _).gives (.cons (Reads.ref (Frz.of_erase (erase_slo _ _ _ _ _ _ Iv.c_e)) (.tail _ (.tail _ (.tail _ (.head _)))) (.tail _ (.tail _ (.tail _ (.head _))))).gives (.cons (Reads.ref (Frz.of_erase (erase_slo _ _ _ _ _ _ Iv.c_e)) (.tail _ (.tail _ (.tail _ (.tail _ (.head _))))) (.tail _ (.tail _ (.tail _ (.tail _ (.head _)))))).gives (.cons (Reads.d _).gives (.cons (Reads.d _).gives (.cons (Reads.d _).gives (.cons (Reads.d _).gives (.cons (Reads.d _).gives .nil))))))))))) rfl rfl (fun _ => (ownCons (Owned.v _) (ownCons (Owned.map _ _ _ _ Iv.c_o) (ownCons (Owned.map _ _ _ _ Iv.c_o) (ownCons (Owned.v _) ownNil))))) (.own [43, 0] (.frz [43, 1] (Frz.of_erase (erase_slo _ _ _ _ _ _ Iv.c_e)) (.frz [43, 2] (Frz.of_erase (erase_slo _ _ _ _ _ _ Iv.c_e)) (.own [43, 3] .nil)))) (.nil) rfl rfl rfl (AllH.get (.cons rfl (.cons rfl (.cons rfl (.cons rfl (.cons rfl .nil)))))) rfl rfl rfl ?_
        refine .move (.no rfl) rfl rfl rfl rfl ?_
        refine .extract (.no rfl) rfl rfl rfl rfl rfl ?_
        refine .extract (.no rfl) rfl rfl rfl rfl rfl ?_
        refine .alloc (.no rfl) rfl z30 rfl rfl rfl ?_
        refine .store (.no rfl) rfl t30 rfl rfl rfl rfl rfl rfl rfl rfl rfl ?_
        refine .assign (.no rfl) rfl rfl rfl rfl ?_
        exact .fin (k18 + 1 + 1 + 1 + 1 + 1 + 1 + 1 + 1 + 1 + 1 + 1 + 1 + 1, k18 + 1 + 1 + 1 + 1 + 1 + 1 + 1 + 1 + 1 + 1 + 1 + 1 + 1 + 1) (.of (.cons rfl (.cons rfl (.cons rfl (.cons rfl (.cons rfl (.cons rfl (.cons rfl .nil))))))) (.cons rfl (.cons rfl (.cons rfl (.cons rfl (.cons rfl .nil))))))
      rintro ⟨g19, g20⟩
      refine .seq ?_
      refine .reg (X := Nat × Nat × Nat) (fun ζ => .of [(2, .one (.d (.v (.int .i64 (v))))), (5, .one (.ptr [5] (g7) 0)), (6, .one (.ptr [6] (g8) 0)), (8, .one (.ptr [8] (g9) 0)), (9, .one (.ptr [9] (g10) 0)), (12, .one (.ptr [12] (g19) 0)), (13, .one (.d (.v (.int .i64 (Env.putInAl d e v p a))))), (14, .one (.ptr [14] (ζ.1) 0))] [([5], (g7, g7, .box [.d (.sl false 9 1 (List.map strc (d.vars))), .d (.sl false 9 1 (List.map strc (d.flags))), .d (.sl false 152 2 (List.map Arr.c (d.arrays)))])), ([6], (g8, g8, .box [.d (.v (.bool (e.live))), .d (.sl false 60 2 (List.map Iv.c (e.ints))), .d (.sl false 60 2 (List.map Iv.c (e.arrs)))])), ([8], (g9, g9, .box [.d (.v (.int .i64 (p.lo))), .d (.v (.int .i64 (p.hi)))])), ([9], (g10, g10, .box [.d (.v (.int .i64 (a.lo))), .d (.v (.int .i64 (a.hi)))])), ([12], (g19, g20, .box [.d (.v (.bool ((Env.putIn d e v p a).live))), .d (.sl false 39 2 (List.map Iv.c ((Env.putIn d e v p a).ints))), .d (.sl false 39 2 (List.map Iv.c ((Env.putIn d e v p a).arrs)))])), ([14], (ζ.1, ζ.2.1, .box [.ref [47, 0] (ζ.2.2), .ref [47, 1] (ζ.2.2), .ref [47, 2] (ζ.2.2)])), ([47, 0], (ζ.2.2, ζ.2.2, .row 9 1 (List.map strc (d.vars)))), ([47, 1], (ζ.2.2, ζ.2.2, .row 9 1 (List.map strc (d.flags)))), ([47, 2], (ζ.2.2, ζ.2.2, .row 52 2 (List.map Arr.c (d.arrays))))]) [⟨[5], some 46, [[5]], []⟩, ⟨[46], some 47, [], [[47, 0], [47, 1], [47, 2]]⟩, ⟨[], some 14, [], [[14]]⟩, ⟨[14, 47], none, [[14]], [[14]]⟩] (fun k21 => ?_) ?_
      · skip
        refine .load (.no rfl) rfl t56 rfl rfl (.ptr _ _ _ _ _ rfl) rfl rfl rfl rfl ?_
        refine .call (.no rfl) rfl [] [] (c_toDecl d (by first | assumption | omega | (have q0 := szDecl_len hv hf ha (by omega) c0; omega) | (have q0 := szDecl_len hv hf ha (by omega) c0; have q1 := szEnv_len (by omega) c1; omega) | (have q0 := szDecl_len hv hf ha (by omega) c0; have q1 := szEnv_len (by omega) c1; exact q1.2.1) | (have q0 := szDecl_len hv hf ha (by omega) c0; have q1 := szEnv_len (by omega) c1; exact q1.1) | (have q0 := szDecl_len hv hf ha (by omega) c0; have q1 := szEnv_len (by omega) c1; first | omega | (have q9 := putIn_len (d := d) (e := e) (v := v) (p := p) (a := a) (n := 1048576) (by omega); first | omega | (simp only [Decl.marks, Env.marks, Env.mark, mkAll_len]; omega))) | (intro i hi; exact mkAll_get (mIv 1) _ (by simpa only [Env.mark, mkAll_len] using hi)) | (intro i hi; simp only [Env.mark, mkAll_len] at hi ⊢; exact mkAll_get _ _ hi))) rfl rfl rfl rfl rfl (.cons (Reads.d _).gives (.cons (Reads.d _).gives (.cons (Reads.d _).gives .nil))) rfl rfl (fun h => absurd rfl h) (.own [47, 0] (.own [47, 1] (.own [47, 2] .nil))) (.nil) rfl rfl rfl (by simp) rfl rfl rfl ?_
        refine .alloc (.no rfl) rfl z27 rfl rfl rfl ?_
        refine .store (.no rfl) rfl t27 rfl rfl rfl rfl rfl rfl rfl rfl rfl ?_
        exact .fin (k21 + 1 + 1, k21 + 1 + 1 + 1, k21 + 1) (.of (.cons rfl (.cons rfl (.cons rfl (.cons rfl (.cons rfl (.cons rfl (.cons rfl (.cons rfl .nil)))))))) (.cons rfl (.cons rfl (.cons rfl (.cons rfl (.cons rfl (.cons rfl (.cons rfl (.cons rfl (.cons rfl .nil))))))))))
      rintro ⟨g22, g23, g24⟩
      refine .seq ?_
      refine .reg (X := Nat × Nat × Nat) (fun ζ => .of [(2, .one (.d (.v (.int .i64 (v))))), (5, .one (.ptr [5] (g7) 0)), (6, .one (.ptr [6] (g8) 0)), (8, .one (.ptr [8] (g9) 0)), (9, .one (.ptr [9] (g10) 0)), (12, .one (.ptr [12] (g19) 0)), (13, .one (.d (.v (.int .i64 (Env.putInAl d e v p a))))), (14, .one (.ptr [14] (g22) 0)), (15, .one (.ptr [15] (ζ.1) 0))] [([5], (g7, g7, .box [.d (.sl false 9 1 (List.map strc (d.vars))), .d (.sl false 9 1 (List.map strc (d.flags))), .d (.sl false 152 2 (List.map Arr.c (d.arrays)))])), ([6], (g8, g8, .box [.d (.v (.bool (e.live))), .d (.sl false 60 2 (List.map Iv.c (e.ints))), .d (.sl false 60 2 (List.map Iv.c (e.arrs)))])), ([8], (g9, g9, .box [.d (.v (.int .i64 (p.lo))), .d (.v (.int .i64 (p.hi)))])), ([9], (g10, g10, .box [.d (.v (.int .i64 (a.lo))), .d (.v (.int .i64 (a.hi)))])), ([12], (g19, g20, .box [.d (.v (.bool ((Env.putIn d e v p a).live))), .d (.sl false 39 2 (List.map Iv.c ((Env.putIn d e v p a).ints))), .d (.sl false 39 2 (List.map Iv.c ((Env.putIn d e v p a).arrs)))])), ([14], (g22, g23, .box [.ref [47, 0] (g24), .ref [47, 1] (g24), .ref [47, 2] (g24)])), ([15], (ζ.1, ζ.2.1, .box [.d (.v (.bool (e.live))), .ref [49, 1] (ζ.2.2), .ref [49, 2] (ζ.2.2)])), ([47, 0], (g24, g24, .row 9 1 (List.map strc (d.vars)))), ([47, 1], (g24, g24, .row 9 1 (List.map strc (d.flags)))), ([47, 2], (g24, g24, .row 52 2 (List.map Arr.c (d.arrays)))), ([49, 1], (ζ.2.2, ζ.2.2, .row 39 2 (List.map Iv.c (e.ints)))), ([49, 2], (ζ.2.2, ζ.2.2, .row 39 2 (List.map Iv.c (e.arrs))))]) [⟨[6], some 48, [[6]], []⟩, ⟨[48], some 49, [], [[49, 1], [49, 2]]⟩, ⟨[], some 15, [], [[15]]⟩, ⟨[15, 49], none, [[15]], [[15]]⟩] (fun k25 => ?_) ?_
      · skip
        refine .load (.no rfl) rfl t59 rfl rfl (.ptr _ _ _ _ _ rfl) rfl rfl rfl rfl ?_
        refine .call (.no rfl) rfl [] [] (c_toEnv e (by first | assumption | omega | (have q0 := szDecl_len hv hf ha (by omega) c0; omega) | (have q0 := szDecl_len hv hf ha (by omega) c0; have q1 := szEnv_len (by omega) c1; omega) | (have q0 := szDecl_len hv hf ha (by omega) c0; have q1 := szEnv_len (by omega) c1; exact q1.2.1) | (have q0 := szDecl_len hv hf ha (by omega) c0; have q1 := szEnv_len (by omega) c1; exact q1.1) | (have q0 := szDecl_len hv hf ha (by omega) c0; have q1 := szEnv_len (by omega) c1; first | omega | (have q9 := putIn_len (d := d) (e := e) (v := v) (p := p) (a := a) (n := 1048576) (by omega); first | omega | (simp only [Decl.marks, Env.marks, Env.mark, mkAll_len]; omega))) | (intro i hi; exact mkAll_get (mIv 1) _ (by simpa only [Env.mark, mkAll_len] using hi)) | (intro i hi; simp only [Env.mark, mkAll_len] at hi ⊢; exact mkAll_get _ _ hi))) rfl rfl rfl rfl rfl (.cons (Reads.d _).gives (.cons (Reads.d _).gives (.cons (Reads.d _).gives .nil))) rfl rfl (fun h => absurd rfl h) (.own [49, 0] (.own [49, 1] (.own [49, 2] .nil))) (.nil) rfl rfl rfl (by simp) rfl rfl rfl ?_
        refine .alloc (.no rfl) rfl z30 rfl rfl rfl ?_
        refine .store (.no rfl) rfl t30 rfl rfl rfl rfl rfl rfl rfl rfl rfl ?_
        exact .fin (k25 + 1 + 1, k25 + 1 + 1 + 1, k25 + 1) (.of (.cons rfl (.cons rfl (.cons rfl (.cons rfl (.cons rfl (.cons rfl (.cons rfl (.cons rfl (.cons rfl .nil))))))))) (.cons rfl (.cons rfl (.cons rfl (.cons rfl (.cons rfl (.cons rfl (.cons rfl (.cons rfl (.cons rfl (.cons rfl (.cons rfl (.cons rfl .nil)))))))))))))
      rintro ⟨g26, g27, g28⟩
      refine .seq ?_
      refine .regD (X := Nat × Nat × Nat) (by kernel_rfl) (fun ζ => .of [(2, .one (.d (.v (.int .i64 (v))))), (5, .one (.ptr [5] (g7) 0)), (6, .one (.ptr [6] (g8) 0)), (8, .one (.ptr [8] (g9) 0)), (9, .one (.ptr [9] (g10) 0)), (12, .one (.ptr [12] (g19) 0)), (13, .one (.d (.v (.int .i64 (Env.putInAl d e v p a))))), (14, .one (.ptr [14] (g22) 0)), (15, .one (.ptr [15] (g26) 0)), (16, .one (.ptr [16] (ζ.1) 0)), (17, .one (.d (.v (.int .i64 (Env.putInAl d e v p a)))))] [([5], (g7, g7, .box [.d (.sl false 9 1 (List.map strc (d.vars))), .d (.sl false 9 1 (List.map strc (d.flags))), .d (.sl false 152 2 (List.map Arr.c (d.arrays)))])), ([6], (g8, g8, .box [.d (.v (.bool (e.live))), .d (.sl false 60 2 (List.map Iv.c (e.ints))), .d (.sl false 60 2 (List.map Iv.c (e.arrs)))])), ([8], (g9, g9, .box [.d (.v (.int .i64 (p.lo))), .d (.v (.int .i64 (p.hi)))])), ([9], (g10, g10, .box [.d (.v (.int .i64 (a.lo))), .d (.v (.int .i64 (a.hi)))])), ([12], (g19, g20, .box [.d (.v (.bool ((Env.putIn d e v p a).live))), .d (.sl false 39 2 (List.map Iv.c ((Env.putIn d e v p a).ints))), .d (.sl false 39 2 (List.map Iv.c ((Env.putIn d e v p a).arrs)))])), ([14], (g22, g23, .box [.ref [47, 0] (g24), .ref [47, 1] (g24), .ref [47, 2] (g24)])), ([15], (g26, g27, .box [.d (.v (.bool (e.live))), .ref [49, 1] (g28), .ref [49, 2] (g28)])), ([16], (ζ.1, ζ.2.1, .box [.d (.v (.bool ((Env.putIn d e v p a).live))), .ref [58, 1] (ζ.2.2), .ref [58, 2] (ζ.2.2)])), ([47, 0], (g24, g24, .row 9 1 (List.map strc (d.vars)))), ([47, 1], (g24, g24, .row 9 1 (List.map strc (d.flags)))), ([47, 2], (g24, g24, .row 52 2 (List.map Arr.c (d.arrays)))), ([49, 1], (g28, g28, .row 39 2 (List.map Iv.c (e.ints)))), ([49, 2], (g28, g28, .row 39 2 (List.map Iv.c (e.arrs)))), ([58, 1], (ζ.2.2, ζ.2.2, .row 39 2 (List.map Iv.c ((Env.putIn d e v p a).ints)))), ([58, 2], (ζ.2.2, ζ.2.2, .row 39 2 (List.map Iv.c ((Env.putIn d e v p a).arrs))))]) [⟨[14], some 51, [[14]], []⟩, ⟨[15], some 52, [[15]], []⟩, ⟨[2], some 53, [], []⟩, ⟨[8], some 54, [[8]], []⟩, ⟨[54], some 55, [], []⟩, ⟨[9], some 56, [[9]], []⟩, ⟨[56], some 57, [], []⟩, ⟨[51, 52, 53, 55, 57], some 58, [[47, 0], [47, 1], [47, 2], [49, 1], [49, 2]], [[58, 1], [58, 2]]⟩, ⟨[58], some 50, [], []⟩, ⟨[50], some 59, [], []⟩, ⟨[50], some 60, [], []⟩, ⟨[], some 16, [], [[16]]⟩, ⟨[16, 59], none, [[16]], [[16]]⟩, ⟨[60], some 17, [], []⟩] (by kernel_rfl) (fun k29 => ?_) ?_
      · skip
        refine .load (.no rfl) rfl t27 rfl rfl (.ptr _ _ _ _ _ rfl) rfl rfl rfl rfl ?_
        refine .load (.no rfl) rfl t30 rfl rfl (.ptr _ _ _ _ _ rfl) rfl rfl rfl rfl ?_
        refine .move (.no rfl) rfl rfl rfl rfl ?_
        refine .load (.no rfl) rfl t60 rfl rfl (.ptr _ _ _ _ _ rfl) rfl rfl rfl rfl ?_
        refine .call (.no rfl) rfl [] [] (c_toInterval p) rfl rfl rfl rfl rfl (.cons (Reads.d _).gives (.cons (Reads.d _).gives .nil)) rfl rfl (fun h => absurd rfl h) (.own [55, 0] (.own [55, 1] .nil)) (.nil) rfl rfl rfl (by simp) rfl rfl rfl ?_
        refine .load (.no rfl) rfl t60 rfl rfl (.ptr _ _ _ _ _ rfl) rfl rfl rfl rfl ?_
        refine .call (.no rfl) rfl [] [] (c_toInterval a) rfl rfl rfl rfl rfl (.cons (Reads.d _).gives (.cons (Reads.d _).gives .nil)) rfl rfl (fun h => absurd rfl h) (.own [57, 0] (.own [57, 1] .nil)) (.nil) rfl rfl rfl (by simp) rfl rfl rfl ?_
        refine .call (.no rfl) rfl [[47, 0], [47, 1], [47, 2], [49, 1], [49, 2]] [([47, 0], (g24, g24, .row 9 1 (List.map strc (d.vars)))), ([47, 1], (g24, g24, .row 9 1 (List.map strc (d.flags)))), ([47, 2], (g24, g24, .row 52 2 (List.map Arr.c (d.arrays)))), ([49, 1], (g28, g28, .row 39 2 (List.map Iv.c (e.ints)))), ([49, 2], (g28, g28, .row 39 2 (List.map Iv.c (e.arrs))))] (c_EnvPut d e v p a (by first | assumption | omega | (have q0 := szDecl_len hv hf ha (by omega) c0; omega) | (have q0 := szDecl_len hv hf ha (by omega) c0; have q1 := szEnv_len (by omega) c1; omega) | (have q0 := szDecl_len hv hf ha (by omega) c0; have q1 := szEnv_len (by omega) c1; exact q1.2.1) | (have q0 := szDecl_len hv hf ha (by omega) c0; have q1 := szEnv_len (by omega) c1; exact q1.1) | (have q0 := szDecl_len hv hf ha (by omega) c0; have q1 := szEnv_len (by omega) c1; first | omega | (have q9 := putIn_len (d := d) (e := e) (v := v) (p := p) (a := a) (n := 1048576) (by omega); first | omega | (simp only [Decl.marks, Env.marks, Env.mark, mkAll_len]; omega))) | (intro i hi; exact mkAll_get (mIv 1) _ (by simpa only [Env.mark, mkAll_len] using hi)) | (intro i hi; simp only [Env.mark, mkAll_len] at hi ⊢; exact mkAll_get _ _ hi)) (by first | assumption | omega | (have q0 := szDecl_len hv hf ha (by omega) c0; omega) | (have q0 := szDecl_len hv hf ha (by omega) c0; have q1 := szEnv_len (by omega) c1; omega) | (have q0 := szDecl_len hv hf ha (by omega) c0; have q1 := szEnv_len (by omega) c1; exact q1.2.1) | (have q0 := szDecl_len hv hf ha (by omega) c0; have q1 := szEnv_len (by omega) c1; exact q1.1) | (have q0 := szDecl_len hv hf ha (by omega) c0; have q1 := szEnv_len (by omega) c1; first | omega | (have q9 := putIn_len (d := d) (e := e) (v := v) (p := p) (a := a) (n := 1048576) (by omega); first | omega | (simp only [Decl.marks, Env.marks, Env.mark, mkAll_len]; omega))) | (intro i hi; exact mkAll_get (mIv 1) _ (by simpa only [Env.mark, mkAll_len] using hi)) | (intro i hi; simp only [Env.mark, mkAll_len] at hi ⊢; exact mkAll_get _ _ hi)) (by first | assumption | omega | (have q0 := szDecl_len hv hf ha (by omega) c0; omega) | (have q0 := szDecl_len hv hf ha (by omega) c0; have q1 := szEnv_len (by omega) c1; omega) | (have q0 := szDecl_len hv hf ha (by omega) c0; have q1 := szEnv_len (by omega) c1; exact q1.2.1) | (have q0 := szDecl_len hv hf ha (by omega) c0; have q1 := szEnv_len (by omega) c1; exact q1.1) | (have q0 := szDecl_len hv hf ha (by omega) c0; have q1 := szEnv_len (by omega) c1; first | omega | (have q9 := putIn_len (d := d) (e := e) (v := v) (p := p) (a := a) (n := 1048576) (by omega); first | omega | (simp only [Decl.marks, Env.marks, Env.mark, mkAll_len]; omega))) | (intro i hi; exact mkAll_get (mIv 1) _ (by simpa only [Env.mark, mkAll_len] using hi)) | (intro i hi; simp only [Env.mark, mkAll_len] at hi ⊢; exact mkAll_get _ _ hi))) rfl rfl rfl rfl rfl (.cons (Reads.ref (Frz.of_erase (erase_slo _ _ _ _ _ _ strc_e)) (.head _) (.head _)).gives (.cons (Reads.ref (Frz.of_erase (erase_slo _ _ _ _ _ _ strc_e)) (.tail _ (.head _)) (.tail _ (.head _))).gives (.cons (Reads.ref (Frz.of_erase (erase_slo _ _ _ _ _ _ Arr.c_e)) (.tail _ (.tail _ (.head _))) (.tail _ (.tail _ (.head _)))).gives (.cons (Reads.d _).gives (.cons (Reads.ref (Frz.of_erase (erase_slo _ _ _ _ _ _ Iv.c_e)) (.tail _ (.tail _ (.tail _ (.head _)))) (.tail _ (.tail _ (.tail _ (.head _))))).gives (.cons (Reads.ref (Frz.of_erase (erase_slo _ _ _ _ _ _ Iv.c_e)) (.tail _ (.tail _ (.tail _ (.tail _ (.head _))))) (.tail _ (.tail _ (.tail _ (.tail _ (.head _)))))).gives (.cons (Reads.d _).gives (.cons (Reads.d _).gives (.cons (Reads.d _).gives (.cons (Reads.d _).gives (.cons (Reads.d _).gives .nil))))))))))) rfl rfl (fun _ => (ownCons (Owned.v _) (ownCons (Owned.map _ _ _ _ Iv.c_o) (ownCons (Owned.map _ _ _ _ Iv.c_o) (ownCons (Owned.v _) ownNil))))) (.own [58, 0] (.own [58, 1] (.own [58, 2] (.own [58, 3] .nil)))) (.nil) rfl rfl rfl (AllH.get (.cons rfl (.cons rfl (.cons rfl (.cons rfl (.cons rfl .nil)))))) rfl rfl rfl ?_
        refine .move (.no rfl) rfl rfl rfl rfl ?_
        refine .extract (.no rfl) rfl rfl rfl rfl rfl ?_
        refine .extract (.no rfl) rfl rfl rfl rfl rfl ?_
        refine .alloc (.no rfl) rfl z30 rfl rfl rfl ?_
        refine .store (.no rfl) rfl t30 rfl rfl rfl rfl rfl rfl rfl rfl rfl ?_
        refine .assign (.no rfl) rfl rfl rfl rfl ?_
        exact .fin (k29 + 1 + 1 + 1 + 1 + 1 + 1 + 1 + 1 + 1 + 1 + 1, k29 + 1 + 1 + 1 + 1 + 1 + 1 + 1 + 1 + 1 + 1 + 1 + 1, k29 + 1 + 1 + 1 + 1 + 1 + 1 + 1) (.of (.cons rfl (.cons rfl (.cons rfl (.cons rfl (.cons rfl (.cons rfl (.cons rfl (.cons rfl (.cons rfl (.cons rfl (.cons rfl .nil))))))))))) (.cons rfl (.cons rfl (.cons rfl (.cons rfl (.cons rfl (.cons rfl (.cons rfl (.cons rfl (.cons rfl (.cons rfl (.cons rfl (.cons rfl (.cons rfl (.cons rfl (.cons rfl .nil))))))))))))))))
      rintro ⟨g30, g31, g32⟩
      refine .seq ?_
      refine .seq ?_
      refine .reg (X := Unit) (fun ζ => .of [(2, .one (.d (.v (.int .i64 (v))))), (5, .one (.ptr [5] (g7) 0)), (6, .one (.ptr [6] (g8) 0)), (8, .one (.ptr [8] (g9) 0)), (9, .one (.ptr [9] (g10) 0)), (12, .one (.ptr [12] (g19) 0)), (13, .one (.d (.v (.int .i64 (Env.putInAl d e v p a))))), (14, .one (.ptr [14] (g22) 0)), (15, .one (.ptr [15] (g26) 0)), (16, .one (.ptr [16] (g30) 0)), (17, .one (.d (.v (.int .i64 (Env.putInAl d e v p a))))), (69, .one (.d (.v (.bool ((!(Env.same (Env.putIn d e v p a) (Env.putIn d e v p a)) || (Env.putInAl d e v p a) != (Env.putInAl d e v p a)))))))] [([5], (g7, g7, .box [.d (.sl false 9 1 (List.map strc (d.vars))), .d (.sl false 9 1 (List.map strc (d.flags))), .d (.sl false 152 2 (List.map Arr.c (d.arrays)))])), ([6], (g8, g8, .box [.d (.v (.bool (e.live))), .d (.sl false 60 2 (List.map Iv.c (e.ints))), .d (.sl false 60 2 (List.map Iv.c (e.arrs)))])), ([8], (g9, g9, .box [.d (.v (.int .i64 (p.lo))), .d (.v (.int .i64 (p.hi)))])), ([9], (g10, g10, .box [.d (.v (.int .i64 (a.lo))), .d (.v (.int .i64 (a.hi)))])), ([12], (g19, g20, .box [.d (.v (.bool ((Env.putIn d e v p a).live))), .d (.sl false 39 2 (List.map Iv.c ((Env.putIn d e v p a).ints))), .d (.sl false 39 2 (List.map Iv.c ((Env.putIn d e v p a).arrs)))])), ([14], (g22, g23, .box [.ref [47, 0] (g24), .ref [47, 1] (g24), .ref [47, 2] (g24)])), ([15], (g26, g27, .box [.d (.v (.bool (e.live))), .ref [49, 1] (g28), .ref [49, 2] (g28)])), ([16], (g30, g31, .box [.d (.v (.bool ((Env.putIn d e v p a).live))), .ref [58, 1] (g32), .ref [58, 2] (g32)])), ([47, 0], (g24, g24, .row 9 1 (List.map strc (d.vars)))), ([47, 1], (g24, g24, .row 9 1 (List.map strc (d.flags)))), ([47, 2], (g24, g24, .row 52 2 (List.map Arr.c (d.arrays)))), ([49, 1], (g28, g28, .row 39 2 (List.map Iv.c (e.ints)))), ([49, 2], (g28, g28, .row 39 2 (List.map Iv.c (e.arrs)))), ([58, 1], (g32, g32, .row 39 2 (List.map Iv.c ((Env.putIn d e v p a).ints)))), ([58, 2], (g32, g32, .row 39 2 (List.map Iv.c ((Env.putIn d e v p a).arrs))))]) [⟨[16], some 61, [[16]], []⟩, ⟨[12], some 62, [[12]], []⟩, ⟨[61, 62], some 63, [[58, 1], [58, 2]], []⟩, ⟨[63], some 64, [], []⟩, ⟨[64], some 65, [], []⟩, ⟨[65, 17], some 66, [], []⟩, ⟨[65, 13], some 67, [], []⟩, ⟨[65, 66, 67], some 68, [], []⟩, ⟨[65, 68], some 69, [], []⟩] (fun k33 => ?_) ?_
      · skip
        refine .load (.no rfl) rfl t30 rfl rfl (.ptr _ _ _ _ _ rfl) rfl rfl rfl rfl ?_
        refine .load (.no rfl) rfl t30 rfl rfl (.ptr _ _ _ _ _ rfl) rfl rfl rfl rfl ?_
        refine .call (.no rfl) rfl [[58, 1], [58, 2]] [([58, 1], (g32, g32, .row 39 2 (List.map Iv.c ((Env.putIn d e v p a).ints)))), ([58, 2], (g32, g32, .row 39 2 (List.map Iv.c ((Env.putIn d e v p a).arrs))))] (c_eqEnv (Env.putIn d e v p a) (Env.putIn d e v p a)) rfl rfl rfl rfl rfl (.cons (Reads.d _).gives (.cons (Reads.ref (Frz.of_erase (erase_slo _ _ _ _ _ _ Iv.c_e)) (.head _) (.head _)).gives (.cons (Reads.ref (Frz.of_erase (erase_slo _ _ _ _ _ _ Iv.c_e)) (.tail _ (.head _)) (.tail _ (.head _))).gives (.cons (Reads.d _).gives (.cons (Reads.d _).gives (.cons (Reads.d _).gives .nil)))))) rfl rfl (fun _ => (ownCons (Owned.v _) ownNil)) (.own [63, 0] .nil) (.nil) rfl rfl rfl (AllH.get (.cons rfl (.cons rfl .nil))) rfl rfl rfl ?_
        refine .un (.no rfl) rfl rfl rfl rfl rfl ?_
        refine .moveB (.no rfl) rfl rfl rfl rfl fun b34 g12_4 => ?_
        cases b34
        · skip
          refine .move (.on rfl rfl rfl rfl rfl) rfl rfl rfl rfl ?_
          refine .move (.on rfl rfl rfl rfl rfl) rfl rfl rfl rfl ?_
          refine .bin (.on rfl rfl rfl rfl rfl) rfl rfl rfl rfl rfl rfl ?_
          refine .pick (.no rfl) rfl rfl rfl rfl rfl ?_
          exact .fin () (.of (.cons rfl (.cons rfl (.cons rfl (.cons rfl (.cons rfl (.cons rfl (.cons rfl (.cons rfl (.cons rfl (.cons rfl (.cons rfl (.cons (svB (show ((Env.putInAl d e v p a) != (Env.putInAl d e v p a)) = ((!(Env.same (Env.putIn d e v p a) (Env.putIn d e v p a)) || (Env.putInAl d e v p a) != (Env.putInAl d e v p a))) by first | (simp only [g12_4, Bool.true_or, Bool.false_or, Bool.true_and, Bool.false_and, Bool.not_true, Bool.not_false]; done) | simp [g12_4])) .nil)))))))))))) (.cons rfl (.cons rfl (.cons rfl (.cons rfl (.cons rfl (.cons rfl (.cons rfl (.cons rfl (.cons rfl (.cons rfl (.cons rfl (.cons rfl (.cons rfl (.cons rfl (.cons rfl .nil))))))))))))))))
        · skip
          refine .off rfl rfl rfl rfl rfl rfl rfl ?_
          refine .off rfl rfl rfl rfl rfl rfl rfl ?_
          refine .off rfl rfl rfl rfl rfl rfl rfl ?_
          refine .pick (.no rfl) rfl rfl rfl rfl rfl ?_
          exact .fin () (.of (.cons rfl (.cons rfl (.cons rfl (.cons rfl (.cons rfl (.cons rfl (.cons rfl (.cons rfl (.cons rfl (.cons rfl (.cons rfl (.cons (svB (show (true) = ((!(Env.same (Env.putIn d e v p a) (Env.putIn d e v p a)) || (Env.putInAl d e v p a) != (Env.putInAl d e v p a))) by first | (simp only [g12_4, Bool.true_or, Bool.false_or, Bool.true_and, Bool.false_and, Bool.not_true, Bool.not_false]; done) | simp [g12_4])) .nil)))))))))))) (.cons rfl (.cons rfl (.cons rfl (.cons rfl (.cons rfl (.cons rfl (.cons rfl (.cons rfl (.cons rfl (.cons rfl (.cons rfl (.cons rfl (.cons rfl (.cons rfl (.cons rfl .nil))))))))))))))))
      intro _
      refine .cond (t := (!(Env.same (Env.putIn d e v p a) (Env.putIn d e v p a)) || (Env.putInAl d e v p a) != (Env.putInAl d e v p a))) rfl (fun c2 => ?_) (fun c2 => ?_)
      · have c2 := c2
        try simp only [Bool.or_eq_true, Bool.or_eq_false_iff, Bool.and_eq_true, Bool.and_eq_false_iff, decide_eq_true_eq, decide_eq_false_iff_not, Bool.not_eq_true', Bool.not_eq_false', bne_iff_ne, beq_iff_eq, bne_eq_false_iff_eq, beq_eq_false_iff_ne, ne_eq, Bool.not_eq_eq_eq_not, Bool.not_true, Bool.not_false] at c2
        refine .seq ?_
        refine .reg (X := Unit) (fun ζ => .of [(10, .one (.d (.v (.bool (false)))))] []) [⟨[], some 10, [], []⟩] (fun k35 => ?_) ?_
        · skip
          refine .assign (.no rfl) rfl rfl rfl rfl ?_
          exact .fin () (.of (.cons rfl .nil) .nil)
        intro _
        refine .ret ?_
        have e36 : (false) = (true) := by first | exact absurd c2 (by rw [Env.same_self]; decide) | exact absurd c2 (by rw [Decl.same_self]; decide) | exact absurd c2 (by rw [all2_self Env.same_self]; decide) | (rcases c2 with h9 | h9 <;> first | exact (h9 trivial).elim | exact absurd rfl h9 | exact absurd h9 (by rw [Env.same_self]; decide) | (simp only [Decl.marks, Env.marks] at h9; omega)) | (rcases c2 with (h9 | h9) | h9 <;> first | exact (h9 trivial).elim | exact absurd rfl h9 | exact absurd h9 (by rw [Env.same_self]; decide) | (simp only [Decl.marks, Env.marks] at h9; omega)) | (simp only [Env.marks] at c2; omega) | (simp [Env.marks, Env.mark, mkAll_len] at c2) | (simp at c2)
        have hc37 := eq1 (fun z1 => SV.one (.d (.v (.bool (z1))))) e36
        show _ ∧ _
        exact ⟨.inr rfl, .done ⟨_, [], [], _, .one (c := .d (.v (.bool (true)))) (hc37) .nil, .cons (Reads.d _).gives .nil, nodupB_ok rfl, by simp, (by simp)⟩⟩
      · have c2 := c2
        try simp only [Bool.or_eq_true, Bool.or_eq_false_iff, Bool.and_eq_true, Bool.and_eq_false_iff, decide_eq_true_eq, decide_eq_false_iff_not, Bool.not_eq_true', Bool.not_eq_false', bne_iff_ne, beq_iff_eq, bne_eq_false_iff_eq, beq_eq_false_iff_ne, ne_eq, Bool.not_eq_eq_eq_not, Bool.not_true, Bool.not_false] at c2
        refine .skip ?_
        refine .seq ?_
        refine .seq ?_
        refine .regD (X := Unit) (by kernel_rfl) (fun ζ => .of [(2, .one (.d (.v (.int .i64 (v))))), (5, .one (.ptr [5] (g7) 0)), (6, .one (.ptr [6] (g8) 0)), (8, .one (.ptr [8] (g9) 0)), (9, .one (.ptr [9] (g10) 0)), (12, .one (.ptr [12] (g19) 0)), (13, .one (.d (.v (.int .i64 (Env.putInAl d e v p a))))), (14, .one (.ptr [14] (g22) 0)), (15, .one (.ptr [15] (g26) 0)), (16, .one (.ptr [16] (g30) 0)), (17, .one (.d (.v (.int .i64 (Env.putInAl d e v p a))))), (74, .one (.d (.v (.bool (!(Decl.same d d))))))] [([5], (g7, g7, .box [.d (.sl false 9 1 (List.map strc (d.vars))), .d (.sl false 9 1 (List.map strc (d.flags))), .d (.sl false 152 2 (List.map Arr.c (d.arrays)))])), ([6], (g8, g8, .box [.d (.v (.bool (e.live))), .d (.sl false 60 2 (List.map Iv.c (e.ints))), .d (.sl false 60 2 (List.map Iv.c (e.arrs)))])), ([8], (g9, g9, .box [.d (.v (.int .i64 (p.lo))), .d (.v (.int .i64 (p.hi)))])), ([9], (g10, g10, .box [.d (.v (.int .i64 (a.lo))), .d (.v (.int .i64 (a.hi)))])), ([12], (g19, g20, .box [.d (.v (.bool ((Env.putIn d e v p a).live))), .d (.sl false 39 2 (List.map Iv.c ((Env.putIn d e v p a).ints))), .d (.sl false 39 2 (List.map Iv.c ((Env.putIn d e v p a).arrs)))])), ([14], (g22, g23, .box [.ref [47, 0] (g24), .ref [47, 1] (g24), .ref [47, 2] (g24)])), ([15], (g26, g27, .box [.d (.v (.bool (e.live))), .ref [49, 1] (g28), .ref [49, 2] (g28)])), ([16], (g30, g31, .box [.d (.v (.bool ((Env.putIn d e v p a).live))), .ref [58, 1] (g32), .ref [58, 2] (g32)])), ([47, 0], (g24, g24, .row 9 1 (List.map strc (d.vars)))), ([47, 1], (g24, g24, .row 9 1 (List.map strc (d.flags)))), ([47, 2], (g24, g24, .row 52 2 (List.map Arr.c (d.arrays)))), ([49, 1], (g28, g28, .row 39 2 (List.map Iv.c (e.ints)))), ([49, 2], (g28, g28, .row 39 2 (List.map Iv.c (e.arrs)))), ([58, 1], (g32, g32, .row 39 2 (List.map Iv.c ((Env.putIn d e v p a).ints)))), ([58, 2], (g32, g32, .row 39 2 (List.map Iv.c ((Env.putIn d e v p a).arrs))))]) [⟨[14], some 70, [[14]], []⟩, ⟨[5], some 71, [[5]], []⟩, ⟨[71], some 72, [], [[72, 0], [72, 1], [72, 2]]⟩, ⟨[70, 72], some 73, [[47, 0], [47, 1], [47, 2], [72, 0], [72, 1], [72, 2]], []⟩, ⟨[73], some 74, [], []⟩] (by kernel_rfl) (fun k38 => ?_) ?_
        · skip
          refine .load (.no rfl) rfl t27 rfl rfl (.ptr _ _ _ _ _ rfl) rfl rfl rfl rfl ?_
          refine .load (.no rfl) rfl t56 rfl rfl (.ptr _ _ _ _ _ rfl) rfl rfl rfl rfl ?_
          refine .call (.no rfl) rfl [] [] (c_toDecl d (by first | assumption | omega | (have q0 := szDecl_len hv hf ha (by omega) c0; omega) | (have q0 := szDecl_len hv hf ha (by omega) c0; have q1 := szEnv_len (by omega) c1; omega) | (have q0 := szDecl_len hv hf ha (by omega) c0; have q1 := szEnv_len (by omega) c1; exact q1.2.1) | (have q0 := szDecl_len hv hf ha (by omega) c0; have q1 := szEnv_len (by omega) c1; exact q1.1) | (have q0 := szDecl_len hv hf ha (by omega) c0; have q1 := szEnv_len (by omega) c1; first | omega | (have q9 := putIn_len (d := d) (e := e) (v := v) (p := p) (a := a) (n := 1048576) (by omega); first | omega | (simp only [Decl.marks, Env.marks, Env.mark, mkAll_len]; omega))) | (intro i hi; exact mkAll_get (mIv 1) _ (by simpa only [Env.mark, mkAll_len] using hi)) | (intro i hi; simp only [Env.mark, mkAll_len] at hi ⊢; exact mkAll_get _ _ hi))) rfl rfl rfl rfl rfl (.cons (Reads.d _).gives (.cons (Reads.d _).gives (.cons (Reads.d _).gives .nil))) rfl rfl (fun h => absurd rfl h) (.own [72, 0] (.own [72, 1] (.own [72, 2] .nil))) (.nil) rfl rfl rfl (by simp) rfl rfl rfl ?_
          refine .call (.no rfl) rfl [[47, 0], [47, 1], [47, 2], [72, 0], [72, 1], [72, 2]] [([47, 0], (g24, g24, .row 9 1 (List.map strc (d.vars)))), ([47, 1], (g24, g24, .row 9 1 (List.map strc (d.flags)))), ([47, 2], (g24, g24, .row 52 2 (List.map Arr.c (d.arrays)))), ([72, 0], (k38 + 1 + 1, k38 + 1 + 1, .row 9 1 (List.map strc (d.vars)))), ([72, 1], (k38 + 1 + 1, k38 + 1 + 1, .row 9 1 (List.map strc (d.flags)))), ([72, 2], (k38 + 1 + 1, k38 + 1 + 1, .row 52 2 (List.map Arr.c (d.arrays))))] (c_eqDecl d d) rfl rfl rfl rfl rfl (.cons (Reads.ref (Frz.of_erase (erase_slo _ _ _ _ _ _ strc_e)) (.head _) (.head _)).gives (.cons (Reads.ref (Frz.of_erase (erase_slo _ _ _ _ _ _ strc_e)) (.tail _ (.head _)) (.tail _ (.head _))).gives (.cons (Reads.ref (Frz.of_erase (erase_slo _ _ _ _ _ _ Arr.c_e)) (.tail _ (.tail _ (.head _))) (.tail _ (.tail _ (.head _)))).gives (.cons (Reads.ref (Frz.of_erase (erase_slo _ _ _ _ _ _ strc_e)) (.tail _ (.tail _ (.tail _ (.head _)))) (.tail _ (.tail _ (.tail _ (.head _))))).gives (.cons (Reads.ref (Frz.of_erase (erase_slo _ _ _ _ _ _ strc_e)) (.tail _ (.tail _ (.tail _ (.tail _ (.head _))))) (.tail _ (.tail _ (.tail _ (.tail _ (.head _)))))).gives (.cons (Reads.ref (Frz.of_erase (erase_slo _ _ _ _ _ _ Arr.c_e)) (.tail _ (.tail _ (.tail _ (.tail _ (.tail _ (.head _)))))) (.tail _ (.tail _ (.tail _ (.tail _ (.tail _ (.head _))))))).gives .nil)))))) rfl rfl (fun _ => (ownCons (Owned.v _) ownNil)) (.own [73, 0] .nil) (.nil) rfl rfl rfl (AllH.get (.cons rfl (.cons rfl (.cons rfl (.cons rfl (.cons rfl (.cons rfl .nil))))))) rfl rfl rfl ?_
          refine .un (.no rfl) rfl rfl rfl rfl rfl ?_
          exact .fin () (.of (.cons rfl (.cons rfl (.cons rfl (.cons rfl (.cons rfl (.cons rfl (.cons rfl (.cons rfl (.cons rfl (.cons rfl (.cons rfl (.cons rfl .nil)))))))))))) (.cons rfl (.cons rfl (.cons rfl (.cons rfl (.cons rfl (.cons rfl (.cons rfl (.cons rfl (.cons rfl (.cons rfl (.cons rfl (.cons rfl (.cons rfl (.cons rfl (.cons rfl .nil))))))))))))))))
        intro _
        refine .cond (t := !(Decl.same d d)) rfl (fun c3 => ?_) (fun c3 => ?_)
        · have c3 := c3
          try simp only [Bool.or_eq_true, Bool.or_eq_false_iff, Bool.and_eq_true, Bool.and_eq_false_iff, decide_eq_true_eq, decide_eq_false_iff_not, Bool.not_eq_true', Bool.not_eq_false', bne_iff_ne, beq_iff_eq, bne_eq_false_iff_eq, beq_eq_false_iff_ne, ne_eq, Bool.not_eq_eq_eq_not, Bool.not_true, Bool.not_false] at c3
          refine .seq ?_
          refine .reg (X := Unit) (fun ζ => .of [(10, .one (.d (.v (.bool (false)))))] []) [⟨[], some 10, [], []⟩] (fun k39 => ?_) ?_
          · skip
            refine .assign (.no rfl) rfl rfl rfl rfl ?_
            exact .fin () (.of (.cons rfl .nil) .nil)
          intro _
          refine .ret ?_
          have e40 : (false) = (true) := by first | exact absurd c3 (by rw [Env.same_self]; decide) | exact absurd c3 (by rw [Decl.same_self]; decide) | exact absurd c3 (by rw [all2_self Env.same_self]; decide) | (rcases c3 with h9 | h9 <;> first | exact (h9 trivial).elim | exact absurd rfl h9 | exact absurd h9 (by rw [Env.same_self]; decide) | (simp only [Decl.marks, Env.marks] at h9; omega)) | (rcases c3 with (h9 | h9) | h9 <;> first | exact (h9 trivial).elim | exact absurd rfl h9 | exact absurd h9 (by rw [Env.same_self]; decide) | (simp only [Decl.marks, Env.marks] at h9; omega)) | (simp only [Env.marks] at c3; omega) | (simp [Env.marks, Env.mark, mkAll_len] at c3) | (simp at c3)
          have hc41 := eq1 (fun z1 => SV.one (.d (.v (.bool (z1))))) e40
          show _ ∧ _
          exact ⟨.inr rfl, .done ⟨_, [], [], _, .one (c := .d (.v (.bool (true)))) (hc41) .nil, .cons (Reads.d _).gives .nil, nodupB_ok rfl, by simp, (by simp)⟩⟩
        · have c3 := c3
          try simp only [Bool.or_eq_true, Bool.or_eq_false_iff, Bool.and_eq_true, Bool.and_eq_false_iff, decide_eq_true_eq, decide_eq_false_iff_not, Bool.not_eq_true', Bool.not_eq_false', bne_iff_ne, beq_iff_eq, bne_eq_false_iff_eq, beq_eq_false_iff_ne, ne_eq, Bool.not_eq_eq_eq_not, Bool.not_true, Bool.not_false] at c3
          refine .skip ?_
          refine .seq ?_
          refine .seq ?_
          refine .regD (X := Unit) (by kernel_rfl) (fun ζ => .of [(2, .one (.d (.v (.int .i64 (v))))), (5, .one (.ptr [5] (g7) 0)), (6, .one (.ptr [6] (g8) 0)), (8, .one (.ptr [8] (g9) 0)), (9, .one (.ptr [9] (g10) 0)), (12, .one (.ptr [12] (g19) 0)), (13, .one (.d (.v (.int .i64 (Env.putInAl d e v p a))))), (14, .one (.ptr [14] (g22) 0)), (15, .one (.ptr [15] (g26) 0)), (16, .one (.ptr [16] (g30) 0)), (17, .one (.d (.v (.int .i64 (Env.putInAl d e v p a))))), (79, .one (.d (.v (.bool (!(Env.same e e))))))] [([5], (g7, g7, .box [.d (.sl false 9 1 (List.map strc (d.vars))), .d (.sl false 9 1 (List.map strc (d.flags))), .d (.sl false 152 2 (List.map Arr.c (d.arrays)))])), ([6], (g8, g8, .box [.d (.v (.bool (e.live))), .d (.sl false 60 2 (List.map Iv.c (e.ints))), .d (.sl false 60 2 (List.map Iv.c (e.arrs)))])), ([8], (g9, g9, .box [.d (.v (.int .i64 (p.lo))), .d (.v (.int .i64 (p.hi)))])), ([9], (g10, g10, .box [.d (.v (.int .i64 (a.lo))), .d (.v (.int .i64 (a.hi)))])), ([12], (g19, g20, .box [.d (.v (.bool ((Env.putIn d e v p a).live))), .d (.sl false 39 2 (List.map Iv.c ((Env.putIn d e v p a).ints))), .d (.sl false 39 2 (List.map Iv.c ((Env.putIn d e v p a).arrs)))])), ([14], (g22, g23, .box [.ref [47, 0] (g24), .ref [47, 1] (g24), .ref [47, 2] (g24)])), ([15], (g26, g27, .box [.d (.v (.bool (e.live))), .ref [49, 1] (g28), .ref [49, 2] (g28)])), ([16], (g30, g31, .box [.d (.v (.bool ((Env.putIn d e v p a).live))), .ref [58, 1] (g32), .ref [58, 2] (g32)])), ([47, 0], (g24, g24, .row 9 1 (List.map strc (d.vars)))), ([47, 1], (g24, g24, .row 9 1 (List.map strc (d.flags)))), ([47, 2], (g24, g24, .row 52 2 (List.map Arr.c (d.arrays)))), ([49, 1], (g28, g28, .row 39 2 (List.map Iv.c (e.ints)))), ([49, 2], (g28, g28, .row 39 2 (List.map Iv.c (e.arrs)))), ([58, 1], (g32, g32, .row 39 2 (List.map Iv.c ((Env.putIn d e v p a).ints)))), ([58, 2], (g32, g32, .row 39 2 (List.map Iv.c ((Env.putIn d e v p a).arrs))))]) [⟨[15], some 75, [[15]], []⟩, ⟨[6], some 76, [[6]], []⟩, ⟨[76], some 77, [], [[77, 1], [77, 2]]⟩, ⟨[75, 77], some 78, [[49, 1], [49, 2], [77, 1], [77, 2]], []⟩, ⟨[78], some 79, [], []⟩] (by kernel_rfl) (fun k42 => ?_) ?_
          · skip
            refine .load (.no rfl) rfl t30 rfl rfl (.ptr _ _ _ _ _ rfl) rfl rfl rfl rfl ?_
            refine .load (.no rfl) rfl t59 rfl rfl (.ptr _ _ _ _ _ rfl) rfl rfl rfl rfl ?_
            refine .call (.no rfl) rfl [] [] (c_toEnv e (by first | assumption | omega | (have q0 := szDecl_len hv hf ha (by omega) c0; omega) | (have q0 := szDecl_len hv hf ha (by omega) c0; have q1 := szEnv_len (by omega) c1; omega) | (have q0 := szDecl_len hv hf ha (by omega) c0; have q1 := szEnv_len (by omega) c1; exact q1.2.1) | (have q0 := szDecl_len hv hf ha (by omega) c0; have q1 := szEnv_len (by omega) c1; exact q1.1) | (have q0 := szDecl_len hv hf ha (by omega) c0; have q1 := szEnv_len (by omega) c1; first | omega | (have q9 := putIn_len (d := d) (e := e) (v := v) (p := p) (a := a) (n := 1048576) (by omega); first | omega | (simp only [Decl.marks, Env.marks, Env.mark, mkAll_len]; omega))) | (intro i hi; exact mkAll_get (mIv 1) _ (by simpa only [Env.mark, mkAll_len] using hi)) | (intro i hi; simp only [Env.mark, mkAll_len] at hi ⊢; exact mkAll_get _ _ hi))) rfl rfl rfl rfl rfl (.cons (Reads.d _).gives (.cons (Reads.d _).gives (.cons (Reads.d _).gives .nil))) rfl rfl (fun h => absurd rfl h) (.own [77, 0] (.own [77, 1] (.own [77, 2] .nil))) (.nil) rfl rfl rfl (by simp) rfl rfl rfl ?_
            refine .call (.no rfl) rfl [[49, 1], [49, 2], [77, 1], [77, 2]] [([49, 1], (g28, g28, .row 39 2 (List.map Iv.c (e.ints)))), ([49, 2], (g28, g28, .row 39 2 (List.map Iv.c (e.arrs)))), ([77, 1], (k42 + 1 + 1, k42 + 1 + 1, .row 39 2 (List.map Iv.c (e.ints)))), ([77, 2], (k42 + 1 + 1, k42 + 1 + 1, .row 39 2 (List.map Iv.c (e.arrs))))] (c_eqEnv e e) rfl rfl rfl rfl rfl (.cons (Reads.d _).gives (.cons (Reads.ref (Frz.of_erase (erase_slo _ _ _ _ _ _ Iv.c_e)) (.head _) (.head _)).gives (.cons (Reads.ref (Frz.of_erase (erase_slo _ _ _ _ _ _ Iv.c_e)) (.tail _ (.head _)) (.tail _ (.head _))).gives (.cons (Reads.d _).gives (.cons (Reads.ref (Frz.of_erase (erase_slo _ _ _ _ _ _ Iv.c_e)) (.tail _ (.tail _ (.head _))) (.tail _ (.tail _ (.head _)))).gives (.cons (Reads.ref (Frz.of_erase (erase_slo _ _ _ _ _ _ Iv.c_e)) (.tail _ (.tail _ (.tail _ (.head _)))) (.tail _ (.tail _ (.tail _ (.head _))))).gives .nil)))))) rfl rfl (fun _ => (ownCons (Owned.v _) ownNil)) (.own [78, 0] .nil) (.nil) rfl rfl rfl (AllH.get (.cons rfl (.cons rfl (.cons rfl (.cons rfl .nil))))) rfl rfl rfl ?_
            refine .un (.no rfl) rfl rfl rfl rfl rfl ?_
            exact .fin () (.of (.cons rfl (.cons rfl (.cons rfl (.cons rfl (.cons rfl (.cons rfl (.cons rfl (.cons rfl (.cons rfl (.cons rfl (.cons rfl (.cons rfl .nil)))))))))))) (.cons rfl (.cons rfl (.cons rfl (.cons rfl (.cons rfl (.cons rfl (.cons rfl (.cons rfl (.cons rfl (.cons rfl (.cons rfl (.cons rfl (.cons rfl (.cons rfl (.cons rfl .nil))))))))))))))))
          intro _
          refine .cond (t := !(Env.same e e)) rfl (fun c4 => ?_) (fun c4 => ?_)
          · have c4 := c4
            try simp only [Bool.or_eq_true, Bool.or_eq_false_iff, Bool.and_eq_true, Bool.and_eq_false_iff, decide_eq_true_eq, decide_eq_false_iff_not, Bool.not_eq_true', Bool.not_eq_false', bne_iff_ne, beq_iff_eq, bne_eq_false_iff_eq, beq_eq_false_iff_ne, ne_eq, Bool.not_eq_eq_eq_not, Bool.not_true, Bool.not_false] at c4
            refine .seq ?_
            refine .reg (X := Unit) (fun ζ => .of [(10, .one (.d (.v (.bool (false)))))] []) [⟨[], some 10, [], []⟩] (fun k43 => ?_) ?_
            · skip
              refine .assign (.no rfl) rfl rfl rfl rfl ?_
              exact .fin () (.of (.cons rfl .nil) .nil)
            intro _
            refine .ret ?_
            have e44 : (false) = (true) := by first | exact absurd c4 (by rw [Env.same_self]; decide) | exact absurd c4 (by rw [Decl.same_self]; decide) | exact absurd c4 (by rw [all2_self Env.same_self]; decide) | (rcases c4 with h9 | h9 <;> first | exact (h9 trivial).elim | exact absurd rfl h9 | exact absurd h9 (by rw [Env.same_self]; decide) | (simp only [Decl.marks, Env.marks] at h9; omega)) | (rcases c4 with (h9 | h9) | h9 <;> first | exact (h9 trivial).elim | exact absurd rfl h9 | exact absurd h9 (by rw [Env.same_self]; decide) | (simp only [Decl.marks, Env.marks] at h9; omega)) | (simp only [Env.marks] at c4; omega) | (simp [Env.marks, Env.mark, mkAll_len] at c4) | (simp at c4)
            have hc45 := eq1 (fun z1 => SV.one (.d (.v (.bool (z1))))) e44
            show _ ∧ _
            exact ⟨.inr rfl, .done ⟨_, [], [], _, .one (c := .d (.v (.bool (true)))) (hc45) .nil, .cons (Reads.d _).gives .nil, nodupB_ok rfl, by simp, (by simp)⟩⟩
          · have c4 := c4
            try simp only [Bool.or_eq_true, Bool.or_eq_false_iff, Bool.and_eq_true, Bool.and_eq_false_iff, decide_eq_true_eq, decide_eq_false_iff_not, Bool.not_eq_true', Bool.not_eq_false', bne_iff_ne, beq_iff_eq, bne_eq_false_iff_eq, beq_eq_false_iff_ne, ne_eq, Bool.not_eq_eq_eq_not, Bool.not_true, Bool.not_false] at c4
            refine .skip ?_
            refine .seq ?_
            refine .reg (X := Unit) (fun ζ => .of [(2, .one (.d (.v (.int .i64 (v))))), (5, .one (.ptr [5] (g7) 0)), (6, .one (.ptr [6] (g8) 0)), (8, .one (.ptr [8] (g9) 0)), (9, .one (.ptr [9] (g10) 0)), (12, .one (.ptr [12] (g19) 0)), (13, .one (.d (.v (.int .i64 (Env.putInAl d e v p a))))), (14, .one (.ptr [14] (g22) 0)), (15, .one (.ptr [15] (g26) 0)), (16, .one (.ptr [16] (g30) 0)), (17, .one (.d (.v (.int .i64 (Env.putInAl d e v p a))))), (18, .one (.d (.v (.int .i64 (1)))))] [([5], (g7, g7, .box [.d (.sl false 9 1 (List.map strc (d.vars))), .d (.sl false 9 1 (List.map strc (d.flags))), .d (.sl false 152 2 (List.map Arr.c (d.arrays)))])), ([6], (g8, g8, .box [.d (.v (.bool (e.live))), .d (.sl false 60 2 (List.map Iv.c (e.ints))), .d (.sl false 60 2 (List.map Iv.c (e.arrs)))])), ([8], (g9, g9, .box [.d (.v (.int .i64 (p.lo))), .d (.v (.int .i64 (p.hi)))])), ([9], (g10, g10, .box [.d (.v (.int .i64 (a.lo))), .d (.v (.int .i64 (a.hi)))])), ([12], (g19, g20, .box [.d (.v (.bool ((Env.putIn d e v p a).live))), .d (.sl false 39 2 (List.map Iv.c ((Env.putIn d e v p a).ints))), .d (.sl false 39 2 (List.map Iv.c ((Env.putIn d e v p a).arrs)))])), ([14], (g22, g23, .box [.ref [47, 0] (g24), .ref [47, 1] (g24), .ref [47, 2] (g24)])), ([15], (g26, g27, .box [.d (.v (.bool (e.live))), .ref [49, 1] (g28), .ref [49, 2] (g28)])), ([16], (g30, g31, .box [.d (.v (.bool ((Env.putIn d e v p a).live))), .ref [58, 1] (g32), .ref [58, 2] (g32)])), ([47, 0], (g24, g24, .row 9 1 (List.map strc (d.vars)))), ([47, 1], (g24, g24, .row 9 1 (List.map strc (d.flags)))), ([47, 2], (g24, g24, .row 52 2 (List.map Arr.c (d.arrays)))), ([49, 1], (g28, g28, .row 39 2 (List.map Iv.c (e.ints)))), ([49, 2], (g28, g28, .row 39 2 (List.map Iv.c (e.arrs)))), ([58, 1], (g32, g32, .row 39 2 (List.map Iv.c ((Env.putIn d e v p a).ints)))), ([58, 2], (g32, g32, .row 39 2 (List.map Iv.c ((Env.putIn d e v p a).arrs))))]) [⟨[], some 18, [], []⟩] (fun k46 => ?_) ?_
            · skip
              refine .assign (.no rfl) rfl rfl rfl rfl ?_
              exact .fin () (.of (.cons rfl (.cons rfl (.cons rfl (.cons rfl (.cons rfl (.cons rfl (.cons rfl (.cons rfl (.cons rfl (.cons rfl (.cons rfl (.cons rfl .nil)))))))))))) (.cons rfl (.cons rfl (.cons rfl (.cons rfl (.cons rfl (.cons rfl (.cons rfl (.cons rfl (.cons rfl (.cons rfl (.cons rfl (.cons rfl (.cons rfl (.cons rfl (.cons rfl .nil))))))))))))))))
            intro _
            refine .seq ?_
            refine .reg (X := Unit) (fun ζ => .of [(2, .one (.d (.v (.int .i64 (v))))), (5, .one (.ptr [5] (g7) 0)), (6, .one (.ptr [6] (g8) 0)), (8, .one (.ptr [8] (g9) 0)), (9, .one (.ptr [9] (g10) 0)), (12, .one (.ptr [12] (g19) 0)), (13, .one (.d (.v (.int .i64 (Env.putInAl d e v p a))))), (15, .one (.ptr [15] (g26) 0)), (16, .one (.ptr [16] (g30) 0)), (17, .one (.d (.v (.int .i64 (Env.putInAl d e v p a))))), (18, .one (.d (.v (.int .i64 (Decl.marks 1 d)))))] [([5], (g7, g7, .box [.d (.sl false 9 1 (List.map strc (d.vars))), .d (.sl false 9 1 (List.map strc (d.flags))), .d (.sl false 152 2 (List.map Arr.c (d.arrays)))])), ([6], (g8, g8, .box [.d (.v (.bool (e.live))), .d (.sl false 60 2 (List.map Iv.c (e.ints))), .d (.sl false 60 2 (List.map Iv.c (e.arrs)))])), ([8], (g9, g9, .box [.d (.v (.int .i64 (p.lo))), .d (.v (.int .i64 (p.hi)))])), ([9], (g10, g10, .box [.d (.v (.int .i64 (a.lo))), .d (.v (.int .i64 (a.hi)))])), ([12], (g19, g20, .box [.d (.v (.bool ((Env.putIn d e v p a).live))), .d (.sl false 39 2 (List.map Iv.c ((Env.putIn d e v p a).ints))), .d (.sl false 39 2 (List.map Iv.c ((Env.putIn d e v p a).arrs)))])), ([15], (g26, g27, .box [.d (.v (.bool (e.live))), .ref [49, 1] (g28), .ref [49, 2] (g28)])), ([16], (g30, g31, .box [.d (.v (.bool ((Env.putIn d e v p a).live))), .ref [58, 1] (g32), .ref [58, 2] (g32)])), ([49, 1], (g28, g28, .row 39 2 (List.map Iv.c (e.ints)))), ([49, 2], (g28, g28, .row 39 2 (List.map Iv.c (e.arrs)))), ([58, 1], (g32, g32, .row 39 2 (List.map Iv.c ((Env.putIn d e v p a).ints)))), ([58, 2], (g32, g32, .row 39 2 (List.map Iv.c ((Env.putIn d e v p a).arrs))))]) [⟨[14], some 80, [[14]], []⟩, ⟨[18], some 81, [], []⟩, ⟨[80, 81], some 82, [[47, 0], [47, 1], [47, 2]], [[47, 0], [47, 1], [47, 2], [47, 0], [47, 1], [47, 2]]⟩, ⟨[82], some 18, [], []⟩] (fun k47 => ?_) ?_
            · skip
              refine .load (.no rfl) rfl t27 rfl rfl (.ptr _ _ _ _ _ rfl) rfl rfl rfl rfl ?_
              refine .move (.no rfl) rfl rfl rfl rfl ?_
              refine .call (.no rfl) rfl [] [([47, 0], (g24, g24, .row 9 1 (List.map strc (d.vars)))), ([47, 1], (g24, g24, .row 9 1 (List.map strc (d.flags)))), ([47, 2], (g24, g24, .row 52 2 (List.map Arr.c (d.arrays))))] (c_markDecl d 1 (by first | assumption | omega | (have q0 := szDecl_len hv hf ha (by omega) c0; omega) | (have q0 := szDecl_len hv hf ha (by omega) c0; have q1 := szEnv_len (by omega) c1; omega) | (have q0 := szDecl_len hv hf ha (by omega) c0; have q1 := szEnv_len (by omega) c1; exact q1.2.1) | (have q0 := szDecl_len hv hf ha (by omega) c0; have q1 := szEnv_len (by omega) c1; exact q1.1) | (have q0 := szDecl_len hv hf ha (by omega) c0; have q1 := szEnv_len (by omega) c1; first | omega | (have q9 := putIn_len (d := d) (e := e) (v := v) (p := p) (a := a) (n := 1048576) (by omega); first | omega | (simp only [Decl.marks, Env.marks, Env.mark, mkAll_len]; omega))) | (intro i hi; exact mkAll_get (mIv 1) _ (by simpa only [Env.mark, mkAll_len] using hi)) | (intro i hi; simp only [Env.mark, mkAll_len] at hi ⊢; exact mkAll_get _ _ hi)) (by first | assumption | omega | (have q0 := szDecl_len hv hf ha (by omega) c0; omega) | (have q0 := szDecl_len hv hf ha (by omega) c0; have q1 := szEnv_len (by omega) c1; omega) | (have q0 := szDecl_len hv hf ha (by omega) c0; have q1 := szEnv_len (by omega) c1; exact q1.2.1) | (have q0 := szDecl_len hv hf ha (by omega) c0; have q1 := szEnv_len (by omega) c1; exact q1.1) | (have q0 := szDecl_len hv hf ha (by omega) c0; have q1 := szEnv_len (by omega) c1; first | omega | (have q9 := putIn_len (d := d) (e := e) (v := v) (p := p) (a := a) (n := 1048576) (by omega); first | omega | (simp only [Decl.marks, Env.marks, Env.mark, mkAll_len]; omega))) | (intro i hi; exact mkAll_get (mIv 1) _ (by simpa only [Env.mark, mkAll_len] using hi)) | (intro i hi; simp only [Env.mark, mkAll_len] at hi ⊢; exact mkAll_get _ _ hi))) rfl rfl rfl rfl rfl (.cons (.ref (.head _)) (.cons (.ref (.tail _ (.head _))) (.cons (.ref (.tail _ (.tail _ (.head _)))) (.cons (Reads.d _).gives .nil)))) rfl rfl (fun h => absurd rfl h) (.own [82, 0] .nil) (.ref rfl (.head _) (by simp) (.ref rfl (.tail _ (.head _)) (by simp) (.ref rfl (.tail _ (.tail _ (.head _))) (by simp) .nil))) rfl rfl rfl (AllH.get (.cons rfl (.cons rfl (.cons rfl .nil)))) rfl rfl rfl ?_
              refine .assign (.no rfl) rfl rfl rfl rfl ?_
              exact .fin () (.of (.cons rfl (.cons rfl (.cons rfl (.cons rfl (.cons rfl (.cons rfl (.cons rfl (.cons rfl (.cons rfl (.cons rfl (.cons rfl .nil))))))))))) (.cons rfl (.cons rfl (.cons rfl (.cons rfl (.cons rfl (.cons rfl (.cons rfl (.cons rfl (.cons rfl (.cons rfl (.cons rfl .nil))))))))))))
            intro _
            refine .seq ?_
            refine .reg (X := Unit) (fun ζ => .of [(2, .one (.d (.v (.int .i64 (v))))), (5, .one (.ptr [5] (g7) 0)), (6, .one (.ptr [6] (g8) 0)), (8, .one (.ptr [8] (g9) 0)), (9, .one (.ptr [9] (g10) 0)), (12, .one (.ptr [12] (g19) 0)), (13, .one (.d (.v (.int .i64 (Env.putInAl d e v p a))))), (16, .one (.ptr [16] (g30) 0)), (17, .one (.d (.v (.int .i64 (Env.putInAl d e v p a))))), (18, .one (.d (.v (.int .i64 (Env.marks (Decl.marks 1 d) e)))))] [([5], (g7, g7, .box [.d (.sl false 9 1 (List.map strc (d.vars))), .d (.sl false 9 1 (List.map strc (d.flags))), .d (.sl false 152 2 (List.map Arr.c (d.arrays)))])), ([6], (g8, g8, .box [.d (.v (.bool (e.live))), .d (.sl false 60 2 (List.map Iv.c (e.ints))), .d (.sl false 60 2 (List.map Iv.c (e.arrs)))])), ([8], (g9, g9, .box [.d (.v (.int .i64 (p.lo))), .d (.v (.int .i64 (p.hi)))])), ([9], (g10, g10, .box [.d (.v (.int .i64 (a.lo))), .d (.v (.int .i64 (a.hi)))])), ([12], (g19, g20, .box [.d (.v (.bool ((Env.putIn d e v p a).live))), .d (.sl false 39 2 (List.map Iv.c ((Env.putIn d e v p a).ints))), .d (.sl false 39 2 (List.map Iv.c ((Env.putIn d e v p a).arrs)))])), ([16], (g30, g31, .box [.d (.v (.bool ((Env.putIn d e v p a).live))), .ref [58, 1] (g32), .ref [58, 2] (g32)])), ([58, 1], (g32, g32, .row 39 2 (List.map Iv.c ((Env.putIn d e v p a).ints)))), ([58, 2], (g32, g32, .row 39 2 (List.map Iv.c ((Env.putIn d e v p a).arrs))))]) [⟨[15], some 83, [[15]], []⟩, ⟨[18], some 84, [], []⟩, ⟨[83, 84], some 85, [[49, 1], [49, 2]], [[49, 1], [49, 2], [49, 1], [49, 2]]⟩, ⟨[85], some 18, [], []⟩] (fun k48 => ?_) ?_
            · skip
              refine .load (.no rfl) rfl t30 rfl rfl (.ptr _ _ _ _ _ rfl) rfl rfl rfl rfl ?_
              refine .move (.no rfl) rfl rfl rfl rfl ?_
              refine .call (.no rfl) rfl [] [([49, 1], (g28, g28, .row 39 2 (List.map Iv.c (e.ints)))), ([49, 2], (g28, g28, .row 39 2 (List.map Iv.c (e.arrs))))] (c_markEnv e (Decl.marks 1 d) (by first | assumption | omega | (have q0 := szDecl_len hv hf ha (by omega) c0; omega) | (have q0 := szDecl_len hv hf ha (by omega) c0; have q1 := szEnv_len (by omega) c1; omega) | (have q0 := szDecl_len hv hf ha (by omega) c0; have q1 := szEnv_len (by omega) c1; exact q1.2.1) | (have q0 := szDecl_len hv hf ha (by omega) c0; have q1 := szEnv_len (by omega) c1; exact q1.1) | (have q0 := szDecl_len hv hf ha (by omega) c0; have q1 := szEnv_len (by omega) c1; first | omega | (have q9 := putIn_len (d := d) (e := e) (v := v) (p := p) (a := a) (n := 1048576) (by omega); first | omega | (simp only [Decl.marks, Env.marks, Env.mark, mkAll_len]; omega))) | (intro i hi; exact mkAll_get (mIv 1) _ (by simpa only [Env.mark, mkAll_len] using hi)) | (intro i hi; simp only [Env.mark, mkAll_len] at hi ⊢; exact mkAll_get _ _ hi)) (by first | assumption | omega | (have q0 := szDecl_len hv hf ha (by omega) c0; omega) | (have q0 := szDecl_len hv hf ha (by omega) c0; have q1 := szEnv_len (by omega) c1; omega) | (have q0 := szDecl_len hv hf ha (by omega) c0; have q1 := szEnv_len (by omega) c1; exact q1.2.1) | (have q0 := szDecl_len hv hf ha (by omega) c0; have q1 := szEnv_len (by omega) c1; exact q1.1) | (have q0 := szDecl_len hv hf ha (by omega) c0; have q1 := szEnv_len (by omega) c1; first | omega | (have q9 := putIn_len (d := d) (e := e) (v := v) (p := p) (a := a) (n := 1048576) (by omega); first | omega | (simp only [Decl.marks, Env.marks, Env.mark, mkAll_len]; omega))) | (intro i hi; exact mkAll_get (mIv 1) _ (by simpa only [Env.mark, mkAll_len] using hi)) | (intro i hi; simp only [Env.mark, mkAll_len] at hi ⊢; exact mkAll_get _ _ hi))) rfl rfl rfl rfl rfl (.cons (Reads.d _).gives (.cons (.ref (.head _)) (.cons (.ref (.tail _ (.head _))) (.cons (Reads.d _).gives .nil)))) rfl rfl (fun h => absurd rfl h) (.own [85, 0] .nil) (.ref rfl (.head _) (by simp) (.ref rfl (.tail _ (.head _)) (by simp) .nil)) rfl rfl rfl (AllH.get (.cons rfl (.cons rfl .nil))) rfl rfl rfl ?_
              refine .assign (.no rfl) rfl rfl rfl rfl ?_
              exact .fin () (.of (.cons rfl (.cons rfl (.cons rfl (.cons rfl (.cons rfl (.cons rfl (.cons rfl (.cons rfl (.cons rfl (.cons rfl .nil)))))))))) (.cons rfl (.cons rfl (.cons rfl (.cons rfl (.cons rfl (.cons rfl (.cons rfl (.cons rfl .nil)))))))))
            intro _
            refine .seq ?_
            refine .seq ?_
            refine .reg (X := Unit) (fun ζ => .of [(2, .one (.d (.v (.int .i64 (v))))), (5, .one (.ptr [5] (g7) 0)), (6, .one (.ptr [6] (g8) 0)), (8, .one (.ptr [8] (g9) 0)), (9, .one (.ptr [9] (g10) 0)), (12, .one (.ptr [12] (g19) 0)), (13, .one (.d (.v (.int .i64 (Env.putInAl d e v p a))))), (16, .one (.ptr [16] (g30) 0)), (98, .one (.d (.v (.bool (((decide ((Env.marks (Decl.marks 1 d) e) < 0) || !(Env.same (Env.putIn d e v p a) (Env.putIn d e v p a))) || (Env.putInAl d e v p a) != (Env.putInAl d e v p a)))))))] [([5], (g7, g7, .box [.d (.sl false 9 1 (List.map strc (d.vars))), .d (.sl false 9 1 (List.map strc (d.flags))), .d (.sl false 152 2 (List.map Arr.c (d.arrays)))])), ([6], (g8, g8, .box [.d (.v (.bool (e.live))), .d (.sl false 60 2 (List.map Iv.c (e.ints))), .d (.sl false 60 2 (List.map Iv.c (e.arrs)))])), ([8], (g9, g9, .box [.d (.v (.int .i64 (p.lo))), .d (.v (.int .i64 (p.hi)))])), ([9], (g10, g10, .box [.d (.v (.int .i64 (a.lo))), .d (.v (.int .i64 (a.hi)))])), ([12], (g19, g20, .box [.d (.v (.bool ((Env.putIn d e v p a).live))), .d (.sl false 39 2 (List.map Iv.c ((Env.putIn d e v p a).ints))), .d (.sl false 39 2 (List.map Iv.c ((Env.putIn d e v p a).arrs)))])), ([16], (g30, g31, .box [.d (.v (.bool ((Env.putIn d e v p a).live))), .ref [58, 1] (g32), .ref [58, 2] (g32)])), ([58, 1], (g32, g32, .row 39 2 (List.map Iv.c ((Env.putIn d e v p a).ints)))), ([58, 2], (g32, g32, .row 39 2 (List.map Iv.c ((Env.putIn d e v p a).arrs))))]) [⟨[18], some 86, [], []⟩, ⟨[86], some 87, [], []⟩, ⟨[87], some 88, [], []⟩, ⟨[88, 16], some 89, [[16]], []⟩, ⟨[88, 12], some 90, [[12]], []⟩, ⟨[88, 89, 90], some 91, [[58, 1], [58, 2]], []⟩, ⟨[88, 91], some 92, [], []⟩, ⟨[88, 92], some 93, [], []⟩, ⟨[93], some 94, [], []⟩, ⟨[94, 17], some 95, [], []⟩, ⟨[94, 13], some 96, [], []⟩, ⟨[94, 95, 96], some 97, [], []⟩, ⟨[94, 97], some 98, [], []⟩] (fun k49 => ?_) ?_
            · skip
              refine .move (.no rfl) rfl rfl rfl rfl ?_
              refine .bin (.no rfl) rfl rfl rfl rfl rfl rfl ?_
              refine .moveB (.no rfl) rfl rfl rfl rfl fun b50 g21_2 => ?_
              cases b50
              · skip
                refine .load (.on rfl rfl rfl rfl rfl) rfl t30 rfl rfl (.ptr _ _ _ _ _ rfl) rfl rfl rfl rfl ?_
                refine .load (.on rfl rfl rfl rfl rfl) rfl t30 rfl rfl (.ptr _ _ _ _ _ rfl) rfl rfl rfl rfl ?_
                refine .call (.on rfl rfl rfl rfl rfl) rfl [[58, 1], [58, 2]] [([58, 1], (g32, g32, .row 39 2 (List.map Iv.c ((Env.putIn d e v p a).ints)))), ([58, 2], (g32, g32, .row 39 2 (List.map Iv.c ((Env.putIn d e v p a).arrs))))] (c_eqEnv (Env.putIn d e v p a) (Env.putIn d e v p a)) rfl rfl rfl rfl rfl (.cons (Reads.d _).gives (.cons (Reads.ref (Frz.of_erase (erase_slo _ _ _ _ _ _ Iv.c_e)) (.head _) (.head _)).gives (.cons (Reads.ref (Frz.of_erase (erase_slo _ _ _ _ _ _ Iv.c_e)) (.tail _ (.head _)) (.tail _ (.head _))).gives (.cons (Reads.d _).gives (.cons (Reads.d _).gives (.cons (Reads.d _).gives .nil)))))) rfl rfl (fun _ => (ownCons (Owned.v _) ownNil)) (.own [91, 0] .nil) (.nil) rfl rfl rfl (AllH.get (.cons rfl (.cons rfl .nil))) rfl rfl rfl ?_
                refine .un (.on rfl rfl rfl rfl rfl) rfl rfl rfl rfl rfl ?_
                refine .pick (.no rfl) rfl rfl rfl rfl rfl ?_
                refine .moveB (.no rfl) rfl rfl rfl rfl fun b51 g21_8 => ?_
                cases b51
                · skip
                  refine .move (.on rfl rfl rfl rfl rfl) rfl rfl rfl rfl ?_
                  refine .move (.on rfl rfl rfl rfl rfl) rfl rfl rfl rfl ?_
                  refine .bin (.on rfl rfl rfl rfl rfl) rfl rfl rfl rfl rfl rfl ?_
                  refine .pick (.no rfl) rfl rfl rfl rfl rfl ?_
                  exact .fin () (.of (.cons rfl (.cons rfl (.cons rfl (.cons rfl (.cons rfl (.cons rfl (.cons rfl (.cons rfl (.cons (svB (show ((Env.putInAl d e v p a) != (Env.putInAl d e v p a)) = (((decide ((Env.marks (Decl.marks 1 d) e) < 0) || !(Env.same (Env.putIn d e v p a) (Env.putIn d e v p a))) || (Env.putInAl d e v p a) != (Env.putInAl d e v p a))) by first | (simp only [g21_2, g21_8, Bool.true_or, Bool.false_or, Bool.true_and, Bool.false_and, Bool.not_true, Bool.not_false]; done) | simp [g21_2, g21_8])) .nil))))))))) (.cons rfl (.cons rfl (.cons rfl (.cons rfl (.cons rfl (.cons rfl (.cons rfl (.cons rfl .nil)))))))))
                · skip
                  refine .off rfl rfl rfl rfl rfl rfl rfl ?_
                  refine .off rfl rfl rfl rfl rfl rfl rfl ?_
                  refine .off rfl rfl rfl rfl rfl rfl rfl ?_
                  refine .pick (.no rfl) rfl rfl rfl rfl rfl ?_
                  exact .fin () (.of (.cons rfl (.cons rfl (.cons rfl (.cons rfl (.cons rfl (.cons rfl (.cons rfl (.cons rfl (.cons (svB (show (true) = (((decide ((Env.marks (Decl.marks 1 d) e) < 0) || !(Env.same (Env.putIn d e v p a) (Env.putIn d e v p a))) || (Env.putInAl d e v p a) != (Env.putInAl d e v p a))) by first | (simp only [g21_2, g21_8, Bool.true_or, Bool.false_or, Bool.true_and, Bool.false_and, Bool.not_true, Bool.not_false]; done) | simp [g21_2, g21_8])) .nil))))))))) (.cons rfl (.cons rfl (.cons rfl (.cons rfl (.cons rfl (.cons rfl (.cons rfl (.cons rfl .nil)))))))))
              · skip
                refine .off rfl rfl rfl rfl rfl rfl rfl ?_
                refine .off rfl rfl rfl rfl rfl rfl rfl ?_
                refine .off rfl rfl rfl rfl rfl rfl rfl ?_
                refine .off rfl rfl rfl rfl rfl rfl rfl ?_
                refine .pick (.no rfl) rfl rfl rfl rfl rfl ?_
                refine .move (.no rfl) rfl rfl rfl rfl ?_
                refine .off rfl rfl rfl rfl rfl rfl rfl ?_
                refine .off rfl rfl rfl rfl rfl rfl rfl ?_
                refine .off rfl rfl rfl rfl rfl rfl rfl ?_
                refine .pick (.no rfl) rfl rfl rfl rfl rfl ?_
                exact .fin () (.of (.cons rfl (.cons rfl (.cons rfl (.cons rfl (.cons rfl (.cons rfl (.cons rfl (.cons rfl (.cons (svB (show (true) = (((decide ((Env.marks (Decl.marks 1 d) e) < 0) || !(Env.same (Env.putIn d e v p a) (Env.putIn d e v p a))) || (Env.putInAl d e v p a) != (Env.putInAl d e v p a))) by first | (simp only [g21_2, Bool.true_or, Bool.false_or, Bool.true_and, Bool.false_and, Bool.not_true, Bool.not_false]; done) | simp [g21_2])) .nil))))))))) (.cons rfl (.cons rfl (.cons rfl (.cons rfl (.cons rfl (.cons rfl (.cons rfl (.cons rfl .nil)))))))))
            intro _
            refine .cond (t := ((decide ((Env.marks (Decl.marks 1 d) e) < 0) || !(Env.same (Env.putIn d e v p a) (Env.putIn d e v p a))) || (Env.putInAl d e v p a) != (Env.putInAl d e v p a))) rfl (fun c5 => ?_) (fun c5 => ?_)
            · have c5 := c5
              try simp only [Bool.or_eq_true, Bool.or_eq_false_iff, Bool.and_eq_true, Bool.and_eq_false_iff, decide_eq_true_eq, decide_eq_false_iff_not, Bool.not_eq_true', Bool.not_eq_false', bne_iff_ne, beq_iff_eq, bne_eq_false_iff_eq, beq_eq_false_iff_ne, ne_eq, Bool.not_eq_eq_eq_not, Bool.not_true, Bool.not_false] at c5
              refine .seq ?_
              refine .reg (X := Unit) (fun ζ => .of [(10, .one (.d (.v (.bool (false)))))] []) [⟨[], some 10, [], []⟩] (fun k52 => ?_) ?_
              · skip
                refine .assign (.no rfl) rfl rfl rfl rfl ?_
                exact .fin () (.of (.cons rfl .nil) .nil)
              intro _
              refine .ret ?_
              have e53 : (false) = (true) := by first | exact absurd c5 (by rw [Env.same_self]; decide) | exact absurd c5 (by rw [Decl.same_self]; decide) | exact absurd c5 (by rw [all2_self Env.same_self]; decide) | (rcases c5 with h9 | h9 <;> first | exact (h9 trivial).elim | exact absurd rfl h9 | exact absurd h9 (by rw [Env.same_self]; decide) | (simp only [Decl.marks, Env.marks] at h9; omega)) | (rcases c5 with (h9 | h9) | h9 <;> first | exact (h9 trivial).elim | exact absurd rfl h9 | exact absurd h9 (by rw [Env.same_self]; decide) | (simp only [Decl.marks, Env.marks] at h9; omega)) | (simp only [Env.marks] at c5; omega) | (simp [Env.marks, Env.mark, mkAll_len] at c5) | (simp at c5)
              have hc54 := eq1 (fun z1 => SV.one (.d (.v (.bool (z1))))) e53
              show _ ∧ _
              exact ⟨.inr rfl, .done ⟨_, [], [], _, .one (c := .d (.v (.bool (true)))) (hc54) .nil, .cons (Reads.d _).gives .nil, nodupB_ok rfl, by simp, (by simp)⟩⟩
            · have c5 := c5
              try simp only [Bool.or_eq_true, Bool.or_eq_false_iff, Bool.and_eq_true, Bool.and_eq_false_iff, decide_eq_true_eq, decide_eq_false_iff_not, Bool.not_eq_true', Bool.not_eq_false', bne_iff_ne, beq_iff_eq, bne_eq_false_iff_eq, beq_eq_false_iff_ne, ne_eq, Bool.not_eq_eq_eq_not, Bool.not_true, Bool.not_false] at c5
              refine .skip ?_
              refine .seq ?_
              refine .reg (X := Unit) (fun ζ => .of [(2, .one (.d (.v (.int .i64 (v))))), (5, .one (.ptr [5] (g7) 0)), (6, .one (.ptr [6] (g8) 0)), (8, .one (.ptr [8] (g9) 0)), (9, .one (.ptr [9] (g10) 0)), (12, .one (.ptr [12] (g19) 0)), (13, .one (.d (.v (.int .i64 (Env.putInAl d e v p a))))), (16, .one (.ptr [16] (g30) 0)), (19, .one (.d (.v (.int .i64 (1)))))] [([5], (g7, g7, .box [.d (.sl false 9 1 (List.map strc (d.vars))), .d (.sl false 9 1 (List.map strc (d.flags))), .d (.sl false 152 2 (List.map Arr.c (d.arrays)))])), ([6], (g8, g8, .box [.d (.v (.bool (e.live))), .d (.sl false 60 2 (List.map Iv.c (e.ints))), .d (.sl false 60 2 (List.map Iv.c (e.arrs)))])), ([8], (g9, g9, .box [.d (.v (.int .i64 (p.lo))), .d (.v (.int .i64 (p.hi)))])), ([9], (g10, g10, .box [.d (.v (.int .i64 (a.lo))), .d (.v (.int .i64 (a.hi)))])), ([12], (g19, g20, .box [.d (.v (.bool ((Env.putIn d e v p a).live))), .d (.sl false 39 2 (List.map Iv.c ((Env.putIn d e v p a).ints))), .d (.sl false 39 2 (List.map Iv.c ((Env.putIn d e v p a).arrs)))])), ([16], (g30, g31, .box [.d (.v (.bool ((Env.putIn d e v p a).live))), .ref [58, 1] (g32), .ref [58, 2] (g32)])), ([58, 1], (g32, g32, .row 39 2 (List.map Iv.c ((Env.putIn d e v p a).ints)))), ([58, 2], (g32, g32, .row 39 2 (List.map Iv.c ((Env.putIn d e v p a).arrs))))]) [⟨[], some 19, [], []⟩] (fun k55 => ?_) ?_
              · skip
                refine .assign (.no rfl) rfl rfl rfl rfl ?_
                exact .fin () (.of (.cons rfl (.cons rfl (.cons rfl (.cons rfl (.cons rfl (.cons rfl (.cons rfl (.cons rfl (.cons rfl .nil))))))))) (.cons rfl (.cons rfl (.cons rfl (.cons rfl (.cons rfl (.cons rfl (.cons rfl (.cons rfl .nil)))))))))
              intro _
              refine .seq ?_
              refine .reg (X := Nat) (fun ζ => .of [(2, .one (.d (.v (.int .i64 (v))))), (5, .one (.ptr [5] (g7) 0)), (6, .one (.ptr [6] (g8) 0)), (8, .one (.ptr [8] (g9) 0)), (9, .one (.ptr [9] (g10) 0)), (12, .one (.ptr [12] (g19) 0)), (13, .one (.d (.v (.int .i64 (Env.putInAl d e v p a))))), (16, .one (.ptr [16] (g30) 0)), (19, .one (.d (.v (.int .i64 (Env.marks 1 (Env.putIn d e v p a))))))] [([5], (g7, g7, .box [.d (.sl false 9 1 (List.map strc (d.vars))), .d (.sl false 9 1 (List.map strc (d.flags))), .d (.sl false 152 2 (List.map Arr.c (d.arrays)))])), ([6], (g8, g8, .box [.d (.v (.bool (e.live))), .d (.sl false 60 2 (List.map Iv.c (e.ints))), .d (.sl false 60 2 (List.map Iv.c (e.arrs)))])), ([8], (g9, g9, .box [.d (.v (.int .i64 (p.lo))), .d (.v (.int .i64 (p.hi)))])), ([9], (g10, g10, .box [.d (.v (.int .i64 (a.lo))), .d (.v (.int .i64 (a.hi)))])), ([12], (g19, g20, .box [.d (.v (.bool ((Env.putIn d e v p a).live))), .d (.sl false 39 2 (List.map Iv.c ((Env.putIn d e v p a).ints))), .d (.sl false 39 2 (List.map Iv.c ((Env.putIn d e v p a).arrs)))])), ([16], (g30, g31, .box [.d (.v (.bool ((Env.putIn d e v p a).live))), .ref [58, 1] (g32), .ref [58, 2] (g32)])), ([58, 1], (g32, ζ, .row 39 2 (List.map Iv.c ((Env.mark 1 (Env.putIn d e v p a)).ints)))), ([58, 2], (g32, ζ, .row 39 2 (List.map Iv.c ((Env.mark 1 (Env.putIn d e v p a)).arrs))))]) [⟨[16], some 99, [[16]], []⟩, ⟨[19], some 100, [], []⟩, ⟨[99, 100], some 101, [[58, 1], [58, 2]], [[58, 1], [58, 2], [58, 1], [58, 2]]⟩, ⟨[101], some 19, [], []⟩] (fun k56 => ?_) ?_
              · skip
                refine .load (.no rfl) rfl t30 rfl rfl (.ptr _ _ _ _ _ rfl) rfl rfl rfl rfl ?_
                refine .move (.no rfl) rfl rfl rfl rfl ?_
                refine .call (.no rfl) rfl [] [([58, 1], (g32, g32, .row 39 2 (List.map Iv.c ((Env.putIn d e v p a).ints)))), ([58, 2], (g32, g32, .row 39 2 (List.map Iv.c ((Env.putIn d e v p a).arrs))))] (c_markEnv (Env.putIn d e v p a) 1 (by first | assumption | omega | (have q0 := szDecl_len hv hf ha (by omega) c0; omega) | (have q0 := szDecl_len hv hf ha (by omega) c0; have q1 := szEnv_len (by omega) c1; omega) | (have q0 := szDecl_len hv hf ha (by omega) c0; have q1 := szEnv_len (by omega) c1; exact q1.2.1) | (have q0 := szDecl_len hv hf ha (by omega) c0; have q1 := szEnv_len (by omega) c1; exact q1.1) | (have q0 := szDecl_len hv hf ha (by omega) c0; have q1 := szEnv_len (by omega) c1; first | omega | (have q9 := putIn_len (d := d) (e := e) (v := v) (p := p) (a := a) (n := 1048576) (by omega); first | omega | (simp only [Decl.marks, Env.marks, Env.mark, mkAll_len]; omega))) | (intro i hi; exact mkAll_get (mIv 1) _ (by simpa only [Env.mark, mkAll_len] using hi)) | (intro i hi; simp only [Env.mark, mkAll_len] at hi ⊢; exact mkAll_get _ _ hi)) (by first | assumption | omega | (have q0 := szDecl_len hv hf ha (by omega) c0; omega) | (have q0 := szDecl_len hv hf ha (by omega) c0; have q1 := szEnv_len (by omega) c1; omega) | (have q0 := szDecl_len hv hf ha (by omega) c0; have q1 := szEnv_len (by omega) c1; exact q1.2.1) | (have q0 := szDecl_len hv hf ha (by omega) c0; have q1 := szEnv_len (by omega) c1; exact q1.1) | (have q0 := szDecl_len hv hf ha (by omega) c0; have q1 := szEnv_len (by omega) c1; first | omega | (have q9 := putIn_len (d := d) (e := e) (v := v) (p := p) (a := a) (n := 1048576) (by omega); first | omega | (simp only [Decl.marks, Env.marks, Env.mark, mkAll_len]; omega))) | (intro i hi; exact mkAll_get (mIv 1) _ (by simpa only [Env.mark, mkAll_len] using hi)) | (intro i hi; simp only [Env.mark, mkAll_len] at hi ⊢; exact mkAll_get _ _ hi))) rfl rfl rfl rfl rfl (.cons (Reads.d _).gives (.cons (.ref (.head _)) (.cons (.ref (.tail _ (.head _))) (.cons (Reads.d _).gives .nil)))) rfl rfl (fun h => absurd rfl h) (.own [101, 0] .nil) (.ref rfl (.head _) (by simp) (.ref rfl (.tail _ (.head _)) (by simp) .nil)) rfl rfl rfl (AllH.get (.cons rfl (.cons rfl .nil))) rfl rfl rfl ?_
                refine .assign (.no rfl) rfl rfl rfl rfl ?_
                exact .fin (k56 + 1 + 1) (.of (.cons rfl (.cons rfl (.cons rfl (.cons rfl (.cons rfl (.cons rfl (.cons rfl (.cons rfl (.cons rfl .nil))))))))) (.cons rfl (.cons rfl (.cons rfl (.cons rfl (.cons rfl (.cons rfl (.cons rfl (.cons rfl .nil)))))))))
              intro g57
              refine .seq ?_
              refine .reg (X := Unit) (fun ζ => .of [(2, .one (.d (.v (.int .i64 (v))))), (5, .one (.ptr [5] (g7) 0)), (6, .one (.ptr [6] (g8) 0)), (8, .one (.ptr [8] (g9) 0)), (9, .one (.ptr [9] (g10) 0)), (12, .one (.ptr [12] (g19) 0)), (13, .one (.d (.v (.int .i64 (Env.putInAl d e v p a))))), (16, .one (.ptr [16] (g30) 0)), (19, .one (.d (.v (.int .i64 (Env.marks 1 (Env.putIn d e v p a)))))), (20, .one (.d (.v (.int .i64 (1)))))] [([5], (g7, g7, .box [.d (.sl false 9 1 (List.map strc (d.vars))), .d (.sl false 9 1 (List.map strc (d.flags))), .d (.sl false 152 2 (List.map Arr.c (d.arrays)))])), ([6], (g8, g8, .box [.d (.v (.bool (e.live))), .d (.sl false 60 2 (List.map Iv.c (e.ints))), .d (.sl false 60 2 (List.map Iv.c (e.arrs)))])), ([8], (g9, g9, .box [.d (.v (.int .i64 (p.lo))), .d (.v (.int .i64 (p.hi)))])), ([9], (g10, g10, .box [.d (.v (.int .i64 (a.lo))), .d (.v (.int .i64 (a.hi)))])), ([12], (g19, g20, .box [.d (.v (.bool ((Env.putIn d e v p a).live))), .d (.sl false 39 2 (List.map Iv.c ((Env.putIn d e v p a).ints))), .d (.sl false 39 2 (List.map Iv.c ((Env.putIn d e v p a).arrs)))])), ([16], (g30, g31, .box [.d (.v (.bool ((Env.putIn d e v p a).live))), .ref [58, 1] (g32), .ref [58, 2] (g32)])), ([58, 1], (g32, g57, .row 39 2 (List.map Iv.c ((Env.mark 1 (Env.putIn d e v p a)).ints)))), ([58, 2], (g32, g57, .row 39 2 (List.map Iv.c ((Env.mark 1 (Env.putIn d e v p a)).arrs))))]) [⟨[], some 20, [], []⟩] (fun k58 => ?_) ?_
              · skip
                refine .assign (.no rfl) rfl rfl rfl rfl ?_
                exact .fin () (.of (.cons rfl (.cons rfl (.cons rfl (.cons rfl (.cons rfl (.cons rfl (.cons rfl (.cons rfl (.cons rfl (.cons rfl .nil)))))))))) (.cons rfl (.cons rfl (.cons rfl (.cons rfl (.cons rfl (.cons rfl (.cons rfl (.cons rfl .nil)))))))))
              intro _
              refine .seq ?_
              refine .reg (X := Unit) (fun ζ => .of [(2, .one (.d (.v (.int .i64 (v))))), (5, .one (.ptr [5] (g7) 0)), (6, .one (.ptr [6] (g8) 0)), (8, .one (.ptr [8] (g9) 0)), (9, .one (.ptr [9] (g10) 0)), (12, .one (.ptr [12] (g19) 0)), (13, .one (.d (.v (.int .i64 (Env.putInAl d e v p a))))), (16, .one (.ptr [16] (g30) 0)), (19, .one (.d (.v (.int .i64 (Env.marks 1 (Env.putIn d e v p a)))))), (20, .one (.d (.v (.int .i64 (Env.marks 1 (Env.mk ((Env.putIn d e v p a).live) ((Env.mark 1 (Env.putIn d e v p a)).ints) ((Env.mark 1 (Env.putIn d e v p a)).arrs)))))))] [([5], (g7, g7, .box [.d (.sl false 9 1 (List.map strc (d.vars))), .d (.sl false 9 1 (List.map strc (d.flags))), .d (.sl false 152 2 (List.map Arr.c (d.arrays)))])), ([6], (g8, g8, .box [.d (.v (.bool (e.live))), .d (.sl false 60 2 (List.map Iv.c (e.ints))), .d (.sl false 60 2 (List.map Iv.c (e.arrs)))])), ([8], (g9, g9, .box [.d (.v (.int .i64 (p.lo))), .d (.v (.int .i64 (p.hi)))])), ([9], (g10, g10, .box [.d (.v (.int .i64 (a.lo))), .d (.v (.int .i64 (a.hi)))])), ([12], (g19, g20, .box [.d (.v (.bool ((Env.putIn d e v p a).live))), .d (.sl false 39 2 (List.map Iv.c ((Env.putIn d e v p a).ints))), .d (.sl false 39 2 (List.map Iv.c ((Env.putIn d e v p a).arrs)))])), ([16], (g30, g31, .box [.d (.v (.bool ((Env.putIn d e v p a).live))), .ref [58, 1] (g32), .ref [58, 2] (g32)])), ([58, 1], (g32, g57, .row 39 2 (List.map Iv.c ((Env.mark 1 (Env.putIn d e v p a)).ints)))), ([58, 2], (g32, g57, .row 39 2 (List.map Iv.c ((Env.mark 1 (Env.putIn d e v p a)).arrs))))]) [⟨[16], some 102, [[16]], []⟩, ⟨[20], some 103, [], []⟩, ⟨[102, 103], some 104, [[58, 1], [58, 2]], []⟩, ⟨[104], some 20, [], []⟩] (fun k59 => ?_) ?_
              · skip
                refine .load (.no rfl) rfl t30 rfl rfl (.ptr _ _ _ _ _ rfl) rfl rfl rfl rfl ?_
                refine .move (.no rfl) rfl rfl rfl rfl ?_
                refine .call (.no rfl) rfl [[58, 1], [58, 2]] [([58, 1], (g32, g57, .row 39 2 (List.map Iv.c ((Env.mark 1 (Env.putIn d e v p a)).ints)))), ([58, 2], (g32, g57, .row 39 2 (List.map Iv.c ((Env.mark 1 (Env.putIn d e v p a)).arrs))))] (c_heldEnv (Env.mk ((Env.putIn d e v p a).live) ((Env.mark 1 (Env.putIn d e v p a)).ints) ((Env.mark 1 (Env.putIn d e v p a)).arrs)) 1 (by first | assumption | omega | (have q0 := szDecl_len hv hf ha (by omega) c0; omega) | (have q0 := szDecl_len hv hf ha (by omega) c0; have q1 := szEnv_len (by omega) c1; omega) | (have q0 := szDecl_len hv hf ha (by omega) c0; have q1 := szEnv_len (by omega) c1; exact q1.2.1) | (have q0 := szDecl_len hv hf ha (by omega) c0; have q1 := szEnv_len (by omega) c1; exact q1.1) | (have q0 := szDecl_len hv hf ha (by omega) c0; have q1 := szEnv_len (by omega) c1; first | omega | (have q9 := putIn_len (d := d) (e := e) (v := v) (p := p) (a := a) (n := 1048576) (by omega); first | omega | (simp only [Decl.marks, Env.marks, Env.mark, mkAll_len]; omega))) | (intro i hi; exact mkAll_get (mIv 1) _ (by simpa only [Env.mark, mkAll_len] using hi)) | (intro i hi; simp only [Env.mark, mkAll_len] at hi ⊢; exact mkAll_get _ _ hi)) (by first | assumption | omega | (have q0 := szDecl_len hv hf ha (by omega) c0; omega) | (have q0 := szDecl_len hv hf ha (by omega) c0; have q1 := szEnv_len (by omega) c1; omega) | (have q0 := szDecl_len hv hf ha (by omega) c0; have q1 := szEnv_len (by omega) c1; exact q1.2.1) | (have q0 := szDecl_len hv hf ha (by omega) c0; have q1 := szEnv_len (by omega) c1; exact q1.1) | (have q0 := szDecl_len hv hf ha (by omega) c0; have q1 := szEnv_len (by omega) c1; first | omega | (have q9 := putIn_len (d := d) (e := e) (v := v) (p := p) (a := a) (n := 1048576) (by omega); first | omega | (simp only [Decl.marks, Env.marks, Env.mark, mkAll_len]; omega))) | (intro i hi; exact mkAll_get (mIv 1) _ (by simpa only [Env.mark, mkAll_len] using hi)) | (intro i hi; simp only [Env.mark, mkAll_len] at hi ⊢; exact mkAll_get _ _ hi)) (by first | assumption | omega | (have q0 := szDecl_len hv hf ha (by omega) c0; omega) | (have q0 := szDecl_len hv hf ha (by omega) c0; have q1 := szEnv_len (by omega) c1; omega) | (have q0 := szDecl_len hv hf ha (by omega) c0; have q1 := szEnv_len (by omega) c1; exact q1.2.1) | (have q0 := szDecl_len hv hf ha (by omega) c0; have q1 := szEnv_len (by omega) c1; exact q1.1) | (have q0 := szDecl_len hv hf ha (by omega) c0; have q1 := szEnv_len (by omega) c1; first | omega | (have q9 := putIn_len (d := d) (e := e) (v := v) (p := p) (a := a) (n := 1048576) (by omega); first | omega | (simp only [Decl.marks, Env.marks, Env.mark, mkAll_len]; omega))) | (intro i hi; exact mkAll_get (mIv 1) _ (by simpa only [Env.mark, mkAll_len] using hi)) | (intro i hi; simp only [Env.mark, mkAll_len] at hi ⊢; exact mkAll_get _ _ hi)) (by first | assumption | omega | (have q0 := szDecl_len hv hf ha (by omega) c0; omega) | (have q0 := szDecl_len hv hf ha (by omega) c0; have q1 := szEnv_len (by omega) c1; omega) | (have q0 := szDecl_len hv hf ha (by omega) c0; have q1 := szEnv_len (by omega) c1; exact q1.2.1) | (have q0 := szDecl_len hv hf ha (by omega) c0; have q1 := szEnv_len (by omega) c1; exact q1.1) | (have q0 := szDecl_len hv hf ha (by omega) c0; have q1 := szEnv_len (by omega) c1; first | omega | (have q9 := putIn_len (d := d) (e := e) (v := v) (p := p) (a := a) (n := 1048576) (by omega); first | omega | (simp only [Decl.marks, Env.marks, Env.mark, mkAll_len]; omega))) | (intro i hi; exact mkAll_get (mIv 1) _ (by simpa only [Env.mark, mkAll_len] using hi)) | (intro i hi; simp only [Env.mark, mkAll_len] at hi ⊢; exact mkAll_get _ _ hi))) rfl rfl rfl rfl rfl (.cons (Reads.d _).gives (.cons (Reads.ref (Frz.of_erase (erase_slo _ _ _ _ _ _ Iv.c_e)) (.head _) (.head _)).gives (.cons (Reads.ref (Frz.of_erase (erase_slo _ _ _ _ _ _ Iv.c_e)) (.tail _ (.head _)) (.tail _ (.head _))).gives (.cons (Reads.d _).gives .nil)))) rfl rfl (fun _ => (ownCons (Owned.v _) ownNil)) (.own [104, 0] .nil) (.nil) rfl rfl rfl (AllH.get (.cons rfl (.cons rfl .nil))) rfl rfl rfl ?_
                refine .assign (.no rfl) rfl rfl rfl rfl ?_
                exact .fin () (.of (.cons rfl (.cons rfl (.cons rfl (.cons rfl (.cons rfl (.cons rfl (.cons rfl (.cons rfl (.cons rfl (.cons rfl .nil)))))))))) (.cons rfl (.cons rfl (.cons rfl (.cons rfl (.cons rfl (.cons rfl (.cons rfl (.cons rfl .nil)))))))))
              intro _
              refine .seq ?_
              refine .seq ?_
              refine .reg (X := Unit) (fun ζ => .of [(2, .one (.d (.v (.int .i64 (v))))), (5, .one (.ptr [5] (g7) 0)), (6, .one (.ptr [6] (g8) 0)), (8, .one (.ptr [8] (g9) 0)), (9, .one (.ptr [9] (g10) 0)), (12, .one (.ptr [12] (g19) 0)), (13, .one (.d (.v (.int .i64 (Env.putInAl d e v p a))))), (16, .one (.ptr [16] (g30) 0)), (19, .one (.d (.v (.int .i64 (Env.marks 1 (Env.putIn d e v p a)))))), (20, .one (.d (.v (.int .i64 (Env.marks 1 (Env.mk ((Env.putIn d e v p a).live) ((Env.mark 1 (Env.putIn d e v p a)).ints) ((Env.mark 1 (Env.putIn d e v p a)).arrs))))))), (106, .one (.d (.v (.bool (decide ((Env.marks 1 (Env.mk ((Env.putIn d e v p a).live) ((Env.mark 1 (Env.putIn d e v p a)).ints) ((Env.mark 1 (Env.putIn d e v p a)).arrs))) < 0))))))] [([5], (g7, g7, .box [.d (.sl false 9 1 (List.map strc (d.vars))), .d (.sl false 9 1 (List.map strc (d.flags))), .d (.sl false 152 2 (List.map Arr.c (d.arrays)))])), ([6], (g8, g8, .box [.d (.v (.bool (e.live))), .d (.sl false 60 2 (List.map Iv.c (e.ints))), .d (.sl false 60 2 (List.map Iv.c (e.arrs)))])), ([8], (g9, g9, .box [.d (.v (.int .i64 (p.lo))), .d (.v (.int .i64 (p.hi)))])), ([9], (g10, g10, .box [.d (.v (.int .i64 (a.lo))), .d (.v (.int .i64 (a.hi)))])), ([12], (g19, g20, .box [.d (.v (.bool ((Env.putIn d e v p a).live))), .d (.sl false 39 2 (List.map Iv.c ((Env.putIn d e v p a).ints))), .d (.sl false 39 2 (List.map Iv.c ((Env.putIn d e v p a).arrs)))])), ([16], (g30, g31, .box [.d (.v (.bool ((Env.putIn d e v p a).live))), .ref [58, 1] (g32), .ref [58, 2] (g32)])), ([58, 1], (g32, g57, .row 39 2 (List.map Iv.c ((Env.mark 1 (Env.putIn d e v p a)).ints)))), ([58, 2], (g32, g57, .row 39 2 (List.map Iv.c ((Env.mark 1 (Env.putIn d e v p a)).arrs))))]) [⟨[20], some 105, [], []⟩, ⟨[105], some 106, [], []⟩] (fun k60 => ?_) ?_
              · skip
                refine .move (.no rfl) rfl rfl rfl rfl ?_
                refine .bin (.no rfl) rfl rfl rfl rfl rfl rfl ?_
                exact .fin () (.of (.cons rfl (.cons rfl (.cons rfl (.cons rfl (.cons rfl (.cons rfl (.cons rfl (.cons rfl (.cons rfl (.cons rfl (.cons rfl .nil))))))))))) (.cons rfl (.cons rfl (.cons rfl (.cons rfl (.cons rfl (.cons rfl (.cons rfl (.cons rfl .nil)))))))))
              intro _
              refine .cond (t := decide ((Env.marks 1 (Env.mk ((Env.putIn d e v p a).live) ((Env.mark 1 (Env.putIn d e v p a)).ints) ((Env.mark 1 (Env.putIn d e v p a)).arrs))) < 0)) rfl (fun c6 => ?_) (fun c6 => ?_)
              · have c6 := of_decide_eq_true c6
                refine .seq ?_
                refine .reg (X := Unit) (fun ζ => .of [(10, .one (.d (.v (.bool (false)))))] []) [⟨[], some 10, [], []⟩] (fun k61 => ?_) ?_
                · skip
                  refine .assign (.no rfl) rfl rfl rfl rfl ?_
                  exact .fin () (.of (.cons rfl .nil) .nil)
                intro _
                refine .ret ?_
                have e62 : (false) = (true) := by first | exact absurd c6 (by rw [Env.same_self]; decide) | exact absurd c6 (by rw [Decl.same_self]; decide) | exact absurd c6 (by rw [all2_self Env.same_self]; decide) | (rcases c6 with h9 | h9 <;> first | exact (h9 trivial).elim | exact absurd rfl h9 | exact absurd h9 (by rw [Env.same_self]; decide) | (simp only [Decl.marks, Env.marks] at h9; omega)) | (rcases c6 with (h9 | h9) | h9 <;> first | exact (h9 trivial).elim | exact absurd rfl h9 | exact absurd h9 (by rw [Env.same_self]; decide) | (simp only [Decl.marks, Env.marks] at h9; omega)) | (simp only [Env.marks] at c6; omega) | (simp [Env.marks, Env.mark, mkAll_len] at c6) | (simp at c6)
                have hc63 := eq1 (fun z1 => SV.one (.d (.v (.bool (z1))))) e62
                show _ ∧ _
                exact ⟨.inr rfl, .done ⟨_, [], [], _, .one (c := .d (.v (.bool (true)))) (hc63) .nil, .cons (Reads.d _).gives .nil, nodupB_ok rfl, by simp, (by simp)⟩⟩
              · have c6 := of_decide_eq_false c6
                refine .skip ?_
                refine .seq ?_
                refine .seq ?_
                refine .reg (X := Unit) (fun ζ => .of [(2, .one (.d (.v (.int .i64 (v))))), (5, .one (.ptr [5] (g7) 0)), (6, .one (.ptr [6] (g8) 0)), (8, .one (.ptr [8] (g9) 0)), (9, .one (.ptr [9] (g10) 0)), (12, .one (.ptr [12] (g19) 0)), (13, .one (.d (.v (.int .i64 (Env.putInAl d e v p a))))), (16, .one (.ptr [16] (g30) 0)), (19, .one (.d (.v (.int .i64 (Env.marks 1 (Env.putIn d e v p a)))))), (109, .one (.d (.v (.bool ((Env.marks 1 (Env.mk ((Env.putIn d e v p a).live) ((Env.mark 1 (Env.putIn d e v p a)).ints) ((Env.mark 1 (Env.putIn d e v p a)).arrs))) != (Env.marks 1 (Env.putIn d e v p a)))))))] [([5], (g7, g7, .box [.d (.sl false 9 1 (List.map strc (d.vars))), .d (.sl false 9 1 (List.map strc (d.flags))), .d (.sl false 152 2 (List.map Arr.c (d.arrays)))])), ([6], (g8, g8, .box [.d (.v (.bool (e.live))), .d (.sl false 60 2 (List.map Iv.c (e.ints))), .d (.sl false 60 2 (List.map Iv.c (e.arrs)))])), ([8], (g9, g9, .box [.d (.v (.int .i64 (p.lo))), .d (.v (.int .i64 (p.hi)))])), ([9], (g10, g10, .box [.d (.v (.int .i64 (a.lo))), .d (.v (.int .i64 (a.hi)))])), ([12], (g19, g20, .box [.d (.v (.bool ((Env.putIn d e v p a).live))), .d (.sl false 39 2 (List.map Iv.c ((Env.putIn d e v p a).ints))), .d (.sl false 39 2 (List.map Iv.c ((Env.putIn d e v p a).arrs)))])), ([16], (g30, g31, .box [.d (.v (.bool ((Env.putIn d e v p a).live))), .ref [58, 1] (g32), .ref [58, 2] (g32)])), ([58, 1], (g32, g57, .row 39 2 (List.map Iv.c ((Env.mark 1 (Env.putIn d e v p a)).ints)))), ([58, 2], (g32, g57, .row 39 2 (List.map Iv.c ((Env.mark 1 (Env.putIn d e v p a)).arrs))))]) [⟨[20], some 107, [], []⟩, ⟨[19], some 108, [], []⟩, ⟨[107, 108], some 109, [], []⟩] (fun k64 => ?_) ?_
                · skip
                  refine .move (.no rfl) rfl rfl rfl rfl ?_
                  refine .move (.no rfl) rfl rfl rfl rfl ?_
                  refine .bin (.no rfl) rfl rfl rfl rfl rfl rfl ?_
                  exact .fin () (.of (.cons rfl (.cons rfl (.cons rfl (.cons rfl (.cons rfl (.cons rfl (.cons rfl (.cons rfl (.cons rfl (.cons rfl .nil)))))))))) (.cons rfl (.cons rfl (.cons rfl (.cons rfl (.cons rfl (.cons rfl (.cons rfl (.cons rfl .nil)))))))))
                intro _
                refine .cond (t := (Env.marks 1 (Env.mk ((Env.putIn d e v p a).live) ((Env.mark 1 (Env.putIn d e v p a)).ints) ((Env.mark 1 (Env.putIn d e v p a)).arrs))) != (Env.marks 1 (Env.putIn d e v p a))) rfl (fun c7 => ?_) (fun c7 => ?_)
                · have c7 := (by simpa using c7 : ¬ ((Env.marks 1 (Env.mk ((Env.putIn d e v p a).live) ((Env.mark 1 (Env.putIn d e v p a)).ints) ((Env.mark 1 (Env.putIn d e v p a)).arrs))) = (Env.marks 1 (Env.putIn d e v p a))))
                  refine .seq ?_
                  refine .reg (X := Unit) (fun ζ => .of [(10, .one (.d (.v (.bool (false)))))] []) [⟨[], some 10, [], []⟩] (fun k65 => ?_) ?_
                  · skip
                    refine .assign (.no rfl) rfl rfl rfl rfl ?_
                    exact .fin () (.of (.cons rfl .nil) .nil)
                  intro _
                  refine .ret ?_
                  have e66 : (false) = (true) := by first | exact absurd c7 (by rw [Env.same_self]; decide) | exact absurd c7 (by rw [Decl.same_self]; decide) | exact absurd c7 (by rw [all2_self Env.same_self]; decide) | (rcases c7 with h9 | h9 <;> first | exact (h9 trivial).elim | exact absurd rfl h9 | exact absurd h9 (by rw [Env.same_self]; decide) | (simp only [Decl.marks, Env.marks] at h9; omega)) | (rcases c7 with (h9 | h9) | h9 <;> first | exact (h9 trivial).elim | exact absurd rfl h9 | exact absurd h9 (by rw [Env.same_self]; decide) | (simp only [Decl.marks, Env.marks] at h9; omega)) | (simp only [Env.marks] at c7; omega) | (simp [Env.marks, Env.mark, mkAll_len] at c7) | (simp at c7)
                  have hc67 := eq1 (fun z1 => SV.one (.d (.v (.bool (z1))))) e66
                  show _ ∧ _
                  exact ⟨.inr rfl, .done ⟨_, [], [], _, .one (c := .d (.v (.bool (true)))) (hc67) .nil, .cons (Reads.d _).gives .nil, nodupB_ok rfl, by simp, (by simp)⟩⟩
                · have c7 := (by simpa using c7 : (Env.marks 1 (Env.mk ((Env.putIn d e v p a).live) ((Env.mark 1 (Env.putIn d e v p a)).ints) ((Env.mark 1 (Env.putIn d e v p a)).arrs))) = (Env.marks 1 (Env.putIn d e v p a)))
                  refine .skip ?_
                  refine .seq ?_
                  refine .regD (X := Nat × Nat × Nat) (by kernel_rfl) (fun ζ => .of [(12, .one (.ptr [12] (g19) 0)), (13, .one (.d (.v (.int .i64 (Env.putInAl d e v p a))))), (16, .one (.ptr [16] (g30) 0)), (19, .one (.d (.v (.int .i64 (Env.marks 1 (Env.putIn d e v p a)))))), (21, .one (.ptr [21] (ζ.1) 0)), (22, .one (.d (.v (.int .i64 (Env.putInAl d e v p a)))))] [([12], (g19, g20, .box [.d (.v (.bool ((Env.putIn d e v p a).live))), .d (.sl false 39 2 (List.map Iv.c ((Env.putIn d e v p a).ints))), .d (.sl false 39 2 (List.map Iv.c ((Env.putIn d e v p a).arrs)))])), ([16], (g30, g31, .box [.d (.v (.bool ((Env.putIn d e v p a).live))), .ref [58, 1] (g32), .ref [58, 2] (g32)])), ([21], (ζ.1, ζ.2.1, .box [.d (.v (.bool ((Env.putIn d e v p a).live))), .ref [120, 1] (ζ.2.2), .ref [120, 2] (ζ.2.2)])), ([58, 1], (g32, g57, .row 39 2 (List.map Iv.c ((Env.mark 1 (Env.putIn d e v p a)).ints)))), ([58, 2], (g32, g57, .row 39 2 (List.map Iv.c ((Env.mark 1 (Env.putIn d e v p a)).arrs)))), ([120, 1], (ζ.2.2, ζ.2.2, .row 39 2 (List.map Iv.c ((Env.putIn d e v p a).ints)))), ([120, 2], (ζ.2.2, ζ.2.2, .row 39 2 (List.map Iv.c ((Env.putIn d e v p a).arrs))))]) [⟨[5], some 111, [[5]], []⟩, ⟨[111], some 112, [], [[112, 0], [112, 1], [112, 2]]⟩, ⟨[6], some 113, [[6]], []⟩, ⟨[113], some 114, [], [[114, 1], [114, 2]]⟩, ⟨[2], some 115, [], []⟩, ⟨[8], some 116, [[8]], []⟩, ⟨[116], some 117, [], []⟩, ⟨[9], some 118, [[9]], []⟩, ⟨[118], some 119, [], []⟩, ⟨[112, 114, 115, 117, 119], some 120, [[112, 0], [112, 1], [112, 2], [114, 1], [114, 2]], [[120, 1], [120, 2]]⟩, ⟨[120], some 110, [], []⟩, ⟨[110], some 121, [], []⟩, ⟨[110], some 122, [], []⟩, ⟨[], some 21, [], [[21]]⟩, ⟨[21, 121], none, [[21]], [[21]]⟩, ⟨[122], some 22, [], []⟩] (by kernel_rfl) (fun k68 => ?_) ?_
                  · skip
                    refine .load (.no rfl) rfl t56 rfl rfl (.ptr _ _ _ _ _ rfl) rfl rfl rfl rfl ?_
                    refine .call (.no rfl) rfl [] [] (c_toDecl d (by first | assumption | omega | (have q0 := szDecl_len hv hf ha (by omega) c0; omega) | (have q0 := szDecl_len hv hf ha (by omega) c0; have q1 := szEnv_len (by omega) c1; omega) | (have q0 := szDecl_len hv hf ha (by omega) c0; have q1 := szEnv_len (by omega) c1; exact q1.2.1) | (have q0 := szDecl_len hv hf ha (by omega) c0; have q1 := szEnv_len (by omega) c1; exact q1.1) | (have q0 := szDecl_len hv hf ha (by omega) c0; have q1 := szEnv_len (by omega) c1; first | omega | (have q9 := putIn_len (d := d) (e := e) (v := v) (p := p) (a := a) (n := 1048576) (by omega); first | omega | (simp only [Decl.marks, Env.marks, Env.mark, mkAll_len]; omega))) | (intro i hi; exact mkAll_get (mIv 1) _ (by simpa only [Env.mark, mkAll_len] using hi)) | (intro i hi; simp only [Env.mark, mkAll_len] at hi ⊢; exact mkAll_get _ _ hi))) rfl rfl rfl rfl rfl (.cons (Reads.d _).gives (.cons (Reads.d _).gives (.cons (Reads.d _).gives .nil))) rfl rfl (fun h => absurd rfl h) (.own [112, 0] (.own [112, 1] (.own [112, 2] .nil))) (.nil) rfl rfl rfl (by simp) rfl rfl rfl ?_
                    refine .load (.no rfl) rfl t59 rfl rfl (.ptr _ _ _ _ _ rfl) rfl rfl rfl rfl ?_
                    refine .call (.no rfl) rfl [] [] (c_toEnv e (by first | assumption | omega | (have q0 := szDecl_len hv hf ha (by omega) c0; omega) | (have q0 := szDecl_len hv hf ha (by omega) c0; have q1 := szEnv_len (by omega) c1; omega) | (have q0 := szDecl_len hv hf ha (by omega) c0; have q1 := szEnv_len (by omega) c1; exact q1.2.1) | (have q0 := szDecl_len hv hf ha (by omega) c0; have q1 := szEnv_len (by omega) c1; exact q1.1) | (have q0 := szDecl_len hv hf ha (by omega) c0; have q1 := szEnv_len (by omega) c1; first | omega | (have q9 := putIn_len (d := d) (e := e) (v := v) (p := p) (a := a) (n := 1048576) (by omega); first | omega | (simp only [Decl.marks, Env.marks, Env.mark, mkAll_len]; omega))) | (intro i hi; exact mkAll_get (mIv 1) _ (by simpa only [Env.mark, mkAll_len] using hi)) | (intro i hi; simp only [Env.mark, mkAll_len] at hi ⊢; exact mkAll_get _ _ hi))) rfl rfl rfl rfl rfl (.cons (Reads.d _).gives (.cons (Reads.d _).gives (.cons (Reads.d _).gives .nil))) rfl rfl (fun h => absurd rfl h) (.own [114, 0] (.own [114, 1] (.own [114, 2] .nil))) (.nil) rfl rfl rfl (by simp) rfl rfl rfl ?_
                    refine .move (.no rfl) rfl rfl rfl rfl ?_
                    refine .load (.no rfl) rfl t60 rfl rfl (.ptr _ _ _ _ _ rfl) rfl rfl rfl rfl ?_
                    refine .call (.no rfl) rfl [] [] (c_toInterval p) rfl rfl rfl rfl rfl (.cons (Reads.d _).gives (.cons (Reads.d _).gives .nil)) rfl rfl (fun h => absurd rfl h) (.own [117, 0] (.own [117, 1] .nil)) (.nil) rfl rfl rfl (by simp) rfl rfl rfl ?_
                    refine .load (.no rfl) rfl t60 rfl rfl (.ptr _ _ _ _ _ rfl) rfl rfl rfl rfl ?_
                    refine .call (.no rfl) rfl [] [] (c_toInterval a) rfl rfl rfl rfl rfl (.cons (Reads.d _).gives (.cons (Reads.d _).gives .nil)) rfl rfl (fun h => absurd rfl h) (.own [119, 0] (.own [119, 1] .nil)) (.nil) rfl rfl rfl (by simp) rfl rfl rfl ?_
                    refine .call (.no rfl) rfl [[112, 0], [112, 1], [112, 2], [114, 1], [114, 2]] [([112, 0], (k68 + 1, k68 + 1, .row 9 1 (List.map strc (d.vars)))), ([112, 1], (k68 + 1, k68 + 1, .row 9 1 (List.map strc (d.flags)))), ([112, 2], (k68 + 1, k68 + 1, .row 52 2 (List.map Arr.c (d.arrays)))), ([114, 1], (k68 + 1 + 1 + 1, k68 + 1 + 1 + 1, .row 39 2 (List.map Iv.c (e.ints)))), ([114, 2], (k68 + 1 + 1 + 1, k68 + 1 + 1 + 1, .row 39 2 (List.map Iv.c (e.arrs))))] (c_EnvPut d e v p a (by first | assumption | omega | (have q0 := szDecl_len hv hf ha (by omega) c0; omega) | (have q0 := szDecl_len hv hf ha (by omega) c0; have q1 := szEnv_len (by omega) c1; omega) | (have q0 := szDecl_len hv hf ha (by omega) c0; have q1 := szEnv_len (by omega) c1; exact q1.2.1) | (have q0 := szDecl_len hv hf ha (by omega) c0; have q1 := szEnv_len (by omega) c1; exact q1.1) | (have q0 := szDecl_len hv hf ha (by omega) c0; have q1 := szEnv_len (by omega) c1; first | omega | (have q9 := putIn_len (d := d) (e := e) (v := v) (p := p) (a := a) (n := 1048576) (by omega); first | omega | (simp only [Decl.marks, Env.marks, Env.mark, mkAll_len]; omega))) | (intro i hi; exact mkAll_get (mIv 1) _ (by simpa only [Env.mark, mkAll_len] using hi)) | (intro i hi; simp only [Env.mark, mkAll_len] at hi ⊢; exact mkAll_get _ _ hi)) (by first | assumption | omega | (have q0 := szDecl_len hv hf ha (by omega) c0; omega) | (have q0 := szDecl_len hv hf ha (by omega) c0; have q1 := szEnv_len (by omega) c1; omega) | (have q0 := szDecl_len hv hf ha (by omega) c0; have q1 := szEnv_len (by omega) c1; exact q1.2.1) | (have q0 := szDecl_len hv hf ha (by omega) c0; have q1 := szEnv_len (by omega) c1; exact q1.1) | (have q0 := szDecl_len hv hf ha (by omega) c0; have q1 := szEnv_len (by omega) c1; first | omega | (have q9 := putIn_len (d := d) (e := e) (v := v) (p := p) (a := a) (n := 1048576) (by omega); first | omega | (simp only [Decl.marks, Env.marks, Env.mark, mkAll_len]; omega))) | (intro i hi; exact mkAll_get (mIv 1) _ (by simpa only [Env.mark, mkAll_len] using hi)) | (intro i hi; simp only [Env.mark, mkAll_len] at hi ⊢; exact mkAll_get _ _ hi)) (by first | assumption | omega | (have q0 := szDecl_len hv hf ha (by omega) c0; omega) | (have q0 := szDecl_len hv hf ha (by omega) c0; have q1 := szEnv_len (by omega) c1; omega) | (have q0 := szDecl_len hv hf ha (by omega) c0; have q1 := szEnv_len (by omega) c1; exact q1.2.1) | (have q0 := szDecl_len hv hf ha (by omega) c0; have q1 := szEnv_len (by omega) c1; exact q1.1) | (have q0 := szDecl_len hv hf ha (by omega) c0; have q1 := szEnv_len (by omega) c1; first | omega | (have q9 := putIn_len (d := d) (e := e) (v := v) (p := p) (a := a) (n := 1048576) (by omega); first | omega | (simp only [Decl.marks, Env.marks, Env.mark, mkAll_len]; omega))) | (intro i hi; exact mkAll_get (mIv 1) _ (by simpa only [Env.mark, mkAll_len] using hi)) | (intro i hi; simp only [Env.mark, mkAll_len] at hi ⊢; exact mkAll_get _ _ hi))) rfl rfl rfl rfl rfl (.cons (Reads.ref (Frz.of_erase (erase_slo _ _ _ _ _ _ strc_e)) (.head _) (.head _)).gives (.cons (Reads.ref (Frz.of_erase (erase_slo _ _ _ _ _ _ strc_e)) (.tail _ (.head _)) (.tail _ (.head _))).gives (.cons (Reads.ref (Frz.of_erase (erase_slo _ _ _ _ _ _ Arr.c_e)) (.tail _ (.tail _ (.head _))) (.tail _ (.tail _ (.head _)))).gives (.cons (Reads.d _).gives (.cons (Reads.ref (Frz.of_erase (erase_slo _ _ _ _ _ _ Iv.c_e)) (.tail _ (.tail _ (.tail _ (.head _)))) (.tail _ (.tail _ (.tail _ (.head _))))).gives (.cons (Reads.ref (Frz.of_erase (erase_slo _ _ _ _ _ _ Iv.c_e)) (.tail _ (.tail _ (.tail _ (.tail _ (.head _))))) (.tail _ (.tail _ (.tail _ (.tail _ (.head _)))))).gives (.cons (Reads.d _).gives (.cons (Reads.d _).gives (.cons (Reads.d _).gives (.cons (Reads.d _).gives (.cons (Reads.d _).gives .nil))))))))))) rfl rfl (fun _ => (ownCons (Owned.v _) (ownCons (Owned.map _ _ _ _ Iv.c_o) (ownCons (Owned.map _ _ _ _ Iv.c_o) (ownCons (Owned.v _) ownNil))))) (.own [120, 0] (.own [120, 1] (.own [120, 2] (.own [120, 3] .nil)))) (.nil) rfl rfl rfl (AllH.get (.cons rfl (.cons rfl (.cons rfl (.cons rfl (.cons rfl .nil)))))) rfl rfl rfl ?_
                    refine .move (.no rfl) rfl rfl rfl rfl ?_
                    refine .extract (.no rfl) rfl rfl rfl rfl rfl ?_
                    refine .extract (.no rfl) rfl rfl rfl rfl rfl ?_
                    refine .alloc (.no rfl) rfl z30 rfl rfl rfl ?_
                    refine .store (.no rfl) rfl t30 rfl rfl rfl rfl rfl rfl rfl rfl rfl ?_
                    refine .assign (.no rfl) rfl rfl rfl rfl ?_
                    exact .fin (k68 + 1 + 1 + 1 + 1 + 1 + 1 + 1 + 1 + 1 + 1 + 1 + 1 + 1, k68 + 1 + 1 + 1 + 1 + 1 + 1 + 1 + 1 + 1 + 1 + 1 + 1 + 1 + 1, k68 + 1 + 1 + 1 + 1 + 1 + 1 + 1 + 1 + 1) (.of (.cons rfl (.cons rfl (.cons rfl (.cons rfl (.cons rfl (.cons rfl .nil)))))) (.cons rfl (.cons rfl (.cons rfl (.cons rfl (.cons rfl (.cons rfl (.cons rfl .nil))))))))
                  rintro ⟨g69, g70, g71⟩
                  refine .seq ?_
                  refine .seq ?_
                  refine .reg (X := Unit) (fun ζ => .of [(16, .one (.ptr [16] (g30) 0)), (19, .one (.d (.v (.int .i64 (Env.marks 1 (Env.putIn d e v p a)))))), (131, .one (.d (.v (.bool ((!(Env.same (Env.putIn d e v p a) (Env.putIn d e v p a)) || (Env.putInAl d e v p a) != (Env.putInAl d e v p a)))))))] [([16], (g30, g31, .box [.d (.v (.bool ((Env.putIn d e v p a).live))), .ref [58, 1] (g32), .ref [58, 2] (g32)])), ([58, 1], (g32, g57, .row 39 2 (List.map Iv.c ((Env.mark 1 (Env.putIn d e v p a)).ints)))), ([58, 2], (g32, g57, .row 39 2 (List.map Iv.c ((Env.mark 1 (Env.putIn d e v p a)).arrs))))]) [⟨[21], some 123, [[21]], []⟩, ⟨[12], some 124, [[12]], []⟩, ⟨[123, 124], some 125, [[120, 1], [120, 2]], []⟩, ⟨[125], some 126, [], []⟩, ⟨[126], some 127, [], []⟩, ⟨[127, 22], some 128, [], []⟩, ⟨[127, 13], some 129, [], []⟩, ⟨[127, 128, 129], some 130, [], []⟩, ⟨[127, 130], some 131, [], []⟩] (fun k72 => ?_) ?_
                  · skip
                    refine .load (.no rfl) rfl t30 rfl rfl (.ptr _ _ _ _ _ rfl) rfl rfl rfl rfl ?_
                    refine .load (.no rfl) rfl t30 rfl rfl (.ptr _ _ _ _ _ rfl) rfl rfl rfl rfl ?_
                    refine .call (.no rfl) rfl [[120, 1], [120, 2]] [([120, 1], (g71, g71, .row 39 2 (List.map Iv.c ((Env.putIn d e v p a).ints)))), ([120, 2], (g71, g71, .row 39 2 (List.map Iv.c ((Env.putIn d e v p a).arrs))))] (c_eqEnv (Env.putIn d e v p a) (Env.putIn d e v p a)) rfl rfl rfl rfl rfl (.cons (Reads.d _).gives (.cons (Reads.ref (Frz.of_erase (erase_slo _ _ _ _ _ _ Iv.c_e)) (.head _) (.head _)).gives (.cons (Reads.ref (Frz.of_erase (erase_slo _ _ _ _ _ _ Iv.c_e)) (.tail _ (.head _)) (.tail _ (.head _))).gives (.cons (Reads.d _).gives (.cons (Reads.d _).gives (.cons (Reads.d _).gives .nil)))))) rfl rfl (fun _ => (ownCons (Owned.v _) ownNil)) (.own [125, 0] .nil) (.nil) rfl rfl rfl (AllH.get (.cons rfl (.cons rfl .nil))) rfl rfl rfl ?_
                    refine .un (.no rfl) rfl rfl rfl rfl rfl ?_
                    refine .moveB (.no rfl) rfl rfl rfl rfl fun b73 g32_4 => ?_
                    cases b73
                    · skip
                      refine .move (.on rfl rfl rfl rfl rfl) rfl rfl rfl rfl ?_
                      refine .move (.on rfl rfl rfl rfl rfl) rfl rfl rfl rfl ?_
                      refine .bin (.on rfl rfl rfl rfl rfl) rfl rfl rfl rfl rfl rfl ?_
                      refine .pick (.no rfl) rfl rfl rfl rfl rfl ?_
                      exact .fin () (.of (.cons rfl (.cons rfl (.cons (svB (show ((Env.putInAl d e v p a) != (Env.putInAl d e v p a)) = ((!(Env.same (Env.putIn d e v p a) (Env.putIn d e v p a)) || (Env.putInAl d e v p a) != (Env.putInAl d e v p a))) by first | (simp only [g32_4, Bool.true_or, Bool.false_or, Bool.true_and, Bool.false_and, Bool.not_true, Bool.not_false]; done) | simp [g32_4])) .nil))) (.cons rfl (.cons rfl (.cons rfl .nil))))
                    · skip
                      refine .off rfl rfl rfl rfl rfl rfl rfl ?_
                      refine .off rfl rfl rfl rfl rfl rfl rfl ?_
                      refine .off rfl rfl rfl rfl rfl rfl rfl ?_
                      refine .pick (.no rfl) rfl rfl rfl rfl rfl ?_
                      exact .fin () (.of (.cons rfl (.cons rfl (.cons (svB (show (true) = ((!(Env.same (Env.putIn d e v p a) (Env.putIn d e v p a)) || (Env.putInAl d e v p a) != (Env.putInAl d e v p a))) by first | (simp only [g32_4, Bool.true_or, Bool.false_or, Bool.true_and, Bool.false_and, Bool.not_true, Bool.not_false]; done) | simp [g32_4])) .nil))) (.cons rfl (.cons rfl (.cons rfl .nil))))
                  intro _
                  refine .cond (t := (!(Env.same (Env.putIn d e v p a) (Env.putIn d e v p a)) || (Env.putInAl d e v p a) != (Env.putInAl d e v p a))) rfl (fun c8 => ?_) (fun c8 => ?_)
                  · have c8 := c8
                    try simp only [Bool.or_eq_true, Bool.or_eq_false_iff, Bool.and_eq_true, Bool.and_eq_false_iff, decide_eq_true_eq, decide_eq_false_iff_not, Bool.not_eq_true', Bool.not_eq_false', bne_iff_ne, beq_iff_eq, bne_eq_false_iff_eq, beq_eq_false_iff_ne, ne_eq, Bool.not_eq_eq_eq_not, Bool.not_true, Bool.not_false] at c8
                    refine .seq ?_
                    refine .reg (X := Unit) (fun ζ => .of [(10, .one (.d (.v (.bool (false)))))] []) [⟨[], some 10, [], []⟩] (fun k74 => ?_) ?_
                    · skip
                      refine .assign (.no rfl) rfl rfl rfl rfl ?_
                      exact .fin () (.of (.cons rfl .nil) .nil)
                    intro _
                    refine .ret ?_
                    have e75 : (false) = (true) := by first | exact absurd c8 (by rw [Env.same_self]; decide) | exact absurd c8 (by rw [Decl.same_self]; decide) | exact absurd c8 (by rw [all2_self Env.same_self]; decide) | (rcases c8 with h9 | h9 <;> first | exact (h9 trivial).elim | exact absurd rfl h9 | exact absurd h9 (by rw [Env.same_self]; decide) | (simp only [Decl.marks, Env.marks] at h9; omega)) | (rcases c8 with (h9 | h9) | h9 <;> first | exact (h9 trivial).elim | exact absurd rfl h9 | exact absurd h9 (by rw [Env.same_self]; decide) | (simp only [Decl.marks, Env.marks] at h9; omega)) | (simp only [Env.marks] at c8; omega) | (simp [Env.marks, Env.mark, mkAll_len] at c8) | (simp at c8)
                    have hc76 := eq1 (fun z1 => SV.one (.d (.v (.bool (z1))))) e75
                    show _ ∧ _
                    exact ⟨.inr rfl, .done ⟨_, [], [], _, .one (c := .d (.v (.bool (true)))) (hc76) .nil, .cons (Reads.d _).gives .nil, nodupB_ok rfl, by simp, (by simp)⟩⟩
                  · have c8 := c8
                    try simp only [Bool.or_eq_true, Bool.or_eq_false_iff, Bool.and_eq_true, Bool.and_eq_false_iff, decide_eq_true_eq, decide_eq_false_iff_not, Bool.not_eq_true', Bool.not_eq_false', bne_iff_ne, beq_iff_eq, bne_eq_false_iff_eq, beq_eq_false_iff_ne, ne_eq, Bool.not_eq_eq_eq_not, Bool.not_true, Bool.not_false] at c8
                    refine .skip ?_
                    refine .seq ?_
                    refine .reg (X := Unit) (fun ζ => .of [(16, .one (.ptr [16] (g30) 0)), (19, .one (.d (.v (.int .i64 (Env.marks 1 (Env.putIn d e v p a)))))), (20, .one (.d (.v (.int .i64 (1)))))] [([16], (g30, g31, .box [.d (.v (.bool ((Env.putIn d e v p a).live))), .ref [58, 1] (g32), .ref [58, 2] (g32)])), ([58, 1], (g32, g57, .row 39 2 (List.map Iv.c ((Env.mark 1 (Env.putIn d e v p a)).ints)))), ([58, 2], (g32, g57, .row 39 2 (List.map Iv.c ((Env.mark 1 (Env.putIn d e v p a)).arrs))))]) [⟨[], some 20, [], []⟩] (fun k77 => ?_) ?_
                    · skip
                      refine .assign (.no rfl) rfl rfl rfl rfl ?_
                      exact .fin () (.of (.cons rfl (.cons rfl (.cons rfl .nil))) (.cons rfl (.cons rfl (.cons rfl .nil))))
                    intro _
                    refine .seq ?_
                    refine .reg (X := Unit) (fun ζ => .of [(19, .one (.d (.v (.int .i64 (Env.marks 1 (Env.putIn d e v p a)))))), (20, .one (.d (.v (.int .i64 (Env.marks 1 (Env.mk ((Env.putIn d e v p a).live) ((Env.mark 1 (Env.putIn d e v p a)).ints) ((Env.mark 1 (Env.putIn d e v p a)).arrs)))))))] []) [⟨[16], some 132, [[16]], []⟩, ⟨[20], some 133, [], []⟩, ⟨[132, 133], some 134, [[58, 1], [58, 2]], []⟩, ⟨[134], some 20, [], []⟩] (fun k78 => ?_) ?_
                    · skip
                      refine .load (.no rfl) rfl t30 rfl rfl (.ptr _ _ _ _ _ rfl) rfl rfl rfl rfl ?_
                      refine .move (.no rfl) rfl rfl rfl rfl ?_
                      refine .call (.no rfl) rfl [[58, 1], [58, 2]] [([58, 1], (g32, g57, .row 39 2 (List.map Iv.c ((Env.mark 1 (Env.putIn d e v p a)).ints)))), ([58, 2], (g32, g57, .row 39 2 (List.map Iv.c ((Env.mark 1 (Env.putIn d e v p a)).arrs))))] (c_heldEnv (Env.mk ((Env.putIn d e v p a).live) ((Env.mark 1 (Env.putIn d e v p a)).ints) ((Env.mark 1 (Env.putIn d e v p a)).arrs)) 1 (by first | assumption | omega | (have q0 := szDecl_len hv hf ha (by omega) c0; omega) | (have q0 := szDecl_len hv hf ha (by omega) c0; have q1 := szEnv_len (by omega) c1; omega) | (have q0 := szDecl_len hv hf ha (by omega) c0; have q1 := szEnv_len (by omega) c1; exact q1.2.1) | (have q0 := szDecl_len hv hf ha (by omega) c0; have q1 := szEnv_len (by omega) c1; exact q1.1) | (have q0 := szDecl_len hv hf ha (by omega) c0; have q1 := szEnv_len (by omega) c1; first | omega | (have q9 := putIn_len (d := d) (e := e) (v := v) (p := p) (a := a) (n := 1048576) (by omega); first | omega | (simp only [Decl.marks, Env.marks, Env.mark, mkAll_len]; omega))) | (intro i hi; exact mkAll_get (mIv 1) _ (by simpa only [Env.mark, mkAll_len] using hi)) | (intro i hi; simp only [Env.mark, mkAll_len] at hi ⊢; exact mkAll_get _ _ hi)) (by first | assumption | omega | (have q0 := szDecl_len hv hf ha (by omega) c0; omega) | (have q0 := szDecl_len hv hf ha (by omega) c0; have q1 := szEnv_len (by omega) c1; omega) | (have q0 := szDecl_len hv hf ha (by omega) c0; have q1 := szEnv_len (by omega) c1; exact q1.2.1) | (have q0 := szDecl_len hv hf ha (by omega) c0; have q1 := szEnv_len (by omega) c1; exact q1.1) | (have q0 := szDecl_len hv hf ha (by omega) c0; have q1 := szEnv_len (by omega) c1; first | omega | (have q9 := putIn_len (d := d) (e := e) (v := v) (p := p) (a := a) (n := 1048576) (by omega); first | omega | (simp only [Decl.marks, Env.marks, Env.mark, mkAll_len]; omega))) | (intro i hi; exact mkAll_get (mIv 1) _ (by simpa only [Env.mark, mkAll_len] using hi)) | (intro i hi; simp only [Env.mark, mkAll_len] at hi ⊢; exact mkAll_get _ _ hi)) (by first | assumption | omega | (have q0 := szDecl_len hv hf ha (by omega) c0; omega) | (have q0 := szDecl_len hv hf ha (by omega) c0; have q1 := szEnv_len (by omega) c1; omega) | (have q0 := szDecl_len hv hf ha (by omega) c0; have q1 := szEnv_len (by omega) c1; exact q1.2.1) | (have q0 := szDecl_len hv hf ha (by omega) c0; have q1 := szEnv_len (by omega) c1; exact q1.1) | (have q0 := szDecl_len hv hf ha (by omega) c0; have q1 := szEnv_len (by omega) c1; first | omega | (have q9 := putIn_len (d := d) (e := e) (v := v) (p := p) (a := a) (n := 1048576) (by omega); first | omega | (simp only [Decl.marks, Env.marks, Env.mark, mkAll_len]; omega))) | (intro i hi; exact mkAll_get (mIv 1) _ (by simpa only [Env.mark, mkAll_len] using hi)) | (intro i hi; simp only [Env.mark, mkAll_len] at hi ⊢; exact mkAll_get _ _ hi)) (by first | assumption | omega | (have q0 := szDecl_len hv hf ha (by omega) c0; omega) | (have q0 := szDecl_len hv hf ha (by omega) c0; have q1 := szEnv_len (by omega) c1; omega) | (have q0 := szDecl_len hv hf ha (by omega) c0; have q1 := szEnv_len (by omega) c1; exact q1.2.1) | (have q0 := szDecl_len hv hf ha (by omega) c0; have q1 := szEnv_len (by omega) c1; exact q1.1) | (have q0 := szDecl_len hv hf ha (by omega) c0; have q1 := szEnv_len (by omega) c1; first | omega | (have q9 := putIn_len (d := d) (e := e) (v := v) (p := p) (a := a) (n := 1048576) (by omega); first | omega | (simp only [Decl.marks, Env.marks, Env.mark, mkAll_len]; omega))) | (intro i hi; exact mkAll_get (mIv 1) _ (by simpa only [Env.mark, mkAll_len] using hi)) | (intro i hi; simp only [Env.mark, mkAll_len] at hi ⊢; exact mkAll_get _ _ hi))) rfl rfl rfl rfl rfl (.cons (Reads.d _).gives (.cons (Reads.ref (Frz.of_erase (erase_slo _ _ _ _ _ _ Iv.c_e)) (.head _) (.head _)).gives (.cons (Reads.ref (Frz.of_erase (erase_slo _ _ _ _ _ _ Iv.c_e)) (.tail _ (.head _)) (.tail _ (.head _))).gives (.cons (Reads.d _).gives .nil)))) rfl rfl (fun _ => (ownCons (Owned.v _) ownNil)) (.own [134, 0] .nil) (.nil) rfl rfl rfl (AllH.get (.cons rfl (.cons rfl .nil))) rfl rfl rfl ?_
                      refine .assign (.no rfl) rfl rfl rfl rfl ?_
                      exact .fin () (.of (.cons rfl (.cons rfl .nil)) .nil)
                    intro _
                    refine .seq ?_
                    refine .seq ?_
                    refine .reg (X := Unit) (fun ζ => .of [(19, .one (.d (.v (.int .i64 (Env.marks 1 (Env.putIn d e v p a)))))), (20, .one (.d (.v (.int .i64 (Env.marks 1 (Env.mk ((Env.putIn d e v p a).live) ((Env.mark 1 (Env.putIn d e v p a)).ints) ((Env.mark 1 (Env.putIn d e v p a)).arrs))))))), (136, .one (.d (.v (.bool (decide ((Env.marks 1 (Env.mk ((Env.putIn d e v p a).live) ((Env.mark 1 (Env.putIn d e v p a)).ints) ((Env.mark 1 (Env.putIn d e v p a)).arrs))) < 0))))))] []) [⟨[20], some 135, [], []⟩, ⟨[135], some 136, [], []⟩] (fun k79 => ?_) ?_
                    · skip
                      refine .move (.no rfl) rfl rfl rfl rfl ?_
                      refine .bin (.no rfl) rfl rfl rfl rfl rfl rfl ?_
                      exact .fin () (.of (.cons rfl (.cons rfl (.cons rfl .nil))) .nil)
                    intro _
                    refine .cond (t := decide ((Env.marks 1 (Env.mk ((Env.putIn d e v p a).live) ((Env.mark 1 (Env.putIn d e v p a)).ints) ((Env.mark 1 (Env.putIn d e v p a)).arrs))) < 0)) rfl (fun c9 => ?_) (fun c9 => ?_)
                    · have c9 := of_decide_eq_true c9
                      refine .seq ?_
                      refine .reg (X := Unit) (fun ζ => .of [(10, .one (.d (.v (.bool (false)))))] []) [⟨[], some 10, [], []⟩] (fun k80 => ?_) ?_
                      · skip
                        refine .assign (.no rfl) rfl rfl rfl rfl ?_
                        exact .fin () (.of (.cons rfl .nil) .nil)
                      intro _
                      refine .ret ?_
                      have e81 : (false) = (true) := by first | exact absurd c9 (by rw [Env.same_self]; decide) | exact absurd c9 (by rw [Decl.same_self]; decide) | exact absurd c9 (by rw [all2_self Env.same_self]; decide) | (rcases c9 with h9 | h9 <;> first | exact (h9 trivial).elim | exact absurd rfl h9 | exact absurd h9 (by rw [Env.same_self]; decide) | (simp only [Decl.marks, Env.marks] at h9; omega)) | (rcases c9 with (h9 | h9) | h9 <;> first | exact (h9 trivial).elim | exact absurd rfl h9 | exact absurd h9 (by rw [Env.same_self]; decide) | (simp only [Decl.marks, Env.marks] at h9; omega)) | (simp only [Env.marks] at c9; omega) | (simp [Env.marks, Env.mark, mkAll_len] at c9) | (simp at c9)
                      have hc82 := eq1 (fun z1 => SV.one (.d (.v (.bool (z1))))) e81
                      show _ ∧ _
                      exact ⟨.inr rfl, .done ⟨_, [], [], _, .one (c := .d (.v (.bool (true)))) (hc82) .nil, .cons (Reads.d _).gives .nil, nodupB_ok rfl, by simp, (by simp)⟩⟩
                    · have c9 := of_decide_eq_false c9
                      refine .skip ?_
                      refine .seq ?_
                      refine .seq ?_
                      refine .reg (X := Unit) (fun ζ => .of [(139, .one (.d (.v (.bool ((Env.marks 1 (Env.mk ((Env.putIn d e v p a).live) ((Env.mark 1 (Env.putIn d e v p a)).ints) ((Env.mark 1 (Env.putIn d e v p a)).arrs))) != (Env.marks 1 (Env.putIn d e v p a)))))))] []) [⟨[20], some 137, [], []⟩, ⟨[19], some 138, [], []⟩, ⟨[137, 138], some 139, [], []⟩] (fun k83 => ?_) ?_
                      · skip
                        refine .move (.no rfl) rfl rfl rfl rfl ?_
                        refine .move (.no rfl) rfl rfl rfl rfl ?_
                        refine .bin (.no rfl) rfl rfl rfl rfl rfl rfl ?_
                        exact .fin () (.of (.cons rfl .nil) .nil)
                      intro _
                      refine .cond (t := (Env.marks 1 (Env.mk ((Env.putIn d e v p a).live) ((Env.mark 1 (Env.putIn d e v p a)).ints) ((Env.mark 1 (Env.putIn d e v p a)).arrs))) != (Env.marks 1 (Env.putIn d e v p a))) rfl (fun c10 => ?_) (fun c10 => ?_)
                      · have c10 := (by simpa using c10 : ¬ ((Env.marks 1 (Env.mk ((Env.putIn d e v p a).live) ((Env.mark 1 (Env.putIn d e v p a)).ints) ((Env.mark 1 (Env.putIn d e v p a)).arrs))) = (Env.marks 1 (Env.putIn d e v p a))))
                        refine .seq ?_
                        refine .reg (X := Unit) (fun ζ => .of [(10, .one (.d (.v (.bool (false)))))] []) [⟨[], some 10, [], []⟩] (fun k84 => ?_) ?_
                        · skip
                          refine .assign (.no rfl) rfl rfl rfl rfl ?_
                          exact .fin () (.of (.cons rfl .nil) .nil)
                        intro _
                        refine .ret ?_
                        have e85 : (false) = (true) := by first | exact absurd c10 (by rw [Env.same_self]; decide) | exact absurd c10 (by rw [Decl.same_self]; decide) | exact absurd c10 (by rw [all2_self Env.same_self]; decide) | (rcases c10 with h9 | h9 <;> first | exact (h9 trivial).elim | exact absurd rfl h9 | exact absurd h9 (by rw [Env.same_self]; decide) | (simp only [Decl.marks, Env.marks] at h9; omega)) | (rcases c10 with (h9 | h9) | h9 <;> first | exact (h9 trivial).elim | exact absurd rfl h9 | exact absurd h9 (by rw [Env.same_self]; decide) | (simp only [Decl.marks, Env.marks] at h9; omega)) | (simp only [Env.marks] at c10; omega) | (simp [Env.marks, Env.mark, mkAll_len] at c10) | (simp at c10)
                        have hc86 := eq1 (fun z1 => SV.one (.d (.v (.bool (z1))))) e85
                        show _ ∧ _
                        exact ⟨.inr rfl, .done ⟨_, [], [], _, .one (c := .d (.v (.bool (true)))) (hc86) .nil, .cons (Reads.d _).gives .nil, nodupB_ok rfl, by simp, (by simp)⟩⟩
                      · have c10 := (by simpa using c10 : (Env.marks 1 (Env.mk ((Env.putIn d e v p a).live) ((Env.mark 1 (Env.putIn d e v p a)).ints) ((Env.mark 1 (Env.putIn d e v p a)).arrs))) = (Env.marks 1 (Env.putIn d e v p a)))
                        refine .skip ?_
                        refine .seq ?_
                        refine .reg (X := Unit) (fun ζ => .of [(10, .one (.d (.v (.bool (true)))))] []) [⟨[], some 10, [], []⟩] (fun k87 => ?_) ?_
                        · skip
                          refine .assign (.no rfl) rfl rfl rfl rfl ?_
                          exact .fin () (.of (.cons rfl .nil) .nil)
                        intro _
                        refine .ret ?_
                        show _ ∧ _
                        exact ⟨.inr rfl, .done ⟨_, [], [], _, .one rfl .nil, .cons (Reads.d _).gives .nil, nodupB_ok rfl, by simp, (by simp)⟩⟩
end Go.Proofs

/- Contracts of the program's functions at this seat, printed by a program of ours and checked by Lean: each under the conditions of its own statement. -/
import Derived.Test.YtneihlkamemjeaaDoorF3
set_option linter.all false
set_option linter.unnecessarySimpa false
set_option linter.unusedSectionVars false
set_option linter.unusedSimpArgs false
set_option linter.unusedVariables false
namespace Go.Proofs
open Go Go.Proofs Go.Ev

theorem c_sIvWiden (a : Iv) (b : Iv) (l : List Int) : Trip Tryd.prog 97 [(true, 2), (true, 2), (false, 1)] (Iv.c a ++ Iv.c b ++ [.sl false 2 1 (List.map i64c (l))]) [(true, 2)] [.v (.int .i64 ((Iv.widenOk l a b).lo)), .v (.int .i64 ((Iv.widenOk l a b).hi))] [] := by
  refine Trip.of Tryd.func97 (by decide) (c := _) rfl rfl (shB_ok rfl) (Nat.le_of_ble_eq_true rfl) rfl (AftOk.nil _) ?_
  refine .sat (t := 2) rfl (fun hs1 => ?_)
  have hs1l : l.length ≤ 9223372036854775807 := hs1.maplen
  refine .seq ?_
  refine .reg (X := Nat × Nat × Nat) (fun ζ => .of [(2, .one (.d (.sl false 2 1 (List.map i64c (l))))), (3, .one (.ptr [3] (ζ.1) 0)), (4, .one (.ptr [4] (ζ.2.1) 0)), (6, .one (.ptr [6] (ζ.2.2) 0))] [([3], (ζ.1, ζ.1, .box [.d (.v (.int .i64 (a.lo))), .d (.v (.int .i64 (a.hi)))])), ([4], (ζ.2.1, ζ.2.1, .box [.d (.v (.int .i64 (b.lo))), .d (.v (.int .i64 (b.hi)))])), ([6], (ζ.2.2, ζ.2.2, .box [.d (.v (.int .i64 (0))), .d (.v (.int .i64 (0)))]))]) [⟨[0], some 3, [], [[3]]⟩, ⟨[1], some 4, [], [[4]]⟩, ⟨[], some 6, [], [[6]]⟩] (fun k2 => ?_) ?_
  · skip
    refine .box (.no rfl) rfl rfl rfl rfl rfl ?_
    refine .box (.no rfl) rfl rfl rfl rfl rfl ?_
    refine .alloc (.no rfl) rfl z39 rfl rfl rfl ?_
    exact .fin (k2, k2 + 1, k2 + 1 + 1) (.of (.cons rfl (.cons rfl (.cons rfl (.cons rfl .nil)))) (.cons rfl (.cons rfl (.cons rfl .nil))))
  rintro ⟨g3, g4, g5⟩
  refine .seq ?_
  refine .seq ?_
  refine .reg (X := Unit) (fun ζ => .of [(2, .one (.d (.sl false 2 1 (List.map i64c (l))))), (3, .one (.ptr [3] (g3) 0)), (4, .one (.ptr [4] (g4) 0)), (6, .one (.ptr [6] (g5) 0)), (22, .one (.d (.v (.bool (((!(Iv.ok a) || !(Iv.ok b)) || decide ((l.length : Int) > 100)))))))] [([3], (g3, g3, .box [.d (.v (.int .i64 (a.lo))), .d (.v (.int .i64 (a.hi)))])), ([4], (g4, g4, .box [.d (.v (.int .i64 (b.lo))), .d (.v (.int .i64 (b.hi)))])), ([6], (g5, g5, .box [.d (.v (.int .i64 (0))), .d (.v (.int .i64 (0)))]))]) [⟨[3], some 10, [[3]], []⟩, ⟨[10], some 11, [], []⟩, ⟨[11], some 12, [], []⟩, ⟨[12], some 13, [], []⟩, ⟨[13, 4], some 14, [[4]], []⟩, ⟨[13, 14], some 15, [], []⟩, ⟨[13, 15], some 16, [], []⟩, ⟨[13, 16], some 17, [], []⟩, ⟨[17], some 18, [], []⟩, ⟨[18, 2], some 19, [], []⟩, ⟨[18, 19], some 20, [], []⟩, ⟨[18, 20], some 21, [], []⟩, ⟨[18, 21], some 22, [], []⟩] (fun k6 => ?_) ?_
  · skip
    refine .load (.no rfl) rfl t39 rfl rfl (.ptr _ _ _ _ _ rfl) rfl rfl rfl rfl ?_
    refine .call (.no rfl) rfl [] [] (c_sIvOk a) rfl rfl rfl rfl rfl (.cons (Reads.d _).gives (.cons (Reads.d _).gives .nil)) rfl rfl (fun h => absurd rfl h) (.own [11, 0] .nil) (.nil) rfl rfl rfl (by simp) rfl rfl rfl ?_
    refine .un (.no rfl) rfl rfl rfl rfl rfl ?_
    refine .moveB (.no rfl) rfl rfl rfl rfl fun b7 g1_3 => ?_
    cases b7
    · skip
      refine .load (.on rfl rfl rfl rfl rfl) rfl t39 rfl rfl (.ptr _ _ _ _ _ rfl) rfl rfl rfl rfl ?_
      refine .call (.on rfl rfl rfl rfl rfl) rfl [] [] (c_sIvOk b) rfl rfl rfl rfl rfl (.cons (Reads.d _).gives (.cons (Reads.d _).gives .nil)) rfl rfl (fun h => absurd rfl h) (.own [15, 0] .nil) (.nil) rfl rfl rfl (by simp) rfl rfl rfl ?_
      refine .un (.on rfl rfl rfl rfl rfl) rfl rfl rfl rfl rfl ?_
      refine .pick (.no rfl) rfl rfl rfl rfl rfl ?_
      refine .moveB (.no rfl) rfl rfl rfl rfl fun b8 g1_8 => ?_
      cases b8
      · skip
        refine .move (.on rfl rfl rfl rfl rfl) rfl rfl rfl rfl ?_
        refine .len (.on rfl rfl rfl rfl rfl) rfl (z := (l.length : Int)) t31 rfl rfl rfl (.d _ _) (map_len _ _) rfl ?_
        refine .bin (.on rfl rfl rfl rfl rfl) rfl rfl rfl rfl rfl rfl ?_
        refine .pick (.no rfl) rfl rfl rfl rfl rfl ?_
        exact .fin () (.of (.cons rfl (.cons rfl (.cons rfl (.cons rfl (.cons (svB (show (decide ((l.length : Int) > 100)) = (((!(Iv.ok a) || !(Iv.ok b)) || decide ((l.length : Int) > 100))) by first | (simp only [g1_3, g1_8, Bool.true_or, Bool.false_or, Bool.true_and, Bool.false_and, Bool.not_true, Bool.not_false]; done) | simp [g1_3, g1_8])) .nil))))) (.cons rfl (.cons rfl (.cons rfl .nil))))
      · skip
        refine .off rfl rfl rfl rfl rfl rfl rfl ?_
        refine .off rfl rfl rfl rfl rfl rfl rfl ?_
        refine .off rfl rfl rfl rfl rfl rfl rfl ?_
        refine .pick (.no rfl) rfl rfl rfl rfl rfl ?_
        exact .fin () (.of (.cons rfl (.cons rfl (.cons rfl (.cons rfl (.cons (svB (show (true) = (((!(Iv.ok a) || !(Iv.ok b)) || decide ((l.length : Int) > 100))) by first | (simp only [g1_3, g1_8, Bool.true_or, Bool.false_or, Bool.true_and, Bool.false_and, Bool.not_true, Bool.not_false]; done) | simp [g1_3, g1_8])) .nil))))) (.cons rfl (.cons rfl (.cons rfl .nil))))
    · skip
      refine .off rfl rfl rfl rfl rfl rfl rfl ?_
      refine .off rfl rfl rfl rfl rfl rfl rfl ?_
      refine .off rfl rfl rfl rfl rfl rfl rfl ?_
      refine .pick (.no rfl) rfl rfl rfl rfl rfl ?_
      refine .move (.no rfl) rfl rfl rfl rfl ?_
      refine .off rfl rfl rfl rfl rfl rfl rfl ?_
      refine .off rfl rfl rfl rfl rfl rfl rfl ?_
      refine .off rfl rfl rfl rfl rfl rfl rfl ?_
      refine .pick (.no rfl) rfl rfl rfl rfl rfl ?_
      exact .fin () (.of (.cons rfl (.cons rfl (.cons rfl (.cons rfl (.cons (svB (show (true) = (((!(Iv.ok a) || !(Iv.ok b)) || decide ((l.length : Int) > 100))) by first | (simp only [g1_3, Bool.true_or, Bool.false_or, Bool.true_and, Bool.false_and, Bool.not_true, Bool.not_false]; done) | simp [g1_3])) .nil))))) (.cons rfl (.cons rfl (.cons rfl .nil))))
  intro _
  refine .cond (t := ((!(Iv.ok a) || !(Iv.ok b)) || decide ((l.length : Int) > 100))) rfl (fun c0 => ?_) (fun c0 => ?_)
  · have c0 := c0
    try simp only [Bool.or_eq_true, Bool.or_eq_false_iff, Bool.and_eq_true, Bool.and_eq_false_iff, decide_eq_true_eq, decide_eq_false_iff_not, Bool.not_eq_true', Bool.not_eq_false', bne_iff_ne, beq_iff_eq, bne_eq_false_iff_eq, beq_eq_false_iff_ne, ne_eq, Bool.not_eq_eq_eq_not, Bool.not_true, Bool.not_false] at c0
    refine .seq ?_
    refine .reg (X := Nat) (fun ζ => .of [(6, .one (.ptr [6] (g5) 0))] [([6], (g5, ζ, .box [.d (.v (.int .i64 (0))), .d (.v (.int .i64 (0)))]))]) [⟨[], some 23, [], []⟩, ⟨[6, 23], none, [[6]], [[6]]⟩] (fun k9 => ?_) ?_
    · skip
      refine .build (.no rfl) rfl z39 rfl p39 rfl rfl rfl rfl ?_
      refine .store (.no rfl) rfl t39 rfl rfl rfl rfl rfl rfl rfl rfl rfl ?_
      exact .fin (k9 + 1) (.of (.cons rfl .nil) (.cons rfl .nil))
    intro g10
    refine .ret ?_
    have e11 : (0) = ((Iv.widenOk l a b).lo) := by (rw [Iv.widenOk_no c0])
    have e12 : (0) = ((Iv.widenOk l a b).hi) := by (rw [Iv.widenOk_no c0])
    have hc13 := eq2 (fun z1 z2 => some (g5, g10, O.box [.d (.v (.int .i64 (z1))), .d (.v (.int .i64 (z2)))])) e11 e12
    show _ ∧ _
    exact ⟨.inr rfl, .done ⟨_, [], [], _, .cell (cells := [.d (.v (.int .i64 ((Iv.widenOk l a b).lo))), .d (.v (.int .i64 ((Iv.widenOk l a b).hi)))]) rfl hc13 t39 rfl rfl .nil, .cons (Reads.d _).gives (.cons (Reads.d _).gives .nil), nodupB_ok rfl, by simp, (by simp)⟩⟩
  · have c0 := c0
    try simp only [Bool.or_eq_true, Bool.or_eq_false_iff, Bool.and_eq_true, Bool.and_eq_false_iff, decide_eq_true_eq, decide_eq_false_iff_not, Bool.not_eq_true', Bool.not_eq_false', bne_iff_ne, beq_iff_eq, bne_eq_false_iff_eq, beq_eq_false_iff_ne, ne_eq, Bool.not_eq_eq_eq_not, Bool.not_true, Bool.not_false] at c0
    refine .skip ?_
    refine .seq ?_
    refine .reg (X := Nat × Nat) (fun ζ => .of [(2, .one (.d (.sl false 2 1 (List.map i64c (l))))), (3, .one (.ptr [3] (g3) 0)), (4, .one (.ptr [4] (g4) 0)), (6, .one (.ptr [6] (g5) 0)), (7, .one (.ptr [7] (ζ.1) 0))] [([3], (g3, g3, .box [.d (.v (.int .i64 (a.lo))), .d (.v (.int .i64 (a.hi)))])), ([4], (g4, g4, .box [.d (.v (.int .i64 (b.lo))), .d (.v (.int .i64 (b.hi)))])), ([6], (g5, g5, .box [.d (.v (.int .i64 (0))), .d (.v (.int .i64 (0)))])), ([7], (ζ.1, ζ.2, .box [.d (.v (.int .i64 (a.lo))), .d (.v (.int .i64 (a.hi)))]))]) [⟨[3], some 24, [[3]], []⟩, ⟨[], some 7, [], [[7]]⟩, ⟨[7, 24], none, [[7]], [[7]]⟩] (fun k14 => ?_) ?_
    · skip
      refine .load (.no rfl) rfl t39 rfl rfl (.ptr _ _ _ _ _ rfl) rfl rfl rfl rfl ?_
      refine .alloc (.no rfl) rfl z39 rfl rfl rfl ?_
      refine .store (.no rfl) rfl t39 rfl rfl rfl rfl rfl rfl rfl rfl rfl ?_
      exact .fin (k14 + 1, k14 + 1 + 1) (.of (.cons rfl (.cons rfl (.cons rfl (.cons rfl (.cons rfl .nil))))) (.cons rfl (.cons rfl (.cons rfl (.cons rfl .nil)))))
    rintro ⟨g15, g16⟩
    refine .seq ?_
    refine .seq ?_
    refine .reg (X := Unit) (fun ζ => .of [(2, .one (.d (.sl false 2 1 (List.map i64c (l))))), (3, .one (.ptr [3] (g3) 0)), (4, .one (.ptr [4] (g4) 0)), (6, .one (.ptr [6] (g5) 0)), (7, .one (.ptr [7] (g15) 0)), (29, .one (.d (.v (.bool (decide (b.lo < a.lo))))))] [([3], (g3, g3, .box [.d (.v (.int .i64 (a.lo))), .d (.v (.int .i64 (a.hi)))])), ([4], (g4, g4, .box [.d (.v (.int .i64 (b.lo))), .d (.v (.int .i64 (b.hi)))])), ([6], (g5, g5, .box [.d (.v (.int .i64 (0))), .d (.v (.int .i64 (0)))])), ([7], (g15, g16, .box [.d (.v (.int .i64 (a.lo))), .d (.v (.int .i64 (a.hi)))]))]) [⟨[4], some 25, [], []⟩, ⟨[25], some 26, [[4]], []⟩, ⟨[3], some 27, [], []⟩, ⟨[27], some 28, [[3]], []⟩, ⟨[26, 28], some 29, [], []⟩] (fun k17 => ?_) ?_
    · skip
      refine .fieldAddrP (.no rfl) rfl t39 rfl rfl t2 rfl rfl rfl rfl ?_
      refine .load (.no rfl) rfl t2 rfl rfl (.ptr _ _ _ _ _ rfl) rfl rfl rfl rfl ?_
      refine .fieldAddrP (.no rfl) rfl t39 rfl rfl t2 rfl rfl rfl rfl ?_
      refine .load (.no rfl) rfl t2 rfl rfl (.ptr _ _ _ _ _ rfl) rfl rfl rfl rfl ?_
      refine .bin (.no rfl) rfl rfl rfl rfl rfl rfl ?_
      exact .fin () (.of (.cons rfl (.cons rfl (.cons rfl (.cons rfl (.cons rfl (.cons rfl .nil)))))) (.cons rfl (.cons rfl (.cons rfl (.cons rfl .nil)))))
    intro _
    refine .cond (t := decide (b.lo < a.lo)) rfl (fun c1 => ?_) (fun c1 => ?_)
    · have c1 := of_decide_eq_true c1
      refine .seq ?_
      refine .reg (X := Nat) (fun ζ => .of [(2, .one (.d (.sl false 2 1 (List.map i64c (l))))), (3, .one (.ptr [3] (g3) 0)), (4, .one (.ptr [4] (g4) 0)), (6, .one (.ptr [6] (g5) 0)), (7, .one (.ptr [7] (g15) 0))] [([3], (g3, g3, .box [.d (.v (.int .i64 (a.lo))), .d (.v (.int .i64 (a.hi)))])), ([4], (g4, g4, .box [.d (.v (.int .i64 (b.lo))), .d (.v (.int .i64 (b.hi)))])), ([6], (g5, g5, .box [.d (.v (.int .i64 (0))), .d (.v (.int .i64 (0)))])), ([7], (g15, ζ, .box [.d (.v (.int .i64 (-9223372036854775808))), .d (.v (.int .i64 (a.hi)))]))]) [⟨[7], some 30, [], []⟩, ⟨[30], none, [[7]], [[7]]⟩] (fun k18 => ?_) ?_
      · skip
        refine .fieldAddrP (.no rfl) rfl t39 rfl rfl t2 rfl rfl rfl rfl ?_
        refine .store (.no rfl) rfl t2 rfl rfl rfl rfl rfl rfl rfl rfl rfl ?_
        exact .fin (k18 + 1) (.of (.cons rfl (.cons rfl (.cons rfl (.cons rfl (.cons rfl .nil))))) (.cons rfl (.cons rfl (.cons rfl (.cons rfl .nil)))))
      intro g19
      refine .seq ?_
      refine .reg (X := Unit) (fun ζ => .of [(2, .one (.d (.sl false 2 1 (List.map i64c (l))))), (3, .one (.ptr [3] (g3) 0)), (4, .one (.ptr [4] (g4) 0)), (6, .one (.ptr [6] (g5) 0)), (7, .one (.ptr [7] (g15) 0)), (8, .one (.d (.v (.int .i64 (0)))))] [([3], (g3, g3, .box [.d (.v (.int .i64 (a.lo))), .d (.v (.int .i64 (a.hi)))])), ([4], (g4, g4, .box [.d (.v (.int .i64 (b.lo))), .d (.v (.int .i64 (b.hi)))])), ([6], (g5, g5, .box [.d (.v (.int .i64 (0))), .d (.v (.int .i64 (0)))])), ([7], (g15, g19, .box [.d (.v (.int .i64 (-9223372036854775808))), .d (.v (.int .i64 (a.hi)))]))]) [⟨[], some 8, [], []⟩] (fun k20 => ?_) ?_
      · skip
        refine .assign (.no rfl) rfl rfl rfl rfl ?_
        exact .fin () (.of (.cons rfl (.cons rfl (.cons rfl (.cons rfl (.cons rfl (.cons rfl .nil)))))) (.cons rfl (.cons rfl (.cons rfl (.cons rfl .nil)))))
      intro _
      refine .block ?_
      refine .loop (X := Nat × Nat) (fun ζ => .of [(2, .one (.d (.sl false 2 1 (List.map i64c (l))))), (3, .one (.ptr [3] (g3) 0)), (4, .one (.ptr [4] (g4) 0)), (6, .one (.ptr [6] (g5) 0)), (7, .one (.ptr [7] (g15) 0)), (8, .one (.d (.v (.int .i64 ((ζ.1 : Int))))))] [([3], (g3, g3, .box [.d (.v (.int .i64 (a.lo))), .d (.v (.int .i64 (a.hi)))])), ([4], (g4, g4, .box [.d (.v (.int .i64 (b.lo))), .d (.v (.int .i64 (b.hi)))])), ([6], (g5, g5, .box [.d (.v (.int .i64 (0))), .d (.v (.int .i64 (0)))])), ([7], (g15, ζ.2, .box [.d (.v (.int .i64 (widenLo b.lo (l.take ζ.1) (-9223372036854775808)))), .d (.v (.int .i64 (a.hi)))]))]) (fun ζ => ζ.1 ≤ l.length) (fun ζ => l.length - ζ.1) ?_ ?_
      · skip
        exact .here (0, g19) (.of (.cons rfl (.cons rfl (.cons rfl (.cons rfl (.cons rfl (.cons (svI (show (0) = ((0 : Int)) by first | rfl | omega | exact wrap_le (by omega) (by omega) | (rw [wrap_le (by omega) (by omega)]; omega))) .nil)))))) (.cons rfl (.cons rfl (.cons rfl (.cons (eq1 (fun z1 => some (g15, g19, O.box [.d (.v (.int .i64 (z1))), .d (.v (.int .i64 (a.hi)))])) (show (-9223372036854775808) = (widenLo b.lo (l.take 0) (-9223372036854775808)) by first | rfl | (exact widenLo_yes (by omega) c3) | (exact widenLo_no (by omega) c3) | (exact widenHi_yes (by omega) c6) | (exact widenHi_no (by omega) c6))) .nil))))) (show 0 ≤ l.length by omega)
      · rintro ⟨j, q21⟩ hI
        have hI : j ≤ l.length := hI
        have hl9 : l.length ≤ 100 := by omega
        refine .seq ?_
        refine .seq ?_
        refine .reg (X := Unit) (fun ζ => .of [(2, .one (.d (.sl false 2 1 (List.map i64c (l))))), (3, .one (.ptr [3] (g3) 0)), (4, .one (.ptr [4] (g4) 0)), (6, .one (.ptr [6] (g5) 0)), (7, .one (.ptr [7] (g15) 0)), (8, .one (.d (.v (.int .i64 ((j : Int)))))), (34, .one (.d (.v (.bool (decide ((j : Int) < (l.length : Int)))))))] [([3], (g3, g3, .box [.d (.v (.int .i64 (a.lo))), .d (.v (.int .i64 (a.hi)))])), ([4], (g4, g4, .box [.d (.v (.int .i64 (b.lo))), .d (.v (.int .i64 (b.hi)))])), ([6], (g5, g5, .box [.d (.v (.int .i64 (0))), .d (.v (.int .i64 (0)))])), ([7], (g15, q21, .box [.d (.v (.int .i64 (widenLo b.lo (l.take j) (-9223372036854775808)))), .d (.v (.int .i64 (a.hi)))]))]) [⟨[8], some 31, [], []⟩, ⟨[2], some 32, [], []⟩, ⟨[32], some 33, [], []⟩, ⟨[31, 33], some 34, [], []⟩] (fun k22 => ?_) ?_
        · skip
          refine .move (.no rfl) rfl rfl rfl rfl ?_
          refine .move (.no rfl) rfl rfl rfl rfl ?_
          refine .len (.no rfl) rfl (z := (l.length : Int)) t31 rfl rfl rfl (.d _ _) (map_len _ _) rfl ?_
          refine .bin (.no rfl) rfl rfl rfl rfl rfl rfl ?_
          exact .fin () (.of (.cons rfl (.cons rfl (.cons rfl (.cons rfl (.cons rfl (.cons rfl (.cons rfl .nil))))))) (.cons rfl (.cons rfl (.cons rfl (.cons rfl .nil)))))
        intro _
        refine .cond (t := decide ((j : Int) < (l.length : Int))) rfl (fun c2 => ?_) (fun c2 => ?_)
        · have c2 := of_decide_eq_true c2
          refine .skip ?_
          refine .seq ?_
          refine .block ?_
          refine .seq ?_
          refine .regD (X := Unit) (by kernel_rfl) (fun ζ => .of [(2, .one (.d (.sl false 2 1 (List.map i64c (l))))), (3, .one (.ptr [3] (g3) 0)), (4, .one (.ptr [4] (g4) 0)), (6, .one (.ptr [6] (g5) 0)), (7, .one (.ptr [7] (g15) 0)), (8, .one (.d (.v (.int .i64 ((j : Int)))))), (43, .one (.d (.v (.bool (decide ((l.getD j default) ≤ b.lo))))))] [([3], (g3, g3, .box [.d (.v (.int .i64 (a.lo))), .d (.v (.int .i64 (a.hi)))])), ([4], (g4, g4, .box [.d (.v (.int .i64 (b.lo))), .d (.v (.int .i64 (b.hi)))])), ([6], (g5, g5, .box [.d (.v (.int .i64 (0))), .d (.v (.int .i64 (0)))])), ([7], (g15, q21, .box [.d (.v (.int .i64 (widenLo b.lo (l.take j) (-9223372036854775808)))), .d (.v (.int .i64 (a.hi)))]))]) [⟨[2], some 37, [], []⟩, ⟨[8], some 38, [], []⟩, ⟨[37, 38], some 39, [], []⟩, ⟨[39], some 40, [], []⟩, ⟨[4], some 41, [], []⟩, ⟨[41], some 42, [[4]], []⟩, ⟨[40, 42], some 43, [], []⟩] (by kernel_rfl) (fun k23 => ?_) ?_
          · skip
            refine .move (.no rfl) rfl rfl rfl rfl ?_
            refine .move (.no rfl) rfl rfl rfl rfl ?_
            refine .indexAddr (.no rfl) rfl (j) t31 rfl t2 rfl rfl rfl (.d _ _) rfl rfl rfl (map_get (by omega)) rfl rfl ?_
            refine .load (.no rfl) rfl t2 rfl rfl (.d _) rfl rfl rfl rfl ?_
            refine .fieldAddrP (.no rfl) rfl t39 rfl rfl t2 rfl rfl rfl rfl ?_
            refine .load (.no rfl) rfl t2 rfl rfl (.ptr _ _ _ _ _ rfl) rfl rfl rfl rfl ?_
            refine .bin (.no rfl) rfl rfl rfl rfl rfl rfl ?_
            exact .fin () (.of (.cons rfl (.cons rfl (.cons rfl (.cons rfl (.cons rfl (.cons rfl (.cons rfl .nil))))))) (.cons rfl (.cons rfl (.cons rfl (.cons rfl .nil)))))
          intro _
          refine .cond (t := decide ((l.getD j default) ≤ b.lo)) rfl (fun c3 => ?_) (fun c3 => ?_)
          · have c3 := of_decide_eq_true c3
            refine .regD (X := Nat) (by kernel_rfl) (fun ζ => .of [(2, .one (.d (.sl false 2 1 (List.map i64c (l))))), (3, .one (.ptr [3] (g3) 0)), (4, .one (.ptr [4] (g4) 0)), (6, .one (.ptr [6] (g5) 0)), (7, .one (.ptr [7] (g15) 0)), (8, .one (.d (.v (.int .i64 ((j : Int))))))] [([3], (g3, g3, .box [.d (.v (.int .i64 (a.lo))), .d (.v (.int .i64 (a.hi)))])), ([4], (g4, g4, .box [.d (.v (.int .i64 (b.lo))), .d (.v (.int .i64 (b.hi)))])), ([6], (g5, g5, .box [.d (.v (.int .i64 (0))), .d (.v (.int .i64 (0)))])), ([7], (g15, ζ, .box [.d (.v (.int .i64 (max (widenLo b.lo (l.take j) (-9223372036854775808)) (l.getD j default)))), .d (.v (.int .i64 (a.hi)))]))]) [⟨[7], some 44, [], []⟩, ⟨[44], some 45, [[7]], []⟩, ⟨[2], some 46, [], []⟩, ⟨[8], some 47, [], []⟩, ⟨[46, 47], some 48, [], []⟩, ⟨[48], some 49, [], []⟩, ⟨[45, 49], some 50, [], []⟩, ⟨[7], some 51, [], []⟩, ⟨[51, 50], none, [[7]], [[7]]⟩] (by kernel_rfl) (fun k24 => ?_) ?_
            · skip
              refine .fieldAddrP (.no rfl) rfl t39 rfl rfl t2 rfl rfl rfl rfl ?_
              refine .load (.no rfl) rfl t2 rfl rfl (.ptr _ _ _ _ _ rfl) rfl rfl rfl rfl ?_
              refine .move (.no rfl) rfl rfl rfl rfl ?_
              refine .move (.no rfl) rfl rfl rfl rfl ?_
              refine .indexAddr (.no rfl) rfl (j) t31 rfl t2 rfl rfl rfl (.d _ _) rfl rfl rfl (map_get (by omega)) rfl rfl ?_
              refine .load (.no rfl) rfl t2 rfl rfl (.d _) rfl rfl rfl rfl ?_
              refine .max (.no rfl) rfl rfl rfl rfl (max_of _ _) rfl ?_
              refine .fieldAddrP (.no rfl) rfl t39 rfl rfl t2 rfl rfl rfl rfl ?_
              refine .store (.no rfl) rfl t2 rfl rfl rfl rfl rfl rfl rfl rfl rfl ?_
              exact .fin (k24 + 1 + 1 + 1 + 1 + 1 + 1 + 1 + 1) (.of (.cons rfl (.cons rfl (.cons rfl (.cons rfl (.cons rfl (.cons rfl .nil)))))) (.cons rfl (.cons rfl (.cons rfl (.cons rfl .nil)))))
            intro g25
            refine .reg (X := Unit) (fun ζ => .of [(2, .one (.d (.sl false 2 1 (List.map i64c (l))))), (3, .one (.ptr [3] (g3) 0)), (4, .one (.ptr [4] (g4) 0)), (6, .one (.ptr [6] (g5) 0)), (7, .one (.ptr [7] (g15) 0)), (8, .one (.d (.v (.int .i64 (IntKind.wrap .i64 ((j : Int) + 1))))))] [([3], (g3, g3, .box [.d (.v (.int .i64 (a.lo))), .d (.v (.int .i64 (a.hi)))])), ([4], (g4, g4, .box [.d (.v (.int .i64 (b.lo))), .d (.v (.int .i64 (b.hi)))])), ([6], (g5, g5, .box [.d (.v (.int .i64 (0))), .d (.v (.int .i64 (0)))])), ([7], (g15, g25, .box [.d (.v (.int .i64 (max (widenLo b.lo (l.take j) (-9223372036854775808)) (l.getD j default)))), .d (.v (.int .i64 (a.hi)))]))]) [⟨[8], some 35, [], []⟩, ⟨[35], some 36, [], []⟩, ⟨[36], some 8, [], []⟩] (fun k26 => ?_) ?_
            · skip
              refine .move (.no rfl) rfl rfl rfl rfl ?_
              refine .bin (.no rfl) rfl rfl rfl rfl rfl rfl ?_
              refine .assign (.no rfl) rfl rfl rfl rfl ?_
              exact .fin () (.of (.cons rfl (.cons rfl (.cons rfl (.cons rfl (.cons rfl (.cons rfl .nil)))))) (.cons rfl (.cons rfl (.cons rfl (.cons rfl .nil)))))
            intro _
            exact .here ((j + 1), g25) (.of (.cons rfl (.cons rfl (.cons rfl (.cons rfl (.cons rfl (.cons (svI (show (IntKind.wrap .i64 ((j : Int) + 1)) = (((j + 1) : Int)) by first | rfl | omega | exact wrap_le (by omega) (by omega) | (rw [wrap_le (by omega) (by omega)]; omega))) .nil)))))) (.cons rfl (.cons rfl (.cons rfl (.cons (eq1 (fun z1 => some (g15, g25, O.box [.d (.v (.int .i64 (z1))), .d (.v (.int .i64 (a.hi)))])) (show (max (widenLo b.lo (l.take j) (-9223372036854775808)) (l.getD j default)) = (widenLo b.lo (l.take (j + 1)) (-9223372036854775808)) by first | rfl | (exact widenLo_yes (by omega) c3) | (exact widenLo_no (by omega) c3) | (exact widenHi_yes (by omega) c6) | (exact widenHi_no (by omega) c6))) .nil))))) ⟨(show (j + 1) ≤ l.length by omega), (show l.length - (j + 1) < l.length - j by omega)⟩
          · have c3 := of_decide_eq_false c3
            refine .skip ?_
            refine .reg (X := Unit) (fun ζ => .of [(2, .one (.d (.sl false 2 1 (List.map i64c (l))))), (3, .one (.ptr [3] (g3) 0)), (4, .one (.ptr [4] (g4) 0)), (6, .one (.ptr [6] (g5) 0)), (7, .one (.ptr [7] (g15) 0)), (8, .one (.d (.v (.int .i64 (IntKind.wrap .i64 ((j : Int) + 1))))))] [([3], (g3, g3, .box [.d (.v (.int .i64 (a.lo))), .d (.v (.int .i64 (a.hi)))])), ([4], (g4, g4, .box [.d (.v (.int .i64 (b.lo))), .d (.v (.int .i64 (b.hi)))])), ([6], (g5, g5, .box [.d (.v (.int .i64 (0))), .d (.v (.int .i64 (0)))])), ([7], (g15, q21, .box [.d (.v (.int .i64 (widenLo b.lo (l.take j) (-9223372036854775808)))), .d (.v (.int .i64 (a.hi)))]))]) [⟨[8], some 35, [], []⟩, ⟨[35], some 36, [], []⟩, ⟨[36], some 8, [], []⟩] (fun k27 => ?_) ?_
            · skip
              refine .move (.no rfl) rfl rfl rfl rfl ?_
              refine .bin (.no rfl) rfl rfl rfl rfl rfl rfl ?_
              refine .assign (.no rfl) rfl rfl rfl rfl ?_
              exact .fin () (.of (.cons rfl (.cons rfl (.cons rfl (.cons rfl (.cons rfl (.cons rfl .nil)))))) (.cons rfl (.cons rfl (.cons rfl (.cons rfl .nil)))))
            intro _
            exact .here ((j + 1), q21) (.of (.cons rfl (.cons rfl (.cons rfl (.cons rfl (.cons rfl (.cons (svI (show (IntKind.wrap .i64 ((j : Int) + 1)) = (((j + 1) : Int)) by first | rfl | omega | exact wrap_le (by omega) (by omega) | (rw [wrap_le (by omega) (by omega)]; omega))) .nil)))))) (.cons rfl (.cons rfl (.cons rfl (.cons (eq1 (fun z1 => some (g15, q21, O.box [.d (.v (.int .i64 (z1))), .d (.v (.int .i64 (a.hi)))])) (show (widenLo b.lo (l.take j) (-9223372036854775808)) = (widenLo b.lo (l.take (j + 1)) (-9223372036854775808)) by first | rfl | (exact widenLo_yes (by omega) c3) | (exact widenLo_no (by omega) c3) | (exact widenHi_yes (by omega) c6) | (exact widenHi_no (by omega) c6))) .nil))))) ⟨(show (j + 1) ≤ l.length by omega), (show l.length - (j + 1) < l.length - j by omega)⟩
        · have c2 := of_decide_eq_false c2
          refine .exit ?_
          refine .seq ?_
          refine .seq ?_
          refine .reg (X := Unit) (fun ζ => .of [(2, .one (.d (.sl false 2 1 (List.map i64c (l))))), (4, .one (.ptr [4] (g4) 0)), (6, .one (.ptr [6] (g5) 0)), (7, .one (.ptr [7] (g15) 0)), (56, .one (.d (.v (.bool (decide (b.hi > a.hi))))))] [([4], (g4, g4, .box [.d (.v (.int .i64 (b.lo))), .d (.v (.int .i64 (b.hi)))])), ([6], (g5, g5, .box [.d (.v (.int .i64 (0))), .d (.v (.int .i64 (0)))])), ([7], (g15, q21, .box [.d (.v (.int .i64 (widenLo b.lo (l.take j) (-9223372036854775808)))), .d (.v (.int .i64 (a.hi)))]))]) [⟨[4], some 52, [], []⟩, ⟨[52], some 53, [[4]], []⟩, ⟨[3], some 54, [], []⟩, ⟨[54], some 55, [[3]], []⟩, ⟨[53, 55], some 56, [], []⟩] (fun k28 => ?_) ?_
          · skip
            refine .fieldAddrP (.no rfl) rfl t39 rfl rfl t2 rfl rfl rfl rfl ?_
            refine .load (.no rfl) rfl t2 rfl rfl (.ptr _ _ _ _ _ rfl) rfl rfl rfl rfl ?_
            refine .fieldAddrP (.no rfl) rfl t39 rfl rfl t2 rfl rfl rfl rfl ?_
            refine .load (.no rfl) rfl t2 rfl rfl (.ptr _ _ _ _ _ rfl) rfl rfl rfl rfl ?_
            refine .bin (.no rfl) rfl rfl rfl rfl rfl rfl ?_
            exact .fin () (.of (.cons rfl (.cons rfl (.cons rfl (.cons rfl (.cons rfl .nil))))) (.cons rfl (.cons rfl (.cons rfl .nil))))
          intro _
          refine .cond (t := decide (b.hi > a.hi)) rfl (fun c4 => ?_) (fun c4 => ?_)
          · have c4 := of_decide_eq_true c4
            refine .seq ?_
            refine .reg (X := Nat) (fun ζ => .of [(2, .one (.d (.sl false 2 1 (List.map i64c (l))))), (4, .one (.ptr [4] (g4) 0)), (6, .one (.ptr [6] (g5) 0)), (7, .one (.ptr [7] (g15) 0))] [([4], (g4, g4, .box [.d (.v (.int .i64 (b.lo))), .d (.v (.int .i64 (b.hi)))])), ([6], (g5, g5, .box [.d (.v (.int .i64 (0))), .d (.v (.int .i64 (0)))])), ([7], (g15, ζ, .box [.d (.v (.int .i64 (widenLo b.lo (l.take j) (-9223372036854775808)))), .d (.v (.int .i64 (9223372036854775807)))]))]) [⟨[7], some 57, [], []⟩, ⟨[57], none, [[7]], [[7]]⟩] (fun k29 => ?_) ?_
            · skip
              refine .fieldAddrP (.no rfl) rfl t39 rfl rfl t2 rfl rfl rfl rfl ?_
              refine .store (.no rfl) rfl t2 rfl rfl rfl rfl rfl rfl rfl rfl rfl ?_
              exact .fin (k29 + 1) (.of (.cons rfl (.cons rfl (.cons rfl (.cons rfl .nil)))) (.cons rfl (.cons rfl (.cons rfl .nil))))
            intro g30
            refine .seq ?_
            refine .reg (X := Unit) (fun ζ => .of [(2, .one (.d (.sl false 2 1 (List.map i64c (l))))), (4, .one (.ptr [4] (g4) 0)), (6, .one (.ptr [6] (g5) 0)), (7, .one (.ptr [7] (g15) 0)), (9, .one (.d (.v (.int .i64 (0)))))] [([4], (g4, g4, .box [.d (.v (.int .i64 (b.lo))), .d (.v (.int .i64 (b.hi)))])), ([6], (g5, g5, .box [.d (.v (.int .i64 (0))), .d (.v (.int .i64 (0)))])), ([7], (g15, g30, .box [.d (.v (.int .i64 (widenLo b.lo (l.take j) (-9223372036854775808)))), .d (.v (.int .i64 (9223372036854775807)))]))]) [⟨[], some 9, [], []⟩] (fun k31 => ?_) ?_
            · skip
              refine .assign (.no rfl) rfl rfl rfl rfl ?_
              exact .fin () (.of (.cons rfl (.cons rfl (.cons rfl (.cons rfl (.cons rfl .nil))))) (.cons rfl (.cons rfl (.cons rfl .nil))))
            intro _
            refine .block ?_
            refine .loop (X := Nat × Nat) (fun ζ => .of [(2, .one (.d (.sl false 2 1 (List.map i64c (l))))), (4, .one (.ptr [4] (g4) 0)), (6, .one (.ptr [6] (g5) 0)), (7, .one (.ptr [7] (g15) 0)), (9, .one (.d (.v (.int .i64 ((ζ.1 : Int))))))] [([4], (g4, g4, .box [.d (.v (.int .i64 (b.lo))), .d (.v (.int .i64 (b.hi)))])), ([6], (g5, g5, .box [.d (.v (.int .i64 (0))), .d (.v (.int .i64 (0)))])), ([7], (g15, ζ.2, .box [.d (.v (.int .i64 (widenLo b.lo (l.take j) (-9223372036854775808)))), .d (.v (.int .i64 (widenHi b.hi (l.take ζ.1) 9223372036854775807)))]))]) (fun ζ => ζ.1 ≤ l.length) (fun ζ => l.length - ζ.1) ?_ ?_
            · skip
              exact .here (0, g30) (.of (.cons rfl (.cons rfl (.cons rfl (.cons rfl (.cons (svI (show (0) = ((0 : Int)) by first | rfl | omega | exact wrap_le (by omega) (by omega) | (rw [wrap_le (by omega) (by omega)]; omega))) .nil))))) (.cons rfl (.cons rfl (.cons (eq1 (fun z1 => some (g15, g30, O.box [.d (.v (.int .i64 (widenLo b.lo (l.take j) (-9223372036854775808)))), .d (.v (.int .i64 (z1)))])) (show (9223372036854775807) = (widenHi b.hi (l.take 0) 9223372036854775807) by first | rfl | (exact widenLo_yes (by omega) c3) | (exact widenLo_no (by omega) c3) | (exact widenHi_yes (by omega) c6) | (exact widenHi_no (by omega) c6))) .nil)))) (show 0 ≤ l.length by omega)
            · rintro ⟨i, q32⟩ hI
              have hI : i ≤ l.length := hI
              have hl9 : l.length ≤ 100 := by omega
              have hj9 := ‹j ≤ l.length›
              refine .seq ?_
              refine .seq ?_
              refine .reg (X := Unit) (fun ζ => .of [(2, .one (.d (.sl false 2 1 (List.map i64c (l))))), (4, .one (.ptr [4] (g4) 0)), (6, .one (.ptr [6] (g5) 0)), (7, .one (.ptr [7] (g15) 0)), (9, .one (.d (.v (.int .i64 ((i : Int)))))), (61, .one (.d (.v (.bool (decide ((i : Int) < (l.length : Int)))))))] [([4], (g4, g4, .box [.d (.v (.int .i64 (b.lo))), .d (.v (.int .i64 (b.hi)))])), ([6], (g5, g5, .box [.d (.v (.int .i64 (0))), .d (.v (.int .i64 (0)))])), ([7], (g15, q32, .box [.d (.v (.int .i64 (widenLo b.lo (l.take j) (-9223372036854775808)))), .d (.v (.int .i64 (widenHi b.hi (l.take i) 9223372036854775807)))]))]) [⟨[9], some 58, [], []⟩, ⟨[2], some 59, [], []⟩, ⟨[59], some 60, [], []⟩, ⟨[58, 60], some 61, [], []⟩] (fun k33 => ?_) ?_
              · skip
                refine .move (.no rfl) rfl rfl rfl rfl ?_
                refine .move (.no rfl) rfl rfl rfl rfl ?_
                refine .len (.no rfl) rfl (z := (l.length : Int)) t31 rfl rfl rfl (.d _ _) (map_len _ _) rfl ?_
                refine .bin (.no rfl) rfl rfl rfl rfl rfl rfl ?_
                exact .fin () (.of (.cons rfl (.cons rfl (.cons rfl (.cons rfl (.cons rfl (.cons rfl .nil)))))) (.cons rfl (.cons rfl (.cons rfl .nil))))
              intro _
              refine .cond (t := decide ((i : Int) < (l.length : Int))) rfl (fun c5 => ?_) (fun c5 => ?_)
              · have c5 := of_decide_eq_true c5
                refine .skip ?_
                refine .seq ?_
                refine .block ?_
                refine .seq ?_
                refine .regD (X := Unit) (by kernel_rfl) (fun ζ => .of [(2, .one (.d (.sl false 2 1 (List.map i64c (l))))), (4, .one (.ptr [4] (g4) 0)), (6, .one (.ptr [6] (g5) 0)), (7, .one (.ptr [7] (g15) 0)), (9, .one (.d (.v (.int .i64 ((i : Int)))))), (70, .one (.d (.v (.bool (decide ((l.getD i default) ≥ b.hi))))))] [([4], (g4, g4, .box [.d (.v (.int .i64 (b.lo))), .d (.v (.int .i64 (b.hi)))])), ([6], (g5, g5, .box [.d (.v (.int .i64 (0))), .d (.v (.int .i64 (0)))])), ([7], (g15, q32, .box [.d (.v (.int .i64 (widenLo b.lo (l.take j) (-9223372036854775808)))), .d (.v (.int .i64 (widenHi b.hi (l.take i) 9223372036854775807)))]))]) [⟨[2], some 64, [], []⟩, ⟨[9], some 65, [], []⟩, ⟨[64, 65], some 66, [], []⟩, ⟨[66], some 67, [], []⟩, ⟨[4], some 68, [], []⟩, ⟨[68], some 69, [[4]], []⟩, ⟨[67, 69], some 70, [], []⟩] (by kernel_rfl) (fun k34 => ?_) ?_
                · skip
                  refine .move (.no rfl) rfl rfl rfl rfl ?_
                  refine .move (.no rfl) rfl rfl rfl rfl ?_
                  refine .indexAddr (.no rfl) rfl (i) t31 rfl t2 rfl rfl rfl (.d _ _) rfl rfl rfl (map_get (by omega)) rfl rfl ?_
                  refine .load (.no rfl) rfl t2 rfl rfl (.d _) rfl rfl rfl rfl ?_
                  refine .fieldAddrP (.no rfl) rfl t39 rfl rfl t2 rfl rfl rfl rfl ?_
                  refine .load (.no rfl) rfl t2 rfl rfl (.ptr _ _ _ _ _ rfl) rfl rfl rfl rfl ?_
                  refine .bin (.no rfl) rfl rfl rfl rfl rfl rfl ?_
                  exact .fin () (.of (.cons rfl (.cons rfl (.cons rfl (.cons rfl (.cons rfl (.cons rfl .nil)))))) (.cons rfl (.cons rfl (.cons rfl .nil))))
                intro _
                refine .cond (t := decide ((l.getD i default) ≥ b.hi)) rfl (fun c6 => ?_) (fun c6 => ?_)
                · have c6 := of_decide_eq_true c6
                  refine .regD (X := Nat) (by kernel_rfl) (fun ζ => .of [(2, .one (.d (.sl false 2 1 (List.map i64c (l))))), (4, .one (.ptr [4] (g4) 0)), (6, .one (.ptr [6] (g5) 0)), (7, .one (.ptr [7] (g15) 0)), (9, .one (.d (.v (.int .i64 ((i : Int))))))] [([4], (g4, g4, .box [.d (.v (.int .i64 (b.lo))), .d (.v (.int .i64 (b.hi)))])), ([6], (g5, g5, .box [.d (.v (.int .i64 (0))), .d (.v (.int .i64 (0)))])), ([7], (g15, ζ, .box [.d (.v (.int .i64 (widenLo b.lo (l.take j) (-9223372036854775808)))), .d (.v (.int .i64 (min (widenHi b.hi (l.take i) 9223372036854775807) (l.getD i default))))]))]) [⟨[7], some 71, [], []⟩, ⟨[71], some 72, [[7]], []⟩, ⟨[2], some 73, [], []⟩, ⟨[9], some 74, [], []⟩, ⟨[73, 74], some 75, [], []⟩, ⟨[75], some 76, [], []⟩, ⟨[72, 76], some 77, [], []⟩, ⟨[7], some 78, [], []⟩, ⟨[78, 77], none, [[7]], [[7]]⟩] (by kernel_rfl) (fun k35 => ?_) ?_
                  · skip
                    refine .fieldAddrP (.no rfl) rfl t39 rfl rfl t2 rfl rfl rfl rfl ?_
                    refine .load (.no rfl) rfl t2 rfl rfl (.ptr _ _ _ _ _ rfl) rfl rfl rfl rfl ?_
                    refine .move (.no rfl) rfl rfl rfl rfl ?_
                    refine .move (.no rfl) rfl rfl rfl rfl ?_
                    refine .indexAddr (.no rfl) rfl (i) t31 rfl t2 rfl rfl rfl (.d _ _) rfl rfl rfl (map_get (by omega)) rfl rfl ?_
                    refine .load (.no rfl) rfl t2 rfl rfl (.d _) rfl rfl rfl rfl ?_
                    refine .min (.no rfl) rfl rfl rfl rfl (min_of _ _) rfl ?_
                    refine .fieldAddrP (.no rfl) rfl t39 rfl rfl t2 rfl rfl rfl rfl ?_
                    refine .store (.no rfl) rfl t2 rfl rfl rfl rfl rfl rfl rfl rfl rfl ?_
                    exact .fin (k35 + 1 + 1 + 1 + 1 + 1 + 1 + 1 + 1) (.of (.cons rfl (.cons rfl (.cons rfl (.cons rfl (.cons rfl .nil))))) (.cons rfl (.cons rfl (.cons rfl .nil))))
                  intro g36
                  refine .reg (X := Unit) (fun ζ => .of [(2, .one (.d (.sl false 2 1 (List.map i64c (l))))), (4, .one (.ptr [4] (g4) 0)), (6, .one (.ptr [6] (g5) 0)), (7, .one (.ptr [7] (g15) 0)), (9, .one (.d (.v (.int .i64 (IntKind.wrap .i64 ((i : Int) + 1))))))] [([4], (g4, g4, .box [.d (.v (.int .i64 (b.lo))), .d (.v (.int .i64 (b.hi)))])), ([6], (g5, g5, .box [.d (.v (.int .i64 (0))), .d (.v (.int .i64 (0)))])), ([7], (g15, g36, .box [.d (.v (.int .i64 (widenLo b.lo (l.take j) (-9223372036854775808)))), .d (.v (.int .i64 (min (widenHi b.hi (l.take i) 9223372036854775807) (l.getD i default))))]))]) [⟨[9], some 62, [], []⟩, ⟨[62], some 63, [], []⟩, ⟨[63], some 9, [], []⟩] (fun k37 => ?_) ?_
                  · skip
                    refine .move (.no rfl) rfl rfl rfl rfl ?_
                    refine .bin (.no rfl) rfl rfl rfl rfl rfl rfl ?_
                    refine .assign (.no rfl) rfl rfl rfl rfl ?_
                    exact .fin () (.of (.cons rfl (.cons rfl (.cons rfl (.cons rfl (.cons rfl .nil))))) (.cons rfl (.cons rfl (.cons rfl .nil))))
                  intro _
                  exact .here ((i + 1), g36) (.of (.cons rfl (.cons rfl (.cons rfl (.cons rfl (.cons (svI (show (IntKind.wrap .i64 ((i : Int) + 1)) = (((i + 1) : Int)) by first | rfl | omega | exact wrap_le (by omega) (by omega) | (rw [wrap_le (by omega) (by omega)]; omega))) .nil))))) (.cons rfl (.cons rfl (.cons (eq1 (fun z1 => some (g15, g36, O.box [.d (.v (.int .i64 (widenLo b.lo (l.take j) (-9223372036854775808)))), .d (.v (.int .i64 (z1)))])) (show (min (widenHi b.hi (l.take i) 9223372036854775807) (l.getD i default)) = (widenHi b.hi (l.take (i + 1)) 9223372036854775807) by first | rfl | (exact widenLo_yes (by omega) c3) | (exact widenLo_no (by omega) c3) | (exact widenHi_yes (by omega) c6) | (exact widenHi_no (by omega) c6))) .nil)))) ⟨(show (i + 1) ≤ l.length by omega), (show l.length - (i + 1) < l.length - i by omega)⟩
                · have c6 := of_decide_eq_false c6
                  refine .skip ?_
                  refine .reg (X := Unit) (fun ζ => .of [(2, .one (.d (.sl false 2 1 (List.map i64c (l))))), (4, .one (.ptr [4] (g4) 0)), (6, .one (.ptr [6] (g5) 0)), (7, .one (.ptr [7] (g15) 0)), (9, .one (.d (.v (.int .i64 (IntKind.wrap .i64 ((i : Int) + 1))))))] [([4], (g4, g4, .box [.d (.v (.int .i64 (b.lo))), .d (.v (.int .i64 (b.hi)))])), ([6], (g5, g5, .box [.d (.v (.int .i64 (0))), .d (.v (.int .i64 (0)))])), ([7], (g15, q32, .box [.d (.v (.int .i64 (widenLo b.lo (l.take j) (-9223372036854775808)))), .d (.v (.int .i64 (widenHi b.hi (l.take i) 9223372036854775807)))]))]) [⟨[9], some 62, [], []⟩, ⟨[62], some 63, [], []⟩, ⟨[63], some 9, [], []⟩] (fun k38 => ?_) ?_
                  · skip
                    refine .move (.no rfl) rfl rfl rfl rfl ?_
                    refine .bin (.no rfl) rfl rfl rfl rfl rfl rfl ?_
                    refine .assign (.no rfl) rfl rfl rfl rfl ?_
                    exact .fin () (.of (.cons rfl (.cons rfl (.cons rfl (.cons rfl (.cons rfl .nil))))) (.cons rfl (.cons rfl (.cons rfl .nil))))
                  intro _
                  exact .here ((i + 1), q32) (.of (.cons rfl (.cons rfl (.cons rfl (.cons rfl (.cons (svI (show (IntKind.wrap .i64 ((i : Int) + 1)) = (((i + 1) : Int)) by first | rfl | omega | exact wrap_le (by omega) (by omega) | (rw [wrap_le (by omega) (by omega)]; omega))) .nil))))) (.cons rfl (.cons rfl (.cons (eq1 (fun z1 => some (g15, q32, O.box [.d (.v (.int .i64 (widenLo b.lo (l.take j) (-9223372036854775808)))), .d (.v (.int .i64 (z1)))])) (show (widenHi b.hi (l.take i) 9223372036854775807) = (widenHi b.hi (l.take (i + 1)) 9223372036854775807) by first | rfl | (exact widenLo_yes (by omega) c3) | (exact widenLo_no (by omega) c3) | (exact widenHi_yes (by omega) c6) | (exact widenHi_no (by omega) c6))) .nil)))) ⟨(show (i + 1) ≤ l.length by omega), (show l.length - (i + 1) < l.length - i by omega)⟩
              · have c5 := of_decide_eq_false c5
                refine .exit ?_
                refine .seq ?_
                refine .reg (X := Nat) (fun ζ => .of [(6, .one (.ptr [6] (g5) 0))] [([6], (g5, ζ, .box [.d (.v (.int .i64 (widenLo b.lo (l.take j) (-9223372036854775808)))), .d (.v (.int .i64 (widenHi b.hi (l.take i) 9223372036854775807)))]))]) [⟨[7], some 79, [[7]], []⟩, ⟨[6, 79], none, [[6]], [[6]]⟩] (fun k39 => ?_) ?_
                · skip
                  refine .load (.no rfl) rfl t39 rfl rfl (.ptr _ _ _ _ _ rfl) rfl rfl rfl rfl ?_
                  refine .store (.no rfl) rfl t39 rfl rfl rfl rfl rfl rfl rfl rfl rfl ?_
                  exact .fin (k39 + 1) (.of (.cons rfl .nil) (.cons rfl .nil))
                intro g40
                refine .ret ?_
                have e41 : (widenLo b.lo (l.take j) (-9223372036854775808)) = ((Iv.widenOk l a b).lo) := by (rw [Iv.widenOk_yes c0]; simp only [Iv.widen]; first | (rw [List.take_of_length_le (by omega), if_pos c1]; done) | (rw [List.take_of_length_le (by omega), if_pos c4]; done))
                have e42 : (widenHi b.hi (l.take i) 9223372036854775807) = ((Iv.widenOk l a b).hi) := by (rw [Iv.widenOk_yes c0]; simp only [Iv.widen]; first | (rw [List.take_of_length_le (by omega), if_pos c1]; done) | (rw [List.take_of_length_le (by omega), if_pos c4]; done))
                have hc43 := eq2 (fun z1 z2 => some (g5, g40, O.box [.d (.v (.int .i64 (z1))), .d (.v (.int .i64 (z2)))])) e41 e42
                show _ ∧ _
                exact ⟨.inr rfl, .done ⟨_, [], [], _, .cell (cells := [.d (.v (.int .i64 ((Iv.widenOk l a b).lo))), .d (.v (.int .i64 ((Iv.widenOk l a b).hi)))]) rfl hc43 t39 rfl rfl .nil, .cons (Reads.d _).gives (.cons (Reads.d _).gives .nil), nodupB_ok rfl, by simp, (by simp)⟩⟩
          · have c4 := of_decide_eq_false c4
            refine .skip ?_
            refine .seq ?_
            refine .reg (X := Nat) (fun ζ => .of [(6, .one (.ptr [6] (g5) 0))] [([6], (g5, ζ, .box [.d (.v (.int .i64 (widenLo b.lo (l.take j) (-9223372036854775808)))), .d (.v (.int .i64 (a.hi)))]))]) [⟨[7], some 79, [[7]], []⟩, ⟨[6, 79], none, [[6]], [[6]]⟩] (fun k44 => ?_) ?_
            · skip
              refine .load (.no rfl) rfl t39 rfl rfl (.ptr _ _ _ _ _ rfl) rfl rfl rfl rfl ?_
              refine .store (.no rfl) rfl t39 rfl rfl rfl rfl rfl rfl rfl rfl rfl ?_
              exact .fin (k44 + 1) (.of (.cons rfl .nil) (.cons rfl .nil))
            intro g45
            refine .ret ?_
            have e46 : (widenLo b.lo (l.take j) (-9223372036854775808)) = ((Iv.widenOk l a b).lo) := by (rw [Iv.widenOk_yes c0]; simp only [Iv.widen]; first | (rw [List.take_of_length_le (by omega), if_pos c1]; done) | (rw [if_neg c4]; done))
            have e47 : (a.hi) = ((Iv.widenOk l a b).hi) := by (rw [Iv.widenOk_yes c0]; simp only [Iv.widen]; first | (rw [List.take_of_length_le (by omega), if_pos c1]; done) | (rw [if_neg c4]; done))
            have hc48 := eq2 (fun z1 z2 => some (g5, g45, O.box [.d (.v (.int .i64 (z1))), .d (.v (.int .i64 (z2)))])) e46 e47
            show _ ∧ _
            exact ⟨.inr rfl, .done ⟨_, [], [], _, .cell (cells := [.d (.v (.int .i64 ((Iv.widenOk l a b).lo))), .d (.v (.int .i64 ((Iv.widenOk l a b).hi)))]) rfl hc48 t39 rfl rfl .nil, .cons (Reads.d _).gives (.cons (Reads.d _).gives .nil), nodupB_ok rfl, by simp, (by simp)⟩⟩
    · have c1 := of_decide_eq_false c1
      refine .skip ?_
      refine .seq ?_
      refine .seq ?_
      refine .reg (X := Unit) (fun ζ => .of [(2, .one (.d (.sl false 2 1 (List.map i64c (l))))), (4, .one (.ptr [4] (g4) 0)), (6, .one (.ptr [6] (g5) 0)), (7, .one (.ptr [7] (g15) 0)), (56, .one (.d (.v (.bool (decide (b.hi > a.hi))))))] [([4], (g4, g4, .box [.d (.v (.int .i64 (b.lo))), .d (.v (.int .i64 (b.hi)))])), ([6], (g5, g5, .box [.d (.v (.int .i64 (0))), .d (.v (.int .i64 (0)))])), ([7], (g15, g16, .box [.d (.v (.int .i64 (a.lo))), .d (.v (.int .i64 (a.hi)))]))]) [⟨[4], some 52, [], []⟩, ⟨[52], some 53, [[4]], []⟩, ⟨[3], some 54, [], []⟩, ⟨[54], some 55, [[3]], []⟩, ⟨[53, 55], some 56, [], []⟩] (fun k49 => ?_) ?_
      · skip
        refine .fieldAddrP (.no rfl) rfl t39 rfl rfl t2 rfl rfl rfl rfl ?_
        refine .load (.no rfl) rfl t2 rfl rfl (.ptr _ _ _ _ _ rfl) rfl rfl rfl rfl ?_
        refine .fieldAddrP (.no rfl) rfl t39 rfl rfl t2 rfl rfl rfl rfl ?_
        refine .load (.no rfl) rfl t2 rfl rfl (.ptr _ _ _ _ _ rfl) rfl rfl rfl rfl ?_
        refine .bin (.no rfl) rfl rfl rfl rfl rfl rfl ?_
        exact .fin () (.of (.cons rfl (.cons rfl (.cons rfl (.cons rfl (.cons rfl .nil))))) (.cons rfl (.cons rfl (.cons rfl .nil))))
      intro _
      refine .cond (t := decide (b.hi > a.hi)) rfl (fun c4 => ?_) (fun c4 => ?_)
      · have c4 := of_decide_eq_true c4
        refine .seq ?_
        refine .reg (X := Nat) (fun ζ => .of [(2, .one (.d (.sl false 2 1 (List.map i64c (l))))), (4, .one (.ptr [4] (g4) 0)), (6, .one (.ptr [6] (g5) 0)), (7, .one (.ptr [7] (g15) 0))] [([4], (g4, g4, .box [.d (.v (.int .i64 (b.lo))), .d (.v (.int .i64 (b.hi)))])), ([6], (g5, g5, .box [.d (.v (.int .i64 (0))), .d (.v (.int .i64 (0)))])), ([7], (g15, ζ, .box [.d (.v (.int .i64 (a.lo))), .d (.v (.int .i64 (9223372036854775807)))]))]) [⟨[7], some 57, [], []⟩, ⟨[57], none, [[7]], [[7]]⟩] (fun k50 => ?_) ?_
        · skip
          refine .fieldAddrP (.no rfl) rfl t39 rfl rfl t2 rfl rfl rfl rfl ?_
          refine .store (.no rfl) rfl t2 rfl rfl rfl rfl rfl rfl rfl rfl rfl ?_
          exact .fin (k50 + 1) (.of (.cons rfl (.cons rfl (.cons rfl (.cons rfl .nil)))) (.cons rfl (.cons rfl (.cons rfl .nil))))
        intro g51
        refine .seq ?_
        refine .reg (X := Unit) (fun ζ => .of [(2, .one (.d (.sl false 2 1 (List.map i64c (l))))), (4, .one (.ptr [4] (g4) 0)), (6, .one (.ptr [6] (g5) 0)), (7, .one (.ptr [7] (g15) 0)), (9, .one (.d (.v (.int .i64 (0)))))] [([4], (g4, g4, .box [.d (.v (.int .i64 (b.lo))), .d (.v (.int .i64 (b.hi)))])), ([6], (g5, g5, .box [.d (.v (.int .i64 (0))), .d (.v (.int .i64 (0)))])), ([7], (g15, g51, .box [.d (.v (.int .i64 (a.lo))), .d (.v (.int .i64 (9223372036854775807)))]))]) [⟨[], some 9, [], []⟩] (fun k52 => ?_) ?_
        · skip
          refine .assign (.no rfl) rfl rfl rfl rfl ?_
          exact .fin () (.of (.cons rfl (.cons rfl (.cons rfl (.cons rfl (.cons rfl .nil))))) (.cons rfl (.cons rfl (.cons rfl .nil))))
        intro _
        refine .block ?_
        refine .loop (X := Nat × Nat) (fun ζ => .of [(2, .one (.d (.sl false 2 1 (List.map i64c (l))))), (4, .one (.ptr [4] (g4) 0)), (6, .one (.ptr [6] (g5) 0)), (7, .one (.ptr [7] (g15) 0)), (9, .one (.d (.v (.int .i64 ((ζ.1 : Int))))))] [([4], (g4, g4, .box [.d (.v (.int .i64 (b.lo))), .d (.v (.int .i64 (b.hi)))])), ([6], (g5, g5, .box [.d (.v (.int .i64 (0))), .d (.v (.int .i64 (0)))])), ([7], (g15, ζ.2, .box [.d (.v (.int .i64 (a.lo))), .d (.v (.int .i64 (widenHi b.hi (l.take ζ.1) 9223372036854775807)))]))]) (fun ζ => ζ.1 ≤ l.length) (fun ζ => l.length - ζ.1) ?_ ?_
        · skip
          exact .here (0, g51) (.of (.cons rfl (.cons rfl (.cons rfl (.cons rfl (.cons (svI (show (0) = ((0 : Int)) by first | rfl | omega | exact wrap_le (by omega) (by omega) | (rw [wrap_le (by omega) (by omega)]; omega))) .nil))))) (.cons rfl (.cons rfl (.cons (eq1 (fun z1 => some (g15, g51, O.box [.d (.v (.int .i64 (a.lo))), .d (.v (.int .i64 (z1)))])) (show (9223372036854775807) = (widenHi b.hi (l.take 0) 9223372036854775807) by first | rfl | (exact widenLo_yes (by omega) c3) | (exact widenLo_no (by omega) c3) | (exact widenHi_yes (by omega) c6) | (exact widenHi_no (by omega) c6))) .nil)))) (show 0 ≤ l.length by omega)
        · rintro ⟨i, q53⟩ hI
          have hI : i ≤ l.length := hI
          have hl9 : l.length ≤ 100 := by omega
          refine .seq ?_
          refine .seq ?_
          refine .reg (X := Unit) (fun ζ => .of [(2, .one (.d (.sl false 2 1 (List.map i64c (l))))), (4, .one (.ptr [4] (g4) 0)), (6, .one (.ptr [6] (g5) 0)), (7, .one (.ptr [7] (g15) 0)), (9, .one (.d (.v (.int .i64 ((i : Int)))))), (61, .one (.d (.v (.bool (decide ((i : Int) < (l.length : Int)))))))] [([4], (g4, g4, .box [.d (.v (.int .i64 (b.lo))), .d (.v (.int .i64 (b.hi)))])), ([6], (g5, g5, .box [.d (.v (.int .i64 (0))), .d (.v (.int .i64 (0)))])), ([7], (g15, q53, .box [.d (.v (.int .i64 (a.lo))), .d (.v (.int .i64 (widenHi b.hi (l.take i) 9223372036854775807)))]))]) [⟨[9], some 58, [], []⟩, ⟨[2], some 59, [], []⟩, ⟨[59], some 60, [], []⟩, ⟨[58, 60], some 61, [], []⟩] (fun k54 => ?_) ?_
          · skip
            refine .move (.no rfl) rfl rfl rfl rfl ?_
            refine .move (.no rfl) rfl rfl rfl rfl ?_
            refine .len (.no rfl) rfl (z := (l.length : Int)) t31 rfl rfl rfl (.d _ _) (map_len _ _) rfl ?_
            refine .bin (.no rfl) rfl rfl rfl rfl rfl rfl ?_
            exact .fin () (.of (.cons rfl (.cons rfl (.cons rfl (.cons rfl (.cons rfl (.cons rfl .nil)))))) (.cons rfl (.cons rfl (.cons rfl .nil))))
          intro _
          refine .cond (t := decide ((i : Int) < (l.length : Int))) rfl (fun c5 => ?_) (fun c5 => ?_)
          · have c5 := of_decide_eq_true c5
            refine .skip ?_
            refine .seq ?_
            refine .block ?_
            refine .seq ?_
            refine .regD (X := Unit) (by kernel_rfl) (fun ζ => .of [(2, .one (.d (.sl false 2 1 (List.map i64c (l))))), (4, .one (.ptr [4] (g4) 0)), (6, .one (.ptr [6] (g5) 0)), (7, .one (.ptr [7] (g15) 0)), (9, .one (.d (.v (.int .i64 ((i : Int)))))), (70, .one (.d (.v (.bool (decide ((l.getD i default) ≥ b.hi))))))] [([4], (g4, g4, .box [.d (.v (.int .i64 (b.lo))), .d (.v (.int .i64 (b.hi)))])), ([6], (g5, g5, .box [.d (.v (.int .i64 (0))), .d (.v (.int .i64 (0)))])), ([7], (g15, q53, .box [.d (.v (.int .i64 (a.lo))), .d (.v (.int .i64 (widenHi b.hi (l.take i) 9223372036854775807)))]))]) [⟨[2], some 64, [], []⟩, ⟨[9], some 65, [], []⟩, ⟨[64, 65], some 66, [], []⟩, ⟨[66], some 67, [], []⟩, ⟨[4], some 68, [], []⟩, ⟨[68], some 69, [[4]], []⟩, ⟨[67, 69], some 70, [], []⟩] (by kernel_rfl) (fun k55 => ?_) ?_
            · skip
              refine .move (.no rfl) rfl rfl rfl rfl ?_
              refine .move (.no rfl) rfl rfl rfl rfl ?_
              refine .indexAddr (.no rfl) rfl (i) t31 rfl t2 rfl rfl rfl (.d _ _) rfl rfl rfl (map_get (by omega)) rfl rfl ?_
              refine .load (.no rfl) rfl t2 rfl rfl (.d _) rfl rfl rfl rfl ?_
              refine .fieldAddrP (.no rfl) rfl t39 rfl rfl t2 rfl rfl rfl rfl ?_
              refine .load (.no rfl) rfl t2 rfl rfl (.ptr _ _ _ _ _ rfl) rfl rfl rfl rfl ?_
              refine .bin (.no rfl) rfl rfl rfl rfl rfl rfl ?_
              exact .fin () (.of (.cons rfl (.cons rfl (.cons rfl (.cons rfl (.cons rfl (.cons rfl .nil)))))) (.cons rfl (.cons rfl (.cons rfl .nil))))
            intro _
            refine .cond (t := decide ((l.getD i default) ≥ b.hi)) rfl (fun c6 => ?_) (fun c6 => ?_)
            · have c6 := of_decide_eq_true c6
              refine .regD (X := Nat) (by kernel_rfl) (fun ζ => .of [(2, .one (.d (.sl false 2 1 (List.map i64c (l))))), (4, .one (.ptr [4] (g4) 0)), (6, .one (.ptr [6] (g5) 0)), (7, .one (.ptr [7] (g15) 0)), (9, .one (.d (.v (.int .i64 ((i : Int))))))] [([4], (g4, g4, .box [.d (.v (.int .i64 (b.lo))), .d (.v (.int .i64 (b.hi)))])), ([6], (g5, g5, .box [.d (.v (.int .i64 (0))), .d (.v (.int .i64 (0)))])), ([7], (g15, ζ, .box [.d (.v (.int .i64 (a.lo))), .d (.v (.int .i64 (min (widenHi b.hi (l.take i) 9223372036854775807) (l.getD i default))))]))]) [⟨[7], some 71, [], []⟩, ⟨[71], some 72, [[7]], []⟩, ⟨[2], some 73, [], []⟩, ⟨[9], some 74, [], []⟩, ⟨[73, 74], some 75, [], []⟩, ⟨[75], some 76, [], []⟩, ⟨[72, 76], some 77, [], []⟩, ⟨[7], some 78, [], []⟩, ⟨[78, 77], none, [[7]], [[7]]⟩] (by kernel_rfl) (fun k56 => ?_) ?_
              · skip
                refine .fieldAddrP (.no rfl) rfl t39 rfl rfl t2 rfl rfl rfl rfl ?_
                refine .load (.no rfl) rfl t2 rfl rfl (.ptr _ _ _ _ _ rfl) rfl rfl rfl rfl ?_
                refine .move (.no rfl) rfl rfl rfl rfl ?_
                refine .move (.no rfl) rfl rfl rfl rfl ?_
                refine .indexAddr (.no rfl) rfl (i) t31 rfl t2 rfl rfl rfl (.d _ _) rfl rfl rfl (map_get (by omega)) rfl rfl ?_
                refine .load (.no rfl) rfl t2 rfl rfl (.d _) rfl rfl rfl rfl ?_
                refine .min (.no rfl) rfl rfl rfl rfl (min_of _ _) rfl ?_
                refine .fieldAddrP (.no rfl) rfl t39 rfl rfl t2 rfl rfl rfl rfl ?_
                refine .store (.no rfl) rfl t2 rfl rfl rfl rfl rfl rfl rfl rfl rfl ?_
                exact .fin (k56 + 1 + 1 + 1 + 1 + 1 + 1 + 1 + 1) (.of (.cons rfl (.cons rfl (.cons rfl (.cons rfl (.cons rfl .nil))))) (.cons rfl (.cons rfl (.cons rfl .nil))))
              intro g57
              refine .reg (X := Unit) (fun ζ => .of [(2, .one (.d (.sl false 2 1 (List.map i64c (l))))), (4, .one (.ptr [4] (g4) 0)), (6, .one (.ptr [6] (g5) 0)), (7, .one (.ptr [7] (g15) 0)), (9, .one (.d (.v (.int .i64 (IntKind.wrap .i64 ((i : Int) + 1))))))] [([4], (g4, g4, .box [.d (.v (.int .i64 (b.lo))), .d (.v (.int .i64 (b.hi)))])), ([6], (g5, g5, .box [.d (.v (.int .i64 (0))), .d (.v (.int .i64 (0)))])), ([7], (g15, g57, .box [.d (.v (.int .i64 (a.lo))), .d (.v (.int .i64 (min (widenHi b.hi (l.take i) 9223372036854775807) (l.getD i default))))]))]) [⟨[9], some 62, [], []⟩, ⟨[62], some 63, [], []⟩, ⟨[63], some 9, [], []⟩] (fun k58 => ?_) ?_
              · skip
                refine .move (.no rfl) rfl rfl rfl rfl ?_
                refine .bin (.no rfl) rfl rfl rfl rfl rfl rfl ?_
                refine .assign (.no rfl) rfl rfl rfl rfl ?_
                exact .fin () (.of (.cons rfl (.cons rfl (.cons rfl (.cons rfl (.cons rfl .nil))))) (.cons rfl (.cons rfl (.cons rfl .nil))))
              intro _
              exact .here ((i + 1), g57) (.of (.cons rfl (.cons rfl (.cons rfl (.cons rfl (.cons (svI (show (IntKind.wrap .i64 ((i : Int) + 1)) = (((i + 1) : Int)) by first | rfl | omega | exact wrap_le (by omega) (by omega) | (rw [wrap_le (by omega) (by omega)]; omega))) .nil))))) (.cons rfl (.cons rfl (.cons (eq1 (fun z1 => some (g15, g57, O.box [.d (.v (.int .i64 (a.lo))), .d (.v (.int .i64 (z1)))])) (show (min (widenHi b.hi (l.take i) 9223372036854775807) (l.getD i default)) = (widenHi b.hi (l.take (i + 1)) 9223372036854775807) by first | rfl | (exact widenLo_yes (by omega) c3) | (exact widenLo_no (by omega) c3) | (exact widenHi_yes (by omega) c6) | (exact widenHi_no (by omega) c6))) .nil)))) ⟨(show (i + 1) ≤ l.length by omega), (show l.length - (i + 1) < l.length - i by omega)⟩
            · have c6 := of_decide_eq_false c6
              refine .skip ?_
              refine .reg (X := Unit) (fun ζ => .of [(2, .one (.d (.sl false 2 1 (List.map i64c (l))))), (4, .one (.ptr [4] (g4) 0)), (6, .one (.ptr [6] (g5) 0)), (7, .one (.ptr [7] (g15) 0)), (9, .one (.d (.v (.int .i64 (IntKind.wrap .i64 ((i : Int) + 1))))))] [([4], (g4, g4, .box [.d (.v (.int .i64 (b.lo))), .d (.v (.int .i64 (b.hi)))])), ([6], (g5, g5, .box [.d (.v (.int .i64 (0))), .d (.v (.int .i64 (0)))])), ([7], (g15, q53, .box [.d (.v (.int .i64 (a.lo))), .d (.v (.int .i64 (widenHi b.hi (l.take i) 9223372036854775807)))]))]) [⟨[9], some 62, [], []⟩, ⟨[62], some 63, [], []⟩, ⟨[63], some 9, [], []⟩] (fun k59 => ?_) ?_
              · skip
                refine .move (.no rfl) rfl rfl rfl rfl ?_
                refine .bin (.no rfl) rfl rfl rfl rfl rfl rfl ?_
                refine .assign (.no rfl) rfl rfl rfl rfl ?_
                exact .fin () (.of (.cons rfl (.cons rfl (.cons rfl (.cons rfl (.cons rfl .nil))))) (.cons rfl (.cons rfl (.cons rfl .nil))))
              intro _
              exact .here ((i + 1), q53) (.of (.cons rfl (.cons rfl (.cons rfl (.cons rfl (.cons (svI (show (IntKind.wrap .i64 ((i : Int) + 1)) = (((i + 1) : Int)) by first | rfl | omega | exact wrap_le (by omega) (by omega) | (rw [wrap_le (by omega) (by omega)]; omega))) .nil))))) (.cons rfl (.cons rfl (.cons (eq1 (fun z1 => some (g15, q53, O.box [.d (.v (.int .i64 (a.lo))), .d (.v (.int .i64 (z1)))])) (show (widenHi b.hi (l.take i) 9223372036854775807) = (widenHi b.hi (l.take (i + 1)) 9223372036854775807) by first | rfl | (exact widenLo_yes (by omega) c3) | (exact widenLo_no (by omega) c3) | (exact widenHi_yes (by omega) c6) | (exact widenHi_no (by omega) c6))) .nil)))) ⟨(show (i + 1) ≤ l.length by omega), (show l.length - (i + 1) < l.length - i by omega)⟩
          · have c5 := of_decide_eq_false c5
            refine .exit ?_
            refine .seq ?_
            refine .reg (X := Nat) (fun ζ => .of [(6, .one (.ptr [6] (g5) 0))] [([6], (g5, ζ, .box [.d (.v (.int .i64 (a.lo))), .d (.v (.int .i64 (widenHi b.hi (l.take i) 9223372036854775807)))]))]) [⟨[7], some 79, [[7]], []⟩, ⟨[6, 79], none, [[6]], [[6]]⟩] (fun k60 => ?_) ?_
            · skip
              refine .load (.no rfl) rfl t39 rfl rfl (.ptr _ _ _ _ _ rfl) rfl rfl rfl rfl ?_
              refine .store (.no rfl) rfl t39 rfl rfl rfl rfl rfl rfl rfl rfl rfl ?_
              exact .fin (k60 + 1) (.of (.cons rfl .nil) (.cons rfl .nil))
            intro g61
            refine .ret ?_
            have e62 : (a.lo) = ((Iv.widenOk l a b).lo) := by (rw [Iv.widenOk_yes c0]; simp only [Iv.widen]; first | (rw [if_neg c1]; done) | (rw [List.take_of_length_le (by omega), if_pos c4]; done))
            have e63 : (widenHi b.hi (l.take i) 9223372036854775807) = ((Iv.widenOk l a b).hi) := by (rw [Iv.widenOk_yes c0]; simp only [Iv.widen]; first | (rw [if_neg c1]; done) | (rw [List.take_of_length_le (by omega), if_pos c4]; done))
            have hc64 := eq2 (fun z1 z2 => some (g5, g61, O.box [.d (.v (.int .i64 (z1))), .d (.v (.int .i64 (z2)))])) e62 e63
            show _ ∧ _
            exact ⟨.inr rfl, .done ⟨_, [], [], _, .cell (cells := [.d (.v (.int .i64 ((Iv.widenOk l a b).lo))), .d (.v (.int .i64 ((Iv.widenOk l a b).hi)))]) rfl hc64 t39 rfl rfl .nil, .cons (Reads.d _).gives (.cons (Reads.d _).gives .nil), nodupB_ok rfl, by simp, (by simp)⟩⟩
      · have c4 := of_decide_eq_false c4
        refine .skip ?_
        refine .seq ?_
        refine .reg (X := Nat) (fun ζ => .of [(6, .one (.ptr [6] (g5) 0))] [([6], (g5, ζ, .box [.d (.v (.int .i64 (a.lo))), .d (.v (.int .i64 (a.hi)))]))]) [⟨[7], some 79, [[7]], []⟩, ⟨[6, 79], none, [[6]], [[6]]⟩] (fun k65 => ?_) ?_
        · skip
          refine .load (.no rfl) rfl t39 rfl rfl (.ptr _ _ _ _ _ rfl) rfl rfl rfl rfl ?_
          refine .store (.no rfl) rfl t39 rfl rfl rfl rfl rfl rfl rfl rfl rfl ?_
          exact .fin (k65 + 1) (.of (.cons rfl .nil) (.cons rfl .nil))
        intro g66
        refine .ret ?_
        have e67 : (a.lo) = ((Iv.widenOk l a b).lo) := by (rw [Iv.widenOk_yes c0]; simp only [Iv.widen]; first | (rw [if_neg c1]; done) | (rw [if_neg c4]; done))
        have e68 : (a.hi) = ((Iv.widenOk l a b).hi) := by (rw [Iv.widenOk_yes c0]; simp only [Iv.widen]; first | (rw [if_neg c1]; done) | (rw [if_neg c4]; done))
        have hc69 := eq2 (fun z1 z2 => some (g5, g66, O.box [.d (.v (.int .i64 (z1))), .d (.v (.int .i64 (z2)))])) e67 e68
        show _ ∧ _
        exact ⟨.inr rfl, .done ⟨_, [], [], _, .cell (cells := [.d (.v (.int .i64 ((Iv.widenOk l a b).lo))), .d (.v (.int .i64 ((Iv.widenOk l a b).hi)))]) rfl hc69 t39 rfl rfl .nil, .cons (Reads.d _).gives (.cons (Reads.d _).gives .nil), nodupB_ok rfl, by simp, (by simp)⟩⟩
theorem c_IvWiden (a : Iv) (b : Iv) (l : List Int) : Trip Tryd.prog 96 [(true, 2), (true, 2), (false, 1)] (Iv.c a ++ Iv.c b ++ [.sl false 2 1 (List.map i64c (l))]) [(true, 2)] [.v (.int .i64 ((Iv.widenOk l a b).lo)), .v (.int .i64 ((Iv.widenOk l a b).hi))] [] := by
  refine Trip.of Tryd.func96 (by decide) (c := _) rfl rfl (shB_ok rfl) (Nat.le_of_ble_eq_true rfl) rfl (AftOk.nil _) ?_
  refine .sat (t := 2) rfl (fun hs1 => ?_)
  have hs1l : l.length ≤ 9223372036854775807 := hs1.maplen
  refine .seq ?_
  refine .reg (X := Nat × Nat × Nat) (fun ζ => .of [(2, .one (.d (.sl false 2 1 (List.map i64c (l))))), (3, .one (.ptr [3] (ζ.1) 0)), (4, .one (.ptr [4] (ζ.2.1) 0)), (6, .one (.ptr [6] (ζ.2.2) 0))] [([3], (ζ.1, ζ.1, .box [.d (.v (.int .i64 (a.lo))), .d (.v (.int .i64 (a.hi)))])), ([4], (ζ.2.1, ζ.2.1, .box [.d (.v (.int .i64 (b.lo))), .d (.v (.int .i64 (b.hi)))])), ([6], (ζ.2.2, ζ.2.2, .box [.d (.v (.int .i64 (0))), .d (.v (.int .i64 (0)))]))]) [⟨[0], some 3, [], [[3]]⟩, ⟨[1], some 4, [], [[4]]⟩, ⟨[], some 6, [], [[6]]⟩] (fun k2 => ?_) ?_
  · skip
    refine .box (.no rfl) rfl rfl rfl rfl rfl ?_
    refine .box (.no rfl) rfl rfl rfl rfl rfl ?_
    refine .alloc (.no rfl) rfl z39 rfl rfl rfl ?_
    exact .fin (k2, k2 + 1, k2 + 1 + 1) (.of (.cons rfl (.cons rfl (.cons rfl (.cons rfl .nil)))) (.cons rfl (.cons rfl (.cons rfl .nil))))
  rintro ⟨g3, g4, g5⟩
  refine .seq ?_
  refine .seq ?_
  refine .reg (X := Unit) (fun ζ => .of [(2, .one (.d (.sl false 2 1 (List.map i64c (l))))), (3, .one (.ptr [3] (g3) 0)), (4, .one (.ptr [4] (g4) 0)), (6, .one (.ptr [6] (g5) 0)), (20, .one (.d (.v (.bool ((!(Iv.ok a && Iv.ok b) || decide ((l.length : Int) > 100)))))))] [([3], (g3, g3, .box [.d (.v (.int .i64 (a.lo))), .d (.v (.int .i64 (a.hi)))])), ([4], (g4, g4, .box [.d (.v (.int .i64 (b.lo))), .d (.v (.int .i64 (b.hi)))])), ([6], (g5, g5, .box [.d (.v (.int .i64 (0))), .d (.v (.int .i64 (0)))]))]) [⟨[3], some 12, [[3]], []⟩, ⟨[4], some 13, [[4]], []⟩, ⟨[12, 13], some 14, [], []⟩, ⟨[14], some 15, [], []⟩, ⟨[15], some 16, [], []⟩, ⟨[16, 2], some 17, [], []⟩, ⟨[16, 17], some 18, [], []⟩, ⟨[16, 18], some 19, [], []⟩, ⟨[16, 19], some 20, [], []⟩] (fun k6 => ?_) ?_
  · skip
    refine .load (.no rfl) rfl t39 rfl rfl (.ptr _ _ _ _ _ rfl) rfl rfl rfl rfl ?_
    refine .load (.no rfl) rfl t39 rfl rfl (.ptr _ _ _ _ _ rfl) rfl rfl rfl rfl ?_
    refine .call (.no rfl) rfl [] [] (c_areIvs a b) rfl rfl rfl rfl rfl (.cons (Reads.d _).gives (.cons (Reads.d _).gives (.cons (Reads.d _).gives (.cons (Reads.d _).gives .nil)))) rfl rfl (fun h => absurd rfl h) (.own [14, 0] .nil) (.nil) rfl rfl rfl (by simp) rfl rfl rfl ?_
    refine .un (.no rfl) rfl rfl rfl rfl rfl ?_
    refine .moveB (.no rfl) rfl rfl rfl rfl fun b7 g1_4 => ?_
    cases b7
    · skip
      refine .move (.on rfl rfl rfl rfl rfl) rfl rfl rfl rfl ?_
      refine .len (.on rfl rfl rfl rfl rfl) rfl (z := (l.length : Int)) t31 rfl rfl rfl (.d _ _) (map_len _ _) rfl ?_
      refine .bin (.on rfl rfl rfl rfl rfl) rfl rfl rfl rfl rfl rfl ?_
      refine .pick (.no rfl) rfl rfl rfl rfl rfl ?_
      exact .fin () (.of (.cons rfl (.cons rfl (.cons rfl (.cons rfl (.cons (svB (show (decide ((l.length : Int) > 100)) = ((!(Iv.ok a && Iv.ok b) || decide ((l.length : Int) > 100))) by first | (simp only [g1_4, Bool.true_or, Bool.false_or, Bool.true_and, Bool.false_and, Bool.not_true, Bool.not_false]; done) | simp [g1_4])) .nil))))) (.cons rfl (.cons rfl (.cons rfl .nil))))
    · skip
      refine .off rfl rfl rfl rfl rfl rfl rfl ?_
      refine .off rfl rfl rfl rfl rfl rfl rfl ?_
      refine .off rfl rfl rfl rfl rfl rfl rfl ?_
      refine .pick (.no rfl) rfl rfl rfl rfl rfl ?_
      exact .fin () (.of (.cons rfl (.cons rfl (.cons rfl (.cons rfl (.cons (svB (show (true) = ((!(Iv.ok a && Iv.ok b) || decide ((l.length : Int) > 100))) by first | (simp only [g1_4, Bool.true_or, Bool.false_or, Bool.true_and, Bool.false_and, Bool.not_true, Bool.not_false]; done) | simp [g1_4])) .nil))))) (.cons rfl (.cons rfl (.cons rfl .nil))))
  intro _
  refine .cond (t := (!(Iv.ok a && Iv.ok b) || decide ((l.length : Int) > 100))) rfl (fun c0 => ?_) (fun c0 => ?_)
  · have c0 := c0
    try simp only [Bool.or_eq_true, Bool.or_eq_false_iff, Bool.and_eq_true, Bool.and_eq_false_iff, decide_eq_true_eq, decide_eq_false_iff_not, Bool.not_eq_true', Bool.not_eq_false', bne_iff_ne, beq_iff_eq, bne_eq_false_iff_eq, beq_eq_false_iff_ne, ne_eq, Bool.not_eq_eq_eq_not, Bool.not_true, Bool.not_false] at c0
    refine .seq ?_
    refine .reg (X := Nat) (fun ζ => .of [(6, .one (.ptr [6] (g5) 0))] [([6], (g5, ζ, .box [.d (.v (.int .i64 (0))), .d (.v (.int .i64 (0)))]))]) [⟨[], some 21, [], []⟩, ⟨[6, 21], none, [[6]], [[6]]⟩] (fun k8 => ?_) ?_
    · skip
      refine .build (.no rfl) rfl z39 rfl p39 rfl rfl rfl rfl ?_
      refine .store (.no rfl) rfl t39 rfl rfl rfl rfl rfl rfl rfl rfl rfl ?_
      exact .fin (k8 + 1) (.of (.cons rfl .nil) (.cons rfl .nil))
    intro g9
    refine .ret ?_
    have e10 : (0) = ((Iv.widenOk l a b).lo) := by (rw [Iv.widenOk_no c0])
    have e11 : (0) = ((Iv.widenOk l a b).hi) := by (rw [Iv.widenOk_no c0])
    have hc12 := eq2 (fun z1 z2 => some (g5, g9, O.box [.d (.v (.int .i64 (z1))), .d (.v (.int .i64 (z2)))])) e10 e11
    show _ ∧ _
    exact ⟨.inr rfl, .done ⟨_, [], [], _, .cell (cells := [.d (.v (.int .i64 ((Iv.widenOk l a b).lo))), .d (.v (.int .i64 ((Iv.widenOk l a b).hi)))]) rfl hc12 t39 rfl rfl .nil, .cons (Reads.d _).gives (.cons (Reads.d _).gives .nil), nodupB_ok rfl, by simp, (by simp)⟩⟩
  · have c0 := c0
    try simp only [Bool.or_eq_true, Bool.or_eq_false_iff, Bool.and_eq_true, Bool.and_eq_false_iff, decide_eq_true_eq, decide_eq_false_iff_not, Bool.not_eq_true', Bool.not_eq_false', bne_iff_ne, beq_iff_eq, bne_eq_false_iff_eq, beq_eq_false_iff_ne, ne_eq, Bool.not_eq_eq_eq_not, Bool.not_true, Bool.not_false] at c0
    refine .skip ?_
    refine .seq ?_
    refine .reg (X := Nat × Nat) (fun ζ => .of [(2, .one (.d (.sl false 2 1 (List.map i64c (l))))), (3, .one (.ptr [3] (g3) 0)), (4, .one (.ptr [4] (g4) 0)), (6, .one (.ptr [6] (g5) 0)), (7, .one (.ptr [7] (ζ.1) 0))] [([3], (g3, g3, .box [.d (.v (.int .i64 (a.lo))), .d (.v (.int .i64 (a.hi)))])), ([4], (g4, g4, .box [.d (.v (.int .i64 (b.lo))), .d (.v (.int .i64 (b.hi)))])), ([6], (g5, g5, .box [.d (.v (.int .i64 (0))), .d (.v (.int .i64 (0)))])), ([7], (ζ.1, ζ.2, .box [.d (.v (.int .i64 (a.lo))), .d (.v (.int .i64 (a.hi)))]))]) [⟨[3], some 22, [[3]], []⟩, ⟨[], some 7, [], [[7]]⟩, ⟨[7, 22], none, [[7]], [[7]]⟩] (fun k13 => ?_) ?_
    · skip
      refine .load (.no rfl) rfl t39 rfl rfl (.ptr _ _ _ _ _ rfl) rfl rfl rfl rfl ?_
      refine .alloc (.no rfl) rfl z39 rfl rfl rfl ?_
      refine .store (.no rfl) rfl t39 rfl rfl rfl rfl rfl rfl rfl rfl rfl ?_
      exact .fin (k13 + 1, k13 + 1 + 1) (.of (.cons rfl (.cons rfl (.cons rfl (.cons rfl (.cons rfl .nil))))) (.cons rfl (.cons rfl (.cons rfl (.cons rfl .nil)))))
    rintro ⟨g14, g15⟩
    refine .seq ?_
    refine .seq ?_
    refine .reg (X := Unit) (fun ζ => .of [(2, .one (.d (.sl false 2 1 (List.map i64c (l))))), (3, .one (.ptr [3] (g3) 0)), (4, .one (.ptr [4] (g4) 0)), (6, .one (.ptr [6] (g5) 0)), (7, .one (.ptr [7] (g14) 0)), (27, .one (.d (.v (.bool (decide (b.lo < a.lo))))))] [([3], (g3, g3, .box [.d (.v (.int .i64 (a.lo))), .d (.v (.int .i64 (a.hi)))])), ([4], (g4, g4, .box [.d (.v (.int .i64 (b.lo))), .d (.v (.int .i64 (b.hi)))])), ([6], (g5, g5, .box [.d (.v (.int .i64 (0))), .d (.v (.int .i64 (0)))])), ([7], (g14, g15, .box [.d (.v (.int .i64 (a.lo))), .d (.v (.int .i64 (a.hi)))]))]) [⟨[4], some 23, [], []⟩, ⟨[23], some 24, [[4]], []⟩, ⟨[3], some 25, [], []⟩, ⟨[25], some 26, [[3]], []⟩, ⟨[24, 26], some 27, [], []⟩] (fun k16 => ?_) ?_
    · skip
      refine .fieldAddrP (.no rfl) rfl t39 rfl rfl t2 rfl rfl rfl rfl ?_
      refine .load (.no rfl) rfl t2 rfl rfl (.ptr _ _ _ _ _ rfl) rfl rfl rfl rfl ?_
      refine .fieldAddrP (.no rfl) rfl t39 rfl rfl t2 rfl rfl rfl rfl ?_
      refine .load (.no rfl) rfl t2 rfl rfl (.ptr _ _ _ _ _ rfl) rfl rfl rfl rfl ?_
      refine .bin (.no rfl) rfl rfl rfl rfl rfl rfl ?_
      exact .fin () (.of (.cons rfl (.cons rfl (.cons rfl (.cons rfl (.cons rfl (.cons rfl .nil)))))) (.cons rfl (.cons rfl (.cons rfl (.cons rfl .nil)))))
    intro _
    refine .cond (t := decide (b.lo < a.lo)) rfl (fun c1 => ?_) (fun c1 => ?_)
    · have c1 := of_decide_eq_true c1
      refine .seq ?_
      refine .reg (X := Nat) (fun ζ => .of [(2, .one (.d (.sl false 2 1 (List.map i64c (l))))), (3, .one (.ptr [3] (g3) 0)), (4, .one (.ptr [4] (g4) 0)), (6, .one (.ptr [6] (g5) 0)), (7, .one (.ptr [7] (g14) 0))] [([3], (g3, g3, .box [.d (.v (.int .i64 (a.lo))), .d (.v (.int .i64 (a.hi)))])), ([4], (g4, g4, .box [.d (.v (.int .i64 (b.lo))), .d (.v (.int .i64 (b.hi)))])), ([6], (g5, g5, .box [.d (.v (.int .i64 (0))), .d (.v (.int .i64 (0)))])), ([7], (g14, ζ, .box [.d (.v (.int .i64 (-9223372036854775808))), .d (.v (.int .i64 (a.hi)))]))]) [⟨[7], some 28, [], []⟩, ⟨[28], none, [[7]], [[7]]⟩] (fun k17 => ?_) ?_
      · skip
        refine .fieldAddrP (.no rfl) rfl t39 rfl rfl t2 rfl rfl rfl rfl ?_
        refine .store (.no rfl) rfl t2 rfl rfl rfl rfl rfl rfl rfl rfl rfl ?_
        exact .fin (k17 + 1) (.of (.cons rfl (.cons rfl (.cons rfl (.cons rfl (.cons rfl .nil))))) (.cons rfl (.cons rfl (.cons rfl (.cons rfl .nil)))))
      intro g18
      refine .seq ?_
      refine .reg (X := Unit) (fun ζ => .of [(2, .one (.d (.sl false 2 1 (List.map i64c (l))))), (3, .one (.ptr [3] (g3) 0)), (4, .one (.ptr [4] (g4) 0)), (6, .one (.ptr [6] (g5) 0)), (7, .one (.ptr [7] (g14) 0)), (29, .one (.d (.sl false 2 1 (List.map i64c (l))))), (30, .one (.d (.v (.int .i64 ((l.length : Int)))))), (31, .one (.d (.v (.int .i64 (0)))))] [([3], (g3, g3, .box [.d (.v (.int .i64 (a.lo))), .d (.v (.int .i64 (a.hi)))])), ([4], (g4, g4, .box [.d (.v (.int .i64 (b.lo))), .d (.v (.int .i64 (b.hi)))])), ([6], (g5, g5, .box [.d (.v (.int .i64 (0))), .d (.v (.int .i64 (0)))])), ([7], (g14, g18, .box [.d (.v (.int .i64 (-9223372036854775808))), .d (.v (.int .i64 (a.hi)))]))]) [⟨[2], some 29, [], []⟩, ⟨[29], some 30, [], []⟩, ⟨[], some 31, [], []⟩] (fun k19 => ?_) ?_
      · skip
        refine .move (.no rfl) rfl rfl rfl rfl ?_
        refine .len (.no rfl) rfl (z := (l.length : Int)) t31 rfl rfl rfl (.d _ _) (map_len _ _) rfl ?_
        refine .move (.no rfl) rfl rfl rfl rfl ?_
        exact .fin () (.of (.cons rfl (.cons rfl (.cons rfl (.cons rfl (.cons rfl (.cons rfl (.cons rfl (.cons rfl .nil)))))))) (.cons rfl (.cons rfl (.cons rfl (.cons rfl .nil)))))
      intro _
      refine .block ?_
      refine .loop (X := Nat × Nat) (fun ζ => .of [(2, .one (.d (.sl false 2 1 (List.map i64c (l))))), (3, .one (.ptr [3] (g3) 0)), (4, .one (.ptr [4] (g4) 0)), (6, .one (.ptr [6] (g5) 0)), (7, .one (.ptr [7] (g14) 0)), (29, .one (.d (.sl false 2 1 (List.map i64c (l))))), (30, .one (.d (.v (.int .i64 ((l.length : Int)))))), (31, .one (.d (.v (.int .i64 ((ζ.1 : Int))))))] [([3], (g3, g3, .box [.d (.v (.int .i64 (a.lo))), .d (.v (.int .i64 (a.hi)))])), ([4], (g4, g4, .box [.d (.v (.int .i64 (b.lo))), .d (.v (.int .i64 (b.hi)))])), ([6], (g5, g5, .box [.d (.v (.int .i64 (0))), .d (.v (.int .i64 (0)))])), ([7], (g14, ζ.2, .box [.d (.v (.int .i64 (widenLo b.lo (l.take ζ.1) (-9223372036854775808)))), .d (.v (.int .i64 (a.hi)))]))]) (fun ζ => ζ.1 ≤ l.length) (fun ζ => l.length - ζ.1) ?_ ?_
      · skip
        exact .here (0, g18) (.of (.cons rfl (.cons rfl (.cons rfl (.cons rfl (.cons rfl (.cons rfl (.cons rfl (.cons (svI (show (0) = ((0 : Int)) by first | rfl | omega | exact wrap_le (by omega) (by omega) | (rw [wrap_le (by omega) (by omega)]; omega))) .nil)))))))) (.cons rfl (.cons rfl (.cons rfl (.cons (eq1 (fun z1 => some (g14, g18, O.box [.d (.v (.int .i64 (z1))), .d (.v (.int .i64 (a.hi)))])) (show (-9223372036854775808) = (widenLo b.lo (l.take 0) (-9223372036854775808)) by first | rfl | (exact widenLo_yes (by omega) c3) | (exact widenLo_no (by omega) c3) | (exact widenHi_yes (by omega) c6) | (exact widenHi_no (by omega) c6))) .nil))))) (show 0 ≤ l.length by omega)
      · rintro ⟨j, q20⟩ hI
        have hI : j ≤ l.length := hI
        have hl9 : l.length ≤ 100 := by omega
        refine .seq ?_
        refine .reg (X := Unit) (fun ζ => .of [(2, .one (.d (.sl false 2 1 (List.map i64c (l))))), (3, .one (.ptr [3] (g3) 0)), (4, .one (.ptr [4] (g4) 0)), (6, .one (.ptr [6] (g5) 0)), (7, .one (.ptr [7] (g14) 0)), (29, .one (.d (.sl false 2 1 (List.map i64c (l))))), (30, .one (.d (.v (.int .i64 ((l.length : Int)))))), (31, .one (.d (.v (.int .i64 ((j : Int)))))), (32, .one (.d (.v (.bool (decide ((j : Int) < (l.length : Int)))))))] [([3], (g3, g3, .box [.d (.v (.int .i64 (a.lo))), .d (.v (.int .i64 (a.hi)))])), ([4], (g4, g4, .box [.d (.v (.int .i64 (b.lo))), .d (.v (.int .i64 (b.hi)))])), ([6], (g5, g5, .box [.d (.v (.int .i64 (0))), .d (.v (.int .i64 (0)))])), ([7], (g14, q20, .box [.d (.v (.int .i64 (widenLo b.lo (l.take j) (-9223372036854775808)))), .d (.v (.int .i64 (a.hi)))]))]) [⟨[31, 30], some 32, [], []⟩] (fun k21 => ?_) ?_
        · skip
          refine .bin (.no rfl) rfl rfl rfl rfl rfl rfl ?_
          exact .fin () (.of (.cons rfl (.cons rfl (.cons rfl (.cons rfl (.cons rfl (.cons rfl (.cons rfl (.cons rfl (.cons rfl .nil))))))))) (.cons rfl (.cons rfl (.cons rfl (.cons rfl .nil)))))
        intro _
        refine .seq ?_
        refine .cond (t := decide ((j : Int) < (l.length : Int))) rfl (fun c2 => ?_) (fun c2 => ?_)
        · have c2 := of_decide_eq_true c2
          refine .skip ?_
          refine .seq ?_
          refine .block ?_
          refine .seq ?_
          refine .reg (X := Unit) (fun ζ => .of [(2, .one (.d (.sl false 2 1 (List.map i64c (l))))), (3, .one (.ptr [3] (g3) 0)), (4, .one (.ptr [4] (g4) 0)), (6, .one (.ptr [6] (g5) 0)), (7, .one (.ptr [7] (g14) 0)), (9, .one (.d (.v (.int .i64 (l.getD j default))))), (29, .one (.d (.sl false 2 1 (List.map i64c (l))))), (30, .one (.d (.v (.int .i64 ((l.length : Int)))))), (31, .one (.d (.v (.int .i64 ((j : Int))))))] [([3], (g3, g3, .box [.d (.v (.int .i64 (a.lo))), .d (.v (.int .i64 (a.hi)))])), ([4], (g4, g4, .box [.d (.v (.int .i64 (b.lo))), .d (.v (.int .i64 (b.hi)))])), ([6], (g5, g5, .box [.d (.v (.int .i64 (0))), .d (.v (.int .i64 (0)))])), ([7], (g14, q20, .box [.d (.v (.int .i64 (widenLo b.lo (l.take j) (-9223372036854775808)))), .d (.v (.int .i64 (a.hi)))]))]) [⟨[29, 31], some 33, [], []⟩, ⟨[33], some 34, [], []⟩, ⟨[34], some 9, [], []⟩] (fun k22 => ?_) ?_
          · skip
            refine .indexAddr (.no rfl) rfl (j) t31 rfl t2 rfl rfl rfl (.d _ _) rfl rfl rfl (map_get (by omega)) rfl rfl ?_
            refine .load (.no rfl) rfl t2 rfl rfl (.d _) rfl rfl rfl rfl ?_
            refine .assign (.no rfl) rfl rfl rfl rfl ?_
            exact .fin () (.of (.cons rfl (.cons rfl (.cons rfl (.cons rfl (.cons rfl (.cons rfl (.cons rfl (.cons rfl (.cons rfl .nil))))))))) (.cons rfl (.cons rfl (.cons rfl (.cons rfl .nil)))))
          intro _
          refine .seq ?_
          refine .reg (X := Unit) (fun ζ => .of [(2, .one (.d (.sl false 2 1 (List.map i64c (l))))), (3, .one (.ptr [3] (g3) 0)), (4, .one (.ptr [4] (g4) 0)), (6, .one (.ptr [6] (g5) 0)), (7, .one (.ptr [7] (g14) 0)), (9, .one (.d (.v (.int .i64 (l.getD j default))))), (29, .one (.d (.sl false 2 1 (List.map i64c (l))))), (30, .one (.d (.v (.int .i64 ((l.length : Int)))))), (31, .one (.d (.v (.int .i64 ((j : Int)))))), (38, .one (.d (.v (.bool (decide ((l.getD j default) ≤ b.lo))))))] [([3], (g3, g3, .box [.d (.v (.int .i64 (a.lo))), .d (.v (.int .i64 (a.hi)))])), ([4], (g4, g4, .box [.d (.v (.int .i64 (b.lo))), .d (.v (.int .i64 (b.hi)))])), ([6], (g5, g5, .box [.d (.v (.int .i64 (0))), .d (.v (.int .i64 (0)))])), ([7], (g14, q20, .box [.d (.v (.int .i64 (widenLo b.lo (l.take j) (-9223372036854775808)))), .d (.v (.int .i64 (a.hi)))]))]) [⟨[9], some 35, [], []⟩, ⟨[4], some 36, [], []⟩, ⟨[36], some 37, [[4]], []⟩, ⟨[35, 37], some 38, [], []⟩] (fun k23 => ?_) ?_
          · skip
            refine .move (.no rfl) rfl rfl rfl rfl ?_
            refine .fieldAddrP (.no rfl) rfl t39 rfl rfl t2 rfl rfl rfl rfl ?_
            refine .load (.no rfl) rfl t2 rfl rfl (.ptr _ _ _ _ _ rfl) rfl rfl rfl rfl ?_
            refine .bin (.no rfl) rfl rfl rfl rfl rfl rfl ?_
            exact .fin () (.of (.cons rfl (.cons rfl (.cons rfl (.cons rfl (.cons rfl (.cons rfl (.cons rfl (.cons rfl (.cons rfl (.cons rfl .nil)))))))))) (.cons rfl (.cons rfl (.cons rfl (.cons rfl .nil)))))
          intro _
          refine .cond (t := decide ((l.getD j default) ≤ b.lo)) rfl (fun c3 => ?_) (fun c3 => ?_)
          · have c3 := of_decide_eq_true c3
            refine .reg (X := Nat) (fun ζ => .of [(2, .one (.d (.sl false 2 1 (List.map i64c (l))))), (3, .one (.ptr [3] (g3) 0)), (4, .one (.ptr [4] (g4) 0)), (6, .one (.ptr [6] (g5) 0)), (7, .one (.ptr [7] (g14) 0)), (29, .one (.d (.sl false 2 1 (List.map i64c (l))))), (30, .one (.d (.v (.int .i64 ((l.length : Int)))))), (31, .one (.d (.v (.int .i64 ((j : Int))))))] [([3], (g3, g3, .box [.d (.v (.int .i64 (a.lo))), .d (.v (.int .i64 (a.hi)))])), ([4], (g4, g4, .box [.d (.v (.int .i64 (b.lo))), .d (.v (.int .i64 (b.hi)))])), ([6], (g5, g5, .box [.d (.v (.int .i64 (0))), .d (.v (.int .i64 (0)))])), ([7], (g14, ζ, .box [.d (.v (.int .i64 (max (widenLo b.lo (l.take j) (-9223372036854775808)) (l.getD j default)))), .d (.v (.int .i64 (a.hi)))]))]) [⟨[7], some 39, [], []⟩, ⟨[39], some 40, [[7]], []⟩, ⟨[9], some 41, [], []⟩, ⟨[40, 41], some 42, [], []⟩, ⟨[7], some 43, [], []⟩, ⟨[43, 42], none, [[7]], [[7]]⟩] (fun k24 => ?_) ?_
            · skip
              refine .fieldAddrP (.no rfl) rfl t39 rfl rfl t2 rfl rfl rfl rfl ?_
              refine .load (.no rfl) rfl t2 rfl rfl (.ptr _ _ _ _ _ rfl) rfl rfl rfl rfl ?_
              refine .move (.no rfl) rfl rfl rfl rfl ?_
              refine .max (.no rfl) rfl rfl rfl rfl (max_of _ _) rfl ?_
              refine .fieldAddrP (.no rfl) rfl t39 rfl rfl t2 rfl rfl rfl rfl ?_
              refine .store (.no rfl) rfl t2 rfl rfl rfl rfl rfl rfl rfl rfl rfl ?_
              exact .fin (k24 + 1 + 1 + 1 + 1 + 1) (.of (.cons rfl (.cons rfl (.cons rfl (.cons rfl (.cons rfl (.cons rfl (.cons rfl (.cons rfl .nil)))))))) (.cons rfl (.cons rfl (.cons rfl (.cons rfl .nil)))))
            intro g25
            refine .reg (X := Unit) (fun ζ => .of [(2, .one (.d (.sl false 2 1 (List.map i64c (l))))), (3, .one (.ptr [3] (g3) 0)), (4, .one (.ptr [4] (g4) 0)), (6, .one (.ptr [6] (g5) 0)), (7, .one (.ptr [7] (g14) 0)), (29, .one (.d (.sl false 2 1 (List.map i64c (l))))), (30, .one (.d (.v (.int .i64 ((l.length : Int)))))), (31, .one (.d (.v (.int .i64 (IntKind.wrap .i64 ((j : Int) + 1))))))] [([3], (g3, g3, .box [.d (.v (.int .i64 (a.lo))), .d (.v (.int .i64 (a.hi)))])), ([4], (g4, g4, .box [.d (.v (.int .i64 (b.lo))), .d (.v (.int .i64 (b.hi)))])), ([6], (g5, g5, .box [.d (.v (.int .i64 (0))), .d (.v (.int .i64 (0)))])), ([7], (g14, g25, .box [.d (.v (.int .i64 (max (widenLo b.lo (l.take j) (-9223372036854775808)) (l.getD j default)))), .d (.v (.int .i64 (a.hi)))]))]) [⟨[31], some 44, [], []⟩, ⟨[44], some 31, [], []⟩] (fun k26 => ?_) ?_
            · skip
              refine .bin (.no rfl) rfl rfl rfl rfl rfl rfl ?_
              refine .move (.no rfl) rfl rfl rfl rfl ?_
              exact .fin () (.of (.cons rfl (.cons rfl (.cons rfl (.cons rfl (.cons rfl (.cons rfl (.cons rfl (.cons rfl .nil)))))))) (.cons rfl (.cons rfl (.cons rfl (.cons rfl .nil)))))
            intro _
            exact .here ((j + 1), g25) (.of (.cons rfl (.cons rfl (.cons rfl (.cons rfl (.cons rfl (.cons rfl (.cons rfl (.cons (svI (show (IntKind.wrap .i64 ((j : Int) + 1)) = (((j + 1) : Int)) by first | rfl | omega | exact wrap_le (by omega) (by omega) | (rw [wrap_le (by omega) (by omega)]; omega))) .nil)))))))) (.cons rfl (.cons rfl (.cons rfl (.cons (eq1 (fun z1 => some (g14, g25, O.box [.d (.v (.int .i64 (z1))), .d (.v (.int .i64 (a.hi)))])) (show (max (widenLo b.lo (l.take j) (-9223372036854775808)) (l.getD j default)) = (widenLo b.lo (l.take (j + 1)) (-9223372036854775808)) by first | rfl | (exact widenLo_yes (by omega) c3) | (exact widenLo_no (by omega) c3) | (exact widenHi_yes (by omega) c6) | (exact widenHi_no (by omega) c6))) .nil))))) ⟨(show (j + 1) ≤ l.length by omega), (show l.length - (j + 1) < l.length - j by omega)⟩
          · have c3 := of_decide_eq_false c3
            refine .skip ?_
            refine .reg (X := Unit) (fun ζ => .of [(2, .one (.d (.sl false 2 1 (List.map i64c (l))))), (3, .one (.ptr [3] (g3) 0)), (4, .one (.ptr [4] (g4) 0)), (6, .one (.ptr [6] (g5) 0)), (7, .one (.ptr [7] (g14) 0)), (29, .one (.d (.sl false 2 1 (List.map i64c (l))))), (30, .one (.d (.v (.int .i64 ((l.length : Int)))))), (31, .one (.d (.v (.int .i64 (IntKind.wrap .i64 ((j : Int) + 1))))))] [([3], (g3, g3, .box [.d (.v (.int .i64 (a.lo))), .d (.v (.int .i64 (a.hi)))])), ([4], (g4, g4, .box [.d (.v (.int .i64 (b.lo))), .d (.v (.int .i64 (b.hi)))])), ([6], (g5, g5, .box [.d (.v (.int .i64 (0))), .d (.v (.int .i64 (0)))])), ([7], (g14, q20, .box [.d (.v (.int .i64 (widenLo b.lo (l.take j) (-9223372036854775808)))), .d (.v (.int .i64 (a.hi)))]))]) [⟨[31], some 44, [], []⟩, ⟨[44], some 31, [], []⟩] (fun k27 => ?_) ?_
            · skip
              refine .bin (.no rfl) rfl rfl rfl rfl rfl rfl ?_
              refine .move (.no rfl) rfl rfl rfl rfl ?_
              exact .fin () (.of (.cons rfl (.cons rfl (.cons rfl (.cons rfl (.cons rfl (.cons rfl (.cons rfl (.cons rfl .nil)))))))) (.cons rfl (.cons rfl (.cons rfl (.cons rfl .nil)))))
            intro _
            exact .here ((j + 1), q20) (.of (.cons rfl (.cons rfl (.cons rfl (.cons rfl (.cons rfl (.cons rfl (.cons rfl (.cons (svI (show (IntKind.wrap .i64 ((j : Int) + 1)) = (((j + 1) : Int)) by first | rfl | omega | exact wrap_le (by omega) (by omega) | (rw [wrap_le (by omega) (by omega)]; omega))) .nil)))))))) (.cons rfl (.cons rfl (.cons rfl (.cons (eq1 (fun z1 => some (g14, q20, O.box [.d (.v (.int .i64 (z1))), .d (.v (.int .i64 (a.hi)))])) (show (widenLo b.lo (l.take j) (-9223372036854775808)) = (widenLo b.lo (l.take (j + 1)) (-9223372036854775808)) by first | rfl | (exact widenLo_yes (by omega) c3) | (exact widenLo_no (by omega) c3) | (exact widenHi_yes (by omega) c6) | (exact widenHi_no (by omega) c6))) .nil))))) ⟨(show (j + 1) ≤ l.length by omega), (show l.length - (j + 1) < l.length - j by omega)⟩
        · have c2 := of_decide_eq_false c2
          refine .exit ?_
          refine .seq ?_
          refine .seq ?_
          refine .reg (X := Unit) (fun ζ => .of [(2, .one (.d (.sl false 2 1 (List.map i64c (l))))), (4, .one (.ptr [4] (g4) 0)), (6, .one (.ptr [6] (g5) 0)), (7, .one (.ptr [7] (g14) 0)), (49, .one (.d (.v (.bool (decide (b.hi > a.hi))))))] [([4], (g4, g4, .box [.d (.v (.int .i64 (b.lo))), .d (.v (.int .i64 (b.hi)))])), ([6], (g5, g5, .box [.d (.v (.int .i64 (0))), .d (.v (.int .i64 (0)))])), ([7], (g14, q20, .box [.d (.v (.int .i64 (widenLo b.lo (l.take j) (-9223372036854775808)))), .d (.v (.int .i64 (a.hi)))]))]) [⟨[4], some 45, [], []⟩, ⟨[45], some 46, [[4]], []⟩, ⟨[3], some 47, [], []⟩, ⟨[47], some 48, [[3]], []⟩, ⟨[46, 48], some 49, [], []⟩] (fun k28 => ?_) ?_
          · skip
            refine .fieldAddrP (.no rfl) rfl t39 rfl rfl t2 rfl rfl rfl rfl ?_
            refine .load (.no rfl) rfl t2 rfl rfl (.ptr _ _ _ _ _ rfl) rfl rfl rfl rfl ?_
            refine .fieldAddrP (.no rfl) rfl t39 rfl rfl t2 rfl rfl rfl rfl ?_
            refine .load (.no rfl) rfl t2 rfl rfl (.ptr _ _ _ _ _ rfl) rfl rfl rfl rfl ?_
            refine .bin (.no rfl) rfl rfl rfl rfl rfl rfl ?_
            exact .fin () (.of (.cons rfl (.cons rfl (.cons rfl (.cons rfl (.cons rfl .nil))))) (.cons rfl (.cons rfl (.cons rfl .nil))))
          intro _
          refine .cond (t := decide (b.hi > a.hi)) rfl (fun c4 => ?_) (fun c4 => ?_)
          · have c4 := of_decide_eq_true c4
            refine .seq ?_
            refine .reg (X := Nat) (fun ζ => .of [(2, .one (.d (.sl false 2 1 (List.map i64c (l))))), (4, .one (.ptr [4] (g4) 0)), (6, .one (.ptr [6] (g5) 0)), (7, .one (.ptr [7] (g14) 0))] [([4], (g4, g4, .box [.d (.v (.int .i64 (b.lo))), .d (.v (.int .i64 (b.hi)))])), ([6], (g5, g5, .box [.d (.v (.int .i64 (0))), .d (.v (.int .i64 (0)))])), ([7], (g14, ζ, .box [.d (.v (.int .i64 (widenLo b.lo (l.take j) (-9223372036854775808)))), .d (.v (.int .i64 (9223372036854775807)))]))]) [⟨[7], some 50, [], []⟩, ⟨[50], none, [[7]], [[7]]⟩] (fun k29 => ?_) ?_
            · skip
              refine .fieldAddrP (.no rfl) rfl t39 rfl rfl t2 rfl rfl rfl rfl ?_
              refine .store (.no rfl) rfl t2 rfl rfl rfl rfl rfl rfl rfl rfl rfl ?_
              exact .fin (k29 + 1) (.of (.cons rfl (.cons rfl (.cons rfl (.cons rfl .nil)))) (.cons rfl (.cons rfl (.cons rfl .nil))))
            intro g30
            refine .seq ?_
            refine .reg (X := Unit) (fun ζ => .of [(4, .one (.ptr [4] (g4) 0)), (6, .one (.ptr [6] (g5) 0)), (7, .one (.ptr [7] (g14) 0)), (51, .one (.d (.sl false 2 1 (List.map i64c (l))))), (52, .one (.d (.v (.int .i64 ((l.length : Int)))))), (53, .one (.d (.v (.int .i64 (0)))))] [([4], (g4, g4, .box [.d (.v (.int .i64 (b.lo))), .d (.v (.int .i64 (b.hi)))])), ([6], (g5, g5, .box [.d (.v (.int .i64 (0))), .d (.v (.int .i64 (0)))])), ([7], (g14, g30, .box [.d (.v (.int .i64 (widenLo b.lo (l.take j) (-9223372036854775808)))), .d (.v (.int .i64 (9223372036854775807)))]))]) [⟨[2], some 51, [], []⟩, ⟨[51], some 52, [], []⟩, ⟨[], some 53, [], []⟩] (fun k31 => ?_) ?_
            · skip
              refine .move (.no rfl) rfl rfl rfl rfl ?_
              refine .len (.no rfl) rfl (z := (l.length : Int)) t31 rfl rfl rfl (.d _ _) (map_len _ _) rfl ?_
              refine .move (.no rfl) rfl rfl rfl rfl ?_
              exact .fin () (.of (.cons rfl (.cons rfl (.cons rfl (.cons rfl (.cons rfl (.cons rfl .nil)))))) (.cons rfl (.cons rfl (.cons rfl .nil))))
            intro _
            refine .block ?_
            refine .loop (X := Nat × Nat) (fun ζ => .of [(4, .one (.ptr [4] (g4) 0)), (6, .one (.ptr [6] (g5) 0)), (7, .one (.ptr [7] (g14) 0)), (51, .one (.d (.sl false 2 1 (List.map i64c (l))))), (52, .one (.d (.v (.int .i64 ((l.length : Int)))))), (53, .one (.d (.v (.int .i64 ((ζ.1 : Int))))))] [([4], (g4, g4, .box [.d (.v (.int .i64 (b.lo))), .d (.v (.int .i64 (b.hi)))])), ([6], (g5, g5, .box [.d (.v (.int .i64 (0))), .d (.v (.int .i64 (0)))])), ([7], (g14, ζ.2, .box [.d (.v (.int .i64 (widenLo b.lo (l.take j) (-9223372036854775808)))), .d (.v (.int .i64 (widenHi b.hi (l.take ζ.1) 9223372036854775807)))]))]) (fun ζ => ζ.1 ≤ l.length) (fun ζ => l.length - ζ.1) ?_ ?_
            · skip
              exact .here (0, g30) (.of (.cons rfl (.cons rfl (.cons rfl (.cons rfl (.cons rfl (.cons (svI (show (0) = ((0 : Int)) by first | rfl | omega | exact wrap_le (by omega) (by omega) | (rw [wrap_le (by omega) (by omega)]; omega))) .nil)))))) (.cons rfl (.cons rfl (.cons (eq1 (fun z1 => some (g14, g30, O.box [.d (.v (.int .i64 (widenLo b.lo (l.take j) (-9223372036854775808)))), .d (.v (.int .i64 (z1)))])) (show (9223372036854775807) = (widenHi b.hi (l.take 0) 9223372036854775807) by first | rfl | (exact widenLo_yes (by omega) c3) | (exact widenLo_no (by omega) c3) | (exact widenHi_yes (by omega) c6) | (exact widenHi_no (by omega) c6))) .nil)))) (show 0 ≤ l.length by omega)
            · rintro ⟨i, q32⟩ hI
              have hI : i ≤ l.length := hI
              have hl9 : l.length ≤ 100 := by omega
              have hj9 := ‹j ≤ l.length›
              refine .seq ?_
              refine .reg (X := Unit) (fun ζ => .of [(4, .one (.ptr [4] (g4) 0)), (6, .one (.ptr [6] (g5) 0)), (7, .one (.ptr [7] (g14) 0)), (51, .one (.d (.sl false 2 1 (List.map i64c (l))))), (52, .one (.d (.v (.int .i64 ((l.length : Int)))))), (53, .one (.d (.v (.int .i64 ((i : Int)))))), (54, .one (.d (.v (.bool (decide ((i : Int) < (l.length : Int)))))))] [([4], (g4, g4, .box [.d (.v (.int .i64 (b.lo))), .d (.v (.int .i64 (b.hi)))])), ([6], (g5, g5, .box [.d (.v (.int .i64 (0))), .d (.v (.int .i64 (0)))])), ([7], (g14, q32, .box [.d (.v (.int .i64 (widenLo b.lo (l.take j) (-9223372036854775808)))), .d (.v (.int .i64 (widenHi b.hi (l.take i) 9223372036854775807)))]))]) [⟨[53, 52], some 54, [], []⟩] (fun k33 => ?_) ?_
              · skip
                refine .bin (.no rfl) rfl rfl rfl rfl rfl rfl ?_
                exact .fin () (.of (.cons rfl (.cons rfl (.cons rfl (.cons rfl (.cons rfl (.cons rfl (.cons rfl .nil))))))) (.cons rfl (.cons rfl (.cons rfl .nil))))
              intro _
              refine .seq ?_
              refine .cond (t := decide ((i : Int) < (l.length : Int))) rfl (fun c5 => ?_) (fun c5 => ?_)
              · have c5 := of_decide_eq_true c5
                refine .skip ?_
                refine .seq ?_
                refine .block ?_
                refine .seq ?_
                refine .reg (X := Unit) (fun ζ => .of [(4, .one (.ptr [4] (g4) 0)), (6, .one (.ptr [6] (g5) 0)), (7, .one (.ptr [7] (g14) 0)), (11, .one (.d (.v (.int .i64 (l.getD i default))))), (51, .one (.d (.sl false 2 1 (List.map i64c (l))))), (52, .one (.d (.v (.int .i64 ((l.length : Int)))))), (53, .one (.d (.v (.int .i64 ((i : Int))))))] [([4], (g4, g4, .box [.d (.v (.int .i64 (b.lo))), .d (.v (.int .i64 (b.hi)))])), ([6], (g5, g5, .box [.d (.v (.int .i64 (0))), .d (.v (.int .i64 (0)))])), ([7], (g14, q32, .box [.d (.v (.int .i64 (widenLo b.lo (l.take j) (-9223372036854775808)))), .d (.v (.int .i64 (widenHi b.hi (l.take i) 9223372036854775807)))]))]) [⟨[51, 53], some 55, [], []⟩, ⟨[55], some 56, [], []⟩, ⟨[56], some 11, [], []⟩] (fun k34 => ?_) ?_
                · skip
                  refine .indexAddr (.no rfl) rfl (i) t31 rfl t2 rfl rfl rfl (.d _ _) rfl rfl rfl (map_get (by omega)) rfl rfl ?_
                  refine .load (.no rfl) rfl t2 rfl rfl (.d _) rfl rfl rfl rfl ?_
                  refine .assign (.no rfl) rfl rfl rfl rfl ?_
                  exact .fin () (.of (.cons rfl (.cons rfl (.cons rfl (.cons rfl (.cons rfl (.cons rfl (.cons rfl .nil))))))) (.cons rfl (.cons rfl (.cons rfl .nil))))
                intro _
                refine .seq ?_
                refine .reg (X := Unit) (fun ζ => .of [(4, .one (.ptr [4] (g4) 0)), (6, .one (.ptr [6] (g5) 0)), (7, .one (.ptr [7] (g14) 0)), (11, .one (.d (.v (.int .i64 (l.getD i default))))), (51, .one (.d (.sl false 2 1 (List.map i64c (l))))), (52, .one (.d (.v (.int .i64 ((l.length : Int)))))), (53, .one (.d (.v (.int .i64 ((i : Int)))))), (60, .one (.d (.v (.bool (decide ((l.getD i default) ≥ b.hi))))))] [([4], (g4, g4, .box [.d (.v (.int .i64 (b.lo))), .d (.v (.int .i64 (b.hi)))])), ([6], (g5, g5, .box [.d (.v (.int .i64 (0))), .d (.v (.int .i64 (0)))])), ([7], (g14, q32, .box [.d (.v (.int .i64 (widenLo b.lo (l.take j) (-9223372036854775808)))), .d (.v (.int .i64 (widenHi b.hi (l.take i) 9223372036854775807)))]))]) [⟨[11], some 57, [], []⟩, ⟨[4], some 58, [], []⟩, ⟨[58], some 59, [[4]], []⟩, ⟨[57, 59], some 60, [], []⟩] (fun k35 => ?_) ?_
                · skip
                  refine .move (.no rfl) rfl rfl rfl rfl ?_
                  refine .fieldAddrP (.no rfl) rfl t39 rfl rfl t2 rfl rfl rfl rfl ?_
                  refine .load (.no rfl) rfl t2 rfl rfl (.ptr _ _ _ _ _ rfl) rfl rfl rfl rfl ?_
                  refine .bin (.no rfl) rfl rfl rfl rfl rfl rfl ?_
                  exact .fin () (.of (.cons rfl (.cons rfl (.cons rfl (.cons rfl (.cons rfl (.cons rfl (.cons rfl (.cons rfl .nil)))))))) (.cons rfl (.cons rfl (.cons rfl .nil))))
                intro _
                refine .cond (t := decide ((l.getD i default) ≥ b.hi)) rfl (fun c6 => ?_) (fun c6 => ?_)
                · have c6 := of_decide_eq_true c6
                  refine .reg (X := Nat) (fun ζ => .of [(4, .one (.ptr [4] (g4) 0)), (6, .one (.ptr [6] (g5) 0)), (7, .one (.ptr [7] (g14) 0)), (51, .one (.d (.sl false 2 1 (List.map i64c (l))))), (52, .one (.d (.v (.int .i64 ((l.length : Int)))))), (53, .one (.d (.v (.int .i64 ((i : Int))))))] [([4], (g4, g4, .box [.d (.v (.int .i64 (b.lo))), .d (.v (.int .i64 (b.hi)))])), ([6], (g5, g5, .box [.d (.v (.int .i64 (0))), .d (.v (.int .i64 (0)))])), ([7], (g14, ζ, .box [.d (.v (.int .i64 (widenLo b.lo (l.take j) (-9223372036854775808)))), .d (.v (.int .i64 (min (widenHi b.hi (l.take i) 9223372036854775807) (l.getD i default))))]))]) [⟨[7], some 61, [], []⟩, ⟨[61], some 62, [[7]], []⟩, ⟨[11], some 63, [], []⟩, ⟨[62, 63], some 64, [], []⟩, ⟨[7], some 65, [], []⟩, ⟨[65, 64], none, [[7]], [[7]]⟩] (fun k36 => ?_) ?_
                  · skip
                    refine .fieldAddrP (.no rfl) rfl t39 rfl rfl t2 rfl rfl rfl rfl ?_
                    refine .load (.no rfl) rfl t2 rfl rfl (.ptr _ _ _ _ _ rfl) rfl rfl rfl rfl ?_
                    refine .move (.no rfl) rfl rfl rfl rfl ?_
                    refine .min (.no rfl) rfl rfl rfl rfl (min_of _ _) rfl ?_
                    refine .fieldAddrP (.no rfl) rfl t39 rfl rfl t2 rfl rfl rfl rfl ?_
                    refine .store (.no rfl) rfl t2 rfl rfl rfl rfl rfl rfl rfl rfl rfl ?_
                    exact .fin (k36 + 1 + 1 + 1 + 1 + 1) (.of (.cons rfl (.cons rfl (.cons rfl (.cons rfl (.cons rfl (.cons rfl .nil)))))) (.cons rfl (.cons rfl (.cons rfl .nil))))
                  intro g37
                  refine .reg (X := Unit) (fun ζ => .of [(4, .one (.ptr [4] (g4) 0)), (6, .one (.ptr [6] (g5) 0)), (7, .one (.ptr [7] (g14) 0)), (51, .one (.d (.sl false 2 1 (List.map i64c (l))))), (52, .one (.d (.v (.int .i64 ((l.length : Int)))))), (53, .one (.d (.v (.int .i64 (IntKind.wrap .i64 ((i : Int) + 1))))))] [([4], (g4, g4, .box [.d (.v (.int .i64 (b.lo))), .d (.v (.int .i64 (b.hi)))])), ([6], (g5, g5, .box [.d (.v (.int .i64 (0))), .d (.v (.int .i64 (0)))])), ([7], (g14, g37, .box [.d (.v (.int .i64 (widenLo b.lo (l.take j) (-9223372036854775808)))), .d (.v (.int .i64 (min (widenHi b.hi (l.take i) 9223372036854775807) (l.getD i default))))]))]) [⟨[53], some 66, [], []⟩, ⟨[66], some 53, [], []⟩] (fun k38 => ?_) ?_
                  · skip
                    refine .bin (.no rfl) rfl rfl rfl rfl rfl rfl ?_
                    refine .move (.no rfl) rfl rfl rfl rfl ?_
                    exact .fin () (.of (.cons rfl (.cons rfl (.cons rfl (.cons rfl (.cons rfl (.cons rfl .nil)))))) (.cons rfl (.cons rfl (.cons rfl .nil))))
                  intro _
                  exact .here ((i + 1), g37) (.of (.cons rfl (.cons rfl (.cons rfl (.cons rfl (.cons rfl (.cons (svI (show (IntKind.wrap .i64 ((i : Int) + 1)) = (((i + 1) : Int)) by first | rfl | omega | exact wrap_le (by omega) (by omega) | (rw [wrap_le (by omega) (by omega)]; omega))) .nil)))))) (.cons rfl (.cons rfl (.cons (eq1 (fun z1 => some (g14, g37, O.box [.d (.v (.int .i64 (widenLo b.lo (l.take j) (-9223372036854775808)))), .d (.v (.int .i64 (z1)))])) (show (min (widenHi b.hi (l.take i) 9223372036854775807) (l.getD i default)) = (widenHi b.hi (l.take (i + 1)) 9223372036854775807) by first | rfl | (exact widenLo_yes (by omega) c3) | (exact widenLo_no (by omega) c3) | (exact widenHi_yes (by omega) c6) | (exact widenHi_no (by omega) c6))) .nil)))) ⟨(show (i + 1) ≤ l.length by omega), (show l.length - (i + 1) < l.length - i by omega)⟩
                · have c6 := of_decide_eq_false c6
                  refine .skip ?_
                  refine .reg (X := Unit) (fun ζ => .of [(4, .one (.ptr [4] (g4) 0)), (6, .one (.ptr [6] (g5) 0)), (7, .one (.ptr [7] (g14) 0)), (51, .one (.d (.sl false 2 1 (List.map i64c (l))))), (52, .one (.d (.v (.int .i64 ((l.length : Int)))))), (53, .one (.d (.v (.int .i64 (IntKind.wrap .i64 ((i : Int) + 1))))))] [([4], (g4, g4, .box [.d (.v (.int .i64 (b.lo))), .d (.v (.int .i64 (b.hi)))])), ([6], (g5, g5, .box [.d (.v (.int .i64 (0))), .d (.v (.int .i64 (0)))])), ([7], (g14, q32, .box [.d (.v (.int .i64 (widenLo b.lo (l.take j) (-9223372036854775808)))), .d (.v (.int .i64 (widenHi b.hi (l.take i) 9223372036854775807)))]))]) [⟨[53], some 66, [], []⟩, ⟨[66], some 53, [], []⟩] (fun k39 => ?_) ?_
                  · skip
                    refine .bin (.no rfl) rfl rfl rfl rfl rfl rfl ?_
                    refine .move (.no rfl) rfl rfl rfl rfl ?_
                    exact .fin () (.of (.cons rfl (.cons rfl (.cons rfl (.cons rfl (.cons rfl (.cons rfl .nil)))))) (.cons rfl (.cons rfl (.cons rfl .nil))))
                  intro _
                  exact .here ((i + 1), q32) (.of (.cons rfl (.cons rfl (.cons rfl (.cons rfl (.cons rfl (.cons (svI (show (IntKind.wrap .i64 ((i : Int) + 1)) = (((i + 1) : Int)) by first | rfl | omega | exact wrap_le (by omega) (by omega) | (rw [wrap_le (by omega) (by omega)]; omega))) .nil)))))) (.cons rfl (.cons rfl (.cons (eq1 (fun z1 => some (g14, q32, O.box [.d (.v (.int .i64 (widenLo b.lo (l.take j) (-9223372036854775808)))), .d (.v (.int .i64 (z1)))])) (show (widenHi b.hi (l.take i) 9223372036854775807) = (widenHi b.hi (l.take (i + 1)) 9223372036854775807) by first | rfl | (exact widenLo_yes (by omega) c3) | (exact widenLo_no (by omega) c3) | (exact widenHi_yes (by omega) c6) | (exact widenHi_no (by omega) c6))) .nil)))) ⟨(show (i + 1) ≤ l.length by omega), (show l.length - (i + 1) < l.length - i by omega)⟩
              · have c5 := of_decide_eq_false c5
                refine .exit ?_
                refine .seq ?_
                refine .reg (X := Nat) (fun ζ => .of [(6, .one (.ptr [6] (g5) 0))] [([6], (g5, ζ, .box [.d (.v (.int .i64 (widenLo b.lo (l.take j) (-9223372036854775808)))), .d (.v (.int .i64 (widenHi b.hi (l.take i) 9223372036854775807)))]))]) [⟨[7], some 67, [[7]], []⟩, ⟨[6, 67], none, [[6]], [[6]]⟩] (fun k40 => ?_) ?_
                · skip
                  refine .load (.no rfl) rfl t39 rfl rfl (.ptr _ _ _ _ _ rfl) rfl rfl rfl rfl ?_
                  refine .store (.no rfl) rfl t39 rfl rfl rfl rfl rfl rfl rfl rfl rfl ?_
                  exact .fin (k40 + 1) (.of (.cons rfl .nil) (.cons rfl .nil))
                intro g41
                refine .ret ?_
                have e42 : (widenLo b.lo (l.take j) (-9223372036854775808)) = ((Iv.widenOk l a b).lo) := by (rw [Iv.widenOk_yes c0]; simp only [Iv.widen]; first | (rw [List.take_of_length_le (by omega), if_pos c1]; done) | (rw [List.take_of_length_le (by omega), if_pos c4]; done))
                have e43 : (widenHi b.hi (l.take i) 9223372036854775807) = ((Iv.widenOk l a b).hi) := by (rw [Iv.widenOk_yes c0]; simp only [Iv.widen]; first | (rw [List.take_of_length_le (by omega), if_pos c1]; done) | (rw [List.take_of_length_le (by omega), if_pos c4]; done))
                have hc44 := eq2 (fun z1 z2 => some (g5, g41, O.box [.d (.v (.int .i64 (z1))), .d (.v (.int .i64 (z2)))])) e42 e43
                show _ ∧ _
                exact ⟨.inr rfl, .done ⟨_, [], [], _, .cell (cells := [.d (.v (.int .i64 ((Iv.widenOk l a b).lo))), .d (.v (.int .i64 ((Iv.widenOk l a b).hi)))]) rfl hc44 t39 rfl rfl .nil, .cons (Reads.d _).gives (.cons (Reads.d _).gives .nil), nodupB_ok rfl, by simp, (by simp)⟩⟩
          · have c4 := of_decide_eq_false c4
            refine .skip ?_
            refine .seq ?_
            refine .reg (X := Nat) (fun ζ => .of [(6, .one (.ptr [6] (g5) 0))] [([6], (g5, ζ, .box [.d (.v (.int .i64 (widenLo b.lo (l.take j) (-9223372036854775808)))), .d (.v (.int .i64 (a.hi)))]))]) [⟨[7], some 67, [[7]], []⟩, ⟨[6, 67], none, [[6]], [[6]]⟩] (fun k45 => ?_) ?_
            · skip
              refine .load (.no rfl) rfl t39 rfl rfl (.ptr _ _ _ _ _ rfl) rfl rfl rfl rfl ?_
              refine .store (.no rfl) rfl t39 rfl rfl rfl rfl rfl rfl rfl rfl rfl ?_
              exact .fin (k45 + 1) (.of (.cons rfl .nil) (.cons rfl .nil))
            intro g46
            refine .ret ?_
            have e47 : (widenLo b.lo (l.take j) (-9223372036854775808)) = ((Iv.widenOk l a b).lo) := by (rw [Iv.widenOk_yes c0]; simp only [Iv.widen]; first | (rw [List.take_of_length_le (by omega), if_pos c1]; done) | (rw [if_neg c4]; done))
            have e48 : (a.hi) = ((Iv.widenOk l a b).hi) := by (rw [Iv.widenOk_yes c0]; simp only [Iv.widen]; first | (rw [List.take_of_length_le (by omega), if_pos c1]; done) | (rw [if_neg c4]; done))
            have hc49 := eq2 (fun z1 z2 => some (g5, g46, O.box [.d (.v (.int .i64 (z1))), .d (.v (.int .i64 (z2)))])) e47 e48
            show _ ∧ _
            exact ⟨.inr rfl, .done ⟨_, [], [], _, .cell (cells := [.d (.v (.int .i64 ((Iv.widenOk l a b).lo))), .d (.v (.int .i64 ((Iv.widenOk l a b).hi)))]) rfl hc49 t39 rfl rfl .nil, .cons (Reads.d _).gives (.cons (Reads.d _).gives .nil), nodupB_ok rfl, by simp, (by simp)⟩⟩
    · have c1 := of_decide_eq_false c1
      refine .skip ?_
      refine .seq ?_
      refine .seq ?_
      refine .reg (X := Unit) (fun ζ => .of [(2, .one (.d (.sl false 2 1 (List.map i64c (l))))), (4, .one (.ptr [4] (g4) 0)), (6, .one (.ptr [6] (g5) 0)), (7, .one (.ptr [7] (g14) 0)), (49, .one (.d (.v (.bool (decide (b.hi > a.hi))))))] [([4], (g4, g4, .box [.d (.v (.int .i64 (b.lo))), .d (.v (.int .i64 (b.hi)))])), ([6], (g5, g5, .box [.d (.v (.int .i64 (0))), .d (.v (.int .i64 (0)))])), ([7], (g14, g15, .box [.d (.v (.int .i64 (a.lo))), .d (.v (.int .i64 (a.hi)))]))]) [⟨[4], some 45, [], []⟩, ⟨[45], some 46, [[4]], []⟩, ⟨[3], some 47, [], []⟩, ⟨[47], some 48, [[3]], []⟩, ⟨[46, 48], some 49, [], []⟩] (fun k50 => ?_) ?_
      · skip
        refine .fieldAddrP (.no rfl) rfl t39 rfl rfl t2 rfl rfl rfl rfl ?_
        refine .load (.no rfl) rfl t2 rfl rfl (.ptr _ _ _ _ _ rfl) rfl rfl rfl rfl ?_
        refine .fieldAddrP (.no rfl) rfl t39 rfl rfl t2 rfl rfl rfl rfl ?_
        refine .load (.no rfl) rfl t2 rfl rfl (.ptr _ _ _ _ _ rfl) rfl rfl rfl rfl ?_
        refine .bin (.no rfl) rfl rfl rfl rfl rfl rfl ?_
        exact .fin () (.of (.cons rfl (.cons rfl (.cons rfl (.cons rfl (.cons rfl .nil))))) (.cons rfl (.cons rfl (.cons rfl .nil))))
      intro _
      refine .cond (t := decide (b.hi > a.hi)) rfl (fun c4 => ?_) (fun c4 => ?_)
      · have c4 := of_decide_eq_true c4
        refine .seq ?_
        refine .reg (X := Nat) (fun ζ => .of [(2, .one (.d (.sl false 2 1 (List.map i64c (l))))), (4, .one (.ptr [4] (g4) 0)), (6, .one (.ptr [6] (g5) 0)), (7, .one (.ptr [7] (g14) 0))] [([4], (g4, g4, .box [.d (.v (.int .i64 (b.lo))), .d (.v (.int .i64 (b.hi)))])), ([6], (g5, g5, .box [.d (.v (.int .i64 (0))), .d (.v (.int .i64 (0)))])), ([7], (g14, ζ, .box [.d (.v (.int .i64 (a.lo))), .d (.v (.int .i64 (9223372036854775807)))]))]) [⟨[7], some 50, [], []⟩, ⟨[50], none, [[7]], [[7]]⟩] (fun k51 => ?_) ?_
        · skip
          refine .fieldAddrP (.no rfl) rfl t39 rfl rfl t2 rfl rfl rfl rfl ?_
          refine .store (.no rfl) rfl t2 rfl rfl rfl rfl rfl rfl rfl rfl rfl ?_
          exact .fin (k51 + 1) (.of (.cons rfl (.cons rfl (.cons rfl (.cons rfl .nil)))) (.cons rfl (.cons rfl (.cons rfl .nil))))
        intro g52
        refine .seq ?_
        refine .reg (X := Unit) (fun ζ => .of [(4, .one (.ptr [4] (g4) 0)), (6, .one (.ptr [6] (g5) 0)), (7, .one (.ptr [7] (g14) 0)), (51, .one (.d (.sl false 2 1 (List.map i64c (l))))), (52, .one (.d (.v (.int .i64 ((l.length : Int)))))), (53, .one (.d (.v (.int .i64 (0)))))] [([4], (g4, g4, .box [.d (.v (.int .i64 (b.lo))), .d (.v (.int .i64 (b.hi)))])), ([6], (g5, g5, .box [.d (.v (.int .i64 (0))), .d (.v (.int .i64 (0)))])), ([7], (g14, g52, .box [.d (.v (.int .i64 (a.lo))), .d (.v (.int .i64 (9223372036854775807)))]))]) [⟨[2], some 51, [], []⟩, ⟨[51], some 52, [], []⟩, ⟨[], some 53, [], []⟩] (fun k53 => ?_) ?_
        · skip
          refine .move (.no rfl) rfl rfl rfl rfl ?_
          refine .len (.no rfl) rfl (z := (l.length : Int)) t31 rfl rfl rfl (.d _ _) (map_len _ _) rfl ?_
          refine .move (.no rfl) rfl rfl rfl rfl ?_
          exact .fin () (.of (.cons rfl (.cons rfl (.cons rfl (.cons rfl (.cons rfl (.cons rfl .nil)))))) (.cons rfl (.cons rfl (.cons rfl .nil))))
        intro _
        refine .block ?_
        refine .loop (X := Nat × Nat) (fun ζ => .of [(4, .one (.ptr [4] (g4) 0)), (6, .one (.ptr [6] (g5) 0)), (7, .one (.ptr [7] (g14) 0)), (51, .one (.d (.sl false 2 1 (List.map i64c (l))))), (52, .one (.d (.v (.int .i64 ((l.length : Int)))))), (53, .one (.d (.v (.int .i64 ((ζ.1 : Int))))))] [([4], (g4, g4, .box [.d (.v (.int .i64 (b.lo))), .d (.v (.int .i64 (b.hi)))])), ([6], (g5, g5, .box [.d (.v (.int .i64 (0))), .d (.v (.int .i64 (0)))])), ([7], (g14, ζ.2, .box [.d (.v (.int .i64 (a.lo))), .d (.v (.int .i64 (widenHi b.hi (l.take ζ.1) 9223372036854775807)))]))]) (fun ζ => ζ.1 ≤ l.length) (fun ζ => l.length - ζ.1) ?_ ?_
        · skip
          exact .here (0, g52) (.of (.cons rfl (.cons rfl (.cons rfl (.cons rfl (.cons rfl (.cons (svI (show (0) = ((0 : Int)) by first | rfl | omega | exact wrap_le (by omega) (by omega) | (rw [wrap_le (by omega) (by omega)]; omega))) .nil)))))) (.cons rfl (.cons rfl (.cons (eq1 (fun z1 => some (g14, g52, O.box [.d (.v (.int .i64 (a.lo))), .d (.v (.int .i64 (z1)))])) (show (9223372036854775807) = (widenHi b.hi (l.take 0) 9223372036854775807) by first | rfl | (exact widenLo_yes (by omega) c3) | (exact widenLo_no (by omega) c3) | (exact widenHi_yes (by omega) c6) | (exact widenHi_no (by omega) c6))) .nil)))) (show 0 ≤ l.length by omega)
        · rintro ⟨i, q54⟩ hI
          have hI : i ≤ l.length := hI
          have hl9 : l.length ≤ 100 := by omega
          refine .seq ?_
          refine .reg (X := Unit) (fun ζ => .of [(4, .one (.ptr [4] (g4) 0)), (6, .one (.ptr [6] (g5) 0)), (7, .one (.ptr [7] (g14) 0)), (51, .one (.d (.sl false 2 1 (List.map i64c (l))))), (52, .one (.d (.v (.int .i64 ((l.length : Int)))))), (53, .one (.d (.v (.int .i64 ((i : Int)))))), (54, .one (.d (.v (.bool (decide ((i : Int) < (l.length : Int)))))))] [([4], (g4, g4, .box [.d (.v (.int .i64 (b.lo))), .d (.v (.int .i64 (b.hi)))])), ([6], (g5, g5, .box [.d (.v (.int .i64 (0))), .d (.v (.int .i64 (0)))])), ([7], (g14, q54, .box [.d (.v (.int .i64 (a.lo))), .d (.v (.int .i64 (widenHi b.hi (l.take i) 9223372036854775807)))]))]) [⟨[53, 52], some 54, [], []⟩] (fun k55 => ?_) ?_
          · skip
            refine .bin (.no rfl) rfl rfl rfl rfl rfl rfl ?_
            exact .fin () (.of (.cons rfl (.cons rfl (.cons rfl (.cons rfl (.cons rfl (.cons rfl (.cons rfl .nil))))))) (.cons rfl (.cons rfl (.cons rfl .nil))))
          intro _
          refine .seq ?_
          refine .cond (t := decide ((i : Int) < (l.length : Int))) rfl (fun c5 => ?_) (fun c5 => ?_)
          · have c5 := of_decide_eq_true c5
            refine .skip ?_
            refine .seq ?_
            refine .block ?_
            refine .seq ?_
            refine .reg (X := Unit) (fun ζ => .of [(4, .one (.ptr [4] (g4) 0)), (6, .one (.ptr [6] (g5) 0)), (7, .one (.ptr [7] (g14) 0)), (11, .one (.d (.v (.int .i64 (l.getD i default))))), (51, .one (.d (.sl false 2 1 (List.map i64c (l))))), (52, .one (.d (.v (.int .i64 ((l.length : Int)))))), (53, .one (.d (.v (.int .i64 ((i : Int))))))] [([4], (g4, g4, .box [.d (.v (.int .i64 (b.lo))), .d (.v (.int .i64 (b.hi)))])), ([6], (g5, g5, .box [.d (.v (.int .i64 (0))), .d (.v (.int .i64 (0)))])), ([7], (g14, q54, .box [.d (.v (.int .i64 (a.lo))), .d (.v (.int .i64 (widenHi b.hi (l.take i) 9223372036854775807)))]))]) [⟨[51, 53], some 55, [], []⟩, ⟨[55], some 56, [], []⟩, ⟨[56], some 11, [], []⟩] (fun k56 => ?_) ?_
            · skip
              refine .indexAddr (.no rfl) rfl (i) t31 rfl t2 rfl rfl rfl (.d _ _) rfl rfl rfl (map_get (by omega)) rfl rfl ?_
              refine .load (.no rfl) rfl t2 rfl rfl (.d _) rfl rfl rfl rfl ?_
              refine .assign (.no rfl) rfl rfl rfl rfl ?_
              exact .fin () (.of (.cons rfl (.cons rfl (.cons rfl (.cons rfl (.cons rfl (.cons rfl (.cons rfl .nil))))))) (.cons rfl (.cons rfl (.cons rfl .nil))))
            intro _
            refine .seq ?_
            refine .reg (X := Unit) (fun ζ => .of [(4, .one (.ptr [4] (g4) 0)), (6, .one (.ptr [6] (g5) 0)), (7, .one (.ptr [7] (g14) 0)), (11, .one (.d (.v (.int .i64 (l.getD i default))))), (51, .one (.d (.sl false 2 1 (List.map i64c (l))))), (52, .one (.d (.v (.int .i64 ((l.length : Int)))))), (53, .one (.d (.v (.int .i64 ((i : Int)))))), (60, .one (.d (.v (.bool (decide ((l.getD i default) ≥ b.hi))))))] [([4], (g4, g4, .box [.d (.v (.int .i64 (b.lo))), .d (.v (.int .i64 (b.hi)))])), ([6], (g5, g5, .box [.d (.v (.int .i64 (0))), .d (.v (.int .i64 (0)))])), ([7], (g14, q54, .box [.d (.v (.int .i64 (a.lo))), .d (.v (.int .i64 (widenHi b.hi (l.take i) 9223372036854775807)))]))]) [⟨[11], some 57, [], []⟩, ⟨[4], some 58, [], []⟩, ⟨[58], some 59, [[4]], []⟩, ⟨[57, 59], some 60, [], []⟩] (fun k57 => ?_) ?_
            · skip
              refine .move (.no rfl) rfl rfl rfl rfl ?_
              refine .fieldAddrP (.no rfl) rfl t39 rfl rfl t2 rfl rfl rfl rfl ?_
              refine .load (.no rfl) rfl t2 rfl rfl (.ptr _ _ _ _ _ rfl) rfl rfl rfl rfl ?_
              refine .bin (.no rfl) rfl rfl rfl rfl rfl rfl ?_
              exact .fin () (.of (.cons rfl (.cons rfl (.cons rfl (.cons rfl (.cons rfl (.cons rfl (.cons rfl (.cons rfl .nil)))))))) (.cons rfl (.cons rfl (.cons rfl .nil))))
            intro _
            refine .cond (t := decide ((l.getD i default) ≥ b.hi)) rfl (fun c6 => ?_) (fun c6 => ?_)
            · have c6 := of_decide_eq_true c6
              refine .reg (X := Nat) (fun ζ => .of [(4, .one (.ptr [4] (g4) 0)), (6, .one (.ptr [6] (g5) 0)), (7, .one (.ptr [7] (g14) 0)), (51, .one (.d (.sl false 2 1 (List.map i64c (l))))), (52, .one (.d (.v (.int .i64 ((l.length : Int)))))), (53, .one (.d (.v (.int .i64 ((i : Int))))))] [([4], (g4, g4, .box [.d (.v (.int .i64 (b.lo))), .d (.v (.int .i64 (b.hi)))])), ([6], (g5, g5, .box [.d (.v (.int .i64 (0))), .d (.v (.int .i64 (0)))])), ([7], (g14, ζ, .box [.d (.v (.int .i64 (a.lo))), .d (.v (.int .i64 (min (widenHi b.hi (l.take i) 9223372036854775807) (l.getD i default))))]))]) [⟨[7], some 61, [], []⟩, ⟨[61], some 62, [[7]], []⟩, ⟨[11], some 63, [], []⟩, ⟨[62, 63], some 64, [], []⟩, ⟨[7], some 65, [], []⟩, ⟨[65, 64], none, [[7]], [[7]]⟩] (fun k58 => ?_) ?_
              · skip
                refine .fieldAddrP (.no rfl) rfl t39 rfl rfl t2 rfl rfl rfl rfl ?_
                refine .load (.no rfl) rfl t2 rfl rfl (.ptr _ _ _ _ _ rfl) rfl rfl rfl rfl ?_
                refine .move (.no rfl) rfl rfl rfl rfl ?_
                refine .min (.no rfl) rfl rfl rfl rfl (min_of _ _) rfl ?_
                refine .fieldAddrP (.no rfl) rfl t39 rfl rfl t2 rfl rfl rfl rfl ?_
                refine .store (.no rfl) rfl t2 rfl rfl rfl rfl rfl rfl rfl rfl rfl ?_
                exact .fin (k58 + 1 + 1 + 1 + 1 + 1) (.of (.cons rfl (.cons rfl (.cons rfl (.cons rfl (.cons rfl (.cons rfl .nil)))))) (.cons rfl (.cons rfl (.cons rfl .nil))))
              intro g59
              refine .reg (X := Unit) (fun ζ => .of [(4, .one (.ptr [4] (g4) 0)), (6, .one (.ptr [6] (g5) 0)), (7, .one (.ptr [7] (g14) 0)), (51, .one (.d (.sl false 2 1 (List.map i64c (l))))), (52, .one (.d (.v (.int .i64 ((l.length : Int)))))), (53, .one (.d (.v (.int .i64 (IntKind.wrap .i64 ((i : Int) + 1))))))] [([4], (g4, g4, .box [.d (.v (.int .i64 (b.lo))), .d (.v (.int .i64 (b.hi)))])), ([6], (g5, g5, .box [.d (.v (.int .i64 (0))), .d (.v (.int .i64 (0)))])), ([7], (g14, g59, .box [.d (.v (.int .i64 (a.lo))), .d (.v (.int .i64 (min (widenHi b.hi (l.take i) 9223372036854775807) (l.getD i default))))]))]) [⟨[53], some 66, [], []⟩, ⟨[66], some 53, [], []⟩] (fun k60 => ?_) ?_
              · skip
                refine .bin (.no rfl) rfl rfl rfl rfl rfl rfl ?_
                refine .move (.no rfl) rfl rfl rfl rfl ?_
                exact .fin () (.of (.cons rfl (.cons rfl (.cons rfl (.cons rfl (.cons rfl (.cons rfl .nil)))))) (.cons rfl (.cons rfl (.cons rfl .nil))))
              intro _
              exact .here ((i + 1), g59) (.of (.cons rfl (.cons rfl (.cons rfl (.cons rfl (.cons rfl (.cons (svI (show (IntKind.wrap .i64 ((i : Int) + 1)) = (((i + 1) : Int)) by first | rfl | omega | exact wrap_le (by omega) (by omega) | (rw [wrap_le (by omega) (by omega)]; omega))) .nil)))))) (.cons rfl (.cons rfl (.cons (eq1 (fun z1 => some (g14, g59, O.box [.d (.v (.int .i64 (a.lo))), .d (.v (.int .i64 (z1)))])) (show (min (widenHi b.hi (l.take i) 9223372036854775807) (l.getD i default)) = (widenHi b.hi (l.take (i + 1)) 9223372036854775807) by first | rfl | (exact widenLo_yes (by omega) c3) | (exact widenLo_no (by omega) c3) | (exact widenHi_yes (by omega) c6) | (exact widenHi_no (by omega) c6))) .nil)))) ⟨(show (i + 1) ≤ l.length by omega), (show l.length - (i + 1) < l.length - i by omega)⟩
            · have c6 := of_decide_eq_false c6
              refine .skip ?_
              refine .reg (X := Unit) (fun ζ => .of [(4, .one (.ptr [4] (g4) 0)), (6, .one (.ptr [6] (g5) 0)), (7, .one (.ptr [7] (g14) 0)), (51, .one (.d (.sl false 2 1 (List.map i64c (l))))), (52, .one (.d (.v (.int .i64 ((l.length : Int)))))), (53, .one (.d (.v (.int .i64 (IntKind.wrap .i64 ((i : Int) + 1))))))] [([4], (g4, g4, .box [.d (.v (.int .i64 (b.lo))), .d (.v (.int .i64 (b.hi)))])), ([6], (g5, g5, .box [.d (.v (.int .i64 (0))), .d (.v (.int .i64 (0)))])), ([7], (g14, q54, .box [.d (.v (.int .i64 (a.lo))), .d (.v (.int .i64 (widenHi b.hi (l.take i) 9223372036854775807)))]))]) [⟨[53], some 66, [], []⟩, ⟨[66], some 53, [], []⟩] (fun k61 => ?_) ?_
              · skip
                refine .bin (.no rfl) rfl rfl rfl rfl rfl rfl ?_
                refine .move (.no rfl) rfl rfl rfl rfl ?_
                exact .fin () (.of (.cons rfl (.cons rfl (.cons rfl (.cons rfl (.cons rfl (.cons rfl .nil)))))) (.cons rfl (.cons rfl (.cons rfl .nil))))
              intro _
              exact .here ((i + 1), q54) (.of (.cons rfl (.cons rfl (.cons rfl (.cons rfl (.cons rfl (.cons (svI (show (IntKind.wrap .i64 ((i : Int) + 1)) = (((i + 1) : Int)) by first | rfl | omega | exact wrap_le (by omega) (by omega) | (rw [wrap_le (by omega) (by omega)]; omega))) .nil)))))) (.cons rfl (.cons rfl (.cons (eq1 (fun z1 => some (g14, q54, O.box [.d (.v (.int .i64 (a.lo))), .d (.v (.int .i64 (z1)))])) (show (widenHi b.hi (l.take i) 9223372036854775807) = (widenHi b.hi (l.take (i + 1)) 9223372036854775807) by first | rfl | (exact widenLo_yes (by omega) c3) | (exact widenLo_no (by omega) c3) | (exact widenHi_yes (by omega) c6) | (exact widenHi_no (by omega) c6))) .nil)))) ⟨(show (i + 1) ≤ l.length by omega), (show l.length - (i + 1) < l.length - i by omega)⟩
          · have c5 := of_decide_eq_false c5
            refine .exit ?_
            refine .seq ?_
            refine .reg (X := Nat) (fun ζ => .of [(6, .one (.ptr [6] (g5) 0))] [([6], (g5, ζ, .box [.d (.v (.int .i64 (a.lo))), .d (.v (.int .i64 (widenHi b.hi (l.take i) 9223372036854775807)))]))]) [⟨[7], some 67, [[7]], []⟩, ⟨[6, 67], none, [[6]], [[6]]⟩] (fun k62 => ?_) ?_
            · skip
              refine .load (.no rfl) rfl t39 rfl rfl (.ptr _ _ _ _ _ rfl) rfl rfl rfl rfl ?_
              refine .store (.no rfl) rfl t39 rfl rfl rfl rfl rfl rfl rfl rfl rfl ?_
              exact .fin (k62 + 1) (.of (.cons rfl .nil) (.cons rfl .nil))
            intro g63
            refine .ret ?_
            have e64 : (a.lo) = ((Iv.widenOk l a b).lo) := by (rw [Iv.widenOk_yes c0]; simp only [Iv.widen]; first | (rw [if_neg c1]; done) | (rw [List.take_of_length_le (by omega), if_pos c4]; done))
            have e65 : (widenHi b.hi (l.take i) 9223372036854775807) = ((Iv.widenOk l a b).hi) := by (rw [Iv.widenOk_yes c0]; simp only [Iv.widen]; first | (rw [if_neg c1]; done) | (rw [List.take_of_length_le (by omega), if_pos c4]; done))
            have hc66 := eq2 (fun z1 z2 => some (g5, g63, O.box [.d (.v (.int .i64 (z1))), .d (.v (.int .i64 (z2)))])) e64 e65
            show _ ∧ _
            exact ⟨.inr rfl, .done ⟨_, [], [], _, .cell (cells := [.d (.v (.int .i64 ((Iv.widenOk l a b).lo))), .d (.v (.int .i64 ((Iv.widenOk l a b).hi)))]) rfl hc66 t39 rfl rfl .nil, .cons (Reads.d _).gives (.cons (Reads.d _).gives .nil), nodupB_ok rfl, by simp, (by simp)⟩⟩
      · have c4 := of_decide_eq_false c4
        refine .skip ?_
        refine .seq ?_
        refine .reg (X := Nat) (fun ζ => .of [(6, .one (.ptr [6] (g5) 0))] [([6], (g5, ζ, .box [.d (.v (.int .i64 (a.lo))), .d (.v (.int .i64 (a.hi)))]))]) [⟨[7], some 67, [[7]], []⟩, ⟨[6, 67], none, [[6]], [[6]]⟩] (fun k67 => ?_) ?_
        · skip
          refine .load (.no rfl) rfl t39 rfl rfl (.ptr _ _ _ _ _ rfl) rfl rfl rfl rfl ?_
          refine .store (.no rfl) rfl t39 rfl rfl rfl rfl rfl rfl rfl rfl rfl ?_
          exact .fin (k67 + 1) (.of (.cons rfl .nil) (.cons rfl .nil))
        intro g68
        refine .ret ?_
        have e69 : (a.lo) = ((Iv.widenOk l a b).lo) := by (rw [Iv.widenOk_yes c0]; simp only [Iv.widen]; first | (rw [if_neg c1]; done) | (rw [if_neg c4]; done))
        have e70 : (a.hi) = ((Iv.widenOk l a b).hi) := by (rw [Iv.widenOk_yes c0]; simp only [Iv.widen]; first | (rw [if_neg c1]; done) | (rw [if_neg c4]; done))
        have hc71 := eq2 (fun z1 z2 => some (g5, g68, O.box [.d (.v (.int .i64 (z1))), .d (.v (.int .i64 (z2)))])) e69 e70
        show _ ∧ _
        exact ⟨.inr rfl, .done ⟨_, [], [], _, .cell (cells := [.d (.v (.int .i64 ((Iv.widenOk l a b).lo))), .d (.v (.int .i64 ((Iv.widenOk l a b).hi)))]) rfl hc71 t39 rfl rfl .nil, .cons (Reads.d _).gives (.cons (Reads.d _).gives .nil), nodupB_ok rfl, by simp, (by simp)⟩⟩
end Go.Proofs

namespace Go.Proofs
open Go Go.Proofs Go.Ev

theorem c_l6Widen (a : Env) (b : Env) (l : List Int) (hj : a.live = true → b.live = true → a.ints.length = b.ints.length ∧ a.arrs.length = b.arrs.length) (hb : a.ints.length ≤ 1048576 ∧ a.arrs.length ≤ 1048576 ∧ b.ints.length ≤ 1048576 ∧ b.arrs.length ≤ 1048576) : Trip Tryd.prog 47 [(true, 3), (true, 3), (false, 1)] (Env.c30 a ++ Env.c30 b ++ [.sl false 2 1 (List.map i64c (l))]) [(true, 3)] [.v (.bool ((Env.joinW (fun x y => Iv.widenOk l x y) a b).live)), .sl true 39 2 (List.map Iv.c ((Env.joinW (fun x y => Iv.widenOk l x y) a b).ints)), .sl true 39 2 (List.map Iv.c ((Env.joinW (fun x y => Iv.widenOk l x y) a b).arrs))] [] := by
  refine Trip.of Tryd.func47 (by decide) (c := _) rfl rfl (shB_ok rfl) (Nat.le_of_ble_eq_true rfl) rfl (AftOk.nil _) ?_
  refine .satA (t := 0) (i := 1) rfl rfl (fun hs1 => ?_)
  have hs1l : a.ints.length ≤ 9223372036854775807 := hs1.maplen
  refine .satA (t := 0) (i := 2) rfl rfl (fun hs2 => ?_)
  have hs2l : a.arrs.length ≤ 9223372036854775807 := hs2.maplen
  refine .satA (t := 1) (i := 1) rfl rfl (fun hs3 => ?_)
  have hs3l : b.ints.length ≤ 9223372036854775807 := hs3.maplen
  refine .satA (t := 1) (i := 2) rfl rfl (fun hs4 => ?_)
  have hs4l : b.arrs.length ≤ 9223372036854775807 := hs4.maplen
  refine .sat (t := 2) rfl (fun hs5 => ?_)
  have hs5l : l.length ≤ 9223372036854775807 := hs5.maplen
  refine .seq ?_
  refine .reg (X := Nat × Nat × Nat) (fun ζ => .of [(2, .one (.d (.sl false 2 1 (List.map i64c (l))))), (3, .one (.ptr [3] (ζ.1) 0)), (4, .one (.ptr [4] (ζ.2.1) 0)), (6, .one (.ptr [6] (ζ.2.2) 0))] [([3], (ζ.1, ζ.1, .box [.d (.v (.bool (a.live))), .d (.sl false 39 2 (List.map Iv.c (a.ints))), .d (.sl false 39 2 (List.map Iv.c (a.arrs)))])), ([4], (ζ.2.1, ζ.2.1, .box [.d (.v (.bool (b.live))), .d (.sl false 39 2 (List.map Iv.c (b.ints))), .d (.sl false 39 2 (List.map Iv.c (b.arrs)))])), ([6], (ζ.2.2, ζ.2.2, .box [.d (.v (.bool (false))), .d (.v (.slice none 0 0)), .d (.v (.slice none 0 0))]))]) [⟨[0], some 3, [], [[3]]⟩, ⟨[1], some 4, [], [[4]]⟩, ⟨[], some 6, [], [[6]]⟩] (fun k6 => ?_) ?_
  · skip
    refine .box (.no rfl) rfl rfl rfl rfl rfl ?_
    refine .box (.no rfl) rfl rfl rfl rfl rfl ?_
    refine .alloc (.no rfl) rfl z30 rfl rfl rfl ?_
    exact .fin (k6, k6 + 1, k6 + 1 + 1) (.of (.cons rfl (.cons rfl (.cons rfl (.cons rfl .nil)))) (.cons rfl (.cons rfl (.cons rfl .nil))))
  rintro ⟨g7, g8, g9⟩
  refine .seq ?_
  refine .seq ?_
  refine .reg (X := Unit) (fun ζ => .of [(2, .one (.d (.sl false 2 1 (List.map i64c (l))))), (3, .one (.ptr [3] (g7) 0)), (4, .one (.ptr [4] (g8) 0)), (6, .one (.ptr [6] (g9) 0)), (18, .one (.d (.v (.bool ((!a.live || !b.live))))))] [([3], (g7, g7, .box [.d (.v (.bool (a.live))), .d (.sl false 39 2 (List.map Iv.c (a.ints))), .d (.sl false 39 2 (List.map Iv.c (a.arrs)))])), ([4], (g8, g8, .box [.d (.v (.bool (b.live))), .d (.sl false 39 2 (List.map Iv.c (b.ints))), .d (.sl false 39 2 (List.map Iv.c (b.arrs)))])), ([6], (g9, g9, .box [.d (.v (.bool (false))), .d (.v (.slice none 0 0)), .d (.v (.slice none 0 0))]))]) [⟨[3], some 11, [], []⟩, ⟨[11], some 12, [[3]], []⟩, ⟨[12], some 13, [], []⟩, ⟨[13], some 14, [], []⟩, ⟨[14, 4], some 15, [], []⟩, ⟨[14, 15], some 16, [[4]], []⟩, ⟨[14, 16], some 17, [], []⟩, ⟨[14, 17], some 18, [], []⟩] (fun k10 => ?_) ?_
  · skip
    refine .fieldAddrP (.no rfl) rfl t30 rfl rfl t4 rfl rfl rfl rfl ?_
    refine .load (.no rfl) rfl t4 rfl rfl (.ptr _ _ _ _ _ rfl) rfl rfl rfl rfl ?_
    refine .un (.no rfl) rfl rfl rfl rfl rfl ?_
    refine .moveB (.no rfl) rfl rfl rfl rfl fun b11 g1_3 => ?_
    cases b11
    · skip
      refine .fieldAddrP (.on rfl rfl rfl rfl rfl) rfl t30 rfl rfl t4 rfl rfl rfl rfl ?_
      refine .load (.on rfl rfl rfl rfl rfl) rfl t4 rfl rfl (.ptr _ _ _ _ _ rfl) rfl rfl rfl rfl ?_
      refine .un (.on rfl rfl rfl rfl rfl) rfl rfl rfl rfl rfl ?_
      refine .pick (.no rfl) rfl rfl rfl rfl rfl ?_
      exact .fin () (.of (.cons rfl (.cons rfl (.cons rfl (.cons rfl (.cons (svB (show (!b.live) = ((!a.live || !b.live)) by first | (simp only [g1_3, Bool.true_or, Bool.false_or, Bool.true_and, Bool.false_and, Bool.not_true, Bool.not_false]; done) | simp [g1_3])) .nil))))) (.cons rfl (.cons rfl (.cons rfl .nil))))
    · skip
      refine .off rfl rfl rfl rfl rfl rfl rfl ?_
      refine .off rfl rfl rfl rfl rfl rfl rfl ?_
      refine .off rfl rfl rfl rfl rfl rfl rfl ?_
      refine .pick (.no rfl) rfl rfl rfl rfl rfl ?_
      exact .fin () (.of (.cons rfl (.cons rfl (.cons rfl (.cons rfl (.cons (svB (show (true) = ((!a.live || !b.live)) by first | (simp only [g1_3, Bool.true_or, Bool.false_or, Bool.true_and, Bool.false_and, Bool.not_true, Bool.not_false]; done) | simp [g1_3])) .nil))))) (.cons rfl (.cons rfl (.cons rfl .nil))))
  intro _
  refine .cond (t := (!a.live || !b.live)) rfl (fun c0 => ?_) (fun c0 => ?_)
  · have c0 := c0
    try simp only [Bool.or_eq_true, Bool.or_eq_false_iff, Bool.and_eq_true, Bool.and_eq_false_iff, decide_eq_true_eq, decide_eq_false_iff_not, Bool.not_eq_true', Bool.not_eq_false', bne_iff_ne, beq_iff_eq, bne_eq_false_iff_eq, beq_eq_false_iff_ne, ne_eq, Bool.not_eq_eq_eq_not, Bool.not_true, Bool.not_false] at c0
    refine .seq ?_
    refine .reg (X := Nat × Nat) (fun ζ => .of [(6, .one (.ptr [6] (g9) 0))] [([6], (g9, ζ.1, .box [.d (.v (.bool ((Env.join a b).live))), .ref [21, 1] (ζ.2), .ref [21, 2] (ζ.2)])), ([21, 1], (ζ.2, ζ.2, .row 39 2 (List.map Iv.c ((Env.join a b).ints)))), ([21, 2], (ζ.2, ζ.2, .row 39 2 (List.map Iv.c ((Env.join a b).arrs))))]) [⟨[3], some 19, [[3]], []⟩, ⟨[4], some 20, [[4]], []⟩, ⟨[19, 20], some 21, [], [[21, 1], [21, 2]]⟩, ⟨[6, 21], none, [[6]], [[6]]⟩] (fun k12 => ?_) ?_
    · skip
      refine .load (.no rfl) rfl t30 rfl rfl (.ptr _ _ _ _ _ rfl) rfl rfl rfl rfl ?_
      refine .load (.no rfl) rfl t30 rfl rfl (.ptr _ _ _ _ _ rfl) rfl rfl rfl rfl ?_
      refine .call (.no rfl) rfl [] [] (c_l6Join a b (by first | assumption | omega | (rw [zip2To_len]; simp at hI c1 ⊢; omega)) (by first | assumption | omega | (rw [zip2To_len]; simp at hI c1 ⊢; omega))) rfl rfl rfl rfl rfl (.cons (Reads.d _).gives (.cons (Reads.d _).gives (.cons (Reads.d _).gives (.cons (Reads.d _).gives (.cons (Reads.d _).gives (.cons (Reads.d _).gives .nil)))))) rfl rfl (fun h => absurd rfl h) (.own [21, 0] (.own [21, 1] (.own [21, 2] .nil))) (.nil) rfl rfl rfl (by simp) rfl rfl rfl ?_
      refine .store (.no rfl) rfl t30 rfl rfl rfl rfl rfl rfl rfl rfl rfl ?_
      exact .fin (k12 + 1 + 1 + 1, k12 + 1 + 1) (.of (.cons rfl .nil) (.cons rfl (.cons rfl (.cons rfl .nil))))
    rintro ⟨g13, g14⟩
    refine .ret ?_
    have e15 : ((Env.join a b).live) = ((Env.joinW (fun x y => Iv.widenOk l x y) a b).live) := by (rw [Env.joinW_dead c0])
    have e16 : ((Env.join a b).ints) = ((Env.joinW (fun x y => Iv.widenOk l x y) a b).ints) := by (rw [Env.joinW_dead c0])
    have e17 : ((Env.join a b).arrs) = ((Env.joinW (fun x y => Iv.widenOk l x y) a b).arrs) := by (rw [Env.joinW_dead c0])
    have hc18 := eq1 (fun z1 => some (g9, g13, O.box [.d (.v (.bool (z1))), .ref [21, 1] (g14), .ref [21, 2] (g14)])) e15
    show _ ∧ _
    exact ⟨.inr rfl, .done ⟨_, [], [([21, 1], (g14, g14, .row 39 2 (List.map Iv.c ((Env.joinW (fun x y => Iv.widenOk l x y) a b).ints)))), ([21, 2], (g14, g14, .row 39 2 (List.map Iv.c ((Env.joinW (fun x y => Iv.widenOk l x y) a b).arrs))))], _, .cell (cells := [.d (.v (.bool ((Env.joinW (fun x y => Iv.widenOk l x y) a b).live))), .ref [21, 1] (g14), .ref [21, 2] (g14)]) rfl hc18 t30 rfl rfl .nil, .cons (Reads.d _).gives (.cons (.ref (.head _)) (.cons (.ref (.tail _ (.head _))) .nil)), nodupB_ok rfl, by simp, (AllH.get (.cons (rowE (congrArg (List.map Iv.c) e16)) (.cons (rowE (congrArg (List.map Iv.c) e17)) .nil)))⟩⟩
  · have c0 := c0
    try simp only [Bool.or_eq_true, Bool.or_eq_false_iff, Bool.and_eq_true, Bool.and_eq_false_iff, decide_eq_true_eq, decide_eq_false_iff_not, Bool.not_eq_true', Bool.not_eq_false', bne_iff_ne, beq_iff_eq, bne_eq_false_iff_eq, beq_eq_false_iff_ne, ne_eq, Bool.not_eq_eq_eq_not, Bool.not_true, Bool.not_false] at c0
    refine .skip ?_
    refine .seq ?_
    refine .reg (X := Unit) (fun ζ => .of [(2, .one (.d (.sl false 2 1 (List.map i64c (l))))), (3, .one (.ptr [3] (g7) 0)), (4, .one (.ptr [4] (g8) 0)), (6, .one (.ptr [6] (g9) 0)), (7, .one (.d (.sl false 39 2 (List.map Iv.c (a.ints ++ a.arrs)))))] [([3], (g7, g7, .box [.d (.v (.bool (a.live))), .d (.sl false 39 2 (List.map Iv.c (a.ints))), .d (.sl false 39 2 (List.map Iv.c (a.arrs)))])), ([4], (g8, g8, .box [.d (.v (.bool (b.live))), .d (.sl false 39 2 (List.map Iv.c (b.ints))), .d (.sl false 39 2 (List.map Iv.c (b.arrs)))])), ([6], (g9, g9, .box [.d (.v (.bool (false))), .d (.v (.slice none 0 0)), .d (.v (.slice none 0 0))]))]) [⟨[3], some 22, [[3]], []⟩, ⟨[22], some 23, [], []⟩, ⟨[23], some 7, [], []⟩] (fun k19 => ?_) ?_
    · skip
      refine .load (.no rfl) rfl t30 rfl rfl (.ptr _ _ _ _ _ rfl) rfl rfl rfl rfl ?_
      refine .call (.no rfl) rfl [] [] (c_l6List a (by first | assumption | omega | (rw [zip2To_len]; simp at hI c1 ⊢; omega))) rfl rfl rfl rfl rfl (.cons (Reads.d _).gives (.cons (Reads.d _).gives (.cons (Reads.d _).gives .nil))) rfl rfl (fun h => absurd rfl h) (.frz [23, 0] (Frz.of_erase (erase_slo _ _ _ _ _ _ Iv.c_e)) .nil) (.nil) rfl rfl rfl (by simp) rfl rfl rfl ?_
      refine .assign (.no rfl) rfl rfl rfl rfl ?_
      exact .fin () (.of (.cons rfl (.cons rfl (.cons rfl (.cons rfl (.cons rfl .nil))))) (.cons rfl (.cons rfl (.cons rfl .nil))))
    intro _
    refine .seq ?_
    refine .reg (X := Unit) (fun ζ => .of [(2, .one (.d (.sl false 2 1 (List.map i64c (l))))), (3, .one (.ptr [3] (g7) 0)), (6, .one (.ptr [6] (g9) 0)), (7, .one (.d (.sl false 39 2 (List.map Iv.c (a.ints ++ a.arrs))))), (8, .one (.d (.sl false 39 2 (List.map Iv.c (b.ints ++ b.arrs)))))] [([3], (g7, g7, .box [.d (.v (.bool (a.live))), .d (.sl false 39 2 (List.map Iv.c (a.ints))), .d (.sl false 39 2 (List.map Iv.c (a.arrs)))])), ([6], (g9, g9, .box [.d (.v (.bool (false))), .d (.v (.slice none 0 0)), .d (.v (.slice none 0 0))]))]) [⟨[4], some 24, [[4]], []⟩, ⟨[24], some 25, [], []⟩, ⟨[25], some 8, [], []⟩] (fun k20 => ?_) ?_
    · skip
      refine .load (.no rfl) rfl t30 rfl rfl (.ptr _ _ _ _ _ rfl) rfl rfl rfl rfl ?_
      refine .call (.no rfl) rfl [] [] (c_l6List b (by first | assumption | omega | (rw [zip2To_len]; simp at hI c1 ⊢; omega))) rfl rfl rfl rfl rfl (.cons (Reads.d _).gives (.cons (Reads.d _).gives (.cons (Reads.d _).gives .nil))) rfl rfl (fun h => absurd rfl h) (.frz [25, 0] (Frz.of_erase (erase_slo _ _ _ _ _ _ Iv.c_e)) .nil) (.nil) rfl rfl rfl (by simp) rfl rfl rfl ?_
      refine .assign (.no rfl) rfl rfl rfl rfl ?_
      exact .fin () (.of (.cons rfl (.cons rfl (.cons rfl (.cons rfl (.cons rfl .nil))))) (.cons rfl (.cons rfl .nil)))
    intro _
    refine .seq ?_
    refine .reg (X := Nat) (fun ζ => .of [(2, .one (.d (.sl false 2 1 (List.map i64c (l))))), (3, .one (.ptr [3] (g7) 0)), (6, .one (.ptr [6] (g9) 0)), (7, .one (.d (.sl false 39 2 (List.map Iv.c (a.ints ++ a.arrs))))), (8, .one (.d (.sl false 39 2 (List.map Iv.c (b.ints ++ b.arrs))))), (9, .one (.ref [26] (ζ)))] [([3], (g7, g7, .box [.d (.v (.bool (a.live))), .d (.sl false 39 2 (List.map Iv.c (a.ints))), .d (.sl false 39 2 (List.map Iv.c (a.arrs)))])), ([6], (g9, g9, .box [.d (.v (.bool (false))), .d (.v (.slice none 0 0)), .d (.v (.slice none 0 0))])), ([26], (ζ, ζ, .row 39 2 ([])))]) [⟨[], some 26, [], [[26]]⟩, ⟨[26], some 9, [], []⟩] (fun k21 => ?_) ?_
    · skip
      refine .buildSlice (.no rfl) rfl (els := []) t28 rfl z39 rfl rfl rfl rfl rfl rfl rfl rfl (by simp [i39]) .nil rfl rfl rfl ?_
      refine .assign (.no rfl) rfl rfl rfl rfl ?_
      exact .fin k21 (.of (.cons rfl (.cons rfl (.cons rfl (.cons rfl (.cons rfl (.cons rfl .nil)))))) (.cons rfl (.cons rfl (.cons rfl .nil))))
    intro g22
    refine .seq ?_
    refine .seq ?_
    refine .reg (X := Unit) (fun ζ => .of [(2, .one (.d (.sl false 2 1 (List.map i64c (l))))), (3, .one (.ptr [3] (g7) 0)), (6, .one (.ptr [6] (g9) 0)), (7, .one (.d (.sl false 39 2 (List.map Iv.c (a.ints ++ a.arrs))))), (8, .one (.d (.sl false 39 2 (List.map Iv.c (b.ints ++ b.arrs))))), (9, .one (.ref [26] (g22))), (10, .one (.d (.v (.int .i64 (0)))))] [([3], (g7, g7, .box [.d (.v (.bool (a.live))), .d (.sl false 39 2 (List.map Iv.c (a.ints))), .d (.sl false 39 2 (List.map Iv.c (a.arrs)))])), ([6], (g9, g9, .box [.d (.v (.bool (false))), .d (.v (.slice none 0 0)), .d (.v (.slice none 0 0))])), ([26], (g22, g22, .row 39 2 ([])))]) [⟨[], some 10, [], []⟩] (fun k23 => ?_) ?_
    · skip
      refine .assign (.no rfl) rfl rfl rfl rfl ?_
      exact .fin () (.of (.cons rfl (.cons rfl (.cons rfl (.cons rfl (.cons rfl (.cons rfl (.cons rfl .nil))))))) (.cons rfl (.cons rfl (.cons rfl .nil))))
    intro _
    refine .block ?_
    refine .loop (X := Nat × Nat × Nat) (fun ζ => .of [(2, .one (.d (.sl false 2 1 (List.map i64c (l))))), (3, .one (.ptr [3] (g7) 0)), (6, .one (.ptr [6] (g9) 0)), (7, .one (.d (.sl false 39 2 (List.map Iv.c (a.ints ++ a.arrs))))), (8, .one (.d (.sl false 39 2 (List.map Iv.c (b.ints ++ b.arrs))))), (9, .one (.ref [26] (ζ.2.1))), (10, .one (.d (.v (.int .i64 ((ζ.1 : Int))))))] [([3], (g7, g7, .box [.d (.v (.bool (a.live))), .d (.sl false 39 2 (List.map Iv.c (a.ints))), .d (.sl false 39 2 (List.map Iv.c (a.arrs)))])), ([6], (g9, g9, .box [.d (.v (.bool (false))), .d (.v (.slice none 0 0)), .d (.v (.slice none 0 0))])), ([26], (ζ.2.1, ζ.2.2, .row 39 2 (List.map Iv.c (zip2To (fun x y => Iv.widenOk l x y) (a.ints ++ a.arrs) (b.ints ++ b.arrs) ζ.1))))]) (fun ζ => ζ.1 ≤ (a.ints ++ a.arrs).length) (fun ζ => (a.ints ++ a.arrs).length - ζ.1) ?_ ?_
    · skip
      exact .here (0, g22, g22) (.of (.cons rfl (.cons rfl (.cons rfl (.cons rfl (.cons rfl (.cons rfl (.cons (svI (show (0) = ((0 : Int)) by first | rfl | omega | exact wrap_le (by omega) (by omega) | (rw [wrap_le (by omega) (by omega)]; omega))) .nil))))))) (.cons rfl (.cons rfl (.cons (rowE (show [] = List.map Iv.c (zip2To (fun x y => Iv.widenOk l x y) (a.ints ++ a.arrs) (b.ints ++ b.arrs) 0) by first | rfl | exact congrArg _ (zip2To_step (fun x y => Iv.widenOk l x y) _ _ _))) .nil)))) (show 0 ≤ (a.ints ++ a.arrs).length by omega)
    · rintro ⟨j, q24, q25⟩ hI
      have hI : j ≤ (a.ints ++ a.arrs).length := hI
      have hn9 : (a.ints ++ a.arrs).length ≤ 3145728 := by simp; omega
      have hn8 : (a.ints ++ a.arrs).length = (b.ints ++ b.arrs).length := by have := hj c0.1 c0.2; simp; omega
      have hn7 := zip2To_len (fun x y => Iv.widenOk l x y) (a.ints ++ a.arrs) (b.ints ++ b.arrs) j
      refine .seq ?_
      refine .seq ?_
      refine .reg (X := Unit) (fun ζ => .of [(2, .one (.d (.sl false 2 1 (List.map i64c (l))))), (3, .one (.ptr [3] (g7) 0)), (6, .one (.ptr [6] (g9) 0)), (7, .one (.d (.sl false 39 2 (List.map Iv.c (a.ints ++ a.arrs))))), (8, .one (.d (.sl false 39 2 (List.map Iv.c (b.ints ++ b.arrs))))), (9, .one (.ref [26] (q24))), (10, .one (.d (.v (.int .i64 ((j : Int)))))), (30, .one (.d (.v (.bool (decide ((j : Int) < ((a.ints ++ a.arrs).length : Int)))))))] [([3], (g7, g7, .box [.d (.v (.bool (a.live))), .d (.sl false 39 2 (List.map Iv.c (a.ints))), .d (.sl false 39 2 (List.map Iv.c (a.arrs)))])), ([6], (g9, g9, .box [.d (.v (.bool (false))), .d (.v (.slice none 0 0)), .d (.v (.slice none 0 0))])), ([26], (q24, q25, .row 39 2 (List.map Iv.c (zip2To (fun x y => Iv.widenOk l x y) (a.ints ++ a.arrs) (b.ints ++ b.arrs) j))))]) [⟨[10], some 27, [], []⟩, ⟨[7], some 28, [], []⟩, ⟨[28], some 29, [], []⟩, ⟨[27, 29], some 30, [], []⟩] (fun k26 => ?_) ?_
      · skip
        refine .move (.no rfl) rfl rfl rfl rfl ?_
        refine .move (.no rfl) rfl rfl rfl rfl ?_
        refine .len (.no rfl) rfl (z := ((a.ints ++ a.arrs).length : Int)) t28 rfl rfl rfl (.d _ _) (map_len _ _) rfl ?_
        refine .bin (.no rfl) rfl rfl rfl rfl rfl rfl ?_
        exact .fin () (.of (.cons rfl (.cons rfl (.cons rfl (.cons rfl (.cons rfl (.cons rfl (.cons rfl (.cons rfl .nil)))))))) (.cons rfl (.cons rfl (.cons rfl .nil))))
      intro _
      refine .cond (t := decide ((j : Int) < ((a.ints ++ a.arrs).length : Int))) rfl (fun c1 => ?_) (fun c1 => ?_)
      · have c1 := of_decide_eq_true c1
        refine .skip ?_
        refine .seq ?_
        refine .block ?_
        refine .regD (X := Nat) (by kernel_rfl) (fun ζ => .of [(2, .one (.d (.sl false 2 1 (List.map i64c (l))))), (3, .one (.ptr [3] (g7) 0)), (6, .one (.ptr [6] (g9) 0)), (7, .one (.d (.sl false 39 2 (List.map Iv.c (a.ints ++ a.arrs))))), (8, .one (.d (.sl false 39 2 (List.map Iv.c (b.ints ++ b.arrs))))), (9, .one (.ref [26] (ζ))), (10, .one (.d (.v (.int .i64 ((j : Int))))))] [([3], (g7, g7, .box [.d (.v (.bool (a.live))), .d (.sl false 39 2 (List.map Iv.c (a.ints))), .d (.sl false 39 2 (List.map Iv.c (a.arrs)))])), ([6], (g9, g9, .box [.d (.v (.bool (false))), .d (.v (.slice none 0 0)), .d (.v (.slice none 0 0))])), ([26], (ζ, ζ, .row 39 2 (List.map Iv.c (zip2To (fun x y => Iv.widenOk l x y) (a.ints ++ a.arrs) (b.ints ++ b.arrs) j ++ [(Iv.widenOk l ((a.ints ++ a.arrs).getD (j) default) ((b.ints ++ b.arrs).getD (j) default))]))))]) [⟨[9], some 33, [], []⟩, ⟨[7], some 34, [], []⟩, ⟨[10], some 35, [], []⟩, ⟨[34, 35], some 36, [], []⟩, ⟨[36], some 37, [], []⟩, ⟨[8], some 38, [], []⟩, ⟨[10], some 39, [], []⟩, ⟨[38, 39], some 40, [], []⟩, ⟨[40], some 41, [], []⟩, ⟨[2], some 42, [], []⟩, ⟨[37, 41, 42], some 43, [], []⟩, ⟨[43], some 44, [], [[44]]⟩, ⟨[33, 44], some 45, [[26], [44]], [[44], [26]]⟩, ⟨[45], some 9, [], []⟩] (by kernel_rfl) (fun k27 => ?_) ?_
        · skip
          refine .move (.no rfl) rfl rfl rfl rfl ?_
          refine .move (.no rfl) rfl rfl rfl rfl ?_
          refine .move (.no rfl) rfl rfl rfl rfl ?_
          refine .indexAddr (.no rfl) rfl (j) t28 rfl t39 rfl rfl rfl (.d _ _) rfl rfl rfl (map_get (by omega)) rfl rfl ?_
          refine .load (.no rfl) rfl t39 rfl rfl (.d _) rfl rfl rfl rfl ?_
          refine .move (.no rfl) rfl rfl rfl rfl ?_
          refine .move (.no rfl) rfl rfl rfl rfl ?_
          refine .indexAddr (.no rfl) rfl (j) t28 rfl t39 rfl rfl rfl (.d _ _) rfl rfl rfl (map_get (by omega)) rfl rfl ?_
          refine .load (.no rfl) rfl t39 rfl rfl (.d _) rfl rfl rfl rfl ?_
          refine .move (.no rfl) rfl rfl rfl rfl ?_
          refine .call (.no rfl) rfl [] [] (c_sIvWiden ((a.ints ++ a.arrs).getD (j) default) ((b.ints ++ b.arrs).getD (j) default) l) rfl rfl rfl rfl rfl (.cons (Reads.d _).gives (.cons (Reads.d _).gives (.cons (Reads.d _).gives (.cons (Reads.d _).gives (.cons (Reads.d _).gives .nil))))) rfl rfl (fun h => absurd rfl h) (.own [43, 0] (.own [43, 1] .nil)) (.nil) rfl rfl rfl (by simp) rfl rfl rfl ?_
          refine .buildSlice (.no rfl) rfl (els := [[.v (.int .i64 ((Iv.widenOk l ((a.ints ++ a.arrs).getD (j) default) ((b.ints ++ b.arrs).getD (j) default)).lo)), .v (.int .i64 ((Iv.widenOk l ((a.ints ++ a.arrs).getD (j) default) ((b.ints ++ b.arrs).getD (j) default)).hi))]]) t28 rfl z39 rfl rfl rfl rfl rfl rfl rfl rfl (by simp [i39]) (.cons _ _ _ _ _ _ (.d _) (.cons _ _ _ _ _ _ (.d _) .nil)) rfl rfl rfl ?_
          refine .append (.no rfl) rfl (l3 := List.map Iv.c (zip2To (fun x y => Iv.widenOk l x y) (a.ints ++ a.arrs) (b.ints ++ b.arrs) j ++ [(Iv.widenOk l ((a.ints ++ a.arrs).getD (j) default) ((b.ints ++ b.arrs).getD (j) default))])) t28 rfl z39 rfl rfl rfl rfl rfl rfl rfl rfl (.ref _ _ _ _ rfl) (.take _ _ _ _ _ rfl) rfl (by simp [i39]; omega) (map_snoc _ _ _) rfl rfl ?_
          refine .assign (.no rfl) rfl rfl rfl rfl ?_
          exact .fin (k27 + 1 + 1 + 1 + 1 + 1 + 1 + 1 + 1 + 1 + 1 + 1 + 1) (.of (.cons rfl (.cons rfl (.cons rfl (.cons rfl (.cons rfl (.cons rfl (.cons rfl .nil))))))) (.cons rfl (.cons rfl (.cons rfl .nil))))
        intro g28
        refine .reg (X := Unit) (fun ζ => .of [(2, .one (.d (.sl false 2 1 (List.map i64c (l))))), (3, .one (.ptr [3] (g7) 0)), (6, .one (.ptr [6] (g9) 0)), (7, .one (.d (.sl false 39 2 (List.map Iv.c (a.ints ++ a.arrs))))), (8, .one (.d (.sl false 39 2 (List.map Iv.c (b.ints ++ b.arrs))))), (9, .one (.ref [26] (g28))), (10, .one (.d (.v (.int .i64 (IntKind.wrap .i64 ((j : Int) + 1))))))] [([3], (g7, g7, .box [.d (.v (.bool (a.live))), .d (.sl false 39 2 (List.map Iv.c (a.ints))), .d (.sl false 39 2 (List.map Iv.c (a.arrs)))])), ([6], (g9, g9, .box [.d (.v (.bool (false))), .d (.v (.slice none 0 0)), .d (.v (.slice none 0 0))])), ([26], (g28, g28, .row 39 2 (List.map Iv.c (zip2To (fun x y => Iv.widenOk l x y) (a.ints ++ a.arrs) (b.ints ++ b.arrs) j ++ [(Iv.widenOk l ((a.ints ++ a.arrs).getD (j) default) ((b.ints ++ b.arrs).getD (j) default))]))))]) [⟨[10], some 31, [], []⟩, ⟨[31], some 32, [], []⟩, ⟨[32], some 10, [], []⟩] (fun k29 => ?_) ?_
        · skip
          refine .move (.no rfl) rfl rfl rfl rfl ?_
          refine .bin (.no rfl) rfl rfl rfl rfl rfl rfl ?_
          refine .assign (.no rfl) rfl rfl rfl rfl ?_
          exact .fin () (.of (.cons rfl (.cons rfl (.cons rfl (.cons rfl (.cons rfl (.cons rfl (.cons rfl .nil))))))) (.cons rfl (.cons rfl (.cons rfl .nil))))
        intro _
        exact .here ((j + 1), g28, g28) (.of (.cons rfl (.cons rfl (.cons rfl (.cons rfl (.cons rfl (.cons rfl (.cons (svI (show (IntKind.wrap .i64 ((j : Int) + 1)) = (((j + 1) : Int)) by first | rfl | omega | exact wrap_le (by omega) (by omega) | (rw [wrap_le (by omega) (by omega)]; omega))) .nil))))))) (.cons rfl (.cons rfl (.cons (rowE (show List.map Iv.c (zip2To (fun x y => Iv.widenOk l x y) (a.ints ++ a.arrs) (b.ints ++ b.arrs) j ++ [(Iv.widenOk l ((a.ints ++ a.arrs).getD (j) default) ((b.ints ++ b.arrs).getD (j) default))]) = List.map Iv.c (zip2To (fun x y => Iv.widenOk l x y) (a.ints ++ a.arrs) (b.ints ++ b.arrs) (j + 1)) by first | rfl | exact congrArg _ (zip2To_step (fun x y => Iv.widenOk l x y) _ _ _))) .nil)))) ⟨(show (j + 1) ≤ (a.ints ++ a.arrs).length by omega), (show (a.ints ++ a.arrs).length - (j + 1) < (a.ints ++ a.arrs).length - j by omega)⟩
      · have c1 := of_decide_eq_false c1
        refine .exit ?_
        refine .seq ?_
        refine .reg (X := Nat × Nat) (fun ζ => .of [(6, .one (.ptr [6] (g9) 0))] [([6], (g9, ζ.1, .box [.d (.v (.bool ((Env.mk true ((zip2To (fun x y => Iv.widenOk l x y) (a.ints ++ a.arrs) (b.ints ++ b.arrs) j).take a.ints.length) ((zip2To (fun x y => Iv.widenOk l x y) (a.ints ++ a.arrs) (b.ints ++ b.arrs) j).drop a.ints.length)).live))), .ref [50, 1] (ζ.2), .ref [50, 2] (ζ.2)])), ([50, 1], (ζ.2, ζ.2, .row 39 2 (List.map Iv.c ((Env.mk true ((zip2To (fun x y => Iv.widenOk l x y) (a.ints ++ a.arrs) (b.ints ++ b.arrs) j).take a.ints.length) ((zip2To (fun x y => Iv.widenOk l x y) (a.ints ++ a.arrs) (b.ints ++ b.arrs) j).drop a.ints.length)).ints)))), ([50, 2], (ζ.2, ζ.2, .row 39 2 (List.map Iv.c ((Env.mk true ((zip2To (fun x y => Iv.widenOk l x y) (a.ints ++ a.arrs) (b.ints ++ b.arrs) j).take a.ints.length) ((zip2To (fun x y => Iv.widenOk l x y) (a.ints ++ a.arrs) (b.ints ++ b.arrs) j).drop a.ints.length)).arrs))))]) [⟨[9], some 46, [], []⟩, ⟨[3], some 47, [], []⟩, ⟨[47], some 48, [[3]], []⟩, ⟨[48], some 49, [], []⟩, ⟨[46, 49], some 50, [[26]], [[50, 1], [50, 2]]⟩, ⟨[6, 50], none, [[6]], [[6]]⟩] (fun k30 => ?_) ?_
        · skip
          refine .move (.no rfl) rfl rfl rfl rfl ?_
          refine .fieldAddrP (.no rfl) rfl t30 rfl rfl t28 rfl rfl rfl rfl ?_
          refine .load (.no rfl) rfl t28 rfl rfl (.ptr _ _ _ _ _ rfl) rfl rfl rfl rfl ?_
          refine .len (.no rfl) rfl (z := (a.ints.length : Int)) t28 rfl rfl rfl (.d _ _) (map_len _ _) rfl ?_
          refine .call (.no rfl) rfl [[26]] [([26], (q24, q25, .row 39 2 (List.map Iv.c (zip2To (fun x y => Iv.widenOk l x y) (a.ints ++ a.arrs) (b.ints ++ b.arrs) j))))] (c_l6Of (zip2To (fun x y => Iv.widenOk l x y) (a.ints ++ a.arrs) (b.ints ++ b.arrs) j) a.ints.length (by first | assumption | omega | (rw [zip2To_len]; simp at hI c1 ⊢; omega))) rfl rfl rfl rfl rfl (.cons (Reads.ref (Frz.of_erase (erase_slo _ _ _ _ _ _ Iv.c_e)) (.head _) (.head _)).gives (.cons (Reads.d _).gives .nil)) rfl rfl (fun _ => (ownCons (Owned.v _) (ownCons (Owned.map _ _ _ _ Iv.c_o) (ownCons (Owned.map _ _ _ _ Iv.c_o) ownNil)))) (.own [50, 0] (.own [50, 1] (.own [50, 2] .nil))) (.nil) rfl rfl rfl (AllH.get (.cons rfl .nil)) rfl rfl rfl ?_
          refine .store (.no rfl) rfl t30 rfl rfl rfl rfl rfl rfl rfl rfl rfl ?_
          exact .fin (k30 + 1 + 1 + 1 + 1 + 1, k30 + 1 + 1 + 1 + 1) (.of (.cons rfl .nil) (.cons rfl (.cons rfl (.cons rfl .nil))))
        rintro ⟨g31, g32⟩
        refine .ret ?_
        have e33 : ((Env.mk true ((zip2To (fun x y => Iv.widenOk l x y) (a.ints ++ a.arrs) (b.ints ++ b.arrs) j).take a.ints.length) ((zip2To (fun x y => Iv.widenOk l x y) (a.ints ++ a.arrs) (b.ints ++ b.arrs) j).drop a.ints.length)).live) = ((Env.joinW (fun x y => Iv.widenOk l x y) a b).live) := by (have hj9 := hj c0.1 c0.2; first | (rw [Env.joinW_live c0]; done) | skip; rw [Env.joinW_live c0]; first | rfl | (rw [zip2To_all (fun x y => Iv.widenOk l x y) hI (by omega)]; exact zip2_take _ hj9.1) | (rw [zip2To_all (fun x y => Iv.widenOk l x y) hI (by omega)]; exact zip2_drop _ hj9.1))
        have e34 : ((Env.mk true ((zip2To (fun x y => Iv.widenOk l x y) (a.ints ++ a.arrs) (b.ints ++ b.arrs) j).take a.ints.length) ((zip2To (fun x y => Iv.widenOk l x y) (a.ints ++ a.arrs) (b.ints ++ b.arrs) j).drop a.ints.length)).ints) = ((Env.joinW (fun x y => Iv.widenOk l x y) a b).ints) := by (have hj9 := hj c0.1 c0.2; first | (rw [Env.joinW_live c0]; done) | skip; rw [Env.joinW_live c0]; first | rfl | (rw [zip2To_all (fun x y => Iv.widenOk l x y) hI (by omega)]; exact zip2_take _ hj9.1) | (rw [zip2To_all (fun x y => Iv.widenOk l x y) hI (by omega)]; exact zip2_drop _ hj9.1))
        have e35 : ((Env.mk true ((zip2To (fun x y => Iv.widenOk l x y) (a.ints ++ a.arrs) (b.ints ++ b.arrs) j).take a.ints.length) ((zip2To (fun x y => Iv.widenOk l x y) (a.ints ++ a.arrs) (b.ints ++ b.arrs) j).drop a.ints.length)).arrs) = ((Env.joinW (fun x y => Iv.widenOk l x y) a b).arrs) := by (have hj9 := hj c0.1 c0.2; first | (rw [Env.joinW_live c0]; done) | skip; rw [Env.joinW_live c0]; first | rfl | (rw [zip2To_all (fun x y => Iv.widenOk l x y) hI (by omega)]; exact zip2_take _ hj9.1) | (rw [zip2To_all (fun x y => Iv.widenOk l x y) hI (by omega)]; exact zip2_drop _ hj9.1))
        have hc36 := eq1 (fun z1 => some (g9, g31, O.box [.d (.v (.bool (z1))), .ref [50, 1] (g32), .ref [50, 2] (g32)])) e33
        show _ ∧ _
        exact ⟨.inr rfl, .done ⟨_, [], [([50, 1], (g32, g32, .row 39 2 (List.map Iv.c ((Env.joinW (fun x y => Iv.widenOk l x y) a b).ints)))), ([50, 2], (g32, g32, .row 39 2 (List.map Iv.c ((Env.joinW (fun x y => Iv.widenOk l x y) a b).arrs))))], _, .cell (cells := [.d (.v (.bool ((Env.joinW (fun x y => Iv.widenOk l x y) a b).live))), .ref [50, 1] (g32), .ref [50, 2] (g32)]) rfl hc36 t30 rfl rfl .nil, .cons (Reads.d _).gives (.cons (.ref (.head _)) (.cons (.ref (.tail _ (.head _))) .nil)), nodupB_ok rfl, by simp, (AllH.get (.cons (rowE (congrArg (List.map Iv.c) e34)) (.cons (rowE (congrArg (List.map Iv.c) e35)) .nil)))⟩⟩
theorem c_sEnvWiden (d : Decl) (a : Env) (b : Env) (l : List Int) (hs : ∀ x ∈ Decl.names d, x.size ≤ 9223372036854775807) (hd : d.vars.length ≤ 1048576 ∧ d.flags.length ≤ 1048576 ∧ d.arrays.length ≤ 1048576) (hb : a.ints.length ≤ 1048576 ∧ a.arrs.length ≤ 1048576 ∧ b.ints.length ≤ 1048576 ∧ b.arrs.length ≤ 1048576) : Trip Tryd.prog 12 [(true, 3), (true, 3), (true, 3), (false, 1)] (Decl.c27 d ++ Env.c30 a ++ Env.c30 b ++ [.sl false 2 1 (List.map i64c (l))]) [(true, 3)] [.v (.bool ((Env.widenIn d a b l).live)), .sl true 39 2 (List.map Iv.c ((Env.widenIn d a b l).ints)), .sl true 39 2 (List.map Iv.c ((Env.widenIn d a b l).arrs))] [] := by
  refine Trip.of Tryd.func12 (by decide) (c := _) rfl rfl (shB_ok rfl) (Nat.le_of_ble_eq_true rfl) rfl (AftOk.nil _) ?_
  refine .satA (t := 0) (i := 0) rfl rfl (fun hs1 => ?_)
  have hs1l : d.vars.length ≤ 9223372036854775807 := hs1.maplen
  refine .satA (t := 0) (i := 1) rfl rfl (fun hs2 => ?_)
  have hs2l : d.flags.length ≤ 9223372036854775807 := hs2.maplen
  refine .satA (t := 0) (i := 2) rfl rfl (fun hs3 => ?_)
  have hs3l : d.arrays.length ≤ 9223372036854775807 := hs3.maplen
  refine .satA (t := 1) (i := 1) rfl rfl (fun hs4 => ?_)
  have hs4l : a.ints.length ≤ 9223372036854775807 := hs4.maplen
  refine .satA (t := 1) (i := 2) rfl rfl (fun hs5 => ?_)
  have hs5l : a.arrs.length ≤ 9223372036854775807 := hs5.maplen
  refine .satA (t := 2) (i := 1) rfl rfl (fun hs6 => ?_)
  have hs6l : b.ints.length ≤ 9223372036854775807 := hs6.maplen
  refine .satA (t := 2) (i := 2) rfl rfl (fun hs7 => ?_)
  have hs7l : b.arrs.length ≤ 9223372036854775807 := hs7.maplen
  refine .sat (t := 3) rfl (fun hs8 => ?_)
  have hs8l : l.length ≤ 9223372036854775807 := hs8.maplen
  refine .seq ?_
  refine .reg (X := Nat × Nat × Nat × Nat) (fun ζ => .of [(3, .one (.d (.sl false 2 1 (List.map i64c (l))))), (4, .one (.ptr [4] (ζ.1) 0)), (5, .one (.ptr [5] (ζ.2.1) 0)), (6, .one (.ptr [6] (ζ.2.2.1) 0)), (8, .one (.ptr [8] (ζ.2.2.2) 0))] [([4], (ζ.1, ζ.1, .box [.d (.sl false 9 1 (List.map strc (d.vars))), .d (.sl false 9 1 (List.map strc (d.flags))), .d (.sl false 52 2 (List.map Arr.c (d.arrays)))])), ([5], (ζ.2.1, ζ.2.1, .box [.d (.v (.bool (a.live))), .d (.sl false 39 2 (List.map Iv.c (a.ints))), .d (.sl false 39 2 (List.map Iv.c (a.arrs)))])), ([6], (ζ.2.2.1, ζ.2.2.1, .box [.d (.v (.bool (b.live))), .d (.sl false 39 2 (List.map Iv.c (b.ints))), .d (.sl false 39 2 (List.map Iv.c (b.arrs)))])), ([8], (ζ.2.2.2, ζ.2.2.2, .box [.d (.v (.bool (false))), .d (.v (.slice none 0 0)), .d (.v (.slice none 0 0))]))]) [⟨[0], some 4, [], [[4]]⟩, ⟨[1], some 5, [], [[5]]⟩, ⟨[2], some 6, [], [[6]]⟩, ⟨[], some 8, [], [[8]]⟩] (fun k9 => ?_) ?_
  · skip
    refine .box (.no rfl) rfl rfl rfl rfl rfl ?_
    refine .box (.no rfl) rfl rfl rfl rfl rfl ?_
    refine .box (.no rfl) rfl rfl rfl rfl rfl ?_
    refine .alloc (.no rfl) rfl z30 rfl rfl rfl ?_
    exact .fin (k9, k9 + 1, k9 + 1 + 1, k9 + 1 + 1 + 1) (.of (.cons rfl (.cons rfl (.cons rfl (.cons rfl (.cons rfl .nil))))) (.cons rfl (.cons rfl (.cons rfl (.cons rfl .nil)))))
  rintro ⟨g10, g11, g12, g13⟩
  refine .seq ?_
  refine .seq ?_
  refine .reg (X := Unit) (fun ζ => .of [(3, .one (.d (.sl false 2 1 (List.map i64c (l))))), (5, .one (.ptr [5] (g11) 0)), (6, .one (.ptr [6] (g12) 0)), (8, .one (.ptr [8] (g13) 0)), (23, .one (.d (.v (.bool (((!(Decl.ok d && Env.okIn d a) || !(Decl.ok d && Env.okIn d b)) || decide ((l.length : Int) > 100)))))))] [([5], (g11, g11, .box [.d (.v (.bool (a.live))), .d (.sl false 39 2 (List.map Iv.c (a.ints))), .d (.sl false 39 2 (List.map Iv.c (a.arrs)))])), ([6], (g12, g12, .box [.d (.v (.bool (b.live))), .d (.sl false 39 2 (List.map Iv.c (b.ints))), .d (.sl false 39 2 (List.map Iv.c (b.arrs)))])), ([8], (g13, g13, .box [.d (.v (.bool (false))), .d (.v (.slice none 0 0)), .d (.v (.slice none 0 0))]))]) [⟨[4], some 9, [[4]], []⟩, ⟨[5], some 10, [[5]], []⟩, ⟨[9, 10], some 11, [], []⟩, ⟨[11], some 12, [], []⟩, ⟨[12], some 13, [], []⟩, ⟨[13, 4], some 14, [[4]], []⟩, ⟨[13, 6], some 15, [[6]], []⟩, ⟨[13, 14, 15], some 16, [], []⟩, ⟨[13, 16], some 17, [], []⟩, ⟨[13, 17], some 18, [], []⟩, ⟨[18], some 19, [], []⟩, ⟨[19, 3], some 20, [], []⟩, ⟨[19, 20], some 21, [], []⟩, ⟨[19, 21], some 22, [], []⟩, ⟨[19, 22], some 23, [], []⟩] (fun k14 => ?_) ?_
  · skip
    refine .load (.no rfl) rfl t27 rfl rfl (.ptr _ _ _ _ _ rfl) rfl rfl rfl rfl ?_
    refine .load (.no rfl) rfl t30 rfl rfl (.ptr _ _ _ _ _ rfl) rfl rfl rfl rfl ?_
    refine .call (.no rfl) rfl [] [] (c_sEnvOk d a (by first | assumption | omega | exact okIn_len c0.1) (by first | assumption | omega | exact okIn_len c0.1) (by first | assumption | omega | exact okIn_len c0.1)) rfl rfl rfl rfl rfl (.cons (Reads.d _).gives (.cons (Reads.d _).gives (.cons (Reads.d _).gives (.cons (Reads.d _).gives (.cons (Reads.d _).gives (.cons (Reads.d _).gives .nil)))))) rfl rfl (fun h => absurd rfl h) (.own [11, 0] .nil) (.nil) rfl rfl rfl (by simp) rfl rfl rfl ?_
    refine .un (.no rfl) rfl rfl rfl rfl rfl ?_
    refine .moveB (.no rfl) rfl rfl rfl rfl fun b15 g1_4 => ?_
    cases b15
    · skip
      refine .load (.on rfl rfl rfl rfl rfl) rfl t27 rfl rfl (.ptr _ _ _ _ _ rfl) rfl rfl rfl rfl ?_
      refine .load (.on rfl rfl rfl rfl rfl) rfl t30 rfl rfl (.ptr _ _ _ _ _ rfl) rfl rfl rfl rfl ?_
      refine .call (.on rfl rfl rfl rfl rfl) rfl [] [] (c_sEnvOk d b (by first | assumption | omega | exact okIn_len c0.1) (by first | assumption | omega | exact okIn_len c0.1) (by first | assumption | omega | exact okIn_len c0.1)) rfl rfl rfl rfl rfl (.cons (Reads.d _).gives (.cons (Reads.d _).gives (.cons (Reads.d _).gives (.cons (Reads.d _).gives (.cons (Reads.d _).gives (.cons (Reads.d _).gives .nil)))))) rfl rfl (fun h => absurd rfl h) (.own [16, 0] .nil) (.nil) rfl rfl rfl (by simp) rfl rfl rfl ?_
      refine .un (.on rfl rfl rfl rfl rfl) rfl rfl rfl rfl rfl ?_
      refine .pick (.no rfl) rfl rfl rfl rfl rfl ?_
      refine .moveB (.no rfl) rfl rfl rfl rfl fun b16 g1_10 => ?_
      cases b16
      · skip
        refine .move (.on rfl rfl rfl rfl rfl) rfl rfl rfl rfl ?_
        refine .len (.on rfl rfl rfl rfl rfl) rfl (z := (l.length : Int)) t31 rfl rfl rfl (.d _ _) (map_len _ _) rfl ?_
        refine .bin (.on rfl rfl rfl rfl rfl) rfl rfl rfl rfl rfl rfl ?_
        refine .pick (.no rfl) rfl rfl rfl rfl rfl ?_
        exact .fin () (.of (.cons rfl (.cons rfl (.cons rfl (.cons rfl (.cons (svB (show (decide ((l.length : Int) > 100)) = (((!(Decl.ok d && Env.okIn d a) || !(Decl.ok d && Env.okIn d b)) || decide ((l.length : Int) > 100))) by first | (simp only [g1_4, g1_10, Bool.true_or, Bool.false_or, Bool.true_and, Bool.false_and, Bool.not_true, Bool.not_false]; done) | simp [g1_4, g1_10])) .nil))))) (.cons rfl (.cons rfl (.cons rfl .nil))))
      · skip
        refine .off rfl rfl rfl rfl rfl rfl rfl ?_
        refine .off rfl rfl rfl rfl rfl rfl rfl ?_
        refine .off rfl rfl rfl rfl rfl rfl rfl ?_
        refine .pick (.no rfl) rfl rfl rfl rfl rfl ?_
        exact .fin () (.of (.cons rfl (.cons rfl (.cons rfl (.cons rfl (.cons (svB (show (true) = (((!(Decl.ok d && Env.okIn d a) || !(Decl.ok d && Env.okIn d b)) || decide ((l.length : Int) > 100))) by first | (simp only [g1_4, g1_10, Bool.true_or, Bool.false_or, Bool.true_and, Bool.false_and, Bool.not_true, Bool.not_false]; done) | simp [g1_4, g1_10])) .nil))))) (.cons rfl (.cons rfl (.cons rfl .nil))))
    · skip
      refine .off rfl rfl rfl rfl rfl rfl rfl ?_
      refine .off rfl rfl rfl rfl rfl rfl rfl ?_
      refine .off rfl rfl rfl rfl rfl rfl rfl ?_
      refine .off rfl rfl rfl rfl rfl rfl rfl ?_
      refine .pick (.no rfl) rfl rfl rfl rfl rfl ?_
      refine .move (.no rfl) rfl rfl rfl rfl ?_
      refine .off rfl rfl rfl rfl rfl rfl rfl ?_
      refine .off rfl rfl rfl rfl rfl rfl rfl ?_
      refine .off rfl rfl rfl rfl rfl rfl rfl ?_
      refine .pick (.no rfl) rfl rfl rfl rfl rfl ?_
      exact .fin () (.of (.cons rfl (.cons rfl (.cons rfl (.cons rfl (.cons (svB (show (true) = (((!(Decl.ok d && Env.okIn d a) || !(Decl.ok d && Env.okIn d b)) || decide ((l.length : Int) > 100))) by first | (simp only [g1_4, Bool.true_or, Bool.false_or, Bool.true_and, Bool.false_and, Bool.not_true, Bool.not_false]; done) | simp [g1_4])) .nil))))) (.cons rfl (.cons rfl (.cons rfl .nil))))
  intro _
  refine .cond (t := ((!(Decl.ok d && Env.okIn d a) || !(Decl.ok d && Env.okIn d b)) || decide ((l.length : Int) > 100))) rfl (fun c0 => ?_) (fun c0 => ?_)
  · have c0 := c0
    try simp only [Bool.or_eq_true, Bool.or_eq_false_iff, Bool.and_eq_true, Bool.and_eq_false_iff, decide_eq_true_eq, decide_eq_false_iff_not, Bool.not_eq_true', Bool.not_eq_false', bne_iff_ne, beq_iff_eq, bne_eq_false_iff_eq, beq_eq_false_iff_ne, ne_eq, Bool.not_eq_eq_eq_not, Bool.not_true, Bool.not_false] at c0
    refine .seq ?_
    refine .reg (X := Nat) (fun ζ => .of [(8, .one (.ptr [8] (g13) 0))] [([8], (g13, ζ, .box [.d (.v (.bool (false))), .d (.v (.slice none 0 0)), .d (.v (.slice none 0 0))]))]) [⟨[], some 24, [], []⟩, ⟨[8, 24], none, [[8]], [[8]]⟩] (fun k17 => ?_) ?_
    · skip
      refine .build (.no rfl) rfl z30 rfl p30 rfl rfl rfl rfl ?_
      refine .store (.no rfl) rfl t30 rfl rfl rfl rfl rfl rfl rfl rfl rfl ?_
      exact .fin (k17 + 1) (.of (.cons rfl .nil) (.cons rfl .nil))
    intro g18
    refine .ret ?_
    have e19 : (false) = ((Env.widenIn d a b l).live) := by first | (rw [Env.widenIn_no c0]) | (rw [Env.widenIn_yes c0])
    have hc20 := eq1 (fun z1 => some (g13, g18, O.box [.d (.v (.bool (z1))), .d (.v (.slice none 0 0)), .d (.v (.slice none 0 0))])) e19
    show _ ∧ _
    exact ⟨.inr rfl, .done ⟨_, [], [], _, .cell (cells := [.d (.v (.bool ((Env.widenIn d a b l).live))), .d (.v (.slice none 0 0)), .d (.v (.slice none 0 0))]) rfl hc20 t30 rfl rfl .nil, .cons (Reads.d _).gives (.cons (Gives.nil' (by rw [Env.widenIn_no c0]; rfl)) (.cons (Gives.nil' (by rw [Env.widenIn_no c0]; rfl)) .nil)), nodupB_ok rfl, by simp, (by simp)⟩⟩
  · have c0 := c0
    try simp only [Bool.or_eq_true, Bool.or_eq_false_iff, Bool.and_eq_true, Bool.and_eq_false_iff, decide_eq_true_eq, decide_eq_false_iff_not, Bool.not_eq_true', Bool.not_eq_false', bne_iff_ne, beq_iff_eq, bne_eq_false_iff_eq, beq_eq_false_iff_ne, ne_eq, Bool.not_eq_eq_eq_not, Bool.not_true, Bool.not_false] at c0
    refine .skip ?_
    refine .seq ?_
    refine .reg (X := Nat × Nat) (fun ζ => .of [(8, .one (.ptr [8] (g13) 0))] [([8], (g13, ζ.1, .box [.d (.v (.bool ((Env.joinW (fun x y => Iv.widenOk l x y) a b).live))), .ref [28, 1] (ζ.2), .ref [28, 2] (ζ.2)])), ([28, 1], (ζ.2, ζ.2, .row 39 2 (List.map Iv.c ((Env.joinW (fun x y => Iv.widenOk l x y) a b).ints)))), ([28, 2], (ζ.2, ζ.2, .row 39 2 (List.map Iv.c ((Env.joinW (fun x y => Iv.widenOk l x y) a b).arrs))))]) [⟨[5], some 25, [[5]], []⟩, ⟨[6], some 26, [[6]], []⟩, ⟨[3], some 27, [], []⟩, ⟨[25, 26, 27], some 28, [], [[28, 1], [28, 2]]⟩, ⟨[8, 28], none, [[8]], [[8]]⟩] (fun k21 => ?_) ?_
    · skip
      refine .load (.no rfl) rfl t30 rfl rfl (.ptr _ _ _ _ _ rfl) rfl rfl rfl rfl ?_
      refine .load (.no rfl) rfl t30 rfl rfl (.ptr _ _ _ _ _ rfl) rfl rfl rfl rfl ?_
      refine .move (.no rfl) rfl rfl rfl rfl ?_
      refine .call (.no rfl) rfl [] [] (c_l6Widen a b l (by first | assumption | omega | exact okIn_len c0.1) (by first | assumption | omega | exact okIn_len c0.1)) rfl rfl rfl rfl rfl (.cons (Reads.d _).gives (.cons (Reads.d _).gives (.cons (Reads.d _).gives (.cons (Reads.d _).gives (.cons (Reads.d _).gives (.cons (Reads.d _).gives (.cons (Reads.d _).gives .nil))))))) rfl rfl (fun h => absurd rfl h) (.own [28, 0] (.own [28, 1] (.own [28, 2] .nil))) (.nil) rfl rfl rfl (by simp) rfl rfl rfl ?_
      refine .store (.no rfl) rfl t30 rfl rfl rfl rfl rfl rfl rfl rfl rfl ?_
      exact .fin (k21 + 1 + 1 + 1 + 1, k21 + 1 + 1 + 1) (.of (.cons rfl .nil) (.cons rfl (.cons rfl (.cons rfl .nil))))
    rintro ⟨g22, g23⟩
    refine .ret ?_
    have e24 : ((Env.joinW (fun x y => Iv.widenOk l x y) a b).live) = ((Env.widenIn d a b l).live) := by first | (rw [Env.widenIn_no c0]) | (rw [Env.widenIn_yes c0])
    have e25 : ((Env.joinW (fun x y => Iv.widenOk l x y) a b).ints) = ((Env.widenIn d a b l).ints) := by first | (rw [Env.widenIn_no c0]) | (rw [Env.widenIn_yes c0])
    have e26 : ((Env.joinW (fun x y => Iv.widenOk l x y) a b).arrs) = ((Env.widenIn d a b l).arrs) := by first | (rw [Env.widenIn_no c0]) | (rw [Env.widenIn_yes c0])
    have hc27 := eq1 (fun z1 => some (g13, g22, O.box [.d (.v (.bool (z1))), .ref [28, 1] (g23), .ref [28, 2] (g23)])) e24
    show _ ∧ _
    exact ⟨.inr rfl, .done ⟨_, [], [([28, 1], (g23, g23, .row 39 2 (List.map Iv.c ((Env.widenIn d a b l).ints)))), ([28, 2], (g23, g23, .row 39 2 (List.map Iv.c ((Env.widenIn d a b l).arrs))))], _, .cell (cells := [.d (.v (.bool ((Env.widenIn d a b l).live))), .ref [28, 1] (g23), .ref [28, 2] (g23)]) rfl hc27 t30 rfl rfl .nil, .cons (Reads.d _).gives (.cons (.ref (.head _)) (.cons (.ref (.tail _ (.head _))) .nil)), nodupB_ok rfl, by simp, (AllH.get (.cons (rowE (congrArg (List.map Iv.c) e25)) (.cons (rowE (congrArg (List.map Iv.c) e26)) .nil)))⟩⟩
end Go.Proofs

namespace Go.Proofs
open Go Go.Proofs Go.Ev

theorem c_widening1 (x : Iv) (y : Iv) (l : List Int) : Trip Tryd.prog 95 [(true, 2), (true, 2), (false, 1)] (Iv.c x ++ Iv.c y ++ [.pt false [.sl false 2 1 (List.map i64c (l))]]) [(true, 2)] [.v (.int .i64 ((Iv.widenOk l x y).lo)), .v (.int .i64 ((Iv.widenOk l x y).hi))] [] := by
  refine Trip.of Tryd.func95 (by decide) (c := _) rfl rfl (shB_ok rfl) (Nat.le_of_ble_eq_true rfl) rfl (AftOk.nil _) ?_
  refine .seq ?_
  refine .reg (X := Nat × Nat × Nat) (fun ζ => .of [(2, .one (.d (.pt false [.sl false 2 1 (List.map i64c (l))]))), (3, .one (.ptr [3] (ζ.1) 0)), (4, .one (.ptr [4] (ζ.2.1) 0)), (5, .one (.ptr [5] (ζ.2.2) 0))] [([3], (ζ.1, ζ.1, .box [.d (.v (.int .i64 (x.lo))), .d (.v (.int .i64 (x.hi)))])), ([4], (ζ.2.1, ζ.2.1, .box [.d (.v (.int .i64 (y.lo))), .d (.v (.int .i64 (y.hi)))])), ([5], (ζ.2.2, ζ.2.2, .box [.d (.v (.int .i64 (0))), .d (.v (.int .i64 (0)))]))]) [⟨[0], some 3, [], [[3]]⟩, ⟨[1], some 4, [], [[4]]⟩, ⟨[], some 5, [], [[5]]⟩] (fun k1 => ?_) ?_
  · skip
    refine .box (.no rfl) rfl rfl rfl rfl rfl ?_
    refine .box (.no rfl) rfl rfl rfl rfl rfl ?_
    refine .alloc (.no rfl) rfl z39 rfl rfl rfl ?_
    exact .fin (k1, k1 + 1, k1 + 1 + 1) (.of (.cons rfl (.cons rfl (.cons rfl (.cons rfl .nil)))) (.cons rfl (.cons rfl (.cons rfl .nil))))
  rintro ⟨g2, g3, g4⟩
  refine .seq ?_
  refine .reg (X := Nat) (fun ζ => .of [(5, .one (.ptr [5] (g4) 0))] [([5], (g4, ζ, .box [.d (.v (.int .i64 ((Iv.widenOk l x y).lo))), .d (.v (.int .i64 ((Iv.widenOk l x y).hi)))]))]) [⟨[3], some 6, [[3]], []⟩, ⟨[4], some 7, [[4]], []⟩, ⟨[2], some 8, [], []⟩, ⟨[6, 7, 8], some 9, [], []⟩, ⟨[5, 9], none, [[5]], [[5]]⟩] (fun k5 => ?_) ?_
  · skip
    refine .load (.no rfl) rfl t39 rfl rfl (.ptr _ _ _ _ _ rfl) rfl rfl rfl rfl ?_
    refine .load (.no rfl) rfl t39 rfl rfl (.ptr _ _ _ _ _ rfl) rfl rfl rfl rfl ?_
    refine .load (.no rfl) rfl t31 rfl rfl (.d _) rfl rfl rfl rfl ?_
    refine .call (.no rfl) rfl [] [] (c_IvWiden x y l) rfl rfl rfl rfl rfl (.cons (Reads.d _).gives (.cons (Reads.d _).gives (.cons (Reads.d _).gives (.cons (Reads.d _).gives (.cons (Reads.d _).gives .nil))))) rfl rfl (fun h => absurd rfl h) (.own [9, 0] (.own [9, 1] .nil)) (.nil) rfl rfl rfl (by simp) rfl rfl rfl ?_
    refine .store (.no rfl) rfl t39 rfl rfl rfl rfl rfl rfl rfl rfl rfl ?_
    exact .fin (k5 + 1 + 1 + 1 + 1) (.of (.cons rfl .nil) (.cons rfl .nil))
  intro g6
  refine .ret ?_
  show _ ∧ _
  exact ⟨.inr rfl, .done ⟨_, [], [], _, .cell (cells := [.d (.v (.int .i64 ((Iv.widenOk l x y).lo))), .d (.v (.int .i64 ((Iv.widenOk l x y).hi)))]) rfl rfl t39 rfl rfl .nil, .cons (Reads.d _).gives (.cons (Reads.d _).gives .nil), nodupB_ok rfl, by simp, (by simp)⟩⟩
theorem c_widening (l : List Int) : Trip Tryd.prog 45 [(false, 1)] ([.sl false 2 1 (List.map i64c (l))]) [(false, 1)] [.fn 95 [] [.pt false [.sl false 2 1 (List.map i64c (l))]]] [] := by
  refine Trip.of Tryd.func45 (by decide) (c := _) rfl rfl (shB_ok rfl) (Nat.le_of_ble_eq_true rfl) rfl (AftOk.nil _) ?_
  refine .sat (t := 0) rfl (fun hs1 => ?_)
  have hs1l : l.length ≤ 9223372036854775807 := hs1.maplen
  refine .seq ?_
  refine .reg (X := Nat) (fun ζ => .of [(1, .one (.ptr [1] (ζ) 0))] [([1], (ζ, ζ, .box [.d (.sl false 2 1 (List.map i64c (l)))]))]) [⟨[0], some 1, [], [[1]]⟩, ⟨[], some 2, [], []⟩] (fun k2 => ?_) ?_
  · skip
    refine .box (.no rfl) rfl rfl rfl rfl rfl ?_
    refine .assign (.no rfl) rfl rfl rfl rfl ?_
    exact .fin k2 (.of (.cons rfl .nil) (.cons rfl .nil))
  intro g3
  refine .seq ?_
  refine .reg (X := Unit) (fun ζ => .of [(2, .one (.clo 95 [] [.ptr [1] (g3) 0]))] [([1], (g3, g3, .box [.d (.sl false 2 1 (List.map i64c (l)))]))]) [⟨[1], some 3, [], []⟩, ⟨[3], some 2, [], []⟩] (fun k4 => ?_) ?_
  · skip
    refine .makeFunc (.no rfl) rfl rfl rfl rfl rfl ?_
    refine .assign (.no rfl) rfl rfl rfl rfl ?_
    exact .fin () (.of (.cons rfl .nil) (.cons rfl .nil))
  intro _
  refine .ret ?_
  show _ ∧ _
  exact ⟨.inr rfl, .done ⟨_, [[1]], [([1], (g3, g3, .box [.d (.sl false 2 1 (List.map i64c (l)))]))], _, .one rfl .nil, .cons (Reads.clo0 (.cons (Reads.ptr0 (.head _) (.head _) (.cons (Reads.d _) .nil)) .nil)).gives .nil, nodupB_ok rfl, by simp, (AllH.get (.cons rfl .nil))⟩⟩
theorem c_EnvWiden (d : Decl) (a : Env) (b : Env) (l : List Int) (hs : ∀ x ∈ Decl.names d, x.size ≤ 9223372036854775807) (hd : d.vars.length ≤ 1048576 ∧ d.flags.length ≤ 1048576 ∧ d.arrays.length ≤ 1048576) (hb : a.ints.length ≤ 1048576 ∧ a.arrs.length ≤ 1048576 ∧ b.ints.length ≤ 1048576 ∧ b.arrs.length ≤ 1048576) : Trip Tryd.prog 10 [(true, 3), (true, 3), (true, 3), (false, 1)] (Decl.c27 d ++ Env.c30 a ++ Env.c30 b ++ [.sl false 2 1 (List.map i64c (l))]) [(true, 3)] [.v (.bool ((Env.widenIn d a b l).live)), .sl true 39 2 (List.map Iv.c ((Env.widenIn d a b l).ints)), .sl true 39 2 (List.map Iv.c ((Env.widenIn d a b l).arrs))] [] := by
  refine Trip.of Tryd.func10 (by decide) (c := _) rfl rfl (shB_ok rfl) (Nat.le_of_ble_eq_true rfl) rfl (AftOk.nil _) ?_
  refine .satA (t := 0) (i := 0) rfl rfl (fun hs1 => ?_)
  have hs1l : d.vars.length ≤ 9223372036854775807 := hs1.maplen
  refine .satA (t := 0) (i := 1) rfl rfl (fun hs2 => ?_)
  have hs2l : d.flags.length ≤ 9223372036854775807 := hs2.maplen
  refine .satA (t := 0) (i := 2) rfl rfl (fun hs3 => ?_)
  have hs3l : d.arrays.length ≤ 9223372036854775807 := hs3.maplen
  refine .satA (t := 1) (i := 1) rfl rfl (fun hs4 => ?_)
  have hs4l : a.ints.length ≤ 9223372036854775807 := hs4.maplen
  refine .satA (t := 1) (i := 2) rfl rfl (fun hs5 => ?_)
  have hs5l : a.arrs.length ≤ 9223372036854775807 := hs5.maplen
  refine .satA (t := 2) (i := 1) rfl rfl (fun hs6 => ?_)
  have hs6l : b.ints.length ≤ 9223372036854775807 := hs6.maplen
  refine .satA (t := 2) (i := 2) rfl rfl (fun hs7 => ?_)
  have hs7l : b.arrs.length ≤ 9223372036854775807 := hs7.maplen
  refine .sat (t := 3) rfl (fun hs8 => ?_)
  have hs8l : l.length ≤ 9223372036854775807 := hs8.maplen
  refine .seq ?_
  refine .reg (X := Nat × Nat × Nat × Nat) (fun ζ => .of [(3, .one (.d (.sl false 2 1 (List.map i64c (l))))), (4, .one (.ptr [4] (ζ.1) 0)), (5, .one (.ptr [5] (ζ.2.1) 0)), (6, .one (.ptr [6] (ζ.2.2.1) 0)), (8, .one (.ptr [8] (ζ.2.2.2) 0))] [([4], (ζ.1, ζ.1, .box [.d (.sl false 9 1 (List.map strc (d.vars))), .d (.sl false 9 1 (List.map strc (d.flags))), .d (.sl false 52 2 (List.map Arr.c (d.arrays)))])), ([5], (ζ.2.1, ζ.2.1, .box [.d (.v (.bool (a.live))), .d (.sl false 39 2 (List.map Iv.c (a.ints))), .d (.sl false 39 2 (List.map Iv.c (a.arrs)))])), ([6], (ζ.2.2.1, ζ.2.2.1, .box [.d (.v (.bool (b.live))), .d (.sl false 39 2 (List.map Iv.c (b.ints))), .d (.sl false 39 2 (List.map Iv.c (b.arrs)))])), ([8], (ζ.2.2.2, ζ.2.2.2, .box [.d (.v (.bool (false))), .d (.v (.slice none 0 0)), .d (.v (.slice none 0 0))]))]) [⟨[0], some 4, [], [[4]]⟩, ⟨[1], some 5, [], [[5]]⟩, ⟨[2], some 6, [], [[6]]⟩, ⟨[], some 8, [], [[8]]⟩] (fun k9 => ?_) ?_
  · skip
    refine .box (.no rfl) rfl rfl rfl rfl rfl ?_
    refine .box (.no rfl) rfl rfl rfl rfl rfl ?_
    refine .box (.no rfl) rfl rfl rfl rfl rfl ?_
    refine .alloc (.no rfl) rfl z30 rfl rfl rfl ?_
    exact .fin (k9, k9 + 1, k9 + 1 + 1, k9 + 1 + 1 + 1) (.of (.cons rfl (.cons rfl (.cons rfl (.cons rfl (.cons rfl .nil))))) (.cons rfl (.cons rfl (.cons rfl (.cons rfl .nil)))))
  rintro ⟨g10, g11, g12, g13⟩
  refine .seq ?_
  refine .seq ?_
  refine .reg (X := Unit) (fun ζ => .of [(3, .one (.d (.sl false 2 1 (List.map i64c (l))))), (5, .one (.ptr [5] (g11) 0)), (6, .one (.ptr [6] (g12) 0)), (8, .one (.ptr [8] (g13) 0)), (18, .one (.d (.v (.bool ((!(Decl.ok d && Env.okIn d a && Env.okIn d b) || decide ((l.length : Int) > 100)))))))] [([5], (g11, g11, .box [.d (.v (.bool (a.live))), .d (.sl false 39 2 (List.map Iv.c (a.ints))), .d (.sl false 39 2 (List.map Iv.c (a.arrs)))])), ([6], (g12, g12, .box [.d (.v (.bool (b.live))), .d (.sl false 39 2 (List.map Iv.c (b.ints))), .d (.sl false 39 2 (List.map Iv.c (b.arrs)))])), ([8], (g13, g13, .box [.d (.v (.bool (false))), .d (.v (.slice none 0 0)), .d (.v (.slice none 0 0))]))]) [⟨[4], some 9, [[4]], []⟩, ⟨[5], some 10, [[5]], []⟩, ⟨[6], some 11, [[6]], []⟩, ⟨[9, 10, 11], some 12, [], []⟩, ⟨[12], some 13, [], []⟩, ⟨[13], some 14, [], []⟩, ⟨[14, 3], some 15, [], []⟩, ⟨[14, 15], some 16, [], []⟩, ⟨[14, 16], some 17, [], []⟩, ⟨[14, 17], some 18, [], []⟩] (fun k14 => ?_) ?_
  · skip
    refine .load (.no rfl) rfl t27 rfl rfl (.ptr _ _ _ _ _ rfl) rfl rfl rfl rfl ?_
    refine .load (.no rfl) rfl t30 rfl rfl (.ptr _ _ _ _ _ rfl) rfl rfl rfl rfl ?_
    refine .load (.no rfl) rfl t30 rfl rfl (.ptr _ _ _ _ _ rfl) rfl rfl rfl rfl ?_
    refine .call (.no rfl) rfl [] [] (c_areEnvs d a b (by first | assumption | omega | exact okIn_len2 c0.1) (by first | assumption | omega | exact okIn_len2 c0.1)) rfl rfl rfl rfl rfl (.cons (Reads.d _).gives (.cons (Reads.d _).gives (.cons (Reads.d _).gives (.cons (Reads.d _).gives (.cons (Reads.d _).gives (.cons (Reads.d _).gives (.cons (Reads.d _).gives (.cons (Reads.d _).gives (.cons (Reads.d _).gives .nil))))))))) rfl rfl (fun h => absurd rfl h) (.own [12, 0] .nil) (.nil) rfl rfl rfl (by simp) rfl rfl rfl ?_
    refine .un (.no rfl) rfl rfl rfl rfl rfl ?_
    refine .moveB (.no rfl) rfl rfl rfl rfl fun b15 g1_5 => ?_
    cases b15
    · skip
      refine .move (.on rfl rfl rfl rfl rfl) rfl rfl rfl rfl ?_
      refine .len (.on rfl rfl rfl rfl rfl) rfl (z := (l.length : Int)) t31 rfl rfl rfl (.d _ _) (map_len _ _) rfl ?_
      refine .bin (.on rfl rfl rfl rfl rfl) rfl rfl rfl rfl rfl rfl ?_
      refine .pick (.no rfl) rfl rfl rfl rfl rfl ?_
      exact .fin () (.of (.cons rfl (.cons rfl (.cons rfl (.cons rfl (.cons (svB (show (decide ((l.length : Int) > 100)) = ((!(Decl.ok d && Env.okIn d a && Env.okIn d b) || decide ((l.length : Int) > 100))) by first | (simp only [g1_5, Bool.true_or, Bool.false_or, Bool.true_and, Bool.false_and, Bool.not_true, Bool.not_false]; done) | simp [g1_5])) .nil))))) (.cons rfl (.cons rfl (.cons rfl .nil))))
    · skip
      refine .off rfl rfl rfl rfl rfl rfl rfl ?_
      refine .off rfl rfl rfl rfl rfl rfl rfl ?_
      refine .off rfl rfl rfl rfl rfl rfl rfl ?_
      refine .pick (.no rfl) rfl rfl rfl rfl rfl ?_
      exact .fin () (.of (.cons rfl (.cons rfl (.cons rfl (.cons rfl (.cons (svB (show (true) = ((!(Decl.ok d && Env.okIn d a && Env.okIn d b) || decide ((l.length : Int) > 100))) by first | (simp only [g1_5, Bool.true_or, Bool.false_or, Bool.true_and, Bool.false_and, Bool.not_true, Bool.not_false]; done) | simp [g1_5])) .nil))))) (.cons rfl (.cons rfl (.cons rfl .nil))))
  intro _
  refine .cond (t := (!(Decl.ok d && Env.okIn d a && Env.okIn d b) || decide ((l.length : Int) > 100))) rfl (fun c0 => ?_) (fun c0 => ?_)
  · have c0 := c0
    try simp only [Bool.or_eq_true, Bool.or_eq_false_iff, Bool.and_eq_true, Bool.and_eq_false_iff, decide_eq_true_eq, decide_eq_false_iff_not, Bool.not_eq_true', Bool.not_eq_false', bne_iff_ne, beq_iff_eq, bne_eq_false_iff_eq, beq_eq_false_iff_ne, ne_eq, Bool.not_eq_eq_eq_not, Bool.not_true, Bool.not_false] at c0
    refine .seq ?_
    refine .reg (X := Nat) (fun ζ => .of [(8, .one (.ptr [8] (g13) 0))] [([8], (g13, ζ, .box [.d (.v (.bool (false))), .d (.v (.slice none 0 0)), .d (.v (.slice none 0 0))]))]) [⟨[], some 19, [], []⟩, ⟨[8, 19], none, [[8]], [[8]]⟩] (fun k16 => ?_) ?_
    · skip
      refine .build (.no rfl) rfl z30 rfl p30 rfl rfl rfl rfl ?_
      refine .store (.no rfl) rfl t30 rfl rfl rfl rfl rfl rfl rfl rfl rfl ?_
      exact .fin (k16 + 1) (.of (.cons rfl .nil) (.cons rfl .nil))
    intro g17
    refine .ret ?_
    have e18 : (false) = ((Env.widenIn d a b l).live) := by first | (rw [Env.widenIn_no2 c0]) | (rw [Env.widenIn_yes2 c0])
    have hc19 := eq1 (fun z1 => some (g13, g17, O.box [.d (.v (.bool (z1))), .d (.v (.slice none 0 0)), .d (.v (.slice none 0 0))])) e18
    show _ ∧ _
    exact ⟨.inr rfl, .done ⟨_, [], [], _, .cell (cells := [.d (.v (.bool ((Env.widenIn d a b l).live))), .d (.v (.slice none 0 0)), .d (.v (.slice none 0 0))]) rfl hc19 t30 rfl rfl .nil, .cons (Reads.d _).gives (.cons (Gives.nil' (by rw [Env.widenIn_no2 c0]; rfl)) (.cons (Gives.nil' (by rw [Env.widenIn_no2 c0]; rfl)) .nil)), nodupB_ok rfl, by simp, (by simp)⟩⟩
  · have c0 := c0
    try simp only [Bool.or_eq_true, Bool.or_eq_false_iff, Bool.and_eq_true, Bool.and_eq_false_iff, decide_eq_true_eq, decide_eq_false_iff_not, Bool.not_eq_true', Bool.not_eq_false', bne_iff_ne, beq_iff_eq, bne_eq_false_iff_eq, beq_eq_false_iff_ne, ne_eq, Bool.not_eq_eq_eq_not, Bool.not_true, Bool.not_false] at c0
    refine .skip ?_
    refine .seq ?_
    refine .regD (X := Nat × Nat) (by kernel_rfl) (fun ζ => .of [(8, .one (.ptr [8] (g13) 0))] [([8], (g13, ζ.1, .box [.d (.v (.bool ((Env.joinW (fun x0 x1 => Iv.widenOk l x0 x1) a b).live))), .ref [24, 1] (ζ.2), .ref [24, 2] (ζ.2)])), ([24, 1], (ζ.2, ζ.2, .row 39 2 (List.map Iv.c ((Env.joinW (fun x0 x1 => Iv.widenOk l x0 x1) a b).ints)))), ([24, 2], (ζ.2, ζ.2, .row 39 2 (List.map Iv.c ((Env.joinW (fun x0 x1 => Iv.widenOk l x0 x1) a b).arrs))))]) [⟨[5], some 20, [[5]], []⟩, ⟨[6], some 21, [[6]], []⟩, ⟨[3], some 22, [], []⟩, ⟨[22], some 23, [], []⟩, ⟨[20, 21, 23], some 24, [], [[24, 1], [24, 2]]⟩, ⟨[8, 24], none, [[8]], [[8]]⟩] (by kernel_rfl) (fun k20 => ?_) ?_
    · skip
      refine .load (.no rfl) rfl t30 rfl rfl (.ptr _ _ _ _ _ rfl) rfl rfl rfl rfl ?_
      refine .load (.no rfl) rfl t30 rfl rfl (.ptr _ _ _ _ _ rfl) rfl rfl rfl rfl ?_
      refine .move (.no rfl) rfl rfl rfl rfl ?_
      refine .call (.no rfl) rfl [] [] (c_widening l) rfl rfl rfl rfl rfl (.cons (Reads.d _).gives .nil) rfl rfl (fun h => absurd rfl h) (.own [23, 0] .nil) (.nil) rfl rfl rfl (by simp) rfl rfl rfl ?_
      refine .call (.no rfl) rfl [] [] (c_with a b 95 [] [.pt false [.sl false 2 1 (List.map i64c (l))]] (fun x0 x1 => Iv.widenOk l x0 x1) (fun x0 x1 => c_widening1 x0 x1 l) (by first | assumption | omega | exact okIn_len2 c0.1) (by first | assumption | omega | exact okIn_len2 c0.1)) rfl rfl rfl rfl rfl (.cons (Reads.d _).gives (.cons (Reads.d _).gives (.cons (Reads.d _).gives (.cons (Reads.d _).gives (.cons (Reads.d _).gives (.cons (Reads.d _).gives (.cons (Reads.d _).gives .nil))))))) rfl rfl (fun h => absurd rfl h) (.own [24, 0] (.own [24, 1] (.own [24, 2] .nil))) (.nil) rfl rfl rfl (by simp) rfl rfl rfl ?_
      refine .store (.no rfl) rfl t30 rfl rfl rfl rfl rfl rfl rfl rfl rfl ?_
      exact .fin (k20 + 1 + 1 + 1 + 1 + 1, k20 + 1 + 1 + 1 + 1) (.of (.cons rfl .nil) (.cons rfl (.cons rfl (.cons rfl .nil))))
    rintro ⟨g21, g22⟩
    refine .ret ?_
    have e23 : ((Env.joinW (fun x0 x1 => Iv.widenOk l x0 x1) a b).live) = ((Env.widenIn d a b l).live) := by first | (rw [Env.widenIn_no2 c0]) | (rw [Env.widenIn_yes2 c0])
    have e24 : ((Env.joinW (fun x0 x1 => Iv.widenOk l x0 x1) a b).ints) = ((Env.widenIn d a b l).ints) := by first | (rw [Env.widenIn_no2 c0]) | (rw [Env.widenIn_yes2 c0])
    have e25 : ((Env.joinW (fun x0 x1 => Iv.widenOk l x0 x1) a b).arrs) = ((Env.widenIn d a b l).arrs) := by first | (rw [Env.widenIn_no2 c0]) | (rw [Env.widenIn_yes2 c0])
    have hc26 := eq1 (fun z1 => some (g13, g21, O.box [.d (.v (.bool (z1))), .ref [24, 1] (g22), .ref [24, 2] (g22)])) e23
    show _ ∧ _
    exact ⟨.inr rfl, .done ⟨_, [], [([24, 1], (g22, g22, .row 39 2 (List.map Iv.c ((Env.widenIn d a b l).ints)))), ([24, 2], (g22, g22, .row 39 2 (List.map Iv.c ((Env.widenIn d a b l).arrs))))], _, .cell (cells := [.d (.v (.bool ((Env.widenIn d a b l).live))), .ref [24, 1] (g22), .ref [24, 2] (g22)]) rfl hc26 t30 rfl rfl .nil, .cons (Reads.d _).gives (.cons (.ref (.head _)) (.cons (.ref (.tail _ (.head _))) .nil)), nodupB_ok rfl, by simp, (AllH.get (.cons (rowE (congrArg (List.map Iv.c) e24)) (.cons (rowE (congrArg (List.map Iv.c) e25)) .nil)))⟩⟩
end Go.Proofs

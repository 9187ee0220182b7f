/- Contracts of the program's functions at this seat, printed by a program of ours and checked by Lean: each under the conditions of its own statement. -/
import Derived.Test.YtpejmcagmfkilaaDoorF2
set_option linter.all false
set_option linter.unnecessarySimpa false
set_option linter.unusedSectionVars false
set_option linter.unusedSimpArgs false
set_option linter.unusedVariables false
namespace Go.Proofs
open Go Go.Proofs Go.Ev

theorem c_l7With (e : Env) (v : Int) (a : Iv) (hv : 0 ≤ v ∧ v < (e.ints.length : Int)) (hb : e.ints.length ≤ 1048576 ∧ e.arrs.length ≤ 1048576) : Trip Tryd.prog 71 [(true, 3), (false, 1), (true, 2)] (Env.c30 e ++ [.v (.int .i64 (v))] ++ Iv.c a) [(true, 3)] [.v (.bool ((Env.setInt e v a).live)), .sl true 60 2 (List.map Iv.c ((Env.setInt e v a).ints)), .sl true 60 2 (List.map Iv.c ((Env.setInt e v a).arrs))] [] := by
  refine Trip.of Tryd.func71 (by decide) (c := _) rfl rfl (shB_ok rfl) (Nat.le_of_ble_eq_true rfl) rfl (AftOk.nil _) ?_
  refine .satA (t := 0) (i := 1) rfl rfl (fun hs1 => ?_)
  have hs1l : e.ints.length ≤ 9223372036854775807 := hs1.maplen
  refine .satA (t := 0) (i := 2) rfl rfl (fun hs2 => ?_)
  have hs2l : e.arrs.length ≤ 9223372036854775807 := hs2.maplen
  refine .seq ?_
  refine .reg (X := Nat × Nat × Nat) (fun ζ => .of [(1, .one (.d (.v (.int .i64 (v))))), (3, .one (.ptr [3] (ζ.1) 0)), (5, .one (.ptr [5] (ζ.2.1) 0)), (6, .one (.ptr [6] (ζ.2.2) 0))] [([3], (ζ.1, ζ.1, .box [.d (.v (.bool (e.live))), .d (.sl false 60 2 (List.map Iv.c (e.ints))), .d (.sl false 60 2 (List.map Iv.c (e.arrs)))])), ([5], (ζ.2.1, ζ.2.1, .box [.d (.v (.int .i64 (a.lo))), .d (.v (.int .i64 (a.hi)))])), ([6], (ζ.2.2, ζ.2.2, .box [.d (.v (.bool (false))), .d (.v (.slice none 0 0)), .d (.v (.slice none 0 0))]))]) [⟨[0], some 3, [], [[3]]⟩, ⟨[2], some 5, [], [[5]]⟩, ⟨[], some 6, [], [[6]]⟩] (fun k3 => ?_) ?_
  · skip
    refine .box (.no rfl) rfl rfl rfl rfl rfl ?_
    refine .box (.no rfl) rfl rfl rfl rfl rfl ?_
    refine .alloc (.no rfl) rfl z30 rfl rfl rfl ?_
    exact .fin (k3, k3 + 1, k3 + 1 + 1) (.of (.cons rfl (.cons rfl (.cons rfl (.cons rfl .nil)))) (.cons rfl (.cons rfl (.cons rfl .nil))))
  rintro ⟨g4, g5, g6⟩
  refine .seq ?_
  refine .reg (X := Nat × Nat × Nat) (fun ζ => .of [(1, .one (.d (.v (.int .i64 (v))))), (5, .one (.ptr [5] (g5) 0)), (6, .one (.ptr [6] (g6) 0)), (7, .one (.ptr [7] (ζ.1) 0))] [([5], (g5, g5, .box [.d (.v (.int .i64 (a.lo))), .d (.v (.int .i64 (a.hi)))])), ([6], (g6, g6, .box [.d (.v (.bool (false))), .d (.v (.slice none 0 0)), .d (.v (.slice none 0 0))])), ([7], (ζ.1, ζ.2.1, .box [.d (.v (.bool (e.live))), .ref [9, 1] (ζ.2.2), .ref [9, 2] (ζ.2.2)])), ([9, 1], (ζ.2.2, ζ.2.2, .row 60 2 (List.map Iv.c (e.ints)))), ([9, 2], (ζ.2.2, ζ.2.2, .row 60 2 (List.map Iv.c (e.arrs))))]) [⟨[3], some 8, [[3]], []⟩, ⟨[8], some 9, [], [[9, 1], [9, 2]]⟩, ⟨[], some 7, [], [[7]]⟩, ⟨[7, 9], none, [[7]], [[7]]⟩] (fun k7 => ?_) ?_
  · skip
    refine .load (.no rfl) rfl t30 rfl rfl (.ptr _ _ _ _ _ rfl) rfl rfl rfl rfl ?_
    refine .call (.no rfl) rfl [] [] (c_l6Copy e (by omega)) rfl rfl rfl rfl rfl (.cons (Reads.d _).gives (.cons (Reads.d _).gives (.cons (Reads.d _).gives .nil))) rfl rfl (fun h => absurd rfl h) (.own [9, 0] (.own [9, 1] (.own [9, 2] .nil))) (.nil) rfl rfl rfl (by simp) rfl rfl rfl ?_
    refine .alloc (.no rfl) rfl z30 rfl rfl rfl ?_
    refine .store (.no rfl) rfl t30 rfl rfl rfl rfl rfl rfl rfl rfl rfl ?_
    exact .fin (k7 + 1 + 1, k7 + 1 + 1 + 1, k7 + 1) (.of (.cons rfl (.cons rfl (.cons rfl (.cons rfl .nil)))) (.cons rfl (.cons rfl (.cons rfl (.cons rfl (.cons rfl .nil))))))
  rintro ⟨g8, g9, g10⟩
  refine .seq ?_
  refine .reg (X := Nat) (fun ζ => .of [(6, .one (.ptr [6] (g6) 0)), (7, .one (.ptr [7] (g8) 0))] [([6], (g6, g6, .box [.d (.v (.bool (false))), .d (.v (.slice none 0 0)), .d (.v (.slice none 0 0))])), ([7], (g8, g9, .box [.d (.v (.bool (e.live))), .ref [9, 1] (g10), .ref [9, 2] (g10)])), ([9, 1], (g10, ζ, .row 60 2 (List.map Iv.c (e.ints.set v.toNat a)))), ([9, 2], (g10, g10, .row 60 2 (List.map Iv.c (e.arrs))))]) [⟨[7], some 10, [], []⟩, ⟨[10], some 11, [[7]], []⟩, ⟨[1], some 12, [], []⟩, ⟨[5], some 13, [[5]], []⟩, ⟨[11, 12], some 14, [[9, 1]], []⟩, ⟨[14, 13], none, [[9, 1]], [[9, 1]]⟩] (fun k11 => ?_) ?_
  · skip
    refine .fieldAddrP (.no rfl) rfl t30 rfl rfl t28 rfl rfl rfl rfl ?_
    refine .load (.no rfl) rfl t28 rfl rfl (.ptr _ _ _ _ _ rfl) rfl rfl rfl rfl ?_
    refine .move (.no rfl) rfl rfl rfl rfl ?_
    refine .load (.no rfl) rfl t60 rfl rfl (.ptr _ _ _ _ _ rfl) rfl rfl rfl rfl ?_
    refine .indexAddr (.no rfl) rfl (v.toNat) t28 rfl t60 rfl rfl rfl (.ref _ _ _ _ _ rfl) rfl rfl (by omega) (map_get (by omega)) rfl rfl ?_
    refine .storeE (.no rfl) rfl (els' := List.map Iv.c (e.ints.set v.toNat a)) t60 rfl rfl rfl rfl (map_get (by omega)) rfl rfl (.cons _ _ _ _ _ _ (.d _) (.cons _ _ _ _ _ _ (.d _) .nil)) rfl (Nat.le_of_ble_eq_true rfl) (set_map _ _ _ a _ rfl) rfl rfl ?_
    exact .fin (k11 + 1 + 1 + 1 + 1 + 1) (.of (.cons rfl (.cons rfl .nil)) (.cons rfl (.cons rfl (.cons rfl (.cons rfl .nil)))))
  intro g12
  refine .seq ?_
  refine .reg (X := Nat) (fun ζ => .of [(6, .one (.ptr [6] (g6) 0))] [([6], (g6, ζ, .box [.d (.v (.bool (e.live))), .ref [9, 1] (g10), .ref [9, 2] (g10)])), ([9, 1], (g10, g12, .row 60 2 (List.map Iv.c (e.ints.set v.toNat a)))), ([9, 2], (g10, g10, .row 60 2 (List.map Iv.c (e.arrs))))]) [⟨[7], some 15, [[7]], []⟩, ⟨[6, 15], none, [[6]], [[6]]⟩] (fun k13 => ?_) ?_
  · skip
    refine .load (.no rfl) rfl t30 rfl rfl (.ptr _ _ _ _ _ rfl) rfl rfl rfl rfl ?_
    refine .store (.no rfl) rfl t30 rfl rfl rfl rfl rfl rfl rfl rfl rfl ?_
    exact .fin (k13 + 1) (.of (.cons rfl .nil) (.cons rfl (.cons rfl (.cons rfl .nil))))
  intro g14
  refine .ret ?_
  have e15 : (e.live) = ((Env.setInt e v a).live) := by rfl
  have e16 : (e.ints.set v.toNat a) = ((Env.setInt e v a).ints) := by rfl
  have e17 : (e.arrs) = ((Env.setInt e v a).arrs) := by rfl
  have hc18 := eq1 (fun z1 => some (g6, g14, O.box [.d (.v (.bool (z1))), .ref [9, 1] (g10), .ref [9, 2] (g10)])) e15
  show _ ∧ _
  exact ⟨.inr rfl, .done ⟨_, [], [([9, 1], (g10, g12, .row 60 2 (List.map Iv.c ((Env.setInt e v a).ints)))), ([9, 2], (g10, g10, .row 60 2 (List.map Iv.c ((Env.setInt e v a).arrs))))], _, .cell (cells := [.d (.v (.bool ((Env.setInt e v a).live))), .ref [9, 1] (g10), .ref [9, 2] (g10)]) rfl hc18 t30 rfl rfl .nil, .cons (Reads.d _).gives (.cons (.ref (.head _)) (.cons (.ref (.tail _ (.head _))) .nil)), nodupB_ok rfl, by simp, (AllH.get (.cons (rowE (congrArg (List.map Iv.c) e16)) (.cons (rowE (congrArg (List.map Iv.c) e17)) .nil)))⟩⟩
theorem c_sEnvSet (d : Decl) (e : Env) (v : Int) (a : Iv) (hs : ∀ x ∈ Decl.names d, x.size ≤ 9223372036854775807) (hd : d.vars.length ≤ 1048576 ∧ d.flags.length ≤ 1048576 ∧ d.arrays.length ≤ 1048576) (hb : e.ints.length ≤ 1048576 ∧ e.arrs.length ≤ 1048576) : Trip Tryd.prog 30 [(true, 3), (true, 3), (false, 1), (true, 2)] (Decl.c27 d ++ Env.c30 e ++ [.v (.int .i64 (v))] ++ Iv.c a) [(true, 3)] [.v (.bool ((Env.setIn d e v a).live)), .sl true 60 2 (List.map Iv.c ((Env.setIn d e v a).ints)), .sl true 60 2 (List.map Iv.c ((Env.setIn d e v a).arrs))] [] := by
  refine Trip.of Tryd.func30 (by decide) (c := _) rfl rfl (shB_ok rfl) (Nat.le_of_ble_eq_true rfl) rfl (AftOk.nil _) ?_
  refine .satA (t := 0) (i := 0) rfl rfl (fun hs1 => ?_)
  have hs1l : d.vars.length ≤ 9223372036854775807 := hs1.maplen
  refine .satA (t := 0) (i := 1) rfl rfl (fun hs2 => ?_)
  have hs2l : d.flags.length ≤ 9223372036854775807 := hs2.maplen
  refine .satA (t := 0) (i := 2) rfl rfl (fun hs3 => ?_)
  have hs3l : d.arrays.length ≤ 9223372036854775807 := hs3.maplen
  refine .satA (t := 1) (i := 1) rfl rfl (fun hs4 => ?_)
  have hs4l : e.ints.length ≤ 9223372036854775807 := hs4.maplen
  refine .satA (t := 1) (i := 2) rfl rfl (fun hs5 => ?_)
  have hs5l : e.arrs.length ≤ 9223372036854775807 := hs5.maplen
  refine .seq ?_
  refine .reg (X := Nat × Nat × Nat × Nat) (fun ζ => .of [(2, .one (.d (.v (.int .i64 (v))))), (4, .one (.ptr [4] (ζ.1) 0)), (5, .one (.ptr [5] (ζ.2.1) 0)), (7, .one (.ptr [7] (ζ.2.2.1) 0)), (8, .one (.ptr [8] (ζ.2.2.2) 0))] [([4], (ζ.1, ζ.1, .box [.d (.sl false 9 1 (List.map strc (d.vars))), .d (.sl false 9 1 (List.map strc (d.flags))), .d (.sl false 101 2 (List.map Arr.c (d.arrays)))])), ([5], (ζ.2.1, ζ.2.1, .box [.d (.v (.bool (e.live))), .d (.sl false 60 2 (List.map Iv.c (e.ints))), .d (.sl false 60 2 (List.map Iv.c (e.arrs)))])), ([7], (ζ.2.2.1, ζ.2.2.1, .box [.d (.v (.int .i64 (a.lo))), .d (.v (.int .i64 (a.hi)))])), ([8], (ζ.2.2.2, ζ.2.2.2, .box [.d (.v (.bool (false))), .d (.v (.slice none 0 0)), .d (.v (.slice none 0 0))]))]) [⟨[0], some 4, [], [[4]]⟩, ⟨[1], some 5, [], [[5]]⟩, ⟨[3], some 7, [], [[7]]⟩, ⟨[], some 8, [], [[8]]⟩] (fun k6 => ?_) ?_
  · skip
    refine .box (.no rfl) rfl rfl rfl rfl rfl ?_
    refine .box (.no rfl) rfl rfl rfl rfl rfl ?_
    refine .box (.no rfl) rfl rfl rfl rfl rfl ?_
    refine .alloc (.no rfl) rfl z30 rfl rfl rfl ?_
    exact .fin (k6, k6 + 1, k6 + 1 + 1, k6 + 1 + 1 + 1) (.of (.cons rfl (.cons rfl (.cons rfl (.cons rfl (.cons rfl .nil))))) (.cons rfl (.cons rfl (.cons rfl (.cons rfl .nil)))))
  rintro ⟨g7, g8, g9, g10⟩
  refine .seq ?_
  refine .seq ?_
  refine .reg (X := Unit) (fun ζ => .of [(2, .one (.d (.v (.int .i64 (v))))), (5, .one (.ptr [5] (g8) 0)), (7, .one (.ptr [7] (g9) 0)), (8, .one (.ptr [8] (g10) 0)), (31, .one (.d (.v (.bool ((((!(Decl.ok d && Env.okIn d e) || !e.live) || !(inR v 0 (IntKind.wrap .i64 ((d.vars.length : Int) - 1)))) || !(Iv.ok a)))))))] [([5], (g8, g8, .box [.d (.v (.bool (e.live))), .d (.sl false 60 2 (List.map Iv.c (e.ints))), .d (.sl false 60 2 (List.map Iv.c (e.arrs)))])), ([7], (g9, g9, .box [.d (.v (.int .i64 (a.lo))), .d (.v (.int .i64 (a.hi)))])), ([8], (g10, g10, .box [.d (.v (.bool (false))), .d (.v (.slice none 0 0)), .d (.v (.slice none 0 0))]))]) [⟨[4], some 9, [[4]], []⟩, ⟨[5], some 10, [[5]], []⟩, ⟨[9, 10], some 11, [], []⟩, ⟨[11], some 12, [], []⟩, ⟨[12], some 13, [], []⟩, ⟨[13, 5], some 14, [], []⟩, ⟨[13, 14], some 15, [[5]], []⟩, ⟨[13, 15], some 16, [], []⟩, ⟨[13, 16], some 17, [], []⟩, ⟨[17], some 18, [], []⟩, ⟨[18, 2], some 19, [], []⟩, ⟨[18, 4], some 20, [], []⟩, ⟨[18, 20], some 21, [[4]], []⟩, ⟨[18, 21], some 22, [], []⟩, ⟨[18, 22], some 23, [], []⟩, ⟨[18, 19, 23], some 24, [], []⟩, ⟨[18, 24], some 25, [], []⟩, ⟨[18, 25], some 26, [], []⟩, ⟨[26], some 27, [], []⟩, ⟨[27, 7], some 28, [[7]], []⟩, ⟨[27, 28], some 29, [], []⟩, ⟨[27, 29], some 30, [], []⟩, ⟨[27, 30], some 31, [], []⟩] (fun k11 => ?_) ?_
  · skip
    refine .load (.no rfl) rfl t27 rfl rfl (.ptr _ _ _ _ _ rfl) rfl rfl rfl rfl ?_
    refine .load (.no rfl) rfl t30 rfl rfl (.ptr _ _ _ _ _ rfl) rfl rfl rfl rfl ?_
    refine .call (.no rfl) rfl [] [] (c_sEnvOk d e (by first | assumption | omega | (exact Env.set_place (d := d) (by omega) c0.1.1.1.2 c0.1.1.2 c0.1.2)) (by first | assumption | omega | (exact Env.set_place (d := d) (by omega) c0.1.1.1.2 c0.1.1.2 c0.1.2)) (by first | assumption | omega | (exact Env.set_place (d := d) (by omega) c0.1.1.1.2 c0.1.1.2 c0.1.2))) rfl rfl rfl rfl rfl (.cons (Reads.d _).gives (.cons (Reads.d _).gives (.cons (Reads.d _).gives (.cons (Reads.d _).gives (.cons (Reads.d _).gives (.cons (Reads.d _).gives .nil)))))) rfl rfl (fun h => absurd rfl h) (.own [11, 0] .nil) (.nil) rfl rfl rfl (by simp) rfl rfl rfl ?_
    refine .un (.no rfl) rfl rfl rfl rfl rfl ?_
    refine .moveB (.no rfl) rfl rfl rfl rfl fun b12 g1_4 => ?_
    cases b12
    · skip
      refine .fieldAddrP (.on rfl rfl rfl rfl rfl) rfl t30 rfl rfl t4 rfl rfl rfl rfl ?_
      refine .load (.on rfl rfl rfl rfl rfl) rfl t4 rfl rfl (.ptr _ _ _ _ _ rfl) rfl rfl rfl rfl ?_
      refine .un (.on rfl rfl rfl rfl rfl) rfl rfl rfl rfl rfl ?_
      refine .pick (.no rfl) rfl rfl rfl rfl rfl ?_
      refine .moveB (.no rfl) rfl rfl rfl rfl fun b13 g1_9 => ?_
      cases b13
      · skip
        refine .move (.on rfl rfl rfl rfl rfl) rfl rfl rfl rfl ?_
        refine .fieldAddrP (.on rfl rfl rfl rfl rfl) rfl t27 rfl rfl t24 rfl rfl rfl rfl ?_
        refine .load (.on rfl rfl rfl rfl rfl) rfl t24 rfl rfl (.ptr _ _ _ _ _ rfl) rfl rfl rfl rfl ?_
        refine .len (.on rfl rfl rfl rfl rfl) rfl (z := (d.vars.length : Int)) t24 rfl rfl rfl (.d _ _) (map_len _ _) rfl ?_
        refine .bin (.on rfl rfl rfl rfl rfl) rfl rfl rfl rfl rfl rfl ?_
        refine .call (.on rfl rfl rfl rfl rfl) rfl [] [] (c_l1In v 0 (IntKind.wrap .i64 ((d.vars.length : Int) - 1))) rfl rfl rfl rfl rfl (.cons (Reads.d _).gives (.cons (Reads.d _).gives (.cons (Reads.d _).gives .nil))) rfl rfl (fun h => absurd rfl h) (.own [24, 0] .nil) (.nil) rfl rfl rfl (by simp) rfl rfl rfl ?_
        refine .un (.on rfl rfl rfl rfl rfl) rfl rfl rfl rfl rfl ?_
        refine .pick (.no rfl) rfl rfl rfl rfl rfl ?_
        refine .moveB (.no rfl) rfl rfl rfl rfl fun b14 g1_18 => ?_
        cases b14
        · skip
          refine .load (.on rfl rfl rfl rfl rfl) rfl t60 rfl rfl (.ptr _ _ _ _ _ rfl) rfl rfl rfl rfl ?_
          refine .call (.on rfl rfl rfl rfl rfl) rfl [] [] (c_sIvOk a) rfl rfl rfl rfl rfl (.cons (Reads.d _).gives (.cons (Reads.d _).gives .nil)) rfl rfl (fun h => absurd rfl h) (.own [29, 0] .nil) (.nil) rfl rfl rfl (by simp) rfl rfl rfl ?_
          refine .un (.on rfl rfl rfl rfl rfl) rfl rfl rfl rfl rfl ?_
          refine .pick (.no rfl) rfl rfl rfl rfl rfl ?_
          exact .fin () (.of (.cons rfl (.cons rfl (.cons rfl (.cons rfl (.cons (svB (show (!(Iv.ok a)) = ((((!(Decl.ok d && Env.okIn d e) || !e.live) || !(inR v 0 (IntKind.wrap .i64 ((d.vars.length : Int) - 1)))) || !(Iv.ok a))) by first | (simp only [g1_4, g1_9, g1_18, Bool.true_or, Bool.false_or, Bool.true_and, Bool.false_and, Bool.not_true, Bool.not_false]; done) | simp [g1_4, g1_9, g1_18])) .nil))))) (.cons rfl (.cons rfl (.cons rfl .nil))))
        · skip
          refine .off rfl rfl rfl rfl rfl rfl rfl ?_
          refine .off rfl rfl rfl rfl rfl rfl rfl ?_
          refine .off rfl rfl rfl rfl rfl rfl rfl ?_
          refine .pick (.no rfl) rfl rfl rfl rfl rfl ?_
          exact .fin () (.of (.cons rfl (.cons rfl (.cons rfl (.cons rfl (.cons (svB (show (true) = ((((!(Decl.ok d && Env.okIn d e) || !e.live) || !(inR v 0 (IntKind.wrap .i64 ((d.vars.length : Int) - 1)))) || !(Iv.ok a))) by first | (simp only [g1_4, g1_9, g1_18, Bool.true_or, Bool.false_or, Bool.true_and, Bool.false_and, Bool.not_true, Bool.not_false]; done) | simp [g1_4, g1_9, g1_18])) .nil))))) (.cons rfl (.cons rfl (.cons rfl .nil))))
      · skip
        refine .off rfl rfl rfl rfl rfl rfl rfl ?_
        refine .off rfl rfl rfl rfl rfl rfl rfl ?_
        refine .off rfl rfl rfl rfl rfl rfl rfl ?_
        refine .off rfl rfl rfl rfl rfl rfl rfl ?_
        refine .off rfl rfl rfl rfl rfl rfl rfl ?_
        refine .off rfl rfl rfl rfl rfl rfl rfl ?_
        refine .off rfl rfl rfl rfl rfl rfl rfl ?_
        refine .pick (.no rfl) rfl rfl rfl rfl rfl ?_
        refine .move (.no rfl) rfl rfl rfl rfl ?_
        refine .off rfl rfl rfl rfl rfl rfl rfl ?_
        refine .off rfl rfl rfl rfl rfl rfl rfl ?_
        refine .off rfl rfl rfl rfl rfl rfl rfl ?_
        refine .pick (.no rfl) rfl rfl rfl rfl rfl ?_
        exact .fin () (.of (.cons rfl (.cons rfl (.cons rfl (.cons rfl (.cons (svB (show (true) = ((((!(Decl.ok d && Env.okIn d e) || !e.live) || !(inR v 0 (IntKind.wrap .i64 ((d.vars.length : Int) - 1)))) || !(Iv.ok a))) by first | (simp only [g1_4, g1_9, Bool.true_or, Bool.false_or, Bool.true_and, Bool.false_and, Bool.not_true, Bool.not_false]; done) | simp [g1_4, g1_9])) .nil))))) (.cons rfl (.cons rfl (.cons rfl .nil))))
    · skip
      refine .off rfl rfl rfl rfl rfl rfl rfl ?_
      refine .off rfl rfl rfl rfl rfl rfl rfl ?_
      refine .off rfl rfl rfl rfl rfl rfl rfl ?_
      refine .pick (.no rfl) rfl rfl rfl rfl rfl ?_
      refine .move (.no rfl) rfl rfl rfl rfl ?_
      refine .off rfl rfl rfl rfl rfl rfl rfl ?_
      refine .off rfl rfl rfl rfl rfl rfl rfl ?_
      refine .off rfl rfl rfl rfl rfl rfl rfl ?_
      refine .off rfl rfl rfl rfl rfl rfl rfl ?_
      refine .off rfl rfl rfl rfl rfl rfl rfl ?_
      refine .off rfl rfl rfl rfl rfl rfl rfl ?_
      refine .off rfl rfl rfl rfl rfl rfl rfl ?_
      refine .pick (.no rfl) rfl rfl rfl rfl rfl ?_
      refine .move (.no rfl) rfl rfl rfl rfl ?_
      refine .off rfl rfl rfl rfl rfl rfl rfl ?_
      refine .off rfl rfl rfl rfl rfl rfl rfl ?_
      refine .off rfl rfl rfl rfl rfl rfl rfl ?_
      refine .pick (.no rfl) rfl rfl rfl rfl rfl ?_
      exact .fin () (.of (.cons rfl (.cons rfl (.cons rfl (.cons rfl (.cons (svB (show (true) = ((((!(Decl.ok d && Env.okIn d e) || !e.live) || !(inR v 0 (IntKind.wrap .i64 ((d.vars.length : Int) - 1)))) || !(Iv.ok a))) by first | (simp only [g1_4, Bool.true_or, Bool.false_or, Bool.true_and, Bool.false_and, Bool.not_true, Bool.not_false]; done) | simp [g1_4])) .nil))))) (.cons rfl (.cons rfl (.cons rfl .nil))))
  intro _
  refine .cond (t := (((!(Decl.ok d && Env.okIn d e) || !e.live) || !(inR v 0 (IntKind.wrap .i64 ((d.vars.length : Int) - 1)))) || !(Iv.ok a))) rfl (fun c0 => ?_) (fun c0 => ?_)
  · have c0 := c0
    try simp only [Bool.or_eq_true, Bool.or_eq_false_iff, Bool.and_eq_true, Bool.and_eq_false_iff, decide_eq_true_eq, decide_eq_false_iff_not, Bool.not_eq_true', Bool.not_eq_false', bne_iff_ne, beq_iff_eq, bne_eq_false_iff_eq, beq_eq_false_iff_ne, ne_eq, Bool.not_eq_eq_eq_not, Bool.not_true, Bool.not_false] at c0
    refine .seq ?_
    refine .reg (X := Nat) (fun ζ => .of [(8, .one (.ptr [8] (g10) 0))] [([8], (g10, ζ, .box [.d (.v (.bool (false))), .d (.v (.slice none 0 0)), .d (.v (.slice none 0 0))]))]) [⟨[], some 32, [], []⟩, ⟨[8, 32], none, [[8]], [[8]]⟩] (fun k15 => ?_) ?_
    · skip
      refine .build (.no rfl) rfl z30 rfl p30 rfl rfl rfl rfl ?_
      refine .store (.no rfl) rfl t30 rfl rfl rfl rfl rfl rfl rfl rfl rfl ?_
      exact .fin (k15 + 1) (.of (.cons rfl .nil) (.cons rfl .nil))
    intro g16
    refine .ret ?_
    have e17 : (false) = ((Env.setIn d e v a).live) := by first | (rw [Env.setIn_no c0]) | (rw [Env.setIn_yes c0])
    have hc18 := eq1 (fun z1 => some (g10, g16, O.box [.d (.v (.bool (z1))), .d (.v (.slice none 0 0)), .d (.v (.slice none 0 0))])) e17
    show _ ∧ _
    exact ⟨.inr rfl, .done ⟨_, [], [], _, .cell (cells := [.d (.v (.bool ((Env.setIn d e v a).live))), .d (.v (.slice none 0 0)), .d (.v (.slice none 0 0))]) rfl hc18 t30 rfl rfl .nil, .cons (Reads.d _).gives (.cons (Gives.nil' (by rw [Env.setIn_no c0]; rfl)) (.cons (Gives.nil' (by rw [Env.setIn_no c0]; rfl)) .nil)), nodupB_ok rfl, by simp, (by simp)⟩⟩
  · have c0 := c0
    try simp only [Bool.or_eq_true, Bool.or_eq_false_iff, Bool.and_eq_true, Bool.and_eq_false_iff, decide_eq_true_eq, decide_eq_false_iff_not, Bool.not_eq_true', Bool.not_eq_false', bne_iff_ne, beq_iff_eq, bne_eq_false_iff_eq, beq_eq_false_iff_ne, ne_eq, Bool.not_eq_eq_eq_not, Bool.not_true, Bool.not_false] at c0
    refine .skip ?_
    refine .seq ?_
    refine .reg (X := Nat × Nat) (fun ζ => .of [(8, .one (.ptr [8] (g10) 0))] [([8], (g10, ζ.1, .box [.d (.v (.bool ((Env.setInt e v a).live))), .ref [36, 1] (ζ.2), .ref [36, 2] (ζ.2)])), ([36, 1], (ζ.2, ζ.2, .row 60 2 (List.map Iv.c ((Env.setInt e v a).ints)))), ([36, 2], (ζ.2, ζ.2, .row 60 2 (List.map Iv.c ((Env.setInt e v a).arrs))))]) [⟨[5], some 33, [[5]], []⟩, ⟨[2], some 34, [], []⟩, ⟨[7], some 35, [[7]], []⟩, ⟨[33, 34, 35], some 36, [], [[36, 1], [36, 2]]⟩, ⟨[8, 36], none, [[8]], [[8]]⟩] (fun k19 => ?_) ?_
    · skip
      refine .load (.no rfl) rfl t30 rfl rfl (.ptr _ _ _ _ _ rfl) rfl rfl rfl rfl ?_
      refine .move (.no rfl) rfl rfl rfl rfl ?_
      refine .load (.no rfl) rfl t60 rfl rfl (.ptr _ _ _ _ _ rfl) rfl rfl rfl rfl ?_
      refine .call (.no rfl) rfl [] [] (c_l7With e v a (by first | assumption | omega | (exact Env.set_place (d := d) (by omega) c0.1.1.1.2 c0.1.1.2 c0.1.2)) (by first | assumption | omega | (exact Env.set_place (d := d) (by omega) c0.1.1.1.2 c0.1.1.2 c0.1.2))) rfl rfl rfl rfl rfl (.cons (Reads.d _).gives (.cons (Reads.d _).gives (.cons (Reads.d _).gives (.cons (Reads.d _).gives (.cons (Reads.d _).gives (.cons (Reads.d _).gives .nil)))))) rfl rfl (fun h => absurd rfl h) (.own [36, 0] (.own [36, 1] (.own [36, 2] .nil))) (.nil) rfl rfl rfl (by simp) rfl rfl rfl ?_
      refine .store (.no rfl) rfl t30 rfl rfl rfl rfl rfl rfl rfl rfl rfl ?_
      exact .fin (k19 + 1 + 1 + 1 + 1, k19 + 1 + 1 + 1) (.of (.cons rfl .nil) (.cons rfl (.cons rfl (.cons rfl .nil))))
    rintro ⟨g20, g21⟩
    refine .ret ?_
    have e22 : ((Env.setInt e v a).live) = ((Env.setIn d e v a).live) := by first | (rw [Env.setIn_no c0]) | (rw [Env.setIn_yes c0])
    have e23 : ((Env.setInt e v a).ints) = ((Env.setIn d e v a).ints) := by first | (rw [Env.setIn_no c0]) | (rw [Env.setIn_yes c0])
    have e24 : ((Env.setInt e v a).arrs) = ((Env.setIn d e v a).arrs) := by first | (rw [Env.setIn_no c0]) | (rw [Env.setIn_yes c0])
    have hc25 := eq1 (fun z1 => some (g10, g20, O.box [.d (.v (.bool (z1))), .ref [36, 1] (g21), .ref [36, 2] (g21)])) e22
    show _ ∧ _
    exact ⟨.inr rfl, .done ⟨_, [], [([36, 1], (g21, g21, .row 60 2 (List.map Iv.c ((Env.setIn d e v a).ints)))), ([36, 2], (g21, g21, .row 60 2 (List.map Iv.c ((Env.setIn d e v a).arrs))))], _, .cell (cells := [.d (.v (.bool ((Env.setIn d e v a).live))), .ref [36, 1] (g21), .ref [36, 2] (g21)]) rfl hc25 t30 rfl rfl .nil, .cons (Reads.d _).gives (.cons (.ref (.head _)) (.cons (.ref (.tail _ (.head _))) .nil)), nodupB_ok rfl, by simp, (AllH.get (.cons (rowE (congrArg (List.map Iv.c) e23)) (.cons (rowE (congrArg (List.map Iv.c) e24)) .nil)))⟩⟩
theorem c_EnvOk (d : Decl) (e : Env) (hs : ∀ x ∈ Decl.names d, x.size ≤ 9223372036854775807) (hb : d.vars.length ≤ 1048576 ∧ d.flags.length ≤ 1048576 ∧ d.arrays.length ≤ 1048576) : Trip Tryd.prog 20 [(true, 3), (true, 3)] (Decl.c27 d ++ Env.c30 e) [(false, 1)] [.v (.bool (Decl.ok d && Env.okIn d e))] [] := by
  refine Trip.of Tryd.func20 (by decide) (c := _) rfl rfl (shB_ok rfl) (Nat.le_of_ble_eq_true rfl) rfl (AftOk.nil _) ?_
  refine .satA (t := 0) (i := 0) rfl rfl (fun hs1 => ?_)
  have hs1l : d.vars.length ≤ 9223372036854775807 := hs1.maplen
  refine .satA (t := 0) (i := 1) rfl rfl (fun hs2 => ?_)
  have hs2l : d.flags.length ≤ 9223372036854775807 := hs2.maplen
  refine .satA (t := 0) (i := 2) rfl rfl (fun hs3 => ?_)
  have hs3l : d.arrays.length ≤ 9223372036854775807 := hs3.maplen
  refine .satA (t := 1) (i := 1) rfl rfl (fun hs4 => ?_)
  have hs4l : e.ints.length ≤ 9223372036854775807 := hs4.maplen
  refine .satA (t := 1) (i := 2) rfl rfl (fun hs5 => ?_)
  have hs5l : e.arrs.length ≤ 9223372036854775807 := hs5.maplen
  refine .seq ?_
  refine .reg (X := Nat × Nat) (fun ζ => .of [(2, .one (.ptr [2] (ζ.1) 0)), (3, .one (.ptr [3] (ζ.2) 0))] [([2], (ζ.1, ζ.1, .box [.d (.sl false 9 1 (List.map strc (d.vars))), .d (.sl false 9 1 (List.map strc (d.flags))), .d (.sl false 101 2 (List.map Arr.c (d.arrays)))])), ([3], (ζ.2, ζ.2, .box [.d (.v (.bool (e.live))), .d (.sl false 60 2 (List.map Iv.c (e.ints))), .d (.sl false 60 2 (List.map Iv.c (e.arrs)))]))]) [⟨[0], some 2, [], [[2]]⟩, ⟨[1], some 3, [], [[3]]⟩, ⟨[], some 4, [], []⟩] (fun k6 => ?_) ?_
  · skip
    refine .box (.no rfl) rfl rfl rfl rfl rfl ?_
    refine .box (.no rfl) rfl rfl rfl rfl rfl ?_
    refine .assign (.no rfl) rfl rfl rfl rfl ?_
    exact .fin (k6, k6 + 1) (.of (.cons rfl (.cons rfl .nil)) (.cons rfl (.cons rfl .nil)))
  rintro ⟨g7, g8⟩
  refine .seq ?_
  refine .reg (X := Unit) (fun ζ => .of [(4, .one (.d (.v (.bool ((Decl.ok d && Env.okIn d e))))))] []) [⟨[2], some 5, [[2]], []⟩, ⟨[5], some 6, [], []⟩, ⟨[6], some 7, [], []⟩, ⟨[7, 2], some 8, [[2]], []⟩, ⟨[7, 3], some 9, [[3]], []⟩, ⟨[7, 8, 9], some 10, [], []⟩, ⟨[7, 10], some 11, [], []⟩, ⟨[11], some 4, [], []⟩] (fun k9 => ?_) ?_
  · skip
    refine .load (.no rfl) rfl t27 rfl rfl (.ptr _ _ _ _ _ rfl) rfl rfl rfl rfl ?_
    refine .call (.no rfl) rfl [] [] (c_isRight d (by assumption) (by assumption)) rfl rfl rfl rfl rfl (.cons (Reads.d _).gives (.cons (Reads.d _).gives (.cons (Reads.d _).gives .nil))) rfl rfl (fun h => absurd rfl h) (.own [6, 0] .nil) (.nil) rfl rfl rfl (by simp) rfl rfl rfl ?_
    refine .moveB (.no rfl) rfl rfl rfl rfl fun b10 g1_2 => ?_
    cases b10
    · skip
      refine .off rfl rfl rfl rfl rfl rfl rfl ?_
      refine .off rfl rfl rfl rfl rfl rfl rfl ?_
      refine .off rfl rfl rfl rfl rfl rfl rfl ?_
      refine .pick (.no rfl) rfl rfl rfl rfl rfl ?_
      refine .assign (.no rfl) rfl rfl rfl rfl ?_
      exact .fin () (.of (.cons (svB (show (false) = ((Decl.ok d && Env.okIn d e)) by first | (simp only [g1_2, Bool.true_or, Bool.false_or, Bool.true_and, Bool.false_and, Bool.not_true, Bool.not_false]; done) | simp [g1_2])) .nil) .nil)
    · skip
      refine .load (.on rfl rfl rfl rfl rfl) rfl t27 rfl rfl (.ptr _ _ _ _ _ rfl) rfl rfl rfl rfl ?_
      refine .load (.on rfl rfl rfl rfl rfl) rfl t30 rfl rfl (.ptr _ _ _ _ _ rfl) rfl rfl rfl rfl ?_
      refine .call (.on rfl rfl rfl rfl rfl) rfl [] [] (c_isEnv d e) rfl rfl rfl rfl rfl (.cons (Reads.d _).gives (.cons (Reads.d _).gives (.cons (Reads.d _).gives (.cons (Reads.d _).gives (.cons (Reads.d _).gives (.cons (Reads.d _).gives .nil)))))) rfl rfl (fun h => absurd rfl h) (.own [10, 0] .nil) (.nil) rfl rfl rfl (by simp) rfl rfl rfl ?_
      refine .pick (.no rfl) rfl rfl rfl rfl rfl ?_
      refine .assign (.no rfl) rfl rfl rfl rfl ?_
      exact .fin () (.of (.cons (svB (show (Env.okIn d e) = ((Decl.ok d && Env.okIn d e)) by first | (simp only [g1_2, Bool.true_or, Bool.false_or, Bool.true_and, Bool.false_and, Bool.not_true, Bool.not_false]; done) | simp [g1_2])) .nil) .nil)
  intro _
  refine .ret ?_
  have e11 : ((Decl.ok d && Env.okIn d e)) = (Decl.ok d && Env.okIn d e) := by rfl
  have hc12 := eq1 (fun z1 => SV.one (.d (.v (.bool (z1))))) e11
  show _ ∧ _
  exact ⟨.inr rfl, .done ⟨_, [], [], _, .one (c := .d (.v (.bool (Decl.ok d && Env.okIn d e)))) (hc12) .nil, .cons (Reads.d _).gives .nil, nodupB_ok rfl, by simp, (by simp)⟩⟩
theorem c_sizeS (l : List ByteArray) : Trip Tryd.prog 74 [(false, 1)] ([.sl false 9 1 (List.map strc (l))]) [(false, 1)] [.v (.int .i64 ((l.length : Int)))] [] := by
  refine Trip.of Tryd.func74 (by decide) (c := _) rfl rfl (shB_ok rfl) (Nat.le_of_ble_eq_true rfl) rfl (AftOk.nil _) ?_
  refine .sat (t := 0) rfl (fun hs1 => ?_)
  have hs1l : l.length ≤ 9223372036854775807 := hs1.maplen
  refine .seq ?_
  refine .reg (X := Unit) (fun ζ => .of [(0, .one (.d (.sl false 9 1 (List.map strc (l)))))] []) [⟨[], some 2, [], []⟩] (fun k2 => ?_) ?_
  · skip
    refine .assign (.no rfl) rfl rfl rfl rfl ?_
    exact .fin () (.of (.cons rfl .nil) .nil)
  intro _
  refine .seq ?_
  refine .reg (X := Unit) (fun ζ => .of [(2, .one (.d (.v (.int .i64 ((l.length : Int))))))] []) [⟨[0], some 3, [], []⟩, ⟨[3], some 4, [], []⟩, ⟨[4], some 2, [], []⟩] (fun k3 => ?_) ?_
  · skip
    refine .move (.no rfl) rfl rfl rfl rfl ?_
    refine .len (.no rfl) rfl (z := (l.length : Int)) t24 rfl rfl rfl (.d _ _) (map_len _ _) rfl ?_
    refine .assign (.no rfl) rfl rfl rfl rfl ?_
    exact .fin () (.of (.cons rfl .nil) .nil)
  intro _
  refine .ret ?_
  show _ ∧ _
  exact ⟨.inr rfl, .done ⟨_, [], [], _, .one rfl .nil, .cons (Reads.d _).gives .nil, nodupB_ok rfl, by simp, (by simp)⟩⟩
theorem c_set (e : Env) (v : Int) (a : Iv) (hv : 0 ≤ v ∧ v < (e.ints.length : Int)) (hb : e.ints.length ≤ 1048576 ∧ e.arrs.length ≤ 1048576) : Trip Tryd.prog 76 [(true, 3), (false, 1), (true, 2)] (Env.c30 e ++ [.v (.int .i64 (v))] ++ Iv.c a) [(true, 3)] [.v (.bool ((Env.setInt e v a).live)), .sl true 60 2 (List.map Iv.c ((Env.setInt e v a).ints)), .sl true 60 2 (List.map Iv.c ((Env.setInt e v a).arrs))] [] := by
  refine Trip.of Tryd.func76 (by decide) (c := _) rfl rfl (shB_ok rfl) (Nat.le_of_ble_eq_true rfl) rfl (AftOk.nil _) ?_
  refine .satA (t := 0) (i := 1) rfl rfl (fun hs1 => ?_)
  have hs1l : e.ints.length ≤ 9223372036854775807 := hs1.maplen
  refine .satA (t := 0) (i := 2) rfl rfl (fun hs2 => ?_)
  have hs2l : e.arrs.length ≤ 9223372036854775807 := hs2.maplen
  refine .seq ?_
  refine .reg (X := Nat × Nat × Nat) (fun ζ => .of [(1, .one (.d (.v (.int .i64 (v))))), (3, .one (.ptr [3] (ζ.1) 0)), (5, .one (.ptr [5] (ζ.2.1) 0)), (6, .one (.ptr [6] (ζ.2.2) 0))] [([3], (ζ.1, ζ.1, .box [.d (.v (.bool (e.live))), .d (.sl false 60 2 (List.map Iv.c (e.ints))), .d (.sl false 60 2 (List.map Iv.c (e.arrs)))])), ([5], (ζ.2.1, ζ.2.1, .box [.d (.v (.int .i64 (a.lo))), .d (.v (.int .i64 (a.hi)))])), ([6], (ζ.2.2, ζ.2.2, .box [.d (.v (.bool (false))), .d (.v (.slice none 0 0)), .d (.v (.slice none 0 0))]))]) [⟨[0], some 3, [], [[3]]⟩, ⟨[2], some 5, [], [[5]]⟩, ⟨[], some 6, [], [[6]]⟩] (fun k3 => ?_) ?_
  · skip
    refine .box (.no rfl) rfl rfl rfl rfl rfl ?_
    refine .box (.no rfl) rfl rfl rfl rfl rfl ?_
    refine .alloc (.no rfl) rfl z30 rfl rfl rfl ?_
    exact .fin (k3, k3 + 1, k3 + 1 + 1) (.of (.cons rfl (.cons rfl (.cons rfl (.cons rfl .nil)))) (.cons rfl (.cons rfl (.cons rfl .nil))))
  rintro ⟨g4, g5, g6⟩
  refine .seq ?_
  refine .reg (X := Nat × Nat × Nat) (fun ζ => .of [(1, .one (.d (.v (.int .i64 (v))))), (5, .one (.ptr [5] (g5) 0)), (6, .one (.ptr [6] (g6) 0)), (7, .one (.ptr [7] (ζ.1) 0))] [([5], (g5, g5, .box [.d (.v (.int .i64 (a.lo))), .d (.v (.int .i64 (a.hi)))])), ([6], (g6, g6, .box [.d (.v (.bool (false))), .d (.v (.slice none 0 0)), .d (.v (.slice none 0 0))])), ([7], (ζ.1, ζ.2.1, .box [.d (.v (.bool (e.live))), .ref [9, 1] (ζ.2.2), .ref [9, 2] (ζ.2.2)])), ([9, 1], (ζ.2.2, ζ.2.2, .row 60 2 (List.map Iv.c (e.ints)))), ([9, 2], (ζ.2.2, ζ.2.2, .row 60 2 (List.map Iv.c (e.arrs))))]) [⟨[3], some 8, [[3]], []⟩, ⟨[8], some 9, [], [[9, 1], [9, 2]]⟩, ⟨[], some 7, [], [[7]]⟩, ⟨[7, 9], none, [[7]], [[7]]⟩] (fun k7 => ?_) ?_
  · skip
    refine .load (.no rfl) rfl t30 rfl rfl (.ptr _ _ _ _ _ rfl) rfl rfl rfl rfl ?_
    refine .call (.no rfl) rfl [] [] (c_own e (by omega)) rfl rfl rfl rfl rfl (.cons (Reads.d _).gives (.cons (Reads.d _).gives (.cons (Reads.d _).gives .nil))) rfl rfl (fun h => absurd rfl h) (.own [9, 0] (.own [9, 1] (.own [9, 2] .nil))) (.nil) rfl rfl rfl (by simp) rfl rfl rfl ?_
    refine .alloc (.no rfl) rfl z30 rfl rfl rfl ?_
    refine .store (.no rfl) rfl t30 rfl rfl rfl rfl rfl rfl rfl rfl rfl ?_
    exact .fin (k7 + 1 + 1, k7 + 1 + 1 + 1, k7 + 1) (.of (.cons rfl (.cons rfl (.cons rfl (.cons rfl .nil)))) (.cons rfl (.cons rfl (.cons rfl (.cons rfl (.cons rfl .nil))))))
  rintro ⟨g8, g9, g10⟩
  refine .seq ?_
  refine .reg (X := Nat) (fun ζ => .of [(6, .one (.ptr [6] (g6) 0)), (7, .one (.ptr [7] (g8) 0))] [([6], (g6, g6, .box [.d (.v (.bool (false))), .d (.v (.slice none 0 0)), .d (.v (.slice none 0 0))])), ([7], (g8, g9, .box [.d (.v (.bool (e.live))), .ref [9, 1] (g10), .ref [9, 2] (g10)])), ([9, 1], (g10, ζ, .row 60 2 (List.map Iv.c (e.ints.set v.toNat a)))), ([9, 2], (g10, g10, .row 60 2 (List.map Iv.c (e.arrs))))]) [⟨[7], some 10, [], []⟩, ⟨[10], some 11, [[7]], []⟩, ⟨[1], some 12, [], []⟩, ⟨[5], some 13, [[5]], []⟩, ⟨[11, 12], some 14, [[9, 1]], []⟩, ⟨[14, 13], none, [[9, 1]], [[9, 1]]⟩] (fun k11 => ?_) ?_
  · skip
    refine .fieldAddrP (.no rfl) rfl t30 rfl rfl t28 rfl rfl rfl rfl ?_
    refine .load (.no rfl) rfl t28 rfl rfl (.ptr _ _ _ _ _ rfl) rfl rfl rfl rfl ?_
    refine .move (.no rfl) rfl rfl rfl rfl ?_
    refine .load (.no rfl) rfl t60 rfl rfl (.ptr _ _ _ _ _ rfl) rfl rfl rfl rfl ?_
    refine .indexAddr (.no rfl) rfl (v.toNat) t28 rfl t60 rfl rfl rfl (.ref _ _ _ _ _ rfl) rfl rfl (by omega) (map_get (by omega)) rfl rfl ?_
    refine .storeE (.no rfl) rfl (els' := List.map Iv.c (e.ints.set v.toNat a)) t60 rfl rfl rfl rfl (map_get (by omega)) rfl rfl (.cons _ _ _ _ _ _ (.d _) (.cons _ _ _ _ _ _ (.d _) .nil)) rfl (Nat.le_of_ble_eq_true rfl) (set_map _ _ _ a _ rfl) rfl rfl ?_
    exact .fin (k11 + 1 + 1 + 1 + 1 + 1) (.of (.cons rfl (.cons rfl .nil)) (.cons rfl (.cons rfl (.cons rfl (.cons rfl .nil)))))
  intro g12
  refine .seq ?_
  refine .reg (X := Nat) (fun ζ => .of [(6, .one (.ptr [6] (g6) 0))] [([6], (g6, ζ, .box [.d (.v (.bool (e.live))), .ref [9, 1] (g10), .ref [9, 2] (g10)])), ([9, 1], (g10, g12, .row 60 2 (List.map Iv.c (e.ints.set v.toNat a)))), ([9, 2], (g10, g10, .row 60 2 (List.map Iv.c (e.arrs))))]) [⟨[7], some 15, [[7]], []⟩, ⟨[6, 15], none, [[6]], [[6]]⟩] (fun k13 => ?_) ?_
  · skip
    refine .load (.no rfl) rfl t30 rfl rfl (.ptr _ _ _ _ _ rfl) rfl rfl rfl rfl ?_
    refine .store (.no rfl) rfl t30 rfl rfl rfl rfl rfl rfl rfl rfl rfl ?_
    exact .fin (k13 + 1) (.of (.cons rfl .nil) (.cons rfl (.cons rfl (.cons rfl .nil))))
  intro g14
  refine .ret ?_
  have e15 : (e.live) = ((Env.setInt e v a).live) := by rfl
  have e16 : (e.ints.set v.toNat a) = ((Env.setInt e v a).ints) := by rfl
  have e17 : (e.arrs) = ((Env.setInt e v a).arrs) := by rfl
  have hc18 := eq1 (fun z1 => some (g6, g14, O.box [.d (.v (.bool (z1))), .ref [9, 1] (g10), .ref [9, 2] (g10)])) e15
  show _ ∧ _
  exact ⟨.inr rfl, .done ⟨_, [], [([9, 1], (g10, g12, .row 60 2 (List.map Iv.c ((Env.setInt e v a).ints)))), ([9, 2], (g10, g10, .row 60 2 (List.map Iv.c ((Env.setInt e v a).arrs))))], _, .cell (cells := [.d (.v (.bool ((Env.setInt e v a).live))), .ref [9, 1] (g10), .ref [9, 2] (g10)]) rfl hc18 t30 rfl rfl .nil, .cons (Reads.d _).gives (.cons (.ref (.head _)) (.cons (.ref (.tail _ (.head _))) .nil)), nodupB_ok rfl, by simp, (AllH.get (.cons (rowE (congrArg (List.map Iv.c) e16)) (.cons (rowE (congrArg (List.map Iv.c) e17)) .nil)))⟩⟩
theorem c_EnvSet (d : Decl) (e : Env) (v : Int) (a : Iv) (hs : ∀ x ∈ Decl.names d, x.size ≤ 9223372036854775807) (hd : d.vars.length ≤ 1048576 ∧ d.flags.length ≤ 1048576 ∧ d.arrays.length ≤ 1048576) (hb : e.ints.length ≤ 1048576 ∧ e.arrs.length ≤ 1048576) : Trip Tryd.prog 33 [(true, 3), (true, 3), (false, 1), (true, 2)] (Decl.c27 d ++ Env.c30 e ++ [.v (.int .i64 (v))] ++ Iv.c a) [(true, 3)] [.v (.bool ((Env.setIn d e v a).live)), .sl true 60 2 (List.map Iv.c ((Env.setIn d e v a).ints)), .sl true 60 2 (List.map Iv.c ((Env.setIn d e v a).arrs))] [] := by
  refine Trip.of Tryd.func33 (by decide) (c := _) rfl rfl (shB_ok rfl) (Nat.le_of_ble_eq_true rfl) rfl (AftOk.nil _) ?_
  refine .satA (t := 0) (i := 0) rfl rfl (fun hs1 => ?_)
  have hs1l : d.vars.length ≤ 9223372036854775807 := hs1.maplen
  refine .satA (t := 0) (i := 1) rfl rfl (fun hs2 => ?_)
  have hs2l : d.flags.length ≤ 9223372036854775807 := hs2.maplen
  refine .satA (t := 0) (i := 2) rfl rfl (fun hs3 => ?_)
  have hs3l : d.arrays.length ≤ 9223372036854775807 := hs3.maplen
  refine .satA (t := 1) (i := 1) rfl rfl (fun hs4 => ?_)
  have hs4l : e.ints.length ≤ 9223372036854775807 := hs4.maplen
  refine .satA (t := 1) (i := 2) rfl rfl (fun hs5 => ?_)
  have hs5l : e.arrs.length ≤ 9223372036854775807 := hs5.maplen
  refine .seq ?_
  refine .reg (X := Nat × Nat × Nat × Nat) (fun ζ => .of [(2, .one (.d (.v (.int .i64 (v))))), (4, .one (.ptr [4] (ζ.1) 0)), (5, .one (.ptr [5] (ζ.2.1) 0)), (7, .one (.ptr [7] (ζ.2.2.1) 0)), (8, .one (.ptr [8] (ζ.2.2.2) 0))] [([4], (ζ.1, ζ.1, .box [.d (.sl false 9 1 (List.map strc (d.vars))), .d (.sl false 9 1 (List.map strc (d.flags))), .d (.sl false 101 2 (List.map Arr.c (d.arrays)))])), ([5], (ζ.2.1, ζ.2.1, .box [.d (.v (.bool (e.live))), .d (.sl false 60 2 (List.map Iv.c (e.ints))), .d (.sl false 60 2 (List.map Iv.c (e.arrs)))])), ([7], (ζ.2.2.1, ζ.2.2.1, .box [.d (.v (.int .i64 (a.lo))), .d (.v (.int .i64 (a.hi)))])), ([8], (ζ.2.2.2, ζ.2.2.2, .box [.d (.v (.bool (false))), .d (.v (.slice none 0 0)), .d (.v (.slice none 0 0))]))]) [⟨[0], some 4, [], [[4]]⟩, ⟨[1], some 5, [], [[5]]⟩, ⟨[3], some 7, [], [[7]]⟩, ⟨[], some 8, [], [[8]]⟩] (fun k6 => ?_) ?_
  · skip
    refine .box (.no rfl) rfl rfl rfl rfl rfl ?_
    refine .box (.no rfl) rfl rfl rfl rfl rfl ?_
    refine .box (.no rfl) rfl rfl rfl rfl rfl ?_
    refine .alloc (.no rfl) rfl z30 rfl rfl rfl ?_
    exact .fin (k6, k6 + 1, k6 + 1 + 1, k6 + 1 + 1 + 1) (.of (.cons rfl (.cons rfl (.cons rfl (.cons rfl (.cons rfl .nil))))) (.cons rfl (.cons rfl (.cons rfl (.cons rfl .nil)))))
  rintro ⟨g7, g8, g9, g10⟩
  refine .seq ?_
  refine .seq ?_
  refine .reg (X := Unit) (fun ζ => .of [(2, .one (.d (.v (.int .i64 (v))))), (5, .one (.ptr [5] (g8) 0)), (7, .one (.ptr [7] (g9) 0)), (8, .one (.ptr [8] (g10) 0)), (31, .one (.d (.v (.bool ((((!(Decl.ok d && Env.okIn d e) || !e.live) || !(inR v 0 (IntKind.wrap .i64 ((d.vars.length : Int) - 1)))) || !(Iv.ok a)))))))] [([5], (g8, g8, .box [.d (.v (.bool (e.live))), .d (.sl false 60 2 (List.map Iv.c (e.ints))), .d (.sl false 60 2 (List.map Iv.c (e.arrs)))])), ([7], (g9, g9, .box [.d (.v (.int .i64 (a.lo))), .d (.v (.int .i64 (a.hi)))])), ([8], (g10, g10, .box [.d (.v (.bool (false))), .d (.v (.slice none 0 0)), .d (.v (.slice none 0 0))]))]) [⟨[4], some 9, [[4]], []⟩, ⟨[5], some 10, [[5]], []⟩, ⟨[9, 10], some 11, [], []⟩, ⟨[11], some 12, [], []⟩, ⟨[12], some 13, [], []⟩, ⟨[13, 5], some 14, [], []⟩, ⟨[13, 14], some 15, [[5]], []⟩, ⟨[13, 15], some 16, [], []⟩, ⟨[13, 16], some 17, [], []⟩, ⟨[17], some 18, [], []⟩, ⟨[18, 2], some 19, [], []⟩, ⟨[18, 4], some 20, [], []⟩, ⟨[18, 20], some 21, [[4]], []⟩, ⟨[18, 21], some 22, [], []⟩, ⟨[18, 22], some 23, [], []⟩, ⟨[18, 19, 23], some 24, [], []⟩, ⟨[18, 24], some 25, [], []⟩, ⟨[18, 25], some 26, [], []⟩, ⟨[26], some 27, [], []⟩, ⟨[27, 7], some 28, [[7]], []⟩, ⟨[27, 28], some 29, [], []⟩, ⟨[27, 29], some 30, [], []⟩, ⟨[27, 30], some 31, [], []⟩] (fun k11 => ?_) ?_
  · skip
    refine .load (.no rfl) rfl t27 rfl rfl (.ptr _ _ _ _ _ rfl) rfl rfl rfl rfl ?_
    refine .load (.no rfl) rfl t30 rfl rfl (.ptr _ _ _ _ _ rfl) rfl rfl rfl rfl ?_
    refine .call (.no rfl) rfl [] [] (c_EnvOk d e (by first | assumption | omega | (exact Env.set_place (d := d) (by omega) c0.1.1.1.2 c0.1.1.2 c0.1.2)) (by first | assumption | omega | (exact Env.set_place (d := d) (by omega) c0.1.1.1.2 c0.1.1.2 c0.1.2))) rfl rfl rfl rfl rfl (.cons (Reads.d _).gives (.cons (Reads.d _).gives (.cons (Reads.d _).gives (.cons (Reads.d _).gives (.cons (Reads.d _).gives (.cons (Reads.d _).gives .nil)))))) rfl rfl (fun h => absurd rfl h) (.own [11, 0] .nil) (.nil) rfl rfl rfl (by simp) rfl rfl rfl ?_
    refine .un (.no rfl) rfl rfl rfl rfl rfl ?_
    refine .moveB (.no rfl) rfl rfl rfl rfl fun b12 g1_4 => ?_
    cases b12
    · skip
      refine .fieldAddrP (.on rfl rfl rfl rfl rfl) rfl t30 rfl rfl t4 rfl rfl rfl rfl ?_
      refine .load (.on rfl rfl rfl rfl rfl) rfl t4 rfl rfl (.ptr _ _ _ _ _ rfl) rfl rfl rfl rfl ?_
      refine .un (.on rfl rfl rfl rfl rfl) rfl rfl rfl rfl rfl ?_
      refine .pick (.no rfl) rfl rfl rfl rfl rfl ?_
      refine .moveB (.no rfl) rfl rfl rfl rfl fun b13 g1_9 => ?_
      cases b13
      · skip
        refine .move (.on rfl rfl rfl rfl rfl) rfl rfl rfl rfl ?_
        refine .fieldAddrP (.on rfl rfl rfl rfl rfl) rfl t27 rfl rfl t24 rfl rfl rfl rfl ?_
        refine .load (.on rfl rfl rfl rfl rfl) rfl t24 rfl rfl (.ptr _ _ _ _ _ rfl) rfl rfl rfl rfl ?_
        refine .call (.on rfl rfl rfl rfl rfl) rfl [] [] (c_sizeS d.vars) rfl rfl rfl rfl rfl (.cons (Reads.d _).gives .nil) rfl rfl (fun h => absurd rfl h) (.own [22, 0] .nil) (.nil) rfl rfl rfl (by simp) rfl rfl rfl ?_
        refine .bin (.on rfl rfl rfl rfl rfl) rfl rfl rfl rfl rfl rfl ?_
        refine .call (.on rfl rfl rfl rfl rfl) rfl [] [] (c_within v 0 (IntKind.wrap .i64 ((d.vars.length : Int) - 1))) rfl rfl rfl rfl rfl (.cons (Reads.d _).gives (.cons (Reads.d _).gives (.cons (Reads.d _).gives .nil))) rfl rfl (fun h => absurd rfl h) (.own [24, 0] .nil) (.nil) rfl rfl rfl (by simp) rfl rfl rfl ?_
        refine .un (.on rfl rfl rfl rfl rfl) rfl rfl rfl rfl rfl ?_
        refine .pick (.no rfl) rfl rfl rfl rfl rfl ?_
        refine .moveB (.no rfl) rfl rfl rfl rfl fun b14 g1_18 => ?_
        cases b14
        · skip
          refine .load (.on rfl rfl rfl rfl rfl) rfl t60 rfl rfl (.ptr _ _ _ _ _ rfl) rfl rfl rfl rfl ?_
          refine .call (.on rfl rfl rfl rfl rfl) rfl [] [] (c_IvOk a) rfl rfl rfl rfl rfl (.cons (Reads.d _).gives (.cons (Reads.d _).gives .nil)) rfl rfl (fun h => absurd rfl h) (.own [29, 0] .nil) (.nil) rfl rfl rfl (by simp) rfl rfl rfl ?_
          refine .un (.on rfl rfl rfl rfl rfl) rfl rfl rfl rfl rfl ?_
          refine .pick (.no rfl) rfl rfl rfl rfl rfl ?_
          exact .fin () (.of (.cons rfl (.cons rfl (.cons rfl (.cons rfl (.cons (svB (show (!(Iv.ok a)) = ((((!(Decl.ok d && Env.okIn d e) || !e.live) || !(inR v 0 (IntKind.wrap .i64 ((d.vars.length : Int) - 1)))) || !(Iv.ok a))) by first | (simp only [g1_4, g1_9, g1_18, Bool.true_or, Bool.false_or, Bool.true_and, Bool.false_and, Bool.not_true, Bool.not_false]; done) | simp [g1_4, g1_9, g1_18])) .nil))))) (.cons rfl (.cons rfl (.cons rfl .nil))))
        · skip
          refine .off rfl rfl rfl rfl rfl rfl rfl ?_
          refine .off rfl rfl rfl rfl rfl rfl rfl ?_
          refine .off rfl rfl rfl rfl rfl rfl rfl ?_
          refine .pick (.no rfl) rfl rfl rfl rfl rfl ?_
          exact .fin () (.of (.cons rfl (.cons rfl (.cons rfl (.cons rfl (.cons (svB (show (true) = ((((!(Decl.ok d && Env.okIn d e) || !e.live) || !(inR v 0 (IntKind.wrap .i64 ((d.vars.length : Int) - 1)))) || !(Iv.ok a))) by first | (simp only [g1_4, g1_9, g1_18, Bool.true_or, Bool.false_or, Bool.true_and, Bool.false_and, Bool.not_true, Bool.not_false]; done) | simp [g1_4, g1_9, g1_18])) .nil))))) (.cons rfl (.cons rfl (.cons rfl .nil))))
      · skip
        refine .off rfl rfl rfl rfl rfl rfl rfl ?_
        refine .off rfl rfl rfl rfl rfl rfl rfl ?_
        refine .off rfl rfl rfl rfl rfl rfl rfl ?_
        refine .off rfl rfl rfl rfl rfl rfl rfl ?_
        refine .off rfl rfl rfl rfl rfl rfl rfl ?_
        refine .off rfl rfl rfl rfl rfl rfl rfl ?_
        refine .off rfl rfl rfl rfl rfl rfl rfl ?_
        refine .pick (.no rfl) rfl rfl rfl rfl rfl ?_
        refine .move (.no rfl) rfl rfl rfl rfl ?_
        refine .off rfl rfl rfl rfl rfl rfl rfl ?_
        refine .off rfl rfl rfl rfl rfl rfl rfl ?_
        refine .off rfl rfl rfl rfl rfl rfl rfl ?_
        refine .pick (.no rfl) rfl rfl rfl rfl rfl ?_
        exact .fin () (.of (.cons rfl (.cons rfl (.cons rfl (.cons rfl (.cons (svB (show (true) = ((((!(Decl.ok d && Env.okIn d e) || !e.live) || !(inR v 0 (IntKind.wrap .i64 ((d.vars.length : Int) - 1)))) || !(Iv.ok a))) by first | (simp only [g1_4, g1_9, Bool.true_or, Bool.false_or, Bool.true_and, Bool.false_and, Bool.not_true, Bool.not_false]; done) | simp [g1_4, g1_9])) .nil))))) (.cons rfl (.cons rfl (.cons rfl .nil))))
    · skip
      refine .off rfl rfl rfl rfl rfl rfl rfl ?_
      refine .off rfl rfl rfl rfl rfl rfl rfl ?_
      refine .off rfl rfl rfl rfl rfl rfl rfl ?_
      refine .pick (.no rfl) rfl rfl rfl rfl rfl ?_
      refine .move (.no rfl) rfl rfl rfl rfl ?_
      refine .off rfl rfl rfl rfl rfl rfl rfl ?_
      refine .off rfl rfl rfl rfl rfl rfl rfl ?_
      refine .off rfl rfl rfl rfl rfl rfl rfl ?_
      refine .off rfl rfl rfl rfl rfl rfl rfl ?_
      refine .off rfl rfl rfl rfl rfl rfl rfl ?_
      refine .off rfl rfl rfl rfl rfl rfl rfl ?_
      refine .off rfl rfl rfl rfl rfl rfl rfl ?_
      refine .pick (.no rfl) rfl rfl rfl rfl rfl ?_
      refine .move (.no rfl) rfl rfl rfl rfl ?_
      refine .off rfl rfl rfl rfl rfl rfl rfl ?_
      refine .off rfl rfl rfl rfl rfl rfl rfl ?_
      refine .off rfl rfl rfl rfl rfl rfl rfl ?_
      refine .pick (.no rfl) rfl rfl rfl rfl rfl ?_
      exact .fin () (.of (.cons rfl (.cons rfl (.cons rfl (.cons rfl (.cons (svB (show (true) = ((((!(Decl.ok d && Env.okIn d e) || !e.live) || !(inR v 0 (IntKind.wrap .i64 ((d.vars.length : Int) - 1)))) || !(Iv.ok a))) by first | (simp only [g1_4, Bool.true_or, Bool.false_or, Bool.true_and, Bool.false_and, Bool.not_true, Bool.not_false]; done) | simp [g1_4])) .nil))))) (.cons rfl (.cons rfl (.cons rfl .nil))))
  intro _
  refine .cond (t := (((!(Decl.ok d && Env.okIn d e) || !e.live) || !(inR v 0 (IntKind.wrap .i64 ((d.vars.length : Int) - 1)))) || !(Iv.ok a))) rfl (fun c0 => ?_) (fun c0 => ?_)
  · have c0 := c0
    try simp only [Bool.or_eq_true, Bool.or_eq_false_iff, Bool.and_eq_true, Bool.and_eq_false_iff, decide_eq_true_eq, decide_eq_false_iff_not, Bool.not_eq_true', Bool.not_eq_false', bne_iff_ne, beq_iff_eq, bne_eq_false_iff_eq, beq_eq_false_iff_ne, ne_eq, Bool.not_eq_eq_eq_not, Bool.not_true, Bool.not_false] at c0
    refine .seq ?_
    refine .reg (X := Nat) (fun ζ => .of [(8, .one (.ptr [8] (g10) 0))] [([8], (g10, ζ, .box [.d (.v (.bool (false))), .d (.v (.slice none 0 0)), .d (.v (.slice none 0 0))]))]) [⟨[], some 32, [], []⟩, ⟨[8, 32], none, [[8]], [[8]]⟩] (fun k15 => ?_) ?_
    · skip
      refine .build (.no rfl) rfl z30 rfl p30 rfl rfl rfl rfl ?_
      refine .store (.no rfl) rfl t30 rfl rfl rfl rfl rfl rfl rfl rfl rfl ?_
      exact .fin (k15 + 1) (.of (.cons rfl .nil) (.cons rfl .nil))
    intro g16
    refine .ret ?_
    have e17 : (false) = ((Env.setIn d e v a).live) := by first | (rw [Env.setIn_no c0]) | (rw [Env.setIn_yes c0])
    have hc18 := eq1 (fun z1 => some (g10, g16, O.box [.d (.v (.bool (z1))), .d (.v (.slice none 0 0)), .d (.v (.slice none 0 0))])) e17
    show _ ∧ _
    exact ⟨.inr rfl, .done ⟨_, [], [], _, .cell (cells := [.d (.v (.bool ((Env.setIn d e v a).live))), .d (.v (.slice none 0 0)), .d (.v (.slice none 0 0))]) rfl hc18 t30 rfl rfl .nil, .cons (Reads.d _).gives (.cons (Gives.nil' (by rw [Env.setIn_no c0]; rfl)) (.cons (Gives.nil' (by rw [Env.setIn_no c0]; rfl)) .nil)), nodupB_ok rfl, by simp, (by simp)⟩⟩
  · have c0 := c0
    try simp only [Bool.or_eq_true, Bool.or_eq_false_iff, Bool.and_eq_true, Bool.and_eq_false_iff, decide_eq_true_eq, decide_eq_false_iff_not, Bool.not_eq_true', Bool.not_eq_false', bne_iff_ne, beq_iff_eq, bne_eq_false_iff_eq, beq_eq_false_iff_ne, ne_eq, Bool.not_eq_eq_eq_not, Bool.not_true, Bool.not_false] at c0
    refine .skip ?_
    refine .seq ?_
    refine .reg (X := Nat × Nat) (fun ζ => .of [(8, .one (.ptr [8] (g10) 0))] [([8], (g10, ζ.1, .box [.d (.v (.bool ((Env.setInt e v a).live))), .ref [36, 1] (ζ.2), .ref [36, 2] (ζ.2)])), ([36, 1], (ζ.2, ζ.2, .row 60 2 (List.map Iv.c ((Env.setInt e v a).ints)))), ([36, 2], (ζ.2, ζ.2, .row 60 2 (List.map Iv.c ((Env.setInt e v a).arrs))))]) [⟨[5], some 33, [[5]], []⟩, ⟨[2], some 34, [], []⟩, ⟨[7], some 35, [[7]], []⟩, ⟨[33, 34, 35], some 36, [], [[36, 1], [36, 2]]⟩, ⟨[8, 36], none, [[8]], [[8]]⟩] (fun k19 => ?_) ?_
    · skip
      refine .load (.no rfl) rfl t30 rfl rfl (.ptr _ _ _ _ _ rfl) rfl rfl rfl rfl ?_
      refine .move (.no rfl) rfl rfl rfl rfl ?_
      refine .load (.no rfl) rfl t60 rfl rfl (.ptr _ _ _ _ _ rfl) rfl rfl rfl rfl ?_
      refine .call (.no rfl) rfl [] [] (c_set e v a (by first | assumption | omega | (exact Env.set_place (d := d) (by omega) c0.1.1.1.2 c0.1.1.2 c0.1.2)) (by first | assumption | omega | (exact Env.set_place (d := d) (by omega) c0.1.1.1.2 c0.1.1.2 c0.1.2))) rfl rfl rfl rfl rfl (.cons (Reads.d _).gives (.cons (Reads.d _).gives (.cons (Reads.d _).gives (.cons (Reads.d _).gives (.cons (Reads.d _).gives (.cons (Reads.d _).gives .nil)))))) rfl rfl (fun h => absurd rfl h) (.own [36, 0] (.own [36, 1] (.own [36, 2] .nil))) (.nil) rfl rfl rfl (by simp) rfl rfl rfl ?_
      refine .store (.no rfl) rfl t30 rfl rfl rfl rfl rfl rfl rfl rfl rfl ?_
      exact .fin (k19 + 1 + 1 + 1 + 1, k19 + 1 + 1 + 1) (.of (.cons rfl .nil) (.cons rfl (.cons rfl (.cons rfl .nil))))
    rintro ⟨g20, g21⟩
    refine .ret ?_
    have e22 : ((Env.setInt e v a).live) = ((Env.setIn d e v a).live) := by first | (rw [Env.setIn_no c0]) | (rw [Env.setIn_yes c0])
    have e23 : ((Env.setInt e v a).ints) = ((Env.setIn d e v a).ints) := by first | (rw [Env.setIn_no c0]) | (rw [Env.setIn_yes c0])
    have e24 : ((Env.setInt e v a).arrs) = ((Env.setIn d e v a).arrs) := by first | (rw [Env.setIn_no c0]) | (rw [Env.setIn_yes c0])
    have hc25 := eq1 (fun z1 => some (g10, g20, O.box [.d (.v (.bool (z1))), .ref [36, 1] (g21), .ref [36, 2] (g21)])) e22
    show _ ∧ _
    exact ⟨.inr rfl, .done ⟨_, [], [([36, 1], (g21, g21, .row 60 2 (List.map Iv.c ((Env.setIn d e v a).ints)))), ([36, 2], (g21, g21, .row 60 2 (List.map Iv.c ((Env.setIn d e v a).arrs))))], _, .cell (cells := [.d (.v (.bool ((Env.setIn d e v a).live))), .ref [36, 1] (g21), .ref [36, 2] (g21)]) rfl hc25 t30 rfl rfl .nil, .cons (Reads.d _).gives (.cons (.ref (.head _)) (.cons (.ref (.tail _ (.head _))) .nil)), nodupB_ok rfl, by simp, (AllH.get (.cons (rowE (congrArg (List.map Iv.c) e23)) (.cons (rowE (congrArg (List.map Iv.c) e24)) .nil)))⟩⟩
end Go.Proofs

namespace Go.Proofs
open Go Go.Proofs Go.Ev

set_option maxHeartbeats 8000000 in
theorem c_FnExactEnvSet (d : Decl) (e : Env) (v : Int) (a : Iv) (hs : ∀ x ∈ Decl.names d, x.size ≤ 9223372036854775807) (hv : ∀ x ∈ d.vars, 0 ≤ strW x ∧ strW x ≤ 9223372036854775807) (hf : ∀ x ∈ d.flags, 0 ≤ strW x ∧ strW x ≤ 9223372036854775807) (ha : ∀ x ∈ d.arrays, 0 ≤ arrW x ∧ arrW x ≤ 9223372036854775807) : Trip Tryd.prog 6 [(true, 3), (true, 3), (false, 1), (true, 2)] (Decl.c41 d ++ Env.c54 e ++ [.v (.int .i64 (v))] ++ Iv.c a) [(false, 1)] [.v (.bool (true))] [] := by
  refine Trip.of Tryd.func6 (by decide) (c := _) rfl rfl (shB_ok rfl) (Nat.le_of_ble_eq_true rfl) rfl (AftOk.nil _) ?_
  refine .satA (t := 0) (i := 0) rfl rfl (fun hs1 => ?_)
  have hs1l : d.vars.length ≤ 9223372036854775807 := hs1.maplen
  refine .satA (t := 0) (i := 1) rfl rfl (fun hs2 => ?_)
  have hs2l : d.flags.length ≤ 9223372036854775807 := hs2.maplen
  refine .satA (t := 0) (i := 2) rfl rfl (fun hs3 => ?_)
  have hs3l : d.arrays.length ≤ 9223372036854775807 := hs3.maplen
  refine .satA (t := 1) (i := 1) rfl rfl (fun hs4 => ?_)
  have hs4l : e.ints.length ≤ 9223372036854775807 := hs4.maplen
  refine .satA (t := 1) (i := 2) rfl rfl (fun hs5 => ?_)
  have hs5l : e.arrs.length ≤ 9223372036854775807 := hs5.maplen
  refine .seq ?_
  refine .reg (X := Nat × Nat × Nat) (fun ζ => .of [(2, .one (.d (.v (.int .i64 (v))))), (4, .one (.ptr [4] (ζ.1) 0)), (5, .one (.ptr [5] (ζ.2.1) 0)), (7, .one (.ptr [7] (ζ.2.2) 0))] [([4], (ζ.1, ζ.1, .box [.d (.sl false 9 1 (List.map strc (d.vars))), .d (.sl false 9 1 (List.map strc (d.flags))), .d (.sl false 117 2 (List.map Arr.c (d.arrays)))])), ([5], (ζ.2.1, ζ.2.1, .box [.d (.v (.bool (e.live))), .d (.sl false 56 2 (List.map Iv.c (e.ints))), .d (.sl false 56 2 (List.map Iv.c (e.arrs)))])), ([7], (ζ.2.2, ζ.2.2, .box [.d (.v (.int .i64 (a.lo))), .d (.v (.int .i64 (a.hi)))]))]) [⟨[0], some 4, [], [[4]]⟩, ⟨[1], some 5, [], [[5]]⟩, ⟨[3], some 7, [], [[7]]⟩, ⟨[], some 8, [], []⟩] (fun k6 => ?_) ?_
  · skip
    refine .box (.no rfl) rfl rfl rfl rfl rfl ?_
    refine .box (.no rfl) rfl rfl rfl rfl rfl ?_
    refine .box (.no rfl) rfl rfl rfl rfl rfl ?_
    refine .assign (.no rfl) rfl rfl rfl rfl ?_
    exact .fin (k6, k6 + 1, k6 + 1 + 1) (.of (.cons rfl (.cons rfl (.cons rfl (.cons rfl .nil)))) (.cons rfl (.cons rfl (.cons rfl .nil))))
  rintro ⟨g7, g8, g9⟩
  refine .seq ?_
  refine .reg (X := Unit) (fun ζ => .of [(2, .one (.d (.v (.int .i64 (v))))), (4, .one (.ptr [4] (g7) 0)), (5, .one (.ptr [5] (g8) 0)), (7, .one (.ptr [7] (g9) 0)), (9, .one (.d (.v (.int .i64 (1048576)))))] [([4], (g7, g7, .box [.d (.sl false 9 1 (List.map strc (d.vars))), .d (.sl false 9 1 (List.map strc (d.flags))), .d (.sl false 117 2 (List.map Arr.c (d.arrays)))])), ([5], (g8, g8, .box [.d (.v (.bool (e.live))), .d (.sl false 56 2 (List.map Iv.c (e.ints))), .d (.sl false 56 2 (List.map Iv.c (e.arrs)))])), ([7], (g9, g9, .box [.d (.v (.int .i64 (a.lo))), .d (.v (.int .i64 (a.hi)))]))]) [⟨[], some 9, [], []⟩] (fun k10 => ?_) ?_
  · skip
    refine .assign (.no rfl) rfl rfl rfl rfl ?_
    exact .fin () (.of (.cons rfl (.cons rfl (.cons rfl (.cons rfl (.cons rfl .nil))))) (.cons rfl (.cons rfl (.cons rfl .nil))))
  intro _
  refine .seq ?_
  refine .reg (X := Unit) (fun ζ => .of [(2, .one (.d (.v (.int .i64 (v))))), (4, .one (.ptr [4] (g7) 0)), (5, .one (.ptr [5] (g8) 0)), (7, .one (.ptr [7] (g9) 0)), (9, .one (.d (.v (.int .i64 (szDecl d 1048576)))))] [([4], (g7, g7, .box [.d (.sl false 9 1 (List.map strc (d.vars))), .d (.sl false 9 1 (List.map strc (d.flags))), .d (.sl false 117 2 (List.map Arr.c (d.arrays)))])), ([5], (g8, g8, .box [.d (.v (.bool (e.live))), .d (.sl false 56 2 (List.map Iv.c (e.ints))), .d (.sl false 56 2 (List.map Iv.c (e.arrs)))])), ([7], (g9, g9, .box [.d (.v (.int .i64 (a.lo))), .d (.v (.int .i64 (a.hi)))]))]) [⟨[4], some 18, [[4]], []⟩, ⟨[9], some 19, [], []⟩, ⟨[18, 19], some 20, [], []⟩, ⟨[20], some 9, [], []⟩] (fun k11 => ?_) ?_
  · skip
    refine .load (.no rfl) rfl t41 rfl rfl (.ptr _ _ _ _ _ rfl) rfl rfl rfl rfl ?_
    refine .move (.no rfl) rfl rfl rfl rfl ?_
    refine .call (.no rfl) rfl [] [] (c_szDecl d 1048576 (by first | assumption | omega | (have q0 := szDecl_len hv hf ha (by omega) c0; omega) | (have q0 := szDecl_len hv hf ha (by omega) c0; have q1 := szEnv_len (by omega) c1; omega) | (have q0 := szDecl_len hv hf ha (by omega) c0; have q1 := szEnv_len (by omega) c1; first | omega | (have q9 := setIn_len (d := d) (e := e) (v := v) (a := a) (n := 1048576) (by omega); first | omega | (simp only [Decl.marks, Env.marks, Env.mark, mkAll_len]; omega))) | (intro i hi; exact mkAll_get (mIv 1) _ (by simpa only [Env.mark, mkAll_len] using hi)) | (intro i hi; simp only [Env.mark, mkAll_len] at hi ⊢; exact mkAll_get _ _ hi)) (by first | assumption | omega | (have q0 := szDecl_len hv hf ha (by omega) c0; omega) | (have q0 := szDecl_len hv hf ha (by omega) c0; have q1 := szEnv_len (by omega) c1; omega) | (have q0 := szDecl_len hv hf ha (by omega) c0; have q1 := szEnv_len (by omega) c1; first | omega | (have q9 := setIn_len (d := d) (e := e) (v := v) (a := a) (n := 1048576) (by omega); first | omega | (simp only [Decl.marks, Env.marks, Env.mark, mkAll_len]; omega))) | (intro i hi; exact mkAll_get (mIv 1) _ (by simpa only [Env.mark, mkAll_len] using hi)) | (intro i hi; simp only [Env.mark, mkAll_len] at hi ⊢; exact mkAll_get _ _ hi)) (by first | assumption | omega | (have q0 := szDecl_len hv hf ha (by omega) c0; omega) | (have q0 := szDecl_len hv hf ha (by omega) c0; have q1 := szEnv_len (by omega) c1; omega) | (have q0 := szDecl_len hv hf ha (by omega) c0; have q1 := szEnv_len (by omega) c1; first | omega | (have q9 := setIn_len (d := d) (e := e) (v := v) (a := a) (n := 1048576) (by omega); first | omega | (simp only [Decl.marks, Env.marks, Env.mark, mkAll_len]; omega))) | (intro i hi; exact mkAll_get (mIv 1) _ (by simpa only [Env.mark, mkAll_len] using hi)) | (intro i hi; simp only [Env.mark, mkAll_len] at hi ⊢; exact mkAll_get _ _ hi)) (by first | assumption | omega | (have q0 := szDecl_len hv hf ha (by omega) c0; omega) | (have q0 := szDecl_len hv hf ha (by omega) c0; have q1 := szEnv_len (by omega) c1; omega) | (have q0 := szDecl_len hv hf ha (by omega) c0; have q1 := szEnv_len (by omega) c1; first | omega | (have q9 := setIn_len (d := d) (e := e) (v := v) (a := a) (n := 1048576) (by omega); first | omega | (simp only [Decl.marks, Env.marks, Env.mark, mkAll_len]; omega))) | (intro i hi; exact mkAll_get (mIv 1) _ (by simpa only [Env.mark, mkAll_len] using hi)) | (intro i hi; simp only [Env.mark, mkAll_len] at hi ⊢; exact mkAll_get _ _ hi))) rfl rfl rfl rfl rfl (.cons (Reads.d _).gives (.cons (Reads.d _).gives (.cons (Reads.d _).gives (.cons (Reads.d _).gives .nil)))) rfl rfl (fun h => absurd rfl h) (.own [20, 0] .nil) (.nil) rfl rfl rfl (by simp) rfl rfl rfl ?_
    refine .assign (.no rfl) rfl rfl rfl rfl ?_
    exact .fin () (.of (.cons rfl (.cons rfl (.cons rfl (.cons rfl (.cons rfl .nil))))) (.cons rfl (.cons rfl (.cons rfl .nil))))
  intro _
  refine .seq ?_
  refine .seq ?_
  refine .reg (X := Unit) (fun ζ => .of [(2, .one (.d (.v (.int .i64 (v))))), (4, .one (.ptr [4] (g7) 0)), (5, .one (.ptr [5] (g8) 0)), (7, .one (.ptr [7] (g9) 0)), (9, .one (.d (.v (.int .i64 (szDecl d 1048576))))), (22, .one (.d (.v (.bool (decide ((szDecl d 1048576) < 0))))))] [([4], (g7, g7, .box [.d (.sl false 9 1 (List.map strc (d.vars))), .d (.sl false 9 1 (List.map strc (d.flags))), .d (.sl false 117 2 (List.map Arr.c (d.arrays)))])), ([5], (g8, g8, .box [.d (.v (.bool (e.live))), .d (.sl false 56 2 (List.map Iv.c (e.ints))), .d (.sl false 56 2 (List.map Iv.c (e.arrs)))])), ([7], (g9, g9, .box [.d (.v (.int .i64 (a.lo))), .d (.v (.int .i64 (a.hi)))]))]) [⟨[9], some 21, [], []⟩, ⟨[21], some 22, [], []⟩] (fun k12 => ?_) ?_
  · skip
    refine .move (.no rfl) rfl rfl rfl rfl ?_
    refine .bin (.no rfl) rfl rfl rfl rfl rfl rfl ?_
    exact .fin () (.of (.cons rfl (.cons rfl (.cons rfl (.cons rfl (.cons rfl (.cons rfl .nil)))))) (.cons rfl (.cons rfl (.cons rfl .nil))))
  intro _
  refine .cond (t := decide ((szDecl d 1048576) < 0)) rfl (fun c0 => ?_) (fun c0 => ?_)
  · have c0 := of_decide_eq_true c0
    refine .seq ?_
    refine .reg (X := Unit) (fun ζ => .of [(8, .one (.d (.v (.bool (true)))))] []) [⟨[], some 8, [], []⟩] (fun k13 => ?_) ?_
    · skip
      refine .assign (.no rfl) rfl rfl rfl rfl ?_
      exact .fin () (.of (.cons rfl .nil) .nil)
    intro _
    refine .ret ?_
    show _ ∧ _
    exact ⟨.inr rfl, .done ⟨_, [], [], _, .one rfl .nil, .cons (Reads.d _).gives .nil, nodupB_ok rfl, by simp, (by simp)⟩⟩
  · have c0 := of_decide_eq_false c0
    refine .skip ?_
    refine .seq ?_
    refine .reg (X := Unit) (fun ζ => .of [(2, .one (.d (.v (.int .i64 (v))))), (4, .one (.ptr [4] (g7) 0)), (5, .one (.ptr [5] (g8) 0)), (7, .one (.ptr [7] (g9) 0)), (9, .one (.d (.v (.int .i64 (szEnv e (szDecl d 1048576))))))] [([4], (g7, g7, .box [.d (.sl false 9 1 (List.map strc (d.vars))), .d (.sl false 9 1 (List.map strc (d.flags))), .d (.sl false 117 2 (List.map Arr.c (d.arrays)))])), ([5], (g8, g8, .box [.d (.v (.bool (e.live))), .d (.sl false 56 2 (List.map Iv.c (e.ints))), .d (.sl false 56 2 (List.map Iv.c (e.arrs)))])), ([7], (g9, g9, .box [.d (.v (.int .i64 (a.lo))), .d (.v (.int .i64 (a.hi)))]))]) [⟨[5], some 23, [[5]], []⟩, ⟨[9], some 24, [], []⟩, ⟨[23, 24], some 25, [], []⟩, ⟨[25], some 9, [], []⟩] (fun k14 => ?_) ?_
    · skip
      refine .load (.no rfl) rfl t54 rfl rfl (.ptr _ _ _ _ _ rfl) rfl rfl rfl rfl ?_
      refine .move (.no rfl) rfl rfl rfl rfl ?_
      refine .call (.no rfl) rfl [] [] (c_szEnv e (szDecl d 1048576) (by first | assumption | omega | (have q0 := szDecl_len hv hf ha (by omega) c0; omega) | (have q0 := szDecl_len hv hf ha (by omega) c0; have q1 := szEnv_len (by omega) c1; omega) | (have q0 := szDecl_len hv hf ha (by omega) c0; have q1 := szEnv_len (by omega) c1; first | omega | (have q9 := setIn_len (d := d) (e := e) (v := v) (a := a) (n := 1048576) (by omega); first | omega | (simp only [Decl.marks, Env.marks, Env.mark, mkAll_len]; omega))) | (intro i hi; exact mkAll_get (mIv 1) _ (by simpa only [Env.mark, mkAll_len] using hi)) | (intro i hi; simp only [Env.mark, mkAll_len] at hi ⊢; exact mkAll_get _ _ hi))) rfl rfl rfl rfl rfl (.cons (Reads.d _).gives (.cons (Reads.d _).gives (.cons (Reads.d _).gives (.cons (Reads.d _).gives .nil)))) rfl rfl (fun h => absurd rfl h) (.own [25, 0] .nil) (.nil) rfl rfl rfl (by simp) rfl rfl rfl ?_
      refine .assign (.no rfl) rfl rfl rfl rfl ?_
      exact .fin () (.of (.cons rfl (.cons rfl (.cons rfl (.cons rfl (.cons rfl .nil))))) (.cons rfl (.cons rfl (.cons rfl .nil))))
    intro _
    refine .seq ?_
    refine .seq ?_
    refine .reg (X := Unit) (fun ζ => .of [(2, .one (.d (.v (.int .i64 (v))))), (4, .one (.ptr [4] (g7) 0)), (5, .one (.ptr [5] (g8) 0)), (7, .one (.ptr [7] (g9) 0)), (27, .one (.d (.v (.bool (decide ((szEnv e (szDecl d 1048576)) < 0))))))] [([4], (g7, g7, .box [.d (.sl false 9 1 (List.map strc (d.vars))), .d (.sl false 9 1 (List.map strc (d.flags))), .d (.sl false 117 2 (List.map Arr.c (d.arrays)))])), ([5], (g8, g8, .box [.d (.v (.bool (e.live))), .d (.sl false 56 2 (List.map Iv.c (e.ints))), .d (.sl false 56 2 (List.map Iv.c (e.arrs)))])), ([7], (g9, g9, .box [.d (.v (.int .i64 (a.lo))), .d (.v (.int .i64 (a.hi)))]))]) [⟨[9], some 26, [], []⟩, ⟨[26], some 27, [], []⟩] (fun k15 => ?_) ?_
    · skip
      refine .move (.no rfl) rfl rfl rfl rfl ?_
      refine .bin (.no rfl) rfl rfl rfl rfl rfl rfl ?_
      exact .fin () (.of (.cons rfl (.cons rfl (.cons rfl (.cons rfl (.cons rfl .nil))))) (.cons rfl (.cons rfl (.cons rfl .nil))))
    intro _
    refine .cond (t := decide ((szEnv e (szDecl d 1048576)) < 0)) rfl (fun c1 => ?_) (fun c1 => ?_)
    · have c1 := of_decide_eq_true c1
      refine .seq ?_
      refine .reg (X := Unit) (fun ζ => .of [(8, .one (.d (.v (.bool (true)))))] []) [⟨[], some 8, [], []⟩] (fun k16 => ?_) ?_
      · skip
        refine .assign (.no rfl) rfl rfl rfl rfl ?_
        exact .fin () (.of (.cons rfl .nil) .nil)
      intro _
      refine .ret ?_
      show _ ∧ _
      exact ⟨.inr rfl, .done ⟨_, [], [], _, .one rfl .nil, .cons (Reads.d _).gives .nil, nodupB_ok rfl, by simp, (by simp)⟩⟩
    · have c1 := of_decide_eq_false c1
      refine .skip ?_
      refine .seq ?_
      refine .regD (X := Nat × Nat) (by kernel_rfl) (fun ζ => .of [(2, .one (.d (.v (.int .i64 (v))))), (4, .one (.ptr [4] (g7) 0)), (5, .one (.ptr [5] (g8) 0)), (7, .one (.ptr [7] (g9) 0)), (10, .one (.ptr [10] (ζ.1) 0))] [([4], (g7, g7, .box [.d (.sl false 9 1 (List.map strc (d.vars))), .d (.sl false 9 1 (List.map strc (d.flags))), .d (.sl false 117 2 (List.map Arr.c (d.arrays)))])), ([5], (g8, g8, .box [.d (.v (.bool (e.live))), .d (.sl false 56 2 (List.map Iv.c (e.ints))), .d (.sl false 56 2 (List.map Iv.c (e.arrs)))])), ([7], (g9, g9, .box [.d (.v (.int .i64 (a.lo))), .d (.v (.int .i64 (a.hi)))])), ([10], (ζ.1, ζ.2, .box [.d (.v (.bool ((Env.setIn d e v a).live))), .d (.sl false 60 2 (List.map Iv.c ((Env.setIn d e v a).ints))), .d (.sl false 60 2 (List.map Iv.c ((Env.setIn d e v a).arrs)))]))]) [⟨[4], some 28, [[4]], []⟩, ⟨[28], some 29, [], [[29, 0], [29, 1], [29, 2]]⟩, ⟨[5], some 30, [[5]], []⟩, ⟨[30], some 31, [], [[31, 1], [31, 2]]⟩, ⟨[2], some 32, [], []⟩, ⟨[7], some 33, [[7]], []⟩, ⟨[33], some 34, [], []⟩, ⟨[29, 31, 32, 34], some 35, [[29, 0], [29, 1], [29, 2], [31, 1], [31, 2]], []⟩, ⟨[], some 10, [], [[10]]⟩, ⟨[10, 35], none, [[10]], [[10]]⟩] (by kernel_rfl) (fun k17 => ?_) ?_
      · skip
        refine .load (.no rfl) rfl t41 rfl rfl (.ptr _ _ _ _ _ rfl) rfl rfl rfl rfl ?_
        refine .call (.no rfl) rfl [] [] (c_toDecl d (by first | assumption | omega | (have q0 := szDecl_len hv hf ha (by omega) c0; omega) | (have q0 := szDecl_len hv hf ha (by omega) c0; have q1 := szEnv_len (by omega) c1; omega) | (have q0 := szDecl_len hv hf ha (by omega) c0; have q1 := szEnv_len (by omega) c1; first | omega | (have q9 := setIn_len (d := d) (e := e) (v := v) (a := a) (n := 1048576) (by omega); first | omega | (simp only [Decl.marks, Env.marks, Env.mark, mkAll_len]; omega))) | (intro i hi; exact mkAll_get (mIv 1) _ (by simpa only [Env.mark, mkAll_len] using hi)) | (intro i hi; simp only [Env.mark, mkAll_len] at hi ⊢; exact mkAll_get _ _ hi))) rfl rfl rfl rfl rfl (.cons (Reads.d _).gives (.cons (Reads.d _).gives (.cons (Reads.d _).gives .nil))) rfl rfl (fun h => absurd rfl h) (.own [29, 0] (.own [29, 1] (.own [29, 2] .nil))) (.nil) rfl rfl rfl (by simp) rfl rfl rfl ?_
        refine .load (.no rfl) rfl t54 rfl rfl (.ptr _ _ _ _ _ rfl) rfl rfl rfl rfl ?_
        refine .call (.no rfl) rfl [] [] (c_toEnv e (by first | assumption | omega | (have q0 := szDecl_len hv hf ha (by omega) c0; omega) | (have q0 := szDecl_len hv hf ha (by omega) c0; have q1 := szEnv_len (by omega) c1; omega) | (have q0 := szDecl_len hv hf ha (by omega) c0; have q1 := szEnv_len (by omega) c1; first | omega | (have q9 := setIn_len (d := d) (e := e) (v := v) (a := a) (n := 1048576) (by omega); first | omega | (simp only [Decl.marks, Env.marks, Env.mark, mkAll_len]; omega))) | (intro i hi; exact mkAll_get (mIv 1) _ (by simpa only [Env.mark, mkAll_len] using hi)) | (intro i hi; simp only [Env.mark, mkAll_len] at hi ⊢; exact mkAll_get _ _ hi))) rfl rfl rfl rfl rfl (.cons (Reads.d _).gives (.cons (Reads.d _).gives (.cons (Reads.d _).gives .nil))) rfl rfl (fun h => absurd rfl h) (.own [31, 0] (.own [31, 1] (.own [31, 2] .nil))) (.nil) rfl rfl rfl (by simp) rfl rfl rfl ?_
        refine .move (.no rfl) rfl rfl rfl rfl ?_
        refine .load (.no rfl) rfl t56 rfl rfl (.ptr _ _ _ _ _ rfl) rfl rfl rfl rfl ?_
        refine .call (.no rfl) rfl [] [] (c_toInterval a) rfl rfl rfl rfl rfl (.cons (Reads.d _).gives (.cons (Reads.d _).gives .nil)) rfl rfl (fun h => absurd rfl h) (.own [34, 0] (.own [34, 1] .nil)) (.nil) rfl rfl rfl (by simp) rfl rfl rfl ?_
        refine .call (.no rfl) rfl [[29, 0], [29, 1], [29, 2], [31, 1], [31, 2]] [([29, 0], (k17 + 1, k17 + 1, .row 9 1 (List.map strc (d.vars)))), ([29, 1], (k17 + 1, k17 + 1, .row 9 1 (List.map strc (d.flags)))), ([29, 2], (k17 + 1, k17 + 1, .row 101 2 (List.map Arr.c (d.arrays)))), ([31, 1], (k17 + 1 + 1 + 1, k17 + 1 + 1 + 1, .row 60 2 (List.map Iv.c (e.ints)))), ([31, 2], (k17 + 1 + 1 + 1, k17 + 1 + 1 + 1, .row 60 2 (List.map Iv.c (e.arrs))))] (c_sEnvSet d e v a (by first | assumption | omega | (have q0 := szDecl_len hv hf ha (by omega) c0; omega) | (have q0 := szDecl_len hv hf ha (by omega) c0; have q1 := szEnv_len (by omega) c1; omega) | (have q0 := szDecl_len hv hf ha (by omega) c0; have q1 := szEnv_len (by omega) c1; first | omega | (have q9 := setIn_len (d := d) (e := e) (v := v) (a := a) (n := 1048576) (by omega); first | omega | (simp only [Decl.marks, Env.marks, Env.mark, mkAll_len]; omega))) | (intro i hi; exact mkAll_get (mIv 1) _ (by simpa only [Env.mark, mkAll_len] using hi)) | (intro i hi; simp only [Env.mark, mkAll_len] at hi ⊢; exact mkAll_get _ _ hi)) (by first | assumption | omega | (have q0 := szDecl_len hv hf ha (by omega) c0; omega) | (have q0 := szDecl_len hv hf ha (by omega) c0; have q1 := szEnv_len (by omega) c1; omega) | (have q0 := szDecl_len hv hf ha (by omega) c0; have q1 := szEnv_len (by omega) c1; first | omega | (have q9 := setIn_len (d := d) (e := e) (v := v) (a := a) (n := 1048576) (by omega); first | omega | (simp only [Decl.marks, Env.marks, Env.mark, mkAll_len]; omega))) | (intro i hi; exact mkAll_get (mIv 1) _ (by simpa only [Env.mark, mkAll_len] using hi)) | (intro i hi; simp only [Env.mark, mkAll_len] at hi ⊢; exact mkAll_get _ _ hi)) (by first | assumption | omega | (have q0 := szDecl_len hv hf ha (by omega) c0; omega) | (have q0 := szDecl_len hv hf ha (by omega) c0; have q1 := szEnv_len (by omega) c1; omega) | (have q0 := szDecl_len hv hf ha (by omega) c0; have q1 := szEnv_len (by omega) c1; first | omega | (have q9 := setIn_len (d := d) (e := e) (v := v) (a := a) (n := 1048576) (by omega); first | omega | (simp only [Decl.marks, Env.marks, Env.mark, mkAll_len]; omega))) | (intro i hi; exact mkAll_get (mIv 1) _ (by simpa only [Env.mark, mkAll_len] using hi)) | (intro i hi; simp only [Env.mark, mkAll_len] at hi ⊢; exact mkAll_get _ _ hi))) rfl rfl rfl rfl rfl (.cons (Reads.ref (Frz.of_erase (erase_sl _ _ _ _ _ strc_e)) (.head _) (.head _)).gives (.cons (Reads.ref (Frz.of_erase (erase_sl _ _ _ _ _ strc_e)) (.tail _ (.head _)) (.tail _ (.head _))).gives (.cons (Reads.ref (Frz.of_erase (erase_sl _ _ _ _ _ Arr.c_e)) (.tail _ (.tail _ (.head _))) (.tail _ (.tail _ (.head _)))).gives (.cons (Reads.d _).gives (.cons (Reads.ref (Frz.of_erase (erase_sl _ _ _ _ _ Iv.c_e)) (.tail _ (.tail _ (.tail _ (.head _)))) (.tail _ (.tail _ (.tail _ (.head _))))).gives (.cons (Reads.ref (Frz.of_erase (erase_sl _ _ _ _ _ Iv.c_e)) (.tail _ (.tail _ (.tail _ (.tail _ (.head _))))) (.tail _ (.tail _ (.tail _ (.tail _ (.head _)))))).gives (.cons (Reads.d _).gives (.cons (Reads.d _).gives (.cons (Reads.d _).gives .nil))))))))) rfl rfl (fun _ => (ownCons (Owned.v _) (ownCons (Owned.map _ _ _ _ Iv.c_o) (ownCons (Owned.map _ _ _ _ Iv.c_o) ownNil)))) (.own [35, 0] (.frz [35, 1] (Frz.of_erase (erase_sl _ _ _ _ _ Iv.c_e)) (.frz [35, 2] (Frz.of_erase (erase_sl _ _ _ _ _ Iv.c_e)) .nil))) (.nil) rfl rfl rfl (AllH.get (.cons rfl (.cons rfl (.cons rfl (.cons rfl (.cons rfl .nil)))))) rfl rfl rfl ?_
        refine .alloc (.no rfl) rfl z30 rfl rfl rfl ?_
        refine .store (.no rfl) rfl t30 rfl rfl rfl rfl rfl rfl rfl rfl rfl ?_
        exact .fin (k17 + 1 + 1 + 1 + 1 + 1 + 1 + 1 + 1, k17 + 1 + 1 + 1 + 1 + 1 + 1 + 1 + 1 + 1) (.of (.cons rfl (.cons rfl (.cons rfl (.cons rfl (.cons rfl .nil))))) (.cons rfl (.cons rfl (.cons rfl (.cons rfl .nil)))))
      rintro ⟨g18, g19⟩
      refine .seq ?_
      refine .reg (X := Nat × Nat × Nat) (fun ζ => .of [(2, .one (.d (.v (.int .i64 (v))))), (4, .one (.ptr [4] (g7) 0)), (5, .one (.ptr [5] (g8) 0)), (7, .one (.ptr [7] (g9) 0)), (10, .one (.ptr [10] (g18) 0)), (11, .one (.ptr [11] (ζ.1) 0))] [([4], (g7, g7, .box [.d (.sl false 9 1 (List.map strc (d.vars))), .d (.sl false 9 1 (List.map strc (d.flags))), .d (.sl false 117 2 (List.map Arr.c (d.arrays)))])), ([5], (g8, g8, .box [.d (.v (.bool (e.live))), .d (.sl false 56 2 (List.map Iv.c (e.ints))), .d (.sl false 56 2 (List.map Iv.c (e.arrs)))])), ([7], (g9, g9, .box [.d (.v (.int .i64 (a.lo))), .d (.v (.int .i64 (a.hi)))])), ([10], (g18, g19, .box [.d (.v (.bool ((Env.setIn d e v a).live))), .d (.sl false 60 2 (List.map Iv.c ((Env.setIn d e v a).ints))), .d (.sl false 60 2 (List.map Iv.c ((Env.setIn d e v a).arrs)))])), ([11], (ζ.1, ζ.2.1, .box [.ref [37, 0] (ζ.2.2), .ref [37, 1] (ζ.2.2), .ref [37, 2] (ζ.2.2)])), ([37, 0], (ζ.2.2, ζ.2.2, .row 9 1 (List.map strc (d.vars)))), ([37, 1], (ζ.2.2, ζ.2.2, .row 9 1 (List.map strc (d.flags)))), ([37, 2], (ζ.2.2, ζ.2.2, .row 101 2 (List.map Arr.c (d.arrays))))]) [⟨[4], some 36, [[4]], []⟩, ⟨[36], some 37, [], [[37, 0], [37, 1], [37, 2]]⟩, ⟨[], some 11, [], [[11]]⟩, ⟨[11, 37], none, [[11]], [[11]]⟩] (fun k20 => ?_) ?_
      · skip
        refine .load (.no rfl) rfl t41 rfl rfl (.ptr _ _ _ _ _ rfl) rfl rfl rfl rfl ?_
        refine .call (.no rfl) rfl [] [] (c_toDecl d (by first | assumption | omega | (have q0 := szDecl_len hv hf ha (by omega) c0; omega) | (have q0 := szDecl_len hv hf ha (by omega) c0; have q1 := szEnv_len (by omega) c1; omega) | (have q0 := szDecl_len hv hf ha (by omega) c0; have q1 := szEnv_len (by omega) c1; first | omega | (have q9 := setIn_len (d := d) (e := e) (v := v) (a := a) (n := 1048576) (by omega); first | omega | (simp only [Decl.marks, Env.marks, Env.mark, mkAll_len]; omega))) | (intro i hi; exact mkAll_get (mIv 1) _ (by simpa only [Env.mark, mkAll_len] using hi)) | (intro i hi; simp only [Env.mark, mkAll_len] at hi ⊢; exact mkAll_get _ _ hi))) rfl rfl rfl rfl rfl (.cons (Reads.d _).gives (.cons (Reads.d _).gives (.cons (Reads.d _).gives .nil))) rfl rfl (fun h => absurd rfl h) (.own [37, 0] (.own [37, 1] (.own [37, 2] .nil))) (.nil) rfl rfl rfl (by simp) rfl rfl rfl ?_
        refine .alloc (.no rfl) rfl z27 rfl rfl rfl ?_
        refine .store (.no rfl) rfl t27 rfl rfl rfl rfl rfl rfl rfl rfl rfl ?_
        exact .fin (k20 + 1 + 1, k20 + 1 + 1 + 1, k20 + 1) (.of (.cons rfl (.cons rfl (.cons rfl (.cons rfl (.cons rfl (.cons rfl .nil)))))) (.cons rfl (.cons rfl (.cons rfl (.cons rfl (.cons rfl (.cons rfl (.cons rfl (.cons rfl .nil)))))))))
      rintro ⟨g21, g22, g23⟩
      refine .seq ?_
      refine .reg (X := Nat × Nat × Nat) (fun ζ => .of [(2, .one (.d (.v (.int .i64 (v))))), (4, .one (.ptr [4] (g7) 0)), (5, .one (.ptr [5] (g8) 0)), (7, .one (.ptr [7] (g9) 0)), (10, .one (.ptr [10] (g18) 0)), (11, .one (.ptr [11] (g21) 0)), (12, .one (.ptr [12] (ζ.1) 0))] [([4], (g7, g7, .box [.d (.sl false 9 1 (List.map strc (d.vars))), .d (.sl false 9 1 (List.map strc (d.flags))), .d (.sl false 117 2 (List.map Arr.c (d.arrays)))])), ([5], (g8, g8, .box [.d (.v (.bool (e.live))), .d (.sl false 56 2 (List.map Iv.c (e.ints))), .d (.sl false 56 2 (List.map Iv.c (e.arrs)))])), ([7], (g9, g9, .box [.d (.v (.int .i64 (a.lo))), .d (.v (.int .i64 (a.hi)))])), ([10], (g18, g19, .box [.d (.v (.bool ((Env.setIn d e v a).live))), .d (.sl false 60 2 (List.map Iv.c ((Env.setIn d e v a).ints))), .d (.sl false 60 2 (List.map Iv.c ((Env.setIn d e v a).arrs)))])), ([11], (g21, g22, .box [.ref [37, 0] (g23), .ref [37, 1] (g23), .ref [37, 2] (g23)])), ([12], (ζ.1, ζ.2.1, .box [.d (.v (.bool (e.live))), .ref [39, 1] (ζ.2.2), .ref [39, 2] (ζ.2.2)])), ([37, 0], (g23, g23, .row 9 1 (List.map strc (d.vars)))), ([37, 1], (g23, g23, .row 9 1 (List.map strc (d.flags)))), ([37, 2], (g23, g23, .row 101 2 (List.map Arr.c (d.arrays)))), ([39, 1], (ζ.2.2, ζ.2.2, .row 60 2 (List.map Iv.c (e.ints)))), ([39, 2], (ζ.2.2, ζ.2.2, .row 60 2 (List.map Iv.c (e.arrs))))]) [⟨[5], some 38, [[5]], []⟩, ⟨[38], some 39, [], [[39, 1], [39, 2]]⟩, ⟨[], some 12, [], [[12]]⟩, ⟨[12, 39], none, [[12]], [[12]]⟩] (fun k24 => ?_) ?_
      · skip
        refine .load (.no rfl) rfl t54 rfl rfl (.ptr _ _ _ _ _ rfl) rfl rfl rfl rfl ?_
        refine .call (.no rfl) rfl [] [] (c_toEnv e (by first | assumption | omega | (have q0 := szDecl_len hv hf ha (by omega) c0; omega) | (have q0 := szDecl_len hv hf ha (by omega) c0; have q1 := szEnv_len (by omega) c1; omega) | (have q0 := szDecl_len hv hf ha (by omega) c0; have q1 := szEnv_len (by omega) c1; first | omega | (have q9 := setIn_len (d := d) (e := e) (v := v) (a := a) (n := 1048576) (by omega); first | omega | (simp only [Decl.marks, Env.marks, Env.mark, mkAll_len]; omega))) | (intro i hi; exact mkAll_get (mIv 1) _ (by simpa only [Env.mark, mkAll_len] using hi)) | (intro i hi; simp only [Env.mark, mkAll_len] at hi ⊢; exact mkAll_get _ _ hi))) rfl rfl rfl rfl rfl (.cons (Reads.d _).gives (.cons (Reads.d _).gives (.cons (Reads.d _).gives .nil))) rfl rfl (fun h => absurd rfl h) (.own [39, 0] (.own [39, 1] (.own [39, 2] .nil))) (.nil) rfl rfl rfl (by simp) rfl rfl rfl ?_
        refine .alloc (.no rfl) rfl z30 rfl rfl rfl ?_
        refine .store (.no rfl) rfl t30 rfl rfl rfl rfl rfl rfl rfl rfl rfl ?_
        exact .fin (k24 + 1 + 1, k24 + 1 + 1 + 1, k24 + 1) (.of (.cons rfl (.cons rfl (.cons rfl (.cons rfl (.cons rfl (.cons rfl (.cons rfl .nil))))))) (.cons rfl (.cons rfl (.cons rfl (.cons rfl (.cons rfl (.cons rfl (.cons rfl (.cons rfl (.cons rfl (.cons rfl (.cons rfl .nil))))))))))))
      rintro ⟨g25, g26, g27⟩
      refine .seq ?_
      refine .regD (X := Nat × Nat × Nat) (by kernel_rfl) (fun ζ => .of [(2, .one (.d (.v (.int .i64 (v))))), (4, .one (.ptr [4] (g7) 0)), (5, .one (.ptr [5] (g8) 0)), (7, .one (.ptr [7] (g9) 0)), (10, .one (.ptr [10] (g18) 0)), (11, .one (.ptr [11] (g21) 0)), (12, .one (.ptr [12] (g25) 0)), (13, .one (.ptr [13] (ζ.1) 0))] [([4], (g7, g7, .box [.d (.sl false 9 1 (List.map strc (d.vars))), .d (.sl false 9 1 (List.map strc (d.flags))), .d (.sl false 117 2 (List.map Arr.c (d.arrays)))])), ([5], (g8, g8, .box [.d (.v (.bool (e.live))), .d (.sl false 56 2 (List.map Iv.c (e.ints))), .d (.sl false 56 2 (List.map Iv.c (e.arrs)))])), ([7], (g9, g9, .box [.d (.v (.int .i64 (a.lo))), .d (.v (.int .i64 (a.hi)))])), ([10], (g18, g19, .box [.d (.v (.bool ((Env.setIn d e v a).live))), .d (.sl false 60 2 (List.map Iv.c ((Env.setIn d e v a).ints))), .d (.sl false 60 2 (List.map Iv.c ((Env.setIn d e v a).arrs)))])), ([11], (g21, g22, .box [.ref [37, 0] (g23), .ref [37, 1] (g23), .ref [37, 2] (g23)])), ([12], (g25, g26, .box [.d (.v (.bool (e.live))), .ref [39, 1] (g27), .ref [39, 2] (g27)])), ([13], (ζ.1, ζ.2.1, .box [.d (.v (.bool ((Env.setIn d e v a).live))), .ref [45, 1] (ζ.2.2), .ref [45, 2] (ζ.2.2)])), ([37, 0], (g23, g23, .row 9 1 (List.map strc (d.vars)))), ([37, 1], (g23, g23, .row 9 1 (List.map strc (d.flags)))), ([37, 2], (g23, g23, .row 101 2 (List.map Arr.c (d.arrays)))), ([39, 1], (g27, g27, .row 60 2 (List.map Iv.c (e.ints)))), ([39, 2], (g27, g27, .row 60 2 (List.map Iv.c (e.arrs)))), ([45, 1], (ζ.2.2, ζ.2.2, .row 60 2 (List.map Iv.c ((Env.setIn d e v a).ints)))), ([45, 2], (ζ.2.2, ζ.2.2, .row 60 2 (List.map Iv.c ((Env.setIn d e v a).arrs))))]) [⟨[11], some 40, [[11]], []⟩, ⟨[12], some 41, [[12]], []⟩, ⟨[2], some 42, [], []⟩, ⟨[7], some 43, [[7]], []⟩, ⟨[43], some 44, [], []⟩, ⟨[40, 41, 42, 44], some 45, [[37, 0], [37, 1], [37, 2], [39, 1], [39, 2]], [[45, 1], [45, 2]]⟩, ⟨[], some 13, [], [[13]]⟩, ⟨[13, 45], none, [[13]], [[13]]⟩] (by kernel_rfl) (fun k28 => ?_) ?_
      · skip
        refine .load (.no rfl) rfl t27 rfl rfl (.ptr _ _ _ _ _ rfl) rfl rfl rfl rfl ?_
        refine .load (.no rfl) rfl t30 rfl rfl (.ptr _ _ _ _ _ rfl) rfl rfl rfl rfl ?_
        refine .move (.no rfl) rfl rfl rfl rfl ?_
        refine .load (.no rfl) rfl t56 rfl rfl (.ptr _ _ _ _ _ rfl) rfl rfl rfl rfl ?_
        refine .call (.no rfl) rfl [] [] (c_toInterval a) rfl rfl rfl rfl rfl (.cons (Reads.d _).gives (.cons (Reads.d _).gives .nil)) rfl rfl (fun h => absurd rfl h) (.own [44, 0] (.own [44, 1] .nil)) (.nil) rfl rfl rfl (by simp) rfl rfl rfl ?_
        refine .call (.no rfl) rfl [[37, 0], [37, 1], [37, 2], [39, 1], [39, 2]] [([37, 0], (g23, g23, .row 9 1 (List.map strc (d.vars)))), ([37, 1], (g23, g23, .row 9 1 (List.map strc (d.flags)))), ([37, 2], (g23, g23, .row 101 2 (List.map Arr.c (d.arrays)))), ([39, 1], (g27, g27, .row 60 2 (List.map Iv.c (e.ints)))), ([39, 2], (g27, g27, .row 60 2 (List.map Iv.c (e.arrs))))] (c_EnvSet d e v a (by first | assumption | omega | (have q0 := szDecl_len hv hf ha (by omega) c0; omega) | (have q0 := szDecl_len hv hf ha (by omega) c0; have q1 := szEnv_len (by omega) c1; omega) | (have q0 := szDecl_len hv hf ha (by omega) c0; have q1 := szEnv_len (by omega) c1; first | omega | (have q9 := setIn_len (d := d) (e := e) (v := v) (a := a) (n := 1048576) (by omega); first | omega | (simp only [Decl.marks, Env.marks, Env.mark, mkAll_len]; omega))) | (intro i hi; exact mkAll_get (mIv 1) _ (by simpa only [Env.mark, mkAll_len] using hi)) | (intro i hi; simp only [Env.mark, mkAll_len] at hi ⊢; exact mkAll_get _ _ hi)) (by first | assumption | omega | (have q0 := szDecl_len hv hf ha (by omega) c0; omega) | (have q0 := szDecl_len hv hf ha (by omega) c0; have q1 := szEnv_len (by omega) c1; omega) | (have q0 := szDecl_len hv hf ha (by omega) c0; have q1 := szEnv_len (by omega) c1; first | omega | (have q9 := setIn_len (d := d) (e := e) (v := v) (a := a) (n := 1048576) (by omega); first | omega | (simp only [Decl.marks, Env.marks, Env.mark, mkAll_len]; omega))) | (intro i hi; exact mkAll_get (mIv 1) _ (by simpa only [Env.mark, mkAll_len] using hi)) | (intro i hi; simp only [Env.mark, mkAll_len] at hi ⊢; exact mkAll_get _ _ hi)) (by first | assumption | omega | (have q0 := szDecl_len hv hf ha (by omega) c0; omega) | (have q0 := szDecl_len hv hf ha (by omega) c0; have q1 := szEnv_len (by omega) c1; omega) | (have q0 := szDecl_len hv hf ha (by omega) c0; have q1 := szEnv_len (by omega) c1; first | omega | (have q9 := setIn_len (d := d) (e := e) (v := v) (a := a) (n := 1048576) (by omega); first | omega | (simp only [Decl.marks, Env.marks, Env.mark, mkAll_len]; omega))) | (intro i hi; exact mkAll_get (mIv 1) _ (by simpa only [Env.mark, mkAll_len] using hi)) | (intro i hi; simp only [Env.mark, mkAll_len] at hi ⊢; exact mkAll_get _ _ hi))) rfl rfl rfl rfl rfl (.cons (Reads.ref (Frz.of_erase (erase_sl _ _ _ _ _ strc_e)) (.head _) (.head _)).gives (.cons (Reads.ref (Frz.of_erase (erase_sl _ _ _ _ _ strc_e)) (.tail _ (.head _)) (.tail _ (.head _))).gives (.cons (Reads.ref (Frz.of_erase (erase_sl _ _ _ _ _ Arr.c_e)) (.tail _ (.tail _ (.head _))) (.tail _ (.tail _ (.head _)))).gives (.cons (Reads.d _).gives (.cons (Reads.ref (Frz.of_erase (erase_sl _ _ _ _ _ Iv.c_e)) (.tail _ (.tail _ (.tail _ (.head _)))) (.tail _ (.tail _ (.tail _ (.head _))))).gives (.cons (Reads.ref (Frz.of_erase (erase_sl _ _ _ _ _ Iv.c_e)) (.tail _ (.tail _ (.tail _ (.tail _ (.head _))))) (.tail _ (.tail _ (.tail _ (.tail _ (.head _)))))).gives (.cons (Reads.d _).gives (.cons (Reads.d _).gives (.cons (Reads.d _).gives .nil))))))))) rfl rfl (fun _ => (ownCons (Owned.v _) (ownCons (Owned.map _ _ _ _ Iv.c_o) (ownCons (Owned.map _ _ _ _ Iv.c_o) ownNil)))) (.own [45, 0] (.own [45, 1] (.own [45, 2] .nil))) (.nil) rfl rfl rfl (AllH.get (.cons rfl (.cons rfl (.cons rfl (.cons rfl (.cons rfl .nil)))))) rfl rfl rfl ?_
        refine .alloc (.no rfl) rfl z30 rfl rfl rfl ?_
        refine .store (.no rfl) rfl t30 rfl rfl rfl rfl rfl rfl rfl rfl rfl ?_
        exact .fin (k28 + 1 + 1 + 1 + 1 + 1 + 1, k28 + 1 + 1 + 1 + 1 + 1 + 1 + 1, k28 + 1 + 1 + 1 + 1 + 1) (.of (.cons rfl (.cons rfl (.cons rfl (.cons rfl (.cons rfl (.cons rfl (.cons rfl (.cons rfl .nil)))))))) (.cons rfl (.cons rfl (.cons rfl (.cons rfl (.cons rfl (.cons rfl (.cons rfl (.cons rfl (.cons rfl (.cons rfl (.cons rfl (.cons rfl (.cons rfl (.cons rfl .nil)))))))))))))))
      rintro ⟨g29, g30, g31⟩
      refine .seq ?_
      refine .seq ?_
      refine .reg (X := Unit) (fun ζ => .of [(2, .one (.d (.v (.int .i64 (v))))), (4, .one (.ptr [4] (g7) 0)), (5, .one (.ptr [5] (g8) 0)), (7, .one (.ptr [7] (g9) 0)), (10, .one (.ptr [10] (g18) 0)), (11, .one (.ptr [11] (g21) 0)), (12, .one (.ptr [12] (g25) 0)), (13, .one (.ptr [13] (g29) 0)), (49, .one (.d (.v (.bool (!(Env.same (Env.setIn d e v a) (Env.setIn d e v a)))))))] [([4], (g7, g7, .box [.d (.sl false 9 1 (List.map strc (d.vars))), .d (.sl false 9 1 (List.map strc (d.flags))), .d (.sl false 117 2 (List.map Arr.c (d.arrays)))])), ([5], (g8, g8, .box [.d (.v (.bool (e.live))), .d (.sl false 56 2 (List.map Iv.c (e.ints))), .d (.sl false 56 2 (List.map Iv.c (e.arrs)))])), ([7], (g9, g9, .box [.d (.v (.int .i64 (a.lo))), .d (.v (.int .i64 (a.hi)))])), ([10], (g18, g19, .box [.d (.v (.bool ((Env.setIn d e v a).live))), .d (.sl false 60 2 (List.map Iv.c ((Env.setIn d e v a).ints))), .d (.sl false 60 2 (List.map Iv.c ((Env.setIn d e v a).arrs)))])), ([11], (g21, g22, .box [.ref [37, 0] (g23), .ref [37, 1] (g23), .ref [37, 2] (g23)])), ([12], (g25, g26, .box [.d (.v (.bool (e.live))), .ref [39, 1] (g27), .ref [39, 2] (g27)])), ([13], (g29, g30, .box [.d (.v (.bool ((Env.setIn d e v a).live))), .ref [45, 1] (g31), .ref [45, 2] (g31)])), ([37, 0], (g23, g23, .row 9 1 (List.map strc (d.vars)))), ([37, 1], (g23, g23, .row 9 1 (List.map strc (d.flags)))), ([37, 2], (g23, g23, .row 101 2 (List.map Arr.c (d.arrays)))), ([39, 1], (g27, g27, .row 60 2 (List.map Iv.c (e.ints)))), ([39, 2], (g27, g27, .row 60 2 (List.map Iv.c (e.arrs)))), ([45, 1], (g31, g31, .row 60 2 (List.map Iv.c ((Env.setIn d e v a).ints)))), ([45, 2], (g31, g31, .row 60 2 (List.map Iv.c ((Env.setIn d e v a).arrs))))]) [⟨[13], some 46, [[13]], []⟩, ⟨[10], some 47, [[10]], []⟩, ⟨[46, 47], some 48, [[45, 1], [45, 2]], []⟩, ⟨[48], some 49, [], []⟩] (fun k32 => ?_) ?_
      · skip
        refine .load (.no rfl) rfl t30 rfl rfl (.ptr _ _ _ _ _ rfl) rfl rfl rfl rfl ?_
        refine .load (.no rfl) rfl t30 rfl rfl (.ptr _ _ _ _ _ rfl) rfl rfl rfl rfl ?_
        refine .call (.no rfl) rfl [[45, 1], [45, 2]] [([45, 1], (g31, g31, .row 60 2 (List.map Iv.c ((Env.setIn d e v a).ints)))), ([45, 2], (g31, g31, .row 60 2 (List.map Iv.c ((Env.setIn d e v a).arrs))))] (c_eqEnv (Env.setIn d e v a) (Env.setIn d e v a)) rfl rfl rfl rfl rfl (.cons (Reads.d _).gives (.cons (Reads.ref (Frz.of_erase (erase_sl _ _ _ _ _ Iv.c_e)) (.head _) (.head _)).gives (.cons (Reads.ref (Frz.of_erase (erase_sl _ _ _ _ _ Iv.c_e)) (.tail _ (.head _)) (.tail _ (.head _))).gives (.cons (Reads.d _).gives (.cons (Reads.d _).gives (.cons (Reads.d _).gives .nil)))))) rfl rfl (fun _ => (ownCons (Owned.v _) ownNil)) (.own [48, 0] .nil) (.nil) rfl rfl rfl (AllH.get (.cons rfl (.cons rfl .nil))) rfl rfl rfl ?_
        refine .un (.no rfl) rfl rfl rfl rfl rfl ?_
        exact .fin () (.of (.cons rfl (.cons rfl (.cons rfl (.cons rfl (.cons rfl (.cons rfl (.cons rfl (.cons rfl (.cons rfl .nil))))))))) (.cons rfl (.cons rfl (.cons rfl (.cons rfl (.cons rfl (.cons rfl (.cons rfl (.cons rfl (.cons rfl (.cons rfl (.cons rfl (.cons rfl (.cons rfl (.cons rfl .nil)))))))))))))))
      intro _
      refine .cond (t := !(Env.same (Env.setIn d e v a) (Env.setIn d e v a))) rfl (fun c2 => ?_) (fun c2 => ?_)
      · have c2 := c2
        try simp only [Bool.or_eq_true, Bool.or_eq_false_iff, Bool.and_eq_true, Bool.and_eq_false_iff, decide_eq_true_eq, decide_eq_false_iff_not, Bool.not_eq_true', Bool.not_eq_false', bne_iff_ne, beq_iff_eq, bne_eq_false_iff_eq, beq_eq_false_iff_ne, ne_eq, Bool.not_eq_eq_eq_not, Bool.not_true, Bool.not_false] at c2
        refine .seq ?_
        refine .reg (X := Unit) (fun ζ => .of [(8, .one (.d (.v (.bool (false)))))] []) [⟨[], some 8, [], []⟩] (fun k33 => ?_) ?_
        · skip
          refine .assign (.no rfl) rfl rfl rfl rfl ?_
          exact .fin () (.of (.cons rfl .nil) .nil)
        intro _
        refine .ret ?_
        have e34 : (false) = (true) := by first | exact absurd c2 (by rw [Env.same_self]; decide) | exact absurd c2 (by rw [Decl.same_self]; decide) | (rcases c2 with h9 | h9 <;> first | exact absurd h9 (by rw [Env.same_self]; decide) | (simp only [Decl.marks, Env.marks] at h9; omega)) | (simp only [Env.marks] at c2; omega) | (simp [Env.marks, Env.mark, mkAll_len] at c2)
        have hc35 := eq1 (fun z1 => SV.one (.d (.v (.bool (z1))))) e34
        show _ ∧ _
        exact ⟨.inr rfl, .done ⟨_, [], [], _, .one (c := .d (.v (.bool (true)))) (hc35) .nil, .cons (Reads.d _).gives .nil, nodupB_ok rfl, by simp, (by simp)⟩⟩
      · have c2 := c2
        try simp only [Bool.or_eq_true, Bool.or_eq_false_iff, Bool.and_eq_true, Bool.and_eq_false_iff, decide_eq_true_eq, decide_eq_false_iff_not, Bool.not_eq_true', Bool.not_eq_false', bne_iff_ne, beq_iff_eq, bne_eq_false_iff_eq, beq_eq_false_iff_ne, ne_eq, Bool.not_eq_eq_eq_not, Bool.not_true, Bool.not_false] at c2
        refine .skip ?_
        refine .seq ?_
        refine .seq ?_
        refine .regD (X := Unit) (by kernel_rfl) (fun ζ => .of [(2, .one (.d (.v (.int .i64 (v))))), (4, .one (.ptr [4] (g7) 0)), (5, .one (.ptr [5] (g8) 0)), (7, .one (.ptr [7] (g9) 0)), (10, .one (.ptr [10] (g18) 0)), (11, .one (.ptr [11] (g21) 0)), (12, .one (.ptr [12] (g25) 0)), (13, .one (.ptr [13] (g29) 0)), (54, .one (.d (.v (.bool (!(Decl.same d d))))))] [([4], (g7, g7, .box [.d (.sl false 9 1 (List.map strc (d.vars))), .d (.sl false 9 1 (List.map strc (d.flags))), .d (.sl false 117 2 (List.map Arr.c (d.arrays)))])), ([5], (g8, g8, .box [.d (.v (.bool (e.live))), .d (.sl false 56 2 (List.map Iv.c (e.ints))), .d (.sl false 56 2 (List.map Iv.c (e.arrs)))])), ([7], (g9, g9, .box [.d (.v (.int .i64 (a.lo))), .d (.v (.int .i64 (a.hi)))])), ([10], (g18, g19, .box [.d (.v (.bool ((Env.setIn d e v a).live))), .d (.sl false 60 2 (List.map Iv.c ((Env.setIn d e v a).ints))), .d (.sl false 60 2 (List.map Iv.c ((Env.setIn d e v a).arrs)))])), ([11], (g21, g22, .box [.ref [37, 0] (g23), .ref [37, 1] (g23), .ref [37, 2] (g23)])), ([12], (g25, g26, .box [.d (.v (.bool (e.live))), .ref [39, 1] (g27), .ref [39, 2] (g27)])), ([13], (g29, g30, .box [.d (.v (.bool ((Env.setIn d e v a).live))), .ref [45, 1] (g31), .ref [45, 2] (g31)])), ([37, 0], (g23, g23, .row 9 1 (List.map strc (d.vars)))), ([37, 1], (g23, g23, .row 9 1 (List.map strc (d.flags)))), ([37, 2], (g23, g23, .row 101 2 (List.map Arr.c (d.arrays)))), ([39, 1], (g27, g27, .row 60 2 (List.map Iv.c (e.ints)))), ([39, 2], (g27, g27, .row 60 2 (List.map Iv.c (e.arrs)))), ([45, 1], (g31, g31, .row 60 2 (List.map Iv.c ((Env.setIn d e v a).ints)))), ([45, 2], (g31, g31, .row 60 2 (List.map Iv.c ((Env.setIn d e v a).arrs))))]) [⟨[11], some 50, [[11]], []⟩, ⟨[4], some 51, [[4]], []⟩, ⟨[51], some 52, [], [[52, 0], [52, 1], [52, 2]]⟩, ⟨[50, 52], some 53, [[37, 0], [37, 1], [37, 2], [52, 0], [52, 1], [52, 2]], []⟩, ⟨[53], some 54, [], []⟩] (by kernel_rfl) (fun k36 => ?_) ?_
        · skip
          refine .load (.no rfl) rfl t27 rfl rfl (.ptr _ _ _ _ _ rfl) rfl rfl rfl rfl ?_
          refine .load (.no rfl) rfl t41 rfl rfl (.ptr _ _ _ _ _ rfl) rfl rfl rfl rfl ?_
          refine .call (.no rfl) rfl [] [] (c_toDecl d (by first | assumption | omega | (have q0 := szDecl_len hv hf ha (by omega) c0; omega) | (have q0 := szDecl_len hv hf ha (by omega) c0; have q1 := szEnv_len (by omega) c1; omega) | (have q0 := szDecl_len hv hf ha (by omega) c0; have q1 := szEnv_len (by omega) c1; first | omega | (have q9 := setIn_len (d := d) (e := e) (v := v) (a := a) (n := 1048576) (by omega); first | omega | (simp only [Decl.marks, Env.marks, Env.mark, mkAll_len]; omega))) | (intro i hi; exact mkAll_get (mIv 1) _ (by simpa only [Env.mark, mkAll_len] using hi)) | (intro i hi; simp only [Env.mark, mkAll_len] at hi ⊢; exact mkAll_get _ _ hi))) rfl rfl rfl rfl rfl (.cons (Reads.d _).gives (.cons (Reads.d _).gives (.cons (Reads.d _).gives .nil))) rfl rfl (fun h => absurd rfl h) (.own [52, 0] (.own [52, 1] (.own [52, 2] .nil))) (.nil) rfl rfl rfl (by simp) rfl rfl rfl ?_
          refine .call (.no rfl) rfl [[37, 0], [37, 1], [37, 2], [52, 0], [52, 1], [52, 2]] [([37, 0], (g23, g23, .row 9 1 (List.map strc (d.vars)))), ([37, 1], (g23, g23, .row 9 1 (List.map strc (d.flags)))), ([37, 2], (g23, g23, .row 101 2 (List.map Arr.c (d.arrays)))), ([52, 0], (k36 + 1 + 1, k36 + 1 + 1, .row 9 1 (List.map strc (d.vars)))), ([52, 1], (k36 + 1 + 1, k36 + 1 + 1, .row 9 1 (List.map strc (d.flags)))), ([52, 2], (k36 + 1 + 1, k36 + 1 + 1, .row 101 2 (List.map Arr.c (d.arrays))))] (c_eqDecl d d) rfl rfl rfl rfl rfl (.cons (Reads.ref (Frz.of_erase (erase_sl _ _ _ _ _ strc_e)) (.head _) (.head _)).gives (.cons (Reads.ref (Frz.of_erase (erase_sl _ _ _ _ _ strc_e)) (.tail _ (.head _)) (.tail _ (.head _))).gives (.cons (Reads.ref (Frz.of_erase (erase_sl _ _ _ _ _ Arr.c_e)) (.tail _ (.tail _ (.head _))) (.tail _ (.tail _ (.head _)))).gives (.cons (Reads.ref (Frz.of_erase (erase_sl _ _ _ _ _ strc_e)) (.tail _ (.tail _ (.tail _ (.head _)))) (.tail _ (.tail _ (.tail _ (.head _))))).gives (.cons (Reads.ref (Frz.of_erase (erase_sl _ _ _ _ _ strc_e)) (.tail _ (.tail _ (.tail _ (.tail _ (.head _))))) (.tail _ (.tail _ (.tail _ (.tail _ (.head _)))))).gives (.cons (Reads.ref (Frz.of_erase (erase_sl _ _ _ _ _ Arr.c_e)) (.tail _ (.tail _ (.tail _ (.tail _ (.tail _ (.head _)))))) (.tail _ (.tail _ (.tail _ (.tail _ (.tail _ (.head _))))))).gives .nil)))))) rfl rfl (fun _ => (ownCons (Owned.v _) ownNil)) (.own [53, 0] .nil) (.nil) rfl rfl rfl (AllH.get (.cons rfl (.cons rfl (.cons rfl (.cons rfl (.cons rfl (.cons rfl .nil))))))) rfl rfl rfl ?_
          refine .un (.no rfl) rfl rfl rfl rfl rfl ?_
          exact .fin () (.of (.cons rfl (.cons rfl (.cons rfl (.cons rfl (.cons rfl (.cons rfl (.cons rfl (.cons rfl (.cons rfl .nil))))))))) (.cons rfl (.cons rfl (.cons rfl (.cons rfl (.cons rfl (.cons rfl (.cons rfl (.cons rfl (.cons rfl (.cons rfl (.cons rfl (.cons rfl (.cons rfl (.cons rfl .nil)))))))))))))))
        intro _
        refine .cond (t := !(Decl.same d d)) rfl (fun c3 => ?_) (fun c3 => ?_)
        · have c3 := c3
          try simp only [Bool.or_eq_true, Bool.or_eq_false_iff, Bool.and_eq_true, Bool.and_eq_false_iff, decide_eq_true_eq, decide_eq_false_iff_not, Bool.not_eq_true', Bool.not_eq_false', bne_iff_ne, beq_iff_eq, bne_eq_false_iff_eq, beq_eq_false_iff_ne, ne_eq, Bool.not_eq_eq_eq_not, Bool.not_true, Bool.not_false] at c3
          refine .seq ?_
          refine .reg (X := Unit) (fun ζ => .of [(8, .one (.d (.v (.bool (false)))))] []) [⟨[], some 8, [], []⟩] (fun k37 => ?_) ?_
          · skip
            refine .assign (.no rfl) rfl rfl rfl rfl ?_
            exact .fin () (.of (.cons rfl .nil) .nil)
          intro _
          refine .ret ?_
          have e38 : (false) = (true) := by first | exact absurd c3 (by rw [Env.same_self]; decide) | exact absurd c3 (by rw [Decl.same_self]; decide) | (rcases c3 with h9 | h9 <;> first | exact absurd h9 (by rw [Env.same_self]; decide) | (simp only [Decl.marks, Env.marks] at h9; omega)) | (simp only [Env.marks] at c3; omega) | (simp [Env.marks, Env.mark, mkAll_len] at c3)
          have hc39 := eq1 (fun z1 => SV.one (.d (.v (.bool (z1))))) e38
          show _ ∧ _
          exact ⟨.inr rfl, .done ⟨_, [], [], _, .one (c := .d (.v (.bool (true)))) (hc39) .nil, .cons (Reads.d _).gives .nil, nodupB_ok rfl, by simp, (by simp)⟩⟩
        · have c3 := c3
          try simp only [Bool.or_eq_true, Bool.or_eq_false_iff, Bool.and_eq_true, Bool.and_eq_false_iff, decide_eq_true_eq, decide_eq_false_iff_not, Bool.not_eq_true', Bool.not_eq_false', bne_iff_ne, beq_iff_eq, bne_eq_false_iff_eq, beq_eq_false_iff_ne, ne_eq, Bool.not_eq_eq_eq_not, Bool.not_true, Bool.not_false] at c3
          refine .skip ?_
          refine .seq ?_
          refine .seq ?_
          refine .regD (X := Unit) (by kernel_rfl) (fun ζ => .of [(2, .one (.d (.v (.int .i64 (v))))), (4, .one (.ptr [4] (g7) 0)), (5, .one (.ptr [5] (g8) 0)), (7, .one (.ptr [7] (g9) 0)), (10, .one (.ptr [10] (g18) 0)), (11, .one (.ptr [11] (g21) 0)), (12, .one (.ptr [12] (g25) 0)), (13, .one (.ptr [13] (g29) 0)), (59, .one (.d (.v (.bool (!(Env.same e e))))))] [([4], (g7, g7, .box [.d (.sl false 9 1 (List.map strc (d.vars))), .d (.sl false 9 1 (List.map strc (d.flags))), .d (.sl false 117 2 (List.map Arr.c (d.arrays)))])), ([5], (g8, g8, .box [.d (.v (.bool (e.live))), .d (.sl false 56 2 (List.map Iv.c (e.ints))), .d (.sl false 56 2 (List.map Iv.c (e.arrs)))])), ([7], (g9, g9, .box [.d (.v (.int .i64 (a.lo))), .d (.v (.int .i64 (a.hi)))])), ([10], (g18, g19, .box [.d (.v (.bool ((Env.setIn d e v a).live))), .d (.sl false 60 2 (List.map Iv.c ((Env.setIn d e v a).ints))), .d (.sl false 60 2 (List.map Iv.c ((Env.setIn d e v a).arrs)))])), ([11], (g21, g22, .box [.ref [37, 0] (g23), .ref [37, 1] (g23), .ref [37, 2] (g23)])), ([12], (g25, g26, .box [.d (.v (.bool (e.live))), .ref [39, 1] (g27), .ref [39, 2] (g27)])), ([13], (g29, g30, .box [.d (.v (.bool ((Env.setIn d e v a).live))), .ref [45, 1] (g31), .ref [45, 2] (g31)])), ([37, 0], (g23, g23, .row 9 1 (List.map strc (d.vars)))), ([37, 1], (g23, g23, .row 9 1 (List.map strc (d.flags)))), ([37, 2], (g23, g23, .row 101 2 (List.map Arr.c (d.arrays)))), ([39, 1], (g27, g27, .row 60 2 (List.map Iv.c (e.ints)))), ([39, 2], (g27, g27, .row 60 2 (List.map Iv.c (e.arrs)))), ([45, 1], (g31, g31, .row 60 2 (List.map Iv.c ((Env.setIn d e v a).ints)))), ([45, 2], (g31, g31, .row 60 2 (List.map Iv.c ((Env.setIn d e v a).arrs))))]) [⟨[12], some 55, [[12]], []⟩, ⟨[5], some 56, [[5]], []⟩, ⟨[56], some 57, [], [[57, 1], [57, 2]]⟩, ⟨[55, 57], some 58, [[39, 1], [39, 2], [57, 1], [57, 2]], []⟩, ⟨[58], some 59, [], []⟩] (by kernel_rfl) (fun k40 => ?_) ?_
          · skip
            refine .load (.no rfl) rfl t30 rfl rfl (.ptr _ _ _ _ _ rfl) rfl rfl rfl rfl ?_
            refine .load (.no rfl) rfl t54 rfl rfl (.ptr _ _ _ _ _ rfl) rfl rfl rfl rfl ?_
            refine .call (.no rfl) rfl [] [] (c_toEnv e (by first | assumption | omega | (have q0 := szDecl_len hv hf ha (by omega) c0; omega) | (have q0 := szDecl_len hv hf ha (by omega) c0; have q1 := szEnv_len (by omega) c1; omega) | (have q0 := szDecl_len hv hf ha (by omega) c0; have q1 := szEnv_len (by omega) c1; first | omega | (have q9 := setIn_len (d := d) (e := e) (v := v) (a := a) (n := 1048576) (by omega); first | omega | (simp only [Decl.marks, Env.marks, Env.mark, mkAll_len]; omega))) | (intro i hi; exact mkAll_get (mIv 1) _ (by simpa only [Env.mark, mkAll_len] using hi)) | (intro i hi; simp only [Env.mark, mkAll_len] at hi ⊢; exact mkAll_get _ _ hi))) rfl rfl rfl rfl rfl (.cons (Reads.d _).gives (.cons (Reads.d _).gives (.cons (Reads.d _).gives .nil))) rfl rfl (fun h => absurd rfl h) (.own [57, 0] (.own [57, 1] (.own [57, 2] .nil))) (.nil) rfl rfl rfl (by simp) rfl rfl rfl ?_
            refine .call (.no rfl) rfl [[39, 1], [39, 2], [57, 1], [57, 2]] [([39, 1], (g27, g27, .row 60 2 (List.map Iv.c (e.ints)))), ([39, 2], (g27, g27, .row 60 2 (List.map Iv.c (e.arrs)))), ([57, 1], (k40 + 1 + 1, k40 + 1 + 1, .row 60 2 (List.map Iv.c (e.ints)))), ([57, 2], (k40 + 1 + 1, k40 + 1 + 1, .row 60 2 (List.map Iv.c (e.arrs))))] (c_eqEnv e e) rfl rfl rfl rfl rfl (.cons (Reads.d _).gives (.cons (Reads.ref (Frz.of_erase (erase_sl _ _ _ _ _ Iv.c_e)) (.head _) (.head _)).gives (.cons (Reads.ref (Frz.of_erase (erase_sl _ _ _ _ _ Iv.c_e)) (.tail _ (.head _)) (.tail _ (.head _))).gives (.cons (Reads.d _).gives (.cons (Reads.ref (Frz.of_erase (erase_sl _ _ _ _ _ Iv.c_e)) (.tail _ (.tail _ (.head _))) (.tail _ (.tail _ (.head _)))).gives (.cons (Reads.ref (Frz.of_erase (erase_sl _ _ _ _ _ Iv.c_e)) (.tail _ (.tail _ (.tail _ (.head _)))) (.tail _ (.tail _ (.tail _ (.head _))))).gives .nil)))))) rfl rfl (fun _ => (ownCons (Owned.v _) ownNil)) (.own [58, 0] .nil) (.nil) rfl rfl rfl (AllH.get (.cons rfl (.cons rfl (.cons rfl (.cons rfl .nil))))) rfl rfl rfl ?_
            refine .un (.no rfl) rfl rfl rfl rfl rfl ?_
            exact .fin () (.of (.cons rfl (.cons rfl (.cons rfl (.cons rfl (.cons rfl (.cons rfl (.cons rfl (.cons rfl (.cons rfl .nil))))))))) (.cons rfl (.cons rfl (.cons rfl (.cons rfl (.cons rfl (.cons rfl (.cons rfl (.cons rfl (.cons rfl (.cons rfl (.cons rfl (.cons rfl (.cons rfl (.cons rfl .nil)))))))))))))))
          intro _
          refine .cond (t := !(Env.same e e)) rfl (fun c4 => ?_) (fun c4 => ?_)
          · have c4 := c4
            try simp only [Bool.or_eq_true, Bool.or_eq_false_iff, Bool.and_eq_true, Bool.and_eq_false_iff, decide_eq_true_eq, decide_eq_false_iff_not, Bool.not_eq_true', Bool.not_eq_false', bne_iff_ne, beq_iff_eq, bne_eq_false_iff_eq, beq_eq_false_iff_ne, ne_eq, Bool.not_eq_eq_eq_not, Bool.not_true, Bool.not_false] at c4
            refine .seq ?_
            refine .reg (X := Unit) (fun ζ => .of [(8, .one (.d (.v (.bool (false)))))] []) [⟨[], some 8, [], []⟩] (fun k41 => ?_) ?_
            · skip
              refine .assign (.no rfl) rfl rfl rfl rfl ?_
              exact .fin () (.of (.cons rfl .nil) .nil)
            intro _
            refine .ret ?_
            have e42 : (false) = (true) := by first | exact absurd c4 (by rw [Env.same_self]; decide) | exact absurd c4 (by rw [Decl.same_self]; decide) | (rcases c4 with h9 | h9 <;> first | exact absurd h9 (by rw [Env.same_self]; decide) | (simp only [Decl.marks, Env.marks] at h9; omega)) | (simp only [Env.marks] at c4; omega) | (simp [Env.marks, Env.mark, mkAll_len] at c4)
            have hc43 := eq1 (fun z1 => SV.one (.d (.v (.bool (z1))))) e42
            show _ ∧ _
            exact ⟨.inr rfl, .done ⟨_, [], [], _, .one (c := .d (.v (.bool (true)))) (hc43) .nil, .cons (Reads.d _).gives .nil, nodupB_ok rfl, by simp, (by simp)⟩⟩
          · have c4 := c4
            try simp only [Bool.or_eq_true, Bool.or_eq_false_iff, Bool.and_eq_true, Bool.and_eq_false_iff, decide_eq_true_eq, decide_eq_false_iff_not, Bool.not_eq_true', Bool.not_eq_false', bne_iff_ne, beq_iff_eq, bne_eq_false_iff_eq, beq_eq_false_iff_ne, ne_eq, Bool.not_eq_eq_eq_not, Bool.not_true, Bool.not_false] at c4
            refine .skip ?_
            refine .seq ?_
            refine .reg (X := Unit) (fun ζ => .of [(2, .one (.d (.v (.int .i64 (v))))), (4, .one (.ptr [4] (g7) 0)), (5, .one (.ptr [5] (g8) 0)), (7, .one (.ptr [7] (g9) 0)), (10, .one (.ptr [10] (g18) 0)), (11, .one (.ptr [11] (g21) 0)), (12, .one (.ptr [12] (g25) 0)), (13, .one (.ptr [13] (g29) 0)), (14, .one (.d (.v (.int .i64 (1)))))] [([4], (g7, g7, .box [.d (.sl false 9 1 (List.map strc (d.vars))), .d (.sl false 9 1 (List.map strc (d.flags))), .d (.sl false 117 2 (List.map Arr.c (d.arrays)))])), ([5], (g8, g8, .box [.d (.v (.bool (e.live))), .d (.sl false 56 2 (List.map Iv.c (e.ints))), .d (.sl false 56 2 (List.map Iv.c (e.arrs)))])), ([7], (g9, g9, .box [.d (.v (.int .i64 (a.lo))), .d (.v (.int .i64 (a.hi)))])), ([10], (g18, g19, .box [.d (.v (.bool ((Env.setIn d e v a).live))), .d (.sl false 60 2 (List.map Iv.c ((Env.setIn d e v a).ints))), .d (.sl false 60 2 (List.map Iv.c ((Env.setIn d e v a).arrs)))])), ([11], (g21, g22, .box [.ref [37, 0] (g23), .ref [37, 1] (g23), .ref [37, 2] (g23)])), ([12], (g25, g26, .box [.d (.v (.bool (e.live))), .ref [39, 1] (g27), .ref [39, 2] (g27)])), ([13], (g29, g30, .box [.d (.v (.bool ((Env.setIn d e v a).live))), .ref [45, 1] (g31), .ref [45, 2] (g31)])), ([37, 0], (g23, g23, .row 9 1 (List.map strc (d.vars)))), ([37, 1], (g23, g23, .row 9 1 (List.map strc (d.flags)))), ([37, 2], (g23, g23, .row 101 2 (List.map Arr.c (d.arrays)))), ([39, 1], (g27, g27, .row 60 2 (List.map Iv.c (e.ints)))), ([39, 2], (g27, g27, .row 60 2 (List.map Iv.c (e.arrs)))), ([45, 1], (g31, g31, .row 60 2 (List.map Iv.c ((Env.setIn d e v a).ints)))), ([45, 2], (g31, g31, .row 60 2 (List.map Iv.c ((Env.setIn d e v a).arrs))))]) [⟨[], some 14, [], []⟩] (fun k44 => ?_) ?_
            · skip
              refine .assign (.no rfl) rfl rfl rfl rfl ?_
              exact .fin () (.of (.cons rfl (.cons rfl (.cons rfl (.cons rfl (.cons rfl (.cons rfl (.cons rfl (.cons rfl (.cons rfl .nil))))))))) (.cons rfl (.cons rfl (.cons rfl (.cons rfl (.cons rfl (.cons rfl (.cons rfl (.cons rfl (.cons rfl (.cons rfl (.cons rfl (.cons rfl (.cons rfl (.cons rfl .nil)))))))))))))))
            intro _
            refine .seq ?_
            refine .reg (X := Unit) (fun ζ => .of [(2, .one (.d (.v (.int .i64 (v))))), (4, .one (.ptr [4] (g7) 0)), (5, .one (.ptr [5] (g8) 0)), (7, .one (.ptr [7] (g9) 0)), (10, .one (.ptr [10] (g18) 0)), (12, .one (.ptr [12] (g25) 0)), (13, .one (.ptr [13] (g29) 0)), (14, .one (.d (.v (.int .i64 (Decl.marks 1 d)))))] [([4], (g7, g7, .box [.d (.sl false 9 1 (List.map strc (d.vars))), .d (.sl false 9 1 (List.map strc (d.flags))), .d (.sl false 117 2 (List.map Arr.c (d.arrays)))])), ([5], (g8, g8, .box [.d (.v (.bool (e.live))), .d (.sl false 56 2 (List.map Iv.c (e.ints))), .d (.sl false 56 2 (List.map Iv.c (e.arrs)))])), ([7], (g9, g9, .box [.d (.v (.int .i64 (a.lo))), .d (.v (.int .i64 (a.hi)))])), ([10], (g18, g19, .box [.d (.v (.bool ((Env.setIn d e v a).live))), .d (.sl false 60 2 (List.map Iv.c ((Env.setIn d e v a).ints))), .d (.sl false 60 2 (List.map Iv.c ((Env.setIn d e v a).arrs)))])), ([12], (g25, g26, .box [.d (.v (.bool (e.live))), .ref [39, 1] (g27), .ref [39, 2] (g27)])), ([13], (g29, g30, .box [.d (.v (.bool ((Env.setIn d e v a).live))), .ref [45, 1] (g31), .ref [45, 2] (g31)])), ([39, 1], (g27, g27, .row 60 2 (List.map Iv.c (e.ints)))), ([39, 2], (g27, g27, .row 60 2 (List.map Iv.c (e.arrs)))), ([45, 1], (g31, g31, .row 60 2 (List.map Iv.c ((Env.setIn d e v a).ints)))), ([45, 2], (g31, g31, .row 60 2 (List.map Iv.c ((Env.setIn d e v a).arrs))))]) [⟨[11], some 60, [[11]], []⟩, ⟨[14], some 61, [], []⟩, ⟨[60, 61], some 62, [[37, 0], [37, 1], [37, 2]], [[37, 0], [37, 1], [37, 2], [37, 0], [37, 1], [37, 2]]⟩, ⟨[62], some 14, [], []⟩] (fun k45 => ?_) ?_
            · skip
              refine .load (.no rfl) rfl t27 rfl rfl (.ptr _ _ _ _ _ rfl) rfl rfl rfl rfl ?_
              refine .move (.no rfl) rfl rfl rfl rfl ?_
              refine .call (.no rfl) rfl [] [([37, 0], (g23, g23, .row 9 1 (List.map strc (d.vars)))), ([37, 1], (g23, g23, .row 9 1 (List.map strc (d.flags)))), ([37, 2], (g23, g23, .row 101 2 (List.map Arr.c (d.arrays))))] (c_markDecl d 1 (by first | assumption | omega | (have q0 := szDecl_len hv hf ha (by omega) c0; omega) | (have q0 := szDecl_len hv hf ha (by omega) c0; have q1 := szEnv_len (by omega) c1; omega) | (have q0 := szDecl_len hv hf ha (by omega) c0; have q1 := szEnv_len (by omega) c1; first | omega | (have q9 := setIn_len (d := d) (e := e) (v := v) (a := a) (n := 1048576) (by omega); first | omega | (simp only [Decl.marks, Env.marks, Env.mark, mkAll_len]; omega))) | (intro i hi; exact mkAll_get (mIv 1) _ (by simpa only [Env.mark, mkAll_len] using hi)) | (intro i hi; simp only [Env.mark, mkAll_len] at hi ⊢; exact mkAll_get _ _ hi)) (by first | assumption | omega | (have q0 := szDecl_len hv hf ha (by omega) c0; omega) | (have q0 := szDecl_len hv hf ha (by omega) c0; have q1 := szEnv_len (by omega) c1; omega) | (have q0 := szDecl_len hv hf ha (by omega) c0; have q1 := szEnv_len (by omega) c1; first | omega | (have q9 := setIn_len (d := d) (e := e) (v := v) (a := a) (n := 1048576) (by omega); first | omega | (simp only [Decl.marks, Env.marks, Env.mark, mkAll_len]; omega))) | (intro i hi; exact mkAll_get (mIv 1) _ (by simpa only [Env.mark, mkAll_len] using hi)) | (intro i hi; simp only [Env.mark, mkAll_len] at hi ⊢; exact mkAll_get _ _ hi))) rfl rfl rfl rfl rfl (.cons (.ref (.head _)) (.cons (.ref (.tail _ (.head _))) (.cons (.ref (.tail _ (.tail _ (.head _)))) (.cons (Reads.d _).gives .nil)))) rfl rfl (fun h => absurd rfl h) (.own [62, 0] .nil) (.ref rfl (.head _) (by simp) (.ref rfl (.tail _ (.head _)) (by simp) (.ref rfl (.tail _ (.tail _ (.head _))) (by simp) .nil))) rfl rfl rfl (AllH.get (.cons rfl (.cons rfl (.cons rfl .nil)))) rfl rfl rfl ?_
              refine .assign (.no rfl) rfl rfl rfl rfl ?_
              exact .fin () (.of (.cons rfl (.cons rfl (.cons rfl (.cons rfl (.cons rfl (.cons rfl (.cons rfl (.cons rfl .nil)))))))) (.cons rfl (.cons rfl (.cons rfl (.cons rfl (.cons rfl (.cons rfl (.cons rfl (.cons rfl (.cons rfl (.cons rfl .nil)))))))))))
            intro _
            refine .seq ?_
            refine .reg (X := Unit) (fun ζ => .of [(2, .one (.d (.v (.int .i64 (v))))), (4, .one (.ptr [4] (g7) 0)), (5, .one (.ptr [5] (g8) 0)), (7, .one (.ptr [7] (g9) 0)), (10, .one (.ptr [10] (g18) 0)), (13, .one (.ptr [13] (g29) 0)), (14, .one (.d (.v (.int .i64 (Env.marks (Decl.marks 1 d) e)))))] [([4], (g7, g7, .box [.d (.sl false 9 1 (List.map strc (d.vars))), .d (.sl false 9 1 (List.map strc (d.flags))), .d (.sl false 117 2 (List.map Arr.c (d.arrays)))])), ([5], (g8, g8, .box [.d (.v (.bool (e.live))), .d (.sl false 56 2 (List.map Iv.c (e.ints))), .d (.sl false 56 2 (List.map Iv.c (e.arrs)))])), ([7], (g9, g9, .box [.d (.v (.int .i64 (a.lo))), .d (.v (.int .i64 (a.hi)))])), ([10], (g18, g19, .box [.d (.v (.bool ((Env.setIn d e v a).live))), .d (.sl false 60 2 (List.map Iv.c ((Env.setIn d e v a).ints))), .d (.sl false 60 2 (List.map Iv.c ((Env.setIn d e v a).arrs)))])), ([13], (g29, g30, .box [.d (.v (.bool ((Env.setIn d e v a).live))), .ref [45, 1] (g31), .ref [45, 2] (g31)])), ([45, 1], (g31, g31, .row 60 2 (List.map Iv.c ((Env.setIn d e v a).ints)))), ([45, 2], (g31, g31, .row 60 2 (List.map Iv.c ((Env.setIn d e v a).arrs))))]) [⟨[12], some 63, [[12]], []⟩, ⟨[14], some 64, [], []⟩, ⟨[63, 64], some 65, [[39, 1], [39, 2]], [[39, 1], [39, 2], [39, 1], [39, 2]]⟩, ⟨[65], some 14, [], []⟩] (fun k46 => ?_) ?_
            · skip
              refine .load (.no rfl) rfl t30 rfl rfl (.ptr _ _ _ _ _ rfl) rfl rfl rfl rfl ?_
              refine .move (.no rfl) rfl rfl rfl rfl ?_
              refine .call (.no rfl) rfl [] [([39, 1], (g27, g27, .row 60 2 (List.map Iv.c (e.ints)))), ([39, 2], (g27, g27, .row 60 2 (List.map Iv.c (e.arrs))))] (c_markEnv e (Decl.marks 1 d) (by first | assumption | omega | (have q0 := szDecl_len hv hf ha (by omega) c0; omega) | (have q0 := szDecl_len hv hf ha (by omega) c0; have q1 := szEnv_len (by omega) c1; omega) | (have q0 := szDecl_len hv hf ha (by omega) c0; have q1 := szEnv_len (by omega) c1; first | omega | (have q9 := setIn_len (d := d) (e := e) (v := v) (a := a) (n := 1048576) (by omega); first | omega | (simp only [Decl.marks, Env.marks, Env.mark, mkAll_len]; omega))) | (intro i hi; exact mkAll_get (mIv 1) _ (by simpa only [Env.mark, mkAll_len] using hi)) | (intro i hi; simp only [Env.mark, mkAll_len] at hi ⊢; exact mkAll_get _ _ hi)) (by first | assumption | omega | (have q0 := szDecl_len hv hf ha (by omega) c0; omega) | (have q0 := szDecl_len hv hf ha (by omega) c0; have q1 := szEnv_len (by omega) c1; omega) | (have q0 := szDecl_len hv hf ha (by omega) c0; have q1 := szEnv_len (by omega) c1; first | omega | (have q9 := setIn_len (d := d) (e := e) (v := v) (a := a) (n := 1048576) (by omega); first | omega | (simp only [Decl.marks, Env.marks, Env.mark, mkAll_len]; omega))) | (intro i hi; exact mkAll_get (mIv 1) _ (by simpa only [Env.mark, mkAll_len] using hi)) | (intro i hi; simp only [Env.mark, mkAll_len] at hi ⊢; exact mkAll_get _ _ hi))) rfl rfl rfl rfl rfl (.cons (Reads.d _).gives (.cons (.ref (.head _)) (.cons (.ref (.tail _ (.head _))) (.cons (Reads.d _).gives .nil)))) rfl rfl (fun h => absurd rfl h) (.own [65, 0] .nil) (.ref rfl (.head _) (by simp) (.ref rfl (.tail _ (.head _)) (by simp) .nil)) rfl rfl rfl (AllH.get (.cons rfl (.cons rfl .nil))) rfl rfl rfl ?_
              refine .assign (.no rfl) rfl rfl rfl rfl ?_
              exact .fin () (.of (.cons rfl (.cons rfl (.cons rfl (.cons rfl (.cons rfl (.cons rfl (.cons rfl .nil))))))) (.cons rfl (.cons rfl (.cons rfl (.cons rfl (.cons rfl (.cons rfl (.cons rfl .nil))))))))
            intro _
            refine .seq ?_
            refine .seq ?_
            refine .reg (X := Unit) (fun ζ => .of [(2, .one (.d (.v (.int .i64 (v))))), (4, .one (.ptr [4] (g7) 0)), (5, .one (.ptr [5] (g8) 0)), (7, .one (.ptr [7] (g9) 0)), (10, .one (.ptr [10] (g18) 0)), (13, .one (.ptr [13] (g29) 0)), (73, .one (.d (.v (.bool ((decide ((Env.marks (Decl.marks 1 d) e) < 0) || !(Env.same (Env.setIn d e v a) (Env.setIn d e v a))))))))] [([4], (g7, g7, .box [.d (.sl false 9 1 (List.map strc (d.vars))), .d (.sl false 9 1 (List.map strc (d.flags))), .d (.sl false 117 2 (List.map Arr.c (d.arrays)))])), ([5], (g8, g8, .box [.d (.v (.bool (e.live))), .d (.sl false 56 2 (List.map Iv.c (e.ints))), .d (.sl false 56 2 (List.map Iv.c (e.arrs)))])), ([7], (g9, g9, .box [.d (.v (.int .i64 (a.lo))), .d (.v (.int .i64 (a.hi)))])), ([10], (g18, g19, .box [.d (.v (.bool ((Env.setIn d e v a).live))), .d (.sl false 60 2 (List.map Iv.c ((Env.setIn d e v a).ints))), .d (.sl false 60 2 (List.map Iv.c ((Env.setIn d e v a).arrs)))])), ([13], (g29, g30, .box [.d (.v (.bool ((Env.setIn d e v a).live))), .ref [45, 1] (g31), .ref [45, 2] (g31)])), ([45, 1], (g31, g31, .row 60 2 (List.map Iv.c ((Env.setIn d e v a).ints)))), ([45, 2], (g31, g31, .row 60 2 (List.map Iv.c ((Env.setIn d e v a).arrs))))]) [⟨[14], some 66, [], []⟩, ⟨[66], some 67, [], []⟩, ⟨[67], some 68, [], []⟩, ⟨[68, 13], some 69, [[13]], []⟩, ⟨[68, 10], some 70, [[10]], []⟩, ⟨[68, 69, 70], some 71, [[45, 1], [45, 2]], []⟩, ⟨[68, 71], some 72, [], []⟩, ⟨[68, 72], some 73, [], []⟩] (fun k47 => ?_) ?_
            · skip
              refine .move (.no rfl) rfl rfl rfl rfl ?_
              refine .bin (.no rfl) rfl rfl rfl rfl rfl rfl ?_
              refine .moveB (.no rfl) rfl rfl rfl rfl fun b48 g21_2 => ?_
              cases b48
              · skip
                refine .load (.on rfl rfl rfl rfl rfl) rfl t30 rfl rfl (.ptr _ _ _ _ _ rfl) rfl rfl rfl rfl ?_
                refine .load (.on rfl rfl rfl rfl rfl) rfl t30 rfl rfl (.ptr _ _ _ _ _ rfl) rfl rfl rfl rfl ?_
                refine .call (.on rfl rfl rfl rfl rfl) rfl [[45, 1], [45, 2]] [([45, 1], (g31, g31, .row 60 2 (List.map Iv.c ((Env.setIn d e v a).ints)))), ([45, 2], (g31, g31, .row 60 2 (List.map Iv.c ((Env.setIn d e v a).arrs))))] (c_eqEnv (Env.setIn d e v a) (Env.setIn d e v a)) rfl rfl rfl rfl rfl (.cons (Reads.d _).gives (.cons (Reads.ref (Frz.of_erase (erase_sl _ _ _ _ _ Iv.c_e)) (.head _) (.head _)).gives (.cons (Reads.ref (Frz.of_erase (erase_sl _ _ _ _ _ Iv.c_e)) (.tail _ (.head _)) (.tail _ (.head _))).gives (.cons (Reads.d _).gives (.cons (Reads.d _).gives (.cons (Reads.d _).gives .nil)))))) rfl rfl (fun _ => (ownCons (Owned.v _) ownNil)) (.own [71, 0] .nil) (.nil) rfl rfl rfl (AllH.get (.cons rfl (.cons rfl .nil))) rfl rfl rfl ?_
                refine .un (.on rfl rfl rfl rfl rfl) rfl rfl rfl rfl rfl ?_
                refine .pick (.no rfl) rfl rfl rfl rfl rfl ?_
                exact .fin () (.of (.cons rfl (.cons rfl (.cons rfl (.cons rfl (.cons rfl (.cons rfl (.cons (svB (show (!(Env.same (Env.setIn d e v a) (Env.setIn d e v a))) = ((decide ((Env.marks (Decl.marks 1 d) e) < 0) || !(Env.same (Env.setIn d e v a) (Env.setIn d e v a)))) by first | (simp only [g21_2, Bool.true_or, Bool.false_or, Bool.true_and, Bool.false_and, Bool.not_true, Bool.not_false]; done) | simp [g21_2])) .nil))))))) (.cons rfl (.cons rfl (.cons rfl (.cons rfl (.cons rfl (.cons rfl (.cons rfl .nil))))))))
              · skip
                refine .off rfl rfl rfl rfl rfl rfl rfl ?_
                refine .off rfl rfl rfl rfl rfl rfl rfl ?_
                refine .off rfl rfl rfl rfl rfl rfl rfl ?_
                refine .off rfl rfl rfl rfl rfl rfl rfl ?_
                refine .pick (.no rfl) rfl rfl rfl rfl rfl ?_
                exact .fin () (.of (.cons rfl (.cons rfl (.cons rfl (.cons rfl (.cons rfl (.cons rfl (.cons (svB (show (true) = ((decide ((Env.marks (Decl.marks 1 d) e) < 0) || !(Env.same (Env.setIn d e v a) (Env.setIn d e v a)))) by first | (simp only [g21_2, Bool.true_or, Bool.false_or, Bool.true_and, Bool.false_and, Bool.not_true, Bool.not_false]; done) | simp [g21_2])) .nil))))))) (.cons rfl (.cons rfl (.cons rfl (.cons rfl (.cons rfl (.cons rfl (.cons rfl .nil))))))))
            intro _
            refine .cond (t := (decide ((Env.marks (Decl.marks 1 d) e) < 0) || !(Env.same (Env.setIn d e v a) (Env.setIn d e v a)))) rfl (fun c5 => ?_) (fun c5 => ?_)
            · have c5 := c5
              try simp only [Bool.or_eq_true, Bool.or_eq_false_iff, Bool.and_eq_true, Bool.and_eq_false_iff, decide_eq_true_eq, decide_eq_false_iff_not, Bool.not_eq_true', Bool.not_eq_false', bne_iff_ne, beq_iff_eq, bne_eq_false_iff_eq, beq_eq_false_iff_ne, ne_eq, Bool.not_eq_eq_eq_not, Bool.not_true, Bool.not_false] at c5
              refine .seq ?_
              refine .reg (X := Unit) (fun ζ => .of [(8, .one (.d (.v (.bool (false)))))] []) [⟨[], some 8, [], []⟩] (fun k49 => ?_) ?_
              · skip
                refine .assign (.no rfl) rfl rfl rfl rfl ?_
                exact .fin () (.of (.cons rfl .nil) .nil)
              intro _
              refine .ret ?_
              have e50 : (false) = (true) := by first | exact absurd c5 (by rw [Env.same_self]; decide) | exact absurd c5 (by rw [Decl.same_self]; decide) | (rcases c5 with h9 | h9 <;> first | exact absurd h9 (by rw [Env.same_self]; decide) | (simp only [Decl.marks, Env.marks] at h9; omega)) | (simp only [Env.marks] at c5; omega) | (simp [Env.marks, Env.mark, mkAll_len] at c5)
              have hc51 := eq1 (fun z1 => SV.one (.d (.v (.bool (z1))))) e50
              show _ ∧ _
              exact ⟨.inr rfl, .done ⟨_, [], [], _, .one (c := .d (.v (.bool (true)))) (hc51) .nil, .cons (Reads.d _).gives .nil, nodupB_ok rfl, by simp, (by simp)⟩⟩
            · have c5 := c5
              try simp only [Bool.or_eq_true, Bool.or_eq_false_iff, Bool.and_eq_true, Bool.and_eq_false_iff, decide_eq_true_eq, decide_eq_false_iff_not, Bool.not_eq_true', Bool.not_eq_false', bne_iff_ne, beq_iff_eq, bne_eq_false_iff_eq, beq_eq_false_iff_ne, ne_eq, Bool.not_eq_eq_eq_not, Bool.not_true, Bool.not_false] at c5
              refine .skip ?_
              refine .seq ?_
              refine .reg (X := Unit) (fun ζ => .of [(2, .one (.d (.v (.int .i64 (v))))), (4, .one (.ptr [4] (g7) 0)), (5, .one (.ptr [5] (g8) 0)), (7, .one (.ptr [7] (g9) 0)), (10, .one (.ptr [10] (g18) 0)), (13, .one (.ptr [13] (g29) 0)), (15, .one (.d (.v (.int .i64 (1)))))] [([4], (g7, g7, .box [.d (.sl false 9 1 (List.map strc (d.vars))), .d (.sl false 9 1 (List.map strc (d.flags))), .d (.sl false 117 2 (List.map Arr.c (d.arrays)))])), ([5], (g8, g8, .box [.d (.v (.bool (e.live))), .d (.sl false 56 2 (List.map Iv.c (e.ints))), .d (.sl false 56 2 (List.map Iv.c (e.arrs)))])), ([7], (g9, g9, .box [.d (.v (.int .i64 (a.lo))), .d (.v (.int .i64 (a.hi)))])), ([10], (g18, g19, .box [.d (.v (.bool ((Env.setIn d e v a).live))), .d (.sl false 60 2 (List.map Iv.c ((Env.setIn d e v a).ints))), .d (.sl false 60 2 (List.map Iv.c ((Env.setIn d e v a).arrs)))])), ([13], (g29, g30, .box [.d (.v (.bool ((Env.setIn d e v a).live))), .ref [45, 1] (g31), .ref [45, 2] (g31)])), ([45, 1], (g31, g31, .row 60 2 (List.map Iv.c ((Env.setIn d e v a).ints)))), ([45, 2], (g31, g31, .row 60 2 (List.map Iv.c ((Env.setIn d e v a).arrs))))]) [⟨[], some 15, [], []⟩] (fun k52 => ?_) ?_
              · skip
                refine .assign (.no rfl) rfl rfl rfl rfl ?_
                exact .fin () (.of (.cons rfl (.cons rfl (.cons rfl (.cons rfl (.cons rfl (.cons rfl (.cons rfl .nil))))))) (.cons rfl (.cons rfl (.cons rfl (.cons rfl (.cons rfl (.cons rfl (.cons rfl .nil))))))))
              intro _
              refine .seq ?_
              refine .reg (X := Nat) (fun ζ => .of [(2, .one (.d (.v (.int .i64 (v))))), (4, .one (.ptr [4] (g7) 0)), (5, .one (.ptr [5] (g8) 0)), (7, .one (.ptr [7] (g9) 0)), (10, .one (.ptr [10] (g18) 0)), (13, .one (.ptr [13] (g29) 0)), (15, .one (.d (.v (.int .i64 (Env.marks 1 (Env.setIn d e v a))))))] [([4], (g7, g7, .box [.d (.sl false 9 1 (List.map strc (d.vars))), .d (.sl false 9 1 (List.map strc (d.flags))), .d (.sl false 117 2 (List.map Arr.c (d.arrays)))])), ([5], (g8, g8, .box [.d (.v (.bool (e.live))), .d (.sl false 56 2 (List.map Iv.c (e.ints))), .d (.sl false 56 2 (List.map Iv.c (e.arrs)))])), ([7], (g9, g9, .box [.d (.v (.int .i64 (a.lo))), .d (.v (.int .i64 (a.hi)))])), ([10], (g18, g19, .box [.d (.v (.bool ((Env.setIn d e v a).live))), .d (.sl false 60 2 (List.map Iv.c ((Env.setIn d e v a).ints))), .d (.sl false 60 2 (List.map Iv.c ((Env.setIn d e v a).arrs)))])), ([13], (g29, g30, .box [.d (.v (.bool ((Env.setIn d e v a).live))), .ref [45, 1] (g31), .ref [45, 2] (g31)])), ([45, 1], (g31, ζ, .row 60 2 (List.map Iv.c ((Env.mark 1 (Env.setIn d e v a)).ints)))), ([45, 2], (g31, ζ, .row 60 2 (List.map Iv.c ((Env.mark 1 (Env.setIn d e v a)).arrs))))]) [⟨[13], some 74, [[13]], []⟩, ⟨[15], some 75, [], []⟩, ⟨[74, 75], some 76, [[45, 1], [45, 2]], [[45, 1], [45, 2], [45, 1], [45, 2]]⟩, ⟨[76], some 15, [], []⟩] (fun k53 => ?_) ?_
              · skip
                refine .load (.no rfl) rfl t30 rfl rfl (.ptr _ _ _ _ _ rfl) rfl rfl rfl rfl ?_
                refine .move (.no rfl) rfl rfl rfl rfl ?_
                refine .call (.no rfl) rfl [] [([45, 1], (g31, g31, .row 60 2 (List.map Iv.c ((Env.setIn d e v a).ints)))), ([45, 2], (g31, g31, .row 60 2 (List.map Iv.c ((Env.setIn d e v a).arrs))))] (c_markEnv (Env.setIn d e v a) 1 (by first | assumption | omega | (have q0 := szDecl_len hv hf ha (by omega) c0; omega) | (have q0 := szDecl_len hv hf ha (by omega) c0; have q1 := szEnv_len (by omega) c1; omega) | (have q0 := szDecl_len hv hf ha (by omega) c0; have q1 := szEnv_len (by omega) c1; first | omega | (have q9 := setIn_len (d := d) (e := e) (v := v) (a := a) (n := 1048576) (by omega); first | omega | (simp only [Decl.marks, Env.marks, Env.mark, mkAll_len]; omega))) | (intro i hi; exact mkAll_get (mIv 1) _ (by simpa only [Env.mark, mkAll_len] using hi)) | (intro i hi; simp only [Env.mark, mkAll_len] at hi ⊢; exact mkAll_get _ _ hi)) (by first | assumption | omega | (have q0 := szDecl_len hv hf ha (by omega) c0; omega) | (have q0 := szDecl_len hv hf ha (by omega) c0; have q1 := szEnv_len (by omega) c1; omega) | (have q0 := szDecl_len hv hf ha (by omega) c0; have q1 := szEnv_len (by omega) c1; first | omega | (have q9 := setIn_len (d := d) (e := e) (v := v) (a := a) (n := 1048576) (by omega); first | omega | (simp only [Decl.marks, Env.marks, Env.mark, mkAll_len]; omega))) | (intro i hi; exact mkAll_get (mIv 1) _ (by simpa only [Env.mark, mkAll_len] using hi)) | (intro i hi; simp only [Env.mark, mkAll_len] at hi ⊢; exact mkAll_get _ _ hi))) rfl rfl rfl rfl rfl (.cons (Reads.d _).gives (.cons (.ref (.head _)) (.cons (.ref (.tail _ (.head _))) (.cons (Reads.d _).gives .nil)))) rfl rfl (fun h => absurd rfl h) (.own [76, 0] .nil) (.ref rfl (.head _) (by simp) (.ref rfl (.tail _ (.head _)) (by simp) .nil)) rfl rfl rfl (AllH.get (.cons rfl (.cons rfl .nil))) rfl rfl rfl ?_
                refine .assign (.no rfl) rfl rfl rfl rfl ?_
                exact .fin (k53 + 1 + 1) (.of (.cons rfl (.cons rfl (.cons rfl (.cons rfl (.cons rfl (.cons rfl (.cons rfl .nil))))))) (.cons rfl (.cons rfl (.cons rfl (.cons rfl (.cons rfl (.cons rfl (.cons rfl .nil))))))))
              intro g54
              refine .seq ?_
              refine .reg (X := Unit) (fun ζ => .of [(2, .one (.d (.v (.int .i64 (v))))), (4, .one (.ptr [4] (g7) 0)), (5, .one (.ptr [5] (g8) 0)), (7, .one (.ptr [7] (g9) 0)), (10, .one (.ptr [10] (g18) 0)), (13, .one (.ptr [13] (g29) 0)), (15, .one (.d (.v (.int .i64 (Env.marks 1 (Env.setIn d e v a)))))), (16, .one (.d (.v (.int .i64 (1)))))] [([4], (g7, g7, .box [.d (.sl false 9 1 (List.map strc (d.vars))), .d (.sl false 9 1 (List.map strc (d.flags))), .d (.sl false 117 2 (List.map Arr.c (d.arrays)))])), ([5], (g8, g8, .box [.d (.v (.bool (e.live))), .d (.sl false 56 2 (List.map Iv.c (e.ints))), .d (.sl false 56 2 (List.map Iv.c (e.arrs)))])), ([7], (g9, g9, .box [.d (.v (.int .i64 (a.lo))), .d (.v (.int .i64 (a.hi)))])), ([10], (g18, g19, .box [.d (.v (.bool ((Env.setIn d e v a).live))), .d (.sl false 60 2 (List.map Iv.c ((Env.setIn d e v a).ints))), .d (.sl false 60 2 (List.map Iv.c ((Env.setIn d e v a).arrs)))])), ([13], (g29, g30, .box [.d (.v (.bool ((Env.setIn d e v a).live))), .ref [45, 1] (g31), .ref [45, 2] (g31)])), ([45, 1], (g31, g54, .row 60 2 (List.map Iv.c ((Env.mark 1 (Env.setIn d e v a)).ints)))), ([45, 2], (g31, g54, .row 60 2 (List.map Iv.c ((Env.mark 1 (Env.setIn d e v a)).arrs))))]) [⟨[], some 16, [], []⟩] (fun k55 => ?_) ?_
              · skip
                refine .assign (.no rfl) rfl rfl rfl rfl ?_
                exact .fin () (.of (.cons rfl (.cons rfl (.cons rfl (.cons rfl (.cons rfl (.cons rfl (.cons rfl (.cons rfl .nil)))))))) (.cons rfl (.cons rfl (.cons rfl (.cons rfl (.cons rfl (.cons rfl (.cons rfl .nil))))))))
              intro _
              refine .seq ?_
              refine .reg (X := Unit) (fun ζ => .of [(2, .one (.d (.v (.int .i64 (v))))), (4, .one (.ptr [4] (g7) 0)), (5, .one (.ptr [5] (g8) 0)), (7, .one (.ptr [7] (g9) 0)), (10, .one (.ptr [10] (g18) 0)), (13, .one (.ptr [13] (g29) 0)), (15, .one (.d (.v (.int .i64 (Env.marks 1 (Env.setIn d e v a)))))), (16, .one (.d (.v (.int .i64 (Env.marks 1 (Env.mk ((Env.setIn d e v a).live) ((Env.mark 1 (Env.setIn d e v a)).ints) ((Env.mark 1 (Env.setIn d e v a)).arrs)))))))] [([4], (g7, g7, .box [.d (.sl false 9 1 (List.map strc (d.vars))), .d (.sl false 9 1 (List.map strc (d.flags))), .d (.sl false 117 2 (List.map Arr.c (d.arrays)))])), ([5], (g8, g8, .box [.d (.v (.bool (e.live))), .d (.sl false 56 2 (List.map Iv.c (e.ints))), .d (.sl false 56 2 (List.map Iv.c (e.arrs)))])), ([7], (g9, g9, .box [.d (.v (.int .i64 (a.lo))), .d (.v (.int .i64 (a.hi)))])), ([10], (g18, g19, .box [.d (.v (.bool ((Env.setIn d e v a).live))), .d (.sl false 60 2 (List.map Iv.c ((Env.setIn d e v a).ints))), .d (.sl false 60 2 (List.map Iv.c ((Env.setIn d e v a).arrs)))])), ([13], (g29, g30, .box [.d (.v (.bool ((Env.setIn d e v a).live))), .ref [45, 1] (g31), .ref [45, 2] (g31)])), ([45, 1], (g31, g54, .row 60 2 (List.map Iv.c ((Env.mark 1 (Env.setIn d e v a)).ints)))), ([45, 2], (g31, g54, .row 60 2 (List.map Iv.c ((Env.mark 1 (Env.setIn d e v a)).arrs))))]) [⟨[13], some 77, [[13]], []⟩, ⟨[16], some 78, [], []⟩, ⟨[77, 78], some 79, [[45, 1], [45, 2]], []⟩, ⟨[79], some 16, [], []⟩] (fun k56 => ?_) ?_
              · skip
                refine .load (.no rfl) rfl t30 rfl rfl (.ptr _ _ _ _ _ rfl) rfl rfl rfl rfl ?_
                refine .move (.no rfl) rfl rfl rfl rfl ?_
                refine .call (.no rfl) rfl [[45, 1], [45, 2]] [([45, 1], (g31, g54, .row 60 2 (List.map Iv.c ((Env.mark 1 (Env.setIn d e v a)).ints)))), ([45, 2], (g31, g54, .row 60 2 (List.map Iv.c ((Env.mark 1 (Env.setIn d e v a)).arrs))))] (c_heldEnv (Env.mk ((Env.setIn d e v a).live) ((Env.mark 1 (Env.setIn d e v a)).ints) ((Env.mark 1 (Env.setIn d e v a)).arrs)) 1 (by first | assumption | omega | (have q0 := szDecl_len hv hf ha (by omega) c0; omega) | (have q0 := szDecl_len hv hf ha (by omega) c0; have q1 := szEnv_len (by omega) c1; omega) | (have q0 := szDecl_len hv hf ha (by omega) c0; have q1 := szEnv_len (by omega) c1; first | omega | (have q9 := setIn_len (d := d) (e := e) (v := v) (a := a) (n := 1048576) (by omega); first | omega | (simp only [Decl.marks, Env.marks, Env.mark, mkAll_len]; omega))) | (intro i hi; exact mkAll_get (mIv 1) _ (by simpa only [Env.mark, mkAll_len] using hi)) | (intro i hi; simp only [Env.mark, mkAll_len] at hi ⊢; exact mkAll_get _ _ hi)) (by first | assumption | omega | (have q0 := szDecl_len hv hf ha (by omega) c0; omega) | (have q0 := szDecl_len hv hf ha (by omega) c0; have q1 := szEnv_len (by omega) c1; omega) | (have q0 := szDecl_len hv hf ha (by omega) c0; have q1 := szEnv_len (by omega) c1; first | omega | (have q9 := setIn_len (d := d) (e := e) (v := v) (a := a) (n := 1048576) (by omega); first | omega | (simp only [Decl.marks, Env.marks, Env.mark, mkAll_len]; omega))) | (intro i hi; exact mkAll_get (mIv 1) _ (by simpa only [Env.mark, mkAll_len] using hi)) | (intro i hi; simp only [Env.mark, mkAll_len] at hi ⊢; exact mkAll_get _ _ hi)) (by first | assumption | omega | (have q0 := szDecl_len hv hf ha (by omega) c0; omega) | (have q0 := szDecl_len hv hf ha (by omega) c0; have q1 := szEnv_len (by omega) c1; omega) | (have q0 := szDecl_len hv hf ha (by omega) c0; have q1 := szEnv_len (by omega) c1; first | omega | (have q9 := setIn_len (d := d) (e := e) (v := v) (a := a) (n := 1048576) (by omega); first | omega | (simp only [Decl.marks, Env.marks, Env.mark, mkAll_len]; omega))) | (intro i hi; exact mkAll_get (mIv 1) _ (by simpa only [Env.mark, mkAll_len] using hi)) | (intro i hi; simp only [Env.mark, mkAll_len] at hi ⊢; exact mkAll_get _ _ hi)) (by first | assumption | omega | (have q0 := szDecl_len hv hf ha (by omega) c0; omega) | (have q0 := szDecl_len hv hf ha (by omega) c0; have q1 := szEnv_len (by omega) c1; omega) | (have q0 := szDecl_len hv hf ha (by omega) c0; have q1 := szEnv_len (by omega) c1; first | omega | (have q9 := setIn_len (d := d) (e := e) (v := v) (a := a) (n := 1048576) (by omega); first | omega | (simp only [Decl.marks, Env.marks, Env.mark, mkAll_len]; omega))) | (intro i hi; exact mkAll_get (mIv 1) _ (by simpa only [Env.mark, mkAll_len] using hi)) | (intro i hi; simp only [Env.mark, mkAll_len] at hi ⊢; exact mkAll_get _ _ hi))) rfl rfl rfl rfl rfl (.cons (Reads.d _).gives (.cons (Reads.ref (Frz.of_erase (erase_sl _ _ _ _ _ Iv.c_e)) (.head _) (.head _)).gives (.cons (Reads.ref (Frz.of_erase (erase_sl _ _ _ _ _ Iv.c_e)) (.tail _ (.head _)) (.tail _ (.head _))).gives (.cons (Reads.d _).gives .nil)))) rfl rfl (fun _ => (ownCons (Owned.v _) ownNil)) (.own [79, 0] .nil) (.nil) rfl rfl rfl (AllH.get (.cons rfl (.cons rfl .nil))) rfl rfl rfl ?_
                refine .assign (.no rfl) rfl rfl rfl rfl ?_
                exact .fin () (.of (.cons rfl (.cons rfl (.cons rfl (.cons rfl (.cons rfl (.cons rfl (.cons rfl (.cons rfl .nil)))))))) (.cons rfl (.cons rfl (.cons rfl (.cons rfl (.cons rfl (.cons rfl (.cons rfl .nil))))))))
              intro _
              refine .seq ?_
              refine .seq ?_
              refine .reg (X := Unit) (fun ζ => .of [(2, .one (.d (.v (.int .i64 (v))))), (4, .one (.ptr [4] (g7) 0)), (5, .one (.ptr [5] (g8) 0)), (7, .one (.ptr [7] (g9) 0)), (10, .one (.ptr [10] (g18) 0)), (13, .one (.ptr [13] (g29) 0)), (15, .one (.d (.v (.int .i64 (Env.marks 1 (Env.setIn d e v a)))))), (16, .one (.d (.v (.int .i64 (Env.marks 1 (Env.mk ((Env.setIn d e v a).live) ((Env.mark 1 (Env.setIn d e v a)).ints) ((Env.mark 1 (Env.setIn d e v a)).arrs))))))), (81, .one (.d (.v (.bool (decide ((Env.marks 1 (Env.mk ((Env.setIn d e v a).live) ((Env.mark 1 (Env.setIn d e v a)).ints) ((Env.mark 1 (Env.setIn d e v a)).arrs))) < 0))))))] [([4], (g7, g7, .box [.d (.sl false 9 1 (List.map strc (d.vars))), .d (.sl false 9 1 (List.map strc (d.flags))), .d (.sl false 117 2 (List.map Arr.c (d.arrays)))])), ([5], (g8, g8, .box [.d (.v (.bool (e.live))), .d (.sl false 56 2 (List.map Iv.c (e.ints))), .d (.sl false 56 2 (List.map Iv.c (e.arrs)))])), ([7], (g9, g9, .box [.d (.v (.int .i64 (a.lo))), .d (.v (.int .i64 (a.hi)))])), ([10], (g18, g19, .box [.d (.v (.bool ((Env.setIn d e v a).live))), .d (.sl false 60 2 (List.map Iv.c ((Env.setIn d e v a).ints))), .d (.sl false 60 2 (List.map Iv.c ((Env.setIn d e v a).arrs)))])), ([13], (g29, g30, .box [.d (.v (.bool ((Env.setIn d e v a).live))), .ref [45, 1] (g31), .ref [45, 2] (g31)])), ([45, 1], (g31, g54, .row 60 2 (List.map Iv.c ((Env.mark 1 (Env.setIn d e v a)).ints)))), ([45, 2], (g31, g54, .row 60 2 (List.map Iv.c ((Env.mark 1 (Env.setIn d e v a)).arrs))))]) [⟨[16], some 80, [], []⟩, ⟨[80], some 81, [], []⟩] (fun k57 => ?_) ?_
              · skip
                refine .move (.no rfl) rfl rfl rfl rfl ?_
                refine .bin (.no rfl) rfl rfl rfl rfl rfl rfl ?_
                exact .fin () (.of (.cons rfl (.cons rfl (.cons rfl (.cons rfl (.cons rfl (.cons rfl (.cons rfl (.cons rfl (.cons rfl .nil))))))))) (.cons rfl (.cons rfl (.cons rfl (.cons rfl (.cons rfl (.cons rfl (.cons rfl .nil))))))))
              intro _
              refine .cond (t := decide ((Env.marks 1 (Env.mk ((Env.setIn d e v a).live) ((Env.mark 1 (Env.setIn d e v a)).ints) ((Env.mark 1 (Env.setIn d e v a)).arrs))) < 0)) rfl (fun c6 => ?_) (fun c6 => ?_)
              · have c6 := of_decide_eq_true c6
                refine .seq ?_
                refine .reg (X := Unit) (fun ζ => .of [(8, .one (.d (.v (.bool (false)))))] []) [⟨[], some 8, [], []⟩] (fun k58 => ?_) ?_
                · skip
                  refine .assign (.no rfl) rfl rfl rfl rfl ?_
                  exact .fin () (.of (.cons rfl .nil) .nil)
                intro _
                refine .ret ?_
                have e59 : (false) = (true) := by first | exact absurd c6 (by rw [Env.same_self]; decide) | exact absurd c6 (by rw [Decl.same_self]; decide) | (rcases c6 with h9 | h9 <;> first | exact absurd h9 (by rw [Env.same_self]; decide) | (simp only [Decl.marks, Env.marks] at h9; omega)) | (simp only [Env.marks] at c6; omega) | (simp [Env.marks, Env.mark, mkAll_len] at c6)
                have hc60 := eq1 (fun z1 => SV.one (.d (.v (.bool (z1))))) e59
                show _ ∧ _
                exact ⟨.inr rfl, .done ⟨_, [], [], _, .one (c := .d (.v (.bool (true)))) (hc60) .nil, .cons (Reads.d _).gives .nil, nodupB_ok rfl, by simp, (by simp)⟩⟩
              · have c6 := of_decide_eq_false c6
                refine .skip ?_
                refine .seq ?_
                refine .seq ?_
                refine .reg (X := Unit) (fun ζ => .of [(2, .one (.d (.v (.int .i64 (v))))), (4, .one (.ptr [4] (g7) 0)), (5, .one (.ptr [5] (g8) 0)), (7, .one (.ptr [7] (g9) 0)), (10, .one (.ptr [10] (g18) 0)), (13, .one (.ptr [13] (g29) 0)), (15, .one (.d (.v (.int .i64 (Env.marks 1 (Env.setIn d e v a)))))), (84, .one (.d (.v (.bool ((Env.marks 1 (Env.mk ((Env.setIn d e v a).live) ((Env.mark 1 (Env.setIn d e v a)).ints) ((Env.mark 1 (Env.setIn d e v a)).arrs))) != (Env.marks 1 (Env.setIn d e v a)))))))] [([4], (g7, g7, .box [.d (.sl false 9 1 (List.map strc (d.vars))), .d (.sl false 9 1 (List.map strc (d.flags))), .d (.sl false 117 2 (List.map Arr.c (d.arrays)))])), ([5], (g8, g8, .box [.d (.v (.bool (e.live))), .d (.sl false 56 2 (List.map Iv.c (e.ints))), .d (.sl false 56 2 (List.map Iv.c (e.arrs)))])), ([7], (g9, g9, .box [.d (.v (.int .i64 (a.lo))), .d (.v (.int .i64 (a.hi)))])), ([10], (g18, g19, .box [.d (.v (.bool ((Env.setIn d e v a).live))), .d (.sl false 60 2 (List.map Iv.c ((Env.setIn d e v a).ints))), .d (.sl false 60 2 (List.map Iv.c ((Env.setIn d e v a).arrs)))])), ([13], (g29, g30, .box [.d (.v (.bool ((Env.setIn d e v a).live))), .ref [45, 1] (g31), .ref [45, 2] (g31)])), ([45, 1], (g31, g54, .row 60 2 (List.map Iv.c ((Env.mark 1 (Env.setIn d e v a)).ints)))), ([45, 2], (g31, g54, .row 60 2 (List.map Iv.c ((Env.mark 1 (Env.setIn d e v a)).arrs))))]) [⟨[16], some 82, [], []⟩, ⟨[15], some 83, [], []⟩, ⟨[82, 83], some 84, [], []⟩] (fun k61 => ?_) ?_
                · skip
                  refine .move (.no rfl) rfl rfl rfl rfl ?_
                  refine .move (.no rfl) rfl rfl rfl rfl ?_
                  refine .bin (.no rfl) rfl rfl rfl rfl rfl rfl ?_
                  exact .fin () (.of (.cons rfl (.cons rfl (.cons rfl (.cons rfl (.cons rfl (.cons rfl (.cons rfl (.cons rfl .nil)))))))) (.cons rfl (.cons rfl (.cons rfl (.cons rfl (.cons rfl (.cons rfl (.cons rfl .nil))))))))
                intro _
                refine .cond (t := (Env.marks 1 (Env.mk ((Env.setIn d e v a).live) ((Env.mark 1 (Env.setIn d e v a)).ints) ((Env.mark 1 (Env.setIn d e v a)).arrs))) != (Env.marks 1 (Env.setIn d e v a))) rfl (fun c7 => ?_) (fun c7 => ?_)
                · have c7 := (by simpa using c7 : ¬ ((Env.marks 1 (Env.mk ((Env.setIn d e v a).live) ((Env.mark 1 (Env.setIn d e v a)).ints) ((Env.mark 1 (Env.setIn d e v a)).arrs))) = (Env.marks 1 (Env.setIn d e v a))))
                  refine .seq ?_
                  refine .reg (X := Unit) (fun ζ => .of [(8, .one (.d (.v (.bool (false)))))] []) [⟨[], some 8, [], []⟩] (fun k62 => ?_) ?_
                  · skip
                    refine .assign (.no rfl) rfl rfl rfl rfl ?_
                    exact .fin () (.of (.cons rfl .nil) .nil)
                  intro _
                  refine .ret ?_
                  have e63 : (false) = (true) := by first | exact absurd c7 (by rw [Env.same_self]; decide) | exact absurd c7 (by rw [Decl.same_self]; decide) | (rcases c7 with h9 | h9 <;> first | exact absurd h9 (by rw [Env.same_self]; decide) | (simp only [Decl.marks, Env.marks] at h9; omega)) | (simp only [Env.marks] at c7; omega) | (simp [Env.marks, Env.mark, mkAll_len] at c7)
                  have hc64 := eq1 (fun z1 => SV.one (.d (.v (.bool (z1))))) e63
                  show _ ∧ _
                  exact ⟨.inr rfl, .done ⟨_, [], [], _, .one (c := .d (.v (.bool (true)))) (hc64) .nil, .cons (Reads.d _).gives .nil, nodupB_ok rfl, by simp, (by simp)⟩⟩
                · have c7 := (by simpa using c7 : (Env.marks 1 (Env.mk ((Env.setIn d e v a).live) ((Env.mark 1 (Env.setIn d e v a)).ints) ((Env.mark 1 (Env.setIn d e v a)).arrs))) = (Env.marks 1 (Env.setIn d e v a)))
                  refine .skip ?_
                  refine .seq ?_
                  refine .regD (X := Nat × Nat × Nat) (by kernel_rfl) (fun ζ => .of [(10, .one (.ptr [10] (g18) 0)), (13, .one (.ptr [13] (g29) 0)), (15, .one (.d (.v (.int .i64 (Env.marks 1 (Env.setIn d e v a)))))), (17, .one (.ptr [17] (ζ.1) 0))] [([10], (g18, g19, .box [.d (.v (.bool ((Env.setIn d e v a).live))), .d (.sl false 60 2 (List.map Iv.c ((Env.setIn d e v a).ints))), .d (.sl false 60 2 (List.map Iv.c ((Env.setIn d e v a).arrs)))])), ([13], (g29, g30, .box [.d (.v (.bool ((Env.setIn d e v a).live))), .ref [45, 1] (g31), .ref [45, 2] (g31)])), ([17], (ζ.1, ζ.2.1, .box [.d (.v (.bool ((Env.setIn d e v a).live))), .ref [92, 1] (ζ.2.2), .ref [92, 2] (ζ.2.2)])), ([45, 1], (g31, g54, .row 60 2 (List.map Iv.c ((Env.mark 1 (Env.setIn d e v a)).ints)))), ([45, 2], (g31, g54, .row 60 2 (List.map Iv.c ((Env.mark 1 (Env.setIn d e v a)).arrs)))), ([92, 1], (ζ.2.2, ζ.2.2, .row 60 2 (List.map Iv.c ((Env.setIn d e v a).ints)))), ([92, 2], (ζ.2.2, ζ.2.2, .row 60 2 (List.map Iv.c ((Env.setIn d e v a).arrs))))]) [⟨[4], some 85, [[4]], []⟩, ⟨[85], some 86, [], [[86, 0], [86, 1], [86, 2]]⟩, ⟨[5], some 87, [[5]], []⟩, ⟨[87], some 88, [], [[88, 1], [88, 2]]⟩, ⟨[2], some 89, [], []⟩, ⟨[7], some 90, [[7]], []⟩, ⟨[90], some 91, [], []⟩, ⟨[86, 88, 89, 91], some 92, [[86, 0], [86, 1], [86, 2], [88, 1], [88, 2]], [[92, 1], [92, 2]]⟩, ⟨[], some 17, [], [[17]]⟩, ⟨[17, 92], none, [[17]], [[17]]⟩] (by kernel_rfl) (fun k65 => ?_) ?_
                  · skip
                    refine .load (.no rfl) rfl t41 rfl rfl (.ptr _ _ _ _ _ rfl) rfl rfl rfl rfl ?_
                    refine .call (.no rfl) rfl [] [] (c_toDecl d (by first | assumption | omega | (have q0 := szDecl_len hv hf ha (by omega) c0; omega) | (have q0 := szDecl_len hv hf ha (by omega) c0; have q1 := szEnv_len (by omega) c1; omega) | (have q0 := szDecl_len hv hf ha (by omega) c0; have q1 := szEnv_len (by omega) c1; first | omega | (have q9 := setIn_len (d := d) (e := e) (v := v) (a := a) (n := 1048576) (by omega); first | omega | (simp only [Decl.marks, Env.marks, Env.mark, mkAll_len]; omega))) | (intro i hi; exact mkAll_get (mIv 1) _ (by simpa only [Env.mark, mkAll_len] using hi)) | (intro i hi; simp only [Env.mark, mkAll_len] at hi ⊢; exact mkAll_get _ _ hi))) rfl rfl rfl rfl rfl (.cons (Reads.d _).gives (.cons (Reads.d _).gives (.cons (Reads.d _).gives .nil))) rfl rfl (fun h => absurd rfl h) (.own [86, 0] (.own [86, 1] (.own [86, 2] .nil))) (.nil) rfl rfl rfl (by simp) rfl rfl rfl ?_
                    refine .load (.no rfl) rfl t54 rfl rfl (.ptr _ _ _ _ _ rfl) rfl rfl rfl rfl ?_
                    refine .call (.no rfl) rfl [] [] (c_toEnv e (by first | assumption | omega | (have q0 := szDecl_len hv hf ha (by omega) c0; omega) | (have q0 := szDecl_len hv hf ha (by omega) c0; have q1 := szEnv_len (by omega) c1; omega) | (have q0 := szDecl_len hv hf ha (by omega) c0; have q1 := szEnv_len (by omega) c1; first | omega | (have q9 := setIn_len (d := d) (e := e) (v := v) (a := a) (n := 1048576) (by omega); first | omega | (simp only [Decl.marks, Env.marks, Env.mark, mkAll_len]; omega))) | (intro i hi; exact mkAll_get (mIv 1) _ (by simpa only [Env.mark, mkAll_len] using hi)) | (intro i hi; simp only [Env.mark, mkAll_len] at hi ⊢; exact mkAll_get _ _ hi))) rfl rfl rfl rfl rfl (.cons (Reads.d _).gives (.cons (Reads.d _).gives (.cons (Reads.d _).gives .nil))) rfl rfl (fun h => absurd rfl h) (.own [88, 0] (.own [88, 1] (.own [88, 2] .nil))) (.nil) rfl rfl rfl (by simp) rfl rfl rfl ?_
                    refine .move (.no rfl) rfl rfl rfl rfl ?_
                    refine .load (.no rfl) rfl t56 rfl rfl (.ptr _ _ _ _ _ rfl) rfl rfl rfl rfl ?_
                    refine .call (.no rfl) rfl [] [] (c_toInterval a) rfl rfl rfl rfl rfl (.cons (Reads.d _).gives (.cons (Reads.d _).gives .nil)) rfl rfl (fun h => absurd rfl h) (.own [91, 0] (.own [91, 1] .nil)) (.nil) rfl rfl rfl (by simp) rfl rfl rfl ?_
                    refine .call (.no rfl) rfl [[86, 0], [86, 1], [86, 2], [88, 1], [88, 2]] [([86, 0], (k65 + 1, k65 + 1, .row 9 1 (List.map strc (d.vars)))), ([86, 1], (k65 + 1, k65 + 1, .row 9 1 (List.map strc (d.flags)))), ([86, 2], (k65 + 1, k65 + 1, .row 101 2 (List.map Arr.c (d.arrays)))), ([88, 1], (k65 + 1 + 1 + 1, k65 + 1 + 1 + 1, .row 60 2 (List.map Iv.c (e.ints)))), ([88, 2], (k65 + 1 + 1 + 1, k65 + 1 + 1 + 1, .row 60 2 (List.map Iv.c (e.arrs))))] (c_EnvSet d e v a (by first | assumption | omega | (have q0 := szDecl_len hv hf ha (by omega) c0; omega) | (have q0 := szDecl_len hv hf ha (by omega) c0; have q1 := szEnv_len (by omega) c1; omega) | (have q0 := szDecl_len hv hf ha (by omega) c0; have q1 := szEnv_len (by omega) c1; first | omega | (have q9 := setIn_len (d := d) (e := e) (v := v) (a := a) (n := 1048576) (by omega); first | omega | (simp only [Decl.marks, Env.marks, Env.mark, mkAll_len]; omega))) | (intro i hi; exact mkAll_get (mIv 1) _ (by simpa only [Env.mark, mkAll_len] using hi)) | (intro i hi; simp only [Env.mark, mkAll_len] at hi ⊢; exact mkAll_get _ _ hi)) (by first | assumption | omega | (have q0 := szDecl_len hv hf ha (by omega) c0; omega) | (have q0 := szDecl_len hv hf ha (by omega) c0; have q1 := szEnv_len (by omega) c1; omega) | (have q0 := szDecl_len hv hf ha (by omega) c0; have q1 := szEnv_len (by omega) c1; first | omega | (have q9 := setIn_len (d := d) (e := e) (v := v) (a := a) (n := 1048576) (by omega); first | omega | (simp only [Decl.marks, Env.marks, Env.mark, mkAll_len]; omega))) | (intro i hi; exact mkAll_get (mIv 1) _ (by simpa only [Env.mark, mkAll_len] using hi)) | (intro i hi; simp only [Env.mark, mkAll_len] at hi ⊢; exact mkAll_get _ _ hi)) (by first | assumption | omega | (have q0 := szDecl_len hv hf ha (by omega) c0; omega) | (have q0 := szDecl_len hv hf ha (by omega) c0; have q1 := szEnv_len (by omega) c1; omega) | (have q0 := szDecl_len hv hf ha (by omega) c0; have q1 := szEnv_len (by omega) c1; first | omega | (have q9 := setIn_len (d := d) (e := e) (v := v) (a := a) (n := 1048576) (by omega); first | omega | (simp only [Decl.marks, Env.marks, Env.mark, mkAll_len]; omega))) | (intro i hi; exact mkAll_get (mIv 1) _ (by simpa only [Env.mark, mkAll_len] using hi)) | (intro i hi; simp only [Env.mark, mkAll_len] at hi ⊢; exact mkAll_get _ _ hi))) rfl rfl rfl rfl rfl (.cons (Reads.ref (Frz.of_erase (erase_sl _ _ _ _ _ strc_e)) (.head _) (.head _)).gives (.cons (Reads.ref (Frz.of_erase (erase_sl _ _ _ _ _ strc_e)) (.tail _ (.head _)) (.tail _ (.head _))).gives (.cons (Reads.ref (Frz.of_erase (erase_sl _ _ _ _ _ Arr.c_e)) (.tail _ (.tail _ (.head _))) (.tail _ (.tail _ (.head _)))).gives (.cons (Reads.d _).gives (.cons (Reads.ref (Frz.of_erase (erase_sl _ _ _ _ _ Iv.c_e)) (.tail _ (.tail _ (.tail _ (.head _)))) (.tail _ (.tail _ (.tail _ (.head _))))).gives (.cons (Reads.ref (Frz.of_erase (erase_sl _ _ _ _ _ Iv.c_e)) (.tail _ (.tail _ (.tail _ (.tail _ (.head _))))) (.tail _ (.tail _ (.tail _ (.tail _ (.head _)))))).gives (.cons (Reads.d _).gives (.cons (Reads.d _).gives (.cons (Reads.d _).gives .nil))))))))) rfl rfl (fun _ => (ownCons (Owned.v _) (ownCons (Owned.map _ _ _ _ Iv.c_o) (ownCons (Owned.map _ _ _ _ Iv.c_o) ownNil)))) (.own [92, 0] (.own [92, 1] (.own [92, 2] .nil))) (.nil) rfl rfl rfl (AllH.get (.cons rfl (.cons rfl (.cons rfl (.cons rfl (.cons rfl .nil)))))) rfl rfl rfl ?_
                    refine .alloc (.no rfl) rfl z30 rfl rfl rfl ?_
                    refine .store (.no rfl) rfl t30 rfl rfl rfl rfl rfl rfl rfl rfl rfl ?_
                    exact .fin (k65 + 1 + 1 + 1 + 1 + 1 + 1 + 1 + 1, k65 + 1 + 1 + 1 + 1 + 1 + 1 + 1 + 1 + 1, k65 + 1 + 1 + 1 + 1 + 1 + 1 + 1) (.of (.cons rfl (.cons rfl (.cons rfl (.cons rfl .nil)))) (.cons rfl (.cons rfl (.cons rfl (.cons rfl (.cons rfl (.cons rfl (.cons rfl .nil))))))))
                  rintro ⟨g66, g67, g68⟩
                  refine .seq ?_
                  refine .seq ?_
                  refine .reg (X := Unit) (fun ζ => .of [(13, .one (.ptr [13] (g29) 0)), (15, .one (.d (.v (.int .i64 (Env.marks 1 (Env.setIn d e v a)))))), (96, .one (.d (.v (.bool (!(Env.same (Env.setIn d e v a) (Env.setIn d e v a)))))))] [([13], (g29, g30, .box [.d (.v (.bool ((Env.setIn d e v a).live))), .ref [45, 1] (g31), .ref [45, 2] (g31)])), ([45, 1], (g31, g54, .row 60 2 (List.map Iv.c ((Env.mark 1 (Env.setIn d e v a)).ints)))), ([45, 2], (g31, g54, .row 60 2 (List.map Iv.c ((Env.mark 1 (Env.setIn d e v a)).arrs))))]) [⟨[17], some 93, [[17]], []⟩, ⟨[10], some 94, [[10]], []⟩, ⟨[93, 94], some 95, [[92, 1], [92, 2]], []⟩, ⟨[95], some 96, [], []⟩] (fun k69 => ?_) ?_
                  · skip
                    refine .load (.no rfl) rfl t30 rfl rfl (.ptr _ _ _ _ _ rfl) rfl rfl rfl rfl ?_
                    refine .load (.no rfl) rfl t30 rfl rfl (.ptr _ _ _ _ _ rfl) rfl rfl rfl rfl ?_
                    refine .call (.no rfl) rfl [[92, 1], [92, 2]] [([92, 1], (g68, g68, .row 60 2 (List.map Iv.c ((Env.setIn d e v a).ints)))), ([92, 2], (g68, g68, .row 60 2 (List.map Iv.c ((Env.setIn d e v a).arrs))))] (c_eqEnv (Env.setIn d e v a) (Env.setIn d e v a)) rfl rfl rfl rfl rfl (.cons (Reads.d _).gives (.cons (Reads.ref (Frz.of_erase (erase_sl _ _ _ _ _ Iv.c_e)) (.head _) (.head _)).gives (.cons (Reads.ref (Frz.of_erase (erase_sl _ _ _ _ _ Iv.c_e)) (.tail _ (.head _)) (.tail _ (.head _))).gives (.cons (Reads.d _).gives (.cons (Reads.d _).gives (.cons (Reads.d _).gives .nil)))))) rfl rfl (fun _ => (ownCons (Owned.v _) ownNil)) (.own [95, 0] .nil) (.nil) rfl rfl rfl (AllH.get (.cons rfl (.cons rfl .nil))) rfl rfl rfl ?_
                    refine .un (.no rfl) rfl rfl rfl rfl rfl ?_
                    exact .fin () (.of (.cons rfl (.cons rfl (.cons rfl .nil))) (.cons rfl (.cons rfl (.cons rfl .nil))))
                  intro _
                  refine .cond (t := !(Env.same (Env.setIn d e v a) (Env.setIn d e v a))) rfl (fun c8 => ?_) (fun c8 => ?_)
                  · have c8 := c8
                    try simp only [Bool.or_eq_true, Bool.or_eq_false_iff, Bool.and_eq_true, Bool.and_eq_false_iff, decide_eq_true_eq, decide_eq_false_iff_not, Bool.not_eq_true', Bool.not_eq_false', bne_iff_ne, beq_iff_eq, bne_eq_false_iff_eq, beq_eq_false_iff_ne, ne_eq, Bool.not_eq_eq_eq_not, Bool.not_true, Bool.not_false] at c8
                    refine .seq ?_
                    refine .reg (X := Unit) (fun ζ => .of [(8, .one (.d (.v (.bool (false)))))] []) [⟨[], some 8, [], []⟩] (fun k70 => ?_) ?_
                    · skip
                      refine .assign (.no rfl) rfl rfl rfl rfl ?_
                      exact .fin () (.of (.cons rfl .nil) .nil)
                    intro _
                    refine .ret ?_
                    have e71 : (false) = (true) := by first | exact absurd c8 (by rw [Env.same_self]; decide) | exact absurd c8 (by rw [Decl.same_self]; decide) | (rcases c8 with h9 | h9 <;> first | exact absurd h9 (by rw [Env.same_self]; decide) | (simp only [Decl.marks, Env.marks] at h9; omega)) | (simp only [Env.marks] at c8; omega) | (simp [Env.marks, Env.mark, mkAll_len] at c8)
                    have hc72 := eq1 (fun z1 => SV.one (.d (.v (.bool (z1))))) e71
                    show _ ∧ _
                    exact ⟨.inr rfl, .done ⟨_, [], [], _, .one (c := .d (.v (.bool (true)))) (hc72) .nil, .cons (Reads.d _).gives .nil, nodupB_ok rfl, by simp, (by simp)⟩⟩
                  · have c8 := c8
                    try simp only [Bool.or_eq_true, Bool.or_eq_false_iff, Bool.and_eq_true, Bool.and_eq_false_iff, decide_eq_true_eq, decide_eq_false_iff_not, Bool.not_eq_true', Bool.not_eq_false', bne_iff_ne, beq_iff_eq, bne_eq_false_iff_eq, beq_eq_false_iff_ne, ne_eq, Bool.not_eq_eq_eq_not, Bool.not_true, Bool.not_false] at c8
                    refine .skip ?_
                    refine .seq ?_
                    refine .reg (X := Unit) (fun ζ => .of [(13, .one (.ptr [13] (g29) 0)), (15, .one (.d (.v (.int .i64 (Env.marks 1 (Env.setIn d e v a)))))), (16, .one (.d (.v (.int .i64 (1)))))] [([13], (g29, g30, .box [.d (.v (.bool ((Env.setIn d e v a).live))), .ref [45, 1] (g31), .ref [45, 2] (g31)])), ([45, 1], (g31, g54, .row 60 2 (List.map Iv.c ((Env.mark 1 (Env.setIn d e v a)).ints)))), ([45, 2], (g31, g54, .row 60 2 (List.map Iv.c ((Env.mark 1 (Env.setIn d e v a)).arrs))))]) [⟨[], some 16, [], []⟩] (fun k73 => ?_) ?_
                    · skip
                      refine .assign (.no rfl) rfl rfl rfl rfl ?_
                      exact .fin () (.of (.cons rfl (.cons rfl (.cons rfl .nil))) (.cons rfl (.cons rfl (.cons rfl .nil))))
                    intro _
                    refine .seq ?_
                    refine .reg (X := Unit) (fun ζ => .of [(15, .one (.d (.v (.int .i64 (Env.marks 1 (Env.setIn d e v a)))))), (16, .one (.d (.v (.int .i64 (Env.marks 1 (Env.mk ((Env.setIn d e v a).live) ((Env.mark 1 (Env.setIn d e v a)).ints) ((Env.mark 1 (Env.setIn d e v a)).arrs)))))))] []) [⟨[13], some 97, [[13]], []⟩, ⟨[16], some 98, [], []⟩, ⟨[97, 98], some 99, [[45, 1], [45, 2]], []⟩, ⟨[99], some 16, [], []⟩] (fun k74 => ?_) ?_
                    · skip
                      refine .load (.no rfl) rfl t30 rfl rfl (.ptr _ _ _ _ _ rfl) rfl rfl rfl rfl ?_
                      refine .move (.no rfl) rfl rfl rfl rfl ?_
                      refine .call (.no rfl) rfl [[45, 1], [45, 2]] [([45, 1], (g31, g54, .row 60 2 (List.map Iv.c ((Env.mark 1 (Env.setIn d e v a)).ints)))), ([45, 2], (g31, g54, .row 60 2 (List.map Iv.c ((Env.mark 1 (Env.setIn d e v a)).arrs))))] (c_heldEnv (Env.mk ((Env.setIn d e v a).live) ((Env.mark 1 (Env.setIn d e v a)).ints) ((Env.mark 1 (Env.setIn d e v a)).arrs)) 1 (by first | assumption | omega | (have q0 := szDecl_len hv hf ha (by omega) c0; omega) | (have q0 := szDecl_len hv hf ha (by omega) c0; have q1 := szEnv_len (by omega) c1; omega) | (have q0 := szDecl_len hv hf ha (by omega) c0; have q1 := szEnv_len (by omega) c1; first | omega | (have q9 := setIn_len (d := d) (e := e) (v := v) (a := a) (n := 1048576) (by omega); first | omega | (simp only [Decl.marks, Env.marks, Env.mark, mkAll_len]; omega))) | (intro i hi; exact mkAll_get (mIv 1) _ (by simpa only [Env.mark, mkAll_len] using hi)) | (intro i hi; simp only [Env.mark, mkAll_len] at hi ⊢; exact mkAll_get _ _ hi)) (by first | assumption | omega | (have q0 := szDecl_len hv hf ha (by omega) c0; omega) | (have q0 := szDecl_len hv hf ha (by omega) c0; have q1 := szEnv_len (by omega) c1; omega) | (have q0 := szDecl_len hv hf ha (by omega) c0; have q1 := szEnv_len (by omega) c1; first | omega | (have q9 := setIn_len (d := d) (e := e) (v := v) (a := a) (n := 1048576) (by omega); first | omega | (simp only [Decl.marks, Env.marks, Env.mark, mkAll_len]; omega))) | (intro i hi; exact mkAll_get (mIv 1) _ (by simpa only [Env.mark, mkAll_len] using hi)) | (intro i hi; simp only [Env.mark, mkAll_len] at hi ⊢; exact mkAll_get _ _ hi)) (by first | assumption | omega | (have q0 := szDecl_len hv hf ha (by omega) c0; omega) | (have q0 := szDecl_len hv hf ha (by omega) c0; have q1 := szEnv_len (by omega) c1; omega) | (have q0 := szDecl_len hv hf ha (by omega) c0; have q1 := szEnv_len (by omega) c1; first | omega | (have q9 := setIn_len (d := d) (e := e) (v := v) (a := a) (n := 1048576) (by omega); first | omega | (simp only [Decl.marks, Env.marks, Env.mark, mkAll_len]; omega))) | (intro i hi; exact mkAll_get (mIv 1) _ (by simpa only [Env.mark, mkAll_len] using hi)) | (intro i hi; simp only [Env.mark, mkAll_len] at hi ⊢; exact mkAll_get _ _ hi)) (by first | assumption | omega | (have q0 := szDecl_len hv hf ha (by omega) c0; omega) | (have q0 := szDecl_len hv hf ha (by omega) c0; have q1 := szEnv_len (by omega) c1; omega) | (have q0 := szDecl_len hv hf ha (by omega) c0; have q1 := szEnv_len (by omega) c1; first | omega | (have q9 := setIn_len (d := d) (e := e) (v := v) (a := a) (n := 1048576) (by omega); first | omega | (simp only [Decl.marks, Env.marks, Env.mark, mkAll_len]; omega))) | (intro i hi; exact mkAll_get (mIv 1) _ (by simpa only [Env.mark, mkAll_len] using hi)) | (intro i hi; simp only [Env.mark, mkAll_len] at hi ⊢; exact mkAll_get _ _ hi))) rfl rfl rfl rfl rfl (.cons (Reads.d _).gives (.cons (Reads.ref (Frz.of_erase (erase_sl _ _ _ _ _ Iv.c_e)) (.head _) (.head _)).gives (.cons (Reads.ref (Frz.of_erase (erase_sl _ _ _ _ _ Iv.c_e)) (.tail _ (.head _)) (.tail _ (.head _))).gives (.cons (Reads.d _).gives .nil)))) rfl rfl (fun _ => (ownCons (Owned.v _) ownNil)) (.own [99, 0] .nil) (.nil) rfl rfl rfl (AllH.get (.cons rfl (.cons rfl .nil))) rfl rfl rfl ?_
                      refine .assign (.no rfl) rfl rfl rfl rfl ?_
                      exact .fin () (.of (.cons rfl (.cons rfl .nil)) .nil)
                    intro _
                    refine .seq ?_
                    refine .seq ?_
                    refine .reg (X := Unit) (fun ζ => .of [(15, .one (.d (.v (.int .i64 (Env.marks 1 (Env.setIn d e v a)))))), (16, .one (.d (.v (.int .i64 (Env.marks 1 (Env.mk ((Env.setIn d e v a).live) ((Env.mark 1 (Env.setIn d e v a)).ints) ((Env.mark 1 (Env.setIn d e v a)).arrs))))))), (101, .one (.d (.v (.bool (decide ((Env.marks 1 (Env.mk ((Env.setIn d e v a).live) ((Env.mark 1 (Env.setIn d e v a)).ints) ((Env.mark 1 (Env.setIn d e v a)).arrs))) < 0))))))] []) [⟨[16], some 100, [], []⟩, ⟨[100], some 101, [], []⟩] (fun k75 => ?_) ?_
                    · skip
                      refine .move (.no rfl) rfl rfl rfl rfl ?_
                      refine .bin (.no rfl) rfl rfl rfl rfl rfl rfl ?_
                      exact .fin () (.of (.cons rfl (.cons rfl (.cons rfl .nil))) .nil)
                    intro _
                    refine .cond (t := decide ((Env.marks 1 (Env.mk ((Env.setIn d e v a).live) ((Env.mark 1 (Env.setIn d e v a)).ints) ((Env.mark 1 (Env.setIn d e v a)).arrs))) < 0)) rfl (fun c9 => ?_) (fun c9 => ?_)
                    · have c9 := of_decide_eq_true c9
                      refine .seq ?_
                      refine .reg (X := Unit) (fun ζ => .of [(8, .one (.d (.v (.bool (false)))))] []) [⟨[], some 8, [], []⟩] (fun k76 => ?_) ?_
                      · skip
                        refine .assign (.no rfl) rfl rfl rfl rfl ?_
                        exact .fin () (.of (.cons rfl .nil) .nil)
                      intro _
                      refine .ret ?_
                      have e77 : (false) = (true) := by first | exact absurd c9 (by rw [Env.same_self]; decide) | exact absurd c9 (by rw [Decl.same_self]; decide) | (rcases c9 with h9 | h9 <;> first | exact absurd h9 (by rw [Env.same_self]; decide) | (simp only [Decl.marks, Env.marks] at h9; omega)) | (simp only [Env.marks] at c9; omega) | (simp [Env.marks, Env.mark, mkAll_len] at c9)
                      have hc78 := eq1 (fun z1 => SV.one (.d (.v (.bool (z1))))) e77
                      show _ ∧ _
                      exact ⟨.inr rfl, .done ⟨_, [], [], _, .one (c := .d (.v (.bool (true)))) (hc78) .nil, .cons (Reads.d _).gives .nil, nodupB_ok rfl, by simp, (by simp)⟩⟩
                    · have c9 := of_decide_eq_false c9
                      refine .skip ?_
                      refine .seq ?_
                      refine .seq ?_
                      refine .reg (X := Unit) (fun ζ => .of [(104, .one (.d (.v (.bool ((Env.marks 1 (Env.mk ((Env.setIn d e v a).live) ((Env.mark 1 (Env.setIn d e v a)).ints) ((Env.mark 1 (Env.setIn d e v a)).arrs))) != (Env.marks 1 (Env.setIn d e v a)))))))] []) [⟨[16], some 102, [], []⟩, ⟨[15], some 103, [], []⟩, ⟨[102, 103], some 104, [], []⟩] (fun k79 => ?_) ?_
                      · skip
                        refine .move (.no rfl) rfl rfl rfl rfl ?_
                        refine .move (.no rfl) rfl rfl rfl rfl ?_
                        refine .bin (.no rfl) rfl rfl rfl rfl rfl rfl ?_
                        exact .fin () (.of (.cons rfl .nil) .nil)
                      intro _
                      refine .cond (t := (Env.marks 1 (Env.mk ((Env.setIn d e v a).live) ((Env.mark 1 (Env.setIn d e v a)).ints) ((Env.mark 1 (Env.setIn d e v a)).arrs))) != (Env.marks 1 (Env.setIn d e v a))) rfl (fun c10 => ?_) (fun c10 => ?_)
                      · have c10 := (by simpa using c10 : ¬ ((Env.marks 1 (Env.mk ((Env.setIn d e v a).live) ((Env.mark 1 (Env.setIn d e v a)).ints) ((Env.mark 1 (Env.setIn d e v a)).arrs))) = (Env.marks 1 (Env.setIn d e v a))))
                        refine .seq ?_
                        refine .reg (X := Unit) (fun ζ => .of [(8, .one (.d (.v (.bool (false)))))] []) [⟨[], some 8, [], []⟩] (fun k80 => ?_) ?_
                        · skip
                          refine .assign (.no rfl) rfl rfl rfl rfl ?_
                          exact .fin () (.of (.cons rfl .nil) .nil)
                        intro _
                        refine .ret ?_
                        have e81 : (false) = (true) := by first | exact absurd c10 (by rw [Env.same_self]; decide) | exact absurd c10 (by rw [Decl.same_self]; decide) | (rcases c10 with h9 | h9 <;> first | exact absurd h9 (by rw [Env.same_self]; decide) | (simp only [Decl.marks, Env.marks] at h9; omega)) | (simp only [Env.marks] at c10; omega) | (simp [Env.marks, Env.mark, mkAll_len] at c10)
                        have hc82 := eq1 (fun z1 => SV.one (.d (.v (.bool (z1))))) e81
                        show _ ∧ _
                        exact ⟨.inr rfl, .done ⟨_, [], [], _, .one (c := .d (.v (.bool (true)))) (hc82) .nil, .cons (Reads.d _).gives .nil, nodupB_ok rfl, by simp, (by simp)⟩⟩
                      · have c10 := (by simpa using c10 : (Env.marks 1 (Env.mk ((Env.setIn d e v a).live) ((Env.mark 1 (Env.setIn d e v a)).ints) ((Env.mark 1 (Env.setIn d e v a)).arrs))) = (Env.marks 1 (Env.setIn d e v a)))
                        refine .skip ?_
                        refine .seq ?_
                        refine .reg (X := Unit) (fun ζ => .of [(8, .one (.d (.v (.bool (true)))))] []) [⟨[], some 8, [], []⟩] (fun k83 => ?_) ?_
                        · skip
                          refine .assign (.no rfl) rfl rfl rfl rfl ?_
                          exact .fin () (.of (.cons rfl .nil) .nil)
                        intro _
                        refine .ret ?_
                        show _ ∧ _
                        exact ⟨.inr rfl, .done ⟨_, [], [], _, .one rfl .nil, .cons (Reads.d _).gives .nil, nodupB_ok rfl, by simp, (by simp)⟩⟩
end Go.Proofs

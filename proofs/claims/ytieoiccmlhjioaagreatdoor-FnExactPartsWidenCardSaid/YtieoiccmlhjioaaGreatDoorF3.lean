/- Contracts of the program's functions at this seat, printed by a program of ours and checked by Lean: each under the conditions of its own statement. -/
import Derived.Test.YtieoiccmlhjioaaGreatDoorF2
set_option linter.all false
set_option linter.unnecessarySimpa false
set_option linter.unusedSectionVars false
set_option linter.unusedSimpArgs false
set_option linter.unusedVariables false
namespace Go.Proofs
open Go Go.Proofs Go.Ev

theorem c_sTableOk (d : Decl) (t : List Env) (hs : ∀ x ∈ Decl.names d, x.size ≤ 9223372036854775807) (hd : d.vars.length ≤ 1048576 ∧ d.flags.length ≤ 1048576 ∧ d.arrays.length ≤ 1048576) (hx : ∀ x ∈ t, x.ints.length ≤ 1048576 ∧ x.arrs.length ≤ 1048576) : Trip Tryz.prog 75 [(true, 3), (false, 1)] (Decl.c33 d ++ [.sl false 98 3 (List.map Env.c98 (t))]) [(false, 1)] [.v (.bool (Table.ok d t))] [] := by
 refine Trip.of Tryz.func75 (by decide) (c := _) rfl rfl (Nat.le_of_ble_eq_true rfl) rfl (AftOk.nil _) <| .sla (t := 0) 0 rfl rfl fun hs1l => .sla (t := 0) 1 rfl rfl fun hs2l => .sla (t := 0) 2 rfl rfl fun hs3l => .sl (t := 1) rfl fun hs4l => .seq <| .rs fun k5 => .g (fun _ τ => ⟨_, .box (.no rfl) rfl rfl rfl rfl rfl τ⟩) <| .as rfl ?_
 refine .z <| .seq <| .seq ?_
 refine .reg (X := Unit) (fun ζ => .of [(1, .one (.d (.sl false 98 3 (List.map Env.c98 (t))))), (2, .one (.ptr [2] (k5) 0)), (15, .one (.d (.v (.bool ((!(Decl.ok d) || (t.length : Int) != (leavesOf d)))))))] [([2], (k5, k5, .box [.d (.sl false 9 1 (List.map strc (d.vars))), .d (.sl false 9 1 (List.map strc (d.flags))), .d (.sl false 112 2 (List.map Arr.c (d.arrays)))]))]) [⟨[2], some 6, [[2]], []⟩, ⟨[6], some 7, [], []⟩, ⟨[7], some 8, [], []⟩, ⟨[8], some 9, [], []⟩, ⟨[9, 1], some 10, [], []⟩, ⟨[9, 10], some 11, [], []⟩, ⟨[9, 2], some 12, [[2]], []⟩, ⟨[9, 12], some 13, [], []⟩, ⟨[9, 11, 13], some 14, [], []⟩, ⟨[9, 14], some 15, [], []⟩] (fun k6 => ?_) ?_
 ·skip
  refine .load (.no rfl) rfl t33 rfl rfl (.ptr _ _ _ _ _ rfl) rfl rfl rfl rfl <| .call (.no rfl) rfl [] [] (c_sDeclOk d (by first | assumption | exact hx _ (getD_mem (by omega))) (by first | assumption | exact hx _ (getD_mem (by omega)))) rfl rfl rfl rfl rfl (.dd (.dd (.dd .nil))) rfl rfl (fun h => absurd rfl h) (.own [7, 0] .nil) (.nil) rfl rfl rfl (by simp) rfl rfl rfl <| .un (.no rfl) rfl rfl rfl rfl rfl <| .moveB (.no rfl) rfl rfl rfl rfl fun b7 g1_3 => ?_
  cases b7
  ·skip
   refine .move (.on rfl rfl rfl rfl rfl) rfl rfl rfl rfl <| .len (.on rfl rfl rfl rfl rfl) rfl (z := (t.length : Int)) t60 rfl rfl rfl (.d _ _) (map_len _ _) rfl <| .load (.on rfl rfl rfl rfl rfl) rfl t33 rfl rfl (.ptr _ _ _ _ _ rfl) rfl rfl rfl rfl <| .call (.on rfl rfl rfl rfl rfl) rfl [] [] (c_l8Size d) rfl rfl rfl rfl rfl (.dd (.dd (.dd .nil))) rfl rfl (fun h => absurd rfl h) (.own [13, 0] .nil) (.nil) rfl rfl rfl (by simp) rfl rfl rfl <| .bin (.on rfl rfl rfl rfl rfl) rfl rfl rfl rfl rfl rfl <| .pick (.no rfl) rfl rfl rfl rfl rfl ?_
   exact .fin () (.of (.cons rfl (.cons rfl (.cons (svB (show ((t.length : Int) != (leavesOf d)) = ((!(Decl.ok d) || (t.length : Int) != (leavesOf d))) by first | (simp only [g1_3, Bool.true_or, Bool.false_or, Bool.true_and, Bool.false_and, Bool.not_true, Bool.not_false]; done) | (simp [g1_3]; done) | (exfalso; simp_all; done))) .nil))) (.r rfl))
  ·skip
   refine .off rfl rfl rfl rfl rfl rfl rfl <| .off rfl rfl rfl rfl rfl rfl rfl <| .off rfl rfl rfl rfl rfl rfl rfl <| .off rfl rfl rfl rfl rfl rfl rfl <| .off rfl rfl rfl rfl rfl rfl rfl <| .pick (.no rfl) rfl rfl rfl rfl rfl ?_
   exact .fin () (.of (.cons rfl (.cons rfl (.cons (svB (show (true) = ((!(Decl.ok d) || (t.length : Int) != (leavesOf d))) by first | (simp only [g1_3, Bool.true_or, Bool.false_or, Bool.true_and, Bool.false_and, Bool.not_true, Bool.not_false]; done) | (simp [g1_3]; done) | (exfalso; simp_all; done))) .nil))) (.r rfl))
 intro _
 refine .cond (t := (!(Decl.ok d) || (t.length : Int) != (leavesOf d))) rfl (fun c0 => ?_) (fun c0 => ?_)
 ·have c0 := (oT (nT id) bT) c0
  refine .seq <| .rs fun k8 => .as rfl <| .z <| .ret ?_
  exact fin0 (.inr rfl) (.one (svB (show (false) = (Table.ok d t) by (unfold Table.ok Table.isIn; rcases c0 with h | h <;> simp [h]))) .nil) (.dd .nil) rfl
 ·have c0 := (oF (nF id) bF) c0
  refine .skip <| .seq <| .seq <| .rs fun k10 => .as rfl <| .z <| .block ?_
  refine .loop (X := Nat) (fun ζ => .of [(1, .one (.d (.sl false 98 3 (List.map Env.c98 (t))))), (2, .one (.ptr [2] (k5) 0)), (5, .one (.d (.v (.int .i64 ((ζ : Int))))))] [([2], (k5, k5, .box [.d (.sl false 9 1 (List.map strc (d.vars))), .d (.sl false 9 1 (List.map strc (d.flags))), .d (.sl false 112 2 (List.map Arr.c (d.arrays)))]))]) (fun ζ => ζ ≤ t.length ∧ allTo ζ (fun i => Env.okIn d (t.getD i default)) = true) (fun ζ => t.length - ζ) ?_ ?_
  ·skip
   exact .here 0 (.of (.cons rfl (.cons rfl (.cons (svI (show (0) = ((0 : Int)) by first | rfl | omega | exact wrap_le (by omega) (by omega) | (rw [wrap_le (by omega) (by omega)]; omega))) .nil))) (.r rfl)) (show 0 ≤ t.length ∧ allTo 0 (fun i => Env.okIn d (t.getD i default)) = true by exact ⟨by omega, rfl⟩)
  ·rintro j hI
   have hI : j ≤ t.length ∧ allTo j (fun i => Env.okIn d (t.getD i default)) = true := hI
   refine .seq <| .seq <| .rs fun k11 => .mv rfl <| .mv rfl <| .g (fun _ τ => ⟨_, .len (.no rfl) rfl (z := (t.length : Int)) t60 rfl rfl rfl (.d _ _) (map_len _ _) rfl τ⟩) <| .bi rfl <| .z ?_
   refine .cond (t := decide ((j : Int) < (t.length : Int))) rfl (fun c1 => ?_) (fun c1 => ?_)
   ·have c1 := of_decide_eq_true c1
    refine .skip <| .seq <| .block <| .seq ?_
    refine .regD (X := Unit) (by kernel_rfl) (fun ζ => .of [(1, .one (.d (.sl false 98 3 (List.map Env.c98 (t))))), (2, .one (.ptr [2] (k5) 0)), (5, .one (.d (.v (.int .i64 ((j : Int)))))), (28, .one (.d (.v (.bool (!(Decl.ok d && Env.okIn d (t.getD j default)))))))] [([2], (k5, k5, .box [.d (.sl false 9 1 (List.map strc (d.vars))), .d (.sl false 9 1 (List.map strc (d.flags))), .d (.sl false 112 2 (List.map Arr.c (d.arrays)))]))]) [⟨[2], some 22, [[2]], []⟩, ⟨[1], some 23, [], []⟩, ⟨[5], some 24, [], []⟩, ⟨[23, 24], some 25, [], []⟩, ⟨[25], some 26, [], []⟩, ⟨[22, 26], some 27, [], []⟩, ⟨[27], some 28, [], []⟩] (by kernel_rfl) (fun k12 => ?_) ?_
    ·skip
     refine .load (.no rfl) rfl t33 rfl rfl (.ptr _ _ _ _ _ rfl) rfl rfl rfl rfl <| .move (.no rfl) rfl rfl rfl rfl <| .move (.no rfl) rfl rfl rfl rfl <| .indexAddr (.no rfl) rfl (j) t60 rfl t98 rfl rfl rfl (.d _ _) rfl rfl rfl (map_get (by omega)) rfl rfl <| .load (.no rfl) rfl t98 rfl rfl (.d _) rfl rfl rfl rfl <| .call (.no rfl) rfl [] [] (c_sEnvOk d (t.getD j default) (by first | assumption | exact hx _ (getD_mem (by omega))) (by first | assumption | exact hx _ (getD_mem (by omega))) (by first | assumption | exact hx _ (getD_mem (by omega)))) rfl rfl rfl rfl rfl (.dd (.dd (.dd (.dd (.dd (.dd .nil)))))) rfl rfl (fun h => absurd rfl h) (.own [27, 0] .nil) (.nil) rfl rfl rfl (by simp) rfl rfl rfl <| .un (.no rfl) rfl rfl rfl rfl rfl ?_
     exact .fin () (.of (.r rfl) (.r rfl))
    intro _
    refine .cond (t := !(Decl.ok d && Env.okIn d (t.getD j default))) rfl (fun c2 => ?_) (fun c2 => ?_)
    ·have c2 := (nT (aF id id)) c2
     refine .seq <| .rs fun k13 => .as rfl <| .z <| .ret ?_
     exact fin0 (.inr rfl) (.one (svB (show (false) = (Table.ok d t) by (unfold Table.ok Table.isIn; rw [all_none (p := Env.okIn d) (j := j) (by omega) (by rcases c2 with h | h <;> first | exact h | (rw [c0.1] at h; exact absurd h (by decide))), Bool.and_false, Bool.and_false]))) .nil) (.dd .nil) rfl
    ·have c2 := (nF (aT id id)) c2
     refine .skip <| .rs fun k15 => .mv rfl <| .bi rfl <| .as rfl <| .z ?_
     exact .here (j + 1) (.of (.cons rfl (.cons rfl (.cons (svI (show (IntKind.wrap .i64 ((j : Int) + 1)) = (((j + 1) : Int)) by first | rfl | omega | exact wrap_le (by omega) (by omega) | (rw [wrap_le (by omega) (by omega)]; omega))) .nil))) (.r rfl)) ⟨(show (j + 1) ≤ t.length ∧ allTo (j + 1) (fun i => Env.okIn d (t.getD i default)) = true by exact ⟨by omega, allTo_step hI.2 c2.2⟩), (show t.length - (j + 1) < t.length - j by omega)⟩
   ·have c1 := of_decide_eq_false c1
    refine .exit <| .seq <| .rs fun k16 => .as rfl <| .z <| .ret ?_
    exact fin0 (.inr rfl) (.one (svB (show (true) = (Table.ok d t) by (unfold Table.ok Table.isIn; rw [c0.1, all_done (p := Env.okIn d) (j := j) (by omega) hI.2]; simp [c0.2]))) .nil) (.dd .nil) rfl
end Go.Proofs

namespace Go.Proofs
open Go Go.Proofs Go.Ev

theorem c_isTable (d : Decl) (t : List Env) : Trip Tryz.prog 162 [(true, 3), (false, 1)] (Decl.c33 d ++ [.sl false 98 3 (List.map Env.c98 (t))]) [(false, 1)] [.v (.bool (Table.isIn d t))] [] := by
 refine Trip.of Tryz.func162 (by decide) (c := _) rfl rfl (Nat.le_of_ble_eq_true rfl) rfl (AftOk.nil _) <| .sla (t := 0) 0 rfl rfl fun hs1l => .sla (t := 0) 1 rfl rfl fun hs2l => .sla (t := 0) 2 rfl rfl fun hs3l => .sl (t := 1) rfl fun hs4l => .seq <| .rs fun k5 => .g (fun _ τ => ⟨_, .box (.no rfl) rfl rfl rfl rfl rfl τ⟩) <| .as rfl ?_
 refine .z <| .seq ?_
 refine .regD (X := Unit) (by kernel_rfl) (fun ζ => .of [(4, .one (.d (.v (.bool (((t.length : Int) == (leavesOf d) && t.all (fun x0 => Env.okIn d x0)))))))] []) [⟨[1], some 5, [], []⟩, ⟨[5], some 6, [], []⟩, ⟨[2], some 7, [[2]], []⟩, ⟨[7], some 8, [], []⟩, ⟨[6, 8], some 9, [], []⟩, ⟨[9], some 10, [], []⟩, ⟨[10, 1], some 11, [], []⟩, ⟨[10, 2], some 12, [[2]], []⟩, ⟨[10, 12], some 13, [], []⟩, ⟨[10, 11, 13], some 14, [], []⟩, ⟨[10, 14], some 15, [], []⟩, ⟨[15], some 4, [], []⟩] (by kernel_rfl) (fun k6 => ?_) ?_
 ·skip
  refine .move (.no rfl) rfl rfl rfl rfl <| .call (.no rfl) rfl [] [] (c_sizeE t) rfl rfl rfl rfl rfl (.dd .nil) rfl rfl (fun h => absurd rfl h) (.own [6, 0] .nil) (.nil) rfl rfl rfl (by simp) rfl rfl rfl <| .load (.no rfl) rfl t33 rfl rfl (.ptr _ _ _ _ _ rfl) rfl rfl rfl rfl <| .call (.no rfl) rfl [] [] (c_leaves d) rfl rfl rfl rfl rfl (.dd (.dd (.dd .nil))) rfl rfl (fun h => absurd rfl h) (.own [8, 0] .nil) (.nil) rfl rfl rfl (by simp) rfl rfl rfl <| .bin (.no rfl) rfl rfl rfl rfl rfl rfl <| .moveB (.no rfl) rfl rfl rfl rfl fun b7 g1_5 => ?_
  cases b7
  ·skip
   refine .off rfl rfl rfl rfl rfl rfl rfl <| .off rfl rfl rfl rfl rfl rfl rfl <| .off rfl rfl rfl rfl rfl rfl rfl <| .off rfl rfl rfl rfl rfl rfl rfl <| .pick (.no rfl) rfl rfl rfl rfl rfl <| .assign (.no rfl) rfl rfl rfl rfl ?_
   exact .fin () (.of (.cons (svB (show (false) = (((t.length : Int) == (leavesOf d) && t.all (fun x0 => Env.okIn d x0))) by first | (simp only [g1_5, Bool.true_or, Bool.false_or, Bool.true_and, Bool.false_and, Bool.not_true, Bool.not_false]; done) | (simp [g1_5]; done) | (exfalso; simp_all; done))) .nil) .nil)
  ·skip
   refine .move (.on rfl rfl rfl rfl rfl) rfl rfl rfl rfl <| .load (.on rfl rfl rfl rfl rfl) rfl t33 rfl rfl (.ptr _ _ _ _ _ rfl) rfl rfl rfl rfl <| .makeFunc (.on rfl rfl rfl rfl rfl) rfl rfl rfl rfl rfl <| .call (.on rfl rfl rfl rfl rfl) rfl [] [] (c_areAllE t 199 [(true, [.sl false 9 1 (List.map strc (d.vars)), .sl false 9 1 (List.map strc (d.flags)), .sl false 112 2 (List.map Arr.c (d.arrays))])] [] (fun x0 => Env.okIn d x0) (fun x0 => c_isEnv d x0)) rfl rfl rfl rfl rfl (.dd (.cons (Reads.clo1 (.cons (Reads.d _) (.cons (Reads.d _) (.cons (Reads.d _) .nil))) (.nil)).gives .nil)) rfl rfl (fun h => absurd rfl h) (.own [14, 0] .nil) (.nil) rfl rfl rfl (by simp) rfl rfl rfl <| .pick (.no rfl) rfl rfl rfl rfl rfl <| .assign (.no rfl) rfl rfl rfl rfl ?_
   exact .fin () (.of (.cons (svB (show (t.all (fun x0 => Env.okIn d x0)) = (((t.length : Int) == (leavesOf d) && t.all (fun x0 => Env.okIn d x0))) by first | (simp only [g1_5, Bool.true_or, Bool.false_or, Bool.true_and, Bool.false_and, Bool.not_true, Bool.not_false]; done) | (simp [g1_5]; done) | (exfalso; simp_all; done))) .nil) .nil)
 intro _
 refine .ret ?_
 exact fin0 (.inr rfl) (.one (svB (show (((t.length : Int) == (leavesOf d) && t.all (fun x0 => Env.okIn d x0))) = (Table.isIn d t) by rfl)) .nil) (.dd .nil) rfl
end Go.Proofs

namespace Go.Proofs
open Go Go.Proofs Go.Ev

theorem c_markEnvS (a : List Env) (k : Int) (hk : 0 ≤ k ∧ k ≤ 1125899906842624) (hx : Small 1048576 a) : Trip Tryz.prog 56 [(false, 1), (false, 1)] ([.sl true 98 3 (List.map Env.co98 (a))] ++ [.v (.int .i64 (k))]) [(false, 1)] [.v (.int .i64 (EnvS.marks k a))] [(0, .sl true 98 3 (List.map Env.co98 (EnvS.mark k a)))] := by
 refine Trip.of Tryz.func56 (by decide) (c := _) rfl rfl (Nat.le_of_ble_eq_true rfl) rfl (AftOk.sl rfl (AftOk.nil _)) <| .seq <| .rs fun k1 => .as rfl <| .z <| .seq <| .seq <| .rs fun k2 => .as rfl ?_
 refine .z <| .block ?_
 refine .loop (X := Nat × Nat) (fun ζ => .of [(0, .one (.ref [0, 0, 0] (0))), (1, .one (.d (.v (.int .i64 (EnvS.at k a ζ.1))))), (5, .one (.d (.v (.int .i64 ((ζ.1 : Int))))))] [([0, 0, 0], (0, ζ.2, .row 98 3 (List.map Env.co98 (mkTo (EnvS.mk k a) a ζ.1))))]) (fun ζ => ζ.1 ≤ a.length) (fun ζ => a.length - ζ.1) ?_ ?_
 ·skip
  exact .here (0, 0) (.of (.cons rfl (.cons (svI (show (k) = (EnvS.at k a 0) by first | rfl | omega | exact (EnvS.at_zero k a).symm | (have hl9 : j < (mkTo (EnvS.mk k a) a j).length := (by rw [mkTo_len]; omega); have hr9 := EnvS.round (k := k) (a := a) (j := j) (by omega) rfl rfl rfl (wrap_le (a := EnvS.at k a j + 1) (by omega) (by omega)) rfl rfl; exact hr9.2) | exact wrap_le (by omega) (by omega))) (.cons (svI (show (0) = ((0 : Int)) by first | rfl | omega | exact (EnvS.at_zero k a).symm | (have hl9 : j < (mkTo (EnvS.mk k a) a j).length := (by rw [mkTo_len]; omega); have hr9 := EnvS.round (k := k) (a := a) (j := j) (by omega) rfl rfl rfl (wrap_le (a := EnvS.at k a j + 1) (by omega) (by omega)) rfl rfl; exact hr9.2) | exact wrap_le (by omega) (by omega))) .nil))) (.cons (rowE (show List.map Env.co98 (a) = List.map Env.co98 (mkTo (EnvS.mk k a) a 0) by first | (rw [← mkTo_zero]) | (have hl9 : j < (mkTo (EnvS.mk k a) a j).length := (by rw [mkTo_len]; omega); have hr9 := EnvS.round (k := k) (a := a) (j := j) (by omega) rfl rfl rfl (wrap_le (a := EnvS.at k a j + 1) (by omega) (by omega)) rfl rfl; exact congrArg _ hr9.1))) .nil)) (show 0 ≤ a.length by omega)
 ·rintro ⟨j, q3⟩ hI
  have hI : j ≤ a.length := hI
  have hA9 : a.length ≤ 1048576 := hx.1
  have hb9 := EnvS.bnd (k := k) hx (j := j) (by omega) hk
  have hE9 : j < a.length → (a.getD j default).ints.length ≤ 1048576 ∧ (a.getD j default).arrs.length ≤ 1048576 := fun h => hx.2 _ (getD_mem h)
  have hL : (mkTo (EnvS.mk k a) a j).length = a.length := mkTo_len _ _ _
  dsimp only
  refine .seq <| .seq <| .rs fun k4 => .mv rfl <| .mv rfl <| .g (fun _ τ => ⟨_, .len (.no rfl) rfl (z := ((mkTo (EnvS.mk k a) a j).length : Int)) t60 rfl rfl rfl (.ref _ _ _ _ _ rfl) (map_len _ _) rfl τ⟩) <| .bi rfl <| .z ?_
  refine .cond (t := decide ((j : Int) < ((mkTo (EnvS.mk k a) a j).length : Int))) rfl (fun c0 => ?_) (fun c0 => ?_)
  ·have c0 := of_decide_eq_true c0
   refine .skip <| .seq <| .block <| .seq <| .rs fun k5 => .mv rfl <| .mv rfl <| .mv rfl <| .g (fun _ τ => ⟨_, .quoRem (.no rfl) rfl (.inr ⟨rfl, rfl⟩) rfl rfl rfl rfl rfl τ⟩) ?_
   refine .bi rfl <| .g (fun _ τ => ⟨_, .indexAddr (.no rfl) rfl (j) t60 rfl t98 rfl rfl rfl (.ref _ _ _ _ _ rfl) rfl rfl rfl (map_get (by first | omega | (simp only [List.length_set, mkTo_len]; omega))) rfl rfl τ⟩) <| .g (fun _ τ => ⟨_, .fieldAddr (.no rfl) rfl t98 rfl rfl t4 rfl rfl rfl rfl [] (by simp) (by intro _ _ _ h; cases h) rfl rfl τ⟩) ?_
   refine .g (fun _ τ => ⟨_, .storeE (.no rfl) rfl (els' := List.map Env.co98 ((mkTo (EnvS.mk k a) a j).set j (Env.mk ((Int.tmod (EnvS.at k a j) 3) == 0) (((mkTo (EnvS.mk k a) a j).getD (j) default).ints) (((mkTo (EnvS.mk k a) a j).getD (j) default).arrs)))) t4 rfl rfl rfl rfl (map_get (by first | omega | (simp only [List.length_set, mkTo_len]; omega))) rfl rfl (.cons _ _ _ _ _ _ (.d _) .nil) rfl (Nat.le_of_ble_eq_true rfl) (set_map _ _ _ (Env.mk ((Int.tmod (EnvS.at k a j) 3) == 0) (((mkTo (EnvS.mk k a) a j).getD (j) default).ints) (((mkTo (EnvS.mk k a) a j).getD (j) default).arrs)) _ rfl) rfl rfl τ⟩) <| .z <| .seq <| .rs fun k6 => .mv rfl <| .bi rfl <| .as rfl <| .z <| .seq ?_
   refine .rs fun k7 => .mv rfl <| .mv rfl <| .g (fun _ τ => ⟨_, .indexAddr (.no rfl) rfl (j) t60 rfl t98 rfl rfl rfl (.ref _ _ _ _ _ rfl) rfl rfl rfl (map_get (by first | omega | (simp only [List.length_set, mkTo_len]; omega))) rfl rfl τ⟩) <| .g (fun _ τ => ⟨_, .fieldAddr (.no rfl) rfl t98 rfl rfl t96 rfl rfl rfl rfl [] (by simp) (by intro _ _ _ h; cases h) rfl rfl τ⟩) <| .ld t96 rfl (At.as (cs' := [.part [0, 0, 0] (0) (k5 + 1 + 1 + 1 + 1 + 1 + 1 + 1) (j) 1, .part [0, 0, 0] (0) (k5 + 1 + 1 + 1 + 1 + 1 + 1 + 1) (j) 2]) (.lent _ _ _ _ _ _ _ _ _ rfl (map_get (by first | omega | (simp only [List.length_set, mkTo_len]; omega)))) (by simp [Env.co98, D.lent, erase_slo _ _ _ _ _ _ Iv.c_e, erase_slo _ _ _ _ _ _ Iv.c_e])) rfl <| .mv rfl ?_
   refine .g (fun _ τ => ⟨_, .lend (.no rfl) rfl (els' := List.map Env.co98 (((mkTo (EnvS.mk k a) a j).set j (Env.mk ((Int.tmod (EnvS.at k a j) 3) == 0) (((mkTo (EnvS.mk k a) a j).getD (j) default).ints) (((mkTo (EnvS.mk k a) a j).getD (j) default).arrs))).set j (Env.mk ((((mkTo (EnvS.mk k a) a j).set j (Env.mk ((Int.tmod (EnvS.at k a j) 3) == 0) (((mkTo (EnvS.mk k a) a j).getD (j) default).ints) (((mkTo (EnvS.mk k a) a j).getD (j) default).arrs))).getD (j) default).live) (mkAll (mIv (IntKind.wrap .i64 ((EnvS.at k a j) + 1))) ((((mkTo (EnvS.mk k a) a j).set j (Env.mk ((Int.tmod (EnvS.at k a j) 3) == 0) (((mkTo (EnvS.mk k a) a j).getD (j) default).ints) (((mkTo (EnvS.mk k a) a j).getD (j) default).arrs))).getD (j) default).ints)) ((((mkTo (EnvS.mk k a) a j).set j (Env.mk ((Int.tmod (EnvS.at k a j) 3) == 0) (((mkTo (EnvS.mk k a) a j).getD (j) default).ints) (((mkTo (EnvS.mk k a) a j).getD (j) default).arrs))).getD (j) default).arrs)))) (c_markIntervalS ((((mkTo (EnvS.mk k a) a j).set j (Env.mk ((Int.tmod (EnvS.at k a j) 3) == 0) (((mkTo (EnvS.mk k a) a j).getD (j) default).ints) (((mkTo (EnvS.mk k a) a j).getD (j) default).arrs))).getD (j) default).ints) (IntKind.wrap .i64 ((EnvS.at k a j) + 1)) (by (have hj8 : j < a.length := (by omega); have hl9 : j < (mkTo (EnvS.mk k a) a j).length := (by rw [mkTo_len]; omega); have hE8 := hE9 hj8; rw [wrap_le (a := EnvS.at k a j + 1) (by omega) (by omega)]; simp only [set_getD, List.length_set, mkTo_len, hl9, hj8, EnvS.get hj8]; (try simp only [mkAll_len]); omega))) rfl rfl rfl rfl (map_get (by first | omega | (simp only [List.length_set, mkTo_len]; omega))) rfl (Owned.map _ _ _ _ Iv.c_o) (by intro d hd; simp at hd; subst hd; exact ⟨_, rfl⟩) rfl rfl (set_map _ _ _ (Env.mk ((((mkTo (EnvS.mk k a) a j).set j (Env.mk ((Int.tmod (EnvS.at k a j) 3) == 0) (((mkTo (EnvS.mk k a) a j).getD (j) default).ints) (((mkTo (EnvS.mk k a) a j).getD (j) default).arrs))).getD (j) default).live) (mkAll (mIv (IntKind.wrap .i64 ((EnvS.at k a j) + 1))) ((((mkTo (EnvS.mk k a) a j).set j (Env.mk ((Int.tmod (EnvS.at k a j) 3) == 0) (((mkTo (EnvS.mk k a) a j).getD (j) default).ints) (((mkTo (EnvS.mk k a) a j).getD (j) default).arrs))).getD (j) default).ints)) ((((mkTo (EnvS.mk k a) a j).set j (Env.mk ((Int.tmod (EnvS.at k a j) 3) == 0) (((mkTo (EnvS.mk k a) a j).getD (j) default).ints) (((mkTo (EnvS.mk k a) a j).getD (j) default).arrs))).getD (j) default).arrs)) _ rfl) rfl rfl τ⟩) ?_
   refine .as rfl <| .z <| .rs fun k8 => .mv rfl <| .mv rfl <| .g (fun _ τ => ⟨_, .indexAddr (.no rfl) rfl (j) t60 rfl t98 rfl rfl rfl (.ref _ _ _ _ _ rfl) rfl rfl rfl (map_get (by first | omega | (simp only [List.length_set, mkTo_len]; omega))) rfl rfl τ⟩) <| .g (fun _ τ => ⟨_, .fieldAddr (.no rfl) rfl t98 rfl rfl t96 rfl rfl rfl rfl [] (by simp) (by intro _ _ _ h; cases h) rfl rfl τ⟩) <| .ld t96 rfl (At.as (cs' := [.part [0, 0, 0] (0) (k7 + 1 + 1 + 1 + 1 + 1 + 1) (j) 2]) (.lent _ _ _ _ _ _ _ _ _ rfl (map_get (by first | omega | (simp only [List.length_set, mkTo_len]; omega)))) (by simp [Env.co98, D.lent, erase_slo _ _ _ _ _ _ Iv.c_e, erase_slo _ _ _ _ _ _ Iv.c_e])) rfl <| .mv rfl ?_
   refine .g (fun _ τ => ⟨_, .lend (.no rfl) rfl (els' := List.map Env.co98 ((((mkTo (EnvS.mk k a) a j).set j (Env.mk ((Int.tmod (EnvS.at k a j) 3) == 0) (((mkTo (EnvS.mk k a) a j).getD (j) default).ints) (((mkTo (EnvS.mk k a) a j).getD (j) default).arrs))).set j (Env.mk ((((mkTo (EnvS.mk k a) a j).set j (Env.mk ((Int.tmod (EnvS.at k a j) 3) == 0) (((mkTo (EnvS.mk k a) a j).getD (j) default).ints) (((mkTo (EnvS.mk k a) a j).getD (j) default).arrs))).getD (j) default).live) (mkAll (mIv (IntKind.wrap .i64 ((EnvS.at k a j) + 1))) ((((mkTo (EnvS.mk k a) a j).set j (Env.mk ((Int.tmod (EnvS.at k a j) 3) == 0) (((mkTo (EnvS.mk k a) a j).getD (j) default).ints) (((mkTo (EnvS.mk k a) a j).getD (j) default).arrs))).getD (j) default).ints)) ((((mkTo (EnvS.mk k a) a j).set j (Env.mk ((Int.tmod (EnvS.at k a j) 3) == 0) (((mkTo (EnvS.mk k a) a j).getD (j) default).ints) (((mkTo (EnvS.mk k a) a j).getD (j) default).arrs))).getD (j) default).arrs))).set j (Env.mk (((((mkTo (EnvS.mk k a) a j).set j (Env.mk ((Int.tmod (EnvS.at k a j) 3) == 0) (((mkTo (EnvS.mk k a) a j).getD (j) default).ints) (((mkTo (EnvS.mk k a) a j).getD (j) default).arrs))).set j (Env.mk ((((mkTo (EnvS.mk k a) a j).set j (Env.mk ((Int.tmod (EnvS.at k a j) 3) == 0) (((mkTo (EnvS.mk k a) a j).getD (j) default).ints) (((mkTo (EnvS.mk k a) a j).getD (j) default).arrs))).getD (j) default).live) (mkAll (mIv (IntKind.wrap .i64 ((EnvS.at k a j) + 1))) ((((mkTo (EnvS.mk k a) a j).set j (Env.mk ((Int.tmod (EnvS.at k a j) 3) == 0) (((mkTo (EnvS.mk k a) a j).getD (j) default).ints) (((mkTo (EnvS.mk k a) a j).getD (j) default).arrs))).getD (j) default).ints)) ((((mkTo (EnvS.mk k a) a j).set j (Env.mk ((Int.tmod (EnvS.at k a j) 3) == 0) (((mkTo (EnvS.mk k a) a j).getD (j) default).ints) (((mkTo (EnvS.mk k a) a j).getD (j) default).arrs))).getD (j) default).arrs))).getD (j) default).live) (((((mkTo (EnvS.mk k a) a j).set j (Env.mk ((Int.tmod (EnvS.at k a j) 3) == 0) (((mkTo (EnvS.mk k a) a j).getD (j) default).ints) (((mkTo (EnvS.mk k a) a j).getD (j) default).arrs))).set j (Env.mk ((((mkTo (EnvS.mk k a) a j).set j (Env.mk ((Int.tmod (EnvS.at k a j) 3) == 0) (((mkTo (EnvS.mk k a) a j).getD (j) default).ints) (((mkTo (EnvS.mk k a) a j).getD (j) default).arrs))).getD (j) default).live) (mkAll (mIv (IntKind.wrap .i64 ((EnvS.at k a j) + 1))) ((((mkTo (EnvS.mk k a) a j).set j (Env.mk ((Int.tmod (EnvS.at k a j) 3) == 0) (((mkTo (EnvS.mk k a) a j).getD (j) default).ints) (((mkTo (EnvS.mk k a) a j).getD (j) default).arrs))).getD (j) default).ints)) ((((mkTo (EnvS.mk k a) a j).set j (Env.mk ((Int.tmod (EnvS.at k a j) 3) == 0) (((mkTo (EnvS.mk k a) a j).getD (j) default).ints) (((mkTo (EnvS.mk k a) a j).getD (j) default).arrs))).getD (j) default).arrs))).getD (j) default).ints) (mkAll (mIv ((IntKind.wrap .i64 ((EnvS.at k a j) + 1)) + 2 * (((((mkTo (EnvS.mk k a) a j).set j (Env.mk ((Int.tmod (EnvS.at k a j) 3) == 0) (((mkTo (EnvS.mk k a) a j).getD (j) default).ints) (((mkTo (EnvS.mk k a) a j).getD (j) default).arrs))).getD (j) default).ints).length : Int))) (((((mkTo (EnvS.mk k a) a j).set j (Env.mk ((Int.tmod (EnvS.at k a j) 3) == 0) (((mkTo (EnvS.mk k a) a j).getD (j) default).ints) (((mkTo (EnvS.mk k a) a j).getD (j) default).arrs))).set j (Env.mk ((((mkTo (EnvS.mk k a) a j).set j (Env.mk ((Int.tmod (EnvS.at k a j) 3) == 0) (((mkTo (EnvS.mk k a) a j).getD (j) default).ints) (((mkTo (EnvS.mk k a) a j).getD (j) default).arrs))).getD (j) default).live) (mkAll (mIv (IntKind.wrap .i64 ((EnvS.at k a j) + 1))) ((((mkTo (EnvS.mk k a) a j).set j (Env.mk ((Int.tmod (EnvS.at k a j) 3) == 0) (((mkTo (EnvS.mk k a) a j).getD (j) default).ints) (((mkTo (EnvS.mk k a) a j).getD (j) default).arrs))).getD (j) default).ints)) ((((mkTo (EnvS.mk k a) a j).set j (Env.mk ((Int.tmod (EnvS.at k a j) 3) == 0) (((mkTo (EnvS.mk k a) a j).getD (j) default).ints) (((mkTo (EnvS.mk k a) a j).getD (j) default).arrs))).getD (j) default).arrs))).getD (j) default).arrs))))) (c_markIntervalS (((((mkTo (EnvS.mk k a) a j).set j (Env.mk ((Int.tmod (EnvS.at k a j) 3) == 0) (((mkTo (EnvS.mk k a) a j).getD (j) default).ints) (((mkTo (EnvS.mk k a) a j).getD (j) default).arrs))).set j (Env.mk ((((mkTo (EnvS.mk k a) a j).set j (Env.mk ((Int.tmod (EnvS.at k a j) 3) == 0) (((mkTo (EnvS.mk k a) a j).getD (j) default).ints) (((mkTo (EnvS.mk k a) a j).getD (j) default).arrs))).getD (j) default).live) (mkAll (mIv (IntKind.wrap .i64 ((EnvS.at k a j) + 1))) ((((mkTo (EnvS.mk k a) a j).set j (Env.mk ((Int.tmod (EnvS.at k a j) 3) == 0) (((mkTo (EnvS.mk k a) a j).getD (j) default).ints) (((mkTo (EnvS.mk k a) a j).getD (j) default).arrs))).getD (j) default).ints)) ((((mkTo (EnvS.mk k a) a j).set j (Env.mk ((Int.tmod (EnvS.at k a j) 3) == 0) (((mkTo (EnvS.mk k a) a j).getD (j) default).ints) (((mkTo (EnvS.mk k a) a j).getD (j) default).arrs))).getD (j) default).arrs))).getD (j) default).arrs) ((IntKind.wrap .i64 ((EnvS.at k a j) + 1)) + 2 * (((((mkTo (EnvS.mk k a) a j).set j (Env.mk ((Int.tmod (EnvS.at k a j) 3) == 0) (((mkTo (EnvS.mk k a) a j).getD (j) default).ints) (((mkTo (EnvS.mk k a) a j).getD (j) default).arrs))).getD (j) default).ints).length : Int)) (by (have hj8 : j < a.length := (by omega); have hl9 : j < (mkTo (EnvS.mk k a) a j).length := (by rw [mkTo_len]; omega); have hE8 := hE9 hj8; rw [wrap_le (a := EnvS.at k a j + 1) (by omega) (by omega)]; simp only [set_getD, List.length_set, mkTo_len, hl9, hj8, EnvS.get hj8]; (try simp only [mkAll_len]); omega))) rfl rfl rfl rfl (map_get (by first | omega | (simp only [List.length_set, mkTo_len]; omega))) rfl (Owned.map _ _ _ _ Iv.c_o) (by intro d hd; simp at hd; subst hd; exact ⟨_, rfl⟩) rfl rfl (set_map _ _ _ (Env.mk (((((mkTo (EnvS.mk k a) a j).set j (Env.mk ((Int.tmod (EnvS.at k a j) 3) == 0) (((mkTo (EnvS.mk k a) a j).getD (j) default).ints) (((mkTo (EnvS.mk k a) a j).getD (j) default).arrs))).set j (Env.mk ((((mkTo (EnvS.mk k a) a j).set j (Env.mk ((Int.tmod (EnvS.at k a j) 3) == 0) (((mkTo (EnvS.mk k a) a j).getD (j) default).ints) (((mkTo (EnvS.mk k a) a j).getD (j) default).arrs))).getD (j) default).live) (mkAll (mIv (IntKind.wrap .i64 ((EnvS.at k a j) + 1))) ((((mkTo (EnvS.mk k a) a j).set j (Env.mk ((Int.tmod (EnvS.at k a j) 3) == 0) (((mkTo (EnvS.mk k a) a j).getD (j) default).ints) (((mkTo (EnvS.mk k a) a j).getD (j) default).arrs))).getD (j) default).ints)) ((((mkTo (EnvS.mk k a) a j).set j (Env.mk ((Int.tmod (EnvS.at k a j) 3) == 0) (((mkTo (EnvS.mk k a) a j).getD (j) default).ints) (((mkTo (EnvS.mk k a) a j).getD (j) default).arrs))).getD (j) default).arrs))).getD (j) default).live) (((((mkTo (EnvS.mk k a) a j).set j (Env.mk ((Int.tmod (EnvS.at k a j) 3) == 0) (((mkTo (EnvS.mk k a) a j).getD (j) default).ints) (((mkTo (EnvS.mk k a) a j).getD (j) default).arrs))).set j (Env.mk ((((mkTo (EnvS.mk k a) a j).set j (Env.mk ((Int.tmod (EnvS.at k a j) 3) == 0) (((mkTo (EnvS.mk k a) a j).getD (j) default).ints) (((mkTo (EnvS.mk k a) a j).getD (j) default).arrs))).getD (j) default).live) (mkAll (mIv (IntKind.wrap .i64 ((EnvS.at k a j) + 1))) ((((mkTo (EnvS.mk k a) a j).set j (Env.mk ((Int.tmod (EnvS.at k a j) 3) == 0) (((mkTo (EnvS.mk k a) a j).getD (j) default).ints) (((mkTo (EnvS.mk k a) a j).getD (j) default).arrs))).getD (j) default).ints)) ((((mkTo (EnvS.mk k a) a j).set j (Env.mk ((Int.tmod (EnvS.at k a j) 3) == 0) (((mkTo (EnvS.mk k a) a j).getD (j) default).ints) (((mkTo (EnvS.mk k a) a j).getD (j) default).arrs))).getD (j) default).arrs))).getD (j) default).ints) (mkAll (mIv ((IntKind.wrap .i64 ((EnvS.at k a j) + 1)) + 2 * (((((mkTo (EnvS.mk k a) a j).set j (Env.mk ((Int.tmod (EnvS.at k a j) 3) == 0) (((mkTo (EnvS.mk k a) a j).getD (j) default).ints) (((mkTo (EnvS.mk k a) a j).getD (j) default).arrs))).getD (j) default).ints).length : Int))) (((((mkTo (EnvS.mk k a) a j).set j (Env.mk ((Int.tmod (EnvS.at k a j) 3) == 0) (((mkTo (EnvS.mk k a) a j).getD (j) default).ints) (((mkTo (EnvS.mk k a) a j).getD (j) default).arrs))).set j (Env.mk ((((mkTo (EnvS.mk k a) a j).set j (Env.mk ((Int.tmod (EnvS.at k a j) 3) == 0) (((mkTo (EnvS.mk k a) a j).getD (j) default).ints) (((mkTo (EnvS.mk k a) a j).getD (j) default).arrs))).getD (j) default).live) (mkAll (mIv (IntKind.wrap .i64 ((EnvS.at k a j) + 1))) ((((mkTo (EnvS.mk k a) a j).set j (Env.mk ((Int.tmod (EnvS.at k a j) 3) == 0) (((mkTo (EnvS.mk k a) a j).getD (j) default).ints) (((mkTo (EnvS.mk k a) a j).getD (j) default).arrs))).getD (j) default).ints)) ((((mkTo (EnvS.mk k a) a j).set j (Env.mk ((Int.tmod (EnvS.at k a j) 3) == 0) (((mkTo (EnvS.mk k a) a j).getD (j) default).ints) (((mkTo (EnvS.mk k a) a j).getD (j) default).arrs))).getD (j) default).arrs))).getD (j) default).arrs))) _ rfl) rfl rfl τ⟩) ?_
   refine .as rfl <| .z <| .rs fun k9 => .mv rfl <| .bi rfl <| .as rfl <| .z ?_
   exact .here ((j + 1), (k8 + 1 + 1 + 1 + 1 + 1 + 1)) (.of (.cons rfl (.cons (svI (show (((IntKind.wrap .i64 ((EnvS.at k a j) + 1)) + 2 * (((((mkTo (EnvS.mk k a) a j).set j (Env.mk ((Int.tmod (EnvS.at k a j) 3) == 0) (((mkTo (EnvS.mk k a) a j).getD (j) default).ints) (((mkTo (EnvS.mk k a) a j).getD (j) default).arrs))).getD (j) default).ints).length : Int)) + 2 * ((((((mkTo (EnvS.mk k a) a j).set j (Env.mk ((Int.tmod (EnvS.at k a j) 3) == 0) (((mkTo (EnvS.mk k a) a j).getD (j) default).ints) (((mkTo (EnvS.mk k a) a j).getD (j) default).arrs))).set j (Env.mk ((((mkTo (EnvS.mk k a) a j).set j (Env.mk ((Int.tmod (EnvS.at k a j) 3) == 0) (((mkTo (EnvS.mk k a) a j).getD (j) default).ints) (((mkTo (EnvS.mk k a) a j).getD (j) default).arrs))).getD (j) default).live) (mkAll (mIv (IntKind.wrap .i64 ((EnvS.at k a j) + 1))) ((((mkTo (EnvS.mk k a) a j).set j (Env.mk ((Int.tmod (EnvS.at k a j) 3) == 0) (((mkTo (EnvS.mk k a) a j).getD (j) default).ints) (((mkTo (EnvS.mk k a) a j).getD (j) default).arrs))).getD (j) default).ints)) ((((mkTo (EnvS.mk k a) a j).set j (Env.mk ((Int.tmod (EnvS.at k a j) 3) == 0) (((mkTo (EnvS.mk k a) a j).getD (j) default).ints) (((mkTo (EnvS.mk k a) a j).getD (j) default).arrs))).getD (j) default).arrs))).getD (j) default).arrs).length : Int)) = (EnvS.at k a (j + 1)) by first | rfl | omega | exact (EnvS.at_zero k a).symm | (have hl9 : j < (mkTo (EnvS.mk k a) a j).length := (by rw [mkTo_len]; omega); have hr9 := EnvS.round (k := k) (a := a) (j := j) (by omega) rfl rfl rfl (wrap_le (a := EnvS.at k a j + 1) (by omega) (by omega)) rfl rfl; exact hr9.2) | exact wrap_le (by omega) (by omega))) (.cons (svI (show (IntKind.wrap .i64 ((j : Int) + 1)) = (((j + 1) : Int)) by first | rfl | omega | exact (EnvS.at_zero k a).symm | (have hl9 : j < (mkTo (EnvS.mk k a) a j).length := (by rw [mkTo_len]; omega); have hr9 := EnvS.round (k := k) (a := a) (j := j) (by omega) rfl rfl rfl (wrap_le (a := EnvS.at k a j + 1) (by omega) (by omega)) rfl rfl; exact hr9.2) | exact wrap_le (by omega) (by omega))) .nil))) (.cons (rowE (show List.map Env.co98 ((((mkTo (EnvS.mk k a) a j).set j (Env.mk ((Int.tmod (EnvS.at k a j) 3) == 0) (((mkTo (EnvS.mk k a) a j).getD (j) default).ints) (((mkTo (EnvS.mk k a) a j).getD (j) default).arrs))).set j (Env.mk ((((mkTo (EnvS.mk k a) a j).set j (Env.mk ((Int.tmod (EnvS.at k a j) 3) == 0) (((mkTo (EnvS.mk k a) a j).getD (j) default).ints) (((mkTo (EnvS.mk k a) a j).getD (j) default).arrs))).getD (j) default).live) (mkAll (mIv (IntKind.wrap .i64 ((EnvS.at k a j) + 1))) ((((mkTo (EnvS.mk k a) a j).set j (Env.mk ((Int.tmod (EnvS.at k a j) 3) == 0) (((mkTo (EnvS.mk k a) a j).getD (j) default).ints) (((mkTo (EnvS.mk k a) a j).getD (j) default).arrs))).getD (j) default).ints)) ((((mkTo (EnvS.mk k a) a j).set j (Env.mk ((Int.tmod (EnvS.at k a j) 3) == 0) (((mkTo (EnvS.mk k a) a j).getD (j) default).ints) (((mkTo (EnvS.mk k a) a j).getD (j) default).arrs))).getD (j) default).arrs))).set j (Env.mk (((((mkTo (EnvS.mk k a) a j).set j (Env.mk ((Int.tmod (EnvS.at k a j) 3) == 0) (((mkTo (EnvS.mk k a) a j).getD (j) default).ints) (((mkTo (EnvS.mk k a) a j).getD (j) default).arrs))).set j (Env.mk ((((mkTo (EnvS.mk k a) a j).set j (Env.mk ((Int.tmod (EnvS.at k a j) 3) == 0) (((mkTo (EnvS.mk k a) a j).getD (j) default).ints) (((mkTo (EnvS.mk k a) a j).getD (j) default).arrs))).getD (j) default).live) (mkAll (mIv (IntKind.wrap .i64 ((EnvS.at k a j) + 1))) ((((mkTo (EnvS.mk k a) a j).set j (Env.mk ((Int.tmod (EnvS.at k a j) 3) == 0) (((mkTo (EnvS.mk k a) a j).getD (j) default).ints) (((mkTo (EnvS.mk k a) a j).getD (j) default).arrs))).getD (j) default).ints)) ((((mkTo (EnvS.mk k a) a j).set j (Env.mk ((Int.tmod (EnvS.at k a j) 3) == 0) (((mkTo (EnvS.mk k a) a j).getD (j) default).ints) (((mkTo (EnvS.mk k a) a j).getD (j) default).arrs))).getD (j) default).arrs))).getD (j) default).live) (((((mkTo (EnvS.mk k a) a j).set j (Env.mk ((Int.tmod (EnvS.at k a j) 3) == 0) (((mkTo (EnvS.mk k a) a j).getD (j) default).ints) (((mkTo (EnvS.mk k a) a j).getD (j) default).arrs))).set j (Env.mk ((((mkTo (EnvS.mk k a) a j).set j (Env.mk ((Int.tmod (EnvS.at k a j) 3) == 0) (((mkTo (EnvS.mk k a) a j).getD (j) default).ints) (((mkTo (EnvS.mk k a) a j).getD (j) default).arrs))).getD (j) default).live) (mkAll (mIv (IntKind.wrap .i64 ((EnvS.at k a j) + 1))) ((((mkTo (EnvS.mk k a) a j).set j (Env.mk ((Int.tmod (EnvS.at k a j) 3) == 0) (((mkTo (EnvS.mk k a) a j).getD (j) default).ints) (((mkTo (EnvS.mk k a) a j).getD (j) default).arrs))).getD (j) default).ints)) ((((mkTo (EnvS.mk k a) a j).set j (Env.mk ((Int.tmod (EnvS.at k a j) 3) == 0) (((mkTo (EnvS.mk k a) a j).getD (j) default).ints) (((mkTo (EnvS.mk k a) a j).getD (j) default).arrs))).getD (j) default).arrs))).getD (j) default).ints) (mkAll (mIv ((IntKind.wrap .i64 ((EnvS.at k a j) + 1)) + 2 * (((((mkTo (EnvS.mk k a) a j).set j (Env.mk ((Int.tmod (EnvS.at k a j) 3) == 0) (((mkTo (EnvS.mk k a) a j).getD (j) default).ints) (((mkTo (EnvS.mk k a) a j).getD (j) default).arrs))).getD (j) default).ints).length : Int))) (((((mkTo (EnvS.mk k a) a j).set j (Env.mk ((Int.tmod (EnvS.at k a j) 3) == 0) (((mkTo (EnvS.mk k a) a j).getD (j) default).ints) (((mkTo (EnvS.mk k a) a j).getD (j) default).arrs))).set j (Env.mk ((((mkTo (EnvS.mk k a) a j).set j (Env.mk ((Int.tmod (EnvS.at k a j) 3) == 0) (((mkTo (EnvS.mk k a) a j).getD (j) default).ints) (((mkTo (EnvS.mk k a) a j).getD (j) default).arrs))).getD (j) default).live) (mkAll (mIv (IntKind.wrap .i64 ((EnvS.at k a j) + 1))) ((((mkTo (EnvS.mk k a) a j).set j (Env.mk ((Int.tmod (EnvS.at k a j) 3) == 0) (((mkTo (EnvS.mk k a) a j).getD (j) default).ints) (((mkTo (EnvS.mk k a) a j).getD (j) default).arrs))).getD (j) default).ints)) ((((mkTo (EnvS.mk k a) a j).set j (Env.mk ((Int.tmod (EnvS.at k a j) 3) == 0) (((mkTo (EnvS.mk k a) a j).getD (j) default).ints) (((mkTo (EnvS.mk k a) a j).getD (j) default).arrs))).getD (j) default).arrs))).getD (j) default).arrs)))) = List.map Env.co98 (mkTo (EnvS.mk k a) a (j + 1)) by first | (rw [← mkTo_zero]) | (have hl9 : j < (mkTo (EnvS.mk k a) a j).length := (by rw [mkTo_len]; omega); have hr9 := EnvS.round (k := k) (a := a) (j := j) (by omega) rfl rfl rfl (wrap_le (a := EnvS.at k a j + 1) (by omega) (by omega)) rfl rfl; exact congrArg _ hr9.1))) .nil)) ⟨(show (j + 1) ≤ a.length by omega), (show a.length - (j + 1) < a.length - j by omega)⟩
  ·have c0 := of_decide_eq_false c0
   refine .exit <| .seq <| .rs fun k10 => .mv rfl <| .as rfl <| .z <| .ret ?_
   have e12 : (mkTo (EnvS.mk k a) a j) = (EnvS.mark k a) := by first | exact EnvS.at_all (by omega) | exact mkTo_all _ _ hI (by omega)
   exact fin1 (.inr rfl) [] [([0, 0, 0], (0, q3, .row 98 3 (List.map Env.co98 (EnvS.mark k a))))] (.one (svI (show (EnvS.at k a j) = (EnvS.marks k a) by first | exact EnvS.at_all (by omega) | exact mkTo_all _ _ hI (by omega))) .nil) (.dd (.cons (.ref (.head _)) .nil)) rfl rfl (.cons (rowE (congrArg (List.map Env.co98) e12)) .nil)
theorem c_heldEnvS (a : List Env) (k : Int) (hk : 0 ≤ k ∧ k ≤ 1125899906842624) (hx : Small 1048576 a) (hm : EnvS.Marked k a) : Trip Tryz.prog 58 [(false, 1), (false, 1)] ([.sl false 98 3 (List.map Env.c98 (a))] ++ [.v (.int .i64 (k))]) [(false, 1)] [.v (.int .i64 (EnvS.marks k a))] [] := by
 refine Trip.of Tryz.func58 (by decide) (c := _) rfl rfl (Nat.le_of_ble_eq_true rfl) rfl (AftOk.nil _) <| .sl (t := 0) rfl fun hs1l => .seq <| .rs fun k2 => .as rfl <| .z <| .seq <| .seq <| .rs fun k3 => ?_
 refine .as rfl <| .z <| .block ?_
 refine .loop (X := Nat) (fun ζ => .of [(0, .one (.d (.sl false 98 3 (List.map Env.c98 (a))))), (1, .one (.d (.v (.int .i64 (EnvS.at k a ζ))))), (5, .one (.d (.v (.int .i64 ((ζ : Int))))))] []) (fun ζ => ζ ≤ a.length) (fun ζ => a.length - ζ) ?_ ?_
 ·skip
  exact .here 0 (.of (.cons rfl (.cons (svI (show (k) = (EnvS.at k a 0) by first | rfl | omega | exact (EnvS.at_zero k a).symm | (rw [wrap_le (a := EnvS.at k a j + 1) (by omega) (by omega), EnvS.at_step (by omega)]; unfold Env.wt; omega) | exact wrap_le (by omega) (by omega))) (.cons (svI (show (0) = ((0 : Int)) by first | rfl | omega | exact (EnvS.at_zero k a).symm | (rw [wrap_le (a := EnvS.at k a j + 1) (by omega) (by omega), EnvS.at_step (by omega)]; unfold Env.wt; omega) | exact wrap_le (by omega) (by omega))) .nil))) .nil) (show 0 ≤ a.length by omega)
 ·rintro j hI
  have hI : j ≤ a.length := hI
  have hA9 : a.length ≤ 1048576 := hx.1
  have hb9 := EnvS.bnd (k := k) hx (j := j) (by omega) hk
  have hE9 : j < a.length → (a.getD j default).ints.length ≤ 1048576 ∧ (a.getD j default).arrs.length ≤ 1048576 := fun h => hx.2 _ (getD_mem h)
  refine .seq <| .seq <| .rs fun k4 => .mv rfl <| .mv rfl <| .g (fun _ τ => ⟨_, .len (.no rfl) rfl (z := (a.length : Int)) t60 rfl rfl rfl (.d _ _) (map_len _ _) rfl τ⟩) <| .bi rfl <| .z ?_
  refine .cond (t := decide ((j : Int) < (a.length : Int))) rfl (fun c0 => ?_) (fun c0 => ?_)
  ·have c0 := of_decide_eq_true c0
   refine .skip <| .seq <| .block <| .seq <| .seq <| .rs fun k5 => .mv rfl <| .mv rfl <| .g (fun _ τ => ⟨_, .indexAddr (.no rfl) rfl (j) t60 rfl t98 rfl rfl rfl (.d _ _) rfl rfl rfl (map_get (by omega)) rfl rfl τ⟩) ?_
   refine .g (fun _ τ => ⟨_, .fieldAddr (.no rfl) rfl t98 rfl rfl t4 rfl rfl rfl rfl [] (by simp) (by intro _ _ _ h; cases h) rfl rfl τ⟩) <| .ld t4 rfl (.d _) rfl <| .mv rfl <| .g (fun _ τ => ⟨_, .quoRem (.no rfl) rfl (.inr ⟨rfl, rfl⟩) rfl rfl rfl rfl rfl τ⟩) <| .bi rfl <| .g (fun _ τ => ⟨_, .neB (.no rfl) rfl t4 rfl rfl rfl rfl rfl τ⟩) <| .z ?_
   refine .cond (t := ((a.getD j default).live) != ((Int.tmod (EnvS.at k a j) 3) == 0)) rfl (fun c1 => ?_) (fun c1 => ?_)
   ·have c1 := c1
    refine .seq <| .rs fun k6 => .as rfl <| .z <| .ret ?_
    exact fin0 (.inr rfl) (.one (svI (show (-1) = (EnvS.marks k a) by (rw [EnvS.heldL hm (by omega)] at c1; simp at c1))) .nil) (.dd .nil) rfl
   ·have c1 := c1
    refine .skip <| .seq <| .rs fun k8 => .mv rfl <| .bi rfl <| .as rfl <| .z <| .seq <| .rs fun k9 => ?_
    refine .mv rfl <| .mv rfl <| .g (fun _ τ => ⟨_, .indexAddr (.no rfl) rfl (j) t60 rfl t98 rfl rfl rfl (.d _ _) rfl rfl rfl (map_get (by omega)) rfl rfl τ⟩) <| .g (fun _ τ => ⟨_, .fieldAddr (.no rfl) rfl t98 rfl rfl t96 rfl rfl rfl rfl [] (by simp) (by intro _ _ _ h; cases h) rfl rfl τ⟩) <| .ld t96 rfl (.d _) rfl <| .mv rfl ?_
    refine .c0 (c_heldIntervalS ((a.getD j default).ints) (IntKind.wrap .i64 ((EnvS.at k a j) + 1)) (by first | exact ⟨by rw [wrap_le (a := EnvS.at k a j + 1) (by omega) (by omega)]; omega, by rw [wrap_le (a := EnvS.at k a j + 1) (by omega) (by omega)]; have := hE9 (by omega); omega⟩ | (rw [wrap_le (a := EnvS.at k a j + 1) (by omega) (by omega)]; exact EnvS.heldI hm (by omega)) | (rw [wrap_le (a := EnvS.at k a j + 1) (by omega) (by omega)]; exact EnvS.heldA hm (by omega)) | (rw [wrap_le (a := EnvS.at k a j + 1) (by omega) (by omega)]; have := hE9 (by omega); omega)) (by first | exact ⟨by rw [wrap_le (a := EnvS.at k a j + 1) (by omega) (by omega)]; omega, by rw [wrap_le (a := EnvS.at k a j + 1) (by omega) (by omega)]; have := hE9 (by omega); omega⟩ | (rw [wrap_le (a := EnvS.at k a j + 1) (by omega) (by omega)]; exact EnvS.heldI hm (by omega)) | (rw [wrap_le (a := EnvS.at k a j + 1) (by omega) (by omega)]; exact EnvS.heldA hm (by omega)) | (rw [wrap_le (a := EnvS.at k a j + 1) (by omega) (by omega)]; have := hE9 (by omega); omega))) rfl (.dd (.dd .nil)) (.own [29, 0] .nil) rfl ?_
    refine .as rfl <| .z <| .seq <| .seq <| .rs fun k10 => .mv rfl <| .bi rfl <| .z ?_
    refine .cond (t := decide (((IntKind.wrap .i64 ((EnvS.at k a j) + 1)) + 2 * (((a.getD j default).ints).length : Int)) < 0)) rfl (fun c2 => ?_) (fun c2 => ?_)
    ·have c2 := of_decide_eq_true c2
     refine .seq <| .rs fun k11 => .as rfl <| .z <| .ret ?_
     exact fin0 (.inr rfl) (.one (svI (show (-1) = (EnvS.marks k a) by (rw [wrap_le (a := EnvS.at k a j + 1) (by omega) (by omega)] at c2; omega))) .nil) (.dd .nil) rfl
    ·have c2 := of_decide_eq_false c2
     refine .skip <| .seq <| .rs fun k13 => .mv rfl <| .mv rfl <| .g (fun _ τ => ⟨_, .indexAddr (.no rfl) rfl (j) t60 rfl t98 rfl rfl rfl (.d _ _) rfl rfl rfl (map_get (by omega)) rfl rfl τ⟩) <| .g (fun _ τ => ⟨_, .fieldAddr (.no rfl) rfl t98 rfl rfl t96 rfl rfl rfl rfl [] (by simp) (by intro _ _ _ h; cases h) rfl rfl τ⟩) <| .ld t96 rfl (.d _) rfl <| .mv rfl ?_
     refine .c0 (c_heldIntervalS ((a.getD j default).arrs) ((IntKind.wrap .i64 ((EnvS.at k a j) + 1)) + 2 * (((a.getD j default).ints).length : Int)) (by first | exact ⟨by rw [wrap_le (a := EnvS.at k a j + 1) (by omega) (by omega)]; omega, by rw [wrap_le (a := EnvS.at k a j + 1) (by omega) (by omega)]; have := hE9 (by omega); omega⟩ | (rw [wrap_le (a := EnvS.at k a j + 1) (by omega) (by omega)]; exact EnvS.heldI hm (by omega)) | (rw [wrap_le (a := EnvS.at k a j + 1) (by omega) (by omega)]; exact EnvS.heldA hm (by omega)) | (rw [wrap_le (a := EnvS.at k a j + 1) (by omega) (by omega)]; have := hE9 (by omega); omega)) (by first | exact ⟨by rw [wrap_le (a := EnvS.at k a j + 1) (by omega) (by omega)]; omega, by rw [wrap_le (a := EnvS.at k a j + 1) (by omega) (by omega)]; have := hE9 (by omega); omega⟩ | (rw [wrap_le (a := EnvS.at k a j + 1) (by omega) (by omega)]; exact EnvS.heldI hm (by omega)) | (rw [wrap_le (a := EnvS.at k a j + 1) (by omega) (by omega)]; exact EnvS.heldA hm (by omega)) | (rw [wrap_le (a := EnvS.at k a j + 1) (by omega) (by omega)]; have := hE9 (by omega); omega))) rfl (.dd (.dd .nil)) (.own [38, 0] .nil) rfl ?_
     refine .as rfl <| .z <| .seq <| .rs fun k14 => .mv rfl <| .bi rfl <| .z ?_
     refine .cond (t := decide ((((IntKind.wrap .i64 ((EnvS.at k a j) + 1)) + 2 * (((a.getD j default).ints).length : Int)) + 2 * (((a.getD j default).arrs).length : Int)) < 0)) rfl (fun c3 => ?_) (fun c3 => ?_)
     ·have c3 := of_decide_eq_true c3
      refine .seq <| .rs fun k15 => .as rfl <| .z <| .ret ?_
      exact fin0 (.inr rfl) (.one (svI (show (-1) = (EnvS.marks k a) by (rw [wrap_le (a := EnvS.at k a j + 1) (by omega) (by omega)] at c3; omega))) .nil) (.dd .nil) rfl
     ·have c3 := of_decide_eq_false c3
      refine .skip ?_
      refine .reg (X := Unit) (fun ζ => .of [(0, .one (.d (.sl false 98 3 (List.map Env.c98 (a))))), (1, .one (.d (.v (.int .i64 (((IntKind.wrap .i64 ((EnvS.at k a j) + 1)) + 2 * (((a.getD j default).ints).length : Int)) + 2 * (((a.getD j default).arrs).length : Int)))))), (5, .one (.d (.v (.int .i64 (IntKind.wrap .i64 ((j : Int) + 1))))))] []) [⟨[5], some 10, [], []⟩, ⟨[10], some 11, [], []⟩, ⟨[11], some 5, [], []⟩] (fun k17 => ?_) ?_
      ·skip
       refine .move (.no rfl) rfl rfl rfl rfl <| .bin (.no rfl) rfl rfl rfl rfl rfl rfl <| .assign (.no rfl) rfl rfl rfl rfl ?_
       exact .fin () (.of (.r rfl) .nil)
      intro _
      exact .here (j + 1) (.of (.cons rfl (.cons (svI (show (((IntKind.wrap .i64 ((EnvS.at k a j) + 1)) + 2 * (((a.getD j default).ints).length : Int)) + 2 * (((a.getD j default).arrs).length : Int)) = (EnvS.at k a (j + 1)) by first | rfl | omega | exact (EnvS.at_zero k a).symm | (rw [wrap_le (a := EnvS.at k a j + 1) (by omega) (by omega), EnvS.at_step (by omega)]; unfold Env.wt; omega) | exact wrap_le (by omega) (by omega))) (.cons (svI (show (IntKind.wrap .i64 ((j : Int) + 1)) = (((j + 1) : Int)) by first | rfl | omega | exact (EnvS.at_zero k a).symm | (rw [wrap_le (a := EnvS.at k a j + 1) (by omega) (by omega), EnvS.at_step (by omega)]; unfold Env.wt; omega) | exact wrap_le (by omega) (by omega))) .nil))) .nil) ⟨(show (j + 1) ≤ a.length by omega), (show a.length - (j + 1) < a.length - j by omega)⟩
  ·have c0 := of_decide_eq_false c0
   refine .exit <| .seq <| .rs fun k18 => .mv rfl <| .as rfl <| .z <| .ret ?_
   exact fin0 (.inr rfl) (.one (svI (show (EnvS.at k a j) = (EnvS.marks k a) by exact EnvS.at_all (by omega))) .nil) (.dd .nil) rfl
end Go.Proofs

namespace Go.Proofs
open Go Go.Proofs Go.Ev

def i209 : TI := ⟨.sl 3, 1, 24, [.slice none 0 0]⟩
theorem t209 : TyOk Tryz.prog 209 i209 := ⟨Tryz.underlying209, by kernel_rfl⟩
theorem z209 : ZOk Tryz.prog 209 i209 := ⟨t209, rfl⟩
theorem c_sTokenOk (t : List Entry) : Trip Tryz.prog 29 [(false, 1)] ([.sl false 115 2 (List.map Entry.c (t))]) [(false, 1)] [.v (.bool (tokOk t))] [] := by
 refine Trip.of Tryz.func29 (by decide) (c := _) rfl rfl (Nat.le_of_ble_eq_true rfl) rfl (AftOk.nil _) <| .sl (t := 0) rfl fun hs1l => .seq <| .rs fun k2 => .as rfl <| .z <| .seq <| .seq <| .rs fun k3 => ?_
 refine .mv rfl <| .g (fun _ τ => ⟨_, .len (.no rfl) rfl (z := (t.length : Int)) t49 rfl rfl rfl (.d _ _) (map_len _ _) rfl τ⟩) <| .bi rfl <| .z ?_
 refine .cond (t := decide ((t.length : Int) > 3)) rfl (fun c0 => ?_) (fun c0 => ?_)
 ·have c0 := of_decide_eq_true c0
  refine .seq <| .rs fun k4 => .as rfl <| .z <| .ret ?_
  exact fin0 (.inr rfl) (.one (svB (show (false) = (tokOk t) by (rw [tokOk_no c0]))) .nil) (.dd .nil) rfl
 ·have c0 := of_decide_eq_false c0
  refine .skip <| .seq <| .seq <| .rs fun k6 => .as rfl <| .z <| .block ?_
  refine .loop (X := Nat) (fun ζ => .of [(0, .one (.d (.sl false 115 2 (List.map Entry.c (t))))), (3, .one (.d (.v (.int .i64 ((ζ : Int))))))] []) (fun ζ => ζ ≤ t.length ∧ allTo ζ (fun i => Entry.ok (t.getD i default)) = true) (fun ζ => t.length - ζ) ?_ ?_
  ·skip
   exact .here 0 (.of (.cons rfl (.cons (svI (show (0) = ((0 : Int)) by first | rfl | omega | exact wrap_le (by omega) (by omega) | (rw [wrap_le (by omega) (by omega)]; omega))) .nil)) .nil) (show 0 ≤ t.length ∧ allTo 0 (fun i => Entry.ok (t.getD i default)) = true by exact ⟨by omega, rfl⟩)
  ·rintro j hI
   have hI : j ≤ t.length ∧ allTo j (fun i => Entry.ok (t.getD i default)) = true := hI
   refine .seq <| .seq <| .rs fun k7 => .mv rfl <| .mv rfl <| .g (fun _ τ => ⟨_, .len (.no rfl) rfl (z := (t.length : Int)) t49 rfl rfl rfl (.d _ _) (map_len _ _) rfl τ⟩) <| .bi rfl <| .z ?_
   refine .cond (t := decide ((j : Int) < (t.length : Int))) rfl (fun c1 => ?_) (fun c1 => ?_)
   ·have c1 := of_decide_eq_true c1
    refine .skip <| .seq <| .block <| .seq ?_
    refine .reg (X := Unit) (fun ζ => .of [(0, .one (.d (.sl false 115 2 (List.map Entry.c (t))))), (3, .one (.d (.v (.int .i64 ((j : Int)))))), (28, .one (.d (.v (.bool ((!(inR ((t.getD j default).line) 0 29) || !(inR ((t.getD j default).pick) 0 4)))))))] []) [⟨[0], some 13, [], []⟩, ⟨[3], some 14, [], []⟩, ⟨[13, 14], some 15, [], []⟩, ⟨[15], some 16, [], []⟩, ⟨[16], some 17, [], []⟩, ⟨[17], some 18, [], []⟩, ⟨[18], some 19, [], []⟩, ⟨[19], some 20, [], []⟩, ⟨[20, 0], some 21, [], []⟩, ⟨[20, 3], some 22, [], []⟩, ⟨[20, 21, 22], some 23, [], []⟩, ⟨[20, 23], some 24, [], []⟩, ⟨[20, 24], some 25, [], []⟩, ⟨[20, 25], some 26, [], []⟩, ⟨[20, 26], some 27, [], []⟩, ⟨[20, 27], some 28, [], []⟩] (fun k8 => ?_) ?_
    ·skip
     refine .move (.no rfl) rfl rfl rfl rfl <| .move (.no rfl) rfl rfl rfl rfl <| .indexAddr (.no rfl) rfl (j) t49 rfl t115 rfl rfl rfl (.d _ _) rfl rfl rfl (map_get (by omega)) rfl rfl <| .fieldAddr (.no rfl) rfl t115 rfl rfl t2 rfl rfl rfl rfl [] (by simp) (by intro _ _ _ h; cases h) rfl rfl <| .load (.no rfl) rfl t2 rfl rfl (.d _) rfl rfl rfl rfl <| .call (.no rfl) rfl [] [] (c_l1In ((t.getD j default).line) 0 29) rfl rfl rfl rfl rfl (.dd (.dd (.dd .nil))) rfl rfl (fun h => absurd rfl h) (.own [18, 0] .nil) (.nil) rfl rfl rfl (by simp) rfl rfl rfl <| .un (.no rfl) rfl rfl rfl rfl rfl <| .moveB (.no rfl) rfl rfl rfl rfl fun b9 g6_7 => ?_
     cases b9
     ·skip
      refine .move (.on rfl rfl rfl rfl rfl) rfl rfl rfl rfl <| .move (.on rfl rfl rfl rfl rfl) rfl rfl rfl rfl <| .indexAddr (.on rfl rfl rfl rfl rfl) rfl (j) t49 rfl t115 rfl rfl rfl (.d _ _) rfl rfl rfl (map_get (by omega)) rfl rfl <| .fieldAddr (.on rfl rfl rfl rfl rfl) rfl t115 rfl rfl t2 rfl rfl rfl rfl [] (by simp) (by intro _ _ _ h; cases h) rfl rfl <| .load (.on rfl rfl rfl rfl rfl) rfl t2 rfl rfl (.d _) rfl rfl rfl rfl <| .call (.on rfl rfl rfl rfl rfl) rfl [] [] (c_l1In ((t.getD j default).pick) 0 4) rfl rfl rfl rfl rfl (.dd (.dd (.dd .nil))) rfl rfl (fun h => absurd rfl h) (.own [26, 0] .nil) (.nil) rfl rfl rfl (by simp) rfl rfl rfl <| .un (.on rfl rfl rfl rfl rfl) rfl rfl rfl rfl rfl <| .pick (.no rfl) rfl rfl rfl rfl rfl ?_
      exact .fin () (.of (.cons rfl (.cons rfl (.cons (svB (show (!(inR ((t.getD j default).pick) 0 4)) = ((!(inR ((t.getD j default).line) 0 29) || !(inR ((t.getD j default).pick) 0 4))) by first | (simp only [g6_7, Bool.true_or, Bool.false_or, Bool.true_and, Bool.false_and, Bool.not_true, Bool.not_false]; done) | (simp [g6_7]; done) | (exfalso; simp_all; done))) .nil))) .nil)
     ·skip
      refine .off rfl rfl rfl rfl rfl rfl rfl <| .off rfl rfl rfl rfl rfl rfl rfl <| .off rfl rfl rfl rfl rfl rfl rfl <| .off rfl rfl rfl rfl rfl rfl rfl <| .off rfl rfl rfl rfl rfl rfl rfl <| .off rfl rfl rfl rfl rfl rfl rfl <| .off rfl rfl rfl rfl rfl rfl rfl <| .pick (.no rfl) rfl rfl rfl rfl rfl ?_
      exact .fin () (.of (.cons rfl (.cons rfl (.cons (svB (show (true) = ((!(inR ((t.getD j default).line) 0 29) || !(inR ((t.getD j default).pick) 0 4))) by first | (simp only [g6_7, Bool.true_or, Bool.false_or, Bool.true_and, Bool.false_and, Bool.not_true, Bool.not_false]; done) | (simp [g6_7]; done) | (exfalso; simp_all; done))) .nil))) .nil)
    intro _
    refine .cond (t := (!(inR ((t.getD j default).line) 0 29) || !(inR ((t.getD j default).pick) 0 4))) rfl (fun c2 => ?_) (fun c2 => ?_)
    ·have c2 := (oT (nT id) (nT id)) c2
     refine .seq <| .rs fun k10 => .as rfl <| .z <| .ret ?_
     exact fin0 (.inr rfl) (.one (svB (show (false) = (tokOk t) by (rw [tokOk_fail (j := j) (by omega) c2]))) .nil) (.dd .nil) rfl
    ·have c2 := (oF (nF id) (nF id)) c2
     refine .skip <| .rs fun k12 => .mv rfl <| .bi rfl <| .as rfl <| .z ?_
     exact .here (j + 1) (.of (.cons rfl (.cons (svI (show (IntKind.wrap .i64 ((j : Int) + 1)) = (((j + 1) : Int)) by first | rfl | omega | exact wrap_le (by omega) (by omega) | (rw [wrap_le (by omega) (by omega)]; omega))) .nil)) .nil) ⟨(show (j + 1) ≤ t.length ∧ allTo (j + 1) (fun i => Entry.ok (t.getD i default)) = true by exact ⟨by omega, allTo_step hI.2 (entry_of c2)⟩), (show t.length - (j + 1) < t.length - j by omega)⟩
   ·have c1 := of_decide_eq_false c1
    refine .exit <| .seq <| .rs fun k13 => .as rfl <| .z <| .ret ?_
    exact fin0 (.inr rfl) (.one (svB (show (true) = (tokOk t) by (rw [tokOk_done (j := j) c0 (by omega) hI.2]))) .nil) (.dd .nil) rfl
theorem c_l9Cmp (a : List Entry) (b : List Entry) (ha : tokOk a = true) (hb : tokOk b = true) : Trip Tryz.prog 74 [(false, 1), (false, 1)] ([.sl false 115 2 (List.map Entry.c (a))] ++ [.sl false 115 2 (List.map Entry.c (b))]) [(false, 1)] [.v (.int .i64 (tokCmp a b))] [] := by
 refine Trip.of Tryz.func74 (by decide) (c := _) rfl rfl (Nat.le_of_ble_eq_true rfl) rfl (AftOk.nil _) <| .sl (t := 0) rfl fun hs1l => .sl (t := 1) rfl fun hs2l => .seq <| .rs fun k3 => .as rfl <| .z <| .seq <| .seq ?_
 refine .rs fun k4 => .mv rfl <| .g (fun _ τ => ⟨_, .len (.no rfl) rfl (z := (a.length : Int)) t49 rfl rfl rfl (.d _ _) (map_len _ _) rfl τ⟩) <| .mv rfl <| .g (fun _ τ => ⟨_, .len (.no rfl) rfl (z := (b.length : Int)) t49 rfl rfl rfl (.d _ _) (map_len _ _) rfl τ⟩) <| .bi rfl <| .z ?_
 refine .cond (t := (a.length : Int) != (b.length : Int)) rfl (fun c0 => ?_) (fun c0 => ?_)
 ·have c0 := (by simpa using c0 : ¬ ((a.length : Int) = (b.length : Int)))
  refine .seq <| .seq <| .rs fun k5 => .mv rfl <| .g (fun _ τ => ⟨_, .len (.no rfl) rfl (z := (a.length : Int)) t49 rfl rfl rfl (.d _ _) (map_len _ _) rfl τ⟩) <| .mv rfl <| .g (fun _ τ => ⟨_, .len (.no rfl) rfl (z := (b.length : Int)) t49 rfl rfl rfl (.d _ _) (map_len _ _) rfl τ⟩) <| .bi rfl <| .z ?_
  refine .cond (t := decide ((a.length : Int) < (b.length : Int))) rfl (fun c1 => ?_) (fun c1 => ?_)
  ·have c1 := of_decide_eq_true c1
   refine .seq <| .rs fun k6 => .as rfl <| .z <| .ret ?_
   exact fin0 (.inr rfl) (.one (svI (show (-1) = (tokCmp a b) by exact tokCmp_lt c0 c1)) .nil) (.dd .nil) rfl
  ·have c1 := of_decide_eq_false c1
   refine .skip <| .seq <| .rs fun k8 => .as rfl <| .z <| .ret ?_
   exact fin0 (.inr rfl) (.one (svI (show (1) = (tokCmp a b) by exact tokCmp_gt c0 c1)) .nil) (.dd .nil) rfl
 ·have c0 := (by simpa using c0 : (a.length : Int) = (b.length : Int))
  refine .skip <| .seq <| .seq <| .rs fun k10 => .as rfl <| .z <| .block ?_
  refine .loop (X := Nat) (fun ζ => .of [(0, .one (.d (.sl false 115 2 (List.map Entry.c (a))))), (1, .one (.d (.sl false 115 2 (List.map Entry.c (b))))), (5, .one (.d (.v (.int .i64 ((ζ : Int))))))] []) (fun ζ => ζ ≤ a.length ∧ lexC entCmp (a.drop ζ) (b.drop ζ) = lexC entCmp a b) (fun ζ => a.length - ζ) ?_ ?_
  ·skip
   exact .here 0 (.of (.cons rfl (.cons rfl (.cons (svI (show (0) = ((0 : Int)) by first | rfl | omega | exact wrap_le (by omega) (by omega) | (rw [wrap_le (by omega) (by omega)]; omega))) .nil))) .nil) (show 0 ≤ a.length ∧ lexC entCmp (a.drop 0) (b.drop 0) = lexC entCmp a b by exact ⟨by omega, rfl⟩)
  ·rintro j hI
   have hI : j ≤ a.length ∧ lexC entCmp (a.drop j) (b.drop j) = lexC entCmp a b := hI
   refine .seq <| .seq <| .rs fun k11 => .mv rfl <| .mv rfl <| .g (fun _ τ => ⟨_, .len (.no rfl) rfl (z := (a.length : Int)) t49 rfl rfl rfl (.d _ _) (map_len _ _) rfl τ⟩) <| .bi rfl <| .z ?_
   refine .cond (t := decide ((j : Int) < (a.length : Int))) rfl (fun c2 => ?_) (fun c2 => ?_)
   ·have c2 := of_decide_eq_true c2
    refine .skip <| .seq <| .block <| .seq ?_
    refine .regD (X := Unit) (by kernel_rfl) (fun ζ => .of [(0, .one (.d (.sl false 115 2 (List.map Entry.c (a))))), (1, .one (.d (.sl false 115 2 (List.map Entry.c (b))))), (5, .one (.d (.v (.int .i64 ((j : Int)))))), (6, .one (.d (.v (.int .i64 (IntKind.wrap .i64 ((IntKind.wrap .i64 (10 * ((a.getD j default).line))) + ((a.getD j default).pick)))))))] []) [⟨[0], some 24, [], []⟩, ⟨[5], some 25, [], []⟩, ⟨[24, 25], some 26, [], []⟩, ⟨[26], some 27, [], []⟩, ⟨[27], some 28, [], []⟩, ⟨[28], some 29, [], []⟩, ⟨[0], some 30, [], []⟩, ⟨[5], some 31, [], []⟩, ⟨[30, 31], some 32, [], []⟩, ⟨[32], some 33, [], []⟩, ⟨[33], some 34, [], []⟩, ⟨[29, 34], some 35, [], []⟩, ⟨[35], some 6, [], []⟩] (by kernel_rfl) (fun k12 => ?_) ?_
    ·skip
     refine .move (.no rfl) rfl rfl rfl rfl <| .move (.no rfl) rfl rfl rfl rfl <| .indexAddr (.no rfl) rfl (j) t49 rfl t115 rfl rfl rfl (.d _ _) rfl rfl rfl (map_get (by omega)) rfl rfl <| .fieldAddr (.no rfl) rfl t115 rfl rfl t2 rfl rfl rfl rfl [] (by simp) (by intro _ _ _ h; cases h) rfl rfl <| .load (.no rfl) rfl t2 rfl rfl (.d _) rfl rfl rfl rfl <| .bin (.no rfl) rfl rfl rfl rfl rfl rfl <| .move (.no rfl) rfl rfl rfl rfl <| .move (.no rfl) rfl rfl rfl rfl <| .indexAddr (.no rfl) rfl (j) t49 rfl t115 rfl rfl rfl (.d _ _) rfl rfl rfl (map_get (by omega)) rfl rfl ?_
     refine .fieldAddr (.no rfl) rfl t115 rfl rfl t2 rfl rfl rfl rfl [] (by simp) (by intro _ _ _ h; cases h) rfl rfl <| .load (.no rfl) rfl t2 rfl rfl (.d _) rfl rfl rfl rfl <| .bin (.no rfl) rfl rfl rfl rfl rfl rfl <| .assign (.no rfl) rfl rfl rfl rfl ?_
     exact .fin () (.of (.r rfl) .nil)
    intro _
    refine .seq ?_
    refine .regD (X := Unit) (by kernel_rfl) (fun ζ => .of [(0, .one (.d (.sl false 115 2 (List.map Entry.c (a))))), (1, .one (.d (.sl false 115 2 (List.map Entry.c (b))))), (5, .one (.d (.v (.int .i64 ((j : Int)))))), (6, .one (.d (.v (.int .i64 (IntKind.wrap .i64 ((IntKind.wrap .i64 (10 * ((a.getD j default).line))) + ((a.getD j default).pick))))))), (7, .one (.d (.v (.int .i64 (IntKind.wrap .i64 ((IntKind.wrap .i64 (10 * ((b.getD j default).line))) + ((b.getD j default).pick)))))))] []) [⟨[1], some 36, [], []⟩, ⟨[5], some 37, [], []⟩, ⟨[36, 37], some 38, [], []⟩, ⟨[38], some 39, [], []⟩, ⟨[39], some 40, [], []⟩, ⟨[40], some 41, [], []⟩, ⟨[1], some 42, [], []⟩, ⟨[5], some 43, [], []⟩, ⟨[42, 43], some 44, [], []⟩, ⟨[44], some 45, [], []⟩, ⟨[45], some 46, [], []⟩, ⟨[41, 46], some 47, [], []⟩, ⟨[47], some 7, [], []⟩] (by kernel_rfl) (fun k13 => ?_) ?_
    ·skip
     refine .move (.no rfl) rfl rfl rfl rfl <| .move (.no rfl) rfl rfl rfl rfl <| .indexAddr (.no rfl) rfl (j) t49 rfl t115 rfl rfl rfl (.d _ _) rfl rfl rfl (map_get (by omega)) rfl rfl <| .fieldAddr (.no rfl) rfl t115 rfl rfl t2 rfl rfl rfl rfl [] (by simp) (by intro _ _ _ h; cases h) rfl rfl <| .load (.no rfl) rfl t2 rfl rfl (.d _) rfl rfl rfl rfl <| .bin (.no rfl) rfl rfl rfl rfl rfl rfl <| .move (.no rfl) rfl rfl rfl rfl <| .move (.no rfl) rfl rfl rfl rfl <| .indexAddr (.no rfl) rfl (j) t49 rfl t115 rfl rfl rfl (.d _ _) rfl rfl rfl (map_get (by omega)) rfl rfl ?_
     refine .fieldAddr (.no rfl) rfl t115 rfl rfl t2 rfl rfl rfl rfl [] (by simp) (by intro _ _ _ h; cases h) rfl rfl <| .load (.no rfl) rfl t2 rfl rfl (.d _) rfl rfl rfl rfl <| .bin (.no rfl) rfl rfl rfl rfl rfl rfl <| .assign (.no rfl) rfl rfl rfl rfl ?_
     exact .fin () (.of (.r rfl) .nil)
    intro _
    refine .seq <| .seq <| .rs fun k14 => .mv rfl <| .mv rfl <| .bi rfl <| .z ?_
    refine .cond (t := decide ((IntKind.wrap .i64 ((IntKind.wrap .i64 (10 * ((a.getD j default).line))) + ((a.getD j default).pick))) < (IntKind.wrap .i64 ((IntKind.wrap .i64 (10 * ((b.getD j default).line))) + ((b.getD j default).pick))))) rfl (fun c3 => ?_) (fun c3 => ?_)
    ·have c3 := of_decide_eq_true c3
     refine .seq <| .rs fun k15 => .as rfl <| .z <| .ret ?_
     exact fin0 (.inr rfl) (.one (svI (show (-1) = (tokCmp a b) by exact l9_ret (by omega) (by omega) hI.2 ((l9_key ha hb (by omega) (j := j) (by omega)).trans (cmpI_lt c3)) (by decide))) .nil) (.dd .nil) rfl
    ·have c3 := of_decide_eq_false c3
     refine .skip <| .seq <| .rs fun k17 => .mv rfl <| .mv rfl <| .bi rfl <| .z ?_
     refine .cond (t := decide ((IntKind.wrap .i64 ((IntKind.wrap .i64 (10 * ((a.getD j default).line))) + ((a.getD j default).pick))) > (IntKind.wrap .i64 ((IntKind.wrap .i64 (10 * ((b.getD j default).line))) + ((b.getD j default).pick))))) rfl (fun c4 => ?_) (fun c4 => ?_)
     ·have c4 := of_decide_eq_true c4
      refine .seq <| .rs fun k18 => .as rfl <| .z <| .ret ?_
      exact fin0 (.inr rfl) (.one (svI (show (1) = (tokCmp a b) by exact l9_ret (by omega) (by omega) hI.2 ((l9_key ha hb (by omega) (j := j) (by omega)).trans (cmpI_gt c3 c4)) (by decide))) .nil) (.dd .nil) rfl
     ·have c4 := of_decide_eq_false c4
      refine .skip <| .rs fun k20 => .mv rfl <| .bi rfl <| .as rfl <| .z ?_
      exact .here (j + 1) (.of (.cons rfl (.cons rfl (.cons (svI (show (IntKind.wrap .i64 ((j : Int) + 1)) = (((j + 1) : Int)) by first | rfl | omega | exact wrap_le (by omega) (by omega) | (rw [wrap_le (by omega) (by omega)]; omega))) .nil))) .nil) ⟨(show (j + 1) ≤ a.length ∧ lexC entCmp (a.drop (j + 1)) (b.drop (j + 1)) = lexC entCmp a b by exact ⟨by omega, (lexC_step (by omega) (by omega) ((l9_key ha hb (by omega) (j := j) (by omega)).trans (cmpI_eq c3 c4))).symm.trans hI.2⟩), (show a.length - (j + 1) < a.length - j by omega)⟩
   ·have c2 := of_decide_eq_false c2
    refine .exit <| .seq <| .rs fun k21 => .as rfl <| .z <| .ret ?_
    exact fin0 (.inr rfl) (.one (svI (show (0) = (tokCmp a b) by (rw [tokCmp_len (by omega), ← hI.2, lexC_end (by omega) (by omega)]))) .nil) (.dd .nil) rfl
theorem c_l9Live (t : List Env) : Trip Tryz.prog 76 [(false, 1)] ([.sl false 98 3 (List.map Env.c98 (t))]) [(false, 1)] [.v (.bool (t.any Env.live))] [] := by
 refine Trip.of Tryz.func76 (by decide) (c := _) rfl rfl (Nat.le_of_ble_eq_true rfl) rfl (AftOk.nil _) <| .sl (t := 0) rfl fun hs1l => .seq <| .rs fun k2 => .as rfl <| .z <| .seq <| .seq <| .rs fun k3 => ?_
 refine .as rfl <| .z <| .block ?_
 refine .loop (X := Nat) (fun ζ => .of [(0, .one (.d (.sl false 98 3 (List.map Env.c98 (t))))), (3, .one (.d (.v (.int .i64 ((ζ : Int))))))] []) (fun ζ => ζ ≤ t.length ∧ allTo ζ (fun i => !Env.live (t.getD i default)) = true) (fun ζ => t.length - ζ) ?_ ?_
 ·skip
  exact .here 0 (.of (.cons rfl (.cons (svI (show (0) = ((0 : Int)) by first | rfl | omega | exact wrap_le (by omega) (by omega) | (rw [wrap_le (by omega) (by omega)]; omega))) .nil)) .nil) (show 0 ≤ t.length ∧ allTo 0 (fun i => !Env.live (t.getD i default)) = true by exact ⟨by omega, rfl⟩)
 ·rintro j hI
  have hI : j ≤ t.length ∧ allTo j (fun i => !Env.live (t.getD i default)) = true := hI
  refine .seq <| .seq <| .rs fun k4 => .mv rfl <| .mv rfl <| .g (fun _ τ => ⟨_, .len (.no rfl) rfl (z := (t.length : Int)) t60 rfl rfl rfl (.d _ _) (map_len _ _) rfl τ⟩) <| .bi rfl <| .z ?_
  refine .cond (t := decide ((j : Int) < (t.length : Int))) rfl (fun c0 => ?_) (fun c0 => ?_)
  ·have c0 := of_decide_eq_true c0
   refine .skip <| .seq <| .block <| .seq <| .rs fun k5 => .mv rfl <| .mv rfl <| .g (fun _ τ => ⟨_, .indexAddr (.no rfl) rfl (j) t60 rfl t98 rfl rfl rfl (.d _ _) rfl rfl rfl (map_get (by omega)) rfl rfl τ⟩) <| .g (fun _ τ => ⟨_, .fieldAddr (.no rfl) rfl t98 rfl rfl t4 rfl rfl rfl rfl [] (by simp) (by intro _ _ _ h; cases h) rfl rfl τ⟩) ?_
   refine .ld t4 rfl (.d _) rfl <| .z ?_
   refine .cond (t := (t.getD j default).live) rfl (fun c1 => ?_) (fun c1 => ?_)
   ·have c1 := c1
    refine .seq <| .rs fun k6 => .as rfl <| .z <| .ret ?_
    exact fin0 (.inr rfl) (.one (svB (show (true) = (t.any Env.live) by exact (any_found (p := Env.live) (j := j) (by omega) c1).symm)) .nil) (.dd .nil) rfl
   ·have c1 := c1
    refine .skip <| .rs fun k8 => .mv rfl <| .bi rfl <| .as rfl <| .z ?_
    exact .here (j + 1) (.of (.cons rfl (.cons (svI (show (IntKind.wrap .i64 ((j : Int) + 1)) = (((j + 1) : Int)) by first | rfl | omega | exact wrap_le (by omega) (by omega) | (rw [wrap_le (by omega) (by omega)]; omega))) .nil)) .nil) ⟨(show (j + 1) ≤ t.length ∧ allTo (j + 1) (fun i => !Env.live (t.getD i default)) = true by exact ⟨by omega, allTo_step hI.2 (by rw [show Env.live (t.getD j default) = false from c1]; rfl)⟩), (show t.length - (j + 1) < t.length - j by omega)⟩
  ·have c0 := of_decide_eq_false c0
   refine .exit <| .seq <| .rs fun k9 => .as rfl <| .z <| .ret ?_
   exact fin0 (.inr rfl) (.one (svB (show (false) = (t.any Env.live) by exact (any_none (p := Env.live) (j := j) (by omega) hI.2).symm)) .nil) (.dd .nil) rfl
theorem c_isNaNi (x : Int) : Trip Tryz.prog 194 [(false, 1)] ([.v (.int .i64 (x))]) [(false, 1)] [.v (.bool (false))] [] := by
 refine Trip.of Tryz.func194 (by decide) (c := _) rfl rfl (Nat.le_of_ble_eq_true rfl) rfl (AftOk.nil _) <| .seq <| .rs fun k1 => .as rfl <| .z <| .seq <| .rs fun k2 => .mv rfl <| .mv rfl ?_
 refine .bi rfl <| .as rfl <| .z <| .ret ?_
 exact fin0 (.inr rfl) (.one (svB (show (x != x) = (false) by simp)) .nil) (.dd .nil) rfl
theorem c_Comparei (x : Int) (y : Int) : Trip Tryz.prog 158 [(false, 1), (false, 1)] ([.v (.int .i64 (x))] ++ [.v (.int .i64 (y))]) [(false, 1)] [.v (.int .i64 (cmpI x y))] [] := by
 refine Trip.of Tryz.func158 (by decide) (c := _) rfl rfl (Nat.le_of_ble_eq_true rfl) rfl (AftOk.nil _) <| .seq <| .rs fun k1 => .as rfl <| .z <| .seq <| .rs fun k2 => .mv rfl <| .c0 (c_isNaNi x) rfl (.dd .nil) (.own [8, 0] .nil) rfl ?_
 refine .as rfl <| .z <| .seq <| .rs fun k3 => .mv rfl <| .c0 (c_isNaNi y) rfl (.dd .nil) (.own [10, 0] .nil) rfl <| .as rfl <| .z <| .seq ?_
 refine .seq <| .rs fun k4 => .mv rfl <| .z ?_
 refine .cond (t := false) rfl (fun h => by cases h) (fun _ => ?_)
 refine .skip <| .seq <| .seq <| .rs fun k5 => .mv rfl <| .z ?_
 refine .cond (t := false) rfl (fun h => by cases h) (fun _ => ?_)
 refine .skip <| .seq <| .seq <| .rs fun k6 => .mv rfl <| .mv rfl <| .bi rfl <| .z ?_
 refine .cond (t := decide (x < y)) rfl (fun c3 => ?_) (fun c3 => ?_)
 ·have c3 := of_decide_eq_true c3
  refine .seq <| .rs fun k7 => .as rfl <| .z <| .ret ?_
  exact fin0 (.inr rfl) (.one (svI (show (-1) = (cmpI x y) by (rw [cmpI_lt c3]))) .nil) (.dd .nil) rfl
 ·have c3 := of_decide_eq_false c3
  refine .skip <| .seq <| .seq <| .rs fun k9 => .mv rfl <| .mv rfl <| .bi rfl <| .z ?_
  refine .cond (t := decide (x > y)) rfl (fun c4 => ?_) (fun c4 => ?_)
  ·have c4 := of_decide_eq_true c4
   refine .seq <| .rs fun k10 => .as rfl <| .z <| .ret ?_
   exact fin0 (.inr rfl) (.one (svI (show (1) = (cmpI x y) by (rw [cmpI_gt c3 c4]))) .nil) (.dd .nil) rfl
  ·have c4 := of_decide_eq_false c4
   refine .skip <| .seq <| .rs fun k12 => .as rfl <| .z <| .ret ?_
   exact fin0 (.inr rfl) (.one (svI (show (0) = (cmpI x y) by (rw [cmpI_eq c3 c4]))) .nil) (.dd .nil) rfl
theorem c_Ori (l : List Int) : Trip Tryz.prog 157 [(false, 1)] ([.sl false 3 1 (List.map i64c (l))]) [(false, 1)] [.v (.int .i64 (orL l))] [] := by
 refine Trip.of Tryz.func157 (by decide) (c := _) rfl rfl (Nat.le_of_ble_eq_true rfl) rfl (AftOk.nil _) <| .sl (t := 0) rfl fun hs1l => .seq <| .rs fun k2 => .as rfl <| .z <| .seq <| .rs fun k3 => .as rfl ?_
 refine .z <| .seq <| .seq <| .rs fun k4 => .mv rfl <| .g (fun _ τ => ⟨_, .len (.no rfl) rfl (z := (l.length : Int)) t209 rfl rfl rfl (.d _ _) (map_len _ _) rfl τ⟩) <| .mv rfl <| .z <| .block ?_
 refine .loop (X := Nat) (fun ζ => .of [(3, .one (.d (.v (.int .i64 (0))))), (6, .one (.d (.sl false 3 1 (List.map i64c (l))))), (7, .one (.d (.v (.int .i64 ((l.length : Int)))))), (8, .one (.d (.v (.int .i64 ((ζ : Int))))))] []) (fun ζ => ζ ≤ l.length ∧ orL (l.drop ζ) = orL l) (fun ζ => l.length - ζ) ?_ ?_
 ·skip
  exact .here 0 (.of (.cons rfl (.cons rfl (.cons rfl (.cons (svI (show (0) = ((0 : Int)) by first | rfl | omega | exact wrap_le (by omega) (by omega) | (rw [wrap_le (by omega) (by omega)]; omega))) .nil)))) .nil) (show 0 ≤ l.length ∧ orL (l.drop 0) = orL l by exact ⟨by omega, rfl⟩)
 ·rintro j hI
  have hI : j ≤ l.length ∧ orL (l.drop j) = orL l := hI
  refine .seq <| .rs fun k5 => .bi rfl <| .z <| .seq ?_
  refine .cond (t := decide ((j : Int) < (l.length : Int))) rfl (fun c0 => ?_) (fun c0 => ?_)
  ·have c0 := of_decide_eq_true c0
   refine .skip <| .seq <| .block <| .seq <| .rs fun k6 => .g (fun _ τ => ⟨_, .indexAddr (.no rfl) rfl (j) t209 rfl t3 rfl rfl rfl (.d _ _) rfl rfl rfl (map_get (by omega)) rfl rfl τ⟩) <| .ld t3 rfl (.d _) rfl <| .as rfl <| .z ?_
   refine .seq <| .rs fun k7 => .mv rfl <| .mv rfl <| .bi rfl <| .z ?_
   refine .cond (t := (l.getD j default) != 0) rfl (fun c1 => ?_) (fun c1 => ?_)
   ·have c1 := (by simpa using c1 : ¬ ((l.getD j default) = 0))
    refine .seq <| .rs fun k8 => .mv rfl <| .as rfl <| .z <| .ret ?_
    exact fin0 (.inr rfl) (.one (svI (show (l.getD j default) = (orL l) by (rw [← hI.2, orL_here (by omega) c1]))) .nil) (.dd .nil) rfl
   ·have c1 := (by simpa using c1 : (l.getD j default) = 0)
    refine .skip <| .rs fun k10 => .bi rfl <| .mv rfl <| .z ?_
    exact .here (j + 1) (.of (.cons rfl (.cons rfl (.cons rfl (.cons (svI (show (IntKind.wrap .i64 ((j : Int) + 1)) = (((j + 1) : Int)) by first | rfl | omega | exact wrap_le (by omega) (by omega) | (rw [wrap_le (by omega) (by omega)]; omega))) .nil)))) .nil) ⟨(show (j + 1) ≤ l.length ∧ orL (l.drop (j + 1)) = orL l by exact ⟨by omega, (orL_step (by omega) (by simpa using c1)).symm.trans hI.2⟩), (show l.length - (j + 1) < l.length - j by omega)⟩
  ·have c0 := of_decide_eq_false c0
   refine .exit <| .seq <| .rs fun k11 => .mv rfl <| .as rfl <| .z <| .ret ?_
   exact fin0 (.inr rfl) (.one (svI (show (0) = (orL l) by (rw [← hI.2, orL_end (by omega)]))) .nil) (.dd .nil) rfl
theorem c_isNaNl (x : Int) : Trip Tryz.prog 195 [(false, 1)] ([.v (.int .i64 (x))]) [(false, 1)] [.v (.bool (false))] [] := by
 refine Trip.of Tryz.func195 (by decide) (c := _) rfl rfl (Nat.le_of_ble_eq_true rfl) rfl (AftOk.nil _) <| .seq <| .rs fun k1 => .as rfl <| .z <| .seq <| .rs fun k2 => .mv rfl <| .mv rfl ?_
 refine .bi rfl <| .as rfl <| .z <| .ret ?_
 exact fin0 (.inr rfl) (.one (svB (show (x != x) = (false) by simp)) .nil) (.dd .nil) rfl
theorem c_Comparel (x : Int) (y : Int) : Trip Tryz.prog 161 [(false, 1), (false, 1)] ([.v (.int .i64 (x))] ++ [.v (.int .i64 (y))]) [(false, 1)] [.v (.int .i64 (cmpI x y))] [] := by
 refine Trip.of Tryz.func161 (by decide) (c := _) rfl rfl (Nat.le_of_ble_eq_true rfl) rfl (AftOk.nil _) <| .seq <| .rs fun k1 => .as rfl <| .z <| .seq <| .rs fun k2 => .mv rfl <| .c0 (c_isNaNl x) rfl (.dd .nil) (.own [8, 0] .nil) rfl ?_
 refine .as rfl <| .z <| .seq <| .rs fun k3 => .mv rfl <| .c0 (c_isNaNl y) rfl (.dd .nil) (.own [10, 0] .nil) rfl <| .as rfl <| .z <| .seq ?_
 refine .seq <| .rs fun k4 => .mv rfl <| .z ?_
 refine .cond (t := false) rfl (fun h => by cases h) (fun _ => ?_)
 refine .skip <| .seq <| .seq <| .rs fun k5 => .mv rfl <| .z ?_
 refine .cond (t := false) rfl (fun h => by cases h) (fun _ => ?_)
 refine .skip <| .seq <| .seq <| .rs fun k6 => .mv rfl <| .mv rfl <| .bi rfl <| .z ?_
 refine .cond (t := decide (x < y)) rfl (fun c3 => ?_) (fun c3 => ?_)
 ·have c3 := of_decide_eq_true c3
  refine .seq <| .rs fun k7 => .as rfl <| .z <| .ret ?_
  exact fin0 (.inr rfl) (.one (svI (show (-1) = (cmpI x y) by (rw [cmpI_lt c3]))) .nil) (.dd .nil) rfl
 ·have c3 := of_decide_eq_false c3
  refine .skip <| .seq <| .seq <| .rs fun k9 => .mv rfl <| .mv rfl <| .bi rfl <| .z ?_
  refine .cond (t := decide (x > y)) rfl (fun c4 => ?_) (fun c4 => ?_)
  ·have c4 := of_decide_eq_true c4
   refine .seq <| .rs fun k10 => .as rfl <| .z <| .ret ?_
   exact fin0 (.inr rfl) (.one (svI (show (1) = (cmpI x y) by (rw [cmpI_gt c3 c4]))) .nil) (.dd .nil) rfl
  ·have c4 := of_decide_eq_false c4
   refine .skip <| .seq <| .rs fun k12 => .as rfl <| .z <| .ret ?_
   exact fin0 (.inr rfl) (.one (svI (show (0) = (cmpI x y) by (rw [cmpI_eq c3 c4]))) .nil) (.dd .nil) rfl
end Go.Proofs

namespace Go.Proofs
open Go Go.Proofs Go.Ev

def i217 : TI := ⟨.fn, 1, 8, [.nilFunc]⟩
theorem t217 : TyOk Tryz.prog 217 i217 := ⟨⟨_, _, _, Tryz.underlying217⟩, by kernel_rfl⟩
theorem z217 : ZOk Tryz.prog 217 i217 := ⟨t217, rfl⟩
theorem c_CompareFunc (a : List Entry) (b : List Entry) (F_p : FuncId) (first_p : List (Bool × List D)) (caps_p : List D) (p : Entry → Entry → Int) (h_p : ∀ (x0 : Entry) (x1 : Entry), FnTrip Tryz.prog F_p first_p caps_p [(true, 2), (true, 2)] (Entry.c x0 ++ Entry.c x1) [(false, 1)] [.v (.int .i64 (p x0 x1))]) : Trip Tryz.prog 159 [(false, 1), (false, 1), (false, 1)] ([.sl false 115 2 (List.map Entry.c (a))] ++ [.sl false 115 2 (List.map Entry.c (b))] ++ [.fn F_p first_p caps_p]) [(false, 1)] [.v (.int .i64 (lexC p a b))] [] := by
 refine Trip.of Tryz.func159 (by decide +kernel) (c := _) rfl rfl (Nat.le_of_ble_eq_true rfl) rfl (AftOk.nil _) <| .sl (t := 0) rfl fun hs1l => .sl (t := 1) rfl fun hs2l => .seq <| .rs fun k3 => .as rfl <| .z <| .seq <| .seq ?_
 refine .rs fun k4 => .mv rfl <| .g (fun _ τ => ⟨_, .len (.no rfl) rfl (z := (a.length : Int)) t49 rfl rfl rfl (.d _ _) (map_len _ _) rfl τ⟩) <| .mv rfl <| .z <| .block ?_
 refine .loop (X := Nat) (fun ζ => .of [(0, .one (.d (.sl false 115 2 (List.map Entry.c (a))))), (1, .one (.d (.sl false 115 2 (List.map Entry.c (b))))), (2, .one (.d (.fn F_p first_p caps_p))), (11, .one (.d (.sl false 115 2 (List.map Entry.c (a))))), (12, .one (.d (.v (.int .i64 ((a.length : Int)))))), (13, .one (.d (.v (.int .i64 ((ζ : Int))))))] []) (fun ζ => ζ ≤ a.length ∧ ζ ≤ b.length ∧ lexC p (a.drop ζ) (b.drop ζ) = lexC p a b) (fun ζ => a.length - ζ) ?_ ?_
 ·skip
  exact .here 0 (.of (.cons rfl (.cons rfl (.cons rfl (.cons rfl (.cons rfl (.cons (svI (show (0) = ((0 : Int)) by first | rfl | omega | exact wrap_le (by omega) (by omega) | (rw [wrap_le (by omega) (by omega)]; omega))) .nil)))))) .nil) (show 0 ≤ a.length ∧ 0 ≤ b.length ∧ lexC p (a.drop 0) (b.drop 0) = lexC p a b by exact ⟨by omega, by omega, rfl⟩)
 ·rintro j hI
  have hI : j ≤ a.length ∧ j ≤ b.length ∧ lexC p (a.drop j) (b.drop j) = lexC p a b := hI
  refine .seq <| .rs fun k5 => .bi rfl <| .z <| .seq ?_
  refine .cond (t := decide ((j : Int) < (a.length : Int))) rfl (fun c0 => ?_) (fun c0 => ?_)
  ·have c0 := of_decide_eq_true c0
   refine .skip <| .seq <| .block <| .seq <| .rs fun k6 => .mv rfl <| .g (fun _ τ => ⟨_, .indexAddr (.no rfl) rfl (j) t49 rfl t115 rfl rfl rfl (.d _ _) rfl rfl rfl (map_get (by omega)) rfl rfl τ⟩) <| .lda t115 rfl (.d _) rfl <| .g (fun _ τ => ⟨_, .alloc (.no rfl) rfl z115 rfl rfl rfl τ⟩) ?_
   refine .as rfl <| .g (fun _ τ => ⟨_, .store (.no rfl) rfl t115 rfl rfl rfl rfl rfl rfl rfl rfl rfl τ⟩) <| .z <| .seq <| .seq <| .rs fun k7 => .mv rfl <| .mv rfl <| .g (fun _ τ => ⟨_, .len (.no rfl) rfl (z := (b.length : Int)) t49 rfl rfl rfl (.d _ _) (map_len _ _) rfl τ⟩) ?_
   refine .bi rfl <| .z ?_
   refine .cond (t := decide ((j : Int) ≥ (b.length : Int))) rfl (fun c1 => ?_) (fun c1 => ?_)
   ·have c1 := of_decide_eq_true c1
    refine .seq <| .rs fun k8 => .as rfl <| .z <| .ret ?_
    exact fin0 (.inr rfl) (.one (svI (show (1) = (lexC p a b) by (rw [← hI.2.2, lexC_more (by omega) (by omega)]))) .nil) (.dd .nil) rfl
   ·have c1 := of_decide_eq_false c1
    refine .skip <| .seq <| .rs fun k10 => .mv rfl <| .mv rfl <| .g (fun _ τ => ⟨_, .indexAddr (.no rfl) rfl (j) t49 rfl t115 rfl rfl rfl (.d _ _) rfl rfl rfl (map_get (by omega)) rfl rfl τ⟩) <| .lda t115 rfl (.d _) rfl <| .g (fun _ τ => ⟨_, .alloc (.no rfl) rfl z115 rfl rfl rfl τ⟩) <| .g (fun _ τ => ⟨_, .store (.no rfl) rfl t115 rfl rfl rfl rfl rfl rfl rfl rfl rfl τ⟩) ?_
    refine .z <| .seq <| .rs fun k11 => .mv rfl <| .lda t115 rfl (.ptr _ _ _ _ _ rfl) rfl <| .lda t115 rfl (.ptr _ _ _ _ _ rfl) rfl <| .g (fun _ τ => ⟨_, .callF (.no rfl) rfl (ds := [.v (.int .i64 ((a.getD j default).line)), .v (.int .i64 ((a.getD j default).pick)), .v (.int .i64 ((b.getD j default).line)), .v (.int .i64 ((b.getD j default).pick))]) (h_p (a.getD j default) (b.getD j default)) rfl rfl rfl rfl (.own [29, 0] .nil) rfl rfl rfl rfl rfl rfl τ⟩) <| .as rfl <| .z ?_
    refine .seq <| .rs fun k12 => .mv rfl <| .bi rfl <| .z ?_
    refine .cond (t := (p (a.getD j default) (b.getD j default)) != 0) rfl (fun c2 => ?_) (fun c2 => ?_)
    ·have c2 := (by simpa using c2 : ¬ ((p (a.getD j default) (b.getD j default)) = 0))
     refine .seq <| .rs fun k13 => .mv rfl <| .as rfl <| .z <| .ret ?_
     exact fin0 (.inr rfl) (.one (svI (show (p (a.getD j default) (b.getD j default)) = (lexC p a b) by (rw [← hI.2.2, lexC_here (by omega) (by omega) c2]))) .nil) (.dd .nil) rfl
    ·have c2 := (by simpa using c2 : (p (a.getD j default) (b.getD j default)) = 0)
     refine .skip <| .rs fun k15 => .bi rfl <| .mv rfl <| .z ?_
     exact .here (j + 1) (.of (.cons rfl (.cons rfl (.cons rfl (.cons rfl (.cons rfl (.cons (svI (show (IntKind.wrap .i64 ((j : Int) + 1)) = (((j + 1) : Int)) by first | rfl | omega | exact wrap_le (by omega) (by omega) | (rw [wrap_le (by omega) (by omega)]; omega))) .nil)))))) .nil) ⟨(show (j + 1) ≤ a.length ∧ (j + 1) ≤ b.length ∧ lexC p (a.drop (j + 1)) (b.drop (j + 1)) = lexC p a b by exact ⟨by omega, by omega, (lexC_step (by omega) (by omega) (by simpa using c2)).symm.trans hI.2.2⟩), (show a.length - (j + 1) < a.length - j by omega)⟩
  ·have c0 := of_decide_eq_false c0
   refine .exit <| .seq <| .seq <| .rs fun k16 => .mv rfl <| .g (fun _ τ => ⟨_, .len (.no rfl) rfl (z := (a.length : Int)) t49 rfl rfl rfl (.d _ _) (map_len _ _) rfl τ⟩) <| .mv rfl <| .g (fun _ τ => ⟨_, .len (.no rfl) rfl (z := (b.length : Int)) t49 rfl rfl rfl (.d _ _) (map_len _ _) rfl τ⟩) <| .bi rfl ?_
   refine .z ?_
   refine .cond (t := decide ((a.length : Int) < (b.length : Int))) rfl (fun c3 => ?_) (fun c3 => ?_)
   ·have c3 := of_decide_eq_true c3
    refine .seq <| .rs fun k17 => .as rfl <| .z <| .ret ?_
    exact fin0 (.inr rfl) (.one (svI (show (-1) = (lexC p a b) by (rw [← hI.2.2, lexC_less (by omega) (by omega)]))) .nil) (.dd .nil) rfl
   ·have c3 := of_decide_eq_false c3
    refine .skip <| .seq <| .rs fun k19 => .as rfl <| .z <| .ret ?_
    exact fin0 (.inr rfl) (.one (svI (show (0) = (lexC p a b) by (rw [← hI.2.2, lexC_end (by omega) (by omega)]))) .nil) (.dd .nil) rfl
theorem c_cmpTok1 (x : Entry) (y : Entry) : Trip Tryz.prog 160 [(true, 2), (true, 2)] (Entry.c x ++ Entry.c y) [(false, 1)] [.v (.int .i64 (entCmp x y))] [] := by
 refine Trip.of Tryz.func160 (by decide) (c := _) rfl rfl (Nat.le_of_ble_eq_true rfl) rfl (AftOk.nil _) <| .seq <| .rs fun k1 => .g (fun _ τ => ⟨_, .box (.no rfl) rfl rfl rfl rfl rfl τ⟩) <| .g (fun _ τ => ⟨_, .box (.no rfl) rfl rfl rfl rfl rfl τ⟩) <| .as rfl <| .z <| .seq ?_
 refine .regD (X := Unit) (by kernel_rfl) (fun ζ => .of [(4, .one (.d (.v (.int .i64 (orL [cmpI x.line y.line, cmpI x.pick y.pick])))))] []) [⟨[2], some 5, [], []⟩, ⟨[5], some 6, [[2]], []⟩, ⟨[3], some 7, [], []⟩, ⟨[7], some 8, [[3]], []⟩, ⟨[6, 8], some 9, [], []⟩, ⟨[2], some 10, [], []⟩, ⟨[10], some 11, [[2]], []⟩, ⟨[3], some 12, [], []⟩, ⟨[12], some 13, [[3]], []⟩, ⟨[11, 13], some 14, [], []⟩, ⟨[9, 14], some 15, [], [[15]]⟩, ⟨[15], some 16, [[15]], []⟩, ⟨[16], some 4, [], []⟩] (by kernel_rfl) (fun k2 => ?_) ?_
 ·skip
  refine .fieldAddrP (.no rfl) rfl t115 rfl rfl t2 rfl rfl rfl rfl <| .load (.no rfl) rfl t2 rfl rfl (.ptr _ _ _ _ _ rfl) rfl rfl rfl rfl <| .fieldAddrP (.no rfl) rfl t115 rfl rfl t2 rfl rfl rfl rfl <| .load (.no rfl) rfl t2 rfl rfl (.ptr _ _ _ _ _ rfl) rfl rfl rfl rfl <| .call (.no rfl) rfl [] [] (c_Comparel x.line y.line) rfl rfl rfl rfl rfl (.dd (.dd .nil)) rfl rfl (fun h => absurd rfl h) (.own [9, 0] .nil) (.nil) rfl rfl rfl (by simp) rfl rfl rfl <| .fieldAddrP (.no rfl) rfl t115 rfl rfl t2 rfl rfl rfl rfl <| .load (.no rfl) rfl t2 rfl rfl (.ptr _ _ _ _ _ rfl) rfl rfl rfl rfl <| .fieldAddrP (.no rfl) rfl t115 rfl rfl t2 rfl rfl rfl rfl <| .load (.no rfl) rfl t2 rfl rfl (.ptr _ _ _ _ _ rfl) rfl rfl rfl rfl ?_
  refine .call (.no rfl) rfl [] [] (c_Comparel x.pick y.pick) rfl rfl rfl rfl rfl (.dd (.dd .nil)) rfl rfl (fun h => absurd rfl h) (.own [14, 0] .nil) (.nil) rfl rfl rfl (by simp) rfl rfl rfl <| .buildSlice (.no rfl) rfl (els := [[.v (.int .i64 (cmpI x.line y.line))], [.v (.int .i64 (cmpI x.pick y.pick))]]) t209 rfl z3 rfl rfl rfl rfl rfl rfl rfl rfl (by simp [i3]) (.cons _ _ _ _ _ _ (.d _) (.cons _ _ _ _ _ _ (.d _) .nil)) rfl rfl rfl ?_
  refine .call (.no rfl) rfl [[15]] [([15], (k2 + 1 + 1 + 1 + 1 + 1 + 1 + 1 + 1 + 1 + 1, k2 + 1 + 1 + 1 + 1 + 1 + 1 + 1 + 1 + 1 + 1, .row 3 1 ([[.v (.int .i64 (cmpI x.line y.line))], [.v (.int .i64 (cmpI x.pick y.pick))]])))] (c_Ori [cmpI x.line y.line, cmpI x.pick y.pick]) rfl rfl rfl rfl rfl (.cons (Reads.ref (Frz.of_erase (erase_slo true 3 1 i64c i64c ([cmpI x.line y.line, cmpI x.pick y.pick]) i64c_e)) (.head _) (.head _)).gives .nil) rfl rfl (fun _ => (ownCons (Owned.v _) ownNil)) (.own [16, 0] .nil) (.nil) rfl rfl rfl (AllH.get (.r rfl)) rfl rfl rfl <| .assign (.no rfl) rfl rfl rfl rfl ?_
  exact .fin () (.of (.r rfl) .nil)
 intro _
 refine .ret ?_
 exact fin0 (.inr rfl) (.one (svI (show (orL [cmpI x.line y.line, cmpI x.pick y.pick]) = (entCmp x y) by exact orL_two _ _)) .nil) (.dd .nil) rfl
theorem c_compareTokens (a : List Entry) (b : List Entry) : Trip Tryz.prog 116 [(false, 1), (false, 1)] ([.sl false 115 2 (List.map Entry.c (a))] ++ [.sl false 115 2 (List.map Entry.c (b))]) [(false, 1)] [.v (.int .i64 (tokCmp a b))] [] := by
 refine Trip.of Tryz.func116 (by decide) (c := _) rfl rfl (Nat.le_of_ble_eq_true rfl) rfl (AftOk.nil _) <| .sl (t := 0) rfl fun hs1l => .sl (t := 1) rfl fun hs2l => .seq <| .rs fun k3 => .as rfl <| .z <| .seq <| .rs fun k4 => ?_
 refine .mv rfl <| .g (fun _ τ => ⟨_, .len (.no rfl) rfl (z := (a.length : Int)) t49 rfl rfl rfl (.d _ _) (map_len _ _) rfl τ⟩) <| .mv rfl <| .g (fun _ τ => ⟨_, .len (.no rfl) rfl (z := (b.length : Int)) t49 rfl rfl rfl (.d _ _) (map_len _ _) rfl τ⟩) <| .c0 (c_Comparei (a.length : Int) (b.length : Int)) rfl (.dd (.dd .nil)) (.own [9, 0] .nil) rfl <| .mv rfl <| .mv rfl <| .c0 (c_CompareFunc a b 160 [] [] (fun x0 x1 => entCmp x0 x1) (fun x0 x1 => c_cmpTok1 x0 x1)) rfl (.dd (.dd (.dd .nil))) (.own [12, 0] .nil) rfl <| .g (fun _ τ => ⟨_, .buildSlice (.no rfl) rfl (els := [[.v (.int .i64 (cmpI (a.length : Int) (b.length : Int)))], [.v (.int .i64 (lexC (fun x0 x1 => entCmp x0 x1) a b))]]) t209 rfl z3 rfl rfl rfl rfl rfl rfl rfl rfl (by simp [i3]) (.cons _ _ _ _ _ _ (.d _) (.cons _ _ _ _ _ _ (.d _) .nil)) rfl rfl rfl τ⟩) ?_
 refine .g (fun _ τ => ⟨_, .call (.no rfl) rfl [[13]] [([13], (k4 + 1 + 1 + 1 + 1 + 1 + 1 + 1 + 1, k4 + 1 + 1 + 1 + 1 + 1 + 1 + 1 + 1, .row 3 1 ([[.v (.int .i64 (cmpI (a.length : Int) (b.length : Int)))], [.v (.int .i64 (lexC (fun x0 x1 => entCmp x0 x1) a b))]])))] (c_Ori [cmpI (a.length : Int) (b.length : Int), lexC (fun x0 x1 => entCmp x0 x1) a b]) rfl rfl rfl rfl rfl (.cons (Reads.ref (Frz.of_erase (erase_slo true 3 1 i64c i64c ([cmpI (a.length : Int) (b.length : Int), lexC (fun x0 x1 => entCmp x0 x1) a b]) i64c_e)) (.head _) (.head _)).gives .nil) rfl rfl (fun _ => (ownCons (Owned.v _) ownNil)) (.own [14, 0] .nil) (.nil) rfl rfl rfl (AllH.get (.r rfl)) rfl rfl rfl τ⟩) <| .as rfl <| .z <| .ret ?_
 exact fin0 (.inr rfl) (.one (svI (show (orL [cmpI (a.length : Int) (b.length : Int), lexC (fun x0 x1 => entCmp x0 x1) a b]) = (tokCmp a b) by exact orL_two _ _)) .nil) (.dd .nil) rfl
theorem c_entryOk (e : Entry) : Trip Tryz.prog 207 [(true, 2)] (Entry.c e) [(false, 1)] [.v (.bool (Entry.ok e))] [] := by
 refine Trip.of Tryz.func207 (by decide) (c := _) rfl rfl (Nat.le_of_ble_eq_true rfl) rfl (AftOk.nil _) <| .seq <| .rs fun k1 => .g (fun _ τ => ⟨_, .box (.no rfl) rfl rfl rfl rfl rfl τ⟩) <| .as rfl <| .z <| .seq ?_
 refine .reg (X := Unit) (fun ζ => .of [(2, .one (.d (.v (.bool ((inR e.line 0 29 && inR e.pick 0 4))))))] []) [⟨[1], some 3, [], []⟩, ⟨[3], some 4, [[1]], []⟩, ⟨[4], some 5, [], []⟩, ⟨[5], some 6, [], []⟩, ⟨[6, 1], some 7, [], []⟩, ⟨[6, 7], some 8, [[1]], []⟩, ⟨[6, 8], some 9, [], []⟩, ⟨[6, 9], some 10, [], []⟩, ⟨[10], some 2, [], []⟩] (fun k2 => ?_) ?_
 ·skip
  refine .fieldAddrP (.no rfl) rfl t115 rfl rfl t2 rfl rfl rfl rfl <| .load (.no rfl) rfl t2 rfl rfl (.ptr _ _ _ _ _ rfl) rfl rfl rfl rfl <| .call (.no rfl) rfl [] [] (c_within e.line 0 29) rfl rfl rfl rfl rfl (.dd (.dd (.dd .nil))) rfl rfl (fun h => absurd rfl h) (.own [5, 0] .nil) (.nil) rfl rfl rfl (by simp) rfl rfl rfl <| .moveB (.no rfl) rfl rfl rfl rfl fun b3 g1_3 => ?_
  cases b3
  ·skip
   refine .off rfl rfl rfl rfl rfl rfl rfl <| .off rfl rfl rfl rfl rfl rfl rfl <| .off rfl rfl rfl rfl rfl rfl rfl <| .pick (.no rfl) rfl rfl rfl rfl rfl <| .assign (.no rfl) rfl rfl rfl rfl ?_
   exact .fin () (.of (.cons (svB (show (false) = ((inR e.line 0 29 && inR e.pick 0 4)) by first | (simp only [g1_3, Bool.true_or, Bool.false_or, Bool.true_and, Bool.false_and, Bool.not_true, Bool.not_false]; done) | (simp [g1_3]; done) | (exfalso; simp_all; done))) .nil) .nil)
  ·skip
   refine .fieldAddrP (.on rfl rfl rfl rfl rfl) rfl t115 rfl rfl t2 rfl rfl rfl rfl <| .load (.on rfl rfl rfl rfl rfl) rfl t2 rfl rfl (.ptr _ _ _ _ _ rfl) rfl rfl rfl rfl <| .call (.on rfl rfl rfl rfl rfl) rfl [] [] (c_within e.pick 0 4) rfl rfl rfl rfl rfl (.dd (.dd (.dd .nil))) rfl rfl (fun h => absurd rfl h) (.own [9, 0] .nil) (.nil) rfl rfl rfl (by simp) rfl rfl rfl <| .pick (.no rfl) rfl rfl rfl rfl rfl <| .assign (.no rfl) rfl rfl rfl rfl ?_
   exact .fin () (.of (.cons (svB (show (inR e.pick 0 4) = ((inR e.line 0 29 && inR e.pick 0 4)) by first | (simp only [g1_3, Bool.true_or, Bool.false_or, Bool.true_and, Bool.false_and, Bool.not_true, Bool.not_false]; done) | (simp [g1_3]; done) | (exfalso; simp_all; done))) .nil) .nil)
 intro _
 refine .ret ?_
 exact fin0 (.inr rfl) (.one (svB (show ((inR e.line 0 29 && inR e.pick 0 4)) = (Entry.ok e) by rfl)) .nil) (.dd .nil) rfl
theorem c_IndexFuncY (l : List Entry) (F_p : FuncId) (first_p : List (Bool × List D)) (caps_p : List D) (p : Entry → Bool) (h_p : ∀ (x0 : Entry), FnTrip Tryz.prog F_p first_p caps_p [(true, 2)] (Entry.c x0) [(false, 1)] [.v (.bool (p x0))]) : Trip Tryz.prog 229 [(false, 1), (false, 1)] ([.sl false 115 2 (List.map Entry.c (l))] ++ [.fn F_p first_p caps_p]) [(false, 1)] [.v (.int .i64 (idx p l))] [] := by
 refine Trip.of Tryz.func229 (by decide) (c := _) rfl rfl (Nat.le_of_ble_eq_true rfl) rfl (AftOk.nil _) <| .sl (t := 0) rfl fun hs1l => .seq <| .rs fun k2 => .as rfl <| .z <| .seq <| .seq <| .rs fun k3 => ?_
 refine .mv rfl <| .g (fun _ τ => ⟨_, .len (.no rfl) rfl (z := (l.length : Int)) t49 rfl rfl rfl (.d _ _) (map_len _ _) rfl τ⟩) <| .mv rfl <| .z <| .block ?_
 refine .loop (X := Nat) (fun ζ => .of [(0, .one (.d (.sl false 115 2 (List.map Entry.c (l))))), (1, .one (.d (.fn F_p first_p caps_p))), (7, .one (.d (.v (.int .i64 ((l.length : Int)))))), (8, .one (.d (.v (.int .i64 ((ζ : Int))))))] []) (fun ζ => ζ ≤ l.length ∧ allTo ζ (fun i => !p (l.getD i default)) = true) (fun ζ => l.length - ζ) ?_ ?_
 ·skip
  exact .here 0 (.of (.cons rfl (.cons rfl (.cons rfl (.cons (svI (show (0) = ((0 : Int)) by first | rfl | omega | exact wrap_le (by omega) (by omega) | (rw [wrap_le (by omega) (by omega)]; omega))) .nil)))) .nil) (show 0 ≤ l.length ∧ allTo 0 (fun i => !p (l.getD i default)) = true by exact ⟨by omega, rfl⟩)
 ·rintro j hI
  have hI : j ≤ l.length ∧ allTo j (fun i => !p (l.getD i default)) = true := hI
  refine .seq <| .rs fun k4 => .bi rfl <| .z <| .seq ?_
  refine .cond (t := decide ((j : Int) < (l.length : Int))) rfl (fun c0 => ?_) (fun c0 => ?_)
  ·have c0 := of_decide_eq_true c0
   refine .skip <| .seq <| .block <| .seq <| .rs fun k5 => .mv rfl <| .as rfl <| .z <| .seq ?_
   refine .rs fun k6 => .mv rfl <| .mv rfl <| .mv rfl <| .g (fun _ τ => ⟨_, .indexAddr (.no rfl) rfl (j) t49 rfl t115 rfl rfl rfl (.d _ _) rfl rfl rfl (map_get (by omega)) rfl rfl τ⟩) <| .lda t115 rfl (.d _) rfl <| .g (fun _ τ => ⟨_, .callF (.no rfl) rfl (ds := [.v (.int .i64 ((l.getD j default).line)), .v (.int .i64 ((l.getD j default).pick))]) (h_p (l.getD j default)) rfl rfl rfl rfl (.own [16, 0] .nil) rfl rfl rfl rfl rfl rfl τ⟩) <| .z ?_
   refine .cond (t := p (l.getD j default)) rfl (fun c1 => ?_) (fun c1 => ?_)
   ·have c1 := c1
    refine .seq <| .rs fun k7 => .mv rfl <| .as rfl <| .z <| .ret ?_
    exact fin0 (.inr rfl) (.one (svI (show ((j : Int)) = (idx p l) by exact (idx_found (j := j) (by omega) hI.2 (by simpa using c1)).symm)) .nil) (.dd .nil) rfl
   ·have c1 := c1
    refine .skip <| .rs fun k9 => .bi rfl <| .mv rfl <| .z ?_
    exact .here (j + 1) (.of (.cons rfl (.cons rfl (.cons rfl (.cons (svI (show (IntKind.wrap .i64 ((j : Int) + 1)) = (((j + 1) : Int)) by first | rfl | omega | exact wrap_le (by omega) (by omega) | (rw [wrap_le (by omega) (by omega)]; omega))) .nil)))) .nil) ⟨(show (j + 1) ≤ l.length ∧ allTo (j + 1) (fun i => !p (l.getD i default)) = true by exact ⟨by omega, allTo_step hI.2 (by simpa using c1)⟩), (show l.length - (j + 1) < l.length - j by omega)⟩
  ·have c0 := of_decide_eq_false c0
   refine .exit <| .seq <| .rs fun k10 => .as rfl <| .z <| .ret ?_
   exact fin0 (.inr rfl) (.one (svI (show (-1) = (idx p l) by exact (idx_none (by omega) hI.2).symm)) .nil) (.dd .nil) rfl
theorem c_ContainsFuncY (l : List Entry) (F_p : FuncId) (first_p : List (Bool × List D)) (caps_p : List D) (p : Entry → Bool) (h_p : ∀ (x0 : Entry), FnTrip Tryz.prog F_p first_p caps_p [(true, 2)] (Entry.c x0) [(false, 1)] [.v (.bool (p x0))]) : Trip Tryz.prog 223 [(false, 1), (false, 1)] ([.sl false 115 2 (List.map Entry.c (l))] ++ [.fn F_p first_p caps_p]) [(false, 1)] [.v (.bool (l.any p))] [] := by
 refine Trip.of Tryz.func223 (by decide) (c := _) rfl rfl (Nat.le_of_ble_eq_true rfl) rfl (AftOk.nil _) <| .sl (t := 0) rfl fun hs1l => .seq <| .rs fun k2 => .as rfl <| .z <| .seq <| .rs fun k3 => .mv rfl ?_
 refine .mv rfl <| .c0 (c_IndexFuncY l F_p first_p caps_p p h_p) rfl (.dd (.dd .nil)) (.own [7, 0] .nil) rfl <| .bi rfl <| .as rfl <| .z <| .ret ?_
 exact fin0 (.inr rfl) (.one (svB (show (decide ((idx p l) ≥ 0)) = (l.any p) by exact idx_any _ _)) .nil) (.dd .nil) rfl
theorem c_areAll1Y (x : Entry) (F_p : FuncId) (first_p : List (Bool × List D)) (caps_p : List D) (p : Entry → Bool) (h_p : ∀ (x0 : Entry), FnTrip Tryz.prog F_p first_p caps_p [(true, 2)] (Entry.c x0) [(false, 1)] [.v (.bool (p x0))]) : Trip Tryz.prog 224 [(true, 2), (false, 1)] (Entry.c x ++ [.pt false [.fn F_p first_p caps_p]]) [(false, 1)] [.v (.bool (!p x))] [] := by
 refine Trip.of Tryz.func224 (by decide) (c := _) rfl rfl (Nat.le_of_ble_eq_true rfl) rfl (AftOk.nil _) <| .seq <| .rs fun k1 => .g (fun _ τ => ⟨_, .box (.no rfl) rfl rfl rfl rfl rfl τ⟩) <| .as rfl <| .z <| .seq <| .rs fun k2 => .ld t217 rfl (.d _) rfl ?_
 refine .lda t115 rfl (.ptr _ _ _ _ _ rfl) rfl <| .g (fun _ τ => ⟨_, .callF (.no rfl) rfl (ds := [.v (.int .i64 (x.line)), .v (.int .i64 (x.pick))]) (h_p x) rfl rfl rfl rfl (.own [6, 0] .nil) rfl rfl rfl rfl rfl rfl τ⟩) <| .un rfl <| .as rfl <| .z <| .ret ?_
 exact fin0 (.inr rfl) (.one (svB (show (!(p x)) = (!p x) by rfl)) .nil) (.dd .nil) rfl
theorem c_areAllY (l : List Entry) (F_p : FuncId) (first_p : List (Bool × List D)) (caps_p : List D) (p : Entry → Bool) (h_p : ∀ (x0 : Entry), FnTrip Tryz.prog F_p first_p caps_p [(true, 2)] (Entry.c x0) [(false, 1)] [.v (.bool (p x0))]) : Trip Tryz.prog 206 [(false, 1), (false, 1)] ([.sl false 115 2 (List.map Entry.c (l))] ++ [.fn F_p first_p caps_p]) [(false, 1)] [.v (.bool (l.all p))] [] := by
 refine Trip.of Tryz.func206 (by decide) (c := _) rfl rfl (Nat.le_of_ble_eq_true rfl) rfl (AftOk.nil _) <| .sl (t := 0) rfl fun hs1l => .seq <| .rs fun k2 => .g (fun _ τ => ⟨_, .box (.no rfl) rfl rfl rfl rfl rfl τ⟩) <| .as rfl <| .z <| .seq <| .rs fun k3 => ?_
 refine .mv rfl <| .g (fun _ τ => ⟨_, .makeFunc (.no rfl) rfl rfl rfl rfl rfl τ⟩) <| .g (fun _ τ => ⟨_, .call (.no rfl) rfl [[3]] [([3], (k2, k2, .box [.d (.fn F_p first_p caps_p)]))] (c_ContainsFuncY l 224 [] [.pt false [.fn F_p first_p caps_p]] (fun x0 => !p x0) (fun x0 => c_areAll1Y x0 F_p first_p caps_p p h_p)) rfl rfl rfl rfl rfl (.dd (.cons (Reads.clo0 (.cons (Reads.ptr0 (.head _) (.head _) (.cons (Reads.d _) .nil)) .nil)).gives .nil)) rfl rfl (fun _ => (ownCons (Owned.v _) ownNil)) (.own [7, 0] .nil) (.nil) rfl rfl rfl (AllH.get (.r rfl)) rfl rfl rfl τ⟩) <| .un rfl <| .as rfl <| .z <| .ret ?_
 exact fin0 (.inr rfl) (.one (svB (show (!(l.any (fun x0 => !p x0))) = (l.all p) by exact not_any _ _)) .nil) (.dd .nil) rfl
theorem c_TokenOk (t : List Entry) : Trip Tryz.prog 178 [(false, 1)] ([.sl false 115 2 (List.map Entry.c (t))]) [(false, 1)] [.v (.bool (tokOk t))] [] := by
 refine Trip.of Tryz.func178 (by decide) (c := _) rfl rfl (Nat.le_of_ble_eq_true rfl) rfl (AftOk.nil _) <| .sl (t := 0) rfl fun hs1l => .seq <| .rs fun k2 => .as rfl <| .z <| .seq ?_
 refine .reg (X := Unit) (fun ζ => .of [(2, .one (.d (.v (.bool ((decide ((t.length : Int) ≤ 3) && t.all (fun x0 => Entry.ok x0)))))))] []) [⟨[0], some 3, [], []⟩, ⟨[3], some 4, [], []⟩, ⟨[4], some 5, [], []⟩, ⟨[5], some 6, [], []⟩, ⟨[6, 0], some 7, [], []⟩, ⟨[6, 7], some 8, [], []⟩, ⟨[6, 8], some 9, [], []⟩, ⟨[9], some 2, [], []⟩] (fun k3 => ?_) ?_
 ·skip
  refine .move (.no rfl) rfl rfl rfl rfl <| .len (.no rfl) rfl (z := (t.length : Int)) t49 rfl rfl rfl (.d _ _) (map_len _ _) rfl <| .bin (.no rfl) rfl rfl rfl rfl rfl rfl <| .moveB (.no rfl) rfl rfl rfl rfl fun b4 g1_3 => ?_
  cases b4
  ·skip
   refine .off rfl rfl rfl rfl rfl rfl rfl <| .off rfl rfl rfl rfl rfl rfl rfl <| .pick (.no rfl) rfl rfl rfl rfl rfl <| .assign (.no rfl) rfl rfl rfl rfl ?_
   exact .fin () (.of (.cons (svB (show (false) = ((decide ((t.length : Int) ≤ 3) && t.all (fun x0 => Entry.ok x0))) by first | (simp only [g1_3, Bool.true_or, Bool.false_or, Bool.true_and, Bool.false_and, Bool.not_true, Bool.not_false]; done) | (simp [g1_3]; done) | (exfalso; simp_all; done))) .nil) .nil)
  ·skip
   refine .move (.on rfl rfl rfl rfl rfl) rfl rfl rfl rfl <| .call (.on rfl rfl rfl rfl rfl) rfl [] [] (c_areAllY t 207 [] [] (fun x0 => Entry.ok x0) (fun x0 => c_entryOk x0)) rfl rfl rfl rfl rfl (.dd (.dd .nil)) rfl rfl (fun h => absurd rfl h) (.own [8, 0] .nil) (.nil) rfl rfl rfl (by simp) rfl rfl rfl <| .pick (.no rfl) rfl rfl rfl rfl rfl <| .assign (.no rfl) rfl rfl rfl rfl ?_
   exact .fin () (.of (.cons (svB (show (t.all (fun x0 => Entry.ok x0)) = ((decide ((t.length : Int) ≤ 3) && t.all (fun x0 => Entry.ok x0))) by first | (simp only [g1_3, Bool.true_or, Bool.false_or, Bool.true_and, Bool.false_and, Bool.not_true, Bool.not_false]; done) | (simp [g1_3]; done) | (exfalso; simp_all; done))) .nil) .nil)
 intro _
 refine .ret ?_
 exact fin0 (.inr rfl) (.one (svB (show ((decide ((t.length : Int) ≤ 3) && t.all (fun x0 => Entry.ok x0))) = (tokOk t) by (unfold tokOk; rw [show decide ((t.length : Int) ≤ 3) = decide (t.length ≤ 3) from decide_eq_decide.2 (by omega)]))) .nil) (.dd .nil) rfl
end Go.Proofs

namespace Go.Proofs
open Go Go.Proofs Go.Ev

def i164 : TI := ⟨.fn, 1, 8, [.nilFunc]⟩
theorem t164 : TyOk Tryz.prog 164 i164 := ⟨⟨_, _, _, Tryz.underlying164⟩, by kernel_rfl⟩
theorem z164 : ZOk Tryz.prog 164 i164 := ⟨t164, rfl⟩
theorem c_sPartsOk (d : Decl) (l : List Part) (hs : ∀ x ∈ Decl.names d, x.size ≤ 9223372036854775807) (hd : d.vars.length ≤ 1048576 ∧ d.flags.length ≤ 1048576 ∧ d.arrays.length ≤ 1048576) (hp : SmallP l) : Trip Tryz.prog 27 [(true, 3), (false, 1)] (Decl.c33 d ++ [.sl false 62 2 (List.map Part.c62 (l))]) [(false, 1)] [.v (.bool (Parts.ok d l))] [] := by
 refine Trip.of Tryz.func27 (by decide) (c := _) rfl rfl (Nat.le_of_ble_eq_true rfl) rfl (AftOk.nil _) <| .sla (t := 0) 0 rfl rfl fun hs1l => .sla (t := 0) 1 rfl rfl fun hs2l => .sla (t := 0) 2 rfl rfl fun hs3l => .sl (t := 1) rfl fun hs4l => .seq <| .rs fun k5 => .g (fun _ τ => ⟨_, .box (.no rfl) rfl rfl rfl rfl rfl τ⟩) <| .as rfl ?_
 refine .z <| .seq <| .seq ?_
 refine .reg (X := Unit) (fun ζ => .of [(1, .one (.d (.sl false 62 2 (List.map Part.c62 (l))))), (2, .one (.ptr [2] (k5) 0)), (13, .one (.d (.v (.bool ((!(Decl.ok d) || decide ((l.length : Int) > 100)))))))] [([2], (k5, k5, .box [.d (.sl false 9 1 (List.map strc (d.vars))), .d (.sl false 9 1 (List.map strc (d.flags))), .d (.sl false 112 2 (List.map Arr.c (d.arrays)))]))]) [⟨[2], some 6, [[2]], []⟩, ⟨[6], some 7, [], []⟩, ⟨[7], some 8, [], []⟩, ⟨[8], some 9, [], []⟩, ⟨[9, 1], some 10, [], []⟩, ⟨[9, 10], some 11, [], []⟩, ⟨[9, 11], some 12, [], []⟩, ⟨[9, 12], some 13, [], []⟩] (fun k6 => ?_) ?_
 ·skip
  refine .load (.no rfl) rfl t33 rfl rfl (.ptr _ _ _ _ _ rfl) rfl rfl rfl rfl <| .call (.no rfl) rfl [] [] (c_sDeclOk d (by first | assumption | exact (hp.2 _ (getD_mem (by omega))).2.2 | (simpa using g6_7) | (have h9 := of_decide_eq_true g6_10; exact Part.ok_tok (allTo_iff.1 hI.2.1 (j - 1) (by omega)))) (by first | assumption | exact (hp.2 _ (getD_mem (by omega))).2.2 | (simpa using g6_7) | (have h9 := of_decide_eq_true g6_10; exact Part.ok_tok (allTo_iff.1 hI.2.1 (j - 1) (by omega))))) rfl rfl rfl rfl rfl (.dd (.dd (.dd .nil))) rfl rfl (fun h => absurd rfl h) (.own [7, 0] .nil) (.nil) rfl rfl rfl (by simp) rfl rfl rfl <| .un (.no rfl) rfl rfl rfl rfl rfl <| .moveB (.no rfl) rfl rfl rfl rfl fun b7 g1_3 => ?_
  cases b7
  ·skip
   refine .move (.on rfl rfl rfl rfl rfl) rfl rfl rfl rfl <| .len (.on rfl rfl rfl rfl rfl) rfl (z := (l.length : Int)) t29 rfl rfl rfl (.d _ _) (map_len _ _) rfl <| .bin (.on rfl rfl rfl rfl rfl) rfl rfl rfl rfl rfl rfl <| .pick (.no rfl) rfl rfl rfl rfl rfl ?_
   exact .fin () (.of (.cons rfl (.cons rfl (.cons (svB (show (decide ((l.length : Int) > 100)) = ((!(Decl.ok d) || decide ((l.length : Int) > 100))) by first | (simp only [g1_3, Bool.true_or, Bool.false_or, Bool.true_and, Bool.false_and, Bool.not_true, Bool.not_false]; done) | (simp [g1_3]; done) | (exfalso; simp_all; done))) .nil))) (.r rfl))
  ·skip
   refine .off rfl rfl rfl rfl rfl rfl rfl <| .off rfl rfl rfl rfl rfl rfl rfl <| .off rfl rfl rfl rfl rfl rfl rfl <| .pick (.no rfl) rfl rfl rfl rfl rfl ?_
   exact .fin () (.of (.cons rfl (.cons rfl (.cons (svB (show (true) = ((!(Decl.ok d) || decide ((l.length : Int) > 100))) by first | (simp only [g1_3, Bool.true_or, Bool.false_or, Bool.true_and, Bool.false_and, Bool.not_true, Bool.not_false]; done) | (simp [g1_3]; done) | (exfalso; simp_all; done))) .nil))) (.r rfl))
 intro _
 refine .cond (t := (!(Decl.ok d) || decide ((l.length : Int) > 100))) rfl (fun c0 => ?_) (fun c0 => ?_)
 ·have c0 := (oT (nT id) dT) c0
  refine .seq <| .rs fun k8 => .as rfl <| .z <| .ret ?_
  exact fin0 (.inr rfl) (.one (svB (show (false) = (Parts.ok d l) by (rw [Parts.ok_no c0]))) .nil) (.dd .nil) rfl
 ·have c0 := (oF (nF id) dF) c0
  refine .skip <| .seq <| .seq <| .rs fun k10 => .as rfl <| .z <| .block ?_
  refine .loop (X := Nat) (fun ζ => .of [(1, .one (.d (.sl false 62 2 (List.map Part.c62 (l))))), (2, .one (.ptr [2] (k5) 0)), (5, .one (.d (.v (.int .i64 ((ζ : Int))))))] [([2], (k5, k5, .box [.d (.sl false 9 1 (List.map strc (d.vars))), .d (.sl false 9 1 (List.map strc (d.flags))), .d (.sl false 112 2 (List.map Arr.c (d.arrays)))]))]) (fun ζ => ζ ≤ l.length ∧ allTo ζ (fun i => Part.ok d (l.getD i default)) = true ∧ risesTo l ζ = true) (fun ζ => l.length - ζ) ?_ ?_
  ·skip
   exact .here 0 (.of (.cons rfl (.cons rfl (.cons (svI (show (0) = ((0 : Int)) by first | rfl | omega | exact wrap_le (by omega) (by omega) | (rw [wrap_le (by omega) (by omega)]; omega))) .nil))) (.r rfl)) (show 0 ≤ l.length ∧ allTo 0 (fun i => Part.ok d (l.getD i default)) = true ∧ risesTo l 0 = true by exact ⟨by omega, rfl, rfl⟩)
  ·rintro j hI
   have hI : j ≤ l.length ∧ allTo j (fun i => Part.ok d (l.getD i default)) = true ∧ risesTo l j = true := hI
   refine .seq <| .seq <| .rs fun k11 => .mv rfl <| .mv rfl <| .g (fun _ τ => ⟨_, .len (.no rfl) rfl (z := (l.length : Int)) t29 rfl rfl rfl (.d _ _) (map_len _ _) rfl τ⟩) <| .bi rfl <| .z ?_
   refine .cond (t := decide ((j : Int) < (l.length : Int))) rfl (fun c1 => ?_) (fun c1 => ?_)
   ·have c1 := of_decide_eq_true c1
    refine .skip <| .seq <| .block <| .seq ?_
    refine .regD (X := Unit) (by kernel_rfl) (fun ζ => .of [(1, .one (.d (.sl false 62 2 (List.map Part.c62 (l))))), (2, .one (.ptr [2] (k5) 0)), (5, .one (.d (.v (.int .i64 ((j : Int)))))), (64, .one (.d (.v (.bool ((((!(tokOk ((l.getD j default).token)) || (decide ((j : Int) > 0) && decide ((tokCmp ((l.getD (j - 1) default).token) ((l.getD j default).token)) ≥ 0))) || !(Table.ok d ((l.getD j default).table))) || !(((l.getD j default).table).any Env.live)))))))] [([2], (k5, k5, .box [.d (.sl false 9 1 (List.map strc (d.vars))), .d (.sl false 9 1 (List.map strc (d.flags))), .d (.sl false 112 2 (List.map Arr.c (d.arrays)))]))]) [⟨[1], some 20, [], []⟩, ⟨[5], some 21, [], []⟩, ⟨[20, 21], some 22, [], []⟩, ⟨[22], some 23, [], []⟩, ⟨[23], some 24, [], []⟩, ⟨[24], some 25, [], []⟩, ⟨[25], some 26, [], []⟩, ⟨[26], some 27, [], []⟩, ⟨[27, 5], some 28, [], []⟩, ⟨[27, 28], some 29, [], []⟩, ⟨[27, 29], some 30, [], []⟩, ⟨[30, 1], some 31, [], []⟩, ⟨[30, 5], some 32, [], []⟩, ⟨[30, 32], some 33, [], []⟩, ⟨[30, 31, 33], some 34, [], []⟩, ⟨[30, 34], some 35, [], []⟩, ⟨[30, 35], some 36, [], []⟩, ⟨[30, 1], some 37, [], []⟩, ⟨[30, 5], some 38, [], []⟩, ⟨[30, 37, 38], some 39, [], []⟩, ⟨[30, 39], some 40, [], []⟩, ⟨[30, 40], some 41, [], []⟩, ⟨[30, 36, 41], some 42, [], []⟩, ⟨[30, 42], some 43, [], []⟩, ⟨[27, 30, 43], some 44, [], []⟩, ⟨[27, 44], some 45, [], []⟩, ⟨[45], some 46, [], []⟩, ⟨[46, 2], some 47, [[2]], []⟩, ⟨[46, 1], some 48, [], []⟩, ⟨[46, 5], some 49, [], []⟩, ⟨[46, 48, 49], some 50, [], []⟩, ⟨[46, 50], some 51, [], []⟩, ⟨[46, 51], some 52, [], []⟩, ⟨[46, 47, 52], some 53, [], []⟩, ⟨[46, 53], some 54, [], []⟩, ⟨[46, 54], some 55, [], []⟩, ⟨[55], some 56, [], []⟩, ⟨[56, 1], some 57, [], []⟩, ⟨[56, 5], some 58, [], []⟩, ⟨[56, 57, 58], some 59, [], []⟩, ⟨[56, 59], some 60, [], []⟩, ⟨[56, 60], some 61, [], []⟩, ⟨[56, 61], some 62, [], []⟩, ⟨[56, 62], some 63, [], []⟩, ⟨[56, 63], some 64, [], []⟩] (by kernel_rfl) (fun k12 => ?_) ?_
    ·skip
     refine .move (.no rfl) rfl rfl rfl rfl <| .move (.no rfl) rfl rfl rfl rfl <| .indexAddr (.no rfl) rfl (j) t29 rfl t62 rfl rfl rfl (.d _ _) rfl rfl rfl (map_get (by omega)) rfl rfl <| .fieldAddr (.no rfl) rfl t62 rfl rfl t49 rfl rfl rfl rfl [] (by simp) (by intro _ _ _ h; cases h) rfl rfl <| .load (.no rfl) rfl t49 rfl rfl (.d _) rfl rfl rfl rfl <| .call (.no rfl) rfl [] [] (c_sTokenOk ((l.getD j default).token)) rfl rfl rfl rfl rfl (.dd .nil) rfl rfl (fun h => absurd rfl h) (.own [25, 0] .nil) (.nil) rfl rfl rfl (by simp) rfl rfl rfl <| .un (.no rfl) rfl rfl rfl rfl rfl <| .moveB (.no rfl) rfl rfl rfl rfl fun b13 g6_7 => ?_
     cases b13
     ·skip
      refine .move (.on rfl rfl rfl rfl rfl) rfl rfl rfl rfl <| .bin (.on rfl rfl rfl rfl rfl) rfl rfl rfl rfl rfl rfl <| .moveB (.on rfl rfl rfl rfl rfl) rfl rfl rfl rfl fun b14 g6_10 => ?_
      cases b14
      ·skip
       refine .off rfl rfl rfl rfl rfl rfl rfl <| .off rfl rfl rfl rfl rfl rfl rfl <| .off rfl rfl rfl rfl rfl rfl rfl <| .off rfl rfl rfl rfl rfl rfl rfl <| .off rfl rfl rfl rfl rfl rfl rfl <| .off rfl rfl rfl rfl rfl rfl rfl <| .off rfl rfl rfl rfl rfl rfl rfl <| .off rfl rfl rfl rfl rfl rfl rfl <| .off rfl rfl rfl rfl rfl rfl rfl ?_
       refine .off rfl rfl rfl rfl rfl rfl rfl <| .off rfl rfl rfl rfl rfl rfl rfl <| .off rfl rfl rfl rfl rfl rfl rfl <| .off rfl rfl rfl rfl rfl rfl rfl <| .pick (.on rfl rfl rfl rfl rfl) rfl rfl rfl rfl rfl <| .pick (.no rfl) rfl rfl rfl rfl rfl <| .move (.no rfl) rfl rfl rfl rfl <| .load (.on rfl rfl rfl rfl rfl) rfl t33 rfl rfl (.ptr _ _ _ _ _ rfl) rfl rfl rfl rfl <| .move (.on rfl rfl rfl rfl rfl) rfl rfl rfl rfl ?_
       refine .move (.on rfl rfl rfl rfl rfl) rfl rfl rfl rfl <| .indexAddr (.on rfl rfl rfl rfl rfl) rfl (j) t29 rfl t62 rfl rfl rfl (.d _ _) rfl rfl rfl (map_get (by omega)) rfl rfl <| .fieldAddr (.on rfl rfl rfl rfl rfl) rfl t62 rfl rfl t60 rfl rfl rfl rfl [] (by simp) (by intro _ _ _ h; cases h) rfl rfl <| .load (.on rfl rfl rfl rfl rfl) rfl t60 rfl rfl (.d _) rfl rfl rfl rfl ?_
       refine .call (.on rfl rfl rfl rfl rfl) rfl [] [] (c_sTableOk d ((l.getD j default).table) (by first | assumption | exact (hp.2 _ (getD_mem (by omega))).2.2 | (simpa using g6_7) | (have h9 := of_decide_eq_true g6_10; exact Part.ok_tok (allTo_iff.1 hI.2.1 (j - 1) (by omega)))) (by first | assumption | exact (hp.2 _ (getD_mem (by omega))).2.2 | (simpa using g6_7) | (have h9 := of_decide_eq_true g6_10; exact Part.ok_tok (allTo_iff.1 hI.2.1 (j - 1) (by omega)))) (by first | assumption | exact (hp.2 _ (getD_mem (by omega))).2.2 | (simpa using g6_7) | (have h9 := of_decide_eq_true g6_10; exact Part.ok_tok (allTo_iff.1 hI.2.1 (j - 1) (by omega))))) rfl rfl rfl rfl rfl (.dd (.dd (.dd (.dd .nil)))) rfl rfl (fun h => absurd rfl h) (.own [53, 0] .nil) (.nil) rfl rfl rfl (by simp) rfl rfl rfl <| .un (.on rfl rfl rfl rfl rfl) rfl rfl rfl rfl rfl ?_
       refine .pick (.no rfl) rfl rfl rfl rfl rfl <| .moveB (.no rfl) rfl rfl rfl rfl fun b15 g6_36 => ?_
       cases b15
       ·skip
        refine .move (.on rfl rfl rfl rfl rfl) rfl rfl rfl rfl <| .move (.on rfl rfl rfl rfl rfl) rfl rfl rfl rfl <| .indexAddr (.on rfl rfl rfl rfl rfl) rfl (j) t29 rfl t62 rfl rfl rfl (.d _ _) rfl rfl rfl (map_get (by omega)) rfl rfl <| .fieldAddr (.on rfl rfl rfl rfl rfl) rfl t62 rfl rfl t60 rfl rfl rfl rfl [] (by simp) (by intro _ _ _ h; cases h) rfl rfl <| .load (.on rfl rfl rfl rfl rfl) rfl t60 rfl rfl (.d _) rfl rfl rfl rfl <| .call (.on rfl rfl rfl rfl rfl) rfl [] [] (c_l9Live ((l.getD j default).table)) rfl rfl rfl rfl rfl (.dd .nil) rfl rfl (fun h => absurd rfl h) (.own [62, 0] .nil) (.nil) rfl rfl rfl (by simp) rfl rfl rfl <| .un (.on rfl rfl rfl rfl rfl) rfl rfl rfl rfl rfl <| .pick (.no rfl) rfl rfl rfl rfl rfl ?_
        exact .fin () (.of (.cons rfl (.cons rfl (.cons rfl (.cons (svB (show (!(((l.getD j default).table).any Env.live)) = ((((!(tokOk ((l.getD j default).token)) || (decide ((j : Int) > 0) && decide ((tokCmp ((l.getD (j - 1) default).token) ((l.getD j default).token)) ≥ 0))) || !(Table.ok d ((l.getD j default).table))) || !(((l.getD j default).table).any Env.live))) by first | (simp only [g6_7, g6_10, g6_36, Bool.true_or, Bool.false_or, Bool.true_and, Bool.false_and, Bool.not_true, Bool.not_false]; done) | (simp [g6_7, g6_10, g6_36]; done) | (exfalso; simp_all; done))) .nil)))) (.r rfl))
       ·skip
        refine .off rfl rfl rfl rfl rfl rfl rfl <| .off rfl rfl rfl rfl rfl rfl rfl <| .off rfl rfl rfl rfl rfl rfl rfl <| .off rfl rfl rfl rfl rfl rfl rfl <| .off rfl rfl rfl rfl rfl rfl rfl <| .off rfl rfl rfl rfl rfl rfl rfl <| .off rfl rfl rfl rfl rfl rfl rfl <| .pick (.no rfl) rfl rfl rfl rfl rfl ?_
        exact .fin () (.of (.cons rfl (.cons rfl (.cons rfl (.cons (svB (show (true) = ((((!(tokOk ((l.getD j default).token)) || (decide ((j : Int) > 0) && decide ((tokCmp ((l.getD (j - 1) default).token) ((l.getD j default).token)) ≥ 0))) || !(Table.ok d ((l.getD j default).table))) || !(((l.getD j default).table).any Env.live))) by first | (simp only [g6_7, g6_10, g6_36, Bool.true_or, Bool.false_or, Bool.true_and, Bool.false_and, Bool.not_true, Bool.not_false]; done) | (simp [g6_7, g6_10, g6_36]; done) | (exfalso; simp_all; done))) .nil)))) (.r rfl))
      ·skip
       refine .move (.on rfl rfl rfl rfl rfl) rfl rfl rfl rfl <| .move (.on rfl rfl rfl rfl rfl) rfl rfl rfl rfl <| .bin (.on rfl rfl rfl rfl rfl) rfl rfl rfl rfl rfl rfl <| .indexAddr (.on rfl rfl rfl rfl rfl) rfl ((j - 1)) t29 rfl t62 rfl rfl rfl (.d _ _) rfl rfl (by (have h9 := of_decide_eq_true g6_10; rw [wrap_le (by omega) (by omega)]; omega)) (map_get (by omega)) rfl rfl <| .fieldAddr (.on rfl rfl rfl rfl rfl) rfl t62 rfl rfl t49 rfl rfl rfl rfl [] (by simp) (by intro _ _ _ h; cases h) rfl rfl <| .load (.on rfl rfl rfl rfl rfl) rfl t49 rfl rfl (.d _) rfl rfl rfl rfl <| .move (.on rfl rfl rfl rfl rfl) rfl rfl rfl rfl <| .move (.on rfl rfl rfl rfl rfl) rfl rfl rfl rfl <| .indexAddr (.on rfl rfl rfl rfl rfl) rfl (j) t29 rfl t62 rfl rfl rfl (.d _ _) rfl rfl rfl (map_get (by omega)) rfl rfl ?_
       refine .fieldAddr (.on rfl rfl rfl rfl rfl) rfl t62 rfl rfl t49 rfl rfl rfl rfl [] (by simp) (by intro _ _ _ h; cases h) rfl rfl <| .load (.on rfl rfl rfl rfl rfl) rfl t49 rfl rfl (.d _) rfl rfl rfl rfl <| .call (.on rfl rfl rfl rfl rfl) rfl [] [] (c_l9Cmp ((l.getD (j - 1) default).token) ((l.getD j default).token) (by first | assumption | exact (hp.2 _ (getD_mem (by omega))).2.2 | (simpa using g6_7) | (have h9 := of_decide_eq_true g6_10; exact Part.ok_tok (allTo_iff.1 hI.2.1 (j - 1) (by omega)))) (by first | assumption | exact (hp.2 _ (getD_mem (by omega))).2.2 | (simpa using g6_7) | (have h9 := of_decide_eq_true g6_10; exact Part.ok_tok (allTo_iff.1 hI.2.1 (j - 1) (by omega))))) rfl rfl rfl rfl rfl (.dd (.dd .nil)) rfl rfl (fun h => absurd rfl h) (.own [42, 0] .nil) (.nil) rfl rfl rfl (by simp) rfl rfl rfl ?_
       refine .bin (.on rfl rfl rfl rfl rfl) rfl rfl rfl rfl rfl rfl <| .pick (.on rfl rfl rfl rfl rfl) rfl rfl rfl rfl rfl <| .pick (.no rfl) rfl rfl rfl rfl rfl <| .moveB (.no rfl) rfl rfl rfl rfl fun b16 g6_26 => ?_
       cases b16
       ·skip
        refine .load (.on rfl rfl rfl rfl rfl) rfl t33 rfl rfl (.ptr _ _ _ _ _ rfl) rfl rfl rfl rfl <| .move (.on rfl rfl rfl rfl rfl) rfl rfl rfl rfl <| .move (.on rfl rfl rfl rfl rfl) rfl rfl rfl rfl <| .indexAddr (.on rfl rfl rfl rfl rfl) rfl (j) t29 rfl t62 rfl rfl rfl (.d _ _) rfl rfl rfl (map_get (by omega)) rfl rfl <| .fieldAddr (.on rfl rfl rfl rfl rfl) rfl t62 rfl rfl t60 rfl rfl rfl rfl [] (by simp) (by intro _ _ _ h; cases h) rfl rfl <| .load (.on rfl rfl rfl rfl rfl) rfl t60 rfl rfl (.d _) rfl rfl rfl rfl ?_
        refine .call (.on rfl rfl rfl rfl rfl) rfl [] [] (c_sTableOk d ((l.getD j default).table) (by first | assumption | exact (hp.2 _ (getD_mem (by omega))).2.2 | (simpa using g6_7) | (have h9 := of_decide_eq_true g6_10; exact Part.ok_tok (allTo_iff.1 hI.2.1 (j - 1) (by omega)))) (by first | assumption | exact (hp.2 _ (getD_mem (by omega))).2.2 | (simpa using g6_7) | (have h9 := of_decide_eq_true g6_10; exact Part.ok_tok (allTo_iff.1 hI.2.1 (j - 1) (by omega)))) (by first | assumption | exact (hp.2 _ (getD_mem (by omega))).2.2 | (simpa using g6_7) | (have h9 := of_decide_eq_true g6_10; exact Part.ok_tok (allTo_iff.1 hI.2.1 (j - 1) (by omega))))) rfl rfl rfl rfl rfl (.dd (.dd (.dd (.dd .nil)))) rfl rfl (fun h => absurd rfl h) (.own [53, 0] .nil) (.nil) rfl rfl rfl (by simp) rfl rfl rfl <| .un (.on rfl rfl rfl rfl rfl) rfl rfl rfl rfl rfl ?_
        refine .pick (.no rfl) rfl rfl rfl rfl rfl <| .moveB (.no rfl) rfl rfl rfl rfl fun b17 g6_36 => ?_
        cases b17
        ·skip
         refine .move (.on rfl rfl rfl rfl rfl) rfl rfl rfl rfl <| .move (.on rfl rfl rfl rfl rfl) rfl rfl rfl rfl <| .indexAddr (.on rfl rfl rfl rfl rfl) rfl (j) t29 rfl t62 rfl rfl rfl (.d _ _) rfl rfl rfl (map_get (by omega)) rfl rfl <| .fieldAddr (.on rfl rfl rfl rfl rfl) rfl t62 rfl rfl t60 rfl rfl rfl rfl [] (by simp) (by intro _ _ _ h; cases h) rfl rfl <| .load (.on rfl rfl rfl rfl rfl) rfl t60 rfl rfl (.d _) rfl rfl rfl rfl <| .call (.on rfl rfl rfl rfl rfl) rfl [] [] (c_l9Live ((l.getD j default).table)) rfl rfl rfl rfl rfl (.dd .nil) rfl rfl (fun h => absurd rfl h) (.own [62, 0] .nil) (.nil) rfl rfl rfl (by simp) rfl rfl rfl <| .un (.on rfl rfl rfl rfl rfl) rfl rfl rfl rfl rfl <| .pick (.no rfl) rfl rfl rfl rfl rfl ?_
         exact .fin () (.of (.cons rfl (.cons rfl (.cons rfl (.cons (svB (show (!(((l.getD j default).table).any Env.live)) = ((((!(tokOk ((l.getD j default).token)) || (decide ((j : Int) > 0) && decide ((tokCmp ((l.getD (j - 1) default).token) ((l.getD j default).token)) ≥ 0))) || !(Table.ok d ((l.getD j default).table))) || !(((l.getD j default).table).any Env.live))) by first | (simp only [g6_7, g6_10, g6_26, g6_36, Bool.true_or, Bool.false_or, Bool.true_and, Bool.false_and, Bool.not_true, Bool.not_false]; done) | (simp [g6_7, g6_10, g6_26, g6_36]; done) | (exfalso; simp_all; done))) .nil)))) (.r rfl))
        ·skip
         refine .off rfl rfl rfl rfl rfl rfl rfl <| .off rfl rfl rfl rfl rfl rfl rfl <| .off rfl rfl rfl rfl rfl rfl rfl <| .off rfl rfl rfl rfl rfl rfl rfl <| .off rfl rfl rfl rfl rfl rfl rfl <| .off rfl rfl rfl rfl rfl rfl rfl <| .off rfl rfl rfl rfl rfl rfl rfl <| .pick (.no rfl) rfl rfl rfl rfl rfl ?_
         exact .fin () (.of (.cons rfl (.cons rfl (.cons rfl (.cons (svB (show (true) = ((((!(tokOk ((l.getD j default).token)) || (decide ((j : Int) > 0) && decide ((tokCmp ((l.getD (j - 1) default).token) ((l.getD j default).token)) ≥ 0))) || !(Table.ok d ((l.getD j default).table))) || !(((l.getD j default).table).any Env.live))) by first | (simp only [g6_7, g6_10, g6_26, g6_36, Bool.true_or, Bool.false_or, Bool.true_and, Bool.false_and, Bool.not_true, Bool.not_false]; done) | (simp [g6_7, g6_10, g6_26, g6_36]; done) | (exfalso; simp_all; done))) .nil)))) (.r rfl))
       ·skip
        refine .off rfl rfl rfl rfl rfl rfl rfl <| .off rfl rfl rfl rfl rfl rfl rfl <| .off rfl rfl rfl rfl rfl rfl rfl <| .off rfl rfl rfl rfl rfl rfl rfl <| .off rfl rfl rfl rfl rfl rfl rfl <| .off rfl rfl rfl rfl rfl rfl rfl <| .off rfl rfl rfl rfl rfl rfl rfl <| .off rfl rfl rfl rfl rfl rfl rfl <| .pick (.no rfl) rfl rfl rfl rfl rfl ?_
        refine .move (.no rfl) rfl rfl rfl rfl <| .off rfl rfl rfl rfl rfl rfl rfl <| .off rfl rfl rfl rfl rfl rfl rfl <| .off rfl rfl rfl rfl rfl rfl rfl <| .off rfl rfl rfl rfl rfl rfl rfl <| .off rfl rfl rfl rfl rfl rfl rfl <| .off rfl rfl rfl rfl rfl rfl rfl <| .off rfl rfl rfl rfl rfl rfl rfl <| .pick (.no rfl) rfl rfl rfl rfl rfl ?_
        exact .fin () (.of (.cons rfl (.cons rfl (.cons rfl (.cons (svB (show (true) = ((((!(tokOk ((l.getD j default).token)) || (decide ((j : Int) > 0) && decide ((tokCmp ((l.getD (j - 1) default).token) ((l.getD j default).token)) ≥ 0))) || !(Table.ok d ((l.getD j default).table))) || !(((l.getD j default).table).any Env.live))) by first | (simp only [g6_7, g6_10, g6_26, Bool.true_or, Bool.false_or, Bool.true_and, Bool.false_and, Bool.not_true, Bool.not_false]; done) | (simp [g6_7, g6_10, g6_26]; done) | (exfalso; simp_all; done))) .nil)))) (.r rfl))
     ·skip
      refine .off rfl rfl rfl rfl rfl rfl rfl <| .off rfl rfl rfl rfl rfl rfl rfl <| .off rfl rfl rfl rfl rfl rfl rfl <| .off' rfl rfl rfl rfl rfl rfl <| .off' rfl rfl rfl rfl rfl rfl <| .off' rfl rfl rfl rfl rfl rfl <| .off' rfl rfl rfl rfl rfl rfl <| .off' rfl rfl rfl rfl rfl rfl <| .off' rfl rfl rfl rfl rfl rfl ?_
      refine .off' rfl rfl rfl rfl rfl rfl <| .off' rfl rfl rfl rfl rfl rfl <| .off' rfl rfl rfl rfl rfl rfl <| .off' rfl rfl rfl rfl rfl rfl <| .off' rfl rfl rfl rfl rfl rfl <| .off' rfl rfl rfl rfl rfl rfl <| .off' rfl rfl rfl rfl rfl rfl <| .off rfl rfl rfl rfl rfl rfl rfl <| .pick (.no rfl) rfl rfl rfl rfl rfl ?_
      refine .move (.no rfl) rfl rfl rfl rfl <| .off rfl rfl rfl rfl rfl rfl rfl <| .off rfl rfl rfl rfl rfl rfl rfl <| .off rfl rfl rfl rfl rfl rfl rfl <| .off rfl rfl rfl rfl rfl rfl rfl <| .off rfl rfl rfl rfl rfl rfl rfl <| .off rfl rfl rfl rfl rfl rfl rfl <| .off rfl rfl rfl rfl rfl rfl rfl <| .off rfl rfl rfl rfl rfl rfl rfl ?_
      refine .pick (.no rfl) rfl rfl rfl rfl rfl <| .move (.no rfl) rfl rfl rfl rfl <| .off rfl rfl rfl rfl rfl rfl rfl <| .off rfl rfl rfl rfl rfl rfl rfl <| .off rfl rfl rfl rfl rfl rfl rfl <| .off rfl rfl rfl rfl rfl rfl rfl <| .off rfl rfl rfl rfl rfl rfl rfl <| .off rfl rfl rfl rfl rfl rfl rfl <| .off rfl rfl rfl rfl rfl rfl rfl ?_
      refine .pick (.no rfl) rfl rfl rfl rfl rfl ?_
      exact .fin () (.of (.cons rfl (.cons rfl (.cons rfl (.cons (svB (show (true) = ((((!(tokOk ((l.getD j default).token)) || (decide ((j : Int) > 0) && decide ((tokCmp ((l.getD (j - 1) default).token) ((l.getD j default).token)) ≥ 0))) || !(Table.ok d ((l.getD j default).table))) || !(((l.getD j default).table).any Env.live))) by first | (simp only [g6_7, Bool.true_or, Bool.false_or, Bool.true_and, Bool.false_and, Bool.not_true, Bool.not_false]; done) | (simp [g6_7]; done) | (exfalso; simp_all; done))) .nil)))) (.r rfl))
    intro _
    refine .cond (t := (((!(tokOk ((l.getD j default).token)) || (decide ((j : Int) > 0) && decide ((tokCmp ((l.getD (j - 1) default).token) ((l.getD j default).token)) ≥ 0))) || !(Table.ok d ((l.getD j default).table))) || !(((l.getD j default).table).any Env.live))) rfl (fun c2 => ?_) (fun c2 => ?_)
    ·have c2 := (oT (oT (oT (nT id) (aT dT dT)) (nT id)) (nT id)) c2
     refine .seq <| .rs fun k18 => .as rfl <| .z <| .ret ?_
     exact fin0 (.inr rfl) (.one (svB (show (false) = (Parts.ok d l) by (rw [Parts.ok_fail c0.1 (j := j) (by omega) c2]))) .nil) (.dd .nil) rfl
    ·have c2 := (oF (oF (oF (nF id) (aF dF dF)) (nF id)) (nF id)) c2
     refine .skip <| .rs fun k20 => .mv rfl <| .bi rfl <| .as rfl <| .z ?_
     exact .here (j + 1) (.of (.cons rfl (.cons rfl (.cons (svI (show (IntKind.wrap .i64 ((j : Int) + 1)) = (((j + 1) : Int)) by first | rfl | omega | exact wrap_le (by omega) (by omega) | (rw [wrap_le (by omega) (by omega)]; omega))) .nil))) (.r rfl)) ⟨(show (j + 1) ≤ l.length ∧ allTo (j + 1) (fun i => Part.ok d (l.getD i default)) = true ∧ risesTo l (j + 1) = true by exact ⟨by omega, allTo_step hI.2.1 (part_of c0.1 c2.1.1.1 c2.1.2 c2.2), rises_step hI.2.2 (fun h9 => by have h8 := c2.1.1.2; omega)⟩), (show l.length - (j + 1) < l.length - j by omega)⟩
   ·have c1 := of_decide_eq_false c1
    refine .exit <| .seq <| .rs fun k21 => .as rfl <| .z <| .ret ?_
    exact fin0 (.inr rfl) (.one (svB (show (true) = (Parts.ok d l) by (rw [Parts.ok_done c0 (j := j) (by omega) hI.2.1 hI.2.2]))) .nil) (.dd .nil) rfl
theorem c_IndexFuncP (l : List Part) (F_p : FuncId) (first_p : List (Bool × List D)) (caps_p : List D) (p : Part → Bool) (h_p : ∀ (x0 : Part), FnTrip Tryz.prog F_p first_p caps_p [(true, 2)] (Part.c62 x0) [(false, 1)] [.v (.bool (p x0))]) : Trip Tryz.prog 205 [(false, 1), (false, 1)] ([.sl false 62 2 (List.map Part.c62 (l))] ++ [.fn F_p first_p caps_p]) [(false, 1)] [.v (.int .i64 (idx p l))] [] := by
 refine Trip.of Tryz.func205 (by decide) (c := _) rfl rfl (Nat.le_of_ble_eq_true rfl) rfl (AftOk.nil _) <| .sl (t := 0) rfl fun hs1l => .seq <| .rs fun k2 => .as rfl <| .z <| .seq <| .seq <| .rs fun k3 => ?_
 refine .mv rfl <| .g (fun _ τ => ⟨_, .len (.no rfl) rfl (z := (l.length : Int)) t29 rfl rfl rfl (.d _ _) (map_len _ _) rfl τ⟩) <| .mv rfl <| .z <| .block ?_
 refine .loop (X := Nat) (fun ζ => .of [(0, .one (.d (.sl false 62 2 (List.map Part.c62 (l))))), (1, .one (.d (.fn F_p first_p caps_p))), (7, .one (.d (.v (.int .i64 ((l.length : Int)))))), (8, .one (.d (.v (.int .i64 ((ζ : Int))))))] []) (fun ζ => ζ ≤ l.length ∧ allTo ζ (fun i => !p (l.getD i default)) = true) (fun ζ => l.length - ζ) ?_ ?_
 ·skip
  exact .here 0 (.of (.cons rfl (.cons rfl (.cons rfl (.cons (svI (show (0) = ((0 : Int)) by first | rfl | omega | exact wrap_le (by omega) (by omega) | (rw [wrap_le (by omega) (by omega)]; omega))) .nil)))) .nil) (show 0 ≤ l.length ∧ allTo 0 (fun i => !p (l.getD i default)) = true by exact ⟨by omega, rfl⟩)
 ·rintro j hI
  have hI : j ≤ l.length ∧ allTo j (fun i => !p (l.getD i default)) = true := hI
  refine .seq <| .rs fun k4 => .bi rfl <| .z <| .seq ?_
  refine .cond (t := decide ((j : Int) < (l.length : Int))) rfl (fun c0 => ?_) (fun c0 => ?_)
  ·have c0 := of_decide_eq_true c0
   refine .skip <| .seq <| .block <| .seq <| .rs fun k5 => .mv rfl <| .as rfl <| .z <| .seq ?_
   refine .rs fun k6 => .mv rfl <| .mv rfl <| .mv rfl <| .g (fun _ τ => ⟨_, .indexAddr (.no rfl) rfl (j) t29 rfl t62 rfl rfl rfl (.d _ _) rfl rfl rfl (map_get (by omega)) rfl rfl τ⟩) <| .lda t62 rfl (.d _) rfl <| .g (fun _ τ => ⟨_, .callF (.no rfl) rfl (ds := [.sl false 115 2 (List.map Entry.c ((l.getD j default).token)), .sl false 98 3 (List.map Env.c98 ((l.getD j default).table))]) (h_p (l.getD j default)) rfl rfl rfl rfl (.own [16, 0] .nil) rfl rfl rfl rfl rfl rfl τ⟩) <| .z ?_
   refine .cond (t := p (l.getD j default)) rfl (fun c1 => ?_) (fun c1 => ?_)
   ·have c1 := c1
    refine .seq <| .rs fun k7 => .mv rfl <| .as rfl <| .z <| .ret ?_
    exact fin0 (.inr rfl) (.one (svI (show ((j : Int)) = (idx p l) by exact (idx_found (j := j) (by omega) hI.2 (by simpa using c1)).symm)) .nil) (.dd .nil) rfl
   ·have c1 := c1
    refine .skip <| .rs fun k9 => .bi rfl <| .mv rfl <| .z ?_
    exact .here (j + 1) (.of (.cons rfl (.cons rfl (.cons rfl (.cons (svI (show (IntKind.wrap .i64 ((j : Int) + 1)) = (((j + 1) : Int)) by first | rfl | omega | exact wrap_le (by omega) (by omega) | (rw [wrap_le (by omega) (by omega)]; omega))) .nil)))) .nil) ⟨(show (j + 1) ≤ l.length ∧ allTo (j + 1) (fun i => !p (l.getD i default)) = true by exact ⟨by omega, allTo_step hI.2 (by simpa using c1)⟩), (show l.length - (j + 1) < l.length - j by omega)⟩
  ·have c0 := of_decide_eq_false c0
   refine .exit <| .seq <| .rs fun k10 => .as rfl <| .z <| .ret ?_
   exact fin0 (.inr rfl) (.one (svI (show (-1) = (idx p l) by exact (idx_none (by omega) hI.2).symm)) .nil) (.dd .nil) rfl
theorem c_ContainsFuncP (l : List Part) (F_p : FuncId) (first_p : List (Bool × List D)) (caps_p : List D) (p : Part → Bool) (h_p : ∀ (x0 : Part), FnTrip Tryz.prog F_p first_p caps_p [(true, 2)] (Part.c62 x0) [(false, 1)] [.v (.bool (p x0))]) : Trip Tryz.prog 176 [(false, 1), (false, 1)] ([.sl false 62 2 (List.map Part.c62 (l))] ++ [.fn F_p first_p caps_p]) [(false, 1)] [.v (.bool (l.any p))] [] := by
 refine Trip.of Tryz.func176 (by decide) (c := _) rfl rfl (Nat.le_of_ble_eq_true rfl) rfl (AftOk.nil _) <| .sl (t := 0) rfl fun hs1l => .seq <| .rs fun k2 => .as rfl <| .z <| .seq <| .rs fun k3 => .mv rfl ?_
 refine .mv rfl <| .c0 (c_IndexFuncP l F_p first_p caps_p p h_p) rfl (.dd (.dd .nil)) (.own [7, 0] .nil) rfl <| .bi rfl <| .as rfl <| .z <| .ret ?_
 exact fin0 (.inr rfl) (.one (svB (show (decide ((idx p l) ≥ 0)) = (l.any p) by exact idx_any _ _)) .nil) (.dd .nil) rfl
theorem c_areAll1P (x : Part) (F_p : FuncId) (first_p : List (Bool × List D)) (caps_p : List D) (p : Part → Bool) (h_p : ∀ (x0 : Part), FnTrip Tryz.prog F_p first_p caps_p [(true, 2)] (Part.c62 x0) [(false, 1)] [.v (.bool (p x0))]) : Trip Tryz.prog 177 [(true, 2), (false, 1)] (Part.c62 x ++ [.pt false [.fn F_p first_p caps_p]]) [(false, 1)] [.v (.bool (!p x))] [] := by
 refine Trip.of Tryz.func177 (by decide) (c := _) rfl rfl (Nat.le_of_ble_eq_true rfl) rfl (AftOk.nil _) <| .sla (t := 0) 0 rfl rfl fun hs1l => .sla (t := 0) 1 rfl rfl fun hs2l => .seq <| .rs fun k3 => .g (fun _ τ => ⟨_, .box (.no rfl) rfl rfl rfl rfl rfl τ⟩) <| .as rfl <| .z <| .seq ?_
 refine .rs fun k4 => .ld t164 rfl (.d _) rfl <| .lda t62 rfl (.ptr _ _ _ _ _ rfl) rfl <| .g (fun _ τ => ⟨_, .callF (.no rfl) rfl (ds := [.sl false 115 2 (List.map Entry.c (x.token)), .sl false 98 3 (List.map Env.c98 (x.table))]) (h_p x) rfl rfl rfl rfl (.own [6, 0] .nil) rfl rfl rfl rfl rfl rfl τ⟩) <| .un rfl <| .as rfl <| .z <| .ret ?_
 exact fin0 (.inr rfl) (.one (svB (show (!(p x)) = (!p x) by rfl)) .nil) (.dd .nil) rfl
theorem c_areAllP (l : List Part) (F_p : FuncId) (first_p : List (Bool × List D)) (caps_p : List D) (p : Part → Bool) (h_p : ∀ (x0 : Part), FnTrip Tryz.prog F_p first_p caps_p [(true, 2)] (Part.c62 x0) [(false, 1)] [.v (.bool (p x0))]) : Trip Tryz.prog 133 [(false, 1), (false, 1)] ([.sl false 62 2 (List.map Part.c62 (l))] ++ [.fn F_p first_p caps_p]) [(false, 1)] [.v (.bool (l.all p))] [] := by
 refine Trip.of Tryz.func133 (by decide) (c := _) rfl rfl (Nat.le_of_ble_eq_true rfl) rfl (AftOk.nil _) <| .sl (t := 0) rfl fun hs1l => .seq <| .rs fun k2 => .g (fun _ τ => ⟨_, .box (.no rfl) rfl rfl rfl rfl rfl τ⟩) <| .as rfl <| .z <| .seq <| .rs fun k3 => ?_
 refine .mv rfl <| .g (fun _ τ => ⟨_, .makeFunc (.no rfl) rfl rfl rfl rfl rfl τ⟩) <| .g (fun _ τ => ⟨_, .call (.no rfl) rfl [[3]] [([3], (k2, k2, .box [.d (.fn F_p first_p caps_p)]))] (c_ContainsFuncP l 177 [] [.pt false [.fn F_p first_p caps_p]] (fun x0 => !p x0) (fun x0 => c_areAll1P x0 F_p first_p caps_p p h_p)) rfl rfl rfl rfl rfl (.dd (.cons (Reads.clo0 (.cons (Reads.ptr0 (.head _) (.head _) (.cons (Reads.d _) .nil)) .nil)).gives .nil)) rfl rfl (fun _ => (ownCons (Owned.v _) ownNil)) (.own [7, 0] .nil) (.nil) rfl rfl rfl (AllH.get (.r rfl)) rfl rfl rfl τ⟩) <| .un rfl <| .as rfl <| .z <| .ret ?_
 exact fin0 (.inr rfl) (.one (svB (show (!(l.any (fun x0 => !p x0))) = (l.all p) by exact not_any _ _)) .nil) (.dd .nil) rfl
theorem c_partOk1 (e : Env) : Trip Tryz.prog 180 [(true, 3)] (Env.c98 e) [(false, 1)] [.v (.bool (Env.live e))] [] := by
 refine Trip.of Tryz.func180 (by decide) (c := _) rfl rfl (Nat.le_of_ble_eq_true rfl) rfl (AftOk.nil _) <| .sla (t := 0) 1 rfl rfl fun hs1l => .sla (t := 0) 2 rfl rfl fun hs2l => .seq <| .rs fun k3 => .g (fun _ τ => ⟨_, .box (.no rfl) rfl rfl rfl rfl rfl τ⟩) <| .as rfl <| .z <| .seq ?_
 refine .rs fun k4 => .fp t98 t4 rfl <| .ld t4 rfl (.ptr _ _ _ _ _ rfl) rfl <| .as rfl <| .z <| .ret ?_
 exact fin0 (.inr rfl) (.one (svB (show (e.live) = (Env.live e) by rfl)) .nil) (.dd .nil) rfl
theorem c_partOk (d : Decl) (p : Part) : Trip Tryz.prog 134 [(true, 3), (true, 2)] (Decl.c33 d ++ Part.c62 p) [(false, 1)] [.v (.bool (Part.ok d p))] [] := by
 refine Trip.of Tryz.func134 (by decide) (c := _) rfl rfl (Nat.le_of_ble_eq_true rfl) rfl (AftOk.nil _) <| .sla (t := 0) 0 rfl rfl fun hs1l => .sla (t := 0) 1 rfl rfl fun hs2l => .sla (t := 0) 2 rfl rfl fun hs3l => .sla (t := 1) 0 rfl rfl fun hs4l => .sla (t := 1) 1 rfl rfl fun hs5l => .seq <| .rs fun k6 => .g (fun _ τ => ⟨_, .box (.no rfl) rfl rfl rfl rfl rfl τ⟩) ?_
 refine .g (fun _ τ => ⟨_, .box (.no rfl) rfl rfl rfl rfl rfl τ⟩) <| .as rfl <| .z <| .seq ?_
 refine .reg (X := Unit) (fun ζ => .of [(4, .one (.d (.v (.bool (((tokOk p.token && Table.isIn d p.table) && p.table.any (fun x0 => Env.live x0)))))))] []) [⟨[3], some 5, [], []⟩, ⟨[5], some 6, [[3]], []⟩, ⟨[6], some 7, [], []⟩, ⟨[7], some 8, [], []⟩, ⟨[8, 2], some 9, [[2]], []⟩, ⟨[8, 3], some 10, [], []⟩, ⟨[8, 10], some 11, [[3]], []⟩, ⟨[8, 9, 11], some 12, [], []⟩, ⟨[8, 12], some 13, [], []⟩, ⟨[13], some 14, [], []⟩, ⟨[14, 3], some 15, [], []⟩, ⟨[14, 15], some 16, [[3]], []⟩, ⟨[14, 16], some 17, [], []⟩, ⟨[14, 17], some 18, [], []⟩, ⟨[18], some 4, [], []⟩] (fun k7 => ?_) ?_
 ·skip
  refine .fieldAddrP (.no rfl) rfl t62 rfl rfl t49 rfl rfl rfl rfl <| .load (.no rfl) rfl t49 rfl rfl (.ptr _ _ _ _ _ rfl) rfl rfl rfl rfl <| .call (.no rfl) rfl [] [] (c_TokenOk p.token) rfl rfl rfl rfl rfl (.dd .nil) rfl rfl (fun h => absurd rfl h) (.own [7, 0] .nil) (.nil) rfl rfl rfl (by simp) rfl rfl rfl <| .moveB (.no rfl) rfl rfl rfl rfl fun b8 g1_3 => ?_
  cases b8
  ·skip
   refine .off rfl rfl rfl rfl rfl rfl rfl <| .off rfl rfl rfl rfl rfl rfl rfl <| .off rfl rfl rfl rfl rfl rfl rfl <| .off rfl rfl rfl rfl rfl rfl rfl <| .pick (.no rfl) rfl rfl rfl rfl rfl <| .move (.no rfl) rfl rfl rfl rfl <| .off rfl rfl rfl rfl rfl rfl rfl <| .off rfl rfl rfl rfl rfl rfl rfl <| .off rfl rfl rfl rfl rfl rfl rfl ?_
   refine .pick (.no rfl) rfl rfl rfl rfl rfl <| .assign (.no rfl) rfl rfl rfl rfl ?_
   exact .fin () (.of (.cons (svB (show (false) = (((tokOk p.token && Table.isIn d p.table) && p.table.any (fun x0 => Env.live x0))) by first | (simp only [g1_3, Bool.true_or, Bool.false_or, Bool.true_and, Bool.false_and, Bool.not_true, Bool.not_false]; done) | (simp [g1_3]; done) | (exfalso; simp_all; done))) .nil) .nil)
  ·skip
   refine .load (.on rfl rfl rfl rfl rfl) rfl t33 rfl rfl (.ptr _ _ _ _ _ rfl) rfl rfl rfl rfl <| .fieldAddrP (.on rfl rfl rfl rfl rfl) rfl t62 rfl rfl t60 rfl rfl rfl rfl <| .load (.on rfl rfl rfl rfl rfl) rfl t60 rfl rfl (.ptr _ _ _ _ _ rfl) rfl rfl rfl rfl <| .call (.on rfl rfl rfl rfl rfl) rfl [] [] (c_isTable d p.table) rfl rfl rfl rfl rfl (.dd (.dd (.dd (.dd .nil)))) rfl rfl (fun h => absurd rfl h) (.own [12, 0] .nil) (.nil) rfl rfl rfl (by simp) rfl rfl rfl <| .pick (.no rfl) rfl rfl rfl rfl rfl <| .moveB (.no rfl) rfl rfl rfl rfl fun b9 g1_9 => ?_
   cases b9
   ·skip
    refine .off rfl rfl rfl rfl rfl rfl rfl <| .off rfl rfl rfl rfl rfl rfl rfl <| .off rfl rfl rfl rfl rfl rfl rfl <| .pick (.no rfl) rfl rfl rfl rfl rfl <| .assign (.no rfl) rfl rfl rfl rfl ?_
    exact .fin () (.of (.cons (svB (show (false) = (((tokOk p.token && Table.isIn d p.table) && p.table.any (fun x0 => Env.live x0))) by first | (simp only [g1_3, g1_9, Bool.true_or, Bool.false_or, Bool.true_and, Bool.false_and, Bool.not_true, Bool.not_false]; done) | (simp [g1_3, g1_9]; done) | (exfalso; simp_all; done))) .nil) .nil)
   ·skip
    refine .fieldAddrP (.on rfl rfl rfl rfl rfl) rfl t62 rfl rfl t60 rfl rfl rfl rfl <| .load (.on rfl rfl rfl rfl rfl) rfl t60 rfl rfl (.ptr _ _ _ _ _ rfl) rfl rfl rfl rfl <| .call (.on rfl rfl rfl rfl rfl) rfl [] [] (c_ContainsFuncE p.table 180 [] [] (fun x0 => Env.live x0) (fun x0 => c_partOk1 x0)) rfl rfl rfl rfl rfl (.dd (.dd .nil)) rfl rfl (fun h => absurd rfl h) (.own [17, 0] .nil) (.nil) rfl rfl rfl (by simp) rfl rfl rfl <| .pick (.no rfl) rfl rfl rfl rfl rfl <| .assign (.no rfl) rfl rfl rfl rfl ?_
    exact .fin () (.of (.cons (svB (show (p.table.any (fun x0 => Env.live x0)) = (((tokOk p.token && Table.isIn d p.table) && p.table.any (fun x0 => Env.live x0))) by first | (simp only [g1_3, g1_9, Bool.true_or, Bool.false_or, Bool.true_and, Bool.false_and, Bool.not_true, Bool.not_false]; done) | (simp [g1_3, g1_9]; done) | (exfalso; simp_all; done))) .nil) .nil)
 intro _
 refine .ret ?_
 exact fin0 (.inr rfl) (.one (svB (show (((tokOk p.token && Table.isIn d p.table) && p.table.any (fun x0 => Env.live x0))) = (Part.ok d p) by rfl)) .nil) (.dd .nil) rfl
theorem c_areParts (d : Decl) (l : List Part) : Trip Tryz.prog 79 [(true, 3), (false, 1)] (Decl.c33 d ++ [.sl false 62 2 (List.map Part.c62 (l))]) [(false, 1)] [.v (.bool (Parts.isIn d l))] [] := by
 refine Trip.of Tryz.func79 (by decide) (c := _) rfl rfl (Nat.le_of_ble_eq_true rfl) rfl (AftOk.nil _) <| .sla (t := 0) 0 rfl rfl fun hs1l => .sla (t := 0) 1 rfl rfl fun hs2l => .sla (t := 0) 2 rfl rfl fun hs3l => .sl (t := 1) rfl fun hs4l => .seq <| .rs fun k5 => .g (fun _ τ => ⟨_, .box (.no rfl) rfl rfl rfl rfl rfl τ⟩) <| .as rfl ?_
 refine .z <| .seq <| .seq <| .rs fun k6 => .as rfl <| .z <| .block ?_
 refine .loop (X := Nat) (fun ζ => .of [(1, .one (.d (.sl false 62 2 (List.map Part.c62 (l))))), (2, .one (.ptr [2] (k5) 0)), (5, .one (.d (.v (.int .i64 ((ζ : Int))))))] [([2], (k5, k5, .box [.d (.sl false 9 1 (List.map strc (d.vars))), .d (.sl false 9 1 (List.map strc (d.flags))), .d (.sl false 112 2 (List.map Arr.c (d.arrays)))]))]) (fun ζ => 1 ≤ ζ ∧ (ζ ≤ l.length ∨ ζ = 1) ∧ risesTo l ζ = true) (fun ζ => l.length - ζ) ?_ ?_
 ·skip
  exact .here 1 (.of (.cons rfl (.cons rfl (.cons (svI (show (1) = ((1 : Int)) by first | rfl | omega | exact wrap_le (by omega) (by omega) | (rw [wrap_le (by omega) (by omega)]; omega))) .nil))) (.r rfl)) (show 1 ≤ 1 ∧ (1 ≤ l.length ∨ 1 = 1) ∧ risesTo l 1 = true by exact ⟨by omega, by omega, rfl⟩)
 ·rintro j hI
  have hI : 1 ≤ j ∧ (j ≤ l.length ∨ j = 1) ∧ risesTo l j = true := hI
  refine .seq <| .seq <| .rs fun k7 => .mv rfl <| .mv rfl <| .g (fun _ τ => ⟨_, .len (.no rfl) rfl (z := (l.length : Int)) t29 rfl rfl rfl (.d _ _) (map_len _ _) rfl τ⟩) <| .bi rfl <| .z ?_
  refine .cond (t := decide ((j : Int) < (l.length : Int))) rfl (fun c0 => ?_) (fun c0 => ?_)
  ·have c0 := of_decide_eq_true c0
   refine .skip <| .seq <| .block <| .seq ?_
   refine .regD (X := Unit) (by kernel_rfl) (fun ζ => .of [(1, .one (.d (.sl false 62 2 (List.map Part.c62 (l))))), (2, .one (.ptr [2] (k5) 0)), (5, .one (.d (.v (.int .i64 ((j : Int)))))), (24, .one (.d (.v (.bool (decide ((tokCmp ((l.getD (j - 1) default).token) ((l.getD j default).token)) ≥ 0))))))] [([2], (k5, k5, .box [.d (.sl false 9 1 (List.map strc (d.vars))), .d (.sl false 9 1 (List.map strc (d.flags))), .d (.sl false 112 2 (List.map Arr.c (d.arrays)))]))]) [⟨[1], some 12, [], []⟩, ⟨[5], some 13, [], []⟩, ⟨[13], some 14, [], []⟩, ⟨[12, 14], some 15, [], []⟩, ⟨[15], some 16, [], []⟩, ⟨[16], some 17, [], []⟩, ⟨[1], some 18, [], []⟩, ⟨[5], some 19, [], []⟩, ⟨[18, 19], some 20, [], []⟩, ⟨[20], some 21, [], []⟩, ⟨[21], some 22, [], []⟩, ⟨[17, 22], some 23, [], []⟩, ⟨[23], some 24, [], []⟩] (by kernel_rfl) (fun k8 => ?_) ?_
   ·skip
    refine .move (.no rfl) rfl rfl rfl rfl <| .move (.no rfl) rfl rfl rfl rfl <| .bin (.no rfl) rfl rfl rfl rfl rfl rfl <| .indexAddr (.no rfl) rfl ((j - 1)) t29 rfl t62 rfl rfl rfl (.d _ _) rfl rfl (by (rw [wrap_le (by omega) (by omega)]; omega)) (map_get (by omega)) rfl rfl <| .fieldAddr (.no rfl) rfl t62 rfl rfl t49 rfl rfl rfl rfl [] (by simp) (by intro _ _ _ h; cases h) rfl rfl <| .load (.no rfl) rfl t49 rfl rfl (.d _) rfl rfl rfl rfl <| .move (.no rfl) rfl rfl rfl rfl <| .move (.no rfl) rfl rfl rfl rfl <| .indexAddr (.no rfl) rfl (j) t29 rfl t62 rfl rfl rfl (.d _ _) rfl rfl rfl (map_get (by omega)) rfl rfl ?_
    refine .fieldAddr (.no rfl) rfl t62 rfl rfl t49 rfl rfl rfl rfl [] (by simp) (by intro _ _ _ h; cases h) rfl rfl <| .load (.no rfl) rfl t49 rfl rfl (.d _) rfl rfl rfl rfl <| .call (.no rfl) rfl [] [] (c_compareTokens ((l.getD (j - 1) default).token) ((l.getD j default).token)) rfl rfl rfl rfl rfl (.dd (.dd .nil)) rfl rfl (fun h => absurd rfl h) (.own [23, 0] .nil) (.nil) rfl rfl rfl (by simp) rfl rfl rfl <| .bin (.no rfl) rfl rfl rfl rfl rfl rfl ?_
    exact .fin () (.of (.r rfl) (.r rfl))
   intro _
   refine .cond (t := decide ((tokCmp ((l.getD (j - 1) default).token) ((l.getD j default).token)) ≥ 0)) rfl (fun c1 => ?_) (fun c1 => ?_)
   ·have c1 := of_decide_eq_true c1
    refine .seq <| .rs fun k9 => .as rfl <| .z <| .ret ?_
    exact fin0 (.inr rfl) (.one (svB (show (false) = (Parts.isIn d l) by (rw [Parts.isIn_rise (j := j) (by omega) (by omega) (by omega)]))) .nil) (.dd .nil) rfl
   ·have c1 := of_decide_eq_false c1
    refine .skip <| .rs fun k11 => .mv rfl <| .bi rfl <| .as rfl <| .z ?_
    exact .here (j + 1) (.of (.cons rfl (.cons rfl (.cons (svI (show (IntKind.wrap .i64 ((j : Int) + 1)) = (((j + 1) : Int)) by first | rfl | omega | exact wrap_le (by omega) (by omega) | (rw [wrap_le (by omega) (by omega)]; omega))) .nil))) (.r rfl)) ⟨(show 1 ≤ (j + 1) ∧ ((j + 1) ≤ l.length ∨ (j + 1) = 1) ∧ risesTo l (j + 1) = true by exact ⟨by omega, by omega, rises_step hI.2.2 (fun _ => by omega)⟩), (show l.length - (j + 1) < l.length - j by omega)⟩
  ·have c0 := of_decide_eq_false c0
   refine .exit <| .seq ?_
   refine .reg (X := Unit) (fun ζ => .of [(4, .one (.d (.v (.bool ((decide ((l.length : Int) ≤ 100) && l.all (fun x0 => Part.ok d x0)))))))] []) [⟨[1], some 25, [], []⟩, ⟨[25], some 26, [], []⟩, ⟨[26], some 27, [], []⟩, ⟨[27], some 28, [], []⟩, ⟨[28, 1], some 29, [], []⟩, ⟨[28, 2], some 30, [[2]], []⟩, ⟨[28, 30], some 31, [], []⟩, ⟨[28, 29, 31], some 32, [], []⟩, ⟨[28, 32], some 33, [], []⟩, ⟨[33], some 4, [], []⟩] (fun k12 => ?_) ?_
   ·skip
    refine .move (.no rfl) rfl rfl rfl rfl <| .len (.no rfl) rfl (z := (l.length : Int)) t29 rfl rfl rfl (.d _ _) (map_len _ _) rfl <| .bin (.no rfl) rfl rfl rfl rfl rfl rfl <| .moveB (.no rfl) rfl rfl rfl rfl fun b13 g6_3 => ?_
    cases b13
    ·skip
     refine .off rfl rfl rfl rfl rfl rfl rfl <| .off rfl rfl rfl rfl rfl rfl rfl <| .off rfl rfl rfl rfl rfl rfl rfl <| .off rfl rfl rfl rfl rfl rfl rfl <| .pick (.no rfl) rfl rfl rfl rfl rfl <| .assign (.no rfl) rfl rfl rfl rfl ?_
     exact .fin () (.of (.cons (svB (show (false) = ((decide ((l.length : Int) ≤ 100) && l.all (fun x0 => Part.ok d x0))) by first | (simp only [g6_3, Bool.true_or, Bool.false_or, Bool.true_and, Bool.false_and, Bool.not_true, Bool.not_false]; done) | (simp [g6_3]; done) | (exfalso; simp_all; done))) .nil) .nil)
    ·skip
     refine .move (.on rfl rfl rfl rfl rfl) rfl rfl rfl rfl <| .load (.on rfl rfl rfl rfl rfl) rfl t33 rfl rfl (.ptr _ _ _ _ _ rfl) rfl rfl rfl rfl <| .makeFunc (.on rfl rfl rfl rfl rfl) rfl rfl rfl rfl rfl <| .call (.on rfl rfl rfl rfl rfl) rfl [] [] (c_areAllP l 134 [(true, [.sl false 9 1 (List.map strc (d.vars)), .sl false 9 1 (List.map strc (d.flags)), .sl false 112 2 (List.map Arr.c (d.arrays))])] [] (fun x0 => Part.ok d x0) (fun x0 => c_partOk d x0)) rfl rfl rfl rfl rfl (.dd (.cons (Reads.clo1 (.cons (Reads.d _) (.cons (Reads.d _) (.cons (Reads.d _) .nil))) (.nil)).gives .nil)) rfl rfl (fun h => absurd rfl h) (.own [32, 0] .nil) (.nil) rfl rfl rfl (by simp) rfl rfl rfl <| .pick (.no rfl) rfl rfl rfl rfl rfl <| .assign (.no rfl) rfl rfl rfl rfl ?_
     exact .fin () (.of (.cons (svB (show (l.all (fun x0 => Part.ok d x0)) = ((decide ((l.length : Int) ≤ 100) && l.all (fun x0 => Part.ok d x0))) by first | (simp only [g6_3, Bool.true_or, Bool.false_or, Bool.true_and, Bool.false_and, Bool.not_true, Bool.not_false]; done) | (simp [g6_3]; done) | (exfalso; simp_all; done))) .nil) .nil)
   intro _
   refine .ret ?_
   exact fin0 (.inr rfl) (.one (svB (show ((decide ((l.length : Int) ≤ 100) && l.all (fun x0 => Part.ok d x0))) = (Parts.isIn d l) by exact Parts.isIn_all (j := j) (by omega) hI.2.2)) .nil) (.dd .nil) rfl
theorem c_PartsOk (d : Decl) (l : List Part) (hs : ∀ x ∈ Decl.names d, x.size ≤ 9223372036854775807) (hb : d.vars.length ≤ 1048576 ∧ d.flags.length ≤ 1048576 ∧ d.arrays.length ≤ 1048576) : Trip Tryz.prog 30 [(true, 3), (false, 1)] (Decl.c33 d ++ [.sl false 62 2 (List.map Part.c62 (l))]) [(false, 1)] [.v (.bool (Parts.ok d l))] [] := by
 refine Trip.of Tryz.func30 (by decide) (c := _) rfl rfl (Nat.le_of_ble_eq_true rfl) rfl (AftOk.nil _) <| .sla (t := 0) 0 rfl rfl fun hs1l => .sla (t := 0) 1 rfl rfl fun hs2l => .sla (t := 0) 2 rfl rfl fun hs3l => .sl (t := 1) rfl fun hs4l => .seq <| .rs fun k5 => .g (fun _ τ => ⟨_, .box (.no rfl) rfl rfl rfl rfl rfl τ⟩) <| .as rfl ?_
 refine .z <| .seq ?_
 refine .reg (X := Unit) (fun ζ => .of [(4, .one (.d (.v (.bool ((Decl.ok d && Parts.isIn d l))))))] []) [⟨[2], some 5, [[2]], []⟩, ⟨[5], some 6, [], []⟩, ⟨[6], some 7, [], []⟩, ⟨[7, 2], some 8, [[2]], []⟩, ⟨[7, 1], some 9, [], []⟩, ⟨[7, 8, 9], some 10, [], []⟩, ⟨[7, 10], some 11, [], []⟩, ⟨[11], some 4, [], []⟩] (fun k6 => ?_) ?_
 ·skip
  refine .load (.no rfl) rfl t33 rfl rfl (.ptr _ _ _ _ _ rfl) rfl rfl rfl rfl <| .call (.no rfl) rfl [] [] (c_isRight d (by assumption) (by assumption)) rfl rfl rfl rfl rfl (.dd (.dd (.dd .nil))) rfl rfl (fun h => absurd rfl h) (.own [6, 0] .nil) (.nil) rfl rfl rfl (by simp) rfl rfl rfl <| .moveB (.no rfl) rfl rfl rfl rfl fun b7 g1_2 => ?_
  cases b7
  ·skip
   refine .off rfl rfl rfl rfl rfl rfl rfl <| .off rfl rfl rfl rfl rfl rfl rfl <| .off rfl rfl rfl rfl rfl rfl rfl <| .pick (.no rfl) rfl rfl rfl rfl rfl <| .assign (.no rfl) rfl rfl rfl rfl ?_
   exact .fin () (.of (.cons (svB (show (false) = ((Decl.ok d && Parts.isIn d l)) by first | (simp only [g1_2, Bool.true_or, Bool.false_or, Bool.true_and, Bool.false_and, Bool.not_true, Bool.not_false]; done) | (simp [g1_2]; done) | (exfalso; simp_all; done))) .nil) .nil)
  ·skip
   refine .load (.on rfl rfl rfl rfl rfl) rfl t33 rfl rfl (.ptr _ _ _ _ _ rfl) rfl rfl rfl rfl <| .move (.on rfl rfl rfl rfl rfl) rfl rfl rfl rfl <| .call (.on rfl rfl rfl rfl rfl) rfl [] [] (c_areParts d l) rfl rfl rfl rfl rfl (.dd (.dd (.dd (.dd .nil)))) rfl rfl (fun h => absurd rfl h) (.own [10, 0] .nil) (.nil) rfl rfl rfl (by simp) rfl rfl rfl <| .pick (.no rfl) rfl rfl rfl rfl rfl <| .assign (.no rfl) rfl rfl rfl rfl ?_
   exact .fin () (.of (.cons (svB (show (Parts.isIn d l) = ((Decl.ok d && Parts.isIn d l)) by first | (simp only [g1_2, Bool.true_or, Bool.false_or, Bool.true_and, Bool.false_and, Bool.not_true, Bool.not_false]; done) | (simp [g1_2]; done) | (exfalso; simp_all; done))) .nil) .nil)
 intro _
 refine .ret ?_
 exact fin0 (.inr rfl) (.one (svB (show ((Decl.ok d && Parts.isIn d l)) = (Parts.ok d l) by rfl)) .nil) (.dd .nil) rfl
end Go.Proofs

namespace Go.Proofs
open Go Go.Proofs Go.Ev

theorem c_bsearch (l : List Part) (t : List Entry) (F_p : FuncId) (first_p : List (Bool × List D)) (caps_p : List D) (p : Part → (List Entry) → Int) (h_p : ∀ (x0 : Part) (x1 : List Entry), FnTrip Tryz.prog F_p first_p caps_p [(true, 2), (false, 1)] (Part.c62 x0 ++ [.sl false 115 2 (List.map Entry.c (x1))]) [(false, 1)] [.v (.int .i64 (p x0 x1))]) (hl : l.length ≤ 1048576) : Trip Tryz.prog 114 [(false, 1), (false, 1), (false, 1)] ([.sl false 62 2 (List.map Part.c62 (l))] ++ [.sl false 115 2 (List.map Entry.c (t))] ++ [.fn F_p first_p caps_p]) [(false, 1), (false, 1)] [.v (.int .i64 ((bsAt (fun q => p (l.getD q default) t) l.length : Int))), .v (.bool (decide ((bsAt (fun q => p (l.getD q default) t) l.length : Int) < (l.length : Int)) && (p (l.getD (bsAt (fun q => p (l.getD q default) t) l.length) default) t == 0)))] [] := by
 refine Trip.of Tryz.func114 (by decide +kernel) (c := _) rfl rfl (Nat.le_of_ble_eq_true rfl) rfl (AftOk.nil _) <| .sl (t := 0) rfl fun hs1l => .sl (t := 1) rfl fun hs2l => .seq <| .rs fun k3 => .as rfl <| .as rfl <| .z <| .seq ?_
 refine .rs fun k4 => .mv rfl <| .g (fun _ τ => ⟨_, .len (.no rfl) rfl (z := (l.length : Int)) t29 rfl rfl rfl (.d _ _) (map_len _ _) rfl τ⟩) <| .as rfl <| .z <| .seq <| .rs fun k5 => .mv rfl <| .as rfl ?_
 refine .as rfl <| .z <| .seq <| .block ?_
 refine .loop (X := Nat × Nat) (fun ζ => .of [(0, .one (.d (.sl false 62 2 (List.map Part.c62 (l))))), (1, .one (.d (.sl false 115 2 (List.map Entry.c (t))))), (2, .one (.d (.fn F_p first_p caps_p))), (8, .one (.d (.v (.int .i64 ((l.length : Int)))))), (9, .one (.d (.v (.int .i64 ((ζ.1 : Int)))))), (10, .one (.d (.v (.int .i64 ((ζ.2 : Int))))))] []) (fun ζ => BsI (fun q => p (l.getD q default) t) l.length ζ.1 ζ.2) (fun ζ => ζ.2 - ζ.1) ?_ ?_
 ·skip
  exact .here (0, l.length) (.of (.cons rfl (.cons rfl (.cons rfl (.cons rfl (.cons (svI (show (0) = ((0 : Int)) by first | rfl | omega | (have h9 := h6 (by omega); exact wrap_le (by omega) (by omega)))) (.r rfl)))))) .nil) (show BsI (fun q => p (l.getD q default) t) l.length 0 l.length by exact BsI.init _ _)
 ·rintro ⟨i, j⟩ hI
  have hI : BsI (fun q => p (l.getD q default) t) l.length i j := hI
  have h8 := hI.1
  have h7 := hI.2.1
  have h6 : i < j → i ≤ mid i j ∧ mid i j < j := mid_bnd
  dsimp only
  refine .seq <| .seq <| .rs fun k6 => .mv rfl <| .mv rfl <| .bi rfl <| .z ?_
  refine .cond (t := decide ((i : Int) < (j : Int))) rfl (fun c0 => ?_) (fun c0 => ?_)
  ·have c0 := of_decide_eq_true c0
   refine .skip <| .block <| .seq <| .rs fun k7 => .mv rfl <| .mv rfl <| .bi rfl <| .g (fun _ τ => ⟨_, .conv (.no rfl) rfl (z' := ((i : Int) + (j : Int))) t3 t100 rfl rfl rfl rfl (by rw [wrap_le (by omega) (by omega)]; exact wrap_u64 (by omega) (by omega)) rfl τ⟩) <| .bi rfl ?_
   refine .g (fun _ τ => ⟨_, .conv (.no rfl) rfl (z' := (mid i j : Int)) t100 t3 rfl rfl rfl rfl (bs_mid (i := i) (j := j) (by omega)) rfl τ⟩) <| .as rfl <| .z <| .seq <| .rs fun k8 => .mv rfl <| .mv rfl <| .mv rfl <| .g (fun _ τ => ⟨_, .indexAddr (.no rfl) rfl (mid i j) t29 rfl t62 rfl rfl rfl (.d _ _) rfl rfl rfl (map_get (by first | omega | (have h9 := h6 (by omega); omega) | (have h9 := of_decide_eq_true g8_4; omega))) rfl rfl τ⟩) ?_
   refine .lda t62 rfl (.d _) rfl <| .mv rfl <| .g (fun _ τ => ⟨_, .callF (.no rfl) rfl (ds := [.sl false 115 2 (List.map Entry.c ((l.getD (mid i j) default).token)), .sl false 98 3 (List.map Env.c98 ((l.getD (mid i j) default).table)), .sl false 115 2 (List.map Entry.c (t))]) (h_p (l.getD (mid i j) default) t) rfl rfl rfl rfl (.own [30, 0] .nil) rfl rfl rfl rfl rfl rfl τ⟩) <| .bi rfl <| .z ?_
   refine .cond (t := decide ((p (l.getD (mid i j) default) t) < 0)) rfl (fun c1 => ?_) (fun c1 => ?_)
   ·have c1 := of_decide_eq_true c1
    refine .rs fun k9 => .mv rfl <| .bi rfl <| .as rfl <| .z ?_
    exact .here ((mid i j + 1), j) (.of (.cons rfl (.cons rfl (.cons rfl (.cons rfl (.cons (svI (show (IntKind.wrap .i64 ((mid i j : Int) + 1)) = (((mid i j + 1) : Int)) by first | rfl | omega | (have h9 := h6 (by omega); exact wrap_le (by omega) (by omega)))) (.r rfl)))))) .nil) ⟨(show BsI (fun q => p (l.getD q default) t) l.length (mid i j + 1) j by first | exact BsI.up hI (by omega) c1 | exact BsI.down hI (by omega) c1), (show j - (mid i j + 1) < j - i by (have h9 := h6 (by omega); omega))⟩
   ·have c1 := of_decide_eq_false c1
    refine .rs fun k10 => .mv rfl <| .as rfl <| .z ?_
    exact .here (i, (mid i j)) (.of (.cons rfl (.cons rfl (.cons rfl (.cons rfl (.cons rfl (.cons (svI (show ((mid i j : Int)) = (((mid i j) : Int)) by first | rfl | omega | (have h9 := h6 (by omega); exact wrap_le (by omega) (by omega)))) .nil)))))) .nil) ⟨(show BsI (fun q => p (l.getD q default) t) l.length i (mid i j) by first | exact BsI.up hI (by omega) c1 | exact BsI.down hI (by omega) c1), (show (mid i j) - i < j - i by (have h9 := h6 (by omega); omega))⟩
  ·have c0 := of_decide_eq_false c0
   refine .exit <| .seq ?_
   refine .reg (X := Unit) (fun ζ => .of [(6, .one (.d (.v (.int .i64 ((i : Int)))))), (7, .one (.d (.v (.bool ((decide ((i : Int) < (l.length : Int)) && (p (l.getD i default) t) == 0))))))] []) [⟨[9], some 35, [], []⟩, ⟨[9], some 36, [], []⟩, ⟨[8], some 37, [], []⟩, ⟨[36, 37], some 38, [], []⟩, ⟨[38], some 39, [], []⟩, ⟨[39, 2], some 40, [], []⟩, ⟨[39, 0], some 41, [], []⟩, ⟨[39, 9], some 42, [], []⟩, ⟨[39, 41, 42], some 43, [], []⟩, ⟨[39, 43], some 44, [], []⟩, ⟨[39, 1], some 45, [], []⟩, ⟨[39, 40, 44, 45], some 46, [], []⟩, ⟨[39, 46], some 47, [], []⟩, ⟨[39, 47], some 48, [], []⟩, ⟨[35], some 6, [], []⟩, ⟨[48], some 7, [], []⟩] (fun k11 => ?_) ?_
   ·skip
    refine .move (.no rfl) rfl rfl rfl rfl <| .move (.no rfl) rfl rfl rfl rfl <| .move (.no rfl) rfl rfl rfl rfl <| .bin (.no rfl) rfl rfl rfl rfl rfl rfl <| .moveB (.no rfl) rfl rfl rfl rfl fun b12 g8_4 => ?_
    cases b12
    ·skip
     refine .off rfl rfl rfl rfl rfl rfl rfl <| .off rfl rfl rfl rfl rfl rfl rfl <| .off rfl rfl rfl rfl rfl rfl rfl <| .off rfl rfl rfl rfl rfl rfl rfl <| .off rfl rfl rfl rfl rfl rfl rfl <| .off rfl rfl rfl rfl rfl rfl rfl <| .off rfl rfl rfl rfl rfl rfl rfl <| .off rfl rfl rfl rfl rfl rfl rfl <| .pick (.no rfl) rfl rfl rfl rfl rfl ?_
     refine .assign (.no rfl) rfl rfl rfl rfl <| .assign (.no rfl) rfl rfl rfl rfl ?_
     exact .fin () (.of (.cons rfl (.cons (svB (show (false) = ((decide ((i : Int) < (l.length : Int)) && (p (l.getD i default) t) == 0)) by first | (simp only [g8_4, Bool.true_or, Bool.false_or, Bool.true_and, Bool.false_and, Bool.not_true, Bool.not_false]; done) | (simp [g8_4]; done) | (exfalso; simp_all; done))) .nil)) .nil)
    ·skip
     refine .move (.on rfl rfl rfl rfl rfl) rfl rfl rfl rfl <| .move (.on rfl rfl rfl rfl rfl) rfl rfl rfl rfl <| .move (.on rfl rfl rfl rfl rfl) rfl rfl rfl rfl <| .indexAddr (.on rfl rfl rfl rfl rfl) rfl (i) t29 rfl t62 rfl rfl rfl (.d _ _) rfl rfl rfl (map_get (by first | omega | (have h9 := h6 (by omega); omega) | (have h9 := of_decide_eq_true g8_4; omega))) rfl rfl <| .load (.on rfl rfl rfl rfl rfl) rfl t62 rfl rfl (.d _) rfl rfl rfl rfl <| .move (.on rfl rfl rfl rfl rfl) rfl rfl rfl rfl <| .callF (.on rfl rfl rfl rfl rfl) rfl (ds := [.sl false 115 2 (List.map Entry.c ((l.getD i default).token)), .sl false 98 3 (List.map Env.c98 ((l.getD i default).table)), .sl false 115 2 (List.map Entry.c (t))]) (h_p (l.getD i default) t) rfl rfl rfl rfl (.own [46, 0] .nil) rfl rfl rfl rfl rfl rfl <| .bin (.on rfl rfl rfl rfl rfl) rfl rfl rfl rfl rfl rfl ?_
     refine .pick (.no rfl) rfl rfl rfl rfl rfl <| .assign (.no rfl) rfl rfl rfl rfl <| .assign (.no rfl) rfl rfl rfl rfl ?_
     exact .fin () (.of (.cons rfl (.cons (svB (show ((p (l.getD i default) t) == 0) = ((decide ((i : Int) < (l.length : Int)) && (p (l.getD i default) t) == 0)) by first | (simp only [g8_4, Bool.true_or, Bool.false_or, Bool.true_and, Bool.false_and, Bool.not_true, Bool.not_false]; done) | (simp [g8_4]; done) | (exfalso; simp_all; done))) .nil)) .nil)
   intro _
   refine .ret ?_
   exact fin0 (.inr rfl) (.one (svI (show ((i : Int)) = ((bsAt (fun q => p (l.getD q default) t) l.length : Int)) by (rw [BsI.done hI (by omega)]))) (.one (svB (show ((decide ((i : Int) < (l.length : Int)) && (p (l.getD i default) t) == 0)) = (decide ((bsAt (fun q => p (l.getD q default) t) l.length : Int) < (l.length : Int)) && (p (l.getD (bsAt (fun q => p (l.getD q default) t) l.length) default) t == 0)) by (rw [BsI.done hI (by omega)]))) .nil)) (.dd (.dd .nil)) rfl
theorem c_partAt1 (x : Part) (t : List Entry) : Trip Tryz.prog 115 [(true, 2), (false, 1)] (Part.c62 x ++ [.sl false 115 2 (List.map Entry.c (t))]) [(false, 1)] [.v (.int .i64 (tokCmp x.token t))] [] := by
 refine Trip.of Tryz.func115 (by decide) (c := _) rfl rfl (Nat.le_of_ble_eq_true rfl) rfl (AftOk.nil _) <| .sla (t := 0) 0 rfl rfl fun hs1l => .sla (t := 0) 1 rfl rfl fun hs2l => .sl (t := 1) rfl fun hs3l => .seq <| .rs fun k4 => .g (fun _ τ => ⟨_, .box (.no rfl) rfl rfl rfl rfl rfl τ⟩) <| .as rfl <| .z ?_
 refine .seq <| .rs fun k5 => .fp t62 t49 rfl <| .ld t49 rfl (.ptr _ _ _ _ _ rfl) rfl <| .mv rfl <| .c0 (c_compareTokens x.token t) rfl (.dd (.dd .nil)) (.own [8, 0] .nil) rfl <| .as rfl <| .z <| .ret ?_
 exact fin0 (.inr rfl) (.one rfl .nil) (.dd .nil) rfl
theorem c_partAt (l : List Part) (t : List Entry) (hl : l.length ≤ 1048576) : Trip Tryz.prog 68 [(false, 1), (false, 1)] ([.sl false 62 2 (List.map Part.c62 (l))] ++ [.sl false 115 2 (List.map Entry.c (t))]) [(false, 1), (false, 1)] [.v (.int .i64 ((partI l t : Int))), .v (.bool (partB l t))] [] := by
 refine Trip.of Tryz.func68 (by decide) (c := _) rfl rfl (Nat.le_of_ble_eq_true rfl) rfl (AftOk.nil _) <| .sl (t := 0) rfl fun hs1l => .sl (t := 1) rfl fun hs2l => .seq <| .rs fun k3 => .as rfl <| .as rfl <| .z <| .seq ?_
 refine .rs fun k4 => .mv rfl <| .mv rfl <| .c0 (c_bsearch l t 115 [] [] (fun x0 x1 => tokCmp x0.token x1) (fun x0 x1 => c_partAt1 x0 x1) (by assumption)) rfl (.dd (.dd (.dd .nil))) (.own [8, 0] (.own [8, 1] .nil)) rfl <| .g (fun _ τ => ⟨_, .extract (.no rfl) rfl rfl rfl rfl rfl τ⟩) <| .g (fun _ τ => ⟨_, .extract (.no rfl) rfl rfl rfl rfl rfl τ⟩) <| .as rfl <| .as rfl <| .z ?_
 refine .ret ?_
 exact fin0 (.inr rfl) (.one (svI (show ((bsAt (fun q => (fun x0 x1 => tokCmp x0.token x1) (l.getD q default) t) l.length : Int)) = ((partI l t : Int)) by rfl)) (.one (svB (show (decide ((bsAt (fun q => (fun x0 x1 => tokCmp x0.token x1) (l.getD q default) t) l.length : Int) < (l.length : Int)) && ((fun x0 x1 => tokCmp x0.token x1) (l.getD (bsAt (fun q => (fun x0 x1 => tokCmp x0.token x1) (l.getD q default) t) l.length) default) t == 0)) = (partB l t) by rfl)) .nil)) (.dd (.dd .nil)) rfl
theorem c_areBoth (d : Decl) (a : List Part) (b : List Part) (hs : ∀ x ∈ Decl.names d, x.size ≤ 9223372036854775807) (hb : d.vars.length ≤ 1048576 ∧ d.flags.length ≤ 1048576 ∧ d.arrays.length ≤ 1048576) : Trip Tryz.prog 46 [(true, 3), (false, 1), (false, 1)] (Decl.c33 d ++ [.sl false 62 2 (List.map Part.c62 (a))] ++ [.sl false 62 2 (List.map Part.c62 (b))]) [(false, 1)] [.v (.bool (Parts.ok d a && Parts.isIn d b))] [] := by
 refine Trip.of Tryz.func46 (by decide) (c := _) rfl rfl (Nat.le_of_ble_eq_true rfl) rfl (AftOk.nil _) <| .sla (t := 0) 0 rfl rfl fun hs1l => .sla (t := 0) 1 rfl rfl fun hs2l => .sla (t := 0) 2 rfl rfl fun hs3l => .sl (t := 1) rfl fun hs4l => .sl (t := 2) rfl fun hs5l => .seq <| .rs fun k6 => .g (fun _ τ => ⟨_, .box (.no rfl) rfl rfl rfl rfl rfl τ⟩) ?_
 refine .as rfl <| .z <| .seq ?_
 refine .reg (X := Unit) (fun ζ => .of [(6, .one (.d (.v (.bool ((Parts.ok d a && Parts.isIn d b))))))] []) [⟨[3], some 7, [[3]], []⟩, ⟨[1], some 8, [], []⟩, ⟨[7, 8], some 9, [], []⟩, ⟨[9], some 10, [], []⟩, ⟨[10, 3], some 11, [[3]], []⟩, ⟨[10, 2], some 12, [], []⟩, ⟨[10, 11, 12], some 13, [], []⟩, ⟨[10, 13], some 14, [], []⟩, ⟨[14], some 6, [], []⟩] (fun k7 => ?_) ?_
 ·skip
  refine .load (.no rfl) rfl t33 rfl rfl (.ptr _ _ _ _ _ rfl) rfl rfl rfl rfl <| .move (.no rfl) rfl rfl rfl rfl <| .call (.no rfl) rfl [] [] (c_PartsOk d a (by assumption) (by assumption)) rfl rfl rfl rfl rfl (.dd (.dd (.dd (.dd .nil)))) rfl rfl (fun h => absurd rfl h) (.own [9, 0] .nil) (.nil) rfl rfl rfl (by simp) rfl rfl rfl <| .moveB (.no rfl) rfl rfl rfl rfl fun b8 g1_3 => ?_
  cases b8
  ·skip
   refine .off rfl rfl rfl rfl rfl rfl rfl <| .off rfl rfl rfl rfl rfl rfl rfl <| .off rfl rfl rfl rfl rfl rfl rfl <| .pick (.no rfl) rfl rfl rfl rfl rfl <| .assign (.no rfl) rfl rfl rfl rfl ?_
   exact .fin () (.of (.cons (svB (show (false) = ((Parts.ok d a && Parts.isIn d b)) by first | (simp only [g1_3, Bool.true_or, Bool.false_or, Bool.true_and, Bool.false_and, Bool.not_true, Bool.not_false]; done) | (simp [g1_3]; done) | (exfalso; simp_all; done))) .nil) .nil)
  ·skip
   refine .load (.on rfl rfl rfl rfl rfl) rfl t33 rfl rfl (.ptr _ _ _ _ _ rfl) rfl rfl rfl rfl <| .move (.on rfl rfl rfl rfl rfl) rfl rfl rfl rfl <| .call (.on rfl rfl rfl rfl rfl) rfl [] [] (c_areParts d b) rfl rfl rfl rfl rfl (.dd (.dd (.dd (.dd .nil)))) rfl rfl (fun h => absurd rfl h) (.own [13, 0] .nil) (.nil) rfl rfl rfl (by simp) rfl rfl rfl <| .pick (.no rfl) rfl rfl rfl rfl rfl <| .assign (.no rfl) rfl rfl rfl rfl ?_
   exact .fin () (.of (.cons (svB (show (Parts.isIn d b) = ((Parts.ok d a && Parts.isIn d b)) by first | (simp only [g1_3, Bool.true_or, Bool.false_or, Bool.true_and, Bool.false_and, Bool.not_true, Bool.not_false]; done) | (simp [g1_3]; done) | (exfalso; simp_all; done))) .nil) .nil)
 intro _
 refine .ret ?_
 exact fin0 (.inr rfl) (.one (svB (show ((Parts.ok d a && Parts.isIn d b)) = (Parts.ok d a && Parts.isIn d b) by rfl)) .nil) (.dd .nil) rfl
end Go.Proofs

namespace Go.Proofs
open Go Go.Proofs Go.Ev

theorem c_markEntryS (a : List Entry) (k : Int) (hk : 0 ≤ k ∧ k + 2 * (a.length : Int) < 4611686018427387904) : Trip Tryz.prog 55 [(false, 1), (false, 1)] ([.sl true 115 2 (List.map Entry.c (a))] ++ [.v (.int .i64 (k))]) [(false, 1)] [.v (.int .i64 (k + 2 * (a.length : Int)))] [(0, .sl true 115 2 (List.map Entry.c (mkAll (mEnt k) a)))] := by
 refine Trip.of Tryz.func55 (by decide) (c := _) rfl rfl (Nat.le_of_ble_eq_true rfl) rfl (AftOk.sl rfl (AftOk.nil _)) <| .seq <| .rs fun k1 => .as rfl <| .z <| .seq <| .seq <| .rs fun k2 => .as rfl ?_
 refine .z <| .block ?_
 refine .loop (X := Nat × Nat) (fun ζ => .of [(0, .one (.ref [0, 0, 0] (0))), (1, .one (.d (.v (.int .i64 (k + 2 * (ζ.1 : Int)))))), (5, .one (.d (.v (.int .i64 ((ζ.1 : Int))))))] [([0, 0, 0], (0, ζ.2, .row 115 2 (List.map Entry.c (mkTo (mEnt k) a ζ.1))))]) (fun ζ => ζ.1 ≤ a.length) (fun ζ => a.length - ζ.1) ?_ ?_
 ·skip
  exact .here (0, 0) (.of (.cons rfl (.cons (svI (show (k) = (k + 2 * (0 : Int)) by first | omega | exact wrap_le (by omega) (by omega) | (rw [wrap_le (by omega) (by omega)]; omega) | (rw [wrap_le (a := k + 2 * (j : Int) + 1) (by omega) (by omega), wrap_le (by omega) (by omega)]; omega))) (.cons (svI (show (0) = ((0 : Int)) by first | omega | exact wrap_le (by omega) (by omega) | (rw [wrap_le (by omega) (by omega)]; omega) | (rw [wrap_le (a := k + 2 * (j : Int) + 1) (by omega) (by omega), wrap_le (by omega) (by omega)]; omega))) .nil))) (.cons (rowE (show List.map Entry.c (a) = List.map Entry.c (mkTo (mEnt k) a 0) by first | (rw [← mkTo_zero]) | (rw [List.set_set, set_getD (by rw [mkTo_len]; omega), mkTo_step _ _ (by omega) (by simp only [mEnt]; rw [wrap_le (a := k + 2 * (j : Int) + 1) (by omega) (by omega)])]))) .nil)) (show 0 ≤ a.length by omega)
 ·rintro ⟨j, q3⟩ hI
  have hI : j ≤ a.length := hI
  have hL : (mkTo (mEnt k) a j).length = a.length := mkTo_len _ _ _
  dsimp only
  refine .seq <| .seq <| .rs fun k4 => .mv rfl <| .mv rfl <| .g (fun _ τ => ⟨_, .len (.no rfl) rfl (z := ((mkTo (mEnt k) a j).length : Int)) t49 rfl rfl rfl (.ref _ _ _ _ _ rfl) (map_len _ _) rfl τ⟩) <| .bi rfl <| .z ?_
  refine .cond (t := decide ((j : Int) < ((mkTo (mEnt k) a j).length : Int))) rfl (fun c0 => ?_) (fun c0 => ?_)
  ·have c0 := of_decide_eq_true c0
   refine .skip <| .seq <| .block <| .seq <| .rs fun k5 => .mv rfl <| .mv rfl <| .mv rfl <| .g (fun _ τ => ⟨_, .indexAddr (.no rfl) rfl (j) t49 rfl t115 rfl rfl rfl (.ref _ _ _ _ _ rfl) rfl rfl rfl (map_get (by first | omega | (rw [List.length_set]; omega))) rfl rfl τ⟩) ?_
   refine .g (fun _ τ => ⟨_, .fieldAddr (.no rfl) rfl t115 rfl rfl t2 rfl rfl rfl rfl [] (by simp) (by intro _ _ _ h; cases h) rfl rfl τ⟩) <| .g (fun _ τ => ⟨_, .storeE (.no rfl) rfl (els' := List.map Entry.c ((mkTo (mEnt k) a j).set j (Entry.mk (k + 2 * (j : Int)) (((mkTo (mEnt k) a j).getD (j) default).pick)))) t2 rfl rfl rfl rfl (map_get (by first | omega | (rw [List.length_set]; omega))) rfl rfl (.cons _ _ _ _ _ _ (.d _) .nil) rfl (Nat.le_of_ble_eq_true rfl) (set_map _ _ _ (Entry.mk (k + 2 * (j : Int)) (((mkTo (mEnt k) a j).getD (j) default).pick)) _ rfl) rfl rfl τ⟩) <| .z <| .seq <| .rs fun k6 => .mv rfl <| .bi rfl <| .as rfl <| .z ?_
   refine .seq <| .rs fun k7 => .mv rfl <| .mv rfl <| .mv rfl <| .g (fun _ τ => ⟨_, .indexAddr (.no rfl) rfl (j) t49 rfl t115 rfl rfl rfl (.ref _ _ _ _ _ rfl) rfl rfl rfl (map_get (by first | omega | (rw [List.length_set]; omega))) rfl rfl τ⟩) <| .g (fun _ τ => ⟨_, .fieldAddr (.no rfl) rfl t115 rfl rfl t2 rfl rfl rfl rfl [] (by simp) (by intro _ _ _ h; cases h) rfl rfl τ⟩) ?_
   refine .g (fun _ τ => ⟨_, .storeE (.no rfl) rfl (els' := List.map Entry.c (((mkTo (mEnt k) a j).set j (Entry.mk (k + 2 * (j : Int)) (((mkTo (mEnt k) a j).getD (j) default).pick))).set j (Entry.mk ((((mkTo (mEnt k) a j).set j (Entry.mk (k + 2 * (j : Int)) (((mkTo (mEnt k) a j).getD (j) default).pick))).getD (j) default).line) (IntKind.wrap .i64 ((k + 2 * (j : Int)) + 1))))) t2 rfl rfl rfl rfl (map_get (by first | omega | (rw [List.length_set]; omega))) rfl rfl (.cons _ _ _ _ _ _ (.d _) .nil) rfl (Nat.le_of_ble_eq_true rfl) (set_map _ _ _ (Entry.mk ((((mkTo (mEnt k) a j).set j (Entry.mk (k + 2 * (j : Int)) (((mkTo (mEnt k) a j).getD (j) default).pick))).getD (j) default).line) (IntKind.wrap .i64 ((k + 2 * (j : Int)) + 1))) _ rfl) rfl rfl τ⟩) <| .z <| .rs fun k8 => .mv rfl <| .bi rfl <| .as rfl <| .z <| .rs fun k9 => .mv rfl ?_
   refine .bi rfl <| .as rfl <| .z ?_
   exact .here ((j + 1), (k7 + 1 + 1 + 1 + 1 + 1)) (.of (.cons rfl (.cons (svI (show (IntKind.wrap .i64 ((IntKind.wrap .i64 ((k + 2 * (j : Int)) + 1)) + 1)) = (k + 2 * ((j + 1) : Int)) by first | omega | exact wrap_le (by omega) (by omega) | (rw [wrap_le (by omega) (by omega)]; omega) | (rw [wrap_le (a := k + 2 * (j : Int) + 1) (by omega) (by omega), wrap_le (by omega) (by omega)]; omega))) (.cons (svI (show (IntKind.wrap .i64 ((j : Int) + 1)) = (((j + 1) : Int)) by first | omega | exact wrap_le (by omega) (by omega) | (rw [wrap_le (by omega) (by omega)]; omega) | (rw [wrap_le (a := k + 2 * (j : Int) + 1) (by omega) (by omega), wrap_le (by omega) (by omega)]; omega))) .nil))) (.cons (rowE (show List.map Entry.c (((mkTo (mEnt k) a j).set j (Entry.mk (k + 2 * (j : Int)) (((mkTo (mEnt k) a j).getD (j) default).pick))).set j (Entry.mk ((((mkTo (mEnt k) a j).set j (Entry.mk (k + 2 * (j : Int)) (((mkTo (mEnt k) a j).getD (j) default).pick))).getD (j) default).line) (IntKind.wrap .i64 ((k + 2 * (j : Int)) + 1)))) = List.map Entry.c (mkTo (mEnt k) a (j + 1)) by first | (rw [← mkTo_zero]) | (rw [List.set_set, set_getD (by rw [mkTo_len]; omega), mkTo_step _ _ (by omega) (by simp only [mEnt]; rw [wrap_le (a := k + 2 * (j : Int) + 1) (by omega) (by omega)])]))) .nil)) ⟨(show (j + 1) ≤ a.length by omega), (show a.length - (j + 1) < a.length - j by omega)⟩
  ·have c0 := of_decide_eq_false c0
   refine .exit <| .seq <| .rs fun k10 => .mv rfl <| .as rfl <| .z <| .ret ?_
   have e12 : (mkTo (mEnt k) a j) = (mkAll (mEnt k) a) := by first | omega | exact mkTo_all _ _ hI (by omega)
   exact fin1 (.inr rfl) [] [([0, 0, 0], (0, q3, .row 115 2 (List.map Entry.c (mkAll (mEnt k) a))))] (.one (svI (show (k + 2 * (j : Int)) = (k + 2 * (a.length : Int)) by first | omega | exact mkTo_all _ _ hI (by omega))) .nil) (.dd (.cons (.ref (.head _)) .nil)) rfl rfl (.cons (rowE (congrArg (List.map Entry.c) e12)) .nil)
theorem c_heldEntryS (a : List Entry) (k : Int) (hk : 0 ≤ k ∧ k + 2 * (a.length : Int) < 4611686018427387904) (hm : ∀ i, i < a.length → a.getD i default = mEnt k i default) : Trip Tryz.prog 57 [(false, 1), (false, 1)] ([.sl false 115 2 (List.map Entry.c (a))] ++ [.v (.int .i64 (k))]) [(false, 1)] [.v (.int .i64 (k + 2 * (a.length : Int)))] [] := by
 refine Trip.of Tryz.func57 (by decide) (c := _) rfl rfl (Nat.le_of_ble_eq_true rfl) rfl (AftOk.nil _) <| .sl (t := 0) rfl fun hs1l => .seq <| .rs fun k2 => .as rfl <| .z <| .seq <| .seq <| .rs fun k3 => ?_
 refine .as rfl <| .z <| .block ?_
 refine .loop (X := Nat) (fun ζ => .of [(0, .one (.d (.sl false 115 2 (List.map Entry.c (a))))), (1, .one (.d (.v (.int .i64 (k + 2 * (ζ : Int)))))), (5, .one (.d (.v (.int .i64 ((ζ : Int))))))] []) (fun ζ => ζ ≤ a.length) (fun ζ => a.length - ζ) ?_ ?_
 ·skip
  exact .here 0 (.of (.cons rfl (.cons (svI (show (k) = (k + 2 * (0 : Int)) by first | omega | exact wrap_le (by omega) (by omega) | (rw [wrap_le (by omega) (by omega)]; omega) | (rw [wrap_le (a := k + 2 * (j : Int) + 1) (by omega) (by omega), wrap_le (by omega) (by omega)]; omega))) (.cons (svI (show (0) = ((0 : Int)) by first | omega | exact wrap_le (by omega) (by omega) | (rw [wrap_le (by omega) (by omega)]; omega) | (rw [wrap_le (a := k + 2 * (j : Int) + 1) (by omega) (by omega), wrap_le (by omega) (by omega)]; omega))) .nil))) .nil) (show 0 ≤ a.length by omega)
 ·rintro j hI
  have hI : j ≤ a.length := hI
  refine .seq <| .seq <| .rs fun k4 => .mv rfl <| .mv rfl <| .g (fun _ τ => ⟨_, .len (.no rfl) rfl (z := (a.length : Int)) t49 rfl rfl rfl (.d _ _) (map_len _ _) rfl τ⟩) <| .bi rfl <| .z ?_
  refine .cond (t := decide ((j : Int) < (a.length : Int))) rfl (fun c0 => ?_) (fun c0 => ?_)
  ·have c0 := of_decide_eq_true c0
   refine .skip <| .seq <| .block <| .seq <| .seq <| .rs fun k5 => .mv rfl <| .mv rfl <| .g (fun _ τ => ⟨_, .indexAddr (.no rfl) rfl (j) t49 rfl t115 rfl rfl rfl (.d _ _) rfl rfl rfl (map_get (by omega)) rfl rfl τ⟩) ?_
   refine .g (fun _ τ => ⟨_, .fieldAddr (.no rfl) rfl t115 rfl rfl t2 rfl rfl rfl rfl [] (by simp) (by intro _ _ _ h; cases h) rfl rfl τ⟩) <| .ld t2 rfl (.d _) rfl <| .mv rfl <| .bi rfl <| .z ?_
   refine .cond (t := ((a.getD j default).line) != (k + 2 * (j : Int))) rfl (fun c1 => ?_) (fun c1 => ?_)
   ·have c1 := (by simpa using c1 : ¬ (((a.getD j default).line) = (k + 2 * (j : Int))))
    refine .seq <| .rs fun k6 => .as rfl <| .z <| .ret ?_
    exact fin0 (.inr rfl) (.one (svI (show (-1) = (k + 2 * (a.length : Int)) by (have h9 := hm j (by omega); rw [h9] at c1; simp [mEnt] at c1))) .nil) (.dd .nil) rfl
   ·have c1 := (by simpa using c1 : ((a.getD j default).line) = (k + 2 * (j : Int)))
    refine .skip <| .seq <| .rs fun k8 => .mv rfl <| .bi rfl <| .as rfl <| .z <| .seq <| .seq ?_
    refine .rs fun k9 => .mv rfl <| .mv rfl <| .g (fun _ τ => ⟨_, .indexAddr (.no rfl) rfl (j) t49 rfl t115 rfl rfl rfl (.d _ _) rfl rfl rfl (map_get (by omega)) rfl rfl τ⟩) <| .g (fun _ τ => ⟨_, .fieldAddr (.no rfl) rfl t115 rfl rfl t2 rfl rfl rfl rfl [] (by simp) (by intro _ _ _ h; cases h) rfl rfl τ⟩) <| .ld t2 rfl (.d _) rfl <| .mv rfl <| .bi rfl <| .z ?_
    refine .cond (t := ((a.getD j default).pick) != (IntKind.wrap .i64 ((k + 2 * (j : Int)) + 1))) rfl (fun c2 => ?_) (fun c2 => ?_)
    ·have c2 := (by simpa using c2 : ¬ (((a.getD j default).pick) = (IntKind.wrap .i64 ((k + 2 * (j : Int)) + 1))))
     refine .seq <| .rs fun k10 => .as rfl <| .z <| .ret ?_
     exact fin0 (.inr rfl) (.one (svI (show (-1) = (k + 2 * (a.length : Int)) by (have h9 := hm j (by omega); rw [wrap_le (by omega) (by omega)] at c2; rw [h9] at c2; simp [mEnt] at c2))) .nil) (.dd .nil) rfl
    ·have c2 := (by simpa using c2 : ((a.getD j default).pick) = (IntKind.wrap .i64 ((k + 2 * (j : Int)) + 1)))
     refine .skip <| .rs fun k12 => .mv rfl <| .bi rfl <| .as rfl <| .z <| .rs fun k13 => .mv rfl <| .bi rfl ?_
     refine .as rfl <| .z ?_
     exact .here (j + 1) (.of (.cons rfl (.cons (svI (show (IntKind.wrap .i64 ((IntKind.wrap .i64 ((k + 2 * (j : Int)) + 1)) + 1)) = (k + 2 * ((j + 1) : Int)) by first | omega | exact wrap_le (by omega) (by omega) | (rw [wrap_le (by omega) (by omega)]; omega) | (rw [wrap_le (a := k + 2 * (j : Int) + 1) (by omega) (by omega), wrap_le (by omega) (by omega)]; omega))) (.cons (svI (show (IntKind.wrap .i64 ((j : Int) + 1)) = (((j + 1) : Int)) by first | omega | exact wrap_le (by omega) (by omega) | (rw [wrap_le (by omega) (by omega)]; omega) | (rw [wrap_le (a := k + 2 * (j : Int) + 1) (by omega) (by omega), wrap_le (by omega) (by omega)]; omega))) .nil))) .nil) ⟨(show (j + 1) ≤ a.length by omega), (show a.length - (j + 1) < a.length - j by omega)⟩
  ·have c0 := of_decide_eq_false c0
   refine .exit <| .seq <| .rs fun k14 => .mv rfl <| .as rfl <| .z <| .ret ?_
   exact fin0 (.inr rfl) (.one (svI (show (k + 2 * (j : Int)) = (k + 2 * (a.length : Int)) by omega)) .nil) (.dd .nil) rfl
theorem c_markPartS (a : List Part) (k : Int) (hk : 0 ≤ k ∧ k ≤ 562949953421312) (hx : SmallP a) (hw : marksL Part.wt 0 a ≤ 17592186044416) : Trip Tryz.prog 16 [(false, 1), (false, 1)] ([.sl true 62 2 (List.map Part.co62 (a))] ++ [.v (.int .i64 (k))]) [(false, 1)] [.v (.int .i64 (PartS.marks k a))] [(0, .sl true 62 2 (List.map Part.co62 (PartS.mark k a)))] := by
 refine Trip.of Tryz.func16 (by decide) (c := _) rfl rfl (Nat.le_of_ble_eq_true rfl) rfl (AftOk.sl rfl (AftOk.nil _)) <| .seq <| .rs fun k1 => .as rfl <| .z <| .seq <| .seq <| .rs fun k2 => .as rfl ?_
 refine .z <| .block ?_
 refine .loop (X := Nat × Nat) (fun ζ => .of [(0, .one (.ref [0, 0, 0] (0))), (1, .one (.d (.v (.int .i64 (atL Part.wt k a ζ.1))))), (5, .one (.d (.v (.int .i64 ((ζ.1 : Int))))))] [([0, 0, 0], (0, ζ.2, .row 62 2 (List.map Part.co62 (mkTo (mkL Part.wt Part.markT k a) a ζ.1))))]) (fun ζ => ζ.1 ≤ a.length) (fun ζ => a.length - ζ.1) ?_ ?_
 ·skip
  exact .here (0, 0) (.of (.cons rfl (.cons (svI (show (k) = (atL Part.wt k a 0) by first | rfl | omega | exact (atL_zero _ k a).symm | exact (PartS.round (by omega) rfl rfl hrw1 rfl hrw2).2 | exact wrap_le (by omega) (by omega))) (.cons (svI (show (0) = ((0 : Int)) by first | rfl | omega | exact (atL_zero _ k a).symm | exact (PartS.round (by omega) rfl rfl hrw1 rfl hrw2).2 | exact wrap_le (by omega) (by omega))) .nil))) (.cons (rowE (show List.map Part.co62 (a) = List.map Part.co62 (mkTo (mkL Part.wt Part.markT k a) a 0) by first | (rw [← mkTo_zero]) | exact congrArg _ (PartS.round (by omega) rfl rfl hrw1 rfl hrw2).1)) .nil)) (show 0 ≤ a.length by omega)
 ·rintro ⟨j, q3⟩ hI
  have hI : j ≤ a.length := hI
  have hA9 : a.length ≤ 1048576 := hx.1
  have hb9 := PartS.bnd (k := k) hx hw (j := j) (by omega)
  have hE9 : j < a.length → 2 * ((a.getD j default).token.length : Int) ≤ 17592186044416 ∧ Small 1048576 (a.getD j default).table := fun h => ⟨by have := PartS.step (k := k) hx hw h; omega, (hx.2 _ (getD_mem h)).2⟩
  have hL : (mkTo (mkL Part.wt Part.markT k a) a j).length = a.length := mkTo_len _ _ _
  dsimp only
  refine .seq <| .seq <| .rs fun k4 => .mv rfl <| .mv rfl <| .g (fun _ τ => ⟨_, .len (.no rfl) rfl (z := ((mkTo (mkL Part.wt Part.markT k a) a j).length : Int)) t29 rfl rfl rfl (.ref _ _ _ _ _ rfl) (map_len _ _) rfl τ⟩) <| .bi rfl <| .z ?_
  refine .cond (t := decide ((j : Int) < ((mkTo (mkL Part.wt Part.markT k a) a j).length : Int))) rfl (fun c0 => ?_) (fun c0 => ?_)
  ·have c0 := of_decide_eq_true c0
   refine .skip <| .seq <| .block <| .seq <| .rs fun k5 => .mv rfl <| .mv rfl <| .g (fun _ τ => ⟨_, .indexAddr (.no rfl) rfl (j) t29 rfl t62 rfl rfl rfl (.ref _ _ _ _ _ rfl) rfl rfl rfl (map_get (by first | omega | (subst_vars; simp only [List.length_set, mkTo_len]; omega))) rfl rfl τ⟩) <| .g (fun _ τ => ⟨_, .fieldAddr (.no rfl) rfl t62 rfl rfl t49 rfl rfl rfl rfl [] (by simp) (by intro _ _ _ h; cases h) rfl rfl τ⟩) ?_
   refine .ld t49 rfl (At.as (cs' := [.part [0, 0, 0] (0) (q3) (j) 0, .part [0, 0, 0] (0) (q3) (j) 1]) (.lent _ _ _ _ _ _ _ _ _ rfl (map_get (by first | omega | (subst_vars; simp only [List.length_set, mkTo_len]; omega)))) (by simp [Part.co62, D.lent, erase_slo _ _ _ _ _ _ Entry.c_e, erase_slo _ _ _ _ _ _ Env.co98_e])) rfl <| .mv rfl ?_
   obtain ⟨rw1, hrw1⟩ : ∃ x, x = (mkTo (mkL Part.wt Part.markT k a) a j).set j (Part.mk (mkAll (mEnt (atL Part.wt k a j)) (((mkTo (mkL Part.wt Part.markT k a) a j).getD (j) default).token)) (((mkTo (mkL Part.wt Part.markT k a) a j).getD (j) default).table)) := ⟨_, rfl⟩
   refine .g (fun _ τ => ⟨_, .lend (.no rfl) rfl (els' := List.map Part.co62 (rw1)) (c_markEntryS (((mkTo (mkL Part.wt Part.markT k a) a j).getD (j) default).token) (atL Part.wt k a j) (by (have hj8 : j < a.length := (by omega); have hE8 := hE9 hj8; have hl9 : j < (mkTo (mkL Part.wt Part.markT k a) a j).length := (by rw [mkTo_len]; omega); have hg9 := mkL_get (wt := Part.wt) (mk := Part.markT) (k := k) hj8; subst_vars; simp only [set_getD, List.length_set, hl9, hg9, mkAll_len]; first | omega | exact hE8.2))) rfl rfl rfl rfl (map_get (by first | omega | (subst_vars; simp only [List.length_set, mkTo_len]; omega))) rfl (Owned.map _ _ _ _ Entry.c_o) (by intro d hd; simp at hd; subst hd; exact ⟨_, rfl⟩) rfl rfl ((set_map _ _ _ (Part.mk (mkAll (mEnt (atL Part.wt k a j)) (((mkTo (mkL Part.wt Part.markT k a) a j).getD (j) default).token)) (((mkTo (mkL Part.wt Part.markT k a) a j).getD (j) default).table)) _ rfl).trans (congrArg _ hrw1.symm)) rfl rfl τ⟩) ?_
   refine .as rfl <| .z <| .rs fun k6 => .mv rfl <| .mv rfl <| .g (fun _ τ => ⟨_, .indexAddr (.no rfl) rfl (j) t29 rfl t62 rfl rfl rfl (.ref _ _ _ _ _ rfl) rfl rfl rfl (map_get (by first | omega | (subst_vars; simp only [List.length_set, mkTo_len]; omega))) rfl rfl τ⟩) <| .g (fun _ τ => ⟨_, .fieldAddr (.no rfl) rfl t62 rfl rfl t60 rfl rfl rfl rfl [] (by simp) (by intro _ _ _ h; cases h) rfl rfl τ⟩) <| .ld t60 rfl (At.as (cs' := [.part [0, 0, 0] (0) (k5 + 1 + 1 + 1 + 1 + 1 + 1) (j) 1]) (.lent _ _ _ _ _ _ _ _ _ rfl (map_get (by first | omega | (subst_vars; simp only [List.length_set, mkTo_len]; omega)))) (by simp [Part.co62, D.lent, erase_slo _ _ _ _ _ _ Entry.c_e, erase_slo _ _ _ _ _ _ Env.co98_e])) rfl <| .mv rfl ?_
   obtain ⟨rw2, hrw2⟩ : ∃ x, x = rw1.set j (Part.mk ((rw1.getD j default).token) (EnvS.mark ((atL Part.wt k a j) + 2 * ((((mkTo (mkL Part.wt Part.markT k a) a j).getD (j) default).token).length : Int)) ((rw1.getD j default).table))) := ⟨_, rfl⟩
   refine .g (fun _ τ => ⟨_, .lend (.no rfl) rfl (els' := List.map Part.co62 (rw2)) (c_markEnvS ((rw1.getD j default).table) ((atL Part.wt k a j) + 2 * ((((mkTo (mkL Part.wt Part.markT k a) a j).getD (j) default).token).length : Int)) (by (have hj8 : j < a.length := (by omega); have hE8 := hE9 hj8; have hl9 : j < (mkTo (mkL Part.wt Part.markT k a) a j).length := (by rw [mkTo_len]; omega); have hg9 := mkL_get (wt := Part.wt) (mk := Part.markT) (k := k) hj8; subst_vars; simp only [set_getD, List.length_set, hl9, hg9, mkAll_len]; first | omega | exact hE8.2)) (by (have hj8 : j < a.length := (by omega); have hE8 := hE9 hj8; have hl9 : j < (mkTo (mkL Part.wt Part.markT k a) a j).length := (by rw [mkTo_len]; omega); have hg9 := mkL_get (wt := Part.wt) (mk := Part.markT) (k := k) hj8; subst_vars; simp only [set_getD, List.length_set, hl9, hg9, mkAll_len]; first | omega | exact hE8.2))) rfl rfl rfl rfl (map_get (by first | omega | (subst_vars; simp only [List.length_set, mkTo_len]; omega))) rfl (Owned.map _ _ _ _ Env.co98_o) (by intro d hd; simp at hd; subst hd; exact ⟨_, rfl⟩) rfl rfl ((set_map _ _ _ (Part.mk ((rw1.getD j default).token) (EnvS.mark ((atL Part.wt k a j) + 2 * ((((mkTo (mkL Part.wt Part.markT k a) a j).getD (j) default).token).length : Int)) ((rw1.getD j default).table))) _ rfl).trans (congrArg _ hrw2.symm)) rfl rfl τ⟩) ?_
   refine .as rfl <| .z <| .rs fun k7 => .mv rfl <| .bi rfl <| .as rfl <| .z ?_
   exact .here ((j + 1), (k6 + 1 + 1 + 1 + 1 + 1 + 1)) (.of (.cons rfl (.cons (svI (show (EnvS.marks ((atL Part.wt k a j) + 2 * ((((mkTo (mkL Part.wt Part.markT k a) a j).getD (j) default).token).length : Int)) ((rw1.getD j default).table)) = (atL Part.wt k a (j + 1)) by first | rfl | omega | exact (atL_zero _ k a).symm | exact (PartS.round (by omega) rfl rfl hrw1 rfl hrw2).2 | exact wrap_le (by omega) (by omega))) (.cons (svI (show (IntKind.wrap .i64 ((j : Int) + 1)) = (((j + 1) : Int)) by first | rfl | omega | exact (atL_zero _ k a).symm | exact (PartS.round (by omega) rfl rfl hrw1 rfl hrw2).2 | exact wrap_le (by omega) (by omega))) .nil))) (.cons (rowE (show List.map Part.co62 (rw2) = List.map Part.co62 (mkTo (mkL Part.wt Part.markT k a) a (j + 1)) by first | (rw [← mkTo_zero]) | exact congrArg _ (PartS.round (by omega) rfl rfl hrw1 rfl hrw2).1)) .nil)) ⟨(show (j + 1) ≤ a.length by omega), (show a.length - (j + 1) < a.length - j by omega)⟩
  ·have c0 := of_decide_eq_false c0
   refine .exit <| .seq <| .rs fun k8 => .mv rfl <| .as rfl <| .z <| .ret ?_
   have e10 : (mkTo (mkL Part.wt Part.markT k a) a j) = (PartS.mark k a) := by first | exact atL_all (by omega) | exact mkTo_all _ _ hI (by omega)
   exact fin1 (.inr rfl) [] [([0, 0, 0], (0, q3, .row 62 2 (List.map Part.co62 (PartS.mark k a))))] (.one (svI (show (atL Part.wt k a j) = (PartS.marks k a) by first | exact atL_all (by omega) | exact mkTo_all _ _ hI (by omega))) .nil) (.dd (.cons (.ref (.head _)) .nil)) rfl rfl (.cons (rowE (congrArg (List.map Part.co62) e10)) .nil)
theorem c_heldPartS (a : List Part) (k : Int) (hk : 0 ≤ k ∧ k ≤ 562949953421312) (hx : SmallP a) (hw : marksL Part.wt 0 a ≤ 17592186044416) (hm : MarkedL Part.wt Part.markT k a) : Trip Tryz.prog 17 [(false, 1), (false, 1)] ([.sl false 62 2 (List.map Part.c62 (a))] ++ [.v (.int .i64 (k))]) [(false, 1)] [.v (.int .i64 (PartS.marks k a))] [] := by
 refine Trip.of Tryz.func17 (by decide) (c := _) rfl rfl (Nat.le_of_ble_eq_true rfl) rfl (AftOk.nil _) <| .sl (t := 0) rfl fun hs1l => .seq <| .rs fun k2 => .as rfl <| .z <| .seq <| .seq <| .rs fun k3 => ?_
 refine .as rfl <| .z <| .block ?_
 refine .loop (X := Nat) (fun ζ => .of [(0, .one (.d (.sl false 62 2 (List.map Part.c62 (a))))), (1, .one (.d (.v (.int .i64 (atL Part.wt k a ζ))))), (5, .one (.d (.v (.int .i64 ((ζ : Int))))))] []) (fun ζ => ζ ≤ a.length) (fun ζ => a.length - ζ) ?_ ?_
 ·skip
  exact .here 0 (.of (.cons rfl (.cons (svI (show (k) = (atL Part.wt k a 0) by first | rfl | omega | exact (atL_zero _ k a).symm | (rw [atL_step (by omega), EnvS.marks_add]; unfold Part.wt; omega) | exact wrap_le (by omega) (by omega))) (.cons (svI (show (0) = ((0 : Int)) by first | rfl | omega | exact (atL_zero _ k a).symm | (rw [atL_step (by omega), EnvS.marks_add]; unfold Part.wt; omega) | exact wrap_le (by omega) (by omega))) .nil))) .nil) (show 0 ≤ a.length by omega)
 ·rintro j hI
  have hI : j ≤ a.length := hI
  have hA9 : a.length ≤ 1048576 := hx.1
  have hb9 := PartS.bnd (k := k) hx hw (j := j) (by omega)
  have hE9 : j < a.length → 2 * ((a.getD j default).token.length : Int) ≤ 17592186044416 ∧ Small 1048576 (a.getD j default).table := fun h => ⟨by have := PartS.step (k := k) hx hw h; omega, (hx.2 _ (getD_mem h)).2⟩
  refine .seq <| .seq <| .rs fun k4 => .mv rfl <| .mv rfl <| .g (fun _ τ => ⟨_, .len (.no rfl) rfl (z := (a.length : Int)) t29 rfl rfl rfl (.d _ _) (map_len _ _) rfl τ⟩) <| .bi rfl <| .z ?_
  refine .cond (t := decide ((j : Int) < (a.length : Int))) rfl (fun c0 => ?_) (fun c0 => ?_)
  ·have c0 := of_decide_eq_true c0
   refine .skip <| .seq <| .block <| .seq <| .rs fun k5 => .mv rfl <| .mv rfl <| .g (fun _ τ => ⟨_, .indexAddr (.no rfl) rfl (j) t29 rfl t62 rfl rfl rfl (.d _ _) rfl rfl rfl (map_get (by omega)) rfl rfl τ⟩) <| .g (fun _ τ => ⟨_, .fieldAddr (.no rfl) rfl t62 rfl rfl t49 rfl rfl rfl rfl [] (by simp) (by intro _ _ _ h; cases h) rfl rfl τ⟩) ?_
   refine .ld t49 rfl (.d _) rfl <| .mv rfl <| .c0 (c_heldEntryS ((a.getD j default).token) (atL Part.wt k a j) (by first | exact Part.heldT (hm j (by omega)) | exact Part.heldE (hm j (by omega)) | exact (hE9 (by omega)).2 | (have hE8 := hE9 (by omega); omega)) (by first | exact Part.heldT (hm j (by omega)) | exact Part.heldE (hm j (by omega)) | exact (hE9 (by omega)).2 | (have hE8 := hE9 (by omega); omega))) rfl (.dd (.dd .nil)) (.own [18, 0] .nil) rfl <| .as rfl <| .z <| .seq <| .seq <| .rs fun k6 => .mv rfl ?_
   refine .bi rfl <| .z ?_
   refine .cond (t := decide (((atL Part.wt k a j) + 2 * (((a.getD j default).token).length : Int)) < 0)) rfl (fun c1 => ?_) (fun c1 => ?_)
   ·have c1 := of_decide_eq_true c1
    refine .seq <| .rs fun k7 => .as rfl <| .z <| .ret ?_
    exact fin0 (.inr rfl) (.one (svI (show (-1) = (PartS.marks k a) by (have hE8 := hE9 (by omega); omega))) .nil) (.dd .nil) rfl
   ·have c1 := of_decide_eq_false c1
    refine .skip <| .seq <| .rs fun k9 => .mv rfl <| .mv rfl <| .g (fun _ τ => ⟨_, .indexAddr (.no rfl) rfl (j) t29 rfl t62 rfl rfl rfl (.d _ _) rfl rfl rfl (map_get (by omega)) rfl rfl τ⟩) <| .g (fun _ τ => ⟨_, .fieldAddr (.no rfl) rfl t62 rfl rfl t60 rfl rfl rfl rfl [] (by simp) (by intro _ _ _ h; cases h) rfl rfl τ⟩) <| .ld t60 rfl (.d _) rfl <| .mv rfl ?_
    refine .c0 (c_heldEnvS ((a.getD j default).table) ((atL Part.wt k a j) + 2 * (((a.getD j default).token).length : Int)) (by first | exact Part.heldT (hm j (by omega)) | exact Part.heldE (hm j (by omega)) | exact (hE9 (by omega)).2 | (have hE8 := hE9 (by omega); omega)) (by first | exact Part.heldT (hm j (by omega)) | exact Part.heldE (hm j (by omega)) | exact (hE9 (by omega)).2 | (have hE8 := hE9 (by omega); omega)) (by first | exact Part.heldT (hm j (by omega)) | exact Part.heldE (hm j (by omega)) | exact (hE9 (by omega)).2 | (have hE8 := hE9 (by omega); omega))) rfl (.dd (.dd .nil)) (.own [27, 0] .nil) rfl <| .as rfl <| .z <| .seq <| .rs fun k10 => .mv rfl <| .bi rfl <| .z ?_
    refine .cond (t := decide ((EnvS.marks ((atL Part.wt k a j) + 2 * (((a.getD j default).token).length : Int)) ((a.getD j default).table)) < 0)) rfl (fun c2 => ?_) (fun c2 => ?_)
    ·have c2 := of_decide_eq_true c2
     refine .seq <| .rs fun k11 => .as rfl <| .z <| .ret ?_
     exact fin0 (.inr rfl) (.one (svI (show (-1) = (PartS.marks k a) by (rw [EnvS.marks_add] at c2; have hE8 := EnvS.marks_bnd (k := 0) (hE9 (by omega)).2 (by omega); omega))) .nil) (.dd .nil) rfl
    ·have c2 := of_decide_eq_false c2
     refine .skip <| .rs fun k13 => .mv rfl <| .bi rfl <| .as rfl <| .z ?_
     exact .here (j + 1) (.of (.cons rfl (.cons (svI (show (EnvS.marks ((atL Part.wt k a j) + 2 * (((a.getD j default).token).length : Int)) ((a.getD j default).table)) = (atL Part.wt k a (j + 1)) by first | rfl | omega | exact (atL_zero _ k a).symm | (rw [atL_step (by omega), EnvS.marks_add]; unfold Part.wt; omega) | exact wrap_le (by omega) (by omega))) (.cons (svI (show (IntKind.wrap .i64 ((j : Int) + 1)) = (((j + 1) : Int)) by first | rfl | omega | exact (atL_zero _ k a).symm | (rw [atL_step (by omega), EnvS.marks_add]; unfold Part.wt; omega) | exact wrap_le (by omega) (by omega))) .nil))) .nil) ⟨(show (j + 1) ≤ a.length by omega), (show a.length - (j + 1) < a.length - j by omega)⟩
  ·have c0 := of_decide_eq_false c0
   refine .exit <| .seq <| .rs fun k14 => .mv rfl <| .as rfl <| .z <| .ret ?_
   exact fin0 (.inr rfl) (.one (svI (show (atL Part.wt k a j) = (PartS.marks k a) by exact atL_all (by omega))) .nil) (.dd .nil) rfl
end Go.Proofs

namespace Go.Proofs
open Go Go.Proofs Go.Ev

theorem c_CloneY (l : List Entry) (hb : l.length ≤ 2097152) : Trip Tryz.prog 148 [(false, 1)] ([.sl false 115 2 (List.map Entry.c (l))]) [(false, 1)] [.sl true 115 2 (List.map Entry.c (l))] [] := by
 refine Trip.of Tryz.func148 (by decide) (c := _) rfl rfl (Nat.le_of_ble_eq_true rfl) rfl (AftOk.nil _) <| .sl (t := 0) rfl fun hs1l => .seq <| .rs fun k2 => .as rfl <| .z <| .seq <| .seq ?_
 refine .nilEq t49 rfl rfl rfl rfl rfl rfl rfl rfl rfl rfl rfl (fun b3 hb3 => ?_)
 refine .cond (t := b3) rfl (fun c0 => ?_) (fun c0 => ?_)
 ·have c0 := c0
  refine .seq <| .rs fun k4 => .as rfl <| .z <| .ret ?_
  exact fin0 (.inr rfl) (.one rfl .nil) (.cons (Gives.nil' (by first | rfl | simp_all)) .nil) rfl
 ·have c0 := c0
  refine .skip <| .seq <| .rs fun k5 => .g (fun _ τ => ⟨_, .buildSlice (.no rfl) rfl (els := []) t49 rfl z115 rfl rfl rfl rfl rfl rfl rfl rfl (by simp [i115]) .nil rfl rfl rfl τ⟩) <| .mv rfl <| .g (fun _ τ => ⟨_, .append (.no rfl) rfl (l3 := List.map Entry.c (l)) t49 rfl z115 rfl rfl rfl rfl rfl rfl rfl rfl (.ref _ _ _ _ rfl) (.ro _ _) rfl (by simp [i115]; omega) (List.nil_append _) rfl rfl τ⟩) <| .as rfl <| .z <| .ret ?_
  exact fin1 (.inr rfl) [] [([5], (k5 + 1 + 1, k5 + 1 + 1, .row 115 2 (List.map Entry.c (l))))] (.one rfl .nil) (.cons (.ref (.head _)) .nil) rfl rfl (.r rfl)
theorem c_pown (p : Part) (hb : Part.small p) : Trip Tryz.prog 99 [(true, 2)] (Part.c62 p) [(true, 2)] [.sl true 115 2 (List.map Entry.c (p.token)), .sl true 98 3 (List.map Env.co98 (p.table))] [] := by
 refine Trip.of Tryz.func99 (by decide) (c := _) rfl rfl (Nat.le_of_ble_eq_true rfl) rfl (AftOk.nil _) <| .sla (t := 0) 0 rfl rfl fun hs1l => .sla (t := 0) 1 rfl rfl fun hs2l => .seq <| .rs fun k3 => .g (fun _ τ => ⟨_, .box (.no rfl) rfl rfl rfl rfl rfl τ⟩) <| .g (fun _ τ => ⟨_, .alloc (.no rfl) rfl z62 rfl rfl rfl τ⟩) <| .z <| .seq ?_
 refine .rs fun k4 => .fp t62 t49 rfl <| .ld t49 rfl (.ptr _ _ _ _ _ rfl) rfl <| .c0 (c_CloneY p.token (by first | exact Nat.le_trans hb.1 (by decide) | exact hb.2.2 _ (getD_mem (by omega)))) rfl (.dd .nil) (.own [8, 0] .nil) rfl <| .g (fun _ τ => ⟨_, .build (.no rfl) rfl z62 rfl p62 rfl rfl rfl rfl τ⟩) <| .g (fun _ τ => ⟨_, .alloc (.no rfl) rfl z62 rfl rfl rfl τ⟩) <| .g (fun _ τ => ⟨_, .store (.no rfl) rfl t62 rfl rfl rfl rfl rfl rfl rfl rfl rfl τ⟩) <| .z <| .seq ?_
 refine .seq <| .rs fun k5 => .fp t62 t60 rfl <| .ld t60 rfl (.ptr _ _ _ _ _ rfl) rfl <| .g (fun _ τ => ⟨_, .len (.no rfl) rfl (z := (p.table.length : Int)) t60 rfl rfl rfl (.d _ _) (map_len _ _) rfl τ⟩) <| .mv rfl <| .z <| .block ?_
 refine .loop (X := Nat × Nat × Nat × Nat) (fun ζ => .of [(2, .one (.ptr [2] (k3 + 1) 0)), (3, .one (.ptr [3] (k4 + 1 + 1 + 1 + 1) 0)), (11, .one (.d (.sl false 98 3 (List.map Env.c98 (p.table))))), (12, .one (.d (.v (.int .i64 ((p.table.length : Int)))))), (13, .one (.d (.v (.int .i64 ((ζ.1 : Int))))))] [([2], (k3 + 1, k3 + 1, .box [.d (.v (.slice none 0 0)), .d (.v (.slice none 0 0))])), ([3], (k4 + 1 + 1 + 1 + 1, ζ.2.1, .box [.ref [8, 0] (k4 + 1 + 1), .ref [22] (ζ.2.2.2)])), ([8, 0], (k4 + 1 + 1, k4 + 1 + 1, .row 115 2 (List.map Entry.c (p.token)))), ([22], (ζ.2.2.2, ζ.2.2.1, .row 98 3 (List.map Env.co98 (p.table.take ζ.1))))]) (fun ζ => ζ.1 ≤ p.table.length) (fun ζ => p.table.length - ζ.1) ?_ ?_
 ·skip
  refine .nilBox [3] 1 [22] 98 3 rfl rfl (by decide) fun k9 => ?_
  exact .here (0, k9, k9, k9) (.of (.cons rfl (.cons rfl (.cons rfl (.cons rfl (.cons (svI (show (0) = ((0 : Int)) by first | rfl | omega | exact wrap_le (by omega) (by omega) | (rw [wrap_le (by omega) (by omega)]; omega))) .nil))))) (.cons rfl (.cons rfl (.cons rfl (.cons (rowE (show [] = List.map Env.co98 (p.table.take 0) by first | with_reducible rfl | exact congrArg _ (take_step9 (by omega)) | rfl)) .nil))))) (show 0 ≤ p.table.length by omega)
 ·rintro ⟨j, q6, q7, q8⟩ hI
  have hI : j ≤ p.table.length := hI
  have h7 := hb.2.1
  dsimp only
  refine .seq <| .rs fun k10 => .bi rfl <| .z <| .seq ?_
  refine .cond (t := decide ((j : Int) < (p.table.length : Int))) rfl (fun c0 => ?_) (fun c0 => ?_)
  ·have c0 := of_decide_eq_true c0
   refine .skip <| .seq <| .block <| .seq <| .rs fun k11 => .g (fun _ τ => ⟨_, .indexAddr (.no rfl) rfl (j) t60 rfl t98 rfl rfl rfl (.d _ _) rfl rfl rfl (map_get (by omega)) rfl rfl τ⟩) <| .lda t98 rfl (.d _) rfl <| .g (fun _ τ => ⟨_, .alloc (.no rfl) rfl z98 rfl rfl rfl τ⟩) <| .g (fun _ τ => ⟨_, .store (.no rfl) rfl t98 rfl rfl rfl rfl rfl rfl rfl rfl rfl τ⟩) ?_
   refine .z ?_
   refine .regD (X := Nat × Nat) (by kernel_rfl) (fun ζ => .of [(2, .one (.ptr [2] (k3 + 1) 0)), (3, .one (.ptr [3] (k4 + 1 + 1 + 1 + 1) 0)), (11, .one (.d (.sl false 98 3 (List.map Env.c98 (p.table))))), (12, .one (.d (.v (.int .i64 ((p.table.length : Int)))))), (13, .one (.d (.v (.int .i64 ((j : Int))))))] [([2], (k3 + 1, k3 + 1, .box [.d (.v (.slice none 0 0)), .d (.v (.slice none 0 0))])), ([3], (k4 + 1 + 1 + 1 + 1, ζ.1, .box [.ref [8, 0] (k4 + 1 + 1), .ref [22] (ζ.2)])), ([8, 0], (k4 + 1 + 1, k4 + 1 + 1, .row 115 2 (List.map Entry.c (p.token)))), ([22], (ζ.2, ζ.2, .row 98 3 (List.map Env.co98 (p.table.take j ++ [(p.table.getD j default)]))))]) [⟨[3], some 17, [], []⟩, ⟨[17], some 18, [[3]], []⟩, ⟨[5], some 19, [[5]], []⟩, ⟨[19], some 20, [], [[20, 1], [20, 2]]⟩, ⟨[20], some 21, [[20, 1], [20, 2]], [[20, 1], [20, 2], [21]]⟩, ⟨[18, 21], some 22, [[22], [21]], [[21], [22]]⟩, ⟨[3], some 23, [], []⟩, ⟨[23, 22], none, [[3]], [[3]]⟩] (by kernel_rfl) (fun k12 => ?_) ?_
   ·skip
    refine .fieldAddrP (.no rfl) rfl t62 rfl rfl t60 rfl rfl rfl rfl <| .load (.no rfl) rfl t60 rfl rfl (.ptr _ _ _ _ _ rfl) rfl rfl rfl rfl <| .load (.no rfl) rfl t98 rfl rfl (.ptr _ _ _ _ _ rfl) rfl rfl rfl rfl <| .call (.no rfl) rfl [] [] (c_own (p.table.getD j default) (by first | exact Nat.le_trans hb.1 (by decide) | exact hb.2.2 _ (getD_mem (by omega)))) rfl rfl rfl rfl rfl (.dd (.dd (.dd .nil))) rfl rfl (fun h => absurd rfl h) (.own [20, 0] (.own [20, 1] (.own [20, 2] .nil))) (.nil) rfl rfl rfl (by simp) rfl rfl rfl ?_
    refine .buildSlice (.no rfl) rfl (els := [[.v (.bool ((p.table.getD j default).live)), .sl true 119 2 (List.map Iv.c ((p.table.getD j default).ints)), .sl true 119 2 (List.map Iv.c ((p.table.getD j default).arrs))]]) t60 rfl z98 rfl rfl rfl rfl rfl rfl rfl rfl (by simp [i98]) (.cons _ _ _ _ _ _ (.d _) (.cons _ _ _ _ _ _ (.ref _ _ _ _ _ _ rfl) (.cons _ _ _ _ _ _ (.ref _ _ _ _ _ _ rfl) .nil))) rfl rfl rfl <| .append (.no rfl) rfl (l3 := List.map Env.co98 (p.table.take j ++ [(p.table.getD j default)])) t60 rfl z98 rfl rfl rfl rfl rfl rfl rfl rfl (.ref _ _ _ _ rfl) (.take _ _ _ _ _ rfl) rfl (by (have h8 := hb.1; have h9 := hb.2.1; simp [i98, i115]; omega)) (map_snoc _ _ _) rfl rfl <| .fieldAddrP (.no rfl) rfl t62 rfl rfl t60 rfl rfl rfl rfl <| .store (.no rfl) rfl t60 rfl rfl rfl rfl rfl rfl rfl rfl rfl ?_
    exact .fin (k12 + 1 + 1 + 1 + 1 + 1 + 1 + 1, k12 + 1 + 1 + 1 + 1 + 1) (.of (.r rfl) (.r rfl))
   rintro ⟨g13, g14⟩
   refine .rs fun k15 => .bi rfl <| .mv rfl <| .z ?_
   exact .here ((j + 1), g13, g14, g14) (.of (.cons rfl (.cons rfl (.cons rfl (.cons rfl (.cons (svI (show (IntKind.wrap .i64 ((j : Int) + 1)) = (((j + 1) : Int)) by first | rfl | omega | exact wrap_le (by omega) (by omega) | (rw [wrap_le (by omega) (by omega)]; omega))) .nil))))) (.cons rfl (.cons rfl (.cons rfl (.cons (rowE (show List.map Env.co98 (p.table.take j ++ [(p.table.getD j default)]) = List.map Env.co98 (p.table.take (j + 1)) by first | with_reducible rfl | exact congrArg _ (take_step9 (by omega)) | rfl)) .nil))))) ⟨(show (j + 1) ≤ p.table.length by omega), (show p.table.length - (j + 1) < p.table.length - j by omega)⟩
  ·have c0 := of_decide_eq_false c0
   refine .exit <| .seq <| .rs fun k16 => .lda t62 rfl (.ptr _ _ _ _ _ rfl) rfl <| .g (fun _ τ => ⟨_, .store (.no rfl) rfl t62 rfl rfl rfl rfl rfl rfl rfl rfl rfl τ⟩) <| .z <| .ret ?_
   have e17 : (p.table.take j) = (p.table) := by first | rfl | exact List.take_of_length_le (by omega)
   exact fin1 (.inr rfl) [] [([8, 0], (k4 + 1 + 1, k4 + 1 + 1, .row 115 2 (List.map Entry.c (p.token)))), ([22], (q8, q7, .row 98 3 (List.map Env.co98 (p.table))))] (.cell (cells := [.ref [8, 0] (k4 + 1 + 1), .ref [22] (q8)]) rfl rfl t62 rfl rfl .nil) (.cons (.ref (.head _)) (.cons (.ref (.tail _ (.head _))) .nil)) rfl rfl (.cons rfl (.cons (rowE (congrArg (List.map Env.co98) e17)) .nil))
theorem c_l9Copy (p : Part) (hb : Part.small p) : Trip Tryz.prog 91 [(true, 2)] (Part.c62 p) [(true, 2)] [.sl true 115 2 (List.map Entry.c (p.token)), .sl true 98 3 (List.map Env.co98 (p.table))] [] := by
 refine Trip.of Tryz.func91 (by decide) (c := _) rfl rfl (Nat.le_of_ble_eq_true rfl) rfl (AftOk.nil _) <| .sla (t := 0) 0 rfl rfl fun hs1l => .sla (t := 0) 1 rfl rfl fun hs2l => .seq <| .rs fun k3 => .g (fun _ τ => ⟨_, .box (.no rfl) rfl rfl rfl rfl rfl τ⟩) <| .g (fun _ τ => ⟨_, .alloc (.no rfl) rfl z62 rfl rfl rfl τ⟩) <| .z <| .seq ?_
 refine .rs fun k4 => .g (fun _ τ => ⟨_, .buildSlice (.no rfl) rfl (els := []) t49 rfl z115 rfl rfl rfl rfl rfl rfl rfl rfl (by simp [i115]) .nil rfl rfl rfl τ⟩) <| .fp t62 t49 rfl <| .ld t49 rfl (.ptr _ _ _ _ _ rfl) rfl <| .g (fun _ τ => ⟨_, .append (.no rfl) rfl (l3 := List.map Entry.c (p.token)) t49 rfl z115 rfl rfl rfl rfl rfl rfl rfl rfl (.ref _ _ _ _ rfl) (.ro _ _) rfl (by (have h8 := hb.1; have h9 := hb.2.1; simp [i98, i115]; omega)) (List.nil_append _) rfl rfl τ⟩) <| .g (fun _ τ => ⟨_, .build (.no rfl) rfl z62 rfl p62 rfl rfl rfl rfl τ⟩) <| .g (fun _ τ => ⟨_, .alloc (.no rfl) rfl z62 rfl rfl rfl τ⟩) <| .g (fun _ τ => ⟨_, .store (.no rfl) rfl t62 rfl rfl rfl rfl rfl rfl rfl rfl rfl τ⟩) <| .z ?_
 refine .seq <| .seq <| .rs fun k5 => .as rfl <| .z <| .block ?_
 refine .loop (X := Nat × Nat × Nat × Nat) (fun ζ => .of [(1, .one (.ptr [1] (k3) 0)), (2, .one (.ptr [2] (k3 + 1) 0)), (3, .one (.ptr [3] (k4 + 1 + 1 + 1 + 1 + 1) 0)), (4, .one (.d (.v (.int .i64 ((ζ.1 : Int))))))] [([1], (k3, k3, .box [.d (.sl false 115 2 (List.map Entry.c (p.token))), .d (.sl false 98 3 (List.map Env.c98 (p.table)))])), ([2], (k3 + 1, k3 + 1, .box [.d (.v (.slice none 0 0)), .d (.v (.slice none 0 0))])), ([3], (k4 + 1 + 1 + 1 + 1 + 1, ζ.2.1, .box [.ref [5] (k4 + 1 + 1 + 1), .ref [26] (ζ.2.2.2)])), ([5], (k4 + 1 + 1 + 1, k4 + 1 + 1 + 1, .row 115 2 (List.map Entry.c (p.token)))), ([26], (ζ.2.2.2, ζ.2.2.1, .row 98 3 (List.map Env.co98 (p.table.take ζ.1))))]) (fun ζ => ζ.1 ≤ p.table.length) (fun ζ => p.table.length - ζ.1) ?_ ?_
 ·skip
  refine .nilBox [3] 1 [26] 98 3 rfl rfl (by decide) fun k9 => ?_
  exact .here (0, k9, k9, k9) (.of (.cons rfl (.cons rfl (.cons rfl (.cons (svI (show (0) = ((0 : Int)) by first | rfl | omega | exact wrap_le (by omega) (by omega) | (rw [wrap_le (by omega) (by omega)]; omega))) .nil)))) (.cons rfl (.cons rfl (.cons rfl (.cons rfl (.cons (rowE (show [] = List.map Env.co98 (p.table.take 0) by first | with_reducible rfl | exact congrArg _ (take_step9 (by omega)) | rfl)) .nil)))))) (show 0 ≤ p.table.length by omega)
 ·rintro ⟨j, q6, q7, q8⟩ hI
  have hI : j ≤ p.table.length := hI
  have h7 := hb.2.1
  dsimp only
  refine .seq <| .seq <| .rs fun k10 => .mv rfl <| .fp t62 t60 rfl <| .ld t60 rfl (.ptr _ _ _ _ _ rfl) rfl <| .g (fun _ τ => ⟨_, .len (.no rfl) rfl (z := (p.table.length : Int)) t60 rfl rfl rfl (.d _ _) (map_len _ _) rfl τ⟩) <| .bi rfl <| .z ?_
  refine .cond (t := decide ((j : Int) < (p.table.length : Int))) rfl (fun c0 => ?_) (fun c0 => ?_)
  ·have c0 := of_decide_eq_true c0
   refine .skip <| .seq <| .block ?_
   refine .regD (X := Nat × Nat) (by kernel_rfl) (fun ζ => .of [(1, .one (.ptr [1] (k3) 0)), (2, .one (.ptr [2] (k3 + 1) 0)), (3, .one (.ptr [3] (k4 + 1 + 1 + 1 + 1 + 1) 0)), (4, .one (.d (.v (.int .i64 ((j : Int))))))] [([1], (k3, k3, .box [.d (.sl false 115 2 (List.map Entry.c (p.token))), .d (.sl false 98 3 (List.map Env.c98 (p.table)))])), ([2], (k3 + 1, k3 + 1, .box [.d (.v (.slice none 0 0)), .d (.v (.slice none 0 0))])), ([3], (k4 + 1 + 1 + 1 + 1 + 1, ζ.1, .box [.ref [5] (k4 + 1 + 1 + 1), .ref [26] (ζ.2)])), ([5], (k4 + 1 + 1 + 1, k4 + 1 + 1 + 1, .row 115 2 (List.map Entry.c (p.token)))), ([26], (ζ.2, ζ.2, .row 98 3 (List.map Env.co98 (p.table.take j ++ [(p.table.getD j default)]))))]) [⟨[3], some 17, [], []⟩, ⟨[17], some 18, [[3]], []⟩, ⟨[1], some 19, [], []⟩, ⟨[19], some 20, [[1]], []⟩, ⟨[4], some 21, [], []⟩, ⟨[20, 21], some 22, [], []⟩, ⟨[22], some 23, [], []⟩, ⟨[23], some 24, [], [[24, 1], [24, 2]]⟩, ⟨[24], some 25, [[24, 1], [24, 2]], [[24, 1], [24, 2], [25]]⟩, ⟨[18, 25], some 26, [[26], [25]], [[25], [26]]⟩, ⟨[3], some 27, [], []⟩, ⟨[27, 26], none, [[3]], [[3]]⟩] (by kernel_rfl) (fun k11 => ?_) ?_
   ·skip
    refine .fieldAddrP (.no rfl) rfl t62 rfl rfl t60 rfl rfl rfl rfl <| .load (.no rfl) rfl t60 rfl rfl (.ptr _ _ _ _ _ rfl) rfl rfl rfl rfl <| .fieldAddrP (.no rfl) rfl t62 rfl rfl t60 rfl rfl rfl rfl <| .load (.no rfl) rfl t60 rfl rfl (.ptr _ _ _ _ _ rfl) rfl rfl rfl rfl <| .move (.no rfl) rfl rfl rfl rfl <| .indexAddr (.no rfl) rfl (j) t60 rfl t98 rfl rfl rfl (.d _ _) rfl rfl rfl (map_get (by omega)) rfl rfl <| .load (.no rfl) rfl t98 rfl rfl (.d _) rfl rfl rfl rfl <| .call (.no rfl) rfl [] [] (c_l6Copy (p.table.getD j default) (by first | exact Nat.le_trans hb.1 (by decide) | exact hb.2.2 _ (getD_mem (by omega)))) rfl rfl rfl rfl rfl (.dd (.dd (.dd .nil))) rfl rfl (fun h => absurd rfl h) (.own [24, 0] (.own [24, 1] (.own [24, 2] .nil))) (.nil) rfl rfl rfl (by simp) rfl rfl rfl ?_
    refine .buildSlice (.no rfl) rfl (els := [[.v (.bool ((p.table.getD j default).live)), .sl true 119 2 (List.map Iv.c ((p.table.getD j default).ints)), .sl true 119 2 (List.map Iv.c ((p.table.getD j default).arrs))]]) t60 rfl z98 rfl rfl rfl rfl rfl rfl rfl rfl (by simp [i98]) (.cons _ _ _ _ _ _ (.d _) (.cons _ _ _ _ _ _ (.ref _ _ _ _ _ _ rfl) (.cons _ _ _ _ _ _ (.ref _ _ _ _ _ _ rfl) .nil))) rfl rfl rfl <| .append (.no rfl) rfl (l3 := List.map Env.co98 (p.table.take j ++ [(p.table.getD j default)])) t60 rfl z98 rfl rfl rfl rfl rfl rfl rfl rfl (.ref _ _ _ _ rfl) (.take _ _ _ _ _ rfl) rfl (by (have h8 := hb.1; have h9 := hb.2.1; simp [i98, i115]; omega)) (map_snoc _ _ _) rfl rfl <| .fieldAddrP (.no rfl) rfl t62 rfl rfl t60 rfl rfl rfl rfl <| .store (.no rfl) rfl t60 rfl rfl rfl rfl rfl rfl rfl rfl rfl ?_
    exact .fin (k11 + 1 + 1 + 1 + 1 + 1 + 1 + 1 + 1 + 1 + 1 + 1, k11 + 1 + 1 + 1 + 1 + 1 + 1 + 1 + 1 + 1) (.of (.r rfl) (.r rfl))
   rintro ⟨g12, g13⟩
   refine .rs fun k14 => .mv rfl <| .bi rfl <| .as rfl <| .z ?_
   exact .here ((j + 1), g12, g13, g13) (.of (.cons rfl (.cons rfl (.cons rfl (.cons (svI (show (IntKind.wrap .i64 ((j : Int) + 1)) = (((j + 1) : Int)) by first | rfl | omega | exact wrap_le (by omega) (by omega) | (rw [wrap_le (by omega) (by omega)]; omega))) .nil)))) (.cons rfl (.cons rfl (.cons rfl (.cons rfl (.cons (rowE (show List.map Env.co98 (p.table.take j ++ [(p.table.getD j default)]) = List.map Env.co98 (p.table.take (j + 1)) by first | with_reducible rfl | exact congrArg _ (take_step9 (by omega)) | rfl)) .nil)))))) ⟨(show (j + 1) ≤ p.table.length by omega), (show p.table.length - (j + 1) < p.table.length - j by omega)⟩
  ·have c0 := of_decide_eq_false c0
   refine .exit <| .seq <| .rs fun k15 => .lda t62 rfl (.ptr _ _ _ _ _ rfl) rfl <| .g (fun _ τ => ⟨_, .store (.no rfl) rfl t62 rfl rfl rfl rfl rfl rfl rfl rfl rfl τ⟩) <| .z <| .ret ?_
   have e16 : (p.table.take j) = (p.table) := by first | rfl | exact List.take_of_length_le (by omega)
   exact fin1 (.inr rfl) [] [([5], (k4 + 1 + 1 + 1, k4 + 1 + 1 + 1, .row 115 2 (List.map Entry.c (p.token)))), ([26], (q8, q7, .row 98 3 (List.map Env.co98 (p.table))))] (.cell (cells := [.ref [5] (k4 + 1 + 1 + 1), .ref [26] (q8)]) rfl rfl t62 rfl rfl .nil) (.cons (.ref (.head _)) (.cons (.ref (.tail _ (.head _))) .nil)) rfl rfl (.cons rfl (.cons (rowE (congrArg (List.map Env.co98) e16)) .nil))
theorem c_ownParts (l : List Part) (hx : ∀ x ∈ l, Part.small x) (hl : l.length ≤ 1048576) : Trip Tryz.prog 96 [(false, 1)] ([.sl false 62 2 (List.map Part.c62 (l))]) [(false, 1)] [.sl true 62 2 (List.map Part.co62 (l))] [] := by
 refine Trip.of Tryz.func96 (by decide) (c := _) rfl rfl (Nat.le_of_ble_eq_true rfl) rfl (AftOk.nil _) <| .sl (t := 0) rfl fun hs1l => .seq <| .rs fun k2 => .as rfl <| .z <| .seq <| .rs fun k3 => .as rfl ?_
 refine .z <| .seq <| .seq <| .rs fun k4 => .mv rfl <| .g (fun _ τ => ⟨_, .len (.no rfl) rfl (z := (l.length : Int)) t29 rfl rfl rfl (.d _ _) (map_len _ _) rfl τ⟩) <| .mv rfl <| .z <| .block ?_
 refine .loop (X := Nat × Nat × Nat) (fun ζ => .of [(3, .one (.ref [16] (ζ.2.1))), (6, .one (.d (.sl false 62 2 (List.map Part.c62 (l))))), (7, .one (.d (.v (.int .i64 ((l.length : Int)))))), (8, .one (.d (.v (.int .i64 ((ζ.1 : Int))))))] [([16], (ζ.2.1, ζ.2.2, .row 62 2 (List.map Part.co62 (l.take ζ.1))))]) (fun ζ => ζ.1 ≤ l.length) (fun ζ => l.length - ζ.1) ?_ ?_
 ·skip
  refine .nilRow 3 [16] 62 2 rfl fun k7 => ?_
  exact .here (0, k7, k7) (.of (.cons rfl (.cons rfl (.cons rfl (.cons (svI (show (0) = ((0 : Int)) by first | rfl | omega | exact wrap_le (by omega) (by omega) | (rw [wrap_le (by omega) (by omega)]; omega))) .nil)))) (.cons (rowE (show [] = List.map Part.co62 (l.take 0) by first | with_reducible rfl | rfl | exact congrArg _ (take_step9 (by omega)))) .nil)) (show 0 ≤ l.length by omega)
 ·rintro ⟨j, q5, q6⟩ hI
  have hI : j ≤ l.length := hI
  dsimp only
  refine .seq <| .rs fun k8 => .bi rfl <| .z <| .seq ?_
  refine .cond (t := decide ((j : Int) < (l.length : Int))) rfl (fun c0 => ?_) (fun c0 => ?_)
  ·have c0 := of_decide_eq_true c0
   refine .skip <| .seq <| .block <| .seq <| .rs fun k9 => .g (fun _ τ => ⟨_, .indexAddr (.no rfl) rfl (j) t29 rfl t62 rfl rfl rfl (.d _ _) rfl rfl rfl (map_get (by omega)) rfl rfl τ⟩) <| .lda t62 rfl (.d _) rfl <| .g (fun _ τ => ⟨_, .alloc (.no rfl) rfl z62 rfl rfl rfl τ⟩) <| .g (fun _ τ => ⟨_, .store (.no rfl) rfl t62 rfl rfl rfl rfl rfl rfl rfl rfl rfl τ⟩) ?_
   refine .z <| .rs fun k10 => .mv rfl <| .lda t62 rfl (.ptr _ _ _ _ _ rfl) rfl <| .c0 (c_pown (l.getD j default) (by exact hx _ (getD_mem (by omega)))) rfl (.dd (.dd .nil)) (.own [14, 0] (.own [14, 1] .nil)) rfl <| .g (fun _ τ => ⟨_, .buildSlice (.no rfl) rfl (els := [[.sl true 115 2 (List.map Entry.c ((l.getD j default).token)), .sl true 98 3 (List.map Env.co98 ((l.getD j default).table))]]) t29 rfl z62 rfl rfl rfl rfl rfl rfl rfl rfl (by simp [i62]) (.cons _ _ _ _ _ _ (.ref _ _ _ _ _ _ rfl) (.cons _ _ _ _ _ _ (.ref _ _ _ _ _ _ rfl) .nil)) rfl rfl rfl τ⟩) <| .g (fun _ τ => ⟨_, .append (.no rfl) rfl (l3 := List.map Part.co62 (l.take j ++ [(l.getD j default)])) t29 rfl z62 rfl rfl rfl rfl rfl rfl rfl rfl (.ref _ _ _ _ rfl) (.take _ _ _ _ _ rfl) rfl (by simp [i62]; omega) (map_snoc _ _ _) rfl rfl τ⟩) <| .as rfl <| .z ?_
   refine .rs fun k11 => .bi rfl <| .mv rfl <| .z ?_
   exact .here ((j + 1), (k10 + 1 + 1 + 1 + 1), (k10 + 1 + 1 + 1 + 1)) (.of (.cons (by show SV.one (.ref [16] (k10 + 1 + 1 + 1 + 1)) = SV.one (.ref [16] ((k10 + 1 + 1 + 1 + 1))); first | rfl | simp_all) (.cons rfl (.cons rfl (.cons (svI (show (IntKind.wrap .i64 ((j : Int) + 1)) = (((j + 1) : Int)) by first | rfl | omega | exact wrap_le (by omega) (by omega) | (rw [wrap_le (by omega) (by omega)]; omega))) .nil)))) (.cons (rowE (show List.map Part.co62 (l.take j ++ [(l.getD j default)]) = List.map Part.co62 (l.take (j + 1)) by first | with_reducible rfl | rfl | exact congrArg _ (take_step9 (by omega)))) .nil)) ⟨(show (j + 1) ≤ l.length by omega), (show l.length - (j + 1) < l.length - j by omega)⟩
  ·have c0 := of_decide_eq_false c0
   refine .exit <| .seq <| .rs fun k12 => .mv rfl <| .as rfl <| .z <| .ret ?_
   have e13 : (l.take j) = (l) := by exact List.take_of_length_le (by omega)
   exact fin1 (.inr rfl) [] [([16], (q5, q6, .row 62 2 (List.map Part.co62 (l))))] (.one rfl .nil) (.cons (.ref (.head _)) .nil) rfl rfl (.cons (rowE (congrArg (List.map Part.co62) e13)) .nil)
theorem c_l9Fresh (l : List Part) (hx : ∀ x ∈ l, Part.small x) (hl : l.length ≤ 1048576) : Trip Tryz.prog 41 [(false, 1)] ([.sl false 62 2 (List.map Part.c62 (l))]) [(false, 1)] [.sl true 62 2 (List.map Part.co62 (fewV l))] [] := by
 refine Trip.of Tryz.func41 (by decide) (c := _) rfl rfl (Nat.le_of_ble_eq_true rfl) rfl (AftOk.nil _) <| .sl (t := 0) rfl fun hs1l => .seq <| .rs fun k2 => .as rfl <| .z <| .seq <| .rs fun k3 => .g (fun _ τ => ⟨_, .buildSlice (.no rfl) rfl (els := []) t29 rfl z62 rfl rfl rfl rfl rfl rfl rfl rfl (by simp [i62]) .nil rfl rfl rfl τ⟩) ?_
 refine .as rfl <| .z <| .seq <| .seq <| .rs fun k4 => .as rfl <| .z <| .block ?_
 refine .loop (X := Nat × Nat × Nat) (fun ζ => .of [(0, .one (.d (.sl false 62 2 (List.map Part.c62 (l))))), (3, .one (.ref [5] (ζ.2.1))), (4, .one (.d (.v (.int .i64 ((ζ.1 : Int))))))] [([5], (ζ.2.1, ζ.2.2, .row 62 2 (List.map Part.co62 (l.take ζ.1))))]) (fun ζ => ζ.1 ≤ l.length ∧ ((l.length : Int) > 100 → ζ.1 = 0)) (fun ζ => l.length - ζ.1) ?_ ?_
 ·skip
  exact .here (0, k3, k3) (.of (.cons rfl (.cons rfl (.cons (svI (show (0) = ((0 : Int)) by first | rfl | omega | exact wrap_le (by omega) (by omega) | (rw [wrap_le (by omega) (by omega)]; omega))) .nil))) (.cons (rowE (show [] = List.map Part.co62 (l.take 0) by first | with_reducible rfl | rfl | exact congrArg _ (take_step9 (by omega)))) .nil)) (show 0 ≤ l.length ∧ ((l.length : Int) > 100 → 0 = 0) by exact ⟨by omega, fun _ => rfl⟩)
 ·rintro ⟨j, q5, q6⟩ hI
  have hI : j ≤ l.length ∧ ((l.length : Int) > 100 → j = 0) := hI
  dsimp only
  refine .seq <| .seq ?_
  refine .reg (X := Unit) (fun ζ => .of [(0, .one (.d (.sl false 62 2 (List.map Part.c62 (l))))), (3, .one (.ref [5] (q5))), (4, .one (.d (.v (.int .i64 ((j : Int)))))), (14, .one (.d (.v (.bool ((decide ((j : Int) < (l.length : Int)) && decide ((l.length : Int) ≤ 100)))))))] [([5], (q5, q6, .row 62 2 (List.map Part.co62 (l.take j))))]) [⟨[4], some 6, [], []⟩, ⟨[0], some 7, [], []⟩, ⟨[7], some 8, [], []⟩, ⟨[6, 8], some 9, [], []⟩, ⟨[9], some 10, [], []⟩, ⟨[10, 0], some 11, [], []⟩, ⟨[10, 11], some 12, [], []⟩, ⟨[10, 12], some 13, [], []⟩, ⟨[10, 13], some 14, [], []⟩] (fun k7 => ?_) ?_
  ·skip
   refine .move (.no rfl) rfl rfl rfl rfl <| .move (.no rfl) rfl rfl rfl rfl <| .len (.no rfl) rfl (z := (l.length : Int)) t29 rfl rfl rfl (.d _ _) (map_len _ _) rfl <| .bin (.no rfl) rfl rfl rfl rfl rfl rfl <| .moveB (.no rfl) rfl rfl rfl rfl fun b8 g3_4 => ?_
   cases b8
   ·skip
    refine .off rfl rfl rfl rfl rfl rfl rfl <| .off rfl rfl rfl rfl rfl rfl rfl <| .off rfl rfl rfl rfl rfl rfl rfl <| .pick (.no rfl) rfl rfl rfl rfl rfl ?_
    exact .fin () (.of (.cons rfl (.cons rfl (.cons rfl (.cons (svB (show (false) = ((decide ((j : Int) < (l.length : Int)) && decide ((l.length : Int) ≤ 100))) by first | (simp only [g3_4, Bool.true_or, Bool.false_or, Bool.true_and, Bool.false_and, Bool.not_true, Bool.not_false]; done) | (simp [g3_4]; done) | (exfalso; simp_all; done))) .nil)))) (.r rfl))
   ·skip
    refine .move (.on rfl rfl rfl rfl rfl) rfl rfl rfl rfl <| .len (.on rfl rfl rfl rfl rfl) rfl (z := (l.length : Int)) t29 rfl rfl rfl (.d _ _) (map_len _ _) rfl <| .bin (.on rfl rfl rfl rfl rfl) rfl rfl rfl rfl rfl rfl <| .pick (.no rfl) rfl rfl rfl rfl rfl ?_
    exact .fin () (.of (.cons rfl (.cons rfl (.cons rfl (.cons (svB (show (decide ((l.length : Int) ≤ 100)) = ((decide ((j : Int) < (l.length : Int)) && decide ((l.length : Int) ≤ 100))) by first | (simp only [g3_4, Bool.true_or, Bool.false_or, Bool.true_and, Bool.false_and, Bool.not_true, Bool.not_false]; done) | (simp [g3_4]; done) | (exfalso; simp_all; done))) .nil)))) (.r rfl))
  intro _
  refine .cond (t := (decide ((j : Int) < (l.length : Int)) && decide ((l.length : Int) ≤ 100))) rfl (fun c0 => ?_) (fun c0 => ?_)
  ·have c0 := (aT dT dT) c0
   refine .skip <| .seq <| .block <| .rs fun k9 => .mv rfl <| .mv rfl <| .mv rfl <| .g (fun _ τ => ⟨_, .indexAddr (.no rfl) rfl (j) t29 rfl t62 rfl rfl rfl (.d _ _) rfl rfl rfl (map_get (by omega)) rfl rfl τ⟩) <| .lda t62 rfl (.d _) rfl ?_
   refine .c0 (c_l9Copy (l.getD j default) (by exact hx _ (getD_mem (by omega)))) rfl (.dd (.dd .nil)) (.own [22, 0] (.own [22, 1] .nil)) rfl <| .g (fun _ τ => ⟨_, .buildSlice (.no rfl) rfl (els := [[.sl true 115 2 (List.map Entry.c ((l.getD j default).token)), .sl true 98 3 (List.map Env.co98 ((l.getD j default).table))]]) t29 rfl z62 rfl rfl rfl rfl rfl rfl rfl rfl (by simp [i62]) (.cons _ _ _ _ _ _ (.ref _ _ _ _ _ _ rfl) (.cons _ _ _ _ _ _ (.ref _ _ _ _ _ _ rfl) .nil)) rfl rfl rfl τ⟩) <| .g (fun _ τ => ⟨_, .append (.no rfl) rfl (l3 := List.map Part.co62 (l.take j ++ [(l.getD j default)])) t29 rfl z62 rfl rfl rfl rfl rfl rfl rfl rfl (.ref _ _ _ _ rfl) (.take _ _ _ _ _ rfl) rfl (by simp [i62]; omega) (map_snoc _ _ _) rfl rfl τ⟩) <| .as rfl <| .z <| .rs fun k10 => .mv rfl <| .bi rfl <| .as rfl ?_
   refine .z ?_
   exact .here ((j + 1), (k9 + 1 + 1 + 1 + 1 + 1 + 1 + 1), (k9 + 1 + 1 + 1 + 1 + 1 + 1 + 1)) (.of (.cons rfl (.cons (by show SV.one (.ref [5] (k9 + 1 + 1 + 1 + 1 + 1 + 1 + 1)) = SV.one (.ref [5] ((k9 + 1 + 1 + 1 + 1 + 1 + 1 + 1))); first | rfl | simp_all) (.cons (svI (show (IntKind.wrap .i64 ((j : Int) + 1)) = (((j + 1) : Int)) by first | rfl | omega | exact wrap_le (by omega) (by omega) | (rw [wrap_le (by omega) (by omega)]; omega))) .nil))) (.cons (rowE (show List.map Part.co62 (l.take j ++ [(l.getD j default)]) = List.map Part.co62 (l.take (j + 1)) by first | with_reducible rfl | rfl | exact congrArg _ (take_step9 (by omega)))) .nil)) ⟨(show (j + 1) ≤ l.length ∧ ((l.length : Int) > 100 → (j + 1) = 0) by omega), (show l.length - (j + 1) < l.length - j by omega)⟩
  ·have c0 := (aF dF dF) c0
   refine .exit <| .seq <| .rs fun k11 => .mv rfl <| .as rfl <| .z <| .ret ?_
   have e12 : (l.take j) = (fewV l) := by first | exact few_end hI c0 | exact few_end hI (by omega)
   exact fin1 (.inr rfl) [] [([5], (q5, q6, .row 62 2 (List.map Part.co62 (fewV l))))] (.one rfl .nil) (.cons (.ref (.head _)) .nil) rfl rfl (.cons (rowE (congrArg (List.map Part.co62) e12)) .nil)
end Go.Proofs

/- Contracts of the program's functions at this seat, printed by a program of ours and checked by Lean: each under the conditions of its own statement. -/
import Derived.Test.YtoijbdnhjgfloaaGreatDoorF1
set_option linter.all false
set_option linter.unnecessarySimpa false
set_option linter.unusedSectionVars false
set_option linter.unusedSimpArgs false
set_option linter.unusedVariables false
namespace Go.Proofs
open Go Go.Proofs Go.Ev

theorem c_eqEnvS (a : List Env) (b : List Env) : Trip Tryz.prog 24 [(false, 1), (false, 1)] ([.sl false 106 3 (List.map Env.c106 (a))] ++ [.sl false 106 3 (List.map Env.c106 (b))]) [(false, 1)] [.v (.bool (all2 Env.same a b))] [] := by
 refine Trip.of Tryz.func24 (by decide) (c := _) rfl rfl (shB_ok rfl) (Nat.le_of_ble_eq_true rfl) rfl (AftOk.nil _) <| .sl (t := 0) rfl fun hs1l => .sl (t := 1) rfl fun hs2l => .seq <| .rs fun k3 => .as rfl <| .z <| .seq <| .seq ?_
 refine .rs fun k4 => .mv rfl <| .g (fun _ τ => ⟨_, .len (.no rfl) rfl (z := (a.length : Int)) t46 rfl rfl rfl (.d _ _) (map_len _ _) rfl τ⟩) <| .mv rfl <| .g (fun _ τ => ⟨_, .len (.no rfl) rfl (z := (b.length : Int)) t46 rfl rfl rfl (.d _ _) (map_len _ _) rfl τ⟩) <| .bi rfl <| .z ?_
 refine .cond (t := (a.length : Int) != (b.length : Int)) rfl (fun c0 => ?_) (fun c0 => ?_)
 ·have c0 := (by simpa using c0 : ¬ ((a.length : Int) = (b.length : Int)))
  refine .seq <| .rs fun k5 => .as rfl <| .z <| .ret ?_
  exact fin0 (.inr rfl) (.one (svB (show (false) = (all2 Env.same a b) by exact (all2_ne _ c0).symm)) .nil) (.dd .nil) rfl
 ·have c0 := (by simpa using c0 : (a.length : Int) = (b.length : Int))
  refine .skip <| .seq <| .seq <| .rs fun k7 => .as rfl <| .z <| .block ?_
  refine .loop (X := Nat) (fun ζ => .of [(0, .one (.d (.sl false 106 3 (List.map Env.c106 (a))))), (1, .one (.d (.sl false 106 3 (List.map Env.c106 (b))))), (5, .one (.d (.v (.int .i64 ((ζ : Int))))))] []) (fun ζ => ζ ≤ a.length ∧ a.length = b.length ∧ allTo ζ (fun i => Env.same (a.getD i default) (b.getD i default)) = true) (fun ζ => a.length - ζ) ?_ ?_
  ·skip
   exact .here 0 (.of (.cons rfl (.cons rfl (.cons (svI (show (0) = ((0 : Int)) by first | rfl | omega | exact wrap_le (by omega) (by omega) | (rw [wrap_le (by omega) (by omega)]; omega))) .nil))) .nil) (show 0 ≤ a.length ∧ a.length = b.length ∧ allTo 0 (fun i => Env.same (a.getD i default) (b.getD i default)) = true by exact ⟨by omega, by omega, rfl⟩)
  ·rintro j hI
   have hI : j ≤ a.length ∧ a.length = b.length ∧ allTo j (fun i => Env.same (a.getD i default) (b.getD i default)) = true := hI
   refine .seq <| .seq <| .rs fun k8 => .mv rfl <| .mv rfl <| .g (fun _ τ => ⟨_, .len (.no rfl) rfl (z := (a.length : Int)) t46 rfl rfl rfl (.d _ _) (map_len _ _) rfl τ⟩) <| .bi rfl <| .z ?_
   refine .cond (t := decide ((j : Int) < (a.length : Int))) rfl (fun c1 => ?_) (fun c1 => ?_)
   ·have c1 := of_decide_eq_true c1
    refine .skip <| .seq <| .block <| .seq ?_
    refine .regD (X := Unit) (by kernel_rfl) (fun ζ => .of [(0, .one (.d (.sl false 106 3 (List.map Env.c106 (a))))), (1, .one (.d (.sl false 106 3 (List.map Env.c106 (b))))), (5, .one (.d (.v (.int .i64 ((j : Int)))))), (26, .one (.d (.v (.bool (!(Env.same (a.getD j default) (b.getD j default)))))))] []) [⟨[0], some 17, [], []⟩, ⟨[5], some 18, [], []⟩, ⟨[17, 18], some 19, [], []⟩, ⟨[19], some 20, [], []⟩, ⟨[1], some 21, [], []⟩, ⟨[5], some 22, [], []⟩, ⟨[21, 22], some 23, [], []⟩, ⟨[23], some 24, [], []⟩, ⟨[20, 24], some 25, [], []⟩, ⟨[25], some 26, [], []⟩] (by kernel_rfl) (fun k9 => ?_) ?_
    ·skip
     refine .move (.no rfl) rfl rfl rfl rfl <| .move (.no rfl) rfl rfl rfl rfl <| .indexAddr (.no rfl) rfl (j) t46 rfl t106 rfl rfl rfl (.d _ _) rfl rfl rfl (map_get (by omega)) rfl rfl <| .load (.no rfl) rfl t106 rfl rfl (.d _) rfl rfl rfl rfl <| .move (.no rfl) rfl rfl rfl rfl <| .move (.no rfl) rfl rfl rfl rfl <| .indexAddr (.no rfl) rfl (j) t46 rfl t106 rfl rfl rfl (.d _ _) rfl rfl rfl (map_get (by omega)) rfl rfl <| .load (.no rfl) rfl t106 rfl rfl (.d _) rfl rfl rfl rfl <| .call (.no rfl) rfl [] [] (c_eqEnv (a.getD j default) (b.getD j default)) rfl rfl rfl rfl rfl (.dd (.dd (.dd (.dd (.dd (.dd .nil)))))) rfl rfl (fun h => absurd rfl h) (.own [25, 0] .nil) (.nil) rfl rfl rfl (by simp) rfl rfl rfl ?_
     refine .un (.no rfl) rfl rfl rfl rfl rfl ?_
     exact .fin () (.of (.r rfl) .nil)
    intro _
    refine .cond (t := !(Env.same (a.getD j default) (b.getD j default))) rfl (fun c2 => ?_) (fun c2 => ?_)
    ·have c2 := (nT id) c2
     refine .seq <| .rs fun k10 => .as rfl <| .z <| .ret ?_
     exact fin0 (.inr rfl) (.one (svB (show (false) = (all2 Env.same a b) by exact (all2_fail _ (j := j) (by omega) (by simpa [] using c2)).symm)) .nil) (.dd .nil) rfl
    ·have c2 := (nF id) c2
     refine .skip <| .rs fun k12 => .mv rfl <| .bi rfl <| .as rfl <| .z ?_
     exact .here (j + 1) (.of (.cons rfl (.cons rfl (.cons (svI (show (IntKind.wrap .i64 ((j : Int) + 1)) = (((j + 1) : Int)) by first | rfl | omega | exact wrap_le (by omega) (by omega) | (rw [wrap_le (by omega) (by omega)]; omega))) .nil))) .nil) ⟨(show (j + 1) ≤ a.length ∧ a.length = b.length ∧ allTo (j + 1) (fun i => Env.same (a.getD i default) (b.getD i default)) = true by exact ⟨by omega, by omega, allTo_step hI.2.2 (by simpa [] using c2)⟩), (show a.length - (j + 1) < a.length - j by omega)⟩
   ·have c1 := of_decide_eq_false c1
    refine .exit <| .seq <| .rs fun k13 => .as rfl <| .z <| .ret ?_
    exact fin0 (.inr rfl) (.one (svB (show (true) = (all2 Env.same a b) by (have hj : j = a.length := (by omega); subst hj; exact (all2_done _ hI.2.1 hI.2.2).symm))) .nil) (.dd .nil) rfl
theorem c_eqEntry (a : Entry) (b : Entry) : Trip Tryz.prog 116 [(true, 2), (true, 2)] (Entry.c a ++ Entry.c b) [(false, 1)] [.v (.bool (Entry.same a b))] [] := by
 refine Trip.of Tryz.func116 (by decide) (c := _) rfl rfl (shB_ok rfl) (Nat.le_of_ble_eq_true rfl) rfl (AftOk.nil _) <| .seq <| .rs fun k1 => .g (fun _ τ => ⟨_, .box (.no rfl) rfl rfl rfl rfl rfl τ⟩) <| .g (fun _ τ => ⟨_, .box (.no rfl) rfl rfl rfl rfl rfl τ⟩) <| .as rfl <| .z <| .seq <| .seq ?_
 refine .rs fun k2 => .fp t145 t2 rfl <| .ld t2 rfl (.ptr _ _ _ _ _ rfl) rfl <| .fp t145 t2 rfl <| .ld t2 rfl (.ptr _ _ _ _ _ rfl) rfl <| .bi rfl <| .z ?_
 refine .cond (t := a.line != b.line) rfl (fun c0 => ?_) (fun c0 => ?_)
 ·have c0 := (by simpa using c0 : ¬ (a.line = b.line))
  refine .seq <| .rs fun k3 => .as rfl <| .z <| .ret ?_
  exact fin0 (.inr rfl) (.one (svB (show (false) = (Entry.same a b) by (simp_all [Entry.same]))) .nil) (.dd .nil) rfl
 ·have c0 := (by simpa using c0 : a.line = b.line)
  refine .skip <| .seq <| .seq <| .rs fun k5 => .fp t145 t2 rfl <| .ld t2 rfl (.ptr _ _ _ _ _ rfl) rfl <| .fp t145 t2 rfl <| .ld t2 rfl (.ptr _ _ _ _ _ rfl) rfl <| .bi rfl ?_
  refine .z ?_
  refine .cond (t := a.pick != b.pick) rfl (fun c1 => ?_) (fun c1 => ?_)
  ·have c1 := (by simpa using c1 : ¬ (a.pick = b.pick))
   refine .seq <| .rs fun k6 => .as rfl <| .z <| .ret ?_
   exact fin0 (.inr rfl) (.one (svB (show (false) = (Entry.same a b) by (simp_all [Entry.same]))) .nil) (.dd .nil) rfl
  ·have c1 := (by simpa using c1 : a.pick = b.pick)
   refine .skip <| .seq <| .rs fun k8 => .as rfl <| .z <| .ret ?_
   exact fin0 (.inr rfl) (.one (svB (show (true) = (Entry.same a b) by (simp_all [Entry.same]))) .nil) (.dd .nil) rfl
theorem c_eqEntryS (a : List Entry) (b : List Entry) : Trip Tryz.prog 45 [(false, 1), (false, 1)] ([.sl false 145 2 (List.map Entry.c (a))] ++ [.sl false 145 2 (List.map Entry.c (b))]) [(false, 1)] [.v (.bool (all2 Entry.same a b))] [] := by
 refine Trip.of Tryz.func45 (by decide) (c := _) rfl rfl (shB_ok rfl) (Nat.le_of_ble_eq_true rfl) rfl (AftOk.nil _) <| .sl (t := 0) rfl fun hs1l => .sl (t := 1) rfl fun hs2l => .seq <| .rs fun k3 => .as rfl <| .z <| .seq <| .seq ?_
 refine .rs fun k4 => .mv rfl <| .g (fun _ τ => ⟨_, .len (.no rfl) rfl (z := (a.length : Int)) t72 rfl rfl rfl (.d _ _) (map_len _ _) rfl τ⟩) <| .mv rfl <| .g (fun _ τ => ⟨_, .len (.no rfl) rfl (z := (b.length : Int)) t72 rfl rfl rfl (.d _ _) (map_len _ _) rfl τ⟩) <| .bi rfl <| .z ?_
 refine .cond (t := (a.length : Int) != (b.length : Int)) rfl (fun c0 => ?_) (fun c0 => ?_)
 ·have c0 := (by simpa using c0 : ¬ ((a.length : Int) = (b.length : Int)))
  refine .seq <| .rs fun k5 => .as rfl <| .z <| .ret ?_
  exact fin0 (.inr rfl) (.one (svB (show (false) = (all2 Entry.same a b) by exact (all2_ne _ c0).symm)) .nil) (.dd .nil) rfl
 ·have c0 := (by simpa using c0 : (a.length : Int) = (b.length : Int))
  refine .skip <| .seq <| .seq <| .rs fun k7 => .as rfl <| .z <| .block ?_
  refine .loop (X := Nat) (fun ζ => .of [(0, .one (.d (.sl false 145 2 (List.map Entry.c (a))))), (1, .one (.d (.sl false 145 2 (List.map Entry.c (b))))), (5, .one (.d (.v (.int .i64 ((ζ : Int))))))] []) (fun ζ => ζ ≤ a.length ∧ a.length = b.length ∧ allTo ζ (fun i => Entry.same (a.getD i default) (b.getD i default)) = true) (fun ζ => a.length - ζ) ?_ ?_
  ·skip
   exact .here 0 (.of (.cons rfl (.cons rfl (.cons (svI (show (0) = ((0 : Int)) by first | rfl | omega | exact wrap_le (by omega) (by omega) | (rw [wrap_le (by omega) (by omega)]; omega))) .nil))) .nil) (show 0 ≤ a.length ∧ a.length = b.length ∧ allTo 0 (fun i => Entry.same (a.getD i default) (b.getD i default)) = true by exact ⟨by omega, by omega, rfl⟩)
  ·rintro j hI
   have hI : j ≤ a.length ∧ a.length = b.length ∧ allTo j (fun i => Entry.same (a.getD i default) (b.getD i default)) = true := hI
   refine .seq <| .seq <| .rs fun k8 => .mv rfl <| .mv rfl <| .g (fun _ τ => ⟨_, .len (.no rfl) rfl (z := (a.length : Int)) t72 rfl rfl rfl (.d _ _) (map_len _ _) rfl τ⟩) <| .bi rfl <| .z ?_
   refine .cond (t := decide ((j : Int) < (a.length : Int))) rfl (fun c1 => ?_) (fun c1 => ?_)
   ·have c1 := of_decide_eq_true c1
    refine .skip <| .seq <| .block <| .seq ?_
    refine .regD (X := Unit) (by kernel_rfl) (fun ζ => .of [(0, .one (.d (.sl false 145 2 (List.map Entry.c (a))))), (1, .one (.d (.sl false 145 2 (List.map Entry.c (b))))), (5, .one (.d (.v (.int .i64 ((j : Int)))))), (26, .one (.d (.v (.bool (!(Entry.same (a.getD j default) (b.getD j default)))))))] []) [⟨[0], some 17, [], []⟩, ⟨[5], some 18, [], []⟩, ⟨[17, 18], some 19, [], []⟩, ⟨[19], some 20, [], []⟩, ⟨[1], some 21, [], []⟩, ⟨[5], some 22, [], []⟩, ⟨[21, 22], some 23, [], []⟩, ⟨[23], some 24, [], []⟩, ⟨[20, 24], some 25, [], []⟩, ⟨[25], some 26, [], []⟩] (by kernel_rfl) (fun k9 => ?_) ?_
    ·skip
     refine .move (.no rfl) rfl rfl rfl rfl <| .move (.no rfl) rfl rfl rfl rfl <| .indexAddr (.no rfl) rfl (j) t72 rfl t145 rfl rfl rfl (.d _ _) rfl rfl rfl (map_get (by omega)) rfl rfl <| .load (.no rfl) rfl t145 rfl rfl (.d _) rfl rfl rfl rfl <| .move (.no rfl) rfl rfl rfl rfl <| .move (.no rfl) rfl rfl rfl rfl <| .indexAddr (.no rfl) rfl (j) t72 rfl t145 rfl rfl rfl (.d _ _) rfl rfl rfl (map_get (by omega)) rfl rfl <| .load (.no rfl) rfl t145 rfl rfl (.d _) rfl rfl rfl rfl <| .call (.no rfl) rfl [] [] (c_eqEntry (a.getD j default) (b.getD j default)) rfl rfl rfl rfl rfl (.dd (.dd (.dd (.dd .nil)))) rfl rfl (fun h => absurd rfl h) (.own [25, 0] .nil) (.nil) rfl rfl rfl (by simp) rfl rfl rfl ?_
     refine .un (.no rfl) rfl rfl rfl rfl rfl ?_
     exact .fin () (.of (.r rfl) .nil)
    intro _
    refine .cond (t := !(Entry.same (a.getD j default) (b.getD j default))) rfl (fun c2 => ?_) (fun c2 => ?_)
    ·have c2 := (nT id) c2
     refine .seq <| .rs fun k10 => .as rfl <| .z <| .ret ?_
     exact fin0 (.inr rfl) (.one (svB (show (false) = (all2 Entry.same a b) by exact (all2_fail _ (j := j) (by omega) (by simpa [] using c2)).symm)) .nil) (.dd .nil) rfl
    ·have c2 := (nF id) c2
     refine .skip <| .rs fun k12 => .mv rfl <| .bi rfl <| .as rfl <| .z ?_
     exact .here (j + 1) (.of (.cons rfl (.cons rfl (.cons (svI (show (IntKind.wrap .i64 ((j : Int) + 1)) = (((j + 1) : Int)) by first | rfl | omega | exact wrap_le (by omega) (by omega) | (rw [wrap_le (by omega) (by omega)]; omega))) .nil))) .nil) ⟨(show (j + 1) ≤ a.length ∧ a.length = b.length ∧ allTo (j + 1) (fun i => Entry.same (a.getD i default) (b.getD i default)) = true by exact ⟨by omega, by omega, allTo_step hI.2.2 (by simpa [] using c2)⟩), (show a.length - (j + 1) < a.length - j by omega)⟩
   ·have c1 := of_decide_eq_false c1
    refine .exit <| .seq <| .rs fun k13 => .as rfl <| .z <| .ret ?_
    exact fin0 (.inr rfl) (.one (svB (show (true) = (all2 Entry.same a b) by (have hj : j = a.length := (by omega); subst hj; exact (all2_done _ hI.2.1 hI.2.2).symm))) .nil) (.dd .nil) rfl
theorem c_eqPart (a : Part) (b : Part) : Trip Tryz.prog 87 [(true, 2), (true, 2)] (Part.c121 a ++ Part.c121 b) [(false, 1)] [.v (.bool (Part.same a b))] [] := by
 refine Trip.of Tryz.func87 (by decide) (c := _) rfl rfl (shB_ok rfl) (Nat.le_of_ble_eq_true rfl) rfl (AftOk.nil _) <| .sla (t := 0) 0 rfl rfl fun hs1l => .sla (t := 0) 1 rfl rfl fun hs2l => .sla (t := 1) 0 rfl rfl fun hs3l => .sla (t := 1) 1 rfl rfl fun hs4l => .seq <| .rs fun k5 => .g (fun _ τ => ⟨_, .box (.no rfl) rfl rfl rfl rfl rfl τ⟩) <| .g (fun _ τ => ⟨_, .box (.no rfl) rfl rfl rfl rfl rfl τ⟩) ?_
 refine .as rfl <| .z <| .seq <| .seq <| .rs fun k6 => .fp t121 t72 rfl <| .ld t72 rfl (.ptr _ _ _ _ _ rfl) rfl <| .fp t121 t72 rfl <| .ld t72 rfl (.ptr _ _ _ _ _ rfl) rfl ?_
 refine .c0 (c_eqEntryS a.token b.token) rfl (.dd (.dd .nil)) (.own [9, 0] .nil) rfl <| .un rfl <| .z ?_
 refine .cond (t := !(all2 Entry.same a.token b.token)) rfl (fun c0 => ?_) (fun c0 => ?_)
 ·have c0 := (nT id) c0
  refine .seq <| .rs fun k7 => .as rfl <| .z <| .ret ?_
  exact fin0 (.inr rfl) (.one (svB (show (false) = (Part.same a b) by (simp_all [Part.same]))) .nil) (.dd .nil) rfl
 ·have c0 := (nF id) c0
  refine .skip <| .seq <| .seq <| .rs fun k9 => .fp t121 t46 rfl <| .ld t46 rfl (.ptr _ _ _ _ _ rfl) rfl <| .fp t121 t46 rfl <| .ld t46 rfl (.ptr _ _ _ _ _ rfl) rfl <| .c0 (c_eqEnvS a.table b.table) rfl (.dd (.dd .nil)) (.own [15, 0] .nil) rfl ?_
  refine .un rfl <| .z ?_
  refine .cond (t := !(all2 Env.same a.table b.table)) rfl (fun c1 => ?_) (fun c1 => ?_)
  ·have c1 := (nT id) c1
   refine .seq <| .rs fun k10 => .as rfl <| .z <| .ret ?_
   exact fin0 (.inr rfl) (.one (svB (show (false) = (Part.same a b) by (simp_all [Part.same]))) .nil) (.dd .nil) rfl
  ·have c1 := (nF id) c1
   refine .skip <| .seq <| .rs fun k12 => .as rfl <| .z <| .ret ?_
   exact fin0 (.inr rfl) (.one (svB (show (true) = (Part.same a b) by (simp_all [Part.same]))) .nil) (.dd .nil) rfl
theorem c_eqPartS (a : List Part) (b : List Part) : Trip Tryz.prog 35 [(false, 1), (false, 1)] ([.sl false 121 2 (List.map Part.c121 (a))] ++ [.sl false 121 2 (List.map Part.c121 (b))]) [(false, 1)] [.v (.bool (all2 Part.same a b))] [] := by
 refine Trip.of Tryz.func35 (by decide) (c := _) rfl rfl (shB_ok rfl) (Nat.le_of_ble_eq_true rfl) rfl (AftOk.nil _) <| .sl (t := 0) rfl fun hs1l => .sl (t := 1) rfl fun hs2l => .seq <| .rs fun k3 => .as rfl <| .z <| .seq <| .seq ?_
 refine .rs fun k4 => .mv rfl <| .g (fun _ τ => ⟨_, .len (.no rfl) rfl (z := (a.length : Int)) t57 rfl rfl rfl (.d _ _) (map_len _ _) rfl τ⟩) <| .mv rfl <| .g (fun _ τ => ⟨_, .len (.no rfl) rfl (z := (b.length : Int)) t57 rfl rfl rfl (.d _ _) (map_len _ _) rfl τ⟩) <| .bi rfl <| .z ?_
 refine .cond (t := (a.length : Int) != (b.length : Int)) rfl (fun c0 => ?_) (fun c0 => ?_)
 ·have c0 := (by simpa using c0 : ¬ ((a.length : Int) = (b.length : Int)))
  refine .seq <| .rs fun k5 => .as rfl <| .z <| .ret ?_
  exact fin0 (.inr rfl) (.one (svB (show (false) = (all2 Part.same a b) by exact (all2_ne _ c0).symm)) .nil) (.dd .nil) rfl
 ·have c0 := (by simpa using c0 : (a.length : Int) = (b.length : Int))
  refine .skip <| .seq <| .seq <| .rs fun k7 => .as rfl <| .z <| .block ?_
  refine .loop (X := Nat) (fun ζ => .of [(0, .one (.d (.sl false 121 2 (List.map Part.c121 (a))))), (1, .one (.d (.sl false 121 2 (List.map Part.c121 (b))))), (5, .one (.d (.v (.int .i64 ((ζ : Int))))))] []) (fun ζ => ζ ≤ a.length ∧ a.length = b.length ∧ allTo ζ (fun i => Part.same (a.getD i default) (b.getD i default)) = true) (fun ζ => a.length - ζ) ?_ ?_
  ·skip
   exact .here 0 (.of (.cons rfl (.cons rfl (.cons (svI (show (0) = ((0 : Int)) by first | rfl | omega | exact wrap_le (by omega) (by omega) | (rw [wrap_le (by omega) (by omega)]; omega))) .nil))) .nil) (show 0 ≤ a.length ∧ a.length = b.length ∧ allTo 0 (fun i => Part.same (a.getD i default) (b.getD i default)) = true by exact ⟨by omega, by omega, rfl⟩)
  ·rintro j hI
   have hI : j ≤ a.length ∧ a.length = b.length ∧ allTo j (fun i => Part.same (a.getD i default) (b.getD i default)) = true := hI
   refine .seq <| .seq <| .rs fun k8 => .mv rfl <| .mv rfl <| .g (fun _ τ => ⟨_, .len (.no rfl) rfl (z := (a.length : Int)) t57 rfl rfl rfl (.d _ _) (map_len _ _) rfl τ⟩) <| .bi rfl <| .z ?_
   refine .cond (t := decide ((j : Int) < (a.length : Int))) rfl (fun c1 => ?_) (fun c1 => ?_)
   ·have c1 := of_decide_eq_true c1
    refine .skip <| .seq <| .block <| .seq ?_
    refine .regD (X := Unit) (by kernel_rfl) (fun ζ => .of [(0, .one (.d (.sl false 121 2 (List.map Part.c121 (a))))), (1, .one (.d (.sl false 121 2 (List.map Part.c121 (b))))), (5, .one (.d (.v (.int .i64 ((j : Int)))))), (26, .one (.d (.v (.bool (!(Part.same (a.getD j default) (b.getD j default)))))))] []) [⟨[0], some 17, [], []⟩, ⟨[5], some 18, [], []⟩, ⟨[17, 18], some 19, [], []⟩, ⟨[19], some 20, [], []⟩, ⟨[1], some 21, [], []⟩, ⟨[5], some 22, [], []⟩, ⟨[21, 22], some 23, [], []⟩, ⟨[23], some 24, [], []⟩, ⟨[20, 24], some 25, [], []⟩, ⟨[25], some 26, [], []⟩] (by kernel_rfl) (fun k9 => ?_) ?_
    ·skip
     refine .move (.no rfl) rfl rfl rfl rfl <| .move (.no rfl) rfl rfl rfl rfl <| .indexAddr (.no rfl) rfl (j) t57 rfl t121 rfl rfl rfl (.d _ _) rfl rfl rfl (map_get (by omega)) rfl rfl <| .load (.no rfl) rfl t121 rfl rfl (.d _) rfl rfl rfl rfl <| .move (.no rfl) rfl rfl rfl rfl <| .move (.no rfl) rfl rfl rfl rfl <| .indexAddr (.no rfl) rfl (j) t57 rfl t121 rfl rfl rfl (.d _ _) rfl rfl rfl (map_get (by omega)) rfl rfl <| .load (.no rfl) rfl t121 rfl rfl (.d _) rfl rfl rfl rfl <| .call (.no rfl) rfl [] [] (c_eqPart (a.getD j default) (b.getD j default)) rfl rfl rfl rfl rfl (.dd (.dd (.dd (.dd .nil)))) rfl rfl (fun h => absurd rfl h) (.own [25, 0] .nil) (.nil) rfl rfl rfl (by simp) rfl rfl rfl ?_
     refine .un (.no rfl) rfl rfl rfl rfl rfl ?_
     exact .fin () (.of (.r rfl) .nil)
    intro _
    refine .cond (t := !(Part.same (a.getD j default) (b.getD j default))) rfl (fun c2 => ?_) (fun c2 => ?_)
    ·have c2 := (nT id) c2
     refine .seq <| .rs fun k10 => .as rfl <| .z <| .ret ?_
     exact fin0 (.inr rfl) (.one (svB (show (false) = (all2 Part.same a b) by exact (all2_fail _ (j := j) (by omega) (by simpa [] using c2)).symm)) .nil) (.dd .nil) rfl
    ·have c2 := (nF id) c2
     refine .skip <| .rs fun k12 => .mv rfl <| .bi rfl <| .as rfl <| .z ?_
     exact .here (j + 1) (.of (.cons rfl (.cons rfl (.cons (svI (show (IntKind.wrap .i64 ((j : Int) + 1)) = (((j + 1) : Int)) by first | rfl | omega | exact wrap_le (by omega) (by omega) | (rw [wrap_le (by omega) (by omega)]; omega))) .nil))) .nil) ⟨(show (j + 1) ≤ a.length ∧ a.length = b.length ∧ allTo (j + 1) (fun i => Part.same (a.getD i default) (b.getD i default)) = true by exact ⟨by omega, by omega, allTo_step hI.2.2 (by simpa [] using c2)⟩), (show a.length - (j + 1) < a.length - j by omega)⟩
   ·have c1 := of_decide_eq_false c1
    refine .exit <| .seq <| .rs fun k13 => .as rfl <| .z <| .ret ?_
    exact fin0 (.inr rfl) (.one (svB (show (true) = (all2 Part.same a b) by (have hj : j = a.length := (by omega); subst hj; exact (all2_done _ hI.2.1 hI.2.2).symm))) .nil) (.dd .nil) rfl
end Go.Proofs

namespace Go.Proofs
open Go Go.Proofs Go.Ev

theorem c_l6Leq (a : Env) (b : Env) (hj : a.live = true → b.live = true → a.ints.length = b.ints.length ∧ a.arrs.length = b.arrs.length) (hb : a.ints.length ≤ 1048576 ∧ a.arrs.length ≤ 1048576 ∧ b.ints.length ≤ 1048576 ∧ b.arrs.length ≤ 1048576) : Trip Tryz.prog 184 [(true, 3), (true, 3)] (Env.c106 a ++ Env.c106 b) [(false, 1)] [.v (.bool (Env.leq a b))] [] := by
 refine Trip.of Tryz.func184 (by decide) (c := _) rfl rfl (shB_ok rfl) (Nat.le_of_ble_eq_true rfl) rfl (AftOk.nil _) <| .sla (t := 0) 1 rfl rfl fun hs1l => .sla (t := 0) 2 rfl rfl fun hs2l => .sla (t := 1) 1 rfl rfl fun hs3l => .sla (t := 1) 2 rfl rfl fun hs4l => .seq <| .rs fun k5 => .g (fun _ τ => ⟨_, .box (.no rfl) rfl rfl rfl rfl rfl τ⟩) <| .g (fun _ τ => ⟨_, .box (.no rfl) rfl rfl rfl rfl rfl τ⟩) ?_
 refine .as rfl <| .z <| .seq <| .seq ?_
 refine .reg (X := Unit) (fun ζ => .of [(2, .one (.ptr [2] (k5) 0)), (3, .one (.ptr [3] (k5 + 1) 0)), (15, .one (.d (.v (.bool ((!a.live || !b.live))))))] [([2], (k5, k5, .box [.d (.v (.bool (a.live))), .d (.sl false 182 2 (List.map Iv.c (a.ints))), .d (.sl false 182 2 (List.map Iv.c (a.arrs)))])), ([3], (k5 + 1, k5 + 1, .box [.d (.v (.bool (b.live))), .d (.sl false 182 2 (List.map Iv.c (b.ints))), .d (.sl false 182 2 (List.map Iv.c (b.arrs)))]))]) [⟨[2], some 8, [], []⟩, ⟨[8], some 9, [[2]], []⟩, ⟨[9], some 10, [], []⟩, ⟨[10], some 11, [], []⟩, ⟨[11, 3], some 12, [], []⟩, ⟨[11, 12], some 13, [[3]], []⟩, ⟨[11, 13], some 14, [], []⟩, ⟨[11, 14], some 15, [], []⟩] (fun k6 => ?_) ?_
 ·skip
  refine .fieldAddrP (.no rfl) rfl t106 rfl rfl t4 rfl rfl rfl rfl <| .load (.no rfl) rfl t4 rfl rfl (.ptr _ _ _ _ _ rfl) rfl rfl rfl rfl <| .un (.no rfl) rfl rfl rfl rfl rfl <| .moveB (.no rfl) rfl rfl rfl rfl fun b7 g1_3 => ?_
  cases b7
  ·skip
   refine .fieldAddrP (.on rfl rfl rfl rfl rfl) rfl t106 rfl rfl t4 rfl rfl rfl rfl <| .load (.on rfl rfl rfl rfl rfl) rfl t4 rfl rfl (.ptr _ _ _ _ _ rfl) rfl rfl rfl rfl <| .un (.on rfl rfl rfl rfl rfl) rfl rfl rfl rfl rfl <| .pick (.no rfl) rfl rfl rfl rfl rfl ?_
   exact .fin () (.of (.cons rfl (.cons rfl (.cons (svB (show (!b.live) = ((!a.live || !b.live)) by first | (simp only [g1_3, Bool.true_or, Bool.false_or, Bool.true_and, Bool.false_and, Bool.not_true, Bool.not_false]; done) | simp [g1_3])) .nil))) (.r rfl))
  ·skip
   refine .off rfl rfl rfl rfl rfl rfl rfl <| .off rfl rfl rfl rfl rfl rfl rfl <| .off rfl rfl rfl rfl rfl rfl rfl <| .pick (.no rfl) rfl rfl rfl rfl rfl ?_
   exact .fin () (.of (.cons rfl (.cons rfl (.cons (svB (show (true) = ((!a.live || !b.live)) by first | (simp only [g1_3, Bool.true_or, Bool.false_or, Bool.true_and, Bool.false_and, Bool.not_true, Bool.not_false]; done) | simp [g1_3])) .nil))) (.r rfl))
 intro _
 refine .cond (t := (!a.live || !b.live)) rfl (fun c0 => ?_) (fun c0 => ?_)
 ·have c0 := (oT (nT id) (nT id)) c0
  refine .seq <| .rs fun k8 => .fp t106 t4 rfl <| .ld t4 rfl (.ptr _ _ _ _ _ rfl) rfl <| .un rfl <| .as rfl <| .z <| .ret ?_
  exact fin0 (.inr rfl) (.one (svB (show (!a.live) = (Env.leq a b) by (unfold Env.leq; cases h1 : a.live <;> cases h2 : b.live <;> simp_all))) .nil) (.dd .nil) rfl
 ·have c0 := (oF (nF id) (nF id)) c0
  refine .skip <| .seq <| .rs fun k10 => .lda t106 rfl (.ptr _ _ _ _ _ rfl) rfl <| .c0 (c_l6List a (by omega)) rfl (.dd (.dd (.dd .nil))) (.frz [20, 0] (Frz.of_erase (erase_slo _ _ _ _ _ _ Iv.c_e)) .nil) rfl <| .as rfl <| .z <| .seq <| .rs fun k11 => ?_
  refine .lda t106 rfl (.ptr _ _ _ _ _ rfl) rfl <| .c0 (c_l6List b (by omega)) rfl (.dd (.dd (.dd .nil))) (.frz [22, 0] (Frz.of_erase (erase_slo _ _ _ _ _ _ Iv.c_e)) .nil) rfl <| .as rfl <| .z <| .seq <| .seq <| .rs fun k12 => .as rfl <| .z ?_
  refine .block ?_
  refine .loop (X := Nat) (fun ζ => .of [(5, .one (.d (.sl false 182 2 (List.map Iv.c (a.ints ++ a.arrs))))), (6, .one (.d (.sl false 182 2 (List.map Iv.c (b.ints ++ b.arrs))))), (7, .one (.d (.v (.int .i64 ((ζ : Int))))))] []) (fun ζ => ζ ≤ (a.ints ++ a.arrs).length ∧ allTo ζ (fun i => Iv.leq ((a.ints ++ a.arrs).getD i default) ((b.ints ++ b.arrs).getD i default)) = true) (fun ζ => (a.ints ++ a.arrs).length - ζ) ?_ ?_
  ·skip
   exact .here 0 (.of (.cons rfl (.cons rfl (.cons (svI (show (0) = ((0 : Int)) by first | rfl | omega | exact wrap_le (by omega) (by omega) | (rw [wrap_le (by omega) (by omega)]; omega))) .nil))) .nil) (show 0 ≤ (a.ints ++ a.arrs).length ∧ allTo 0 (fun i => Iv.leq ((a.ints ++ a.arrs).getD i default) ((b.ints ++ b.arrs).getD i default)) = true by exact ⟨by omega, rfl⟩)
  ·rintro j hI
   have hI : j ≤ (a.ints ++ a.arrs).length ∧ allTo j (fun i => Iv.leq ((a.ints ++ a.arrs).getD i default) ((b.ints ++ b.arrs).getD i default)) = true := hI
   have hn9 : (a.ints ++ a.arrs).length ≤ 3145728 := by simp; omega
   have hn8 : (a.ints ++ a.arrs).length = (b.ints ++ b.arrs).length := by have := hj c0.1 c0.2; simp; omega
   refine .seq <| .seq <| .rs fun k13 => .mv rfl <| .mv rfl <| .g (fun _ τ => ⟨_, .len (.no rfl) rfl (z := ((a.ints ++ a.arrs).length : Int)) t104 rfl rfl rfl (.d _ _) (map_len _ _) rfl τ⟩) <| .bi rfl <| .z ?_
   refine .cond (t := decide ((j : Int) < ((a.ints ++ a.arrs).length : Int))) rfl (fun c1 => ?_) (fun c1 => ?_)
   ·have c1 := of_decide_eq_true c1
    refine .skip <| .seq <| .block <| .seq ?_
    refine .regD (X := Unit) (by kernel_rfl) (fun ζ => .of [(5, .one (.d (.sl false 182 2 (List.map Iv.c (a.ints ++ a.arrs))))), (6, .one (.d (.sl false 182 2 (List.map Iv.c (b.ints ++ b.arrs))))), (7, .one (.d (.v (.int .i64 ((j : Int)))))), (38, .one (.d (.v (.bool (!(Iv.leq ((a.ints ++ a.arrs).getD (j) default) ((b.ints ++ b.arrs).getD (j) default)))))))] []) [⟨[5], some 29, [], []⟩, ⟨[7], some 30, [], []⟩, ⟨[29, 30], some 31, [], []⟩, ⟨[31], some 32, [], []⟩, ⟨[6], some 33, [], []⟩, ⟨[7], some 34, [], []⟩, ⟨[33, 34], some 35, [], []⟩, ⟨[35], some 36, [], []⟩, ⟨[32, 36], some 37, [], []⟩, ⟨[37], some 38, [], []⟩] (by kernel_rfl) (fun k14 => ?_) ?_
    ·skip
     refine .move (.no rfl) rfl rfl rfl rfl <| .move (.no rfl) rfl rfl rfl rfl <| .indexAddr (.no rfl) rfl (j) t104 rfl t182 rfl rfl rfl (.d _ _) rfl rfl rfl (map_get (by omega)) rfl rfl <| .load (.no rfl) rfl t182 rfl rfl (.d _) rfl rfl rfl rfl <| .move (.no rfl) rfl rfl rfl rfl <| .move (.no rfl) rfl rfl rfl rfl <| .indexAddr (.no rfl) rfl (j) t104 rfl t182 rfl rfl rfl (.d _ _) rfl rfl rfl (map_get (by omega)) rfl rfl <| .load (.no rfl) rfl t182 rfl rfl (.d _) rfl rfl rfl rfl <| .call (.no rfl) rfl [] [] (c_sIvLeq ((a.ints ++ a.arrs).getD (j) default) ((b.ints ++ b.arrs).getD (j) default)) rfl rfl rfl rfl rfl (.dd (.dd (.dd (.dd .nil)))) rfl rfl (fun h => absurd rfl h) (.own [37, 0] .nil) (.nil) rfl rfl rfl (by simp) rfl rfl rfl ?_
     refine .un (.no rfl) rfl rfl rfl rfl rfl ?_
     exact .fin () (.of (.r rfl) .nil)
    intro _
    refine .cond (t := !(Iv.leq ((a.ints ++ a.arrs).getD (j) default) ((b.ints ++ b.arrs).getD (j) default))) rfl (fun c2 => ?_) (fun c2 => ?_)
    ·have c2 := (nT id) c2
     refine .seq <| .rs fun k15 => .as rfl <| .z <| .ret ?_
     exact fin0 (.inr rfl) (.one (svB (show (false) = (Env.leq a b) by (rw [Env.leq_app c0.1 c0.2 (hj c0.1 c0.2).1, allTo_fail (j := j) (by omega) c2]))) .nil) (.dd .nil) rfl
    ·have c2 := (nF id) c2
     refine .skip <| .rs fun k17 => .mv rfl <| .bi rfl <| .as rfl <| .z ?_
     exact .here (j + 1) (.of (.cons rfl (.cons rfl (.cons (svI (show (IntKind.wrap .i64 ((j : Int) + 1)) = (((j + 1) : Int)) by first | rfl | omega | exact wrap_le (by omega) (by omega) | (rw [wrap_le (by omega) (by omega)]; omega))) .nil))) .nil) ⟨(show (j + 1) ≤ (a.ints ++ a.arrs).length ∧ allTo (j + 1) (fun i => Iv.leq ((a.ints ++ a.arrs).getD i default) ((b.ints ++ b.arrs).getD i default)) = true by exact ⟨by omega, allTo_step hI.2 c2⟩), (show (a.ints ++ a.arrs).length - (j + 1) < (a.ints ++ a.arrs).length - j by omega)⟩
   ·have c1 := of_decide_eq_false c1
    refine .exit <| .seq <| .rs fun k18 => .as rfl <| .z <| .ret ?_
    exact fin0 (.inr rfl) (.one (svB (show (true) = (Env.leq a b) by (rw [Env.leq_app c0.1 c0.2 (hj c0.1 c0.2).1]; exact (allTo_le (by omega) hI.2).symm))) .nil) (.dd .nil) rfl
theorem c_leq (e : Env) (b : Env) (hj : e.live = true → b.live = true → e.ints.length = b.ints.length ∧ e.arrs.length = b.arrs.length) : Trip Tryz.prog 187 [(true, 3), (true, 3)] (Env.c106 e ++ Env.c106 b) [(false, 1)] [.v (.bool (Env.leq e b))] [] := by
 refine Trip.of Tryz.func187 (by decide) (c := _) rfl rfl (shB_ok rfl) (Nat.le_of_ble_eq_true rfl) rfl (AftOk.nil _) <| .sla (t := 0) 1 rfl rfl fun hs1l => .sla (t := 0) 2 rfl rfl fun hs2l => .sla (t := 1) 1 rfl rfl fun hs3l => .sla (t := 1) 2 rfl rfl fun hs4l => .seq <| .rs fun k5 => .g (fun _ τ => ⟨_, .box (.no rfl) rfl rfl rfl rfl rfl τ⟩) <| .g (fun _ τ => ⟨_, .box (.no rfl) rfl rfl rfl rfl rfl τ⟩) ?_
 refine .as rfl <| .z <| .seq <| .block <| .seq <| .rs fun k6 => .fp t106 t4 rfl <| .ld t4 rfl (.ptr _ _ _ _ _ rfl) rfl <| .un rfl ?_
 refine .as rfl <| .z ?_
 refine .cond (t := !e.live) rfl (fun c0 => ?_) (fun c0 => ?_)
 ·have c0 := (nT id) c0
  refine .seq <| .rs fun k7 => .as rfl <| .z <| .ret ?_
  exact fin0 (.inr rfl) (.one (svB (show (true) = (Env.leq e b) by simp [Env.leq, c0])) .nil) (.dd .nil) rfl
 ·have c0 := (nF id) c0
  refine .seq <| .rs fun k9 => .fp t106 t4 rfl <| .ld t4 rfl (.ptr _ _ _ _ _ rfl) rfl <| .un rfl <| .as rfl <| .z ?_
  refine .cond (t := !b.live) rfl (fun c1 => ?_) (fun c1 => ?_)
  ·have c1 := (nT id) c1
   refine .seq <| .rs fun k10 => .as rfl <| .z <| .ret ?_
   exact fin0 (.inr rfl) (.one (svB (show (false) = (Env.leq e b) by simp [Env.leq, c0, c1])) .nil) (.dd .nil) rfl
  ·have c1 := (nF id) c1
   refine .skip <| .seq <| .seq <| .rs fun k12 => .fp t106 t104 rfl <| .ld t104 rfl (.ptr _ _ _ _ _ rfl) rfl <| .g (fun _ τ => ⟨_, .len (.no rfl) rfl (z := (e.ints.length : Int)) t104 rfl rfl rfl (.d _ _) (map_len _ _) rfl τ⟩) <| .mv rfl <| .z ?_
   refine .block ?_
   refine .loop (X := Nat) (fun ζ => .of [(2, .one (.ptr [2] (k5) 0)), (3, .one (.ptr [3] (k5 + 1) 0)), (18, .one (.d (.sl false 182 2 (List.map Iv.c (e.ints))))), (19, .one (.d (.v (.int .i64 ((e.ints.length : Int)))))), (20, .one (.d (.v (.int .i64 ((ζ : Int))))))] [([2], (k5, k5, .box [.d (.v (.bool (e.live))), .d (.sl false 182 2 (List.map Iv.c (e.ints))), .d (.sl false 182 2 (List.map Iv.c (e.arrs)))])), ([3], (k5 + 1, k5 + 1, .box [.d (.v (.bool (b.live))), .d (.sl false 182 2 (List.map Iv.c (b.ints))), .d (.sl false 182 2 (List.map Iv.c (b.arrs)))]))]) (fun ζ => ζ ≤ e.ints.length ∧ allTo ζ (fun x => Iv.leq (e.ints.getD x default) (b.ints.getD x default)) = true) (fun ζ => e.ints.length - ζ) ?_ ?_
   ·skip
    exact .here 0 (.of (.cons rfl (.cons rfl (.cons rfl (.cons rfl (.cons (svI (show (0) = ((0 : Int)) by first | rfl | omega | exact wrap_le (by omega) (by omega) | (rw [wrap_le (by omega) (by omega)]; omega))) .nil))))) (.r rfl)) (show 0 ≤ e.ints.length ∧ allTo 0 (fun x => Iv.leq (e.ints.getD x default) (b.ints.getD x default)) = true by exact ⟨by omega, rfl⟩)
   ·rintro j hI
    have hI : j ≤ e.ints.length ∧ allTo j (fun x => Iv.leq (e.ints.getD x default) (b.ints.getD x default)) = true := hI
    have hj9 := hj c0 c1
    refine .seq <| .rs fun k13 => .bi rfl <| .z <| .seq ?_
    refine .cond (t := decide ((j : Int) < (e.ints.length : Int))) rfl (fun c2 => ?_) (fun c2 => ?_)
    ·have c2 := of_decide_eq_true c2
     refine .skip <| .seq <| .block <| .seq <| .rs fun k14 => .mv rfl <| .g (fun _ τ => ⟨_, .indexAddr (.no rfl) rfl (j) t104 rfl t182 rfl rfl rfl (.d _ _) rfl rfl rfl (map_get (by omega)) rfl rfl τ⟩) <| .lda t182 rfl (.d _) rfl <| .g (fun _ τ => ⟨_, .alloc (.no rfl) rfl z182 rfl rfl rfl τ⟩) ?_
     refine .as rfl <| .g (fun _ τ => ⟨_, .store (.no rfl) rfl t182 rfl rfl rfl rfl rfl rfl rfl rfl rfl τ⟩) <| .z <| .seq ?_
     refine .regD (X := Unit) (by kernel_rfl) (fun ζ => .of [(2, .one (.ptr [2] (k5) 0)), (3, .one (.ptr [3] (k5 + 1) 0)), (18, .one (.d (.sl false 182 2 (List.map Iv.c (e.ints))))), (19, .one (.d (.v (.int .i64 ((e.ints.length : Int)))))), (20, .one (.d (.v (.int .i64 ((j : Int)))))), (32, .one (.d (.v (.bool (!(Iv.leq (e.ints.getD j default) (b.ints.getD j default)))))))] [([2], (k5, k5, .box [.d (.v (.bool (e.live))), .d (.sl false 182 2 (List.map Iv.c (e.ints))), .d (.sl false 182 2 (List.map Iv.c (e.arrs)))])), ([3], (k5 + 1, k5 + 1, .box [.d (.v (.bool (b.live))), .d (.sl false 182 2 (List.map Iv.c (b.ints))), .d (.sl false 182 2 (List.map Iv.c (b.arrs)))]))]) [⟨[6], some 25, [[6]], []⟩, ⟨[3], some 26, [], []⟩, ⟨[26], some 27, [[3]], []⟩, ⟨[5], some 28, [], []⟩, ⟨[27, 28], some 29, [], []⟩, ⟨[29], some 30, [], []⟩, ⟨[25, 30], some 31, [], []⟩, ⟨[31], some 32, [], []⟩] (by kernel_rfl) (fun k15 => ?_) ?_
     ·skip
      refine .load (.no rfl) rfl t182 rfl rfl (.ptr _ _ _ _ _ rfl) rfl rfl rfl rfl <| .fieldAddrP (.no rfl) rfl t106 rfl rfl t104 rfl rfl rfl rfl <| .load (.no rfl) rfl t104 rfl rfl (.ptr _ _ _ _ _ rfl) rfl rfl rfl rfl <| .move (.no rfl) rfl rfl rfl rfl <| .indexAddr (.no rfl) rfl (j) t104 rfl t182 rfl rfl rfl (.d _ _) rfl rfl rfl (map_get (by omega)) rfl rfl <| .load (.no rfl) rfl t182 rfl rfl (.d _) rfl rfl rfl rfl <| .call (.no rfl) rfl [] [] (c_IvLeq (e.ints.getD j default) (b.ints.getD j default)) rfl rfl rfl rfl rfl (.dd (.dd (.dd (.dd .nil)))) rfl rfl (fun h => absurd rfl h) (.own [31, 0] .nil) (.nil) rfl rfl rfl (by simp) rfl rfl rfl <| .un (.no rfl) rfl rfl rfl rfl rfl ?_
      exact .fin () (.of (.r rfl) (.r rfl))
     intro _
     refine .cond (t := !(Iv.leq (e.ints.getD j default) (b.ints.getD j default))) rfl (fun c3 => ?_) (fun c3 => ?_)
     ·have c3 := (nT id) c3
      refine .seq <| .rs fun k16 => .as rfl <| .z <| .ret ?_
      exact fin0 (.inr rfl) (.one (svB (show (false) = (Env.leq e b) by (unfold Env.leq; rw [if_pos c0, if_pos c1, allTo_fail (j := j) (by omega) c3]; rfl))) .nil) (.dd .nil) rfl
     ·have c3 := (nF id) c3
      refine .skip <| .rs fun k18 => .bi rfl <| .mv rfl <| .z ?_
      exact .here (j + 1) (.of (.cons rfl (.cons rfl (.cons rfl (.cons rfl (.cons (svI (show (IntKind.wrap .i64 ((j : Int) + 1)) = (((j + 1) : Int)) by first | rfl | omega | exact wrap_le (by omega) (by omega) | (rw [wrap_le (by omega) (by omega)]; omega))) .nil))))) (.r rfl)) ⟨(show (j + 1) ≤ e.ints.length ∧ allTo (j + 1) (fun x => Iv.leq (e.ints.getD x default) (b.ints.getD x default)) = true by exact ⟨by omega, allTo_step hI.2 c3⟩), (show e.ints.length - (j + 1) < e.ints.length - j by omega)⟩
    ·have c2 := of_decide_eq_false c2
     refine .exit <| .seq <| .seq <| .rs fun k19 => .fp t106 t104 rfl <| .ld t104 rfl (.ptr _ _ _ _ _ rfl) rfl <| .g (fun _ τ => ⟨_, .len (.no rfl) rfl (z := (e.arrs.length : Int)) t104 rfl rfl rfl (.d _ _) (map_len _ _) rfl τ⟩) <| .mv rfl <| .z ?_
     refine .block ?_
     refine .loop (X := Nat) (fun ζ => .of [(3, .one (.ptr [3] (k5 + 1) 0)), (35, .one (.d (.sl false 182 2 (List.map Iv.c (e.arrs))))), (36, .one (.d (.v (.int .i64 ((e.arrs.length : Int)))))), (37, .one (.d (.v (.int .i64 ((ζ : Int))))))] [([3], (k5 + 1, k5 + 1, .box [.d (.v (.bool (b.live))), .d (.sl false 182 2 (List.map Iv.c (b.ints))), .d (.sl false 182 2 (List.map Iv.c (b.arrs)))]))]) (fun ζ => ζ ≤ e.arrs.length ∧ allTo ζ (fun x => Iv.leq (e.arrs.getD x default) (b.arrs.getD x default)) = true) (fun ζ => e.arrs.length - ζ) ?_ ?_
     ·skip
      exact .here 0 (.of (.cons rfl (.cons rfl (.cons rfl (.cons (svI (show (0) = ((0 : Int)) by first | rfl | omega | exact wrap_le (by omega) (by omega) | (rw [wrap_le (by omega) (by omega)]; omega))) .nil)))) (.r rfl)) (show 0 ≤ e.arrs.length ∧ allTo 0 (fun x => Iv.leq (e.arrs.getD x default) (b.arrs.getD x default)) = true by exact ⟨by omega, rfl⟩)
     ·rintro i hI
      have hI : i ≤ e.arrs.length ∧ allTo i (fun x => Iv.leq (e.arrs.getD x default) (b.arrs.getD x default)) = true := hI
      have hj9 := hj c0 c1
      have hI0 := ‹j ≤ e.ints.length ∧ _›
      refine .seq <| .rs fun k20 => .bi rfl <| .z <| .seq ?_
      refine .cond (t := decide ((i : Int) < (e.arrs.length : Int))) rfl (fun c4 => ?_) (fun c4 => ?_)
      ·have c4 := of_decide_eq_true c4
       refine .skip <| .seq <| .block <| .seq <| .rs fun k21 => .mv rfl <| .g (fun _ τ => ⟨_, .indexAddr (.no rfl) rfl (i) t104 rfl t182 rfl rfl rfl (.d _ _) rfl rfl rfl (map_get (by omega)) rfl rfl τ⟩) <| .lda t182 rfl (.d _) rfl <| .g (fun _ τ => ⟨_, .alloc (.no rfl) rfl z182 rfl rfl rfl τ⟩) ?_
       refine .as rfl <| .g (fun _ τ => ⟨_, .store (.no rfl) rfl t182 rfl rfl rfl rfl rfl rfl rfl rfl rfl τ⟩) <| .z <| .seq ?_
       refine .regD (X := Unit) (by kernel_rfl) (fun ζ => .of [(3, .one (.ptr [3] (k5 + 1) 0)), (35, .one (.d (.sl false 182 2 (List.map Iv.c (e.arrs))))), (36, .one (.d (.v (.int .i64 ((e.arrs.length : Int)))))), (37, .one (.d (.v (.int .i64 ((i : Int)))))), (49, .one (.d (.v (.bool (!(Iv.leq (e.arrs.getD i default) (b.arrs.getD i default)))))))] [([3], (k5 + 1, k5 + 1, .box [.d (.v (.bool (b.live))), .d (.sl false 182 2 (List.map Iv.c (b.ints))), .d (.sl false 182 2 (List.map Iv.c (b.arrs)))]))]) [⟨[8], some 42, [[8]], []⟩, ⟨[3], some 43, [], []⟩, ⟨[43], some 44, [[3]], []⟩, ⟨[7], some 45, [], []⟩, ⟨[44, 45], some 46, [], []⟩, ⟨[46], some 47, [], []⟩, ⟨[42, 47], some 48, [], []⟩, ⟨[48], some 49, [], []⟩] (by kernel_rfl) (fun k22 => ?_) ?_
       ·skip
        refine .load (.no rfl) rfl t182 rfl rfl (.ptr _ _ _ _ _ rfl) rfl rfl rfl rfl <| .fieldAddrP (.no rfl) rfl t106 rfl rfl t104 rfl rfl rfl rfl <| .load (.no rfl) rfl t104 rfl rfl (.ptr _ _ _ _ _ rfl) rfl rfl rfl rfl <| .move (.no rfl) rfl rfl rfl rfl <| .indexAddr (.no rfl) rfl (i) t104 rfl t182 rfl rfl rfl (.d _ _) rfl rfl rfl (map_get (by omega)) rfl rfl <| .load (.no rfl) rfl t182 rfl rfl (.d _) rfl rfl rfl rfl <| .call (.no rfl) rfl [] [] (c_IvLeq (e.arrs.getD i default) (b.arrs.getD i default)) rfl rfl rfl rfl rfl (.dd (.dd (.dd (.dd .nil)))) rfl rfl (fun h => absurd rfl h) (.own [48, 0] .nil) (.nil) rfl rfl rfl (by simp) rfl rfl rfl <| .un (.no rfl) rfl rfl rfl rfl rfl ?_
        exact .fin () (.of (.r rfl) (.r rfl))
       intro _
       refine .cond (t := !(Iv.leq (e.arrs.getD i default) (b.arrs.getD i default))) rfl (fun c5 => ?_) (fun c5 => ?_)
       ·have c5 := (nT id) c5
        refine .seq <| .rs fun k23 => .as rfl <| .z <| .ret ?_
        exact fin0 (.inr rfl) (.one (svB (show (false) = (Env.leq e b) by (unfold Env.leq; rw [if_pos c0, if_pos c1, allTo_fail (j := i) (n := e.arrs.length) (by omega) c5, Bool.and_false]))) .nil) (.dd .nil) rfl
       ·have c5 := (nF id) c5
        refine .skip <| .rs fun k25 => .bi rfl <| .mv rfl <| .z ?_
        exact .here (i + 1) (.of (.cons rfl (.cons rfl (.cons rfl (.cons (svI (show (IntKind.wrap .i64 ((i : Int) + 1)) = (((i + 1) : Int)) by first | rfl | omega | exact wrap_le (by omega) (by omega) | (rw [wrap_le (by omega) (by omega)]; omega))) .nil)))) (.r rfl)) ⟨(show (i + 1) ≤ e.arrs.length ∧ allTo (i + 1) (fun x => Iv.leq (e.arrs.getD x default) (b.arrs.getD x default)) = true by exact ⟨by omega, allTo_step hI.2 c5⟩), (show e.arrs.length - (i + 1) < e.arrs.length - i by omega)⟩
      ·have c4 := of_decide_eq_false c4
       refine .exit <| .seq <| .rs fun k26 => .as rfl <| .z <| .ret ?_
       exact fin0 (.inr rfl) (.one (svB (show (true) = (Env.leq e b) by (unfold Env.leq; rw [if_pos c0, if_pos c1, allTo_le (by omega) hI0.2, allTo_le (by omega) hI.2]; rfl))) .nil) (.dd .nil) rfl
end Go.Proofs

namespace Go.Proofs
open Go Go.Proofs Go.Ev

def i174 : TI := ⟨.int .u64, 1, 8, [.int .u64 0]⟩
theorem t174 : TyOk Tryz.prog 174 i174 := ⟨Tryz.underlying174, by kernel_rfl⟩
theorem z174 : ZOk Tryz.prog 174 i174 := ⟨t174, rfl⟩
def i196 : TI := ⟨.fn, 1, 8, [.nilFunc]⟩
theorem t196 : TyOk Tryz.prog 196 i196 := ⟨⟨_, _, _, Tryz.underlying196⟩, by kernel_rfl⟩
theorem z196 : ZOk Tryz.prog 196 i196 := ⟨t196, rfl⟩
theorem c_l8Leq (a : List Env) (b : List Env) (hl : a.length = b.length ∧ a.length ≤ 1048576) (hf : ∀ i, i < a.length → (a.getD i default).live = true → (b.getD i default).live = true → (a.getD i default).ints.length = (b.getD i default).ints.length ∧ (a.getD i default).arrs.length = (b.getD i default).arrs.length) (hx : ∀ x ∈ a, x.ints.length ≤ 1048576 ∧ x.arrs.length ≤ 1048576) (hy : ∀ x ∈ b, x.ints.length ≤ 1048576 ∧ x.arrs.length ≤ 1048576) : Trip Tryz.prog 144 [(false, 1), (false, 1)] ([.sl false 106 3 (List.map Env.c106 (a))] ++ [.sl false 106 3 (List.map Env.c106 (b))]) [(false, 1)] [.v (.bool (tabLeq a b))] [] := by
 refine Trip.of Tryz.func144 (by decide) (c := _) rfl rfl (shB_ok rfl) (Nat.le_of_ble_eq_true rfl) rfl (AftOk.nil _) <| .sl (t := 0) rfl fun hs1l => .sl (t := 1) rfl fun hs2l => .seq <| .rs fun k3 => .as rfl <| .z <| .seq <| .seq ?_
 refine .rs fun k4 => .as rfl <| .z <| .block ?_
 refine .loop (X := Nat) (fun ζ => .of [(0, .one (.d (.sl false 106 3 (List.map Env.c106 (a))))), (1, .one (.d (.sl false 106 3 (List.map Env.c106 (b))))), (5, .one (.d (.v (.int .i64 ((ζ : Int))))))] []) (fun ζ => ζ ≤ a.length ∧ allTo ζ (fun i => Env.leq (a.getD i default) (b.getD i default)) = true) (fun ζ => a.length - ζ) ?_ ?_
 ·skip
  exact .here 0 (.of (.cons rfl (.cons rfl (.cons (svI (show (0) = ((0 : Int)) by first | rfl | omega | exact wrap_le (by omega) (by omega) | (rw [wrap_le (by omega) (by omega)]; omega))) .nil))) .nil) (show 0 ≤ a.length ∧ allTo 0 (fun i => Env.leq (a.getD i default) (b.getD i default)) = true by exact ⟨by omega, rfl⟩)
 ·rintro j hI
  have hI : j ≤ a.length ∧ allTo j (fun i => Env.leq (a.getD i default) (b.getD i default)) = true := hI
  refine .seq <| .seq <| .rs fun k5 => .mv rfl <| .mv rfl <| .g (fun _ τ => ⟨_, .len (.no rfl) rfl (z := (a.length : Int)) t46 rfl rfl rfl (.d _ _) (map_len _ _) rfl τ⟩) <| .bi rfl <| .z ?_
  refine .cond (t := decide ((j : Int) < (a.length : Int))) rfl (fun c0 => ?_) (fun c0 => ?_)
  ·have c0 := of_decide_eq_true c0
   refine .skip <| .seq <| .block <| .seq ?_
   refine .regD (X := Unit) (by kernel_rfl) (fun ζ => .of [(0, .one (.d (.sl false 106 3 (List.map Env.c106 (a))))), (1, .one (.d (.sl false 106 3 (List.map Env.c106 (b))))), (5, .one (.d (.v (.int .i64 ((j : Int)))))), (21, .one (.d (.v (.bool (!(Env.leq (a.getD j default) (b.getD j default)))))))] []) [⟨[0], some 12, [], []⟩, ⟨[5], some 13, [], []⟩, ⟨[12, 13], some 14, [], []⟩, ⟨[14], some 15, [], []⟩, ⟨[1], some 16, [], []⟩, ⟨[5], some 17, [], []⟩, ⟨[16, 17], some 18, [], []⟩, ⟨[18], some 19, [], []⟩, ⟨[15, 19], some 20, [], []⟩, ⟨[20], some 21, [], []⟩] (by kernel_rfl) (fun k6 => ?_) ?_
   ·skip
    refine .move (.no rfl) rfl rfl rfl rfl <| .move (.no rfl) rfl rfl rfl rfl <| .indexAddr (.no rfl) rfl (j) t46 rfl t106 rfl rfl rfl (.d _ _) rfl rfl rfl (map_get (by omega)) rfl rfl <| .load (.no rfl) rfl t106 rfl rfl (.d _) rfl rfl rfl rfl <| .move (.no rfl) rfl rfl rfl rfl <| .move (.no rfl) rfl rfl rfl rfl <| .indexAddr (.no rfl) rfl (j) t46 rfl t106 rfl rfl rfl (.d _ _) rfl rfl rfl (map_get (by omega)) rfl rfl <| .load (.no rfl) rfl t106 rfl rfl (.d _) rfl rfl rfl rfl ?_
    refine .call (.no rfl) rfl [] [] (c_l6Leq (a.getD j default) (b.getD j default) (by first | exact hf j (by omega) | (have h8 := hx _ (getD_mem (j := j) (by omega)); have h9 := hy _ (getD_mem (j := j) (by omega)); omega)) (by first | exact hf j (by omega) | (have h8 := hx _ (getD_mem (j := j) (by omega)); have h9 := hy _ (getD_mem (j := j) (by omega)); omega))) rfl rfl rfl rfl rfl (.dd (.dd (.dd (.dd (.dd (.dd .nil)))))) rfl rfl (fun h => absurd rfl h) (.own [20, 0] .nil) (.nil) rfl rfl rfl (by simp) rfl rfl rfl <| .un (.no rfl) rfl rfl rfl rfl rfl ?_
    exact .fin () (.of (.r rfl) .nil)
   intro _
   refine .cond (t := !(Env.leq (a.getD j default) (b.getD j default))) rfl (fun c1 => ?_) (fun c1 => ?_)
   ·have c1 := (nT id) c1
    refine .seq <| .rs fun k7 => .as rfl <| .z <| .ret ?_
    exact fin0 (.inr rfl) (.one (svB (show (false) = (tabLeq a b) by (unfold tabLeq; rw [allTo_fail (j := j) (by omega) c1]))) .nil) (.dd .nil) rfl
   ·have c1 := (nF id) c1
    refine .skip <| .rs fun k9 => .mv rfl <| .bi rfl <| .as rfl <| .z ?_
    exact .here (j + 1) (.of (.cons rfl (.cons rfl (.cons (svI (show (IntKind.wrap .i64 ((j : Int) + 1)) = (((j + 1) : Int)) by first | rfl | omega | exact wrap_le (by omega) (by omega) | (rw [wrap_le (by omega) (by omega)]; omega))) .nil))) .nil) ⟨(show (j + 1) ≤ a.length ∧ allTo (j + 1) (fun i => Env.leq (a.getD i default) (b.getD i default)) = true by exact ⟨by omega, allTo_step hI.2 c1⟩), (show a.length - (j + 1) < a.length - j by omega)⟩
  ·have c0 := of_decide_eq_false c0
   refine .exit <| .seq <| .rs fun k10 => .as rfl <| .z <| .ret ?_
   exact fin0 (.inr rfl) (.one (svB (show (true) = (tabLeq a b) by (unfold tabLeq; exact (allTo_le (by omega) hI.2).symm))) .nil) (.dd .nil) rfl
theorem c_tableLeq (a : List Env) (b : List Env) (hl : a.length = b.length ∧ a.length ≤ 1048576) (hf : ∀ i, i < a.length → (a.getD i default).live = true → (b.getD i default).live = true → (a.getD i default).ints.length = (b.getD i default).ints.length ∧ (a.getD i default).arrs.length = (b.getD i default).arrs.length) (hx : ∀ x ∈ a, x.ints.length ≤ 1048576 ∧ x.arrs.length ≤ 1048576) (hy : ∀ x ∈ b, x.ints.length ≤ 1048576 ∧ x.arrs.length ≤ 1048576) : Trip Tryz.prog 146 [(false, 1), (false, 1)] ([.sl false 106 3 (List.map Env.c106 (a))] ++ [.sl false 106 3 (List.map Env.c106 (b))]) [(false, 1)] [.v (.bool (tabLeq a b))] [] := by
 refine Trip.of Tryz.func146 (by decide) (c := _) rfl rfl (shB_ok rfl) (Nat.le_of_ble_eq_true rfl) rfl (AftOk.nil _) <| .sl (t := 0) rfl fun hs1l => .sl (t := 1) rfl fun hs2l => .seq <| .rs fun k3 => .as rfl <| .z <| .seq <| .seq ?_
 refine .rs fun k4 => .mv rfl <| .g (fun _ τ => ⟨_, .len (.no rfl) rfl (z := (a.length : Int)) t46 rfl rfl rfl (.d _ _) (map_len _ _) rfl τ⟩) <| .mv rfl <| .z <| .block ?_
 refine .loop (X := Nat) (fun ζ => .of [(1, .one (.d (.sl false 106 3 (List.map Env.c106 (b))))), (7, .one (.d (.sl false 106 3 (List.map Env.c106 (a))))), (8, .one (.d (.v (.int .i64 ((a.length : Int)))))), (9, .one (.d (.v (.int .i64 ((ζ : Int))))))] []) (fun ζ => ζ ≤ a.length ∧ allTo ζ (fun i => Env.leq (a.getD i default) (b.getD i default)) = true) (fun ζ => a.length - ζ) ?_ ?_
 ·skip
  exact .here 0 (.of (.cons rfl (.cons rfl (.cons rfl (.cons (svI (show (0) = ((0 : Int)) by first | rfl | omega | exact wrap_le (by omega) (by omega) | (rw [wrap_le (by omega) (by omega)]; omega))) .nil)))) .nil) (show 0 ≤ a.length ∧ allTo 0 (fun i => Env.leq (a.getD i default) (b.getD i default)) = true by exact ⟨by omega, rfl⟩)
 ·rintro j hI
  have hI : j ≤ a.length ∧ allTo j (fun i => Env.leq (a.getD i default) (b.getD i default)) = true := hI
  refine .seq <| .rs fun k5 => .bi rfl <| .z <| .seq ?_
  refine .cond (t := decide ((j : Int) < (a.length : Int))) rfl (fun c0 => ?_) (fun c0 => ?_)
  ·have c0 := of_decide_eq_true c0
   refine .skip <| .seq <| .block <| .seq <| .rs fun k6 => .mv rfl <| .g (fun _ τ => ⟨_, .indexAddr (.no rfl) rfl (j) t46 rfl t106 rfl rfl rfl (.d _ _) rfl rfl rfl (map_get (by omega)) rfl rfl τ⟩) <| .lda t106 rfl (.d _) rfl <| .g (fun _ τ => ⟨_, .alloc (.no rfl) rfl z106 rfl rfl rfl τ⟩) ?_
   refine .as rfl <| .g (fun _ τ => ⟨_, .store (.no rfl) rfl t106 rfl rfl rfl rfl rfl rfl rfl rfl rfl τ⟩) <| .z <| .seq ?_
   refine .regD (X := Unit) (by kernel_rfl) (fun ζ => .of [(1, .one (.d (.sl false 106 3 (List.map Env.c106 (b))))), (7, .one (.d (.sl false 106 3 (List.map Env.c106 (a))))), (8, .one (.d (.v (.int .i64 ((a.length : Int)))))), (9, .one (.d (.v (.int .i64 ((j : Int)))))), (20, .one (.d (.v (.bool (!(Env.leq (a.getD j default) (b.getD j default)))))))] []) [⟨[6], some 14, [[6]], []⟩, ⟨[1], some 15, [], []⟩, ⟨[5], some 16, [], []⟩, ⟨[15, 16], some 17, [], []⟩, ⟨[17], some 18, [], []⟩, ⟨[14, 18], some 19, [], []⟩, ⟨[19], some 20, [], []⟩] (by kernel_rfl) (fun k7 => ?_) ?_
   ·skip
    refine .load (.no rfl) rfl t106 rfl rfl (.ptr _ _ _ _ _ rfl) rfl rfl rfl rfl <| .move (.no rfl) rfl rfl rfl rfl <| .move (.no rfl) rfl rfl rfl rfl <| .indexAddr (.no rfl) rfl (j) t46 rfl t106 rfl rfl rfl (.d _ _) rfl rfl rfl (map_get (by omega)) rfl rfl <| .load (.no rfl) rfl t106 rfl rfl (.d _) rfl rfl rfl rfl <| .call (.no rfl) rfl [] [] (c_leq (a.getD j default) (b.getD j default) (by first | exact hf j (by omega) | (have h8 := hx _ (getD_mem (j := j) (by omega)); have h9 := hy _ (getD_mem (j := j) (by omega)); omega))) rfl rfl rfl rfl rfl (.dd (.dd (.dd (.dd (.dd (.dd .nil)))))) rfl rfl (fun h => absurd rfl h) (.own [19, 0] .nil) (.nil) rfl rfl rfl (by simp) rfl rfl rfl <| .un (.no rfl) rfl rfl rfl rfl rfl ?_
    exact .fin () (.of (.r rfl) .nil)
   intro _
   refine .cond (t := !(Env.leq (a.getD j default) (b.getD j default))) rfl (fun c1 => ?_) (fun c1 => ?_)
   ·have c1 := (nT id) c1
    refine .seq <| .rs fun k8 => .as rfl <| .z <| .ret ?_
    exact fin0 (.inr rfl) (.one (svB (show (false) = (tabLeq a b) by (unfold tabLeq; rw [allTo_fail (j := j) (by omega) c1]))) .nil) (.dd .nil) rfl
   ·have c1 := (nF id) c1
    refine .skip <| .rs fun k10 => .bi rfl <| .mv rfl <| .z ?_
    exact .here (j + 1) (.of (.cons rfl (.cons rfl (.cons rfl (.cons (svI (show (IntKind.wrap .i64 ((j : Int) + 1)) = (((j + 1) : Int)) by first | rfl | omega | exact wrap_le (by omega) (by omega) | (rw [wrap_le (by omega) (by omega)]; omega))) .nil)))) .nil) ⟨(show (j + 1) ≤ a.length ∧ allTo (j + 1) (fun i => Env.leq (a.getD i default) (b.getD i default)) = true by exact ⟨by omega, allTo_step hI.2 c1⟩), (show a.length - (j + 1) < a.length - j by omega)⟩
  ·have c0 := of_decide_eq_false c0
   refine .exit <| .seq <| .rs fun k11 => .as rfl <| .z <| .ret ?_
   exact fin0 (.inr rfl) (.one (svB (show (true) = (tabLeq a b) by (unfold tabLeq; exact (allTo_le (by omega) hI.2).symm))) .nil) (.dd .nil) rfl
theorem c_l8Size (d : Decl) : Trip Tryz.prog 89 [(true, 3)] (Decl.c34 d) [(false, 1)] [.v (.int .i64 (leavesOf d))] [] := by
 refine Trip.of Tryz.func89 (by decide) (c := _) rfl rfl (shB_ok rfl) (Nat.le_of_ble_eq_true rfl) rfl (AftOk.nil _) <| .sla (t := 0) 0 rfl rfl fun hs1l => .sla (t := 0) 1 rfl rfl fun hs2l => .sla (t := 0) 2 rfl rfl fun hs3l => .seq <| .rs fun k4 => .g (fun _ τ => ⟨_, .box (.no rfl) rfl rfl rfl rfl rfl τ⟩) <| .as rfl <| .z ?_
 refine .seq <| .rs fun k5 => .fp t34 t22 rfl <| .ld t22 rfl (.ptr _ _ _ _ _ rfl) rfl <| .g (fun _ τ => ⟨_, .len (.no rfl) rfl (z := (d.flags.length : Int)) t22 rfl rfl rfl (.d _ _) (map_len _ _) rfl τ⟩) <| .g (fun _ τ => ⟨_, .conv (.no rfl) rfl t3 t174 rfl rfl rfl rfl (wrap_u64 (by omega) (by omega)) rfl τ⟩) <| .g (fun _ τ => ⟨_, .shl (.no rfl) rfl rfl rfl rfl (by omega) rfl rfl τ⟩) <| .as rfl <| .z ?_
 refine .ret ?_
 exact fin0 (.inr rfl) (.one (svI (show (IntKind.wrap .i64 (1 * 2 ^ (min ((d.flags.length : Int)).toNat (IntKind.bits .i64)))) = (leavesOf d) by rfl)) .nil) (.dd .nil) rfl
theorem c_leaves (d : Decl) : Trip Tryz.prog 94 [(true, 3)] (Decl.c34 d) [(false, 1)] [.v (.int .i64 (leavesOf d))] [] := by
 refine Trip.of Tryz.func94 (by decide) (c := _) rfl rfl (shB_ok rfl) (Nat.le_of_ble_eq_true rfl) rfl (AftOk.nil _) <| .sla (t := 0) 0 rfl rfl fun hs1l => .sla (t := 0) 1 rfl rfl fun hs2l => .sla (t := 0) 2 rfl rfl fun hs3l => .seq <| .rs fun k4 => .g (fun _ τ => ⟨_, .box (.no rfl) rfl rfl rfl rfl rfl τ⟩) <| .as rfl <| .z ?_
 refine .seq <| .rs fun k5 => .fp t34 t22 rfl <| .ld t22 rfl (.ptr _ _ _ _ _ rfl) rfl <| .g (fun _ τ => ⟨_, .len (.no rfl) rfl (z := (d.flags.length : Int)) t22 rfl rfl rfl (.d _ _) (map_len _ _) rfl τ⟩) <| .g (fun _ τ => ⟨_, .shl (.no rfl) rfl rfl rfl rfl (by omega) rfl rfl τ⟩) <| .as rfl <| .z <| .ret ?_
 exact fin0 (.inr rfl) (.one (svI (show (IntKind.wrap .i64 (1 * 2 ^ (min ((d.flags.length : Int)).toNat (IntKind.bits .i64)))) = (leavesOf d) by rfl)) .nil) (.dd .nil) rfl
theorem c_sizeE (l : List Env) : Trip Tryz.prog 159 [(false, 1)] ([.sl false 106 3 (List.map Env.c106 (l))]) [(false, 1)] [.v (.int .i64 ((l.length : Int)))] [] := by
 refine Trip.of Tryz.func159 (by decide) (c := _) rfl rfl (shB_ok rfl) (Nat.le_of_ble_eq_true rfl) rfl (AftOk.nil _) <| .sl (t := 0) rfl fun hs1l => .seq <| .rs fun k2 => .as rfl <| .z <| .seq <| .rs fun k3 => .mv rfl ?_
 refine .g (fun _ τ => ⟨_, .len (.no rfl) rfl (z := (l.length : Int)) t46 rfl rfl rfl (.d _ _) (map_len _ _) rfl τ⟩) <| .as rfl <| .z <| .ret ?_
 exact fin0 (.inr rfl) (.one rfl .nil) (.dd .nil) rfl
theorem c_IndexFuncE (l : List Env) (F_p : FuncId) (first_p : List (Bool × List D)) (caps_p : List D) (p : Env → Bool) (h_p : ∀ (x0 : Env), FnTrip Tryz.prog F_p first_p caps_p [(true, 3)] (Env.c106 x0) [(false, 1)] [.v (.bool (p x0))]) : Trip Tryz.prog 225 [(false, 1), (false, 1)] ([.sl false 106 3 (List.map Env.c106 (l))] ++ [.fn F_p first_p caps_p]) [(false, 1)] [.v (.int .i64 (idx p l))] [] := by
 refine Trip.of Tryz.func225 (by decide) (c := _) rfl rfl (shB_ok rfl) (Nat.le_of_ble_eq_true rfl) rfl (AftOk.nil _) <| .sl (t := 0) rfl fun hs1l => .seq <| .rs fun k2 => .as rfl <| .z <| .seq <| .seq <| .rs fun k3 => ?_
 refine .mv rfl <| .g (fun _ τ => ⟨_, .len (.no rfl) rfl (z := (l.length : Int)) t46 rfl rfl rfl (.d _ _) (map_len _ _) rfl τ⟩) <| .mv rfl <| .z <| .block ?_
 refine .loop (X := Nat) (fun ζ => .of [(0, .one (.d (.sl false 106 3 (List.map Env.c106 (l))))), (1, .one (.d (.fn F_p first_p caps_p))), (7, .one (.d (.v (.int .i64 ((l.length : Int)))))), (8, .one (.d (.v (.int .i64 ((ζ : Int))))))] []) (fun ζ => ζ ≤ l.length ∧ allTo ζ (fun i => !p (l.getD i default)) = true) (fun ζ => l.length - ζ) ?_ ?_
 ·skip
  exact .here 0 (.of (.cons rfl (.cons rfl (.cons rfl (.cons (svI (show (0) = ((0 : Int)) by first | rfl | omega | exact wrap_le (by omega) (by omega) | (rw [wrap_le (by omega) (by omega)]; omega))) .nil)))) .nil) (show 0 ≤ l.length ∧ allTo 0 (fun i => !p (l.getD i default)) = true by exact ⟨by omega, rfl⟩)
 ·rintro j hI
  have hI : j ≤ l.length ∧ allTo j (fun i => !p (l.getD i default)) = true := hI
  refine .seq <| .rs fun k4 => .bi rfl <| .z <| .seq ?_
  refine .cond (t := decide ((j : Int) < (l.length : Int))) rfl (fun c0 => ?_) (fun c0 => ?_)
  ·have c0 := of_decide_eq_true c0
   refine .skip <| .seq <| .block <| .seq <| .rs fun k5 => .mv rfl <| .as rfl <| .z <| .seq ?_
   refine .rs fun k6 => .mv rfl <| .mv rfl <| .mv rfl <| .g (fun _ τ => ⟨_, .indexAddr (.no rfl) rfl (j) t46 rfl t106 rfl rfl rfl (.d _ _) rfl rfl rfl (map_get (by omega)) rfl rfl τ⟩) <| .lda t106 rfl (.d _) rfl <| .g (fun _ τ => ⟨_, .callF (.no rfl) rfl (ds := [.v (.bool ((l.getD j default).live)), .sl false 182 2 (List.map Iv.c ((l.getD j default).ints)), .sl false 182 2 (List.map Iv.c ((l.getD j default).arrs))]) (h_p (l.getD j default)) rfl rfl rfl rfl (.own [16, 0] .nil) rfl rfl rfl rfl rfl rfl τ⟩) <| .z ?_
   refine .cond (t := p (l.getD j default)) rfl (fun c1 => ?_) (fun c1 => ?_)
   ·have c1 := c1
    refine .seq <| .rs fun k7 => .mv rfl <| .as rfl <| .z <| .ret ?_
    exact fin0 (.inr rfl) (.one (svI (show ((j : Int)) = (idx p l) by exact (idx_found (j := j) (by omega) hI.2 (by simpa using c1)).symm)) .nil) (.dd .nil) rfl
   ·have c1 := c1
    refine .skip <| .rs fun k9 => .bi rfl <| .mv rfl <| .z ?_
    exact .here (j + 1) (.of (.cons rfl (.cons rfl (.cons rfl (.cons (svI (show (IntKind.wrap .i64 ((j : Int) + 1)) = (((j + 1) : Int)) by first | rfl | omega | exact wrap_le (by omega) (by omega) | (rw [wrap_le (by omega) (by omega)]; omega))) .nil)))) .nil) ⟨(show (j + 1) ≤ l.length ∧ allTo (j + 1) (fun i => !p (l.getD i default)) = true by exact ⟨by omega, allTo_step hI.2 (by simpa using c1)⟩), (show l.length - (j + 1) < l.length - j by omega)⟩
  ·have c0 := of_decide_eq_false c0
   refine .exit <| .seq <| .rs fun k10 => .as rfl <| .z <| .ret ?_
   exact fin0 (.inr rfl) (.one (svI (show (-1) = (idx p l) by exact (idx_none (by omega) hI.2).symm)) .nil) (.dd .nil) rfl
theorem c_ContainsFuncE (l : List Env) (F_p : FuncId) (first_p : List (Bool × List D)) (caps_p : List D) (p : Env → Bool) (h_p : ∀ (x0 : Env), FnTrip Tryz.prog F_p first_p caps_p [(true, 3)] (Env.c106 x0) [(false, 1)] [.v (.bool (p x0))]) : Trip Tryz.prog 195 [(false, 1), (false, 1)] ([.sl false 106 3 (List.map Env.c106 (l))] ++ [.fn F_p first_p caps_p]) [(false, 1)] [.v (.bool (l.any p))] [] := by
 refine Trip.of Tryz.func195 (by decide) (c := _) rfl rfl (shB_ok rfl) (Nat.le_of_ble_eq_true rfl) rfl (AftOk.nil _) <| .sl (t := 0) rfl fun hs1l => .seq <| .rs fun k2 => .as rfl <| .z <| .seq <| .rs fun k3 => .mv rfl ?_
 refine .mv rfl <| .c0 (c_IndexFuncE l F_p first_p caps_p p h_p) rfl (.dd (.dd .nil)) (.own [7, 0] .nil) rfl <| .bi rfl <| .as rfl <| .z <| .ret ?_
 exact fin0 (.inr rfl) (.one (svB (show (decide ((idx p l) ≥ 0)) = (l.any p) by exact idx_any _ _)) .nil) (.dd .nil) rfl
theorem c_areAll1E (x : Env) (F_p : FuncId) (first_p : List (Bool × List D)) (caps_p : List D) (p : Env → Bool) (h_p : ∀ (x0 : Env), FnTrip Tryz.prog F_p first_p caps_p [(true, 3)] (Env.c106 x0) [(false, 1)] [.v (.bool (p x0))]) : Trip Tryz.prog 196 [(true, 3), (false, 1)] (Env.c106 x ++ [.pt false [.fn F_p first_p caps_p]]) [(false, 1)] [.v (.bool (!p x))] [] := by
 refine Trip.of Tryz.func196 (by decide) (c := _) rfl rfl (shB_ok rfl) (Nat.le_of_ble_eq_true rfl) rfl (AftOk.nil _) <| .sla (t := 0) 1 rfl rfl fun hs1l => .sla (t := 0) 2 rfl rfl fun hs2l => .seq <| .rs fun k3 => .g (fun _ τ => ⟨_, .box (.no rfl) rfl rfl rfl rfl rfl τ⟩) <| .as rfl <| .z <| .seq ?_
 refine .rs fun k4 => .ld t196 rfl (.d _) rfl <| .lda t106 rfl (.ptr _ _ _ _ _ rfl) rfl <| .g (fun _ τ => ⟨_, .callF (.no rfl) rfl (ds := [.v (.bool (x.live)), .sl false 182 2 (List.map Iv.c (x.ints)), .sl false 182 2 (List.map Iv.c (x.arrs))]) (h_p x) rfl rfl rfl rfl (.own [6, 0] .nil) rfl rfl rfl rfl rfl rfl τ⟩) <| .un rfl <| .as rfl <| .z <| .ret ?_
 exact fin0 (.inr rfl) (.one (svB (show (!(p x)) = (!p x) by rfl)) .nil) (.dd .nil) rfl
theorem c_areAllE (l : List Env) (F_p : FuncId) (first_p : List (Bool × List D)) (caps_p : List D) (p : Env → Bool) (h_p : ∀ (x0 : Env), FnTrip Tryz.prog F_p first_p caps_p [(true, 3)] (Env.c106 x0) [(false, 1)] [.v (.bool (p x0))]) : Trip Tryz.prog 160 [(false, 1), (false, 1)] ([.sl false 106 3 (List.map Env.c106 (l))] ++ [.fn F_p first_p caps_p]) [(false, 1)] [.v (.bool (l.all p))] [] := by
 refine Trip.of Tryz.func160 (by decide) (c := _) rfl rfl (shB_ok rfl) (Nat.le_of_ble_eq_true rfl) rfl (AftOk.nil _) <| .sl (t := 0) rfl fun hs1l => .seq <| .rs fun k2 => .g (fun _ τ => ⟨_, .box (.no rfl) rfl rfl rfl rfl rfl τ⟩) <| .as rfl <| .z <| .seq <| .rs fun k3 => ?_
 refine .mv rfl <| .g (fun _ τ => ⟨_, .makeFunc (.no rfl) rfl rfl rfl rfl rfl τ⟩) <| .g (fun _ τ => ⟨_, .call (.no rfl) rfl [[3]] [([3], (k2, k2, .box [.d (.fn F_p first_p caps_p)]))] (c_ContainsFuncE l 196 [] [.pt false [.fn F_p first_p caps_p]] (fun x0 => !p x0) (fun x0 => c_areAll1E x0 F_p first_p caps_p p h_p)) rfl rfl rfl rfl rfl (.dd (.cons (Reads.clo0 (.cons (Reads.ptr0 (.head _) (.head _) (.cons (Reads.d _) .nil)) .nil)).gives .nil)) rfl rfl (fun _ => (ownCons (Owned.v _) ownNil)) (.own [7, 0] .nil) (.nil) rfl rfl rfl (AllH.get (.r rfl)) rfl rfl rfl τ⟩) <| .un rfl <| .as rfl <| .z <| .ret ?_
 exact fin0 (.inr rfl) (.one (svB (show (!(l.any (fun x0 => !p x0))) = (l.all p) by exact not_any _ _)) .nil) (.dd .nil) rfl
end Go.Proofs

namespace Go.Proofs
open Go Go.Proofs Go.Ev

theorem c_sTableOk (d : Decl) (t : List Env) (hs : ∀ x ∈ Decl.names d, x.size ≤ 9223372036854775807) (hd : d.vars.length ≤ 1048576 ∧ d.flags.length ≤ 1048576 ∧ d.arrays.length ≤ 1048576) (hx : ∀ x ∈ t, x.ints.length ≤ 1048576 ∧ x.arrs.length ≤ 1048576) : Trip Tryz.prog 68 [(true, 3), (false, 1)] (Decl.c34 d ++ [.sl false 106 3 (List.map Env.c106 (t))]) [(false, 1)] [.v (.bool (Table.ok d t))] [] := by
 refine Trip.of Tryz.func68 (by decide) (c := _) rfl rfl (shB_ok rfl) (Nat.le_of_ble_eq_true rfl) rfl (AftOk.nil _) <| .sla (t := 0) 0 rfl rfl fun hs1l => .sla (t := 0) 1 rfl rfl fun hs2l => .sla (t := 0) 2 rfl rfl fun hs3l => .sl (t := 1) rfl fun hs4l => .seq <| .rs fun k5 => .g (fun _ τ => ⟨_, .box (.no rfl) rfl rfl rfl rfl rfl τ⟩) <| .as rfl ?_
 refine .z <| .seq <| .seq ?_
 refine .reg (X := Unit) (fun ζ => .of [(1, .one (.d (.sl false 106 3 (List.map Env.c106 (t))))), (2, .one (.ptr [2] (k5) 0)), (15, .one (.d (.v (.bool ((!(Decl.ok d) || (t.length : Int) != (leavesOf d)))))))] [([2], (k5, k5, .box [.d (.sl false 9 1 (List.map strc (d.vars))), .d (.sl false 9 1 (List.map strc (d.flags))), .d (.sl false 168 2 (List.map Arr.c (d.arrays)))]))]) [⟨[2], some 6, [[2]], []⟩, ⟨[6], some 7, [], []⟩, ⟨[7], some 8, [], []⟩, ⟨[8], some 9, [], []⟩, ⟨[9, 1], some 10, [], []⟩, ⟨[9, 10], some 11, [], []⟩, ⟨[9, 2], some 12, [[2]], []⟩, ⟨[9, 12], some 13, [], []⟩, ⟨[9, 11, 13], some 14, [], []⟩, ⟨[9, 14], some 15, [], []⟩] (fun k6 => ?_) ?_
 ·skip
  refine .load (.no rfl) rfl t34 rfl rfl (.ptr _ _ _ _ _ rfl) rfl rfl rfl rfl <| .call (.no rfl) rfl [] [] (c_sDeclOk d (by first | assumption | exact hx _ (getD_mem (by omega))) (by first | assumption | exact hx _ (getD_mem (by omega)))) rfl rfl rfl rfl rfl (.dd (.dd (.dd .nil))) rfl rfl (fun h => absurd rfl h) (.own [7, 0] .nil) (.nil) rfl rfl rfl (by simp) rfl rfl rfl <| .un (.no rfl) rfl rfl rfl rfl rfl <| .moveB (.no rfl) rfl rfl rfl rfl fun b7 g1_3 => ?_
  cases b7
  ·skip
   refine .move (.on rfl rfl rfl rfl rfl) rfl rfl rfl rfl <| .len (.on rfl rfl rfl rfl rfl) rfl (z := (t.length : Int)) t46 rfl rfl rfl (.d _ _) (map_len _ _) rfl <| .load (.on rfl rfl rfl rfl rfl) rfl t34 rfl rfl (.ptr _ _ _ _ _ rfl) rfl rfl rfl rfl <| .call (.on rfl rfl rfl rfl rfl) rfl [] [] (c_l8Size d) rfl rfl rfl rfl rfl (.dd (.dd (.dd .nil))) rfl rfl (fun h => absurd rfl h) (.own [13, 0] .nil) (.nil) rfl rfl rfl (by simp) rfl rfl rfl <| .bin (.on rfl rfl rfl rfl rfl) rfl rfl rfl rfl rfl rfl <| .pick (.no rfl) rfl rfl rfl rfl rfl ?_
   exact .fin () (.of (.cons rfl (.cons rfl (.cons (svB (show ((t.length : Int) != (leavesOf d)) = ((!(Decl.ok d) || (t.length : Int) != (leavesOf d))) by first | (simp only [g1_3, Bool.true_or, Bool.false_or, Bool.true_and, Bool.false_and, Bool.not_true, Bool.not_false]; done) | simp [g1_3])) .nil))) (.r rfl))
  ·skip
   refine .off rfl rfl rfl rfl rfl rfl rfl <| .off rfl rfl rfl rfl rfl rfl rfl <| .off rfl rfl rfl rfl rfl rfl rfl <| .off rfl rfl rfl rfl rfl rfl rfl <| .off rfl rfl rfl rfl rfl rfl rfl <| .pick (.no rfl) rfl rfl rfl rfl rfl ?_
   exact .fin () (.of (.cons rfl (.cons rfl (.cons (svB (show (true) = ((!(Decl.ok d) || (t.length : Int) != (leavesOf d))) by first | (simp only [g1_3, Bool.true_or, Bool.false_or, Bool.true_and, Bool.false_and, Bool.not_true, Bool.not_false]; done) | simp [g1_3])) .nil))) (.r rfl))
 intro _
 refine .cond (t := (!(Decl.ok d) || (t.length : Int) != (leavesOf d))) rfl (fun c0 => ?_) (fun c0 => ?_)
 ·have c0 := (oT (nT id) bT) c0
  refine .seq <| .rs fun k8 => .as rfl <| .z <| .ret ?_
  exact fin0 (.inr rfl) (.one (svB (show (false) = (Table.ok d t) by (unfold Table.ok Table.isIn; rcases c0 with h | h <;> simp [h]))) .nil) (.dd .nil) rfl
 ·have c0 := (oF (nF id) bF) c0
  refine .skip <| .seq <| .seq <| .rs fun k10 => .as rfl <| .z <| .block ?_
  refine .loop (X := Nat) (fun ζ => .of [(1, .one (.d (.sl false 106 3 (List.map Env.c106 (t))))), (2, .one (.ptr [2] (k5) 0)), (5, .one (.d (.v (.int .i64 ((ζ : Int))))))] [([2], (k5, k5, .box [.d (.sl false 9 1 (List.map strc (d.vars))), .d (.sl false 9 1 (List.map strc (d.flags))), .d (.sl false 168 2 (List.map Arr.c (d.arrays)))]))]) (fun ζ => ζ ≤ t.length ∧ allTo ζ (fun i => Env.okIn d (t.getD i default)) = true) (fun ζ => t.length - ζ) ?_ ?_
  ·skip
   exact .here 0 (.of (.cons rfl (.cons rfl (.cons (svI (show (0) = ((0 : Int)) by first | rfl | omega | exact wrap_le (by omega) (by omega) | (rw [wrap_le (by omega) (by omega)]; omega))) .nil))) (.r rfl)) (show 0 ≤ t.length ∧ allTo 0 (fun i => Env.okIn d (t.getD i default)) = true by exact ⟨by omega, rfl⟩)
  ·rintro j hI
   have hI : j ≤ t.length ∧ allTo j (fun i => Env.okIn d (t.getD i default)) = true := hI
   refine .seq <| .seq <| .rs fun k11 => .mv rfl <| .mv rfl <| .g (fun _ τ => ⟨_, .len (.no rfl) rfl (z := (t.length : Int)) t46 rfl rfl rfl (.d _ _) (map_len _ _) rfl τ⟩) <| .bi rfl <| .z ?_
   refine .cond (t := decide ((j : Int) < (t.length : Int))) rfl (fun c1 => ?_) (fun c1 => ?_)
   ·have c1 := of_decide_eq_true c1
    refine .skip <| .seq <| .block <| .seq ?_
    refine .regD (X := Unit) (by kernel_rfl) (fun ζ => .of [(1, .one (.d (.sl false 106 3 (List.map Env.c106 (t))))), (2, .one (.ptr [2] (k5) 0)), (5, .one (.d (.v (.int .i64 ((j : Int)))))), (28, .one (.d (.v (.bool (!(Decl.ok d && Env.okIn d (t.getD j default)))))))] [([2], (k5, k5, .box [.d (.sl false 9 1 (List.map strc (d.vars))), .d (.sl false 9 1 (List.map strc (d.flags))), .d (.sl false 168 2 (List.map Arr.c (d.arrays)))]))]) [⟨[2], some 22, [[2]], []⟩, ⟨[1], some 23, [], []⟩, ⟨[5], some 24, [], []⟩, ⟨[23, 24], some 25, [], []⟩, ⟨[25], some 26, [], []⟩, ⟨[22, 26], some 27, [], []⟩, ⟨[27], some 28, [], []⟩] (by kernel_rfl) (fun k12 => ?_) ?_
    ·skip
     refine .load (.no rfl) rfl t34 rfl rfl (.ptr _ _ _ _ _ rfl) rfl rfl rfl rfl <| .move (.no rfl) rfl rfl rfl rfl <| .move (.no rfl) rfl rfl rfl rfl <| .indexAddr (.no rfl) rfl (j) t46 rfl t106 rfl rfl rfl (.d _ _) rfl rfl rfl (map_get (by omega)) rfl rfl <| .load (.no rfl) rfl t106 rfl rfl (.d _) rfl rfl rfl rfl <| .call (.no rfl) rfl [] [] (c_sEnvOk d (t.getD j default) (by first | assumption | exact hx _ (getD_mem (by omega))) (by first | assumption | exact hx _ (getD_mem (by omega))) (by first | assumption | exact hx _ (getD_mem (by omega)))) rfl rfl rfl rfl rfl (.dd (.dd (.dd (.dd (.dd (.dd .nil)))))) rfl rfl (fun h => absurd rfl h) (.own [27, 0] .nil) (.nil) rfl rfl rfl (by simp) rfl rfl rfl <| .un (.no rfl) rfl rfl rfl rfl rfl ?_
     exact .fin () (.of (.r rfl) (.r rfl))
    intro _
    refine .cond (t := !(Decl.ok d && Env.okIn d (t.getD j default))) rfl (fun c2 => ?_) (fun c2 => ?_)
    ·have c2 := (nT (aF id id)) c2
     refine .seq <| .rs fun k13 => .as rfl <| .z <| .ret ?_
     exact fin0 (.inr rfl) (.one (svB (show (false) = (Table.ok d t) by (unfold Table.ok Table.isIn; rw [all_none (p := Env.okIn d) (j := j) (by omega) (by rcases c2 with h | h <;> first | exact h | (rw [c0.1] at h; exact absurd h (by decide))), Bool.and_false, Bool.and_false]))) .nil) (.dd .nil) rfl
    ·have c2 := (nF (aT id id)) c2
     refine .skip <| .rs fun k15 => .mv rfl <| .bi rfl <| .as rfl <| .z ?_
     exact .here (j + 1) (.of (.cons rfl (.cons rfl (.cons (svI (show (IntKind.wrap .i64 ((j : Int) + 1)) = (((j + 1) : Int)) by first | rfl | omega | exact wrap_le (by omega) (by omega) | (rw [wrap_le (by omega) (by omega)]; omega))) .nil))) (.r rfl)) ⟨(show (j + 1) ≤ t.length ∧ allTo (j + 1) (fun i => Env.okIn d (t.getD i default)) = true by exact ⟨by omega, allTo_step hI.2 c2.2⟩), (show t.length - (j + 1) < t.length - j by omega)⟩
   ·have c1 := of_decide_eq_false c1
    refine .exit <| .seq <| .rs fun k16 => .as rfl <| .z <| .ret ?_
    exact fin0 (.inr rfl) (.one (svB (show (true) = (Table.ok d t) by (unfold Table.ok Table.isIn; rw [c0.1, all_done (p := Env.okIn d) (j := j) (by omega) hI.2]; simp [c0.2]))) .nil) (.dd .nil) rfl
end Go.Proofs

namespace Go.Proofs
open Go Go.Proofs Go.Ev

theorem c_isTable (d : Decl) (t : List Env) : Trip Tryz.prog 98 [(true, 3), (false, 1)] (Decl.c34 d ++ [.sl false 106 3 (List.map Env.c106 (t))]) [(false, 1)] [.v (.bool (Table.isIn d t))] [] := by
 refine Trip.of Tryz.func98 (by decide) (c := _) rfl rfl (shB_ok rfl) (Nat.le_of_ble_eq_true rfl) rfl (AftOk.nil _) <| .sla (t := 0) 0 rfl rfl fun hs1l => .sla (t := 0) 1 rfl rfl fun hs2l => .sla (t := 0) 2 rfl rfl fun hs3l => .sl (t := 1) rfl fun hs4l => .seq <| .rs fun k5 => .g (fun _ τ => ⟨_, .box (.no rfl) rfl rfl rfl rfl rfl τ⟩) <| .as rfl ?_
 refine .z <| .seq ?_
 refine .regD (X := Unit) (by kernel_rfl) (fun ζ => .of [(4, .one (.d (.v (.bool (((t.length : Int) == (leavesOf d) && t.all (fun x0 => Env.okIn d x0)))))))] []) [⟨[1], some 5, [], []⟩, ⟨[5], some 6, [], []⟩, ⟨[2], some 7, [[2]], []⟩, ⟨[7], some 8, [], []⟩, ⟨[6, 8], some 9, [], []⟩, ⟨[9], some 10, [], []⟩, ⟨[10, 1], some 11, [], []⟩, ⟨[10, 2], some 12, [[2]], []⟩, ⟨[10, 12], some 13, [], []⟩, ⟨[10, 11, 13], some 14, [], []⟩, ⟨[10, 14], some 15, [], []⟩, ⟨[15], some 4, [], []⟩] (by kernel_rfl) (fun k6 => ?_) ?_
 ·skip
  refine .move (.no rfl) rfl rfl rfl rfl <| .call (.no rfl) rfl [] [] (c_sizeE t) rfl rfl rfl rfl rfl (.dd .nil) rfl rfl (fun h => absurd rfl h) (.own [6, 0] .nil) (.nil) rfl rfl rfl (by simp) rfl rfl rfl <| .load (.no rfl) rfl t34 rfl rfl (.ptr _ _ _ _ _ rfl) rfl rfl rfl rfl <| .call (.no rfl) rfl [] [] (c_leaves d) rfl rfl rfl rfl rfl (.dd (.dd (.dd .nil))) rfl rfl (fun h => absurd rfl h) (.own [8, 0] .nil) (.nil) rfl rfl rfl (by simp) rfl rfl rfl <| .bin (.no rfl) rfl rfl rfl rfl rfl rfl <| .moveB (.no rfl) rfl rfl rfl rfl fun b7 g1_5 => ?_
  cases b7
  ·skip
   refine .off rfl rfl rfl rfl rfl rfl rfl <| .off rfl rfl rfl rfl rfl rfl rfl <| .off rfl rfl rfl rfl rfl rfl rfl <| .off rfl rfl rfl rfl rfl rfl rfl <| .pick (.no rfl) rfl rfl rfl rfl rfl <| .assign (.no rfl) rfl rfl rfl rfl ?_
   exact .fin () (.of (.cons (svB (show (false) = (((t.length : Int) == (leavesOf d) && t.all (fun x0 => Env.okIn d x0))) by first | (simp only [g1_5, Bool.true_or, Bool.false_or, Bool.true_and, Bool.false_and, Bool.not_true, Bool.not_false]; done) | simp [g1_5])) .nil) .nil)
  ·skip
   refine .move (.on rfl rfl rfl rfl rfl) rfl rfl rfl rfl <| .load (.on rfl rfl rfl rfl rfl) rfl t34 rfl rfl (.ptr _ _ _ _ _ rfl) rfl rfl rfl rfl <| .makeFunc (.on rfl rfl rfl rfl rfl) rfl rfl rfl rfl rfl <| .call (.on rfl rfl rfl rfl rfl) rfl [] [] (c_areAllE t 161 [(true, [.sl false 9 1 (List.map strc (d.vars)), .sl false 9 1 (List.map strc (d.flags)), .sl false 168 2 (List.map Arr.c (d.arrays))])] [] (fun x0 => Env.okIn d x0) (fun x0 => c_isEnv d x0)) rfl rfl rfl rfl rfl (.dd (.cons (Reads.clo1 (.cons (Reads.d _) (.cons (Reads.d _) (.cons (Reads.d _) .nil))) (.nil)).gives .nil)) rfl rfl (fun h => absurd rfl h) (.own [14, 0] .nil) (.nil) rfl rfl rfl (by simp) rfl rfl rfl <| .pick (.no rfl) rfl rfl rfl rfl rfl <| .assign (.no rfl) rfl rfl rfl rfl ?_
   exact .fin () (.of (.cons (svB (show (t.all (fun x0 => Env.okIn d x0)) = (((t.length : Int) == (leavesOf d) && t.all (fun x0 => Env.okIn d x0))) by first | (simp only [g1_5, Bool.true_or, Bool.false_or, Bool.true_and, Bool.false_and, Bool.not_true, Bool.not_false]; done) | simp [g1_5])) .nil) .nil)
 intro _
 refine .ret ?_
 exact fin0 (.inr rfl) (.one (svB (show (((t.length : Int) == (leavesOf d) && t.all (fun x0 => Env.okIn d x0))) = (Table.isIn d t) by rfl)) .nil) (.dd .nil) rfl
end Go.Proofs

namespace Go.Proofs
open Go Go.Proofs Go.Ev

def i64c (x : Int) : List D := [.v (.int .i64 x)]
theorem i64c_e (x : Int) : (i64c x).map D.erase = i64c x := by simp [i64c, D.erase_v]
theorem i64c_o (x : Int) : ∀ d ∈ i64c x, Owned d := by simp [i64c, Owned.v]
def i241 : TI := ⟨.sl 3, 1, 24, [.slice none 0 0]⟩
theorem t241 : TyOk Tryz.prog 241 i241 := ⟨Tryz.underlying241, by kernel_rfl⟩
theorem z241 : ZOk Tryz.prog 241 i241 := ⟨t241, rfl⟩
theorem c_sTokenOk (t : List Entry) : Trip Tryz.prog 106 [(false, 1)] ([.sl false 145 2 (List.map Entry.c (t))]) [(false, 1)] [.v (.bool (tokOk t))] [] := by
 refine Trip.of Tryz.func106 (by decide) (c := _) rfl rfl (shB_ok rfl) (Nat.le_of_ble_eq_true rfl) rfl (AftOk.nil _) <| .sl (t := 0) rfl fun hs1l => .seq <| .rs fun k2 => .as rfl <| .z <| .seq <| .seq <| .rs fun k3 => ?_
 refine .mv rfl <| .g (fun _ τ => ⟨_, .len (.no rfl) rfl (z := (t.length : Int)) t72 rfl rfl rfl (.d _ _) (map_len _ _) rfl τ⟩) <| .bi rfl <| .z ?_
 refine .cond (t := decide ((t.length : Int) > 3)) rfl (fun c0 => ?_) (fun c0 => ?_)
 ·have c0 := of_decide_eq_true c0
  refine .seq <| .rs fun k4 => .as rfl <| .z <| .ret ?_
  exact fin0 (.inr rfl) (.one (svB (show (false) = (tokOk t) by (rw [tokOk_no c0]))) .nil) (.dd .nil) rfl
 ·have c0 := of_decide_eq_false c0
  refine .skip <| .seq <| .seq <| .rs fun k6 => .as rfl <| .z <| .block ?_
  refine .loop (X := Nat) (fun ζ => .of [(0, .one (.d (.sl false 145 2 (List.map Entry.c (t))))), (3, .one (.d (.v (.int .i64 ((ζ : Int))))))] []) (fun ζ => ζ ≤ t.length ∧ allTo ζ (fun i => Entry.ok (t.getD i default)) = true) (fun ζ => t.length - ζ) ?_ ?_
  ·skip
   exact .here 0 (.of (.cons rfl (.cons (svI (show (0) = ((0 : Int)) by first | rfl | omega | exact wrap_le (by omega) (by omega) | (rw [wrap_le (by omega) (by omega)]; omega))) .nil)) .nil) (show 0 ≤ t.length ∧ allTo 0 (fun i => Entry.ok (t.getD i default)) = true by exact ⟨by omega, rfl⟩)
  ·rintro j hI
   have hI : j ≤ t.length ∧ allTo j (fun i => Entry.ok (t.getD i default)) = true := hI
   refine .seq <| .seq <| .rs fun k7 => .mv rfl <| .mv rfl <| .g (fun _ τ => ⟨_, .len (.no rfl) rfl (z := (t.length : Int)) t72 rfl rfl rfl (.d _ _) (map_len _ _) rfl τ⟩) <| .bi rfl <| .z ?_
   refine .cond (t := decide ((j : Int) < (t.length : Int))) rfl (fun c1 => ?_) (fun c1 => ?_)
   ·have c1 := of_decide_eq_true c1
    refine .skip <| .seq <| .block <| .seq ?_
    refine .reg (X := Unit) (fun ζ => .of [(0, .one (.d (.sl false 145 2 (List.map Entry.c (t))))), (3, .one (.d (.v (.int .i64 ((j : Int)))))), (28, .one (.d (.v (.bool ((!(inR ((t.getD j default).line) 0 29) || !(inR ((t.getD j default).pick) 0 4)))))))] []) [⟨[0], some 13, [], []⟩, ⟨[3], some 14, [], []⟩, ⟨[13, 14], some 15, [], []⟩, ⟨[15], some 16, [], []⟩, ⟨[16], some 17, [], []⟩, ⟨[17], some 18, [], []⟩, ⟨[18], some 19, [], []⟩, ⟨[19], some 20, [], []⟩, ⟨[20, 0], some 21, [], []⟩, ⟨[20, 3], some 22, [], []⟩, ⟨[20, 21, 22], some 23, [], []⟩, ⟨[20, 23], some 24, [], []⟩, ⟨[20, 24], some 25, [], []⟩, ⟨[20, 25], some 26, [], []⟩, ⟨[20, 26], some 27, [], []⟩, ⟨[20, 27], some 28, [], []⟩] (fun k8 => ?_) ?_
    ·skip
     refine .move (.no rfl) rfl rfl rfl rfl <| .move (.no rfl) rfl rfl rfl rfl <| .indexAddr (.no rfl) rfl (j) t72 rfl t145 rfl rfl rfl (.d _ _) rfl rfl rfl (map_get (by omega)) rfl rfl <| .fieldAddr (.no rfl) rfl t145 rfl rfl t2 rfl rfl rfl rfl [] (by simp) (by intro _ _ _ h; cases h) rfl rfl <| .load (.no rfl) rfl t2 rfl rfl (.d _) rfl rfl rfl rfl <| .call (.no rfl) rfl [] [] (c_l1In ((t.getD j default).line) 0 29) rfl rfl rfl rfl rfl (.dd (.dd (.dd .nil))) rfl rfl (fun h => absurd rfl h) (.own [18, 0] .nil) (.nil) rfl rfl rfl (by simp) rfl rfl rfl <| .un (.no rfl) rfl rfl rfl rfl rfl <| .moveB (.no rfl) rfl rfl rfl rfl fun b9 g6_7 => ?_
     cases b9
     ·skip
      refine .move (.on rfl rfl rfl rfl rfl) rfl rfl rfl rfl <| .move (.on rfl rfl rfl rfl rfl) rfl rfl rfl rfl <| .indexAddr (.on rfl rfl rfl rfl rfl) rfl (j) t72 rfl t145 rfl rfl rfl (.d _ _) rfl rfl rfl (map_get (by omega)) rfl rfl <| .fieldAddr (.on rfl rfl rfl rfl rfl) rfl t145 rfl rfl t2 rfl rfl rfl rfl [] (by simp) (by intro _ _ _ h; cases h) rfl rfl <| .load (.on rfl rfl rfl rfl rfl) rfl t2 rfl rfl (.d _) rfl rfl rfl rfl <| .call (.on rfl rfl rfl rfl rfl) rfl [] [] (c_l1In ((t.getD j default).pick) 0 4) rfl rfl rfl rfl rfl (.dd (.dd (.dd .nil))) rfl rfl (fun h => absurd rfl h) (.own [26, 0] .nil) (.nil) rfl rfl rfl (by simp) rfl rfl rfl <| .un (.on rfl rfl rfl rfl rfl) rfl rfl rfl rfl rfl <| .pick (.no rfl) rfl rfl rfl rfl rfl ?_
      exact .fin () (.of (.cons rfl (.cons rfl (.cons (svB (show (!(inR ((t.getD j default).pick) 0 4)) = ((!(inR ((t.getD j default).line) 0 29) || !(inR ((t.getD j default).pick) 0 4))) by first | (simp only [g6_7, Bool.true_or, Bool.false_or, Bool.true_and, Bool.false_and, Bool.not_true, Bool.not_false]; done) | simp [g6_7])) .nil))) .nil)
     ·skip
      refine .off rfl rfl rfl rfl rfl rfl rfl <| .off rfl rfl rfl rfl rfl rfl rfl <| .off rfl rfl rfl rfl rfl rfl rfl <| .off rfl rfl rfl rfl rfl rfl rfl <| .off rfl rfl rfl rfl rfl rfl rfl <| .off rfl rfl rfl rfl rfl rfl rfl <| .off rfl rfl rfl rfl rfl rfl rfl <| .pick (.no rfl) rfl rfl rfl rfl rfl ?_
      exact .fin () (.of (.cons rfl (.cons rfl (.cons (svB (show (true) = ((!(inR ((t.getD j default).line) 0 29) || !(inR ((t.getD j default).pick) 0 4))) by first | (simp only [g6_7, Bool.true_or, Bool.false_or, Bool.true_and, Bool.false_and, Bool.not_true, Bool.not_false]; done) | simp [g6_7])) .nil))) .nil)
    intro _
    refine .cond (t := (!(inR ((t.getD j default).line) 0 29) || !(inR ((t.getD j default).pick) 0 4))) rfl (fun c2 => ?_) (fun c2 => ?_)
    ·have c2 := (oT (nT id) (nT id)) c2
     refine .seq <| .rs fun k10 => .as rfl <| .z <| .ret ?_
     exact fin0 (.inr rfl) (.one (svB (show (false) = (tokOk t) by (rw [tokOk_fail (j := j) (by omega) c2]))) .nil) (.dd .nil) rfl
    ·have c2 := (oF (nF id) (nF id)) c2
     refine .skip <| .rs fun k12 => .mv rfl <| .bi rfl <| .as rfl <| .z ?_
     exact .here (j + 1) (.of (.cons rfl (.cons (svI (show (IntKind.wrap .i64 ((j : Int) + 1)) = (((j + 1) : Int)) by first | rfl | omega | exact wrap_le (by omega) (by omega) | (rw [wrap_le (by omega) (by omega)]; omega))) .nil)) .nil) ⟨(show (j + 1) ≤ t.length ∧ allTo (j + 1) (fun i => Entry.ok (t.getD i default)) = true by exact ⟨by omega, allTo_step hI.2 (entry_of c2)⟩), (show t.length - (j + 1) < t.length - j by omega)⟩
   ·have c1 := of_decide_eq_false c1
    refine .exit <| .seq <| .rs fun k13 => .as rfl <| .z <| .ret ?_
    exact fin0 (.inr rfl) (.one (svB (show (true) = (tokOk t) by (rw [tokOk_done (j := j) c0 (by omega) hI.2]))) .nil) (.dd .nil) rfl
theorem c_l9Cmp (a : List Entry) (b : List Entry) (ha : tokOk a = true) (hb : tokOk b = true) : Trip Tryz.prog 142 [(false, 1), (false, 1)] ([.sl false 145 2 (List.map Entry.c (a))] ++ [.sl false 145 2 (List.map Entry.c (b))]) [(false, 1)] [.v (.int .i64 (tokCmp a b))] [] := by
 refine Trip.of Tryz.func142 (by decide) (c := _) rfl rfl (shB_ok rfl) (Nat.le_of_ble_eq_true rfl) rfl (AftOk.nil _) <| .sl (t := 0) rfl fun hs1l => .sl (t := 1) rfl fun hs2l => .seq <| .rs fun k3 => .as rfl <| .z <| .seq <| .seq ?_
 refine .rs fun k4 => .mv rfl <| .g (fun _ τ => ⟨_, .len (.no rfl) rfl (z := (a.length : Int)) t72 rfl rfl rfl (.d _ _) (map_len _ _) rfl τ⟩) <| .mv rfl <| .g (fun _ τ => ⟨_, .len (.no rfl) rfl (z := (b.length : Int)) t72 rfl rfl rfl (.d _ _) (map_len _ _) rfl τ⟩) <| .bi rfl <| .z ?_
 refine .cond (t := (a.length : Int) != (b.length : Int)) rfl (fun c0 => ?_) (fun c0 => ?_)
 ·have c0 := (by simpa using c0 : ¬ ((a.length : Int) = (b.length : Int)))
  refine .seq <| .seq <| .rs fun k5 => .mv rfl <| .g (fun _ τ => ⟨_, .len (.no rfl) rfl (z := (a.length : Int)) t72 rfl rfl rfl (.d _ _) (map_len _ _) rfl τ⟩) <| .mv rfl <| .g (fun _ τ => ⟨_, .len (.no rfl) rfl (z := (b.length : Int)) t72 rfl rfl rfl (.d _ _) (map_len _ _) rfl τ⟩) <| .bi rfl <| .z ?_
  refine .cond (t := decide ((a.length : Int) < (b.length : Int))) rfl (fun c1 => ?_) (fun c1 => ?_)
  ·have c1 := of_decide_eq_true c1
   refine .seq <| .rs fun k6 => .as rfl <| .z <| .ret ?_
   exact fin0 (.inr rfl) (.one (svI (show (-1) = (tokCmp a b) by exact tokCmp_lt c0 c1)) .nil) (.dd .nil) rfl
  ·have c1 := of_decide_eq_false c1
   refine .skip <| .seq <| .rs fun k8 => .as rfl <| .z <| .ret ?_
   exact fin0 (.inr rfl) (.one (svI (show (1) = (tokCmp a b) by exact tokCmp_gt c0 c1)) .nil) (.dd .nil) rfl
 ·have c0 := (by simpa using c0 : (a.length : Int) = (b.length : Int))
  refine .skip <| .seq <| .seq <| .rs fun k10 => .as rfl <| .z <| .block ?_
  refine .loop (X := Nat) (fun ζ => .of [(0, .one (.d (.sl false 145 2 (List.map Entry.c (a))))), (1, .one (.d (.sl false 145 2 (List.map Entry.c (b))))), (5, .one (.d (.v (.int .i64 ((ζ : Int))))))] []) (fun ζ => ζ ≤ a.length ∧ lexC entCmp (a.drop ζ) (b.drop ζ) = lexC entCmp a b) (fun ζ => a.length - ζ) ?_ ?_
  ·skip
   exact .here 0 (.of (.cons rfl (.cons rfl (.cons (svI (show (0) = ((0 : Int)) by first | rfl | omega | exact wrap_le (by omega) (by omega) | (rw [wrap_le (by omega) (by omega)]; omega))) .nil))) .nil) (show 0 ≤ a.length ∧ lexC entCmp (a.drop 0) (b.drop 0) = lexC entCmp a b by exact ⟨by omega, rfl⟩)
  ·rintro j hI
   have hI : j ≤ a.length ∧ lexC entCmp (a.drop j) (b.drop j) = lexC entCmp a b := hI
   refine .seq <| .seq <| .rs fun k11 => .mv rfl <| .mv rfl <| .g (fun _ τ => ⟨_, .len (.no rfl) rfl (z := (a.length : Int)) t72 rfl rfl rfl (.d _ _) (map_len _ _) rfl τ⟩) <| .bi rfl <| .z ?_
   refine .cond (t := decide ((j : Int) < (a.length : Int))) rfl (fun c2 => ?_) (fun c2 => ?_)
   ·have c2 := of_decide_eq_true c2
    refine .skip <| .seq <| .block <| .seq ?_
    refine .regD (X := Unit) (by kernel_rfl) (fun ζ => .of [(0, .one (.d (.sl false 145 2 (List.map Entry.c (a))))), (1, .one (.d (.sl false 145 2 (List.map Entry.c (b))))), (5, .one (.d (.v (.int .i64 ((j : Int)))))), (6, .one (.d (.v (.int .i64 (IntKind.wrap .i64 ((IntKind.wrap .i64 (10 * ((a.getD j default).line))) + ((a.getD j default).pick)))))))] []) [⟨[0], some 24, [], []⟩, ⟨[5], some 25, [], []⟩, ⟨[24, 25], some 26, [], []⟩, ⟨[26], some 27, [], []⟩, ⟨[27], some 28, [], []⟩, ⟨[28], some 29, [], []⟩, ⟨[0], some 30, [], []⟩, ⟨[5], some 31, [], []⟩, ⟨[30, 31], some 32, [], []⟩, ⟨[32], some 33, [], []⟩, ⟨[33], some 34, [], []⟩, ⟨[29, 34], some 35, [], []⟩, ⟨[35], some 6, [], []⟩] (by kernel_rfl) (fun k12 => ?_) ?_
    ·skip
     refine .move (.no rfl) rfl rfl rfl rfl <| .move (.no rfl) rfl rfl rfl rfl <| .indexAddr (.no rfl) rfl (j) t72 rfl t145 rfl rfl rfl (.d _ _) rfl rfl rfl (map_get (by omega)) rfl rfl <| .fieldAddr (.no rfl) rfl t145 rfl rfl t2 rfl rfl rfl rfl [] (by simp) (by intro _ _ _ h; cases h) rfl rfl <| .load (.no rfl) rfl t2 rfl rfl (.d _) rfl rfl rfl rfl <| .bin (.no rfl) rfl rfl rfl rfl rfl rfl <| .move (.no rfl) rfl rfl rfl rfl <| .move (.no rfl) rfl rfl rfl rfl <| .indexAddr (.no rfl) rfl (j) t72 rfl t145 rfl rfl rfl (.d _ _) rfl rfl rfl (map_get (by omega)) rfl rfl ?_
     refine .fieldAddr (.no rfl) rfl t145 rfl rfl t2 rfl rfl rfl rfl [] (by simp) (by intro _ _ _ h; cases h) rfl rfl <| .load (.no rfl) rfl t2 rfl rfl (.d _) rfl rfl rfl rfl <| .bin (.no rfl) rfl rfl rfl rfl rfl rfl <| .assign (.no rfl) rfl rfl rfl rfl ?_
     exact .fin () (.of (.r rfl) .nil)
    intro _
    refine .seq ?_
    refine .regD (X := Unit) (by kernel_rfl) (fun ζ => .of [(0, .one (.d (.sl false 145 2 (List.map Entry.c (a))))), (1, .one (.d (.sl false 145 2 (List.map Entry.c (b))))), (5, .one (.d (.v (.int .i64 ((j : Int)))))), (6, .one (.d (.v (.int .i64 (IntKind.wrap .i64 ((IntKind.wrap .i64 (10 * ((a.getD j default).line))) + ((a.getD j default).pick))))))), (7, .one (.d (.v (.int .i64 (IntKind.wrap .i64 ((IntKind.wrap .i64 (10 * ((b.getD j default).line))) + ((b.getD j default).pick)))))))] []) [⟨[1], some 36, [], []⟩, ⟨[5], some 37, [], []⟩, ⟨[36, 37], some 38, [], []⟩, ⟨[38], some 39, [], []⟩, ⟨[39], some 40, [], []⟩, ⟨[40], some 41, [], []⟩, ⟨[1], some 42, [], []⟩, ⟨[5], some 43, [], []⟩, ⟨[42, 43], some 44, [], []⟩, ⟨[44], some 45, [], []⟩, ⟨[45], some 46, [], []⟩, ⟨[41, 46], some 47, [], []⟩, ⟨[47], some 7, [], []⟩] (by kernel_rfl) (fun k13 => ?_) ?_
    ·skip
     refine .move (.no rfl) rfl rfl rfl rfl <| .move (.no rfl) rfl rfl rfl rfl <| .indexAddr (.no rfl) rfl (j) t72 rfl t145 rfl rfl rfl (.d _ _) rfl rfl rfl (map_get (by omega)) rfl rfl <| .fieldAddr (.no rfl) rfl t145 rfl rfl t2 rfl rfl rfl rfl [] (by simp) (by intro _ _ _ h; cases h) rfl rfl <| .load (.no rfl) rfl t2 rfl rfl (.d _) rfl rfl rfl rfl <| .bin (.no rfl) rfl rfl rfl rfl rfl rfl <| .move (.no rfl) rfl rfl rfl rfl <| .move (.no rfl) rfl rfl rfl rfl <| .indexAddr (.no rfl) rfl (j) t72 rfl t145 rfl rfl rfl (.d _ _) rfl rfl rfl (map_get (by omega)) rfl rfl ?_
     refine .fieldAddr (.no rfl) rfl t145 rfl rfl t2 rfl rfl rfl rfl [] (by simp) (by intro _ _ _ h; cases h) rfl rfl <| .load (.no rfl) rfl t2 rfl rfl (.d _) rfl rfl rfl rfl <| .bin (.no rfl) rfl rfl rfl rfl rfl rfl <| .assign (.no rfl) rfl rfl rfl rfl ?_
     exact .fin () (.of (.r rfl) .nil)
    intro _
    refine .seq <| .seq <| .rs fun k14 => .mv rfl <| .mv rfl <| .bi rfl <| .z ?_
    refine .cond (t := decide ((IntKind.wrap .i64 ((IntKind.wrap .i64 (10 * ((a.getD j default).line))) + ((a.getD j default).pick))) < (IntKind.wrap .i64 ((IntKind.wrap .i64 (10 * ((b.getD j default).line))) + ((b.getD j default).pick))))) rfl (fun c3 => ?_) (fun c3 => ?_)
    ·have c3 := of_decide_eq_true c3
     refine .seq <| .rs fun k15 => .as rfl <| .z <| .ret ?_
     exact fin0 (.inr rfl) (.one (svI (show (-1) = (tokCmp a b) by exact l9_ret (by omega) (by omega) hI.2 ((l9_key ha hb (by omega) (j := j) (by omega)).trans (cmpI_lt c3)) (by decide))) .nil) (.dd .nil) rfl
    ·have c3 := of_decide_eq_false c3
     refine .skip <| .seq <| .rs fun k17 => .mv rfl <| .mv rfl <| .bi rfl <| .z ?_
     refine .cond (t := decide ((IntKind.wrap .i64 ((IntKind.wrap .i64 (10 * ((a.getD j default).line))) + ((a.getD j default).pick))) > (IntKind.wrap .i64 ((IntKind.wrap .i64 (10 * ((b.getD j default).line))) + ((b.getD j default).pick))))) rfl (fun c4 => ?_) (fun c4 => ?_)
     ·have c4 := of_decide_eq_true c4
      refine .seq <| .rs fun k18 => .as rfl <| .z <| .ret ?_
      exact fin0 (.inr rfl) (.one (svI (show (1) = (tokCmp a b) by exact l9_ret (by omega) (by omega) hI.2 ((l9_key ha hb (by omega) (j := j) (by omega)).trans (cmpI_gt c3 c4)) (by decide))) .nil) (.dd .nil) rfl
     ·have c4 := of_decide_eq_false c4
      refine .skip <| .rs fun k20 => .mv rfl <| .bi rfl <| .as rfl <| .z ?_
      exact .here (j + 1) (.of (.cons rfl (.cons rfl (.cons (svI (show (IntKind.wrap .i64 ((j : Int) + 1)) = (((j + 1) : Int)) by first | rfl | omega | exact wrap_le (by omega) (by omega) | (rw [wrap_le (by omega) (by omega)]; omega))) .nil))) .nil) ⟨(show (j + 1) ≤ a.length ∧ lexC entCmp (a.drop (j + 1)) (b.drop (j + 1)) = lexC entCmp a b by exact ⟨by omega, (lexC_step (by omega) (by omega) ((l9_key ha hb (by omega) (j := j) (by omega)).trans (cmpI_eq c3 c4))).symm.trans hI.2⟩), (show a.length - (j + 1) < a.length - j by omega)⟩
   ·have c2 := of_decide_eq_false c2
    refine .exit <| .seq <| .rs fun k21 => .as rfl <| .z <| .ret ?_
    exact fin0 (.inr rfl) (.one (svI (show (0) = (tokCmp a b) by (rw [tokCmp_len (by omega), ← hI.2, lexC_end (by omega) (by omega)]))) .nil) (.dd .nil) rfl
theorem c_l9Live (t : List Env) : Trip Tryz.prog 143 [(false, 1)] ([.sl false 106 3 (List.map Env.c106 (t))]) [(false, 1)] [.v (.bool (t.any Env.live))] [] := by
 refine Trip.of Tryz.func143 (by decide) (c := _) rfl rfl (shB_ok rfl) (Nat.le_of_ble_eq_true rfl) rfl (AftOk.nil _) <| .sl (t := 0) rfl fun hs1l => .seq <| .rs fun k2 => .as rfl <| .z <| .seq <| .seq <| .rs fun k3 => ?_
 refine .as rfl <| .z <| .block ?_
 refine .loop (X := Nat) (fun ζ => .of [(0, .one (.d (.sl false 106 3 (List.map Env.c106 (t))))), (3, .one (.d (.v (.int .i64 ((ζ : Int))))))] []) (fun ζ => ζ ≤ t.length ∧ allTo ζ (fun i => !Env.live (t.getD i default)) = true) (fun ζ => t.length - ζ) ?_ ?_
 ·skip
  exact .here 0 (.of (.cons rfl (.cons (svI (show (0) = ((0 : Int)) by first | rfl | omega | exact wrap_le (by omega) (by omega) | (rw [wrap_le (by omega) (by omega)]; omega))) .nil)) .nil) (show 0 ≤ t.length ∧ allTo 0 (fun i => !Env.live (t.getD i default)) = true by exact ⟨by omega, rfl⟩)
 ·rintro j hI
  have hI : j ≤ t.length ∧ allTo j (fun i => !Env.live (t.getD i default)) = true := hI
  refine .seq <| .seq <| .rs fun k4 => .mv rfl <| .mv rfl <| .g (fun _ τ => ⟨_, .len (.no rfl) rfl (z := (t.length : Int)) t46 rfl rfl rfl (.d _ _) (map_len _ _) rfl τ⟩) <| .bi rfl <| .z ?_
  refine .cond (t := decide ((j : Int) < (t.length : Int))) rfl (fun c0 => ?_) (fun c0 => ?_)
  ·have c0 := of_decide_eq_true c0
   refine .skip <| .seq <| .block <| .seq <| .rs fun k5 => .mv rfl <| .mv rfl <| .g (fun _ τ => ⟨_, .indexAddr (.no rfl) rfl (j) t46 rfl t106 rfl rfl rfl (.d _ _) rfl rfl rfl (map_get (by omega)) rfl rfl τ⟩) <| .g (fun _ τ => ⟨_, .fieldAddr (.no rfl) rfl t106 rfl rfl t4 rfl rfl rfl rfl [] (by simp) (by intro _ _ _ h; cases h) rfl rfl τ⟩) ?_
   refine .ld t4 rfl (.d _) rfl <| .z ?_
   refine .cond (t := (t.getD j default).live) rfl (fun c1 => ?_) (fun c1 => ?_)
   ·have c1 := c1
    refine .seq <| .rs fun k6 => .as rfl <| .z <| .ret ?_
    exact fin0 (.inr rfl) (.one (svB (show (true) = (t.any Env.live) by exact (any_found (p := Env.live) (j := j) (by omega) c1).symm)) .nil) (.dd .nil) rfl
   ·have c1 := c1
    refine .skip <| .rs fun k8 => .mv rfl <| .bi rfl <| .as rfl <| .z ?_
    exact .here (j + 1) (.of (.cons rfl (.cons (svI (show (IntKind.wrap .i64 ((j : Int) + 1)) = (((j + 1) : Int)) by first | rfl | omega | exact wrap_le (by omega) (by omega) | (rw [wrap_le (by omega) (by omega)]; omega))) .nil)) .nil) ⟨(show (j + 1) ≤ t.length ∧ allTo (j + 1) (fun i => !Env.live (t.getD i default)) = true by exact ⟨by omega, allTo_step hI.2 (by rw [show Env.live (t.getD j default) = false from c1]; rfl)⟩), (show t.length - (j + 1) < t.length - j by omega)⟩
  ·have c0 := of_decide_eq_false c0
   refine .exit <| .seq <| .rs fun k9 => .as rfl <| .z <| .ret ?_
   exact fin0 (.inr rfl) (.one (svB (show (false) = (t.any Env.live) by exact (any_none (p := Env.live) (j := j) (by omega) hI.2).symm)) .nil) (.dd .nil) rfl
theorem c_isNaNi (x : Int) : Trip Tryz.prog 228 [(false, 1)] ([.v (.int .i64 (x))]) [(false, 1)] [.v (.bool (false))] [] := by
 refine Trip.of Tryz.func228 (by decide) (c := _) rfl rfl (shB_ok rfl) (Nat.le_of_ble_eq_true rfl) rfl (AftOk.nil _) <| .seq <| .rs fun k1 => .as rfl <| .z <| .seq <| .rs fun k2 => .mv rfl <| .mv rfl ?_
 refine .bi rfl <| .as rfl <| .z <| .ret ?_
 exact fin0 (.inr rfl) (.one (svB (show (x != x) = (false) by simp)) .nil) (.dd .nil) rfl
theorem c_Comparei (x : Int) (y : Int) : Trip Tryz.prog 201 [(false, 1), (false, 1)] ([.v (.int .i64 (x))] ++ [.v (.int .i64 (y))]) [(false, 1)] [.v (.int .i64 (cmpI x y))] [] := by
 refine Trip.of Tryz.func201 (by decide) (c := _) rfl rfl (shB_ok rfl) (Nat.le_of_ble_eq_true rfl) rfl (AftOk.nil _) <| .seq <| .rs fun k1 => .as rfl <| .z <| .seq <| .rs fun k2 => .mv rfl <| .c0 (c_isNaNi x) rfl (.dd .nil) (.own [8, 0] .nil) rfl ?_
 refine .as rfl <| .z <| .seq <| .rs fun k3 => .mv rfl <| .c0 (c_isNaNi y) rfl (.dd .nil) (.own [10, 0] .nil) rfl <| .as rfl <| .z <| .seq ?_
 refine .seq <| .rs fun k4 => .mv rfl <| .z ?_
 refine .cond (t := false) rfl (fun h => by cases h) (fun _ => ?_)
 refine .skip <| .seq <| .seq <| .rs fun k5 => .mv rfl <| .z ?_
 refine .cond (t := false) rfl (fun h => by cases h) (fun _ => ?_)
 refine .skip <| .seq <| .seq <| .rs fun k6 => .mv rfl <| .mv rfl <| .bi rfl <| .z ?_
 refine .cond (t := decide (x < y)) rfl (fun c3 => ?_) (fun c3 => ?_)
 ·have c3 := of_decide_eq_true c3
  refine .seq <| .rs fun k7 => .as rfl <| .z <| .ret ?_
  exact fin0 (.inr rfl) (.one (svI (show (-1) = (cmpI x y) by (rw [cmpI_lt c3]))) .nil) (.dd .nil) rfl
 ·have c3 := of_decide_eq_false c3
  refine .skip <| .seq <| .seq <| .rs fun k9 => .mv rfl <| .mv rfl <| .bi rfl <| .z ?_
  refine .cond (t := decide (x > y)) rfl (fun c4 => ?_) (fun c4 => ?_)
  ·have c4 := of_decide_eq_true c4
   refine .seq <| .rs fun k10 => .as rfl <| .z <| .ret ?_
   exact fin0 (.inr rfl) (.one (svI (show (1) = (cmpI x y) by (rw [cmpI_gt c3 c4]))) .nil) (.dd .nil) rfl
  ·have c4 := of_decide_eq_false c4
   refine .skip <| .seq <| .rs fun k12 => .as rfl <| .z <| .ret ?_
   exact fin0 (.inr rfl) (.one (svI (show (0) = (cmpI x y) by (rw [cmpI_eq c3 c4]))) .nil) (.dd .nil) rfl
theorem c_Ori (l : List Int) : Trip Tryz.prog 200 [(false, 1)] ([.sl false 3 1 (List.map i64c (l))]) [(false, 1)] [.v (.int .i64 (orL l))] [] := by
 refine Trip.of Tryz.func200 (by decide) (c := _) rfl rfl (shB_ok rfl) (Nat.le_of_ble_eq_true rfl) rfl (AftOk.nil _) <| .sl (t := 0) rfl fun hs1l => .seq <| .rs fun k2 => .as rfl <| .z <| .seq <| .rs fun k3 => .as rfl ?_
 refine .z <| .seq <| .seq <| .rs fun k4 => .mv rfl <| .g (fun _ τ => ⟨_, .len (.no rfl) rfl (z := (l.length : Int)) t241 rfl rfl rfl (.d _ _) (map_len _ _) rfl τ⟩) <| .mv rfl <| .z <| .block ?_
 refine .loop (X := Nat) (fun ζ => .of [(3, .one (.d (.v (.int .i64 (0))))), (6, .one (.d (.sl false 3 1 (List.map i64c (l))))), (7, .one (.d (.v (.int .i64 ((l.length : Int)))))), (8, .one (.d (.v (.int .i64 ((ζ : Int))))))] []) (fun ζ => ζ ≤ l.length ∧ orL (l.drop ζ) = orL l) (fun ζ => l.length - ζ) ?_ ?_
 ·skip
  exact .here 0 (.of (.cons rfl (.cons rfl (.cons rfl (.cons (svI (show (0) = ((0 : Int)) by first | rfl | omega | exact wrap_le (by omega) (by omega) | (rw [wrap_le (by omega) (by omega)]; omega))) .nil)))) .nil) (show 0 ≤ l.length ∧ orL (l.drop 0) = orL l by exact ⟨by omega, rfl⟩)
 ·rintro j hI
  have hI : j ≤ l.length ∧ orL (l.drop j) = orL l := hI
  refine .seq <| .rs fun k5 => .bi rfl <| .z <| .seq ?_
  refine .cond (t := decide ((j : Int) < (l.length : Int))) rfl (fun c0 => ?_) (fun c0 => ?_)
  ·have c0 := of_decide_eq_true c0
   refine .skip <| .seq <| .block <| .seq <| .rs fun k6 => .g (fun _ τ => ⟨_, .indexAddr (.no rfl) rfl (j) t241 rfl t3 rfl rfl rfl (.d _ _) rfl rfl rfl (map_get (by omega)) rfl rfl τ⟩) <| .ld t3 rfl (.d _) rfl <| .as rfl <| .z ?_
   refine .seq <| .rs fun k7 => .mv rfl <| .mv rfl <| .bi rfl <| .z ?_
   refine .cond (t := (l.getD j default) != 0) rfl (fun c1 => ?_) (fun c1 => ?_)
   ·have c1 := (by simpa using c1 : ¬ ((l.getD j default) = 0))
    refine .seq <| .rs fun k8 => .mv rfl <| .as rfl <| .z <| .ret ?_
    exact fin0 (.inr rfl) (.one (svI (show (l.getD j default) = (orL l) by (rw [← hI.2, orL_here (by omega) c1]))) .nil) (.dd .nil) rfl
   ·have c1 := (by simpa using c1 : (l.getD j default) = 0)
    refine .skip <| .rs fun k10 => .bi rfl <| .mv rfl <| .z ?_
    exact .here (j + 1) (.of (.cons rfl (.cons rfl (.cons rfl (.cons (svI (show (IntKind.wrap .i64 ((j : Int) + 1)) = (((j + 1) : Int)) by first | rfl | omega | exact wrap_le (by omega) (by omega) | (rw [wrap_le (by omega) (by omega)]; omega))) .nil)))) .nil) ⟨(show (j + 1) ≤ l.length ∧ orL (l.drop (j + 1)) = orL l by exact ⟨by omega, (orL_step (by omega) (by simpa using c1)).symm.trans hI.2⟩), (show l.length - (j + 1) < l.length - j by omega)⟩
  ·have c0 := of_decide_eq_false c0
   refine .exit <| .seq <| .rs fun k11 => .mv rfl <| .as rfl <| .z <| .ret ?_
   exact fin0 (.inr rfl) (.one (svI (show (0) = (orL l) by (rw [← hI.2, orL_end (by omega)]))) .nil) (.dd .nil) rfl
theorem c_isNaNl (x : Int) : Trip Tryz.prog 229 [(false, 1)] ([.v (.int .i64 (x))]) [(false, 1)] [.v (.bool (false))] [] := by
 refine Trip.of Tryz.func229 (by decide) (c := _) rfl rfl (shB_ok rfl) (Nat.le_of_ble_eq_true rfl) rfl (AftOk.nil _) <| .seq <| .rs fun k1 => .as rfl <| .z <| .seq <| .rs fun k2 => .mv rfl <| .mv rfl ?_
 refine .bi rfl <| .as rfl <| .z <| .ret ?_
 exact fin0 (.inr rfl) (.one (svB (show (x != x) = (false) by simp)) .nil) (.dd .nil) rfl
theorem c_Comparel (x : Int) (y : Int) : Trip Tryz.prog 204 [(false, 1), (false, 1)] ([.v (.int .i64 (x))] ++ [.v (.int .i64 (y))]) [(false, 1)] [.v (.int .i64 (cmpI x y))] [] := by
 refine Trip.of Tryz.func204 (by decide) (c := _) rfl rfl (shB_ok rfl) (Nat.le_of_ble_eq_true rfl) rfl (AftOk.nil _) <| .seq <| .rs fun k1 => .as rfl <| .z <| .seq <| .rs fun k2 => .mv rfl <| .c0 (c_isNaNl x) rfl (.dd .nil) (.own [8, 0] .nil) rfl ?_
 refine .as rfl <| .z <| .seq <| .rs fun k3 => .mv rfl <| .c0 (c_isNaNl y) rfl (.dd .nil) (.own [10, 0] .nil) rfl <| .as rfl <| .z <| .seq ?_
 refine .seq <| .rs fun k4 => .mv rfl <| .z ?_
 refine .cond (t := false) rfl (fun h => by cases h) (fun _ => ?_)
 refine .skip <| .seq <| .seq <| .rs fun k5 => .mv rfl <| .z ?_
 refine .cond (t := false) rfl (fun h => by cases h) (fun _ => ?_)
 refine .skip <| .seq <| .seq <| .rs fun k6 => .mv rfl <| .mv rfl <| .bi rfl <| .z ?_
 refine .cond (t := decide (x < y)) rfl (fun c3 => ?_) (fun c3 => ?_)
 ·have c3 := of_decide_eq_true c3
  refine .seq <| .rs fun k7 => .as rfl <| .z <| .ret ?_
  exact fin0 (.inr rfl) (.one (svI (show (-1) = (cmpI x y) by (rw [cmpI_lt c3]))) .nil) (.dd .nil) rfl
 ·have c3 := of_decide_eq_false c3
  refine .skip <| .seq <| .seq <| .rs fun k9 => .mv rfl <| .mv rfl <| .bi rfl <| .z ?_
  refine .cond (t := decide (x > y)) rfl (fun c4 => ?_) (fun c4 => ?_)
  ·have c4 := of_decide_eq_true c4
   refine .seq <| .rs fun k10 => .as rfl <| .z <| .ret ?_
   exact fin0 (.inr rfl) (.one (svI (show (1) = (cmpI x y) by (rw [cmpI_gt c3 c4]))) .nil) (.dd .nil) rfl
  ·have c4 := of_decide_eq_false c4
   refine .skip <| .seq <| .rs fun k12 => .as rfl <| .z <| .ret ?_
   exact fin0 (.inr rfl) (.one (svI (show (0) = (cmpI x y) by (rw [cmpI_eq c3 c4]))) .nil) (.dd .nil) rfl
end Go.Proofs

namespace Go.Proofs
open Go Go.Proofs Go.Ev

def i248 : TI := ⟨.fn, 1, 8, [.nilFunc]⟩
theorem t248 : TyOk Tryz.prog 248 i248 := ⟨⟨_, _, _, Tryz.underlying248⟩, by kernel_rfl⟩
theorem z248 : ZOk Tryz.prog 248 i248 := ⟨t248, rfl⟩
theorem c_CompareFunc (a : List Entry) (b : List Entry) (F_p : FuncId) (first_p : List (Bool × List D)) (caps_p : List D) (p : Entry → Entry → Int) (h_p : ∀ (x0 : Entry) (x1 : Entry), FnTrip Tryz.prog F_p first_p caps_p [(true, 2), (true, 2)] (Entry.c x0 ++ Entry.c x1) [(false, 1)] [.v (.int .i64 (p x0 x1))]) : Trip Tryz.prog 202 [(false, 1), (false, 1), (false, 1)] ([.sl false 145 2 (List.map Entry.c (a))] ++ [.sl false 145 2 (List.map Entry.c (b))] ++ [.fn F_p first_p caps_p]) [(false, 1)] [.v (.int .i64 (lexC p a b))] [] := by
 refine Trip.of Tryz.func202 (by decide +kernel) (c := _) rfl rfl (shB_ok rfl) (Nat.le_of_ble_eq_true rfl) rfl (AftOk.nil _) <| .sl (t := 0) rfl fun hs1l => .sl (t := 1) rfl fun hs2l => .seq <| .rs fun k3 => .as rfl <| .z <| .seq <| .seq ?_
 refine .rs fun k4 => .mv rfl <| .g (fun _ τ => ⟨_, .len (.no rfl) rfl (z := (a.length : Int)) t72 rfl rfl rfl (.d _ _) (map_len _ _) rfl τ⟩) <| .mv rfl <| .z <| .block ?_
 refine .loop (X := Nat) (fun ζ => .of [(0, .one (.d (.sl false 145 2 (List.map Entry.c (a))))), (1, .one (.d (.sl false 145 2 (List.map Entry.c (b))))), (2, .one (.d (.fn F_p first_p caps_p))), (11, .one (.d (.sl false 145 2 (List.map Entry.c (a))))), (12, .one (.d (.v (.int .i64 ((a.length : Int)))))), (13, .one (.d (.v (.int .i64 ((ζ : Int))))))] []) (fun ζ => ζ ≤ a.length ∧ ζ ≤ b.length ∧ lexC p (a.drop ζ) (b.drop ζ) = lexC p a b) (fun ζ => a.length - ζ) ?_ ?_
 ·skip
  exact .here 0 (.of (.cons rfl (.cons rfl (.cons rfl (.cons rfl (.cons rfl (.cons (svI (show (0) = ((0 : Int)) by first | rfl | omega | exact wrap_le (by omega) (by omega) | (rw [wrap_le (by omega) (by omega)]; omega))) .nil)))))) .nil) (show 0 ≤ a.length ∧ 0 ≤ b.length ∧ lexC p (a.drop 0) (b.drop 0) = lexC p a b by exact ⟨by omega, by omega, rfl⟩)
 ·rintro j hI
  have hI : j ≤ a.length ∧ j ≤ b.length ∧ lexC p (a.drop j) (b.drop j) = lexC p a b := hI
  refine .seq <| .rs fun k5 => .bi rfl <| .z <| .seq ?_
  refine .cond (t := decide ((j : Int) < (a.length : Int))) rfl (fun c0 => ?_) (fun c0 => ?_)
  ·have c0 := of_decide_eq_true c0
   refine .skip <| .seq <| .block <| .seq <| .rs fun k6 => .mv rfl <| .g (fun _ τ => ⟨_, .indexAddr (.no rfl) rfl (j) t72 rfl t145 rfl rfl rfl (.d _ _) rfl rfl rfl (map_get (by omega)) rfl rfl τ⟩) <| .lda t145 rfl (.d _) rfl <| .g (fun _ τ => ⟨_, .alloc (.no rfl) rfl z145 rfl rfl rfl τ⟩) ?_
   refine .as rfl <| .g (fun _ τ => ⟨_, .store (.no rfl) rfl t145 rfl rfl rfl rfl rfl rfl rfl rfl rfl τ⟩) <| .z <| .seq <| .seq <| .rs fun k7 => .mv rfl <| .mv rfl <| .g (fun _ τ => ⟨_, .len (.no rfl) rfl (z := (b.length : Int)) t72 rfl rfl rfl (.d _ _) (map_len _ _) rfl τ⟩) ?_
   refine .bi rfl <| .z ?_
   refine .cond (t := decide ((j : Int) ≥ (b.length : Int))) rfl (fun c1 => ?_) (fun c1 => ?_)
   ·have c1 := of_decide_eq_true c1
    refine .seq <| .rs fun k8 => .as rfl <| .z <| .ret ?_
    exact fin0 (.inr rfl) (.one (svI (show (1) = (lexC p a b) by (rw [← hI.2.2, lexC_more (by omega) (by omega)]))) .nil) (.dd .nil) rfl
   ·have c1 := of_decide_eq_false c1
    refine .skip <| .seq <| .rs fun k10 => .mv rfl <| .mv rfl <| .g (fun _ τ => ⟨_, .indexAddr (.no rfl) rfl (j) t72 rfl t145 rfl rfl rfl (.d _ _) rfl rfl rfl (map_get (by omega)) rfl rfl τ⟩) <| .lda t145 rfl (.d _) rfl <| .g (fun _ τ => ⟨_, .alloc (.no rfl) rfl z145 rfl rfl rfl τ⟩) <| .g (fun _ τ => ⟨_, .store (.no rfl) rfl t145 rfl rfl rfl rfl rfl rfl rfl rfl rfl τ⟩) ?_
    refine .z <| .seq <| .rs fun k11 => .mv rfl <| .lda t145 rfl (.ptr _ _ _ _ _ rfl) rfl <| .lda t145 rfl (.ptr _ _ _ _ _ rfl) rfl <| .g (fun _ τ => ⟨_, .callF (.no rfl) rfl (ds := [.v (.int .i64 ((a.getD j default).line)), .v (.int .i64 ((a.getD j default).pick)), .v (.int .i64 ((b.getD j default).line)), .v (.int .i64 ((b.getD j default).pick))]) (h_p (a.getD j default) (b.getD j default)) rfl rfl rfl rfl (.own [29, 0] .nil) rfl rfl rfl rfl rfl rfl τ⟩) <| .as rfl <| .z ?_
    refine .seq <| .rs fun k12 => .mv rfl <| .bi rfl <| .z ?_
    refine .cond (t := (p (a.getD j default) (b.getD j default)) != 0) rfl (fun c2 => ?_) (fun c2 => ?_)
    ·have c2 := (by simpa using c2 : ¬ ((p (a.getD j default) (b.getD j default)) = 0))
     refine .seq <| .rs fun k13 => .mv rfl <| .as rfl <| .z <| .ret ?_
     exact fin0 (.inr rfl) (.one (svI (show (p (a.getD j default) (b.getD j default)) = (lexC p a b) by (rw [← hI.2.2, lexC_here (by omega) (by omega) c2]))) .nil) (.dd .nil) rfl
    ·have c2 := (by simpa using c2 : (p (a.getD j default) (b.getD j default)) = 0)
     refine .skip <| .rs fun k15 => .bi rfl <| .mv rfl <| .z ?_
     exact .here (j + 1) (.of (.cons rfl (.cons rfl (.cons rfl (.cons rfl (.cons rfl (.cons (svI (show (IntKind.wrap .i64 ((j : Int) + 1)) = (((j + 1) : Int)) by first | rfl | omega | exact wrap_le (by omega) (by omega) | (rw [wrap_le (by omega) (by omega)]; omega))) .nil)))))) .nil) ⟨(show (j + 1) ≤ a.length ∧ (j + 1) ≤ b.length ∧ lexC p (a.drop (j + 1)) (b.drop (j + 1)) = lexC p a b by exact ⟨by omega, by omega, (lexC_step (by omega) (by omega) (by simpa using c2)).symm.trans hI.2.2⟩), (show a.length - (j + 1) < a.length - j by omega)⟩
  ·have c0 := of_decide_eq_false c0
   refine .exit <| .seq <| .seq <| .rs fun k16 => .mv rfl <| .g (fun _ τ => ⟨_, .len (.no rfl) rfl (z := (a.length : Int)) t72 rfl rfl rfl (.d _ _) (map_len _ _) rfl τ⟩) <| .mv rfl <| .g (fun _ τ => ⟨_, .len (.no rfl) rfl (z := (b.length : Int)) t72 rfl rfl rfl (.d _ _) (map_len _ _) rfl τ⟩) <| .bi rfl ?_
   refine .z ?_
   refine .cond (t := decide ((a.length : Int) < (b.length : Int))) rfl (fun c3 => ?_) (fun c3 => ?_)
   ·have c3 := of_decide_eq_true c3
    refine .seq <| .rs fun k17 => .as rfl <| .z <| .ret ?_
    exact fin0 (.inr rfl) (.one (svI (show (-1) = (lexC p a b) by (rw [← hI.2.2, lexC_less (by omega) (by omega)]))) .nil) (.dd .nil) rfl
   ·have c3 := of_decide_eq_false c3
    refine .skip <| .seq <| .rs fun k19 => .as rfl <| .z <| .ret ?_
    exact fin0 (.inr rfl) (.one (svI (show (0) = (lexC p a b) by (rw [← hI.2.2, lexC_end (by omega) (by omega)]))) .nil) (.dd .nil) rfl
theorem c_cmpTok1 (x : Entry) (y : Entry) : Trip Tryz.prog 203 [(true, 2), (true, 2)] (Entry.c x ++ Entry.c y) [(false, 1)] [.v (.int .i64 (entCmp x y))] [] := by
 refine Trip.of Tryz.func203 (by decide) (c := _) rfl rfl (shB_ok rfl) (Nat.le_of_ble_eq_true rfl) rfl (AftOk.nil _) <| .seq <| .rs fun k1 => .g (fun _ τ => ⟨_, .box (.no rfl) rfl rfl rfl rfl rfl τ⟩) <| .g (fun _ τ => ⟨_, .box (.no rfl) rfl rfl rfl rfl rfl τ⟩) <| .as rfl <| .z <| .seq ?_
 refine .regD (X := Unit) (by kernel_rfl) (fun ζ => .of [(4, .one (.d (.v (.int .i64 (orL [cmpI x.line y.line, cmpI x.pick y.pick])))))] []) [⟨[2], some 5, [], []⟩, ⟨[5], some 6, [[2]], []⟩, ⟨[3], some 7, [], []⟩, ⟨[7], some 8, [[3]], []⟩, ⟨[6, 8], some 9, [], []⟩, ⟨[2], some 10, [], []⟩, ⟨[10], some 11, [[2]], []⟩, ⟨[3], some 12, [], []⟩, ⟨[12], some 13, [[3]], []⟩, ⟨[11, 13], some 14, [], []⟩, ⟨[9, 14], some 15, [], [[15]]⟩, ⟨[15], some 16, [[15]], []⟩, ⟨[16], some 4, [], []⟩] (by kernel_rfl) (fun k2 => ?_) ?_
 ·skip
  refine .fieldAddrP (.no rfl) rfl t145 rfl rfl t2 rfl rfl rfl rfl <| .load (.no rfl) rfl t2 rfl rfl (.ptr _ _ _ _ _ rfl) rfl rfl rfl rfl <| .fieldAddrP (.no rfl) rfl t145 rfl rfl t2 rfl rfl rfl rfl <| .load (.no rfl) rfl t2 rfl rfl (.ptr _ _ _ _ _ rfl) rfl rfl rfl rfl <| .call (.no rfl) rfl [] [] (c_Comparel x.line y.line) rfl rfl rfl rfl rfl (.dd (.dd .nil)) rfl rfl (fun h => absurd rfl h) (.own [9, 0] .nil) (.nil) rfl rfl rfl (by simp) rfl rfl rfl <| .fieldAddrP (.no rfl) rfl t145 rfl rfl t2 rfl rfl rfl rfl <| .load (.no rfl) rfl t2 rfl rfl (.ptr _ _ _ _ _ rfl) rfl rfl rfl rfl <| .fieldAddrP (.no rfl) rfl t145 rfl rfl t2 rfl rfl rfl rfl <| .load (.no rfl) rfl t2 rfl rfl (.ptr _ _ _ _ _ rfl) rfl rfl rfl rfl ?_
  refine .call (.no rfl) rfl [] [] (c_Comparel x.pick y.pick) rfl rfl rfl rfl rfl (.dd (.dd .nil)) rfl rfl (fun h => absurd rfl h) (.own [14, 0] .nil) (.nil) rfl rfl rfl (by simp) rfl rfl rfl <| .buildSlice (.no rfl) rfl (els := [[.v (.int .i64 (cmpI x.line y.line))], [.v (.int .i64 (cmpI x.pick y.pick))]]) t241 rfl z3 rfl rfl rfl rfl rfl rfl rfl rfl (by simp [i3]) (.cons _ _ _ _ _ _ (.d _) (.cons _ _ _ _ _ _ (.d _) .nil)) rfl rfl rfl ?_
  refine .call (.no rfl) rfl [[15]] [([15], (k2 + 1 + 1 + 1 + 1 + 1 + 1 + 1 + 1 + 1 + 1, k2 + 1 + 1 + 1 + 1 + 1 + 1 + 1 + 1 + 1 + 1, .row 3 1 ([[.v (.int .i64 (cmpI x.line y.line))], [.v (.int .i64 (cmpI x.pick y.pick))]])))] (c_Ori [cmpI x.line y.line, cmpI x.pick y.pick]) rfl rfl rfl rfl rfl (.cons (Reads.ref (Frz.of_erase (erase_slo true 3 1 i64c i64c ([cmpI x.line y.line, cmpI x.pick y.pick]) i64c_e)) (.head _) (.head _)).gives .nil) rfl rfl (fun _ => (ownCons (Owned.v _) ownNil)) (.own [16, 0] .nil) (.nil) rfl rfl rfl (AllH.get (.r rfl)) rfl rfl rfl <| .assign (.no rfl) rfl rfl rfl rfl ?_
  exact .fin () (.of (.r rfl) .nil)
 intro _
 refine .ret ?_
 exact fin0 (.inr rfl) (.one (svI (show (orL [cmpI x.line y.line, cmpI x.pick y.pick]) = (entCmp x y) by exact orL_two _ _)) .nil) (.dd .nil) rfl
theorem c_compareTokens (a : List Entry) (b : List Entry) : Trip Tryz.prog 166 [(false, 1), (false, 1)] ([.sl false 145 2 (List.map Entry.c (a))] ++ [.sl false 145 2 (List.map Entry.c (b))]) [(false, 1)] [.v (.int .i64 (tokCmp a b))] [] := by
 refine Trip.of Tryz.func166 (by decide) (c := _) rfl rfl (shB_ok rfl) (Nat.le_of_ble_eq_true rfl) rfl (AftOk.nil _) <| .sl (t := 0) rfl fun hs1l => .sl (t := 1) rfl fun hs2l => .seq <| .rs fun k3 => .as rfl <| .z <| .seq <| .rs fun k4 => ?_
 refine .mv rfl <| .g (fun _ τ => ⟨_, .len (.no rfl) rfl (z := (a.length : Int)) t72 rfl rfl rfl (.d _ _) (map_len _ _) rfl τ⟩) <| .mv rfl <| .g (fun _ τ => ⟨_, .len (.no rfl) rfl (z := (b.length : Int)) t72 rfl rfl rfl (.d _ _) (map_len _ _) rfl τ⟩) <| .c0 (c_Comparei (a.length : Int) (b.length : Int)) rfl (.dd (.dd .nil)) (.own [9, 0] .nil) rfl <| .mv rfl <| .mv rfl <| .c0 (c_CompareFunc a b 203 [] [] (fun x0 x1 => entCmp x0 x1) (fun x0 x1 => c_cmpTok1 x0 x1)) rfl (.dd (.dd (.dd .nil))) (.own [12, 0] .nil) rfl <| .g (fun _ τ => ⟨_, .buildSlice (.no rfl) rfl (els := [[.v (.int .i64 (cmpI (a.length : Int) (b.length : Int)))], [.v (.int .i64 (lexC (fun x0 x1 => entCmp x0 x1) a b))]]) t241 rfl z3 rfl rfl rfl rfl rfl rfl rfl rfl (by simp [i3]) (.cons _ _ _ _ _ _ (.d _) (.cons _ _ _ _ _ _ (.d _) .nil)) rfl rfl rfl τ⟩) ?_
 refine .g (fun _ τ => ⟨_, .call (.no rfl) rfl [[13]] [([13], (k4 + 1 + 1 + 1 + 1 + 1 + 1 + 1 + 1, k4 + 1 + 1 + 1 + 1 + 1 + 1 + 1 + 1, .row 3 1 ([[.v (.int .i64 (cmpI (a.length : Int) (b.length : Int)))], [.v (.int .i64 (lexC (fun x0 x1 => entCmp x0 x1) a b))]])))] (c_Ori [cmpI (a.length : Int) (b.length : Int), lexC (fun x0 x1 => entCmp x0 x1) a b]) rfl rfl rfl rfl rfl (.cons (Reads.ref (Frz.of_erase (erase_slo true 3 1 i64c i64c ([cmpI (a.length : Int) (b.length : Int), lexC (fun x0 x1 => entCmp x0 x1) a b]) i64c_e)) (.head _) (.head _)).gives .nil) rfl rfl (fun _ => (ownCons (Owned.v _) ownNil)) (.own [14, 0] .nil) (.nil) rfl rfl rfl (AllH.get (.r rfl)) rfl rfl rfl τ⟩) <| .as rfl <| .z <| .ret ?_
 exact fin0 (.inr rfl) (.one (svI (show (orL [cmpI (a.length : Int) (b.length : Int), lexC (fun x0 x1 => entCmp x0 x1) a b]) = (tokCmp a b) by exact orL_two _ _)) .nil) (.dd .nil) rfl
theorem c_entryOk (e : Entry) : Trip Tryz.prog 238 [(true, 2)] (Entry.c e) [(false, 1)] [.v (.bool (Entry.ok e))] [] := by
 refine Trip.of Tryz.func238 (by decide) (c := _) rfl rfl (shB_ok rfl) (Nat.le_of_ble_eq_true rfl) rfl (AftOk.nil _) <| .seq <| .rs fun k1 => .g (fun _ τ => ⟨_, .box (.no rfl) rfl rfl rfl rfl rfl τ⟩) <| .as rfl <| .z <| .seq ?_
 refine .reg (X := Unit) (fun ζ => .of [(2, .one (.d (.v (.bool ((inR e.line 0 29 && inR e.pick 0 4))))))] []) [⟨[1], some 3, [], []⟩, ⟨[3], some 4, [[1]], []⟩, ⟨[4], some 5, [], []⟩, ⟨[5], some 6, [], []⟩, ⟨[6, 1], some 7, [], []⟩, ⟨[6, 7], some 8, [[1]], []⟩, ⟨[6, 8], some 9, [], []⟩, ⟨[6, 9], some 10, [], []⟩, ⟨[10], some 2, [], []⟩] (fun k2 => ?_) ?_
 ·skip
  refine .fieldAddrP (.no rfl) rfl t145 rfl rfl t2 rfl rfl rfl rfl <| .load (.no rfl) rfl t2 rfl rfl (.ptr _ _ _ _ _ rfl) rfl rfl rfl rfl <| .call (.no rfl) rfl [] [] (c_within e.line 0 29) rfl rfl rfl rfl rfl (.dd (.dd (.dd .nil))) rfl rfl (fun h => absurd rfl h) (.own [5, 0] .nil) (.nil) rfl rfl rfl (by simp) rfl rfl rfl <| .moveB (.no rfl) rfl rfl rfl rfl fun b3 g1_3 => ?_
  cases b3
  ·skip
   refine .off rfl rfl rfl rfl rfl rfl rfl <| .off rfl rfl rfl rfl rfl rfl rfl <| .off rfl rfl rfl rfl rfl rfl rfl <| .pick (.no rfl) rfl rfl rfl rfl rfl <| .assign (.no rfl) rfl rfl rfl rfl ?_
   exact .fin () (.of (.cons (svB (show (false) = ((inR e.line 0 29 && inR e.pick 0 4)) by first | (simp only [g1_3, Bool.true_or, Bool.false_or, Bool.true_and, Bool.false_and, Bool.not_true, Bool.not_false]; done) | simp [g1_3])) .nil) .nil)
  ·skip
   refine .fieldAddrP (.on rfl rfl rfl rfl rfl) rfl t145 rfl rfl t2 rfl rfl rfl rfl <| .load (.on rfl rfl rfl rfl rfl) rfl t2 rfl rfl (.ptr _ _ _ _ _ rfl) rfl rfl rfl rfl <| .call (.on rfl rfl rfl rfl rfl) rfl [] [] (c_within e.pick 0 4) rfl rfl rfl rfl rfl (.dd (.dd (.dd .nil))) rfl rfl (fun h => absurd rfl h) (.own [9, 0] .nil) (.nil) rfl rfl rfl (by simp) rfl rfl rfl <| .pick (.no rfl) rfl rfl rfl rfl rfl <| .assign (.no rfl) rfl rfl rfl rfl ?_
   exact .fin () (.of (.cons (svB (show (inR e.pick 0 4) = ((inR e.line 0 29 && inR e.pick 0 4)) by first | (simp only [g1_3, Bool.true_or, Bool.false_or, Bool.true_and, Bool.false_and, Bool.not_true, Bool.not_false]; done) | simp [g1_3])) .nil) .nil)
 intro _
 refine .ret ?_
 exact fin0 (.inr rfl) (.one (svB (show ((inR e.line 0 29 && inR e.pick 0 4)) = (Entry.ok e) by rfl)) .nil) (.dd .nil) rfl
theorem c_IndexFuncY (l : List Entry) (F_p : FuncId) (first_p : List (Bool × List D)) (caps_p : List D) (p : Entry → Bool) (h_p : ∀ (x0 : Entry), FnTrip Tryz.prog F_p first_p caps_p [(true, 2)] (Entry.c x0) [(false, 1)] [.v (.bool (p x0))]) : Trip Tryz.prog 250 [(false, 1), (false, 1)] ([.sl false 145 2 (List.map Entry.c (l))] ++ [.fn F_p first_p caps_p]) [(false, 1)] [.v (.int .i64 (idx p l))] [] := by
 refine Trip.of Tryz.func250 (by decide) (c := _) rfl rfl (shB_ok rfl) (Nat.le_of_ble_eq_true rfl) rfl (AftOk.nil _) <| .sl (t := 0) rfl fun hs1l => .seq <| .rs fun k2 => .as rfl <| .z <| .seq <| .seq <| .rs fun k3 => ?_
 refine .mv rfl <| .g (fun _ τ => ⟨_, .len (.no rfl) rfl (z := (l.length : Int)) t72 rfl rfl rfl (.d _ _) (map_len _ _) rfl τ⟩) <| .mv rfl <| .z <| .block ?_
 refine .loop (X := Nat) (fun ζ => .of [(0, .one (.d (.sl false 145 2 (List.map Entry.c (l))))), (1, .one (.d (.fn F_p first_p caps_p))), (7, .one (.d (.v (.int .i64 ((l.length : Int)))))), (8, .one (.d (.v (.int .i64 ((ζ : Int))))))] []) (fun ζ => ζ ≤ l.length ∧ allTo ζ (fun i => !p (l.getD i default)) = true) (fun ζ => l.length - ζ) ?_ ?_
 ·skip
  exact .here 0 (.of (.cons rfl (.cons rfl (.cons rfl (.cons (svI (show (0) = ((0 : Int)) by first | rfl | omega | exact wrap_le (by omega) (by omega) | (rw [wrap_le (by omega) (by omega)]; omega))) .nil)))) .nil) (show 0 ≤ l.length ∧ allTo 0 (fun i => !p (l.getD i default)) = true by exact ⟨by omega, rfl⟩)
 ·rintro j hI
  have hI : j ≤ l.length ∧ allTo j (fun i => !p (l.getD i default)) = true := hI
  refine .seq <| .rs fun k4 => .bi rfl <| .z <| .seq ?_
  refine .cond (t := decide ((j : Int) < (l.length : Int))) rfl (fun c0 => ?_) (fun c0 => ?_)
  ·have c0 := of_decide_eq_true c0
   refine .skip <| .seq <| .block <| .seq <| .rs fun k5 => .mv rfl <| .as rfl <| .z <| .seq ?_
   refine .rs fun k6 => .mv rfl <| .mv rfl <| .mv rfl <| .g (fun _ τ => ⟨_, .indexAddr (.no rfl) rfl (j) t72 rfl t145 rfl rfl rfl (.d _ _) rfl rfl rfl (map_get (by omega)) rfl rfl τ⟩) <| .lda t145 rfl (.d _) rfl <| .g (fun _ τ => ⟨_, .callF (.no rfl) rfl (ds := [.v (.int .i64 ((l.getD j default).line)), .v (.int .i64 ((l.getD j default).pick))]) (h_p (l.getD j default)) rfl rfl rfl rfl (.own [16, 0] .nil) rfl rfl rfl rfl rfl rfl τ⟩) <| .z ?_
   refine .cond (t := p (l.getD j default)) rfl (fun c1 => ?_) (fun c1 => ?_)
   ·have c1 := c1
    refine .seq <| .rs fun k7 => .mv rfl <| .as rfl <| .z <| .ret ?_
    exact fin0 (.inr rfl) (.one (svI (show ((j : Int)) = (idx p l) by exact (idx_found (j := j) (by omega) hI.2 (by simpa using c1)).symm)) .nil) (.dd .nil) rfl
   ·have c1 := c1
    refine .skip <| .rs fun k9 => .bi rfl <| .mv rfl <| .z ?_
    exact .here (j + 1) (.of (.cons rfl (.cons rfl (.cons rfl (.cons (svI (show (IntKind.wrap .i64 ((j : Int) + 1)) = (((j + 1) : Int)) by first | rfl | omega | exact wrap_le (by omega) (by omega) | (rw [wrap_le (by omega) (by omega)]; omega))) .nil)))) .nil) ⟨(show (j + 1) ≤ l.length ∧ allTo (j + 1) (fun i => !p (l.getD i default)) = true by exact ⟨by omega, allTo_step hI.2 (by simpa using c1)⟩), (show l.length - (j + 1) < l.length - j by omega)⟩
  ·have c0 := of_decide_eq_false c0
   refine .exit <| .seq <| .rs fun k10 => .as rfl <| .z <| .ret ?_
   exact fin0 (.inr rfl) (.one (svI (show (-1) = (idx p l) by exact (idx_none (by omega) hI.2).symm)) .nil) (.dd .nil) rfl
theorem c_ContainsFuncY (l : List Entry) (F_p : FuncId) (first_p : List (Bool × List D)) (caps_p : List D) (p : Entry → Bool) (h_p : ∀ (x0 : Entry), FnTrip Tryz.prog F_p first_p caps_p [(true, 2)] (Entry.c x0) [(false, 1)] [.v (.bool (p x0))]) : Trip Tryz.prog 247 [(false, 1), (false, 1)] ([.sl false 145 2 (List.map Entry.c (l))] ++ [.fn F_p first_p caps_p]) [(false, 1)] [.v (.bool (l.any p))] [] := by
 refine Trip.of Tryz.func247 (by decide) (c := _) rfl rfl (shB_ok rfl) (Nat.le_of_ble_eq_true rfl) rfl (AftOk.nil _) <| .sl (t := 0) rfl fun hs1l => .seq <| .rs fun k2 => .as rfl <| .z <| .seq <| .rs fun k3 => .mv rfl ?_
 refine .mv rfl <| .c0 (c_IndexFuncY l F_p first_p caps_p p h_p) rfl (.dd (.dd .nil)) (.own [7, 0] .nil) rfl <| .bi rfl <| .as rfl <| .z <| .ret ?_
 exact fin0 (.inr rfl) (.one (svB (show (decide ((idx p l) ≥ 0)) = (l.any p) by exact idx_any _ _)) .nil) (.dd .nil) rfl
theorem c_areAll1Y (x : Entry) (F_p : FuncId) (first_p : List (Bool × List D)) (caps_p : List D) (p : Entry → Bool) (h_p : ∀ (x0 : Entry), FnTrip Tryz.prog F_p first_p caps_p [(true, 2)] (Entry.c x0) [(false, 1)] [.v (.bool (p x0))]) : Trip Tryz.prog 248 [(true, 2), (false, 1)] (Entry.c x ++ [.pt false [.fn F_p first_p caps_p]]) [(false, 1)] [.v (.bool (!p x))] [] := by
 refine Trip.of Tryz.func248 (by decide) (c := _) rfl rfl (shB_ok rfl) (Nat.le_of_ble_eq_true rfl) rfl (AftOk.nil _) <| .seq <| .rs fun k1 => .g (fun _ τ => ⟨_, .box (.no rfl) rfl rfl rfl rfl rfl τ⟩) <| .as rfl <| .z <| .seq <| .rs fun k2 => .ld t248 rfl (.d _) rfl ?_
 refine .lda t145 rfl (.ptr _ _ _ _ _ rfl) rfl <| .g (fun _ τ => ⟨_, .callF (.no rfl) rfl (ds := [.v (.int .i64 (x.line)), .v (.int .i64 (x.pick))]) (h_p x) rfl rfl rfl rfl (.own [6, 0] .nil) rfl rfl rfl rfl rfl rfl τ⟩) <| .un rfl <| .as rfl <| .z <| .ret ?_
 exact fin0 (.inr rfl) (.one (svB (show (!(p x)) = (!p x) by rfl)) .nil) (.dd .nil) rfl
theorem c_areAllY (l : List Entry) (F_p : FuncId) (first_p : List (Bool × List D)) (caps_p : List D) (p : Entry → Bool) (h_p : ∀ (x0 : Entry), FnTrip Tryz.prog F_p first_p caps_p [(true, 2)] (Entry.c x0) [(false, 1)] [.v (.bool (p x0))]) : Trip Tryz.prog 237 [(false, 1), (false, 1)] ([.sl false 145 2 (List.map Entry.c (l))] ++ [.fn F_p first_p caps_p]) [(false, 1)] [.v (.bool (l.all p))] [] := by
 refine Trip.of Tryz.func237 (by decide) (c := _) rfl rfl (shB_ok rfl) (Nat.le_of_ble_eq_true rfl) rfl (AftOk.nil _) <| .sl (t := 0) rfl fun hs1l => .seq <| .rs fun k2 => .g (fun _ τ => ⟨_, .box (.no rfl) rfl rfl rfl rfl rfl τ⟩) <| .as rfl <| .z <| .seq <| .rs fun k3 => ?_
 refine .mv rfl <| .g (fun _ τ => ⟨_, .makeFunc (.no rfl) rfl rfl rfl rfl rfl τ⟩) <| .g (fun _ τ => ⟨_, .call (.no rfl) rfl [[3]] [([3], (k2, k2, .box [.d (.fn F_p first_p caps_p)]))] (c_ContainsFuncY l 248 [] [.pt false [.fn F_p first_p caps_p]] (fun x0 => !p x0) (fun x0 => c_areAll1Y x0 F_p first_p caps_p p h_p)) rfl rfl rfl rfl rfl (.dd (.cons (Reads.clo0 (.cons (Reads.ptr0 (.head _) (.head _) (.cons (Reads.d _) .nil)) .nil)).gives .nil)) rfl rfl (fun _ => (ownCons (Owned.v _) ownNil)) (.own [7, 0] .nil) (.nil) rfl rfl rfl (AllH.get (.r rfl)) rfl rfl rfl τ⟩) <| .un rfl <| .as rfl <| .z <| .ret ?_
 exact fin0 (.inr rfl) (.one (svB (show (!(l.any (fun x0 => !p x0))) = (l.all p) by exact not_any _ _)) .nil) (.dd .nil) rfl
theorem c_TokenOk (t : List Entry) : Trip Tryz.prog 219 [(false, 1)] ([.sl false 145 2 (List.map Entry.c (t))]) [(false, 1)] [.v (.bool (tokOk t))] [] := by
 refine Trip.of Tryz.func219 (by decide) (c := _) rfl rfl (shB_ok rfl) (Nat.le_of_ble_eq_true rfl) rfl (AftOk.nil _) <| .sl (t := 0) rfl fun hs1l => .seq <| .rs fun k2 => .as rfl <| .z <| .seq ?_
 refine .reg (X := Unit) (fun ζ => .of [(2, .one (.d (.v (.bool ((decide ((t.length : Int) ≤ 3) && t.all (fun x0 => Entry.ok x0)))))))] []) [⟨[0], some 3, [], []⟩, ⟨[3], some 4, [], []⟩, ⟨[4], some 5, [], []⟩, ⟨[5], some 6, [], []⟩, ⟨[6, 0], some 7, [], []⟩, ⟨[6, 7], some 8, [], []⟩, ⟨[6, 8], some 9, [], []⟩, ⟨[9], some 2, [], []⟩] (fun k3 => ?_) ?_
 ·skip
  refine .move (.no rfl) rfl rfl rfl rfl <| .len (.no rfl) rfl (z := (t.length : Int)) t72 rfl rfl rfl (.d _ _) (map_len _ _) rfl <| .bin (.no rfl) rfl rfl rfl rfl rfl rfl <| .moveB (.no rfl) rfl rfl rfl rfl fun b4 g1_3 => ?_
  cases b4
  ·skip
   refine .off rfl rfl rfl rfl rfl rfl rfl <| .off rfl rfl rfl rfl rfl rfl rfl <| .pick (.no rfl) rfl rfl rfl rfl rfl <| .assign (.no rfl) rfl rfl rfl rfl ?_
   exact .fin () (.of (.cons (svB (show (false) = ((decide ((t.length : Int) ≤ 3) && t.all (fun x0 => Entry.ok x0))) by first | (simp only [g1_3, Bool.true_or, Bool.false_or, Bool.true_and, Bool.false_and, Bool.not_true, Bool.not_false]; done) | simp [g1_3])) .nil) .nil)
  ·skip
   refine .move (.on rfl rfl rfl rfl rfl) rfl rfl rfl rfl <| .call (.on rfl rfl rfl rfl rfl) rfl [] [] (c_areAllY t 238 [] [] (fun x0 => Entry.ok x0) (fun x0 => c_entryOk x0)) rfl rfl rfl rfl rfl (.dd (.dd .nil)) rfl rfl (fun h => absurd rfl h) (.own [8, 0] .nil) (.nil) rfl rfl rfl (by simp) rfl rfl rfl <| .pick (.no rfl) rfl rfl rfl rfl rfl <| .assign (.no rfl) rfl rfl rfl rfl ?_
   exact .fin () (.of (.cons (svB (show (t.all (fun x0 => Entry.ok x0)) = ((decide ((t.length : Int) ≤ 3) && t.all (fun x0 => Entry.ok x0))) by first | (simp only [g1_3, Bool.true_or, Bool.false_or, Bool.true_and, Bool.false_and, Bool.not_true, Bool.not_false]; done) | simp [g1_3])) .nil) .nil)
 intro _
 refine .ret ?_
 exact fin0 (.inr rfl) (.one (svB (show ((decide ((t.length : Int) ≤ 3) && t.all (fun x0 => Entry.ok x0))) = (tokOk t) by (unfold tokOk; rw [show decide ((t.length : Int) ≤ 3) = decide (t.length ≤ 3) from decide_eq_decide.2 (by omega)]))) .nil) (.dd .nil) rfl
end Go.Proofs

namespace Go.Proofs
open Go Go.Proofs Go.Ev

def i216 : TI := ⟨.fn, 1, 8, [.nilFunc]⟩
theorem t216 : TyOk Tryz.prog 216 i216 := ⟨⟨_, _, _, Tryz.underlying216⟩, by kernel_rfl⟩
theorem z216 : ZOk Tryz.prog 216 i216 := ⟨t216, rfl⟩
theorem c_sPartsOk (d : Decl) (l : List Part) (hs : ∀ x ∈ Decl.names d, x.size ≤ 9223372036854775807) (hd : d.vars.length ≤ 1048576 ∧ d.flags.length ≤ 1048576 ∧ d.arrays.length ≤ 1048576) (hp : SmallP l) : Trip Tryz.prog 82 [(true, 3), (false, 1)] (Decl.c34 d ++ [.sl false 121 2 (List.map Part.c121 (l))]) [(false, 1)] [.v (.bool (Parts.ok d l))] [] := by
 refine Trip.of Tryz.func82 (by decide) (c := _) rfl rfl (shB_ok rfl) (Nat.le_of_ble_eq_true rfl) rfl (AftOk.nil _) <| .sla (t := 0) 0 rfl rfl fun hs1l => .sla (t := 0) 1 rfl rfl fun hs2l => .sla (t := 0) 2 rfl rfl fun hs3l => .sl (t := 1) rfl fun hs4l => .seq <| .rs fun k5 => .g (fun _ τ => ⟨_, .box (.no rfl) rfl rfl rfl rfl rfl τ⟩) <| .as rfl ?_
 refine .z <| .seq <| .seq ?_
 refine .reg (X := Unit) (fun ζ => .of [(1, .one (.d (.sl false 121 2 (List.map Part.c121 (l))))), (2, .one (.ptr [2] (k5) 0)), (13, .one (.d (.v (.bool ((!(Decl.ok d) || decide ((l.length : Int) > 100)))))))] [([2], (k5, k5, .box [.d (.sl false 9 1 (List.map strc (d.vars))), .d (.sl false 9 1 (List.map strc (d.flags))), .d (.sl false 168 2 (List.map Arr.c (d.arrays)))]))]) [⟨[2], some 6, [[2]], []⟩, ⟨[6], some 7, [], []⟩, ⟨[7], some 8, [], []⟩, ⟨[8], some 9, [], []⟩, ⟨[9, 1], some 10, [], []⟩, ⟨[9, 10], some 11, [], []⟩, ⟨[9, 11], some 12, [], []⟩, ⟨[9, 12], some 13, [], []⟩] (fun k6 => ?_) ?_
 ·skip
  refine .load (.no rfl) rfl t34 rfl rfl (.ptr _ _ _ _ _ rfl) rfl rfl rfl rfl <| .call (.no rfl) rfl [] [] (c_sDeclOk d (by first | assumption | exact (hp.2 _ (getD_mem (by omega))).2.2 | (simpa using g6_7) | (have h9 := of_decide_eq_true g6_10; exact Part.ok_tok (allTo_iff.1 hI.2.1 (j - 1) (by omega)))) (by first | assumption | exact (hp.2 _ (getD_mem (by omega))).2.2 | (simpa using g6_7) | (have h9 := of_decide_eq_true g6_10; exact Part.ok_tok (allTo_iff.1 hI.2.1 (j - 1) (by omega))))) rfl rfl rfl rfl rfl (.dd (.dd (.dd .nil))) rfl rfl (fun h => absurd rfl h) (.own [7, 0] .nil) (.nil) rfl rfl rfl (by simp) rfl rfl rfl <| .un (.no rfl) rfl rfl rfl rfl rfl <| .moveB (.no rfl) rfl rfl rfl rfl fun b7 g1_3 => ?_
  cases b7
  ·skip
   refine .move (.on rfl rfl rfl rfl rfl) rfl rfl rfl rfl <| .len (.on rfl rfl rfl rfl rfl) rfl (z := (l.length : Int)) t57 rfl rfl rfl (.d _ _) (map_len _ _) rfl <| .bin (.on rfl rfl rfl rfl rfl) rfl rfl rfl rfl rfl rfl <| .pick (.no rfl) rfl rfl rfl rfl rfl ?_
   exact .fin () (.of (.cons rfl (.cons rfl (.cons (svB (show (decide ((l.length : Int) > 100)) = ((!(Decl.ok d) || decide ((l.length : Int) > 100))) by first | (simp only [g1_3, Bool.true_or, Bool.false_or, Bool.true_and, Bool.false_and, Bool.not_true, Bool.not_false]; done) | simp [g1_3])) .nil))) (.r rfl))
  ·skip
   refine .off rfl rfl rfl rfl rfl rfl rfl <| .off rfl rfl rfl rfl rfl rfl rfl <| .off rfl rfl rfl rfl rfl rfl rfl <| .pick (.no rfl) rfl rfl rfl rfl rfl ?_
   exact .fin () (.of (.cons rfl (.cons rfl (.cons (svB (show (true) = ((!(Decl.ok d) || decide ((l.length : Int) > 100))) by first | (simp only [g1_3, Bool.true_or, Bool.false_or, Bool.true_and, Bool.false_and, Bool.not_true, Bool.not_false]; done) | simp [g1_3])) .nil))) (.r rfl))
 intro _
 refine .cond (t := (!(Decl.ok d) || decide ((l.length : Int) > 100))) rfl (fun c0 => ?_) (fun c0 => ?_)
 ·have c0 := (oT (nT id) dT) c0
  refine .seq <| .rs fun k8 => .as rfl <| .z <| .ret ?_
  exact fin0 (.inr rfl) (.one (svB (show (false) = (Parts.ok d l) by (rw [Parts.ok_no c0]))) .nil) (.dd .nil) rfl
 ·have c0 := (oF (nF id) dF) c0
  refine .skip <| .seq <| .seq <| .rs fun k10 => .as rfl <| .z <| .block ?_
  refine .loop (X := Nat) (fun ζ => .of [(1, .one (.d (.sl false 121 2 (List.map Part.c121 (l))))), (2, .one (.ptr [2] (k5) 0)), (5, .one (.d (.v (.int .i64 ((ζ : Int))))))] [([2], (k5, k5, .box [.d (.sl false 9 1 (List.map strc (d.vars))), .d (.sl false 9 1 (List.map strc (d.flags))), .d (.sl false 168 2 (List.map Arr.c (d.arrays)))]))]) (fun ζ => ζ ≤ l.length ∧ allTo ζ (fun i => Part.ok d (l.getD i default)) = true ∧ risesTo l ζ = true) (fun ζ => l.length - ζ) ?_ ?_
  ·skip
   exact .here 0 (.of (.cons rfl (.cons rfl (.cons (svI (show (0) = ((0 : Int)) by first | rfl | omega | exact wrap_le (by omega) (by omega) | (rw [wrap_le (by omega) (by omega)]; omega))) .nil))) (.r rfl)) (show 0 ≤ l.length ∧ allTo 0 (fun i => Part.ok d (l.getD i default)) = true ∧ risesTo l 0 = true by exact ⟨by omega, rfl, rfl⟩)
  ·rintro j hI
   have hI : j ≤ l.length ∧ allTo j (fun i => Part.ok d (l.getD i default)) = true ∧ risesTo l j = true := hI
   refine .seq <| .seq <| .rs fun k11 => .mv rfl <| .mv rfl <| .g (fun _ τ => ⟨_, .len (.no rfl) rfl (z := (l.length : Int)) t57 rfl rfl rfl (.d _ _) (map_len _ _) rfl τ⟩) <| .bi rfl <| .z ?_
   refine .cond (t := decide ((j : Int) < (l.length : Int))) rfl (fun c1 => ?_) (fun c1 => ?_)
   ·have c1 := of_decide_eq_true c1
    refine .skip <| .seq <| .block <| .seq ?_
    refine .regD (X := Unit) (by kernel_rfl) (fun ζ => .of [(1, .one (.d (.sl false 121 2 (List.map Part.c121 (l))))), (2, .one (.ptr [2] (k5) 0)), (5, .one (.d (.v (.int .i64 ((j : Int)))))), (64, .one (.d (.v (.bool ((((!(tokOk ((l.getD j default).token)) || (decide ((j : Int) > 0) && decide ((tokCmp ((l.getD (j - 1) default).token) ((l.getD j default).token)) ≥ 0))) || !(Table.ok d ((l.getD j default).table))) || !(((l.getD j default).table).any Env.live)))))))] [([2], (k5, k5, .box [.d (.sl false 9 1 (List.map strc (d.vars))), .d (.sl false 9 1 (List.map strc (d.flags))), .d (.sl false 168 2 (List.map Arr.c (d.arrays)))]))]) [⟨[1], some 20, [], []⟩, ⟨[5], some 21, [], []⟩, ⟨[20, 21], some 22, [], []⟩, ⟨[22], some 23, [], []⟩, ⟨[23], some 24, [], []⟩, ⟨[24], some 25, [], []⟩, ⟨[25], some 26, [], []⟩, ⟨[26], some 27, [], []⟩, ⟨[27, 5], some 28, [], []⟩, ⟨[27, 28], some 29, [], []⟩, ⟨[27, 29], some 30, [], []⟩, ⟨[30, 1], some 31, [], []⟩, ⟨[30, 5], some 32, [], []⟩, ⟨[30, 32], some 33, [], []⟩, ⟨[30, 31, 33], some 34, [], []⟩, ⟨[30, 34], some 35, [], []⟩, ⟨[30, 35], some 36, [], []⟩, ⟨[30, 1], some 37, [], []⟩, ⟨[30, 5], some 38, [], []⟩, ⟨[30, 37, 38], some 39, [], []⟩, ⟨[30, 39], some 40, [], []⟩, ⟨[30, 40], some 41, [], []⟩, ⟨[30, 36, 41], some 42, [], []⟩, ⟨[30, 42], some 43, [], []⟩, ⟨[27, 30, 43], some 44, [], []⟩, ⟨[27, 44], some 45, [], []⟩, ⟨[45], some 46, [], []⟩, ⟨[46, 2], some 47, [[2]], []⟩, ⟨[46, 1], some 48, [], []⟩, ⟨[46, 5], some 49, [], []⟩, ⟨[46, 48, 49], some 50, [], []⟩, ⟨[46, 50], some 51, [], []⟩, ⟨[46, 51], some 52, [], []⟩, ⟨[46, 47, 52], some 53, [], []⟩, ⟨[46, 53], some 54, [], []⟩, ⟨[46, 54], some 55, [], []⟩, ⟨[55], some 56, [], []⟩, ⟨[56, 1], some 57, [], []⟩, ⟨[56, 5], some 58, [], []⟩, ⟨[56, 57, 58], some 59, [], []⟩, ⟨[56, 59], some 60, [], []⟩, ⟨[56, 60], some 61, [], []⟩, ⟨[56, 61], some 62, [], []⟩, ⟨[56, 62], some 63, [], []⟩, ⟨[56, 63], some 64, [], []⟩] (by kernel_rfl) (fun k12 => ?_) ?_
    ·skip
     refine .move (.no rfl) rfl rfl rfl rfl <| .move (.no rfl) rfl rfl rfl rfl <| .indexAddr (.no rfl) rfl (j) t57 rfl t121 rfl rfl rfl (.d _ _) rfl rfl rfl (map_get (by omega)) rfl rfl <| .fieldAddr (.no rfl) rfl t121 rfl rfl t72 rfl rfl rfl rfl [] (by simp) (by intro _ _ _ h; cases h) rfl rfl <| .load (.no rfl) rfl t72 rfl rfl (.d _) rfl rfl rfl rfl <| .call (.no rfl) rfl [] [] (c_sTokenOk ((l.getD j default).token)) rfl rfl rfl rfl rfl (.dd .nil) rfl rfl (fun h => absurd rfl h) (.own [25, 0] .nil) (.nil) rfl rfl rfl (by simp) rfl rfl rfl <| .un (.no rfl) rfl rfl rfl rfl rfl <| .moveB (.no rfl) rfl rfl rfl rfl fun b13 g6_7 => ?_
     cases b13
     ·skip
      refine .move (.on rfl rfl rfl rfl rfl) rfl rfl rfl rfl <| .bin (.on rfl rfl rfl rfl rfl) rfl rfl rfl rfl rfl rfl <| .moveB (.on rfl rfl rfl rfl rfl) rfl rfl rfl rfl fun b14 g6_10 => ?_
      cases b14
      ·skip
       refine .off rfl rfl rfl rfl rfl rfl rfl <| .off rfl rfl rfl rfl rfl rfl rfl <| .off rfl rfl rfl rfl rfl rfl rfl <| .off rfl rfl rfl rfl rfl rfl rfl <| .off rfl rfl rfl rfl rfl rfl rfl <| .off rfl rfl rfl rfl rfl rfl rfl <| .off rfl rfl rfl rfl rfl rfl rfl <| .off rfl rfl rfl rfl rfl rfl rfl <| .off rfl rfl rfl rfl rfl rfl rfl ?_
       refine .off rfl rfl rfl rfl rfl rfl rfl <| .off rfl rfl rfl rfl rfl rfl rfl <| .off rfl rfl rfl rfl rfl rfl rfl <| .off rfl rfl rfl rfl rfl rfl rfl <| .pick (.on rfl rfl rfl rfl rfl) rfl rfl rfl rfl rfl <| .pick (.no rfl) rfl rfl rfl rfl rfl <| .move (.no rfl) rfl rfl rfl rfl <| .load (.on rfl rfl rfl rfl rfl) rfl t34 rfl rfl (.ptr _ _ _ _ _ rfl) rfl rfl rfl rfl <| .move (.on rfl rfl rfl rfl rfl) rfl rfl rfl rfl ?_
       refine .move (.on rfl rfl rfl rfl rfl) rfl rfl rfl rfl <| .indexAddr (.on rfl rfl rfl rfl rfl) rfl (j) t57 rfl t121 rfl rfl rfl (.d _ _) rfl rfl rfl (map_get (by omega)) rfl rfl <| .fieldAddr (.on rfl rfl rfl rfl rfl) rfl t121 rfl rfl t46 rfl rfl rfl rfl [] (by simp) (by intro _ _ _ h; cases h) rfl rfl <| .load (.on rfl rfl rfl rfl rfl) rfl t46 rfl rfl (.d _) rfl rfl rfl rfl ?_
       refine .call (.on rfl rfl rfl rfl rfl) rfl [] [] (c_sTableOk d ((l.getD j default).table) (by first | assumption | exact (hp.2 _ (getD_mem (by omega))).2.2 | (simpa using g6_7) | (have h9 := of_decide_eq_true g6_10; exact Part.ok_tok (allTo_iff.1 hI.2.1 (j - 1) (by omega)))) (by first | assumption | exact (hp.2 _ (getD_mem (by omega))).2.2 | (simpa using g6_7) | (have h9 := of_decide_eq_true g6_10; exact Part.ok_tok (allTo_iff.1 hI.2.1 (j - 1) (by omega)))) (by first | assumption | exact (hp.2 _ (getD_mem (by omega))).2.2 | (simpa using g6_7) | (have h9 := of_decide_eq_true g6_10; exact Part.ok_tok (allTo_iff.1 hI.2.1 (j - 1) (by omega))))) rfl rfl rfl rfl rfl (.dd (.dd (.dd (.dd .nil)))) rfl rfl (fun h => absurd rfl h) (.own [53, 0] .nil) (.nil) rfl rfl rfl (by simp) rfl rfl rfl <| .un (.on rfl rfl rfl rfl rfl) rfl rfl rfl rfl rfl ?_
       refine .pick (.no rfl) rfl rfl rfl rfl rfl <| .moveB (.no rfl) rfl rfl rfl rfl fun b15 g6_36 => ?_
       cases b15
       ·skip
        refine .move (.on rfl rfl rfl rfl rfl) rfl rfl rfl rfl <| .move (.on rfl rfl rfl rfl rfl) rfl rfl rfl rfl <| .indexAddr (.on rfl rfl rfl rfl rfl) rfl (j) t57 rfl t121 rfl rfl rfl (.d _ _) rfl rfl rfl (map_get (by omega)) rfl rfl <| .fieldAddr (.on rfl rfl rfl rfl rfl) rfl t121 rfl rfl t46 rfl rfl rfl rfl [] (by simp) (by intro _ _ _ h; cases h) rfl rfl <| .load (.on rfl rfl rfl rfl rfl) rfl t46 rfl rfl (.d _) rfl rfl rfl rfl <| .call (.on rfl rfl rfl rfl rfl) rfl [] [] (c_l9Live ((l.getD j default).table)) rfl rfl rfl rfl rfl (.dd .nil) rfl rfl (fun h => absurd rfl h) (.own [62, 0] .nil) (.nil) rfl rfl rfl (by simp) rfl rfl rfl <| .un (.on rfl rfl rfl rfl rfl) rfl rfl rfl rfl rfl <| .pick (.no rfl) rfl rfl rfl rfl rfl ?_
        exact .fin () (.of (.cons rfl (.cons rfl (.cons rfl (.cons (svB (show (!(((l.getD j default).table).any Env.live)) = ((((!(tokOk ((l.getD j default).token)) || (decide ((j : Int) > 0) && decide ((tokCmp ((l.getD (j - 1) default).token) ((l.getD j default).token)) ≥ 0))) || !(Table.ok d ((l.getD j default).table))) || !(((l.getD j default).table).any Env.live))) by first | (simp only [g6_7, g6_10, g6_36, Bool.true_or, Bool.false_or, Bool.true_and, Bool.false_and, Bool.not_true, Bool.not_false]; done) | simp [g6_7, g6_10, g6_36])) .nil)))) (.r rfl))
       ·skip
        refine .off rfl rfl rfl rfl rfl rfl rfl <| .off rfl rfl rfl rfl rfl rfl rfl <| .off rfl rfl rfl rfl rfl rfl rfl <| .off rfl rfl rfl rfl rfl rfl rfl <| .off rfl rfl rfl rfl rfl rfl rfl <| .off rfl rfl rfl rfl rfl rfl rfl <| .off rfl rfl rfl rfl rfl rfl rfl <| .pick (.no rfl) rfl rfl rfl rfl rfl ?_
        exact .fin () (.of (.cons rfl (.cons rfl (.cons rfl (.cons (svB (show (true) = ((((!(tokOk ((l.getD j default).token)) || (decide ((j : Int) > 0) && decide ((tokCmp ((l.getD (j - 1) default).token) ((l.getD j default).token)) ≥ 0))) || !(Table.ok d ((l.getD j default).table))) || !(((l.getD j default).table).any Env.live))) by first | (simp only [g6_7, g6_10, g6_36, Bool.true_or, Bool.false_or, Bool.true_and, Bool.false_and, Bool.not_true, Bool.not_false]; done) | simp [g6_7, g6_10, g6_36])) .nil)))) (.r rfl))
      ·skip
       refine .move (.on rfl rfl rfl rfl rfl) rfl rfl rfl rfl <| .move (.on rfl rfl rfl rfl rfl) rfl rfl rfl rfl <| .bin (.on rfl rfl rfl rfl rfl) rfl rfl rfl rfl rfl rfl <| .indexAddr (.on rfl rfl rfl rfl rfl) rfl ((j - 1)) t57 rfl t121 rfl rfl rfl (.d _ _) rfl rfl (by (have h9 := of_decide_eq_true g6_10; rw [wrap_le (by omega) (by omega)]; omega)) (map_get (by omega)) rfl rfl <| .fieldAddr (.on rfl rfl rfl rfl rfl) rfl t121 rfl rfl t72 rfl rfl rfl rfl [] (by simp) (by intro _ _ _ h; cases h) rfl rfl <| .load (.on rfl rfl rfl rfl rfl) rfl t72 rfl rfl (.d _) rfl rfl rfl rfl <| .move (.on rfl rfl rfl rfl rfl) rfl rfl rfl rfl <| .move (.on rfl rfl rfl rfl rfl) rfl rfl rfl rfl <| .indexAddr (.on rfl rfl rfl rfl rfl) rfl (j) t57 rfl t121 rfl rfl rfl (.d _ _) rfl rfl rfl (map_get (by omega)) rfl rfl ?_
       refine .fieldAddr (.on rfl rfl rfl rfl rfl) rfl t121 rfl rfl t72 rfl rfl rfl rfl [] (by simp) (by intro _ _ _ h; cases h) rfl rfl <| .load (.on rfl rfl rfl rfl rfl) rfl t72 rfl rfl (.d _) rfl rfl rfl rfl <| .call (.on rfl rfl rfl rfl rfl) rfl [] [] (c_l9Cmp ((l.getD (j - 1) default).token) ((l.getD j default).token) (by first | assumption | exact (hp.2 _ (getD_mem (by omega))).2.2 | (simpa using g6_7) | (have h9 := of_decide_eq_true g6_10; exact Part.ok_tok (allTo_iff.1 hI.2.1 (j - 1) (by omega)))) (by first | assumption | exact (hp.2 _ (getD_mem (by omega))).2.2 | (simpa using g6_7) | (have h9 := of_decide_eq_true g6_10; exact Part.ok_tok (allTo_iff.1 hI.2.1 (j - 1) (by omega))))) rfl rfl rfl rfl rfl (.dd (.dd .nil)) rfl rfl (fun h => absurd rfl h) (.own [42, 0] .nil) (.nil) rfl rfl rfl (by simp) rfl rfl rfl ?_
       refine .bin (.on rfl rfl rfl rfl rfl) rfl rfl rfl rfl rfl rfl <| .pick (.on rfl rfl rfl rfl rfl) rfl rfl rfl rfl rfl <| .pick (.no rfl) rfl rfl rfl rfl rfl <| .moveB (.no rfl) rfl rfl rfl rfl fun b16 g6_26 => ?_
       cases b16
       ·skip
        refine .load (.on rfl rfl rfl rfl rfl) rfl t34 rfl rfl (.ptr _ _ _ _ _ rfl) rfl rfl rfl rfl <| .move (.on rfl rfl rfl rfl rfl) rfl rfl rfl rfl <| .move (.on rfl rfl rfl rfl rfl) rfl rfl rfl rfl <| .indexAddr (.on rfl rfl rfl rfl rfl) rfl (j) t57 rfl t121 rfl rfl rfl (.d _ _) rfl rfl rfl (map_get (by omega)) rfl rfl <| .fieldAddr (.on rfl rfl rfl rfl rfl) rfl t121 rfl rfl t46 rfl rfl rfl rfl [] (by simp) (by intro _ _ _ h; cases h) rfl rfl <| .load (.on rfl rfl rfl rfl rfl) rfl t46 rfl rfl (.d _) rfl rfl rfl rfl ?_
        refine .call (.on rfl rfl rfl rfl rfl) rfl [] [] (c_sTableOk d ((l.getD j default).table) (by first | assumption | exact (hp.2 _ (getD_mem (by omega))).2.2 | (simpa using g6_7) | (have h9 := of_decide_eq_true g6_10; exact Part.ok_tok (allTo_iff.1 hI.2.1 (j - 1) (by omega)))) (by first | assumption | exact (hp.2 _ (getD_mem (by omega))).2.2 | (simpa using g6_7) | (have h9 := of_decide_eq_true g6_10; exact Part.ok_tok (allTo_iff.1 hI.2.1 (j - 1) (by omega)))) (by first | assumption | exact (hp.2 _ (getD_mem (by omega))).2.2 | (simpa using g6_7) | (have h9 := of_decide_eq_true g6_10; exact Part.ok_tok (allTo_iff.1 hI.2.1 (j - 1) (by omega))))) rfl rfl rfl rfl rfl (.dd (.dd (.dd (.dd .nil)))) rfl rfl (fun h => absurd rfl h) (.own [53, 0] .nil) (.nil) rfl rfl rfl (by simp) rfl rfl rfl <| .un (.on rfl rfl rfl rfl rfl) rfl rfl rfl rfl rfl ?_
        refine .pick (.no rfl) rfl rfl rfl rfl rfl <| .moveB (.no rfl) rfl rfl rfl rfl fun b17 g6_36 => ?_
        cases b17
        ·skip
         refine .move (.on rfl rfl rfl rfl rfl) rfl rfl rfl rfl <| .move (.on rfl rfl rfl rfl rfl) rfl rfl rfl rfl <| .indexAddr (.on rfl rfl rfl rfl rfl) rfl (j) t57 rfl t121 rfl rfl rfl (.d _ _) rfl rfl rfl (map_get (by omega)) rfl rfl <| .fieldAddr (.on rfl rfl rfl rfl rfl) rfl t121 rfl rfl t46 rfl rfl rfl rfl [] (by simp) (by intro _ _ _ h; cases h) rfl rfl <| .load (.on rfl rfl rfl rfl rfl) rfl t46 rfl rfl (.d _) rfl rfl rfl rfl <| .call (.on rfl rfl rfl rfl rfl) rfl [] [] (c_l9Live ((l.getD j default).table)) rfl rfl rfl rfl rfl (.dd .nil) rfl rfl (fun h => absurd rfl h) (.own [62, 0] .nil) (.nil) rfl rfl rfl (by simp) rfl rfl rfl <| .un (.on rfl rfl rfl rfl rfl) rfl rfl rfl rfl rfl <| .pick (.no rfl) rfl rfl rfl rfl rfl ?_
         exact .fin () (.of (.cons rfl (.cons rfl (.cons rfl (.cons (svB (show (!(((l.getD j default).table).any Env.live)) = ((((!(tokOk ((l.getD j default).token)) || (decide ((j : Int) > 0) && decide ((tokCmp ((l.getD (j - 1) default).token) ((l.getD j default).token)) ≥ 0))) || !(Table.ok d ((l.getD j default).table))) || !(((l.getD j default).table).any Env.live))) by first | (simp only [g6_7, g6_10, g6_26, g6_36, Bool.true_or, Bool.false_or, Bool.true_and, Bool.false_and, Bool.not_true, Bool.not_false]; done) | simp [g6_7, g6_10, g6_26, g6_36])) .nil)))) (.r rfl))
        ·skip
         refine .off rfl rfl rfl rfl rfl rfl rfl <| .off rfl rfl rfl rfl rfl rfl rfl <| .off rfl rfl rfl rfl rfl rfl rfl <| .off rfl rfl rfl rfl rfl rfl rfl <| .off rfl rfl rfl rfl rfl rfl rfl <| .off rfl rfl rfl rfl rfl rfl rfl <| .off rfl rfl rfl rfl rfl rfl rfl <| .pick (.no rfl) rfl rfl rfl rfl rfl ?_
         exact .fin () (.of (.cons rfl (.cons rfl (.cons rfl (.cons (svB (show (true) = ((((!(tokOk ((l.getD j default).token)) || (decide ((j : Int) > 0) && decide ((tokCmp ((l.getD (j - 1) default).token) ((l.getD j default).token)) ≥ 0))) || !(Table.ok d ((l.getD j default).table))) || !(((l.getD j default).table).any Env.live))) by first | (simp only [g6_7, g6_10, g6_26, g6_36, Bool.true_or, Bool.false_or, Bool.true_and, Bool.false_and, Bool.not_true, Bool.not_false]; done) | simp [g6_7, g6_10, g6_26, g6_36])) .nil)))) (.r rfl))
       ·skip
        refine .off rfl rfl rfl rfl rfl rfl rfl <| .off rfl rfl rfl rfl rfl rfl rfl <| .off rfl rfl rfl rfl rfl rfl rfl <| .off rfl rfl rfl rfl rfl rfl rfl <| .off rfl rfl rfl rfl rfl rfl rfl <| .off rfl rfl rfl rfl rfl rfl rfl <| .off rfl rfl rfl rfl rfl rfl rfl <| .off rfl rfl rfl rfl rfl rfl rfl <| .pick (.no rfl) rfl rfl rfl rfl rfl ?_
        refine .move (.no rfl) rfl rfl rfl rfl <| .off rfl rfl rfl rfl rfl rfl rfl <| .off rfl rfl rfl rfl rfl rfl rfl <| .off rfl rfl rfl rfl rfl rfl rfl <| .off rfl rfl rfl rfl rfl rfl rfl <| .off rfl rfl rfl rfl rfl rfl rfl <| .off rfl rfl rfl rfl rfl rfl rfl <| .off rfl rfl rfl rfl rfl rfl rfl <| .pick (.no rfl) rfl rfl rfl rfl rfl ?_
        exact .fin () (.of (.cons rfl (.cons rfl (.cons rfl (.cons (svB (show (true) = ((((!(tokOk ((l.getD j default).token)) || (decide ((j : Int) > 0) && decide ((tokCmp ((l.getD (j - 1) default).token) ((l.getD j default).token)) ≥ 0))) || !(Table.ok d ((l.getD j default).table))) || !(((l.getD j default).table).any Env.live))) by first | (simp only [g6_7, g6_10, g6_26, Bool.true_or, Bool.false_or, Bool.true_and, Bool.false_and, Bool.not_true, Bool.not_false]; done) | simp [g6_7, g6_10, g6_26])) .nil)))) (.r rfl))
     ·skip
      refine .off rfl rfl rfl rfl rfl rfl rfl <| .off rfl rfl rfl rfl rfl rfl rfl <| .off rfl rfl rfl rfl rfl rfl rfl <| .off' rfl rfl rfl rfl rfl rfl <| .off' rfl rfl rfl rfl rfl rfl <| .off' rfl rfl rfl rfl rfl rfl <| .off' rfl rfl rfl rfl rfl rfl <| .off' rfl rfl rfl rfl rfl rfl <| .off' rfl rfl rfl rfl rfl rfl ?_
      refine .off' rfl rfl rfl rfl rfl rfl <| .off' rfl rfl rfl rfl rfl rfl <| .off' rfl rfl rfl rfl rfl rfl <| .off' rfl rfl rfl rfl rfl rfl <| .off' rfl rfl rfl rfl rfl rfl <| .off' rfl rfl rfl rfl rfl rfl <| .off' rfl rfl rfl rfl rfl rfl <| .off rfl rfl rfl rfl rfl rfl rfl <| .pick (.no rfl) rfl rfl rfl rfl rfl ?_
      refine .move (.no rfl) rfl rfl rfl rfl <| .off rfl rfl rfl rfl rfl rfl rfl <| .off rfl rfl rfl rfl rfl rfl rfl <| .off rfl rfl rfl rfl rfl rfl rfl <| .off rfl rfl rfl rfl rfl rfl rfl <| .off rfl rfl rfl rfl rfl rfl rfl <| .off rfl rfl rfl rfl rfl rfl rfl <| .off rfl rfl rfl rfl rfl rfl rfl <| .off rfl rfl rfl rfl rfl rfl rfl ?_
      refine .pick (.no rfl) rfl rfl rfl rfl rfl <| .move (.no rfl) rfl rfl rfl rfl <| .off rfl rfl rfl rfl rfl rfl rfl <| .off rfl rfl rfl rfl rfl rfl rfl <| .off rfl rfl rfl rfl rfl rfl rfl <| .off rfl rfl rfl rfl rfl rfl rfl <| .off rfl rfl rfl rfl rfl rfl rfl <| .off rfl rfl rfl rfl rfl rfl rfl <| .off rfl rfl rfl rfl rfl rfl rfl ?_
      refine .pick (.no rfl) rfl rfl rfl rfl rfl ?_
      exact .fin () (.of (.cons rfl (.cons rfl (.cons rfl (.cons (svB (show (true) = ((((!(tokOk ((l.getD j default).token)) || (decide ((j : Int) > 0) && decide ((tokCmp ((l.getD (j - 1) default).token) ((l.getD j default).token)) ≥ 0))) || !(Table.ok d ((l.getD j default).table))) || !(((l.getD j default).table).any Env.live))) by first | (simp only [g6_7, Bool.true_or, Bool.false_or, Bool.true_and, Bool.false_and, Bool.not_true, Bool.not_false]; done) | simp [g6_7])) .nil)))) (.r rfl))
    intro _
    refine .cond (t := (((!(tokOk ((l.getD j default).token)) || (decide ((j : Int) > 0) && decide ((tokCmp ((l.getD (j - 1) default).token) ((l.getD j default).token)) ≥ 0))) || !(Table.ok d ((l.getD j default).table))) || !(((l.getD j default).table).any Env.live))) rfl (fun c2 => ?_) (fun c2 => ?_)
    ·have c2 := (oT (oT (oT (nT id) (aT dT dT)) (nT id)) (nT id)) c2
     refine .seq <| .rs fun k18 => .as rfl <| .z <| .ret ?_
     exact fin0 (.inr rfl) (.one (svB (show (false) = (Parts.ok d l) by (rw [Parts.ok_fail c0.1 (j := j) (by omega) c2]))) .nil) (.dd .nil) rfl
    ·have c2 := (oF (oF (oF (nF id) (aF dF dF)) (nF id)) (nF id)) c2
     refine .skip <| .rs fun k20 => .mv rfl <| .bi rfl <| .as rfl <| .z ?_
     exact .here (j + 1) (.of (.cons rfl (.cons rfl (.cons (svI (show (IntKind.wrap .i64 ((j : Int) + 1)) = (((j + 1) : Int)) by first | rfl | omega | exact wrap_le (by omega) (by omega) | (rw [wrap_le (by omega) (by omega)]; omega))) .nil))) (.r rfl)) ⟨(show (j + 1) ≤ l.length ∧ allTo (j + 1) (fun i => Part.ok d (l.getD i default)) = true ∧ risesTo l (j + 1) = true by exact ⟨by omega, allTo_step hI.2.1 (part_of c0.1 c2.1.1.1 c2.1.2 c2.2), rises_step hI.2.2 (fun h9 => by have h8 := c2.1.1.2; omega)⟩), (show l.length - (j + 1) < l.length - j by omega)⟩
   ·have c1 := of_decide_eq_false c1
    refine .exit <| .seq <| .rs fun k21 => .as rfl <| .z <| .ret ?_
    exact fin0 (.inr rfl) (.one (svB (show (true) = (Parts.ok d l) by (rw [Parts.ok_done c0 (j := j) (by omega) hI.2.1 hI.2.2]))) .nil) (.dd .nil) rfl
theorem c_IndexFuncP (l : List Part) (F_p : FuncId) (first_p : List (Bool × List D)) (caps_p : List D) (p : Part → Bool) (h_p : ∀ (x0 : Part), FnTrip Tryz.prog F_p first_p caps_p [(true, 2)] (Part.c121 x0) [(false, 1)] [.v (.bool (p x0))]) : Trip Tryz.prog 236 [(false, 1), (false, 1)] ([.sl false 121 2 (List.map Part.c121 (l))] ++ [.fn F_p first_p caps_p]) [(false, 1)] [.v (.int .i64 (idx p l))] [] := by
 refine Trip.of Tryz.func236 (by decide) (c := _) rfl rfl (shB_ok rfl) (Nat.le_of_ble_eq_true rfl) rfl (AftOk.nil _) <| .sl (t := 0) rfl fun hs1l => .seq <| .rs fun k2 => .as rfl <| .z <| .seq <| .seq <| .rs fun k3 => ?_
 refine .mv rfl <| .g (fun _ τ => ⟨_, .len (.no rfl) rfl (z := (l.length : Int)) t57 rfl rfl rfl (.d _ _) (map_len _ _) rfl τ⟩) <| .mv rfl <| .z <| .block ?_
 refine .loop (X := Nat) (fun ζ => .of [(0, .one (.d (.sl false 121 2 (List.map Part.c121 (l))))), (1, .one (.d (.fn F_p first_p caps_p))), (7, .one (.d (.v (.int .i64 ((l.length : Int)))))), (8, .one (.d (.v (.int .i64 ((ζ : Int))))))] []) (fun ζ => ζ ≤ l.length ∧ allTo ζ (fun i => !p (l.getD i default)) = true) (fun ζ => l.length - ζ) ?_ ?_
 ·skip
  exact .here 0 (.of (.cons rfl (.cons rfl (.cons rfl (.cons (svI (show (0) = ((0 : Int)) by first | rfl | omega | exact wrap_le (by omega) (by omega) | (rw [wrap_le (by omega) (by omega)]; omega))) .nil)))) .nil) (show 0 ≤ l.length ∧ allTo 0 (fun i => !p (l.getD i default)) = true by exact ⟨by omega, rfl⟩)
 ·rintro j hI
  have hI : j ≤ l.length ∧ allTo j (fun i => !p (l.getD i default)) = true := hI
  refine .seq <| .rs fun k4 => .bi rfl <| .z <| .seq ?_
  refine .cond (t := decide ((j : Int) < (l.length : Int))) rfl (fun c0 => ?_) (fun c0 => ?_)
  ·have c0 := of_decide_eq_true c0
   refine .skip <| .seq <| .block <| .seq <| .rs fun k5 => .mv rfl <| .as rfl <| .z <| .seq ?_
   refine .rs fun k6 => .mv rfl <| .mv rfl <| .mv rfl <| .g (fun _ τ => ⟨_, .indexAddr (.no rfl) rfl (j) t57 rfl t121 rfl rfl rfl (.d _ _) rfl rfl rfl (map_get (by omega)) rfl rfl τ⟩) <| .lda t121 rfl (.d _) rfl <| .g (fun _ τ => ⟨_, .callF (.no rfl) rfl (ds := [.sl false 145 2 (List.map Entry.c ((l.getD j default).token)), .sl false 106 3 (List.map Env.c106 ((l.getD j default).table))]) (h_p (l.getD j default)) rfl rfl rfl rfl (.own [16, 0] .nil) rfl rfl rfl rfl rfl rfl τ⟩) <| .z ?_
   refine .cond (t := p (l.getD j default)) rfl (fun c1 => ?_) (fun c1 => ?_)
   ·have c1 := c1
    refine .seq <| .rs fun k7 => .mv rfl <| .as rfl <| .z <| .ret ?_
    exact fin0 (.inr rfl) (.one (svI (show ((j : Int)) = (idx p l) by exact (idx_found (j := j) (by omega) hI.2 (by simpa using c1)).symm)) .nil) (.dd .nil) rfl
   ·have c1 := c1
    refine .skip <| .rs fun k9 => .bi rfl <| .mv rfl <| .z ?_
    exact .here (j + 1) (.of (.cons rfl (.cons rfl (.cons rfl (.cons (svI (show (IntKind.wrap .i64 ((j : Int) + 1)) = (((j + 1) : Int)) by first | rfl | omega | exact wrap_le (by omega) (by omega) | (rw [wrap_le (by omega) (by omega)]; omega))) .nil)))) .nil) ⟨(show (j + 1) ≤ l.length ∧ allTo (j + 1) (fun i => !p (l.getD i default)) = true by exact ⟨by omega, allTo_step hI.2 (by simpa using c1)⟩), (show l.length - (j + 1) < l.length - j by omega)⟩
  ·have c0 := of_decide_eq_false c0
   refine .exit <| .seq <| .rs fun k10 => .as rfl <| .z <| .ret ?_
   exact fin0 (.inr rfl) (.one (svI (show (-1) = (idx p l) by exact (idx_none (by omega) hI.2).symm)) .nil) (.dd .nil) rfl
theorem c_ContainsFuncP (l : List Part) (F_p : FuncId) (first_p : List (Bool × List D)) (caps_p : List D) (p : Part → Bool) (h_p : ∀ (x0 : Part), FnTrip Tryz.prog F_p first_p caps_p [(true, 2)] (Part.c121 x0) [(false, 1)] [.v (.bool (p x0))]) : Trip Tryz.prog 217 [(false, 1), (false, 1)] ([.sl false 121 2 (List.map Part.c121 (l))] ++ [.fn F_p first_p caps_p]) [(false, 1)] [.v (.bool (l.any p))] [] := by
 refine Trip.of Tryz.func217 (by decide) (c := _) rfl rfl (shB_ok rfl) (Nat.le_of_ble_eq_true rfl) rfl (AftOk.nil _) <| .sl (t := 0) rfl fun hs1l => .seq <| .rs fun k2 => .as rfl <| .z <| .seq <| .rs fun k3 => .mv rfl ?_
 refine .mv rfl <| .c0 (c_IndexFuncP l F_p first_p caps_p p h_p) rfl (.dd (.dd .nil)) (.own [7, 0] .nil) rfl <| .bi rfl <| .as rfl <| .z <| .ret ?_
 exact fin0 (.inr rfl) (.one (svB (show (decide ((idx p l) ≥ 0)) = (l.any p) by exact idx_any _ _)) .nil) (.dd .nil) rfl
theorem c_areAll1P (x : Part) (F_p : FuncId) (first_p : List (Bool × List D)) (caps_p : List D) (p : Part → Bool) (h_p : ∀ (x0 : Part), FnTrip Tryz.prog F_p first_p caps_p [(true, 2)] (Part.c121 x0) [(false, 1)] [.v (.bool (p x0))]) : Trip Tryz.prog 218 [(true, 2), (false, 1)] (Part.c121 x ++ [.pt false [.fn F_p first_p caps_p]]) [(false, 1)] [.v (.bool (!p x))] [] := by
 refine Trip.of Tryz.func218 (by decide) (c := _) rfl rfl (shB_ok rfl) (Nat.le_of_ble_eq_true rfl) rfl (AftOk.nil _) <| .sla (t := 0) 0 rfl rfl fun hs1l => .sla (t := 0) 1 rfl rfl fun hs2l => .seq <| .rs fun k3 => .g (fun _ τ => ⟨_, .box (.no rfl) rfl rfl rfl rfl rfl τ⟩) <| .as rfl <| .z <| .seq ?_
 refine .rs fun k4 => .ld t216 rfl (.d _) rfl <| .lda t121 rfl (.ptr _ _ _ _ _ rfl) rfl <| .g (fun _ τ => ⟨_, .callF (.no rfl) rfl (ds := [.sl false 145 2 (List.map Entry.c (x.token)), .sl false 106 3 (List.map Env.c106 (x.table))]) (h_p x) rfl rfl rfl rfl (.own [6, 0] .nil) rfl rfl rfl rfl rfl rfl τ⟩) <| .un rfl <| .as rfl <| .z <| .ret ?_
 exact fin0 (.inr rfl) (.one (svB (show (!(p x)) = (!p x) by rfl)) .nil) (.dd .nil) rfl
theorem c_areAllP (l : List Part) (F_p : FuncId) (first_p : List (Bool × List D)) (caps_p : List D) (p : Part → Bool) (h_p : ∀ (x0 : Part), FnTrip Tryz.prog F_p first_p caps_p [(true, 2)] (Part.c121 x0) [(false, 1)] [.v (.bool (p x0))]) : Trip Tryz.prog 185 [(false, 1), (false, 1)] ([.sl false 121 2 (List.map Part.c121 (l))] ++ [.fn F_p first_p caps_p]) [(false, 1)] [.v (.bool (l.all p))] [] := by
 refine Trip.of Tryz.func185 (by decide) (c := _) rfl rfl (shB_ok rfl) (Nat.le_of_ble_eq_true rfl) rfl (AftOk.nil _) <| .sl (t := 0) rfl fun hs1l => .seq <| .rs fun k2 => .g (fun _ τ => ⟨_, .box (.no rfl) rfl rfl rfl rfl rfl τ⟩) <| .as rfl <| .z <| .seq <| .rs fun k3 => ?_
 refine .mv rfl <| .g (fun _ τ => ⟨_, .makeFunc (.no rfl) rfl rfl rfl rfl rfl τ⟩) <| .g (fun _ τ => ⟨_, .call (.no rfl) rfl [[3]] [([3], (k2, k2, .box [.d (.fn F_p first_p caps_p)]))] (c_ContainsFuncP l 218 [] [.pt false [.fn F_p first_p caps_p]] (fun x0 => !p x0) (fun x0 => c_areAll1P x0 F_p first_p caps_p p h_p)) rfl rfl rfl rfl rfl (.dd (.cons (Reads.clo0 (.cons (Reads.ptr0 (.head _) (.head _) (.cons (Reads.d _) .nil)) .nil)).gives .nil)) rfl rfl (fun _ => (ownCons (Owned.v _) ownNil)) (.own [7, 0] .nil) (.nil) rfl rfl rfl (AllH.get (.r rfl)) rfl rfl rfl τ⟩) <| .un rfl <| .as rfl <| .z <| .ret ?_
 exact fin0 (.inr rfl) (.one (svB (show (!(l.any (fun x0 => !p x0))) = (l.all p) by exact not_any _ _)) .nil) (.dd .nil) rfl
theorem c_partOk1 (e : Env) : Trip Tryz.prog 220 [(true, 3)] (Env.c106 e) [(false, 1)] [.v (.bool (Env.live e))] [] := by
 refine Trip.of Tryz.func220 (by decide) (c := _) rfl rfl (shB_ok rfl) (Nat.le_of_ble_eq_true rfl) rfl (AftOk.nil _) <| .sla (t := 0) 1 rfl rfl fun hs1l => .sla (t := 0) 2 rfl rfl fun hs2l => .seq <| .rs fun k3 => .g (fun _ τ => ⟨_, .box (.no rfl) rfl rfl rfl rfl rfl τ⟩) <| .as rfl <| .z <| .seq ?_
 refine .rs fun k4 => .fp t106 t4 rfl <| .ld t4 rfl (.ptr _ _ _ _ _ rfl) rfl <| .as rfl <| .z <| .ret ?_
 exact fin0 (.inr rfl) (.one (svB (show (e.live) = (Env.live e) by rfl)) .nil) (.dd .nil) rfl
theorem c_partOk (d : Decl) (p : Part) : Trip Tryz.prog 186 [(true, 3), (true, 2)] (Decl.c34 d ++ Part.c121 p) [(false, 1)] [.v (.bool (Part.ok d p))] [] := by
 refine Trip.of Tryz.func186 (by decide) (c := _) rfl rfl (shB_ok rfl) (Nat.le_of_ble_eq_true rfl) rfl (AftOk.nil _) <| .sla (t := 0) 0 rfl rfl fun hs1l => .sla (t := 0) 1 rfl rfl fun hs2l => .sla (t := 0) 2 rfl rfl fun hs3l => .sla (t := 1) 0 rfl rfl fun hs4l => .sla (t := 1) 1 rfl rfl fun hs5l => .seq <| .rs fun k6 => .g (fun _ τ => ⟨_, .box (.no rfl) rfl rfl rfl rfl rfl τ⟩) ?_
 refine .g (fun _ τ => ⟨_, .box (.no rfl) rfl rfl rfl rfl rfl τ⟩) <| .as rfl <| .z <| .seq ?_
 refine .reg (X := Unit) (fun ζ => .of [(4, .one (.d (.v (.bool (((tokOk p.token && Table.isIn d p.table) && p.table.any (fun x0 => Env.live x0)))))))] []) [⟨[3], some 5, [], []⟩, ⟨[5], some 6, [[3]], []⟩, ⟨[6], some 7, [], []⟩, ⟨[7], some 8, [], []⟩, ⟨[8, 2], some 9, [[2]], []⟩, ⟨[8, 3], some 10, [], []⟩, ⟨[8, 10], some 11, [[3]], []⟩, ⟨[8, 9, 11], some 12, [], []⟩, ⟨[8, 12], some 13, [], []⟩, ⟨[13], some 14, [], []⟩, ⟨[14, 3], some 15, [], []⟩, ⟨[14, 15], some 16, [[3]], []⟩, ⟨[14, 16], some 17, [], []⟩, ⟨[14, 17], some 18, [], []⟩, ⟨[18], some 4, [], []⟩] (fun k7 => ?_) ?_
 ·skip
  refine .fieldAddrP (.no rfl) rfl t121 rfl rfl t72 rfl rfl rfl rfl <| .load (.no rfl) rfl t72 rfl rfl (.ptr _ _ _ _ _ rfl) rfl rfl rfl rfl <| .call (.no rfl) rfl [] [] (c_TokenOk p.token) rfl rfl rfl rfl rfl (.dd .nil) rfl rfl (fun h => absurd rfl h) (.own [7, 0] .nil) (.nil) rfl rfl rfl (by simp) rfl rfl rfl <| .moveB (.no rfl) rfl rfl rfl rfl fun b8 g1_3 => ?_
  cases b8
  ·skip
   refine .off rfl rfl rfl rfl rfl rfl rfl <| .off rfl rfl rfl rfl rfl rfl rfl <| .off rfl rfl rfl rfl rfl rfl rfl <| .off rfl rfl rfl rfl rfl rfl rfl <| .pick (.no rfl) rfl rfl rfl rfl rfl <| .move (.no rfl) rfl rfl rfl rfl <| .off rfl rfl rfl rfl rfl rfl rfl <| .off rfl rfl rfl rfl rfl rfl rfl <| .off rfl rfl rfl rfl rfl rfl rfl ?_
   refine .pick (.no rfl) rfl rfl rfl rfl rfl <| .assign (.no rfl) rfl rfl rfl rfl ?_
   exact .fin () (.of (.cons (svB (show (false) = (((tokOk p.token && Table.isIn d p.table) && p.table.any (fun x0 => Env.live x0))) by first | (simp only [g1_3, Bool.true_or, Bool.false_or, Bool.true_and, Bool.false_and, Bool.not_true, Bool.not_false]; done) | simp [g1_3])) .nil) .nil)
  ·skip
   refine .load (.on rfl rfl rfl rfl rfl) rfl t34 rfl rfl (.ptr _ _ _ _ _ rfl) rfl rfl rfl rfl <| .fieldAddrP (.on rfl rfl rfl rfl rfl) rfl t121 rfl rfl t46 rfl rfl rfl rfl <| .load (.on rfl rfl rfl rfl rfl) rfl t46 rfl rfl (.ptr _ _ _ _ _ rfl) rfl rfl rfl rfl <| .call (.on rfl rfl rfl rfl rfl) rfl [] [] (c_isTable d p.table) rfl rfl rfl rfl rfl (.dd (.dd (.dd (.dd .nil)))) rfl rfl (fun h => absurd rfl h) (.own [12, 0] .nil) (.nil) rfl rfl rfl (by simp) rfl rfl rfl <| .pick (.no rfl) rfl rfl rfl rfl rfl <| .moveB (.no rfl) rfl rfl rfl rfl fun b9 g1_9 => ?_
   cases b9
   ·skip
    refine .off rfl rfl rfl rfl rfl rfl rfl <| .off rfl rfl rfl rfl rfl rfl rfl <| .off rfl rfl rfl rfl rfl rfl rfl <| .pick (.no rfl) rfl rfl rfl rfl rfl <| .assign (.no rfl) rfl rfl rfl rfl ?_
    exact .fin () (.of (.cons (svB (show (false) = (((tokOk p.token && Table.isIn d p.table) && p.table.any (fun x0 => Env.live x0))) by first | (simp only [g1_3, g1_9, Bool.true_or, Bool.false_or, Bool.true_and, Bool.false_and, Bool.not_true, Bool.not_false]; done) | simp [g1_3, g1_9])) .nil) .nil)
   ·skip
    refine .fieldAddrP (.on rfl rfl rfl rfl rfl) rfl t121 rfl rfl t46 rfl rfl rfl rfl <| .load (.on rfl rfl rfl rfl rfl) rfl t46 rfl rfl (.ptr _ _ _ _ _ rfl) rfl rfl rfl rfl <| .call (.on rfl rfl rfl rfl rfl) rfl [] [] (c_ContainsFuncE p.table 220 [] [] (fun x0 => Env.live x0) (fun x0 => c_partOk1 x0)) rfl rfl rfl rfl rfl (.dd (.dd .nil)) rfl rfl (fun h => absurd rfl h) (.own [17, 0] .nil) (.nil) rfl rfl rfl (by simp) rfl rfl rfl <| .pick (.no rfl) rfl rfl rfl rfl rfl <| .assign (.no rfl) rfl rfl rfl rfl ?_
    exact .fin () (.of (.cons (svB (show (p.table.any (fun x0 => Env.live x0)) = (((tokOk p.token && Table.isIn d p.table) && p.table.any (fun x0 => Env.live x0))) by first | (simp only [g1_3, g1_9, Bool.true_or, Bool.false_or, Bool.true_and, Bool.false_and, Bool.not_true, Bool.not_false]; done) | simp [g1_3, g1_9])) .nil) .nil)
 intro _
 refine .ret ?_
 exact fin0 (.inr rfl) (.one (svB (show (((tokOk p.token && Table.isIn d p.table) && p.table.any (fun x0 => Env.live x0))) = (Part.ok d p) by rfl)) .nil) (.dd .nil) rfl
theorem c_areParts (d : Decl) (l : List Part) : Trip Tryz.prog 145 [(true, 3), (false, 1)] (Decl.c34 d ++ [.sl false 121 2 (List.map Part.c121 (l))]) [(false, 1)] [.v (.bool (Parts.isIn d l))] [] := by
 refine Trip.of Tryz.func145 (by decide) (c := _) rfl rfl (shB_ok rfl) (Nat.le_of_ble_eq_true rfl) rfl (AftOk.nil _) <| .sla (t := 0) 0 rfl rfl fun hs1l => .sla (t := 0) 1 rfl rfl fun hs2l => .sla (t := 0) 2 rfl rfl fun hs3l => .sl (t := 1) rfl fun hs4l => .seq <| .rs fun k5 => .g (fun _ τ => ⟨_, .box (.no rfl) rfl rfl rfl rfl rfl τ⟩) <| .as rfl ?_
 refine .z <| .seq <| .seq <| .rs fun k6 => .as rfl <| .z <| .block ?_
 refine .loop (X := Nat) (fun ζ => .of [(1, .one (.d (.sl false 121 2 (List.map Part.c121 (l))))), (2, .one (.ptr [2] (k5) 0)), (5, .one (.d (.v (.int .i64 ((ζ : Int))))))] [([2], (k5, k5, .box [.d (.sl false 9 1 (List.map strc (d.vars))), .d (.sl false 9 1 (List.map strc (d.flags))), .d (.sl false 168 2 (List.map Arr.c (d.arrays)))]))]) (fun ζ => 1 ≤ ζ ∧ (ζ ≤ l.length ∨ ζ = 1) ∧ risesTo l ζ = true) (fun ζ => l.length - ζ) ?_ ?_
 ·skip
  exact .here 1 (.of (.cons rfl (.cons rfl (.cons (svI (show (1) = ((1 : Int)) by first | rfl | omega | exact wrap_le (by omega) (by omega) | (rw [wrap_le (by omega) (by omega)]; omega))) .nil))) (.r rfl)) (show 1 ≤ 1 ∧ (1 ≤ l.length ∨ 1 = 1) ∧ risesTo l 1 = true by exact ⟨by omega, by omega, rfl⟩)
 ·rintro j hI
  have hI : 1 ≤ j ∧ (j ≤ l.length ∨ j = 1) ∧ risesTo l j = true := hI
  refine .seq <| .seq <| .rs fun k7 => .mv rfl <| .mv rfl <| .g (fun _ τ => ⟨_, .len (.no rfl) rfl (z := (l.length : Int)) t57 rfl rfl rfl (.d _ _) (map_len _ _) rfl τ⟩) <| .bi rfl <| .z ?_
  refine .cond (t := decide ((j : Int) < (l.length : Int))) rfl (fun c0 => ?_) (fun c0 => ?_)
  ·have c0 := of_decide_eq_true c0
   refine .skip <| .seq <| .block <| .seq ?_
   refine .regD (X := Unit) (by kernel_rfl) (fun ζ => .of [(1, .one (.d (.sl false 121 2 (List.map Part.c121 (l))))), (2, .one (.ptr [2] (k5) 0)), (5, .one (.d (.v (.int .i64 ((j : Int)))))), (24, .one (.d (.v (.bool (decide ((tokCmp ((l.getD (j - 1) default).token) ((l.getD j default).token)) ≥ 0))))))] [([2], (k5, k5, .box [.d (.sl false 9 1 (List.map strc (d.vars))), .d (.sl false 9 1 (List.map strc (d.flags))), .d (.sl false 168 2 (List.map Arr.c (d.arrays)))]))]) [⟨[1], some 12, [], []⟩, ⟨[5], some 13, [], []⟩, ⟨[13], some 14, [], []⟩, ⟨[12, 14], some 15, [], []⟩, ⟨[15], some 16, [], []⟩, ⟨[16], some 17, [], []⟩, ⟨[1], some 18, [], []⟩, ⟨[5], some 19, [], []⟩, ⟨[18, 19], some 20, [], []⟩, ⟨[20], some 21, [], []⟩, ⟨[21], some 22, [], []⟩, ⟨[17, 22], some 23, [], []⟩, ⟨[23], some 24, [], []⟩] (by kernel_rfl) (fun k8 => ?_) ?_
   ·skip
    refine .move (.no rfl) rfl rfl rfl rfl <| .move (.no rfl) rfl rfl rfl rfl <| .bin (.no rfl) rfl rfl rfl rfl rfl rfl <| .indexAddr (.no rfl) rfl ((j - 1)) t57 rfl t121 rfl rfl rfl (.d _ _) rfl rfl (by (rw [wrap_le (by omega) (by omega)]; omega)) (map_get (by omega)) rfl rfl <| .fieldAddr (.no rfl) rfl t121 rfl rfl t72 rfl rfl rfl rfl [] (by simp) (by intro _ _ _ h; cases h) rfl rfl <| .load (.no rfl) rfl t72 rfl rfl (.d _) rfl rfl rfl rfl <| .move (.no rfl) rfl rfl rfl rfl <| .move (.no rfl) rfl rfl rfl rfl <| .indexAddr (.no rfl) rfl (j) t57 rfl t121 rfl rfl rfl (.d _ _) rfl rfl rfl (map_get (by omega)) rfl rfl ?_
    refine .fieldAddr (.no rfl) rfl t121 rfl rfl t72 rfl rfl rfl rfl [] (by simp) (by intro _ _ _ h; cases h) rfl rfl <| .load (.no rfl) rfl t72 rfl rfl (.d _) rfl rfl rfl rfl <| .call (.no rfl) rfl [] [] (c_compareTokens ((l.getD (j - 1) default).token) ((l.getD j default).token)) rfl rfl rfl rfl rfl (.dd (.dd .nil)) rfl rfl (fun h => absurd rfl h) (.own [23, 0] .nil) (.nil) rfl rfl rfl (by simp) rfl rfl rfl <| .bin (.no rfl) rfl rfl rfl rfl rfl rfl ?_
    exact .fin () (.of (.r rfl) (.r rfl))
   intro _
   refine .cond (t := decide ((tokCmp ((l.getD (j - 1) default).token) ((l.getD j default).token)) ≥ 0)) rfl (fun c1 => ?_) (fun c1 => ?_)
   ·have c1 := of_decide_eq_true c1
    refine .seq <| .rs fun k9 => .as rfl <| .z <| .ret ?_
    exact fin0 (.inr rfl) (.one (svB (show (false) = (Parts.isIn d l) by (rw [Parts.isIn_rise (j := j) (by omega) (by omega) (by omega)]))) .nil) (.dd .nil) rfl
   ·have c1 := of_decide_eq_false c1
    refine .skip <| .rs fun k11 => .mv rfl <| .bi rfl <| .as rfl <| .z ?_
    exact .here (j + 1) (.of (.cons rfl (.cons rfl (.cons (svI (show (IntKind.wrap .i64 ((j : Int) + 1)) = (((j + 1) : Int)) by first | rfl | omega | exact wrap_le (by omega) (by omega) | (rw [wrap_le (by omega) (by omega)]; omega))) .nil))) (.r rfl)) ⟨(show 1 ≤ (j + 1) ∧ ((j + 1) ≤ l.length ∨ (j + 1) = 1) ∧ risesTo l (j + 1) = true by exact ⟨by omega, by omega, rises_step hI.2.2 (fun _ => by omega)⟩), (show l.length - (j + 1) < l.length - j by omega)⟩
  ·have c0 := of_decide_eq_false c0
   refine .exit <| .seq ?_
   refine .reg (X := Unit) (fun ζ => .of [(4, .one (.d (.v (.bool ((decide ((l.length : Int) ≤ 100) && l.all (fun x0 => Part.ok d x0)))))))] []) [⟨[1], some 25, [], []⟩, ⟨[25], some 26, [], []⟩, ⟨[26], some 27, [], []⟩, ⟨[27], some 28, [], []⟩, ⟨[28, 1], some 29, [], []⟩, ⟨[28, 2], some 30, [[2]], []⟩, ⟨[28, 30], some 31, [], []⟩, ⟨[28, 29, 31], some 32, [], []⟩, ⟨[28, 32], some 33, [], []⟩, ⟨[33], some 4, [], []⟩] (fun k12 => ?_) ?_
   ·skip
    refine .move (.no rfl) rfl rfl rfl rfl <| .len (.no rfl) rfl (z := (l.length : Int)) t57 rfl rfl rfl (.d _ _) (map_len _ _) rfl <| .bin (.no rfl) rfl rfl rfl rfl rfl rfl <| .moveB (.no rfl) rfl rfl rfl rfl fun b13 g6_3 => ?_
    cases b13
    ·skip
     refine .off rfl rfl rfl rfl rfl rfl rfl <| .off rfl rfl rfl rfl rfl rfl rfl <| .off rfl rfl rfl rfl rfl rfl rfl <| .off rfl rfl rfl rfl rfl rfl rfl <| .pick (.no rfl) rfl rfl rfl rfl rfl <| .assign (.no rfl) rfl rfl rfl rfl ?_
     exact .fin () (.of (.cons (svB (show (false) = ((decide ((l.length : Int) ≤ 100) && l.all (fun x0 => Part.ok d x0))) by first | (simp only [g6_3, Bool.true_or, Bool.false_or, Bool.true_and, Bool.false_and, Bool.not_true, Bool.not_false]; done) | simp [g6_3])) .nil) .nil)
    ·skip
     refine .move (.on rfl rfl rfl rfl rfl) rfl rfl rfl rfl <| .load (.on rfl rfl rfl rfl rfl) rfl t34 rfl rfl (.ptr _ _ _ _ _ rfl) rfl rfl rfl rfl <| .makeFunc (.on rfl rfl rfl rfl rfl) rfl rfl rfl rfl rfl <| .call (.on rfl rfl rfl rfl rfl) rfl [] [] (c_areAllP l 186 [(true, [.sl false 9 1 (List.map strc (d.vars)), .sl false 9 1 (List.map strc (d.flags)), .sl false 168 2 (List.map Arr.c (d.arrays))])] [] (fun x0 => Part.ok d x0) (fun x0 => c_partOk d x0)) rfl rfl rfl rfl rfl (.dd (.cons (Reads.clo1 (.cons (Reads.d _) (.cons (Reads.d _) (.cons (Reads.d _) .nil))) (.nil)).gives .nil)) rfl rfl (fun h => absurd rfl h) (.own [32, 0] .nil) (.nil) rfl rfl rfl (by simp) rfl rfl rfl <| .pick (.no rfl) rfl rfl rfl rfl rfl <| .assign (.no rfl) rfl rfl rfl rfl ?_
     exact .fin () (.of (.cons (svB (show (l.all (fun x0 => Part.ok d x0)) = ((decide ((l.length : Int) ≤ 100) && l.all (fun x0 => Part.ok d x0))) by first | (simp only [g6_3, Bool.true_or, Bool.false_or, Bool.true_and, Bool.false_and, Bool.not_true, Bool.not_false]; done) | simp [g6_3])) .nil) .nil)
   intro _
   refine .ret ?_
   exact fin0 (.inr rfl) (.one (svB (show ((decide ((l.length : Int) ≤ 100) && l.all (fun x0 => Part.ok d x0))) = (Parts.isIn d l) by exact Parts.isIn_all (j := j) (by omega) hI.2.2)) .nil) (.dd .nil) rfl
theorem c_PartsOk (d : Decl) (l : List Part) (hs : ∀ x ∈ Decl.names d, x.size ≤ 9223372036854775807) (hb : d.vars.length ≤ 1048576 ∧ d.flags.length ≤ 1048576 ∧ d.arrays.length ≤ 1048576) : Trip Tryz.prog 113 [(true, 3), (false, 1)] (Decl.c34 d ++ [.sl false 121 2 (List.map Part.c121 (l))]) [(false, 1)] [.v (.bool (Parts.ok d l))] [] := by
 refine Trip.of Tryz.func113 (by decide) (c := _) rfl rfl (shB_ok rfl) (Nat.le_of_ble_eq_true rfl) rfl (AftOk.nil _) <| .sla (t := 0) 0 rfl rfl fun hs1l => .sla (t := 0) 1 rfl rfl fun hs2l => .sla (t := 0) 2 rfl rfl fun hs3l => .sl (t := 1) rfl fun hs4l => .seq <| .rs fun k5 => .g (fun _ τ => ⟨_, .box (.no rfl) rfl rfl rfl rfl rfl τ⟩) <| .as rfl ?_
 refine .z <| .seq ?_
 refine .reg (X := Unit) (fun ζ => .of [(4, .one (.d (.v (.bool ((Decl.ok d && Parts.isIn d l))))))] []) [⟨[2], some 5, [[2]], []⟩, ⟨[5], some 6, [], []⟩, ⟨[6], some 7, [], []⟩, ⟨[7, 2], some 8, [[2]], []⟩, ⟨[7, 1], some 9, [], []⟩, ⟨[7, 8, 9], some 10, [], []⟩, ⟨[7, 10], some 11, [], []⟩, ⟨[11], some 4, [], []⟩] (fun k6 => ?_) ?_
 ·skip
  refine .load (.no rfl) rfl t34 rfl rfl (.ptr _ _ _ _ _ rfl) rfl rfl rfl rfl <| .call (.no rfl) rfl [] [] (c_isRight d (by assumption) (by assumption)) rfl rfl rfl rfl rfl (.dd (.dd (.dd .nil))) rfl rfl (fun h => absurd rfl h) (.own [6, 0] .nil) (.nil) rfl rfl rfl (by simp) rfl rfl rfl <| .moveB (.no rfl) rfl rfl rfl rfl fun b7 g1_2 => ?_
  cases b7
  ·skip
   refine .off rfl rfl rfl rfl rfl rfl rfl <| .off rfl rfl rfl rfl rfl rfl rfl <| .off rfl rfl rfl rfl rfl rfl rfl <| .pick (.no rfl) rfl rfl rfl rfl rfl <| .assign (.no rfl) rfl rfl rfl rfl ?_
   exact .fin () (.of (.cons (svB (show (false) = ((Decl.ok d && Parts.isIn d l)) by first | (simp only [g1_2, Bool.true_or, Bool.false_or, Bool.true_and, Bool.false_and, Bool.not_true, Bool.not_false]; done) | simp [g1_2])) .nil) .nil)
  ·skip
   refine .load (.on rfl rfl rfl rfl rfl) rfl t34 rfl rfl (.ptr _ _ _ _ _ rfl) rfl rfl rfl rfl <| .move (.on rfl rfl rfl rfl rfl) rfl rfl rfl rfl <| .call (.on rfl rfl rfl rfl rfl) rfl [] [] (c_areParts d l) rfl rfl rfl rfl rfl (.dd (.dd (.dd (.dd .nil)))) rfl rfl (fun h => absurd rfl h) (.own [10, 0] .nil) (.nil) rfl rfl rfl (by simp) rfl rfl rfl <| .pick (.no rfl) rfl rfl rfl rfl rfl <| .assign (.no rfl) rfl rfl rfl rfl ?_
   exact .fin () (.of (.cons (svB (show (Parts.isIn d l) = ((Decl.ok d && Parts.isIn d l)) by first | (simp only [g1_2, Bool.true_or, Bool.false_or, Bool.true_and, Bool.false_and, Bool.not_true, Bool.not_false]; done) | simp [g1_2])) .nil) .nil)
 intro _
 refine .ret ?_
 exact fin0 (.inr rfl) (.one (svB (show ((Decl.ok d && Parts.isIn d l)) = (Parts.ok d l) by rfl)) .nil) (.dd .nil) rfl
end Go.Proofs

namespace Go.Proofs
open Go Go.Proofs Go.Ev

theorem c_l9Find (l : List Part) (t : List Entry) (hk : ∀ i, i < l.length → tokOk (l.getD i default).token = true) (ht : tokOk t = true) : Trip Tryz.prog 107 [(false, 1), (false, 1)] ([.sl false 121 2 (List.map Part.c121 (l))] ++ [.sl false 145 2 (List.map Entry.c (t))]) [(false, 1)] [.v (.int .i64 (partF l t))] [] := by
 refine Trip.of Tryz.func107 (by decide) (c := _) rfl rfl (shB_ok rfl) (Nat.le_of_ble_eq_true rfl) rfl (AftOk.nil _) <| .sl (t := 0) rfl fun hs1l => .sl (t := 1) rfl fun hs2l => .seq <| .rs fun k3 => .as rfl <| .z <| .seq <| .seq ?_
 refine .rs fun k4 => .as rfl <| .z <| .block ?_
 refine .loop (X := Nat) (fun ζ => .of [(0, .one (.d (.sl false 121 2 (List.map Part.c121 (l))))), (1, .one (.d (.sl false 145 2 (List.map Entry.c (t))))), (5, .one (.d (.v (.int .i64 ((ζ : Int))))))] []) (fun ζ => ζ ≤ l.length ∧ allTo ζ (fun i => decide (¬ tokCmp (l.getD i default).token t = 0)) = true) (fun ζ => l.length - ζ) ?_ ?_
 ·skip
  exact .here 0 (.of (.cons rfl (.cons rfl (.cons (svI (show (0) = ((0 : Int)) by first | rfl | omega | exact wrap_le (by omega) (by omega) | (rw [wrap_le (by omega) (by omega)]; omega))) .nil))) .nil) (show 0 ≤ l.length ∧ allTo 0 (fun i => decide (¬ tokCmp (l.getD i default).token t = 0)) = true by exact ⟨by omega, rfl⟩)
 ·rintro j hI
  have hI : j ≤ l.length ∧ allTo j (fun i => decide (¬ tokCmp (l.getD i default).token t = 0)) = true := hI
  refine .seq <| .seq <| .rs fun k5 => .mv rfl <| .mv rfl <| .g (fun _ τ => ⟨_, .len (.no rfl) rfl (z := (l.length : Int)) t57 rfl rfl rfl (.d _ _) (map_len _ _) rfl τ⟩) <| .bi rfl <| .z ?_
  refine .cond (t := decide ((j : Int) < (l.length : Int))) rfl (fun c0 => ?_) (fun c0 => ?_)
  ·have c0 := of_decide_eq_true c0
   refine .skip <| .seq <| .block <| .seq <| .rs fun k6 => .mv rfl <| .mv rfl <| .g (fun _ τ => ⟨_, .indexAddr (.no rfl) rfl (j) t57 rfl t121 rfl rfl rfl (.d _ _) rfl rfl rfl (map_get (by omega)) rfl rfl τ⟩) <| .g (fun _ τ => ⟨_, .fieldAddr (.no rfl) rfl t121 rfl rfl t72 rfl rfl rfl rfl [] (by simp) (by intro _ _ _ h; cases h) rfl rfl τ⟩) ?_
   refine .ld t72 rfl (.d _) rfl <| .mv rfl <| .c0 (c_l9Cmp ((l.getD j default).token) t (by first | assumption | exact hk _ (by omega)) (by first | assumption | exact hk _ (by omega))) rfl (.dd (.dd .nil)) (.own [18, 0] .nil) rfl <| .bi rfl <| .z ?_
   refine .cond (t := (tokCmp ((l.getD j default).token) t) == 0) rfl (fun c1 => ?_) (fun c1 => ?_)
   ·have c1 := (by simpa using c1 : (tokCmp ((l.getD j default).token) t) = 0)
    refine .seq <| .rs fun k7 => .mv rfl <| .as rfl <| .z <| .ret ?_
    exact fin0 (.inr rfl) (.one (svI (show ((j : Int)) = (partF l t) by exact partF_found (by omega) hI.2 c1)) .nil) (.dd .nil) rfl
   ·have c1 := (by simpa using c1 : ¬ ((tokCmp ((l.getD j default).token) t) = 0))
    refine .skip <| .rs fun k9 => .mv rfl <| .bi rfl <| .as rfl <| .z ?_
    exact .here (j + 1) (.of (.cons rfl (.cons rfl (.cons (svI (show (IntKind.wrap .i64 ((j : Int) + 1)) = (((j + 1) : Int)) by first | rfl | omega | exact wrap_le (by omega) (by omega) | (rw [wrap_le (by omega) (by omega)]; omega))) .nil))) .nil) ⟨(show (j + 1) ≤ l.length ∧ allTo (j + 1) (fun i => decide (¬ tokCmp (l.getD i default).token t = 0)) = true by exact ⟨by omega, allTo_step hI.2 (decide_eq_true c1)⟩), (show l.length - (j + 1) < l.length - j by omega)⟩
  ·have c0 := of_decide_eq_false c0
   refine .exit <| .seq <| .rs fun k10 => .as rfl <| .z <| .ret ?_
   exact fin0 (.inr rfl) (.one (svI (show (-1) = (partF l t) by exact partF_none (by omega) hI.2)) .nil) (.dd .nil) rfl
theorem c_l9Leq (a : List Part) (b : List Part) (hk : ∀ i, i < b.length → tokOk (b.getD i default).token = true) (ha : ∀ i, i < a.length → tokOk (a.getD i default).token = true) (hp : ∀ i, i < a.length → ∀ q, q < b.length → PairOk (a.getD i default).table (b.getD q default).table) : Trip Tryz.prog 83 [(false, 1), (false, 1)] ([.sl false 121 2 (List.map Part.c121 (a))] ++ [.sl false 121 2 (List.map Part.c121 (b))]) [(false, 1)] [.v (.bool (Parts.leqS a b))] [] := by
 refine Trip.of Tryz.func83 (by decide) (c := _) rfl rfl (shB_ok rfl) (Nat.le_of_ble_eq_true rfl) rfl (AftOk.nil _) <| .sl (t := 0) rfl fun hs1l => .sl (t := 1) rfl fun hs2l => .seq <| .rs fun k3 => .as rfl <| .z <| .seq <| .seq ?_
 refine .rs fun k4 => .as rfl <| .z <| .block ?_
 refine .loop (X := Nat) (fun ζ => .of [(0, .one (.d (.sl false 121 2 (List.map Part.c121 (a))))), (1, .one (.d (.sl false 121 2 (List.map Part.c121 (b))))), (5, .one (.d (.v (.int .i64 ((ζ : Int))))))] []) (fun ζ => ζ ≤ a.length ∧ allTo ζ (fun i => decide (¬ partF b (a.getD i default).token < 0) && tabLeq (a.getD i default).table (b.getD (partF b (a.getD i default).token).toNat default).table) = true) (fun ζ => a.length - ζ) ?_ ?_
 ·skip
  exact .here 0 (.of (.cons rfl (.cons rfl (.cons (svI (show (0) = ((0 : Int)) by first | rfl | omega | exact wrap_le (by omega) (by omega) | (rw [wrap_le (by omega) (by omega)]; omega))) .nil))) .nil) (show 0 ≤ a.length ∧ allTo 0 (fun i => decide (¬ partF b (a.getD i default).token < 0) && tabLeq (a.getD i default).table (b.getD (partF b (a.getD i default).token).toNat default).table) = true by exact ⟨by omega, rfl⟩)
 ·rintro j hI
  have hI : j ≤ a.length ∧ allTo j (fun i => decide (¬ partF b (a.getD i default).token < 0) && tabLeq (a.getD i default).table (b.getD (partF b (a.getD i default).token).toNat default).table) = true := hI
  refine .seq <| .seq <| .rs fun k5 => .mv rfl <| .mv rfl <| .g (fun _ τ => ⟨_, .len (.no rfl) rfl (z := (a.length : Int)) t57 rfl rfl rfl (.d _ _) (map_len _ _) rfl τ⟩) <| .bi rfl <| .z ?_
  refine .cond (t := decide ((j : Int) < (a.length : Int))) rfl (fun c0 => ?_) (fun c0 => ?_)
  ·have c0 := of_decide_eq_true c0
   refine .skip <| .seq <| .block <| .seq <| .rs fun k6 => .mv rfl <| .mv rfl <| .mv rfl <| .g (fun _ τ => ⟨_, .indexAddr (.no rfl) rfl (j) t57 rfl t121 rfl rfl rfl (.d _ _) rfl rfl rfl (map_get (by first | omega | exact (by have h9 := of_decide_eq_false g5_2; have h8 := partF_lt b (a.getD j default).token; omega))) rfl rfl τ⟩) ?_
   refine .g (fun _ τ => ⟨_, .fieldAddr (.no rfl) rfl t121 rfl rfl t72 rfl rfl rfl rfl [] (by simp) (by intro _ _ _ h; cases h) rfl rfl τ⟩) <| .ld t72 rfl (.d _) rfl <| .c0 (c_l9Find b ((a.getD j default).token) (by first | assumption | exact ha _ (by omega) | (have h7 := hp j (by omega) ((partF b (a.getD j default).token).toNat) ((by have h9 := of_decide_eq_false g5_2; have h8 := partF_lt b (a.getD j default).token; omega)); first | exact h7.1 | exact h7.2.1 | exact h7.2.2.1 | exact h7.2.2.2)) (by first | assumption | exact ha _ (by omega) | (have h7 := hp j (by omega) ((partF b (a.getD j default).token).toNat) ((by have h9 := of_decide_eq_false g5_2; have h8 := partF_lt b (a.getD j default).token; omega)); first | exact h7.1 | exact h7.2.1 | exact h7.2.2.1 | exact h7.2.2.2))) rfl (.dd (.dd .nil)) (.own [19, 0] .nil) rfl <| .as rfl <| .z <| .seq ?_
   refine .regD (X := Unit) (by kernel_rfl) (fun ζ => .of [(0, .one (.d (.sl false 121 2 (List.map Part.c121 (a))))), (1, .one (.d (.sl false 121 2 (List.map Part.c121 (b))))), (5, .one (.d (.v (.int .i64 ((j : Int)))))), (35, .one (.d (.v (.bool ((decide ((partF b ((a.getD j default).token)) < 0) || !(tabLeq ((a.getD j default).table) ((b.getD ((partF b ((a.getD j default).token)).toNat) default).table))))))))] []) [⟨[6], some 20, [], []⟩, ⟨[20], some 21, [], []⟩, ⟨[21], some 22, [], []⟩, ⟨[22, 0], some 23, [], []⟩, ⟨[22, 5], some 24, [], []⟩, ⟨[22, 23, 24], some 25, [], []⟩, ⟨[22, 25], some 26, [], []⟩, ⟨[22, 26], some 27, [], []⟩, ⟨[22, 1], some 28, [], []⟩, ⟨[22, 6], some 29, [], []⟩, ⟨[22, 28, 29], some 30, [], []⟩, ⟨[22, 30], some 31, [], []⟩, ⟨[22, 31], some 32, [], []⟩, ⟨[22, 27, 32], some 33, [], []⟩, ⟨[22, 33], some 34, [], []⟩, ⟨[22, 34], some 35, [], []⟩] (by kernel_rfl) (fun k7 => ?_) ?_
   ·skip
    refine .move (.no rfl) rfl rfl rfl rfl <| .bin (.no rfl) rfl rfl rfl rfl rfl rfl <| .moveB (.no rfl) rfl rfl rfl rfl fun b8 g5_2 => ?_
    cases b8
    ·skip
     refine .move (.on rfl rfl rfl rfl rfl) rfl rfl rfl rfl <| .move (.on rfl rfl rfl rfl rfl) rfl rfl rfl rfl <| .indexAddr (.on rfl rfl rfl rfl rfl) rfl (j) t57 rfl t121 rfl rfl rfl (.d _ _) rfl rfl rfl (map_get (by first | omega | exact (by have h9 := of_decide_eq_false g5_2; have h8 := partF_lt b (a.getD j default).token; omega))) rfl rfl <| .fieldAddr (.on rfl rfl rfl rfl rfl) rfl t121 rfl rfl t46 rfl rfl rfl rfl [] (by simp) (by intro _ _ _ h; cases h) rfl rfl <| .load (.on rfl rfl rfl rfl rfl) rfl t46 rfl rfl (.d _) rfl rfl rfl rfl <| .move (.on rfl rfl rfl rfl rfl) rfl rfl rfl rfl <| .move (.on rfl rfl rfl rfl rfl) rfl rfl rfl rfl ?_
     refine .indexAddr (.on rfl rfl rfl rfl rfl) rfl ((partF b ((a.getD j default).token)).toNat) t57 rfl t121 rfl rfl rfl (.d _ _) rfl rfl (by (have h9 := of_decide_eq_false g5_2; omega)) (map_get (by first | omega | exact (by have h9 := of_decide_eq_false g5_2; have h8 := partF_lt b (a.getD j default).token; omega))) rfl rfl <| .fieldAddr (.on rfl rfl rfl rfl rfl) rfl t121 rfl rfl t46 rfl rfl rfl rfl [] (by simp) (by intro _ _ _ h; cases h) rfl rfl <| .load (.on rfl rfl rfl rfl rfl) rfl t46 rfl rfl (.d _) rfl rfl rfl rfl ?_
     refine .call (.on rfl rfl rfl rfl rfl) rfl [] [] (c_l8Leq ((a.getD j default).table) ((b.getD ((partF b ((a.getD j default).token)).toNat) default).table) (by first | assumption | exact ha _ (by omega) | (have h7 := hp j (by omega) ((partF b (a.getD j default).token).toNat) ((by have h9 := of_decide_eq_false g5_2; have h8 := partF_lt b (a.getD j default).token; omega)); first | exact h7.1 | exact h7.2.1 | exact h7.2.2.1 | exact h7.2.2.2)) (by first | assumption | exact ha _ (by omega) | (have h7 := hp j (by omega) ((partF b (a.getD j default).token).toNat) ((by have h9 := of_decide_eq_false g5_2; have h8 := partF_lt b (a.getD j default).token; omega)); first | exact h7.1 | exact h7.2.1 | exact h7.2.2.1 | exact h7.2.2.2)) (by first | assumption | exact ha _ (by omega) | (have h7 := hp j (by omega) ((partF b (a.getD j default).token).toNat) ((by have h9 := of_decide_eq_false g5_2; have h8 := partF_lt b (a.getD j default).token; omega)); first | exact h7.1 | exact h7.2.1 | exact h7.2.2.1 | exact h7.2.2.2)) (by first | assumption | exact ha _ (by omega) | (have h7 := hp j (by omega) ((partF b (a.getD j default).token).toNat) ((by have h9 := of_decide_eq_false g5_2; have h8 := partF_lt b (a.getD j default).token; omega)); first | exact h7.1 | exact h7.2.1 | exact h7.2.2.1 | exact h7.2.2.2))) rfl rfl rfl rfl rfl (.dd (.dd .nil)) rfl rfl (fun h => absurd rfl h) (.own [33, 0] .nil) (.nil) rfl rfl rfl (by simp) rfl rfl rfl ?_
     refine .un (.on rfl rfl rfl rfl rfl) rfl rfl rfl rfl rfl <| .pick (.no rfl) rfl rfl rfl rfl rfl ?_
     exact .fin () (.of (.cons rfl (.cons rfl (.cons rfl (.cons (svB (show (!(tabLeq ((a.getD j default).table) ((b.getD ((partF b ((a.getD j default).token)).toNat) default).table))) = ((decide ((partF b ((a.getD j default).token)) < 0) || !(tabLeq ((a.getD j default).table) ((b.getD ((partF b ((a.getD j default).token)).toNat) default).table)))) by first | (simp only [g5_2, Bool.true_or, Bool.false_or, Bool.true_and, Bool.false_and, Bool.not_true, Bool.not_false]; done) | simp [g5_2])) .nil)))) .nil)
    ·skip
     refine .off rfl rfl rfl rfl rfl rfl rfl <| .off rfl rfl rfl rfl rfl rfl rfl <| .off rfl rfl rfl rfl rfl rfl rfl <| .off rfl rfl rfl rfl rfl rfl rfl <| .off rfl rfl rfl rfl rfl rfl rfl <| .off rfl rfl rfl rfl rfl rfl rfl <| .off rfl rfl rfl rfl rfl rfl rfl <| .off rfl rfl rfl rfl rfl rfl rfl <| .off rfl rfl rfl rfl rfl rfl rfl ?_
     refine .off rfl rfl rfl rfl rfl rfl rfl <| .off rfl rfl rfl rfl rfl rfl rfl <| .off rfl rfl rfl rfl rfl rfl rfl <| .pick (.no rfl) rfl rfl rfl rfl rfl ?_
     exact .fin () (.of (.cons rfl (.cons rfl (.cons rfl (.cons (svB (show (true) = ((decide ((partF b ((a.getD j default).token)) < 0) || !(tabLeq ((a.getD j default).table) ((b.getD ((partF b ((a.getD j default).token)).toNat) default).table)))) by first | (simp only [g5_2, Bool.true_or, Bool.false_or, Bool.true_and, Bool.false_and, Bool.not_true, Bool.not_false]; done) | simp [g5_2])) .nil)))) .nil)
   intro _
   refine .cond (t := (decide ((partF b ((a.getD j default).token)) < 0) || !(tabLeq ((a.getD j default).table) ((b.getD ((partF b ((a.getD j default).token)).toNat) default).table)))) rfl (fun c1 => ?_) (fun c1 => ?_)
   ·have c1 := (oT dT (nT id)) c1
    refine .seq <| .rs fun k9 => .as rfl <| .z <| .ret ?_
    exact fin0 (.inr rfl) (.one (svB (show (false) = (Parts.leqS a b) by (rw [leqS_fail (j := j) (by omega) c1]))) .nil) (.dd .nil) rfl
   ·have c1 := (oF dF (nF id)) c1
    refine .skip <| .rs fun k11 => .mv rfl <| .bi rfl <| .as rfl <| .z ?_
    exact .here (j + 1) (.of (.cons rfl (.cons rfl (.cons (svI (show (IntKind.wrap .i64 ((j : Int) + 1)) = (((j + 1) : Int)) by first | rfl | omega | exact wrap_le (by omega) (by omega) | (rw [wrap_le (by omega) (by omega)]; omega))) .nil))) .nil) ⟨(show (j + 1) ≤ a.length ∧ allTo (j + 1) (fun i => decide (¬ partF b (a.getD i default).token < 0) && tabLeq (a.getD i default).table (b.getD (partF b (a.getD i default).token).toNat default).table) = true by exact ⟨by omega, allTo_step hI.2 (by rw [decide_eq_true c1.1, c1.2]; rfl)⟩), (show a.length - (j + 1) < a.length - j by omega)⟩
  ·have c0 := of_decide_eq_false c0
   refine .exit <| .seq <| .rs fun k12 => .as rfl <| .z <| .ret ?_
   exact fin0 (.inr rfl) (.one (svB (show (true) = (Parts.leqS a b) by (unfold Parts.leqS; exact (allTo_le (by omega) hI.2).symm))) .nil) (.dd .nil) rfl
end Go.Proofs

namespace Go.Proofs
open Go Go.Proofs Go.Ev

theorem c_bsearch (l : List Part) (t : List Entry) (F_p : FuncId) (first_p : List (Bool × List D)) (caps_p : List D) (p : Part → (List Entry) → Int) (h_p : ∀ (x0 : Part) (x1 : List Entry), FnTrip Tryz.prog F_p first_p caps_p [(true, 2), (false, 1)] (Part.c121 x0 ++ [.sl false 145 2 (List.map Entry.c (x1))]) [(false, 1)] [.v (.int .i64 (p x0 x1))]) (hl : l.length ≤ 1048576) : Trip Tryz.prog 164 [(false, 1), (false, 1), (false, 1)] ([.sl false 121 2 (List.map Part.c121 (l))] ++ [.sl false 145 2 (List.map Entry.c (t))] ++ [.fn F_p first_p caps_p]) [(false, 1), (false, 1)] [.v (.int .i64 ((bsAt (fun q => p (l.getD q default) t) l.length : Int))), .v (.bool (decide ((bsAt (fun q => p (l.getD q default) t) l.length : Int) < (l.length : Int)) && (p (l.getD (bsAt (fun q => p (l.getD q default) t) l.length) default) t == 0)))] [] := by
 refine Trip.of Tryz.func164 (by decide +kernel) (c := _) rfl rfl (shB_ok rfl) (Nat.le_of_ble_eq_true rfl) rfl (AftOk.nil _) <| .sl (t := 0) rfl fun hs1l => .sl (t := 1) rfl fun hs2l => .seq <| .rs fun k3 => .as rfl <| .as rfl <| .z <| .seq ?_
 refine .rs fun k4 => .mv rfl <| .g (fun _ τ => ⟨_, .len (.no rfl) rfl (z := (l.length : Int)) t57 rfl rfl rfl (.d _ _) (map_len _ _) rfl τ⟩) <| .as rfl <| .z <| .seq <| .rs fun k5 => .mv rfl <| .as rfl ?_
 refine .as rfl <| .z <| .seq <| .block ?_
 refine .loop (X := Nat × Nat) (fun ζ => .of [(0, .one (.d (.sl false 121 2 (List.map Part.c121 (l))))), (1, .one (.d (.sl false 145 2 (List.map Entry.c (t))))), (2, .one (.d (.fn F_p first_p caps_p))), (8, .one (.d (.v (.int .i64 ((l.length : Int)))))), (9, .one (.d (.v (.int .i64 ((ζ.1 : Int)))))), (10, .one (.d (.v (.int .i64 ((ζ.2 : Int))))))] []) (fun ζ => BsI (fun q => p (l.getD q default) t) l.length ζ.1 ζ.2) (fun ζ => ζ.2 - ζ.1) ?_ ?_
 ·skip
  exact .here (0, l.length) (.of (.cons rfl (.cons rfl (.cons rfl (.cons rfl (.cons (svI (show (0) = ((0 : Int)) by first | rfl | omega | (have h9 := h6 (by omega); exact wrap_le (by omega) (by omega)))) (.r rfl)))))) .nil) (show BsI (fun q => p (l.getD q default) t) l.length 0 l.length by exact BsI.init _ _)
 ·rintro ⟨i, j⟩ hI
  have hI : BsI (fun q => p (l.getD q default) t) l.length i j := hI
  have h8 := hI.1
  have h7 := hI.2.1
  have h6 : i < j → i ≤ mid i j ∧ mid i j < j := mid_bnd
  dsimp only
  refine .seq <| .seq <| .rs fun k6 => .mv rfl <| .mv rfl <| .bi rfl <| .z ?_
  refine .cond (t := decide ((i : Int) < (j : Int))) rfl (fun c0 => ?_) (fun c0 => ?_)
  ·have c0 := of_decide_eq_true c0
   refine .skip <| .block <| .seq <| .rs fun k7 => .mv rfl <| .mv rfl <| .bi rfl <| .g (fun _ τ => ⟨_, .conv (.no rfl) rfl (z' := ((i : Int) + (j : Int))) t3 t174 rfl rfl rfl rfl (by rw [wrap_le (by omega) (by omega)]; exact wrap_u64 (by omega) (by omega)) rfl τ⟩) <| .bi rfl ?_
   refine .g (fun _ τ => ⟨_, .conv (.no rfl) rfl (z' := (mid i j : Int)) t174 t3 rfl rfl rfl rfl (bs_mid (i := i) (j := j) (by omega)) rfl τ⟩) <| .as rfl <| .z <| .seq <| .rs fun k8 => .mv rfl <| .mv rfl <| .mv rfl <| .g (fun _ τ => ⟨_, .indexAddr (.no rfl) rfl (mid i j) t57 rfl t121 rfl rfl rfl (.d _ _) rfl rfl rfl (map_get (by first | omega | (have h9 := h6 (by omega); omega) | (have h9 := of_decide_eq_true g8_4; omega))) rfl rfl τ⟩) ?_
   refine .lda t121 rfl (.d _) rfl <| .mv rfl <| .g (fun _ τ => ⟨_, .callF (.no rfl) rfl (ds := [.sl false 145 2 (List.map Entry.c ((l.getD (mid i j) default).token)), .sl false 106 3 (List.map Env.c106 ((l.getD (mid i j) default).table)), .sl false 145 2 (List.map Entry.c (t))]) (h_p (l.getD (mid i j) default) t) rfl rfl rfl rfl (.own [30, 0] .nil) rfl rfl rfl rfl rfl rfl τ⟩) <| .bi rfl <| .z ?_
   refine .cond (t := decide ((p (l.getD (mid i j) default) t) < 0)) rfl (fun c1 => ?_) (fun c1 => ?_)
   ·have c1 := of_decide_eq_true c1
    refine .rs fun k9 => .mv rfl <| .bi rfl <| .as rfl <| .z ?_
    exact .here ((mid i j + 1), j) (.of (.cons rfl (.cons rfl (.cons rfl (.cons rfl (.cons (svI (show (IntKind.wrap .i64 ((mid i j : Int) + 1)) = (((mid i j + 1) : Int)) by first | rfl | omega | (have h9 := h6 (by omega); exact wrap_le (by omega) (by omega)))) (.r rfl)))))) .nil) ⟨(show BsI (fun q => p (l.getD q default) t) l.length (mid i j + 1) j by first | exact BsI.up hI (by omega) c1 | exact BsI.down hI (by omega) c1), (show j - (mid i j + 1) < j - i by (have h9 := h6 (by omega); omega))⟩
   ·have c1 := of_decide_eq_false c1
    refine .rs fun k10 => .mv rfl <| .as rfl <| .z ?_
    exact .here (i, (mid i j)) (.of (.cons rfl (.cons rfl (.cons rfl (.cons rfl (.cons rfl (.cons (svI (show ((mid i j : Int)) = (((mid i j) : Int)) by first | rfl | omega | (have h9 := h6 (by omega); exact wrap_le (by omega) (by omega)))) .nil)))))) .nil) ⟨(show BsI (fun q => p (l.getD q default) t) l.length i (mid i j) by first | exact BsI.up hI (by omega) c1 | exact BsI.down hI (by omega) c1), (show (mid i j) - i < j - i by (have h9 := h6 (by omega); omega))⟩
  ·have c0 := of_decide_eq_false c0
   refine .exit <| .seq ?_
   refine .reg (X := Unit) (fun ζ => .of [(6, .one (.d (.v (.int .i64 ((i : Int)))))), (7, .one (.d (.v (.bool ((decide ((i : Int) < (l.length : Int)) && (p (l.getD i default) t) == 0))))))] []) [⟨[9], some 35, [], []⟩, ⟨[9], some 36, [], []⟩, ⟨[8], some 37, [], []⟩, ⟨[36, 37], some 38, [], []⟩, ⟨[38], some 39, [], []⟩, ⟨[39, 2], some 40, [], []⟩, ⟨[39, 0], some 41, [], []⟩, ⟨[39, 9], some 42, [], []⟩, ⟨[39, 41, 42], some 43, [], []⟩, ⟨[39, 43], some 44, [], []⟩, ⟨[39, 1], some 45, [], []⟩, ⟨[39, 40, 44, 45], some 46, [], []⟩, ⟨[39, 46], some 47, [], []⟩, ⟨[39, 47], some 48, [], []⟩, ⟨[35], some 6, [], []⟩, ⟨[48], some 7, [], []⟩] (fun k11 => ?_) ?_
   ·skip
    refine .move (.no rfl) rfl rfl rfl rfl <| .move (.no rfl) rfl rfl rfl rfl <| .move (.no rfl) rfl rfl rfl rfl <| .bin (.no rfl) rfl rfl rfl rfl rfl rfl <| .moveB (.no rfl) rfl rfl rfl rfl fun b12 g8_4 => ?_
    cases b12
    ·skip
     refine .off rfl rfl rfl rfl rfl rfl rfl <| .off rfl rfl rfl rfl rfl rfl rfl <| .off rfl rfl rfl rfl rfl rfl rfl <| .off rfl rfl rfl rfl rfl rfl rfl <| .off rfl rfl rfl rfl rfl rfl rfl <| .off rfl rfl rfl rfl rfl rfl rfl <| .off rfl rfl rfl rfl rfl rfl rfl <| .off rfl rfl rfl rfl rfl rfl rfl <| .pick (.no rfl) rfl rfl rfl rfl rfl ?_
     refine .assign (.no rfl) rfl rfl rfl rfl <| .assign (.no rfl) rfl rfl rfl rfl ?_
     exact .fin () (.of (.cons rfl (.cons (svB (show (false) = ((decide ((i : Int) < (l.length : Int)) && (p (l.getD i default) t) == 0)) by first | (simp only [g8_4, Bool.true_or, Bool.false_or, Bool.true_and, Bool.false_and, Bool.not_true, Bool.not_false]; done) | simp [g8_4])) .nil)) .nil)
    ·skip
     refine .move (.on rfl rfl rfl rfl rfl) rfl rfl rfl rfl <| .move (.on rfl rfl rfl rfl rfl) rfl rfl rfl rfl <| .move (.on rfl rfl rfl rfl rfl) rfl rfl rfl rfl <| .indexAddr (.on rfl rfl rfl rfl rfl) rfl (i) t57 rfl t121 rfl rfl rfl (.d _ _) rfl rfl rfl (map_get (by first | omega | (have h9 := h6 (by omega); omega) | (have h9 := of_decide_eq_true g8_4; omega))) rfl rfl <| .load (.on rfl rfl rfl rfl rfl) rfl t121 rfl rfl (.d _) rfl rfl rfl rfl <| .move (.on rfl rfl rfl rfl rfl) rfl rfl rfl rfl <| .callF (.on rfl rfl rfl rfl rfl) rfl (ds := [.sl false 145 2 (List.map Entry.c ((l.getD i default).token)), .sl false 106 3 (List.map Env.c106 ((l.getD i default).table)), .sl false 145 2 (List.map Entry.c (t))]) (h_p (l.getD i default) t) rfl rfl rfl rfl (.own [46, 0] .nil) rfl rfl rfl rfl rfl rfl <| .bin (.on rfl rfl rfl rfl rfl) rfl rfl rfl rfl rfl rfl ?_
     refine .pick (.no rfl) rfl rfl rfl rfl rfl <| .assign (.no rfl) rfl rfl rfl rfl <| .assign (.no rfl) rfl rfl rfl rfl ?_
     exact .fin () (.of (.cons rfl (.cons (svB (show ((p (l.getD i default) t) == 0) = ((decide ((i : Int) < (l.length : Int)) && (p (l.getD i default) t) == 0)) by first | (simp only [g8_4, Bool.true_or, Bool.false_or, Bool.true_and, Bool.false_and, Bool.not_true, Bool.not_false]; done) | simp [g8_4])) .nil)) .nil)
   intro _
   refine .ret ?_
   exact fin0 (.inr rfl) (.one (svI (show ((i : Int)) = ((bsAt (fun q => p (l.getD q default) t) l.length : Int)) by (rw [BsI.done hI (by omega)]))) (.one (svB (show ((decide ((i : Int) < (l.length : Int)) && (p (l.getD i default) t) == 0)) = (decide ((bsAt (fun q => p (l.getD q default) t) l.length : Int) < (l.length : Int)) && (p (l.getD (bsAt (fun q => p (l.getD q default) t) l.length) default) t == 0)) by (rw [BsI.done hI (by omega)]))) .nil)) (.dd (.dd .nil)) rfl
theorem c_partAt1 (x : Part) (t : List Entry) : Trip Tryz.prog 165 [(true, 2), (false, 1)] (Part.c121 x ++ [.sl false 145 2 (List.map Entry.c (t))]) [(false, 1)] [.v (.int .i64 (tokCmp x.token t))] [] := by
 refine Trip.of Tryz.func165 (by decide) (c := _) rfl rfl (shB_ok rfl) (Nat.le_of_ble_eq_true rfl) rfl (AftOk.nil _) <| .sla (t := 0) 0 rfl rfl fun hs1l => .sla (t := 0) 1 rfl rfl fun hs2l => .sl (t := 1) rfl fun hs3l => .seq <| .rs fun k4 => .g (fun _ τ => ⟨_, .box (.no rfl) rfl rfl rfl rfl rfl τ⟩) <| .as rfl <| .z ?_
 refine .seq <| .rs fun k5 => .fp t121 t72 rfl <| .ld t72 rfl (.ptr _ _ _ _ _ rfl) rfl <| .mv rfl <| .c0 (c_compareTokens x.token t) rfl (.dd (.dd .nil)) (.own [8, 0] .nil) rfl <| .as rfl <| .z <| .ret ?_
 exact fin0 (.inr rfl) (.one rfl .nil) (.dd .nil) rfl
theorem c_partAt (l : List Part) (t : List Entry) (hl : l.length ≤ 1048576) : Trip Tryz.prog 114 [(false, 1), (false, 1)] ([.sl false 121 2 (List.map Part.c121 (l))] ++ [.sl false 145 2 (List.map Entry.c (t))]) [(false, 1), (false, 1)] [.v (.int .i64 ((partI l t : Int))), .v (.bool (partB l t))] [] := by
 refine Trip.of Tryz.func114 (by decide) (c := _) rfl rfl (shB_ok rfl) (Nat.le_of_ble_eq_true rfl) rfl (AftOk.nil _) <| .sl (t := 0) rfl fun hs1l => .sl (t := 1) rfl fun hs2l => .seq <| .rs fun k3 => .as rfl <| .as rfl <| .z <| .seq ?_
 refine .rs fun k4 => .mv rfl <| .mv rfl <| .c0 (c_bsearch l t 165 [] [] (fun x0 x1 => tokCmp x0.token x1) (fun x0 x1 => c_partAt1 x0 x1) (by assumption)) rfl (.dd (.dd (.dd .nil))) (.own [8, 0] (.own [8, 1] .nil)) rfl <| .g (fun _ τ => ⟨_, .extract (.no rfl) rfl rfl rfl rfl rfl τ⟩) <| .g (fun _ τ => ⟨_, .extract (.no rfl) rfl rfl rfl rfl rfl τ⟩) <| .as rfl <| .as rfl <| .z ?_
 refine .ret ?_
 exact fin0 (.inr rfl) (.one (svI (show ((bsAt (fun q => (fun x0 x1 => tokCmp x0.token x1) (l.getD q default) t) l.length : Int)) = ((partI l t : Int)) by rfl)) (.one (svB (show (decide ((bsAt (fun q => (fun x0 x1 => tokCmp x0.token x1) (l.getD q default) t) l.length : Int) < (l.length : Int)) && ((fun x0 x1 => tokCmp x0.token x1) (l.getD (bsAt (fun q => (fun x0 x1 => tokCmp x0.token x1) (l.getD q default) t) l.length) default) t == 0)) = (partB l t) by rfl)) .nil)) (.dd (.dd .nil)) rfl
theorem c_partsLeq (a : List Part) (b : List Part) (hb : b.length ≤ 1048576) (hp : ∀ i, i < a.length → ∀ q, q < b.length → PairOk (a.getD i default).table (b.getD q default).table) : Trip Tryz.prog 86 [(false, 1), (false, 1)] ([.sl false 121 2 (List.map Part.c121 (a))] ++ [.sl false 121 2 (List.map Part.c121 (b))]) [(false, 1)] [.v (.bool (Parts.leq a b))] [] := by
 refine Trip.of Tryz.func86 (by decide) (c := _) rfl rfl (shB_ok rfl) (Nat.le_of_ble_eq_true rfl) rfl (AftOk.nil _) <| .sl (t := 0) rfl fun hs1l => .sl (t := 1) rfl fun hs2l => .seq <| .rs fun k3 => .as rfl <| .z <| .seq <| .seq ?_
 refine .rs fun k4 => .mv rfl <| .g (fun _ τ => ⟨_, .len (.no rfl) rfl (z := (a.length : Int)) t57 rfl rfl rfl (.d _ _) (map_len _ _) rfl τ⟩) <| .mv rfl <| .z <| .block ?_
 refine .loop (X := Nat) (fun ζ => .of [(1, .one (.d (.sl false 121 2 (List.map Part.c121 (b))))), (9, .one (.d (.sl false 121 2 (List.map Part.c121 (a))))), (10, .one (.d (.v (.int .i64 ((a.length : Int)))))), (11, .one (.d (.v (.int .i64 ((ζ : Int))))))] []) (fun ζ => ζ ≤ a.length ∧ allTo ζ (fun i => partB b (a.getD i default).token && tabLeq (a.getD i default).table (b.getD (partI b (a.getD i default).token) default).table) = true) (fun ζ => a.length - ζ) ?_ ?_
 ·skip
  exact .here 0 (.of (.cons rfl (.cons rfl (.cons rfl (.cons (svI (show (0) = ((0 : Int)) by first | rfl | omega | exact wrap_le (by omega) (by omega) | (rw [wrap_le (by omega) (by omega)]; omega))) .nil)))) .nil) (show 0 ≤ a.length ∧ allTo 0 (fun i => partB b (a.getD i default).token && tabLeq (a.getD i default).table (b.getD (partI b (a.getD i default).token) default).table) = true by exact ⟨by omega, rfl⟩)
 ·rintro j hI
  have hI : j ≤ a.length ∧ allTo j (fun i => partB b (a.getD i default).token && tabLeq (a.getD i default).table (b.getD (partI b (a.getD i default).token) default).table) = true := hI
  refine .seq <| .rs fun k5 => .bi rfl <| .z <| .seq ?_
  refine .cond (t := decide ((j : Int) < (a.length : Int))) rfl (fun c0 => ?_) (fun c0 => ?_)
  ·have c0 := of_decide_eq_true c0
   refine .skip <| .seq <| .block <| .seq <| .rs fun k6 => .g (fun _ τ => ⟨_, .indexAddr (.no rfl) rfl (j) t57 rfl t121 rfl rfl rfl (.d _ _) rfl rfl rfl (map_get (by first | omega | exact partB_lt (by simpa using g5_2))) rfl rfl τ⟩) <| .lda t121 rfl (.d _) rfl <| .g (fun _ τ => ⟨_, .alloc (.no rfl) rfl z121 rfl rfl rfl τ⟩) <| .g (fun _ τ => ⟨_, .store (.no rfl) rfl t121 rfl rfl rfl rfl rfl rfl rfl rfl rfl τ⟩) ?_
   refine .z <| .seq <| .rs fun k7 => .mv rfl <| .fp t121 t72 rfl <| .ld t72 rfl (.ptr _ _ _ _ _ rfl) rfl <| .c0 (c_partAt b ((a.getD j default).token) (by first | assumption | (have h7 := hp j (by omega) (partI b (a.getD j default).token) (partB_lt (by simpa using g5_2)); first | exact h7.1 | exact h7.2.1 | exact h7.2.2.1 | exact h7.2.2.2))) rfl (.dd (.dd .nil)) (.own [19, 0] (.own [19, 1] .nil)) rfl <| .g (fun _ τ => ⟨_, .move (.no rfl) rfl rfl rfl rfl τ⟩) <| .g (fun _ τ => ⟨_, .extract (.no rfl) rfl rfl rfl rfl rfl τ⟩) ?_
   refine .g (fun _ τ => ⟨_, .extract (.no rfl) rfl rfl rfl rfl rfl τ⟩) <| .as rfl <| .as rfl <| .z <| .seq ?_
   refine .regD (X := Unit) (by kernel_rfl) (fun ζ => .of [(1, .one (.d (.sl false 121 2 (List.map Part.c121 (b))))), (9, .one (.d (.sl false 121 2 (List.map Part.c121 (a))))), (10, .one (.d (.v (.int .i64 ((a.length : Int)))))), (11, .one (.d (.v (.int .i64 ((j : Int)))))), (34, .one (.d (.v (.bool ((!(partB b ((a.getD j default).token)) || !(tabLeq ((a.getD j default).table) ((b.getD (partI b ((a.getD j default).token)) default).table))))))))] []) [⟨[8], some 22, [], []⟩, ⟨[22], some 23, [], []⟩, ⟨[23], some 24, [], []⟩, ⟨[24, 6], some 25, [], []⟩, ⟨[24, 25], some 26, [[6]], []⟩, ⟨[24, 1], some 27, [], []⟩, ⟨[24, 7], some 28, [], []⟩, ⟨[24, 27, 28], some 29, [], []⟩, ⟨[24, 29], some 30, [], []⟩, ⟨[24, 30], some 31, [], []⟩, ⟨[24, 26, 31], some 32, [], []⟩, ⟨[24, 32], some 33, [], []⟩, ⟨[24, 33], some 34, [], []⟩] (by kernel_rfl) (fun k8 => ?_) ?_
   ·skip
    refine .move (.no rfl) rfl rfl rfl rfl <| .un (.no rfl) rfl rfl rfl rfl rfl <| .moveB (.no rfl) rfl rfl rfl rfl fun b9 g5_2 => ?_
    cases b9
    ·skip
     refine .fieldAddrP (.on rfl rfl rfl rfl rfl) rfl t121 rfl rfl t46 rfl rfl rfl rfl <| .load (.on rfl rfl rfl rfl rfl) rfl t46 rfl rfl (.ptr _ _ _ _ _ rfl) rfl rfl rfl rfl <| .move (.on rfl rfl rfl rfl rfl) rfl rfl rfl rfl <| .move (.on rfl rfl rfl rfl rfl) rfl rfl rfl rfl <| .indexAddr (.on rfl rfl rfl rfl rfl) rfl (partI b ((a.getD j default).token)) t57 rfl t121 rfl rfl rfl (.d _ _) rfl rfl rfl (map_get (by first | omega | exact partB_lt (by simpa using g5_2))) rfl rfl <| .fieldAddr (.on rfl rfl rfl rfl rfl) rfl t121 rfl rfl t46 rfl rfl rfl rfl [] (by simp) (by intro _ _ _ h; cases h) rfl rfl <| .load (.on rfl rfl rfl rfl rfl) rfl t46 rfl rfl (.d _) rfl rfl rfl rfl ?_
     refine .call (.on rfl rfl rfl rfl rfl) rfl [] [] (c_tableLeq ((a.getD j default).table) ((b.getD (partI b ((a.getD j default).token)) default).table) (by first | assumption | (have h7 := hp j (by omega) (partI b (a.getD j default).token) (partB_lt (by simpa using g5_2)); first | exact h7.1 | exact h7.2.1 | exact h7.2.2.1 | exact h7.2.2.2)) (by first | assumption | (have h7 := hp j (by omega) (partI b (a.getD j default).token) (partB_lt (by simpa using g5_2)); first | exact h7.1 | exact h7.2.1 | exact h7.2.2.1 | exact h7.2.2.2)) (by first | assumption | (have h7 := hp j (by omega) (partI b (a.getD j default).token) (partB_lt (by simpa using g5_2)); first | exact h7.1 | exact h7.2.1 | exact h7.2.2.1 | exact h7.2.2.2)) (by first | assumption | (have h7 := hp j (by omega) (partI b (a.getD j default).token) (partB_lt (by simpa using g5_2)); first | exact h7.1 | exact h7.2.1 | exact h7.2.2.1 | exact h7.2.2.2))) rfl rfl rfl rfl rfl (.dd (.dd .nil)) rfl rfl (fun h => absurd rfl h) (.own [32, 0] .nil) (.nil) rfl rfl rfl (by simp) rfl rfl rfl ?_
     refine .un (.on rfl rfl rfl rfl rfl) rfl rfl rfl rfl rfl <| .pick (.no rfl) rfl rfl rfl rfl rfl ?_
     exact .fin () (.of (.cons rfl (.cons rfl (.cons rfl (.cons rfl (.cons (svB (show (!(tabLeq ((a.getD j default).table) ((b.getD (partI b ((a.getD j default).token)) default).table))) = ((!(partB b ((a.getD j default).token)) || !(tabLeq ((a.getD j default).table) ((b.getD (partI b ((a.getD j default).token)) default).table)))) by first | (simp only [g5_2, Bool.true_or, Bool.false_or, Bool.true_and, Bool.false_and, Bool.not_true, Bool.not_false]; done) | simp [g5_2])) .nil))))) .nil)
    ·skip
     refine .off rfl rfl rfl rfl rfl rfl rfl <| .off rfl rfl rfl rfl rfl rfl rfl <| .off rfl rfl rfl rfl rfl rfl rfl <| .off rfl rfl rfl rfl rfl rfl rfl <| .off rfl rfl rfl rfl rfl rfl rfl <| .off rfl rfl rfl rfl rfl rfl rfl <| .off rfl rfl rfl rfl rfl rfl rfl <| .off rfl rfl rfl rfl rfl rfl rfl <| .off rfl rfl rfl rfl rfl rfl rfl ?_
     refine .pick (.no rfl) rfl rfl rfl rfl rfl ?_
     exact .fin () (.of (.cons rfl (.cons rfl (.cons rfl (.cons rfl (.cons (svB (show (true) = ((!(partB b ((a.getD j default).token)) || !(tabLeq ((a.getD j default).table) ((b.getD (partI b ((a.getD j default).token)) default).table)))) by first | (simp only [g5_2, Bool.true_or, Bool.false_or, Bool.true_and, Bool.false_and, Bool.not_true, Bool.not_false]; done) | simp [g5_2])) .nil))))) .nil)
   intro _
   refine .cond (t := (!(partB b ((a.getD j default).token)) || !(tabLeq ((a.getD j default).table) ((b.getD (partI b ((a.getD j default).token)) default).table)))) rfl (fun c1 => ?_) (fun c1 => ?_)
   ·have c1 := (oT (nT id) (nT id)) c1
    refine .seq <| .rs fun k10 => .as rfl <| .z <| .ret ?_
    exact fin0 (.inr rfl) (.one (svB (show (false) = (Parts.leq a b) by (rw [leq_fail (j := j) (by omega) c1]))) .nil) (.dd .nil) rfl
   ·have c1 := (oF (nF id) (nF id)) c1
    refine .skip <| .rs fun k12 => .bi rfl <| .mv rfl <| .z ?_
    exact .here (j + 1) (.of (.cons rfl (.cons rfl (.cons rfl (.cons (svI (show (IntKind.wrap .i64 ((j : Int) + 1)) = (((j + 1) : Int)) by first | rfl | omega | exact wrap_le (by omega) (by omega) | (rw [wrap_le (by omega) (by omega)]; omega))) .nil)))) .nil) ⟨(show (j + 1) ≤ a.length ∧ allTo (j + 1) (fun i => partB b (a.getD i default).token && tabLeq (a.getD i default).table (b.getD (partI b (a.getD i default).token) default).table) = true by exact ⟨by omega, allTo_step hI.2 (by rw [c1.1, c1.2]; rfl)⟩), (show a.length - (j + 1) < a.length - j by omega)⟩
  ·have c0 := of_decide_eq_false c0
   refine .exit <| .seq <| .rs fun k13 => .as rfl <| .z <| .ret ?_
   exact fin0 (.inr rfl) (.one (svB (show (true) = (Parts.leq a b) by (unfold Parts.leq; exact (allTo_le (by omega) hI.2).symm))) .nil) (.dd .nil) rfl
theorem c_areBoth (d : Decl) (a : List Part) (b : List Part) (hs : ∀ x ∈ Decl.names d, x.size ≤ 9223372036854775807) (hb : d.vars.length ≤ 1048576 ∧ d.flags.length ≤ 1048576 ∧ d.arrays.length ≤ 1048576) : Trip Tryz.prog 85 [(true, 3), (false, 1), (false, 1)] (Decl.c34 d ++ [.sl false 121 2 (List.map Part.c121 (a))] ++ [.sl false 121 2 (List.map Part.c121 (b))]) [(false, 1)] [.v (.bool (Parts.ok d a && Parts.isIn d b))] [] := by
 refine Trip.of Tryz.func85 (by decide) (c := _) rfl rfl (shB_ok rfl) (Nat.le_of_ble_eq_true rfl) rfl (AftOk.nil _) <| .sla (t := 0) 0 rfl rfl fun hs1l => .sla (t := 0) 1 rfl rfl fun hs2l => .sla (t := 0) 2 rfl rfl fun hs3l => .sl (t := 1) rfl fun hs4l => .sl (t := 2) rfl fun hs5l => .seq <| .rs fun k6 => .g (fun _ τ => ⟨_, .box (.no rfl) rfl rfl rfl rfl rfl τ⟩) ?_
 refine .as rfl <| .z <| .seq ?_
 refine .reg (X := Unit) (fun ζ => .of [(6, .one (.d (.v (.bool ((Parts.ok d a && Parts.isIn d b))))))] []) [⟨[3], some 7, [[3]], []⟩, ⟨[1], some 8, [], []⟩, ⟨[7, 8], some 9, [], []⟩, ⟨[9], some 10, [], []⟩, ⟨[10, 3], some 11, [[3]], []⟩, ⟨[10, 2], some 12, [], []⟩, ⟨[10, 11, 12], some 13, [], []⟩, ⟨[10, 13], some 14, [], []⟩, ⟨[14], some 6, [], []⟩] (fun k7 => ?_) ?_
 ·skip
  refine .load (.no rfl) rfl t34 rfl rfl (.ptr _ _ _ _ _ rfl) rfl rfl rfl rfl <| .move (.no rfl) rfl rfl rfl rfl <| .call (.no rfl) rfl [] [] (c_PartsOk d a (by assumption) (by assumption)) rfl rfl rfl rfl rfl (.dd (.dd (.dd (.dd .nil)))) rfl rfl (fun h => absurd rfl h) (.own [9, 0] .nil) (.nil) rfl rfl rfl (by simp) rfl rfl rfl <| .moveB (.no rfl) rfl rfl rfl rfl fun b8 g1_3 => ?_
  cases b8
  ·skip
   refine .off rfl rfl rfl rfl rfl rfl rfl <| .off rfl rfl rfl rfl rfl rfl rfl <| .off rfl rfl rfl rfl rfl rfl rfl <| .pick (.no rfl) rfl rfl rfl rfl rfl <| .assign (.no rfl) rfl rfl rfl rfl ?_
   exact .fin () (.of (.cons (svB (show (false) = ((Parts.ok d a && Parts.isIn d b)) by first | (simp only [g1_3, Bool.true_or, Bool.false_or, Bool.true_and, Bool.false_and, Bool.not_true, Bool.not_false]; done) | simp [g1_3])) .nil) .nil)
  ·skip
   refine .load (.on rfl rfl rfl rfl rfl) rfl t34 rfl rfl (.ptr _ _ _ _ _ rfl) rfl rfl rfl rfl <| .move (.on rfl rfl rfl rfl rfl) rfl rfl rfl rfl <| .call (.on rfl rfl rfl rfl rfl) rfl [] [] (c_areParts d b) rfl rfl rfl rfl rfl (.dd (.dd (.dd (.dd .nil)))) rfl rfl (fun h => absurd rfl h) (.own [13, 0] .nil) (.nil) rfl rfl rfl (by simp) rfl rfl rfl <| .pick (.no rfl) rfl rfl rfl rfl rfl <| .assign (.no rfl) rfl rfl rfl rfl ?_
   exact .fin () (.of (.cons (svB (show (Parts.isIn d b) = ((Parts.ok d a && Parts.isIn d b)) by first | (simp only [g1_3, Bool.true_or, Bool.false_or, Bool.true_and, Bool.false_and, Bool.not_true, Bool.not_false]; done) | simp [g1_3])) .nil) .nil)
 intro _
 refine .ret ?_
 exact fin0 (.inr rfl) (.one (svB (show ((Parts.ok d a && Parts.isIn d b)) = (Parts.ok d a && Parts.isIn d b) by rfl)) .nil) (.dd .nil) rfl
theorem c_sPartsLeq (d : Decl) (a : List Part) (b : List Part) (hs : ∀ x ∈ Decl.names d, x.size ≤ 9223372036854775807) (hd : d.vars.length ≤ 1048576 ∧ d.flags.length ≤ 1048576 ∧ d.arrays.length ≤ 1048576) (hx : SmallP a) (hy : SmallP b) : Trip Tryz.prog 32 [(true, 3), (false, 1), (false, 1)] (Decl.c34 d ++ [.sl false 121 2 (List.map Part.c121 (a))] ++ [.sl false 121 2 (List.map Part.c121 (b))]) [(false, 1)] [.v (.bool (Parts.leqIn d a b))] [] := by
 refine Trip.of Tryz.func32 (by decide) (c := _) rfl rfl (shB_ok rfl) (Nat.le_of_ble_eq_true rfl) rfl (AftOk.nil _) <| .sla (t := 0) 0 rfl rfl fun hs1l => .sla (t := 0) 1 rfl rfl fun hs2l => .sla (t := 0) 2 rfl rfl fun hs3l => .sl (t := 1) rfl fun hs4l => .sl (t := 2) rfl fun hs5l => .seq <| .rs fun k6 => .g (fun _ τ => ⟨_, .box (.no rfl) rfl rfl rfl rfl rfl τ⟩) ?_
 refine .as rfl <| .z <| .seq ?_
 refine .reg (X := Unit) (fun ζ => .of [(6, .one (.d (.v (.bool (((Parts.ok d a && Parts.ok d b) && Parts.leqS a b))))))] []) [⟨[3], some 7, [[3]], []⟩, ⟨[1], some 8, [], []⟩, ⟨[7, 8], some 9, [], []⟩, ⟨[9], some 10, [], []⟩, ⟨[10, 3], some 11, [[3]], []⟩, ⟨[10, 2], some 12, [], []⟩, ⟨[10, 11, 12], some 13, [], []⟩, ⟨[10, 13], some 14, [], []⟩, ⟨[14], some 15, [], []⟩, ⟨[15, 1], some 16, [], []⟩, ⟨[15, 2], some 17, [], []⟩, ⟨[15, 16, 17], some 18, [], []⟩, ⟨[15, 18], some 19, [], []⟩, ⟨[19], some 6, [], []⟩] (fun k7 => ?_) ?_
 ·skip
  refine .load (.no rfl) rfl t34 rfl rfl (.ptr _ _ _ _ _ rfl) rfl rfl rfl rfl <| .move (.no rfl) rfl rfl rfl rfl ?_
  refine .call (.no rfl) rfl [] [] (c_sPartsOk d a (by first | assumption | exact fun i hi => Part.ok_tok ((Parts.get (Parts.ok_in g1_8)).2.2 i hi) | exact fun i hi => Part.ok_tok ((Parts.get (Parts.ok_in g1_3)).2.2 i hi) | exact pair_of (Parts.ok_in g1_3) (Parts.ok_in g1_8) hx hy) (by first | assumption | exact fun i hi => Part.ok_tok ((Parts.get (Parts.ok_in g1_8)).2.2 i hi) | exact fun i hi => Part.ok_tok ((Parts.get (Parts.ok_in g1_3)).2.2 i hi) | exact pair_of (Parts.ok_in g1_3) (Parts.ok_in g1_8) hx hy) (by first | assumption | exact fun i hi => Part.ok_tok ((Parts.get (Parts.ok_in g1_8)).2.2 i hi) | exact fun i hi => Part.ok_tok ((Parts.get (Parts.ok_in g1_3)).2.2 i hi) | exact pair_of (Parts.ok_in g1_3) (Parts.ok_in g1_8) hx hy)) rfl rfl rfl rfl rfl (.dd (.dd (.dd (.dd .nil)))) rfl rfl (fun h => absurd rfl h) (.own [9, 0] .nil) (.nil) rfl rfl rfl (by simp) rfl rfl rfl ?_
  refine .moveB (.no rfl) rfl rfl rfl rfl fun b8 g1_3 => ?_
  cases b8
  ·skip
   refine .off rfl rfl rfl rfl rfl rfl rfl <| .off rfl rfl rfl rfl rfl rfl rfl <| .off rfl rfl rfl rfl rfl rfl rfl <| .pick (.no rfl) rfl rfl rfl rfl rfl <| .move (.no rfl) rfl rfl rfl rfl <| .off rfl rfl rfl rfl rfl rfl rfl <| .off rfl rfl rfl rfl rfl rfl rfl <| .off rfl rfl rfl rfl rfl rfl rfl <| .pick (.no rfl) rfl rfl rfl rfl rfl ?_
   refine .assign (.no rfl) rfl rfl rfl rfl ?_
   exact .fin () (.of (.cons (svB (show (false) = (((Parts.ok d a && Parts.ok d b) && Parts.leqS a b)) by first | (simp only [g1_3, Bool.true_or, Bool.false_or, Bool.true_and, Bool.false_and, Bool.not_true, Bool.not_false]; done) | simp [g1_3])) .nil) .nil)
  ·skip
   refine .load (.on rfl rfl rfl rfl rfl) rfl t34 rfl rfl (.ptr _ _ _ _ _ rfl) rfl rfl rfl rfl <| .move (.on rfl rfl rfl rfl rfl) rfl rfl rfl rfl ?_
   refine .call (.on rfl rfl rfl rfl rfl) rfl [] [] (c_sPartsOk d b (by first | assumption | exact fun i hi => Part.ok_tok ((Parts.get (Parts.ok_in g1_8)).2.2 i hi) | exact fun i hi => Part.ok_tok ((Parts.get (Parts.ok_in g1_3)).2.2 i hi) | exact pair_of (Parts.ok_in g1_3) (Parts.ok_in g1_8) hx hy) (by first | assumption | exact fun i hi => Part.ok_tok ((Parts.get (Parts.ok_in g1_8)).2.2 i hi) | exact fun i hi => Part.ok_tok ((Parts.get (Parts.ok_in g1_3)).2.2 i hi) | exact pair_of (Parts.ok_in g1_3) (Parts.ok_in g1_8) hx hy) (by first | assumption | exact fun i hi => Part.ok_tok ((Parts.get (Parts.ok_in g1_8)).2.2 i hi) | exact fun i hi => Part.ok_tok ((Parts.get (Parts.ok_in g1_3)).2.2 i hi) | exact pair_of (Parts.ok_in g1_3) (Parts.ok_in g1_8) hx hy)) rfl rfl rfl rfl rfl (.dd (.dd (.dd (.dd .nil)))) rfl rfl (fun h => absurd rfl h) (.own [13, 0] .nil) (.nil) rfl rfl rfl (by simp) rfl rfl rfl ?_
   refine .pick (.no rfl) rfl rfl rfl rfl rfl <| .moveB (.no rfl) rfl rfl rfl rfl fun b9 g1_8 => ?_
   cases b9
   ·skip
    refine .off rfl rfl rfl rfl rfl rfl rfl <| .off rfl rfl rfl rfl rfl rfl rfl <| .off rfl rfl rfl rfl rfl rfl rfl <| .pick (.no rfl) rfl rfl rfl rfl rfl <| .assign (.no rfl) rfl rfl rfl rfl ?_
    exact .fin () (.of (.cons (svB (show (false) = (((Parts.ok d a && Parts.ok d b) && Parts.leqS a b)) by first | (simp only [g1_3, g1_8, Bool.true_or, Bool.false_or, Bool.true_and, Bool.false_and, Bool.not_true, Bool.not_false]; done) | simp [g1_3, g1_8])) .nil) .nil)
   ·skip
    refine .move (.on rfl rfl rfl rfl rfl) rfl rfl rfl rfl <| .move (.on rfl rfl rfl rfl rfl) rfl rfl rfl rfl ?_
    refine .call (.on rfl rfl rfl rfl rfl) rfl [] [] (c_l9Leq a b (by first | assumption | exact fun i hi => Part.ok_tok ((Parts.get (Parts.ok_in g1_8)).2.2 i hi) | exact fun i hi => Part.ok_tok ((Parts.get (Parts.ok_in g1_3)).2.2 i hi) | exact pair_of (Parts.ok_in g1_3) (Parts.ok_in g1_8) hx hy) (by first | assumption | exact fun i hi => Part.ok_tok ((Parts.get (Parts.ok_in g1_8)).2.2 i hi) | exact fun i hi => Part.ok_tok ((Parts.get (Parts.ok_in g1_3)).2.2 i hi) | exact pair_of (Parts.ok_in g1_3) (Parts.ok_in g1_8) hx hy) (by first | assumption | exact fun i hi => Part.ok_tok ((Parts.get (Parts.ok_in g1_8)).2.2 i hi) | exact fun i hi => Part.ok_tok ((Parts.get (Parts.ok_in g1_3)).2.2 i hi) | exact pair_of (Parts.ok_in g1_3) (Parts.ok_in g1_8) hx hy)) rfl rfl rfl rfl rfl (.dd (.dd .nil)) rfl rfl (fun h => absurd rfl h) (.own [18, 0] .nil) (.nil) rfl rfl rfl (by simp) rfl rfl rfl ?_
    refine .pick (.no rfl) rfl rfl rfl rfl rfl <| .assign (.no rfl) rfl rfl rfl rfl ?_
    exact .fin () (.of (.cons (svB (show (Parts.leqS a b) = (((Parts.ok d a && Parts.ok d b) && Parts.leqS a b)) by first | (simp only [g1_3, g1_8, Bool.true_or, Bool.false_or, Bool.true_and, Bool.false_and, Bool.not_true, Bool.not_false]; done) | simp [g1_3, g1_8])) .nil) .nil)
 intro _
 refine .ret ?_
 exact fin0 (.inr rfl) (.one (svB (show (((Parts.ok d a && Parts.ok d b) && Parts.leqS a b)) = (Parts.leqIn d a b) by exact Parts.leqIn_spec)) .nil) (.dd .nil) rfl
theorem c_PartsLeq (d : Decl) (a : List Part) (b : List Part) (hs : ∀ x ∈ Decl.names d, x.size ≤ 9223372036854775807) (hd : d.vars.length ≤ 1048576 ∧ d.flags.length ≤ 1048576 ∧ d.arrays.length ≤ 1048576) (hx : SmallP a) (hy : SmallP b) : Trip Tryz.prog 34 [(true, 3), (false, 1), (false, 1)] (Decl.c34 d ++ [.sl false 121 2 (List.map Part.c121 (a))] ++ [.sl false 121 2 (List.map Part.c121 (b))]) [(false, 1)] [.v (.bool (Parts.leqIn d a b))] [] := by
 refine Trip.of Tryz.func34 (by decide) (c := _) rfl rfl (shB_ok rfl) (Nat.le_of_ble_eq_true rfl) rfl (AftOk.nil _) <| .sla (t := 0) 0 rfl rfl fun hs1l => .sla (t := 0) 1 rfl rfl fun hs2l => .sla (t := 0) 2 rfl rfl fun hs3l => .sl (t := 1) rfl fun hs4l => .sl (t := 2) rfl fun hs5l => .seq <| .rs fun k6 => .g (fun _ τ => ⟨_, .box (.no rfl) rfl rfl rfl rfl rfl τ⟩) ?_
 refine .as rfl <| .z <| .seq ?_
 refine .reg (X := Unit) (fun ζ => .of [(6, .one (.d (.v (.bool ((Parts.ok d a && Parts.isIn d b && Parts.leq a b))))))] []) [⟨[3], some 7, [[3]], []⟩, ⟨[1], some 8, [], []⟩, ⟨[2], some 9, [], []⟩, ⟨[7, 8, 9], some 10, [], []⟩, ⟨[10], some 11, [], []⟩, ⟨[11, 1], some 12, [], []⟩, ⟨[11, 2], some 13, [], []⟩, ⟨[11, 12, 13], some 14, [], []⟩, ⟨[11, 14], some 15, [], []⟩, ⟨[15], some 6, [], []⟩] (fun k7 => ?_) ?_
 ·skip
  refine .load (.no rfl) rfl t34 rfl rfl (.ptr _ _ _ _ _ rfl) rfl rfl rfl rfl <| .move (.no rfl) rfl rfl rfl rfl <| .move (.no rfl) rfl rfl rfl rfl <| .call (.no rfl) rfl [] [] (c_areBoth d a b (by first | assumption | exact hy.1 | exact pair_of (Parts.ok_in (Bool.and_eq_true_iff.1 g1_4).1) (Bool.and_eq_true_iff.1 g1_4).2 hx hy) (by first | assumption | exact hy.1 | exact pair_of (Parts.ok_in (Bool.and_eq_true_iff.1 g1_4).1) (Bool.and_eq_true_iff.1 g1_4).2 hx hy)) rfl rfl rfl rfl rfl (.dd (.dd (.dd (.dd (.dd .nil))))) rfl rfl (fun h => absurd rfl h) (.own [10, 0] .nil) (.nil) rfl rfl rfl (by simp) rfl rfl rfl <| .moveB (.no rfl) rfl rfl rfl rfl fun b8 g1_4 => ?_
  cases b8
  ·skip
   refine .off rfl rfl rfl rfl rfl rfl rfl <| .off rfl rfl rfl rfl rfl rfl rfl <| .off rfl rfl rfl rfl rfl rfl rfl <| .pick (.no rfl) rfl rfl rfl rfl rfl <| .assign (.no rfl) rfl rfl rfl rfl ?_
   exact .fin () (.of (.cons (svB (show (false) = ((Parts.ok d a && Parts.isIn d b && Parts.leq a b)) by first | (simp only [g1_4, Bool.true_or, Bool.false_or, Bool.true_and, Bool.false_and, Bool.not_true, Bool.not_false]; done) | simp [g1_4])) .nil) .nil)
  ·skip
   refine .move (.on rfl rfl rfl rfl rfl) rfl rfl rfl rfl <| .move (.on rfl rfl rfl rfl rfl) rfl rfl rfl rfl <| .call (.on rfl rfl rfl rfl rfl) rfl [] [] (c_partsLeq a b (by first | assumption | exact hy.1 | exact pair_of (Parts.ok_in (Bool.and_eq_true_iff.1 g1_4).1) (Bool.and_eq_true_iff.1 g1_4).2 hx hy) (by first | assumption | exact hy.1 | exact pair_of (Parts.ok_in (Bool.and_eq_true_iff.1 g1_4).1) (Bool.and_eq_true_iff.1 g1_4).2 hx hy)) rfl rfl rfl rfl rfl (.dd (.dd .nil)) rfl rfl (fun h => absurd rfl h) (.own [14, 0] .nil) (.nil) rfl rfl rfl (by simp) rfl rfl rfl <| .pick (.no rfl) rfl rfl rfl rfl rfl <| .assign (.no rfl) rfl rfl rfl rfl ?_
   exact .fin () (.of (.cons (svB (show (Parts.leq a b) = ((Parts.ok d a && Parts.isIn d b && Parts.leq a b)) by first | (simp only [g1_4, Bool.true_or, Bool.false_or, Bool.true_and, Bool.false_and, Bool.not_true, Bool.not_false]; done) | simp [g1_4])) .nil) .nil)
 intro _
 refine .ret ?_
 exact fin0 (.inr rfl) (.one (svB (show ((Parts.ok d a && Parts.isIn d b && Parts.leq a b)) = (Parts.leqIn d a b) by rfl)) .nil) (.dd .nil) rfl
end Go.Proofs

namespace Go.Proofs
open Go Go.Proofs Go.Ev

set_option maxHeartbeats 8000000 in
theorem c_FnExactPartsLeq (d : Decl) (a : List Part) (b : List Part) (hs : ∀ x ∈ Decl.names d, x.size ≤ 9223372036854775807) (hv : ∀ x ∈ d.vars, 0 ≤ strW x ∧ strW x ≤ 9223372036854775807) (hf : ∀ x ∈ d.flags, 0 ≤ strW x ∧ strW x ≤ 9223372036854775807) (ha : ∀ x ∈ d.arrays, 0 ≤ arrW x ∧ arrW x ≤ 9223372036854775807) : Trip Tryz.prog 6 [(true, 3), (false, 1), (false, 1)] (Decl.c25 d ++ [.sl false 118 2 (List.map Part.c118 (a))] ++ [.sl false 118 2 (List.map Part.c118 (b))]) [(false, 1)] [.v (.bool (true))] [] := by
 refine Trip.of Tryz.func6 (by decide) (c := _) rfl rfl (shB_ok rfl) (Nat.le_of_ble_eq_true rfl) rfl (AftOk.nil _) <| .sla (t := 0) 0 rfl rfl fun hs1l => .sla (t := 0) 1 rfl rfl fun hs2l => .sla (t := 0) 2 rfl rfl fun hs3l => .sl (t := 1) rfl fun hs4l => .sl (t := 2) rfl fun hs5l => .seq <| .rs fun k6 => .g (fun _ τ => ⟨_, .box (.no rfl) rfl rfl rfl rfl rfl τ⟩) ?_
 refine .as rfl <| .z <| .seq <| .rs fun k7 => .as rfl <| .z <| .seq <| .rs fun k8 => .lda t25 rfl (.ptr _ _ _ _ _ rfl) rfl ?_
 refine .mv rfl <| .c0 (c_szDecl d 1048576 (by first | assumption | omega | exact ⟨‹_›, ‹_›⟩ | exact q1.1.1 | exact q1.1.2 | exact q2.1.1 | exact q2.1.2 | (simp only [Decl.marks, Env.marks, Env.mark, mkAll_len]; omega)) (by first | assumption | omega | exact ⟨‹_›, ‹_›⟩ | exact q1.1.1 | exact q1.1.2 | exact q2.1.1 | exact q2.1.2 | (simp only [Decl.marks, Env.marks, Env.mark, mkAll_len]; omega)) (by first | assumption | omega | exact ⟨‹_›, ‹_›⟩ | exact q1.1.1 | exact q1.1.2 | exact q2.1.1 | exact q2.1.2 | (simp only [Decl.marks, Env.marks, Env.mark, mkAll_len]; omega)) (by first | assumption | omega | exact ⟨‹_›, ‹_›⟩ | exact q1.1.1 | exact q1.1.2 | exact q2.1.1 | exact q2.1.2 | (simp only [Decl.marks, Env.marks, Env.mark, mkAll_len]; omega))) rfl (.dd (.dd (.dd (.dd .nil)))) (.own [15, 0] .nil) rfl <| .as rfl <| .z <| .seq <| .seq <| .rs fun k9 => .mv rfl <| .bi rfl ?_
 refine .z ?_
 refine .cond (t := decide ((szDecl d 1048576) < 0)) rfl (fun c0 => ?_) (fun c0 => ?_)
 ·have c0 := of_decide_eq_true c0
  refine .seq <| .rs fun k10 => .as rfl <| .z <| .ret ?_
  exact fin0 (.inr rfl) (.one rfl .nil) (.dd .nil) rfl
 ·have c0 := of_decide_eq_false c0
  have q0 := szDecl_len hv hf ha (by omega) c0
  refine .skip <| .seq <| .rs fun k11 => .mv rfl <| .mv rfl <| .c0 (c_szPartS a (szDecl d 1048576) (by first | assumption | omega | exact ⟨‹_›, ‹_›⟩ | exact q1.1.1 | exact q1.1.2 | exact q2.1.1 | exact q2.1.2 | (simp only [Decl.marks, Env.marks, Env.mark, mkAll_len]; omega))) rfl (.dd (.dd .nil)) (.own [20, 0] .nil) rfl <| .as rfl <| .z <| .seq ?_
  refine .seq <| .rs fun k12 => .mv rfl <| .bi rfl <| .z ?_
  refine .cond (t := decide ((szPartS a (szDecl d 1048576)) < 0)) rfl (fun c1 => ?_) (fun c1 => ?_)
  ·have c1 := of_decide_eq_true c1
   refine .seq <| .rs fun k13 => .as rfl <| .z <| .ret ?_
   exact fin0 (.inr rfl) (.one rfl .nil) (.dd .nil) rfl
  ·have c1 := of_decide_eq_false c1
   have q1 := szPartS_len (by omega) c1
   have q1a := q1.1
   refine .skip <| .seq <| .rs fun k14 => .mv rfl <| .mv rfl <| .c0 (c_szPartS b (szPartS a (szDecl d 1048576)) (by first | assumption | omega | exact ⟨‹_›, ‹_›⟩ | exact q1.1.1 | exact q1.1.2 | exact q2.1.1 | exact q2.1.2 | (simp only [Decl.marks, Env.marks, Env.mark, mkAll_len]; omega))) rfl (.dd (.dd .nil)) (.own [25, 0] .nil) rfl <| .as rfl <| .z <| .seq ?_
   refine .seq <| .rs fun k15 => .mv rfl <| .bi rfl <| .z ?_
   refine .cond (t := decide ((szPartS b (szPartS a (szDecl d 1048576))) < 0)) rfl (fun c2 => ?_) (fun c2 => ?_)
   ·have c2 := of_decide_eq_true c2
    refine .seq <| .rs fun k16 => .as rfl <| .z <| .ret ?_
    exact fin0 (.inr rfl) (.one rfl .nil) (.dd .nil) rfl
   ·have c2 := of_decide_eq_false c2
    have q2 := szPartS_len (by omega) c2
    have q2a := q2.1
    refine .skip <| .seq <| .rs fun k17 => .lda t25 rfl (.ptr _ _ _ _ _ rfl) rfl <| .c0 (c_toDecl d (by first | assumption | omega | exact ⟨‹_›, ‹_›⟩ | exact q1.1.1 | exact q1.1.2 | exact q2.1.1 | exact q2.1.2 | (simp only [Decl.marks, Env.marks, Env.mark, mkAll_len]; omega))) rfl (.dd (.dd (.dd .nil))) (.own [29, 0] (.own [29, 1] (.own [29, 2] .nil))) rfl <| .mv rfl <| .c0 (c_toPartS a (by first | assumption | omega | exact ⟨‹_›, ‹_›⟩ | exact q1.1.1 | exact q1.1.2 | exact q2.1.1 | exact q2.1.2 | (simp only [Decl.marks, Env.marks, Env.mark, mkAll_len]; omega)) (by first | assumption | omega | exact ⟨‹_›, ‹_›⟩ | exact q1.1.1 | exact q1.1.2 | exact q2.1.1 | exact q2.1.2 | (simp only [Decl.marks, Env.marks, Env.mark, mkAll_len]; omega))) rfl (.dd .nil) (.own [31, 0] .nil) rfl <| .mv rfl ?_
    refine .c0 (c_toPartS b (by first | assumption | omega | exact ⟨‹_›, ‹_›⟩ | exact q1.1.1 | exact q1.1.2 | exact q2.1.1 | exact q2.1.2 | (simp only [Decl.marks, Env.marks, Env.mark, mkAll_len]; omega)) (by first | assumption | omega | exact ⟨‹_›, ‹_›⟩ | exact q1.1.1 | exact q1.1.2 | exact q2.1.1 | exact q2.1.2 | (simp only [Decl.marks, Env.marks, Env.mark, mkAll_len]; omega))) rfl (.dd .nil) (.own [33, 0] .nil) rfl ?_
    refine .g (fun _ τ => ⟨_, .call (.no rfl) rfl [[29, 0], [29, 1], [29, 2], [31, 0], [33, 0]] [([29, 0], (k17 + 1, k17 + 1, .row 9 1 (List.map strc (d.vars)))), ([29, 1], (k17 + 1, k17 + 1, .row 9 1 (List.map strc (d.flags)))), ([29, 2], (k17 + 1, k17 + 1, .row 168 2 (List.map Arr.c (d.arrays)))), ([31, 0], (k17 + 1 + 1 + 1, k17 + 1 + 1 + 1, .row 121 2 (List.map Part.co121 (a)))), ([33, 0], (k17 + 1 + 1 + 1 + 1 + 1, k17 + 1 + 1 + 1 + 1 + 1, .row 121 2 (List.map Part.co121 (b))))] (c_sPartsLeq d a b (by first | assumption | omega | exact ⟨‹_›, ‹_›⟩ | exact q1.1.1 | exact q1.1.2 | exact q2.1.1 | exact q2.1.2 | (simp only [Decl.marks, Env.marks, Env.mark, mkAll_len]; omega)) (by first | assumption | omega | exact ⟨‹_›, ‹_›⟩ | exact q1.1.1 | exact q1.1.2 | exact q2.1.1 | exact q2.1.2 | (simp only [Decl.marks, Env.marks, Env.mark, mkAll_len]; omega)) (by first | assumption | omega | exact ⟨‹_›, ‹_›⟩ | exact q1.1.1 | exact q1.1.2 | exact q2.1.1 | exact q2.1.2 | (simp only [Decl.marks, Env.marks, Env.mark, mkAll_len]; omega)) (by first | assumption | omega | exact ⟨‹_›, ‹_›⟩ | exact q1.1.1 | exact q1.1.2 | exact q2.1.1 | exact q2.1.2 | (simp only [Decl.marks, Env.marks, Env.mark, mkAll_len]; omega))) rfl rfl rfl rfl rfl (.cons (Reads.ref (Frz.of_erase (erase_slo _ _ _ _ _ _ strc_e)) (.head _) (.head _)).gives (.cons (Reads.ref (Frz.of_erase (erase_slo _ _ _ _ _ _ strc_e)) (.tail _ (.head _)) (.tail _ (.head _))).gives (.cons (Reads.ref (Frz.of_erase (erase_slo _ _ _ _ _ _ Arr.c_e)) (.tail _ (.tail _ (.head _))) (.tail _ (.tail _ (.head _)))).gives (.cons (Reads.ref (Frz.of_erase (erase_slo _ _ _ _ _ _ Part.co121_e)) (.tail _ (.tail _ (.tail _ (.head _)))) (.tail _ (.tail _ (.tail _ (.head _))))).gives (.cons (Reads.ref (Frz.of_erase (erase_slo _ _ _ _ _ _ Part.co121_e)) (.tail _ (.tail _ (.tail _ (.tail _ (.head _))))) (.tail _ (.tail _ (.tail _ (.tail _ (.head _)))))).gives .nil))))) rfl rfl (fun _ => (ownCons (Owned.v _) ownNil)) (.own [34, 0] .nil) (.nil) rfl rfl rfl (AllH.get (.r rfl)) rfl rfl rfl τ⟩) ?_
    refine .as rfl <| .z <| .seq <| .rs fun k18 => .lda t25 rfl (.ptr _ _ _ _ _ rfl) rfl <| .c0 (c_toDecl d (by first | assumption | omega | exact ⟨‹_›, ‹_›⟩ | exact q1.1.1 | exact q1.1.2 | exact q2.1.1 | exact q2.1.2 | (simp only [Decl.marks, Env.marks, Env.mark, mkAll_len]; omega))) rfl (.dd (.dd (.dd .nil))) (.own [36, 0] (.own [36, 1] (.own [36, 2] .nil))) rfl <| .g (fun _ τ => ⟨_, .alloc (.no rfl) rfl z34 rfl rfl rfl τ⟩) <| .g (fun _ τ => ⟨_, .store (.no rfl) rfl t34 rfl rfl rfl rfl rfl rfl rfl rfl rfl τ⟩) <| .z ?_
    refine .seq <| .rs fun k19 => .mv rfl <| .c0 (c_toPartS a (by first | assumption | omega | exact ⟨‹_›, ‹_›⟩ | exact q1.1.1 | exact q1.1.2 | exact q2.1.1 | exact q2.1.2 | (simp only [Decl.marks, Env.marks, Env.mark, mkAll_len]; omega)) (by first | assumption | omega | exact ⟨‹_›, ‹_›⟩ | exact q1.1.1 | exact q1.1.2 | exact q2.1.1 | exact q2.1.2 | (simp only [Decl.marks, Env.marks, Env.mark, mkAll_len]; omega))) rfl (.dd .nil) (.own [38, 0] .nil) rfl <| .as rfl <| .z <| .seq <| .rs fun k20 => .mv rfl ?_
    refine .c0 (c_toPartS b (by first | assumption | omega | exact ⟨‹_›, ‹_›⟩ | exact q1.1.1 | exact q1.1.2 | exact q2.1.1 | exact q2.1.2 | (simp only [Decl.marks, Env.marks, Env.mark, mkAll_len]; omega)) (by first | assumption | omega | exact ⟨‹_›, ‹_›⟩ | exact q1.1.1 | exact q1.1.2 | exact q2.1.1 | exact q2.1.2 | (simp only [Decl.marks, Env.marks, Env.mark, mkAll_len]; omega))) rfl (.dd .nil) (.own [40, 0] .nil) rfl <| .as rfl <| .z <| .seq ?_
    refine .reg (X := Unit) (fun ζ => .of [(1, .one (.d (.sl false 118 2 (List.map Part.c118 (a))))), (2, .one (.d (.sl false 118 2 (List.map Part.c118 (b))))), (3, .one (.ptr [3] (k6) 0)), (8, .one (.d (.v (.bool (Parts.leqIn d a b))))), (9, .one (.ptr [9] (k18 + 1 + 1) 0)), (10, .one (.ref [38, 0] (k19 + 1))), (11, .one (.ref [40, 0] (k20 + 1))), (12, .one (.d (.v (.bool (Parts.leqIn d a b)))))] [([3], (k6, k6, .box [.d (.sl false 9 1 (List.map strc (d.vars))), .d (.sl false 9 1 (List.map strc (d.flags))), .d (.sl false 164 2 (List.map Arr.c (d.arrays)))])), ([9], (k18 + 1 + 1, k18 + 1 + 1 + 1, .box [.ref [36, 0] (k18 + 1), .ref [36, 1] (k18 + 1), .ref [36, 2] (k18 + 1)])), ([36, 0], (k18 + 1, k18 + 1, .row 9 1 (List.map strc (d.vars)))), ([36, 1], (k18 + 1, k18 + 1, .row 9 1 (List.map strc (d.flags)))), ([36, 2], (k18 + 1, k18 + 1, .row 168 2 (List.map Arr.c (d.arrays)))), ([38, 0], (k19 + 1, k19 + 1, .row 121 2 (List.map Part.co121 (a)))), ([40, 0], (k20 + 1, k20 + 1, .row 121 2 (List.map Part.co121 (b))))]) [⟨[9], some 41, [[9]], []⟩, ⟨[10], some 42, [], []⟩, ⟨[11], some 43, [], []⟩, ⟨[41, 42, 43], some 44, [[36, 0], [36, 1], [36, 2], [38, 0], [40, 0]], []⟩, ⟨[44], some 12, [], []⟩] (fun k21 => ?_) ?_
    ·skip
     refine .load (.no rfl) rfl t34 rfl rfl (.ptr _ _ _ _ _ rfl) rfl rfl rfl rfl <| .move (.no rfl) rfl rfl rfl rfl <| .move (.no rfl) rfl rfl rfl rfl ?_
     refine .call (.no rfl) rfl [[36, 0], [36, 1], [36, 2], [38, 0], [40, 0]] [([36, 0], (k18 + 1, k18 + 1, .row 9 1 (List.map strc (d.vars)))), ([36, 1], (k18 + 1, k18 + 1, .row 9 1 (List.map strc (d.flags)))), ([36, 2], (k18 + 1, k18 + 1, .row 168 2 (List.map Arr.c (d.arrays)))), ([38, 0], (k19 + 1, k19 + 1, .row 121 2 (List.map Part.co121 (a)))), ([40, 0], (k20 + 1, k20 + 1, .row 121 2 (List.map Part.co121 (b))))] (c_PartsLeq d a b (by first | assumption | omega | exact ⟨‹_›, ‹_›⟩ | exact q1.1.1 | exact q1.1.2 | exact q2.1.1 | exact q2.1.2 | (simp only [Decl.marks, Env.marks, Env.mark, mkAll_len]; omega)) (by first | assumption | omega | exact ⟨‹_›, ‹_›⟩ | exact q1.1.1 | exact q1.1.2 | exact q2.1.1 | exact q2.1.2 | (simp only [Decl.marks, Env.marks, Env.mark, mkAll_len]; omega)) (by first | assumption | omega | exact ⟨‹_›, ‹_›⟩ | exact q1.1.1 | exact q1.1.2 | exact q2.1.1 | exact q2.1.2 | (simp only [Decl.marks, Env.marks, Env.mark, mkAll_len]; omega)) (by first | assumption | omega | exact ⟨‹_›, ‹_›⟩ | exact q1.1.1 | exact q1.1.2 | exact q2.1.1 | exact q2.1.2 | (simp only [Decl.marks, Env.marks, Env.mark, mkAll_len]; omega))) rfl rfl rfl rfl rfl (.cons (Reads.ref (Frz.of_erase (erase_slo _ _ _ _ _ _ strc_e)) (.head _) (.head _)).gives (.cons (Reads.ref (Frz.of_erase (erase_slo _ _ _ _ _ _ strc_e)) (.tail _ (.head _)) (.tail _ (.head _))).gives (.cons (Reads.ref (Frz.of_erase (erase_slo _ _ _ _ _ _ Arr.c_e)) (.tail _ (.tail _ (.head _))) (.tail _ (.tail _ (.head _)))).gives (.cons (Reads.ref (Frz.of_erase (erase_slo _ _ _ _ _ _ Part.co121_e)) (.tail _ (.tail _ (.tail _ (.head _)))) (.tail _ (.tail _ (.tail _ (.head _))))).gives (.cons (Reads.ref (Frz.of_erase (erase_slo _ _ _ _ _ _ Part.co121_e)) (.tail _ (.tail _ (.tail _ (.tail _ (.head _))))) (.tail _ (.tail _ (.tail _ (.tail _ (.head _)))))).gives .nil))))) rfl rfl (fun _ => (ownCons (Owned.v _) ownNil)) (.own [44, 0] .nil) (.nil) rfl rfl rfl (AllH.get (.r rfl)) rfl rfl rfl ?_
     refine .assign (.no rfl) rfl rfl rfl rfl ?_
     exact .fin () (.of (.r rfl) (.r rfl))
    intro _
    refine .seq <| .seq <| .rs fun k22 => .mv rfl <| .mv rfl <| .g (fun _ τ => ⟨_, .neB (.no rfl) rfl t4 rfl rfl rfl rfl rfl τ⟩) <| .z ?_
    refine .cond (t := (Parts.leqIn d a b) != (Parts.leqIn d a b)) rfl (fun c3 => ?_) (fun c3 => ?_)
    ·have c3 := (by simpa using c3 : ¬ ((Parts.leqIn d a b) = (Parts.leqIn d a b)))
     refine .seq <| .rs fun k23 => .as rfl <| .z <| .ret ?_
     exact fin0 (.inr rfl) (.one (svB (show (false) = (true) by first | exact absurd c3 (by rw [Env.same_self]; decide) | exact absurd c3 (by rw [Decl.same_self]; decide) | exact absurd c3 (by rw [all2_self Env.same_self]; decide) | exact absurd c3 (by rw [all2_self Part.same_self]; decide) | exact absurd c3 (by rw [all2_self Entry.same_self]; decide) | (simp at c3))) .nil) (.dd .nil) rfl
    ·have c3 := (by simpa using c3 : (Parts.leqIn d a b) = (Parts.leqIn d a b))
     refine .skip <| .seq <| .seq ?_
     refine .regD (X := Unit) (by kernel_rfl) (fun ζ => .of [(1, .one (.d (.sl false 118 2 (List.map Part.c118 (a))))), (2, .one (.d (.sl false 118 2 (List.map Part.c118 (b))))), (10, .one (.ref [38, 0] (k19 + 1))), (11, .one (.ref [40, 0] (k20 + 1))), (52, .one (.d (.v (.bool (!(Decl.same d d))))))] [([38, 0], (k19 + 1, k19 + 1, .row 121 2 (List.map Part.co121 (a)))), ([40, 0], (k20 + 1, k20 + 1, .row 121 2 (List.map Part.co121 (b))))]) [⟨[9], some 48, [[9]], []⟩, ⟨[3], some 49, [[3]], []⟩, ⟨[49], some 50, [], [[50, 0], [50, 1], [50, 2]]⟩, ⟨[48, 50], some 51, [[36, 0], [36, 1], [36, 2], [50, 0], [50, 1], [50, 2]], []⟩, ⟨[51], some 52, [], []⟩] (by kernel_rfl) (fun k25 => ?_) ?_
     ·skip
      refine .load (.no rfl) rfl t34 rfl rfl (.ptr _ _ _ _ _ rfl) rfl rfl rfl rfl <| .load (.no rfl) rfl t25 rfl rfl (.ptr _ _ _ _ _ rfl) rfl rfl rfl rfl <| .call (.no rfl) rfl [] [] (c_toDecl d (by first | assumption | omega | exact ⟨‹_›, ‹_›⟩ | exact q1.1.1 | exact q1.1.2 | exact q2.1.1 | exact q2.1.2 | (simp only [Decl.marks, Env.marks, Env.mark, mkAll_len]; omega))) rfl rfl rfl rfl rfl (.dd (.dd (.dd .nil))) rfl rfl (fun h => absurd rfl h) (.own [50, 0] (.own [50, 1] (.own [50, 2] .nil))) (.nil) rfl rfl rfl (by simp) rfl rfl rfl ?_
      refine .call (.no rfl) rfl [[36, 0], [36, 1], [36, 2], [50, 0], [50, 1], [50, 2]] [([36, 0], (k18 + 1, k18 + 1, .row 9 1 (List.map strc (d.vars)))), ([36, 1], (k18 + 1, k18 + 1, .row 9 1 (List.map strc (d.flags)))), ([36, 2], (k18 + 1, k18 + 1, .row 168 2 (List.map Arr.c (d.arrays)))), ([50, 0], (k25 + 1 + 1, k25 + 1 + 1, .row 9 1 (List.map strc (d.vars)))), ([50, 1], (k25 + 1 + 1, k25 + 1 + 1, .row 9 1 (List.map strc (d.flags)))), ([50, 2], (k25 + 1 + 1, k25 + 1 + 1, .row 168 2 (List.map Arr.c (d.arrays))))] (c_eqDecl d d) rfl rfl rfl rfl rfl (.cons (Reads.ref (Frz.of_erase (erase_slo _ _ _ _ _ _ strc_e)) (.head _) (.head _)).gives (.cons (Reads.ref (Frz.of_erase (erase_slo _ _ _ _ _ _ strc_e)) (.tail _ (.head _)) (.tail _ (.head _))).gives (.cons (Reads.ref (Frz.of_erase (erase_slo _ _ _ _ _ _ Arr.c_e)) (.tail _ (.tail _ (.head _))) (.tail _ (.tail _ (.head _)))).gives (.cons (Reads.ref (Frz.of_erase (erase_slo _ _ _ _ _ _ strc_e)) (.tail _ (.tail _ (.tail _ (.head _)))) (.tail _ (.tail _ (.tail _ (.head _))))).gives (.cons (Reads.ref (Frz.of_erase (erase_slo _ _ _ _ _ _ strc_e)) (.tail _ (.tail _ (.tail _ (.tail _ (.head _))))) (.tail _ (.tail _ (.tail _ (.tail _ (.head _)))))).gives (.cons (Reads.ref (Frz.of_erase (erase_slo _ _ _ _ _ _ Arr.c_e)) (.tail _ (.tail _ (.tail _ (.tail _ (.tail _ (.head _)))))) (.tail _ (.tail _ (.tail _ (.tail _ (.tail _ (.head _))))))).gives .nil)))))) rfl rfl (fun _ => (ownCons (Owned.v _) ownNil)) (.own [51, 0] .nil) (.nil) rfl rfl rfl (AllH.get (.r rfl)) rfl rfl rfl ?_
      refine .un (.no rfl) rfl rfl rfl rfl rfl ?_
      exact .fin () (.of (.r rfl) (.r rfl))
     intro _
     refine .cond (t := !(Decl.same d d)) rfl (fun c4 => ?_) (fun c4 => ?_)
     ·have c4 := (nT id) c4
      refine .seq <| .rs fun k26 => .as rfl <| .z <| .ret ?_
      exact fin0 (.inr rfl) (.one (svB (show (false) = (true) by first | exact absurd c4 (by rw [Env.same_self]; decide) | exact absurd c4 (by rw [Decl.same_self]; decide) | exact absurd c4 (by rw [all2_self Env.same_self]; decide) | exact absurd c4 (by rw [all2_self Part.same_self]; decide) | exact absurd c4 (by rw [all2_self Entry.same_self]; decide) | (simp at c4))) .nil) (.dd .nil) rfl
     ·have c4 := (nF id) c4
      refine .skip <| .seq <| .seq <| .rs fun k28 => .mv rfl <| .mv rfl <| .c0 (c_toPartS a (by first | assumption | omega | exact ⟨‹_›, ‹_›⟩ | exact q1.1.1 | exact q1.1.2 | exact q2.1.1 | exact q2.1.2 | (simp only [Decl.marks, Env.marks, Env.mark, mkAll_len]; omega)) (by first | assumption | omega | exact ⟨‹_›, ‹_›⟩ | exact q1.1.1 | exact q1.1.2 | exact q2.1.1 | exact q2.1.2 | (simp only [Decl.marks, Env.marks, Env.mark, mkAll_len]; omega))) rfl (.dd .nil) (.own [55, 0] .nil) rfl ?_
      refine .g (fun _ τ => ⟨_, .call (.no rfl) rfl [[38, 0], [55, 0]] [([38, 0], (k19 + 1, k19 + 1, .row 121 2 (List.map Part.co121 (a)))), ([55, 0], (k28 + 1 + 1, k28 + 1 + 1, .row 121 2 (List.map Part.co121 (a))))] (c_eqPartS a a) rfl rfl rfl rfl rfl (.cons (Reads.ref (Frz.of_erase (erase_slo _ _ _ _ _ _ Part.co121_e)) (.head _) (.head _)).gives (.cons (Reads.ref (Frz.of_erase (erase_slo _ _ _ _ _ _ Part.co121_e)) (.tail _ (.head _)) (.tail _ (.head _))).gives .nil)) rfl rfl (fun _ => (ownCons (Owned.v _) ownNil)) (.own [56, 0] .nil) (.nil) rfl rfl rfl (AllH.get (.r rfl)) rfl rfl rfl τ⟩) <| .un rfl <| .z ?_
      refine .cond (t := !(all2 Part.same a a)) rfl (fun c5 => ?_) (fun c5 => ?_)
      ·have c5 := (nT id) c5
       refine .seq <| .rs fun k29 => .as rfl <| .z <| .ret ?_
       exact fin0 (.inr rfl) (.one (svB (show (false) = (true) by first | exact absurd c5 (by rw [Env.same_self]; decide) | exact absurd c5 (by rw [Decl.same_self]; decide) | exact absurd c5 (by rw [all2_self Env.same_self]; decide) | exact absurd c5 (by rw [all2_self Part.same_self]; decide) | exact absurd c5 (by rw [all2_self Entry.same_self]; decide) | (simp at c5))) .nil) (.dd .nil) rfl
      ·have c5 := (nF id) c5
       refine .skip <| .seq <| .seq <| .rs fun k31 => .mv rfl <| .mv rfl <| .c0 (c_toPartS b (by first | assumption | omega | exact ⟨‹_›, ‹_›⟩ | exact q1.1.1 | exact q1.1.2 | exact q2.1.1 | exact q2.1.2 | (simp only [Decl.marks, Env.marks, Env.mark, mkAll_len]; omega)) (by first | assumption | omega | exact ⟨‹_›, ‹_›⟩ | exact q1.1.1 | exact q1.1.2 | exact q2.1.1 | exact q2.1.2 | (simp only [Decl.marks, Env.marks, Env.mark, mkAll_len]; omega))) rfl (.dd .nil) (.own [60, 0] .nil) rfl ?_
       refine .g (fun _ τ => ⟨_, .call (.no rfl) rfl [[40, 0], [60, 0]] [([40, 0], (k20 + 1, k20 + 1, .row 121 2 (List.map Part.co121 (b)))), ([60, 0], (k31 + 1 + 1, k31 + 1 + 1, .row 121 2 (List.map Part.co121 (b))))] (c_eqPartS b b) rfl rfl rfl rfl rfl (.cons (Reads.ref (Frz.of_erase (erase_slo _ _ _ _ _ _ Part.co121_e)) (.head _) (.head _)).gives (.cons (Reads.ref (Frz.of_erase (erase_slo _ _ _ _ _ _ Part.co121_e)) (.tail _ (.head _)) (.tail _ (.head _))).gives .nil)) rfl rfl (fun _ => (ownCons (Owned.v _) ownNil)) (.own [61, 0] .nil) (.nil) rfl rfl rfl (AllH.get (.r rfl)) rfl rfl rfl τ⟩) <| .un rfl <| .z ?_
       refine .cond (t := !(all2 Part.same b b)) rfl (fun c6 => ?_) (fun c6 => ?_)
       ·have c6 := (nT id) c6
        refine .seq <| .rs fun k32 => .as rfl <| .z <| .ret ?_
        exact fin0 (.inr rfl) (.one (svB (show (false) = (true) by first | exact absurd c6 (by rw [Env.same_self]; decide) | exact absurd c6 (by rw [Decl.same_self]; decide) | exact absurd c6 (by rw [all2_self Env.same_self]; decide) | exact absurd c6 (by rw [all2_self Part.same_self]; decide) | exact absurd c6 (by rw [all2_self Entry.same_self]; decide) | (simp at c6))) .nil) (.dd .nil) rfl
       ·have c6 := (nF id) c6
        refine .skip <| .seq <| .rs fun k34 => .as rfl <| .z <| .ret ?_
        exact fin0 (.inr rfl) (.one rfl .nil) (.dd .nil) rfl
end Go.Proofs

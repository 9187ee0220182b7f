/- Contracts of the program's functions at this seat, printed by a program of ours and checked by Lean: each under the conditions of its own statement. -/
import Derived.Test.YtieoiccmlhjioabGreatDoorF1
set_option linter.all false
set_option linter.unnecessarySimpa false
set_option linter.unusedSectionVars false
set_option linter.unusedSimpArgs false
set_option linter.unusedVariables false
namespace Go.Proofs
open Go Go.Proofs Go.Ev

theorem c_markEntryS (a : List Entry) (k : Int) (hk : 0 ≤ k ∧ k + 2 * (a.length : Int) < 4611686018427387904) : Trip Tryz.prog 32 [(false, 1), (false, 1)] ([.sl true 104 2 (List.map Entry.c (a))] ++ [.v (.int .i64 (k))]) [(false, 1)] [.v (.int .i64 (k + 2 * (a.length : Int)))] [(0, .sl true 104 2 (List.map Entry.c (mkAll (mEnt k) a)))] := by
 refine Trip.of Tryz.func32 (by decide) (c := _) rfl rfl (Nat.le_of_ble_eq_true rfl) rfl (AftOk.sl rfl (AftOk.nil _)) <| .seq <| .rs fun k1 => .as rfl <| .z <| .seq <| .seq <| .rs fun k2 => .as rfl ?_
 refine .z <| .block ?_
 refine .loop (X := Nat × Nat) (fun ζ => .of [(0, .one (.ref [0, 0, 0] (0))), (1, .one (.d (.v (.int .i64 (k + 2 * (ζ.1 : Int)))))), (5, .one (.d (.v (.int .i64 ((ζ.1 : Int))))))] [([0, 0, 0], (0, ζ.2, .row 104 2 (List.map Entry.c (mkTo (mEnt k) a ζ.1))))]) (fun ζ => ζ.1 ≤ a.length) (fun ζ => a.length - ζ.1) ?_ ?_
 ·skip
  exact .here (0, 0) (.of (.cons rfl (.cons (svI (show (k) = (k + 2 * (0 : Int)) by first | omega | exact wrap_le (by omega) (by omega) | (rw [wrap_le (by omega) (by omega)]; omega) | (rw [wrap_le (a := k + 2 * (j : Int) + 1) (by omega) (by omega), wrap_le (by omega) (by omega)]; omega))) (.cons (svI (show (0) = ((0 : Int)) by first | omega | exact wrap_le (by omega) (by omega) | (rw [wrap_le (by omega) (by omega)]; omega) | (rw [wrap_le (a := k + 2 * (j : Int) + 1) (by omega) (by omega), wrap_le (by omega) (by omega)]; omega))) .nil))) (.cons (rowE (show List.map Entry.c (a) = List.map Entry.c (mkTo (mEnt k) a 0) by first | (rw [← mkTo_zero]) | (rw [List.set_set, set_getD (by rw [mkTo_len]; omega), mkTo_step _ _ (by omega) (by simp only [mEnt]; rw [wrap_le (a := k + 2 * (j : Int) + 1) (by omega) (by omega)])]))) .nil)) (show 0 ≤ a.length by omega)
 ·rintro ⟨j, q3⟩ hI
  have hI : j ≤ a.length := hI
  have hL : (mkTo (mEnt k) a j).length = a.length := mkTo_len _ _ _
  dsimp only
  refine .seq <| .seq <| .rs fun k4 => .mv rfl <| .mv rfl <| .g (fun _ τ => ⟨_, .len (.no rfl) rfl (z := ((mkTo (mEnt k) a j).length : Int)) t56 rfl rfl rfl (.ref _ _ _ _ _ rfl) (map_len _ _) rfl τ⟩) <| .bi rfl <| .z ?_
  refine .cond (t := decide ((j : Int) < ((mkTo (mEnt k) a j).length : Int))) rfl (fun c0 => ?_) (fun c0 => ?_)
  ·have c0 := of_decide_eq_true c0
   refine .skip <| .seq <| .block <| .seq <| .rs fun k5 => .mv rfl <| .mv rfl <| .mv rfl <| .g (fun _ τ => ⟨_, .indexAddr (.no rfl) rfl (j) t56 rfl t104 rfl rfl rfl (.ref _ _ _ _ _ rfl) rfl rfl rfl (map_get (by first | omega | (rw [List.length_set]; omega))) rfl rfl τ⟩) ?_
   refine .g (fun _ τ => ⟨_, .fieldAddr (.no rfl) rfl t104 rfl rfl t2 rfl rfl rfl rfl [] (by simp) (by intro _ _ _ h; cases h) rfl rfl τ⟩) <| .g (fun _ τ => ⟨_, .storeE (.no rfl) rfl (els' := List.map Entry.c ((mkTo (mEnt k) a j).set j (Entry.mk (k + 2 * (j : Int)) (((mkTo (mEnt k) a j).getD (j) default).pick)))) t2 rfl rfl rfl rfl (map_get (by first | omega | (rw [List.length_set]; omega))) rfl rfl (.cons _ _ _ _ _ _ (.d _) .nil) rfl (Nat.le_of_ble_eq_true rfl) (set_map _ _ _ (Entry.mk (k + 2 * (j : Int)) (((mkTo (mEnt k) a j).getD (j) default).pick)) _ rfl) rfl rfl τ⟩) <| .z <| .seq <| .rs fun k6 => .mv rfl <| .bi rfl <| .as rfl <| .z ?_
   refine .seq <| .rs fun k7 => .mv rfl <| .mv rfl <| .mv rfl <| .g (fun _ τ => ⟨_, .indexAddr (.no rfl) rfl (j) t56 rfl t104 rfl rfl rfl (.ref _ _ _ _ _ rfl) rfl rfl rfl (map_get (by first | omega | (rw [List.length_set]; omega))) rfl rfl τ⟩) <| .g (fun _ τ => ⟨_, .fieldAddr (.no rfl) rfl t104 rfl rfl t2 rfl rfl rfl rfl [] (by simp) (by intro _ _ _ h; cases h) rfl rfl τ⟩) ?_
   refine .g (fun _ τ => ⟨_, .storeE (.no rfl) rfl (els' := List.map Entry.c (((mkTo (mEnt k) a j).set j (Entry.mk (k + 2 * (j : Int)) (((mkTo (mEnt k) a j).getD (j) default).pick))).set j (Entry.mk ((((mkTo (mEnt k) a j).set j (Entry.mk (k + 2 * (j : Int)) (((mkTo (mEnt k) a j).getD (j) default).pick))).getD (j) default).line) (IntKind.wrap .i64 ((k + 2 * (j : Int)) + 1))))) t2 rfl rfl rfl rfl (map_get (by first | omega | (rw [List.length_set]; omega))) rfl rfl (.cons _ _ _ _ _ _ (.d _) .nil) rfl (Nat.le_of_ble_eq_true rfl) (set_map _ _ _ (Entry.mk ((((mkTo (mEnt k) a j).set j (Entry.mk (k + 2 * (j : Int)) (((mkTo (mEnt k) a j).getD (j) default).pick))).getD (j) default).line) (IntKind.wrap .i64 ((k + 2 * (j : Int)) + 1))) _ rfl) rfl rfl τ⟩) <| .z <| .rs fun k8 => .mv rfl <| .bi rfl <| .as rfl <| .z <| .rs fun k9 => .mv rfl ?_
   refine .bi rfl <| .as rfl <| .z ?_
   exact .here ((j + 1), (k7 + 1 + 1 + 1 + 1 + 1)) (.of (.cons rfl (.cons (svI (show (IntKind.wrap .i64 ((IntKind.wrap .i64 ((k + 2 * (j : Int)) + 1)) + 1)) = (k + 2 * ((j + 1) : Int)) by first | omega | exact wrap_le (by omega) (by omega) | (rw [wrap_le (by omega) (by omega)]; omega) | (rw [wrap_le (a := k + 2 * (j : Int) + 1) (by omega) (by omega), wrap_le (by omega) (by omega)]; omega))) (.cons (svI (show (IntKind.wrap .i64 ((j : Int) + 1)) = (((j + 1) : Int)) by first | omega | exact wrap_le (by omega) (by omega) | (rw [wrap_le (by omega) (by omega)]; omega) | (rw [wrap_le (a := k + 2 * (j : Int) + 1) (by omega) (by omega), wrap_le (by omega) (by omega)]; omega))) .nil))) (.cons (rowE (show List.map Entry.c (((mkTo (mEnt k) a j).set j (Entry.mk (k + 2 * (j : Int)) (((mkTo (mEnt k) a j).getD (j) default).pick))).set j (Entry.mk ((((mkTo (mEnt k) a j).set j (Entry.mk (k + 2 * (j : Int)) (((mkTo (mEnt k) a j).getD (j) default).pick))).getD (j) default).line) (IntKind.wrap .i64 ((k + 2 * (j : Int)) + 1)))) = List.map Entry.c (mkTo (mEnt k) a (j + 1)) by first | (rw [← mkTo_zero]) | (rw [List.set_set, set_getD (by rw [mkTo_len]; omega), mkTo_step _ _ (by omega) (by simp only [mEnt]; rw [wrap_le (a := k + 2 * (j : Int) + 1) (by omega) (by omega)])]))) .nil)) ⟨(show (j + 1) ≤ a.length by omega), (show a.length - (j + 1) < a.length - j by omega)⟩
  ·have c0 := of_decide_eq_false c0
   refine .exit <| .seq <| .rs fun k10 => .mv rfl <| .as rfl <| .z <| .ret ?_
   have e12 : (mkTo (mEnt k) a j) = (mkAll (mEnt k) a) := by first | omega | exact mkTo_all _ _ hI (by omega)
   exact fin1 (.inr rfl) [] [([0, 0, 0], (0, q3, .row 104 2 (List.map Entry.c (mkAll (mEnt k) a))))] (.one (svI (show (k + 2 * (j : Int)) = (k + 2 * (a.length : Int)) by first | omega | exact mkTo_all _ _ hI (by omega))) .nil) (.dd (.cons (.ref (.head _)) .nil)) rfl rfl (.cons (rowE (congrArg (List.map Entry.c) e12)) .nil)
theorem c_heldEntryS (a : List Entry) (k : Int) (hk : 0 ≤ k ∧ k + 2 * (a.length : Int) < 4611686018427387904) (hm : ∀ i, i < a.length → a.getD i default = mEnt k i default) : Trip Tryz.prog 34 [(false, 1), (false, 1)] ([.sl false 104 2 (List.map Entry.c (a))] ++ [.v (.int .i64 (k))]) [(false, 1)] [.v (.int .i64 (k + 2 * (a.length : Int)))] [] := by
 refine Trip.of Tryz.func34 (by decide) (c := _) rfl rfl (Nat.le_of_ble_eq_true rfl) rfl (AftOk.nil _) <| .sl (t := 0) rfl fun hs1l => .seq <| .rs fun k2 => .as rfl <| .z <| .seq <| .seq <| .rs fun k3 => ?_
 refine .as rfl <| .z <| .block ?_
 refine .loop (X := Nat) (fun ζ => .of [(0, .one (.d (.sl false 104 2 (List.map Entry.c (a))))), (1, .one (.d (.v (.int .i64 (k + 2 * (ζ : Int)))))), (5, .one (.d (.v (.int .i64 ((ζ : Int))))))] []) (fun ζ => ζ ≤ a.length) (fun ζ => a.length - ζ) ?_ ?_
 ·skip
  exact .here 0 (.of (.cons rfl (.cons (svI (show (k) = (k + 2 * (0 : Int)) by first | omega | exact wrap_le (by omega) (by omega) | (rw [wrap_le (by omega) (by omega)]; omega) | (rw [wrap_le (a := k + 2 * (j : Int) + 1) (by omega) (by omega), wrap_le (by omega) (by omega)]; omega))) (.cons (svI (show (0) = ((0 : Int)) by first | omega | exact wrap_le (by omega) (by omega) | (rw [wrap_le (by omega) (by omega)]; omega) | (rw [wrap_le (a := k + 2 * (j : Int) + 1) (by omega) (by omega), wrap_le (by omega) (by omega)]; omega))) .nil))) .nil) (show 0 ≤ a.length by omega)
 ·rintro j hI
  have hI : j ≤ a.length := hI
  refine .seq <| .seq <| .rs fun k4 => .mv rfl <| .mv rfl <| .g (fun _ τ => ⟨_, .len (.no rfl) rfl (z := (a.length : Int)) t56 rfl rfl rfl (.d _ _) (map_len _ _) rfl τ⟩) <| .bi rfl <| .z ?_
  refine .cond (t := decide ((j : Int) < (a.length : Int))) rfl (fun c0 => ?_) (fun c0 => ?_)
  ·have c0 := of_decide_eq_true c0
   refine .skip <| .seq <| .block <| .seq <| .seq <| .rs fun k5 => .mv rfl <| .mv rfl <| .g (fun _ τ => ⟨_, .indexAddr (.no rfl) rfl (j) t56 rfl t104 rfl rfl rfl (.d _ _) rfl rfl rfl (map_get (by omega)) rfl rfl τ⟩) ?_
   refine .g (fun _ τ => ⟨_, .fieldAddr (.no rfl) rfl t104 rfl rfl t2 rfl rfl rfl rfl [] (by simp) (by intro _ _ _ h; cases h) rfl rfl τ⟩) <| .ld t2 rfl (.d _) rfl <| .mv rfl <| .bi rfl <| .z ?_
   refine .cond (t := ((a.getD j default).line) != (k + 2 * (j : Int))) rfl (fun c1 => ?_) (fun c1 => ?_)
   ·have c1 := (by simpa using c1 : ¬ (((a.getD j default).line) = (k + 2 * (j : Int))))
    refine .seq <| .rs fun k6 => .as rfl <| .z <| .ret ?_
    exact fin0 (.inr rfl) (.one (svI (show (-1) = (k + 2 * (a.length : Int)) by (have h9 := hm j (by omega); rw [h9] at c1; simp [mEnt] at c1))) .nil) (.dd .nil) rfl
   ·have c1 := (by simpa using c1 : ((a.getD j default).line) = (k + 2 * (j : Int)))
    refine .skip <| .seq <| .rs fun k8 => .mv rfl <| .bi rfl <| .as rfl <| .z <| .seq <| .seq ?_
    refine .rs fun k9 => .mv rfl <| .mv rfl <| .g (fun _ τ => ⟨_, .indexAddr (.no rfl) rfl (j) t56 rfl t104 rfl rfl rfl (.d _ _) rfl rfl rfl (map_get (by omega)) rfl rfl τ⟩) <| .g (fun _ τ => ⟨_, .fieldAddr (.no rfl) rfl t104 rfl rfl t2 rfl rfl rfl rfl [] (by simp) (by intro _ _ _ h; cases h) rfl rfl τ⟩) <| .ld t2 rfl (.d _) rfl <| .mv rfl <| .bi rfl <| .z ?_
    refine .cond (t := ((a.getD j default).pick) != (IntKind.wrap .i64 ((k + 2 * (j : Int)) + 1))) rfl (fun c2 => ?_) (fun c2 => ?_)
    ·have c2 := (by simpa using c2 : ¬ (((a.getD j default).pick) = (IntKind.wrap .i64 ((k + 2 * (j : Int)) + 1))))
     refine .seq <| .rs fun k10 => .as rfl <| .z <| .ret ?_
     exact fin0 (.inr rfl) (.one (svI (show (-1) = (k + 2 * (a.length : Int)) by (have h9 := hm j (by omega); rw [wrap_le (by omega) (by omega)] at c2; rw [h9] at c2; simp [mEnt] at c2))) .nil) (.dd .nil) rfl
    ·have c2 := (by simpa using c2 : ((a.getD j default).pick) = (IntKind.wrap .i64 ((k + 2 * (j : Int)) + 1)))
     refine .skip <| .rs fun k12 => .mv rfl <| .bi rfl <| .as rfl <| .z <| .rs fun k13 => .mv rfl <| .bi rfl ?_
     refine .as rfl <| .z ?_
     exact .here (j + 1) (.of (.cons rfl (.cons (svI (show (IntKind.wrap .i64 ((IntKind.wrap .i64 ((k + 2 * (j : Int)) + 1)) + 1)) = (k + 2 * ((j + 1) : Int)) by first | omega | exact wrap_le (by omega) (by omega) | (rw [wrap_le (by omega) (by omega)]; omega) | (rw [wrap_le (a := k + 2 * (j : Int) + 1) (by omega) (by omega), wrap_le (by omega) (by omega)]; omega))) (.cons (svI (show (IntKind.wrap .i64 ((j : Int) + 1)) = (((j + 1) : Int)) by first | omega | exact wrap_le (by omega) (by omega) | (rw [wrap_le (by omega) (by omega)]; omega) | (rw [wrap_le (a := k + 2 * (j : Int) + 1) (by omega) (by omega), wrap_le (by omega) (by omega)]; omega))) .nil))) .nil) ⟨(show (j + 1) ≤ a.length by omega), (show a.length - (j + 1) < a.length - j by omega)⟩
  ·have c0 := of_decide_eq_false c0
   refine .exit <| .seq <| .rs fun k14 => .mv rfl <| .as rfl <| .z <| .ret ?_
   exact fin0 (.inr rfl) (.one (svI (show (k + 2 * (j : Int)) = (k + 2 * (a.length : Int)) by omega)) .nil) (.dd .nil) rfl
theorem c_markPartS (a : List Part) (k : Int) (hk : 0 ≤ k ∧ k ≤ 562949953421312) (hx : SmallP a) (hw : marksL Part.wt 0 a ≤ 17592186044416) : Trip Tryz.prog 12 [(false, 1), (false, 1)] ([.sl true 58 2 (List.map Part.co58 (a))] ++ [.v (.int .i64 (k))]) [(false, 1)] [.v (.int .i64 (PartS.marks k a))] [(0, .sl true 58 2 (List.map Part.co58 (PartS.mark k a)))] := by
 refine Trip.of Tryz.func12 (by decide) (c := _) rfl rfl (Nat.le_of_ble_eq_true rfl) rfl (AftOk.sl rfl (AftOk.nil _)) <| .seq <| .rs fun k1 => .as rfl <| .z <| .seq <| .seq <| .rs fun k2 => .as rfl ?_
 refine .z <| .block ?_
 refine .loop (X := Nat × Nat) (fun ζ => .of [(0, .one (.ref [0, 0, 0] (0))), (1, .one (.d (.v (.int .i64 (atL Part.wt k a ζ.1))))), (5, .one (.d (.v (.int .i64 ((ζ.1 : Int))))))] [([0, 0, 0], (0, ζ.2, .row 58 2 (List.map Part.co58 (mkTo (mkL Part.wt Part.markT k a) a ζ.1))))]) (fun ζ => ζ.1 ≤ a.length) (fun ζ => a.length - ζ.1) ?_ ?_
 ·skip
  exact .here (0, 0) (.of (.cons rfl (.cons (svI (show (k) = (atL Part.wt k a 0) by first | rfl | omega | exact (atL_zero _ k a).symm | exact (PartS.round (by omega) rfl rfl hrw1 rfl hrw2).2 | exact wrap_le (by omega) (by omega))) (.cons (svI (show (0) = ((0 : Int)) by first | rfl | omega | exact (atL_zero _ k a).symm | exact (PartS.round (by omega) rfl rfl hrw1 rfl hrw2).2 | exact wrap_le (by omega) (by omega))) .nil))) (.cons (rowE (show List.map Part.co58 (a) = List.map Part.co58 (mkTo (mkL Part.wt Part.markT k a) a 0) by first | (rw [← mkTo_zero]) | exact congrArg _ (PartS.round (by omega) rfl rfl hrw1 rfl hrw2).1)) .nil)) (show 0 ≤ a.length by omega)
 ·rintro ⟨j, q3⟩ hI
  have hI : j ≤ a.length := hI
  have hA9 : a.length ≤ 1048576 := hx.1
  have hb9 := PartS.bnd (k := k) hx hw (j := j) (by omega)
  have hE9 : j < a.length → 2 * ((a.getD j default).token.length : Int) ≤ 17592186044416 ∧ Small 1048576 (a.getD j default).table := fun h => ⟨by have := PartS.step (k := k) hx hw h; omega, (hx.2 _ (getD_mem h)).2⟩
  have hL : (mkTo (mkL Part.wt Part.markT k a) a j).length = a.length := mkTo_len _ _ _
  dsimp only
  refine .seq <| .seq <| .rs fun k4 => .mv rfl <| .mv rfl <| .g (fun _ τ => ⟨_, .len (.no rfl) rfl (z := ((mkTo (mkL Part.wt Part.markT k a) a j).length : Int)) t30 rfl rfl rfl (.ref _ _ _ _ _ rfl) (map_len _ _) rfl τ⟩) <| .bi rfl <| .z ?_
  refine .cond (t := decide ((j : Int) < ((mkTo (mkL Part.wt Part.markT k a) a j).length : Int))) rfl (fun c0 => ?_) (fun c0 => ?_)
  ·have c0 := of_decide_eq_true c0
   refine .skip <| .seq <| .block <| .seq <| .rs fun k5 => .mv rfl <| .mv rfl <| .g (fun _ τ => ⟨_, .indexAddr (.no rfl) rfl (j) t30 rfl t58 rfl rfl rfl (.ref _ _ _ _ _ rfl) rfl rfl rfl (map_get (by first | omega | (subst_vars; simp only [List.length_set, mkTo_len]; omega))) rfl rfl τ⟩) <| .g (fun _ τ => ⟨_, .fieldAddr (.no rfl) rfl t58 rfl rfl t56 rfl rfl rfl rfl [] (by simp) (by intro _ _ _ h; cases h) rfl rfl τ⟩) ?_
   refine .ld t56 rfl (At.as (cs' := [.part [0, 0, 0] (0) (q3) (j) 0, .part [0, 0, 0] (0) (q3) (j) 1]) (.lent _ _ _ _ _ _ _ _ _ rfl (map_get (by first | omega | (subst_vars; simp only [List.length_set, mkTo_len]; omega)))) (by simp [Part.co58, D.lent, erase_slo _ _ _ _ _ _ Entry.c_e, erase_slo _ _ _ _ _ _ Env.co55_e])) rfl <| .mv rfl ?_
   obtain ⟨rw1, hrw1⟩ : ∃ x, x = (mkTo (mkL Part.wt Part.markT k a) a j).set j (Part.mk (mkAll (mEnt (atL Part.wt k a j)) (((mkTo (mkL Part.wt Part.markT k a) a j).getD (j) default).token)) (((mkTo (mkL Part.wt Part.markT k a) a j).getD (j) default).table)) := ⟨_, rfl⟩
   refine .g (fun _ τ => ⟨_, .lend (.no rfl) rfl (els' := List.map Part.co58 (rw1)) (c_markEntryS (((mkTo (mkL Part.wt Part.markT k a) a j).getD (j) default).token) (atL Part.wt k a j) (by (have hj8 : j < a.length := (by omega); have hE8 := hE9 hj8; have hl9 : j < (mkTo (mkL Part.wt Part.markT k a) a j).length := (by rw [mkTo_len]; omega); have hg9 := mkL_get (wt := Part.wt) (mk := Part.markT) (k := k) hj8; subst_vars; simp only [set_getD, List.length_set, hl9, hg9, mkAll_len]; first | omega | exact hE8.2))) rfl rfl rfl rfl (map_get (by first | omega | (subst_vars; simp only [List.length_set, mkTo_len]; omega))) rfl (Owned.map _ _ _ _ Entry.c_o) (by intro d hd; simp at hd; subst hd; exact ⟨_, rfl⟩) rfl rfl ((set_map _ _ _ (Part.mk (mkAll (mEnt (atL Part.wt k a j)) (((mkTo (mkL Part.wt Part.markT k a) a j).getD (j) default).token)) (((mkTo (mkL Part.wt Part.markT k a) a j).getD (j) default).table)) _ rfl).trans (congrArg _ hrw1.symm)) rfl rfl τ⟩) ?_
   refine .as rfl <| .z <| .rs fun k6 => .mv rfl <| .mv rfl <| .g (fun _ τ => ⟨_, .indexAddr (.no rfl) rfl (j) t30 rfl t58 rfl rfl rfl (.ref _ _ _ _ _ rfl) rfl rfl rfl (map_get (by first | omega | (subst_vars; simp only [List.length_set, mkTo_len]; omega))) rfl rfl τ⟩) <| .g (fun _ τ => ⟨_, .fieldAddr (.no rfl) rfl t58 rfl rfl t51 rfl rfl rfl rfl [] (by simp) (by intro _ _ _ h; cases h) rfl rfl τ⟩) <| .ld t51 rfl (At.as (cs' := [.part [0, 0, 0] (0) (k5 + 1 + 1 + 1 + 1 + 1 + 1) (j) 1]) (.lent _ _ _ _ _ _ _ _ _ rfl (map_get (by first | omega | (subst_vars; simp only [List.length_set, mkTo_len]; omega)))) (by simp [Part.co58, D.lent, erase_slo _ _ _ _ _ _ Entry.c_e, erase_slo _ _ _ _ _ _ Env.co55_e])) rfl <| .mv rfl ?_
   obtain ⟨rw2, hrw2⟩ : ∃ x, x = rw1.set j (Part.mk ((rw1.getD j default).token) (EnvS.mark ((atL Part.wt k a j) + 2 * ((((mkTo (mkL Part.wt Part.markT k a) a j).getD (j) default).token).length : Int)) ((rw1.getD j default).table))) := ⟨_, rfl⟩
   refine .g (fun _ τ => ⟨_, .lend (.no rfl) rfl (els' := List.map Part.co58 (rw2)) (c_markEnvS ((rw1.getD j default).table) ((atL Part.wt k a j) + 2 * ((((mkTo (mkL Part.wt Part.markT k a) a j).getD (j) default).token).length : Int)) (by (have hj8 : j < a.length := (by omega); have hE8 := hE9 hj8; have hl9 : j < (mkTo (mkL Part.wt Part.markT k a) a j).length := (by rw [mkTo_len]; omega); have hg9 := mkL_get (wt := Part.wt) (mk := Part.markT) (k := k) hj8; subst_vars; simp only [set_getD, List.length_set, hl9, hg9, mkAll_len]; first | omega | exact hE8.2)) (by (have hj8 : j < a.length := (by omega); have hE8 := hE9 hj8; have hl9 : j < (mkTo (mkL Part.wt Part.markT k a) a j).length := (by rw [mkTo_len]; omega); have hg9 := mkL_get (wt := Part.wt) (mk := Part.markT) (k := k) hj8; subst_vars; simp only [set_getD, List.length_set, hl9, hg9, mkAll_len]; first | omega | exact hE8.2))) rfl rfl rfl rfl (map_get (by first | omega | (subst_vars; simp only [List.length_set, mkTo_len]; omega))) rfl (Owned.map _ _ _ _ Env.co55_o) (by intro d hd; simp at hd; subst hd; exact ⟨_, rfl⟩) rfl rfl ((set_map _ _ _ (Part.mk ((rw1.getD j default).token) (EnvS.mark ((atL Part.wt k a j) + 2 * ((((mkTo (mkL Part.wt Part.markT k a) a j).getD (j) default).token).length : Int)) ((rw1.getD j default).table))) _ rfl).trans (congrArg _ hrw2.symm)) rfl rfl τ⟩) ?_
   refine .as rfl <| .z <| .rs fun k7 => .mv rfl <| .bi rfl <| .as rfl <| .z ?_
   exact .here ((j + 1), (k6 + 1 + 1 + 1 + 1 + 1 + 1)) (.of (.cons rfl (.cons (svI (show (EnvS.marks ((atL Part.wt k a j) + 2 * ((((mkTo (mkL Part.wt Part.markT k a) a j).getD (j) default).token).length : Int)) ((rw1.getD j default).table)) = (atL Part.wt k a (j + 1)) by first | rfl | omega | exact (atL_zero _ k a).symm | exact (PartS.round (by omega) rfl rfl hrw1 rfl hrw2).2 | exact wrap_le (by omega) (by omega))) (.cons (svI (show (IntKind.wrap .i64 ((j : Int) + 1)) = (((j + 1) : Int)) by first | rfl | omega | exact (atL_zero _ k a).symm | exact (PartS.round (by omega) rfl rfl hrw1 rfl hrw2).2 | exact wrap_le (by omega) (by omega))) .nil))) (.cons (rowE (show List.map Part.co58 (rw2) = List.map Part.co58 (mkTo (mkL Part.wt Part.markT k a) a (j + 1)) by first | (rw [← mkTo_zero]) | exact congrArg _ (PartS.round (by omega) rfl rfl hrw1 rfl hrw2).1)) .nil)) ⟨(show (j + 1) ≤ a.length by omega), (show a.length - (j + 1) < a.length - j by omega)⟩
  ·have c0 := of_decide_eq_false c0
   refine .exit <| .seq <| .rs fun k8 => .mv rfl <| .as rfl <| .z <| .ret ?_
   have e10 : (mkTo (mkL Part.wt Part.markT k a) a j) = (PartS.mark k a) := by first | exact atL_all (by omega) | exact mkTo_all _ _ hI (by omega)
   exact fin1 (.inr rfl) [] [([0, 0, 0], (0, q3, .row 58 2 (List.map Part.co58 (PartS.mark k a))))] (.one (svI (show (atL Part.wt k a j) = (PartS.marks k a) by first | exact atL_all (by omega) | exact mkTo_all _ _ hI (by omega))) .nil) (.dd (.cons (.ref (.head _)) .nil)) rfl rfl (.cons (rowE (congrArg (List.map Part.co58) e10)) .nil)
theorem c_heldPartS (a : List Part) (k : Int) (hk : 0 ≤ k ∧ k ≤ 562949953421312) (hx : SmallP a) (hw : marksL Part.wt 0 a ≤ 17592186044416) (hm : MarkedL Part.wt Part.markT k a) : Trip Tryz.prog 13 [(false, 1), (false, 1)] ([.sl false 58 2 (List.map Part.c58 (a))] ++ [.v (.int .i64 (k))]) [(false, 1)] [.v (.int .i64 (PartS.marks k a))] [] := by
 refine Trip.of Tryz.func13 (by decide) (c := _) rfl rfl (Nat.le_of_ble_eq_true rfl) rfl (AftOk.nil _) <| .sl (t := 0) rfl fun hs1l => .seq <| .rs fun k2 => .as rfl <| .z <| .seq <| .seq <| .rs fun k3 => ?_
 refine .as rfl <| .z <| .block ?_
 refine .loop (X := Nat) (fun ζ => .of [(0, .one (.d (.sl false 58 2 (List.map Part.c58 (a))))), (1, .one (.d (.v (.int .i64 (atL Part.wt k a ζ))))), (5, .one (.d (.v (.int .i64 ((ζ : Int))))))] []) (fun ζ => ζ ≤ a.length) (fun ζ => a.length - ζ) ?_ ?_
 ·skip
  exact .here 0 (.of (.cons rfl (.cons (svI (show (k) = (atL Part.wt k a 0) by first | rfl | omega | exact (atL_zero _ k a).symm | (rw [atL_step (by omega), EnvS.marks_add]; unfold Part.wt; omega) | exact wrap_le (by omega) (by omega))) (.cons (svI (show (0) = ((0 : Int)) by first | rfl | omega | exact (atL_zero _ k a).symm | (rw [atL_step (by omega), EnvS.marks_add]; unfold Part.wt; omega) | exact wrap_le (by omega) (by omega))) .nil))) .nil) (show 0 ≤ a.length by omega)
 ·rintro j hI
  have hI : j ≤ a.length := hI
  have hA9 : a.length ≤ 1048576 := hx.1
  have hb9 := PartS.bnd (k := k) hx hw (j := j) (by omega)
  have hE9 : j < a.length → 2 * ((a.getD j default).token.length : Int) ≤ 17592186044416 ∧ Small 1048576 (a.getD j default).table := fun h => ⟨by have := PartS.step (k := k) hx hw h; omega, (hx.2 _ (getD_mem h)).2⟩
  refine .seq <| .seq <| .rs fun k4 => .mv rfl <| .mv rfl <| .g (fun _ τ => ⟨_, .len (.no rfl) rfl (z := (a.length : Int)) t30 rfl rfl rfl (.d _ _) (map_len _ _) rfl τ⟩) <| .bi rfl <| .z ?_
  refine .cond (t := decide ((j : Int) < (a.length : Int))) rfl (fun c0 => ?_) (fun c0 => ?_)
  ·have c0 := of_decide_eq_true c0
   refine .skip <| .seq <| .block <| .seq <| .rs fun k5 => .mv rfl <| .mv rfl <| .g (fun _ τ => ⟨_, .indexAddr (.no rfl) rfl (j) t30 rfl t58 rfl rfl rfl (.d _ _) rfl rfl rfl (map_get (by omega)) rfl rfl τ⟩) <| .g (fun _ τ => ⟨_, .fieldAddr (.no rfl) rfl t58 rfl rfl t56 rfl rfl rfl rfl [] (by simp) (by intro _ _ _ h; cases h) rfl rfl τ⟩) ?_
   refine .ld t56 rfl (.d _) rfl <| .mv rfl <| .c0 (c_heldEntryS ((a.getD j default).token) (atL Part.wt k a j) (by first | exact Part.heldT (hm j (by omega)) | exact Part.heldE (hm j (by omega)) | exact (hE9 (by omega)).2 | (have hE8 := hE9 (by omega); omega)) (by first | exact Part.heldT (hm j (by omega)) | exact Part.heldE (hm j (by omega)) | exact (hE9 (by omega)).2 | (have hE8 := hE9 (by omega); omega))) rfl (.dd (.dd .nil)) (.own [18, 0] .nil) rfl <| .as rfl <| .z <| .seq <| .seq <| .rs fun k6 => .mv rfl ?_
   refine .bi rfl <| .z ?_
   refine .cond (t := decide (((atL Part.wt k a j) + 2 * (((a.getD j default).token).length : Int)) < 0)) rfl (fun c1 => ?_) (fun c1 => ?_)
   ·have c1 := of_decide_eq_true c1
    refine .seq <| .rs fun k7 => .as rfl <| .z <| .ret ?_
    exact fin0 (.inr rfl) (.one (svI (show (-1) = (PartS.marks k a) by (have hE8 := hE9 (by omega); omega))) .nil) (.dd .nil) rfl
   ·have c1 := of_decide_eq_false c1
    refine .skip <| .seq <| .rs fun k9 => .mv rfl <| .mv rfl <| .g (fun _ τ => ⟨_, .indexAddr (.no rfl) rfl (j) t30 rfl t58 rfl rfl rfl (.d _ _) rfl rfl rfl (map_get (by omega)) rfl rfl τ⟩) <| .g (fun _ τ => ⟨_, .fieldAddr (.no rfl) rfl t58 rfl rfl t51 rfl rfl rfl rfl [] (by simp) (by intro _ _ _ h; cases h) rfl rfl τ⟩) <| .ld t51 rfl (.d _) rfl <| .mv rfl ?_
    refine .c0 (c_heldEnvS ((a.getD j default).table) ((atL Part.wt k a j) + 2 * (((a.getD j default).token).length : Int)) (by first | exact Part.heldT (hm j (by omega)) | exact Part.heldE (hm j (by omega)) | exact (hE9 (by omega)).2 | (have hE8 := hE9 (by omega); omega)) (by first | exact Part.heldT (hm j (by omega)) | exact Part.heldE (hm j (by omega)) | exact (hE9 (by omega)).2 | (have hE8 := hE9 (by omega); omega)) (by first | exact Part.heldT (hm j (by omega)) | exact Part.heldE (hm j (by omega)) | exact (hE9 (by omega)).2 | (have hE8 := hE9 (by omega); omega))) rfl (.dd (.dd .nil)) (.own [27, 0] .nil) rfl <| .as rfl <| .z <| .seq <| .rs fun k10 => .mv rfl <| .bi rfl <| .z ?_
    refine .cond (t := decide ((EnvS.marks ((atL Part.wt k a j) + 2 * (((a.getD j default).token).length : Int)) ((a.getD j default).table)) < 0)) rfl (fun c2 => ?_) (fun c2 => ?_)
    ·have c2 := of_decide_eq_true c2
     refine .seq <| .rs fun k11 => .as rfl <| .z <| .ret ?_
     exact fin0 (.inr rfl) (.one (svI (show (-1) = (PartS.marks k a) by (rw [EnvS.marks_add] at c2; have hE8 := EnvS.marks_bnd (k := 0) (hE9 (by omega)).2 (by omega); omega))) .nil) (.dd .nil) rfl
    ·have c2 := of_decide_eq_false c2
     refine .skip <| .rs fun k13 => .mv rfl <| .bi rfl <| .as rfl <| .z ?_
     exact .here (j + 1) (.of (.cons rfl (.cons (svI (show (EnvS.marks ((atL Part.wt k a j) + 2 * (((a.getD j default).token).length : Int)) ((a.getD j default).table)) = (atL Part.wt k a (j + 1)) by first | rfl | omega | exact (atL_zero _ k a).symm | (rw [atL_step (by omega), EnvS.marks_add]; unfold Part.wt; omega) | exact wrap_le (by omega) (by omega))) (.cons (svI (show (IntKind.wrap .i64 ((j : Int) + 1)) = (((j + 1) : Int)) by first | rfl | omega | exact (atL_zero _ k a).symm | (rw [atL_step (by omega), EnvS.marks_add]; unfold Part.wt; omega) | exact wrap_le (by omega) (by omega))) .nil))) .nil) ⟨(show (j + 1) ≤ a.length by omega), (show a.length - (j + 1) < a.length - j by omega)⟩
  ·have c0 := of_decide_eq_false c0
   refine .exit <| .seq <| .rs fun k14 => .mv rfl <| .as rfl <| .z <| .ret ?_
   exact fin0 (.inr rfl) (.one (svI (show (atL Part.wt k a j) = (PartS.marks k a) by exact atL_all (by omega))) .nil) (.dd .nil) rfl
end Go.Proofs

namespace Go.Proofs
open Go Go.Proofs Go.Ev

def Tok.c (x : Tok) : List D := [.v (.int .i64 (x.op)), .v (.int .i64 (x.n))]
theorem Tok.c_o (x : Tok) : ∀ d ∈ Tok.c x, Owned d := by simp [Tok.c, Owned.v]
theorem Tok.c_e (x : Tok) : (Tok.c x).map D.erase = Tok.c x := by simp [Tok.c, D.erase_v]
def Line.c82 (x : Line) : List D := [.v (.int .i64 (x.kind)), .v (.int .i64 (x.v)), .sl false 159 2 (List.map Tok.c (x.i)), .sl false 159 2 (List.map Tok.c (x.e)), .v (.int .i64 (x.lo)), .v (.int .i64 (x.hi))]
theorem Line.c82_e (x : Line) : (Line.c82 x).map D.erase = Line.c82 x := by simp [Line.c82, D.erase_v, erase_slo _ _ _ _ _ _ Tok.c_e]
def Line.co82 (x : Line) : List D := [.v (.int .i64 (x.kind)), .v (.int .i64 (x.v)), .sl true 159 2 (List.map Tok.c (x.i)), .sl true 159 2 (List.map Tok.c (x.e)), .v (.int .i64 (x.lo)), .v (.int .i64 (x.hi))]
theorem Line.co82_e (x : Line) : (Line.co82 x).map D.erase = Line.c82 x := by simp [Line.co82, Line.c82, D.erase_v, erase_slo _ _ _ _ _ _ Tok.c_e]
theorem Line.co82_o (x : Line) : ∀ d ∈ Line.co82 x, Owned d := by simp [Line.co82, Owned.v, Owned.map _ _ _ _ Tok.c_o]
def Prog.c28 (x : Prog) : List D := [.sl false 9 1 (List.map strc (x.d.vars)), .sl false 9 1 (List.map strc (x.d.flags)), .sl false 112 2 (List.map Arr.c (x.d.arrays)), .sl false 82 6 (List.map Line.c82 (x.lines))]
theorem Prog.c28_e (x : Prog) : (Prog.c28 x).map D.erase = Prog.c28 x := by simp [Prog.c28, D.erase_v, erase_slo _ _ _ _ _ _ strc_e, erase_slo _ _ _ _ _ _ Arr.c_e, erase_slo _ _ _ _ _ _ Line.c82_e]
def Prog.co28 (x : Prog) : List D := [.sl true 9 1 (List.map strc (x.d.vars)), .sl true 9 1 (List.map strc (x.d.flags)), .sl true 112 2 (List.map Arr.c (x.d.arrays)), .sl true 82 6 (List.map Line.co82 (x.lines))]
theorem Prog.co28_e (x : Prog) : (Prog.co28 x).map D.erase = Prog.c28 x := by simp [Prog.co28, Prog.c28, D.erase_v, erase_slo _ _ _ _ _ _ strc_e, erase_slo _ _ _ _ _ _ Arr.c_e, erase_slo _ _ _ _ _ _ Line.co82_e]
theorem Prog.co28_o (x : Prog) : ∀ d ∈ Prog.co28 x, Owned d := by simp [Prog.co28, Owned.v, Owned.map _ _ _ _ strc_o, Owned.map _ _ _ _ Arr.c_o, Owned.map _ _ _ _ Line.co82_o]
def Line.c72 (x : Line) : List D := [.v (.int .i64 (x.kind)), .v (.int .i64 (x.v)), .sl false 75 2 (List.map Tok.c (x.i)), .sl false 75 2 (List.map Tok.c (x.e)), .v (.int .i64 (x.lo)), .v (.int .i64 (x.hi))]
theorem Line.c72_e (x : Line) : (Line.c72 x).map D.erase = Line.c72 x := by simp [Line.c72, D.erase_v, erase_slo _ _ _ _ _ _ Tok.c_e]
def Line.co72 (x : Line) : List D := [.v (.int .i64 (x.kind)), .v (.int .i64 (x.v)), .sl true 75 2 (List.map Tok.c (x.i)), .sl true 75 2 (List.map Tok.c (x.e)), .v (.int .i64 (x.lo)), .v (.int .i64 (x.hi))]
theorem Line.co72_e (x : Line) : (Line.co72 x).map D.erase = Line.c72 x := by simp [Line.co72, Line.c72, D.erase_v, erase_slo _ _ _ _ _ _ Tok.c_e]
theorem Line.co72_o (x : Line) : ∀ d ∈ Line.co72 x, Owned d := by simp [Line.co72, Owned.v, Owned.map _ _ _ _ Tok.c_o]
def Prog.c37 (x : Prog) : List D := [.sl false 9 1 (List.map strc (x.d.vars)), .sl false 9 1 (List.map strc (x.d.flags)), .sl false 115 2 (List.map Arr.c (x.d.arrays)), .sl false 72 6 (List.map Line.c72 (x.lines))]
theorem Prog.c37_e (x : Prog) : (Prog.c37 x).map D.erase = Prog.c37 x := by simp [Prog.c37, D.erase_v, erase_slo _ _ _ _ _ _ strc_e, erase_slo _ _ _ _ _ _ Arr.c_e, erase_slo _ _ _ _ _ _ Line.c72_e]
def Prog.co37 (x : Prog) : List D := [.sl true 9 1 (List.map strc (x.d.vars)), .sl true 9 1 (List.map strc (x.d.flags)), .sl true 115 2 (List.map Arr.c (x.d.arrays)), .sl true 72 6 (List.map Line.co72 (x.lines))]
theorem Prog.co37_e (x : Prog) : (Prog.co37 x).map D.erase = Prog.c37 x := by simp [Prog.co37, Prog.c37, D.erase_v, erase_slo _ _ _ _ _ _ strc_e, erase_slo _ _ _ _ _ _ Arr.c_e, erase_slo _ _ _ _ _ _ Line.co72_e]
theorem Prog.co37_o (x : Prog) : ∀ d ∈ Prog.co37 x, Owned d := by simp [Prog.co37, Owned.v, Owned.map _ _ _ _ strc_o, Owned.map _ _ _ _ Arr.c_o, Owned.map _ _ _ _ Line.co72_o]
def i26 : TI := ⟨.sl 82, 1, 24, [.slice none 0 0]⟩
theorem t26 : TyOk Tryz.prog 26 i26 := ⟨Tryz.underlying26, by kernel_rfl⟩
theorem z26 : ZOk Tryz.prog 26 i26 := ⟨t26, rfl⟩
def i28 : TI := ⟨.st [(0, 25), (3, 26)], 4, 96, [.slice none 0 0, .slice none 0 0, .slice none 0 0, .slice none 0 0]⟩
theorem t28 : TyOk Tryz.prog 28 i28 := ⟨⟨_, Tryz.underlying28, rfl⟩, by kernel_rfl⟩
theorem z28 : ZOk Tryz.prog 28 i28 := ⟨t28, rfl⟩
theorem p28 : Places Tryz.prog [(0, 25), (3, 26)] [(0, 3), (3, 1)] := by unfold Places; kernel_rfl
def i35 : TI := ⟨.sl 72, 1, 24, [.slice none 0 0]⟩
theorem t35 : TyOk Tryz.prog 35 i35 := ⟨Tryz.underlying35, by kernel_rfl⟩
theorem z35 : ZOk Tryz.prog 35 i35 := ⟨t35, rfl⟩
def i37 : TI := ⟨.st [(0, 34), (3, 35)], 4, 96, [.slice none 0 0, .slice none 0 0, .slice none 0 0, .slice none 0 0]⟩
theorem t37 : TyOk Tryz.prog 37 i37 := ⟨⟨_, Tryz.underlying37, rfl⟩, by kernel_rfl⟩
theorem z37 : ZOk Tryz.prog 37 i37 := ⟨t37, rfl⟩
theorem p37 : Places Tryz.prog [(0, 34), (3, 35)] [(0, 3), (3, 1)] := by unfold Places; kernel_rfl
def i70 : TI := ⟨.sl 75, 1, 24, [.slice none 0 0]⟩
theorem t70 : TyOk Tryz.prog 70 i70 := ⟨Tryz.underlying70, by kernel_rfl⟩
theorem z70 : ZOk Tryz.prog 70 i70 := ⟨t70, rfl⟩
def i72 : TI := ⟨.st [(0, 2), (1, 2), (2, 70), (3, 70), (4, 2), (5, 2)], 6, 80, [.int .i64 0, .int .i64 0, .slice none 0 0, .slice none 0 0, .int .i64 0, .int .i64 0]⟩
theorem t72 : TyOk Tryz.prog 72 i72 := ⟨⟨_, Tryz.underlying72, rfl⟩, by kernel_rfl⟩
theorem z72 : ZOk Tryz.prog 72 i72 := ⟨t72, rfl⟩
theorem p72 : Places Tryz.prog [(0, 2), (1, 2), (2, 70), (3, 70), (4, 2), (5, 2)] [(0, 1), (1, 1), (2, 1), (3, 1), (4, 1), (5, 1)] := by unfold Places; kernel_rfl
def i75 : TI := ⟨.st [(0, 2), (1, 2)], 2, 16, [.int .i64 0, .int .i64 0]⟩
theorem t75 : TyOk Tryz.prog 75 i75 := ⟨⟨_, Tryz.underlying75, rfl⟩, by kernel_rfl⟩
theorem z75 : ZOk Tryz.prog 75 i75 := ⟨t75, rfl⟩
theorem p75 : Places Tryz.prog [(0, 2), (1, 2)] [(0, 1), (1, 1)] := by unfold Places; kernel_rfl
def i80 : TI := ⟨.sl 159, 1, 24, [.slice none 0 0]⟩
theorem t80 : TyOk Tryz.prog 80 i80 := ⟨Tryz.underlying80, by kernel_rfl⟩
theorem z80 : ZOk Tryz.prog 80 i80 := ⟨t80, rfl⟩
def i82 : TI := ⟨.st [(0, 2), (1, 2), (2, 80), (3, 80), (4, 2), (5, 2)], 6, 80, [.int .i64 0, .int .i64 0, .slice none 0 0, .slice none 0 0, .int .i64 0, .int .i64 0]⟩
theorem t82 : TyOk Tryz.prog 82 i82 := ⟨⟨_, Tryz.underlying82, rfl⟩, by kernel_rfl⟩
theorem z82 : ZOk Tryz.prog 82 i82 := ⟨t82, rfl⟩
theorem p82 : Places Tryz.prog [(0, 2), (1, 2), (2, 80), (3, 80), (4, 2), (5, 2)] [(0, 1), (1, 1), (2, 1), (3, 1), (4, 1), (5, 1)] := by unfold Places; kernel_rfl
def i159 : TI := ⟨.st [(0, 2), (1, 2)], 2, 16, [.int .i64 0, .int .i64 0]⟩
theorem t159 : TyOk Tryz.prog 159 i159 := ⟨⟨_, Tryz.underlying159, rfl⟩, by kernel_rfl⟩
theorem z159 : ZOk Tryz.prog 159 i159 := ⟨t159, rfl⟩
theorem p159 : Places Tryz.prog [(0, 2), (1, 2)] [(0, 1), (1, 1)] := by unfold Places; kernel_rfl
theorem c_szTokS (a : List Tok) (left : Int) (hl : 0 ≤ left ∧ left ≤ 1048576) : Trip Tryz.prog 68 [(false, 1), (false, 1)] ([.sl false 159 2 (List.map Tok.c (a))] ++ [.v (.int .i64 (left))]) [(false, 1)] [.v (.int .i64 (szPl a left))] [] := by
 refine Trip.of Tryz.func68 (by decide) (c := _) rfl rfl (Nat.le_of_ble_eq_true rfl) rfl (AftOk.nil _) <| .sl (t := 0) rfl fun hs1l => .seq <| .rs fun k2 => .as rfl <| .z <| .seq <| .rs fun k3 => .mv rfl ?_
 refine .mv rfl <| .g (fun _ τ => ⟨_, .len (.no rfl) rfl (z := (a.length : Int)) t80 rfl rfl rfl (.d _ _) (map_len _ _) rfl τ⟩) <| .bi rfl <| .as rfl <| .z <| .seq <| .seq <| .rs fun k4 => .mv rfl ?_
 refine .bi rfl <| .z ?_
 refine .cond (t := decide ((IntKind.wrap .i64 (left - (a.length : Int))) < 0)) rfl (fun c0 => ?_) (fun c0 => ?_)
 ·have c0 := of_decide_eq_true c0
  refine .seq <| .rs fun k5 => .as rfl <| .z <| .ret ?_
  exact fin0 (.inr rfl) (.one (svI (show (-1) = (szPl a left) by (rw [wrap_le (by omega) (by omega)] at c0; simp only [szPl]; rw [if_pos c0]))) .nil) (.dd .nil) rfl
 ·have c0 := of_decide_eq_false c0
  refine .skip <| .seq <| .rs fun k7 => .mv rfl <| .as rfl <| .z <| .ret ?_
  exact fin0 (.inr rfl) (.one (svI (show (IntKind.wrap .i64 (left - (a.length : Int))) = (szPl a left) by (rw [wrap_le (by omega) (by omega)] at c0 ⊢; simp only [szPl]; rw [if_neg c0]))) .nil) (.dd .nil) rfl
theorem c_szLine (a : Line) (left : Int) (hl : 0 ≤ left ∧ left ≤ 1048576) : Trip Tryz.prog 40 [(true, 6), (false, 1)] (Line.c82 a ++ [.v (.int .i64 (left))]) [(false, 1)] [.v (.int .i64 (szLine a left))] [] := by
 refine Trip.of Tryz.func40 (by decide) (c := _) rfl rfl (Nat.le_of_ble_eq_true rfl) rfl (AftOk.nil _) <| .sla (t := 0) 2 rfl rfl fun hs1l => .sla (t := 0) 3 rfl rfl fun hs2l => .seq <| .rs fun k3 => .g (fun _ τ => ⟨_, .box (.no rfl) rfl rfl rfl rfl rfl τ⟩) <| .as rfl <| .z <| .seq ?_
 refine .rs fun k4 => .fp t82 t80 rfl <| .ld t80 rfl (.ptr _ _ _ _ _ rfl) rfl <| .mv rfl <| .c0 (c_szTokS a.i left (by first | assumption | exact ⟨by omega, szPl_le (by omega)⟩)) rfl (.dd (.dd .nil)) (.own [8, 0] .nil) rfl <| .as rfl <| .z <| .seq <| .seq ?_
 refine .rs fun k5 => .mv rfl <| .bi rfl <| .z ?_
 refine .cond (t := decide ((szPl a.i left) < 0)) rfl (fun c0 => ?_) (fun c0 => ?_)
 ·have c0 := of_decide_eq_true c0
  refine .seq <| .rs fun k6 => .as rfl <| .z <| .ret ?_
  exact fin0 (.inr rfl) (.one (svI (show (-1) = (szLine a left) by (simp only [szLine]; rw [if_pos c0]))) .nil) (.dd .nil) rfl
 ·have c0 := of_decide_eq_false c0
  refine .skip <| .seq <| .rs fun k8 => .fp t82 t80 rfl <| .ld t80 rfl (.ptr _ _ _ _ _ rfl) rfl <| .mv rfl <| .c0 (c_szTokS a.e (szPl a.i left) (by first | assumption | exact ⟨by omega, szPl_le (by omega)⟩)) rfl (.dd (.dd .nil)) (.own [14, 0] .nil) rfl <| .as rfl <| .z ?_
  refine .seq <| .seq <| .rs fun k9 => .mv rfl <| .bi rfl <| .z ?_
  refine .cond (t := decide ((szPl a.e (szPl a.i left)) < 0)) rfl (fun c1 => ?_) (fun c1 => ?_)
  ·have c1 := of_decide_eq_true c1
   refine .seq <| .rs fun k10 => .as rfl <| .z <| .ret ?_
   exact fin0 (.inr rfl) (.one (svI (show (-1) = (szLine a left) by (simp only [szLine]; rw [if_neg c0, if_pos c1]))) .nil) (.dd .nil) rfl
  ·have c1 := of_decide_eq_false c1
   refine .skip <| .seq <| .rs fun k12 => .mv rfl <| .as rfl <| .z <| .ret ?_
   exact fin0 (.inr rfl) (.one (svI (show (szPl a.e (szPl a.i left)) = (szLine a left) by (simp only [szLine]; rw [if_neg c0, if_neg c1]))) .nil) (.dd .nil) rfl
theorem c_szLineS (a : List Line) (left : Int) (hl : 0 ≤ left ∧ left ≤ 1048576) : Trip Tryz.prog 20 [(false, 1), (false, 1)] ([.sl false 82 6 (List.map Line.c82 (a))] ++ [.v (.int .i64 (left))]) [(false, 1)] [.v (.int .i64 (szLineS a left))] [] := by
 refine Trip.of Tryz.func20 (by decide) (c := _) rfl rfl (Nat.le_of_ble_eq_true rfl) rfl (AftOk.nil _) <| .sl (t := 0) rfl fun hs1l => .seq <| .rs fun k2 => .as rfl <| .z <| .seq <| .rs fun k3 => .mv rfl ?_
 refine .mv rfl <| .g (fun _ τ => ⟨_, .len (.no rfl) rfl (z := (a.length : Int)) t26 rfl rfl rfl (.d _ _) (map_len _ _) rfl τ⟩) <| .bi rfl <| .as rfl <| .z <| .seq <| .seq <| .rs fun k4 => .mv rfl ?_
 refine .bi rfl <| .z ?_
 refine .cond (t := decide ((IntKind.wrap .i64 (left - (a.length : Int))) < 0)) rfl (fun c0 => ?_) (fun c0 => ?_)
 ·have c0 := of_decide_eq_true c0
  refine .seq <| .rs fun k5 => .as rfl <| .z <| .ret ?_
  exact fin0 (.inr rfl) (.one (svI (show (-1) = (szLineS a left) by (rw [wrap_le (by omega) (by omega)] at c0; simp only [szLineS]; rw [if_pos c0]))) .nil) (.dd .nil) rfl
 ·have c0 := of_decide_eq_false c0
  refine .skip <| .seq <| .seq <| .rs fun k7 => .as rfl <| .z <| .block ?_
  refine .loop (X := Nat × Int) (fun ζ => .of [(0, .one (.d (.sl false 82 6 (List.map Line.c82 (a))))), (1, .one (.d (.v (.int .i64 (ζ.2))))), (5, .one (.d (.v (.int .i64 ((ζ.1 : Int))))))] []) (fun ζ => ζ.1 ≤ a.length ∧ 0 ≤ ζ.2 ∧ ζ.2 ≤ 1048576 ∧ ¬ left - a.length < 0 ∧ szF szLine ζ.2 (a.drop ζ.1) = szF szLine (left - a.length) a) (fun ζ => a.length - ζ.1) ?_ ?_
  ·skip
   exact .here (0, (left - a.length)) (.of (.cons rfl (.cons (svI (show (IntKind.wrap .i64 (left - (a.length : Int))) = ((left - a.length)) by first | rfl | omega | exact wrap_le (by omega) (by omega) | (rw [wrap_le (by omega) (by omega)]; omega))) (.cons (svI (show (0) = ((0 : Int)) by first | rfl | omega | exact wrap_le (by omega) (by omega) | (rw [wrap_le (by omega) (by omega)]; omega))) .nil))) .nil) (show 0 ≤ a.length ∧ 0 ≤ (left - a.length) ∧ (left - a.length) ≤ 1048576 ∧ ¬ left - a.length < 0 ∧ szF szLine (left - a.length) (a.drop 0) = szF szLine (left - a.length) a by (rw [wrap_le (by omega) (by omega)] at c0; exact ⟨by omega, by omega, by omega, c0, by simp⟩))
  ·rintro ⟨j, v⟩ hI
   have hI : j ≤ a.length ∧ 0 ≤ v ∧ v ≤ 1048576 ∧ ¬ left - a.length < 0 ∧ szF szLine v (a.drop j) = szF szLine (left - a.length) a := hI
   dsimp only
   refine .seq <| .seq <| .rs fun k8 => .mv rfl <| .mv rfl <| .g (fun _ τ => ⟨_, .len (.no rfl) rfl (z := (a.length : Int)) t26 rfl rfl rfl (.d _ _) (map_len _ _) rfl τ⟩) <| .bi rfl <| .z ?_
   refine .cond (t := decide ((j : Int) < (a.length : Int))) rfl (fun c1 => ?_) (fun c1 => ?_)
   ·have c1 := of_decide_eq_true c1
    refine .skip <| .seq <| .block <| .seq <| .rs fun k9 => .mv rfl <| .mv rfl <| .g (fun _ τ => ⟨_, .indexAddr (.no rfl) rfl (j) t26 rfl t82 rfl rfl rfl (.d _ _) rfl rfl rfl (map_get (by omega)) rfl rfl τ⟩) <| .lda t82 rfl (.d _) rfl ?_
    refine .mv rfl <| .c0 (c_szLine (a.getD j default) v (by omega)) rfl (.dd (.dd (.dd (.dd (.dd (.dd (.dd .nil))))))) (.own [23, 0] .nil) rfl <| .as rfl <| .z <| .seq <| .rs fun k10 => .mv rfl <| .bi rfl <| .z ?_
    refine .cond (t := decide ((szLine (a.getD j default) v) < 0)) rfl (fun c2 => ?_) (fun c2 => ?_)
    ·have c2 := of_decide_eq_true c2
     refine .seq <| .rs fun k11 => .as rfl <| .z <| .ret ?_
     exact fin0 (.inr rfl) (.one (svI (show (-1) = (szLineS a left) by (simp only [szLineS]; rw [if_neg hI.2.2.2.1, ← hI.2.2.2.2, szF_fail (by omega) c2]))) .nil) (.dd .nil) rfl
    ·have c2 := of_decide_eq_false c2
     refine .skip <| .rs fun k13 => .mv rfl <| .bi rfl <| .as rfl <| .z ?_
     exact .here ((j + 1), (szLine (a.getD j default) v)) (.of (.cons rfl (.cons (svI (show (szLine (a.getD j default) v) = ((szLine (a.getD j default) v)) by first | rfl | omega | exact wrap_le (by omega) (by omega) | (rw [wrap_le (by omega) (by omega)]; omega))) (.cons (svI (show (IntKind.wrap .i64 ((j : Int) + 1)) = (((j + 1) : Int)) by first | rfl | omega | exact wrap_le (by omega) (by omega) | (rw [wrap_le (by omega) (by omega)]; omega))) .nil))) .nil) ⟨(show (j + 1) ≤ a.length ∧ 0 ≤ (szLine (a.getD j default) v) ∧ (szLine (a.getD j default) v) ≤ 1048576 ∧ ¬ left - a.length < 0 ∧ szF szLine (szLine (a.getD j default) v) (a.drop (j + 1)) = szF szLine (left - a.length) a by (have hx := (szLine_len ⟨hI.2.1, hI.2.2.1⟩ c2).2; exact ⟨by omega, by omega, by omega, hI.2.2.2.1, by rw [← hI.2.2.2.2]; exact (szF_step (by omega) c2).symm⟩)), (show a.length - (j + 1) < a.length - j by omega)⟩
   ·have c1 := of_decide_eq_false c1
    refine .exit <| .seq <| .rs fun k14 => .mv rfl <| .as rfl <| .z <| .ret ?_
    exact fin0 (.inr rfl) (.one (svI (show (v) = (szLineS a left) by (simp only [szLineS]; rw [if_neg hI.2.2.2.1, ← hI.2.2.2.2, szF_end (by omega)]))) .nil) (.dd .nil) rfl
theorem c_szProg (a : Prog) (left : Int) (hl : 0 ≤ left ∧ left ≤ 1048576) (hv : ∀ x ∈ a.d.vars, 0 ≤ strW x ∧ strW x ≤ 9223372036854775807) (hf : ∀ x ∈ a.d.flags, 0 ≤ strW x ∧ strW x ≤ 9223372036854775807) (ha : ∀ x ∈ a.d.arrays, 0 ≤ arrW x ∧ arrW x ≤ 9223372036854775807) : Trip Tryz.prog 5 [(true, 4), (false, 1)] (Prog.c28 a ++ [.v (.int .i64 (left))]) [(false, 1)] [.v (.int .i64 (szProg a left))] [] := by
 refine Trip.of Tryz.func5 (by decide) (c := _) rfl rfl (Nat.le_of_ble_eq_true rfl) rfl (AftOk.nil _) <| .sla (t := 0) 0 rfl rfl fun hs1l => .sla (t := 0) 1 rfl rfl fun hs2l => .sla (t := 0) 2 rfl rfl fun hs3l => .sla (t := 0) 3 rfl rfl fun hs4l => .seq <| .rs fun k5 => .g (fun _ τ => ⟨_, .box (.no rfl) rfl rfl rfl rfl rfl τ⟩) <| .as rfl ?_
 refine .z <| .seq <| .rs fun k6 => .fp t28 t25 rfl <| .lda t25 rfl (.ptr _ _ _ _ _ rfl) rfl <| .mv rfl <| .c0 (c_szDecl a.d left (by first | assumption | exact ⟨by omega, Int.le_trans (szDecl_len hv hf ha hl c0).2.2.2 hl.2⟩) (by first | assumption | exact ⟨by omega, Int.le_trans (szDecl_len hv hf ha hl c0).2.2.2 hl.2⟩) (by first | assumption | exact ⟨by omega, Int.le_trans (szDecl_len hv hf ha hl c0).2.2.2 hl.2⟩) (by first | assumption | exact ⟨by omega, Int.le_trans (szDecl_len hv hf ha hl c0).2.2.2 hl.2⟩)) rfl (.dd (.dd (.dd (.dd .nil)))) (.own [8, 0] .nil) rfl <| .as rfl <| .z ?_
 refine .seq <| .seq <| .rs fun k7 => .mv rfl <| .bi rfl <| .z ?_
 refine .cond (t := decide ((szDecl a.d left) < 0)) rfl (fun c0 => ?_) (fun c0 => ?_)
 ·have c0 := of_decide_eq_true c0
  refine .seq <| .rs fun k8 => .as rfl <| .z <| .ret ?_
  exact fin0 (.inr rfl) (.one (svI (show (-1) = (szProg a left) by (simp only [szProg]; rw [if_pos c0]))) .nil) (.dd .nil) rfl
 ·have c0 := of_decide_eq_false c0
  refine .skip <| .seq <| .rs fun k10 => .fp t28 t26 rfl <| .ld t26 rfl (.ptr _ _ _ _ _ rfl) rfl <| .mv rfl <| .c0 (c_szLineS a.lines (szDecl a.d left) (by first | assumption | exact ⟨by omega, Int.le_trans (szDecl_len hv hf ha hl c0).2.2.2 hl.2⟩)) rfl (.dd (.dd .nil)) (.own [14, 0] .nil) rfl <| .as rfl <| .z ?_
  refine .seq <| .seq <| .rs fun k11 => .mv rfl <| .bi rfl <| .z ?_
  refine .cond (t := decide ((szLineS a.lines (szDecl a.d left)) < 0)) rfl (fun c1 => ?_) (fun c1 => ?_)
  ·have c1 := of_decide_eq_true c1
   refine .seq <| .rs fun k12 => .as rfl <| .z <| .ret ?_
   exact fin0 (.inr rfl) (.one (svI (show (-1) = (szProg a left) by (simp only [szProg]; rw [if_neg c0, if_pos c1]))) .nil) (.dd .nil) rfl
  ·have c1 := of_decide_eq_false c1
   refine .skip <| .seq <| .rs fun k14 => .mv rfl <| .as rfl <| .z <| .ret ?_
   exact fin0 (.inr rfl) (.one (svI (show (szLineS a.lines (szDecl a.d left)) = (szProg a left) by (simp only [szProg]; rw [if_neg c0, if_neg c1]))) .nil) (.dd .nil) rfl
theorem c_toTok (a : Tok) : Trip Tryz.prog 107 [(true, 2)] (Tok.c a) [(true, 2)] [.v (.int .i64 (a.op)), .v (.int .i64 (a.n))] [] := by
 refine Trip.of Tryz.func107 (by decide) (c := _) rfl rfl (Nat.le_of_ble_eq_true rfl) rfl (AftOk.nil _) <| .seq <| .rs fun k1 => .g (fun _ τ => ⟨_, .box (.no rfl) rfl rfl rfl rfl rfl τ⟩) <| .g (fun _ τ => ⟨_, .alloc (.no rfl) rfl z75 rfl rfl rfl τ⟩) <| .z <| .seq <| .rs fun k2 => .g (fun _ τ => ⟨_, .alloc (.no rfl) rfl z75 rfl rfl rfl τ⟩) ?_
 refine .z <| .seq <| .rs fun k3 => .fp t159 t2 rfl <| .ld t2 rfl (.ptr _ _ _ _ _ rfl) rfl <| .fp t75 t2 rfl <| .g (fun _ τ => ⟨_, .store (.no rfl) rfl t2 rfl rfl rfl rfl rfl rfl rfl rfl rfl τ⟩) <| .z <| .seq ?_
 refine .rs fun k4 => .fp t159 t2 rfl <| .ld t2 rfl (.ptr _ _ _ _ _ rfl) rfl <| .fp t75 t2 rfl <| .g (fun _ τ => ⟨_, .store (.no rfl) rfl t2 rfl rfl rfl rfl rfl rfl rfl rfl rfl τ⟩) <| .z <| .seq <| .rs fun k5 => .lda t75 rfl (.ptr _ _ _ _ _ rfl) rfl ?_
 refine .g (fun _ τ => ⟨_, .store (.no rfl) rfl t75 rfl rfl rfl rfl rfl rfl rfl rfl rfl τ⟩) <| .z <| .ret ?_
 exact fin0 (.inr rfl) (.cell (cells := [.d (.v (.int .i64 (a.op))), .d (.v (.int .i64 (a.n)))]) rfl rfl t75 rfl rfl .nil) (.dd (.dd .nil)) rfl
theorem c_toTokS (a : List Tok) (hb : a.length ≤ 1048576) : Trip Tryz.prog 77 [(false, 1)] ([.sl false 159 2 (List.map Tok.c (a))]) [(false, 1)] [.sl true 75 2 (List.map Tok.c (a))] [] := by
 refine Trip.of Tryz.func77 (by decide) (c := _) rfl rfl (Nat.le_of_ble_eq_true rfl) rfl (AftOk.nil _) <| .sl (t := 0) rfl fun hs1l => .seq <| .rs fun k2 => .as rfl <| .z <| .seq <| .rs fun k3 => .mv rfl ?_
 refine .g (fun _ τ => ⟨_, .len (.no rfl) rfl (z := (a.length : Int)) t80 rfl rfl rfl (.d _ _) (map_len _ _) rfl τ⟩) <| .g (fun _ τ => ⟨_, .makeSlice (.no rfl) rfl (n0 := a.length) (els := List.map Tok.c (List.replicate a.length (Tok.mk 0 0))) t70 rfl z75 rfl rfl rfl rfl rfl (by (simp [i75]; omega)) (by omega) (rep_map _ _ _ rfl) rfl τ⟩) <| .as rfl <| .z <| .seq <| .seq <| .rs fun k4 => .as rfl <| .z ?_
 refine .block ?_
 refine .loop (X := Nat × Nat × Nat) (fun ζ => .of [(0, .one (.d (.sl false 159 2 (List.map Tok.c (a))))), (3, .one (.ref [7] (ζ.2.1))), (4, .one (.d (.v (.int .i64 ((ζ.1 : Int))))))] [([7], (ζ.2.1, ζ.2.2, .row 75 2 (List.map Tok.c (fillTo a (Tok.mk 0 0) ζ.1))))]) (fun ζ => ζ.1 ≤ a.length) (fun ζ => a.length - ζ.1) ?_ ?_
 ·skip
  exact .here (0, (k3 + 1 + 1), (k3 + 1 + 1)) (.of (.cons rfl (.cons (by show SV.one (.ref [7] (k3 + 1 + 1)) = SV.one (.ref [7] ((k3 + 1 + 1))); first | rfl | simp_all) (.cons (svI (show (0) = ((0 : Int)) by first | rfl | omega | exact wrap_le (by omega) (by omega) | (rw [wrap_le (by omega) (by omega)]; omega))) .nil))) (.cons (rowE (show List.map Tok.c (List.replicate a.length (Tok.mk 0 0)) = List.map Tok.c (fillTo a (Tok.mk 0 0) 0) by first | rfl | (rw [fillTo_zero]) | (rw [fillTo_step _ _ _ (by omega) rfl]))) .nil)) (show 0 ≤ a.length by omega)
 ·rintro ⟨j, q5, q6⟩ hI
  have hI : j ≤ a.length := hI
  dsimp only
  refine .seq <| .seq <| .rs fun k7 => .mv rfl <| .mv rfl <| .g (fun _ τ => ⟨_, .len (.no rfl) rfl (z := (a.length : Int)) t80 rfl rfl rfl (.d _ _) (map_len _ _) rfl τ⟩) <| .bi rfl <| .z ?_
  refine .cond (t := decide ((j : Int) < (a.length : Int))) rfl (fun c0 => ?_) (fun c0 => ?_)
  ·have c0 := of_decide_eq_true c0
   refine .skip <| .seq <| .block <| .rs fun k8 => .mv rfl <| .mv rfl <| .mv rfl <| .mv rfl <| .g (fun _ τ => ⟨_, .indexAddr (.no rfl) rfl (j) t80 rfl t159 rfl rfl rfl (.d _ _) rfl rfl rfl (map_get (by first | omega | (rw [fillTo_len]; omega))) rfl rfl τ⟩) ?_
   refine .lda t159 rfl (.d _) rfl <| .c0 (c_toTok (a.getD j default)) rfl (.dd (.dd .nil)) (.own [20, 0] (.own [20, 1] .nil)) rfl <| .g (fun _ τ => ⟨_, .indexAddr (.no rfl) rfl (j) t70 rfl t75 rfl rfl rfl (.ref _ _ _ _ _ rfl) rfl rfl rfl (map_get (by first | omega | (rw [fillTo_len]; omega))) rfl rfl τ⟩) <| .g (fun _ τ => ⟨_, .storeE (.no rfl) rfl (els' := List.map Tok.c ((fillTo a (Tok.mk 0 0) j).set j (a.getD j default))) t75 rfl rfl rfl rfl (map_get (by first | omega | (rw [fillTo_len]; omega))) rfl rfl (.cons _ _ _ _ _ _ (.d _) (.cons _ _ _ _ _ _ (.d _) .nil)) rfl (Nat.le_of_ble_eq_true rfl) (set_map _ _ _ (a.getD j default) _ rfl) rfl rfl τ⟩) <| .z <| .rs fun k9 => .mv rfl <| .bi rfl <| .as rfl ?_
   refine .z ?_
   exact .here ((j + 1), q5, (k8 + 1 + 1 + 1 + 1 + 1 + 1 + 1 + 1)) (.of (.cons rfl (.cons rfl (.cons (svI (show (IntKind.wrap .i64 ((j : Int) + 1)) = (((j + 1) : Int)) by first | rfl | omega | exact wrap_le (by omega) (by omega) | (rw [wrap_le (by omega) (by omega)]; omega))) .nil))) (.cons (rowE (show List.map Tok.c ((fillTo a (Tok.mk 0 0) j).set j (a.getD j default)) = List.map Tok.c (fillTo a (Tok.mk 0 0) (j + 1)) by first | rfl | (rw [fillTo_zero]) | (rw [fillTo_step _ _ _ (by omega) rfl]))) .nil)) ⟨(show (j + 1) ≤ a.length by omega), (show a.length - (j + 1) < a.length - j by omega)⟩
  ·have c0 := of_decide_eq_false c0
   refine .exit <| .seq <| .rs fun k10 => .mv rfl <| .as rfl <| .z <| .ret ?_
   have e11 : (fillTo a (Tok.mk 0 0) j) = (a) := by (exact fillTo_all _ _ (by omega))
   exact fin1 (.inr rfl) [] [([7], (q5, q6, .row 75 2 (List.map Tok.c (a))))] (.one rfl .nil) (.cons (.ref (.head _)) .nil) rfl rfl (.cons (rowE (congrArg (List.map Tok.c) e11)) .nil)
theorem c_toLine (a : Line) (hb : Line.small a) : Trip Tryz.prog 47 [(true, 6)] (Line.c82 a) [(true, 6)] [.v (.int .i64 (a.kind)), .v (.int .i64 (a.v)), .sl true 75 2 (List.map Tok.c (a.i)), .sl true 75 2 (List.map Tok.c (a.e)), .v (.int .i64 (a.lo)), .v (.int .i64 (a.hi))] [] := by
 refine Trip.of Tryz.func47 (by decide) (c := _) rfl rfl (Nat.le_of_ble_eq_true rfl) rfl (AftOk.nil _) <| .sla (t := 0) 2 rfl rfl fun hs1l => .sla (t := 0) 3 rfl rfl fun hs2l => .seq <| .rs fun k3 => .g (fun _ τ => ⟨_, .box (.no rfl) rfl rfl rfl rfl rfl τ⟩) <| .g (fun _ τ => ⟨_, .alloc (.no rfl) rfl z72 rfl rfl rfl τ⟩) <| .z <| .seq ?_
 refine .rs fun k4 => .g (fun _ τ => ⟨_, .alloc (.no rfl) rfl z72 rfl rfl rfl τ⟩) <| .z <| .seq <| .rs fun k5 => .fp t82 t2 rfl <| .ld t2 rfl (.ptr _ _ _ _ _ rfl) rfl <| .fp t72 t2 rfl <| .g (fun _ τ => ⟨_, .store (.no rfl) rfl t2 rfl rfl rfl rfl rfl rfl rfl rfl rfl τ⟩) ?_
 refine .z <| .seq <| .rs fun k6 => .fp t82 t2 rfl <| .ld t2 rfl (.ptr _ _ _ _ _ rfl) rfl <| .fp t72 t2 rfl <| .g (fun _ τ => ⟨_, .store (.no rfl) rfl t2 rfl rfl rfl rfl rfl rfl rfl rfl rfl τ⟩) <| .z <| .seq ?_
 refine .rs fun k7 => .fp t82 t80 rfl <| .ld t80 rfl (.ptr _ _ _ _ _ rfl) rfl <| .c0 (c_toTokS a.i (by first | exact hb.1 | exact hb.2)) rfl (.dd .nil) (.own [12, 0] .nil) rfl <| .fp t72 t70 rfl <| .g (fun _ τ => ⟨_, .store (.no rfl) rfl t70 rfl rfl rfl rfl rfl rfl rfl rfl rfl τ⟩) <| .z <| .seq <| .rs fun k8 => ?_
 refine .fp t82 t80 rfl <| .ld t80 rfl (.ptr _ _ _ _ _ rfl) rfl <| .c0 (c_toTokS a.e (by first | exact hb.1 | exact hb.2)) rfl (.dd .nil) (.own [16, 0] .nil) rfl <| .fp t72 t70 rfl <| .g (fun _ τ => ⟨_, .store (.no rfl) rfl t70 rfl rfl rfl rfl rfl rfl rfl rfl rfl τ⟩) <| .z <| .seq <| .rs fun k9 => .fp t82 t2 rfl ?_
 refine .ld t2 rfl (.ptr _ _ _ _ _ rfl) rfl <| .fp t72 t2 rfl <| .g (fun _ τ => ⟨_, .store (.no rfl) rfl t2 rfl rfl rfl rfl rfl rfl rfl rfl rfl τ⟩) <| .z <| .seq <| .rs fun k10 => .fp t82 t2 rfl <| .ld t2 rfl (.ptr _ _ _ _ _ rfl) rfl <| .fp t72 t2 rfl ?_
 refine .g (fun _ τ => ⟨_, .store (.no rfl) rfl t2 rfl rfl rfl rfl rfl rfl rfl rfl rfl τ⟩) <| .z <| .seq <| .rs fun k11 => .lda t72 rfl (.ptr _ _ _ _ _ rfl) rfl <| .g (fun _ τ => ⟨_, .store (.no rfl) rfl t72 rfl rfl rfl rfl rfl rfl rfl rfl rfl τ⟩) <| .z <| .ret ?_
 exact fin1 (.inr rfl) [] [([12, 0], (k7 + 1 + 1, k7 + 1 + 1, .row 75 2 (List.map Tok.c (a.i)))), ([16, 0], (k8 + 1 + 1, k8 + 1 + 1, .row 75 2 (List.map Tok.c (a.e))))] (.cell (cells := [.d (.v (.int .i64 (a.kind))), .d (.v (.int .i64 (a.v))), .ref [12, 0] (k7 + 1 + 1), .ref [16, 0] (k8 + 1 + 1), .d (.v (.int .i64 (a.lo))), .d (.v (.int .i64 (a.hi)))]) rfl rfl t72 rfl rfl .nil) (.dd (.dd (.cons (.ref (.head _)) (.cons (.ref (.tail _ (.head _))) (.dd (.dd .nil)))))) rfl rfl (.r rfl)
theorem c_toLineS (a : List Line) (hb : a.length ≤ 1048576) (hx : ∀ x ∈ a, Line.small x) : Trip Tryz.prog 24 [(false, 1)] ([.sl false 82 6 (List.map Line.c82 (a))]) [(false, 1)] [.sl true 72 6 (List.map Line.co72 (a))] [] := by
 refine Trip.of Tryz.func24 (by decide) (c := _) rfl rfl (Nat.le_of_ble_eq_true rfl) rfl (AftOk.nil _) <| .sl (t := 0) rfl fun hs1l => .seq <| .rs fun k2 => .as rfl <| .z <| .seq <| .rs fun k3 => .mv rfl ?_
 refine .g (fun _ τ => ⟨_, .len (.no rfl) rfl (z := (a.length : Int)) t26 rfl rfl rfl (.d _ _) (map_len _ _) rfl τ⟩) <| .g (fun _ τ => ⟨_, .makeSlice (.no rfl) rfl (n0 := a.length) (els := List.replicate a.length [.v (.int .i64 (0)), .v (.int .i64 (0)), .v (.slice none 0 0), .v (.slice none 0 0), .v (.int .i64 (0)), .v (.int .i64 (0))]) t35 rfl z72 rfl rfl rfl rfl rfl (by (simp [i72]; omega)) (by omega) rfl rfl τ⟩) <| .as rfl <| .z <| .seq <| .seq <| .rs fun k4 => .as rfl <| .z ?_
 refine .block ?_
 refine .loop (X := Nat × Nat × Nat) (fun ζ => .of [(0, .one (.d (.sl false 82 6 (List.map Line.c82 (a))))), (3, .one (.ref [7] (ζ.2.1))), (4, .one (.d (.v (.int .i64 ((ζ.1 : Int))))))] [([7], (ζ.2.1, ζ.2.2, .row 72 6 (List.map Line.co72 (fillTo a (Line.mk 0 0 [] [] 0 0) ζ.1))))]) (fun ζ => ζ.1 ≤ a.length) (fun ζ => a.length - ζ.1) ?_ ?_
 ·skip
  refine .rowAs [7] (x := [.v (.int .i64 (0)), .v (.int .i64 (0)), .v (.slice none 0 0), .v (.slice none 0 0), .v (.int .i64 (0)), .v (.int .i64 (0))]) (x' := [.v (.int .i64 (0)), .v (.int .i64 (0)), .sl true 75 2 ([]), .sl true 75 2 ([]), .v (.int .i64 (0)), .v (.int .i64 (0))]) (els' := List.map Line.co72 (List.replicate a.length (Line.mk 0 0 [] [] 0 0))) rfl rfl (.eq _ (.eq _ (.emp _ _ _ (.emp _ _ _ (.eq _ (.eq _ .nil)))))) (rep_map _ _ _ rfl) fun q7 => ?_
  exact .here (0, (k3 + 1 + 1), q7) (.of (.cons rfl (.cons (by show SV.one (.ref [7] (k3 + 1 + 1)) = SV.one (.ref [7] ((k3 + 1 + 1))); first | rfl | simp_all) (.cons (svI (show (0) = ((0 : Int)) by first | rfl | omega | exact wrap_le (by omega) (by omega) | (rw [wrap_le (by omega) (by omega)]; omega))) .nil))) (.cons (rowE (show List.map Line.co72 (List.replicate a.length (Line.mk 0 0 [] [] 0 0)) = List.map Line.co72 (fillTo a (Line.mk 0 0 [] [] 0 0) 0) by first | rfl | (rw [fillTo_zero]) | (rw [fillTo_step _ _ _ (by omega) rfl]))) .nil)) (show 0 ≤ a.length by omega)
 ·rintro ⟨j, q5, q6⟩ hI
  have hI : j ≤ a.length := hI
  dsimp only
  refine .seq <| .seq <| .rs fun k8 => .mv rfl <| .mv rfl <| .g (fun _ τ => ⟨_, .len (.no rfl) rfl (z := (a.length : Int)) t26 rfl rfl rfl (.d _ _) (map_len _ _) rfl τ⟩) <| .bi rfl <| .z ?_
  refine .cond (t := decide ((j : Int) < (a.length : Int))) rfl (fun c0 => ?_) (fun c0 => ?_)
  ·have c0 := of_decide_eq_true c0
   refine .skip <| .seq <| .block <| .rs fun k9 => .mv rfl <| .mv rfl <| .mv rfl <| .mv rfl <| .g (fun _ τ => ⟨_, .indexAddr (.no rfl) rfl (j) t26 rfl t82 rfl rfl rfl (.d _ _) rfl rfl rfl (map_get (by first | omega | (rw [fillTo_len]; omega))) rfl rfl τ⟩) ?_
   refine .lda t82 rfl (.d _) rfl <| .c0 (c_toLine (a.getD j default) (by exact hx _ (getD_mem (by omega)))) rfl (.dd (.dd (.dd (.dd (.dd (.dd .nil)))))) (.own [20, 0] (.own [20, 1] (.own [20, 2] (.own [20, 3] (.own [20, 4] (.own [20, 5] .nil)))))) rfl <| .g (fun _ τ => ⟨_, .indexAddr (.no rfl) rfl (j) t35 rfl t72 rfl rfl rfl (.ref _ _ _ _ _ rfl) rfl rfl rfl (map_get (by first | omega | (rw [fillTo_len]; omega))) rfl rfl τ⟩) ?_
   refine .g (fun _ τ => ⟨_, .storeE (.no rfl) rfl (els' := List.map Line.co72 ((fillTo a (Line.mk 0 0 [] [] 0 0) j).set j (a.getD j default))) t72 rfl rfl rfl rfl (map_get (by first | omega | (rw [fillTo_len]; omega))) rfl rfl (.cons _ _ _ _ _ _ (.d _) (.cons _ _ _ _ _ _ (.d _) (.cons _ _ _ _ _ _ (.ref _ _ _ _ _ _ rfl) (.cons _ _ _ _ _ _ (.ref _ _ _ _ _ _ rfl) (.cons _ _ _ _ _ _ (.d _) (.cons _ _ _ _ _ _ (.d _) .nil)))))) rfl (Nat.le_of_ble_eq_true rfl) (set_map _ _ _ (a.getD j default) _ rfl) rfl rfl τ⟩) <| .z <| .rs fun k10 => .mv rfl <| .bi rfl <| .as rfl <| .z ?_
   exact .here ((j + 1), q5, (k9 + 1 + 1 + 1 + 1 + 1 + 1 + 1 + 1)) (.of (.cons rfl (.cons rfl (.cons (svI (show (IntKind.wrap .i64 ((j : Int) + 1)) = (((j + 1) : Int)) by first | rfl | omega | exact wrap_le (by omega) (by omega) | (rw [wrap_le (by omega) (by omega)]; omega))) .nil))) (.cons (rowE (show List.map Line.co72 ((fillTo a (Line.mk 0 0 [] [] 0 0) j).set j (a.getD j default)) = List.map Line.co72 (fillTo a (Line.mk 0 0 [] [] 0 0) (j + 1)) by first | rfl | (rw [fillTo_zero]) | (rw [fillTo_step _ _ _ (by omega) rfl]))) .nil)) ⟨(show (j + 1) ≤ a.length by omega), (show a.length - (j + 1) < a.length - j by omega)⟩
  ·have c0 := of_decide_eq_false c0
   refine .exit <| .seq <| .rs fun k11 => .mv rfl <| .as rfl <| .z <| .ret ?_
   have e12 : (fillTo a (Line.mk 0 0 [] [] 0 0) j) = (a) := by (exact fillTo_all _ _ (by omega))
   exact fin1 (.inr rfl) [] [([7], (q5, q6, .row 72 6 (List.map Line.co72 (a))))] (.one rfl .nil) (.cons (.ref (.head _)) .nil) rfl rfl (.cons (rowE (congrArg (List.map Line.co72) e12)) .nil)
theorem c_toProg (a : Prog) (hb : Prog.small a) : Trip Tryz.prog 7 [(true, 4)] (Prog.c28 a) [(true, 4)] [.sl true 9 1 (List.map strc (a.d.vars)), .sl true 9 1 (List.map strc (a.d.flags)), .sl true 115 2 (List.map Arr.c (a.d.arrays)), .sl true 72 6 (List.map Line.co72 (a.lines))] [] := by
 refine Trip.of Tryz.func7 (by decide) (c := _) rfl rfl (Nat.le_of_ble_eq_true rfl) rfl (AftOk.nil _) <| .sla (t := 0) 0 rfl rfl fun hs1l => .sla (t := 0) 1 rfl rfl fun hs2l => .sla (t := 0) 2 rfl rfl fun hs3l => .sla (t := 0) 3 rfl rfl fun hs4l => .seq <| .rs fun k5 => .g (fun _ τ => ⟨_, .box (.no rfl) rfl rfl rfl rfl rfl τ⟩) <| .g (fun _ τ => ⟨_, .alloc (.no rfl) rfl z37 rfl rfl rfl τ⟩) ?_
 refine .z <| .seq <| .rs fun k6 => .g (fun _ τ => ⟨_, .alloc (.no rfl) rfl z37 rfl rfl rfl τ⟩) <| .z <| .seq <| .rs fun k7 => .fp t28 t25 rfl <| .lda t25 rfl (.ptr _ _ _ _ _ rfl) rfl ?_
 refine .c0 (c_toDecl a.d (by first | exact hb.1 | exact hb.2.1 | exact hb.2.2)) rfl (.dd (.dd (.dd .nil))) (.own [6, 0] (.own [6, 1] (.own [6, 2] .nil))) rfl <| .fp t37 t34 rfl <| .g (fun _ τ => ⟨_, .store (.no rfl) rfl t34 rfl rfl rfl rfl rfl rfl rfl rfl rfl τ⟩) <| .z <| .seq <| .rs fun k8 => .fp t28 t26 rfl <| .ld t26 rfl (.ptr _ _ _ _ _ rfl) rfl <| .c0 (c_toLineS a.lines (by first | exact hb.1 | exact hb.2.1 | exact hb.2.2) (by first | exact hb.1 | exact hb.2.1 | exact hb.2.2)) rfl (.dd .nil) (.own [10, 0] .nil) rfl ?_
 refine .fp t37 t35 rfl <| .g (fun _ τ => ⟨_, .store (.no rfl) rfl t35 rfl rfl rfl rfl rfl rfl rfl rfl rfl τ⟩) <| .z <| .seq <| .rs fun k9 => .lda t37 rfl (.ptr _ _ _ _ _ rfl) rfl <| .g (fun _ τ => ⟨_, .store (.no rfl) rfl t37 rfl rfl rfl rfl rfl rfl rfl rfl rfl τ⟩) <| .z <| .ret ?_
 exact fin1 (.inr rfl) [] [([6, 0], (k7 + 1 + 1, k7 + 1 + 1, .row 9 1 (List.map strc (a.d.vars)))), ([6, 1], (k7 + 1 + 1, k7 + 1 + 1, .row 9 1 (List.map strc (a.d.flags)))), ([6, 2], (k7 + 1 + 1, k7 + 1 + 1, .row 115 2 (List.map Arr.c (a.d.arrays)))), ([10, 0], (k8 + 1 + 1, k8 + 1 + 1, .row 72 6 (List.map Line.co72 (a.lines))))] (.cell (cells := [.ref [6, 0] (k7 + 1 + 1), .ref [6, 1] (k7 + 1 + 1), .ref [6, 2] (k7 + 1 + 1), .ref [10, 0] (k8 + 1 + 1)]) rfl rfl t37 rfl rfl .nil) (.cons (.ref (.head _)) (.cons (.ref (.tail _ (.head _))) (.cons (.ref (.tail _ (.tail _ (.head _)))) (.cons (.ref (.tail _ (.tail _ (.tail _ (.head _))))) .nil)))) rfl rfl (.r rfl)
theorem c_eqTok (a : Tok) (b : Tok) : Trip Tryz.prog 122 [(true, 2), (true, 2)] (Tok.c a ++ Tok.c b) [(false, 1)] [.v (.bool (Tok.same a b))] [] := by
 refine Trip.of Tryz.func122 (by decide) (c := _) rfl rfl (Nat.le_of_ble_eq_true rfl) rfl (AftOk.nil _) <| .seq <| .rs fun k1 => .g (fun _ τ => ⟨_, .box (.no rfl) rfl rfl rfl rfl rfl τ⟩) <| .g (fun _ τ => ⟨_, .box (.no rfl) rfl rfl rfl rfl rfl τ⟩) <| .as rfl <| .z <| .seq <| .seq ?_
 refine .rs fun k2 => .fp t75 t2 rfl <| .ld t2 rfl (.ptr _ _ _ _ _ rfl) rfl <| .fp t75 t2 rfl <| .ld t2 rfl (.ptr _ _ _ _ _ rfl) rfl <| .bi rfl <| .z ?_
 refine .cond (t := a.op != b.op) rfl (fun c0 => ?_) (fun c0 => ?_)
 ·have c0 := (by simpa using c0 : ¬ (a.op = b.op))
  refine .seq <| .rs fun k3 => .as rfl <| .z <| .ret ?_
  exact fin0 (.inr rfl) (.one (svB (show (false) = (Tok.same a b) by (simp_all [Tok.same]))) .nil) (.dd .nil) rfl
 ·have c0 := (by simpa using c0 : a.op = b.op)
  refine .skip <| .seq <| .seq <| .rs fun k5 => .fp t75 t2 rfl <| .ld t2 rfl (.ptr _ _ _ _ _ rfl) rfl <| .fp t75 t2 rfl <| .ld t2 rfl (.ptr _ _ _ _ _ rfl) rfl <| .bi rfl ?_
  refine .z ?_
  refine .cond (t := a.n != b.n) rfl (fun c1 => ?_) (fun c1 => ?_)
  ·have c1 := (by simpa using c1 : ¬ (a.n = b.n))
   refine .seq <| .rs fun k6 => .as rfl <| .z <| .ret ?_
   exact fin0 (.inr rfl) (.one (svB (show (false) = (Tok.same a b) by (simp_all [Tok.same]))) .nil) (.dd .nil) rfl
  ·have c1 := (by simpa using c1 : a.n = b.n)
   refine .skip <| .seq <| .rs fun k8 => .as rfl <| .z <| .ret ?_
   exact fin0 (.inr rfl) (.one (svB (show (true) = (Tok.same a b) by (simp_all [Tok.same]))) .nil) (.dd .nil) rfl
theorem c_eqTokS (a : List Tok) (b : List Tok) : Trip Tryz.prog 97 [(false, 1), (false, 1)] ([.sl false 75 2 (List.map Tok.c (a))] ++ [.sl false 75 2 (List.map Tok.c (b))]) [(false, 1)] [.v (.bool (all2 Tok.same a b))] [] := by
 refine Trip.of Tryz.func97 (by decide) (c := _) rfl rfl (Nat.le_of_ble_eq_true rfl) rfl (AftOk.nil _) <| .sl (t := 0) rfl fun hs1l => .sl (t := 1) rfl fun hs2l => .seq <| .rs fun k3 => .as rfl <| .z <| .seq <| .seq ?_
 refine .rs fun k4 => .mv rfl <| .g (fun _ τ => ⟨_, .len (.no rfl) rfl (z := (a.length : Int)) t70 rfl rfl rfl (.d _ _) (map_len _ _) rfl τ⟩) <| .mv rfl <| .g (fun _ τ => ⟨_, .len (.no rfl) rfl (z := (b.length : Int)) t70 rfl rfl rfl (.d _ _) (map_len _ _) rfl τ⟩) <| .bi rfl <| .z ?_
 refine .cond (t := (a.length : Int) != (b.length : Int)) rfl (fun c0 => ?_) (fun c0 => ?_)
 ·have c0 := (by simpa using c0 : ¬ ((a.length : Int) = (b.length : Int)))
  refine .seq <| .rs fun k5 => .as rfl <| .z <| .ret ?_
  exact fin0 (.inr rfl) (.one (svB (show (false) = (all2 Tok.same a b) by exact (all2_ne _ c0).symm)) .nil) (.dd .nil) rfl
 ·have c0 := (by simpa using c0 : (a.length : Int) = (b.length : Int))
  refine .skip <| .seq <| .seq <| .rs fun k7 => .as rfl <| .z <| .block ?_
  refine .loop (X := Nat) (fun ζ => .of [(0, .one (.d (.sl false 75 2 (List.map Tok.c (a))))), (1, .one (.d (.sl false 75 2 (List.map Tok.c (b))))), (5, .one (.d (.v (.int .i64 ((ζ : Int))))))] []) (fun ζ => ζ ≤ a.length ∧ a.length = b.length ∧ allTo ζ (fun i => Tok.same (a.getD i default) (b.getD i default)) = true) (fun ζ => a.length - ζ) ?_ ?_
  ·skip
   exact .here 0 (.of (.cons rfl (.cons rfl (.cons (svI (show (0) = ((0 : Int)) by first | rfl | omega | exact wrap_le (by omega) (by omega) | (rw [wrap_le (by omega) (by omega)]; omega))) .nil))) .nil) (show 0 ≤ a.length ∧ a.length = b.length ∧ allTo 0 (fun i => Tok.same (a.getD i default) (b.getD i default)) = true by exact ⟨by omega, by omega, rfl⟩)
  ·rintro j hI
   have hI : j ≤ a.length ∧ a.length = b.length ∧ allTo j (fun i => Tok.same (a.getD i default) (b.getD i default)) = true := hI
   refine .seq <| .seq <| .rs fun k8 => .mv rfl <| .mv rfl <| .g (fun _ τ => ⟨_, .len (.no rfl) rfl (z := (a.length : Int)) t70 rfl rfl rfl (.d _ _) (map_len _ _) rfl τ⟩) <| .bi rfl <| .z ?_
   refine .cond (t := decide ((j : Int) < (a.length : Int))) rfl (fun c1 => ?_) (fun c1 => ?_)
   ·have c1 := of_decide_eq_true c1
    refine .skip <| .seq <| .block <| .seq ?_
    refine .regD (X := Unit) (by kernel_rfl) (fun ζ => .of [(0, .one (.d (.sl false 75 2 (List.map Tok.c (a))))), (1, .one (.d (.sl false 75 2 (List.map Tok.c (b))))), (5, .one (.d (.v (.int .i64 ((j : Int)))))), (26, .one (.d (.v (.bool (!(Tok.same (a.getD j default) (b.getD j default)))))))] []) [⟨[0], some 17, [], []⟩, ⟨[5], some 18, [], []⟩, ⟨[17, 18], some 19, [], []⟩, ⟨[19], some 20, [], []⟩, ⟨[1], some 21, [], []⟩, ⟨[5], some 22, [], []⟩, ⟨[21, 22], some 23, [], []⟩, ⟨[23], some 24, [], []⟩, ⟨[20, 24], some 25, [], []⟩, ⟨[25], some 26, [], []⟩] (by kernel_rfl) (fun k9 => ?_) ?_
    ·skip
     refine .move (.no rfl) rfl rfl rfl rfl <| .move (.no rfl) rfl rfl rfl rfl <| .indexAddr (.no rfl) rfl (j) t70 rfl t75 rfl rfl rfl (.d _ _) rfl rfl rfl (map_get (by omega)) rfl rfl <| .load (.no rfl) rfl t75 rfl rfl (.d _) rfl rfl rfl rfl <| .move (.no rfl) rfl rfl rfl rfl <| .move (.no rfl) rfl rfl rfl rfl <| .indexAddr (.no rfl) rfl (j) t70 rfl t75 rfl rfl rfl (.d _ _) rfl rfl rfl (map_get (by omega)) rfl rfl <| .load (.no rfl) rfl t75 rfl rfl (.d _) rfl rfl rfl rfl <| .call (.no rfl) rfl [] [] (c_eqTok (a.getD j default) (b.getD j default)) rfl rfl rfl rfl rfl (.dd (.dd (.dd (.dd .nil)))) rfl rfl (fun h => absurd rfl h) (.own [25, 0] .nil) (.nil) rfl rfl rfl (by simp) rfl rfl rfl ?_
     refine .un (.no rfl) rfl rfl rfl rfl rfl ?_
     exact .fin () (.of (.r rfl) .nil)
    intro _
    refine .cond (t := !(Tok.same (a.getD j default) (b.getD j default))) rfl (fun c2 => ?_) (fun c2 => ?_)
    ·have c2 := (nT id) c2
     refine .seq <| .rs fun k10 => .as rfl <| .z <| .ret ?_
     exact fin0 (.inr rfl) (.one (svB (show (false) = (all2 Tok.same a b) by exact (all2_fail _ (j := j) (by omega) (by simpa [] using c2)).symm)) .nil) (.dd .nil) rfl
    ·have c2 := (nF id) c2
     refine .skip <| .rs fun k12 => .mv rfl <| .bi rfl <| .as rfl <| .z ?_
     exact .here (j + 1) (.of (.cons rfl (.cons rfl (.cons (svI (show (IntKind.wrap .i64 ((j : Int) + 1)) = (((j + 1) : Int)) by first | rfl | omega | exact wrap_le (by omega) (by omega) | (rw [wrap_le (by omega) (by omega)]; omega))) .nil))) .nil) ⟨(show (j + 1) ≤ a.length ∧ a.length = b.length ∧ allTo (j + 1) (fun i => Tok.same (a.getD i default) (b.getD i default)) = true by exact ⟨by omega, by omega, allTo_step hI.2.2 (by simpa [] using c2)⟩), (show a.length - (j + 1) < a.length - j by omega)⟩
   ·have c1 := of_decide_eq_false c1
    refine .exit <| .seq <| .rs fun k13 => .as rfl <| .z <| .ret ?_
    exact fin0 (.inr rfl) (.one (svB (show (true) = (all2 Tok.same a b) by (have hj : j = a.length := (by omega); subst hj; exact (all2_done _ hI.2.1 hI.2.2).symm))) .nil) (.dd .nil) rfl
theorem c_eqLine (a : Line) (b : Line) : Trip Tryz.prog 57 [(true, 6), (true, 6)] (Line.c72 a ++ Line.c72 b) [(false, 1)] [.v (.bool (Line.same a b))] [] := by
 refine Trip.of Tryz.func57 (by decide) (c := _) rfl rfl (Nat.le_of_ble_eq_true rfl) rfl (AftOk.nil _) <| .sla (t := 0) 2 rfl rfl fun hs1l => .sla (t := 0) 3 rfl rfl fun hs2l => .sla (t := 1) 2 rfl rfl fun hs3l => .sla (t := 1) 3 rfl rfl fun hs4l => .seq <| .rs fun k5 => .g (fun _ τ => ⟨_, .box (.no rfl) rfl rfl rfl rfl rfl τ⟩) <| .g (fun _ τ => ⟨_, .box (.no rfl) rfl rfl rfl rfl rfl τ⟩) ?_
 refine .as rfl <| .z <| .seq <| .seq <| .rs fun k6 => .fp t72 t2 rfl <| .ld t2 rfl (.ptr _ _ _ _ _ rfl) rfl <| .fp t72 t2 rfl <| .ld t2 rfl (.ptr _ _ _ _ _ rfl) rfl ?_
 refine .bi rfl <| .z ?_
 refine .cond (t := a.kind != b.kind) rfl (fun c0 => ?_) (fun c0 => ?_)
 ·have c0 := (by simpa using c0 : ¬ (a.kind = b.kind))
  refine .seq <| .rs fun k7 => .as rfl <| .z <| .ret ?_
  exact fin0 (.inr rfl) (.one (svB (show (false) = (Line.same a b) by (simp_all [Line.same]))) .nil) (.dd .nil) rfl
 ·have c0 := (by simpa using c0 : a.kind = b.kind)
  refine .skip <| .seq <| .seq <| .rs fun k9 => .fp t72 t2 rfl <| .ld t2 rfl (.ptr _ _ _ _ _ rfl) rfl <| .fp t72 t2 rfl <| .ld t2 rfl (.ptr _ _ _ _ _ rfl) rfl <| .bi rfl ?_
  refine .z ?_
  refine .cond (t := a.v != b.v) rfl (fun c1 => ?_) (fun c1 => ?_)
  ·have c1 := (by simpa using c1 : ¬ (a.v = b.v))
   refine .seq <| .rs fun k10 => .as rfl <| .z <| .ret ?_
   exact fin0 (.inr rfl) (.one (svB (show (false) = (Line.same a b) by (simp_all [Line.same]))) .nil) (.dd .nil) rfl
  ·have c1 := (by simpa using c1 : a.v = b.v)
   refine .skip <| .seq <| .seq <| .rs fun k12 => .fp t72 t70 rfl <| .ld t70 rfl (.ptr _ _ _ _ _ rfl) rfl <| .fp t72 t70 rfl <| .ld t70 rfl (.ptr _ _ _ _ _ rfl) rfl <| .c0 (c_eqTokS a.i b.i) rfl (.dd (.dd .nil)) (.own [19, 0] .nil) rfl ?_
   refine .un rfl <| .z ?_
   refine .cond (t := !(all2 Tok.same a.i b.i)) rfl (fun c2 => ?_) (fun c2 => ?_)
   ·have c2 := (nT id) c2
    refine .seq <| .rs fun k13 => .as rfl <| .z <| .ret ?_
    exact fin0 (.inr rfl) (.one (svB (show (false) = (Line.same a b) by (simp_all [Line.same]))) .nil) (.dd .nil) rfl
   ·have c2 := (nF id) c2
    refine .skip <| .seq <| .seq <| .rs fun k15 => .fp t72 t70 rfl <| .ld t70 rfl (.ptr _ _ _ _ _ rfl) rfl <| .fp t72 t70 rfl <| .ld t70 rfl (.ptr _ _ _ _ _ rfl) rfl <| .c0 (c_eqTokS a.e b.e) rfl (.dd (.dd .nil)) (.own [25, 0] .nil) rfl ?_
    refine .un rfl <| .z ?_
    refine .cond (t := !(all2 Tok.same a.e b.e)) rfl (fun c3 => ?_) (fun c3 => ?_)
    ·have c3 := (nT id) c3
     refine .seq <| .rs fun k16 => .as rfl <| .z <| .ret ?_
     exact fin0 (.inr rfl) (.one (svB (show (false) = (Line.same a b) by (simp_all [Line.same]))) .nil) (.dd .nil) rfl
    ·have c3 := (nF id) c3
     refine .skip <| .seq <| .seq <| .rs fun k18 => .fp t72 t2 rfl <| .ld t2 rfl (.ptr _ _ _ _ _ rfl) rfl <| .fp t72 t2 rfl <| .ld t2 rfl (.ptr _ _ _ _ _ rfl) rfl <| .bi rfl ?_
     refine .z ?_
     refine .cond (t := a.lo != b.lo) rfl (fun c4 => ?_) (fun c4 => ?_)
     ·have c4 := (by simpa using c4 : ¬ (a.lo = b.lo))
      refine .seq <| .rs fun k19 => .as rfl <| .z <| .ret ?_
      exact fin0 (.inr rfl) (.one (svB (show (false) = (Line.same a b) by (simp_all [Line.same]))) .nil) (.dd .nil) rfl
     ·have c4 := (by simpa using c4 : a.lo = b.lo)
      refine .skip <| .seq <| .seq <| .rs fun k21 => .fp t72 t2 rfl <| .ld t2 rfl (.ptr _ _ _ _ _ rfl) rfl <| .fp t72 t2 rfl <| .ld t2 rfl (.ptr _ _ _ _ _ rfl) rfl <| .bi rfl ?_
      refine .z ?_
      refine .cond (t := a.hi != b.hi) rfl (fun c5 => ?_) (fun c5 => ?_)
      ·have c5 := (by simpa using c5 : ¬ (a.hi = b.hi))
       refine .seq <| .rs fun k22 => .as rfl <| .z <| .ret ?_
       exact fin0 (.inr rfl) (.one (svB (show (false) = (Line.same a b) by (simp_all [Line.same]))) .nil) (.dd .nil) rfl
      ·have c5 := (by simpa using c5 : a.hi = b.hi)
       refine .skip <| .seq <| .rs fun k24 => .as rfl <| .z <| .ret ?_
       exact fin0 (.inr rfl) (.one (svB (show (true) = (Line.same a b) by (simp_all [Line.same]))) .nil) (.dd .nil) rfl
theorem c_eqLineS (a : List Line) (b : List Line) : Trip Tryz.prog 29 [(false, 1), (false, 1)] ([.sl false 72 6 (List.map Line.c72 (a))] ++ [.sl false 72 6 (List.map Line.c72 (b))]) [(false, 1)] [.v (.bool (all2 Line.same a b))] [] := by
 refine Trip.of Tryz.func29 (by decide) (c := _) rfl rfl (Nat.le_of_ble_eq_true rfl) rfl (AftOk.nil _) <| .sl (t := 0) rfl fun hs1l => .sl (t := 1) rfl fun hs2l => .seq <| .rs fun k3 => .as rfl <| .z <| .seq <| .seq ?_
 refine .rs fun k4 => .mv rfl <| .g (fun _ τ => ⟨_, .len (.no rfl) rfl (z := (a.length : Int)) t35 rfl rfl rfl (.d _ _) (map_len _ _) rfl τ⟩) <| .mv rfl <| .g (fun _ τ => ⟨_, .len (.no rfl) rfl (z := (b.length : Int)) t35 rfl rfl rfl (.d _ _) (map_len _ _) rfl τ⟩) <| .bi rfl <| .z ?_
 refine .cond (t := (a.length : Int) != (b.length : Int)) rfl (fun c0 => ?_) (fun c0 => ?_)
 ·have c0 := (by simpa using c0 : ¬ ((a.length : Int) = (b.length : Int)))
  refine .seq <| .rs fun k5 => .as rfl <| .z <| .ret ?_
  exact fin0 (.inr rfl) (.one (svB (show (false) = (all2 Line.same a b) by exact (all2_ne _ c0).symm)) .nil) (.dd .nil) rfl
 ·have c0 := (by simpa using c0 : (a.length : Int) = (b.length : Int))
  refine .skip <| .seq <| .seq <| .rs fun k7 => .as rfl <| .z <| .block ?_
  refine .loop (X := Nat) (fun ζ => .of [(0, .one (.d (.sl false 72 6 (List.map Line.c72 (a))))), (1, .one (.d (.sl false 72 6 (List.map Line.c72 (b))))), (5, .one (.d (.v (.int .i64 ((ζ : Int))))))] []) (fun ζ => ζ ≤ a.length ∧ a.length = b.length ∧ allTo ζ (fun i => Line.same (a.getD i default) (b.getD i default)) = true) (fun ζ => a.length - ζ) ?_ ?_
  ·skip
   exact .here 0 (.of (.cons rfl (.cons rfl (.cons (svI (show (0) = ((0 : Int)) by first | rfl | omega | exact wrap_le (by omega) (by omega) | (rw [wrap_le (by omega) (by omega)]; omega))) .nil))) .nil) (show 0 ≤ a.length ∧ a.length = b.length ∧ allTo 0 (fun i => Line.same (a.getD i default) (b.getD i default)) = true by exact ⟨by omega, by omega, rfl⟩)
  ·rintro j hI
   have hI : j ≤ a.length ∧ a.length = b.length ∧ allTo j (fun i => Line.same (a.getD i default) (b.getD i default)) = true := hI
   refine .seq <| .seq <| .rs fun k8 => .mv rfl <| .mv rfl <| .g (fun _ τ => ⟨_, .len (.no rfl) rfl (z := (a.length : Int)) t35 rfl rfl rfl (.d _ _) (map_len _ _) rfl τ⟩) <| .bi rfl <| .z ?_
   refine .cond (t := decide ((j : Int) < (a.length : Int))) rfl (fun c1 => ?_) (fun c1 => ?_)
   ·have c1 := of_decide_eq_true c1
    refine .skip <| .seq <| .block <| .seq ?_
    refine .regD (X := Unit) (by kernel_rfl) (fun ζ => .of [(0, .one (.d (.sl false 72 6 (List.map Line.c72 (a))))), (1, .one (.d (.sl false 72 6 (List.map Line.c72 (b))))), (5, .one (.d (.v (.int .i64 ((j : Int)))))), (26, .one (.d (.v (.bool (!(Line.same (a.getD j default) (b.getD j default)))))))] []) [⟨[0], some 17, [], []⟩, ⟨[5], some 18, [], []⟩, ⟨[17, 18], some 19, [], []⟩, ⟨[19], some 20, [], []⟩, ⟨[1], some 21, [], []⟩, ⟨[5], some 22, [], []⟩, ⟨[21, 22], some 23, [], []⟩, ⟨[23], some 24, [], []⟩, ⟨[20, 24], some 25, [], []⟩, ⟨[25], some 26, [], []⟩] (by kernel_rfl) (fun k9 => ?_) ?_
    ·skip
     refine .move (.no rfl) rfl rfl rfl rfl <| .move (.no rfl) rfl rfl rfl rfl <| .indexAddr (.no rfl) rfl (j) t35 rfl t72 rfl rfl rfl (.d _ _) rfl rfl rfl (map_get (by omega)) rfl rfl <| .load (.no rfl) rfl t72 rfl rfl (.d _) rfl rfl rfl rfl <| .move (.no rfl) rfl rfl rfl rfl <| .move (.no rfl) rfl rfl rfl rfl <| .indexAddr (.no rfl) rfl (j) t35 rfl t72 rfl rfl rfl (.d _ _) rfl rfl rfl (map_get (by omega)) rfl rfl <| .load (.no rfl) rfl t72 rfl rfl (.d _) rfl rfl rfl rfl <| .call (.no rfl) rfl [] [] (c_eqLine (a.getD j default) (b.getD j default)) rfl rfl rfl rfl rfl (.dd (.dd (.dd (.dd (.dd (.dd (.dd (.dd (.dd (.dd (.dd (.dd .nil)))))))))))) rfl rfl (fun h => absurd rfl h) (.own [25, 0] .nil) (.nil) rfl rfl rfl (by simp) rfl rfl rfl ?_
     refine .un (.no rfl) rfl rfl rfl rfl rfl ?_
     exact .fin () (.of (.r rfl) .nil)
    intro _
    refine .cond (t := !(Line.same (a.getD j default) (b.getD j default))) rfl (fun c2 => ?_) (fun c2 => ?_)
    ·have c2 := (nT id) c2
     refine .seq <| .rs fun k10 => .as rfl <| .z <| .ret ?_
     exact fin0 (.inr rfl) (.one (svB (show (false) = (all2 Line.same a b) by exact (all2_fail _ (j := j) (by omega) (by simpa [] using c2)).symm)) .nil) (.dd .nil) rfl
    ·have c2 := (nF id) c2
     refine .skip <| .rs fun k12 => .mv rfl <| .bi rfl <| .as rfl <| .z ?_
     exact .here (j + 1) (.of (.cons rfl (.cons rfl (.cons (svI (show (IntKind.wrap .i64 ((j : Int) + 1)) = (((j + 1) : Int)) by first | rfl | omega | exact wrap_le (by omega) (by omega) | (rw [wrap_le (by omega) (by omega)]; omega))) .nil))) .nil) ⟨(show (j + 1) ≤ a.length ∧ a.length = b.length ∧ allTo (j + 1) (fun i => Line.same (a.getD i default) (b.getD i default)) = true by exact ⟨by omega, by omega, allTo_step hI.2.2 (by simpa [] using c2)⟩), (show a.length - (j + 1) < a.length - j by omega)⟩
   ·have c1 := of_decide_eq_false c1
    refine .exit <| .seq <| .rs fun k13 => .as rfl <| .z <| .ret ?_
    exact fin0 (.inr rfl) (.one (svB (show (true) = (all2 Line.same a b) by (have hj : j = a.length := (by omega); subst hj; exact (all2_done _ hI.2.1 hI.2.2).symm))) .nil) (.dd .nil) rfl
theorem c_eqProg (a : Prog) (b : Prog) : Trip Tryz.prog 10 [(true, 4), (true, 4)] (Prog.c37 a ++ Prog.c37 b) [(false, 1)] [.v (.bool (Prog.same a b))] [] := by
 refine Trip.of Tryz.func10 (by decide) (c := _) rfl rfl (Nat.le_of_ble_eq_true rfl) rfl (AftOk.nil _) <| .sla (t := 0) 0 rfl rfl fun hs1l => .sla (t := 0) 1 rfl rfl fun hs2l => .sla (t := 0) 2 rfl rfl fun hs3l => .sla (t := 0) 3 rfl rfl fun hs4l => .sla (t := 1) 0 rfl rfl fun hs5l => .sla (t := 1) 1 rfl rfl fun hs6l => .sla (t := 1) 2 rfl rfl fun hs7l => .sla (t := 1) 3 rfl rfl fun hs8l => ?_
 refine .seq <| .rs fun k9 => .g (fun _ τ => ⟨_, .box (.no rfl) rfl rfl rfl rfl rfl τ⟩) <| .g (fun _ τ => ⟨_, .box (.no rfl) rfl rfl rfl rfl rfl τ⟩) <| .as rfl <| .z <| .seq <| .seq <| .rs fun k10 => ?_
 refine .fp t37 t34 rfl <| .lda t34 rfl (.ptr _ _ _ _ _ rfl) rfl <| .fp t37 t34 rfl <| .lda t34 rfl (.ptr _ _ _ _ _ rfl) rfl <| .c0 (c_eqDecl a.d b.d) rfl (.dd (.dd (.dd (.dd (.dd (.dd .nil)))))) (.own [9, 0] .nil) rfl <| .un rfl <| .z ?_
 refine .cond (t := !(Decl.same a.d b.d)) rfl (fun c0 => ?_) (fun c0 => ?_)
 ·have c0 := (nT id) c0
  refine .seq <| .rs fun k11 => .as rfl <| .z <| .ret ?_
  exact fin0 (.inr rfl) (.one (svB (show (false) = (Prog.same a b) by (simp_all [Prog.same]))) .nil) (.dd .nil) rfl
 ·have c0 := (nF id) c0
  refine .skip <| .seq <| .seq <| .rs fun k13 => .fp t37 t35 rfl <| .ld t35 rfl (.ptr _ _ _ _ _ rfl) rfl <| .fp t37 t35 rfl <| .ld t35 rfl (.ptr _ _ _ _ _ rfl) rfl <| .c0 (c_eqLineS a.lines b.lines) rfl (.dd (.dd .nil)) (.own [15, 0] .nil) rfl ?_
  refine .un rfl <| .z ?_
  refine .cond (t := !(all2 Line.same a.lines b.lines)) rfl (fun c1 => ?_) (fun c1 => ?_)
  ·have c1 := (nT id) c1
   refine .seq <| .rs fun k14 => .as rfl <| .z <| .ret ?_
   exact fin0 (.inr rfl) (.one (svB (show (false) = (Prog.same a b) by (simp_all [Prog.same]))) .nil) (.dd .nil) rfl
  ·have c1 := (nF id) c1
   refine .skip <| .seq <| .rs fun k16 => .as rfl <| .z <| .ret ?_
   exact fin0 (.inr rfl) (.one (svB (show (true) = (Prog.same a b) by (simp_all [Prog.same]))) .nil) (.dd .nil) rfl
end Go.Proofs

namespace Go.Proofs
open Go Go.Proofs Go.Ev

def i64c (x : Int) : List D := [.v (.int .i64 x)]
theorem i64c_e (x : Int) : (i64c x).map D.erase = i64c x := by simp [i64c, D.erase_v]
theorem i64c_o (x : Int) : ∀ d ∈ i64c x, Owned d := by simp [i64c, Owned.v]
def i44 : TI := ⟨.sl 2, 1, 24, [.slice none 0 0]⟩
theorem t44 : TyOk Tryz.prog 44 i44 := ⟨Tryz.underlying44, by kernel_rfl⟩
theorem z44 : ZOk Tryz.prog 44 i44 := ⟨t44, rfl⟩
def i165 : TI := ⟨.fn, 1, 8, [.nilFunc]⟩
theorem t165 : TyOk Tryz.prog 165 i165 := ⟨⟨_, _, _, Tryz.underlying165⟩, by kernel_rfl⟩
theorem z165 : ZOk Tryz.prog 165 i165 := ⟨t165, rfl⟩
theorem c_l3Takes (op : Int) : Trip Tryz.prog 104 [(false, 1)] ([.v (.int .i64 (op))]) [(false, 1)] [.v (.int .i64 (takesN op))] [] := by
 refine Trip.of Tryz.func104 (by decide) (c := _) rfl rfl (Nat.le_of_ble_eq_true rfl) rfl (AftOk.nil _) <| .seq <| .rs fun k1 => .as rfl <| .z <| .seq <| .block <| .seq <| .rs fun k2 => ?_
 refine .mv rfl <| .bi rfl <| .as rfl <| .z ?_
 refine .cond (t := decide (op ≤ 5)) rfl (fun c0 => ?_) (fun c0 => ?_)
 ·have c0 := of_decide_eq_true c0
  refine .seq <| .rs fun k3 => .as rfl <| .z <| .ret ?_
  exact fin0 (.inr rfl) (.one (svI (show (0) = (takesN op) by (unfold takesN; rw [if_pos c0]))) .nil) (.dd .nil) rfl
 ·have c0 := of_decide_eq_false c0
  refine .seq ?_
  refine .reg (X := Unit) (fun ζ => .of [(6, .one (.d (.v (.bool ((decide (op ≤ 7) || op == 19))))))] []) [⟨[0], some 7, [], []⟩, ⟨[7], some 8, [], []⟩, ⟨[8], some 9, [], []⟩, ⟨[9, 0], some 10, [], []⟩, ⟨[9, 10], some 11, [], []⟩, ⟨[9, 11], some 12, [], []⟩, ⟨[12], some 6, [], []⟩] (fun k5 => ?_) ?_
  ·skip
   refine .move (.no rfl) rfl rfl rfl rfl <| .bin (.no rfl) rfl rfl rfl rfl rfl rfl <| .moveB (.no rfl) rfl rfl rfl rfl fun b6 g3_2 => ?_
   cases b6
   ·skip
    refine .move (.on rfl rfl rfl rfl rfl) rfl rfl rfl rfl <| .bin (.on rfl rfl rfl rfl rfl) rfl rfl rfl rfl rfl rfl <| .pick (.no rfl) rfl rfl rfl rfl rfl <| .assign (.no rfl) rfl rfl rfl rfl ?_
    exact .fin () (.of (.cons (svB (show (op == 19) = ((decide (op ≤ 7) || op == 19)) by first | (simp only [g3_2, Bool.true_or, Bool.false_or, Bool.true_and, Bool.false_and, Bool.not_true, Bool.not_false]; done) | (simp [g3_2]; done) | (exfalso; simp_all; done))) .nil) .nil)
   ·skip
    refine .off rfl rfl rfl rfl rfl rfl rfl <| .off rfl rfl rfl rfl rfl rfl rfl <| .pick (.no rfl) rfl rfl rfl rfl rfl <| .assign (.no rfl) rfl rfl rfl rfl ?_
    exact .fin () (.of (.cons (svB (show (true) = ((decide (op ≤ 7) || op == 19)) by first | (simp only [g3_2, Bool.true_or, Bool.false_or, Bool.true_and, Bool.false_and, Bool.not_true, Bool.not_false]; done) | (simp [g3_2]; done) | (exfalso; simp_all; done))) .nil) .nil)
  intro _
  refine .cond (t := (decide (op ≤ 7) || op == 19)) rfl (fun c1 => ?_) (fun c1 => ?_)
  ·have c1 := (oT dT eT) c1
   refine .seq <| .rs fun k7 => .as rfl <| .z <| .ret ?_
   exact fin0 (.inr rfl) (.one (svI (show (1) = (takesN op) by (unfold takesN; rw [if_neg c0, if_pos c1]))) .nil) (.dd .nil) rfl
  ·have c1 := (oF dF eF) c1
   refine .skip <| .seq <| .rs fun k9 => .as rfl <| .z <| .ret ?_
   exact fin0 (.inr rfl) (.one (svI (show (2) = (takesN op) by (unfold takesN; rw [if_neg c0, if_neg (by omega)]))) .nil) (.dd .nil) rfl
theorem c_l3Kinds (op : Int) : Trip Tryz.prog 105 [(false, 1)] ([.v (.int .i64 (op))]) [(false, 1), (false, 1)] [.v (.int .i64 (kdT op)), .v (.int .i64 (kdL op))] [] := by
 refine Trip.of Tryz.func105 (by decide) (c := _) rfl rfl (Nat.le_of_ble_eq_true rfl) rfl (AftOk.nil _) <| .seq <| .rs fun k1 => .as rfl <| .as rfl <| .z <| .seq <| .block <| .seq ?_
 refine .reg (X := Unit) (fun ζ => .of [(0, .one (.d (.v (.int .i64 (op))))), (4, .one (.d (.v (.bool (((op == 3 || op == 4) || op == 5))))))] []) [⟨[0], some 5, [], []⟩, ⟨[5], some 6, [], []⟩, ⟨[6], some 7, [], []⟩, ⟨[7, 0], some 8, [], []⟩, ⟨[7, 8], some 9, [], []⟩, ⟨[7, 9], some 10, [], []⟩, ⟨[10], some 11, [], []⟩, ⟨[11, 0], some 12, [], []⟩, ⟨[11, 12], some 13, [], []⟩, ⟨[11, 13], some 14, [], []⟩, ⟨[14], some 4, [], []⟩] (fun k2 => ?_) ?_
 ·skip
  refine .move (.no rfl) rfl rfl rfl rfl <| .bin (.no rfl) rfl rfl rfl rfl rfl rfl <| .moveB (.no rfl) rfl rfl rfl rfl fun b3 g1_2 => ?_
  cases b3
  ·skip
   refine .move (.on rfl rfl rfl rfl rfl) rfl rfl rfl rfl <| .bin (.on rfl rfl rfl rfl rfl) rfl rfl rfl rfl rfl rfl <| .pick (.no rfl) rfl rfl rfl rfl rfl <| .moveB (.no rfl) rfl rfl rfl rfl fun b4 g1_6 => ?_
   cases b4
   ·skip
    refine .move (.on rfl rfl rfl rfl rfl) rfl rfl rfl rfl <| .bin (.on rfl rfl rfl rfl rfl) rfl rfl rfl rfl rfl rfl <| .pick (.no rfl) rfl rfl rfl rfl rfl <| .assign (.no rfl) rfl rfl rfl rfl ?_
    exact .fin () (.of (.cons rfl (.cons (svB (show (op == 5) = (((op == 3 || op == 4) || op == 5)) by first | (simp only [g1_2, g1_6, Bool.true_or, Bool.false_or, Bool.true_and, Bool.false_and, Bool.not_true, Bool.not_false]; done) | (simp [g1_2, g1_6]; done) | (exfalso; simp_all; done))) .nil)) .nil)
   ·skip
    refine .off rfl rfl rfl rfl rfl rfl rfl <| .off rfl rfl rfl rfl rfl rfl rfl <| .pick (.no rfl) rfl rfl rfl rfl rfl <| .assign (.no rfl) rfl rfl rfl rfl ?_
    exact .fin () (.of (.cons rfl (.cons (svB (show (true) = (((op == 3 || op == 4) || op == 5)) by first | (simp only [g1_2, g1_6, Bool.true_or, Bool.false_or, Bool.true_and, Bool.false_and, Bool.not_true, Bool.not_false]; done) | (simp [g1_2, g1_6]; done) | (exfalso; simp_all; done))) .nil)) .nil)
  ·skip
   refine .off rfl rfl rfl rfl rfl rfl rfl <| .off rfl rfl rfl rfl rfl rfl rfl <| .pick (.no rfl) rfl rfl rfl rfl rfl <| .move (.no rfl) rfl rfl rfl rfl <| .off rfl rfl rfl rfl rfl rfl rfl <| .off rfl rfl rfl rfl rfl rfl rfl <| .pick (.no rfl) rfl rfl rfl rfl rfl <| .assign (.no rfl) rfl rfl rfl rfl ?_
   exact .fin () (.of (.cons rfl (.cons (svB (show (true) = (((op == 3 || op == 4) || op == 5)) by first | (simp only [g1_2, Bool.true_or, Bool.false_or, Bool.true_and, Bool.false_and, Bool.not_true, Bool.not_false]; done) | (simp [g1_2]; done) | (exfalso; simp_all; done))) .nil)) .nil)
 intro _
 refine .cond (t := ((op == 3 || op == 4) || op == 5)) rfl (fun c0 => ?_) (fun c0 => ?_)
 ·have c0 := (oT (oT eT eT) eT) c0
  refine .seq <| .rs fun k5 => .as rfl <| .as rfl <| .z <| .ret ?_
  exact fin0 (.inr rfl) (.one (svI (show (0) = (kdT op) by (first | (unfold kdT; rw [if_pos (by omega)]) | (unfold kdL; rw [if_pos (by omega)])))) (.one (svI (show (2) = (kdL op) by (first | (unfold kdT; rw [if_pos (by omega)]) | (unfold kdL; rw [if_pos (by omega)])))) .nil)) (.dd (.dd .nil)) rfl
 ·have c0 := (oF (oF eF eF) eF) c0
  refine .seq <| .rs fun k8 => .mv rfl <| .bi rfl <| .as rfl <| .z ?_
  refine .cond (t := decide (op ≤ 12)) rfl (fun c1 => ?_) (fun c1 => ?_)
  ·have c1 := of_decide_eq_true c1
   refine .seq <| .rs fun k9 => .as rfl <| .as rfl <| .z <| .ret ?_
   exact fin0 (.inr rfl) (.one (svI (show (1) = (kdT op) by (first | (unfold kdT; rw [if_neg (by omega), if_pos c1]) | (unfold kdL; rw [if_neg (by omega), if_pos c1])))) (.one (svI (show (1) = (kdL op) by (first | (unfold kdT; rw [if_neg (by omega), if_pos c1]) | (unfold kdL; rw [if_neg (by omega), if_pos c1])))) .nil)) (.dd (.dd .nil)) rfl
  ·have c1 := of_decide_eq_false c1
   refine .seq <| .rs fun k12 => .mv rfl <| .bi rfl <| .as rfl <| .z ?_
   refine .cond (t := decide (op ≤ 18)) rfl (fun c2 => ?_) (fun c2 => ?_)
   ·have c2 := of_decide_eq_true c2
    refine .seq <| .rs fun k13 => .as rfl <| .as rfl <| .z <| .ret ?_
    exact fin0 (.inr rfl) (.one (svI (show (1) = (kdT op) by (first | (unfold kdT; rw [if_neg (by omega), if_neg c1, if_pos c2]) | (unfold kdL; rw [if_neg (by omega), if_neg c1, if_pos c2])))) (.one (svI (show (2) = (kdL op) by (first | (unfold kdT; rw [if_neg (by omega), if_neg c1, if_pos c2]) | (unfold kdL; rw [if_neg (by omega), if_neg c1, if_pos c2])))) .nil)) (.dd (.dd .nil)) rfl
   ·have c2 := of_decide_eq_false c2
    refine .skip <| .seq <| .rs fun k16 => .as rfl <| .as rfl <| .z <| .ret ?_
    exact fin0 (.inr rfl) (.one (svI (show (2) = (kdT op) by (first | (unfold kdT; rw [if_neg (by omega), if_neg c1, if_neg c2]) | (unfold kdL; rw [if_neg (by omega), if_neg c1, if_neg c2])))) (.one (svI (show (2) = (kdL op) by (first | (unfold kdT; rw [if_neg (by omega), if_neg c1, if_neg c2]) | (unfold kdL; rw [if_neg (by omega), if_neg c1, if_neg c2])))) .nil)) (.dd (.dd .nil)) rfl
theorem c_l3Tok (d : Decl) (t : Tok) : Trip Tryz.prog 106 [(true, 3), (true, 2)] (Decl.c34 d ++ Tok.c t) [(false, 1)] [.v (.bool (Tok.ok d t))] [] := by
 refine Trip.of Tryz.func106 (by decide) (c := _) rfl rfl (Nat.le_of_ble_eq_true rfl) rfl (AftOk.nil _) <| .sla (t := 0) 0 rfl rfl fun hs1l => .sla (t := 0) 1 rfl rfl fun hs2l => .sla (t := 0) 2 rfl rfl fun hs3l => .seq <| .rs fun k4 => .g (fun _ τ => ⟨_, .box (.no rfl) rfl rfl rfl rfl rfl τ⟩) <| .g (fun _ τ => ⟨_, .box (.no rfl) rfl rfl rfl rfl rfl τ⟩) <| .as rfl ?_
 refine .z <| .seq <| .seq <| .rs fun k5 => .fp t75 t2 rfl <| .ld t2 rfl (.ptr _ _ _ _ _ rfl) rfl <| .z <| .block <| .seq ?_
 refine .rs fun k6 => .bi rfl <| .as rfl <| .z ?_
 refine .cond (t := t.op == 1) rfl (fun c0 => ?_) (fun c0 => ?_)
 ·have c0 := (by simpa using c0 : t.op = 1)
  refine .seq <| .rs fun k7 => .fp t75 t2 rfl <| .ld t2 rfl (.ptr _ _ _ _ _ rfl) rfl <| .c0 (c_l1In t.n 0 999999999999999999) rfl (.dd (.dd (.dd .nil))) (.own [11, 0] .nil) rfl <| .as rfl <| .z <| .ret ?_
  exact fin0 (.inr rfl) (.one (svB (show (inR t.n 0 999999999999999999) = (Tok.ok d t) by (unfold Tok.ok; rw [if_pos c0]))) .nil) (.dd .nil) rfl
 ·have c0 := (by simpa using c0 : ¬ (t.op = 1))
  refine .seq <| .rs fun k9 => .bi rfl <| .as rfl <| .z ?_
  refine .cond (t := t.op == 2) rfl (fun c1 => ?_) (fun c1 => ?_)
  ·have c1 := (by simpa using c1 : t.op = 2)
   refine .seq <| .rs fun k10 => .fp t75 t2 rfl <| .ld t2 rfl (.ptr _ _ _ _ _ rfl) rfl <| .fp t34 t22 rfl <| .ld t22 rfl (.ptr _ _ _ _ _ rfl) rfl <| .g (fun _ τ => ⟨_, .len (.no rfl) rfl (z := (d.vars.length : Int)) t22 rfl rfl rfl (.d _ _) (map_len _ _) rfl τ⟩) <| .g (fun _ τ => ⟨_, .binN (.no rfl) rfl (show IntKind.wrap .i64 ((d.vars.length : Int) - 1) = (d.vars.length : Int) - 1 by (exact wrap_le (by omega) (by omega))) rfl rfl rfl rfl rfl τ⟩) <| .c0 (c_l1In t.n 0 ((d.vars.length : Int) - 1)) rfl (.dd (.dd (.dd .nil))) (.own [20, 0] .nil) rfl ?_
   refine .as rfl <| .z <| .ret ?_
   exact fin0 (.inr rfl) (.one (svB (show (inR t.n 0 ((d.vars.length : Int) - 1)) = (Tok.ok d t) by (unfold Tok.ok; rw [if_neg c0, if_pos c1]))) .nil) (.dd .nil) rfl
  ·have c1 := (by simpa using c1 : ¬ (t.op = 2))
   refine .seq <| .rs fun k12 => .bi rfl <| .as rfl <| .z ?_
   refine .cond (t := t.op == 3) rfl (fun c2 => ?_) (fun c2 => ?_)
   ·have c2 := (by simpa using c2 : t.op = 3)
    refine .seq <| .rs fun k13 => .fp t75 t2 rfl <| .ld t2 rfl (.ptr _ _ _ _ _ rfl) rfl <| .fp t34 t22 rfl <| .ld t22 rfl (.ptr _ _ _ _ _ rfl) rfl <| .g (fun _ τ => ⟨_, .len (.no rfl) rfl (z := (d.flags.length : Int)) t22 rfl rfl rfl (.d _ _) (map_len _ _) rfl τ⟩) <| .g (fun _ τ => ⟨_, .binN (.no rfl) rfl (show IntKind.wrap .i64 ((d.flags.length : Int) - 1) = (d.flags.length : Int) - 1 by (exact wrap_le (by omega) (by omega))) rfl rfl rfl rfl rfl τ⟩) <| .c0 (c_l1In t.n 0 ((d.flags.length : Int) - 1)) rfl (.dd (.dd (.dd .nil))) (.own [29, 0] .nil) rfl ?_
    refine .as rfl <| .z <| .ret ?_
    exact fin0 (.inr rfl) (.one (svB (show (inR t.n 0 ((d.flags.length : Int) - 1)) = (Tok.ok d t) by (unfold Tok.ok; rw [if_neg c0, if_neg c1, if_pos c2]))) .nil) (.dd .nil) rfl
   ·have c2 := (by simpa using c2 : ¬ (t.op = 3))
    refine .seq <| .rs fun k15 => .bi rfl <| .as rfl <| .z ?_
    refine .cond (t := t.op == 6) rfl (fun c3 => ?_) (fun c3 => ?_)
    ·have c3 := (by simpa using c3 : t.op = 6)
     refine .seq <| .rs fun k16 => .fp t75 t2 rfl <| .ld t2 rfl (.ptr _ _ _ _ _ rfl) rfl <| .fp t34 t32 rfl <| .ld t32 rfl (.ptr _ _ _ _ _ rfl) rfl <| .g (fun _ τ => ⟨_, .len (.no rfl) rfl (z := (d.arrays.length : Int)) t32 rfl rfl rfl (.d _ _) (map_len _ _) rfl τ⟩) <| .g (fun _ τ => ⟨_, .binN (.no rfl) rfl (show IntKind.wrap .i64 ((d.arrays.length : Int) - 1) = (d.arrays.length : Int) - 1 by (exact wrap_le (by omega) (by omega))) rfl rfl rfl rfl rfl τ⟩) <| .c0 (c_l1In t.n 0 ((d.arrays.length : Int) - 1)) rfl (.dd (.dd (.dd .nil))) (.own [38, 0] .nil) rfl ?_
     refine .as rfl <| .z <| .ret ?_
     exact fin0 (.inr rfl) (.one (svB (show (inR t.n 0 ((d.arrays.length : Int) - 1)) = (Tok.ok d t) by (unfold Tok.ok; rw [if_neg c0, if_neg c1, if_neg c2, if_pos c3]))) .nil) (.dd .nil) rfl
    ·have c3 := (by simpa using c3 : ¬ (t.op = 6))
     refine .skip <| .seq ?_
     refine .reg (X := Unit) (fun ζ => .of [(4, .one (.d (.v (.bool ((inR t.op 4 21 && t.n == 0))))))] []) [⟨[3], some 39, [], []⟩, ⟨[39], some 40, [[3]], []⟩, ⟨[40], some 41, [], []⟩, ⟨[41], some 42, [], []⟩, ⟨[42, 3], some 43, [], []⟩, ⟨[42, 43], some 44, [[3]], []⟩, ⟨[42, 44], some 45, [], []⟩, ⟨[42, 45], some 46, [], []⟩, ⟨[46], some 4, [], []⟩] (fun k18 => ?_) ?_
     ·skip
      refine .fieldAddrP (.no rfl) rfl t75 rfl rfl t2 rfl rfl rfl rfl <| .load (.no rfl) rfl t2 rfl rfl (.ptr _ _ _ _ _ rfl) rfl rfl rfl rfl <| .call (.no rfl) rfl [] [] (c_l1In t.op 4 21) rfl rfl rfl rfl rfl (.dd (.dd (.dd .nil))) rfl rfl (fun h => absurd rfl h) (.own [41, 0] .nil) (.nil) rfl rfl rfl (by simp) rfl rfl rfl <| .moveB (.no rfl) rfl rfl rfl rfl fun b19 g10_3 => ?_
      cases b19
      ·skip
       refine .off rfl rfl rfl rfl rfl rfl rfl <| .off rfl rfl rfl rfl rfl rfl rfl <| .off rfl rfl rfl rfl rfl rfl rfl <| .pick (.no rfl) rfl rfl rfl rfl rfl <| .assign (.no rfl) rfl rfl rfl rfl ?_
       exact .fin () (.of (.cons (svB (show (false) = ((inR t.op 4 21 && t.n == 0)) by first | (simp only [g10_3, Bool.true_or, Bool.false_or, Bool.true_and, Bool.false_and, Bool.not_true, Bool.not_false]; done) | (simp [g10_3]; done) | (exfalso; simp_all; done))) .nil) .nil)
      ·skip
       refine .fieldAddrP (.on rfl rfl rfl rfl rfl) rfl t75 rfl rfl t2 rfl rfl rfl rfl <| .load (.on rfl rfl rfl rfl rfl) rfl t2 rfl rfl (.ptr _ _ _ _ _ rfl) rfl rfl rfl rfl <| .bin (.on rfl rfl rfl rfl rfl) rfl rfl rfl rfl rfl rfl <| .pick (.no rfl) rfl rfl rfl rfl rfl <| .assign (.no rfl) rfl rfl rfl rfl ?_
       exact .fin () (.of (.cons (svB (show (t.n == 0) = ((inR t.op 4 21 && t.n == 0)) by first | (simp only [g10_3, Bool.true_or, Bool.false_or, Bool.true_and, Bool.false_and, Bool.not_true, Bool.not_false]; done) | (simp [g10_3]; done) | (exfalso; simp_all; done))) .nil) .nil)
     intro _
     refine .ret ?_
     exact fin0 (.inr rfl) (.one (svB (show ((inR t.op 4 21 && t.n == 0)) = (Tok.ok d t) by (unfold Tok.ok; rw [if_neg c0, if_neg c1, if_neg c2, if_neg c3]))) .nil) (.dd .nil) rfl
theorem c_sExprOk (d : Decl) (l : List Tok) (hs : ∀ x ∈ Decl.names d, x.size ≤ 9223372036854775807) (hd : d.vars.length ≤ 1048576 ∧ d.flags.length ≤ 1048576 ∧ d.arrays.length ≤ 1048576) : Trip Tryz.prog 73 [(true, 3), (false, 1)] (Decl.c34 d ++ [.sl false 75 2 (List.map Tok.c (l))]) [(false, 1)] [.v (.int .i64 (Expr.kindIn d l))] [] := by
 refine Trip.of Tryz.func73 (by decide) (c := _) rfl rfl (Nat.le_of_ble_eq_true rfl) rfl (AftOk.nil _) <| .sla (t := 0) 0 rfl rfl fun hs1l => .sla (t := 0) 1 rfl rfl fun hs2l => .sla (t := 0) 2 rfl rfl fun hs3l => .sl (t := 1) rfl fun hs4l => .seq <| .rs fun k5 => .g (fun _ τ => ⟨_, .box (.no rfl) rfl rfl rfl rfl rfl τ⟩) <| .as rfl ?_
 refine .z <| .seq <| .seq ?_
 refine .reg (X := Unit) (fun ζ => .of [(1, .one (.d (.sl false 75 2 (List.map Tok.c (l))))), (2, .one (.ptr [2] (k5) 0)), (18, .one (.d (.v (.bool ((!(Decl.ok d) || decide ((l.length : Int) > 40)))))))] [([2], (k5, k5, .box [.d (.sl false 9 1 (List.map strc (d.vars))), .d (.sl false 9 1 (List.map strc (d.flags))), .d (.sl false 115 2 (List.map Arr.c (d.arrays)))]))]) [⟨[2], some 11, [[2]], []⟩, ⟨[11], some 12, [], []⟩, ⟨[12], some 13, [], []⟩, ⟨[13], some 14, [], []⟩, ⟨[14, 1], some 15, [], []⟩, ⟨[14, 15], some 16, [], []⟩, ⟨[14, 16], some 17, [], []⟩, ⟨[14, 17], some 18, [], []⟩] (fun k6 => ?_) ?_
 ·skip
  refine .load (.no rfl) rfl t34 rfl rfl (.ptr _ _ _ _ _ rfl) rfl rfl rfl rfl <| .call (.no rfl) rfl [] [] (c_sDeclOk d (by assumption) (by assumption)) rfl rfl rfl rfl rfl (.dd (.dd (.dd .nil))) rfl rfl (fun h => absurd rfl h) (.own [12, 0] .nil) (.nil) rfl rfl rfl (by simp) rfl rfl rfl <| .un (.no rfl) rfl rfl rfl rfl rfl <| .moveB (.no rfl) rfl rfl rfl rfl fun b7 g1_3 => ?_
  cases b7
  ·skip
   refine .move (.on rfl rfl rfl rfl rfl) rfl rfl rfl rfl <| .len (.on rfl rfl rfl rfl rfl) rfl (z := (l.length : Int)) t70 rfl rfl rfl (.d _ _) (map_len _ _) rfl <| .bin (.on rfl rfl rfl rfl rfl) rfl rfl rfl rfl rfl rfl <| .pick (.no rfl) rfl rfl rfl rfl rfl ?_
   exact .fin () (.of (.cons rfl (.cons rfl (.cons (svB (show (decide ((l.length : Int) > 40)) = ((!(Decl.ok d) || decide ((l.length : Int) > 40))) by first | (simp only [g1_3, Bool.true_or, Bool.false_or, Bool.true_and, Bool.false_and, Bool.not_true, Bool.not_false]; done) | (simp [g1_3]; done) | (exfalso; simp_all; done))) .nil))) (.r rfl))
  ·skip
   refine .off rfl rfl rfl rfl rfl rfl rfl <| .off rfl rfl rfl rfl rfl rfl rfl <| .off rfl rfl rfl rfl rfl rfl rfl <| .pick (.no rfl) rfl rfl rfl rfl rfl ?_
   exact .fin () (.of (.cons rfl (.cons rfl (.cons (svB (show (true) = ((!(Decl.ok d) || decide ((l.length : Int) > 40))) by first | (simp only [g1_3, Bool.true_or, Bool.false_or, Bool.true_and, Bool.false_and, Bool.not_true, Bool.not_false]; done) | (simp [g1_3]; done) | (exfalso; simp_all; done))) .nil))) (.r rfl))
 intro _
 refine .cond (t := (!(Decl.ok d) || decide ((l.length : Int) > 40))) rfl (fun c0 => ?_) (fun c0 => ?_)
 ·have c0 := (oT (nT id) dT) c0
  have hz : Expr.kindIn d l = 0 := by unfold Expr.kindIn; rcases c0 with h | h <;> first | (rw [h]; rfl) | (rw [kind_long (by omega)]; simp)
  refine .seq <| .rs fun k8 => .as rfl <| .z <| .ret ?_
  exact fin0 (.inr rfl) (.one (svI (show (0) = (Expr.kindIn d l) by (exact hz.symm))) .nil) (.dd .nil) rfl
 ·have c0 := (oF (nF id) dF) c0
  have hz : Expr.kindIn d l = Expr.kind d l := by unfold Expr.kindIn; rw [if_pos c0.1]
  refine .skip <| .seq <| .rs fun k10 => .g (fun _ τ => ⟨_, .buildSlice (.no rfl) rfl (els := []) t44 rfl z2 rfl rfl rfl rfl rfl rfl rfl rfl (by simp [i2]) .nil rfl rfl rfl τ⟩) <| .as rfl <| .z <| .seq <| .seq <| .rs fun k11 => ?_
  refine .as rfl <| .z <| .block ?_
  refine .loop (X := Nat × List Int × Nat × Nat) (fun ζ => .of [(1, .one (.d (.sl false 75 2 (List.map Tok.c (l))))), (2, .one (.ptr [2] (k5) 0)), (5, .one (.ref [19] (ζ.2.2.1))), (6, .one (.d (.v (.int .i64 ((ζ.1 : Int))))))] [([2], (k5, k5, .box [.d (.sl false 9 1 (List.map strc (d.vars))), .d (.sl false 9 1 (List.map strc (d.flags))), .d (.sl false 115 2 (List.map Arr.c (d.arrays)))])), ([19], (ζ.2.2.1, ζ.2.2.2, .row 2 1 (List.map i64c (ζ.2.1))))]) (fun ζ => ζ.1 ≤ l.length ∧ kdS d l ζ.1 = some ζ.2.1) (fun ζ => l.length - ζ.1) ?_ ?_
  ·skip
   exact .here (0, [], k10, k10) (.of (.cons rfl (.cons rfl (.cons rfl (.cons (svI (show (0) = ((0 : Int)) by first | rfl | omega | exact wrap_le (by omega) (by omega) | (rw [wrap_le (by omega) (by omega)]; omega))) .nil)))) (.cons rfl (.cons (rowE (show [] = List.map i64c ([]) by first | with_reducible rfl | rfl | skip)) .nil))) (show 0 ≤ l.length ∧ kdS d l 0 = some [] by exact ⟨by omega, rfl⟩)
  ·rintro ⟨j, p, q12, q13⟩ hI
   have hI : j ≤ l.length ∧ kdS d l j = some p := hI
   have hp9 := kdS_len hI.2
   have ht9 := takesN_bnd (l.getD j default).op
   dsimp only
   refine .seq <| .seq <| .rs fun k14 => .mv rfl <| .mv rfl <| .g (fun _ τ => ⟨_, .len (.no rfl) rfl (z := (l.length : Int)) t70 rfl rfl rfl (.d _ _) (map_len _ _) rfl τ⟩) <| .bi rfl <| .z ?_
   refine .cond (t := decide ((j : Int) < (l.length : Int))) rfl (fun c1 => ?_) (fun c1 => ?_)
   ·have c1 := of_decide_eq_true c1
    refine .skip <| .seq <| .block <| .seq <| .rs fun k15 => .mv rfl <| .mv rfl <| .g (fun _ τ => ⟨_, .indexAddr (.no rfl) rfl (j) t70 rfl t75 rfl rfl rfl (.d _ _) rfl rfl rfl (map_get (by first | omega | (have h9 := hI; omega))) rfl rfl τ⟩) <| .g (fun _ τ => ⟨_, .fieldAddr (.no rfl) rfl t75 rfl rfl t2 rfl rfl rfl rfl [] (by simp) (by intro _ _ _ h; cases h) rfl rfl τ⟩) ?_
    refine .ld t2 rfl (.d _) rfl <| .c0 (c_l3Takes ((l.getD j default).op)) rfl (.dd .nil) (.own [31, 0] .nil) rfl <| .as rfl <| .z <| .seq <| .rs fun k16 => .mv rfl <| .mv rfl <| .g (fun _ τ => ⟨_, .indexAddr (.no rfl) rfl (j) t70 rfl t75 rfl rfl rfl (.d _ _) rfl rfl rfl (map_get (by first | omega | (have h9 := hI; omega))) rfl rfl τ⟩) ?_
    refine .g (fun _ τ => ⟨_, .fieldAddr (.no rfl) rfl t75 rfl rfl t2 rfl rfl rfl rfl [] (by simp) (by intro _ _ _ h; cases h) rfl rfl τ⟩) <| .ld t2 rfl (.d _) rfl <| .c0 (c_l3Kinds ((l.getD j default).op)) rfl (.dd .nil) (.own [38, 0] (.own [38, 1] .nil)) rfl <| .g (fun _ τ => ⟨_, .move (.no rfl) rfl rfl rfl rfl τ⟩) <| .g (fun _ τ => ⟨_, .extract (.no rfl) rfl rfl rfl rfl rfl τ⟩) <| .g (fun _ τ => ⟨_, .extract (.no rfl) rfl rfl rfl rfl rfl τ⟩) <| .as rfl <| .as rfl <| .z ?_
    refine .seq <| .seq ?_
    refine .regD (X := Unit) (by kernel_rfl) (fun ζ => .of [(1, .one (.d (.sl false 75 2 (List.map Tok.c (l))))), (2, .one (.ptr [2] (k5) 0)), (5, .one (.ref [19] (q12))), (6, .one (.d (.v (.int .i64 ((j : Int)))))), (7, .one (.d (.v (.int .i64 (takesN ((l.getD j default).op)))))), (8, .one (.d (.v (.int .i64 (kdT ((l.getD j default).op)))))), (9, .one (.d (.v (.int .i64 (kdL ((l.getD j default).op)))))), (53, .one (.d (.v (.bool ((!(Tok.ok d (l.getD j default)) || decide ((p.length : Int) < (takesN ((l.getD j default).op)))))))))] [([2], (k5, k5, .box [.d (.sl false 9 1 (List.map strc (d.vars))), .d (.sl false 9 1 (List.map strc (d.flags))), .d (.sl false 115 2 (List.map Arr.c (d.arrays)))])), ([19], (q12, q13, .row 2 1 (List.map i64c (p))))]) [⟨[2], some 41, [[2]], []⟩, ⟨[1], some 42, [], []⟩, ⟨[6], some 43, [], []⟩, ⟨[42, 43], some 44, [], []⟩, ⟨[44], some 45, [], []⟩, ⟨[41, 45], some 46, [], []⟩, ⟨[46], some 47, [], []⟩, ⟨[47], some 48, [], []⟩, ⟨[48, 5], some 49, [], []⟩, ⟨[48, 49], some 50, [[19]], []⟩, ⟨[48, 7], some 51, [], []⟩, ⟨[48, 50, 51], some 52, [], []⟩, ⟨[48, 52], some 53, [], []⟩] (by kernel_rfl) (fun k17 => ?_) ?_
    ·skip
     refine .load (.no rfl) rfl t34 rfl rfl (.ptr _ _ _ _ _ rfl) rfl rfl rfl rfl <| .move (.no rfl) rfl rfl rfl rfl <| .move (.no rfl) rfl rfl rfl rfl <| .indexAddr (.no rfl) rfl (j) t70 rfl t75 rfl rfl rfl (.d _ _) rfl rfl rfl (map_get (by first | omega | (have h9 := hI; omega))) rfl rfl <| .load (.no rfl) rfl t75 rfl rfl (.d _) rfl rfl rfl rfl <| .call (.no rfl) rfl [] [] (c_l3Tok d (l.getD j default)) rfl rfl rfl rfl rfl (.dd (.dd (.dd (.dd (.dd .nil))))) rfl rfl (fun h => absurd rfl h) (.own [46, 0] .nil) (.nil) rfl rfl rfl (by simp) rfl rfl rfl <| .un (.no rfl) rfl rfl rfl rfl rfl <| .moveB (.no rfl) rfl rfl rfl rfl fun b18 g9_7 => ?_
     cases b18
     ·skip
      refine .move (.on rfl rfl rfl rfl rfl) rfl rfl rfl rfl <| .len (.on rfl rfl rfl rfl rfl) rfl (z := (p.length : Int)) t44 rfl rfl rfl (.ref _ _ _ _ _ rfl) (map_len _ _) rfl <| .move (.on rfl rfl rfl rfl rfl) rfl rfl rfl rfl <| .bin (.on rfl rfl rfl rfl rfl) rfl rfl rfl rfl rfl rfl <| .pick (.no rfl) rfl rfl rfl rfl rfl ?_
      exact .fin () (.of (.cons rfl (.cons rfl (.cons rfl (.cons rfl (.cons rfl (.cons rfl (.cons rfl (.cons (svB (show (decide ((p.length : Int) < (takesN ((l.getD j default).op)))) = ((!(Tok.ok d (l.getD j default)) || decide ((p.length : Int) < (takesN ((l.getD j default).op))))) by first | (simp only [g9_7, Bool.true_or, Bool.false_or, Bool.true_and, Bool.false_and, Bool.not_true, Bool.not_false]; done) | (simp [g9_7]; done) | (exfalso; simp_all; done))) .nil)))))))) (.r rfl))
     ·skip
      refine .off rfl rfl rfl rfl rfl rfl rfl <| .off rfl rfl rfl rfl rfl rfl rfl <| .off rfl rfl rfl rfl rfl rfl rfl <| .off rfl rfl rfl rfl rfl rfl rfl <| .pick (.no rfl) rfl rfl rfl rfl rfl ?_
      exact .fin () (.of (.cons rfl (.cons rfl (.cons rfl (.cons rfl (.cons rfl (.cons rfl (.cons rfl (.cons (svB (show (true) = ((!(Tok.ok d (l.getD j default)) || decide ((p.length : Int) < (takesN ((l.getD j default).op))))) by first | (simp only [g9_7, Bool.true_or, Bool.false_or, Bool.true_and, Bool.false_and, Bool.not_true, Bool.not_false]; done) | (simp [g9_7]; done) | (exfalso; simp_all; done))) .nil)))))))) (.r rfl))
    intro _
    refine .cond (t := (!(Tok.ok d (l.getD j default)) || decide ((p.length : Int) < (takesN ((l.getD j default).op))))) rfl (fun c2 => ?_) (fun c2 => ?_)
    ·have c2 := (oT (nT id) dT) c2
     have hb : kdS d l (j + 1) = none := by rcases c2 with h | h; exact kdS_bad hI.2 h; by_cases ho : Tok.ok d (l.getD j default) = true; exact (kdS_go hI.2 ho).trans (kst_less (Tok.ok_op ho) h); exact kdS_bad hI.2 (by simpa using ho)
     refine .seq <| .rs fun k19 => .as rfl <| .z <| .ret ?_
     exact fin0 (.inr rfl) (.one (svI (show (0) = (Expr.kindIn d l) by (rw [hz, kind_none (by omega) hb]))) .nil) (.dd .nil) rfl
    ·have c2 := (oF (nF id) dF) c2
     have ho := Tok.ok_op c2.1
     refine .skip <| .seq <| .seq <| .rs fun k21 => .mv rfl <| .g (fun _ τ => ⟨_, .len (.no rfl) rfl (z := (p.length : Int)) t44 rfl rfl rfl (.ref _ _ _ _ _ rfl) (map_len _ _) rfl τ⟩) <| .mv rfl <| .g (fun _ τ => ⟨_, .binN (.no rfl) rfl (show IntKind.wrap .i64 ((p.length : Int) - (takesN ((l.getD j default).op))) = (p.length : Int) - takesN (l.getD j default).op by (exact wrap_le (by omega) (by omega))) rfl rfl rfl rfl rfl τ⟩) <| .as rfl ?_
     refine .z <| .block ?_
     refine .loop (X := Nat) (fun ζ => .of [(1, .one (.d (.sl false 75 2 (List.map Tok.c (l))))), (2, .one (.ptr [2] (k5) 0)), (5, .one (.ref [19] (q12))), (6, .one (.d (.v (.int .i64 ((j : Int)))))), (7, .one (.d (.v (.int .i64 (takesN ((l.getD j default).op)))))), (8, .one (.d (.v (.int .i64 (kdT ((l.getD j default).op)))))), (9, .one (.d (.v (.int .i64 (kdL ((l.getD j default).op)))))), (10, .one (.d (.v (.int .i64 ((p.length : Int) - takesN (l.getD j default).op + (ζ : Int))))))] [([2], (k5, k5, .box [.d (.sl false 9 1 (List.map strc (d.vars))), .d (.sl false 9 1 (List.map strc (d.flags))), .d (.sl false 115 2 (List.map Arr.c (d.arrays)))])), ([19], (q12, q13, .row 2 1 (List.map i64c (p))))]) (fun ζ => (ζ : Int) ≤ takesN (l.getD j default).op ∧ (∀ i : Nat, (p.length : Int) - takesN (l.getD j default).op ≤ (i : Int) → (i : Int) < (p.length : Int) - takesN (l.getD j default).op + (ζ : Int) → p.getD i default = kdT (l.getD j default).op)) (fun ζ => 2 - ζ) ?_ ?_
     ·skip
      exact .here 0 (.of (.cons rfl (.cons rfl (.cons rfl (.cons rfl (.cons rfl (.cons rfl (.cons rfl (.cons (svI (show ((p.length : Int) - takesN (l.getD j default).op) = ((p.length : Int) - takesN (l.getD j default).op + (0 : Int)) by first | rfl | omega | exact wrap_le (by omega) (by omega) | (rw [wrap_le (by omega) (by omega)]; omega))) .nil)))))))) (.r rfl)) (show (0 : Int) ≤ takesN (l.getD j default).op ∧ (∀ i : Nat, (p.length : Int) - takesN (l.getD j default).op ≤ (i : Int) → (i : Int) < (p.length : Int) - takesN (l.getD j default).op + (0 : Int) → p.getD i default = kdT (l.getD j default).op) by exact ⟨by omega, fun i h1 h2 => by omega⟩)
     ·rintro u hI
      have hI : (u : Int) ≤ takesN (l.getD j default).op ∧ (∀ i : Nat, (p.length : Int) - takesN (l.getD j default).op ≤ (i : Int) → (i : Int) < (p.length : Int) - takesN (l.getD j default).op + (u : Int) → p.getD i default = kdT (l.getD j default).op) := hI
      have hI1 := ‹j ≤ l.length ∧ _›
      refine .seq <| .seq <| .rs fun k22 => .mv rfl <| .mv rfl <| .g (fun _ τ => ⟨_, .len (.no rfl) rfl (z := (p.length : Int)) t44 rfl rfl rfl (.ref _ _ _ _ _ rfl) (map_len _ _) rfl τ⟩) <| .bi rfl <| .z ?_
      refine .cond (t := decide (((p.length : Int) - takesN (l.getD j default).op + (u : Int)) < (p.length : Int))) rfl (fun c3 => ?_) (fun c3 => ?_)
      ·have c3 := of_decide_eq_true c3
       refine .skip <| .seq <| .block <| .seq <| .rs fun k23 => .mv rfl <| .mv rfl <| .g (fun _ τ => ⟨_, .indexAddr (.no rfl) rfl (((p.length : Int) - takesN (l.getD j default).op + (u : Int)).toNat) t44 rfl t2 rfl rfl rfl (.ref _ _ _ _ _ rfl) rfl rfl (by omega) (map_get (by first | omega | (have h9 := hI; omega))) rfl rfl τ⟩) <| .ld t2 rfl (.eptr _ _ _ _ _ _ _ _ _ rfl (map_get (by first | omega | (have h9 := hI; omega)))) rfl ?_
       refine .mv rfl <| .bi rfl <| .z ?_
       refine .cond (t := (p.getD (((p.length : Int) - takesN (l.getD j default).op + (u : Int)).toNat) default) != (kdT ((l.getD j default).op))) rfl (fun c4 => ?_) (fun c4 => ?_)
       ·have c4 := (by simpa using c4 : ¬ ((p.getD (((p.length : Int) - takesN (l.getD j default).op + (u : Int)).toNat) default) = (kdT ((l.getD j default).op))))
        have hb : kdS d l (j + 1) = none := (kdS_go hI1.2 c2.1).trans (kst_wrong ho c2.2 (by omega) (by omega) c4)
        refine .seq <| .rs fun k24 => .as rfl <| .z <| .ret ?_
        exact fin0 (.inr rfl) (.one (svI (show (0) = (Expr.kindIn d l) by (rw [hz, kind_none (by omega) hb]))) .nil) (.dd .nil) rfl
       ·have c4 := (by simpa using c4 : (p.getD (((p.length : Int) - takesN (l.getD j default).op + (u : Int)).toNat) default) = (kdT ((l.getD j default).op)))
        refine .skip <| .rs fun k26 => .mv rfl <| .bi rfl <| .as rfl <| .z ?_
        exact .here (u + 1) (.of (.cons rfl (.cons rfl (.cons rfl (.cons rfl (.cons rfl (.cons rfl (.cons rfl (.cons (svI (show (IntKind.wrap .i64 (((p.length : Int) - takesN (l.getD j default).op + (u : Int)) + 1)) = ((p.length : Int) - takesN (l.getD j default).op + ((u + 1) : Int)) by first | rfl | omega | exact wrap_le (by omega) (by omega) | (rw [wrap_le (by omega) (by omega)]; omega))) .nil)))))))) (.r rfl)) ⟨(show ((u + 1) : Int) ≤ takesN (l.getD j default).op ∧ (∀ i : Nat, (p.length : Int) - takesN (l.getD j default).op ≤ (i : Int) → (i : Int) < (p.length : Int) - takesN (l.getD j default).op + ((u + 1) : Int) → p.getD i default = kdT (l.getD j default).op) by exact ⟨by omega, kd_next hI.2 c4⟩), (show 2 - (u + 1) < 2 - u by omega)⟩
      ·have c3 := of_decide_eq_false c3
       refine .exit <| .rs fun k27 => .mv rfl <| .mv rfl <| .g (fun _ τ => ⟨_, .len (.no rfl) rfl (z := (p.length : Int)) t44 rfl rfl rfl (.ref _ _ _ _ _ rfl) (map_len _ _) rfl τ⟩) <| .mv rfl <| .g (fun _ τ => ⟨_, .binN (.no rfl) rfl (show IntKind.wrap .i64 ((p.length : Int) - (takesN ((l.getD j default).op))) = (p.length : Int) - takesN (l.getD j default).op by (exact wrap_le (by omega) (by omega))) rfl rfl rfl rfl rfl τ⟩) <| .g (fun _ τ => ⟨_, .trim (.no rfl) rfl (hv := ((p.length : Int) - takesN (l.getD j default).op).toNat) (els' := List.map i64c (p.take (((p.length : Int) - takesN (l.getD j default).op).toNat))) t44 rfl t2 rfl rfl rfl rfl (by exact ⟨_, nat_iv (a := (p.length : Int) - takesN (l.getD j default).op) (by omega)⟩) (le_map (by omega)) (by rw [List.map_take]) rfl τ⟩) <| .mv rfl ?_
       refine .g (fun _ τ => ⟨_, .buildSlice (.no rfl) rfl (els := [[.v (.int .i64 (kdL ((l.getD j default).op)))]]) t44 rfl z2 rfl rfl rfl rfl rfl rfl rfl rfl (by simp [i2]) (.cons _ _ _ _ _ _ (.d _) .nil) rfl rfl rfl τ⟩) <| .g (fun _ τ => ⟨_, .append (.no rfl) rfl (l3 := List.map i64c (p.take (((p.length : Int) - takesN (l.getD j default).op).toNat) ++ [kdL ((l.getD j default).op)])) t44 rfl z2 rfl rfl rfl rfl rfl rfl rfl rfl (.ref _ _ _ _ rfl) (.take _ _ _ _ _ rfl) rfl (by first | (simp [i2]; omega) | (simp [i3]; omega)) (map_snoc _ _ _) rfl rfl τ⟩) <| .as rfl <| .z <| .rs fun k28 => .mv rfl <| .bi rfl <| .as rfl <| .z ?_
       exact .here ((j + 1), (p.take ((p.length : Int) - takesN (l.getD j default).op).toNat ++ [kdL (l.getD j default).op]), (k27 + 1 + 1 + 1 + 1 + 1 + 1 + 1 + 1), (k27 + 1 + 1 + 1 + 1 + 1 + 1 + 1 + 1)) (.of (.cons rfl (.cons rfl (.cons (by show SV.one (.ref [19] (k27 + 1 + 1 + 1 + 1 + 1 + 1 + 1 + 1)) = SV.one (.ref [19] ((k27 + 1 + 1 + 1 + 1 + 1 + 1 + 1 + 1))); first | rfl | simp_all) (.cons (svI (show (IntKind.wrap .i64 ((j : Int) + 1)) = (((j + 1) : Int)) by first | rfl | omega | exact wrap_le (by omega) (by omega) | (rw [wrap_le (by omega) (by omega)]; omega))) .nil)))) (.cons rfl (.cons (rowE (show List.map i64c (p.take (((p.length : Int) - takesN (l.getD j default).op).toNat) ++ [kdL ((l.getD j default).op)]) = List.map i64c ((p.take ((p.length : Int) - takesN (l.getD j default).op).toNat ++ [kdL (l.getD j default).op])) by first | with_reducible rfl | rfl | skip)) .nil))) ⟨(show (j + 1) ≤ l.length ∧ kdS d l (j + 1) = some (p.take ((p.length : Int) - takesN (l.getD j default).op).toNat ++ [kdL (l.getD j default).op]) by exact ⟨by omega, kd_each hI1.2 c2 hI.2 (by omega)⟩), (show l.length - (j + 1) < l.length - j by omega)⟩
   ·have c1 := of_decide_eq_false c1
    refine .exit <| .seq <| .seq <| .rs fun k29 => .mv rfl <| .g (fun _ τ => ⟨_, .len (.no rfl) rfl (z := (p.length : Int)) t44 rfl rfl rfl (.ref _ _ _ _ _ rfl) (map_len _ _) rfl τ⟩) <| .bi rfl <| .z ?_
    refine .cond (t := (p.length : Int) != 1) rfl (fun c5 => ?_) (fun c5 => ?_)
    ·have c5 := (by simpa using c5 : ¬ ((p.length : Int) = 1))
     refine .seq <| .rs fun k30 => .as rfl <| .z <| .ret ?_
     exact fin0 (.inr rfl) (.one (svI (show (0) = (Expr.kindIn d l) by (rw [hz, kind_many (by omega) hI.2 (by omega)]))) .nil) (.dd .nil) rfl
    ·have c5 := (by simpa using c5 : (p.length : Int) = 1)
     refine .skip <| .seq <| .rs fun k32 => .mv rfl <| .g (fun _ τ => ⟨_, .indexAddr (.no rfl) rfl (0) t44 rfl t2 rfl rfl rfl (.ref _ _ _ _ _ rfl) rfl rfl rfl (map_get (by first | omega | (have h9 := hI; omega))) rfl rfl τ⟩) <| .ld t2 rfl (.eptr _ _ _ _ _ _ _ _ _ rfl (map_get (by first | omega | (have h9 := hI; omega)))) rfl <| .as rfl <| .z <| .ret ?_
     exact fin0 (.inr rfl) (.one (svI (show (p.getD 0 default) = (Expr.kindIn d l) by (rw [hz, kind_one (by omega) (by omega) hI.2 (by omega)]))) .nil) (.dd .nil) rfl
theorem c_takes (op : Int) : Trip Tryz.prog 117 [(false, 1)] ([.v (.int .i64 (op))]) [(false, 1)] [.sl false 2 1 (List.map i64c (takesL op))] [] := by
 refine Trip.of Tryz.func117 (by decide) (c := _) rfl rfl (Nat.le_of_ble_eq_true rfl) rfl (AftOk.nil _) <| .seq <| .rs fun k1 => .as rfl <| .z <| .seq <| .block <| .seq ?_
 refine .reg (X := Unit) (fun ζ => .of [(0, .one (.d (.v (.int .i64 (op))))), (3, .one (.d (.v (.bool ((op == 6 || op == 7))))))] []) [⟨[0], some 4, [], []⟩, ⟨[4], some 5, [], []⟩, ⟨[5], some 6, [], []⟩, ⟨[6, 0], some 7, [], []⟩, ⟨[6, 7], some 8, [], []⟩, ⟨[6, 8], some 9, [], []⟩, ⟨[9], some 3, [], []⟩] (fun k2 => ?_) ?_
 ·skip
  refine .move (.no rfl) rfl rfl rfl rfl <| .bin (.no rfl) rfl rfl rfl rfl rfl rfl <| .moveB (.no rfl) rfl rfl rfl rfl fun b3 g1_2 => ?_
  cases b3
  ·skip
   refine .move (.on rfl rfl rfl rfl rfl) rfl rfl rfl rfl <| .bin (.on rfl rfl rfl rfl rfl) rfl rfl rfl rfl rfl rfl <| .pick (.no rfl) rfl rfl rfl rfl rfl <| .assign (.no rfl) rfl rfl rfl rfl ?_
   exact .fin () (.of (.cons rfl (.cons (svB (show (op == 7) = ((op == 6 || op == 7)) by first | (simp only [g1_2, Bool.true_or, Bool.false_or, Bool.true_and, Bool.false_and, Bool.not_true, Bool.not_false]; done) | (simp [g1_2]; done) | (exfalso; simp_all; done))) .nil)) .nil)
  ·skip
   refine .off rfl rfl rfl rfl rfl rfl rfl <| .off rfl rfl rfl rfl rfl rfl rfl <| .pick (.no rfl) rfl rfl rfl rfl rfl <| .assign (.no rfl) rfl rfl rfl rfl ?_
   exact .fin () (.of (.cons rfl (.cons (svB (show (true) = ((op == 6 || op == 7)) by first | (simp only [g1_2, Bool.true_or, Bool.false_or, Bool.true_and, Bool.false_and, Bool.not_true, Bool.not_false]; done) | (simp [g1_2]; done) | (exfalso; simp_all; done))) .nil)) .nil)
 intro _
 refine .cond (t := (op == 6 || op == 7)) rfl (fun c0 => ?_) (fun c0 => ?_)
 ·have c0 := (oT eT eT) c0
  refine .seq <| .rs fun k4 => .g (fun _ τ => ⟨_, .buildSlice (.no rfl) rfl (els := [[.v (.int .i64 (1))]]) t44 rfl z2 rfl rfl rfl rfl rfl rfl rfl rfl (by simp [i2]) (.cons _ _ _ _ _ _ (.d _) .nil) rfl rfl rfl τ⟩) <| .as rfl <| .z <| .ret ?_
  exact fin1 (.inr rfl) [[10]] [([10], (k4, k4, .row 2 1 ([[.v (.int .i64 (1))]])))] (.one rfl .nil) (.cons (Gives.castE (f := i64c) (L := [1]) (L' := takesL op) (by (unfold takesL; rw [if_pos c0])) (Reads.ref (Frz.of_erase (erase_slo true 2 1 i64c i64c ([1]) i64c_e)) (.head _) (.head _)).gives) .nil) rfl rfl (.r rfl)
 ·have c0 := (oF eF eF) c0
  refine .seq <| .rs fun k5 => .mv rfl <| .c0 (c_within op 8 18) rfl (.dd (.dd (.dd .nil))) (.own [13, 0] .nil) rfl <| .as rfl <| .z ?_
  refine .cond (t := inR op 8 18) rfl (fun c1 => ?_) (fun c1 => ?_)
  ·have c1 := c1
   refine .seq <| .rs fun k6 => .g (fun _ τ => ⟨_, .buildSlice (.no rfl) rfl (els := [[.v (.int .i64 (1))], [.v (.int .i64 (1))]]) t44 rfl z2 rfl rfl rfl rfl rfl rfl rfl rfl (by simp [i2]) (.cons _ _ _ _ _ _ (.d _) (.cons _ _ _ _ _ _ (.d _) .nil)) rfl rfl rfl τ⟩) <| .as rfl <| .z <| .ret ?_
   exact fin1 (.inr rfl) [[14]] [([14], (k6, k6, .row 2 1 ([[.v (.int .i64 (1))], [.v (.int .i64 (1))]])))] (.one rfl .nil) (.cons (Gives.castE (f := i64c) (L := [1, 1]) (L' := takesL op) (by (unfold takesL; rw [if_neg (by omega), if_pos c1])) (Reads.ref (Frz.of_erase (erase_slo true 2 1 i64c i64c ([1, 1]) i64c_e)) (.head _) (.head _)).gives) .nil) rfl rfl (.r rfl)
  ·have c1 := c1
   refine .seq <| .rs fun k7 => .mv rfl <| .bi rfl <| .as rfl <| .z ?_
   refine .cond (t := op == 19) rfl (fun c2 => ?_) (fun c2 => ?_)
   ·have c2 := (by simpa using c2 : op = 19)
    refine .seq <| .rs fun k8 => .g (fun _ τ => ⟨_, .buildSlice (.no rfl) rfl (els := [[.v (.int .i64 (2))]]) t44 rfl z2 rfl rfl rfl rfl rfl rfl rfl rfl (by simp [i2]) (.cons _ _ _ _ _ _ (.d _) .nil) rfl rfl rfl τ⟩) <| .as rfl <| .z <| .ret ?_
    exact fin1 (.inr rfl) [[18]] [([18], (k8, k8, .row 2 1 ([[.v (.int .i64 (2))]])))] (.one rfl .nil) (.cons (Gives.castE (f := i64c) (L := [2]) (L' := takesL op) (by (unfold takesL; rw [if_neg (by omega), if_neg (by rw [c1]; decide), if_pos c2])) (Reads.ref (Frz.of_erase (erase_slo true 2 1 i64c i64c ([2]) i64c_e)) (.head _) (.head _)).gives) .nil) rfl rfl (.r rfl)
   ·have c2 := (by simpa using c2 : ¬ (op = 19))
    refine .seq ?_
    refine .reg (X := Unit) (fun ζ => .of [(19, .one (.d (.v (.bool ((op == 20 || op == 21))))))] []) [⟨[0], some 20, [], []⟩, ⟨[20], some 21, [], []⟩, ⟨[21], some 22, [], []⟩, ⟨[22, 0], some 23, [], []⟩, ⟨[22, 23], some 24, [], []⟩, ⟨[22, 24], some 25, [], []⟩, ⟨[25], some 19, [], []⟩] (fun k9 => ?_) ?_
    ·skip
     refine .move (.no rfl) rfl rfl rfl rfl <| .bin (.no rfl) rfl rfl rfl rfl rfl rfl <| .moveB (.no rfl) rfl rfl rfl rfl fun b10 g7_2 => ?_
     cases b10
     ·skip
      refine .move (.on rfl rfl rfl rfl rfl) rfl rfl rfl rfl <| .bin (.on rfl rfl rfl rfl rfl) rfl rfl rfl rfl rfl rfl <| .pick (.no rfl) rfl rfl rfl rfl rfl <| .assign (.no rfl) rfl rfl rfl rfl ?_
      exact .fin () (.of (.cons (svB (show (op == 21) = ((op == 20 || op == 21)) by first | (simp only [g7_2, Bool.true_or, Bool.false_or, Bool.true_and, Bool.false_and, Bool.not_true, Bool.not_false]; done) | (simp [g7_2]; done) | (exfalso; simp_all; done))) .nil) .nil)
     ·skip
      refine .off rfl rfl rfl rfl rfl rfl rfl <| .off rfl rfl rfl rfl rfl rfl rfl <| .pick (.no rfl) rfl rfl rfl rfl rfl <| .assign (.no rfl) rfl rfl rfl rfl ?_
      exact .fin () (.of (.cons (svB (show (true) = ((op == 20 || op == 21)) by first | (simp only [g7_2, Bool.true_or, Bool.false_or, Bool.true_and, Bool.false_and, Bool.not_true, Bool.not_false]; done) | (simp [g7_2]; done) | (exfalso; simp_all; done))) .nil) .nil)
    intro _
    refine .cond (t := (op == 20 || op == 21)) rfl (fun c3 => ?_) (fun c3 => ?_)
    ·have c3 := (oT eT eT) c3
     refine .seq <| .rs fun k11 => .g (fun _ τ => ⟨_, .buildSlice (.no rfl) rfl (els := [[.v (.int .i64 (2))], [.v (.int .i64 (2))]]) t44 rfl z2 rfl rfl rfl rfl rfl rfl rfl rfl (by simp [i2]) (.cons _ _ _ _ _ _ (.d _) (.cons _ _ _ _ _ _ (.d _) .nil)) rfl rfl rfl τ⟩) <| .as rfl <| .z <| .ret ?_
     exact fin1 (.inr rfl) [[26]] [([26], (k11, k11, .row 2 1 ([[.v (.int .i64 (2))], [.v (.int .i64 (2))]])))] (.one rfl .nil) (.cons (Gives.castE (f := i64c) (L := [2, 2]) (L' := takesL op) (by (unfold takesL; rw [if_neg (by omega), if_neg (by rw [c1]; decide), if_neg c2, if_pos c3])) (Reads.ref (Frz.of_erase (erase_slo true 2 1 i64c i64c ([2, 2]) i64c_e)) (.head _) (.head _)).gives) .nil) rfl rfl (.r rfl)
    ·have c3 := (oF eF eF) c3
     refine .skip <| .seq <| .rs fun k12 => .as rfl <| .z <| .ret ?_
     exact fin0 (.inr rfl) (.one rfl .nil) (.cons (Gives.nil' (by (unfold takesL; rw [if_neg (by omega), if_neg (by rw [c1]; decide), if_neg c2, if_neg (by omega)]; rfl))) .nil) rfl
theorem c_leaves1 (op : Int) : Trip Tryz.prog 119 [(false, 1)] ([.v (.int .i64 (op))]) [(false, 1)] [.v (.int .i64 (leavesK op))] [] := by
 refine Trip.of Tryz.func119 (by decide) (c := _) rfl rfl (Nat.le_of_ble_eq_true rfl) rfl (AftOk.nil _) <| .seq <| .rs fun k1 => .as rfl <| .z <| .seq <| .seq ?_
 refine .reg (X := Unit) (fun ζ => .of [(8, .one (.d (.v (.bool ((inR op 3 5 || decide (op ≥ 13)))))))] []) [⟨[0], some 3, [], []⟩, ⟨[3], some 4, [], []⟩, ⟨[4], some 5, [], []⟩, ⟨[5, 0], some 6, [], []⟩, ⟨[5, 6], some 7, [], []⟩, ⟨[5, 7], some 8, [], []⟩] (fun k2 => ?_) ?_
 ·skip
  refine .move (.no rfl) rfl rfl rfl rfl <| .call (.no rfl) rfl [] [] (c_within op 3 5) rfl rfl rfl rfl rfl (.dd (.dd (.dd .nil))) rfl rfl (fun h => absurd rfl h) (.own [4, 0] .nil) (.nil) rfl rfl rfl (by simp) rfl rfl rfl <| .moveB (.no rfl) rfl rfl rfl rfl fun b3 g1_2 => ?_
  cases b3
  ·skip
   refine .move (.on rfl rfl rfl rfl rfl) rfl rfl rfl rfl <| .bin (.on rfl rfl rfl rfl rfl) rfl rfl rfl rfl rfl rfl <| .pick (.no rfl) rfl rfl rfl rfl rfl ?_
   exact .fin () (.of (.cons (svB (show (decide (op ≥ 13)) = ((inR op 3 5 || decide (op ≥ 13))) by first | (simp only [g1_2, Bool.true_or, Bool.false_or, Bool.true_and, Bool.false_and, Bool.not_true, Bool.not_false]; done) | (simp [g1_2]; done) | (exfalso; simp_all; done))) .nil) .nil)
  ·skip
   refine .off rfl rfl rfl rfl rfl rfl rfl <| .off rfl rfl rfl rfl rfl rfl rfl <| .pick (.no rfl) rfl rfl rfl rfl rfl ?_
   exact .fin () (.of (.cons (svB (show (true) = ((inR op 3 5 || decide (op ≥ 13))) by first | (simp only [g1_2, Bool.true_or, Bool.false_or, Bool.true_and, Bool.false_and, Bool.not_true, Bool.not_false]; done) | (simp [g1_2]; done) | (exfalso; simp_all; done))) .nil) .nil)
 intro _
 refine .cond (t := (inR op 3 5 || decide (op ≥ 13))) rfl (fun c0 => ?_) (fun c0 => ?_)
 ·have c0 := (oT id dT) c0
  refine .seq <| .rs fun k4 => .as rfl <| .z <| .ret ?_
  exact fin0 (.inr rfl) (.one (svI (show (2) = (leavesK op) by (unfold leavesK; rw [if_pos c0]))) .nil) (.dd .nil) rfl
 ·have c0 := (oF id dF) c0
  refine .skip <| .seq <| .rs fun k6 => .as rfl <| .z <| .ret ?_
  exact fin0 (.inr rfl) (.one (svI (show (1) = (leavesK op) by (unfold leavesK; rw [if_neg (by rcases c0 with ⟨h1, h2⟩; rw [h1]; simp; omega)]))) .nil) (.dd .nil) rfl
theorem c_isTok (d : Decl) (t : Tok) : Trip Tryz.prog 116 [(true, 3), (true, 2)] (Decl.c34 d ++ Tok.c t) [(false, 1)] [.v (.bool (Tok.ok d t))] [] := by
 refine Trip.of Tryz.func116 (by decide) (c := _) rfl rfl (Nat.le_of_ble_eq_true rfl) rfl (AftOk.nil _) <| .sla (t := 0) 0 rfl rfl fun hs1l => .sla (t := 0) 1 rfl rfl fun hs2l => .sla (t := 0) 2 rfl rfl fun hs3l => .seq <| .rs fun k4 => .g (fun _ τ => ⟨_, .box (.no rfl) rfl rfl rfl rfl rfl τ⟩) <| .g (fun _ τ => ⟨_, .box (.no rfl) rfl rfl rfl rfl rfl τ⟩) <| .as rfl ?_
 refine .z <| .seq <| .seq <| .rs fun k5 => .fp t75 t2 rfl <| .ld t2 rfl (.ptr _ _ _ _ _ rfl) rfl <| .z <| .block <| .seq ?_
 refine .rs fun k6 => .bi rfl <| .as rfl <| .z ?_
 refine .cond (t := t.op == 1) rfl (fun c0 => ?_) (fun c0 => ?_)
 ·have c0 := (by simpa using c0 : t.op = 1)
  refine .seq <| .rs fun k7 => .fp t75 t2 rfl <| .ld t2 rfl (.ptr _ _ _ _ _ rfl) rfl <| .c0 (c_within t.n 0 999999999999999999) rfl (.dd (.dd (.dd .nil))) (.own [11, 0] .nil) rfl <| .as rfl <| .z <| .ret ?_
  exact fin0 (.inr rfl) (.one (svB (show (inR t.n 0 999999999999999999) = (Tok.ok d t) by (unfold Tok.ok; rw [if_pos c0]))) .nil) (.dd .nil) rfl
 ·have c0 := (by simpa using c0 : ¬ (t.op = 1))
  refine .seq <| .rs fun k9 => .bi rfl <| .as rfl <| .z ?_
  refine .cond (t := t.op == 2) rfl (fun c1 => ?_) (fun c1 => ?_)
  ·have c1 := (by simpa using c1 : t.op = 2)
   refine .seq ?_
   refine .regD (X := Unit) (by kernel_rfl) (fun ζ => .of [(4, .one (.d (.v (.bool (inR t.n 0 ((d.vars.length : Int) - 1))))))] []) [⟨[3], some 14, [], []⟩, ⟨[14], some 15, [[3]], []⟩, ⟨[2], some 16, [], []⟩, ⟨[16], some 17, [[2]], []⟩, ⟨[17], some 18, [], []⟩, ⟨[18], some 19, [], []⟩, ⟨[15, 19], some 20, [], []⟩, ⟨[20], some 4, [], []⟩] (by kernel_rfl) (fun k10 => ?_) ?_
   ·skip
    refine .fieldAddrP (.no rfl) rfl t75 rfl rfl t2 rfl rfl rfl rfl <| .load (.no rfl) rfl t2 rfl rfl (.ptr _ _ _ _ _ rfl) rfl rfl rfl rfl <| .fieldAddrP (.no rfl) rfl t34 rfl rfl t22 rfl rfl rfl rfl <| .load (.no rfl) rfl t22 rfl rfl (.ptr _ _ _ _ _ rfl) rfl rfl rfl rfl <| .call (.no rfl) rfl [] [] (c_sizeS d.vars) rfl rfl rfl rfl rfl (.dd .nil) rfl rfl (fun h => absurd rfl h) (.own [18, 0] .nil) (.nil) rfl rfl rfl (by simp) rfl rfl rfl <| .binN (.no rfl) rfl (show IntKind.wrap .i64 ((d.vars.length : Int) - 1) = (d.vars.length : Int) - 1 by (exact wrap_le (by omega) (by omega))) rfl rfl rfl rfl rfl <| .call (.no rfl) rfl [] [] (c_within t.n 0 ((d.vars.length : Int) - 1)) rfl rfl rfl rfl rfl (.dd (.dd (.dd .nil))) rfl rfl (fun h => absurd rfl h) (.own [20, 0] .nil) (.nil) rfl rfl rfl (by simp) rfl rfl rfl <| .assign (.no rfl) rfl rfl rfl rfl ?_
    exact .fin () (.of (.r rfl) .nil)
   intro _
   refine .ret ?_
   exact fin0 (.inr rfl) (.one (svB (show (inR t.n 0 ((d.vars.length : Int) - 1)) = (Tok.ok d t) by (unfold Tok.ok; rw [if_neg c0, if_pos c1]))) .nil) (.dd .nil) rfl
  ·have c1 := (by simpa using c1 : ¬ (t.op = 2))
   refine .seq <| .rs fun k12 => .bi rfl <| .as rfl <| .z ?_
   refine .cond (t := t.op == 3) rfl (fun c2 => ?_) (fun c2 => ?_)
   ·have c2 := (by simpa using c2 : t.op = 3)
    refine .seq ?_
    refine .regD (X := Unit) (by kernel_rfl) (fun ζ => .of [(4, .one (.d (.v (.bool (inR t.n 0 ((d.flags.length : Int) - 1))))))] []) [⟨[3], some 23, [], []⟩, ⟨[23], some 24, [[3]], []⟩, ⟨[2], some 25, [], []⟩, ⟨[25], some 26, [[2]], []⟩, ⟨[26], some 27, [], []⟩, ⟨[27], some 28, [], []⟩, ⟨[24, 28], some 29, [], []⟩, ⟨[29], some 4, [], []⟩] (by kernel_rfl) (fun k13 => ?_) ?_
    ·skip
     refine .fieldAddrP (.no rfl) rfl t75 rfl rfl t2 rfl rfl rfl rfl <| .load (.no rfl) rfl t2 rfl rfl (.ptr _ _ _ _ _ rfl) rfl rfl rfl rfl <| .fieldAddrP (.no rfl) rfl t34 rfl rfl t22 rfl rfl rfl rfl <| .load (.no rfl) rfl t22 rfl rfl (.ptr _ _ _ _ _ rfl) rfl rfl rfl rfl <| .call (.no rfl) rfl [] [] (c_sizeS d.flags) rfl rfl rfl rfl rfl (.dd .nil) rfl rfl (fun h => absurd rfl h) (.own [27, 0] .nil) (.nil) rfl rfl rfl (by simp) rfl rfl rfl <| .binN (.no rfl) rfl (show IntKind.wrap .i64 ((d.flags.length : Int) - 1) = (d.flags.length : Int) - 1 by (exact wrap_le (by omega) (by omega))) rfl rfl rfl rfl rfl <| .call (.no rfl) rfl [] [] (c_within t.n 0 ((d.flags.length : Int) - 1)) rfl rfl rfl rfl rfl (.dd (.dd (.dd .nil))) rfl rfl (fun h => absurd rfl h) (.own [29, 0] .nil) (.nil) rfl rfl rfl (by simp) rfl rfl rfl <| .assign (.no rfl) rfl rfl rfl rfl ?_
     exact .fin () (.of (.r rfl) .nil)
    intro _
    refine .ret ?_
    exact fin0 (.inr rfl) (.one (svB (show (inR t.n 0 ((d.flags.length : Int) - 1)) = (Tok.ok d t) by (unfold Tok.ok; rw [if_neg c0, if_neg c1, if_pos c2]))) .nil) (.dd .nil) rfl
   ·have c2 := (by simpa using c2 : ¬ (t.op = 3))
    refine .seq <| .rs fun k15 => .bi rfl <| .as rfl <| .z ?_
    refine .cond (t := t.op == 6) rfl (fun c3 => ?_) (fun c3 => ?_)
    ·have c3 := (by simpa using c3 : t.op = 6)
     refine .seq ?_
     refine .regD (X := Unit) (by kernel_rfl) (fun ζ => .of [(4, .one (.d (.v (.bool (inR t.n 0 ((d.arrays.length : Int) - 1))))))] []) [⟨[3], some 32, [], []⟩, ⟨[32], some 33, [[3]], []⟩, ⟨[2], some 34, [], []⟩, ⟨[34], some 35, [[2]], []⟩, ⟨[35], some 36, [], []⟩, ⟨[36], some 37, [], []⟩, ⟨[33, 37], some 38, [], []⟩, ⟨[38], some 4, [], []⟩] (by kernel_rfl) (fun k16 => ?_) ?_
     ·skip
      refine .fieldAddrP (.no rfl) rfl t75 rfl rfl t2 rfl rfl rfl rfl <| .load (.no rfl) rfl t2 rfl rfl (.ptr _ _ _ _ _ rfl) rfl rfl rfl rfl <| .fieldAddrP (.no rfl) rfl t34 rfl rfl t32 rfl rfl rfl rfl <| .load (.no rfl) rfl t32 rfl rfl (.ptr _ _ _ _ _ rfl) rfl rfl rfl rfl <| .call (.no rfl) rfl [] [] (c_sizeA d.arrays) rfl rfl rfl rfl rfl (.dd .nil) rfl rfl (fun h => absurd rfl h) (.own [36, 0] .nil) (.nil) rfl rfl rfl (by simp) rfl rfl rfl <| .binN (.no rfl) rfl (show IntKind.wrap .i64 ((d.arrays.length : Int) - 1) = (d.arrays.length : Int) - 1 by (exact wrap_le (by omega) (by omega))) rfl rfl rfl rfl rfl <| .call (.no rfl) rfl [] [] (c_within t.n 0 ((d.arrays.length : Int) - 1)) rfl rfl rfl rfl rfl (.dd (.dd (.dd .nil))) rfl rfl (fun h => absurd rfl h) (.own [38, 0] .nil) (.nil) rfl rfl rfl (by simp) rfl rfl rfl <| .assign (.no rfl) rfl rfl rfl rfl ?_
      exact .fin () (.of (.r rfl) .nil)
     intro _
     refine .ret ?_
     exact fin0 (.inr rfl) (.one (svB (show (inR t.n 0 ((d.arrays.length : Int) - 1)) = (Tok.ok d t) by (unfold Tok.ok; rw [if_neg c0, if_neg c1, if_neg c2, if_pos c3]))) .nil) (.dd .nil) rfl
    ·have c3 := (by simpa using c3 : ¬ (t.op = 6))
     refine .skip <| .seq ?_
     refine .reg (X := Unit) (fun ζ => .of [(4, .one (.d (.v (.bool ((inR t.op 4 21 && t.n == 0))))))] []) [⟨[3], some 39, [], []⟩, ⟨[39], some 40, [[3]], []⟩, ⟨[40], some 41, [], []⟩, ⟨[41], some 42, [], []⟩, ⟨[42, 3], some 43, [], []⟩, ⟨[42, 43], some 44, [[3]], []⟩, ⟨[42, 44], some 45, [], []⟩, ⟨[42, 45], some 46, [], []⟩, ⟨[46], some 4, [], []⟩] (fun k18 => ?_) ?_
     ·skip
      refine .fieldAddrP (.no rfl) rfl t75 rfl rfl t2 rfl rfl rfl rfl <| .load (.no rfl) rfl t2 rfl rfl (.ptr _ _ _ _ _ rfl) rfl rfl rfl rfl <| .call (.no rfl) rfl [] [] (c_within t.op 4 21) rfl rfl rfl rfl rfl (.dd (.dd (.dd .nil))) rfl rfl (fun h => absurd rfl h) (.own [41, 0] .nil) (.nil) rfl rfl rfl (by simp) rfl rfl rfl <| .moveB (.no rfl) rfl rfl rfl rfl fun b19 g10_3 => ?_
      cases b19
      ·skip
       refine .off rfl rfl rfl rfl rfl rfl rfl <| .off rfl rfl rfl rfl rfl rfl rfl <| .off rfl rfl rfl rfl rfl rfl rfl <| .pick (.no rfl) rfl rfl rfl rfl rfl <| .assign (.no rfl) rfl rfl rfl rfl ?_
       exact .fin () (.of (.cons (svB (show (false) = ((inR t.op 4 21 && t.n == 0)) by first | (simp only [g10_3, Bool.true_or, Bool.false_or, Bool.true_and, Bool.false_and, Bool.not_true, Bool.not_false]; done) | (simp [g10_3]; done) | (exfalso; simp_all; done))) .nil) .nil)
      ·skip
       refine .fieldAddrP (.on rfl rfl rfl rfl rfl) rfl t75 rfl rfl t2 rfl rfl rfl rfl <| .load (.on rfl rfl rfl rfl rfl) rfl t2 rfl rfl (.ptr _ _ _ _ _ rfl) rfl rfl rfl rfl <| .bin (.on rfl rfl rfl rfl rfl) rfl rfl rfl rfl rfl rfl <| .pick (.no rfl) rfl rfl rfl rfl rfl <| .assign (.no rfl) rfl rfl rfl rfl ?_
       exact .fin () (.of (.cons (svB (show (t.n == 0) = ((inR t.op 4 21 && t.n == 0)) by first | (simp only [g10_3, Bool.true_or, Bool.false_or, Bool.true_and, Bool.false_and, Bool.not_true, Bool.not_false]; done) | (simp [g10_3]; done) | (exfalso; simp_all; done))) .nil) .nil)
     intro _
     refine .ret ?_
     exact fin0 (.inr rfl) (.one (svB (show ((inR t.op 4 21 && t.n == 0)) = (Tok.ok d t) by (unfold Tok.ok; rw [if_neg c0, if_neg c1, if_neg c2, if_neg c3]))) .nil) (.dd .nil) rfl
theorem c_IndexFuncK (l : List Tok) (F_p : FuncId) (first_p : List (Bool × List D)) (caps_p : List D) (p : Tok → Bool) (h_p : ∀ (x0 : Tok), FnTrip Tryz.prog F_p first_p caps_p [(true, 2)] (Tok.c x0) [(false, 1)] [.v (.bool (p x0))]) : Trip Tryz.prog 148 [(false, 1), (false, 1)] ([.sl false 75 2 (List.map Tok.c (l))] ++ [.fn F_p first_p caps_p]) [(false, 1)] [.v (.int .i64 (idx p l))] [] := by
 refine Trip.of Tryz.func148 (by decide) (c := _) rfl rfl (Nat.le_of_ble_eq_true rfl) rfl (AftOk.nil _) <| .sl (t := 0) rfl fun hs1l => .seq <| .rs fun k2 => .as rfl <| .z <| .seq <| .seq <| .rs fun k3 => ?_
 refine .mv rfl <| .g (fun _ τ => ⟨_, .len (.no rfl) rfl (z := (l.length : Int)) t70 rfl rfl rfl (.d _ _) (map_len _ _) rfl τ⟩) <| .mv rfl <| .z <| .block ?_
 refine .loop (X := Nat) (fun ζ => .of [(0, .one (.d (.sl false 75 2 (List.map Tok.c (l))))), (1, .one (.d (.fn F_p first_p caps_p))), (7, .one (.d (.v (.int .i64 ((l.length : Int)))))), (8, .one (.d (.v (.int .i64 ((ζ : Int))))))] []) (fun ζ => ζ ≤ l.length ∧ allTo ζ (fun i => !p (l.getD i default)) = true) (fun ζ => l.length - ζ) ?_ ?_
 ·skip
  exact .here 0 (.of (.cons rfl (.cons rfl (.cons rfl (.cons (svI (show (0) = ((0 : Int)) by first | rfl | omega | exact wrap_le (by omega) (by omega) | (rw [wrap_le (by omega) (by omega)]; omega))) .nil)))) .nil) (show 0 ≤ l.length ∧ allTo 0 (fun i => !p (l.getD i default)) = true by exact ⟨by omega, rfl⟩)
 ·rintro j hI
  have hI : j ≤ l.length ∧ allTo j (fun i => !p (l.getD i default)) = true := hI
  refine .seq <| .rs fun k4 => .bi rfl <| .z <| .seq ?_
  refine .cond (t := decide ((j : Int) < (l.length : Int))) rfl (fun c0 => ?_) (fun c0 => ?_)
  ·have c0 := of_decide_eq_true c0
   refine .skip <| .seq <| .block <| .seq <| .rs fun k5 => .mv rfl <| .as rfl <| .z <| .seq ?_
   refine .rs fun k6 => .mv rfl <| .mv rfl <| .mv rfl <| .g (fun _ τ => ⟨_, .indexAddr (.no rfl) rfl (j) t70 rfl t75 rfl rfl rfl (.d _ _) rfl rfl rfl (map_get (by omega)) rfl rfl τ⟩) <| .lda t75 rfl (.d _) rfl <| .g (fun _ τ => ⟨_, .callF (.no rfl) rfl (ds := [.v (.int .i64 ((l.getD j default).op)), .v (.int .i64 ((l.getD j default).n))]) (h_p (l.getD j default)) rfl rfl rfl rfl (.own [16, 0] .nil) rfl rfl rfl rfl rfl rfl τ⟩) <| .z ?_
   refine .cond (t := p (l.getD j default)) rfl (fun c1 => ?_) (fun c1 => ?_)
   ·have c1 := c1
    refine .seq <| .rs fun k7 => .mv rfl <| .as rfl <| .z <| .ret ?_
    exact fin0 (.inr rfl) (.one (svI (show ((j : Int)) = (idx p l) by exact (idx_found (j := j) (by omega) hI.2 (by simpa using c1)).symm)) .nil) (.dd .nil) rfl
   ·have c1 := c1
    refine .skip <| .rs fun k9 => .bi rfl <| .mv rfl <| .z ?_
    exact .here (j + 1) (.of (.cons rfl (.cons rfl (.cons rfl (.cons (svI (show (IntKind.wrap .i64 ((j : Int) + 1)) = (((j + 1) : Int)) by first | rfl | omega | exact wrap_le (by omega) (by omega) | (rw [wrap_le (by omega) (by omega)]; omega))) .nil)))) .nil) ⟨(show (j + 1) ≤ l.length ∧ allTo (j + 1) (fun i => !p (l.getD i default)) = true by exact ⟨by omega, allTo_step hI.2 (by simpa using c1)⟩), (show l.length - (j + 1) < l.length - j by omega)⟩
  ·have c0 := of_decide_eq_false c0
   refine .exit <| .seq <| .rs fun k10 => .as rfl <| .z <| .ret ?_
   exact fin0 (.inr rfl) (.one (svI (show (-1) = (idx p l) by exact (idx_none (by omega) hI.2).symm)) .nil) (.dd .nil) rfl
theorem c_ContainsFuncK (l : List Tok) (F_p : FuncId) (first_p : List (Bool × List D)) (caps_p : List D) (p : Tok → Bool) (h_p : ∀ (x0 : Tok), FnTrip Tryz.prog F_p first_p caps_p [(true, 2)] (Tok.c x0) [(false, 1)] [.v (.bool (p x0))]) : Trip Tryz.prog 137 [(false, 1), (false, 1)] ([.sl false 75 2 (List.map Tok.c (l))] ++ [.fn F_p first_p caps_p]) [(false, 1)] [.v (.bool (l.any p))] [] := by
 refine Trip.of Tryz.func137 (by decide) (c := _) rfl rfl (Nat.le_of_ble_eq_true rfl) rfl (AftOk.nil _) <| .sl (t := 0) rfl fun hs1l => .seq <| .rs fun k2 => .as rfl <| .z <| .seq <| .rs fun k3 => .mv rfl ?_
 refine .mv rfl <| .c0 (c_IndexFuncK l F_p first_p caps_p p h_p) rfl (.dd (.dd .nil)) (.own [7, 0] .nil) rfl <| .bi rfl <| .as rfl <| .z <| .ret ?_
 exact fin0 (.inr rfl) (.one (svB (show (decide ((idx p l) ≥ 0)) = (l.any p) by exact idx_any _ _)) .nil) (.dd .nil) rfl
theorem c_areAll1K (x : Tok) (F_p : FuncId) (first_p : List (Bool × List D)) (caps_p : List D) (p : Tok → Bool) (h_p : ∀ (x0 : Tok), FnTrip Tryz.prog F_p first_p caps_p [(true, 2)] (Tok.c x0) [(false, 1)] [.v (.bool (p x0))]) : Trip Tryz.prog 138 [(true, 2), (false, 1)] (Tok.c x ++ [.pt false [.fn F_p first_p caps_p]]) [(false, 1)] [.v (.bool (!p x))] [] := by
 refine Trip.of Tryz.func138 (by decide) (c := _) rfl rfl (Nat.le_of_ble_eq_true rfl) rfl (AftOk.nil _) <| .seq <| .rs fun k1 => .g (fun _ τ => ⟨_, .box (.no rfl) rfl rfl rfl rfl rfl τ⟩) <| .as rfl <| .z <| .seq <| .rs fun k2 => .ld t165 rfl (.d _) rfl ?_
 refine .lda t75 rfl (.ptr _ _ _ _ _ rfl) rfl <| .g (fun _ τ => ⟨_, .callF (.no rfl) rfl (ds := [.v (.int .i64 (x.op)), .v (.int .i64 (x.n))]) (h_p x) rfl rfl rfl rfl (.own [6, 0] .nil) rfl rfl rfl rfl rfl rfl τ⟩) <| .un rfl <| .as rfl <| .z <| .ret ?_
 exact fin0 (.inr rfl) (.one (svB (show (!(p x)) = (!p x) by rfl)) .nil) (.dd .nil) rfl
theorem c_areAllK (l : List Tok) (F_p : FuncId) (first_p : List (Bool × List D)) (caps_p : List D) (p : Tok → Bool) (h_p : ∀ (x0 : Tok), FnTrip Tryz.prog F_p first_p caps_p [(true, 2)] (Tok.c x0) [(false, 1)] [.v (.bool (p x0))]) : Trip Tryz.prog 115 [(false, 1), (false, 1)] ([.sl false 75 2 (List.map Tok.c (l))] ++ [.fn F_p first_p caps_p]) [(false, 1)] [.v (.bool (l.all p))] [] := by
 refine Trip.of Tryz.func115 (by decide) (c := _) rfl rfl (Nat.le_of_ble_eq_true rfl) rfl (AftOk.nil _) <| .sl (t := 0) rfl fun hs1l => .seq <| .rs fun k2 => .g (fun _ τ => ⟨_, .box (.no rfl) rfl rfl rfl rfl rfl τ⟩) <| .as rfl <| .z <| .seq <| .rs fun k3 => ?_
 refine .mv rfl <| .g (fun _ τ => ⟨_, .makeFunc (.no rfl) rfl rfl rfl rfl rfl τ⟩) <| .g (fun _ τ => ⟨_, .call (.no rfl) rfl [[3]] [([3], (k2, k2, .box [.d (.fn F_p first_p caps_p)]))] (c_ContainsFuncK l 138 [] [.pt false [.fn F_p first_p caps_p]] (fun x0 => !p x0) (fun x0 => c_areAll1K x0 F_p first_p caps_p p h_p)) rfl rfl rfl rfl rfl (.dd (.cons (Reads.clo0 (.cons (Reads.ptr0 (.head _) (.head _) (.cons (Reads.d _) .nil)) .nil)).gives .nil)) rfl rfl (fun _ => (ownCons (Owned.v _) ownNil)) (.own [7, 0] .nil) (.nil) rfl rfl rfl (AllH.get (.r rfl)) rfl rfl rfl τ⟩) <| .un rfl <| .as rfl <| .z <| .ret ?_
 exact fin0 (.inr rfl) (.one (svB (show (!(l.any (fun x0 => !p x0))) = (l.all p) by exact not_any _ _)) .nil) (.dd .nil) rfl
theorem c_EqualN (a : List Int) (b : List Int) : Trip Tryz.prog 118 [(false, 1), (false, 1)] ([.sl false 2 1 (List.map i64c (a))] ++ [.sl false 2 1 (List.map i64c (b))]) [(false, 1)] [.v (.bool (all2 intEq a b))] [] := by
 refine Trip.of Tryz.func118 (by decide) (c := _) rfl rfl (Nat.le_of_ble_eq_true rfl) rfl (AftOk.nil _) <| .sl (t := 0) rfl fun hs1l => .sl (t := 1) rfl fun hs2l => .seq <| .rs fun k3 => .as rfl <| .z <| .seq <| .seq ?_
 refine .rs fun k4 => .mv rfl <| .g (fun _ τ => ⟨_, .len (.no rfl) rfl (z := (a.length : Int)) t44 rfl rfl rfl (.d _ _) (map_len _ _) rfl τ⟩) <| .mv rfl <| .g (fun _ τ => ⟨_, .len (.no rfl) rfl (z := (b.length : Int)) t44 rfl rfl rfl (.d _ _) (map_len _ _) rfl τ⟩) <| .bi rfl <| .z ?_
 refine .cond (t := (a.length : Int) != (b.length : Int)) rfl (fun c0 => ?_) (fun c0 => ?_)
 ·have c0 := (by simpa using c0 : ¬ ((a.length : Int) = (b.length : Int)))
  refine .seq <| .rs fun k5 => .as rfl <| .z <| .ret ?_
  exact fin0 (.inr rfl) (.one (svB (show (false) = (all2 intEq a b) by exact (all2_ne _ (by simpa using c0)).symm)) .nil) (.dd .nil) rfl
 ·have c0 := (by simpa using c0 : (a.length : Int) = (b.length : Int))
  refine .skip <| .seq <| .seq <| .rs fun k7 => .mv rfl <| .g (fun _ τ => ⟨_, .len (.no rfl) rfl (z := (a.length : Int)) t44 rfl rfl rfl (.d _ _) (map_len _ _) rfl τ⟩) <| .mv rfl <| .z <| .block ?_
  refine .loop (X := Nat) (fun ζ => .of [(0, .one (.d (.sl false 2 1 (List.map i64c (a))))), (1, .one (.d (.sl false 2 1 (List.map i64c (b))))), (12, .one (.d (.v (.int .i64 ((a.length : Int)))))), (13, .one (.d (.v (.int .i64 ((ζ : Int))))))] []) (fun ζ => ζ ≤ a.length ∧ a.length = b.length ∧ allTo ζ (fun i => intEq (a.getD i default) (b.getD i default)) = true) (fun ζ => a.length - ζ) ?_ ?_
  ·skip
   exact .here 0 (.of (.cons rfl (.cons rfl (.cons rfl (.cons (svI (show (0) = ((0 : Int)) by first | rfl | omega | exact wrap_le (by omega) (by omega) | (rw [wrap_le (by omega) (by omega)]; omega))) .nil)))) .nil) (show 0 ≤ a.length ∧ a.length = b.length ∧ allTo 0 (fun i => intEq (a.getD i default) (b.getD i default)) = true by exact ⟨by omega, by (first | omega | (simp at c0; omega)), rfl⟩)
  ·rintro j hI
   have hI : j ≤ a.length ∧ a.length = b.length ∧ allTo j (fun i => intEq (a.getD i default) (b.getD i default)) = true := hI
   refine .seq <| .rs fun k8 => .bi rfl <| .z <| .seq ?_
   refine .cond (t := decide ((j : Int) < (a.length : Int))) rfl (fun c1 => ?_) (fun c1 => ?_)
   ·have c1 := of_decide_eq_true c1
    refine .skip <| .seq <| .block <| .seq <| .rs fun k9 => .mv rfl <| .as rfl <| .z <| .seq ?_
    refine .regD (X := Unit) (by kernel_rfl) (fun ζ => .of [(0, .one (.d (.sl false 2 1 (List.map i64c (a))))), (1, .one (.d (.sl false 2 1 (List.map i64c (b))))), (12, .one (.d (.v (.int .i64 ((a.length : Int)))))), (13, .one (.d (.v (.int .i64 ((j : Int)))))), (24, .one (.d (.v (.bool ((a.getD j default) != (b.getD j default))))))] []) [⟨[0], some 16, [], []⟩, ⟨[5], some 17, [], []⟩, ⟨[16, 17], some 18, [], []⟩, ⟨[18], some 19, [], []⟩, ⟨[1], some 20, [], []⟩, ⟨[5], some 21, [], []⟩, ⟨[20, 21], some 22, [], []⟩, ⟨[22], some 23, [], []⟩, ⟨[19, 23], some 24, [], []⟩] (by kernel_rfl) (fun k10 => ?_) ?_
    ·skip
     refine .move (.no rfl) rfl rfl rfl rfl <| .move (.no rfl) rfl rfl rfl rfl <| .indexAddr (.no rfl) rfl (j) t44 rfl t2 rfl rfl rfl (.d _ _) rfl rfl rfl (map_get (by omega)) rfl rfl <| .load (.no rfl) rfl t2 rfl rfl (.d _) rfl rfl rfl rfl <| .move (.no rfl) rfl rfl rfl rfl <| .move (.no rfl) rfl rfl rfl rfl <| .indexAddr (.no rfl) rfl (j) t44 rfl t2 rfl rfl rfl (.d _ _) rfl rfl rfl (map_get (by omega)) rfl rfl <| .load (.no rfl) rfl t2 rfl rfl (.d _) rfl rfl rfl rfl <| .bin (.no rfl) rfl rfl rfl rfl rfl rfl ?_
     exact .fin () (.of (.r rfl) .nil)
    intro _
    refine .cond (t := (a.getD j default) != (b.getD j default)) rfl (fun c2 => ?_) (fun c2 => ?_)
    ·have c2 := (by simpa using c2 : ¬ ((a.getD j default) = (b.getD j default)))
     refine .seq <| .rs fun k11 => .as rfl <| .z <| .ret ?_
     exact fin0 (.inr rfl) (.one (svB (show (false) = (all2 intEq a b) by exact (all2_fail _ (j := j) (by omega) (by simpa [intEq] using c2)).symm)) .nil) (.dd .nil) rfl
    ·have c2 := (by simpa using c2 : (a.getD j default) = (b.getD j default))
     refine .skip <| .rs fun k13 => .bi rfl <| .mv rfl <| .z ?_
     exact .here (j + 1) (.of (.cons rfl (.cons rfl (.cons rfl (.cons (svI (show (IntKind.wrap .i64 ((j : Int) + 1)) = (((j + 1) : Int)) by first | rfl | omega | exact wrap_le (by omega) (by omega) | (rw [wrap_le (by omega) (by omega)]; omega))) .nil)))) .nil) ⟨(show (j + 1) ≤ a.length ∧ a.length = b.length ∧ allTo (j + 1) (fun i => intEq (a.getD i default) (b.getD i default)) = true by exact ⟨by omega, by omega, allTo_step hI.2.2 (by simpa [intEq] using c2)⟩), (show a.length - (j + 1) < a.length - j by omega)⟩
   ·have c1 := of_decide_eq_false c1
    refine .exit <| .seq <| .rs fun k14 => .as rfl <| .z <| .ret ?_
    exact fin0 (.inr rfl) (.one (svB (show (true) = (all2 intEq a b) by (have hj : j = a.length := (by omega); subst hj; exact (all2_done _ hI.2.1 hI.2.2).symm))) .nil) (.dd .nil) rfl
end Go.Proofs

namespace Go.Proofs
open Go Go.Proofs Go.Ev

theorem c_kindOf (d : Decl) (l : List Tok) : Trip Tryz.prog 87 [(true, 3), (false, 1)] (Decl.c34 d ++ [.sl false 75 2 (List.map Tok.c (l))]) [(false, 1)] [.v (.int .i64 (Expr.kind d l))] [] := by
 refine Trip.of Tryz.func87 (by decide) (c := _) rfl rfl (Nat.le_of_ble_eq_true rfl) rfl (AftOk.nil _) <| .sla (t := 0) 0 rfl rfl fun hs1l => .sla (t := 0) 1 rfl rfl fun hs2l => .sla (t := 0) 2 rfl rfl fun hs3l => .sl (t := 1) rfl fun hs4l => .seq <| .rs fun k5 => .g (fun _ τ => ⟨_, .box (.no rfl) rfl rfl rfl rfl rfl τ⟩) <| .as rfl ?_
 refine .z <| .seq <| .seq ?_
 refine .reg (X := Unit) (fun ζ => .of [(1, .one (.d (.sl false 75 2 (List.map Tok.c (l))))), (19, .one (.d (.v (.bool ((decide ((l.length : Int) > 40) || !(l.all (fun x0 => Tok.ok d x0))))))))] []) [⟨[1], some 10, [], []⟩, ⟨[10], some 11, [], []⟩, ⟨[11], some 12, [], []⟩, ⟨[12], some 13, [], []⟩, ⟨[13, 1], some 14, [], []⟩, ⟨[13, 2], some 15, [[2]], []⟩, ⟨[13, 15], some 16, [], []⟩, ⟨[13, 14, 16], some 17, [], []⟩, ⟨[13, 17], some 18, [], []⟩, ⟨[13, 18], some 19, [], []⟩] (fun k6 => ?_) ?_
 ·skip
  refine .move (.no rfl) rfl rfl rfl rfl <| .len (.no rfl) rfl (z := (l.length : Int)) t70 rfl rfl rfl (.d _ _) (map_len _ _) rfl <| .bin (.no rfl) rfl rfl rfl rfl rfl rfl <| .moveB (.no rfl) rfl rfl rfl rfl fun b7 g1_3 => ?_
  cases b7
  ·skip
   refine .move (.on rfl rfl rfl rfl rfl) rfl rfl rfl rfl <| .load (.on rfl rfl rfl rfl rfl) rfl t34 rfl rfl (.ptr _ _ _ _ _ rfl) rfl rfl rfl rfl <| .makeFunc (.on rfl rfl rfl rfl rfl) rfl rfl rfl rfl rfl <| .call (.on rfl rfl rfl rfl rfl) rfl [] [] (c_areAllK l 116 [(true, [.sl false 9 1 (List.map strc (d.vars)), .sl false 9 1 (List.map strc (d.flags)), .sl false 115 2 (List.map Arr.c (d.arrays))])] [] (fun x0 => Tok.ok d x0) (fun x0 => c_isTok d x0)) rfl rfl rfl rfl rfl (.dd (.cons (Reads.clo1 (.cons (Reads.d _) (.cons (Reads.d _) (.cons (Reads.d _) .nil))) (.nil)).gives .nil)) rfl rfl (fun h => absurd rfl h) (.own [17, 0] .nil) (.nil) rfl rfl rfl (by simp) rfl rfl rfl <| .un (.on rfl rfl rfl rfl rfl) rfl rfl rfl rfl rfl <| .pick (.no rfl) rfl rfl rfl rfl rfl ?_
   exact .fin () (.of (.cons rfl (.cons (svB (show (!(l.all (fun x0 => Tok.ok d x0))) = ((decide ((l.length : Int) > 40) || !(l.all (fun x0 => Tok.ok d x0)))) by first | (simp only [g1_3, Bool.true_or, Bool.false_or, Bool.true_and, Bool.false_and, Bool.not_true, Bool.not_false]; done) | (simp [g1_3]; done) | (exfalso; simp_all; done))) .nil)) .nil)
  ·skip
   refine .off rfl rfl rfl rfl rfl rfl rfl <| .off rfl rfl rfl rfl rfl rfl rfl <| .off rfl rfl rfl rfl rfl rfl rfl <| .off rfl rfl rfl rfl rfl rfl rfl <| .off rfl rfl rfl rfl rfl rfl rfl <| .pick (.no rfl) rfl rfl rfl rfl rfl ?_
   exact .fin () (.of (.cons rfl (.cons (svB (show (true) = ((decide ((l.length : Int) > 40) || !(l.all (fun x0 => Tok.ok d x0)))) by first | (simp only [g1_3, Bool.true_or, Bool.false_or, Bool.true_and, Bool.false_and, Bool.not_true, Bool.not_false]; done) | (simp [g1_3]; done) | (exfalso; simp_all; done))) .nil)) .nil)
 intro _
 refine .cond (t := (decide ((l.length : Int) > 40) || !(l.all (fun x0 => Tok.ok d x0)))) rfl (fun c0 => ?_) (fun c0 => ?_)
 ·have c0 := (oT dT (nT id)) c0
  refine .seq <| .rs fun k8 => .as rfl <| .z <| .ret ?_
  exact fin0 (.inr rfl) (.one (svI (show (0) = (Expr.kind d l) by (rcases c0 with h | h; exact (kind_long (by omega)).symm; exact (kind_bad h).symm))) .nil) (.dd .nil) rfl
 ·have c0 := (oF dF (nF id)) c0
  have ha : ∀ i, i < l.length → Tok.ok d (l.getD i default) = true := fun i hi => List.all_eq_true.1 c0.2 _ (getD_mem hi)
  refine .skip <| .seq <| .rs fun k10 => .as rfl <| .z <| .seq <| .seq <| .rs fun k11 => .mv rfl ?_
  refine .g (fun _ τ => ⟨_, .len (.no rfl) rfl (z := (l.length : Int)) t70 rfl rfl rfl (.d _ _) (map_len _ _) rfl τ⟩) <| .mv rfl <| .z <| .block ?_
  refine .loop (X := Nat × List Int × Nat × Nat) (fun ζ => .of [(5, .one (.ref [51] (ζ.2.2.1))), (20, .one (.d (.sl false 75 2 (List.map Tok.c (l))))), (21, .one (.d (.v (.int .i64 ((l.length : Int)))))), (22, .one (.d (.v (.int .i64 ((ζ.1 : Int))))))] [([51], (ζ.2.2.1, ζ.2.2.2, .row 2 1 (List.map i64c (ζ.2.1))))]) (fun ζ => ζ.1 ≤ l.length ∧ kdS d l ζ.1 = some ζ.2.1) (fun ζ => l.length - ζ.1) ?_ ?_
  ·skip
   refine .nilRow 5 [51] 2 1 rfl fun k14 => ?_
   exact .here (0, [], k14, k14) (.of (.cons rfl (.cons rfl (.cons rfl (.cons (svI (show (0) = ((0 : Int)) by first | rfl | omega | exact wrap_le (by omega) (by omega) | (rw [wrap_le (by omega) (by omega)]; omega))) .nil)))) (.cons (rowE (show [] = List.map i64c ([]) by first | with_reducible rfl | rfl)) .nil)) (show 0 ≤ l.length ∧ kdS d l 0 = some [] by exact ⟨by omega, rfl⟩)
  ·rintro ⟨j, p, q12, q13⟩ hI
   have hI : j ≤ l.length ∧ kdS d l j = some p := hI
   have hp9 := kdS_len hI.2
   have ht9 := takesL_len (l.getD j default).op
   dsimp only
   refine .seq <| .rs fun k15 => .bi rfl <| .z <| .seq ?_
   refine .cond (t := decide ((j : Int) < (l.length : Int))) rfl (fun c1 => ?_) (fun c1 => ?_)
   ·have c1 := of_decide_eq_true c1
    refine .skip <| .seq <| .block <| .seq <| .rs fun k16 => .g (fun _ τ => ⟨_, .indexAddr (.no rfl) rfl (j) t70 rfl t75 rfl rfl rfl (.d _ _) rfl rfl rfl (map_get (by omega)) rfl rfl τ⟩) <| .lda t75 rfl (.d _) rfl <| .g (fun _ τ => ⟨_, .alloc (.no rfl) rfl z75 rfl rfl rfl τ⟩) <| .g (fun _ τ => ⟨_, .store (.no rfl) rfl t75 rfl rfl rfl rfl rfl rfl rfl rfl rfl τ⟩) ?_
    refine .z <| .seq <| .rs fun k17 => .fp t75 t2 rfl <| .ld t2 rfl (.ptr _ _ _ _ _ rfl) rfl <| .c0 (c_takes ((l.getD j default).op)) rfl (.dd .nil) (.own [28, 0] .nil) rfl <| .as rfl <| .z <| .seq ?_
    refine .rs fun k18 => .mv rfl <| .g (fun _ τ => ⟨_, .len (.no rfl) rfl (z := (p.length : Int)) t44 rfl rfl rfl (.ref _ _ _ _ _ rfl) (map_len _ _) rfl τ⟩) <| .mv rfl <| .g (fun _ τ => ⟨_, .len (.no rfl) rfl (z := ((takesL ((l.getD j default).op)).length : Int)) t44 rfl rfl rfl (.d _ _) (map_len _ _) rfl τ⟩) <| .g (fun _ τ => ⟨_, .binN (.no rfl) rfl (show IntKind.wrap .i64 ((p.length : Int) - ((takesL ((l.getD j default).op)).length : Int)) = (p.length : Int) - ((takesL (l.getD j default).op).length : Int) by (exact wrap_le (by omega) (by omega))) rfl rfl rfl rfl rfl τ⟩) <| .as rfl <| .z <| .seq ?_
    refine .seq ?_
    refine .reg (X := Unit) (fun ζ => .of [(5, .one (.ref [51] (q12))), (7, .one (.ptr [7] (k16 + 1 + 1) 0)), (9, .one (.d (.v (.int .i64 ((p.length : Int) - ((takesL (l.getD j default).op).length : Int)))))), (20, .one (.d (.sl false 75 2 (List.map Tok.c (l))))), (21, .one (.d (.v (.int .i64 ((l.length : Int)))))), (22, .one (.d (.v (.int .i64 ((j : Int)))))), (43, .one (.d (.v (.bool ((decide (((p.length : Int) - ((takesL (l.getD j default).op).length : Int)) < 0) || !(all2 intEq (p.drop (((p.length : Int) - ((takesL (l.getD j default).op).length : Int)).toNat)) (takesL ((l.getD j default).op)))))))))] [([7], (k16 + 1 + 1, k16 + 1 + 1 + 1, .box [.d (.v (.int .i64 ((l.getD j default).op))), .d (.v (.int .i64 ((l.getD j default).n)))])), ([51], (q12, q13, .row 2 1 (List.map i64c (p))))]) [⟨[9], some 34, [], []⟩, ⟨[34], some 35, [], []⟩, ⟨[35], some 36, [], []⟩, ⟨[36, 5], some 37, [], []⟩, ⟨[36, 9], some 38, [], []⟩, ⟨[36, 37, 38], some 39, [[51]], []⟩, ⟨[36, 8], some 40, [], []⟩, ⟨[36, 39, 40], some 41, [[51]], []⟩, ⟨[36, 41], some 42, [], []⟩, ⟨[36, 42], some 43, [], []⟩] (fun k19 => ?_) ?_
    ·skip
     refine .move (.no rfl) rfl rfl rfl rfl <| .bin (.no rfl) rfl rfl rfl rfl rfl rfl <| .moveB (.no rfl) rfl rfl rfl rfl fun b20 g9_2 => ?_
     cases b20
     ·skip
      refine .move (.on rfl rfl rfl rfl rfl) rfl rfl rfl rfl <| .move (.on rfl rfl rfl rfl rfl) rfl rfl rfl rfl <| .slice (.on rfl rfl rfl rfl rfl) rfl (lv := ((p.length : Int) - ((takesL (l.getD j default).op).length : Int)).toNat) (hv := (List.map i64c (p)).length) (m := q13) t44 rfl t2 rfl rfl (.ref _ _ _ _ _ rfl) rfl (by intro _ _ h; cases h; exact ⟨_, .head _⟩) (by exact ⟨_, nat_iv (a := (p.length : Int) - ((takesL (l.getD j default).op).length : Int)) (by (first | omega | (have h9 := of_decide_eq_false g9_2; omega)))⟩) (by exact rfl) (le_map (by (first | omega | (have h9 := of_decide_eq_false g9_2; omega)))) (Nat.le_refl _) (cut_ref (L := p) i64c_e) rfl <| .move (.on rfl rfl rfl rfl rfl) rfl rfl rfl rfl ?_
      refine .call (.on rfl rfl rfl rfl rfl) rfl [[51]] [([51], (q12, q13, .row 2 1 (List.map i64c (p))))] (c_EqualN (p.drop (((p.length : Int) - ((takesL (l.getD j default).op).length : Int)).toNat)) (takesL ((l.getD j default).op))) rfl rfl rfl rfl rfl (.cons (Reads.view (.head _) (.head _)).gives (.dd .nil)) rfl rfl (fun _ => (ownCons (Owned.v _) ownNil)) (.own [41, 0] .nil) (.nil) rfl rfl rfl (AllH.get (.r rfl)) rfl rfl rfl <| .un (.on rfl rfl rfl rfl rfl) rfl rfl rfl rfl rfl <| .pick (.no rfl) rfl rfl rfl rfl rfl ?_
      exact .fin () (.of (.cons rfl (.cons rfl (.cons rfl (.cons rfl (.cons rfl (.cons rfl (.cons (svB (show (!(all2 intEq (p.drop (((p.length : Int) - ((takesL (l.getD j default).op).length : Int)).toNat)) (takesL ((l.getD j default).op)))) = ((decide (((p.length : Int) - ((takesL (l.getD j default).op).length : Int)) < 0) || !(all2 intEq (p.drop (((p.length : Int) - ((takesL (l.getD j default).op).length : Int)).toNat)) (takesL ((l.getD j default).op))))) by first | (simp only [g9_2, Bool.true_or, Bool.false_or, Bool.true_and, Bool.false_and, Bool.not_true, Bool.not_false]; done) | (simp [g9_2]; done) | (exfalso; simp_all; done))) .nil))))))) (.r rfl))
     ·skip
      refine .off rfl rfl rfl rfl rfl rfl rfl <| .off rfl rfl rfl rfl rfl rfl rfl <| .off rfl rfl rfl rfl rfl rfl rfl <| .off rfl rfl rfl rfl rfl rfl rfl <| .off rfl rfl rfl rfl rfl rfl rfl <| .off rfl rfl rfl rfl rfl rfl rfl <| .pick (.no rfl) rfl rfl rfl rfl rfl ?_
      exact .fin () (.of (.cons rfl (.cons rfl (.cons rfl (.cons rfl (.cons rfl (.cons rfl (.cons (svB (show (true) = ((decide (((p.length : Int) - ((takesL (l.getD j default).op).length : Int)) < 0) || !(all2 intEq (p.drop (((p.length : Int) - ((takesL (l.getD j default).op).length : Int)).toNat)) (takesL ((l.getD j default).op))))) by first | (simp only [g9_2, Bool.true_or, Bool.false_or, Bool.true_and, Bool.false_and, Bool.not_true, Bool.not_false]; done) | (simp [g9_2]; done) | (exfalso; simp_all; done))) .nil))))))) (.r rfl))
    intro _
    refine .cond (t := (decide (((p.length : Int) - ((takesL (l.getD j default).op).length : Int)) < 0) || !(all2 intEq (p.drop (((p.length : Int) - ((takesL (l.getD j default).op).length : Int)).toNat)) (takesL ((l.getD j default).op))))) rfl (fun c2 => ?_) (fun c2 => ?_)
    ·have c2 := (oT dT (nT id)) c2
     have hb : kdS d l (j + 1) = none := kd_noI hI.2 (ha j (by omega)) c2
     refine .seq <| .rs fun k21 => .as rfl <| .z <| .ret ?_
     exact fin0 (.inr rfl) (.one (svI (show (0) = (Expr.kind d l) by (rw [kind_none (by omega) hb]))) .nil) (.dd .nil) rfl
    ·have c2 := (oF dF (nF id)) c2
     refine .skip ?_
     refine .regD (X := Nat) (by kernel_rfl) (fun ζ => .of [(5, .one (.ref [51] (ζ))), (20, .one (.d (.sl false 75 2 (List.map Tok.c (l))))), (21, .one (.d (.v (.int .i64 ((l.length : Int)))))), (22, .one (.d (.v (.int .i64 ((j : Int))))))] [([51], (ζ, ζ, .row 2 1 (List.map i64c (p.take (((p.length : Int) - ((takesL (l.getD j default).op).length : Int)).toNat) ++ [leavesK ((l.getD j default).op)]))))]) [⟨[5], some 44, [], []⟩, ⟨[9], some 45, [], []⟩, ⟨[44, 45], some 46, [[51]], [[51]]⟩, ⟨[7], some 47, [], []⟩, ⟨[47], some 48, [[7]], []⟩, ⟨[48], some 49, [], []⟩, ⟨[49], some 50, [], [[50]]⟩, ⟨[46, 50], some 51, [[51], [50]], [[50], [51]]⟩, ⟨[51], some 5, [], []⟩] (by kernel_rfl) (fun k23 => ?_) ?_
     ·skip
      refine .move (.no rfl) rfl rfl rfl rfl <| .move (.no rfl) rfl rfl rfl rfl <| .trim (.no rfl) rfl (hv := ((p.length : Int) - ((takesL (l.getD j default).op).length : Int)).toNat) (els' := List.map i64c (p.take (((p.length : Int) - ((takesL (l.getD j default).op).length : Int)).toNat))) t44 rfl t2 rfl rfl rfl rfl (by exact ⟨_, nat_iv (a := (p.length : Int) - ((takesL (l.getD j default).op).length : Int)) (by (first | omega | (have h9 := of_decide_eq_false g9_2; omega)))⟩) (le_map (by (first | omega | (have h9 := of_decide_eq_false g9_2; omega)))) (by rw [List.map_take]) rfl <| .fieldAddrP (.no rfl) rfl t75 rfl rfl t2 rfl rfl rfl rfl <| .load (.no rfl) rfl t2 rfl rfl (.ptr _ _ _ _ _ rfl) rfl rfl rfl rfl ?_
      refine .call (.no rfl) rfl [] [] (c_leaves1 ((l.getD j default).op)) rfl rfl rfl rfl rfl (.dd .nil) rfl rfl (fun h => absurd rfl h) (.own [49, 0] .nil) (.nil) rfl rfl rfl (by simp) rfl rfl rfl <| .buildSlice (.no rfl) rfl (els := [[.v (.int .i64 (leavesK ((l.getD j default).op)))]]) t44 rfl z2 rfl rfl rfl rfl rfl rfl rfl rfl (by simp [i2]) (.cons _ _ _ _ _ _ (.d _) .nil) rfl rfl rfl <| .append (.no rfl) rfl (l3 := List.map i64c (p.take (((p.length : Int) - ((takesL (l.getD j default).op).length : Int)).toNat) ++ [leavesK ((l.getD j default).op)])) t44 rfl z2 rfl rfl rfl rfl rfl rfl rfl rfl (.ref _ _ _ _ rfl) (.take _ _ _ _ _ rfl) rfl (by first | (simp [i2]; omega) | (simp [i3]; omega)) (map_snoc _ _ _) rfl rfl <| .assign (.no rfl) rfl rfl rfl rfl ?_
      exact .fin (k23 + 1 + 1 + 1 + 1 + 1 + 1 + 1) (.of (.r rfl) (.r rfl))
     intro g24
     refine .rs fun k25 => .bi rfl <| .mv rfl <| .z ?_
     exact .here ((j + 1), (p.take ((p.length : Int) - ((takesL (l.getD j default).op).length : Int)).toNat ++ [leavesK (l.getD j default).op]), g24, g24) (.of (.cons rfl (.cons rfl (.cons rfl (.cons (svI (show (IntKind.wrap .i64 ((j : Int) + 1)) = (((j + 1) : Int)) by first | rfl | omega | exact wrap_le (by omega) (by omega) | (rw [wrap_le (by omega) (by omega)]; omega))) .nil)))) (.cons (rowE (show List.map i64c (p.take (((p.length : Int) - ((takesL (l.getD j default).op).length : Int)).toNat) ++ [leavesK ((l.getD j default).op)]) = List.map i64c ((p.take ((p.length : Int) - ((takesL (l.getD j default).op).length : Int)).toNat ++ [leavesK (l.getD j default).op])) by first | with_reducible rfl | rfl)) .nil)) ⟨(show (j + 1) ≤ l.length ∧ kdS d l (j + 1) = some (p.take ((p.length : Int) - ((takesL (l.getD j default).op).length : Int)).toNat ++ [leavesK (l.getD j default).op]) by exact ⟨by omega, kd_goI hI.2 (ha j (by omega)) c2⟩), (show l.length - (j + 1) < l.length - j by omega)⟩
   ·have c1 := of_decide_eq_false c1
    refine .exit <| .seq <| .seq <| .rs fun k26 => .mv rfl <| .g (fun _ τ => ⟨_, .len (.no rfl) rfl (z := (p.length : Int)) t44 rfl rfl rfl (.ref _ _ _ _ _ rfl) (map_len _ _) rfl τ⟩) <| .bi rfl <| .z ?_
    refine .cond (t := (p.length : Int) != 1) rfl (fun c3 => ?_) (fun c3 => ?_)
    ·have c3 := (by simpa using c3 : ¬ ((p.length : Int) = 1))
     refine .seq <| .rs fun k27 => .as rfl <| .z <| .ret ?_
     exact fin0 (.inr rfl) (.one (svI (show (0) = (Expr.kind d l) by (rw [kind_many (by omega) hI.2 (by omega)]))) .nil) (.dd .nil) rfl
    ·have c3 := (by simpa using c3 : (p.length : Int) = 1)
     refine .skip <| .seq <| .rs fun k29 => .mv rfl <| .g (fun _ τ => ⟨_, .indexAddr (.no rfl) rfl (0) t44 rfl t2 rfl rfl rfl (.ref _ _ _ _ _ rfl) rfl rfl rfl (map_get (by omega)) rfl rfl τ⟩) <| .ld t2 rfl (.eptr _ _ _ _ _ _ _ _ _ rfl (map_get (by omega))) rfl <| .as rfl <| .z <| .ret ?_
     exact fin0 (.inr rfl) (.one (svI (show (p.getD 0 default) = (Expr.kind d l) by (rw [kind_one (by omega) (by omega) hI.2 (by omega)]))) .nil) (.dd .nil) rfl
end Go.Proofs
